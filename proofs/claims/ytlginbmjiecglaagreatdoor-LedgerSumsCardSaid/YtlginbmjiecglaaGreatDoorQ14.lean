/- Texts of one claim, put together. -/
import Derived.Test.YtlginbmjiecglaaGreatDoorQ13
namespace Go.Proofs.YtlginbmjiecglaaGreatDoor
section
open Go Go.Abs Go.Proofs.YtlginbmjiecglaaGreatDoor.T
set_option maxRecDepth 10000
theorem i0 {H:FuncId->Option (List AV->Mem->R)} {g:List AV->CM} {k:Nat} (h:T.OkG H g k) (n:∀_:Unit,g []≠.fail) (m:Mem):(T.Rl H).gor k [] m=q0k (T.Rl H) (g []) m:=(h _ m).resolve_right (n ())
theorem j0 {H:FuncId->Option (List AV->Mem->R)} {g:List AV->CM} {k:Nat} (h:T.OkF H g k) (n:∀_:Unit,g []≠.fail) (m:Mem):run (T.EH H) (.fn k) [] m=q0k (T.Rl H) (g []) m:=(h _ m).resolve_right (n ())
theorem i1 {H:FuncId->Option (List AV->Mem->R)} {g:List AV->CM} {k:Nat} (h:T.OkG H g k) (n:∀u:AV,g [u]≠.fail) (u:AV) (m:Mem):(T.Rl H).gor k [u] m=q0k (T.Rl H) (g [u]) m:=(h _ m).resolve_right (n _)
theorem j1 {H:FuncId->Option (List AV->Mem->R)} {g:List AV->CM} {k:Nat} (h:T.OkF H g k) (n:∀u:AV,g [u]≠.fail) (u:AV) (m:Mem):run (T.EH H) (.fn k) [u] m=q0k (T.Rl H) (g [u]) m:=(h _ m).resolve_right (n _)
theorem i2 {H:FuncId->Option (List AV->Mem->R)} {g:List AV->CM} {k:Nat} (h:T.OkG H g k) (n:∀u v:AV,g [u,v]≠.fail) (u v:AV) (m:Mem):(T.Rl H).gor k [u,v] m=q0k (T.Rl H) (g [u,v]) m:=(h _ m).resolve_right (n _ _)
theorem j2 {H:FuncId->Option (List AV->Mem->R)} {g:List AV->CM} {k:Nat} (h:T.OkF H g k) (n:∀u v:AV,g [u,v]≠.fail) (u v:AV) (m:Mem):run (T.EH H) (.fn k) [u,v] m=q0k (T.Rl H) (g [u,v]) m:=(h _ m).resolve_right (n _ _)
theorem i3 {H:FuncId->Option (List AV->Mem->R)} {g:List AV->CM} {k:Nat} (h:T.OkG H g k) (n:∀u v w:AV,g [u,v,w]≠.fail) (u v w:AV) (m:Mem):(T.Rl H).gor k [u,v,w] m=q0k (T.Rl H) (g [u,v,w]) m:=(h _ m).resolve_right (n _ _ _)
theorem j3 {H:FuncId->Option (List AV->Mem->R)} {g:List AV->CM} {k:Nat} (h:T.OkF H g k) (n:∀u v w:AV,g [u,v,w]≠.fail) (u v w:AV) (m:Mem):run (T.EH H) (.fn k) [u,v,w] m=q0k (T.Rl H) (g [u,v,w]) m:=(h _ m).resolve_right (n _ _ _)
theorem i4 {H:FuncId->Option (List AV->Mem->R)} {g:List AV->CM} {k:Nat} (h:T.OkG H g k) (n:∀u v w x:AV,g [u,v,w,x]≠.fail) (u v w x:AV) (m:Mem):(T.Rl H).gor k [u,v,w,x] m=q0k (T.Rl H) (g [u,v,w,x]) m:=(h _ m).resolve_right (n _ _ _ _)
theorem j4 {H:FuncId->Option (List AV->Mem->R)} {g:List AV->CM} {k:Nat} (h:T.OkF H g k) (n:∀u v w x:AV,g [u,v,w,x]≠.fail) (u v w x:AV) (m:Mem):run (T.EH H) (.fn k) [u,v,w,x] m=q0k (T.Rl H) (g [u,v,w,x]) m:=(h _ m).resolve_right (n _ _ _ _)
theorem i5 {H:FuncId->Option (List AV->Mem->R)} {g:List AV->CM} {k:Nat} (h:T.OkG H g k) (n:∀u v w x y:AV,g [u,v,w,x,y]≠.fail) (u v w x y:AV) (m:Mem):(T.Rl H).gor k [u,v,w,x,y] m=q0k (T.Rl H) (g [u,v,w,x,y]) m:=(h _ m).resolve_right (n _ _ _ _ _)
theorem j5 {H:FuncId->Option (List AV->Mem->R)} {g:List AV->CM} {k:Nat} (h:T.OkF H g k) (n:∀u v w x y:AV,g [u,v,w,x,y]≠.fail) (u v w x y:AV) (m:Mem):run (T.EH H) (.fn k) [u,v,w,x,y] m=q0k (T.Rl H) (g [u,v,w,x,y]) m:=(h _ m).resolve_right (n _ _ _ _ _)
theorem i6 {H:FuncId->Option (List AV->Mem->R)} {g:List AV->CM} {k:Nat} (h:T.OkG H g k) (n:∀u v w x y z:AV,g [u,v,w,x,y,z]≠.fail) (u v w x y z:AV) (m:Mem):(T.Rl H).gor k [u,v,w,x,y,z] m=q0k (T.Rl H) (g [u,v,w,x,y,z]) m:=(h _ m).resolve_right (n _ _ _ _ _ _)
theorem j6 {H:FuncId->Option (List AV->Mem->R)} {g:List AV->CM} {k:Nat} (h:T.OkF H g k) (n:∀u v w x y z:AV,g [u,v,w,x,y,z]≠.fail) (u v w x y z:AV) (m:Mem):run (T.EH H) (.fn k) [u,v,w,x,y,z] m=q0k (T.Rl H) (g [u,v,w,x,y,z]) m:=(h _ m).resolve_right (n _ _ _ _ _ _)
variable {H:FuncId->Option (List AV->Mem->R)}
theorem a1v:IG3 H b2m 24576:=gk3 fun _ _ _ _=>by kernel_rfl
theorem z3t:IG5 H b1a 24577:=gk5 fun _ _ _ _ _ _=>by kernel_rfl
theorem j1A:IG5 H b1x 24578:=gk5 fun _ _ _ _ _ _=>by kernel_rfl
theorem a1w:IG5 H b2n 24579:=gk5 fun _ _ _ _ _ _=>by kernel_rfl
theorem j1B:IG0 H b1y 24580:=gk0 fun _=>by kernel_rfl
theorem b1u (h:H 6=none):IF3 H f6 6:=fk3 h rfl fun _ _ _ _=>by kernel_rfl
theorem b1v (h:H 8=none):IF1 H f8 8:=fk1 h rfl fun _ _=>by kernel_rfl
theorem q9Y:IG4 H a8Y 36864:=gk4 fun _ _ _ _ _=>by kernel_rfl
theorem q3E:IG4 H j3k 36865:=gk4 fun _ _ _ _ _=>by kernel_rfl
theorem a1I:IG4 H b2o 36866:=gk4 fun _ _ _ _ _=>by kernel_rfl
theorem a1J:IG2 H b2p 36867:=gk2 fun _ _ _=>by kernel_rfl
theorem b1w (h:H 9=none):IF2 H f9 9:=fk2 h rfl fun _ _ _=>by kernel_rfl
theorem z4J:IG1 H a0L 40960:=gk1 fun _ _=>by kernel_rfl
theorem a5m (h:H 10=none):IF2 H f10 10:=fk2 h rfl fun _ _ _=>by kernel_rfl
theorem j3P:IG2 H a7c 49152:=gk2 fun _ _ _=>by kernel_rfl
theorem j3Q:IG2 H a7d 49153:=gk2 fun _ _ _=>by kernel_rfl
theorem z4L:IG5 H a0M 49154:=gk5 fun _ _ _ _ _ _=>by kernel_rfl
theorem j3R:IG5 H a7e 49155:=gk5 fun _ _ _ _ _ _=>by kernel_rfl
theorem j3S:IG5 H a7f 49156:=gk5 fun _ _ _ _ _ _=>by kernel_rfl
theorem j3T:IG2 H a7g 49157:=gk2 fun _ _ _=>by kernel_rfl
theorem z4M:IG5 H a0N 49158:=gk5 fun _ _ _ _ _ _=>by kernel_rfl
theorem j3U:IG5 H a7h 49159:=gk5 fun _ _ _ _ _ _=>by kernel_rfl
theorem j3V:IG5 H a7i 49160:=gk5 fun _ _ _ _ _ _=>by kernel_rfl
theorem j3W:IG2 H a7j 49161:=gk2 fun _ _ _=>by kernel_rfl
theorem z1j:IG5 H j0f 49162:=gk5 fun _ _ _ _ _ _=>by kernel_rfl
theorem j0g:IG5 H j8f 49163:=gk5 fun _ _ _ _ _ _=>by kernel_rfl
theorem j0h:IG5 H j8g 49164:=gk5 fun _ _ _ _ _ _=>by kernel_rfl
theorem j0i:IG2 H j8h 49165:=gk2 fun _ _ _=>by kernel_rfl
theorem a5n (h:H 12=none):IF2 H f12 12:=fk2 h rfl fun _ _ _=>by kernel_rfl
theorem j6j (h:H 13=some (q7B (.bool true))) (m:Mem):run (T.EH H) (.fn 13) [] m=some (.bool true,m):=q08 (h:=q7B (.bool true)) h [] m
theorem j3Y:IG1 H a7l 57344:=gk1 fun _ _=>by kernel_rfl
theorem z4P:IG4 H a0O 57345:=gk4 fun _ _ _ _ _=>by kernel_rfl
theorem q3b:IG4 H q9E 57346:=gk4 fun _ _ _ _ _=>by kernel_rfl
theorem j3Z:IG4 H a7m 57347:=gk4 fun _ _ _ _ _=>by kernel_rfl
theorem q9F:IG1 H j30 57348:=gk1 fun _ _=>by kernel_rfl
theorem j31:IG1 H a7n 57349:=gk1 fun _ _=>by kernel_rfl
theorem q9G:IG4 H j32 57350:=gk4 fun _ _ _ _ _=>by kernel_rfl
theorem z4Q:IG4 H a0P 57351:=gk4 fun _ _ _ _ _=>by kernel_rfl
theorem j33:IG4 H a7o 57352:=gk4 fun _ _ _ _ _=>by kernel_rfl
theorem j34:IG0 H a7p 57353:=gk0 fun _=>by kernel_rfl
theorem z03 (h:H 14=none):IF2 H f14 14:=fk2 h rfl fun _ _ _=>by kernel_rfl
theorem j35:IG2 H a7q 61440:=gk2 fun _ _ _=>by kernel_rfl
theorem z4R:IG3 H a0Q 61441:=gk3 fun _ _ _ _=>by kernel_rfl
theorem j36:IG3 H a7r 61442:=gk3 fun _ _ _ _=>by kernel_rfl
theorem j37:IG3 H a7s 61443:=gk3 fun _ _ _ _=>by kernel_rfl
theorem j38:IG2 H a7t 61444:=gk2 fun _ _ _=>by kernel_rfl
theorem z4S:IG3 H a0R 61445:=gk3 fun _ _ _ _=>by kernel_rfl
theorem j39:IG3 H a7u 61446:=gk3 fun _ _ _ _=>by kernel_rfl
theorem j4a:IG3 H a7v 61447:=gk3 fun _ _ _ _=>by kernel_rfl
theorem j4b:IG2 H a7w 61448:=gk2 fun _ _ _=>by kernel_rfl
theorem z4T:IG3 H a0S 61449:=gk3 fun _ _ _ _=>by kernel_rfl
theorem j0N:IG3 H j8z 61450:=gk3 fun _ _ _ _=>by kernel_rfl
theorem j0O:IG3 H j8A 61451:=gk3 fun _ _ _ _=>by kernel_rfl
theorem j0P:IG0 H j8B 61452:=gk0 fun _=>by kernel_rfl
theorem a5p (h:H 15=none):IF2 H f15 15:=fk2 h rfl fun _ _ _=>by kernel_rfl
theorem j4c:b1l H a7x 65536:=b2q fun _ _ _ _ _ _ _ _ _ _ _=>by kernel_rfl
theorem j4d:IG7 H a7y 65538:=gk7 fun _ _ _ _ _ _ _ _=>by kernel_rfl
theorem j4e:IG8 H a7z 65539:=gk8 fun _ _ _ _ _ _ _ _ _=>by kernel_rfl
theorem j4f:IG5 H a7A 65541:=gk5 fun _ _ _ _ _ _=>by kernel_rfl
theorem j4g:IG5 H a7B 65542:=gk5 fun _ _ _ _ _ _=>by kernel_rfl
theorem j4h:IG2 H a7C 65544:=gk2 fun _ _ _=>by kernel_rfl
theorem q99 (t0 t2 t3 u3 t7 t9 u6 u7 t34 t47:AV) (m:Mem):(T.Rl H).afr 65536 none [t0,t2,t3,u3,t7,t9,u6,u7,t34,t47] m=q0k (T.Rl H) (q6m [t0,t2,t3,u3,t7,t9,u6,u7,t34,t47]) m:=(z0a (H:=H) [t0,t2,t3,u3,t7,t9,u6,u7,t34,t47] m).resolve_right nofun
theorem z0b (t0 t2 t3 u3 t9 u5 u6 t47:AV) (m:Mem):(T.Rl H).afr 65537 none [t0,t2,t3,u3,t9,u5,u6,t47] m=q0k (T.Rl H) (q6n [t0,t2,t3,u3,t9,u5,u6,t47]) m:=(z0c (H:=H) [t0,t2,t3,u3,t9,u5,u6,t47] m).resolve_right nofun
theorem z0d (t2 t3 u2 u3 u4:AV) (m:Mem):(T.Rl H).afr 65538 none [t2,t3,u2,u3,u4] m=q0k (T.Rl H) (q6o [t2,t3,u2,u3,u4]) m:=(z0e (H:=H) [t2,t3,u2,u3,u4] m).resolve_right nofun
theorem a5q (h:H 16=none):IF1 H f16 16:=fk1 h rfl fun _ _=>by kernel_rfl
theorem j4i:IG3 H a7D 69632:=gk3 fun _ _ _ _=>by kernel_rfl
theorem j7o (h:H 17=none):IF2 H f17 17:=fk2 h rfl fun _ _ _=>by kernel_rfl
theorem q64:IG5 H j1i 77824:=gk5 fun _ _ _ _ _ _=>by kernel_rfl
theorem q65:IG5 H j1j 77825:=gk5 fun _ _ _ _ _ _=>by kernel_rfl
theorem q66:IG4 H j1k 77826:=gk4 fun _ _ _ _ _=>by kernel_rfl
theorem q67:IG1 H j1l 77827:=gk1 fun _ _=>by kernel_rfl
theorem a5s (h:H 19=none):IF4 H f19 19:=fk4 h rfl fun _ _ _ _ _=>by kernel_rfl
theorem z4W:IG0 H a0T 81920:=gk0 fun _=>by kernel_rfl
theorem a5t (h:H 20=none):IF2 H f20 20:=fk2 h rfl fun _ _ _=>by kernel_rfl
abbrev j4j:=i3 (z4X (H:=H)) fun _ _ _=>nofun
abbrev a5u (h:H 21=none):=j2 (j7p h) fun _ _=>nofun
abbrev j4k:=i3 (z4Y (H:=H)) fun _ _ _=>nofun
abbrev a5v (h:H 22=none):=j2 (j7q h) fun _ _=>nofun
theorem q5C:IG2 H z7s 94208:=gk2 fun _ _ _=>by kernel_rfl
theorem q4U (h:H 23=none):IF3 H f23 23:=fk3 h rfl fun _ _ _ _=>by kernel_rfl
theorem z4Z:IG3 H a0W 98304:=gk3 fun _ _ _ _=>by kernel_rfl
theorem z5a:IG2 H a0X 98305:=gk2 fun _ _ _=>by kernel_rfl
theorem j4l:IG2 H a7E 98306:=gk2 fun _ _ _=>by kernel_rfl
theorem j7s (h:H 24=none):IF2 H f24 24:=fk2 h rfl fun _ _ _=>by kernel_rfl
theorem z5b:IG2 H a0Y 102400:=gk2 fun _ _ _=>by kernel_rfl
theorem j4m:IG2 H a7F 102401:=gk2 fun _ _ _=>by kernel_rfl
theorem q9H:IG5 H j4n 102402:=gk5 fun _ _ _ _ _ _=>by kernel_rfl
theorem z5c:IG5 H a0Z 102403:=gk5 fun _ _ _ _ _ _=>by kernel_rfl
theorem j4o:IG5 H a7G 102404:=gk5 fun _ _ _ _ _ _=>by kernel_rfl
theorem j4p:IG4 H a7H 102405:=gk4 fun _ _ _ _ _=>by kernel_rfl
theorem q9I:IG5 H j4q 102406:=gk5 fun _ _ _ _ _ _=>by kernel_rfl
theorem z5d:IG5 H a00 102407:=gk5 fun _ _ _ _ _ _=>by kernel_rfl
theorem z5e:IG5 H a01 102408:=gk5 fun _ _ _ _ _ _=>by kernel_rfl
theorem j4r:IG5 H a7I 102409:=gk5 fun _ _ _ _ _ _=>by kernel_rfl
theorem z1K:IG3 H j1m 102410:=gk3 fun _ _ _ _=>by kernel_rfl
theorem j1n:IG2 H j8X 102411:=gk2 fun _ _ _=>by kernel_rfl
theorem j1o:IG0 H j8Y 102412:=gk0 fun _=>by kernel_rfl
theorem a5w (h:H 25=none):IF1 H f25 25:=fk1 h rfl fun _ _=>by kernel_rfl
theorem q5D:IG2 H z7t 106496:=gk2 fun _ _ _=>by kernel_rfl
theorem z04 (h:H 26=none):IF1 H f26 26:=fk1 h rfl fun _ _=>by kernel_rfl
theorem j4s:IG3 H a7J 110592:=gk3 fun _ _ _ _=>by kernel_rfl
theorem q9J:IG4 H j4t 110593:=gk4 fun _ _ _ _ _=>by kernel_rfl
theorem j4u:IG4 H a7K 110594:=gk4 fun _ _ _ _ _=>by kernel_rfl
theorem j4v:IG4 H a7L 110595:=gk4 fun _ _ _ _ _=>by kernel_rfl
theorem z05 (h:H 27=none):IF3 H f27 27:=fk3 h rfl fun _ _ _ _=>by kernel_rfl
theorem q9K:IG2 H j4w 114688:=gk2 fun _ _ _=>by kernel_rfl
theorem j4x:IG2 H a7M 114689:=gk2 fun _ _ _=>by kernel_rfl
theorem z4A (h:H 28=none):IF2 H f28 28:=fk2 h rfl fun _ _ _=>by kernel_rfl
theorem q68:IG3 H j1p 118784:=gk3 fun _ _ _ _=>by kernel_rfl
theorem q9L:IG3 H j4y 118785:=gk3 fun _ _ _ _=>by kernel_rfl
theorem j4z:IG5 H a7N 118786:=gk5 fun _ _ _ _ _ _=>by kernel_rfl
theorem z06 (h:H 29=none):IF3 H f29 29:=fk3 h rfl fun _ _ _ _=>by kernel_rfl
theorem a5x (h:H 30=none):IF3 H f30 30:=fk3 h rfl fun _ _ _ _=>by kernel_rfl
theorem q69:IG3 H j1q 126976:=gk3 fun _ _ _ _=>by kernel_rfl
theorem q9M:IG3 H j4A 126977:=gk3 fun _ _ _ _=>by kernel_rfl
theorem z5f:IG4 H a02 126978:=gk4 fun _ _ _ _ _=>by kernel_rfl
theorem j4B:IG5 H a7O 126979:=gk5 fun _ _ _ _ _ _=>by kernel_rfl
theorem z07 (h:H 31=none):IF3 H f31 31:=fk3 h rfl fun _ _ _ _=>by kernel_rfl
theorem q4w:IG4 H z3l 131072:=gk4 fun _ _ _ _ _=>by kernel_rfl
theorem q5E:IG4 H z7u 131073:=gk4 fun _ _ _ _ _=>by kernel_rfl
theorem q7a:IG4 H j1r 131074:=gk4 fun _ _ _ _ _=>by kernel_rfl
theorem q9N:IG4 H j4C 131075:=gk4 fun _ _ _ _ _=>by kernel_rfl
theorem z5g:IG4 H a03 131076:=gk4 fun _ _ _ _ _=>by kernel_rfl
theorem j4D:IG5 H a7P 131077:=gk5 fun _ _ _ _ _ _=>by kernel_rfl
theorem q6G (h:H 32=none):IF4 H f32 32:=fk4 h rfl fun _ _ _ _ _=>by kernel_rfl
theorem q7b:IG4 H j1s 135168:=gk4 fun _ _ _ _ _=>by kernel_rfl
theorem q9O:IG4 H j4E 135169:=gk4 fun _ _ _ _ _=>by kernel_rfl
theorem z5h:IG4 H a04 135170:=gk4 fun _ _ _ _ _=>by kernel_rfl
theorem j4F:IG4 H a7Q 135171:=gk4 fun _ _ _ _ _=>by kernel_rfl
theorem q5F:IG5 H z7v 135172:=gk5 fun _ _ _ _ _ _=>by kernel_rfl
theorem j4G:IG5 H a7R 135173:=gk5 fun _ _ _ _ _ _=>by kernel_rfl
theorem j4H:IG5 H a7S 135174:=gk5 fun _ _ _ _ _ _=>by kernel_rfl
theorem q8R (h:H 33=none):IF4 H f33 33:=fk4 h rfl fun _ _ _ _ _=>by kernel_rfl
theorem z5i:IG5 H a05 139264:=gk5 fun _ _ _ _ _ _=>by kernel_rfl
theorem q5G:IG7 H z7w 139265:=gk7 fun _ _ _ _ _ _ _ _=>by kernel_rfl
theorem q7c:IG8 H j1t 139266:=gk8 fun _ _ _ _ _ _ _ _ _=>by kernel_rfl
theorem q9P:IG7 H j4I 139267:=gk7 fun _ _ _ _ _ _ _ _=>by kernel_rfl
theorem z5j:IG7 H a06 139268:=gk7 fun _ _ _ _ _ _ _ _=>by kernel_rfl
theorem q7d:IG7 H j1u 139269:=gk7 fun _ _ _ _ _ _ _ _=>by kernel_rfl
theorem j4J:b1l H a7T 139270:=b2q fun _ _ _ _ _ _ _ _ _ _ _=>by kernel_rfl
theorem z4B (h:H 34=none):IF4 H f34 34:=fk4 h rfl fun _ _ _ _ _=>by kernel_rfl
theorem j4K:IG1 H a7U 143360:=gk1 fun _ _=>by kernel_rfl
theorem q7e:IG2 H j1v 143361:=gk2 fun _ _ _=>by kernel_rfl
theorem q9Q:IG2 H j4L 143362:=gk2 fun _ _ _=>by kernel_rfl
theorem q9R:IG2 H j4M 143363:=gk2 fun _ _ _=>by kernel_rfl
theorem j4N:IG0 H a7V 143364:=gk0 fun _=>by kernel_rfl
theorem j7t (h:H 35=none):IF1 H f35 35:=fk1 h rfl fun _ _=>by kernel_rfl
theorem z5k:IG3 H a07 147456:=gk3 fun _ _ _ _=>by kernel_rfl
theorem j4O:IG3 H a7W 147457:=gk3 fun _ _ _ _=>by kernel_rfl
theorem j4P:IG3 H a7X 147458:=gk3 fun _ _ _ _=>by kernel_rfl
theorem j4Q:IG0 H a7Y 147459:=gk0 fun _=>by kernel_rfl
theorem a5y (h:H 36=none):IF2 H f36 36:=fk2 h rfl fun _ _ _=>by kernel_rfl
theorem q9S:IG1 H j4R 151552:=gk1 fun _ _=>by kernel_rfl
theorem j4S:IG0 H a7Z 151553:=gk0 fun _=>by kernel_rfl
theorem z4C (h:H 37=none):IF1 H f37 37:=fk1 h rfl fun _ _=>by kernel_rfl
abbrev j4T:=i1 (z5l (H:=H)) fun _=>nofun
abbrev a5z (h:H 38=none):=j1 (j7u h) fun _=>nofun
abbrev z5m:=i0 (z5n (H:=H)) fun _=>nofun
abbrev z9G (h:H 39=none):=j3 (j7v h) fun _ _ _=>nofun
theorem z5o:IG0 H a09 163840:=gk0 fun _=>by kernel_rfl
theorem z9H (h:H 40=none):IF3 H f40 40:=fk3 h rfl fun _ _ _ _=>by kernel_rfl
abbrev z5p:=i0 (z5q (H:=H)) fun _=>nofun
abbrev z9I (h:H 41=none):=j3 (j7w h) fun _ _ _=>nofun
abbrev j4W:=i0 (z5r (H:=H)) fun _=>nofun
abbrev j7x (h:H 42=none):=j3 (j7y h) fun _ _ _=>nofun
abbrev j4X:=i2 (z5s (H:=H)) fun _ _=>nofun
abbrev j4Y:=i2 (z5t (H:=H)) fun _ _=>nofun
abbrev a5A (h:H 43=none):=j2 (j7z h) fun _ _=>nofun
abbrev q5H:=i5 (z5u (H:=H)) fun _ _ _ _ _=>nofun
abbrev q5I:=i4 (z5v (H:=H)) fun _ _ _ _=>nofun
abbrev q5J:=i1 (z5w (H:=H)) fun _=>nofun
abbrev z08 (h:H 44=none):=j3 (j7A h) fun _ _ _=>nofun
abbrev j4Z:=i2 (z5x (H:=H)) fun _ _=>nofun
abbrev j7B (h:H 45=none):=j2 (j7C h) fun _ _=>nofun
abbrev z5y:=i2 (z5z (H:=H)) fun _ _=>nofun
abbrev j41:=i2 (z5A (H:=H)) fun _ _=>nofun
abbrev j42:=i2 (z5B (H:=H)) fun _ _=>nofun
abbrev j43:=i1 (z5C (H:=H)) fun _=>nofun
abbrev a5B (h:H 46=none):=j1 (j7D h) fun _=>nofun
theorem q5K:IG4 H z7x 192512:=gk4 fun _ _ _ _ _=>by kernel_rfl
theorem q7f:IG4 H j1w 192513:=gk4 fun _ _ _ _ _=>by kernel_rfl
theorem q3c:IG6 H q9T 192514:=gk6 fun _ _ _ _ _ _ _=>by kernel_rfl
theorem j44:IG4 H a8a 192515:=gk4 fun _ _ _ _ _=>by kernel_rfl
theorem j45:IG0 H a8b 192516:=gk0 fun _=>by kernel_rfl
theorem a5C (h:H 47=none):IF1 H f47 47:=fk1 h rfl fun _ _=>by kernel_rfl
theorem z5D:IG5 H a1h 196608:=gk5 fun _ _ _ _ _ _=>by kernel_rfl
theorem q5L:IG5 H z7y 196609:=gk5 fun _ _ _ _ _ _=>by kernel_rfl
theorem j46:IG5 H a8c 196610:=gk5 fun _ _ _ _ _ _=>by kernel_rfl
theorem j47:IG5 H a8d 196611:=gk5 fun _ _ _ _ _ _=>by kernel_rfl
theorem j48:IG1 H a8e 196612:=gk1 fun _ _=>by kernel_rfl
theorem a5D (h:H 48=none):IF1 H f48 48:=fk1 h rfl fun _ _=>by kernel_rfl
theorem z5E:IG6 H a1i 200704:=gk6 fun _ _ _ _ _ _ _=>by kernel_rfl
theorem z5F:IG6 H a1j 200705:=gk6 fun _ _ _ _ _ _ _=>by kernel_rfl
theorem j49:IG6 H a8f 200706:=gk6 fun _ _ _ _ _ _ _=>by kernel_rfl
theorem j5a:IG3 H a8g 200707:=gk3 fun _ _ _ _=>by kernel_rfl
theorem z5G:IG5 H a1k 200708:=gk5 fun _ _ _ _ _ _=>by kernel_rfl
theorem z5H:IG5 H a1l 200709:=gk5 fun _ _ _ _ _ _=>by kernel_rfl
theorem z5I:IG6 H a1m 200710:=gk6 fun _ _ _ _ _ _ _=>by kernel_rfl
theorem j5b:IG5 H a8h 200711:=gk5 fun _ _ _ _ _ _=>by kernel_rfl
theorem j5c:IG1 H a8i 200712:=gk1 fun _ _=>by kernel_rfl
theorem a5E (h:H 49=none):IF2 H f49 49:=fk2 h rfl fun _ _ _=>by kernel_rfl
theorem a5F (h:H 50=none):IF1 H f50 50:=fk1 h rfl fun _ _=>by kernel_rfl
theorem a5G (h:H 51=none):IF1 H f51 51:=fk1 h rfl fun _ _=>by kernel_rfl
theorem a5H (h:H 52=none):IF1 H f52 52:=fk1 h rfl fun _ _=>by kernel_rfl
abbrev j5d:=i4 (z5J (H:=H)) fun _ _ _ _=>nofun
abbrev j7E (h:H 53=none):=j2 (j7F h) fun _ _=>nofun
abbrev a5I (h:H 54=none):=j1 (j7G h) fun _=>nofun
abbrev j5e:=i0 (z5K (H:=H)) fun _=>nofun
abbrev z9J (h:H 55=none):=j2 (j7H h) fun _ _=>nofun
theorem a5J (h:H 56=none):IF2 H f56 56:=fk2 h rfl fun _ _ _=>by kernel_rfl
abbrev q9U:=i4 (z5L (H:=H)) fun _ _ _ _=>nofun
abbrev q5q (h:H 57=none):=j3 (j7I h) fun _ _ _=>nofun
abbrev a5K (h:H 58=none):=j2 (j7J h) fun _ _=>nofun
theorem q4x:IG5 H z3p 249856:=gk5 fun _ _ _ _ _ _=>by kernel_rfl
theorem q4y:IG5 H z3q 249857:=gk5 fun _ _ _ _ _ _=>by kernel_rfl
theorem q4A:IG4 H z3r 249858:=gk4 fun _ _ _ _ _=>by kernel_rfl
theorem q4B:IG1 H z3s 249859:=gk1 fun _ _=>by kernel_rfl
theorem q8S (h:H 61=none):IF3 H f61 61:=fk3 h rfl fun _ _ _ _=>by kernel_rfl
theorem z5M:IG4 H a1p 253952:=gk4 fun _ _ _ _ _=>by kernel_rfl
theorem j5f:IG4 H a8j 253953:=gk4 fun _ _ _ _ _=>by kernel_rfl
theorem z09 (h:H 62=none):IF4 H f62 62:=fk4 h rfl fun _ _ _ _ _=>by kernel_rfl
theorem q9V:IG8 H j5g 258048:=gk8 fun _ _ _ _ _ _ _ _ _=>by kernel_rfl
theorem z5N:IG8 H a1q 258049:=gk8 fun _ _ _ _ _ _ _ _ _=>by kernel_rfl
theorem q7g:IG8 H j1y 258050:=gk8 fun _ _ _ _ _ _ _ _ _=>by kernel_rfl
theorem q7h:IG7 H j1z 258051:=gk7 fun _ _ _ _ _ _ _ _=>by kernel_rfl
theorem z5O:IG7 H a1r 258052:=gk7 fun _ _ _ _ _ _ _ _=>by kernel_rfl
theorem j5h:IG6 H a8k 258053:=gk6 fun _ _ _ _ _ _ _=>by kernel_rfl
theorem a5L (h:H 63=none):IF4 H f63 63:=fk4 h rfl fun _ _ _ _ _=>by kernel_rfl
theorem j5i:IG3 H a8l 262144:=gk3 fun _ _ _ _=>by kernel_rfl
theorem j7K (h:H 64=none):IF2 H f64 64:=fk2 h rfl fun _ _ _=>by kernel_rfl
theorem j5j:IG3 H a8m 266240:=gk3 fun _ _ _ _=>by kernel_rfl
theorem j7L (h:H 65=none):IF2 H f65 65:=fk2 h rfl fun _ _ _=>by kernel_rfl
theorem j5k:IG3 H a8n 270336:=gk3 fun _ _ _ _=>by kernel_rfl
theorem z4D (h:H 66=none):IF3 H f66 66:=fk3 h rfl fun _ _ _ _=>by kernel_rfl
theorem z5P:IG4 H a1s 274432:=gk4 fun _ _ _ _ _=>by kernel_rfl
theorem j5l:IG4 H a8o 274433:=gk4 fun _ _ _ _ _=>by kernel_rfl
theorem z4E (h:H 67=none):IF3 H f67 67:=fk3 h rfl fun _ _ _ _=>by kernel_rfl
theorem j5m:IG4 H a8p 278528:=gk4 fun _ _ _ _ _=>by kernel_rfl
theorem z9K (h:H 68=none):IF1 H f68 68:=fk1 h rfl fun _ _=>by kernel_rfl
theorem z5Q:IG3 H a1t 282624:=gk3 fun _ _ _ _=>by kernel_rfl
theorem z5R:IG3 H a1u 282625:=gk3 fun _ _ _ _=>by kernel_rfl
theorem j7M (h:H 69=none):IF2 H f69 69:=fk2 h rfl fun _ _ _=>by kernel_rfl
theorem a5M (h:H 70=none):IF1 H f70 70:=fk1 h rfl fun _ _=>by kernel_rfl
theorem z5S:IG3 H a1x 290816:=gk3 fun _ _ _ _=>by kernel_rfl
theorem j5n:IG3 H a8q 290817:=gk3 fun _ _ _ _=>by kernel_rfl
theorem j5o:IG3 H a8r 290818:=gk3 fun _ _ _ _=>by kernel_rfl
theorem j5p:IG0 H a8s 290819:=gk0 fun _=>by kernel_rfl
theorem a5N (h:H 71=none):IF2 H f71 71:=fk2 h rfl fun _ _ _=>by kernel_rfl
theorem q9W:IG1 H j5q 294912:=gk1 fun _ _=>by kernel_rfl
theorem j5r:IG0 H a8t 294913:=gk0 fun _=>by kernel_rfl
theorem z4F (h:H 72=none):IF3 H f72 72:=fk3 h rfl fun _ _ _ _=>by kernel_rfl
theorem a5O (h:H 73=none):IF2 H f73 73:=fk2 h rfl fun _ _ _=>by kernel_rfl
theorem a5P (h:H 74=none):IF2 H f74 74:=fk2 h rfl fun _ _ _=>by kernel_rfl
theorem a5Q (h:H 75=none):IF2 H f75 75:=fk2 h rfl fun _ _ _=>by kernel_rfl
theorem z5T:IG4 H a1y 311296:=gk4 fun _ _ _ _ _=>by kernel_rfl
theorem j5s:IG4 H a8u 311297:=gk4 fun _ _ _ _ _=>by kernel_rfl
theorem j5t:IG4 H a8v 311298:=gk4 fun _ _ _ _ _=>by kernel_rfl
theorem j5u:IG0 H a8w 311299:=gk0 fun _=>by kernel_rfl
theorem a5R (h:H 76=none):IF3 H f76 76:=fk3 h rfl fun _ _ _ _=>by kernel_rfl
theorem q7i:IG4 H j1C 315392:=gk4 fun _ _ _ _ _=>by kernel_rfl
theorem z5U:IG4 H a1z 315393:=gk4 fun _ _ _ _ _=>by kernel_rfl
theorem z5V:IG4 H a1A 315394:=gk4 fun _ _ _ _ _=>by kernel_rfl
theorem q7J (h:H 77=none):IF3 H f77 77:=fk3 h rfl fun _ _ _ _=>by kernel_rfl
theorem j7N (h:H 78=none):IF1 H f78 78:=fk1 h rfl fun _ _=>by kernel_rfl
abbrev j5v:=i1 (z5W (H:=H)) fun _=>nofun
abbrev a5S (h:H 79=none):=j1 (j7O h) fun _=>nofun
abbrev j5w:=i1 (z5X (H:=H)) fun _=>nofun
abbrev a5T (h:H 80=none):=j1 (j7P h) fun _=>nofun
abbrev j5x:=i1 (z5Y (H:=H)) fun _=>nofun
abbrev a5U (h:H 81=none):=j1 (j7Q h) fun _=>nofun
abbrev z5Z:=i5 (z6a (H:=H)) fun _ _ _ _ _=>nofun
abbrev j5z:=i5 (z6b (H:=H)) fun _ _ _ _ _=>nofun
abbrev z6c:=i4 (z6d (H:=H)) fun _ _ _ _=>nofun
abbrev a5V (h:H 82=none):=j2 (j7R h) fun _ _=>nofun
abbrev z6e:=i5 (z6f (H:=H)) fun _ _ _ _ _=>nofun
abbrev j5O:=i5 (z6g (H:=H)) fun _ _ _ _ _=>nofun
abbrev z6h:=i4 (z6i (H:=H)) fun _ _ _ _=>nofun
abbrev a5Z (h:H 86=none):=j2 (j7S h) fun _ _=>nofun
abbrev j5Y:=i3 (z6j (H:=H)) fun _ _ _=>nofun
abbrev j7T (h:H 89=none):=j2 (j7U h) fun _ _=>nofun
abbrev a6c (h:H 90=none):=j1 (j7V h) fun _=>nofun
theorem z6k:IG4 H a1H 372736:=gk4 fun _ _ _ _ _=>by kernel_rfl
theorem j5Z:IG4 H a8R 372737:=gk4 fun _ _ _ _ _=>by kernel_rfl
theorem j50:IG4 H a8S 372738:=gk4 fun _ _ _ _ _=>by kernel_rfl
theorem j51:IG0 H a8T 372739:=gk0 fun _=>by kernel_rfl
theorem a6d (h:H 91=none):IF2 H f91 91:=fk2 h rfl fun _ _ _=>by kernel_rfl
theorem j52:IG0 H a8U 376832:=gk0 fun _=>by kernel_rfl
theorem z9L (h:H 92=none):IF1 H f92 92:=fk1 h rfl fun _ _=>by kernel_rfl
abbrev z6l:=i0 (z6m (H:=H)) fun _=>nofun
abbrev a6e (h:H 93=none):=j1 (j7W h) fun _=>nofun
theorem j54:IG2 H a8V 385024:=gk2 fun _ _ _=>by kernel_rfl
theorem j7X (h:H 94=none):IF2 H f94 94:=fk2 h rfl fun _ _ _=>by kernel_rfl
theorem j7Y (h:H 95=none):IF1 H f95 95:=fk1 h rfl fun _ _=>by kernel_rfl
theorem a6f (h:H 96=none):IF2 H f96 96:=fk2 h rfl fun _ _ _=>by kernel_rfl
theorem q9X:IG5 H j55 397312:=gk5 fun _ _ _ _ _ _=>by kernel_rfl
theorem j56:IG5 H a8W 397313:=gk5 fun _ _ _ _ _ _=>by kernel_rfl
theorem j57:IG5 H a8X 397314:=gk5 fun _ _ _ _ _ _=>by kernel_rfl
theorem a6g (h:H 97=none):IF3 H f97 97:=fk3 h rfl fun _ _ _ _=>by kernel_rfl
theorem a6h (h:H 98=none):IF1 H f98 98:=fk1 h rfl fun _ _=>by kernel_rfl
theorem a6i (h:H 99=none):IF1 H f99 99:=fk1 h rfl fun _ _=>by kernel_rfl
theorem j9W (h:H 100=none):IF2 H f100 100:=fk2 h rfl fun _ _ _=>by kernel_rfl
theorem q7N:IG5 H z4H 413696:=gk5 fun _ _ _ _ _ _=>by kernel_rfl
theorem z9O:IG5 H j7Z 413697:=gk5 fun _ _ _ _ _ _=>by kernel_rfl
theorem z9P:IG5 H j70 413698:=gk5 fun _ _ _ _ _ _=>by kernel_rfl
theorem j9X (h:H 101=none):IF3 H f101 101:=fk3 h rfl fun _ _ _ _=>by kernel_rfl
theorem j9Y (h:H 102=none):IF1 H f102 102:=fk1 h rfl fun _ _=>by kernel_rfl
theorem j9Z (h:H 103=none):IF1 H f103 103:=fk1 h rfl fun _ _=>by kernel_rfl
theorem j90 (h:H 104=none):IF2 H f104 104:=fk2 h rfl fun _ _ _=>by kernel_rfl
theorem q7O:IG5 H z4I 430080:=gk5 fun _ _ _ _ _ _=>by kernel_rfl
theorem z9Q:IG5 H j71 430081:=gk5 fun _ _ _ _ _ _=>by kernel_rfl
theorem z9R:IG5 H j72 430082:=gk5 fun _ _ _ _ _ _=>by kernel_rfl
theorem j91 (h:H 105=none):IF3 H f105 105:=fk3 h rfl fun _ _ _ _=>by kernel_rfl
theorem j92 (h:H 106=none):IF1 H f106 106:=fk1 h rfl fun _ _=>by kernel_rfl
theorem j93 (h:H 107=none):IF1 H f107 107:=fk1 h rfl fun _ _=>by kernel_rfl
abbrev z9T:=i3 (z1b (H:=H)) fun _ _ _=>nofun
abbrev z9n (h:H 108=none):=j2 (z9o h) fun _ _=>nofun
theorem z9U:IG3 H j73 446464:=gk3 fun _ _ _ _=>by kernel_rfl
theorem z9p (h:H 109=none):IF2 H f109 109:=fk2 h rfl fun _ _ _=>by kernel_rfl
theorem z1c:IG4 H z9V 450560:=gk4 fun _ _ _ _ _=>by kernel_rfl
theorem z1d:IG4 H z9W 450561:=gk4 fun _ _ _ _ _=>by kernel_rfl
theorem q6i (h:H 110=none):IF3 H f110 110:=fk3 h rfl fun _ _ _ _=>by kernel_rfl
theorem z1e:IG6 H z9X 454656:=gk6 fun _ _ _ _ _ _ _=>by kernel_rfl
theorem z9Y:IG6 H j74 454657:=gk6 fun _ _ _ _ _ _ _=>by kernel_rfl
theorem z9Z:IG6 H j75 454658:=gk6 fun _ _ _ _ _ _ _=>by kernel_rfl
theorem z90:IG2 H j76 454659:=gk2 fun _ _ _=>by kernel_rfl
theorem j94 (h:H 111=none):IF2 H f111 111:=fk2 h rfl fun _ _ _=>by kernel_rfl
theorem z1f:IG3 H z92 458752:=gk3 fun _ _ _ _=>by kernel_rfl
theorem q7P:IG3 H z4K 458753:=gk3 fun _ _ _ _=>by kernel_rfl
theorem z94:IG0 H j77 458754:=gk0 fun _=>by kernel_rfl
theorem z95:IG3 H j78 458755:=gk3 fun _ _ _ _=>by kernel_rfl
theorem z96:IG0 H j79 458756:=gk0 fun _=>by kernel_rfl
theorem j95 (h:H 112=none):IF2 H f112 112:=fk2 h rfl fun _ _ _=>by kernel_rfl
theorem z1g:IG6 H z97 462848:=gk6 fun _ _ _ _ _ _ _=>by kernel_rfl
theorem z98:IG6 H j8a 462849:=gk6 fun _ _ _ _ _ _ _=>by kernel_rfl
theorem z99:IG6 H j8b 462850:=gk6 fun _ _ _ _ _ _ _=>by kernel_rfl
theorem j0a:IG2 H j8c 462851:=gk2 fun _ _ _=>by kernel_rfl
theorem j96 (h:H 113=none):IF2 H f113 113:=fk2 h rfl fun _ _ _=>by kernel_rfl
theorem j0b:IG2 H j8d 466944:=gk2 fun _ _ _=>by kernel_rfl
theorem z9q (h:H 114=none):IF1 H f114 114:=fk1 h rfl fun _ _=>by kernel_rfl
theorem z9r (h:H 115=none):IF1 H f115 115:=fk1 h rfl fun _ _=>by kernel_rfl
theorem z1h:IG1 H j0c 475136:=gk1 fun _ _=>by kernel_rfl
theorem j0d:IG0 H j8e 475137:=gk0 fun _=>by kernel_rfl
theorem z3j (h:H 116=none):IF2 H f116 116:=fk2 h rfl fun _ _ _=>by kernel_rfl
theorem z1i:IG4 H j0e 479232:=gk4 fun _ _ _ _ _=>by kernel_rfl
theorem j97 (h:H 117=none):IF3 H f117 117:=fk3 h rfl fun _ _ _ _=>by kernel_rfl
abbrev j98 (h:H 118=none):=j2 (z9s h) fun _ _=>nofun
abbrev j99 (h:H 119=none):=j1 (z9t h) fun _=>nofun
abbrev a0a (h:H 126=none):=j2 (z9u h) fun _ _=>nofun
abbrev a0b (h:H 127=none):=j1 (z9v h) fun _=>nofun
theorem a0c (h:H 132=none):IF1 H f132 132:=fk1 h rfl fun _ _=>by kernel_rfl
theorem z9w (h:H 133=none):IF1 H f133 133:=fk1 h rfl fun _ _=>by kernel_rfl
theorem q7Q:IG4 H z4N 548864:=gk4 fun _ _ _ _ _=>by kernel_rfl
theorem z1k:IG4 H j0j 548865:=gk4 fun _ _ _ _ _=>by kernel_rfl
theorem j0k:IG3 H j8i 548866:=gk3 fun _ _ _ _=>by kernel_rfl
theorem z3k (h:H 134=none):IF3 H f134 134:=fk3 h rfl fun _ _ _ _=>by kernel_rfl
theorem q5v:IG3 H z1l 552960:=gk3 fun _ _ _ _=>by kernel_rfl
theorem q7R:IG3 H z4O 552961:=gk3 fun _ _ _ _=>by kernel_rfl
theorem z1m:IG3 H j0l 552962:=gk3 fun _ _ _ _=>by kernel_rfl
theorem z1n:IG2 H j0m 552963:=gk2 fun _ _ _=>by kernel_rfl
theorem q5w:IG3 H z1o 552964:=gk3 fun _ _ _ _=>by kernel_rfl
theorem z1p:IG3 H j0n 552965:=gk3 fun _ _ _ _=>by kernel_rfl
theorem z1q:IG3 H j0o 552966:=gk3 fun _ _ _ _=>by kernel_rfl
theorem a0d (h:H 135=none):IF1 H f135 135:=fk1 h rfl fun _ _=>by kernel_rfl
theorem j0p:IG3 H j8j 557056:=gk3 fun _ _ _ _=>by kernel_rfl
theorem z9x (h:H 136=none):IF2 H f136 136:=fk2 h rfl fun _ _ _=>by kernel_rfl
theorem q5x:IG3 H z1r 561152:=gk3 fun _ _ _ _=>by kernel_rfl
theorem z1s:IG3 H j0q 561153:=gk3 fun _ _ _ _=>by kernel_rfl
theorem z9y (h:H 137=none):IF2 H f137 137:=fk2 h rfl fun _ _ _=>by kernel_rfl
theorem z9z (h:H 138=none):IF2 H f138 138:=fk2 h rfl fun _ _ _=>by kernel_rfl
abbrev a0e (h:H 139=none):=j1 (z9A h) fun _=>nofun
abbrev a0f (h:H 143=none):=j1 (z9B h) fun _=>nofun
theorem a0g (h:H 146=none):IF1 H f146 146:=fk1 h rfl fun _ _=>by kernel_rfl
theorem j0r:IG2 H j8k 602112:=gk2 fun _ _ _=>by kernel_rfl
theorem j0s:IG2 H j8l 602113:=gk2 fun _ _ _=>by kernel_rfl
theorem z9C (h:H 147=none):IF2 H f147 147:=fk2 h rfl fun _ _ _=>by kernel_rfl
theorem j0t:IG4 H j8m 606208:=gk4 fun _ _ _ _ _=>by kernel_rfl
theorem z1t:IG5 H j0u 606209:=gk5 fun _ _ _ _ _ _=>by kernel_rfl
theorem q2c:IG6 H q4V 606210:=gk6 fun _ _ _ _ _ _ _=>by kernel_rfl
theorem q5y:IG5 H z1u 606211:=gk5 fun _ _ _ _ _ _=>by kernel_rfl
theorem q2U:IG6 H q6H 606212:=gk6 fun _ _ _ _ _ _ _=>by kernel_rfl
theorem j0v:IG4 H j8n 606213:=gk4 fun _ _ _ _ _=>by kernel_rfl
theorem a0h (h:H 148=none):IF3 H f148 148:=fk3 h rfl fun _ _ _ _=>by kernel_rfl
theorem a0i (h:H 149=none):IF2 H f149 149:=fk2 h rfl fun _ _ _=>by kernel_rfl
theorem j0w:IG3 H j8o 614400:=gk3 fun _ _ _ _=>by kernel_rfl
theorem a0j (h:H 150=none):IF2 H f150 150:=fk2 h rfl fun _ _ _=>by kernel_rfl
theorem z1v:IG5 H j0x 618496:=gk5 fun _ _ _ _ _ _=>by kernel_rfl
theorem j0y:IG5 H j8p 618497:=gk5 fun _ _ _ _ _ _=>by kernel_rfl
theorem j0z:IG5 H j8q 618498:=gk5 fun _ _ _ _ _ _=>by kernel_rfl
theorem j0A:IG2 H j8r 618499:=gk2 fun _ _ _=>by kernel_rfl
theorem a0k (h:H 151=none):IF1 H f151 151:=fk1 h rfl fun _ _=>by kernel_rfl
theorem z1w:IG5 H j0B 622592:=gk5 fun _ _ _ _ _ _=>by kernel_rfl
theorem z1x:IG5 H j0C 622593:=gk5 fun _ _ _ _ _ _=>by kernel_rfl
theorem z1y:IG5 H j0D 622594:=gk5 fun _ _ _ _ _ _=>by kernel_rfl
theorem j0E:IG2 H j8s 622595:=gk2 fun _ _ _=>by kernel_rfl
theorem a0l (h:H 152=none):IF2 H f152 152:=fk2 h rfl fun _ _ _=>by kernel_rfl
theorem z1z:IG5 H j0F 626688:=gk5 fun _ _ _ _ _ _=>by kernel_rfl
theorem j0G:IG5 H j8t 626689:=gk5 fun _ _ _ _ _ _=>by kernel_rfl
theorem z1A:IG7 H j0H 626690:=gk7 fun _ _ _ _ _ _ _ _=>by kernel_rfl
theorem j0I:IG7 H j8u 626691:=gk7 fun _ _ _ _ _ _ _ _=>by kernel_rfl
theorem j0J:IG7 H j8v 626692:=gk7 fun _ _ _ _ _ _ _ _=>by kernel_rfl
theorem j0K:IG5 H j8w 626693:=gk5 fun _ _ _ _ _ _=>by kernel_rfl
theorem j0L:IG2 H j8x 626694:=gk2 fun _ _ _=>by kernel_rfl
theorem a0m (h:H 153=none):IF2 H f153 153:=fk2 h rfl fun _ _ _=>by kernel_rfl
theorem j0M:IG1 H j8y 651264:=gk1 fun _ _=>by kernel_rfl
theorem a0n (h:H 159=none):IF2 H f159 159:=fk2 h rfl fun _ _ _=>by kernel_rfl
theorem q38:IG5 H q8U 655360:=gk5 fun _ _ _ _ _ _=>by kernel_rfl
theorem q5A:IG5 H z1B 655361:=gk5 fun _ _ _ _ _ _=>by kernel_rfl
theorem q5B:IG5 H z1C 655362:=gk5 fun _ _ _ _ _ _=>by kernel_rfl
theorem j0Q:IG3 H j8C 655363:=gk3 fun _ _ _ _=>by kernel_rfl
theorem a0o (h:H 160=none):IF2 H f160 160:=fk2 h rfl fun _ _ _=>by kernel_rfl
theorem a0p (h:H 161=none):IF2 H f161 161:=fk2 h rfl fun _ _ _=>by kernel_rfl
theorem z1D:IG2 H j0R 663552:=gk2 fun _ _ _=>by kernel_rfl
theorem j0S:IG2 H j8D 663553:=gk2 fun _ _ _=>by kernel_rfl
theorem j0T:IG2 H j8E 663554:=gk2 fun _ _ _=>by kernel_rfl
theorem j0U:IG1 H j8F 663555:=gk1 fun _ _=>by kernel_rfl
theorem a0q (h:H 162=none):IF1 H f162 162:=fk1 h rfl fun _ _=>by kernel_rfl
theorem j0V:IG3 H j8G 667648:=gk3 fun _ _ _ _=>by kernel_rfl
theorem a0r (h:H 163=none):IF2 H f163 163:=fk2 h rfl fun _ _ _=>by kernel_rfl
theorem j0W:IG2 H j8H 671744:=gk2 fun _ _ _=>by kernel_rfl
theorem z1E:IG3 H j0X 671745:=gk3 fun _ _ _ _=>by kernel_rfl
theorem j0Y:IG3 H j8I 671746:=gk3 fun _ _ _ _=>by kernel_rfl
theorem j0Z:IG3 H j8J 671747:=gk3 fun _ _ _ _=>by kernel_rfl
theorem j00:IG2 H j8K 671748:=gk2 fun _ _ _=>by kernel_rfl
theorem a0s (h:H 164=none):IF1 H f164 164:=fk1 h rfl fun _ _=>by kernel_rfl
theorem j01:IG4 H j8L 675840:=gk4 fun _ _ _ _ _=>by kernel_rfl
theorem j02:IG8 H j8M 675844:=gk8 fun _ _ _ _ _ _ _ _ _=>by kernel_rfl
theorem j03:IG5 H j8N 675845:=gk5 fun _ _ _ _ _ _=>by kernel_rfl
theorem a0t (h:H 165=none):IF2 H f165 165:=fk2 h rfl fun _ _ _=>by kernel_rfl
theorem j04:IG3 H j8O 679936:=gk3 fun _ _ _ _=>by kernel_rfl
theorem z1F:IG3 H j05 679937:=gk3 fun _ _ _ _=>by kernel_rfl
theorem j06:IG3 H j8P 679938:=gk3 fun _ _ _ _=>by kernel_rfl
theorem q7S:IG9 H z4U 679939:=gk9 fun _ _ _ _ _ _ _ _ _ _=>by kernel_rfl
theorem z1G:IG9 H j07 679940:=gk9 fun _ _ _ _ _ _ _ _ _ _=>by kernel_rfl
theorem j08:IG8 H j8Q 679941:=gk8 fun _ _ _ _ _ _ _ _ _=>by kernel_rfl
theorem q7T:IG9 H z4V 679942:=gk9 fun _ _ _ _ _ _ _ _ _ _=>by kernel_rfl
theorem z1H:IG9 H j09 679943:=gk9 fun _ _ _ _ _ _ _ _ _ _=>by kernel_rfl
theorem j1a:IG6 H j8R 679944:=gk6 fun _ _ _ _ _ _ _=>by kernel_rfl
theorem a0u (h:H 166=none):IF3 H f166 166:=fk3 h rfl fun _ _ _ _=>by kernel_rfl
theorem j1b:IG1 H j8S 684032:=gk1 fun _ _=>by kernel_rfl
theorem z9D (h:H 167=none):IF1 H f167 167:=fk1 h rfl fun _ _=>by kernel_rfl
theorem a0v (h:H 168=none):IF2 H f168 168:=fk2 h rfl fun _ _ _=>by kernel_rfl
theorem q9B (h:H 169=none):IF4 H f169 169:=fk4 h rfl fun _ _ _ _ _=>by kernel_rfl
theorem j1c:IG3 H j8T 696320:=gk3 fun _ _ _ _=>by kernel_rfl
theorem j1d:IG3 H j8U 696321:=gk3 fun _ _ _ _=>by kernel_rfl
theorem j1e:IG3 H j8V 696322:=gk3 fun _ _ _ _=>by kernel_rfl
theorem z9E (h:H 170=none):IF3 H f170 170:=fk3 h rfl fun _ _ _ _=>by kernel_rfl
theorem a0w (h:H 171=none):IF1 H f171 171:=fk1 h rfl fun _ _=>by kernel_rfl
theorem z1I:IG2 H j1f 704512:=gk2 fun _ _ _=>by kernel_rfl
theorem z1J:IG2 H j1g 704513:=gk2 fun _ _ _=>by kernel_rfl
theorem j1h:IG2 H j8W 704514:=gk2 fun _ _ _=>by kernel_rfl
theorem z9F (h:H 172=none):IF1 H f172 172:=fk1 h rfl fun _ _=>by kernel_rfl
abbrev wt:=ai @T.zz0<|ai @T.zz1<|ai @T.zz2<|ai @T.zz3<|ai @T.zz4<|ai @b1n<|ai @b1o<|ai @b1p<|ai @b1q<|ai @b2A<|ai @b2B<|ai @b2C<|ai @b2D<|ai @b2E<|ai @b2F<|ai @b2G<|ai @b2H<|ai @j9w<|ai @j9x<|ai @j9y<|ai @z8R<|ai @j9z<|ai @z8S<|ai @z8T<|ai @j9A<|ai @q4r<|ai @j3s<|ai @j3t<|ai @z4u<|ai @j9C<|ai @j9G<|ai @a5f<|ai @a5g<|ai @a5h<|ai @a5i<|ai @j9H<|ai @a5j<|ai @b1r<|ai @a0x<|ai @a0y<|ai @a0z<|ai @a0A<|ai @a0B<|ai @a0C<|ai @a0D<|ai @a0E<|ai @a0F<|ai @a0G<|ai @a0H<|ai @a0I<|ai @a0J<|ai @a6j<|ai @a6k<|ai @a6l<|ai @a6m<|ai @a6n<|ai @a6o<|ai @a6p<|ai @a6q<|ai @a6r<|ai @a6s<|ai @a6t<|ai @a6u<|ai @a6v<|ai @a6w<|ai @a6x<|ai @a6y<|ai @a6z<|ai @a6A<|ai @a6B<|ai @a6C<|ai @a6D<|ai @a6E<|ai @a6F<|ai @a6G<|ai @a6H<|ai @a6I<|ai @a6J<|ai @a6K<|ai @a6L<|ai @a6M<|ai @a6N<|ai @a6O<|ai @a6P<|ai @a6Q<|ai @a6R<|ai @a6S<|ai @a6T<|ai @a6U<|ai @a6V<|ai @b1C<|ai @b1D<|ai @b1E<|ai @b1G<|ai @b2P<|ai @b2Q<|ai @b2R<|ai @b2S<|ai @b2T<|ai @b2U<|ai @b2V<|ai @b1K<|ai @b1L<|ai @b1M<|ai @b1N<|ai @ld2<|ai @b1O<|ai @b1P<|ai @b2W<|ai @b2X<|ai @b2Y<|ai @b2Z<|ai @b21<|ai @ld3<|ai @ld4<|ai @b22<|ai @b23<|ai @b24<|ai @b25<|ai @b26<|ai @b27<|ai @b28<|ai @ld9<|ai @b29<|ai @b3a<|ai @b3b<|ai @b0F<|ai @b0G<|ai @b1Q<|ai @b1R<|ai @b1S<|ai @b1T<|ai @b1U<|ai @b3c<|ai @b3e<|ai @b3f<|ai @b3g @b3h
abbrev wp:=ai @aps<|ai @z8E<|ai @obs<|ai @ips @wt
abbrev q0e:=ai @wp<|ai @Nat.zero_add<|ai @Nat.add_zero @ge
abbrev q0F:=ai @wp<|ai @ge<|ai @Nat.zero_add @Nat.add_zero
abbrev q0w:=ai @wp<|ai @lcs<|ai @oms<|ai @Nat.zero_add<|ai @ift @ge
abbrev q0E:=ai @wp<|ai @lcs<|ai @oms<|ai @Nat.zero_add<|ai @ift<|ai @ge @Nat.add_zero
abbrev z6T:=ai @wp<|ai @lcs<|ai @oms<|ai @Nat.zero_add<|ai @ift<|ai @ge<|ai @bn4 @Nat.add_zero
abbrev j9b:=ai @wp<|ai @ge<|ai @bn4<|ai @Nat.zero_add @Nat.add_zero
abbrev q02:=ai @wp @ge
abbrev b2i:=ai @wp<|ai @lcs<|ai @oms<|ai @Nat.zero_add<|ai @ift<|ai @ge<|ai @be4<|ai @bn4 @Nat.add_zero
abbrev b3p:=ai @wp<|ai @ge @b2I
abbrev b06:=ai @wp<|ai @lcs<|ai @oms<|ai @Nat.zero_add<|ai @ift<|ai @ge<|ai @be4 @Nat.add_zero
abbrev z4j:=ai @wt<|ai @aps<|ai @z8E<|ai @obs @z7F
abbrev q54:=ai @wp @iv9
abbrev a4q:=ai @wp<|ai @lcs<|ai @oms<|ai @Nat.zero_add<|ai @ift<|ai @ge<|ai @b3m @Nat.add_zero
abbrev a4r:=ai @wp<|ai @lcs<|ai @oms<|ai @Nat.zero_add<|ai @ift<|ai @ge<|ai @b3n @Nat.add_zero
end
section
set_option maxRecDepth 4000
open Go Go.Abs
theorem j1H {x y c:Int} (m:Mem) (h:0<=x/\0<=y/\0<=c/\c<=1):run E2 (.fn 59) [.int .u64 x,.int .u64 y,.int .u64 c] m=some (.tup [.int .u64 ((x+y+c) % 18446744073709551616),.int .u64 ((x+y+c) / 18446744073709551616)],m):=by
 rw[q08 (h:=q4R) rfl];simp only[q4R,if_pos h]
theorem q6k {x y c:Int} (m:Mem) (h:0<=x/\0<=y/\y<18446744073709551616/\0<=c/\c<=1):run E2 (.fn 60) [.int .u64 x,.int .u64 y,.int .u64 c] m=some (.tup [.int .u64 ((x-y-c) % 18446744073709551616),.int .u64 (if x<y+c then 1 else 0)],m):=by
 rw[q08 (h:=q8l) rfl];simp only[q8l,if_pos h]
theorem j7l:(true==false)=false:=rfl
theorem j7k:(false==true)=false:=rfl
theorem a4Y (a b:Wd) (ha:a.ok) (hb:b.ok) (m:Mem):Res m (run E2 (.fn 21) [.agg a.cells,.agg b.cells] m) (.tup [.agg (Wd.res (a.val+b.val)).1.cells,.int .i64 (Wd.res (a.val+b.val)).2]):=by
 obtain⟨ah,al⟩:=a;obtain⟨bh,bl⟩:=b;obtain⟨a1,a2,a3,a4⟩:=ha;obtain⟨b1,b2,b3,b4⟩:=hb;simp only[Wd.val]at *;obtain⟨c,hc⟩:∃c,c=(al+bl+0) / 18446744073709551616:=⟨_,rfl⟩;have c0:0<=c/\c<=1:=by omega
 obtain⟨h,hh⟩:∃h,h=IntKind.wrap .i64 ((ah % 18446744073709551616+bh % 18446744073709551616+c) % 18446744073709551616):=⟨_,rfl⟩;have hh2:=hh;rw[q2q]at hh2;simp only[a5u (H:=H2) rfl,T.f21,pB,p1,q1,p2,q0o,AV.cells,Nat.reduceAdd,Nat.reduceLeDiff,q0K,q0d,q0a,ifV,q0H,q0I,b2i,Wd.cells,AV.one,over,lcl,j1H _ (show 0<=al/\0<=bl/\(0:Int)<=0/\(0:Int)<=1 by omega),q8q,<-hc,j1H _ (show 0<=ah % 18446744073709551616/\0<=bh % 18446744073709551616/\0<=c/\c<=1 by omega),<-hh]
 by_cases h1:ah<0<;>by_cases h2:bh<0<;>by_cases h3:h<0<;>
  simp only[h1,h2,h3,decide_true,decide_false,BEq.rfl,xbt,xbf,j4j (H:=H2),T.a0U,p1,q0o,AV.cells,Nat.reduceAdd,Nat.reduceLeDiff,q0H,q0I,q0w,AV.one,over,lcl,<-hh,j7l,j7k]<;>
  (refine Res.eq ?_ ?_
   ·(repeat apply Fr.lays)
    exact Fr.refl _
   ·first
    |exact z6D (q0V (by omega) (by omega)) (by omega) (by omega)
    |exact q3I (q1m (by omega)))
theorem b0Z (a b:Wd) (ha:a.ok) (hb:b.ok) (m:Mem):Res m (run E2 (.fn 22) [.agg a.cells,.agg b.cells] m) (.tup [.agg (Wd.res (a.val-b.val)).1.cells,.int .i64 (Wd.res (a.val-b.val)).2]):=by
 obtain⟨ah,al⟩:=a;obtain⟨bh,bl⟩:=b;obtain⟨a1,a2,a3,a4⟩:=ha;obtain⟨b1,b2,b3,b4⟩:=hb;simp only[Wd.val]at *;obtain⟨c,hc⟩:∃c:Int,c=(if al<bl+0 then 1 else 0):=⟨_,rfl⟩
 have c0:0<=c/\c<=1:=by omega
 obtain⟨h,hh⟩:∃h,h=IntKind.wrap .i64 ((ah % 18446744073709551616-bh % 18446744073709551616-c) % 18446744073709551616):=⟨_,rfl⟩;have hh2:=hh;rw[q2q]at hh2;simp only[a5v (H:=H2) rfl,T.f22,pB,p1,q1,p2,q0o,AV.cells,Nat.reduceAdd,Nat.reduceLeDiff,q0K,q0d,q0a,ifV,q0H,q0I,z6T,Wd.cells,AV.one,over,lcl,q6k _ (show 0<=al/\0<=bl/\bl<18446744073709551616/\(0:Int)<=0/\(0:Int)<=1 by omega),q8q,<-hc,q6k _ (show 0<=ah % 18446744073709551616/\0<=bh % 18446744073709551616/\bh % 18446744073709551616<18446744073709551616/\0<=c/\c<=1 by omega),<-hh]
 by_cases h1:ah<0<;>by_cases h2:bh<0<;>by_cases h3:h<0<;>
  simp only[h1,h2,h3,decide_true,decide_false,BEq.rfl,xbt,xbf,j4k (H:=H2),T.a0V,p1,q0o,AV.cells,Nat.reduceAdd,Nat.reduceLeDiff,q0H,q0I,q0w,AV.one,over,lcl,<-hh,j7l,j7k]<;>
  (refine Res.eq ?_ ?_
   ·(repeat apply Fr.lays)
    exact Fr.refl _
   ·first
    |exact z6D (q0V (by omega) (by omega)) (by omega) (by omega)
    |exact q3I (q1m (by omega)))
end
section
set_option maxRecDepth 4000
open Go Go.Abs
theorem j6t {x y:Int} (hx:0<=x) (hx2:x<18446744073709551616) (hy:0<=y) (hy2:y<18446744073709551616) (m:Mem) :
  run E2 (.fn 168) [.int .u64 x,.int .u64 y] m=some (.tup [.int .u64 (x*y / 18446744073709551616),.int .u64 (x*y % 18446744073709551616)],m):=by
 obtain⟨h1,h2,h3,h4,h5,h6,h7,h8⟩:=b1X hx hx2 hy hy2;have hr:0<=x*y / 18446744073709551616/\x*y / 18446744073709551616<18446744073709551616:=by
  have h9:0<=x*y:=Int.mul_nonneg hx hy;have h10:x*y<=18446744073709551615*y:=Int.mul_le_mul_of_nonneg_right (by omega) hy;omega
 simp only[a0v (H:=H2) rfl,T.f168,p2,wp,q5g _ hx hx2,q5g _ hy hy2,q2w _ hx,q2w _ hy,wrap_u64 h1.1 h1.2,q2w _ h1.1,wrap_u64 h2.1 h2.2,wrap_u64 h3.1 h3.2,q5g _ h3.1 h3.2,q2w _ h3.1,wrap_u64 h4.1 h4.2,wrap_u64 h5.1 h5.2,wrap_u64 h6.1 h6.2,wrap_u64 h7.1 h7.2,q2w _ h5.1,h8,wrap_u64 hr.1 hr.2,q0n]
theorem j6o {x:Int} (h0:0<x) (h1:x<256):∃n:Nat,q4X Tryz.prog 9 (.str len8) (.int .u8 x)=some (.int .u8 ((n:Int)+1))/\n<8/\(2:Int) ^ n<=x/\x<2*2 ^ n:=by
 obtain⟨n,e1,e2,e3,e4⟩:=a3k x.toNat (by omega) (by omega);refine⟨n,?_,e2,?_,?_⟩
 ·rw[iv9,if_pos (by omega),e1];simp only;congr 2;rw[show (UInt8.ofNat (n+1)).toNat=n+1 by simp;omega];rfl
 ·have:((2 ^ n:Nat):Int)<=((x.toNat:Nat):Int):=by exact_mod_cast e3
  have e9:((2 ^ n:Nat):Int)=(2:Int) ^ n:=Int.natCast_pow 2 n;omega
 ·have:((x.toNat:Nat):Int)<((2*2 ^ n:Nat):Int):=by exact_mod_cast e4
  have e9:((2 ^ n:Nat):Int)=(2:Int) ^ n:=Int.natCast_pow 2 n;omega
theorem j6p:(len8:List UInt8)=[0,1,2,2,3,3,3,3,4,4,4,4,4,4,4,4,5,5,5,5,5,5,5,5,5,5,5,5,5,5,5,5,6,6,6,6,6,6,6,6,6,6,6,6,6,6,6,6,6,6,6,6,6,6,6,6,6,6,6,6,6,6,6,6,7,7,7,7,7,7,7,7,7,7,7,7,7,7,7,7,7,7,7,7,7,7,7,7,7,7,7,7,7,7,7,7,7,7,7,7,7,7,7,7,7,7,7,7,7,7,7,7,7,7,7,7,7,7,7,7,7,7,7,7,7,7,7,7,8,8,8,8,8,8,8,8,8,8,8,8,8,8,8,8,8,8,8,8,8,8,8,8,8,8,8,8,8,8,8,8,8,8,8,8,8,8,8,8,8,8,8,8,8,8,8,8,8,8,8,8,8,8,8,8,8,8,8,8,8,8,8,8,8,8,8,8,8,8,8,8,8,8,8,8,8,8,8,8,8,8,8,8,8,8,8,8,8,8,8,8,8,8,8,8,8,8,8,8,8,8,8,8,8,8,8,8,8,8,8,8,8,8,8,8,8,8,8,8,8,8,8,8,8,8,8,8]:=by decide +kernel
theorem j2a {x k:Int} (h0:0<x) (h1:x<256) (hk:0<=k) (hk2:k<1000) (m:Mem):∃n:Nat,D2.gor 704514 [.int .u64 x,.int .i64 k] m=some (.int .i64 (k+n+1),m)/\n<8/\(2:Int) ^ n<=x/\x<2*2 ^ n:=by
 obtain⟨n,e1,e2,e3,e4⟩:=j6o h0 h1;rw[j6p]at e1;have w8:IntKind.wrap .u8 x=x:=by
  have e:IntKind.wrap .u8 x=x % 256:=by simp[IntKind.wrap,IntKind.bits,IntKind.signed]
  rw[e];omega
 refine⟨n,?_,e2,e3,e4⟩;simp only[j1h (H:=H2),T.j8W,p1,p2,q54,w8,e1,wrap_i64 (n:=(n:Int)+1) (by omega) (by omega),wrap_i64 (n:=k+((n:Int)+1)) (by omega) (by omega)];rw[Int.add_assoc]
theorem j19 {x k:Int} (h0:0<x) (h1:x<65536) (hk:0<=k) (hk2:k<900) (m:Mem):∃n:Nat,D2.gor 704513 [.int .u64 x,.int .i64 k] m=some (.int .i64 (k+n+1),m)/\n<16/\(2:Int) ^ n<=x/\x<2*2 ^ n:=by
 by_cases h:256<=x
 ·obtain⟨n,e1,e2,e3,e4⟩:=j2a (x:=x / 256) (k:=k+8) (by omega) (by omega) (by omega) (by omega) m;refine⟨n+8,?_,by omega,?_,?_⟩
  ·simp only[z1J (H:=H2),T.j1g,p2,q0a,wp,dt h,z4t _ (show 0<=x by omega) (show (0:Int)<=8 by omega) (show (2:Int) ^ (min (8:Int).toNat IntKind.u64.bits)=256 by rfl),wrap_i64 (n:=k+8) (by omega) (by omega),e1];congr 3;omega
  ·rw[Int.pow_add,show (2:Int) ^ 8=256 by rfl];omega
  ·rw[Int.pow_add,show (2:Int) ^ 8=256 by rfl];omega
 ·obtain⟨n,e1,e2,e3,e4⟩:=j2a (x:=x) (k:=k) (by omega) (by omega) (by omega) (by omega) m;refine⟨n,?_,by omega,e3,e4⟩;simp only[z1J (H:=H2),T.j1g,p2,q0a,wp,df h,e1]
theorem j18 {x k:Int} (h0:0<x) (h1:x<4294967296) (hk:0<=k) (hk2:k<800) (m:Mem):∃n:Nat,D2.gor 704512 [.int .u64 x,.int .i64 k] m=some (.int .i64 (k+n+1),m)/\n<32/\(2:Int) ^ n<=x/\x<2*2 ^ n:=by
 by_cases h:65536<=x
 ·obtain⟨n,e1,e2,e3,e4⟩:=j19 (x:=x / 65536) (k:=k+16) (by omega) (by omega) (by omega) (by omega) m;refine⟨n+16,?_,by omega,?_,?_⟩
  ·simp only[z1I (H:=H2),T.j1f,p2,q0a,wp,dt h,z4t _ (show 0<=x by omega) (show (0:Int)<=16 by omega) (show (2:Int) ^ (min (16:Int).toNat IntKind.u64.bits)=65536 by rfl),wrap_i64 (n:=k+16) (by omega) (by omega),e1];congr 3;omega
  ·rw[Int.pow_add,show (2:Int) ^ 16=65536 by rfl];omega
  ·rw[Int.pow_add,show (2:Int) ^ 16=65536 by rfl];omega
 ·obtain⟨n,e1,e2,e3,e4⟩:=j19 (x:=x) (k:=k) (by omega) (by omega) (by omega) (by omega) m;refine⟨n,?_,by omega,e3,e4⟩;simp only[z1I (H:=H2),T.j1f,p2,q0a,wp,df h,e1]
theorem j6n {x:Int} (h0:0<x) (h1:x<18446744073709551616) (m:Mem):∃n:Nat,run E2 (.fn 172) [.int .u64 x] m=some (.int .i64 ((n:Int)+1),m)/\n<64/\(2:Int) ^ n<=x/\x<2*2 ^ n:=by
 by_cases h:4294967296<=x
 ·obtain⟨n,e1,e2,e3,e4⟩:=j18 (x:=x / 4294967296) (k:=32) (by omega) (by omega) (by omega) (by omega) m;refine⟨n+32,?_,by omega,?_,?_⟩
  ·simp only[z9F (H:=H2) rfl,T.f172,p2,q0a,wp,dt h,q2w _ (show 0<=x by omega),e1];congr 3;omega
  ·rw[Int.pow_add,show (2:Int) ^ 32=4294967296 by rfl];omega
  ·rw[Int.pow_add,show (2:Int) ^ 32=4294967296 by rfl];omega
 ·obtain⟨n,e1,e2,e3,e4⟩:=j18 (x:=x) (k:=0) (by omega) (by omega) (by omega) (by omega) m;refine⟨n,?_,by omega,e3,e4⟩;simp only[z9F (H:=H2) rfl,T.f172,p2,q0a,wp,df h,e1,Int.zero_add]
theorem b1V {x:Int} (h0:0<x) (h1:x<18446744073709551616) (m:Mem):∃s:Nat,run E2 (.fn 171) [.int .u64 x] m=some (.int .i64 (s:Int),m)/\s<64/\9223372036854775808<=x*2 ^ s/\x*2 ^ s<18446744073709551616:=by
 obtain⟨n,e1,e2,e3,e4⟩:=j6n h0 h1 m;have hp:(2:Int) ^ n*2 ^ (63-n)=9223372036854775808:=by
  rw[<-Int.pow_add,show n+(63-n)=63 by omega];rfl
 have hpos:(0:Int)<2 ^ (63-n):=Int.pow_pos (by omega);have h3:(2:Int) ^ n*2 ^ (63-n)<=x*2 ^ (63-n):=Int.mul_le_mul_of_nonneg_right e3 (by omega);have h4:x*2 ^ (63-n)<2*2 ^ n*2 ^ (63-n):=Int.mul_lt_mul_of_pos_right e4 hpos;rw[Int.mul_assoc]at h4;refine⟨63-n,?_,by omega,by omega,by omega⟩;simp only[a0w (H:=H2) rfl,T.f171,p2,wp,e1,wrap_i64 (n:=64-((n:Int)+1)) (by omega) (by omega)];congr 3;omega
end
section
set_option maxRecDepth 4000
open Go Go.Abs
theorem z9e {y yn1 yn0 un un1:Int} (s un0:AV) (hy:y=yn1*4294967296+yn0) (hy1:2147483648<=yn1) (hy2:yn1<4294967296) (hy0:0<=yn0) (hy3:yn0<4294967296) (hun:un<y) (hu0:0<=un1) (hu1:un1<4294967296) (m:Mem) :
  ∀(d:Nat) (q r:Int),4294967296<=r+d*yn1->0<=q->q<=4294967297->0<=r->r<4294967296->q*yn1+r=un->un*4294967296+un1<(q+1)*y->
   D2.gor 679939 [.int .u64 y,s,.int .u64 yn1,.int .u64 yn0,.int .u64 un,.int .u64 un1,un0,.int .u64 q,.int .u64 r] m =
   D2.gor 679941 [.int .u64 y,s,.int .u64 yn1,.int .u64 yn0,.int .u64 un,.int .u64 un1,un0,.int .u64 ((un*4294967296+un1) / y)] m:=by
 intro d;induction d with
 |zero=>intro q r h;intros;omega
 |succ d ih=>
  intro q r hd hq hq2 hr hr2 e hu;have hyp:0<y:=by omega
  have step:(∀h:un*4294967296+un1<q*y,D2.gor 679940 [.int .u64 y,s,.int .u64 yn1,.int .u64 yn0,.int .u64 un,.int .u64 un1,un0,.int .u64 q,.int .u64 r] m =
    D2.gor 679941 [.int .u64 y,s,.int .u64 yn1,.int .u64 yn0,.int .u64 un,.int .u64 un1,un0,.int .u64 ((un*4294967296+un1) / y)] m):=by
   intro h;have hq1:1<=q:=by
    by_cases h0:q=0
    ·subst h0;simp only[Int.zero_mul]at h;have:0<=un:=by rw[<-e];omega
     omega
    ·omega
   have e':=q8X e;have hu':=z6t h;have hdm:((d+1:Nat):Int)*yn1=d*yn1+yn1:=by rw[Int.natCast_add,Int.add_mul];simp
   rw[hdm]at hd;by_cases hb:4294967296<=r+yn1
   ·simp only[z1G (H:=H2),T.j07,p2,q0a,wp,wrap_u64 (x:=q-1) (by omega) (by omega),wrap_u64 (x:=r+yn1) (by omega) (by omega),dt hb];rw[q5O hy e' (z1T hy (by omega) hy0 hy3 hun hu0 (by omega) e' hb) hu']
   ·simp only[z1G (H:=H2),T.j07,p2,q0a,wp,wrap_u64 (x:=q-1) (by omega) (by omega),wrap_u64 (x:=r+yn1) (by omega) (by omega),df hb];exact ih (q-1) (r+yn1) (by omega) (by omega) (by omega) (by omega) (by omega) e' hu'
  by_cases hbig:4294967296<=q
  ·simp only[q7S (H:=H2),T.z4U,p2,q0a,ifV,wp,dt hbig];exact step (z1S hun hu1 hbig hyp)
  ·have hm:=z3K hq (by omega) hy0 hy3;by_cases hgt:4294967296*r+un1<q*yn0
   ·simp only[q7S (H:=H2),T.z4U,p2,q0a,ifV,wp,df hbig,wrap_u64 (x:=q*yn0) hm.1 (by omega),wrap_u64 (x:=4294967296*r) (by omega) (by omega),wrap_u64 (x:=4294967296*r+un1) (by omega) (by omega),dt hgt];exact step (z6s hy e hgt)
   ·simp only[q7S (H:=H2),T.z4U,p2,q0a,ifV,wp,df hbig,wrap_u64 (x:=q*yn0) hm.1 (by omega),wrap_u64 (x:=4294967296*r) (by omega) (by omega),wrap_u64 (x:=4294967296*r+un1) (by omega) (by omega),df hgt];rw[q5O hy e (by omega) hu]
theorem z9f {y yn1 yn0 un un1:Int} (s q1:AV) (hy:y=yn1*4294967296+yn0) (hy1:2147483648<=yn1) (hy2:yn1<4294967296) (hy0:0<=yn0) (hy3:yn0<4294967296) (hun:un<y) (hu0:0<=un1) (hu1:un1<4294967296) (m:Mem) :
  ∀(d:Nat) (q r:Int),4294967296<=r+d*yn1->0<=q->q<=4294967297->0<=r->r<4294967296->q*yn1+r=un->un*4294967296+un1<(q+1)*y->
   D2.gor 679942 [.int .u64 y,s,.int .u64 yn1,.int .u64 yn0,.int .u64 un1,q1,.int .u64 r,.int .u64 un,.int .u64 q] m =
   D2.gor 679944 [.int .u64 y,s,.int .u64 un1,q1,.int .u64 un,.int .u64 ((un*4294967296+un1) / y)] m:=by
 intro d;induction d with
 |zero=>intro q r h;intros;omega
 |succ d ih=>
  intro q r hd hq hq2 hr hr2 e hu;have hyp:0<y:=by omega
  have step:(∀h:un*4294967296+un1<q*y,D2.gor 679943 [.int .u64 y,s,.int .u64 yn1,.int .u64 yn0,.int .u64 un1,q1,.int .u64 r,.int .u64 un,.int .u64 q] m =
    D2.gor 679944 [.int .u64 y,s,.int .u64 un1,q1,.int .u64 un,.int .u64 ((un*4294967296+un1) / y)] m):=by
   intro h;have hq1:1<=q:=by
    by_cases h0:q=0
    ·subst h0;simp only[Int.zero_mul]at h;have:0<=un:=by rw[<-e];omega
     omega
    ·omega
   have e':=q8X e;have hu':=z6t h;have hdm:((d+1:Nat):Int)*yn1=d*yn1+yn1:=by rw[Int.natCast_add,Int.add_mul];simp
   rw[hdm]at hd;by_cases hb:4294967296<=r+yn1
   ·simp only[z1H (H:=H2),T.j09,p2,q0a,wp,wrap_u64 (x:=q-1) (by omega) (by omega),wrap_u64 (x:=r+yn1) (by omega) (by omega),dt hb];rw[q5O hy e' (z1T hy (by omega) hy0 hy3 hun hu0 (by omega) e' hb) hu']
   ·simp only[z1H (H:=H2),T.j09,p2,q0a,wp,wrap_u64 (x:=q-1) (by omega) (by omega),wrap_u64 (x:=r+yn1) (by omega) (by omega),df hb];exact ih (q-1) (r+yn1) (by omega) (by omega) (by omega) (by omega) (by omega) e' hu'
  by_cases hbig:4294967296<=q
  ·simp only[q7T (H:=H2),T.z4V,p2,q0a,ifV,wp,dt hbig];exact step (z1S hun hu1 hbig hyp)
  ·have hm:=z3K hq (by omega) hy0 hy3;by_cases hgt:4294967296*r+un1<q*yn0
   ·simp only[q7T (H:=H2),T.z4V,p2,q0a,ifV,wp,df hbig,wrap_u64 (x:=q*yn0) hm.1 (by omega),wrap_u64 (x:=4294967296*r) (by omega) (by omega),wrap_u64 (x:=4294967296*r+un1) (by omega) (by omega),dt hgt];exact step (z6s hy e hgt)
   ·simp only[q7T (H:=H2),T.z4V,p2,q0a,ifV,wp,df hbig,wrap_u64 (x:=q*yn0) hm.1 (by omega),wrap_u64 (x:=4294967296*r) (by omega) (by omega),wrap_u64 (x:=4294967296*r+un1) (by omega) (by omega),df hgt];rw[q5O hy e (by omega) hu]
theorem j3D {hi lo y:Int} (h0:0<=hi) (hlt:hi<y) (hy:y<18446744073709551616) (hl:0<=lo) (hl2:lo<18446744073709551616) (m:Mem) :
  run E2 (.fn 166) [.int .u64 hi,.int .u64 lo,.int .u64 y] m=some (.tup [.int .u64 ((hi*18446744073709551616+lo) / y),.int .u64 ((hi*18446744073709551616+lo) % y)],m):=by
 have hyp:0<y:=by omega
 simp only[a0u (H:=H2) rfl,T.f166,p2,q1,q0a,wp,df (show ¬y=0 by omega)];simp only[j04 (H:=H2),T.j8O,p2,q1,q0a,wp,df (show ¬y<=hi by omega)];by_cases hz:hi=0
 ·subst hz;have g1:0<=lo / y/\lo / y<18446744073709551616:=⟨Int.ediv_nonneg hl (by omega),Int.lt_of_le_of_lt (Int.ediv_le_self _ hl) hl2⟩;simp only[z1F (H:=H2),T.j05,p2,q0a,wp,decide_true,q2D _ _ _ _ (show y≠0 by omega),q2a _ _ _ _ (show y≠0 by omega),Int.tdiv_eq_ediv_of_nonneg hl,Int.tmod_eq_emod_of_nonneg hl,wrap_u64 g1.1 g1.2,Int.zero_mul,Int.zero_add]
 ·simp only[z1F (H:=H2),T.j05,p2,q0a,wp,df hz];obtain⟨s,hs,hs2,hn1,hn2⟩:=b1V hyp hy m;obtain⟨pp,hpp⟩:∃pp:Int,pp=2 ^ s:=⟨_,rfl⟩;obtain⟨qq,hqq⟩:∃qq:Int,qq=2 ^ (64-s):=⟨_,rfl⟩;have hp0:0<pp:=by rw[hpp];exact Int.pow_pos (by omega)
  have hq0:0<qq:=by rw[hqq];exact Int.pow_pos (by omega)
  have hpq:pp*qq=18446744073709551616:=by
   rw[hpp,hqq,<-Int.pow_add,show s+(64-s)=64 by omega];rfl
  rw[<-hpp]at hn1 hn2;obtain⟨y',hy'⟩:∃y',y'=y*pp:=⟨_,rfl⟩;rw[<-hy']at hn1 hn2;have hhi:hi*pp<18446744073709551616:=by
   have:hi*pp<y*pp:=Int.mul_lt_mul_of_pos_right hlt hp0;omega
  have hhi0:0<=hi*pp:=Int.mul_nonneg h0 (by omega);have hb1:0<=lo / qq:=Int.ediv_nonneg hl (by omega);have hb2:lo / qq<pp:=Int.ediv_lt_of_lt_mul hq0 (by rw[hpq];exact hl2);have hb3:lo / qq<18446744073709551616:=Int.lt_of_le_of_lt (Int.ediv_le_self _ hl) hl2;have hor:q0S Tryz.prog .or 26 (.int .u64 (hi*pp)) (.int .u64 (lo / qq))=some (.int .u64 (hi*pp+lo / qq)):=by
   have e1:hi*pp=((hi.toNat*2 ^ s:Nat):Int):=by
    rw[hpp,Int.natCast_mul,Int.toNat_of_nonneg h0,Int.natCast_pow];rfl
   have e2:lo / qq=(((lo / qq).toNat:Nat):Int):=(Int.toNat_of_nonneg hb1).symm;have e3:((2 ^ s:Nat):Int)=pp:=by rw[hpp];exact Int.natCast_pow 2 s
   rw[e1,e2,a5d _ (by omega) (by omega) (by omega)];rfl
  obtain⟨un32,hun⟩:∃un32,un32=hi*pp+lo / qq:=⟨_,rfl⟩;obtain⟨un10,hun10⟩:∃un10,un10=(lo*pp) % 18446744073709551616:=⟨_,rfl⟩;have hM:=j3G hpq hp0 hq0 hun hun10;have hun10b:0<=un10/\un10<18446744073709551616:=by omega
  have hunlt:un32<y':=by rw[hy'];exact z3H (y:=y) hM hlt hl2 hp0 hun10b.1
  have hun0:0<=un32:=by omega
  obtain⟨yn1,hyn1⟩:∃yn1,yn1=y' / 4294967296:=⟨_,rfl⟩;obtain⟨yn0,hyn0⟩:∃yn0,yn0=y' % 4294967296:=⟨_,rfl⟩;have hyy:y'=yn1*4294967296+yn0:=by omega
  obtain⟨i1,i2,i3,i4,i5,i6⟩:=z1U (un:=un32) (u1:=un10 / 4294967296) hyy (by omega) (by omega) (by omega) hun0 hunlt (by omega);have i0:0<=un32 / yn1*yn1:=Int.mul_nonneg i1 (by omega);have k0:IntKind.wrap .u64 (s:Int)=s:=wrap_u64 (by omega) (by omega);have k1:IntKind.wrap .u64 (64-(s:Int))=((64-s:Nat):Int):=by rw[wrap_u64 (by omega) (by omega)];omega
  have t1:un32.tdiv yn1=un32 / yn1:=Int.tdiv_eq_ediv_of_nonneg hun0;have w1:IntKind.wrap .u64 (un32 / yn1)=un32 / yn1:=wrap_u64 (by omega) (by omega);have w2:IntKind.wrap .u64 (un32 / yn1*yn1)=un32 / yn1*yn1:=wrap_u64 (by omega) (by omega);have w3:IntKind.wrap .u64 (un32-un32 / yn1*yn1)=un32-un32 / yn1*yn1:=wrap_u64 (by omega) (by omega);have g2:D2.gor 679938 [.int .u64 hi,.int .u64 lo,.int .u64 y] m=D2.gor 679939 [.int .u64 y',.int .u64 (s:Int),.int .u64 yn1,.int .u64 yn0,.int .u64 un32,.int .u64 (un10 / 4294967296),.int .u64 (un10 % 4294967296),.int .u64 (un32 / yn1),.int .u64 (un32-un32 / yn1*yn1)] m:=by
   simp only[j06 (H:=H2),T.j8P,p1,p2,wp,hs,k0,k1,q9q _ s (show s<=64 by omega),<-hpp,<-hy',Int.emod_eq_of_lt (show 0<=y' by omega) hn2,q2w _ (show 0<=y' by omega),q5g _ (show 0<=y' by omega) hn2,Int.emod_eq_of_lt hhi0 hhi,q9r _ (64-s) (show 64-s<=64 by omega),<-hqq,hor,<-hun,<-hun10,q2w _ hun10b.1,q5g _ hun10b.1 hun10b.2,<-hyn1,<-hyn0,q2D _ _ _ _ (show yn1≠0 by omega),t1,w1,w2,w3]
  rw[g2,z9e (.int .u64 (s:Int)) (.int .u64 (un10 % 4294967296)) hyy (by omega) (by omega) (by omega) (by omega) hunlt (by omega) (by omega) m 2 _ _ (by omega) i1 i2 i4 (by omega) i3 i6];obtain⟨q1,hq1⟩:∃q1,q1=(un32*4294967296+un10 / 4294967296) / y':=⟨_,rfl⟩;obtain⟨r1,hr1⟩:∃r1,r1=(un32*4294967296+un10 / 4294967296) % y':=⟨_,rfl⟩;have hqr:un32*4294967296+un10 / 4294967296=q1*y'+r1:=by rw[hq1,hr1];exact(Int.ediv_mul_add_emod _ _).symm
  have hr1b:0<=r1/\r1<y':=by rw[hr1];exact⟨Int.emod_nonneg _ (by omega),Int.emod_lt_of_pos _ (by omega)⟩
  have hq1b:0<=q1/\q1<4294967296:=by
   rw[hq1];exact⟨Int.ediv_nonneg (by omega) (by omega),Int.ediv_lt_of_lt_mul (by omega) (by omega)⟩
  rw[<-hq1];have hr1w:IntKind.wrap .u64 (IntKind.wrap .u64 (IntKind.wrap .u64 (un32*4294967296)+un10 / 4294967296)-IntKind.wrap .u64 (q1*y'))=r1:=by
   simp only[q0n];omega
  obtain⟨j1,j2,j3,j4,j5,j6⟩:=z1U (un:=r1) (u1:=un10 % 4294967296) hyy (by omega) (by omega) (by omega) hr1b.1 hr1b.2 (by omega);have j0:0<=r1 / yn1*yn1:=Int.mul_nonneg j1 (by omega);have t2:r1.tdiv yn1=r1 / yn1:=Int.tdiv_eq_ediv_of_nonneg hr1b.1;have v1:IntKind.wrap .u64 (r1 / yn1)=r1 / yn1:=wrap_u64 (by omega) (by omega);have v2:IntKind.wrap .u64 (r1 / yn1*yn1)=r1 / yn1*yn1:=wrap_u64 (by omega) (by omega)
  have v3:IntKind.wrap .u64 (r1-r1 / yn1*yn1)=r1-r1 / yn1*yn1:=wrap_u64 (by omega) (by omega);simp only[j08 (H:=H2),T.j8Q,p2,wp,hr1w,q2D _ _ _ _ (show yn1≠0 by omega),t2,v1,v2,v3];rw[z9f (.int .u64 (s:Int)) (.int .u64 q1) hyy (by omega) (by omega) (by omega) (by omega) hr1b.2 (by omega) (by omega) m 2 _ _ (by omega) j1 j2 j4 (by omega) j3 j6];obtain⟨q0,hq0'⟩:∃q0,q0=(r1*4294967296+un10 % 4294967296) / y':=⟨_,rfl⟩
  obtain⟨r0,hr0⟩:∃r0,r0=(r1*4294967296+un10 % 4294967296) % y':=⟨_,rfl⟩;have hqr0:r1*4294967296+un10 % 4294967296=q0*y'+r0:=by rw[hq0',hr0];exact(Int.ediv_mul_add_emod _ _).symm
  have hr0b:0<=r0/\r0<y':=by rw[hr0];exact⟨Int.emod_nonneg _ (by omega),Int.emod_lt_of_pos _ (by omega)⟩
  have hq0b:0<=q0/\q0<4294967296:=by
   rw[hq0'];exact⟨Int.ediv_nonneg (by omega) (by omega),Int.ediv_lt_of_lt_mul (by omega) (by omega)⟩
  rw[<-hq0'];obtain⟨f1,f2⟩:=j3F (un32:=un32) (un10:=un10) (y:=y') (q1:=q1) (r1:=r1) (q0:=q0) (r0:=r0) (by omega) hqr hqr0 hr0b.1 hr0b.2;rw[<-hM,hy']at f1 f2;obtain⟨b1,b2⟩:=j3E (n:=hi*18446744073709551616+lo) (y:=y) hp0;rw[b1]at f1;rw[f2]at b2;have hr0w:IntKind.wrap .u64 (IntKind.wrap .u64 (IntKind.wrap .u64 (r1*4294967296)+un10 % 4294967296)-IntKind.wrap .u64 (q0*y'))=r0:=by
   simp only[q0n];omega
  simp only[j1a (H:=H2),T.j8R,p2,wp,wrap_u64 (x:=q1*4294967296) (by omega) (by omega),wrap_u64 (x:=q1*4294967296+q0) (by omega) (by omega),hr0w,q9r _ s (show s<=64 by omega),<-hpp,b2,f1]
end
end Go.Proofs.YtlginbmjiecglaaGreatDoor
