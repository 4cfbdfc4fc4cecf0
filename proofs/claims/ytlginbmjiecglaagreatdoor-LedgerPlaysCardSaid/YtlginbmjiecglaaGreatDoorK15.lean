/- Texts of one claim, put together. -/
import Derived.Test.YtlginbmjiecglaaGreatDoorK14
namespace Go.Proofs.YtlginbmjiecglaaGreatDoor
section
open Go Go.Abs Go.Proofs.YtlginbmjiecglaaGreatDoor.T
set_option maxRecDepth 10000
theorem i0 {H:FuncId->Option (List AV->Mem->R)} {g:List AV->CM} {k:Nat} (h:T.OkG H g k) (n:∀_:Unit,g []≠.fail) (m:Mem):(T.Rl H).gor k [] m=q0j (T.Rl H) (g []) m:=(h _ m).resolve_right (n ())
theorem j0 {H:FuncId->Option (List AV->Mem->R)} {g:List AV->CM} {k:Nat} (h:T.OkF H g k) (n:∀_:Unit,g []≠.fail) (m:Mem):run (T.EH H) (.fn k) [] m=q0j (T.Rl H) (g []) m:=(h _ m).resolve_right (n ())
theorem i1 {H:FuncId->Option (List AV->Mem->R)} {g:List AV->CM} {k:Nat} (h:T.OkG H g k) (n:∀u:AV,g [u]≠.fail) (u:AV) (m:Mem):(T.Rl H).gor k [u] m=q0j (T.Rl H) (g [u]) m:=(h _ m).resolve_right (n _)
theorem j1 {H:FuncId->Option (List AV->Mem->R)} {g:List AV->CM} {k:Nat} (h:T.OkF H g k) (n:∀u:AV,g [u]≠.fail) (u:AV) (m:Mem):run (T.EH H) (.fn k) [u] m=q0j (T.Rl H) (g [u]) m:=(h _ m).resolve_right (n _)
theorem i2 {H:FuncId->Option (List AV->Mem->R)} {g:List AV->CM} {k:Nat} (h:T.OkG H g k) (n:∀u v:AV,g [u,v]≠.fail) (u v:AV) (m:Mem):(T.Rl H).gor k [u,v] m=q0j (T.Rl H) (g [u,v]) m:=(h _ m).resolve_right (n _ _)
theorem j2 {H:FuncId->Option (List AV->Mem->R)} {g:List AV->CM} {k:Nat} (h:T.OkF H g k) (n:∀u v:AV,g [u,v]≠.fail) (u v:AV) (m:Mem):run (T.EH H) (.fn k) [u,v] m=q0j (T.Rl H) (g [u,v]) m:=(h _ m).resolve_right (n _ _)
theorem i3 {H:FuncId->Option (List AV->Mem->R)} {g:List AV->CM} {k:Nat} (h:T.OkG H g k) (n:∀u v w:AV,g [u,v,w]≠.fail) (u v w:AV) (m:Mem):(T.Rl H).gor k [u,v,w] m=q0j (T.Rl H) (g [u,v,w]) m:=(h _ m).resolve_right (n _ _ _)
theorem j3 {H:FuncId->Option (List AV->Mem->R)} {g:List AV->CM} {k:Nat} (h:T.OkF H g k) (n:∀u v w:AV,g [u,v,w]≠.fail) (u v w:AV) (m:Mem):run (T.EH H) (.fn k) [u,v,w] m=q0j (T.Rl H) (g [u,v,w]) m:=(h _ m).resolve_right (n _ _ _)
theorem i4 {H:FuncId->Option (List AV->Mem->R)} {g:List AV->CM} {k:Nat} (h:T.OkG H g k) (n:∀u v w x:AV,g [u,v,w,x]≠.fail) (u v w x:AV) (m:Mem):(T.Rl H).gor k [u,v,w,x] m=q0j (T.Rl H) (g [u,v,w,x]) m:=(h _ m).resolve_right (n _ _ _ _)
theorem j4 {H:FuncId->Option (List AV->Mem->R)} {g:List AV->CM} {k:Nat} (h:T.OkF H g k) (n:∀u v w x:AV,g [u,v,w,x]≠.fail) (u v w x:AV) (m:Mem):run (T.EH H) (.fn k) [u,v,w,x] m=q0j (T.Rl H) (g [u,v,w,x]) m:=(h _ m).resolve_right (n _ _ _ _)
theorem i5 {H:FuncId->Option (List AV->Mem->R)} {g:List AV->CM} {k:Nat} (h:T.OkG H g k) (n:∀u v w x y:AV,g [u,v,w,x,y]≠.fail) (u v w x y:AV) (m:Mem):(T.Rl H).gor k [u,v,w,x,y] m=q0j (T.Rl H) (g [u,v,w,x,y]) m:=(h _ m).resolve_right (n _ _ _ _ _)
theorem j5 {H:FuncId->Option (List AV->Mem->R)} {g:List AV->CM} {k:Nat} (h:T.OkF H g k) (n:∀u v w x y:AV,g [u,v,w,x,y]≠.fail) (u v w x y:AV) (m:Mem):run (T.EH H) (.fn k) [u,v,w,x,y] m=q0j (T.Rl H) (g [u,v,w,x,y]) m:=(h _ m).resolve_right (n _ _ _ _ _)
theorem i6 {H:FuncId->Option (List AV->Mem->R)} {g:List AV->CM} {k:Nat} (h:T.OkG H g k) (n:∀u v w x y z:AV,g [u,v,w,x,y,z]≠.fail) (u v w x y z:AV) (m:Mem):(T.Rl H).gor k [u,v,w,x,y,z] m=q0j (T.Rl H) (g [u,v,w,x,y,z]) m:=(h _ m).resolve_right (n _ _ _ _ _ _)
theorem j6 {H:FuncId->Option (List AV->Mem->R)} {g:List AV->CM} {k:Nat} (h:T.OkF H g k) (n:∀u v w x y z:AV,g [u,v,w,x,y,z]≠.fail) (u v w x y z:AV) (m:Mem):run (T.EH H) (.fn k) [u,v,w,x,y,z] m=q0j (T.Rl H) (g [u,v,w,x,y,z]) m:=(h _ m).resolve_right (n _ _ _ _ _ _)
variable {H:FuncId->Option (List AV->Mem->R)}
theorem a0V:IG4 H b1A 20480:=gk4 fun _ _ _ _ _=>by kernel_rfl
theorem z3f:IG4 H b0x 20481:=gk4 fun _ _ _ _ _=>by kernel_rfl
theorem a0W:IG4 H b1B 20482:=gk4 fun _ _ _ _ _=>by kernel_rfl
theorem a0X:IG4 H b1C 20483:=gk4 fun _ _ _ _ _=>by kernel_rfl
theorem a0Y:IG2 H b1D 20484:=gk2 fun _ _ _=>by kernel_rfl
theorem b0R (h:H 5=none):IF3 H f5 5:=fk3 h rfl fun _ _ _ _=>by kernel_rfl
theorem b0S (h:H 8=none):IF1 H f8 8:=fk1 h rfl fun _ _=>by kernel_rfl
theorem q9P:IG4 H a8p 36864:=gk4 fun _ _ _ _ _=>by kernel_rfl
theorem q3A:IG4 H j25 36865:=gk4 fun _ _ _ _ _=>by kernel_rfl
theorem a1g:IG4 H b1E 36866:=gk4 fun _ _ _ _ _=>by kernel_rfl
theorem a1h:IG2 H b1F 36867:=gk2 fun _ _ _=>by kernel_rfl
theorem b0T (h:H 9=none):IF2 H f9 9:=fk2 h rfl fun _ _ _=>by kernel_rfl
theorem z4z:IG1 H a0l 40960:=gk1 fun _ _=>by kernel_rfl
theorem a4I (h:H 10=none):IF2 H f10 10:=fk2 h rfl fun _ _ _=>by kernel_rfl
theorem j3A:IG2 H a6x 49152:=gk2 fun _ _ _=>by kernel_rfl
theorem j3B:IG2 H a6y 49153:=gk2 fun _ _ _=>by kernel_rfl
theorem z4B:IG5 H a0m 49154:=gk5 fun _ _ _ _ _ _=>by kernel_rfl
theorem j3C:IG5 H a6z 49155:=gk5 fun _ _ _ _ _ _=>by kernel_rfl
theorem j3D:IG5 H a6A 49156:=gk5 fun _ _ _ _ _ _=>by kernel_rfl
theorem j3E:IG2 H a6B 49157:=gk2 fun _ _ _=>by kernel_rfl
theorem z4C:IG5 H a0n 49158:=gk5 fun _ _ _ _ _ _=>by kernel_rfl
theorem j3F:IG5 H a6C 49159:=gk5 fun _ _ _ _ _ _=>by kernel_rfl
theorem j3G:IG5 H a6D 49160:=gk5 fun _ _ _ _ _ _=>by kernel_rfl
theorem j3H:IG2 H a6E 49161:=gk2 fun _ _ _=>by kernel_rfl
theorem z1a:IG5 H z92 49162:=gk5 fun _ _ _ _ _ _=>by kernel_rfl
theorem z94:IG5 H j7R 49163:=gk5 fun _ _ _ _ _ _=>by kernel_rfl
theorem z95:IG5 H j7S 49164:=gk5 fun _ _ _ _ _ _=>by kernel_rfl
theorem z96:IG2 H j7T 49165:=gk2 fun _ _ _=>by kernel_rfl
theorem a4J (h:H 12=none):IF2 H f12 12:=fk2 h rfl fun _ _ _=>by kernel_rfl
theorem j5Y (h:H 13=some (q7x (.bool true))) (m:Mem):run (T.EH H) (.fn 13) [] m=some (.bool true,m):=q08 (h:=q7x (.bool true)) h [] m
theorem j3J:IG1 H a6G 57344:=gk1 fun _ _=>by kernel_rfl
theorem z4F:IG4 H a0o 57345:=gk4 fun _ _ _ _ _=>by kernel_rfl
theorem q3a:IG4 H q9x 57346:=gk4 fun _ _ _ _ _=>by kernel_rfl
theorem j3K:IG4 H a6H 57347:=gk4 fun _ _ _ _ _=>by kernel_rfl
theorem q9y:IG1 H j3L 57348:=gk1 fun _ _=>by kernel_rfl
theorem j3M:IG1 H a6I 57349:=gk1 fun _ _=>by kernel_rfl
theorem q9z:IG4 H j3N 57350:=gk4 fun _ _ _ _ _=>by kernel_rfl
theorem z4G:IG4 H a0p 57351:=gk4 fun _ _ _ _ _=>by kernel_rfl
theorem j3O:IG4 H a6J 57352:=gk4 fun _ _ _ _ _=>by kernel_rfl
theorem j3P:IG0 H a6K 57353:=gk0 fun _=>by kernel_rfl
theorem z0U (h:H 14=none):IF2 H f14 14:=fk2 h rfl fun _ _ _=>by kernel_rfl
theorem j3Q:IG2 H a6L 61440:=gk2 fun _ _ _=>by kernel_rfl
theorem z4H:IG3 H a0q 61441:=gk3 fun _ _ _ _=>by kernel_rfl
theorem j3R:IG3 H a6M 61442:=gk3 fun _ _ _ _=>by kernel_rfl
theorem j3S:IG3 H a6N 61443:=gk3 fun _ _ _ _=>by kernel_rfl
theorem j3T:IG2 H a6O 61444:=gk2 fun _ _ _=>by kernel_rfl
theorem z4I:IG3 H a0r 61445:=gk3 fun _ _ _ _=>by kernel_rfl
theorem j3U:IG3 H a6P 61446:=gk3 fun _ _ _ _=>by kernel_rfl
theorem j3V:IG3 H a6Q 61447:=gk3 fun _ _ _ _=>by kernel_rfl
theorem j3W:IG2 H a6R 61448:=gk2 fun _ _ _=>by kernel_rfl
theorem z4J:IG3 H a0s 61449:=gk3 fun _ _ _ _=>by kernel_rfl
theorem j0B:IG3 H j8b 61450:=gk3 fun _ _ _ _=>by kernel_rfl
theorem j0C:IG3 H j8c 61451:=gk3 fun _ _ _ _=>by kernel_rfl
theorem j0D:IG0 H j8d 61452:=gk0 fun _=>by kernel_rfl
theorem a4L (h:H 15=none):IF2 H f15 15:=fk2 h rfl fun _ _ _=>by kernel_rfl
theorem j3X:b0I H a6S 65536:=b1G fun _ _ _ _ _ _ _ _ _ _ _=>by kernel_rfl
theorem j3Y:IG7 H a6T 65538:=gk7 fun _ _ _ _ _ _ _ _=>by kernel_rfl
theorem j3Z:IG8 H a6U 65539:=gk8 fun _ _ _ _ _ _ _ _ _=>by kernel_rfl
theorem j30:IG5 H a6V 65541:=gk5 fun _ _ _ _ _ _=>by kernel_rfl
theorem j31:IG5 H a6W 65542:=gk5 fun _ _ _ _ _ _=>by kernel_rfl
theorem j32:IG2 H a6X 65544:=gk2 fun _ _ _=>by kernel_rfl
theorem q90 (t0 t2 t3 u3 t7 t9 u6 u7 t34 t47:AV) (m:Mem):(T.Rl H).afr 65536 none [t0,t2,t3,u3,t7,t9,u6,u7,t34,t47] m=q0j (T.Rl H) (q6k [t0,t2,t3,u3,t7,t9,u6,u7,t34,t47]) m:=(q91 (H:=H) [t0,t2,t3,u3,t7,t9,u6,u7,t34,t47] m).resolve_right nofun
theorem q92 (t0 t2 t3 u3 t9 u5 u6 t47:AV) (m:Mem):(T.Rl H).afr 65537 none [t0,t2,t3,u3,t9,u5,u6,t47] m=q0j (T.Rl H) (q6l [t0,t2,t3,u3,t9,u5,u6,t47]) m:=(q93 (H:=H) [t0,t2,t3,u3,t9,u5,u6,t47] m).resolve_right nofun
theorem q94 (t2 t3 u2 u3 u4:AV) (m:Mem):(T.Rl H).afr 65538 none [t2,t3,u2,u3,u4] m=q0j (T.Rl H) (q6m [t2,t3,u2,u3,u4]) m:=(q95 (H:=H) [t2,t3,u2,u3,u4] m).resolve_right nofun
theorem a4M (h:H 16=none):IF1 H f16 16:=fk1 h rfl fun _ _=>by kernel_rfl
theorem j33:IG3 H a6Y 69632:=gk3 fun _ _ _ _=>by kernel_rfl
theorem j60 (h:H 17=none):IF2 H f17 17:=fk2 h rfl fun _ _ _=>by kernel_rfl
theorem q61:IG5 H j06 77824:=gk5 fun _ _ _ _ _ _=>by kernel_rfl
theorem q62:IG5 H j07 77825:=gk5 fun _ _ _ _ _ _=>by kernel_rfl
theorem q63:IG4 H j08 77826:=gk4 fun _ _ _ _ _=>by kernel_rfl
theorem q64:IG1 H j09 77827:=gk1 fun _ _=>by kernel_rfl
theorem a4O (h:H 19=none):IF4 H f19 19:=fk4 h rfl fun _ _ _ _ _=>by kernel_rfl
theorem z4M:IG0 H a0t 81920:=gk0 fun _=>by kernel_rfl
theorem a4P (h:H 20=none):IF2 H f20 20:=fk2 h rfl fun _ _ _=>by kernel_rfl
abbrev j34:=i3 (z4N (H:=H)) fun _ _ _=>nofun
abbrev a4Q (h:H 21=none):=j2 (j61 h) fun _ _=>nofun
abbrev j35:=i3 (z4O (H:=H)) fun _ _ _=>nofun
abbrev a4R (h:H 22=none):=j2 (j62 h) fun _ _=>nofun
theorem q5x:IG2 H z7d 94208:=gk2 fun _ _ _=>by kernel_rfl
theorem q4R (h:H 23=none):IF3 H f23 23:=fk3 h rfl fun _ _ _ _=>by kernel_rfl
theorem z4P:IG3 H a0w 98304:=gk3 fun _ _ _ _=>by kernel_rfl
theorem z4Q:IG2 H a0x 98305:=gk2 fun _ _ _=>by kernel_rfl
theorem j36:IG2 H a6Z 98306:=gk2 fun _ _ _=>by kernel_rfl
theorem j64 (h:H 24=none):IF2 H f24 24:=fk2 h rfl fun _ _ _=>by kernel_rfl
theorem q5y:IG2 H z7e 106496:=gk2 fun _ _ _=>by kernel_rfl
theorem z0V (h:H 26=none):IF1 H f26 26:=fk1 h rfl fun _ _=>by kernel_rfl
theorem j37:IG3 H a7a 110592:=gk3 fun _ _ _ _=>by kernel_rfl
theorem q9A:IG4 H j38 110593:=gk4 fun _ _ _ _ _=>by kernel_rfl
theorem j39:IG4 H a7b 110594:=gk4 fun _ _ _ _ _=>by kernel_rfl
theorem j4a:IG4 H a7c 110595:=gk4 fun _ _ _ _ _=>by kernel_rfl
theorem z0W (h:H 27=none):IF3 H f27 27:=fk3 h rfl fun _ _ _ _=>by kernel_rfl
theorem q9B:IG2 H j4b 114688:=gk2 fun _ _ _=>by kernel_rfl
theorem j4c:IG2 H a7d 114689:=gk2 fun _ _ _=>by kernel_rfl
theorem z4q (h:H 28=none):IF2 H f28 28:=fk2 h rfl fun _ _ _=>by kernel_rfl
theorem q65:IG3 H j1a 118784:=gk3 fun _ _ _ _=>by kernel_rfl
theorem q9C:IG3 H j4d 118785:=gk3 fun _ _ _ _=>by kernel_rfl
theorem j4e:IG5 H a7e 118786:=gk5 fun _ _ _ _ _ _=>by kernel_rfl
theorem z0X (h:H 29=none):IF3 H f29 29:=fk3 h rfl fun _ _ _ _=>by kernel_rfl
theorem a4S (h:H 30=none):IF3 H f30 30:=fk3 h rfl fun _ _ _ _=>by kernel_rfl
theorem q66:IG3 H j1b 126976:=gk3 fun _ _ _ _=>by kernel_rfl
theorem q9D:IG3 H j4f 126977:=gk3 fun _ _ _ _=>by kernel_rfl
theorem z4R:IG4 H a0y 126978:=gk4 fun _ _ _ _ _=>by kernel_rfl
theorem j4g:IG5 H a7f 126979:=gk5 fun _ _ _ _ _ _=>by kernel_rfl
theorem z0Y (h:H 31=none):IF3 H f31 31:=fk3 h rfl fun _ _ _ _=>by kernel_rfl
theorem q4u:IG4 H z3b 131072:=gk4 fun _ _ _ _ _=>by kernel_rfl
theorem q5A:IG4 H z7f 131073:=gk4 fun _ _ _ _ _=>by kernel_rfl
theorem q67:IG4 H j1c 131074:=gk4 fun _ _ _ _ _=>by kernel_rfl
theorem q9E:IG4 H j4h 131075:=gk4 fun _ _ _ _ _=>by kernel_rfl
theorem z4S:IG4 H a0z 131076:=gk4 fun _ _ _ _ _=>by kernel_rfl
theorem j4i:IG5 H a7g 131077:=gk5 fun _ _ _ _ _ _=>by kernel_rfl
theorem q6C (h:H 32=none):IF4 H f32 32:=fk4 h rfl fun _ _ _ _ _=>by kernel_rfl
theorem q68:IG4 H j1d 135168:=gk4 fun _ _ _ _ _=>by kernel_rfl
theorem q9F:IG4 H j4j 135169:=gk4 fun _ _ _ _ _=>by kernel_rfl
theorem z4T:IG4 H a0A 135170:=gk4 fun _ _ _ _ _=>by kernel_rfl
theorem j4k:IG4 H a7h 135171:=gk4 fun _ _ _ _ _=>by kernel_rfl
theorem q5B:IG5 H z7g 135172:=gk5 fun _ _ _ _ _ _=>by kernel_rfl
theorem j4l:IG5 H a7i 135173:=gk5 fun _ _ _ _ _ _=>by kernel_rfl
theorem j4m:IG5 H a7j 135174:=gk5 fun _ _ _ _ _ _=>by kernel_rfl
theorem q8K (h:H 33=none):IF4 H f33 33:=fk4 h rfl fun _ _ _ _ _=>by kernel_rfl
theorem z4U:IG5 H a0B 139264:=gk5 fun _ _ _ _ _ _=>by kernel_rfl
theorem q5C:IG7 H z7h 139265:=gk7 fun _ _ _ _ _ _ _ _=>by kernel_rfl
theorem q69:IG8 H j1e 139266:=gk8 fun _ _ _ _ _ _ _ _ _=>by kernel_rfl
theorem q9G:IG7 H j4n 139267:=gk7 fun _ _ _ _ _ _ _ _=>by kernel_rfl
theorem z4V:IG7 H a0C 139268:=gk7 fun _ _ _ _ _ _ _ _=>by kernel_rfl
theorem q7a:IG7 H j1f 139269:=gk7 fun _ _ _ _ _ _ _ _=>by kernel_rfl
theorem j4o:b0I H a7k 139270:=b1G fun _ _ _ _ _ _ _ _ _ _ _=>by kernel_rfl
theorem z4r (h:H 34=none):IF4 H f34 34:=fk4 h rfl fun _ _ _ _ _=>by kernel_rfl
theorem j4p:IG1 H a7l 143360:=gk1 fun _ _=>by kernel_rfl
theorem q7b:IG2 H j1g 143361:=gk2 fun _ _ _=>by kernel_rfl
theorem q9H:IG2 H j4q 143362:=gk2 fun _ _ _=>by kernel_rfl
theorem q9I:IG2 H j4r 143363:=gk2 fun _ _ _=>by kernel_rfl
theorem j4s:IG0 H a7m 143364:=gk0 fun _=>by kernel_rfl
theorem j65 (h:H 35=none):IF1 H f35 35:=fk1 h rfl fun _ _=>by kernel_rfl
theorem z4W:IG3 H a0D 147456:=gk3 fun _ _ _ _=>by kernel_rfl
theorem j4t:IG3 H a7n 147457:=gk3 fun _ _ _ _=>by kernel_rfl
theorem j4u:IG3 H a7o 147458:=gk3 fun _ _ _ _=>by kernel_rfl
theorem j4v:IG0 H a7p 147459:=gk0 fun _=>by kernel_rfl
theorem a4T (h:H 36=none):IF2 H f36 36:=fk2 h rfl fun _ _ _=>by kernel_rfl
theorem q9J:IG1 H j4w 151552:=gk1 fun _ _=>by kernel_rfl
theorem j4x:IG0 H a7q 151553:=gk0 fun _=>by kernel_rfl
theorem z4s (h:H 37=none):IF1 H f37 37:=fk1 h rfl fun _ _=>by kernel_rfl
abbrev j4y:=i1 (z4X (H:=H)) fun _=>nofun
abbrev a4U (h:H 38=none):=j1 (j66 h) fun _=>nofun
abbrev z4Y:=i0 (z4Z (H:=H)) fun _=>nofun
abbrev z9u (h:H 39=none):=j3 (j67 h) fun _ _ _=>nofun
theorem z5a:IG0 H a0F 163840:=gk0 fun _=>by kernel_rfl
theorem z9v (h:H 40=none):IF3 H f40 40:=fk3 h rfl fun _ _ _ _=>by kernel_rfl
abbrev z5b:=i0 (z5c (H:=H)) fun _=>nofun
abbrev z9w (h:H 41=none):=j3 (j68 h) fun _ _ _=>nofun
abbrev j4B:=i0 (z5d (H:=H)) fun _=>nofun
abbrev j69 (h:H 42=none):=j3 (j7a h) fun _ _ _=>nofun
abbrev j4C:=i2 (z5e (H:=H)) fun _ _=>nofun
abbrev j4D:=i2 (z5f (H:=H)) fun _ _=>nofun
abbrev a4V (h:H 43=none):=j2 (j7b h) fun _ _=>nofun
abbrev q5D:=i5 (z5g (H:=H)) fun _ _ _ _ _=>nofun
abbrev q5E:=i4 (z5h (H:=H)) fun _ _ _ _=>nofun
abbrev q5F:=i1 (z5i (H:=H)) fun _=>nofun
abbrev z0Z (h:H 44=none):=j3 (j7c h) fun _ _ _=>nofun
abbrev j4E:=i2 (z5j (H:=H)) fun _ _=>nofun
abbrev j7d (h:H 45=none):=j2 (j7e h) fun _ _=>nofun
abbrev z5k:=i2 (z5l (H:=H)) fun _ _=>nofun
abbrev j4G:=i2 (z5m (H:=H)) fun _ _=>nofun
abbrev j4H:=i2 (z5n (H:=H)) fun _ _=>nofun
abbrev j4I:=i1 (z5o (H:=H)) fun _=>nofun
abbrev a4W (h:H 46=none):=j1 (j7f h) fun _=>nofun
theorem q5G:IG4 H z7i 192512:=gk4 fun _ _ _ _ _=>by kernel_rfl
theorem q7c:IG4 H j1h 192513:=gk4 fun _ _ _ _ _=>by kernel_rfl
theorem q3b:IG6 H q9K 192514:=gk6 fun _ _ _ _ _ _ _=>by kernel_rfl
theorem j4J:IG4 H a7r 192515:=gk4 fun _ _ _ _ _=>by kernel_rfl
theorem j4K:IG0 H a7s 192516:=gk0 fun _=>by kernel_rfl
theorem a4X (h:H 47=none):IF1 H f47 47:=fk1 h rfl fun _ _=>by kernel_rfl
theorem z5p:IG5 H a0N 196608:=gk5 fun _ _ _ _ _ _=>by kernel_rfl
theorem q5H:IG5 H z7j 196609:=gk5 fun _ _ _ _ _ _=>by kernel_rfl
theorem j4L:IG5 H a7t 196610:=gk5 fun _ _ _ _ _ _=>by kernel_rfl
theorem j4M:IG5 H a7u 196611:=gk5 fun _ _ _ _ _ _=>by kernel_rfl
theorem j4N:IG1 H a7v 196612:=gk1 fun _ _=>by kernel_rfl
theorem a4Y (h:H 48=none):IF1 H f48 48:=fk1 h rfl fun _ _=>by kernel_rfl
theorem z5q:IG6 H a0O 200704:=gk6 fun _ _ _ _ _ _ _=>by kernel_rfl
theorem z5r:IG6 H a0P 200705:=gk6 fun _ _ _ _ _ _ _=>by kernel_rfl
theorem j4O:IG6 H a7w 200706:=gk6 fun _ _ _ _ _ _ _=>by kernel_rfl
theorem j4P:IG3 H a7x 200707:=gk3 fun _ _ _ _=>by kernel_rfl
theorem z5s:IG5 H a0Q 200708:=gk5 fun _ _ _ _ _ _=>by kernel_rfl
theorem z5t:IG5 H a0R 200709:=gk5 fun _ _ _ _ _ _=>by kernel_rfl
theorem z5u:IG6 H a0S 200710:=gk6 fun _ _ _ _ _ _ _=>by kernel_rfl
theorem j4Q:IG5 H a7y 200711:=gk5 fun _ _ _ _ _ _=>by kernel_rfl
theorem j4R:IG1 H a7z 200712:=gk1 fun _ _=>by kernel_rfl
theorem a4Z (h:H 49=none):IF2 H f49 49:=fk2 h rfl fun _ _ _=>by kernel_rfl
theorem a5a (h:H 50=none):IF1 H f50 50:=fk1 h rfl fun _ _=>by kernel_rfl
theorem a5b (h:H 51=none):IF1 H f51 51:=fk1 h rfl fun _ _=>by kernel_rfl
theorem a5c (h:H 52=none):IF1 H f52 52:=fk1 h rfl fun _ _=>by kernel_rfl
abbrev j4S:=i4 (z5v (H:=H)) fun _ _ _ _=>nofun
abbrev j7g (h:H 53=none):=j2 (j7h h) fun _ _=>nofun
abbrev a5d (h:H 54=none):=j1 (j7i h) fun _=>nofun
abbrev j4T:=i0 (z5w (H:=H)) fun _=>nofun
abbrev z9x (h:H 55=none):=j2 (j7j h) fun _ _=>nofun
theorem a5e (h:H 56=none):IF2 H f56 56:=fk2 h rfl fun _ _ _=>by kernel_rfl
abbrev q9L:=i4 (z5x (H:=H)) fun _ _ _ _=>nofun
abbrev q5m (h:H 57=none):=j3 (j7k h) fun _ _ _=>nofun
abbrev a5f (h:H 58=none):=j2 (j7l h) fun _ _=>nofun
theorem q4v:IG5 H z3g 249856:=gk5 fun _ _ _ _ _ _=>by kernel_rfl
theorem q4w:IG5 H z3h 249857:=gk5 fun _ _ _ _ _ _=>by kernel_rfl
theorem q4x:IG4 H z3i 249858:=gk4 fun _ _ _ _ _=>by kernel_rfl
theorem q4y:IG1 H z3j 249859:=gk1 fun _ _=>by kernel_rfl
theorem q8L (h:H 61=none):IF3 H f61 61:=fk3 h rfl fun _ _ _ _=>by kernel_rfl
theorem z5y:IG4 H a0Z 253952:=gk4 fun _ _ _ _ _=>by kernel_rfl
theorem j4U:IG4 H a7A 253953:=gk4 fun _ _ _ _ _=>by kernel_rfl
theorem z00 (h:H 62=none):IF4 H f62 62:=fk4 h rfl fun _ _ _ _ _=>by kernel_rfl
theorem q9M:IG8 H j4V 258048:=gk8 fun _ _ _ _ _ _ _ _ _=>by kernel_rfl
theorem z5z:IG8 H a00 258049:=gk8 fun _ _ _ _ _ _ _ _ _=>by kernel_rfl
theorem q7d:IG8 H j1j 258050:=gk8 fun _ _ _ _ _ _ _ _ _=>by kernel_rfl
theorem q7e:IG7 H j1k 258051:=gk7 fun _ _ _ _ _ _ _ _=>by kernel_rfl
theorem z5A:IG7 H a01 258052:=gk7 fun _ _ _ _ _ _ _ _=>by kernel_rfl
theorem j4W:IG6 H a7B 258053:=gk6 fun _ _ _ _ _ _ _=>by kernel_rfl
theorem a5g (h:H 63=none):IF4 H f63 63:=fk4 h rfl fun _ _ _ _ _=>by kernel_rfl
theorem j4X:IG3 H a7C 262144:=gk3 fun _ _ _ _=>by kernel_rfl
theorem j7m (h:H 64=none):IF2 H f64 64:=fk2 h rfl fun _ _ _=>by kernel_rfl
theorem j4Y:IG3 H a7D 266240:=gk3 fun _ _ _ _=>by kernel_rfl
theorem j7n (h:H 65=none):IF2 H f65 65:=fk2 h rfl fun _ _ _=>by kernel_rfl
theorem j4Z:IG3 H a7E 270336:=gk3 fun _ _ _ _=>by kernel_rfl
theorem z4t (h:H 66=none):IF3 H f66 66:=fk3 h rfl fun _ _ _ _=>by kernel_rfl
theorem z5B:IG4 H a02 274432:=gk4 fun _ _ _ _ _=>by kernel_rfl
theorem j40:IG4 H a7F 274433:=gk4 fun _ _ _ _ _=>by kernel_rfl
theorem z4u (h:H 67=none):IF3 H f67 67:=fk3 h rfl fun _ _ _ _=>by kernel_rfl
theorem j41:IG4 H a7G 278528:=gk4 fun _ _ _ _ _=>by kernel_rfl
theorem z9y (h:H 68=none):IF1 H f68 68:=fk1 h rfl fun _ _=>by kernel_rfl
theorem z5C:IG3 H a03 282624:=gk3 fun _ _ _ _=>by kernel_rfl
theorem z5D:IG3 H a04 282625:=gk3 fun _ _ _ _=>by kernel_rfl
theorem j7o (h:H 69=none):IF2 H f69 69:=fk2 h rfl fun _ _ _=>by kernel_rfl
theorem a5h (h:H 70=none):IF1 H f70 70:=fk1 h rfl fun _ _=>by kernel_rfl
theorem z5E:IG3 H a05 290816:=gk3 fun _ _ _ _=>by kernel_rfl
theorem j42:IG3 H a7H 290817:=gk3 fun _ _ _ _=>by kernel_rfl
theorem j43:IG3 H a7I 290818:=gk3 fun _ _ _ _=>by kernel_rfl
theorem j44:IG0 H a7J 290819:=gk0 fun _=>by kernel_rfl
theorem a5i (h:H 71=none):IF2 H f71 71:=fk2 h rfl fun _ _ _=>by kernel_rfl
theorem q9N:IG1 H j45 294912:=gk1 fun _ _=>by kernel_rfl
theorem j46:IG0 H a7K 294913:=gk0 fun _=>by kernel_rfl
theorem z4v (h:H 72=none):IF3 H f72 72:=fk3 h rfl fun _ _ _ _=>by kernel_rfl
theorem a5j (h:H 73=none):IF2 H f73 73:=fk2 h rfl fun _ _ _=>by kernel_rfl
theorem a5k (h:H 74=none):IF2 H f74 74:=fk2 h rfl fun _ _ _=>by kernel_rfl
theorem a5l (h:H 75=none):IF2 H f75 75:=fk2 h rfl fun _ _ _=>by kernel_rfl
theorem z5F:IG4 H a06 311296:=gk4 fun _ _ _ _ _=>by kernel_rfl
theorem j47:IG4 H a7L 311297:=gk4 fun _ _ _ _ _=>by kernel_rfl
theorem j48:IG4 H a7M 311298:=gk4 fun _ _ _ _ _=>by kernel_rfl
theorem j49:IG0 H a7N 311299:=gk0 fun _=>by kernel_rfl
theorem a5m (h:H 76=none):IF3 H f76 76:=fk3 h rfl fun _ _ _ _=>by kernel_rfl
theorem q7f:IG4 H j1l 315392:=gk4 fun _ _ _ _ _=>by kernel_rfl
theorem z5G:IG4 H a07 315393:=gk4 fun _ _ _ _ _=>by kernel_rfl
theorem z5H:IG4 H a08 315394:=gk4 fun _ _ _ _ _=>by kernel_rfl
theorem q7F (h:H 77=none):IF3 H f77 77:=fk3 h rfl fun _ _ _ _=>by kernel_rfl
theorem j7p (h:H 78=none):IF1 H f78 78:=fk1 h rfl fun _ _=>by kernel_rfl
abbrev j5a:=i1 (z5I (H:=H)) fun _=>nofun
abbrev a5n (h:H 79=none):=j1 (j7q h) fun _=>nofun
abbrev j5b:=i1 (z5J (H:=H)) fun _=>nofun
abbrev a5o (h:H 80=none):=j1 (j7r h) fun _=>nofun
abbrev j5c:=i1 (z5K (H:=H)) fun _=>nofun
abbrev a5p (h:H 81=none):=j1 (j7s h) fun _=>nofun
abbrev z5L:=i5 (z5M (H:=H)) fun _ _ _ _ _=>nofun
abbrev j5e:=i5 (z5N (H:=H)) fun _ _ _ _ _=>nofun
abbrev z5O:=i4 (z5P (H:=H)) fun _ _ _ _=>nofun
abbrev a5q (h:H 82=none):=j2 (j7t h) fun _ _=>nofun
abbrev z5Q:=i5 (z5R (H:=H)) fun _ _ _ _ _=>nofun
abbrev j5t:=i5 (z5S (H:=H)) fun _ _ _ _ _=>nofun
abbrev z5T:=i4 (z5U (H:=H)) fun _ _ _ _=>nofun
abbrev a5u (h:H 86=none):=j2 (j7u h) fun _ _=>nofun
abbrev j5D:=i3 (z5V (H:=H)) fun _ _ _=>nofun
abbrev j7v (h:H 89=none):=j2 (j7w h) fun _ _=>nofun
abbrev a5x (h:H 90=none):=j1 (j7x h) fun _=>nofun
theorem z5W:IG4 H a1f 372736:=gk4 fun _ _ _ _ _=>by kernel_rfl
theorem j5E:IG4 H a8i 372737:=gk4 fun _ _ _ _ _=>by kernel_rfl
theorem j5F:IG4 H a8j 372738:=gk4 fun _ _ _ _ _=>by kernel_rfl
theorem j5G:IG0 H a8k 372739:=gk0 fun _=>by kernel_rfl
theorem a5y (h:H 91=none):IF2 H f91 91:=fk2 h rfl fun _ _ _=>by kernel_rfl
theorem j5H:IG0 H a8l 376832:=gk0 fun _=>by kernel_rfl
theorem z9z (h:H 92=none):IF1 H f92 92:=fk1 h rfl fun _ _=>by kernel_rfl
abbrev z5X:=i0 (z5Y (H:=H)) fun _=>nofun
abbrev a5z (h:H 93=none):=j1 (j7y h) fun _=>nofun
theorem j5J:IG2 H a8m 385024:=gk2 fun _ _ _=>by kernel_rfl
theorem j7z (h:H 94=none):IF2 H f94 94:=fk2 h rfl fun _ _ _=>by kernel_rfl
theorem j7A (h:H 95=none):IF1 H f95 95:=fk1 h rfl fun _ _=>by kernel_rfl
theorem a5A (h:H 96=none):IF2 H f96 96:=fk2 h rfl fun _ _ _=>by kernel_rfl
theorem q9O:IG5 H j5K 397312:=gk5 fun _ _ _ _ _ _=>by kernel_rfl
theorem j5L:IG5 H a8n 397313:=gk5 fun _ _ _ _ _ _=>by kernel_rfl
theorem j5M:IG5 H a8o 397314:=gk5 fun _ _ _ _ _ _=>by kernel_rfl
theorem a5B (h:H 97=none):IF3 H f97 97:=fk3 h rfl fun _ _ _ _=>by kernel_rfl
theorem a5C (h:H 98=none):IF1 H f98 98:=fk1 h rfl fun _ _=>by kernel_rfl
theorem a5D (h:H 99=none):IF1 H f99 99:=fk1 h rfl fun _ _=>by kernel_rfl
theorem j9w (h:H 100=none):IF2 H f100 100:=fk2 h rfl fun _ _ _=>by kernel_rfl
theorem q7J:IG5 H z4x 413696:=gk5 fun _ _ _ _ _ _=>by kernel_rfl
theorem z9C:IG5 H j7B 413697:=gk5 fun _ _ _ _ _ _=>by kernel_rfl
theorem z9D:IG5 H j7C 413698:=gk5 fun _ _ _ _ _ _=>by kernel_rfl
theorem j9x (h:H 101=none):IF3 H f101 101:=fk3 h rfl fun _ _ _ _=>by kernel_rfl
theorem j9y (h:H 102=none):IF1 H f102 102:=fk1 h rfl fun _ _=>by kernel_rfl
theorem j9z (h:H 103=none):IF1 H f103 103:=fk1 h rfl fun _ _=>by kernel_rfl
theorem j9A (h:H 104=none):IF2 H f104 104:=fk2 h rfl fun _ _ _=>by kernel_rfl
theorem q7K:IG5 H z4y 430080:=gk5 fun _ _ _ _ _ _=>by kernel_rfl
theorem z9E:IG5 H j7D 430081:=gk5 fun _ _ _ _ _ _=>by kernel_rfl
theorem z9F:IG5 H j7E 430082:=gk5 fun _ _ _ _ _ _=>by kernel_rfl
theorem j9B (h:H 105=none):IF3 H f105 105:=fk3 h rfl fun _ _ _ _=>by kernel_rfl
theorem j9C (h:H 106=none):IF1 H f106 106:=fk1 h rfl fun _ _=>by kernel_rfl
theorem j9D (h:H 107=none):IF1 H f107 107:=fk1 h rfl fun _ _=>by kernel_rfl
abbrev z9H:=i3 (z02 (H:=H)) fun _ _ _=>nofun
abbrev z9b (h:H 108=none):=j2 (z9c h) fun _ _=>nofun
theorem z9I:IG3 H j7F 446464:=gk3 fun _ _ _ _=>by kernel_rfl
theorem z9d (h:H 109=none):IF2 H f109 109:=fk2 h rfl fun _ _ _=>by kernel_rfl
theorem z03:IG4 H z9J 450560:=gk4 fun _ _ _ _ _=>by kernel_rfl
theorem z04:IG4 H z9K 450561:=gk4 fun _ _ _ _ _=>by kernel_rfl
theorem q6g (h:H 110=none):IF3 H f110 110:=fk3 h rfl fun _ _ _ _=>by kernel_rfl
theorem z05:IG6 H z9L 454656:=gk6 fun _ _ _ _ _ _ _=>by kernel_rfl
theorem z9M:IG6 H j7G 454657:=gk6 fun _ _ _ _ _ _ _=>by kernel_rfl
theorem z9N:IG6 H j7H 454658:=gk6 fun _ _ _ _ _ _ _=>by kernel_rfl
theorem z9O:IG2 H j7I 454659:=gk2 fun _ _ _=>by kernel_rfl
theorem j9E (h:H 111=none):IF2 H f111 111:=fk2 h rfl fun _ _ _=>by kernel_rfl
theorem z06:IG3 H z9P 458752:=gk3 fun _ _ _ _=>by kernel_rfl
theorem q7L:IG3 H z4A 458753:=gk3 fun _ _ _ _=>by kernel_rfl
theorem z9Q:IG0 H j7J 458754:=gk0 fun _=>by kernel_rfl
theorem z9R:IG3 H j7K 458755:=gk3 fun _ _ _ _=>by kernel_rfl
theorem z9S:IG0 H j7L 458756:=gk0 fun _=>by kernel_rfl
theorem j9F (h:H 112=none):IF2 H f112 112:=fk2 h rfl fun _ _ _=>by kernel_rfl
theorem z07:IG6 H z9T 462848:=gk6 fun _ _ _ _ _ _ _=>by kernel_rfl
theorem z9U:IG6 H j7M 462849:=gk6 fun _ _ _ _ _ _ _=>by kernel_rfl
theorem z9V:IG6 H j7N 462850:=gk6 fun _ _ _ _ _ _ _=>by kernel_rfl
theorem z9W:IG2 H j7O 462851:=gk2 fun _ _ _=>by kernel_rfl
theorem j9G (h:H 113=none):IF2 H f113 113:=fk2 h rfl fun _ _ _=>by kernel_rfl
theorem z9X:IG2 H j7P 466944:=gk2 fun _ _ _=>by kernel_rfl
theorem z9e (h:H 114=none):IF1 H f114 114:=fk1 h rfl fun _ _=>by kernel_rfl
theorem z9f (h:H 115=none):IF1 H f115 115:=fk1 h rfl fun _ _=>by kernel_rfl
theorem z08:IG1 H z9Y 475136:=gk1 fun _ _=>by kernel_rfl
theorem z9Z:IG0 H j7Q 475137:=gk0 fun _=>by kernel_rfl
theorem z2Z (h:H 116=none):IF2 H f116 116:=fk2 h rfl fun _ _ _=>by kernel_rfl
theorem z09:IG4 H z90 479232:=gk4 fun _ _ _ _ _=>by kernel_rfl
theorem j9H (h:H 117=none):IF3 H f117 117:=fk3 h rfl fun _ _ _ _=>by kernel_rfl
abbrev j9I (h:H 118=none):=j2 (z9g h) fun _ _=>nofun
abbrev j9J (h:H 119=none):=j1 (z9h h) fun _=>nofun
abbrev j9K (h:H 126=none):=j2 (z9i h) fun _ _=>nofun
abbrev j9L (h:H 127=none):=j1 (z9j h) fun _=>nofun
theorem j9M (h:H 132=none):IF1 H f132 132:=fk1 h rfl fun _ _=>by kernel_rfl
theorem z9k (h:H 133=none):IF1 H f133 133:=fk1 h rfl fun _ _=>by kernel_rfl
theorem q7M:IG4 H z4D 548864:=gk4 fun _ _ _ _ _=>by kernel_rfl
theorem z1b:IG4 H z97 548865:=gk4 fun _ _ _ _ _=>by kernel_rfl
theorem z98:IG3 H j7U 548866:=gk3 fun _ _ _ _=>by kernel_rfl
theorem z3a (h:H 134=none):IF3 H f134 134:=fk3 h rfl fun _ _ _ _=>by kernel_rfl
theorem q5r:IG3 H z1c 552960:=gk3 fun _ _ _ _=>by kernel_rfl
theorem q7N:IG3 H z4E 552961:=gk3 fun _ _ _ _=>by kernel_rfl
theorem z1d:IG3 H z99 552962:=gk3 fun _ _ _ _=>by kernel_rfl
theorem z1e:IG2 H j0a 552963:=gk2 fun _ _ _=>by kernel_rfl
theorem q5s:IG3 H z1f 552964:=gk3 fun _ _ _ _=>by kernel_rfl
theorem z1g:IG3 H j0b 552965:=gk3 fun _ _ _ _=>by kernel_rfl
theorem z1h:IG3 H j0c 552966:=gk3 fun _ _ _ _=>by kernel_rfl
theorem j9N (h:H 135=none):IF1 H f135 135:=fk1 h rfl fun _ _=>by kernel_rfl
theorem j0d:IG3 H j7V 557056:=gk3 fun _ _ _ _=>by kernel_rfl
theorem z9l (h:H 136=none):IF2 H f136 136:=fk2 h rfl fun _ _ _=>by kernel_rfl
theorem q5t:IG3 H z1i 561152:=gk3 fun _ _ _ _=>by kernel_rfl
theorem z1j:IG3 H j0e 561153:=gk3 fun _ _ _ _=>by kernel_rfl
theorem z9m (h:H 137=none):IF2 H f137 137:=fk2 h rfl fun _ _ _=>by kernel_rfl
theorem z9n (h:H 138=none):IF2 H f138 138:=fk2 h rfl fun _ _ _=>by kernel_rfl
abbrev j9O (h:H 139=none):=j1 (z9o h) fun _=>nofun
abbrev j9P (h:H 143=none):=j1 (z9p h) fun _=>nofun
theorem j9Q (h:H 146=none):IF1 H f146 146:=fk1 h rfl fun _ _=>by kernel_rfl
theorem j0f:IG2 H j7W 602112:=gk2 fun _ _ _=>by kernel_rfl
theorem j0g:IG2 H j7X 602113:=gk2 fun _ _ _=>by kernel_rfl
theorem z9q (h:H 147=none):IF2 H f147 147:=fk2 h rfl fun _ _ _=>by kernel_rfl
theorem j0h:IG4 H j7Y 606208:=gk4 fun _ _ _ _ _=>by kernel_rfl
theorem z1k:IG5 H j0i 606209:=gk5 fun _ _ _ _ _ _=>by kernel_rfl
theorem q2a:IG6 H q4S 606210:=gk6 fun _ _ _ _ _ _ _=>by kernel_rfl
theorem q5u:IG5 H z1l 606211:=gk5 fun _ _ _ _ _ _=>by kernel_rfl
theorem q2T:IG6 H q6D 606212:=gk6 fun _ _ _ _ _ _ _=>by kernel_rfl
theorem j0j:IG4 H j7Z 606213:=gk4 fun _ _ _ _ _=>by kernel_rfl
theorem j9R (h:H 148=none):IF3 H f148 148:=fk3 h rfl fun _ _ _ _=>by kernel_rfl
theorem j9S (h:H 149=none):IF2 H f149 149:=fk2 h rfl fun _ _ _=>by kernel_rfl
theorem j0k:IG3 H j70 614400:=gk3 fun _ _ _ _=>by kernel_rfl
theorem j9T (h:H 150=none):IF2 H f150 150:=fk2 h rfl fun _ _ _=>by kernel_rfl
theorem z1m:IG5 H j0l 618496:=gk5 fun _ _ _ _ _ _=>by kernel_rfl
theorem j0m:IG5 H j71 618497:=gk5 fun _ _ _ _ _ _=>by kernel_rfl
theorem j0n:IG5 H j72 618498:=gk5 fun _ _ _ _ _ _=>by kernel_rfl
theorem j0o:IG2 H j73 618499:=gk2 fun _ _ _=>by kernel_rfl
theorem j9U (h:H 151=none):IF1 H f151 151:=fk1 h rfl fun _ _=>by kernel_rfl
theorem z1n:IG5 H j0p 622592:=gk5 fun _ _ _ _ _ _=>by kernel_rfl
theorem z1o:IG5 H j0q 622593:=gk5 fun _ _ _ _ _ _=>by kernel_rfl
theorem z1p:IG5 H j0r 622594:=gk5 fun _ _ _ _ _ _=>by kernel_rfl
theorem j0s:IG2 H j74 622595:=gk2 fun _ _ _=>by kernel_rfl
theorem j9V (h:H 152=none):IF2 H f152 152:=fk2 h rfl fun _ _ _=>by kernel_rfl
theorem z1q:IG5 H j0t 626688:=gk5 fun _ _ _ _ _ _=>by kernel_rfl
theorem j0u:IG5 H j75 626689:=gk5 fun _ _ _ _ _ _=>by kernel_rfl
theorem z1r:IG7 H j0v 626690:=gk7 fun _ _ _ _ _ _ _ _=>by kernel_rfl
theorem j0w:IG7 H j76 626691:=gk7 fun _ _ _ _ _ _ _ _=>by kernel_rfl
theorem j0x:IG7 H j77 626692:=gk7 fun _ _ _ _ _ _ _ _=>by kernel_rfl
theorem j0y:IG5 H j78 626693:=gk5 fun _ _ _ _ _ _=>by kernel_rfl
theorem j0z:IG2 H j79 626694:=gk2 fun _ _ _=>by kernel_rfl
theorem j9W (h:H 153=none):IF2 H f153 153:=fk2 h rfl fun _ _ _=>by kernel_rfl
theorem j0A:IG1 H j8a 651264:=gk1 fun _ _=>by kernel_rfl
theorem j9X (h:H 159=none):IF2 H f159 159:=fk2 h rfl fun _ _ _=>by kernel_rfl
theorem q36:IG5 H q8N 655360:=gk5 fun _ _ _ _ _ _=>by kernel_rfl
theorem q5v:IG5 H z1s 655361:=gk5 fun _ _ _ _ _ _=>by kernel_rfl
theorem q5w:IG5 H z1t 655362:=gk5 fun _ _ _ _ _ _=>by kernel_rfl
theorem j0E:IG3 H j8e 655363:=gk3 fun _ _ _ _=>by kernel_rfl
theorem j9Y (h:H 160=none):IF2 H f160 160:=fk2 h rfl fun _ _ _=>by kernel_rfl
theorem j9Z (h:H 161=none):IF2 H f161 161:=fk2 h rfl fun _ _ _=>by kernel_rfl
theorem z1u:IG2 H j0F 663552:=gk2 fun _ _ _=>by kernel_rfl
theorem j0G:IG2 H j8f 663553:=gk2 fun _ _ _=>by kernel_rfl
theorem j0H:IG2 H j8g 663554:=gk2 fun _ _ _=>by kernel_rfl
theorem j0I:IG1 H j8h 663555:=gk1 fun _ _=>by kernel_rfl
theorem j90 (h:H 162=none):IF1 H f162 162:=fk1 h rfl fun _ _=>by kernel_rfl
theorem j0J:IG3 H j8i 667648:=gk3 fun _ _ _ _=>by kernel_rfl
theorem j91 (h:H 163=none):IF2 H f163 163:=fk2 h rfl fun _ _ _=>by kernel_rfl
theorem j0K:IG2 H j8j 671744:=gk2 fun _ _ _=>by kernel_rfl
theorem z1v:IG3 H j0L 671745:=gk3 fun _ _ _ _=>by kernel_rfl
theorem j0M:IG3 H j8k 671746:=gk3 fun _ _ _ _=>by kernel_rfl
theorem j0N:IG3 H j8l 671747:=gk3 fun _ _ _ _=>by kernel_rfl
theorem j0O:IG2 H j8m 671748:=gk2 fun _ _ _=>by kernel_rfl
theorem j92 (h:H 164=none):IF1 H f164 164:=fk1 h rfl fun _ _=>by kernel_rfl
theorem j0P:IG4 H j8n 675840:=gk4 fun _ _ _ _ _=>by kernel_rfl
theorem j0Q:IG8 H j8o 675844:=gk8 fun _ _ _ _ _ _ _ _ _=>by kernel_rfl
theorem j0R:IG5 H j8p 675845:=gk5 fun _ _ _ _ _ _=>by kernel_rfl
theorem j93 (h:H 165=none):IF2 H f165 165:=fk2 h rfl fun _ _ _=>by kernel_rfl
theorem j0S:IG3 H j8q 679936:=gk3 fun _ _ _ _=>by kernel_rfl
theorem z1w:IG3 H j0T 679937:=gk3 fun _ _ _ _=>by kernel_rfl
theorem j0U:IG3 H j8r 679938:=gk3 fun _ _ _ _=>by kernel_rfl
theorem q7O:IG9 H z4K 679939:=gk9 fun _ _ _ _ _ _ _ _ _ _=>by kernel_rfl
theorem z1x:IG9 H j0V 679940:=gk9 fun _ _ _ _ _ _ _ _ _ _=>by kernel_rfl
theorem j0W:IG8 H j8s 679941:=gk8 fun _ _ _ _ _ _ _ _ _=>by kernel_rfl
theorem q7P:IG9 H z4L 679942:=gk9 fun _ _ _ _ _ _ _ _ _ _=>by kernel_rfl
theorem z1y:IG9 H j0X 679943:=gk9 fun _ _ _ _ _ _ _ _ _ _=>by kernel_rfl
theorem j0Y:IG6 H j8t 679944:=gk6 fun _ _ _ _ _ _ _=>by kernel_rfl
theorem j94 (h:H 166=none):IF3 H f166 166:=fk3 h rfl fun _ _ _ _=>by kernel_rfl
theorem j0Z:IG1 H j8u 684032:=gk1 fun _ _=>by kernel_rfl
theorem z9r (h:H 167=none):IF1 H f167 167:=fk1 h rfl fun _ _=>by kernel_rfl
theorem j95 (h:H 168=none):IF2 H f168 168:=fk2 h rfl fun _ _ _=>by kernel_rfl
theorem q9u (h:H 169=none):IF4 H f169 169:=fk4 h rfl fun _ _ _ _ _=>by kernel_rfl
theorem j00:IG3 H j8v 696320:=gk3 fun _ _ _ _=>by kernel_rfl
theorem j01:IG3 H j8w 696321:=gk3 fun _ _ _ _=>by kernel_rfl
theorem j02:IG3 H j8x 696322:=gk3 fun _ _ _ _=>by kernel_rfl
theorem z9s (h:H 170=none):IF3 H f170 170:=fk3 h rfl fun _ _ _ _=>by kernel_rfl
theorem j96 (h:H 171=none):IF1 H f171 171:=fk1 h rfl fun _ _=>by kernel_rfl
theorem z1z:IG2 H j03 704512:=gk2 fun _ _ _=>by kernel_rfl
theorem z1A:IG2 H j04 704513:=gk2 fun _ _ _=>by kernel_rfl
theorem j05:IG2 H j8y 704514:=gk2 fun _ _ _=>by kernel_rfl
theorem z9t (h:H 172=none):IF1 H f172 172:=fk1 h rfl fun _ _=>by kernel_rfl
abbrev wt:=ai @T.zz0<|ai @T.zz1<|ai @T.zz2<|ai @T.zz3<|ai @T.zz4<|ai @b0K<|ai @b0L<|ai @b0M<|ai @b0N<|ai @b1Q<|ai @b1R<|ai @b1S<|ai @b1T<|ai @b1U<|ai @b1V<|ai @b1W<|ai @b1X<|ai @j86<|ai @j87<|ai @j88<|ai @z8E<|ai @j89<|ai @z8F<|ai @z8G<|ai @j9a<|ai @q4p<|ai @j3d<|ai @j3e<|ai @z4k<|ai @j9c<|ai @j9g<|ai @a4B<|ai @a4C<|ai @a4D<|ai @a4E<|ai @j9h<|ai @a4F<|ai @b0O<|ai @j97<|ai @j98<|ai @j99<|ai @a0a<|ai @a0b<|ai @a0c<|ai @a0d<|ai @a0e<|ai @a0f<|ai @a0g<|ai @a0h<|ai @a0i<|ai @a0j<|ai @a5E<|ai @a5F<|ai @a5G<|ai @a5H<|ai @a5I<|ai @a5J<|ai @a5K<|ai @a5L<|ai @a5M<|ai @a5N<|ai @a5O<|ai @a5P<|ai @a5Q<|ai @a5R<|ai @a5S<|ai @a5T<|ai @a5U<|ai @a5V<|ai @a5W<|ai @a5X<|ai @a5Y<|ai @a5Z<|ai @a6a<|ai @a6b<|ai @a6c<|ai @a6d<|ai @a6e<|ai @a6f<|ai @a6g<|ai @a6h<|ai @a6i<|ai @a6j<|ai @a6k<|ai @a6l<|ai @a6m<|ai @a6n<|ai @a6o<|ai @a6p<|ai @a6q<|ai @b0X<|ai @b0Y<|ai @b0Z<|ai @b04<|ai @b2f<|ai @b2g<|ai @b2h<|ai @b2i<|ai @b2j<|ai @b2k<|ai @b2l<|ai @b08<|ai @b09<|ai @b1a<|ai @b1b<|ai @ld2<|ai @b1c<|ai @b1d<|ai @b2m<|ai @b2n<|ai @b2o<|ai @b2p<|ai @b2q<|ai @ld3<|ai @ld4<|ai @b2r<|ai @b2s<|ai @b2t<|ai @b2u<|ai @b2v<|ai @b2w<|ai @b2x<|ai @ld9<|ai @b2y<|ai @b2z<|ai @b2A<|ai @a95<|ai @a96<|ai @b1e<|ai @b1f<|ai @b1g<|ai @b1h<|ai @b1i<|ai @b2B<|ai @b2D<|ai @b2E<|ai @b2F @b2G
abbrev wp:=ai @aps<|ai @z8s<|ai @obs<|ai @ips @wt
abbrev q0e:=ai @wp<|ai @Nat.zero_add<|ai @Nat.add_zero @ge
abbrev q0F:=ai @wp<|ai @ge<|ai @Nat.zero_add @Nat.add_zero
abbrev q0w:=ai @wp<|ai @lcs<|ai @oms<|ai @Nat.zero_add<|ai @ift @ge
abbrev q0E:=ai @wp<|ai @lcs<|ai @oms<|ai @Nat.zero_add<|ai @ift<|ai @ge @Nat.add_zero
abbrev z6E:=ai @wp<|ai @lcs<|ai @oms<|ai @Nat.zero_add<|ai @ift<|ai @ge<|ai @bn4 @Nat.add_zero
abbrev j8L:=ai @wp<|ai @ge<|ai @bn4<|ai @Nat.zero_add @Nat.add_zero
abbrev q04:=ai @wp @ge
abbrev b1w:=ai @wp<|ai @lcs<|ai @oms<|ai @Nat.zero_add<|ai @ift<|ai @ge<|ai @be4<|ai @bn4 @Nat.add_zero
abbrev b2O:=ai @wp<|ai @ge @b1Y
abbrev b0t:=ai @wp<|ai @lcs<|ai @oms<|ai @Nat.zero_add<|ai @ift<|ai @ge<|ai @be4 @Nat.add_zero
abbrev z3Z:=ai @wt<|ai @aps<|ai @z8s<|ai @obs @z7q
abbrev q52:=ai @wp @iv9
abbrev a3M:=ai @wp<|ai @lcs<|ai @oms<|ai @Nat.zero_add<|ai @ift<|ai @ge<|ai @b2L @Nat.add_zero
abbrev a3N:=ai @wp<|ai @lcs<|ai @oms<|ai @Nat.zero_add<|ai @ift<|ai @ge<|ai @b2M @Nat.add_zero
end
section
set_option maxRecDepth 4000
open Go Go.Abs
theorem j1q {x y c:Int} (m:Mem) (h:0<=x/\0<=y/\0<=c/\c<=1):run E2 (.fn 59) [.int .u64 x,.int .u64 y,.int .u64 c] m=some (.tup [.int .u64 ((x+y+c) % 18446744073709551616),.int .u64 ((x+y+c) / 18446744073709551616)],m):=by
 rw[q08 (h:=q4O) rfl];simp only[q4O,if_pos h]
theorem q6i {x y c:Int} (m:Mem) (h:0<=x/\0<=y/\y<18446744073709551616/\0<=c/\c<=1):run E2 (.fn 60) [.int .u64 x,.int .u64 y,.int .u64 c] m=some (.tup [.int .u64 ((x-y-c) % 18446744073709551616),.int .u64 (if x<y+c then 1 else 0)],m):=by
 rw[q08 (h:=q8h) rfl];simp only[q8h,if_pos h]
theorem j6X:(true==false)=false:=rfl
theorem j6W:(false==true)=false:=rfl
theorem a4u (a b:Wd) (ha:a.ok) (hb:b.ok) (m:Mem):Res m (run E2 (.fn 21) [.agg a.cells,.agg b.cells] m) (.tup [.agg (Wd.res (a.val+b.val)).1.cells,.int .i64 (Wd.res (a.val+b.val)).2]):=by
 obtain⟨ah,al⟩:=a;obtain⟨bh,bl⟩:=b;obtain⟨a1,a2,a3,a4⟩:=ha;obtain⟨b1,b2,b3,b4⟩:=hb;simp only[Wd.val]at *;obtain⟨c,hc⟩:∃c,c=(al+bl+0) / 18446744073709551616:=⟨_,rfl⟩;have c0:0<=c/\c<=1:=by omega
 obtain⟨h,hh⟩:∃h,h=IntKind.wrap .i64 ((ah % 18446744073709551616+bh % 18446744073709551616+c) % 18446744073709551616):=⟨_,rfl⟩;have hh2:=hh;rw[q2o]at hh2;simp only[a4Q (H:=H2) rfl,T.f21,pB,p1,q1,p2,q0o,AV.cells,Nat.reduceAdd,Nat.reduceLeDiff,q0K,q0d,q0a,ifV,q0H,q0I,b1w,Wd.cells,AV.one,over,lcl,j1q _ (show 0<=al/\0<=bl/\(0:Int)<=0/\(0:Int)<=1 by omega),q8m,<-hc,j1q _ (show 0<=ah % 18446744073709551616/\0<=bh % 18446744073709551616/\0<=c/\c<=1 by omega),<-hh]
 by_cases h1:ah<0<;>by_cases h2:bh<0<;>by_cases h3:h<0<;>
  simp only[h1,h2,h3,decide_true,decide_false,BEq.rfl,xbt,xbf,j34 (H:=H2),T.a0u,p1,q0o,AV.cells,Nat.reduceAdd,Nat.reduceLeDiff,q0H,q0I,q0w,AV.one,over,lcl,<-hh,j6X,j6W]<;>
  (refine Res.eq ?_ ?_
   ·(repeat apply Fr.lays)
    exact Fr.refl _
   ·first
    |exact z6p (q0V (by omega) (by omega)) (by omega) (by omega)
    |exact q3F (q1m (by omega)))
theorem b0p (a b:Wd) (ha:a.ok) (hb:b.ok) (m:Mem):Res m (run E2 (.fn 22) [.agg a.cells,.agg b.cells] m) (.tup [.agg (Wd.res (a.val-b.val)).1.cells,.int .i64 (Wd.res (a.val-b.val)).2]):=by
 obtain⟨ah,al⟩:=a;obtain⟨bh,bl⟩:=b;obtain⟨a1,a2,a3,a4⟩:=ha;obtain⟨b1,b2,b3,b4⟩:=hb;simp only[Wd.val]at *;obtain⟨c,hc⟩:∃c:Int,c=(if al<bl+0 then 1 else 0):=⟨_,rfl⟩
 have c0:0<=c/\c<=1:=by omega
 obtain⟨h,hh⟩:∃h,h=IntKind.wrap .i64 ((ah % 18446744073709551616-bh % 18446744073709551616-c) % 18446744073709551616):=⟨_,rfl⟩;have hh2:=hh;rw[q2o]at hh2;simp only[a4R (H:=H2) rfl,T.f22,pB,p1,q1,p2,q0o,AV.cells,Nat.reduceAdd,Nat.reduceLeDiff,q0K,q0d,q0a,ifV,q0H,q0I,z6E,Wd.cells,AV.one,over,lcl,q6i _ (show 0<=al/\0<=bl/\bl<18446744073709551616/\(0:Int)<=0/\(0:Int)<=1 by omega),q8m,<-hc,q6i _ (show 0<=ah % 18446744073709551616/\0<=bh % 18446744073709551616/\bh % 18446744073709551616<18446744073709551616/\0<=c/\c<=1 by omega),<-hh]
 by_cases h1:ah<0<;>by_cases h2:bh<0<;>by_cases h3:h<0<;>
  simp only[h1,h2,h3,decide_true,decide_false,BEq.rfl,xbt,xbf,j35 (H:=H2),T.a0v,p1,q0o,AV.cells,Nat.reduceAdd,Nat.reduceLeDiff,q0H,q0I,q0w,AV.one,over,lcl,<-hh,j6X,j6W]<;>
  (refine Res.eq ?_ ?_
   ·(repeat apply Fr.lays)
    exact Fr.refl _
   ·first
    |exact z6p (q0V (by omega) (by omega)) (by omega) (by omega)
    |exact q3F (q1m (by omega)))
end
section
set_option maxRecDepth 4000
open Go Go.Abs
theorem j57 {x y:Int} (hx:0<=x) (hx2:x<18446744073709551616) (hy:0<=y) (hy2:y<18446744073709551616) (m:Mem) :
  run E2 (.fn 168) [.int .u64 x,.int .u64 y] m=some (.tup [.int .u64 (x*y / 18446744073709551616),.int .u64 (x*y % 18446744073709551616)],m):=by
 obtain⟨h1,h2,h3,h4,h5,h6,h7,h8⟩:=b1l hx hx2 hy hy2;have hr:0<=x*y / 18446744073709551616/\x*y / 18446744073709551616<18446744073709551616:=by
  have h9:0<=x*y:=Int.mul_nonneg hx hy;have h10:x*y<=18446744073709551615*y:=Int.mul_le_mul_of_nonneg_right (by omega) hy;omega
 simp only[j95 (H:=H2) rfl,T.f168,p2,wp,q5c _ hx hx2,q5c _ hy hy2,q2u _ hx,q2u _ hy,wrap_u64 h1.1 h1.2,q2u _ h1.1,wrap_u64 h2.1 h2.2,wrap_u64 h3.1 h3.2,q5c _ h3.1 h3.2,q2u _ h3.1,wrap_u64 h4.1 h4.2,wrap_u64 h5.1 h5.2,wrap_u64 h6.1 h6.2,wrap_u64 h7.1 h7.2,q2u _ h5.1,h8,wrap_u64 hr.1 hr.2,q0n]
theorem j53 {x:Int} (h0:0<x) (h1:x<256):∃n:Nat,q4U Tryz.prog 9 (.str len8) (.int .u8 x)=some (.int .u8 ((n:Int)+1))/\n<8/\(2:Int) ^ n<=x/\x<2*2 ^ n:=by
 obtain⟨n,e1,e2,e3,e4⟩:=a2I x.toNat (by omega) (by omega);refine⟨n,?_,e2,?_,?_⟩
 ·rw[iv9,if_pos (by omega),e1];simp only;congr 2;rw[show (UInt8.ofNat (n+1)).toNat=n+1 by simp;omega];rfl
 ·have:((2 ^ n:Nat):Int)<=((x.toNat:Nat):Int):=by exact_mod_cast e3
  have e9:((2 ^ n:Nat):Int)=(2:Int) ^ n:=Int.natCast_pow 2 n;omega
 ·have:((x.toNat:Nat):Int)<((2*2 ^ n:Nat):Int):=by exact_mod_cast e4
  have e9:((2 ^ n:Nat):Int)=(2:Int) ^ n:=Int.natCast_pow 2 n;omega
theorem j54:(len8:List UInt8)=[0,1,2,2,3,3,3,3,4,4,4,4,4,4,4,4,5,5,5,5,5,5,5,5,5,5,5,5,5,5,5,5,6,6,6,6,6,6,6,6,6,6,6,6,6,6,6,6,6,6,6,6,6,6,6,6,6,6,6,6,6,6,6,6,7,7,7,7,7,7,7,7,7,7,7,7,7,7,7,7,7,7,7,7,7,7,7,7,7,7,7,7,7,7,7,7,7,7,7,7,7,7,7,7,7,7,7,7,7,7,7,7,7,7,7,7,7,7,7,7,7,7,7,7,7,7,7,7,8,8,8,8,8,8,8,8,8,8,8,8,8,8,8,8,8,8,8,8,8,8,8,8,8,8,8,8,8,8,8,8,8,8,8,8,8,8,8,8,8,8,8,8,8,8,8,8,8,8,8,8,8,8,8,8,8,8,8,8,8,8,8,8,8,8,8,8,8,8,8,8,8,8,8,8,8,8,8,8,8,8,8,8,8,8,8,8,8,8,8,8,8,8,8,8,8,8,8,8,8,8,8,8,8,8,8,8,8,8,8,8,8,8,8,8,8,8,8,8,8,8,8,8,8,8,8,8]:=by decide +kernel
theorem j1P {x k:Int} (h0:0<x) (h1:x<256) (hk:0<=k) (hk2:k<1000) (m:Mem):∃n:Nat,D2.gor 704514 [.int .u64 x,.int .i64 k] m=some (.int .i64 (k+n+1),m)/\n<8/\(2:Int) ^ n<=x/\x<2*2 ^ n:=by
 obtain⟨n,e1,e2,e3,e4⟩:=j53 h0 h1;rw[j54]at e1;have w8:IntKind.wrap .u8 x=x:=by
  have e:IntKind.wrap .u8 x=x % 256:=by simp[IntKind.wrap,IntKind.bits,IntKind.signed]
  rw[e];omega
 refine⟨n,?_,e2,e3,e4⟩;simp only[j05 (H:=H2),T.j8y,p1,p2,q52,w8,e1,wrap_i64 (n:=(n:Int)+1) (by omega) (by omega),wrap_i64 (n:=k+((n:Int)+1)) (by omega) (by omega)];rw[Int.add_assoc]
theorem j1O {x k:Int} (h0:0<x) (h1:x<65536) (hk:0<=k) (hk2:k<900) (m:Mem):∃n:Nat,D2.gor 704513 [.int .u64 x,.int .i64 k] m=some (.int .i64 (k+n+1),m)/\n<16/\(2:Int) ^ n<=x/\x<2*2 ^ n:=by
 by_cases h:256<=x
 ·obtain⟨n,e1,e2,e3,e4⟩:=j1P (x:=x / 256) (k:=k+8) (by omega) (by omega) (by omega) (by omega) m;refine⟨n+8,?_,by omega,?_,?_⟩
  ·simp only[z1A (H:=H2),T.j04,p2,q0a,wp,dt h,z4j _ (show 0<=x by omega) (show (0:Int)<=8 by omega) (show (2:Int) ^ (min (8:Int).toNat IntKind.u64.bits)=256 by rfl),wrap_i64 (n:=k+8) (by omega) (by omega),e1];congr 3;omega
  ·rw[Int.pow_add,show (2:Int) ^ 8=256 by rfl];omega
  ·rw[Int.pow_add,show (2:Int) ^ 8=256 by rfl];omega
 ·obtain⟨n,e1,e2,e3,e4⟩:=j1P (x:=x) (k:=k) (by omega) (by omega) (by omega) (by omega) m;refine⟨n,?_,by omega,e3,e4⟩;simp only[z1A (H:=H2),T.j04,p2,q0a,wp,df h,e1]
theorem j1N {x k:Int} (h0:0<x) (h1:x<4294967296) (hk:0<=k) (hk2:k<800) (m:Mem):∃n:Nat,D2.gor 704512 [.int .u64 x,.int .i64 k] m=some (.int .i64 (k+n+1),m)/\n<32/\(2:Int) ^ n<=x/\x<2*2 ^ n:=by
 by_cases h:65536<=x
 ·obtain⟨n,e1,e2,e3,e4⟩:=j1O (x:=x / 65536) (k:=k+16) (by omega) (by omega) (by omega) (by omega) m;refine⟨n+16,?_,by omega,?_,?_⟩
  ·simp only[z1z (H:=H2),T.j03,p2,q0a,wp,dt h,z4j _ (show 0<=x by omega) (show (0:Int)<=16 by omega) (show (2:Int) ^ (min (16:Int).toNat IntKind.u64.bits)=65536 by rfl),wrap_i64 (n:=k+16) (by omega) (by omega),e1];congr 3;omega
  ·rw[Int.pow_add,show (2:Int) ^ 16=65536 by rfl];omega
  ·rw[Int.pow_add,show (2:Int) ^ 16=65536 by rfl];omega
 ·obtain⟨n,e1,e2,e3,e4⟩:=j1O (x:=x) (k:=k) (by omega) (by omega) (by omega) (by omega) m;refine⟨n,?_,by omega,e3,e4⟩;simp only[z1z (H:=H2),T.j03,p2,q0a,wp,df h,e1]
theorem j52 {x:Int} (h0:0<x) (h1:x<18446744073709551616) (m:Mem):∃n:Nat,run E2 (.fn 172) [.int .u64 x] m=some (.int .i64 ((n:Int)+1),m)/\n<64/\(2:Int) ^ n<=x/\x<2*2 ^ n:=by
 by_cases h:4294967296<=x
 ·obtain⟨n,e1,e2,e3,e4⟩:=j1N (x:=x / 4294967296) (k:=32) (by omega) (by omega) (by omega) (by omega) m;refine⟨n+32,?_,by omega,?_,?_⟩
  ·simp only[z9t (H:=H2) rfl,T.f172,p2,q0a,wp,dt h,q2u _ (show 0<=x by omega),e1];congr 3;omega
  ·rw[Int.pow_add,show (2:Int) ^ 32=4294967296 by rfl];omega
  ·rw[Int.pow_add,show (2:Int) ^ 32=4294967296 by rfl];omega
 ·obtain⟨n,e1,e2,e3,e4⟩:=j1N (x:=x) (k:=0) (by omega) (by omega) (by omega) (by omega) m;refine⟨n,?_,by omega,e3,e4⟩;simp only[z9t (H:=H2) rfl,T.f172,p2,q0a,wp,df h,e1,Int.zero_add]
theorem b1j {x:Int} (h0:0<x) (h1:x<18446744073709551616) (m:Mem):∃s:Nat,run E2 (.fn 171) [.int .u64 x] m=some (.int .i64 (s:Int),m)/\s<64/\9223372036854775808<=x*2 ^ s/\x*2 ^ s<18446744073709551616:=by
 obtain⟨n,e1,e2,e3,e4⟩:=j52 h0 h1 m;have hp:(2:Int) ^ n*2 ^ (63-n)=9223372036854775808:=by
  rw[<-Int.pow_add,show n+(63-n)=63 by omega];rfl
 have hpos:(0:Int)<2 ^ (63-n):=Int.pow_pos (by omega);have h3:(2:Int) ^ n*2 ^ (63-n)<=x*2 ^ (63-n):=Int.mul_le_mul_of_nonneg_right e3 (by omega);have h4:x*2 ^ (63-n)<2*2 ^ n*2 ^ (63-n):=Int.mul_lt_mul_of_pos_right e4 hpos;rw[Int.mul_assoc]at h4;refine⟨63-n,?_,by omega,by omega,by omega⟩;simp only[j96 (H:=H2) rfl,T.f171,p2,wp,e1,wrap_i64 (n:=64-((n:Int)+1)) (by omega) (by omega)];congr 3;omega
end
section
set_option maxRecDepth 4000
open Go Go.Abs
theorem z8U {y yn1 yn0 un un1:Int} (s un0:AV) (hy:y=yn1*4294967296+yn0) (hy1:2147483648<=yn1) (hy2:yn1<4294967296) (hy0:0<=yn0) (hy3:yn0<4294967296) (hun:un<y) (hu0:0<=un1) (hu1:un1<4294967296) (m:Mem) :
  ∀(d:Nat) (q r:Int),4294967296<=r+d*yn1->0<=q->q<=4294967297->0<=r->r<4294967296->q*yn1+r=un->un*4294967296+un1<(q+1)*y->
   D2.gor 679939 [.int .u64 y,s,.int .u64 yn1,.int .u64 yn0,.int .u64 un,.int .u64 un1,un0,.int .u64 q,.int .u64 r] m =
   D2.gor 679941 [.int .u64 y,s,.int .u64 yn1,.int .u64 yn0,.int .u64 un,.int .u64 un1,un0,.int .u64 ((un*4294967296+un1) / y)] m:=by
 intro d;induction d with
 |zero=>intro q r h;intros;omega
 |succ d ih=>
  intro q r hd hq hq2 hr hr2 e hu;have hyp:0<y:=by omega
  have step:(∀h:un*4294967296+un1<q*y,D2.gor 679940 [.int .u64 y,s,.int .u64 yn1,.int .u64 yn0,.int .u64 un,.int .u64 un1,un0,.int .u64 q,.int .u64 r] m =
    D2.gor 679941 [.int .u64 y,s,.int .u64 yn1,.int .u64 yn0,.int .u64 un,.int .u64 un1,un0,.int .u64 ((un*4294967296+un1) / y)] m):=by
   intro h;have hq1:1<=q:=by
    by_cases h0:q=0
    ·subst h0;simp only[Int.zero_mul]at h;have:0<=un:=by rw[<-e];omega
     omega
    ·omega
   have e':=q8Q e;have hu':=z6f h;have hdm:((d+1:Nat):Int)*yn1=d*yn1+yn1:=by rw[Int.natCast_add,Int.add_mul];simp
   rw[hdm]at hd;by_cases hb:4294967296<=r+yn1
   ·simp only[z1x (H:=H2),T.j0V,p2,q0a,wp,wrap_u64 (x:=q-1) (by omega) (by omega),wrap_u64 (x:=r+yn1) (by omega) (by omega),dt hb];rw[q5K hy e' (z1J hy (by omega) hy0 hy3 hun hu0 (by omega) e' hb) hu']
   ·simp only[z1x (H:=H2),T.j0V,p2,q0a,wp,wrap_u64 (x:=q-1) (by omega) (by omega),wrap_u64 (x:=r+yn1) (by omega) (by omega),df hb];exact ih (q-1) (r+yn1) (by omega) (by omega) (by omega) (by omega) (by omega) e' hu'
  by_cases hbig:4294967296<=q
  ·simp only[q7O (H:=H2),T.z4K,p2,q0a,ifV,wp,dt hbig];exact step (z1I hun hu1 hbig hyp)
  ·have hm:=z3A hq (by omega) hy0 hy3;by_cases hgt:4294967296*r+un1<q*yn0
   ·simp only[q7O (H:=H2),T.z4K,p2,q0a,ifV,wp,df hbig,wrap_u64 (x:=q*yn0) hm.1 (by omega),wrap_u64 (x:=4294967296*r) (by omega) (by omega),wrap_u64 (x:=4294967296*r+un1) (by omega) (by omega),dt hgt];exact step (z6e hy e hgt)
   ·simp only[q7O (H:=H2),T.z4K,p2,q0a,ifV,wp,df hbig,wrap_u64 (x:=q*yn0) hm.1 (by omega),wrap_u64 (x:=4294967296*r) (by omega) (by omega),wrap_u64 (x:=4294967296*r+un1) (by omega) (by omega),df hgt];rw[q5K hy e (by omega) hu]
theorem z8V {y yn1 yn0 un un1:Int} (s q1:AV) (hy:y=yn1*4294967296+yn0) (hy1:2147483648<=yn1) (hy2:yn1<4294967296) (hy0:0<=yn0) (hy3:yn0<4294967296) (hun:un<y) (hu0:0<=un1) (hu1:un1<4294967296) (m:Mem) :
  ∀(d:Nat) (q r:Int),4294967296<=r+d*yn1->0<=q->q<=4294967297->0<=r->r<4294967296->q*yn1+r=un->un*4294967296+un1<(q+1)*y->
   D2.gor 679942 [.int .u64 y,s,.int .u64 yn1,.int .u64 yn0,.int .u64 un1,q1,.int .u64 r,.int .u64 un,.int .u64 q] m =
   D2.gor 679944 [.int .u64 y,s,.int .u64 un1,q1,.int .u64 un,.int .u64 ((un*4294967296+un1) / y)] m:=by
 intro d;induction d with
 |zero=>intro q r h;intros;omega
 |succ d ih=>
  intro q r hd hq hq2 hr hr2 e hu;have hyp:0<y:=by omega
  have step:(∀h:un*4294967296+un1<q*y,D2.gor 679943 [.int .u64 y,s,.int .u64 yn1,.int .u64 yn0,.int .u64 un1,q1,.int .u64 r,.int .u64 un,.int .u64 q] m =
    D2.gor 679944 [.int .u64 y,s,.int .u64 un1,q1,.int .u64 un,.int .u64 ((un*4294967296+un1) / y)] m):=by
   intro h;have hq1:1<=q:=by
    by_cases h0:q=0
    ·subst h0;simp only[Int.zero_mul]at h;have:0<=un:=by rw[<-e];omega
     omega
    ·omega
   have e':=q8Q e;have hu':=z6f h;have hdm:((d+1:Nat):Int)*yn1=d*yn1+yn1:=by rw[Int.natCast_add,Int.add_mul];simp
   rw[hdm]at hd;by_cases hb:4294967296<=r+yn1
   ·simp only[z1y (H:=H2),T.j0X,p2,q0a,wp,wrap_u64 (x:=q-1) (by omega) (by omega),wrap_u64 (x:=r+yn1) (by omega) (by omega),dt hb];rw[q5K hy e' (z1J hy (by omega) hy0 hy3 hun hu0 (by omega) e' hb) hu']
   ·simp only[z1y (H:=H2),T.j0X,p2,q0a,wp,wrap_u64 (x:=q-1) (by omega) (by omega),wrap_u64 (x:=r+yn1) (by omega) (by omega),df hb];exact ih (q-1) (r+yn1) (by omega) (by omega) (by omega) (by omega) (by omega) e' hu'
  by_cases hbig:4294967296<=q
  ·simp only[q7P (H:=H2),T.z4L,p2,q0a,ifV,wp,dt hbig];exact step (z1I hun hu1 hbig hyp)
  ·have hm:=z3A hq (by omega) hy0 hy3;by_cases hgt:4294967296*r+un1<q*yn0
   ·simp only[q7P (H:=H2),T.z4L,p2,q0a,ifV,wp,df hbig,wrap_u64 (x:=q*yn0) hm.1 (by omega),wrap_u64 (x:=4294967296*r) (by omega) (by omega),wrap_u64 (x:=4294967296*r+un1) (by omega) (by omega),dt hgt];exact step (z6e hy e hgt)
   ·simp only[q7P (H:=H2),T.z4L,p2,q0a,ifV,wp,df hbig,wrap_u64 (x:=q*yn0) hm.1 (by omega),wrap_u64 (x:=4294967296*r) (by omega) (by omega),wrap_u64 (x:=4294967296*r+un1) (by omega) (by omega),df hgt];rw[q5K hy e (by omega) hu]
theorem j3o {hi lo y:Int} (h0:0<=hi) (hlt:hi<y) (hy:y<18446744073709551616) (hl:0<=lo) (hl2:lo<18446744073709551616) (m:Mem) :
  run E2 (.fn 166) [.int .u64 hi,.int .u64 lo,.int .u64 y] m=some (.tup [.int .u64 ((hi*18446744073709551616+lo) / y),.int .u64 ((hi*18446744073709551616+lo) % y)],m):=by
 have hyp:0<y:=by omega
 simp only[j94 (H:=H2) rfl,T.f166,p2,q1,q0a,wp,df (show ¬y=0 by omega)];simp only[j0S (H:=H2),T.j8q,p2,q1,q0a,wp,df (show ¬y<=hi by omega)];by_cases hz:hi=0
 ·subst hz;have g1:0<=lo / y/\lo / y<18446744073709551616:=⟨Int.ediv_nonneg hl (by omega),Int.lt_of_le_of_lt (Int.ediv_le_self _ hl) hl2⟩;simp only[z1w (H:=H2),T.j0T,p2,q0a,wp,decide_true,q2C _ _ _ _ (show y≠0 by omega),q18 _ _ _ _ (show y≠0 by omega),Int.tdiv_eq_ediv_of_nonneg hl,Int.tmod_eq_emod_of_nonneg hl,wrap_u64 g1.1 g1.2,Int.zero_mul,Int.zero_add]
 ·simp only[z1w (H:=H2),T.j0T,p2,q0a,wp,df hz];obtain⟨s,hs,hs2,hn1,hn2⟩:=b1j hyp hy m;obtain⟨pp,hpp⟩:∃pp:Int,pp=2 ^ s:=⟨_,rfl⟩;obtain⟨qq,hqq⟩:∃qq:Int,qq=2 ^ (64-s):=⟨_,rfl⟩;have hp0:0<pp:=by rw[hpp];exact Int.pow_pos (by omega)
  have hq0:0<qq:=by rw[hqq];exact Int.pow_pos (by omega)
  have hpq:pp*qq=18446744073709551616:=by
   rw[hpp,hqq,<-Int.pow_add,show s+(64-s)=64 by omega];rfl
  rw[<-hpp]at hn1 hn2;obtain⟨y',hy'⟩:∃y',y'=y*pp:=⟨_,rfl⟩;rw[<-hy']at hn1 hn2;have hhi:hi*pp<18446744073709551616:=by
   have:hi*pp<y*pp:=Int.mul_lt_mul_of_pos_right hlt hp0;omega
  have hhi0:0<=hi*pp:=Int.mul_nonneg h0 (by omega);have hb1:0<=lo / qq:=Int.ediv_nonneg hl (by omega);have hb2:lo / qq<pp:=Int.ediv_lt_of_lt_mul hq0 (by rw[hpq];exact hl2);have hb3:lo / qq<18446744073709551616:=Int.lt_of_le_of_lt (Int.ediv_le_self _ hl) hl2;have hor:q0S Tryz.prog .or 26 (.int .u64 (hi*pp)) (.int .u64 (lo / qq))=some (.int .u64 (hi*pp+lo / qq)):=by
   have e1:hi*pp=((hi.toNat*2 ^ s:Nat):Int):=by
    rw[hpp,Int.natCast_mul,Int.toNat_of_nonneg h0,Int.natCast_pow];rfl
   have e2:lo / qq=(((lo / qq).toNat:Nat):Int):=(Int.toNat_of_nonneg hb1).symm;have e3:((2 ^ s:Nat):Int)=pp:=by rw[hpp];exact Int.natCast_pow 2 s
   rw[e1,e2,a4z _ (by omega) (by omega) (by omega)];rfl
  obtain⟨un32,hun⟩:∃un32,un32=hi*pp+lo / qq:=⟨_,rfl⟩;obtain⟨un10,hun10⟩:∃un10,un10=(lo*pp) % 18446744073709551616:=⟨_,rfl⟩;have hM:=j3r hpq hp0 hq0 hun hun10;have hun10b:0<=un10/\un10<18446744073709551616:=by omega
  have hunlt:un32<y':=by rw[hy'];exact z3x (y:=y) hM hlt hl2 hp0 hun10b.1
  have hun0:0<=un32:=by omega
  obtain⟨yn1,hyn1⟩:∃yn1,yn1=y' / 4294967296:=⟨_,rfl⟩;obtain⟨yn0,hyn0⟩:∃yn0,yn0=y' % 4294967296:=⟨_,rfl⟩;have hyy:y'=yn1*4294967296+yn0:=by omega
  obtain⟨i1,i2,i3,i4,i5,i6⟩:=z1K (un:=un32) (u1:=un10 / 4294967296) hyy (by omega) (by omega) (by omega) hun0 hunlt (by omega);have i0:0<=un32 / yn1*yn1:=Int.mul_nonneg i1 (by omega);have k0:IntKind.wrap .u64 (s:Int)=s:=wrap_u64 (by omega) (by omega);have k1:IntKind.wrap .u64 (64-(s:Int))=((64-s:Nat):Int):=by rw[wrap_u64 (by omega) (by omega)];omega
  have t1:un32.tdiv yn1=un32 / yn1:=Int.tdiv_eq_ediv_of_nonneg hun0;have w1:IntKind.wrap .u64 (un32 / yn1)=un32 / yn1:=wrap_u64 (by omega) (by omega);have w2:IntKind.wrap .u64 (un32 / yn1*yn1)=un32 / yn1*yn1:=wrap_u64 (by omega) (by omega);have w3:IntKind.wrap .u64 (un32-un32 / yn1*yn1)=un32-un32 / yn1*yn1:=wrap_u64 (by omega) (by omega);have g2:D2.gor 679938 [.int .u64 hi,.int .u64 lo,.int .u64 y] m=D2.gor 679939 [.int .u64 y',.int .u64 (s:Int),.int .u64 yn1,.int .u64 yn0,.int .u64 un32,.int .u64 (un10 / 4294967296),.int .u64 (un10 % 4294967296),.int .u64 (un32 / yn1),.int .u64 (un32-un32 / yn1*yn1)] m:=by
   simp only[j0U (H:=H2),T.j8r,p1,p2,wp,hs,k0,k1,q9j _ s (show s<=64 by omega),<-hpp,<-hy',Int.emod_eq_of_lt (show 0<=y' by omega) hn2,q2u _ (show 0<=y' by omega),q5c _ (show 0<=y' by omega) hn2,Int.emod_eq_of_lt hhi0 hhi,q9k _ (64-s) (show 64-s<=64 by omega),<-hqq,hor,<-hun,<-hun10,q2u _ hun10b.1,q5c _ hun10b.1 hun10b.2,<-hyn1,<-hyn0,q2C _ _ _ _ (show yn1≠0 by omega),t1,w1,w2,w3]
  rw[g2,z8U (.int .u64 (s:Int)) (.int .u64 (un10 % 4294967296)) hyy (by omega) (by omega) (by omega) (by omega) hunlt (by omega) (by omega) m 2 _ _ (by omega) i1 i2 i4 (by omega) i3 i6];obtain⟨q1,hq1⟩:∃q1,q1=(un32*4294967296+un10 / 4294967296) / y':=⟨_,rfl⟩;obtain⟨r1,hr1⟩:∃r1,r1=(un32*4294967296+un10 / 4294967296) % y':=⟨_,rfl⟩;have hqr:un32*4294967296+un10 / 4294967296=q1*y'+r1:=by rw[hq1,hr1];exact(Int.ediv_mul_add_emod _ _).symm
  have hr1b:0<=r1/\r1<y':=by rw[hr1];exact⟨Int.emod_nonneg _ (by omega),Int.emod_lt_of_pos _ (by omega)⟩
  have hq1b:0<=q1/\q1<4294967296:=by
   rw[hq1];exact⟨Int.ediv_nonneg (by omega) (by omega),Int.ediv_lt_of_lt_mul (by omega) (by omega)⟩
  rw[<-hq1];have hr1w:IntKind.wrap .u64 (IntKind.wrap .u64 (IntKind.wrap .u64 (un32*4294967296)+un10 / 4294967296)-IntKind.wrap .u64 (q1*y'))=r1:=by
   simp only[q0n];omega
  obtain⟨j1,j2,j3,j4,j5,j6⟩:=z1K (un:=r1) (u1:=un10 % 4294967296) hyy (by omega) (by omega) (by omega) hr1b.1 hr1b.2 (by omega);have j0:0<=r1 / yn1*yn1:=Int.mul_nonneg j1 (by omega);have t2:r1.tdiv yn1=r1 / yn1:=Int.tdiv_eq_ediv_of_nonneg hr1b.1;have v1:IntKind.wrap .u64 (r1 / yn1)=r1 / yn1:=wrap_u64 (by omega) (by omega);have v2:IntKind.wrap .u64 (r1 / yn1*yn1)=r1 / yn1*yn1:=wrap_u64 (by omega) (by omega)
  have v3:IntKind.wrap .u64 (r1-r1 / yn1*yn1)=r1-r1 / yn1*yn1:=wrap_u64 (by omega) (by omega);simp only[j0W (H:=H2),T.j8s,p2,wp,hr1w,q2C _ _ _ _ (show yn1≠0 by omega),t2,v1,v2,v3];rw[z8V (.int .u64 (s:Int)) (.int .u64 q1) hyy (by omega) (by omega) (by omega) (by omega) hr1b.2 (by omega) (by omega) m 2 _ _ (by omega) j1 j2 j4 (by omega) j3 j6];obtain⟨q0,hq0'⟩:∃q0,q0=(r1*4294967296+un10 % 4294967296) / y':=⟨_,rfl⟩
  obtain⟨r0,hr0⟩:∃r0,r0=(r1*4294967296+un10 % 4294967296) % y':=⟨_,rfl⟩;have hqr0:r1*4294967296+un10 % 4294967296=q0*y'+r0:=by rw[hq0',hr0];exact(Int.ediv_mul_add_emod _ _).symm
  have hr0b:0<=r0/\r0<y':=by rw[hr0];exact⟨Int.emod_nonneg _ (by omega),Int.emod_lt_of_pos _ (by omega)⟩
  have hq0b:0<=q0/\q0<4294967296:=by
   rw[hq0'];exact⟨Int.ediv_nonneg (by omega) (by omega),Int.ediv_lt_of_lt_mul (by omega) (by omega)⟩
  rw[<-hq0'];obtain⟨f1,f2⟩:=j3q (un32:=un32) (un10:=un10) (y:=y') (q1:=q1) (r1:=r1) (q0:=q0) (r0:=r0) (by omega) hqr hqr0 hr0b.1 hr0b.2;rw[<-hM,hy']at f1 f2;obtain⟨b1,b2⟩:=j3p (n:=hi*18446744073709551616+lo) (y:=y) hp0;rw[b1]at f1;rw[f2]at b2;have hr0w:IntKind.wrap .u64 (IntKind.wrap .u64 (IntKind.wrap .u64 (r1*4294967296)+un10 % 4294967296)-IntKind.wrap .u64 (q0*y'))=r0:=by
   simp only[q0n];omega
  simp only[j0Y (H:=H2),T.j8t,p2,wp,wrap_u64 (x:=q1*4294967296) (by omega) (by omega),wrap_u64 (x:=q1*4294967296+q0) (by omega) (by omega),hr0w,q9k _ s (show s<=64 by omega),<-hpp,b2,f1]
end
end Go.Proofs.YtlginbmjiecglaaGreatDoor
