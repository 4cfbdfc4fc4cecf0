/- Texts of one claim, put together. -/
import Derived.Test.YtlginbmjiecglaaGreatDoorW13
namespace Go.Proofs.YtlginbmjiecglaaGreatDoor
section
open Go Go.Abs Go.Proofs.YtlginbmjiecglaaGreatDoor.T
set_option maxRecDepth 10000
theorem i0 {H:FuncId->Option (List AV->Mem->R)} {g:List AV->CM} {k:Nat} (h:T.OkG H g k) (n:∀_:Unit,g []≠.fail) (m:Mem):(T.Rl H).gor k [] m=q0i (T.Rl H) (g []) m:=(h _ m).resolve_right (n ())
theorem j0 {H:FuncId->Option (List AV->Mem->R)} {g:List AV->CM} {k:Nat} (h:T.OkF H g k) (n:∀_:Unit,g []≠.fail) (m:Mem):run (T.EH H) (.fn k) [] m=q0i (T.Rl H) (g []) m:=(h _ m).resolve_right (n ())
theorem i1 {H:FuncId->Option (List AV->Mem->R)} {g:List AV->CM} {k:Nat} (h:T.OkG H g k) (n:∀u:AV,g [u]≠.fail) (u:AV) (m:Mem):(T.Rl H).gor k [u] m=q0i (T.Rl H) (g [u]) m:=(h _ m).resolve_right (n _)
theorem j1 {H:FuncId->Option (List AV->Mem->R)} {g:List AV->CM} {k:Nat} (h:T.OkF H g k) (n:∀u:AV,g [u]≠.fail) (u:AV) (m:Mem):run (T.EH H) (.fn k) [u] m=q0i (T.Rl H) (g [u]) m:=(h _ m).resolve_right (n _)
theorem i2 {H:FuncId->Option (List AV->Mem->R)} {g:List AV->CM} {k:Nat} (h:T.OkG H g k) (n:∀u v:AV,g [u,v]≠.fail) (u v:AV) (m:Mem):(T.Rl H).gor k [u,v] m=q0i (T.Rl H) (g [u,v]) m:=(h _ m).resolve_right (n _ _)
theorem j2 {H:FuncId->Option (List AV->Mem->R)} {g:List AV->CM} {k:Nat} (h:T.OkF H g k) (n:∀u v:AV,g [u,v]≠.fail) (u v:AV) (m:Mem):run (T.EH H) (.fn k) [u,v] m=q0i (T.Rl H) (g [u,v]) m:=(h _ m).resolve_right (n _ _)
theorem i3 {H:FuncId->Option (List AV->Mem->R)} {g:List AV->CM} {k:Nat} (h:T.OkG H g k) (n:∀u v w:AV,g [u,v,w]≠.fail) (u v w:AV) (m:Mem):(T.Rl H).gor k [u,v,w] m=q0i (T.Rl H) (g [u,v,w]) m:=(h _ m).resolve_right (n _ _ _)
theorem j3 {H:FuncId->Option (List AV->Mem->R)} {g:List AV->CM} {k:Nat} (h:T.OkF H g k) (n:∀u v w:AV,g [u,v,w]≠.fail) (u v w:AV) (m:Mem):run (T.EH H) (.fn k) [u,v,w] m=q0i (T.Rl H) (g [u,v,w]) m:=(h _ m).resolve_right (n _ _ _)
theorem i4 {H:FuncId->Option (List AV->Mem->R)} {g:List AV->CM} {k:Nat} (h:T.OkG H g k) (n:∀u v w x:AV,g [u,v,w,x]≠.fail) (u v w x:AV) (m:Mem):(T.Rl H).gor k [u,v,w,x] m=q0i (T.Rl H) (g [u,v,w,x]) m:=(h _ m).resolve_right (n _ _ _ _)
theorem j4 {H:FuncId->Option (List AV->Mem->R)} {g:List AV->CM} {k:Nat} (h:T.OkF H g k) (n:∀u v w x:AV,g [u,v,w,x]≠.fail) (u v w x:AV) (m:Mem):run (T.EH H) (.fn k) [u,v,w,x] m=q0i (T.Rl H) (g [u,v,w,x]) m:=(h _ m).resolve_right (n _ _ _ _)
theorem i5 {H:FuncId->Option (List AV->Mem->R)} {g:List AV->CM} {k:Nat} (h:T.OkG H g k) (n:∀u v w x y:AV,g [u,v,w,x,y]≠.fail) (u v w x y:AV) (m:Mem):(T.Rl H).gor k [u,v,w,x,y] m=q0i (T.Rl H) (g [u,v,w,x,y]) m:=(h _ m).resolve_right (n _ _ _ _ _)
theorem j5 {H:FuncId->Option (List AV->Mem->R)} {g:List AV->CM} {k:Nat} (h:T.OkF H g k) (n:∀u v w x y:AV,g [u,v,w,x,y]≠.fail) (u v w x y:AV) (m:Mem):run (T.EH H) (.fn k) [u,v,w,x,y] m=q0i (T.Rl H) (g [u,v,w,x,y]) m:=(h _ m).resolve_right (n _ _ _ _ _)
theorem i6 {H:FuncId->Option (List AV->Mem->R)} {g:List AV->CM} {k:Nat} (h:T.OkG H g k) (n:∀u v w x y z:AV,g [u,v,w,x,y,z]≠.fail) (u v w x y z:AV) (m:Mem):(T.Rl H).gor k [u,v,w,x,y,z] m=q0i (T.Rl H) (g [u,v,w,x,y,z]) m:=(h _ m).resolve_right (n _ _ _ _ _ _)
theorem j6 {H:FuncId->Option (List AV->Mem->R)} {g:List AV->CM} {k:Nat} (h:T.OkF H g k) (n:∀u v w x y z:AV,g [u,v,w,x,y,z]≠.fail) (u v w x y z:AV) (m:Mem):run (T.EH H) (.fn k) [u,v,w,x,y,z] m=q0i (T.Rl H) (g [u,v,w,x,y,z]) m:=(h _ m).resolve_right (n _ _ _ _ _ _)
variable {H:FuncId->Option (List AV->Mem->R)}
theorem z8W:IG2 H a8k 12288:=gk2 fun _ _ _=>by kernel_rfl
theorem z8X:IG4 H a8l 12289:=gk4 fun _ _ _ _ _=>by kernel_rfl
theorem a1N (h:H 3=none):IF6 H f3 3:=fk6 h rfl fun _ _ _ _ _ _ _=>by kernel_rfl
theorem z81:IG5 H a8m 28672:=gk5 fun _ _ _ _ _ _=>by kernel_rfl
theorem q8Y:IG6 H a4Q 28673:=gk6 fun _ _ _ _ _ _ _=>by kernel_rfl
theorem z88:IG5 H a8n 28674:=gk5 fun _ _ _ _ _ _=>by kernel_rfl
theorem z9a:IG5 H a8o 28675:=gk5 fun _ _ _ _ _ _=>by kernel_rfl
theorem q8Z:IG6 H a4R 28676:=gk6 fun _ _ _ _ _ _ _=>by kernel_rfl
theorem z9b:IG6 H a8p 28677:=gk6 fun _ _ _ _ _ _ _=>by kernel_rfl
theorem z9c:IG6 H a8q 28678:=gk6 fun _ _ _ _ _ _ _=>by kernel_rfl
theorem z9d:IG5 H a8r 28679:=gk5 fun _ _ _ _ _ _=>by kernel_rfl
theorem z9e:IG4 H a8s 28680:=gk4 fun _ _ _ _ _=>by kernel_rfl
theorem j8J:IG2 H a9h 28681:=gk2 fun _ _ _=>by kernel_rfl
theorem j1v (h:H 7=none):IF4 H f7 7:=fk4 h rfl fun _ _ _ _ _=>by kernel_rfl
theorem a8i (h:H 8=none):IF1 H f8 8:=fk1 h rfl fun _ _=>by kernel_rfl
theorem q81:IG4 H a5u 36864:=gk4 fun _ _ _ _ _=>by kernel_rfl
theorem q3s:IG4 H j01 36865:=gk4 fun _ _ _ _ _=>by kernel_rfl
theorem j8P:IG4 H a9i 36866:=gk4 fun _ _ _ _ _=>by kernel_rfl
theorem j8Q:IG2 H a9j 36867:=gk2 fun _ _ _=>by kernel_rfl
theorem a8j (h:H 9=none):IF2 H f9 9:=fk2 h rfl fun _ _ _=>by kernel_rfl
theorem z2K:IG1 H j73 40960:=gk1 fun _ _=>by kernel_rfl
theorem a1C (h:H 10=none):IF2 H f10 10:=fk2 h rfl fun _ _ _=>by kernel_rfl
theorem j1A:IG2 H a3p 45056:=gk2 fun _ _ _=>by kernel_rfl
theorem z2M:IG3 H j74 45057:=gk3 fun _ _ _ _=>by kernel_rfl
theorem q4i:IG3 H z1R 45058:=gk3 fun _ _ _ _=>by kernel_rfl
theorem j1B:IG3 H a3q 45059:=gk3 fun _ _ _ _=>by kernel_rfl
theorem j1C:IG2 H a3r 45060:=gk2 fun _ _ _=>by kernel_rfl
theorem z2N:IG3 H j75 45061:=gk3 fun _ _ _ _=>by kernel_rfl
theorem q2Y:IG3 H q8G 45062:=gk3 fun _ _ _ _=>by kernel_rfl
theorem q40:IG4 H z4T 45063:=gk4 fun _ _ _ _ _=>by kernel_rfl
theorem j1D:IG3 H a3s 45064:=gk3 fun _ _ _ _=>by kernel_rfl
theorem j1E:IG2 H a3t 45065:=gk2 fun _ _ _=>by kernel_rfl
theorem z0e:IG3 H z7G 45066:=gk3 fun _ _ _ _=>by kernel_rfl
theorem q2D:IG3 H q51 45067:=gk3 fun _ _ _ _=>by kernel_rfl
theorem z7H:IG3 H j5L 45068:=gk3 fun _ _ _ _=>by kernel_rfl
theorem z7I:IG1 H j5M 45069:=gk1 fun _ _=>by kernel_rfl
theorem q7P (h:H 11=none):IF2 H f11 11:=fk2 h rfl fun _ _ _=>by kernel_rfl
theorem j1F:IG2 H a3u 49152:=gk2 fun _ _ _=>by kernel_rfl
theorem j1G:IG2 H a3v 49153:=gk2 fun _ _ _=>by kernel_rfl
theorem z2O:IG5 H j76 49154:=gk5 fun _ _ _ _ _ _=>by kernel_rfl
theorem j1H:IG5 H a3w 49155:=gk5 fun _ _ _ _ _ _=>by kernel_rfl
theorem j1I:IG5 H a3x 49156:=gk5 fun _ _ _ _ _ _=>by kernel_rfl
theorem j1J:IG2 H a3y 49157:=gk2 fun _ _ _=>by kernel_rfl
theorem z2P:IG5 H j77 49158:=gk5 fun _ _ _ _ _ _=>by kernel_rfl
theorem j1K:IG5 H a3z 49159:=gk5 fun _ _ _ _ _ _=>by kernel_rfl
theorem j1L:IG5 H a3A 49160:=gk5 fun _ _ _ _ _ _=>by kernel_rfl
theorem j1M:IG2 H a3B 49161:=gk2 fun _ _ _=>by kernel_rfl
theorem z0f:IG5 H z7J 49162:=gk5 fun _ _ _ _ _ _=>by kernel_rfl
theorem z7K:IG5 H j5N 49163:=gk5 fun _ _ _ _ _ _=>by kernel_rfl
theorem z7L:IG5 H j5O 49164:=gk5 fun _ _ _ _ _ _=>by kernel_rfl
theorem z7M:IG2 H j5P 49165:=gk2 fun _ _ _=>by kernel_rfl
theorem j5b (h:H 12=none):IF2 H f12 12:=fk2 h rfl fun _ _ _=>by kernel_rfl
theorem j31 (h:H 13=some (q6K (.bool true))) (m:Mem):run (T.EH H) (.fn 13) [] m=some (.bool true,m):=q00 (h:=q6K (.bool true)) h [] m
theorem j1O:IG1 H a3D 57344:=gk1 fun _ _=>by kernel_rfl
theorem z2R:IG4 H j78 57345:=gk4 fun _ _ _ _ _=>by kernel_rfl
theorem q2Z:IG4 H q8H 57346:=gk4 fun _ _ _ _ _=>by kernel_rfl
theorem j1P:IG4 H a3E 57347:=gk4 fun _ _ _ _ _=>by kernel_rfl
theorem q8I:IG1 H j1Q 57348:=gk1 fun _ _=>by kernel_rfl
theorem j1R:IG1 H a3F 57349:=gk1 fun _ _=>by kernel_rfl
theorem q8J:IG4 H j1S 57350:=gk4 fun _ _ _ _ _=>by kernel_rfl
theorem z2S:IG4 H j79 57351:=gk4 fun _ _ _ _ _=>by kernel_rfl
theorem j1T:IG4 H a3G 57352:=gk4 fun _ _ _ _ _=>by kernel_rfl
theorem j1U:IG0 H a3H 57353:=gk0 fun _=>by kernel_rfl
theorem q93 (h:H 14=none):IF2 H f14 14:=fk2 h rfl fun _ _ _=>by kernel_rfl
theorem j1V:IG2 H a3I 61440:=gk2 fun _ _ _=>by kernel_rfl
theorem z2T:IG3 H j8a 61441:=gk3 fun _ _ _ _=>by kernel_rfl
theorem j1W:IG3 H a3J 61442:=gk3 fun _ _ _ _=>by kernel_rfl
theorem j1X:IG3 H a3K 61443:=gk3 fun _ _ _ _=>by kernel_rfl
theorem j1Y:IG2 H a3L 61444:=gk2 fun _ _ _=>by kernel_rfl
theorem z2U:IG3 H j8b 61445:=gk3 fun _ _ _ _=>by kernel_rfl
theorem j1Z:IG3 H a3M 61446:=gk3 fun _ _ _ _=>by kernel_rfl
theorem j14:IG3 H a3N 61447:=gk3 fun _ _ _ _=>by kernel_rfl
theorem j15:IG2 H a3O 61448:=gk2 fun _ _ _=>by kernel_rfl
theorem z2V:IG3 H j8c 61449:=gk3 fun _ _ _ _=>by kernel_rfl
theorem z8l:IG3 H j53 61450:=gk3 fun _ _ _ _=>by kernel_rfl
theorem z8m:IG3 H j54 61451:=gk3 fun _ _ _ _=>by kernel_rfl
theorem z8n:IG0 H j55 61452:=gk0 fun _=>by kernel_rfl
theorem a1E (h:H 15=none):IF2 H f15 15:=fk2 h rfl fun _ _ _=>by kernel_rfl
theorem j16:a7Y H a3P 65536:=a9k fun _ _ _ _ _ _ _ _ _ _ _=>by kernel_rfl
theorem j17:IG7 H a3Q 65538:=gk7 fun _ _ _ _ _ _ _ _=>by kernel_rfl
theorem j18:IG8 H a3R 65539:=gk8 fun _ _ _ _ _ _ _ _ _=>by kernel_rfl
theorem j19:IG5 H a3S 65541:=gk5 fun _ _ _ _ _ _=>by kernel_rfl
theorem j2a:IG5 H a3T 65542:=gk5 fun _ _ _ _ _ _=>by kernel_rfl
theorem j2b:IG2 H a3U 65544:=gk2 fun _ _ _=>by kernel_rfl
theorem q9c (t0 t2 t3 u3 t7 t9 u6 u7 t34 t47:AV) (m:Mem):(T.Rl H).afr 65536 none [t0,t2,t3,u3,t7,t9,u6,u7,t34,t47] m=q0i (T.Rl H) (q5L [t0,t2,t3,u3,t7,t9,u6,u7,t34,t47]) m:=(q9d (H:=H) [t0,t2,t3,u3,t7,t9,u6,u7,t34,t47] m).resolve_right nofun
theorem q9e (t0 t2 t3 u3 t9 u5 u6 t47:AV) (m:Mem):(T.Rl H).afr 65537 none [t0,t2,t3,u3,t9,u5,u6,t47] m=q0i (T.Rl H) (q5M [t0,t2,t3,u3,t9,u5,u6,t47]) m:=(q9f (H:=H) [t0,t2,t3,u3,t9,u5,u6,t47] m).resolve_right nofun
theorem q9g (t2 t3 u2 u3 u4:AV) (m:Mem):(T.Rl H).afr 65538 none [t2,t3,u2,u3,u4] m=q0i (T.Rl H) (q5N [t2,t3,u2,u3,u4]) m:=(q9h (H:=H) [t2,t3,u2,u3,u4] m).resolve_right nofun
theorem a1F (h:H 16=none):IF1 H f16 16:=fk1 h rfl fun _ _=>by kernel_rfl
theorem z2Y:IG0 H j8d 81920:=gk0 fun _=>by kernel_rfl
theorem a1H (h:H 20=none):IF2 H f20 20:=fk2 h rfl fun _ _ _=>by kernel_rfl
abbrev j2c:=i3 (z2Z (H:=H)) fun _ _ _=>nofun
abbrev a1I (h:H 21=none):=j2 (j5c h) fun _ _=>nofun
theorem z3a:IG2 H j8f 102400:=gk2 fun _ _ _=>by kernel_rfl
theorem j2e:IG2 H a3W 102401:=gk2 fun _ _ _=>by kernel_rfl
theorem q8K:IG5 H j2f 102402:=gk5 fun _ _ _ _ _ _=>by kernel_rfl
theorem z3b:IG5 H j8g 102403:=gk5 fun _ _ _ _ _ _=>by kernel_rfl
theorem j2g:IG5 H a3X 102404:=gk5 fun _ _ _ _ _ _=>by kernel_rfl
theorem j2h:IG4 H a3Y 102405:=gk4 fun _ _ _ _ _=>by kernel_rfl
theorem q8L:IG5 H j2i 102406:=gk5 fun _ _ _ _ _ _=>by kernel_rfl
theorem z3c:IG5 H j8h 102407:=gk5 fun _ _ _ _ _ _=>by kernel_rfl
theorem z3d:IG5 H j8i 102408:=gk5 fun _ _ _ _ _ _=>by kernel_rfl
theorem j2j:IG5 H a3Z 102409:=gk5 fun _ _ _ _ _ _=>by kernel_rfl
theorem z0A:IG3 H z8L 102410:=gk3 fun _ _ _ _=>by kernel_rfl
theorem z8M:IG2 H j6n 102411:=gk2 fun _ _ _=>by kernel_rfl
theorem z8N:IG0 H j6o 102412:=gk0 fun _=>by kernel_rfl
theorem a1K (h:H 25=none):IF1 H f25 25:=fk1 h rfl fun _ _=>by kernel_rfl
theorem q44:IG2 H z4U 106496:=gk2 fun _ _ _=>by kernel_rfl
theorem q94 (h:H 26=none):IF1 H f26 26:=fk1 h rfl fun _ _=>by kernel_rfl
theorem j2k:IG3 H a4a 110592:=gk3 fun _ _ _ _=>by kernel_rfl
theorem q8M:IG4 H j2l 110593:=gk4 fun _ _ _ _ _=>by kernel_rfl
theorem j2m:IG4 H a4b 110594:=gk4 fun _ _ _ _ _=>by kernel_rfl
theorem j2n:IG4 H a4c 110595:=gk4 fun _ _ _ _ _=>by kernel_rfl
theorem q95 (h:H 27=none):IF3 H f27 27:=fk3 h rfl fun _ _ _ _=>by kernel_rfl
theorem q8N:IG2 H j2o 114688:=gk2 fun _ _ _=>by kernel_rfl
theorem j2p:IG2 H a4d 114689:=gk2 fun _ _ _=>by kernel_rfl
theorem z2D (h:H 28=none):IF2 H f28 28:=fk2 h rfl fun _ _ _=>by kernel_rfl
theorem q6i:IG3 H z8O 118784:=gk3 fun _ _ _ _=>by kernel_rfl
theorem q8O:IG3 H j2q 118785:=gk3 fun _ _ _ _=>by kernel_rfl
theorem j2r:IG5 H a4e 118786:=gk5 fun _ _ _ _ _ _=>by kernel_rfl
theorem q96 (h:H 29=none):IF3 H f29 29:=fk3 h rfl fun _ _ _ _=>by kernel_rfl
theorem a1L (h:H 30=none):IF3 H f30 30:=fk3 h rfl fun _ _ _ _=>by kernel_rfl
theorem q6j:IG3 H z8P 126976:=gk3 fun _ _ _ _=>by kernel_rfl
theorem q8P:IG3 H j2s 126977:=gk3 fun _ _ _ _=>by kernel_rfl
theorem z3e:IG4 H j8j 126978:=gk4 fun _ _ _ _ _=>by kernel_rfl
theorem j2t:IG5 H a4f 126979:=gk5 fun _ _ _ _ _ _=>by kernel_rfl
theorem q97 (h:H 31=none):IF3 H f31 31:=fk3 h rfl fun _ _ _ _=>by kernel_rfl
theorem q4j:IG4 H z1S 131072:=gk4 fun _ _ _ _ _=>by kernel_rfl
theorem q45:IG4 H z4V 131073:=gk4 fun _ _ _ _ _=>by kernel_rfl
theorem q6k:IG4 H z8Q 131074:=gk4 fun _ _ _ _ _=>by kernel_rfl
theorem q8Q:IG4 H j2u 131075:=gk4 fun _ _ _ _ _=>by kernel_rfl
theorem z3f:IG4 H j8k 131076:=gk4 fun _ _ _ _ _=>by kernel_rfl
theorem j2v:IG5 H a4g 131077:=gk5 fun _ _ _ _ _ _=>by kernel_rfl
theorem q50 (h:H 32=none):IF4 H f32 32:=fk4 h rfl fun _ _ _ _ _=>by kernel_rfl
theorem q6l:IG4 H z8R 135168:=gk4 fun _ _ _ _ _=>by kernel_rfl
theorem q8R:IG4 H j2w 135169:=gk4 fun _ _ _ _ _=>by kernel_rfl
theorem z3g:IG4 H j8l 135170:=gk4 fun _ _ _ _ _=>by kernel_rfl
theorem j2x:IG4 H a4h 135171:=gk4 fun _ _ _ _ _=>by kernel_rfl
theorem q46:IG5 H z4W 135172:=gk5 fun _ _ _ _ _ _=>by kernel_rfl
theorem j2y:IG5 H a4i 135173:=gk5 fun _ _ _ _ _ _=>by kernel_rfl
theorem j2z:IG5 H a4j 135174:=gk5 fun _ _ _ _ _ _=>by kernel_rfl
theorem q7Q (h:H 33=none):IF4 H f33 33:=fk4 h rfl fun _ _ _ _ _=>by kernel_rfl
theorem z3h:IG5 H j8m 139264:=gk5 fun _ _ _ _ _ _=>by kernel_rfl
theorem q47:IG7 H z4X 139265:=gk7 fun _ _ _ _ _ _ _ _=>by kernel_rfl
theorem q6m:IG8 H z8S 139266:=gk8 fun _ _ _ _ _ _ _ _ _=>by kernel_rfl
theorem q8S:IG7 H j2A 139267:=gk7 fun _ _ _ _ _ _ _ _=>by kernel_rfl
theorem z3i:IG7 H j8n 139268:=gk7 fun _ _ _ _ _ _ _ _=>by kernel_rfl
theorem q6n:IG7 H z8T 139269:=gk7 fun _ _ _ _ _ _ _ _=>by kernel_rfl
theorem j2B:a7Y H a4k 139270:=a9k fun _ _ _ _ _ _ _ _ _ _ _=>by kernel_rfl
theorem z2E (h:H 34=none):IF4 H f34 34:=fk4 h rfl fun _ _ _ _ _=>by kernel_rfl
theorem j2C:IG1 H a4l 143360:=gk1 fun _ _=>by kernel_rfl
theorem q6o:IG2 H z8U 143361:=gk2 fun _ _ _=>by kernel_rfl
theorem q8T:IG2 H j2D 143362:=gk2 fun _ _ _=>by kernel_rfl
theorem q8U:IG2 H j2E 143363:=gk2 fun _ _ _=>by kernel_rfl
theorem j2F:IG0 H a4m 143364:=gk0 fun _=>by kernel_rfl
theorem j5d (h:H 35=none):IF1 H f35 35:=fk1 h rfl fun _ _=>by kernel_rfl
theorem q6p:IG3 H z8V 147456:=gk3 fun _ _ _ _=>by kernel_rfl
theorem z3j:IG3 H j8o 147457:=gk3 fun _ _ _ _=>by kernel_rfl
theorem z3k:IG3 H j8p 147458:=gk3 fun _ _ _ _=>by kernel_rfl
theorem z3l:IG0 H j8q 147459:=gk0 fun _=>by kernel_rfl
theorem j5e (h:H 36=none):IF2 H f36 36:=fk2 h rfl fun _ _ _=>by kernel_rfl
theorem q8V:IG1 H j2G 151552:=gk1 fun _ _=>by kernel_rfl
theorem j2H:IG0 H a4n 151553:=gk0 fun _=>by kernel_rfl
theorem z2F (h:H 37=none):IF1 H f37 37:=fk1 h rfl fun _ _=>by kernel_rfl
abbrev j2I:=i1 (z3m (H:=H)) fun _=>nofun
abbrev a1M (h:H 38=none):=j1 (j5f h) fun _=>nofun
abbrev z3n:=i0 (z3o (H:=H)) fun _=>nofun
abbrev z7e (h:H 39=none):=j3 (j5g h) fun _ _ _=>nofun
theorem z3p:IG0 H j8s 163840:=gk0 fun _=>by kernel_rfl
theorem z7f (h:H 40=none):IF3 H f40 40:=fk3 h rfl fun _ _ _ _=>by kernel_rfl
abbrev z3q:=i0 (z3r (H:=H)) fun _=>nofun
abbrev z7g (h:H 41=none):=j3 (j5h h) fun _ _ _=>nofun
abbrev z3s:=i2 (z3t (H:=H)) fun _ _=>nofun
abbrev j2T:=i2 (z3u (H:=H)) fun _ _=>nofun
abbrev j2U:=i2 (z3v (H:=H)) fun _ _=>nofun
abbrev j2V:=i1 (z3w (H:=H)) fun _=>nofun
abbrev a1S (h:H 46=none):=j1 (j5i h) fun _=>nofun
theorem q48:IG4 H z4Y 192512:=gk4 fun _ _ _ _ _=>by kernel_rfl
theorem q6q:IG4 H z8Y 192513:=gk4 fun _ _ _ _ _=>by kernel_rfl
theorem q20:IG6 H q8W 192514:=gk6 fun _ _ _ _ _ _ _=>by kernel_rfl
theorem j2W:IG4 H a4v 192515:=gk4 fun _ _ _ _ _=>by kernel_rfl
theorem j2X:IG0 H a4w 192516:=gk0 fun _=>by kernel_rfl
theorem a1T (h:H 47=none):IF1 H f47 47:=fk1 h rfl fun _ _=>by kernel_rfl
theorem z3x:IG5 H j8w 196608:=gk5 fun _ _ _ _ _ _=>by kernel_rfl
theorem q49:IG5 H z4Z 196609:=gk5 fun _ _ _ _ _ _=>by kernel_rfl
theorem j2Y:IG5 H a4x 196610:=gk5 fun _ _ _ _ _ _=>by kernel_rfl
theorem j2Z:IG5 H a4y 196611:=gk5 fun _ _ _ _ _ _=>by kernel_rfl
theorem j20:IG1 H a4z 196612:=gk1 fun _ _=>by kernel_rfl
theorem a1U (h:H 48=none):IF1 H f48 48:=fk1 h rfl fun _ _=>by kernel_rfl
theorem z3y:IG6 H j8x 200704:=gk6 fun _ _ _ _ _ _ _=>by kernel_rfl
theorem z3z:IG6 H j8y 200705:=gk6 fun _ _ _ _ _ _ _=>by kernel_rfl
theorem j21:IG6 H a4A 200706:=gk6 fun _ _ _ _ _ _ _=>by kernel_rfl
theorem j22:IG3 H a4B 200707:=gk3 fun _ _ _ _=>by kernel_rfl
theorem z3A:IG5 H j8z 200708:=gk5 fun _ _ _ _ _ _=>by kernel_rfl
theorem z3B:IG5 H j8A 200709:=gk5 fun _ _ _ _ _ _=>by kernel_rfl
theorem z3C:IG6 H j8B 200710:=gk6 fun _ _ _ _ _ _ _=>by kernel_rfl
theorem j23:IG5 H a4C 200711:=gk5 fun _ _ _ _ _ _=>by kernel_rfl
theorem j24:IG1 H a4D 200712:=gk1 fun _ _=>by kernel_rfl
theorem a1V (h:H 49=none):IF2 H f49 49:=fk2 h rfl fun _ _ _=>by kernel_rfl
theorem a1W (h:H 50=none):IF1 H f50 50:=fk1 h rfl fun _ _=>by kernel_rfl
theorem a1X (h:H 51=none):IF1 H f51 51:=fk1 h rfl fun _ _=>by kernel_rfl
theorem a1Y (h:H 52=none):IF1 H f52 52:=fk1 h rfl fun _ _=>by kernel_rfl
abbrev a11 (h:H 54=none):=j1 (j5j h) fun _=>nofun
theorem j28:IG3 H a4H 262144:=gk3 fun _ _ _ _=>by kernel_rfl
theorem j5k (h:H 64=none):IF2 H f64 64:=fk2 h rfl fun _ _ _=>by kernel_rfl
theorem j29:IG4 H a4I 278528:=gk4 fun _ _ _ _ _=>by kernel_rfl
theorem z7h (h:H 68=none):IF1 H f68 68:=fk1 h rfl fun _ _=>by kernel_rfl
theorem z3D:IG3 H j8C 282624:=gk3 fun _ _ _ _=>by kernel_rfl
theorem z3E:IG3 H j8D 282625:=gk3 fun _ _ _ _=>by kernel_rfl
theorem j5l (h:H 69=none):IF2 H f69 69:=fk2 h rfl fun _ _ _=>by kernel_rfl
theorem a18 (h:H 70=none):IF1 H f70 70:=fk1 h rfl fun _ _=>by kernel_rfl
theorem z3F:IG3 H j8E 290816:=gk3 fun _ _ _ _=>by kernel_rfl
theorem j3a:IG3 H a4J 290817:=gk3 fun _ _ _ _=>by kernel_rfl
theorem j3b:IG3 H a4K 290818:=gk3 fun _ _ _ _=>by kernel_rfl
theorem j3c:IG0 H a4L 290819:=gk0 fun _=>by kernel_rfl
theorem a19 (h:H 71=none):IF2 H f71 71:=fk2 h rfl fun _ _ _=>by kernel_rfl
theorem q8X:IG1 H j3d 294912:=gk1 fun _ _=>by kernel_rfl
theorem j3e:IG0 H a4M 294913:=gk0 fun _=>by kernel_rfl
theorem z2G (h:H 72=none):IF3 H f72 72:=fk3 h rfl fun _ _ _ _=>by kernel_rfl
theorem a2a (h:H 73=none):IF2 H f73 73:=fk2 h rfl fun _ _ _=>by kernel_rfl
theorem a2b (h:H 74=none):IF2 H f74 74:=fk2 h rfl fun _ _ _=>by kernel_rfl
theorem a2c (h:H 75=none):IF2 H f75 75:=fk2 h rfl fun _ _ _=>by kernel_rfl
theorem z3G:IG4 H j8F 311296:=gk4 fun _ _ _ _ _=>by kernel_rfl
theorem j3f:IG4 H a4N 311297:=gk4 fun _ _ _ _ _=>by kernel_rfl
theorem j3g:IG4 H a4O 311298:=gk4 fun _ _ _ _ _=>by kernel_rfl
theorem j3h:IG0 H a4P 311299:=gk0 fun _=>by kernel_rfl
theorem a2d (h:H 76=none):IF3 H f76 76:=fk3 h rfl fun _ _ _ _=>by kernel_rfl
theorem q6r:IG4 H z8Z 315392:=gk4 fun _ _ _ _ _=>by kernel_rfl
theorem z3H:IG4 H j8G 315393:=gk4 fun _ _ _ _ _=>by kernel_rfl
theorem z3I:IG4 H j8H 315394:=gk4 fun _ _ _ _ _=>by kernel_rfl
theorem q6R (h:H 77=none):IF3 H f77 77:=fk3 h rfl fun _ _ _ _=>by kernel_rfl
theorem j5m (h:H 78=none):IF1 H f78 78:=fk1 h rfl fun _ _=>by kernel_rfl
abbrev j3i:=i1 (z3J (H:=H)) fun _=>nofun
abbrev a2e (h:H 79=none):=j1 (j5n h) fun _=>nofun
abbrev j3j:=i1 (z3K (H:=H)) fun _=>nofun
abbrev a2f (h:H 80=none):=j1 (j5o h) fun _=>nofun
abbrev j3k:=i1 (z3L (H:=H)) fun _=>nofun
abbrev a2g (h:H 81=none):=j1 (j5p h) fun _=>nofun
abbrev z3M:=i5 (z3N (H:=H)) fun _ _ _ _ _=>nofun
abbrev j3m:=i5 (z3O (H:=H)) fun _ _ _ _ _=>nofun
abbrev z3P:=i4 (z3Q (H:=H)) fun _ _ _ _=>nofun
abbrev a2h (h:H 82=none):=j2 (j5q h) fun _ _=>nofun
abbrev z3R:=i5 (z3S (H:=H)) fun _ _ _ _ _=>nofun
abbrev j3B:=i5 (z3T (H:=H)) fun _ _ _ _ _=>nofun
abbrev z3U:=i4 (z3V (H:=H)) fun _ _ _ _=>nofun
abbrev a2l (h:H 86=none):=j2 (j5r h) fun _ _=>nofun
theorem z3W:IG4 H j8O 372736:=gk4 fun _ _ _ _ _=>by kernel_rfl
theorem j3M:IG4 H a5n 372737:=gk4 fun _ _ _ _ _=>by kernel_rfl
theorem j3N:IG4 H a5o 372738:=gk4 fun _ _ _ _ _=>by kernel_rfl
theorem j3O:IG0 H a5p 372739:=gk0 fun _=>by kernel_rfl
theorem a2q (h:H 91=none):IF2 H f91 91:=fk2 h rfl fun _ _ _=>by kernel_rfl
theorem j3P:IG0 H a5q 376832:=gk0 fun _=>by kernel_rfl
theorem z7i (h:H 92=none):IF1 H f92 92:=fk1 h rfl fun _ _=>by kernel_rfl
abbrev z3X:=i0 (z3Y (H:=H)) fun _=>nofun
abbrev a2r (h:H 93=none):=j1 (j5s h) fun _=>nofun
theorem j3R:IG2 H a5r 385024:=gk2 fun _ _ _=>by kernel_rfl
theorem j5t (h:H 94=none):IF2 H f94 94:=fk2 h rfl fun _ _ _=>by kernel_rfl
theorem j5u (h:H 95=none):IF1 H f95 95:=fk1 h rfl fun _ _=>by kernel_rfl
theorem a2s (h:H 96=none):IF2 H f96 96:=fk2 h rfl fun _ _ _=>by kernel_rfl
theorem q80:IG5 H j3S 397312:=gk5 fun _ _ _ _ _ _=>by kernel_rfl
theorem j3T:IG5 H a5s 397313:=gk5 fun _ _ _ _ _ _=>by kernel_rfl
theorem j3U:IG5 H a5t 397314:=gk5 fun _ _ _ _ _ _=>by kernel_rfl
theorem a2t (h:H 97=none):IF3 H f97 97:=fk3 h rfl fun _ _ _ _=>by kernel_rfl
theorem a2u (h:H 98=none):IF1 H f98 98:=fk1 h rfl fun _ _=>by kernel_rfl
theorem a2v (h:H 99=none):IF1 H f99 99:=fk1 h rfl fun _ _=>by kernel_rfl
theorem j7h (h:H 100=none):IF2 H f100 100:=fk2 h rfl fun _ _ _=>by kernel_rfl
theorem q6V:IG5 H z2I 413696:=gk5 fun _ _ _ _ _ _=>by kernel_rfl
theorem z7l:IG5 H j5v 413697:=gk5 fun _ _ _ _ _ _=>by kernel_rfl
theorem z7m:IG5 H j5w 413698:=gk5 fun _ _ _ _ _ _=>by kernel_rfl
theorem j7i (h:H 101=none):IF3 H f101 101:=fk3 h rfl fun _ _ _ _=>by kernel_rfl
theorem j7j (h:H 102=none):IF1 H f102 102:=fk1 h rfl fun _ _=>by kernel_rfl
theorem j7k (h:H 103=none):IF1 H f103 103:=fk1 h rfl fun _ _=>by kernel_rfl
theorem j7l (h:H 104=none):IF2 H f104 104:=fk2 h rfl fun _ _ _=>by kernel_rfl
theorem q6W:IG5 H z2J 430080:=gk5 fun _ _ _ _ _ _=>by kernel_rfl
theorem z7n:IG5 H j5x 430081:=gk5 fun _ _ _ _ _ _=>by kernel_rfl
theorem z7o:IG5 H j5y 430082:=gk5 fun _ _ _ _ _ _=>by kernel_rfl
theorem j7m (h:H 105=none):IF3 H f105 105:=fk3 h rfl fun _ _ _ _=>by kernel_rfl
theorem j7n (h:H 106=none):IF1 H f106 106:=fk1 h rfl fun _ _=>by kernel_rfl
theorem j7o (h:H 107=none):IF1 H f107 107:=fk1 h rfl fun _ _=>by kernel_rfl
theorem q99:IG6 H z7q 454656:=gk6 fun _ _ _ _ _ _ _=>by kernel_rfl
theorem z7r:IG6 H j5A 454657:=gk6 fun _ _ _ _ _ _ _=>by kernel_rfl
theorem z7s:IG6 H j5B 454658:=gk6 fun _ _ _ _ _ _ _=>by kernel_rfl
theorem z7t:IG2 H j5C 454659:=gk2 fun _ _ _=>by kernel_rfl
theorem j7q (h:H 111=none):IF2 H f111 111:=fk2 h rfl fun _ _ _=>by kernel_rfl
theorem z0a:IG3 H z7u 458752:=gk3 fun _ _ _ _=>by kernel_rfl
theorem q6X:IG3 H z2L 458753:=gk3 fun _ _ _ _=>by kernel_rfl
theorem z7v:IG0 H j5D 458754:=gk0 fun _=>by kernel_rfl
theorem z7w:IG3 H j5E 458755:=gk3 fun _ _ _ _=>by kernel_rfl
theorem z7x:IG0 H j5F 458756:=gk0 fun _=>by kernel_rfl
theorem j7r (h:H 112=none):IF2 H f112 112:=fk2 h rfl fun _ _ _=>by kernel_rfl
theorem z0b:IG6 H z7y 462848:=gk6 fun _ _ _ _ _ _ _=>by kernel_rfl
theorem z7z:IG6 H j5G 462849:=gk6 fun _ _ _ _ _ _ _=>by kernel_rfl
theorem z7A:IG6 H j5H 462850:=gk6 fun _ _ _ _ _ _ _=>by kernel_rfl
theorem z7B:IG2 H j5I 462851:=gk2 fun _ _ _=>by kernel_rfl
theorem j7s (h:H 113=none):IF2 H f113 113:=fk2 h rfl fun _ _ _=>by kernel_rfl
theorem z7C:IG2 H j5J 466944:=gk2 fun _ _ _=>by kernel_rfl
theorem z6O (h:H 114=none):IF1 H f114 114:=fk1 h rfl fun _ _=>by kernel_rfl
theorem z6P (h:H 115=none):IF1 H f115 115:=fk1 h rfl fun _ _=>by kernel_rfl
theorem z0c:IG1 H z7D 475136:=gk1 fun _ _=>by kernel_rfl
theorem z7E:IG0 H j5K 475137:=gk0 fun _=>by kernel_rfl
theorem z1Q (h:H 116=none):IF2 H f116 116:=fk2 h rfl fun _ _ _=>by kernel_rfl
theorem z0d:IG4 H z7F 479232:=gk4 fun _ _ _ _ _=>by kernel_rfl
theorem j7t (h:H 117=none):IF3 H f117 117:=fk3 h rfl fun _ _ _ _=>by kernel_rfl
abbrev j7u (h:H 118=none):=j2 (z6Q h) fun _ _=>nofun
abbrev j7v (h:H 119=none):=j1 (z6R h) fun _=>nofun
abbrev j7w (h:H 126=none):=j2 (z6S h) fun _ _=>nofun
abbrev j7x (h:H 127=none):=j1 (z6T h) fun _=>nofun
theorem j7y (h:H 132=none):IF1 H f132 132:=fk1 h rfl fun _ _=>by kernel_rfl
theorem z6U (h:H 133=none):IF1 H f133 133:=fk1 h rfl fun _ _=>by kernel_rfl
theorem q41:IG3 H z0g 552960:=gk3 fun _ _ _ _=>by kernel_rfl
theorem q6Y:IG3 H z2Q 552961:=gk3 fun _ _ _ _=>by kernel_rfl
theorem z0h:IG3 H z7N 552962:=gk3 fun _ _ _ _=>by kernel_rfl
theorem z0i:IG2 H z7O 552963:=gk2 fun _ _ _=>by kernel_rfl
theorem q42:IG3 H z0j 552964:=gk3 fun _ _ _ _=>by kernel_rfl
theorem z0k:IG3 H z7P 552965:=gk3 fun _ _ _ _=>by kernel_rfl
theorem z0l:IG3 H z7Q 552966:=gk3 fun _ _ _ _=>by kernel_rfl
theorem j7z (h:H 135=none):IF1 H f135 135:=fk1 h rfl fun _ _=>by kernel_rfl
theorem z7R:IG3 H j5Q 557056:=gk3 fun _ _ _ _=>by kernel_rfl
theorem z6V (h:H 136=none):IF2 H f136 136:=fk2 h rfl fun _ _ _=>by kernel_rfl
theorem q43:IG3 H z0m 561152:=gk3 fun _ _ _ _=>by kernel_rfl
theorem z0n:IG3 H z7S 561153:=gk3 fun _ _ _ _=>by kernel_rfl
theorem z6W (h:H 137=none):IF2 H f137 137:=fk2 h rfl fun _ _ _=>by kernel_rfl
theorem z6X (h:H 138=none):IF2 H f138 138:=fk2 h rfl fun _ _ _=>by kernel_rfl
abbrev j7A (h:H 139=none):=j1 (z6Y h) fun _=>nofun
abbrev j7B (h:H 143=none):=j1 (z6Z h) fun _=>nofun
theorem j7C (h:H 146=none):IF1 H f146 146:=fk1 h rfl fun _ _=>by kernel_rfl
theorem z7T:IG2 H j5R 602112:=gk2 fun _ _ _=>by kernel_rfl
theorem z7U:IG2 H j5S 602113:=gk2 fun _ _ _=>by kernel_rfl
theorem z7a (h:H 147=none):IF2 H f147 147:=fk2 h rfl fun _ _ _=>by kernel_rfl
theorem j7D (h:H 149=none):IF2 H f149 149:=fk2 h rfl fun _ _ _=>by kernel_rfl
theorem z0o:IG5 H z7V 618496:=gk5 fun _ _ _ _ _ _=>by kernel_rfl
theorem z7W:IG5 H j5T 618497:=gk5 fun _ _ _ _ _ _=>by kernel_rfl
theorem z7X:IG5 H j5U 618498:=gk5 fun _ _ _ _ _ _=>by kernel_rfl
theorem z7Y:IG2 H j5V 618499:=gk2 fun _ _ _=>by kernel_rfl
theorem j7E (h:H 151=none):IF1 H f151 151:=fk1 h rfl fun _ _=>by kernel_rfl
theorem z0p:IG5 H z7Z 622592:=gk5 fun _ _ _ _ _ _=>by kernel_rfl
theorem z0q:IG5 H z8a 622593:=gk5 fun _ _ _ _ _ _=>by kernel_rfl
theorem z0r:IG5 H z8b 622594:=gk5 fun _ _ _ _ _ _=>by kernel_rfl
theorem z8c:IG2 H j5W 622595:=gk2 fun _ _ _=>by kernel_rfl
theorem j7F (h:H 152=none):IF2 H f152 152:=fk2 h rfl fun _ _ _=>by kernel_rfl
theorem z0s:IG5 H z8d 626688:=gk5 fun _ _ _ _ _ _=>by kernel_rfl
theorem z8e:IG5 H j5X 626689:=gk5 fun _ _ _ _ _ _=>by kernel_rfl
theorem z0t:IG7 H z8f 626690:=gk7 fun _ _ _ _ _ _ _ _=>by kernel_rfl
theorem z8g:IG7 H j5Y 626691:=gk7 fun _ _ _ _ _ _ _ _=>by kernel_rfl
theorem z8h:IG7 H j5Z 626692:=gk7 fun _ _ _ _ _ _ _ _=>by kernel_rfl
theorem z8i:IG5 H j50 626693:=gk5 fun _ _ _ _ _ _=>by kernel_rfl
theorem z8j:IG2 H j51 626694:=gk2 fun _ _ _=>by kernel_rfl
theorem j7G (h:H 153=none):IF2 H f153 153:=fk2 h rfl fun _ _ _=>by kernel_rfl
theorem z8k:IG1 H j52 651264:=gk1 fun _ _=>by kernel_rfl
theorem j7H (h:H 159=none):IF2 H f159 159:=fk2 h rfl fun _ _ _=>by kernel_rfl
theorem j7I (h:H 161=none):IF2 H f161 161:=fk2 h rfl fun _ _ _=>by kernel_rfl
theorem z8o:IG3 H j56 667648:=gk3 fun _ _ _ _=>by kernel_rfl
theorem j7J (h:H 163=none):IF2 H f163 163:=fk2 h rfl fun _ _ _=>by kernel_rfl
theorem z8p:IG2 H j57 671744:=gk2 fun _ _ _=>by kernel_rfl
theorem z0u:IG3 H z8q 671745:=gk3 fun _ _ _ _=>by kernel_rfl
theorem z8r:IG3 H j58 671746:=gk3 fun _ _ _ _=>by kernel_rfl
theorem z8s:IG3 H j59 671747:=gk3 fun _ _ _ _=>by kernel_rfl
theorem z8t:IG2 H j6a 671748:=gk2 fun _ _ _=>by kernel_rfl
theorem j7K (h:H 164=none):IF1 H f164 164:=fk1 h rfl fun _ _=>by kernel_rfl
theorem z8u:IG4 H j6b 675840:=gk4 fun _ _ _ _ _=>by kernel_rfl
theorem z8v:IG8 H j6c 675844:=gk8 fun _ _ _ _ _ _ _ _ _=>by kernel_rfl
theorem z8w:IG5 H j6d 675845:=gk5 fun _ _ _ _ _ _=>by kernel_rfl
theorem j7L (h:H 165=none):IF2 H f165 165:=fk2 h rfl fun _ _ _=>by kernel_rfl
theorem z8x:IG3 H j6e 679936:=gk3 fun _ _ _ _=>by kernel_rfl
theorem z0v:IG3 H z8y 679937:=gk3 fun _ _ _ _=>by kernel_rfl
theorem z8z:IG3 H j6f 679938:=gk3 fun _ _ _ _=>by kernel_rfl
theorem q6Z:IG9 H z2W 679939:=gk9 fun _ _ _ _ _ _ _ _ _ _=>by kernel_rfl
theorem z0w:IG9 H z8A 679940:=gk9 fun _ _ _ _ _ _ _ _ _ _=>by kernel_rfl
theorem z8B:IG8 H j6g 679941:=gk8 fun _ _ _ _ _ _ _ _ _=>by kernel_rfl
theorem q60:IG9 H z2X 679942:=gk9 fun _ _ _ _ _ _ _ _ _ _=>by kernel_rfl
theorem z0x:IG9 H z8C 679943:=gk9 fun _ _ _ _ _ _ _ _ _ _=>by kernel_rfl
theorem z8D:IG6 H j6h 679944:=gk6 fun _ _ _ _ _ _ _=>by kernel_rfl
theorem j7M (h:H 166=none):IF3 H f166 166:=fk3 h rfl fun _ _ _ _=>by kernel_rfl
theorem z8E:IG1 H j6i 684032:=gk1 fun _ _=>by kernel_rfl
theorem z7b (h:H 167=none):IF1 H f167 167:=fk1 h rfl fun _ _=>by kernel_rfl
theorem j7N (h:H 168=none):IF2 H f168 168:=fk2 h rfl fun _ _ _=>by kernel_rfl
theorem q8E (h:H 169=none):IF4 H f169 169:=fk4 h rfl fun _ _ _ _ _=>by kernel_rfl
theorem z8F:IG3 H j6j 696320:=gk3 fun _ _ _ _=>by kernel_rfl
theorem z8G:IG3 H j6k 696321:=gk3 fun _ _ _ _=>by kernel_rfl
theorem z8H:IG3 H j6l 696322:=gk3 fun _ _ _ _=>by kernel_rfl
theorem z7c (h:H 170=none):IF3 H f170 170:=fk3 h rfl fun _ _ _ _=>by kernel_rfl
theorem j7O (h:H 171=none):IF1 H f171 171:=fk1 h rfl fun _ _=>by kernel_rfl
theorem z0y:IG2 H z8I 704512:=gk2 fun _ _ _=>by kernel_rfl
theorem z0z:IG2 H z8J 704513:=gk2 fun _ _ _=>by kernel_rfl
theorem z8K:IG2 H j6m 704514:=gk2 fun _ _ _=>by kernel_rfl
theorem z7d (h:H 172=none):IF1 H f172 172:=fk1 h rfl fun _ _=>by kernel_rfl
abbrev wt:=ai @T.zz0<|ai @T.zz1<|ai @T.zz2<|ai @T.zz3<|ai @T.zz4<|ai @a8a<|ai @a8b<|ai @a8c<|ai @a8d<|ai @a9q<|ai @a9r<|ai @a9s<|ai @a9t<|ai @a9u<|ai @a9v<|ai @a9w<|ai @a9x<|ai @j6W<|ai @j6X<|ai @j6Y<|ai @z6m<|ai @j6Z<|ai @z6n<|ai @z6o<|ai @j60<|ai @j1c<|ai @j1d<|ai @j1e<|ai @j1f<|ai @j62<|ai @j66<|ai @a1x<|ai @a1y<|ai @a1z<|ai @a1A<|ai @j67<|ai @a1B<|ai @a8e<|ai @j7P<|ai @j7Q<|ai @j7R<|ai @j7S<|ai @j7T<|ai @j7U<|ai @j7V<|ai @j7W<|ai @j7X<|ai @j7Y<|ai @j7Z<|ai @j70<|ai @j71<|ai @a2w<|ai @a2x<|ai @a2y<|ai @a2z<|ai @a2A<|ai @a2B<|ai @a2C<|ai @a2D<|ai @a2E<|ai @a2F<|ai @a2G<|ai @a2H<|ai @a2I<|ai @a2J<|ai @a2K<|ai @a2L<|ai @a2M<|ai @a2N<|ai @a2O<|ai @a2P<|ai @a2Q<|ai @a2R<|ai @a2S<|ai @a2T<|ai @a2U<|ai @a2V<|ai @a2W<|ai @a2X<|ai @a2Y<|ai @a2Z<|ai @a3a<|ai @a3b<|ai @a3c<|ai @a3d<|ai @a3e<|ai @a3f<|ai @a3g<|ai @a3h<|ai @a3i<|ai @a8x<|ai @a8y<|ai @a8z<|ai @a8B<|ai @a9F<|ai @a9G<|ai @a9H<|ai @a9I<|ai @a9J<|ai @a9K<|ai @a8F<|ai @a8G<|ai @a8H<|ai @a8I<|ai @ld2<|ai @a8J<|ai @a8K<|ai @a9L<|ai @a9M<|ai @a9N<|ai @a9O<|ai @a9P<|ai @ld3<|ai @ld4<|ai @a9Q<|ai @a9R<|ai @a9S<|ai @a9T<|ai @a9U<|ai @a9V<|ai @a9W<|ai @ld9<|ai @a9X<|ai @a9Y<|ai @a9Z<|ai @a7b<|ai @a7c<|ai @a8L<|ai @a8M<|ai @a8N<|ai @a8O<|ai @a90<|ai @a92<|ai @a94<|ai @a95 @a96
abbrev wp:=ai @aps<|ai @z6a<|ai @obs<|ai @ips @wt
abbrev q0d:=ai @wp<|ai @Nat.zero_add<|ai @Nat.add_zero @ge
abbrev q1b:=ai @wp<|ai @ge<|ai @Nat.zero_add @Nat.add_zero
abbrev q0T:=ai @wp<|ai @lcs<|ai @oms<|ai @Nat.zero_add<|ai @ift<|ai @ge @Nat.add_zero
abbrev q0B:=ai @wp<|ai @lcs<|ai @oms<|ai @Nat.zero_add<|ai @ift @ge
abbrev j0Z:=ai @wp<|ai @lcs<|ai @oms<|ai @Nat.zero_add<|ai @ift<|ai @ge<|ai @bn4 @Nat.add_zero
abbrev a7G:=ai @wp<|ai @ge<|ai @bn4<|ai @Nat.zero_add @Nat.add_zero
abbrev q3N:=ai @wp @ge
abbrev a9c:=ai @wp<|ai @lcs<|ai @oms<|ai @Nat.zero_add<|ai @ift<|ai @ge<|ai @be4<|ai @bn4 @Nat.add_zero
abbrev a7H:=ai @wp<|ai @lcs<|ai @oms<|ai @Nat.zero_add<|ai @ift<|ai @ge<|ai @be4 @Nat.add_zero
abbrev z2s:=ai @wt<|ai @aps<|ai @z6a<|ai @obs @z5f
abbrev q5v:=ai @wp @iv9
abbrev a0O:=ai @wp<|ai @lcs<|ai @oms<|ai @Nat.zero_add<|ai @ift<|ai @ge<|ai @b0c @Nat.add_zero
abbrev a0P:=ai @wp<|ai @lcs<|ai @oms<|ai @Nat.zero_add<|ai @ift<|ai @ge<|ai @b0d @Nat.add_zero
abbrev j6C:=ai @wp<|ai @ge<|ai @bn4 @a9y
end
section
set_option maxRecDepth 4000
open Go Go.Abs
theorem z9k {x y c:Int} (m:Mem) (h:0<=x/\0<=y/\0<=c/\c<=1):run E2 (.fn 59) [.int .u64 x,.int .u64 y,.int .u64 c] m=some (.tup [.int .u64 ((x+y+c) % 18446744073709551616),.int .u64 ((x+y+c) / 18446744073709551616)],m):=by
 rw[q00 (h:=q4w) rfl];simp only[q4w,if_pos h]
theorem q9a {x y c:Int} (m:Mem) (h:0<=x/\0<=y/\y<18446744073709551616/\0<=c/\c<=1):run E2 (.fn 60) [.int .u64 x,.int .u64 y,.int .u64 c] m=some (.tup [.int .u64 ((x-y-c) % 18446744073709551616),.int .u64 (if x<y+c then 1 else 0)],m):=by
 rw[q00 (h:=q7q) rfl];simp only[q7q,if_pos h]
theorem a1t:(true==false)=false:=rfl
theorem a1s:(false==true)=false:=rfl
theorem a1o (a b:Wd) (ha:a.ok) (hb:b.ok) (m:Mem):Res m (run E2 (.fn 21) [.agg a.cells,.agg b.cells] m) (.tup [.agg (Wd.res (a.val+b.val)).1.cells,.int .i64 (Wd.res (a.val+b.val)).2]):=by
 obtain⟨ah,al⟩:=a;obtain⟨bh,bl⟩:=b;obtain⟨a1,a2,a3,a4⟩:=ha;obtain⟨b1,b2,b3,b4⟩:=hb;simp only[Wd.val]at *;obtain⟨c,hc⟩:∃c,c=(al+bl+0) / 18446744073709551616:=⟨_,rfl⟩;have c0:0<=c/\c<=1:=by omega
 obtain⟨h,hh⟩:∃h,h=IntKind.wrap .i64 ((ah % 18446744073709551616+bh % 18446744073709551616+c) % 18446744073709551616):=⟨_,rfl⟩;have hh2:=hh;rw[q2N]at hh2;simp only[a1I (H:=H2) rfl,T.f21,pB,p1,q1,p2,q0n,AV.cells,Nat.reduceAdd,Nat.reduceLeDiff,q0N,q0l,q0b,ifV,q0S,q0V,a9c,Wd.cells,AV.one,over,lcl,z9k _ (show 0<=al/\0<=bl/\(0:Int)<=0/\(0:Int)<=1 by omega),z1o,<-hc,z9k _ (show 0<=ah % 18446744073709551616/\0<=bh % 18446744073709551616/\0<=c/\c<=1 by omega),<-hh]
 by_cases h1:ah<0<;>by_cases h2:bh<0<;>by_cases h3:h<0<;>
  simp only[h1,h2,h3,decide_true,decide_false,BEq.rfl,xbt,xbf,j2c (H:=H2),T.j8e,p1,q0n,AV.cells,Nat.reduceAdd,Nat.reduceLeDiff,q0S,q0V,q0B,AV.one,over,lcl,<-hh,a1t,a1s]<;>
  (refine Res.eq ?_ ?_
   ·(repeat apply Fr.lays)
    exact Fr.refl _
   ·first
    |exact j0m (q0X (by omega) (by omega)) (by omega) (by omega)
    |exact q4q (q1q (by omega)))
end
section
set_option maxRecDepth 4000
open Go Go.Abs
theorem j4a {x y:Int} (hx:0<=x) (hx2:x<18446744073709551616) (hy:0<=y) (hy2:y<18446744073709551616) (m:Mem) :
  run E2 (.fn 168) [.int .u64 x,.int .u64 y] m=some (.tup [.int .u64 (x*y / 18446744073709551616),.int .u64 (x*y % 18446744073709551616)],m):=by
 obtain⟨h1,h2,h3,h4,h5,h6,h7,h8⟩:=a8S hx hx2 hy hy2;have hr:0<=x*y / 18446744073709551616/\x*y / 18446744073709551616<18446744073709551616:=by
  have h9:0<=x*y:=Int.mul_nonneg hx hy;have h10:x*y<=18446744073709551615*y:=Int.mul_le_mul_of_nonneg_right (by omega) hy;omega
 simp only[j7N (H:=H2) rfl,T.f168,p2,wp,q4Q _ hx hx2,q4Q _ hy hy2,q2i _ hx,q2i _ hy,wrap_u64 h1.1 h1.2,q2i _ h1.1,wrap_u64 h2.1 h2.2,wrap_u64 h3.1 h3.2,q4Q _ h3.1 h3.2,q2i _ h3.1,wrap_u64 h4.1 h4.2,wrap_u64 h5.1 h5.2,wrap_u64 h6.1 h6.2,wrap_u64 h7.1 h7.2,q2i _ h5.1,h8,wrap_u64 hr.1 hr.2,q0m]
theorem j36 {x:Int} (h0:0<x) (h1:x<256):∃n:Nat,q4A Tryz.prog 9 (.str len8) (.int .u8 x)=some (.int .u8 ((n:Int)+1))/\n<8/\(2:Int) ^ n<=x/\x<2*2 ^ n:=by
 obtain⟨n,e1,e2,e3,e4⟩:=j9Z x.toNat (by omega) (by omega);refine⟨n,?_,e2,?_,?_⟩
 ·rw[iv9,if_pos (by omega),e1];simp only;congr 2;rw[show (UInt8.ofNat (n+1)).toNat=n+1 by simp;omega];rfl
 ·have:((2 ^ n:Nat):Int)<=((x.toNat:Nat):Int):=by exact_mod_cast e3
  have e9:((2 ^ n:Nat):Int)=(2:Int) ^ n:=Int.natCast_pow 2 n;omega
 ·have:((x.toNat:Nat):Int)<((2*2 ^ n:Nat):Int):=by exact_mod_cast e4
  have e9:((2 ^ n:Nat):Int)=(2:Int) ^ n:=Int.natCast_pow 2 n;omega
theorem j37:(len8:List UInt8)=[0,1,2,2,3,3,3,3,4,4,4,4,4,4,4,4,5,5,5,5,5,5,5,5,5,5,5,5,5,5,5,5,6,6,6,6,6,6,6,6,6,6,6,6,6,6,6,6,6,6,6,6,6,6,6,6,6,6,6,6,6,6,6,6,7,7,7,7,7,7,7,7,7,7,7,7,7,7,7,7,7,7,7,7,7,7,7,7,7,7,7,7,7,7,7,7,7,7,7,7,7,7,7,7,7,7,7,7,7,7,7,7,7,7,7,7,7,7,7,7,7,7,7,7,7,7,7,7,8,8,8,8,8,8,8,8,8,8,8,8,8,8,8,8,8,8,8,8,8,8,8,8,8,8,8,8,8,8,8,8,8,8,8,8,8,8,8,8,8,8,8,8,8,8,8,8,8,8,8,8,8,8,8,8,8,8,8,8,8,8,8,8,8,8,8,8,8,8,8,8,8,8,8,8,8,8,8,8,8,8,8,8,8,8,8,8,8,8,8,8,8,8,8,8,8,8,8,8,8,8,8,8,8,8,8,8,8,8,8,8,8,8,8,8,8,8,8,8,8,8,8,8,8,8,8,8]:=by decide +kernel
theorem z9L {x k:Int} (h0:0<x) (h1:x<256) (hk:0<=k) (hk2:k<1000) (m:Mem):∃n:Nat,D2.gor 704514 [.int .u64 x,.int .i64 k] m=some (.int .i64 (k+n+1),m)/\n<8/\(2:Int) ^ n<=x/\x<2*2 ^ n:=by
 obtain⟨n,e1,e2,e3,e4⟩:=j36 h0 h1;rw[j37]at e1;have w8:IntKind.wrap .u8 x=x:=by
  have e:IntKind.wrap .u8 x=x % 256:=by simp[IntKind.wrap,IntKind.bits,IntKind.signed]
  rw[e];omega
 refine⟨n,?_,e2,e3,e4⟩;simp only[z8K (H:=H2),T.j6m,p1,p2,q5v,w8,e1,wrap_i64 (n:=(n:Int)+1) (by omega) (by omega),wrap_i64 (n:=k+((n:Int)+1)) (by omega) (by omega)];rw[Int.add_assoc]
theorem z9K {x k:Int} (h0:0<x) (h1:x<65536) (hk:0<=k) (hk2:k<900) (m:Mem):∃n:Nat,D2.gor 704513 [.int .u64 x,.int .i64 k] m=some (.int .i64 (k+n+1),m)/\n<16/\(2:Int) ^ n<=x/\x<2*2 ^ n:=by
 by_cases h:256<=x
 ·obtain⟨n,e1,e2,e3,e4⟩:=z9L (x:=x / 256) (k:=k+8) (by omega) (by omega) (by omega) (by omega) m;refine⟨n+8,?_,by omega,?_,?_⟩
  ·simp only[z0z (H:=H2),T.z8J,p2,q0b,wp,dt h,z2z _ (show 0<=x by omega) (show (0:Int)<=8 by omega) (show (2:Int) ^ (min (8:Int).toNat IntKind.u64.bits)=256 by rfl),wrap_i64 (n:=k+8) (by omega) (by omega),e1];congr 3;omega
  ·rw[Int.pow_add,show (2:Int) ^ 8=256 by rfl];omega
  ·rw[Int.pow_add,show (2:Int) ^ 8=256 by rfl];omega
 ·obtain⟨n,e1,e2,e3,e4⟩:=z9L (x:=x) (k:=k) (by omega) (by omega) (by omega) (by omega) m;refine⟨n,?_,by omega,e3,e4⟩;simp only[z0z (H:=H2),T.z8J,p2,q0b,wp,df h,e1]
theorem z9J {x k:Int} (h0:0<x) (h1:x<4294967296) (hk:0<=k) (hk2:k<800) (m:Mem):∃n:Nat,D2.gor 704512 [.int .u64 x,.int .i64 k] m=some (.int .i64 (k+n+1),m)/\n<32/\(2:Int) ^ n<=x/\x<2*2 ^ n:=by
 by_cases h:65536<=x
 ·obtain⟨n,e1,e2,e3,e4⟩:=z9K (x:=x / 65536) (k:=k+16) (by omega) (by omega) (by omega) (by omega) m;refine⟨n+16,?_,by omega,?_,?_⟩
  ·simp only[z0y (H:=H2),T.z8I,p2,q0b,wp,dt h,z2z _ (show 0<=x by omega) (show (0:Int)<=16 by omega) (show (2:Int) ^ (min (16:Int).toNat IntKind.u64.bits)=65536 by rfl),wrap_i64 (n:=k+16) (by omega) (by omega),e1];congr 3;omega
  ·rw[Int.pow_add,show (2:Int) ^ 16=65536 by rfl];omega
  ·rw[Int.pow_add,show (2:Int) ^ 16=65536 by rfl];omega
 ·obtain⟨n,e1,e2,e3,e4⟩:=z9K (x:=x) (k:=k) (by omega) (by omega) (by omega) (by omega) m;refine⟨n,?_,by omega,e3,e4⟩;simp only[z0y (H:=H2),T.z8I,p2,q0b,wp,df h,e1]
theorem j35 {x:Int} (h0:0<x) (h1:x<18446744073709551616) (m:Mem):∃n:Nat,run E2 (.fn 172) [.int .u64 x] m=some (.int .i64 ((n:Int)+1),m)/\n<64/\(2:Int) ^ n<=x/\x<2*2 ^ n:=by
 by_cases h:4294967296<=x
 ·obtain⟨n,e1,e2,e3,e4⟩:=z9J (x:=x / 4294967296) (k:=32) (by omega) (by omega) (by omega) (by omega) m;refine⟨n+32,?_,by omega,?_,?_⟩
  ·simp only[z7d (H:=H2) rfl,T.f172,p2,q0b,wp,dt h,q2i _ (show 0<=x by omega),e1];congr 3;omega
  ·rw[Int.pow_add,show (2:Int) ^ 32=4294967296 by rfl];omega
  ·rw[Int.pow_add,show (2:Int) ^ 32=4294967296 by rfl];omega
 ·obtain⟨n,e1,e2,e3,e4⟩:=z9J (x:=x) (k:=0) (by omega) (by omega) (by omega) (by omega) m;refine⟨n,?_,by omega,e3,e4⟩;simp only[z7d (H:=H2) rfl,T.f172,p2,q0b,wp,df h,e1,Int.zero_add]
theorem a8P {x:Int} (h0:0<x) (h1:x<18446744073709551616) (m:Mem):∃s:Nat,run E2 (.fn 171) [.int .u64 x] m=some (.int .i64 (s:Int),m)/\s<64/\9223372036854775808<=x*2 ^ s/\x*2 ^ s<18446744073709551616:=by
 obtain⟨n,e1,e2,e3,e4⟩:=j35 h0 h1 m;have hp:(2:Int) ^ n*2 ^ (63-n)=9223372036854775808:=by
  rw[<-Int.pow_add,show n+(63-n)=63 by omega];rfl
 have hpos:(0:Int)<2 ^ (63-n):=Int.pow_pos (by omega);have h3:(2:Int) ^ n*2 ^ (63-n)<=x*2 ^ (63-n):=Int.mul_le_mul_of_nonneg_right e3 (by omega);have h4:x*2 ^ (63-n)<2*2 ^ n*2 ^ (63-n):=Int.mul_lt_mul_of_pos_right e4 hpos;rw[Int.mul_assoc]at h4;refine⟨63-n,?_,by omega,by omega,by omega⟩;simp only[j7O (H:=H2) rfl,T.f171,p2,wp,e1,wrap_i64 (n:=64-((n:Int)+1)) (by omega) (by omega)];congr 3;omega
end
section
set_option maxRecDepth 4000
open Go Go.Abs
theorem z6F {y yn1 yn0 un un1:Int} (s un0:AV) (hy:y=yn1*4294967296+yn0) (hy1:2147483648<=yn1) (hy2:yn1<4294967296) (hy0:0<=yn0) (hy3:yn0<4294967296) (hun:un<y) (hu0:0<=un1) (hu1:un1<4294967296) (m:Mem) :
  ∀(d:Nat) (q r:Int),4294967296<=r+d*yn1->0<=q->q<=4294967297->0<=r->r<4294967296->q*yn1+r=un->un*4294967296+un1<(q+1)*y->
   D2.gor 679939 [.int .u64 y,s,.int .u64 yn1,.int .u64 yn0,.int .u64 un,.int .u64 un1,un0,.int .u64 q,.int .u64 r] m =
   D2.gor 679941 [.int .u64 y,s,.int .u64 yn1,.int .u64 yn0,.int .u64 un,.int .u64 un1,un0,.int .u64 ((un*4294967296+un1) / y)] m:=by
 intro d;induction d with
 |zero=>intro q r h;intros;omega
 |succ d ih=>
  intro q r hd hq hq2 hr hr2 e hu;have hyp:0<y:=by omega
  have step:(∀h:un*4294967296+un1<q*y,D2.gor 679940 [.int .u64 y,s,.int .u64 yn1,.int .u64 yn0,.int .u64 un,.int .u64 un1,un0,.int .u64 q,.int .u64 r] m =
    D2.gor 679941 [.int .u64 y,s,.int .u64 yn1,.int .u64 yn0,.int .u64 un,.int .u64 un1,un0,.int .u64 ((un*4294967296+un1) / y)] m):=by
   intro h;have hq1:1<=q:=by
    by_cases h0:q=0
    ·subst h0;simp only[Int.zero_mul]at h;have:0<=un:=by rw[<-e];omega
     omega
    ·omega
   have e':=q7V e;have hu':=z4f h;have hdm:((d+1:Nat):Int)*yn1=d*yn1+yn1:=by rw[Int.natCast_add,Int.add_mul];simp
   rw[hdm]at hd;by_cases hb:4294967296<=r+yn1
   ·simp only[z0w (H:=H2),T.z8A,p2,q0b,wp,wrap_u64 (x:=q-1) (by omega) (by omega),wrap_u64 (x:=r+yn1) (by omega) (by omega),dt hb];rw[q5f hy e' (z0I hy (by omega) hy0 hy3 hun hu0 (by omega) e' hb) hu']
   ·simp only[z0w (H:=H2),T.z8A,p2,q0b,wp,wrap_u64 (x:=q-1) (by omega) (by omega),wrap_u64 (x:=r+yn1) (by omega) (by omega),df hb];exact ih (q-1) (r+yn1) (by omega) (by omega) (by omega) (by omega) (by omega) e' hu'
  by_cases hbig:4294967296<=q
  ·simp only[q6Z (H:=H2),T.z2W,p2,q0b,ifV,wp,dt hbig];exact step (z0H hun hu1 hbig hyp)
  ·have hm:=z15 hq (by omega) hy0 hy3;by_cases hgt:4294967296*r+un1<q*yn0
   ·simp only[q6Z (H:=H2),T.z2W,p2,q0b,ifV,wp,df hbig,wrap_u64 (x:=q*yn0) hm.1 (by omega),wrap_u64 (x:=4294967296*r) (by omega) (by omega),wrap_u64 (x:=4294967296*r+un1) (by omega) (by omega),dt hgt];exact step (z4e hy e hgt)
   ·simp only[q6Z (H:=H2),T.z2W,p2,q0b,ifV,wp,df hbig,wrap_u64 (x:=q*yn0) hm.1 (by omega),wrap_u64 (x:=4294967296*r) (by omega) (by omega),wrap_u64 (x:=4294967296*r+un1) (by omega) (by omega),df hgt];rw[q5f hy e (by omega) hu]
theorem z6G {y yn1 yn0 un un1:Int} (s q1:AV) (hy:y=yn1*4294967296+yn0) (hy1:2147483648<=yn1) (hy2:yn1<4294967296) (hy0:0<=yn0) (hy3:yn0<4294967296) (hun:un<y) (hu0:0<=un1) (hu1:un1<4294967296) (m:Mem) :
  ∀(d:Nat) (q r:Int),4294967296<=r+d*yn1->0<=q->q<=4294967297->0<=r->r<4294967296->q*yn1+r=un->un*4294967296+un1<(q+1)*y->
   D2.gor 679942 [.int .u64 y,s,.int .u64 yn1,.int .u64 yn0,.int .u64 un1,q1,.int .u64 r,.int .u64 un,.int .u64 q] m =
   D2.gor 679944 [.int .u64 y,s,.int .u64 un1,q1,.int .u64 un,.int .u64 ((un*4294967296+un1) / y)] m:=by
 intro d;induction d with
 |zero=>intro q r h;intros;omega
 |succ d ih=>
  intro q r hd hq hq2 hr hr2 e hu;have hyp:0<y:=by omega
  have step:(∀h:un*4294967296+un1<q*y,D2.gor 679943 [.int .u64 y,s,.int .u64 yn1,.int .u64 yn0,.int .u64 un1,q1,.int .u64 r,.int .u64 un,.int .u64 q] m =
    D2.gor 679944 [.int .u64 y,s,.int .u64 un1,q1,.int .u64 un,.int .u64 ((un*4294967296+un1) / y)] m):=by
   intro h;have hq1:1<=q:=by
    by_cases h0:q=0
    ·subst h0;simp only[Int.zero_mul]at h;have:0<=un:=by rw[<-e];omega
     omega
    ·omega
   have e':=q7V e;have hu':=z4f h;have hdm:((d+1:Nat):Int)*yn1=d*yn1+yn1:=by rw[Int.natCast_add,Int.add_mul];simp
   rw[hdm]at hd;by_cases hb:4294967296<=r+yn1
   ·simp only[z0x (H:=H2),T.z8C,p2,q0b,wp,wrap_u64 (x:=q-1) (by omega) (by omega),wrap_u64 (x:=r+yn1) (by omega) (by omega),dt hb];rw[q5f hy e' (z0I hy (by omega) hy0 hy3 hun hu0 (by omega) e' hb) hu']
   ·simp only[z0x (H:=H2),T.z8C,p2,q0b,wp,wrap_u64 (x:=q-1) (by omega) (by omega),wrap_u64 (x:=r+yn1) (by omega) (by omega),df hb];exact ih (q-1) (r+yn1) (by omega) (by omega) (by omega) (by omega) (by omega) e' hu'
  by_cases hbig:4294967296<=q
  ·simp only[q60 (H:=H2),T.z2X,p2,q0b,ifV,wp,dt hbig];exact step (z0H hun hu1 hbig hyp)
  ·have hm:=z15 hq (by omega) hy0 hy3;by_cases hgt:4294967296*r+un1<q*yn0
   ·simp only[q60 (H:=H2),T.z2X,p2,q0b,ifV,wp,df hbig,wrap_u64 (x:=q*yn0) hm.1 (by omega),wrap_u64 (x:=4294967296*r) (by omega) (by omega),wrap_u64 (x:=4294967296*r+un1) (by omega) (by omega),dt hgt];exact step (z4e hy e hgt)
   ·simp only[q60 (H:=H2),T.z2X,p2,q0b,ifV,wp,df hbig,wrap_u64 (x:=q*yn0) hm.1 (by omega),wrap_u64 (x:=4294967296*r) (by omega) (by omega),wrap_u64 (x:=4294967296*r+un1) (by omega) (by omega),df hgt];rw[q5f hy e (by omega) hu]
theorem j1q {hi lo y:Int} (h0:0<=hi) (hlt:hi<y) (hy:y<18446744073709551616) (hl:0<=lo) (hl2:lo<18446744073709551616) (m:Mem) :
  run E2 (.fn 166) [.int .u64 hi,.int .u64 lo,.int .u64 y] m=some (.tup [.int .u64 ((hi*18446744073709551616+lo) / y),.int .u64 ((hi*18446744073709551616+lo) % y)],m):=by
 have hyp:0<y:=by omega
 simp only[j7M (H:=H2) rfl,T.f166,p2,q1,q0b,wp,df (show ¬y=0 by omega)];simp only[z8x (H:=H2),T.j6e,p2,q1,q0b,wp,df (show ¬y<=hi by omega)];by_cases hz:hi=0
 ·subst hz;have g1:0<=lo / y/\lo / y<18446744073709551616:=⟨Int.ediv_nonneg hl (by omega),Int.lt_of_le_of_lt (Int.ediv_le_self _ hl) hl2⟩;simp only[z0v (H:=H2),T.z8y,p2,q0b,wp,decide_true,q26 _ _ _ _ (show y≠0 by omega),q27 _ _ _ _ (show y≠0 by omega),Int.tdiv_eq_ediv_of_nonneg hl,Int.tmod_eq_emod_of_nonneg hl,wrap_u64 g1.1 g1.2,Int.zero_mul,Int.zero_add]
 ·simp only[z0v (H:=H2),T.z8y,p2,q0b,wp,df hz];obtain⟨s,hs,hs2,hn1,hn2⟩:=a8P hyp hy m;obtain⟨pp,hpp⟩:∃pp:Int,pp=2 ^ s:=⟨_,rfl⟩;obtain⟨qq,hqq⟩:∃qq:Int,qq=2 ^ (64-s):=⟨_,rfl⟩;have hp0:0<pp:=by rw[hpp];exact Int.pow_pos (by omega)
  have hq0:0<qq:=by rw[hqq];exact Int.pow_pos (by omega)
  have hpq:pp*qq=18446744073709551616:=by
   rw[hpp,hqq,<-Int.pow_add,show s+(64-s)=64 by omega];rfl
  rw[<-hpp]at hn1 hn2;obtain⟨y',hy'⟩:∃y',y'=y*pp:=⟨_,rfl⟩;rw[<-hy']at hn1 hn2;have hhi:hi*pp<18446744073709551616:=by
   have:hi*pp<y*pp:=Int.mul_lt_mul_of_pos_right hlt hp0;omega
  have hhi0:0<=hi*pp:=Int.mul_nonneg h0 (by omega);have hb1:0<=lo / qq:=Int.ediv_nonneg hl (by omega);have hb2:lo / qq<pp:=Int.ediv_lt_of_lt_mul hq0 (by rw[hpq];exact hl2);have hb3:lo / qq<18446744073709551616:=Int.lt_of_le_of_lt (Int.ediv_le_self _ hl) hl2;have hor:q0J Tryz.prog .or 26 (.int .u64 (hi*pp)) (.int .u64 (lo / qq))=some (.int .u64 (hi*pp+lo / qq)):=by
   have e1:hi*pp=((hi.toNat*2 ^ s:Nat):Int):=by
    rw[hpp,Int.natCast_mul,Int.toNat_of_nonneg h0,Int.natCast_pow];rfl
   have e2:lo / qq=(((lo / qq).toNat:Nat):Int):=(Int.toNat_of_nonneg hb1).symm;have e3:((2 ^ s:Nat):Int)=pp:=by rw[hpp];exact Int.natCast_pow 2 s
   rw[e1,e2,a1u _ (by omega) (by omega) (by omega)];rfl
  obtain⟨un32,hun⟩:∃un32,un32=hi*pp+lo / qq:=⟨_,rfl⟩;obtain⟨un10,hun10⟩:∃un10,un10=(lo*pp) % 18446744073709551616:=⟨_,rfl⟩;have hM:=j1t hpq hp0 hq0 hun hun10;have hun10b:0<=un10/\un10<18446744073709551616:=by omega
  have hunlt:un32<y':=by rw[hy'];exact z13 (y:=y) hM hlt hl2 hp0 hun10b.1
  have hun0:0<=un32:=by omega
  obtain⟨yn1,hyn1⟩:∃yn1,yn1=y' / 4294967296:=⟨_,rfl⟩;obtain⟨yn0,hyn0⟩:∃yn0,yn0=y' % 4294967296:=⟨_,rfl⟩;have hyy:y'=yn1*4294967296+yn0:=by omega
  obtain⟨i1,i2,i3,i4,i5,i6⟩:=z0J (un:=un32) (u1:=un10 / 4294967296) hyy (by omega) (by omega) (by omega) hun0 hunlt (by omega);have i0:0<=un32 / yn1*yn1:=Int.mul_nonneg i1 (by omega);have k0:IntKind.wrap .u64 (s:Int)=s:=wrap_u64 (by omega) (by omega);have k1:IntKind.wrap .u64 (64-(s:Int))=((64-s:Nat):Int):=by rw[wrap_u64 (by omega) (by omega)];omega
  have t1:un32.tdiv yn1=un32 / yn1:=Int.tdiv_eq_ediv_of_nonneg hun0;have w1:IntKind.wrap .u64 (un32 / yn1)=un32 / yn1:=wrap_u64 (by omega) (by omega);have w2:IntKind.wrap .u64 (un32 / yn1*yn1)=un32 / yn1*yn1:=wrap_u64 (by omega) (by omega);have w3:IntKind.wrap .u64 (un32-un32 / yn1*yn1)=un32-un32 / yn1*yn1:=wrap_u64 (by omega) (by omega);have g2:D2.gor 679938 [.int .u64 hi,.int .u64 lo,.int .u64 y] m=D2.gor 679939 [.int .u64 y',.int .u64 (s:Int),.int .u64 yn1,.int .u64 yn0,.int .u64 un32,.int .u64 (un10 / 4294967296),.int .u64 (un10 % 4294967296),.int .u64 (un32 / yn1),.int .u64 (un32-un32 / yn1*yn1)] m:=by
   simp only[z8z (H:=H2),T.j6f,p1,p2,wp,hs,k0,k1,q8u _ s (show s<=64 by omega),<-hpp,<-hy',Int.emod_eq_of_lt (show 0<=y' by omega) hn2,q2i _ (show 0<=y' by omega),q4Q _ (show 0<=y' by omega) hn2,Int.emod_eq_of_lt hhi0 hhi,q8v _ (64-s) (show 64-s<=64 by omega),<-hqq,hor,<-hun,<-hun10,q2i _ hun10b.1,q4Q _ hun10b.1 hun10b.2,<-hyn1,<-hyn0,q26 _ _ _ _ (show yn1≠0 by omega),t1,w1,w2,w3]
  rw[g2,z6F (.int .u64 (s:Int)) (.int .u64 (un10 % 4294967296)) hyy (by omega) (by omega) (by omega) (by omega) hunlt (by omega) (by omega) m 2 _ _ (by omega) i1 i2 i4 (by omega) i3 i6];obtain⟨q1,hq1⟩:∃q1,q1=(un32*4294967296+un10 / 4294967296) / y':=⟨_,rfl⟩;obtain⟨r1,hr1⟩:∃r1,r1=(un32*4294967296+un10 / 4294967296) % y':=⟨_,rfl⟩;have hqr:un32*4294967296+un10 / 4294967296=q1*y'+r1:=by rw[hq1,hr1];exact(Int.ediv_mul_add_emod _ _).symm
  have hr1b:0<=r1/\r1<y':=by rw[hr1];exact⟨Int.emod_nonneg _ (by omega),Int.emod_lt_of_pos _ (by omega)⟩
  have hq1b:0<=q1/\q1<4294967296:=by
   rw[hq1];exact⟨Int.ediv_nonneg (by omega) (by omega),Int.ediv_lt_of_lt_mul (by omega) (by omega)⟩
  rw[<-hq1];have hr1w:IntKind.wrap .u64 (IntKind.wrap .u64 (IntKind.wrap .u64 (un32*4294967296)+un10 / 4294967296)-IntKind.wrap .u64 (q1*y'))=r1:=by
   simp only[q0m];omega
  obtain⟨j1,j2,j3,j4,j5,j6⟩:=z0J (un:=r1) (u1:=un10 % 4294967296) hyy (by omega) (by omega) (by omega) hr1b.1 hr1b.2 (by omega);have j0:0<=r1 / yn1*yn1:=Int.mul_nonneg j1 (by omega);have t2:r1.tdiv yn1=r1 / yn1:=Int.tdiv_eq_ediv_of_nonneg hr1b.1;have v1:IntKind.wrap .u64 (r1 / yn1)=r1 / yn1:=wrap_u64 (by omega) (by omega);have v2:IntKind.wrap .u64 (r1 / yn1*yn1)=r1 / yn1*yn1:=wrap_u64 (by omega) (by omega)
  have v3:IntKind.wrap .u64 (r1-r1 / yn1*yn1)=r1-r1 / yn1*yn1:=wrap_u64 (by omega) (by omega);simp only[z8B (H:=H2),T.j6g,p2,wp,hr1w,q26 _ _ _ _ (show yn1≠0 by omega),t2,v1,v2,v3];rw[z6G (.int .u64 (s:Int)) (.int .u64 q1) hyy (by omega) (by omega) (by omega) (by omega) hr1b.2 (by omega) (by omega) m 2 _ _ (by omega) j1 j2 j4 (by omega) j3 j6];obtain⟨q0,hq0'⟩:∃q0,q0=(r1*4294967296+un10 % 4294967296) / y':=⟨_,rfl⟩
  obtain⟨r0,hr0⟩:∃r0,r0=(r1*4294967296+un10 % 4294967296) % y':=⟨_,rfl⟩;have hqr0:r1*4294967296+un10 % 4294967296=q0*y'+r0:=by rw[hq0',hr0];exact(Int.ediv_mul_add_emod _ _).symm
  have hr0b:0<=r0/\r0<y':=by rw[hr0];exact⟨Int.emod_nonneg _ (by omega),Int.emod_lt_of_pos _ (by omega)⟩
  have hq0b:0<=q0/\q0<4294967296:=by
   rw[hq0'];exact⟨Int.ediv_nonneg (by omega) (by omega),Int.ediv_lt_of_lt_mul (by omega) (by omega)⟩
  rw[<-hq0'];obtain⟨f1,f2⟩:=j1s (un32:=un32) (un10:=un10) (y:=y') (q1:=q1) (r1:=r1) (q0:=q0) (r0:=r0) (by omega) hqr hqr0 hr0b.1 hr0b.2;rw[<-hM,hy']at f1 f2;obtain⟨b1,b2⟩:=j1r (n:=hi*18446744073709551616+lo) (y:=y) hp0;rw[b1]at f1;rw[f2]at b2;have hr0w:IntKind.wrap .u64 (IntKind.wrap .u64 (IntKind.wrap .u64 (r1*4294967296)+un10 % 4294967296)-IntKind.wrap .u64 (q0*y'))=r0:=by
   simp only[q0m];omega
  simp only[z8D (H:=H2),T.j6h,p2,wp,wrap_u64 (x:=q1*4294967296) (by omega) (by omega),wrap_u64 (x:=q1*4294967296+q0) (by omega) (by omega),hr0w,q8v _ s (show s<=64 by omega),<-hpp,b2,f1]
end
section
set_option maxRecDepth 4000
open Go Go.Abs
theorem q2g (a b c d:Int):q0J Tryz.prog .eql 43 (.agg [.int .i64 a,.int .u64 b]) (.agg [.int .i64 c,.int .u64 d])=some (.bool (decide (a=c)&&decide (b=d))):=by
 have h:eqA Tryz.prog 50 43 (.agg [.int .i64 a,.int .u64 b]) (.agg [.int .i64 c,.int .u64 d])=(match (a==c) with|true=>(match (b==d) with|true=>some true|false=>some false)|false=>some false):=by kernel_rfl
 have h2:q0J Tryz.prog .eql 43 (.agg [.int .i64 a,.int .u64 b]) (.agg [.int .i64 c,.int .u64 d])=(match eqA Tryz.prog 50 43 (.agg [.int .i64 a,.int .u64 b]) (.agg [.int .i64 c,.int .u64 d]) with|some b=>some (.bool b)|none=>none):=by kernel_rfl
 rw[h2,h,show (a==c)=decide (a=c) from rfl,show (b==d)=decide (b=d) from rfl];cases decide (a=c)<;>cases decide (b=d)<;>rfl
theorem a8U {n:Int} (h1:-9223372036854775808<=n) (h2:n<9223372036854775808) (m:Mem):Res m (run E2 (.fn 54) [.int .i64 n] m) (.agg (Wd.of n).cells):=by
 have e1:n.fdiv (2 ^ (min (63:Int).toNat IntKind.i64.bits))=n / 18446744073709551616:=by
  have:((2:Int) ^ (min (63:Int).toNat IntKind.i64.bits))=9223372036854775808:=by rfl
  rw[this,Int.fdiv_eq_ediv_of_nonneg _ (by omega)];omega
 simp only[a11 (H:=H2) rfl,T.f54,pB,p2,p1,q0n,AV.cells,Nat.reduceAdd,Nat.reduceLeDiff,q0S,q0V,q0B,Wd.cells,AV.one,over,lcl,q5D _ _ _ _ _ (show (0:Int)<=63 by omega),e1,q0m];refine Res.eq ?_ rfl
 (repeat apply Fr.lays)
 exact Fr.refl _
theorem a0E {a:Wd} (ha:a.ok) (m:Mem):Res m (run E2 (.fn 93) [.agg a.cells] m) (.int .i64 (sgn a.val)):=by
 obtain⟨ah,al⟩:=a;obtain⟨a1,a2,a3,a4⟩:=ha;simp only[Wd.val]at *;unfold sgn;simp only[a2r (H:=H2) rfl,T.f93,p1,q1,p2,q0N,q0b,ifV,q0d,Wd.cells,AV.one,AV.cells,lcl];by_cases h1:ah<0
 ·rw[if_pos (by omega)];simp only[dt h1];exact Res.eq ((Fr.refl m).lay _) rfl
 ·rw[if_neg (by omega)];simp only[df h1];by_cases h2:ah=0
  ·simp only[dt h2];by_cases h3:al=0
   ·rw[if_pos (by omega)];simp only[dt h3];exact Res.eq ((Fr.refl m).lay _) rfl
   ·rw[if_neg (by omega)];simp only[df h3,z3X (H:=H2),T.j3Q,wp];exact Res.eq ((Fr.refl m).lay _) rfl
  ·rw[if_neg (by omega)];simp only[df h2,z3X (H:=H2),T.j3Q,wp];exact Res.eq ((Fr.refl m).lay _) rfl
theorem a1w {a b:Wd} (ha:a.ok) (hb:b.ok) (m:Mem):Res m (run E2 (.fn 20) [.agg a.cells,.agg b.cells] m) (.int .i64 (sgn (a.val-b.val))):=by
 obtain⟨ah,al⟩:=a;obtain⟨bh,bl⟩:=b;obtain⟨a1,a2,a3,a4⟩:=ha;obtain⟨b1,b2,b3,b4⟩:=hb;simp only[Wd.val]at *;unfold sgn;simp only[a1H (H:=H2) rfl,T.f20,p1,q1,p2,q0N,q0b,ifV,Nat.reduceAdd,q0d,Wd.cells,AV.one,AV.cells,Nat.reduceLeDiff,lcl,q2g];by_cases h1:ah<bh
 ·rw[if_pos (by omega)];simp only[dt h1];exact Res.eq (((Fr.refl m).lay _).lay _) rfl
 ·simp only[df h1];by_cases h2:ah=bh
  ·simp only[dt h2];by_cases h3:al<bl
   ·rw[if_pos (by omega)];simp only[dt h3];exact Res.eq (((Fr.refl m).lay _).lay _) rfl
   ·rw[if_neg (by omega)];simp only[df h3];by_cases h4:al=bl
    ·rw[if_pos (by omega)];simp only[dt h4,Bool.and_self];exact Res.eq (((Fr.refl m).lay _).lay _) rfl
    ·rw[if_neg (by omega)];simp only[df h4,Bool.and_false,z2Y (H:=H2),T.j8d,wp];exact Res.eq (((Fr.refl m).lay _).lay _) rfl
  ·rw[if_neg (by omega),if_neg (by omega)];simp only[df h2,Bool.false_and,z2Y (H:=H2),T.j8d,wp];exact Res.eq (((Fr.refl m).lay _).lay _) rfl
def q1F (n:Int):Int:=if n<0 then -n else n
theorem a0F {a:Wd} (ha:a.ok) (m:Mem):Res m (run E2 (.fn 167) [.agg a.cells] m) (.tup [.int .u64 (q1F a.val / 18446744073709551616),.int .u64 (q1F a.val % 18446744073709551616)]):=by
 obtain⟨ah,al⟩:=a;obtain⟨a1,a2,a3,a4⟩:=ha;simp only[Wd.val]at *;unfold q1F;by_cases h1:0<=ah
 ·rw[if_neg (by omega)];simp only[z7b (H:=H2) rfl,T.f167,p1,q1,p2,q0N,q0b,q0d,Wd.cells,AV.one,AV.cells,lcl,dt h1,q0m];have e1:(ah*18446744073709551616+al) / 18446744073709551616=ah:=by omega
  have e2:(ah*18446744073709551616+al) % 18446744073709551616=al:=by omega
  have e3:ah % 18446744073709551616=ah:=by omega
  rw[e1,e2,e3];exact Res.eq ((Fr.refl m).lay _) rfl
 ·rw[if_pos (by omega)];obtain⟨c,hc⟩:∃c:Int,c=(if 0<al+0 then 1 else 0):=⟨_,rfl⟩
  have c0:0<=c/\c<=1:=by omega
  simp only[z7b (H:=H2) rfl,T.f167,p1,q1,p2,q0N,q0b,q0d,Wd.cells,AV.one,AV.cells,lcl,df (show ¬ah>=0 by omega)];simp only[z8E (H:=H2),T.j6i,p1,q1,q0l,q1b,lcl,q9a _ (show (0:Int)<=0/\0<=al/\al<18446744073709551616/\(0:Int)<=0/\(0:Int)<=1 by omega),q0m,<-hc,q9a _ (show (0:Int)<=0/\0<=ah % 18446744073709551616/\ah % 18446744073709551616<18446744073709551616/\0<=c/\c<=1 by omega)]
  have e1:-(ah*18446744073709551616+al) / 18446744073709551616=(0-ah % 18446744073709551616-c) % 18446744073709551616:=by
   by_cases h0:0<al+0
   ·rw[if_pos h0]at hc;omega
   ·rw[if_neg h0]at hc;omega
  have e2:-(ah*18446744073709551616+al) % 18446744073709551616=(0-al-0) % 18446744073709551616:=by omega
  rw[e1,e2];exact Res.eq ((Fr.refl m).lay _) rfl
theorem j0N (below:Bool) {hi lo:Int} (h1:0<=hi) (h2:hi<18446744073709551616) (h3:0<=lo) (h4:lo<18446744073709551616) (m:Mem) :
  Res m (run E2 (.fn 170) [.bool below,.int .u64 hi,.int .u64 lo] m) (.tup [.agg (Wd.res (if below then -(hi*18446744073709551616+lo) else hi*18446744073709551616+lo)).1.cells,.int .i64 (Wd.res (if below then -(hi*18446744073709551616+lo) else hi*18446744073709551616+lo)).2]):=by
 cases below with
 |false=>
  simp only[z7c (H:=H2) rfl,T.f170,pB,p1,p2,q0n,AV.cells,Nat.reduceAdd,Nat.reduceLeDiff,q0b,unA,q0S,q0V,q0B,Wd.cells,AV.one,over,lcl,xbf,xbq];by_cases h:9223372036854775808<=hi
  ·simp only[dt h];exact Res.eq ((Fr.refl m).lay _) (q4q (q1q (by omega)))
  ·simp only[df h,z8F (H:=H2),T.j6j,p1,q0n,AV.cells,Nat.reduceAdd,Nat.reduceLeDiff,q0S,q0V,q0B,AV.one,over,lcl,wrap_i64 (n:=hi) (by omega) (by omega)];exact Res.eq ((Fr.refl m).lay _) (j0m (q0X (by omega) (by omega)) (by omega) (by omega))
 |true=>
  simp only[z7c (H:=H2) rfl,T.f170,pB,p1,p2,q0n,q0b,unA,q0S,q0V,q0B,Wd.cells,lcl,xbt];simp only[z8G (H:=H2),T.j6k,p2,p1,q0n,AV.cells,Nat.reduceAdd,Nat.reduceLeDiff,q0b,ifV,q0S,q0V,q0B,AV.one,over,lcl];have main:hi*18446744073709551616+lo<=170141183460469231731687303715884105728->Res m ((T.Rl H2).gor 696322 [.int .u64 hi,.int .u64 lo,.ptr (some ⟨m.next,0⟩)] (m.lay (.cells [.int .i64 0,.int .u64 0] false))) (.tup [.agg (Wd.res (-(hi*18446744073709551616+lo))).1.cells,.int .i64 (Wd.res (-(hi*18446744073709551616+lo))).2]):=by
   intro hle;obtain⟨c,hc⟩:∃c:Int,c=(if 0<lo+0 then 1 else 0):=⟨_,rfl⟩
   have c0:0<=c/\c<=1:=by omega
   have hw:IntKind.wrap .i64 ((0-hi-c) % 18446744073709551616)=-hi-c:=by rw[q2N];omega
   simp only[z8H (H:=H2),T.j6l,p1,q0n,AV.cells,Nat.reduceAdd,Nat.reduceLeDiff,q0l,q0S,q0V,q0B,Wd.cells,AV.one,over,lcl,q9a _ (show (0:Int)<=0/\0<=lo/\lo<18446744073709551616/\(0:Int)<=0/\(0:Int)<=1 by omega),<-hc,q9a _ (show (0:Int)<=0/\0<=hi/\hi<18446744073709551616/\0<=c/\c<=1 by omega),hw];exact Res.eq ((Fr.refl m).lay _) (j0m (q0X (by omega) (by omega)) (by omega) (by omega))
  by_cases h:9223372036854775808<hi
  ·simp only[dt h];exact Res.eq ((Fr.refl m).lay _) (q4q (q1q (by omega)))
  ·simp only[df h];by_cases h5:hi=9223372036854775808
   ·simp only[dt h5];by_cases h6:0<lo
    ·simp only[dt h6];exact Res.eq ((Fr.refl m).lay _) (q4q (q1q (by omega)))
    ·simp only[df h6];exact main (by omega)
   ·simp only[df h5];exact main (by omega)
theorem j4Q (n:Int) (m:Mem):run E2 (.fn 146) [.int .i64 n] m=some (.bool (decide (0<=n/\n<=18)),m):=by
 simp only[j7C (H:=H2) rfl,T.f146,p2,ifV,wp];by_cases h1:0<=n
 ·by_cases h2:n<=18<;>simp[h1,h2]
 ·simp[h1]
def q0H (w:Wd) (s:Int):List AV:=[.int .i64 w.hi,.int .u64 w.lo,.int .i64 s]
theorem z6H (w:Wd) (s:Int) (m:Mem):Res m (run E2 (.fn 132) [.agg (q0H w s)] m) (.bool (decide (0<=s/\s<=18))):=by
 simp only[q0H,j7y (H:=H2) rfl,T.f132,p1,q1,q0N,q0d,AV.one,AV.cells,lcl,j4Q];exact Res.eq ((Fr.refl m).lay _) rfl
end
end Go.Proofs.YtlginbmjiecglaaGreatDoor
