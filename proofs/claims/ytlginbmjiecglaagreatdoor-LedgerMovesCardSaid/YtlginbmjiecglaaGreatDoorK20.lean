/- Texts of one claim, put together. -/
import Derived.Test.YtlginbmjiecglaaGreatDoorK0
import Derived.Test.YtlginbmjiecglaaGreatDoorK19
namespace Go.Proofs.YtlginbmjiecglaaGreatDoor
section
open Go Go.Abs Go.Proofs.YtlginbmjiecglaaGreatDoor.T
set_option maxRecDepth 4000
theorem i0 {H:FuncId→Option (List AV→Mem→R)} {g:List AV→CM} {k:Nat} (h:T.OkG H g k) (n:∀_:Unit,g []≠.fail) (m:Mem):(T.Rl H).gor k [] m=q0l (T.Rl H) (g []) m:=(h _ m).resolve_right (n ())
theorem j0 {H:FuncId→Option (List AV→Mem→R)} {g:List AV→CM} {k:Nat} (h:T.OkF H g k) (n:∀_:Unit,g []≠.fail) (m:Mem):run (T.EH H) (.fn k) [] m=q0l (T.Rl H) (g []) m:=(h _ m).resolve_right (n ())
theorem i1 {H:FuncId→Option (List AV→Mem→R)} {g:List AV→CM} {k:Nat} (h:T.OkG H g k) (n:∀u:AV,g [u]≠.fail) (u:AV) (m:Mem):(T.Rl H).gor k [u] m=q0l (T.Rl H) (g [u]) m:=(h _ m).resolve_right (n _)
theorem j1 {H:FuncId→Option (List AV→Mem→R)} {g:List AV→CM} {k:Nat} (h:T.OkF H g k) (n:∀u:AV,g [u]≠.fail) (u:AV) (m:Mem):run (T.EH H) (.fn k) [u] m=q0l (T.Rl H) (g [u]) m:=(h _ m).resolve_right (n _)
theorem i2 {H:FuncId→Option (List AV→Mem→R)} {g:List AV→CM} {k:Nat} (h:T.OkG H g k) (n:∀u v:AV,g [u,v]≠.fail) (u v:AV) (m:Mem):(T.Rl H).gor k [u,v] m=q0l (T.Rl H) (g [u,v]) m:=(h _ m).resolve_right (n _ _)
theorem j2 {H:FuncId→Option (List AV→Mem→R)} {g:List AV→CM} {k:Nat} (h:T.OkF H g k) (n:∀u v:AV,g [u,v]≠.fail) (u v:AV) (m:Mem):run (T.EH H) (.fn k) [u,v] m=q0l (T.Rl H) (g [u,v]) m:=(h _ m).resolve_right (n _ _)
theorem i3 {H:FuncId→Option (List AV→Mem→R)} {g:List AV→CM} {k:Nat} (h:T.OkG H g k) (n:∀u v w:AV,g [u,v,w]≠.fail) (u v w:AV) (m:Mem):(T.Rl H).gor k [u,v,w] m=q0l (T.Rl H) (g [u,v,w]) m:=(h _ m).resolve_right (n _ _ _)
theorem j3 {H:FuncId→Option (List AV→Mem→R)} {g:List AV→CM} {k:Nat} (h:T.OkF H g k) (n:∀u v w:AV,g [u,v,w]≠.fail) (u v w:AV) (m:Mem):run (T.EH H) (.fn k) [u,v,w] m=q0l (T.Rl H) (g [u,v,w]) m:=(h _ m).resolve_right (n _ _ _)
theorem i4 {H:FuncId→Option (List AV→Mem→R)} {g:List AV→CM} {k:Nat} (h:T.OkG H g k) (n:∀u v w x:AV,g [u,v,w,x]≠.fail) (u v w x:AV) (m:Mem):(T.Rl H).gor k [u,v,w,x] m=q0l (T.Rl H) (g [u,v,w,x]) m:=(h _ m).resolve_right (n _ _ _ _)
theorem j4 {H:FuncId→Option (List AV→Mem→R)} {g:List AV→CM} {k:Nat} (h:T.OkF H g k) (n:∀u v w x:AV,g [u,v,w,x]≠.fail) (u v w x:AV) (m:Mem):run (T.EH H) (.fn k) [u,v,w,x] m=q0l (T.Rl H) (g [u,v,w,x]) m:=(h _ m).resolve_right (n _ _ _ _)
theorem i5 {H:FuncId→Option (List AV→Mem→R)} {g:List AV→CM} {k:Nat} (h:T.OkG H g k) (n:∀u v w x y:AV,g [u,v,w,x,y]≠.fail) (u v w x y:AV) (m:Mem):(T.Rl H).gor k [u,v,w,x,y] m=q0l (T.Rl H) (g [u,v,w,x,y]) m:=(h _ m).resolve_right (n _ _ _ _ _)
theorem j5 {H:FuncId→Option (List AV→Mem→R)} {g:List AV→CM} {k:Nat} (h:T.OkF H g k) (n:∀u v w x y:AV,g [u,v,w,x,y]≠.fail) (u v w x y:AV) (m:Mem):run (T.EH H) (.fn k) [u,v,w,x,y] m=q0l (T.Rl H) (g [u,v,w,x,y]) m:=(h _ m).resolve_right (n _ _ _ _ _)
theorem i6 {H:FuncId→Option (List AV→Mem→R)} {g:List AV→CM} {k:Nat} (h:T.OkG H g k) (n:∀u v w x y z:AV,g [u,v,w,x,y,z]≠.fail) (u v w x y z:AV) (m:Mem):(T.Rl H).gor k [u,v,w,x,y,z] m=q0l (T.Rl H) (g [u,v,w,x,y,z]) m:=(h _ m).resolve_right (n _ _ _ _ _ _)
theorem j6 {H:FuncId→Option (List AV→Mem→R)} {g:List AV→CM} {k:Nat} (h:T.OkF H g k) (n:∀u v w x y z:AV,g [u,v,w,x,y,z]≠.fail) (u v w x y z:AV) (m:Mem):run (T.EH H) (.fn k) [u,v,w,x,y,z] m=q0l (T.Rl H) (g [u,v,w,x,y,z]) m:=(h _ m).resolve_right (n _ _ _ _ _ _)
theorem i7 {H:FuncId→Option (List AV→Mem→R)} {g:List AV→CM} {k:Nat} (h:T.OkG H g k) (n:∀u v w x y z u6:AV,g [u,v,w,x,y,z,u6]≠.fail) (u v w x y z u6:AV) (m:Mem):(T.Rl H).gor k [u,v,w,x,y,z,u6] m=q0l (T.Rl H) (g [u,v,w,x,y,z,u6]) m:=(h _ m).resolve_right (n _ _ _ _ _ _ _)
theorem i8 {H:FuncId→Option (List AV→Mem→R)} {g:List AV→CM} {k:Nat} (h:T.OkG H g k) (n:∀u v w x y z u6 u7:AV,g [u,v,w,x,y,z,u6,u7]≠.fail) (u v w x y z u6 u7:AV) (m:Mem):(T.Rl H).gor k [u,v,w,x,y,z,u6,u7] m=q0l (T.Rl H) (g [u,v,w,x,y,z,u6,u7]) m:=(h _ m).resolve_right (n _ _ _ _ _ _ _ _)
theorem i9 {H:FuncId→Option (List AV→Mem→R)} {g:List AV→CM} {k:Nat} (h:T.OkG H g k) (n:∀u v w x y z u6 u7 u8:AV,g [u,v,w,x,y,z,u6,u7,u8]≠.fail) (u v w x y z u6 u7 u8:AV) (m:Mem):(T.Rl H).gor k [u,v,w,x,y,z,u6,u7,u8] m=q0l (T.Rl H) (g [u,v,w,x,y,z,u6,u7,u8]) m:=(h _ m).resolve_right (n _ _ _ _ _ _ _ _ _)
theorem i10 {H:FuncId→Option (List AV→Mem→R)} {g:List AV→CM} {k:Nat} (h:T.OkG H g k) (n:∀u v w x y z u6 u7 u8 u9:AV,g [u,v,w,x,y,z,u6,u7,u8,u9]≠.fail) (u v w x y z u6 u7 u8 u9:AV) (m:Mem):(T.Rl H).gor k [u,v,w,x,y,z,u6,u7,u8,u9] m=q0l (T.Rl H) (g [u,v,w,x,y,z,u6,u7,u8,u9]) m:=(h _ m).resolve_right (n _ _ _ _ _ _ _ _ _ _)
abbrev wp:=ai @aps<|ai @q0h<|ai @obs @ips
variable {H:FuncId→Option (List AV→Mem→R)}
abbrev j3n:=i4 (g4_0_ok (H:=H)) fun _ _ _ _=>nofun
abbrev j3o:=i9 (g4_1_ok (H:=H)) fun _ _ _ _ _ _ _ _ _=>nofun
abbrev g4_2_is:=i8 (g4_2_ok (H:=H)) fun _ _ _ _ _ _ _ _=>nofun
abbrev g4_3_is:=i9 (g4_3_ok (H:=H)) fun _ _ _ _ _ _ _ _ _=>nofun
abbrev j3p:=i9 (g4_4_ok (H:=H)) fun _ _ _ _ _ _ _ _ _=>nofun
abbrev g4_5_is:=i9 (g4_5_ok (H:=H)) fun _ _ _ _ _ _ _ _ _=>nofun
abbrev g4_6_is:=i6 (g4_6_ok (H:=H)) fun _ _ _ _ _ _=>nofun
abbrev f4_is (h:H 4=none):=j4 (f4_ok h) fun _ _ _ _=>nofun
abbrev z7d:=i4 (g9_0_ok (H:=H)) fun _ _ _ _=>nofun
abbrev q54:=i4 (g9_1_ok (H:=H)) fun _ _ _ _=>nofun
abbrev g9_2_is:=i4 (g9_2_ok (H:=H)) fun _ _ _ _=>nofun
abbrev g9_3_is:=i2 (g9_3_ok (H:=H)) fun _ _=>nofun
abbrev f9_is (h:H 9=none):=j2 (f9_ok h) fun _ _=>nofun
abbrev j5u:=i1 (g10_0_ok (H:=H)) fun _=>nofun
abbrev f10_is (h:H 10=none):=j2 (f10_ok h) fun _ _=>nofun
abbrev g12_0_is:=i2 (g12_0_ok (H:=H)) fun _ _=>nofun
abbrev g12_1_is:=i2 (g12_1_ok (H:=H)) fun _ _=>nofun
abbrev j5w:=i5 (g12_2_ok (H:=H)) fun _ _ _ _ _=>nofun
abbrev g12_3_is:=i5 (g12_3_ok (H:=H)) fun _ _ _ _ _=>nofun
abbrev g12_4_is:=i5 (g12_4_ok (H:=H)) fun _ _ _ _ _=>nofun
abbrev g12_5_is:=i2 (g12_5_ok (H:=H)) fun _ _=>nofun
abbrev j5x:=i5 (g12_6_ok (H:=H)) fun _ _ _ _ _=>nofun
abbrev g12_7_is:=i5 (g12_7_ok (H:=H)) fun _ _ _ _ _=>nofun
abbrev g12_8_is:=i5 (g12_8_ok (H:=H)) fun _ _ _ _ _=>nofun
abbrev g12_9_is:=i2 (g12_9_ok (H:=H)) fun _ _=>nofun
abbrev j0k:=i5 (g12_10_ok (H:=H)) fun _ _ _ _ _=>nofun
abbrev g12_11_is:=i5 (g12_11_ok (H:=H)) fun _ _ _ _ _=>nofun
abbrev g12_12_is:=i5 (g12_12_ok (H:=H)) fun _ _ _ _ _=>nofun
abbrev g12_13_is:=i2 (g12_13_ok (H:=H)) fun _ _=>nofun
abbrev f12_is (h:H 12=none):=j2 (f12_ok h) fun _ _=>nofun
theorem known_at (h:H 13=some (z14 (.bool true))) (m:Mem):run (T.EH H) (.fn 13) [] m=some (.bool true,m):=q1t (h:=z14 (.bool true)) h [] m
abbrev g14_0_is:=i1 (g14_0_ok (H:=H)) fun _=>nofun
abbrev j5z:=i4 (g14_1_ok (H:=H)) fun _ _ _ _=>nofun
abbrev q5e:=i4 (g14_2_ok (H:=H)) fun _ _ _ _=>nofun
abbrev g14_3_is:=i4 (g14_3_ok (H:=H)) fun _ _ _ _=>nofun
abbrev z6o:=i1 (g14_4_ok (H:=H)) fun _=>nofun
abbrev g14_5_is:=i1 (g14_5_ok (H:=H)) fun _=>nofun
abbrev z6p:=i4 (g14_6_ok (H:=H)) fun _ _ _ _=>nofun
abbrev j50:=i4 (g14_7_ok (H:=H)) fun _ _ _ _=>nofun
abbrev g14_8_is:=i4 (g14_8_ok (H:=H)) fun _ _ _ _=>nofun
abbrev g14_9_is:=i0 (g14_9_ok (H:=H)) fun _=>nofun
abbrev z95 (h:H 14=none):=j2 (f14_ok h) fun _ _=>nofun
abbrev g15_0_is:=i2 (g15_0_ok (H:=H)) fun _ _=>nofun
abbrev j51:=i3 (g15_1_ok (H:=H)) fun _ _ _=>nofun
abbrev g15_2_is:=i3 (g15_2_ok (H:=H)) fun _ _ _=>nofun
abbrev g15_3_is:=i3 (g15_3_ok (H:=H)) fun _ _ _=>nofun
abbrev g15_4_is:=i2 (g15_4_ok (H:=H)) fun _ _=>nofun
abbrev j52:=i3 (g15_5_ok (H:=H)) fun _ _ _=>nofun
abbrev g15_6_is:=i3 (g15_6_ok (H:=H)) fun _ _ _=>nofun
abbrev g15_7_is:=i3 (g15_7_ok (H:=H)) fun _ _ _=>nofun
abbrev g15_8_is:=i2 (g15_8_ok (H:=H)) fun _ _=>nofun
abbrev j53:=i3 (g15_9_ok (H:=H)) fun _ _ _=>nofun
abbrev g15_10_is:=i3 (g15_10_ok (H:=H)) fun _ _ _=>nofun
abbrev g15_11_is:=i3 (g15_11_ok (H:=H)) fun _ _ _=>nofun
abbrev g15_12_is:=i0 (g15_12_ok (H:=H)) fun _=>nofun
abbrev f15_is (h:H 15=none):=j2 (f15_ok h) fun _ _=>nofun
abbrev g16_0_is:=i10 (g16_0_ok (H:=H)) fun _ _ _ _ _ _ _ _ _ _=>nofun
abbrev g16_2_is:=i7 (g16_2_ok (H:=H)) fun _ _ _ _ _ _ _=>nofun
abbrev g16_3_is:=i8 (g16_3_ok (H:=H)) fun _ _ _ _ _ _ _ _=>nofun
abbrev g16_5_is:=i5 (g16_5_ok (H:=H)) fun _ _ _ _ _=>nofun
abbrev g16_6_is:=i5 (g16_6_ok (H:=H)) fun _ _ _ _ _=>nofun
abbrev g16_8_is:=i2 (g16_8_ok (H:=H)) fun _ _=>nofun
theorem z7m (t0 t2 t3 u3 t7 t9 u6 u7 t34 t47:AV) (m:Mem):(T.Rl H).afr 65536 none [t0,t2,t3,u3,t7,t9,u6,u7,t34,t47] m=q0l (T.Rl H) (q99 [t0,t2,t3,u3,t7,t9,u6,u7,t34,t47]) m:=(z7n (H:=H) [t0,t2,t3,u3,t7,t9,u6,u7,t34,t47] m).resolve_right nofun
theorem z7o (t0 t2 t3 u3 t9 u5 u6 t47:AV) (m:Mem):(T.Rl H).afr 65537 none [t0,t2,t3,u3,t9,u5,u6,t47] m=q0l (T.Rl H) (z0a [t0,t2,t3,u3,t9,u5,u6,t47]) m:=(z7p (H:=H) [t0,t2,t3,u3,t9,u5,u6,t47] m).resolve_right nofun
theorem z7q (t2 t3 u2 u3 u4:AV) (m:Mem):(T.Rl H).afr 65538 none [t2,t3,u2,u3,u4] m=q0l (T.Rl H) (z0b [t2,t3,u2,u3,u4]) m:=(z7r (H:=H) [t2,t3,u2,u3,u4] m).resolve_right nofun
abbrev f16_is (h:H 16=none):=j1 (f16_ok h) fun _=>nofun
abbrev g17_0_is:=i3 (g17_0_ok (H:=H)) fun _ _ _=>nofun
abbrev f17_is (h:H 17=none):=j2 (f17_ok h) fun _ _=>nofun
abbrev f18_is (h:H 18=none):=j2 (f18_ok h) fun _ _=>nofun
abbrev z09:=i5 (g19_0_ok (H:=H)) fun _ _ _ _ _=>nofun
abbrev z1a:=i5 (g19_1_ok (H:=H)) fun _ _ _ _ _=>nofun
abbrev z1b:=i4 (g19_2_ok (H:=H)) fun _ _ _ _=>nofun
abbrev z1c:=i1 (g19_3_ok (H:=H)) fun _=>nofun
abbrev f19_is (h:H 19=none):=j4 (f19_ok h) fun _ _ _ _=>nofun
abbrev j56:=i0 (g20_0_ok (H:=H)) fun _=>nofun
abbrev f20_is (h:H 20=none):=j2 (f20_ok h) fun _ _=>nofun
abbrev g21_0_is:=i3 (j57 (H:=H)) fun _ _ _=>nofun
abbrev f21_is (h:H 21=none):=j2 (f21_ok h) fun _ _=>nofun
abbrev g22_0_is:=i3 (j58 (H:=H)) fun _ _ _=>nofun
abbrev f22_is (h:H 22=none):=j2 (f22_ok h) fun _ _=>nofun
abbrev q82:=i2 (g26_0_ok (H:=H)) fun _ _=>nofun
abbrev z96 (h:H 26=none):=j1 (f26_ok h) fun _=>nofun
abbrev g27_0_is:=i3 (g27_0_ok (H:=H)) fun _ _ _=>nofun
abbrev z6q:=i4 (g27_1_ok (H:=H)) fun _ _ _ _=>nofun
abbrev g27_2_is:=i4 (g27_2_ok (H:=H)) fun _ _ _ _=>nofun
abbrev g27_3_is:=i4 (g27_3_ok (H:=H)) fun _ _ _ _=>nofun
abbrev z97 (h:H 27=none):=j3 (f27_ok h) fun _ _ _=>nofun
abbrev z6r:=i2 (g28_0_ok (H:=H)) fun _ _=>nofun
abbrev g28_1_is:=i2 (g28_1_ok (H:=H)) fun _ _=>nofun
abbrev j5k (h:H 28=none):=j2 (f28_ok h) fun _ _=>nofun
abbrev z1d:=i3 (g29_0_ok (H:=H)) fun _ _ _=>nofun
abbrev z6s:=i3 (g29_1_ok (H:=H)) fun _ _ _=>nofun
abbrev g29_2_is:=i5 (g29_2_ok (H:=H)) fun _ _ _ _ _=>nofun
abbrev z98 (h:H 29=none):=j3 (f29_ok h) fun _ _ _=>nofun
abbrev f30_is (h:H 30=none):=j3 (f30_ok h) fun _ _ _=>nofun
abbrev z1e:=i3 (g31_0_ok (H:=H)) fun _ _ _=>nofun
abbrev z6t:=i3 (g31_1_ok (H:=H)) fun _ _ _=>nofun
abbrev j59:=i4 (g31_2_ok (H:=H)) fun _ _ _ _=>nofun
abbrev g31_3_is:=i5 (g31_3_ok (H:=H)) fun _ _ _ _ _=>nofun
abbrev z99 (h:H 31=none):=j3 (f31_ok h) fun _ _ _=>nofun
abbrev q7o:=i4 (g32_0_ok (H:=H)) fun _ _ _ _=>nofun
abbrev q83:=i4 (g32_1_ok (H:=H)) fun _ _ _ _=>nofun
abbrev z1f:=i4 (g32_2_ok (H:=H)) fun _ _ _ _=>nofun
abbrev z6u:=i4 (g32_3_ok (H:=H)) fun _ _ _ _=>nofun
abbrev j6a:=i4 (g32_4_ok (H:=H)) fun _ _ _ _=>nofun
abbrev g32_5_is:=i5 (g32_5_ok (H:=H)) fun _ _ _ _ _=>nofun
abbrev z0p (h:H 32=none):=j4 (f32_ok h) fun _ _ _ _=>nofun
abbrev z1g:=i4 (g33_0_ok (H:=H)) fun _ _ _ _=>nofun
abbrev z6v:=i4 (g33_1_ok (H:=H)) fun _ _ _ _=>nofun
abbrev j6b:=i4 (g33_2_ok (H:=H)) fun _ _ _ _=>nofun
abbrev g33_3_is:=i4 (g33_3_ok (H:=H)) fun _ _ _ _=>nofun
abbrev q84:=i5 (g33_4_ok (H:=H)) fun _ _ _ _ _=>nofun
abbrev g33_5_is:=i5 (g33_5_ok (H:=H)) fun _ _ _ _ _=>nofun
abbrev g33_6_is:=i5 (g33_6_ok (H:=H)) fun _ _ _ _ _=>nofun
abbrev z4q (h:H 33=none):=j4 (f33_ok h) fun _ _ _ _=>nofun
abbrev j6c:=i5 (g34_0_ok (H:=H)) fun _ _ _ _ _=>nofun
abbrev q85:=i7 (g34_1_ok (H:=H)) fun _ _ _ _ _ _ _=>nofun
abbrev z1h:=i8 (g34_2_ok (H:=H)) fun _ _ _ _ _ _ _ _=>nofun
abbrev z6w:=i7 (g34_3_ok (H:=H)) fun _ _ _ _ _ _ _=>nofun
abbrev j6d:=i7 (g34_4_ok (H:=H)) fun _ _ _ _ _ _ _=>nofun
abbrev z1i:=i7 (g34_5_ok (H:=H)) fun _ _ _ _ _ _ _=>nofun
abbrev g34_6_is:=i10 (g34_6_ok (H:=H)) fun _ _ _ _ _ _ _ _ _ _=>nofun
abbrev j5l (h:H 34=none):=j4 (f34_ok h) fun _ _ _ _=>nofun
abbrev g35_0_is:=i1 (g35_0_ok (H:=H)) fun _=>nofun
abbrev z1j:=i2 (g35_1_ok (H:=H)) fun _ _=>nofun
abbrev z6x:=i2 (g35_2_ok (H:=H)) fun _ _=>nofun
abbrev z6y:=i2 (g35_3_ok (H:=H)) fun _ _=>nofun
abbrev g35_4_is:=i0 (g35_4_ok (H:=H)) fun _=>nofun
abbrev f35_is (h:H 35=none):=j1 (f35_ok h) fun _=>nofun
abbrev j6e:=i3 (g36_0_ok (H:=H)) fun _ _ _=>nofun
abbrev g36_1_is:=i3 (g36_1_ok (H:=H)) fun _ _ _=>nofun
abbrev g36_2_is:=i3 (g36_2_ok (H:=H)) fun _ _ _=>nofun
abbrev g36_3_is:=i0 (g36_3_ok (H:=H)) fun _=>nofun
abbrev f36_is (h:H 36=none):=j2 (f36_ok h) fun _ _=>nofun
abbrev z6z:=i1 (g37_0_ok (H:=H)) fun _=>nofun
abbrev g37_1_is:=i0 (g37_1_ok (H:=H)) fun _=>nofun
abbrev j5m (h:H 37=none):=j1 (f37_ok h) fun _=>nofun
abbrev g38_0_is:=i1 (j6f (H:=H)) fun _=>nofun
abbrev f38_is (h:H 38=none):=j1 (f38_ok h) fun _=>nofun
abbrev j6g:=i0 (j6h (H:=H)) fun _=>nofun
abbrev f39_is (h:H 39=none):=j3 (f39_ok h) fun _ _ _=>nofun
abbrev j6i:=i0 (g40_0_ok (H:=H)) fun _=>nofun
abbrev f40_is (h:H 40=none):=j3 (f40_ok h) fun _ _ _=>nofun
abbrev j6j:=i0 (j6k (H:=H)) fun _=>nofun
abbrev f41_is (h:H 41=none):=j3 (f41_ok h) fun _ _ _=>nofun
abbrev j6l:=i2 (j6m (H:=H)) fun _ _=>nofun
abbrev g46_1_is:=i2 (j6n (H:=H)) fun _ _=>nofun
abbrev g46_2_is:=i2 (j6o (H:=H)) fun _ _=>nofun
abbrev g46_3_is:=i1 (j6p (H:=H)) fun _=>nofun
abbrev f46_is (h:H 46=none):=j1 (f46_ok h) fun _=>nofun
abbrev q86:=i4 (g47_0_ok (H:=H)) fun _ _ _ _=>nofun
abbrev z1k:=i4 (g47_1_ok (H:=H)) fun _ _ _ _=>nofun
abbrev q5f:=i6 (g47_2_ok (H:=H)) fun _ _ _ _ _ _=>nofun
abbrev g47_3_is:=i4 (g47_3_ok (H:=H)) fun _ _ _ _=>nofun
abbrev g47_4_is:=i0 (g47_4_ok (H:=H)) fun _=>nofun
abbrev f47_is (h:H 47=none):=j1 (f47_ok h) fun _=>nofun
abbrev j6q:=i5 (g48_0_ok (H:=H)) fun _ _ _ _ _=>nofun
abbrev q87:=i5 (g48_1_ok (H:=H)) fun _ _ _ _ _=>nofun
abbrev g48_2_is:=i5 (g48_2_ok (H:=H)) fun _ _ _ _ _=>nofun
abbrev g48_3_is:=i5 (g48_3_ok (H:=H)) fun _ _ _ _ _=>nofun
abbrev g48_4_is:=i1 (g48_4_ok (H:=H)) fun _=>nofun
abbrev f48_is (h:H 48=none):=j1 (f48_ok h) fun _=>nofun
abbrev j6r:=i6 (g49_0_ok (H:=H)) fun _ _ _ _ _ _=>nofun
abbrev j6s:=i6 (g49_1_ok (H:=H)) fun _ _ _ _ _ _=>nofun
abbrev g49_2_is:=i6 (g49_2_ok (H:=H)) fun _ _ _ _ _ _=>nofun
abbrev g49_3_is:=i3 (g49_3_ok (H:=H)) fun _ _ _=>nofun
abbrev j6t:=i5 (g49_4_ok (H:=H)) fun _ _ _ _ _=>nofun
abbrev j6u:=i5 (g49_5_ok (H:=H)) fun _ _ _ _ _=>nofun
abbrev j6v:=i6 (g49_6_ok (H:=H)) fun _ _ _ _ _ _=>nofun
abbrev g49_7_is:=i5 (g49_7_ok (H:=H)) fun _ _ _ _ _=>nofun
abbrev g49_8_is:=i1 (g49_8_ok (H:=H)) fun _=>nofun
abbrev f49_is (h:H 49=none):=j2 (f49_ok h) fun _ _=>nofun
abbrev f50_is (h:H 50=none):=j1 (f50_ok h) fun _=>nofun
abbrev f51_is (h:H 51=none):=j1 (f51_ok h) fun _=>nofun
abbrev f52_is (h:H 52=none):=j1 (f52_ok h) fun _=>nofun
abbrev g53_0_is:=i4 (j6w (H:=H)) fun _ _ _ _=>nofun
abbrev f53_is (h:H 53=none):=j2 (f53_ok h) fun _ _=>nofun
abbrev f54_is (h:H 54=none):=j1 (f54_ok h) fun _=>nofun
abbrev g55_0_is:=i0 (j6x (H:=H)) fun _=>nofun
abbrev f55_is (h:H 55=none):=j2 (f55_ok h) fun _ _=>nofun
abbrev f56_is (h:H 56=none):=j2 (f56_ok h) fun _ _=>nofun
abbrev g57_0_is:=i4 (j6y (H:=H)) fun _ _ _ _=>nofun
abbrev f57_is (h:H 57=none):=j3 (f57_ok h) fun _ _ _=>nofun
abbrev f58_is (h:H 58=none):=j2 (f58_ok h) fun _ _=>nofun
abbrev g64_0_is:=i3 (g64_0_ok (H:=H)) fun _ _ _=>nofun
abbrev f64_is (h:H 64=none):=j2 (f64_ok h) fun _ _=>nofun
abbrev g68_0_is:=i4 (g68_0_ok (H:=H)) fun _ _ _ _=>nofun
abbrev f68_is (h:H 68=none):=j1 (f68_ok h) fun _=>nofun
abbrev j6z:=i3 (g69_0_ok (H:=H)) fun _ _ _=>nofun
abbrev j60:=i3 (g69_1_ok (H:=H)) fun _ _ _=>nofun
abbrev f69_is (h:H 69=none):=j2 (f69_ok h) fun _ _=>nofun
abbrev f70_is (h:H 70=none):=j1 (f70_ok h) fun _=>nofun
abbrev j61:=i3 (g71_0_ok (H:=H)) fun _ _ _=>nofun
abbrev g71_1_is:=i3 (g71_1_ok (H:=H)) fun _ _ _=>nofun
abbrev g71_2_is:=i3 (g71_2_ok (H:=H)) fun _ _ _=>nofun
abbrev g71_3_is:=i0 (g71_3_ok (H:=H)) fun _=>nofun
abbrev f71_is (h:H 71=none):=j2 (f71_ok h) fun _ _=>nofun
abbrev z7b:=i1 (g72_0_ok (H:=H)) fun _=>nofun
abbrev g72_1_is:=i0 (g72_1_ok (H:=H)) fun _=>nofun
abbrev j5n (h:H 72=none):=j3 (f72_ok h) fun _ _ _=>nofun
abbrev f73_is (h:H 73=none):=j2 (f73_ok h) fun _ _=>nofun
abbrev f74_is (h:H 74=none):=j2 (f74_ok h) fun _ _=>nofun
abbrev f75_is (h:H 75=none):=j2 (f75_ok h) fun _ _=>nofun
abbrev j62:=i4 (g76_0_ok (H:=H)) fun _ _ _ _=>nofun
abbrev g76_1_is:=i4 (g76_1_ok (H:=H)) fun _ _ _ _=>nofun
abbrev g76_2_is:=i4 (g76_2_ok (H:=H)) fun _ _ _ _=>nofun
abbrev g76_3_is:=i0 (g76_3_ok (H:=H)) fun _=>nofun
abbrev f76_is (h:H 76=none):=j3 (f76_ok h) fun _ _ _=>nofun
abbrev z1l:=i4 (g77_0_ok (H:=H)) fun _ _ _ _=>nofun
abbrev j63:=i4 (g77_1_ok (H:=H)) fun _ _ _ _=>nofun
abbrev j64:=i4 (g77_2_ok (H:=H)) fun _ _ _ _=>nofun
abbrev z2e (h:H 77=none):=j3 (f77_ok h) fun _ _ _=>nofun
abbrev f78_is (h:H 78=none):=j1 (f78_ok h) fun _=>nofun
abbrev g79_0_is:=i1 (j65 (H:=H)) fun _=>nofun
abbrev f79_is (h:H 79=none):=j1 (f79_ok h) fun _=>nofun
abbrev g80_0_is:=i1 (j66 (H:=H)) fun _=>nofun
abbrev f80_is (h:H 80=none):=j1 (f80_ok h) fun _=>nofun
abbrev g81_0_is:=i1 (j67 (H:=H)) fun _=>nofun
abbrev f81_is (h:H 81=none):=j1 (f81_ok h) fun _=>nofun
abbrev j68:=i5 (j69 (H:=H)) fun _ _ _ _ _=>nofun
abbrev g82_1_is:=i5 (j7a (H:=H)) fun _ _ _ _ _=>nofun
abbrev j7b:=i4 (j7c (H:=H)) fun _ _ _ _=>nofun
abbrev f82_is (h:H 82=none):=j2 (f82_ok h) fun _ _=>nofun
abbrev j7d:=i5 (j7e (H:=H)) fun _ _ _ _ _=>nofun
abbrev g86_1_is:=i5 (j7f (H:=H)) fun _ _ _ _ _=>nofun
abbrev j7g:=i4 (j7h (H:=H)) fun _ _ _ _=>nofun
abbrev f86_is (h:H 86=none):=j2 (f86_ok h) fun _ _=>nofun
abbrev g89_0_is:=i3 (j7i (H:=H)) fun _ _ _=>nofun
abbrev f89_is (h:H 89=none):=j2 (f89_ok h) fun _ _=>nofun
abbrev j7j:=i4 (g91_0_ok (H:=H)) fun _ _ _ _=>nofun
abbrev g91_1_is:=i4 (g91_1_ok (H:=H)) fun _ _ _ _=>nofun
abbrev g91_2_is:=i4 (g91_2_ok (H:=H)) fun _ _ _ _=>nofun
abbrev g91_3_is:=i0 (g91_3_ok (H:=H)) fun _=>nofun
abbrev f91_is (h:H 91=none):=j2 (f91_ok h) fun _ _=>nofun
abbrev g92_0_is:=i0 (g92_0_ok (H:=H)) fun _=>nofun
abbrev f92_is (h:H 92=none):=j1 (f92_ok h) fun _=>nofun
abbrev j7k:=i0 (j7l (H:=H)) fun _=>nofun
abbrev f93_is (h:H 93=none):=j1 (f93_ok h) fun _=>nofun
abbrev g94_0_is:=i2 (g94_0_ok (H:=H)) fun _ _=>nofun
abbrev f94_is (h:H 94=none):=j2 (f94_ok h) fun _ _=>nofun
abbrev f95_is (h:H 95=none):=j1 (f95_ok h) fun _=>nofun
abbrev f96_is (h:H 96=none):=j2 (f96_ok h) fun _ _=>nofun
abbrev z7c:=i5 (g97_0_ok (H:=H)) fun _ _ _ _ _=>nofun
abbrev g97_1_is:=i5 (g97_1_ok (H:=H)) fun _ _ _ _ _=>nofun
abbrev g97_2_is:=i5 (g97_2_ok (H:=H)) fun _ _ _ _ _=>nofun
abbrev f97_is (h:H 97=none):=j3 (f97_ok h) fun _ _ _=>nofun
abbrev f98_is (h:H 98=none):=j1 (f98_ok h) fun _=>nofun
abbrev f99_is (h:H 99=none):=j1 (f99_ok h) fun _=>nofun
abbrev f100_is (h:H 100=none):=j2 (f100_ok h) fun _ _=>nofun
abbrev z2i:=i5 (g101_0_ok (H:=H)) fun _ _ _ _ _=>nofun
abbrev g101_1_is:=i5 (g101_1_ok (H:=H)) fun _ _ _ _ _=>nofun
abbrev g101_2_is:=i5 (g101_2_ok (H:=H)) fun _ _ _ _ _=>nofun
abbrev f101_is (h:H 101=none):=j3 (f101_ok h) fun _ _ _=>nofun
abbrev f102_is (h:H 102=none):=j1 (f102_ok h) fun _=>nofun
abbrev f103_is (h:H 103=none):=j1 (f103_ok h) fun _=>nofun
abbrev f104_is (h:H 104=none):=j2 (f104_ok h) fun _ _=>nofun
abbrev z2j:=i5 (g105_0_ok (H:=H)) fun _ _ _ _ _=>nofun
abbrev g105_1_is:=i5 (g105_1_ok (H:=H)) fun _ _ _ _ _=>nofun
abbrev g105_2_is:=i5 (g105_2_ok (H:=H)) fun _ _ _ _ _=>nofun
abbrev f105_is (h:H 105=none):=j3 (f105_ok h) fun _ _ _=>nofun
abbrev f106_is (h:H 106=none):=j1 (f106_ok h) fun _=>nofun
abbrev f107_is (h:H 107=none):=j1 (f107_ok h) fun _=>nofun
abbrev g108_0_is:=i3 (j0e (H:=H)) fun _ _ _=>nofun
abbrev f108_is (h:H 108=none):=j2 (f108_ok h) fun _ _=>nofun
abbrev j0f:=i6 (g111_0_ok (H:=H)) fun _ _ _ _ _ _=>nofun
abbrev g111_1_is:=i6 (g111_1_ok (H:=H)) fun _ _ _ _ _ _=>nofun
abbrev g111_2_is:=i6 (g111_2_ok (H:=H)) fun _ _ _ _ _ _=>nofun
abbrev g111_3_is:=i2 (g111_3_ok (H:=H)) fun _ _=>nofun
abbrev f111_is (h:H 111=none):=j2 (f111_ok h) fun _ _=>nofun
abbrev j0g:=i3 (g112_0_ok (H:=H)) fun _ _ _=>nofun
abbrev z2k:=i3 (g112_1_ok (H:=H)) fun _ _ _=>nofun
abbrev g112_2_is:=i0 (g112_2_ok (H:=H)) fun _=>nofun
abbrev g112_3_is:=i3 (g112_3_ok (H:=H)) fun _ _ _=>nofun
abbrev g112_4_is:=i0 (g112_4_ok (H:=H)) fun _=>nofun
abbrev f112_is (h:H 112=none):=j2 (f112_ok h) fun _ _=>nofun
abbrev j0h:=i6 (g113_0_ok (H:=H)) fun _ _ _ _ _ _=>nofun
abbrev g113_1_is:=i6 (g113_1_ok (H:=H)) fun _ _ _ _ _ _=>nofun
abbrev g113_2_is:=i6 (g113_2_ok (H:=H)) fun _ _ _ _ _ _=>nofun
abbrev g113_3_is:=i2 (g113_3_ok (H:=H)) fun _ _=>nofun
abbrev f113_is (h:H 113=none):=j2 (f113_ok h) fun _ _=>nofun
abbrev g114_0_is:=i2 (g114_0_ok (H:=H)) fun _ _=>nofun
abbrev f114_is (h:H 114=none):=j1 (f114_ok h) fun _=>nofun
abbrev f115_is (h:H 115=none):=j1 (f115_ok h) fun _=>nofun
abbrev j0i:=i1 (g116_0_ok (H:=H)) fun _=>nofun
abbrev g116_1_is:=i0 (g116_1_ok (H:=H)) fun _=>nofun
abbrev j3g (h:H 116=none):=j2 (f116_ok h) fun _ _=>nofun
abbrev j0j:=i4 (g117_0_ok (H:=H)) fun _ _ _ _=>nofun
abbrev f117_is (h:H 117=none):=j3 (f117_ok h) fun _ _ _=>nofun
abbrev f118_is (h:H 118=none):=j2 (f118_ok h) fun _ _=>nofun
abbrev f119_is (h:H 119=none):=j1 (f119_ok h) fun _=>nofun
abbrev f126_is (h:H 126=none):=j2 (f126_ok h) fun _ _=>nofun
abbrev f127_is (h:H 127=none):=j1 (f127_ok h) fun _=>nofun
abbrev f132_is (h:H 132=none):=j1 (f132_ok h) fun _=>nofun
abbrev f133_is (h:H 133=none):=j1 (f133_ok h) fun _=>nofun
abbrev q8z:=i3 (g135_0_ok (H:=H)) fun _ _ _=>nofun
abbrev z2l:=i3 (g135_1_ok (H:=H)) fun _ _ _=>nofun
abbrev j0m:=i3 (g135_2_ok (H:=H)) fun _ _ _=>nofun
abbrev j0n:=i2 (g135_3_ok (H:=H)) fun _ _=>nofun
abbrev q80:=i3 (g135_4_ok (H:=H)) fun _ _ _=>nofun
abbrev j0p:=i3 (g135_5_ok (H:=H)) fun _ _ _=>nofun
abbrev j0q:=i3 (g135_6_ok (H:=H)) fun _ _ _=>nofun
abbrev f135_is (h:H 135=none):=j1 (f135_ok h) fun _=>nofun
abbrev g136_0_is:=i3 (g136_0_ok (H:=H)) fun _ _ _=>nofun
abbrev f136_is (h:H 136=none):=j2 (f136_ok h) fun _ _=>nofun
abbrev q81:=i3 (g137_0_ok (H:=H)) fun _ _ _=>nofun
abbrev j0s:=i3 (g137_1_ok (H:=H)) fun _ _ _=>nofun
abbrev f137_is (h:H 137=none):=j2 (f137_ok h) fun _ _=>nofun
abbrev f138_is (h:H 138=none):=j2 (f138_ok h) fun _ _=>nofun
abbrev f139_is (h:H 139=none):=j1 (f139_ok h) fun _=>nofun
abbrev f143_is (h:H 143=none):=j1 (f143_ok h) fun _=>nofun
abbrev f146_is (h:H 146=none):=j1 (f146_ok h) fun _=>nofun
abbrev g147_0_is:=i2 (g147_0_ok (H:=H)) fun _ _=>nofun
abbrev g147_1_is:=i2 (g147_1_ok (H:=H)) fun _ _=>nofun
abbrev f147_is (h:H 147=none):=j2 (f147_ok h) fun _ _=>nofun
abbrev f149_is (h:H 149=none):=j2 (f149_ok h) fun _ _=>nofun
abbrev j0t:=i5 (g151_0_ok (H:=H)) fun _ _ _ _ _=>nofun
abbrev g151_1_is:=i5 (g151_1_ok (H:=H)) fun _ _ _ _ _=>nofun
abbrev g151_2_is:=i5 (g151_2_ok (H:=H)) fun _ _ _ _ _=>nofun
abbrev g151_3_is:=i2 (g151_3_ok (H:=H)) fun _ _=>nofun
abbrev f151_is (h:H 151=none):=j1 (f151_ok h) fun _=>nofun
abbrev j0u:=i5 (g152_0_ok (H:=H)) fun _ _ _ _ _=>nofun
abbrev j0v:=i5 (g152_1_ok (H:=H)) fun _ _ _ _ _=>nofun
abbrev j0w:=i5 (g152_2_ok (H:=H)) fun _ _ _ _ _=>nofun
abbrev g152_3_is:=i2 (g152_3_ok (H:=H)) fun _ _=>nofun
abbrev f152_is (h:H 152=none):=j2 (f152_ok h) fun _ _=>nofun
abbrev j0x:=i5 (g153_0_ok (H:=H)) fun _ _ _ _ _=>nofun
abbrev g153_1_is:=i5 (g153_1_ok (H:=H)) fun _ _ _ _ _=>nofun
abbrev j0y:=i7 (g153_2_ok (H:=H)) fun _ _ _ _ _ _ _=>nofun
abbrev g153_3_is:=i7 (g153_3_ok (H:=H)) fun _ _ _ _ _ _ _=>nofun
abbrev g153_4_is:=i7 (g153_4_ok (H:=H)) fun _ _ _ _ _ _ _=>nofun
abbrev g153_5_is:=i5 (g153_5_ok (H:=H)) fun _ _ _ _ _=>nofun
abbrev g153_6_is:=i2 (g153_6_ok (H:=H)) fun _ _=>nofun
abbrev f153_is (h:H 153=none):=j2 (f153_ok h) fun _ _=>nofun
abbrev g159_0_is:=i1 (g159_0_ok (H:=H)) fun _=>nofun
abbrev f159_is (h:H 159=none):=j2 (f159_ok h) fun _ _=>nofun
abbrev f161_is (h:H 161=none):=j2 (f161_ok h) fun _ _=>nofun
abbrev g163_0_is:=i3 (g163_0_ok (H:=H)) fun _ _ _=>nofun
abbrev f163_is (h:H 163=none):=j2 (f163_ok h) fun _ _=>nofun
abbrev g164_0_is:=i2 (g164_0_ok (H:=H)) fun _ _=>nofun
abbrev j0z:=i3 (g164_1_ok (H:=H)) fun _ _ _=>nofun
abbrev g164_2_is:=i3 (g164_2_ok (H:=H)) fun _ _ _=>nofun
abbrev g164_3_is:=i3 (g164_3_ok (H:=H)) fun _ _ _=>nofun
abbrev g164_4_is:=i2 (g164_4_ok (H:=H)) fun _ _=>nofun
abbrev f164_is (h:H 164=none):=j1 (f164_ok h) fun _=>nofun
abbrev g165_0_is:=i4 (g165_0_ok (H:=H)) fun _ _ _ _=>nofun
abbrev g165_4_is:=i8 (g165_4_ok (H:=H)) fun _ _ _ _ _ _ _ _=>nofun
abbrev g165_5_is:=i5 (g165_5_ok (H:=H)) fun _ _ _ _ _=>nofun
abbrev f165_is (h:H 165=none):=j2 (f165_ok h) fun _ _=>nofun
abbrev g166_0_is:=i3 (g166_0_ok (H:=H)) fun _ _ _=>nofun
abbrev j00:=i3 (g166_1_ok (H:=H)) fun _ _ _=>nofun
abbrev g166_2_is:=i3 (g166_2_ok (H:=H)) fun _ _ _=>nofun
abbrev z2m:=i9 (g166_3_ok (H:=H)) fun _ _ _ _ _ _ _ _ _=>nofun
abbrev j01:=i9 (g166_4_ok (H:=H)) fun _ _ _ _ _ _ _ _ _=>nofun
abbrev g166_5_is:=i8 (g166_5_ok (H:=H)) fun _ _ _ _ _ _ _ _=>nofun
abbrev z2n:=i9 (g166_6_ok (H:=H)) fun _ _ _ _ _ _ _ _ _=>nofun
abbrev j02:=i9 (g166_7_ok (H:=H)) fun _ _ _ _ _ _ _ _ _=>nofun
abbrev g166_8_is:=i6 (g166_8_ok (H:=H)) fun _ _ _ _ _ _=>nofun
abbrev f166_is (h:H 166=none):=j3 (f166_ok h) fun _ _ _=>nofun
abbrev g167_0_is:=i1 (g167_0_ok (H:=H)) fun _=>nofun
abbrev f167_is (h:H 167=none):=j1 (f167_ok h) fun _=>nofun
abbrev f168_is (h:H 168=none):=j2 (f168_ok h) fun _ _=>nofun
abbrev z6l (h:H 169=none):=j4 (f169_ok h) fun _ _ _ _=>nofun
abbrev g170_0_is:=i3 (g170_0_ok (H:=H)) fun _ _ _=>nofun
abbrev g170_1_is:=i3 (g170_1_ok (H:=H)) fun _ _ _=>nofun
abbrev g170_2_is:=i3 (g170_2_ok (H:=H)) fun _ _ _=>nofun
abbrev f170_is (h:H 170=none):=j3 (f170_ok h) fun _ _ _=>nofun
abbrev f171_is (h:H 171=none):=j1 (f171_ok h) fun _=>nofun
abbrev j03:=i2 (g172_0_ok (H:=H)) fun _ _=>nofun
abbrev j04:=i2 (g172_1_ok (H:=H)) fun _ _=>nofun
abbrev g172_2_is:=i2 (g172_2_ok (H:=H)) fun _ _=>nofun
abbrev f172_is (h:H 172=none):=j1 (f172_ok h) fun _=>nofun
abbrev w_g4_0:=ai @wp<|ai @q0t<|ai @q03<|ai @q0u<|ai @q06<|ai @q0x<|ai @ge<|ai @q72<|ai @ld3<|ai @q6k<|ai @Nat.zero_add @Nat.add_zero
abbrev w_g4_1:=ai @wp<|ai @q03<|ai @q0u<|ai @q0m<|ai @q0i<|ai @q06<|ai @q0x<|ai @q3h<|ai @ld28<|ai @q3c<|ai @be4<|ai @Nat.zero_add<|ai @Nat.add_zero @ge
abbrev w_g4_2:=ai @wp<|ai @ge<|ai @q3h<|ai @q3c<|ai @Nat.zero_add @Nat.add_zero
abbrev w_g4_3:=ai @wp<|ai @q0m<|ai @q0i<|ai @q2a<|ai @q7q<|ai @z4e<|ai @Nat.zero_add<|ai @Nat.add_zero @ge
abbrev w_g4_4:=ai @wp<|ai @q06<|ai @q0x<|ai @q2a<|ai @z4s<|ai @q7q<|ai @j30<|ai @q63<|ai @z4e<|ai @z0r<|ai @Nat.zero_add<|ai @Nat.add_zero @ge
abbrev w_g4_5:=ai @aps<|ai @q0h<|ai @obs<|ai @ips @q0t
abbrev w_g4_6:=ai @wp<|ai @q03<|ai @q0u<|ai @q3h<|ai @q2u<|ai @q3c<|ai @z0s<|ai @j7v<|ai @z2x<|ai @z9j<|ai @Nat.zero_add<|ai @Nat.add_zero @ge
abbrev w_f4:=ai @wp<|ai @q03<|ai @q0u<|ai @q06<|ai @q0x<|ai @ge @be34
abbrev j85:=ai @wp<|ai @q0m<|ai @q0i @len22
abbrev q9u:=ai @wp<|ai @q0t<|ai @q03<|ai @q0u<|ai @fa77_1<|ai @fa77_2<|ai @fa77_0<|ai @fa77_3<|ai @ld77<|ai @ld3<|ai @ld9<|ai @ix22<|ai @ix79<|ai @cv3_26<|ai @Nat.zero_add<|ai @Nat.add_zero @ge
abbrev w_g9_2:=ai @aps<|ai @q0h<|ai @obs<|ai @ips @q0t
abbrev w_g9_3:=ai @wp<|ai @q2y<|ai @q20<|ai @q21<|ai @q23<|ai @q1y<|ai @ld28<|ai @Nat.zero_add<|ai @Nat.add_zero @ge
abbrev w_f9:=ai @wp<|ai @lcs<|ai @oms<|ai @Nat.zero_add<|ai @ift<|ai @ge @bd61
abbrev w_g10_0:=ai @aps<|ai @q0h<|ai @obs @ips
abbrev w_f10:=ai @wp<|ai @q0t<|ai @q0m @q0i
abbrev w_g12_0:=ai @wp<|ai @q06<|ai @q0x @ge
abbrev w_g12_1:=ai @wp<|ai @q2u<|ai @z0s<|ai @z2x<|ai @Nat.zero_add<|ai @Nat.add_zero @ge
abbrev w_g12_2:=ai @wp<|ai @q0m @q0i
abbrev w_g12_3:=ai @wp<|ai @j5q<|ai @q8w<|ai @j7v<|ai @ld90<|ai @ld9<|ai @z9j<|ai @Nat.zero_add<|ai @Nat.add_zero @ge
abbrev w_g12_4:=ai @aps<|ai @q0h<|ai @obs<|ai @ips @q0t
abbrev w_g12_5:=ai @wp<|ai @q4m<|ai @z9k<|ai @j31<|ai @Nat.zero_add<|ai @Nat.add_zero @ge
abbrev w_g12_6:=ai @wp<|ai @q0m @q0i
abbrev w_g12_7:=ai @wp<|ai @q0t<|ai @fa94_2<|ai @z4u<|ai @z4v<|ai @ld74<|ai @ld91<|ai @ld9<|ai @ix24<|ai @Nat.zero_add<|ai @Nat.add_zero @ge
abbrev w_g12_8:=ai @aps<|ai @q0h<|ai @obs<|ai @ips @q0t
abbrev w_g12_9:=ai @wp<|ai @q2a<|ai @q7q<|ai @z4e<|ai @Nat.zero_add<|ai @Nat.add_zero @ge
abbrev j8n:=ai @wp<|ai @q0m @q0i
abbrev w_g12_11:=ai @wp<|ai @j0b<|ai @z4s<|ai @j30<|ai @ld92<|ai @q63<|ai @z0r<|ai @Nat.zero_add<|ai @Nat.add_zero @ge
abbrev w_g12_12:=ai @aps<|ai @q0h<|ai @obs<|ai @ips @q0t
abbrev w_g12_13:=ai @wp<|ai @z4r<|ai @fa94_4<|ai @q63<|ai @Nat.zero_add<|ai @Nat.add_zero @ge
abbrev w_f12:=ai @aps<|ai @q0h<|ai @obs<|ai @ips @ld28
abbrev w_g14_0:=ai @wp<|ai @q2u<|ai @z0s<|ai @z2x<|ai @Nat.zero_add<|ai @Nat.add_zero @ge
abbrev w_g14_1:=ai @wp<|ai @q0m @q0i
abbrev q7b:=ai @wp<|ai @q2h<|ai @q1x<|ai @q2c<|ai @q0m<|ai @q0i<|ai @q3n<|ai @q8w<|ai @q2u<|ai @z4t<|ai @j7v<|ai @ld9<|ai @z0s<|ai @ld3<|ai @z9j<|ai @Nat.zero_add<|ai @Nat.add_zero @ge
abbrev w_g14_3:=ai @aps<|ai @q0h<|ai @obs<|ai @ips @q0t
abbrev j4s:=ai @aps<|ai @q0h<|ai @obs<|ai @ips @ld28
abbrev w_g14_5:=ai @wp<|ai @q2u<|ai @z0s<|ai @z2x<|ai @Nat.zero_add<|ai @Nat.add_zero @ge
abbrev j4t:=ai @wp<|ai @q0m @q0i
abbrev w_g14_7:=ai @wp<|ai @j7v<|ai @ld28 @z9j
abbrev w_g14_8:=ai @aps<|ai @q0h<|ai @obs<|ai @ips @q0t
abbrev w_g14_9:=ai @aps<|ai @q0h<|ai @obs @ips
abbrev w_f14:=ai @wp<|ai @q2c<|ai @q0m<|ai @q0i<|ai @q2u<|ai @q2a<|ai @z0s<|ai @q7q<|ai @z2x<|ai @z4e<|ai @Nat.zero_add<|ai @Nat.add_zero @ge
abbrev w_g15_0:=ai @aps<|ai @q0h<|ai @obs @ips
abbrev w_g15_1:=ai @wp<|ai @q0m<|ai @q0i<|ai @q2u<|ai @z0s<|ai @z2x<|ai @Nat.zero_add<|ai @Nat.add_zero @ge
abbrev w_g15_2:=ai @wp<|ai @q06<|ai @q0x<|ai @q2u<|ai @z0s<|ai @j7v<|ai @z9j<|ai @Nat.zero_add<|ai @Nat.add_zero @ge
abbrev w_g15_3:=ai @aps<|ai @q0h<|ai @obs<|ai @ips @q0t
abbrev w_g15_4:=ai @aps<|ai @q0h<|ai @obs @ips
abbrev w_g15_5:=ai @wp<|ai @q0m<|ai @q0i<|ai @q4m<|ai @z9k<|ai @j31<|ai @Nat.zero_add<|ai @Nat.add_zero @ge
abbrev w_g15_6:=ai @wp<|ai @q06<|ai @q0x<|ai @q4m<|ai @z9k<|ai @ld74<|ai @ix24<|ai @Nat.zero_add<|ai @Nat.add_zero @ge
abbrev w_g15_7:=ai @aps<|ai @q0h<|ai @obs<|ai @ips @q0t
abbrev w_g15_8:=ai @aps<|ai @q0h<|ai @obs @ips
abbrev w_g15_9:=ai @wp<|ai @q0m<|ai @q0i<|ai @q2a<|ai @q7q<|ai @z4e<|ai @Nat.zero_add<|ai @Nat.add_zero @ge
abbrev w_g15_10:=ai @wp<|ai @q06<|ai @q0x<|ai @q2a<|ai @q7q<|ai @j30<|ai @z0r<|ai @Nat.zero_add<|ai @Nat.add_zero @ge
abbrev w_g15_11:=ai @aps<|ai @q0h<|ai @obs<|ai @ips @q0t
abbrev w_g15_12:=ai @aps<|ai @q0h<|ai @obs @ips
abbrev w_f15:=ai @wp<|ai @q06<|ai @q0x<|ai @q2u<|ai @q4m<|ai @q2a<|ai @z4r<|ai @z0s<|ai @z9k<|ai @q7q<|ai @q63<|ai @z2x<|ai @j31<|ai @z4e<|ai @Nat.zero_add<|ai @Nat.add_zero @ge
abbrev w_g16_0:=ai @aps<|ai @q0h<|ai @obs @q97
abbrev w_g16_2:=ai @wp<|ai @fa94_2<|ai @ld91<|ai @Nat.zero_add<|ai @Nat.add_zero @ge
abbrev w_g16_3:=ai @aps<|ai @q0h<|ai @obs @q97
abbrev w_g16_5:=ai @wp<|ai @j0b<|ai @ld92<|ai @Nat.zero_add<|ai @Nat.add_zero @ge
abbrev w_g16_6:=ai @aps<|ai @q0h<|ai @obs @q97
abbrev w_g16_8:=ai @wp<|ai @q2y<|ai @q20<|ai @q21<|ai @q23 @ld28
abbrev j2o:=ai @aps<|ai @q0h<|ai @obs @ips
abbrev j2p:=ai @aps<|ai @q0h<|ai @obs @ips
abbrev j2q:=ai @aps<|ai @q0h<|ai @obs @ips
abbrev w_f16:=ai @wp<|ai @lcs<|ai @oms<|ai @Nat.zero_add<|ai @ift<|ai @ge<|ai @fa94_4<|ai @j5q<|ai @q63<|ai @ld90<|ai @bd28 @Nat.add_zero
abbrev w_g17_0:=ai @wp<|ai @lcs<|ai @oms<|ai @Nat.zero_add<|ai @ift<|ai @ge<|ai @q2y<|ai @q20<|ai @q21<|ai @q23<|ai @q4g<|ai @z4t<|ai @q3c<|ai @ld3<|ai @q6k<|ai @z4k @Nat.add_zero
abbrev w_f17:=ai @wp<|ai @q06<|ai @q0x<|ai @lcs<|ai @oms<|ai @Nat.zero_add<|ai @ift<|ai @ge<|ai @q2y<|ai @q20<|ai @q21<|ai @q23<|ai @q6k @z4k
abbrev w_f18:=ai @wp<|ai @lcs<|ai @oms<|ai @Nat.zero_add<|ai @ift<|ai @ge<|ai @q2y<|ai @q20<|ai @q21<|ai @q23<|ai @q6k @z4k
abbrev z8x:=ai @wp<|ai @q03<|ai @q0u<|ai @j7v<|ai @q6k @j30
abbrev z8y:=ai @wp<|ai @q03<|ai @q0u<|ai @q4g<|ai @q3h<|ai @q3c<|ai @Nat.zero_add<|ai @Nat.add_zero @ge
abbrev z8z:=ai @wp<|ai @q03<|ai @q0u @j30
abbrev z81:=ai @aps<|ai @q0h<|ai @obs @ips
abbrev w_f19:=ai @wp<|ai @q03<|ai @q0u<|ai @q06<|ai @q0x<|ai @ge<|ai @q8w<|ai @ld9<|ai @Nat.zero_add @Nat.add_zero
abbrev w_g20_0:=ai @aps<|ai @q0h<|ai @obs @ips
abbrev w_f20:=ai @wp<|ai @q03<|ai @q0u<|ai @q0m<|ai @q0i<|ai @q41<|ai @z0q<|ai @ld2<|ai @q63<|ai @q3c<|ai @Nat.zero_add<|ai @Nat.add_zero @ge
abbrev w_g21_0:=ai @wp<|ai @lcs<|ai @oms<|ai @Nat.zero_add<|ai @ift<|ai @ge<|ai @q2y<|ai @q20<|ai @q21<|ai @q23<|ai @q3c<|ai @z07 @z0m
abbrev w_f21:=ai @wp<|ai @q03<|ai @q0u<|ai @q0m<|ai @q0i<|ai @q06<|ai @q0x<|ai @lcs<|ai @oms<|ai @Nat.zero_add<|ai @ift<|ai @ge<|ai @q2y<|ai @q20<|ai @q21<|ai @q23<|ai @z0q<|ai @q41<|ai @q63<|ai @ld2<|ai @q3c<|ai @z07<|ai @z4l<|ai @z0m<|ai @be4<|ai @bn4 @Nat.add_zero
abbrev w_g22_0:=ai @wp<|ai @lcs<|ai @oms<|ai @Nat.zero_add<|ai @ift<|ai @ge<|ai @q2y<|ai @q20<|ai @q21<|ai @q23<|ai @q3c<|ai @z07 @z0m
abbrev w_f22:=ai @wp<|ai @q0m<|ai @q0i<|ai @q06<|ai @q0x<|ai @lcs<|ai @oms<|ai @Nat.zero_add<|ai @ift<|ai @ge<|ai @q2y<|ai @q20<|ai @q21<|ai @q23<|ai @z0q<|ai @q41<|ai @q63<|ai @ld2<|ai @q3c<|ai @z07<|ai @z4l<|ai @z0m<|ai @bn4 @Nat.add_zero
abbrev z3o:=ai @wp<|ai @q2y<|ai @q20<|ai @q21<|ai @q23 @q6k
abbrev w_f26:=ai @wp<|ai @q03<|ai @q0u<|ai @lcs<|ai @oms<|ai @Nat.zero_add<|ai @ift<|ai @ge<|ai @q72<|ai @q3h<|ai @q41<|ai @z07<|ai @z4k<|ai @cv3_26 @Nat.add_zero
abbrev w_g27_0:=ai @aps<|ai @q0h<|ai @obs @ips
abbrev j4u:=ai @wp<|ai @q0m<|ai @q0i<|ai @q1y<|ai @q2u<|ai @q8w<|ai @z0s<|ai @ld9<|ai @z2x<|ai @z9j<|ai @Nat.zero_add<|ai @Nat.add_zero @ge
abbrev w_g27_2:=ai @aps<|ai @q0h<|ai @obs<|ai @ips @q0t
abbrev w_g27_3:=ai @wp<|ai @lcs<|ai @oms<|ai @Nat.zero_add<|ai @ift<|ai @ge<|ai @q1y<|ai @q2u<|ai @z0s<|ai @bd56<|ai @cv26_3<|ai @sl23 @Nat.add_zero
abbrev w_f27:=ai @wp<|ai @q2h<|ai @q1x<|ai @q2c<|ai @q1y<|ai @q2u<|ai @z0s<|ai @z2x<|ai @Nat.zero_add<|ai @Nat.add_zero @ge
abbrev j4v:=ai @wp<|ai @q2h<|ai @q1x<|ai @q1y<|ai @q2a<|ai @fa61_1<|ai @z4r<|ai @q7q<|ai @ld3<|ai @q63<|ai @z4e<|ai @Nat.zero_add<|ai @Nat.add_zero @ge
abbrev w_g28_1:=ai @wp<|ai @q0t<|ai @lcs<|ai @oms<|ai @Nat.zero_add<|ai @ift<|ai @ge<|ai @q1y<|ai @z4r<|ai @q2a<|ai @q63<|ai @q7q<|ai @bd54 @Nat.add_zero
abbrev w_f28:=ai @wp<|ai @q0m @q0i
abbrev z88:=ai @wp<|ai @q06<|ai @q0x<|ai @q1y<|ai @q2a<|ai @q6x<|ai @q7q<|ai @ld9<|ai @q6k<|ai @z0r<|ai @Nat.zero_add<|ai @Nat.add_zero @ge
abbrev j4w:=ai @wp<|ai @q06<|ai @q0x<|ai @ge<|ai @q1y<|ai @q2a<|ai @q6x<|ai @q4g<|ai @q3h<|ai @q2u<|ai @j0a<|ai @q7q<|ai @ld9<|ai @q3c<|ai @z0s<|ai @z0r<|ai @z9j<|ai @Nat.zero_add @Nat.add_zero
abbrev w_g29_2:=ai @wp<|ai @q1y<|ai @q2a<|ai @q4g<|ai @q2u<|ai @j0a<|ai @q7q<|ai @q3c<|ai @z0s<|ai @z0r<|ai @z9j<|ai @Nat.zero_add<|ai @Nat.add_zero @ge
abbrev w_f29:=ai @wp<|ai @q0m @q0i
abbrev w_f30:=ai @wp<|ai @ge<|ai @q2y<|ai @q20<|ai @q21<|ai @q23<|ai @q72<|ai @ld3<|ai @q6k<|ai @Nat.zero_add @Nat.add_zero
abbrev z9a:=ai @wp<|ai @q06<|ai @q0x<|ai @q1y<|ai @q2a<|ai @q6x<|ai @q7q<|ai @ld9<|ai @q6k<|ai @z0r<|ai @Nat.zero_add<|ai @Nat.add_zero @ge
abbrev j4x:=ai @wp<|ai @q0m<|ai @q0i<|ai @q1y<|ai @q2a<|ai @q6x<|ai @q4g<|ai @q3h<|ai @q7q<|ai @ld9<|ai @q3c<|ai @z0r<|ai @Nat.zero_add<|ai @Nat.add_zero @ge
abbrev w_g31_2:=ai @wp<|ai @q06<|ai @q0x<|ai @ge<|ai @q1y<|ai @q2a<|ai @q4g<|ai @q3h<|ai @q2u<|ai @j0a<|ai @q7q<|ai @q3c<|ai @z0s<|ai @z0r<|ai @z9j<|ai @Nat.zero_add @Nat.add_zero
abbrev w_g31_3:=ai @wp<|ai @q1y<|ai @q2a<|ai @q4g<|ai @q2u<|ai @j0a<|ai @q7q<|ai @q3c<|ai @z0s<|ai @z0r<|ai @z9j<|ai @Nat.zero_add<|ai @Nat.add_zero @ge
abbrev w_f31:=ai @wp<|ai @q0m @q0i
abbrev z0h:=ai @wp<|ai @q03 @q0u
abbrev z3p:=ai @wp<|ai @q06<|ai @q0x<|ai @q1y<|ai @q2a<|ai @q6x<|ai @q7q<|ai @ld9<|ai @z0r<|ai @Nat.zero_add<|ai @Nat.add_zero @ge
abbrev z9b:=ai @wp<|ai @q06<|ai @q0x<|ai @q1y<|ai @q2a<|ai @q6x<|ai @q7q<|ai @ld9<|ai @q6k<|ai @z0r<|ai @Nat.zero_add<|ai @Nat.add_zero @ge
abbrev j4y:=ai @wp<|ai @q0m<|ai @q0i<|ai @q1y<|ai @q2a<|ai @q4g<|ai @q3h<|ai @q7q<|ai @q3c<|ai @z0r<|ai @Nat.zero_add<|ai @Nat.add_zero @ge
abbrev w_g32_4:=ai @wp<|ai @q06<|ai @q0x<|ai @ge<|ai @q1y<|ai @q2a<|ai @q4g<|ai @q3h<|ai @q7q<|ai @q3c<|ai @z0r<|ai @Nat.zero_add @Nat.add_zero
abbrev w_g32_5:=ai @wp<|ai @q1y<|ai @q2a<|ai @q4g<|ai @q7q<|ai @q3c<|ai @z0r<|ai @Nat.zero_add<|ai @Nat.add_zero @ge
abbrev j2n:=ai @wp<|ai @q0m @q0i
abbrev z9c:=ai @wp<|ai @q03 @q0u
abbrev j4z:=ai @wp<|ai @q06<|ai @q0x @q6k
abbrev w_g33_2:=ai @wp<|ai @q2h<|ai @q1x<|ai @q1y<|ai @q4m<|ai @fa74_2<|ai @z9k<|ai @q6k<|ai @ix24<|ai @Nat.zero_add<|ai @Nat.add_zero @ge
abbrev w_g33_3:=ai @aps<|ai @q0h<|ai @obs @ips
abbrev z3q:=ai @wp<|ai @q03<|ai @q0u<|ai @q0m<|ai @q0i<|ai @q1y<|ai @q4m<|ai @z4u<|ai @z4v<|ai @z9k<|ai @ld9<|ai @j31<|ai @ix24<|ai @Nat.zero_add<|ai @Nat.add_zero @ge
abbrev w_g33_5:=ai @aps<|ai @q0h<|ai @obs<|ai @ips @q0t
abbrev w_g33_6:=ai @wp<|ai @lcs<|ai @oms<|ai @Nat.zero_add<|ai @ift<|ai @ge<|ai @q1y<|ai @q4m<|ai @z9k<|ai @q6k<|ai @bd74<|ai @sl24 @Nat.add_zero
abbrev w_f33:=ai @wp<|ai @q0m @q0i
abbrev w_g34_0:=ai @wp<|ai @q03<|ai @q0u<|ai @lcs<|ai @oms<|ai @Nat.zero_add<|ai @ift<|ai @ge<|ai @q2y<|ai @q20<|ai @q21<|ai @q23<|ai @q1y<|ai @q2a<|ai @q6x<|ai @q7q<|ai @ld9<|ai @q6k<|ai @z4k<|ai @z0r @Nat.add_zero
abbrev z3r:=ai @wp<|ai @q0m<|ai @q0i<|ai @lcs<|ai @oms<|ai @Nat.zero_add<|ai @ift<|ai @ge<|ai @q2y<|ai @q20<|ai @q21<|ai @q23<|ai @q6k @z4k
abbrev z9d:=ai @wp<|ai @q06<|ai @q0x<|ai @lcs<|ai @oms<|ai @Nat.zero_add<|ai @ift<|ai @ge<|ai @q2y<|ai @q20<|ai @q21<|ai @q23<|ai @q6k @z4k
abbrev j40:=ai @wp<|ai @q0m<|ai @q0i<|ai @lcs<|ai @oms<|ai @Nat.zero_add<|ai @ift<|ai @ge<|ai @q2y<|ai @q20<|ai @q21<|ai @q23<|ai @q1y<|ai @q2a<|ai @q4g<|ai @q3h<|ai @q7q<|ai @q3c<|ai @q6k<|ai @z4k<|ai @z0r @Nat.add_zero
abbrev w_g34_4:=ai @wp<|ai @q06<|ai @q0x<|ai @lcs<|ai @oms<|ai @Nat.zero_add<|ai @ift<|ai @ge<|ai @q2y<|ai @q20<|ai @q21<|ai @q23<|ai @q1y<|ai @q4m<|ai @fa74_2<|ai @q2u<|ai @z4t<|ai @q6k<|ai @z9k<|ai @z0s<|ai @ld3<|ai @z4k<|ai @ix24<|ai @z9j @Nat.add_zero
abbrev z9e:=ai @wp<|ai @q06<|ai @q0x<|ai @lcs<|ai @oms<|ai @Nat.zero_add<|ai @ift<|ai @ge<|ai @q2y<|ai @q20<|ai @q21<|ai @q23<|ai @q1y<|ai @q4m<|ai @j5o<|ai @q3h<|ai @j5p<|ai @q2a<|ai @q4g<|ai @z9k<|ai @q3c<|ai @q7q<|ai @q6k<|ai @z4k<|ai @ix24<|ai @z0r @Nat.add_zero
abbrev w_g34_6:=ai @wp<|ai @ge<|ai @q2y<|ai @q20<|ai @q21<|ai @q23<|ai @q1y<|ai @q2a<|ai @q4g<|ai @q3h<|ai @q4m<|ai @j5o<|ai @j5p<|ai @q7q<|ai @q3c<|ai @z9k<|ai @q6k<|ai @z0r<|ai @ix24<|ai @Nat.zero_add @Nat.add_zero
abbrev w_f34:=ai @wp<|ai @q0m<|ai @q0i<|ai @lcs<|ai @oms<|ai @Nat.zero_add<|ai @ift<|ai @ge<|ai @q2y<|ai @q20<|ai @q21<|ai @q23<|ai @q6k @z4k
abbrev w_g35_0:=ai @aps<|ai @q0h<|ai @obs @ips
abbrev z9f:=ai @wp<|ai @q0m @q0i
abbrev j41:=ai @wp<|ai @q2c<|ai @q0m<|ai @q0i @iv9
abbrev j42:=ai @aps<|ai @q0h<|ai @obs<|ai @ips @q0t
abbrev w_g35_4:=ai @aps<|ai @q0h<|ai @obs @ips
abbrev w_f35:=ai @wp<|ai @q06<|ai @q0x @len9
abbrev w_g36_0:=ai @wp<|ai @q0m<|ai @q0i<|ai @q1y<|ai @q2u<|ai @z0s<|ai @z2x<|ai @Nat.zero_add<|ai @Nat.add_zero @ge
abbrev w_g36_1:=ai @wp<|ai @q03<|ai @q0u<|ai @q1y<|ai @q2u<|ai @q8w<|ai @z0s<|ai @ld9<|ai @z9j<|ai @Nat.zero_add<|ai @Nat.add_zero @ge
abbrev w_g36_2:=ai @aps<|ai @q0h<|ai @obs<|ai @ips @q0t
abbrev w_g36_3:=ai @aps<|ai @q0h<|ai @obs @ips
abbrev w_f36:=ai @aps<|ai @q0h<|ai @obs @ips
abbrev j43:=ai @wp<|ai @q03<|ai @q0u<|ai @q0m<|ai @q0i<|ai @lcs<|ai @oms<|ai @Nat.zero_add<|ai @ift<|ai @ge<|ai @q3h<|ai @q41<|ai @ld2<|ai @q3c<|ai @z07 @Nat.add_zero
abbrev w_g37_1:=ai @aps<|ai @q0h<|ai @obs @ips
abbrev w_f37:=ai @aps<|ai @q0h<|ai @obs<|ai @ips @q6k
abbrev w_g38_0:=ai @wp<|ai @lcs<|ai @oms<|ai @Nat.zero_add<|ai @ift<|ai @ge<|ai @j5q<|ai @fa94_2<|ai @j0b<|ai @bd94 @Nat.add_zero
abbrev w_f38:=ai @wp<|ai @q2c<|ai @q0m @q0i
abbrev w_g39_0:=ai @aps<|ai @q0h<|ai @obs @ips
abbrev w_f39:=ai @wp<|ai @q2h<|ai @q1x<|ai @ge<|ai @j3h<|ai @j3i<|ai @fa142_2<|ai @ld140<|ai @z0s<|ai @j7v<|ai @ld3<|ai @j1e<|ai @z9j<|ai @Nat.zero_add @Nat.add_zero
abbrev w_g40_0:=ai @aps<|ai @q0h<|ai @obs @ips
abbrev w_f40:=ai @wp<|ai @q2h<|ai @q1x<|ai @ge<|ai @fa146_0<|ai @fa146_1<|ai @fa146_2<|ai @ld140<|ai @z9k<|ai @ld74<|ai @ld3<|ai @j1e<|ai @ix24<|ai @Nat.zero_add @Nat.add_zero
abbrev w_g41_0:=ai @aps<|ai @q0h<|ai @obs @ips
abbrev w_f41:=ai @wp<|ai @q2h<|ai @q1x<|ai @ge<|ai @j3j<|ai @j3k<|ai @fa151_2<|ai @ld149<|ai @q7q<|ai @j30<|ai @ld3<|ai @len149<|ai @z0r<|ai @Nat.zero_add @Nat.add_zero
abbrev w_g46_0:=ai @wp<|ai @q0m<|ai @q0i @len9
abbrev w_g46_1:=ai @wp<|ai @q2c<|ai @q0m<|ai @q0i @iv9
abbrev w_g46_2:=ai @aps<|ai @q0h<|ai @obs<|ai @ips @q0t
abbrev w_g46_3:=ai @wp<|ai @q03<|ai @q0u @len9
abbrev w_f46:=ai @aps<|ai @q0h<|ai @obs @ips
abbrev z3s:=ai @wp<|ai @q0m @q0i
abbrev z9g:=ai @wp<|ai @q03<|ai @q0u<|ai @q0m<|ai @q0i<|ai @q3n<|ai @q4m<|ai @z4u<|ai @z4v<|ai @ld74<|ai @z9k<|ai @ld9<|ai @ix24<|ai @Nat.zero_add<|ai @Nat.add_zero @ge
abbrev q7c:=ai @wp<|ai @q03<|ai @q0u<|ai @q2c<|ai @q0m<|ai @q0i<|ai @q06<|ai @q0x<|ai @z4u<|ai @z4v<|ai @fa74_2<|ai @j5o<|ai @j5p<|ai @ld28<|ai @ld9<|ai @q6k<|ai @q3c<|ai @Nat.zero_add<|ai @Nat.add_zero @ge
abbrev w_g47_3:=ai @aps<|ai @q0h<|ai @obs<|ai @ips @q0t
abbrev w_g47_4:=ai @aps<|ai @q0h<|ai @obs @ips
abbrev w_f47:=ai @wp<|ai @q4m<|ai @z9k<|ai @j31<|ai @Nat.zero_add<|ai @Nat.add_zero @ge
abbrev w_g48_0:=ai @wp<|ai @q0m @q0i
abbrev z3t:=ai @wp<|ai @q2c<|ai @q79<|ai @q0m<|ai @q0i<|ai @z4s<|ai @z4r<|ai @q6x<|ai @q4g<|ai @j30<|ai @q63<|ai @ld28<|ai @ld9<|ai @q3c<|ai @z0r<|ai @Nat.zero_add<|ai @Nat.add_zero @ge
abbrev w_g48_2:=ai @wp<|ai @z4s<|ai @q63<|ai @Nat.zero_add<|ai @Nat.add_zero @ge
abbrev w_g48_3:=ai @aps<|ai @q0h<|ai @obs<|ai @ips @q0t
abbrev w_g48_4:=ai @wp<|ai @q79<|ai @z4r<|ai @q63<|ai @Nat.zero_add<|ai @Nat.add_zero @ge
abbrev w_f48:=ai @wp<|ai @q2a<|ai @q7q<|ai @z4e<|ai @Nat.zero_add<|ai @Nat.add_zero @ge
abbrev w_g49_0:=ai @wp<|ai @q0m @q0i
abbrev w_g49_1:=ai @wp<|ai @q03<|ai @q0u<|ai @q6x<|ai @q8w<|ai @q4g<|ai @j30<|ai @ld9<|ai @q3c<|ai @z0r<|ai @Nat.zero_add<|ai @Nat.add_zero @ge
abbrev w_g49_2:=ai @aps<|ai @q0h<|ai @obs<|ai @ips @q0t
abbrev w_g49_3:=ai @wp<|ai @q4m<|ai @z9k<|ai @j31<|ai @Nat.zero_add<|ai @Nat.add_zero @ge
abbrev w_g49_4:=ai @wp<|ai @q0m @q0i
abbrev w_g49_5:=ai @wp<|ai @q03<|ai @q0u<|ai @z4u<|ai @q8w<|ai @j5o<|ai @ld74<|ai @ld9<|ai @q3c<|ai @ix24<|ai @Nat.zero_add<|ai @Nat.add_zero @ge
abbrev w_g49_6:=ai @wp<|ai @q03<|ai @q0u<|ai @z4v<|ai @q8w<|ai @j5p<|ai @ld9<|ai @q3c<|ai @Nat.zero_add<|ai @Nat.add_zero @ge
abbrev w_g49_7:=ai @aps<|ai @q0h<|ai @obs<|ai @ips @q0t
abbrev w_g49_8:=ai @aps<|ai @q0h<|ai @obs @ips
abbrev w_f49:=ai @wp<|ai @j0a<|ai @q2a<|ai @q3c<|ai @q7q<|ai @z4e<|ai @Nat.zero_add<|ai @Nat.add_zero @ge
abbrev w_f50:=ai @aps<|ai @q0h<|ai @obs @ips
abbrev w_f51:=ai @aps<|ai @q0h<|ai @obs @ips
abbrev w_f52:=ai @aps<|ai @q0h<|ai @obs @ips
abbrev w_g53_0:=ai @wp<|ai @ge<|ai @q2y<|ai @q20<|ai @q21<|ai @q23<|ai @j5q<|ai @q6x<|ai @ld90<|ai @ld9<|ai @j30<|ai @j7v<|ai @Nat.zero_add @Nat.add_zero
abbrev w_f53:=ai @wp<|ai @lcs<|ai @oms<|ai @Nat.zero_add<|ai @ift<|ai @ge<|ai @q2y<|ai @q20<|ai @q21<|ai @q23<|ai @j0b<|ai @ld92<|ai @j30<|ai @j7v<|ai @bd56 @Nat.add_zero
abbrev w_f54:=ai @wp<|ai @lcs<|ai @oms<|ai @Nat.zero_add<|ai @ift<|ai @ge<|ai @q2y<|ai @q20<|ai @q21<|ai @q23<|ai @q3c<|ai @z07 @z4l
abbrev w_g55_0:=ai @aps<|ai @q0h<|ai @obs @ips
abbrev w_f55:=ai @wp<|ai @q79<|ai @q06<|ai @q0x<|ai @q72<|ai @z4t<|ai @q3h<|ai @ld3<|ai @q3c<|ai @Nat.zero_add<|ai @Nat.add_zero @ge
abbrev w_f56:=ai @wp<|ai @q0m<|ai @q0i<|ai @q4g<|ai @q3h<|ai @q3c<|ai @Nat.zero_add<|ai @Nat.add_zero @ge
abbrev w_g57_0:=ai @aps<|ai @q0h<|ai @obs<|ai @ips @q3c
abbrev w_f57:=ai @wp<|ai @q06<|ai @q0x<|ai @ge @q3c
abbrev w_f58:=ai @wp<|ai @j0b<|ai @z4s<|ai @ld92<|ai @q63<|ai @j30<|ai @Nat.zero_add<|ai @Nat.add_zero @ge
abbrev w_g64_0:=ai @wp<|ai @lcs<|ai @oms<|ai @Nat.zero_add<|ai @ift<|ai @ge<|ai @q2y<|ai @q20<|ai @q21<|ai @q23<|ai @q1y<|ai @q2a<|ai @q4g<|ai @q2u<|ai @q6x<|ai @z4t<|ai @q7q<|ai @q3c<|ai @z0s<|ai @ld9<|ai @ld3<|ai @q6k<|ai @z4k<|ai @z0r<|ai @z9j @Nat.add_zero
abbrev w_f64:=ai @wp<|ai @q0m<|ai @q0i<|ai @lcs<|ai @oms<|ai @Nat.zero_add<|ai @ift<|ai @ge<|ai @q2y<|ai @q20<|ai @q21<|ai @q23<|ai @q6k @z4k
abbrev w_g68_0:=ai @wp<|ai @lcs<|ai @oms<|ai @Nat.zero_add<|ai @ift<|ai @ge<|ai @q2y<|ai @q20<|ai @q21<|ai @q23<|ai @q5j<|ai @z2v<|ai @z9q<|ai @z4d @Nat.add_zero
abbrev w_f68:=ai @wp<|ai @q0t<|ai @q03<|ai @q0u<|ai @q0m<|ai @q0i<|ai @q41<|ai @z0q<|ai @ld2<|ai @q63<|ai @z4l<|ai @Nat.zero_add<|ai @Nat.add_zero @ge
abbrev w_g69_0:=ai @wp<|ai @q0m<|ai @q0i<|ai @lcs<|ai @oms<|ai @Nat.zero_add<|ai @ift<|ai @ge<|ai @q2y<|ai @q20<|ai @q21<|ai @q23<|ai @q5j<|ai @q6w<|ai @q7z<|ai @ld4<|ai @z2v<|ai @z9q @Nat.add_zero
abbrev w_g69_1:=ai @wp<|ai @lcs<|ai @oms<|ai @Nat.zero_add<|ai @ift<|ai @ge<|ai @q2y<|ai @q20<|ai @q21<|ai @q23<|ai @q5j<|ai @q6w<|ai @q7z<|ai @ld4<|ai @z2v<|ai @z9q @Nat.add_zero
abbrev w_f69:=ai @wp<|ai @q03<|ai @q0u<|ai @lcs<|ai @oms<|ai @Nat.zero_add<|ai @ift<|ai @ge<|ai @q2y<|ai @q20<|ai @q21<|ai @q23<|ai @q6w<|ai @q5j<|ai @ld4<|ai @q7z<|ai @z2v<|ai @z9q<|ai @be4 @Nat.add_zero
abbrev w_f70:=ai @wp<|ai @q03<|ai @q0u<|ai @lcs<|ai @oms<|ai @Nat.zero_add<|ai @ift<|ai @ge @q7z
abbrev w_g71_0:=ai @wp<|ai @q0m<|ai @q0i<|ai @q1y<|ai @q2a<|ai @q7q<|ai @z4e<|ai @Nat.zero_add<|ai @Nat.add_zero @ge
abbrev w_g71_1:=ai @wp<|ai @q03<|ai @q0u<|ai @q1y<|ai @q2a<|ai @z4s<|ai @q7q<|ai @q63<|ai @z0r<|ai @Nat.zero_add<|ai @Nat.add_zero @ge
abbrev w_g71_2:=ai @aps<|ai @q0h<|ai @obs<|ai @ips @q0t
abbrev w_g71_3:=ai @aps<|ai @q0h<|ai @obs @ips
abbrev w_f71:=ai @aps<|ai @q0h<|ai @obs @ips
abbrev j44:=ai @wp<|ai @q03<|ai @q0u<|ai @q0m<|ai @q0i<|ai @lcs<|ai @oms<|ai @Nat.zero_add<|ai @ift<|ai @ge<|ai @q3h<|ai @q41<|ai @ld2<|ai @q3c<|ai @z07 @Nat.add_zero
abbrev w_g72_1:=ai @aps<|ai @q0h<|ai @obs @ips
abbrev w_f72:=ai @wp<|ai @q06<|ai @q0x<|ai @q72<|ai @q1y<|ai @q2u<|ai @z4t<|ai @ld3<|ai @z0s<|ai @z9j<|ai @Nat.zero_add<|ai @Nat.add_zero @ge
abbrev w_f73:=ai @wp<|ai @ge<|ai @q2y<|ai @q20<|ai @q21<|ai @q23 @q3c
abbrev w_f74:=ai @wp<|ai @ge<|ai @q2y<|ai @q20<|ai @q21<|ai @q23 @q3c
abbrev w_f75:=ai @aps<|ai @q0h<|ai @obs<|ai @ips @q3c
abbrev w_g76_0:=ai @wp<|ai @q0m<|ai @q0i<|ai @q1y<|ai @q4m<|ai @z9k<|ai @j31<|ai @Nat.zero_add<|ai @Nat.add_zero @ge
abbrev w_g76_1:=ai @wp<|ai @q03<|ai @q0u<|ai @q1y<|ai @q4m<|ai @z4u<|ai @z4v<|ai @z9k<|ai @ld9<|ai @ix24<|ai @Nat.zero_add<|ai @Nat.add_zero @ge
abbrev w_g76_2:=ai @aps<|ai @q0h<|ai @obs<|ai @ips @q0t
abbrev w_g76_3:=ai @aps<|ai @q0h<|ai @obs @ips
abbrev w_f76:=ai @aps<|ai @q0h<|ai @obs @ips
abbrev z9h:=ai @wp<|ai @q03<|ai @q0u<|ai @q0m<|ai @q0i<|ai @lcs<|ai @oms<|ai @Nat.zero_add<|ai @ift<|ai @ge<|ai @q2y<|ai @q20<|ai @q21<|ai @q23<|ai @q3h<|ai @q41<|ai @ld2<|ai @q3c<|ai @q6k<|ai @z4k<|ai @z07 @Nat.add_zero
abbrev w_g77_1:=ai @wp<|ai @q06<|ai @q0x<|ai @lcs<|ai @oms<|ai @Nat.zero_add<|ai @ift<|ai @ge<|ai @q2y<|ai @q20<|ai @q21<|ai @q23<|ai @q6k @z4k
abbrev w_g77_2:=ai @wp<|ai @ge<|ai @q2y<|ai @q20<|ai @q21<|ai @q23 @q6k
abbrev j4r:=ai @wp<|ai @q2c<|ai @q0m<|ai @q0i<|ai @lcs<|ai @oms<|ai @Nat.zero_add<|ai @ift<|ai @ge<|ai @q2y<|ai @q20<|ai @q21<|ai @q23<|ai @q6k @z4k
abbrev w_f78:=ai @wp<|ai @q2h<|ai @q1x<|ai @q79<|ai @q72<|ai @ld3<|ai @Nat.zero_add<|ai @Nat.add_zero @ge
abbrev w_g79_0:=ai @wp<|ai @lcs<|ai @oms<|ai @Nat.zero_add<|ai @ift<|ai @ge @bd142
abbrev w_f79:=ai @wp<|ai @q2c<|ai @q0m @q0i
abbrev w_g80_0:=ai @wp<|ai @lcs<|ai @oms<|ai @Nat.zero_add<|ai @ift<|ai @ge @bd146
abbrev w_f80:=ai @wp<|ai @q2c<|ai @q0m @q0i
abbrev w_g81_0:=ai @wp<|ai @lcs<|ai @oms<|ai @Nat.zero_add<|ai @ift<|ai @ge @bd151
abbrev w_f81:=ai @wp<|ai @q2c<|ai @q0m @q0i
abbrev w_g82_0:=ai @wp<|ai @q0m @q0i
abbrev w_g82_1:=ai @wp<|ai @q0t<|ai @ld9<|ai @ix140<|ai @z6f @cv172_3
abbrev w_g82_2:=ai @wp<|ai @q03<|ai @q0u<|ai @q0m<|ai @q0i<|ai @ld9 @ix140
abbrev w_f82:=ai @aps<|ai @q0h<|ai @obs<|ai @ips @j1e
abbrev w_g86_0:=ai @wp<|ai @q0m @q0i
abbrev w_g86_1:=ai @wp<|ai @q0t<|ai @q63<|ai @ix149<|ai @z6f @cv172_3
abbrev w_g86_2:=ai @wp<|ai @q03<|ai @q0u<|ai @q0m<|ai @q0i<|ai @q63 @ix149
abbrev w_f86:=ai @aps<|ai @q0h<|ai @obs<|ai @ips @len149
abbrev w_g89_0:=ai @wp<|ai @q2y<|ai @q20<|ai @q21<|ai @q23<|ai @j3i<|ai @z0s<|ai @j7v<|ai @z9j<|ai @Nat.zero_add<|ai @Nat.add_zero @ge
abbrev w_f89:=ai @wp<|ai @ge<|ai @q2y<|ai @q20<|ai @q21<|ai @q23<|ai @j3h<|ai @ld140<|ai @j7v<|ai @Nat.zero_add @Nat.add_zero
abbrev w_g91_0:=ai @wp<|ai @q0m @q0i
abbrev w_g91_1:=ai @wp<|ai @q03<|ai @q0u<|ai @q8w<|ai @j7v<|ai @ld9<|ai @z9j<|ai @Nat.zero_add<|ai @Nat.add_zero @ge
abbrev w_g91_2:=ai @aps<|ai @q0h<|ai @obs<|ai @ips @q0t
abbrev w_g91_3:=ai @aps<|ai @q0h<|ai @obs @ips
abbrev w_f91:=ai @wp<|ai @q2u<|ai @z0s<|ai @z2x<|ai @Nat.zero_add<|ai @Nat.add_zero @ge
abbrev w_g92_0:=ai @aps<|ai @q0h<|ai @obs @ips
abbrev w_f92:=ai @aps<|ai @q0h<|ai @obs<|ai @ips @q6k
abbrev w_g93_0:=ai @aps<|ai @q0h<|ai @obs @ips
abbrev w_f93:=ai @wp<|ai @q03<|ai @q0u<|ai @q0m<|ai @q0i<|ai @q41<|ai @z0q<|ai @ld2<|ai @q63<|ai @Nat.zero_add<|ai @Nat.add_zero @ge
abbrev w_g94_0:=ai @wp<|ai @ge<|ai @j3l<|ai @q41<|ai @q3c<|ai @ld2<|ai @Nat.zero_add @Nat.add_zero
abbrev w_f94:=ai @wp<|ai @q0t<|ai @q0m<|ai @q0i<|ai @ge<|ai @fa160_1<|ai @z0q<|ai @j3l<|ai @q63<|ai @q3c<|ai @Nat.zero_add @Nat.add_zero
abbrev w_f95:=ai @wp<|ai @q03<|ai @q0u<|ai @fa160_1<|ai @j3l<|ai @q63<|ai @q3c<|ai @Nat.zero_add<|ai @Nat.add_zero @ge
abbrev w_f96:=ai @aps<|ai @q0h<|ai @obs<|ai @ips @ld90
abbrev j45:=ai @wp<|ai @q0m @q0i
abbrev w_g97_1:=ai @wp<|ai @ld9<|ai @j7v<|ai @ix140 @z9j
abbrev w_g97_2:=ai @aps<|ai @q0h<|ai @obs<|ai @ips @q0t
abbrev w_f97:=ai @aps<|ai @q0h<|ai @obs<|ai @ips @j1e
abbrev w_f98:=ai @wp<|ai @j3h<|ai @ld140<|ai @Nat.zero_add<|ai @Nat.add_zero @ge
abbrev w_f99:=ai @wp<|ai @j3i<|ai @z0s<|ai @Nat.zero_add<|ai @Nat.add_zero @ge
abbrev w_f100:=ai @aps<|ai @q0h<|ai @obs<|ai @ips @ld91
abbrev z8r:=ai @wp<|ai @q0m @q0i
abbrev w_g101_1:=ai @wp<|ai @ld9<|ai @ld74<|ai @ix140 @ix24
abbrev w_g101_2:=ai @aps<|ai @q0h<|ai @obs<|ai @ips @q0t
abbrev w_f101:=ai @aps<|ai @q0h<|ai @obs<|ai @ips @j1e
abbrev w_f102:=ai @wp<|ai @fa146_0<|ai @ld140<|ai @Nat.zero_add<|ai @Nat.add_zero @ge
abbrev w_f103:=ai @wp<|ai @fa146_1<|ai @z9k<|ai @Nat.zero_add<|ai @Nat.add_zero @ge
abbrev w_f104:=ai @aps<|ai @q0h<|ai @obs<|ai @ips @ld92
abbrev z8s:=ai @wp<|ai @q0m @q0i
abbrev w_g105_1:=ai @wp<|ai @q63<|ai @j30<|ai @ix149 @z0r
abbrev w_g105_2:=ai @aps<|ai @q0h<|ai @obs<|ai @ips @q0t
abbrev w_f105:=ai @aps<|ai @q0h<|ai @obs<|ai @ips @len149
abbrev w_f106:=ai @wp<|ai @j3j<|ai @ld149<|ai @Nat.zero_add<|ai @Nat.add_zero @ge
abbrev w_f107:=ai @wp<|ai @j3k<|ai @q7q<|ai @Nat.zero_add<|ai @Nat.add_zero @ge
abbrev w_g108_0:=ai @wp<|ai @q2y<|ai @q20<|ai @q21<|ai @q23<|ai @j3k<|ai @q7q<|ai @j30<|ai @z0r<|ai @Nat.zero_add<|ai @Nat.add_zero @ge
abbrev w_f108:=ai @wp<|ai @ge<|ai @q2y<|ai @q20<|ai @q21<|ai @q23<|ai @j3j<|ai @ld149<|ai @j30<|ai @Nat.zero_add @Nat.add_zero
abbrev j8i:=ai @wp<|ai @q0m @q0i
abbrev w_g111_1:=ai @wp<|ai @q0t<|ai @q63 @z4d
abbrev w_g111_2:=ai @aps<|ai @q0h<|ai @obs<|ai @ips @q0t
abbrev w_g111_3:=ai @wp<|ai @q2y<|ai @q20<|ai @q21<|ai @q23 @q7z
abbrev w_f111:=ai @aps<|ai @q0h<|ai @obs @ips
abbrev j8j:=ai @wp<|ai @q2h @q1x
abbrev z8t:=ai @wp<|ai @q0m<|ai @q0i<|ai @q06<|ai @q0x<|ai @q63 @z4d
abbrev w_g112_2:=ai @aps<|ai @q0h<|ai @obs @ips
abbrev w_g112_3:=ai @aps<|ai @q0h<|ai @obs<|ai @ips @q3n
abbrev w_g112_4:=ai @aps<|ai @q0h<|ai @obs @ips
abbrev w_f112:=ai @aps<|ai @q0h<|ai @obs @ips
abbrev j8k:=ai @wp<|ai @q0m @q0i
abbrev w_g113_1:=ai @wp<|ai @q0t<|ai @q3n<|ai @q63 @z4d
abbrev w_g113_2:=ai @aps<|ai @q0h<|ai @obs<|ai @ips @q0t
abbrev w_g113_3:=ai @wp<|ai @q2y<|ai @q20<|ai @q21<|ai @q23 @q7z
abbrev w_f113:=ai @aps<|ai @q0h<|ai @obs @ips
abbrev w_g114_0:=ai @wp<|ai @q2y<|ai @q20<|ai @q21<|ai @q23 @q3c
abbrev w_f114:=ai @wp<|ai @lcs<|ai @oms<|ai @Nat.zero_add<|ai @ift<|ai @ge<|ai @q2y<|ai @q20<|ai @q21<|ai @q23<|ai @z2v<|ai @q3c @z07
abbrev w_f115:=ai @wp<|ai @lcs<|ai @oms<|ai @Nat.zero_add<|ai @ift<|ai @ge<|ai @q2y<|ai @q20<|ai @q21<|ai @q23<|ai @q6w<|ai @q5j<|ai @ld4<|ai @q7z<|ai @z2v<|ai @z9q @Nat.add_zero
abbrev j8l:=ai @wp<|ai @q6w<|ai @ld4<|ai @Nat.zero_add<|ai @Nat.add_zero @ge
abbrev w_g116_1:=ai @aps<|ai @q0h<|ai @obs @ips
abbrev w_f116:=ai @wp<|ai @q5j<|ai @z2v<|ai @q7z<|ai @Nat.zero_add<|ai @Nat.add_zero @ge
abbrev j8m:=ai @wp<|ai @q0t<|ai @q3n<|ai @ge<|ai @q2y<|ai @q20<|ai @q21<|ai @q23<|ai @q3h<|ai @q72<|ai @q3c<|ai @ld3<|ai @q6k<|ai @Nat.zero_add @Nat.add_zero
abbrev w_f117:=ai @wp<|ai @q2c<|ai @q0m<|ai @q0i<|ai @lcs<|ai @oms<|ai @Nat.zero_add<|ai @ift<|ai @ge<|ai @q2y<|ai @q20<|ai @q21<|ai @q23<|ai @q6k @z4k
abbrev w_f118:=ai @wp<|ai @q0m @q0i
abbrev w_f119:=ai @wp<|ai @q06 @q0x
abbrev w_f126:=ai @wp<|ai @q0m @q0i
abbrev w_f127:=ai @wp<|ai @q06 @q0x
abbrev w_f132:=ai @wp<|ai @q72<|ai @ld3<|ai @Nat.zero_add<|ai @Nat.add_zero @ge
abbrev w_f133:=ai @wp<|ai @q03<|ai @q0u<|ai @q2c<|ai @lcs<|ai @oms<|ai @Nat.zero_add<|ai @ift<|ai @ge<|ai @q6k @z4k
abbrev z1t:=ai @wp<|ai @q0m @q0i
abbrev z8u:=ai @wp<|ai @q06<|ai @q0x<|ai @lcs<|ai @oms<|ai @Nat.zero_add<|ai @ift<|ai @ge<|ai @q2y<|ai @q20<|ai @q21<|ai @q23<|ai @q5j<|ai @q63<|ai @q3c<|ai @z07<|ai @z4d @Nat.add_zero
abbrev j8o:=ai @aps<|ai @q0h<|ai @obs<|ai @ips @q0t
abbrev j8p:=ai @wp<|ai @q0t<|ai @q0m<|ai @q0i<|ai @lcs<|ai @oms<|ai @Nat.zero_add<|ai @ift<|ai @ge<|ai @q2y<|ai @q20<|ai @q21<|ai @q23<|ai @q5j<|ai @q6w<|ai @q63<|ai @ld4<|ai @q3c<|ai @z07<|ai @z4d<|ai @z0m @Nat.add_zero
abbrev z1u:=ai @wp<|ai @q03<|ai @q0u<|ai @q2c<|ai @lcs<|ai @oms<|ai @Nat.zero_add<|ai @ift<|ai @ge<|ai @q2y<|ai @q20<|ai @q21<|ai @q23<|ai @q3c @z07
abbrev j8q:=ai @wp<|ai @q0t<|ai @q03 @q0u
abbrev j8r:=ai @wp<|ai @lcs<|ai @oms<|ai @Nat.zero_add<|ai @ift<|ai @ge<|ai @q2y<|ai @q20<|ai @q21<|ai @q23<|ai @q3c<|ai @z07 @z0m
abbrev w_f135:=ai @aps<|ai @q0h<|ai @obs @ips
abbrev w_g136_0:=ai @wp<|ai @lcs<|ai @oms<|ai @Nat.zero_add<|ai @ift<|ai @ge<|ai @q2y<|ai @q20<|ai @q21<|ai @q23<|ai @q3c<|ai @q6k @z4k
abbrev w_f136:=ai @wp<|ai @lcs<|ai @oms<|ai @Nat.zero_add<|ai @ift<|ai @ge<|ai @q2y<|ai @q20<|ai @q21<|ai @q23<|ai @z2v<|ai @q6k @z4k
abbrev z1v:=ai @wp<|ai @q03<|ai @q0u<|ai @q2c<|ai @ge<|ai @q5j<|ai @q7z<|ai @q63<|ai @z4d<|ai @Nat.zero_add @Nat.add_zero
abbrev j8s:=ai @wp<|ai @lcs<|ai @oms<|ai @Nat.zero_add<|ai @ift<|ai @ge<|ai @q2y<|ai @q20<|ai @q21<|ai @q23<|ai @q6w<|ai @ld4<|ai @q7z<|ai @z2v<|ai @z9q @Nat.add_zero
abbrev w_f137:=ai @wp<|ai @q79<|ai @lcs<|ai @oms<|ai @Nat.zero_add<|ai @ift<|ai @ge<|ai @q2y<|ai @q20<|ai @q21<|ai @q23<|ai @z2v @z9q
abbrev w_f138:=ai @wp<|ai @q06<|ai @q0x<|ai @lcs<|ai @oms<|ai @Nat.zero_add<|ai @ift<|ai @ge<|ai @q2y<|ai @q20<|ai @q21<|ai @q23<|ai @q5j<|ai @q6w<|ai @q7z<|ai @ld4<|ai @z2v<|ai @z9q<|ai @bn4 @Nat.add_zero
abbrev w_f139:=ai @wp<|ai @q06 @q0x
abbrev w_f143:=ai @wp<|ai @q06 @q0x
abbrev w_f146:=ai @wp<|ai @q2h<|ai @q1x @q79
abbrev w_g147_0:=ai @wp<|ai @q0m<|ai @q0i<|ai @q72<|ai @ld3<|ai @q6k<|ai @Nat.zero_add<|ai @Nat.add_zero @ge
abbrev w_g147_1:=ai @aps<|ai @q0h<|ai @obs<|ai @ips @q6k
abbrev w_f147:=ai @aps<|ai @q0h<|ai @obs<|ai @ips @q6k
abbrev w_f149:=ai @wp<|ai @q0m<|ai @q0i<|ai @q06<|ai @q0x<|ai @ge<|ai @q2y<|ai @q20<|ai @q21<|ai @q23<|ai @q41<|ai @ld2<|ai @q3c<|ai @bn4<|ai @Nat.zero_add @Nat.add_zero
abbrev j8t:=ai @wp<|ai @q0m @q0i
abbrev w_g151_1:=ai @aps<|ai @q0h<|ai @obs<|ai @ips @q7z
abbrev w_g151_2:=ai @aps<|ai @q0h<|ai @obs<|ai @ips @q0t
abbrev w_g151_3:=ai @wp<|ai @q2y<|ai @q20<|ai @q21<|ai @q23 @q7z
abbrev w_f151:=ai @aps<|ai @q0h<|ai @obs<|ai @ips @z4d
abbrev j8u:=ai @wp<|ai @q2h @q1x
abbrev j8v:=ai @wp<|ai @q0t<|ai @q2h<|ai @q1x<|ai @q7z<|ai @q63<|ai @z4d @z6f
abbrev j8w:=ai @aps<|ai @q0h<|ai @obs<|ai @ips @q3n
abbrev w_g152_3:=ai @wp<|ai @q2y<|ai @q20<|ai @q21<|ai @q23 @q7z
abbrev w_f152:=ai @aps<|ai @q0h<|ai @obs @ips
abbrev j8x:=ai @wp<|ai @q0m @q0i
abbrev w_g153_1:=ai @aps<|ai @q0h<|ai @obs @ips
abbrev j8y:=ai @wp<|ai @q0m @q0i
abbrev w_g153_3:=ai @wp<|ai @q0t<|ai @q6s<|ai @q63 @z4d
abbrev w_g153_4:=ai @aps<|ai @q0h<|ai @obs<|ai @ips @q0t
abbrev w_g153_5:=ai @aps<|ai @q0h<|ai @obs<|ai @ips @q0t
abbrev w_g153_6:=ai @wp<|ai @q2y<|ai @q20<|ai @q21<|ai @q23 @q7z
abbrev w_f153:=ai @aps<|ai @q0h<|ai @obs @ips
abbrev w_g159_0:=ai @aps<|ai @q0h<|ai @obs<|ai @ips @q3c
abbrev w_f159:=ai @wp<|ai @q06<|ai @q0x<|ai @q3n<|ai @ge<|ai @q72<|ai @q3h<|ai @ld3<|ai @q3c<|ai @Nat.zero_add @Nat.add_zero
abbrev w_f161:=ai @wp<|ai @ge<|ai @q2y<|ai @q20<|ai @q21<|ai @q23<|ai @q3c<|ai @ld212 @ix212
abbrev w_g163_0:=ai @wp<|ai @ge<|ai @q2y<|ai @q20<|ai @q21<|ai @q23<|ai @q63<|ai @q3c @ix212
abbrev w_f163:=ai @wp<|ai @q06<|ai @q0x<|ai @lcs<|ai @oms<|ai @Nat.zero_add<|ai @ift<|ai @ge<|ai @q2y<|ai @q20<|ai @q21<|ai @q23<|ai @q63<|ai @q3c<|ai @z07 @ix212
abbrev w_g164_0:=ai @wp<|ai @lcs<|ai @oms<|ai @Nat.zero_add<|ai @ift<|ai @ge @z07
abbrev j8z:=ai @aps<|ai @q0h<|ai @obs<|ai @ips @q2c
abbrev w_g164_2:=ai @wp<|ai @lcs<|ai @oms<|ai @Nat.zero_add<|ai @ift<|ai @ge<|ai @q3c @z07
abbrev w_g164_3:=ai @aps<|ai @q0h<|ai @obs<|ai @ips @q3n
abbrev w_g164_4:=ai @wp<|ai @q2y<|ai @q20<|ai @q21<|ai @q23 @q3c
abbrev w_f164:=ai @wp<|ai @q2c<|ai @q0m<|ai @q0i<|ai @lcs<|ai @oms<|ai @Nat.zero_add<|ai @ift<|ai @ge<|ai @q2y<|ai @q20<|ai @q21<|ai @q23<|ai @q3c @z07
abbrev w_g165_0:=ai @wp<|ai @q03<|ai @q0u<|ai @ge @q3c
abbrev w_g165_4:=ai @wp<|ai @q0m<|ai @q0i<|ai @q06<|ai @q0x<|ai @lcs<|ai @oms<|ai @Nat.zero_add<|ai @ift<|ai @ge<|ai @q2y<|ai @q20<|ai @q21<|ai @q23<|ai @q41<|ai @ld2<|ai @q3c<|ai @z07<|ai @bn4 @Nat.add_zero
abbrev w_g165_5:=ai @wp<|ai @q0m<|ai @q0i<|ai @ge<|ai @q2y<|ai @q20<|ai @q21<|ai @q23<|ai @q41<|ai @ld2<|ai @q3c<|ai @Nat.zero_add @Nat.add_zero
abbrev w_f165:=ai @wp<|ai @q03<|ai @q0u<|ai @lcs<|ai @oms<|ai @Nat.zero_add<|ai @ift<|ai @ge<|ai @q2y<|ai @q20<|ai @q21<|ai @q23<|ai @q3c @z07
abbrev w_g166_0:=ai @wp<|ai @q79 @ld226
abbrev j80:=ai @wp<|ai @q03 @q0u
abbrev w_g166_2:=ai @wp<|ai @q6s<|ai @q3n @z6f
abbrev z8v:=ai @wp<|ai @q0t<|ai @q2h<|ai @q1x<|ai @q2c @q6s
abbrev j81:=ai @wp<|ai @q0t<|ai @q2h<|ai @q1x @q3n
abbrev w_g166_5:=ai @wp<|ai @q0t<|ai @q6s @q3n
abbrev z8w:=ai @wp<|ai @q0t<|ai @q2h<|ai @q1x<|ai @q2c @q6s
abbrev j82:=ai @wp<|ai @q0t<|ai @q2h<|ai @q1x @q3n
abbrev w_g166_8:=ai @wp<|ai @q0t<|ai @q6s @q3n
abbrev w_f166:=ai @wp<|ai @q03<|ai @q0u @ld226
abbrev w_g167_0:=ai @wp<|ai @ge<|ai @z0q<|ai @q41<|ai @q63<|ai @ld2<|ai @z4l<|ai @Nat.zero_add @Nat.add_zero
abbrev w_f167:=ai @wp<|ai @q2h<|ai @q1x<|ai @q41<|ai @z0q<|ai @ld2<|ai @q63<|ai @z4l<|ai @Nat.zero_add<|ai @Nat.add_zero @ge
abbrev w_f168:=ai @wp<|ai @q0t @q6s
abbrev j8h:=ai @wp<|ai @q0t<|ai @q0m<|ai @q0i<|ai @ge<|ai @q63 @ix212
abbrev w_g170_0:=ai @wp<|ai @lcs<|ai @oms<|ai @Nat.zero_add<|ai @ift<|ai @ge<|ai @q2y<|ai @q20<|ai @q21<|ai @q23<|ai @q3c<|ai @z07 @z0m
abbrev w_g170_1:=ai @wp<|ai @q03<|ai @q0u<|ai @q2c<|ai @lcs<|ai @oms<|ai @Nat.zero_add<|ai @ift<|ai @ge<|ai @q2y<|ai @q20<|ai @q21<|ai @q23<|ai @q3c @z07
abbrev w_g170_2:=ai @wp<|ai @lcs<|ai @oms<|ai @Nat.zero_add<|ai @ift<|ai @ge<|ai @q2y<|ai @q20<|ai @q21<|ai @q23<|ai @q3c<|ai @z07 @z0m
abbrev w_f170:=ai @wp<|ai @q2h<|ai @q1x<|ai @lcs<|ai @oms<|ai @Nat.zero_add<|ai @ift<|ai @ge<|ai @q2y<|ai @q20<|ai @q21<|ai @q23<|ai @q3c @z07
abbrev w_f171:=ai @aps<|ai @q0h<|ai @obs<|ai @ips @q3n
abbrev j83:=ai @wp<|ai @q0t<|ai @q2h @q1x
abbrev j84:=ai @wp<|ai @q0t<|ai @q2h @q1x
abbrev w_g172_2:=ai @wp<|ai @q0t<|ai @iv9<|ai @cv26_5 @cv5_3
abbrev w_f172:=ai @wp<|ai @q2h @q1x
end
end Go.Proofs.YtlginbmjiecglaaGreatDoor
