/- Functions as trees, printed by our own program (wip/tools/gen3.lean). -/
import Derived.Test.YtamooapjonlcdaaGreatT0
namespace Go.Proofs.YtamooapjonlcdaaGreat.T
open Go Go.Abs Go.Proofs.YtamooapjonlcdaaGreat
set_option maxRecDepth 10000
noncomputable def f99 : List AV → CM := apS fun a0 => ap0 <|
CM.al (some (.cells [] false, sB 1 0)) fun x0 =>
CM.pu (p1 nnA a0) fun x1 =>
CM.pu (p1 (fun a => fieldAddrA Tryz.prog 158 a 0) x1) fun x2 =>
CM.rm (q1 (loadA Tryz.prog 156) x2 ) fun x3 =>
CM.ef (apE 1 16 x0 x3) fun x4 =>
CM.ret x4
theorem f99_ok : LeD (real E Mk Nk) f99 (fun xs m => run E (.fn 99) xs m) := apS_le fun _ => ap0_le fun _ => run_eq 400 rfl (by kernel_rfl) (by kernel_rfl)
noncomputable def f100 : List AV → CM := apS fun a0 => ap0 <|
CM.al (some (.cells [] false, sB 4 0)) fun x0 =>
CM.pu (p1 nnA a0) fun x1 =>
CM.pu (p1 (fun a => fieldAddrA Tryz.prog 158 a 1) x1) fun x2 =>
CM.rm (q1 (loadA Tryz.prog 45) x2 ) fun x3 =>
CM.ef (apE 4 40 x0 x3) fun x4 =>
CM.ret x4
theorem f100_ok : LeD (real E Mk Nk) f100 (fun xs m => run E (.fn 100) xs m) := apS_le fun _ => ap0_le fun _ => run_eq 400 rfl (by kernel_rfl) (by kernel_rfl)
noncomputable def f101 : List AV → CM := apS fun a0 => apS fun a1 => ap0 <|
CM.rm (q1 (loadA Tryz.prog 78) a1 ) fun x0 =>
CM.memo fun m1 =>
CM.call 103 [x0] fun x2 =>
CM.rm (q1 (loadA Tryz.prog 78) a1 ) fun x4 =>
CM.chk (q1 (loadA Tryz.prog 78) a1 m1) x4 <|
CM.call 104 [x4] fun x6 =>
CM.call 102 [x2, x6, a0] fun _ =>
CM.ret .undef
theorem f101_ok : LeD (real E Mk Nk) f101 (fun xs m => run E (.fn 101) xs m) := apS_le fun _ => apS_le fun _ => ap0_le fun _ => run_eq 400 rfl (by kernel_rfl) (by kernel_rfl)
noncomputable def g102_0 : List AV → CM := apS fun t1 => apS fun t2 => apS fun t8 => apS fun t9 => apS fun t10 => ap0 <|
CM.pu (p2 (binA Tryz.prog .lss 3) t10 t9) fun x0 =>
CM.cond x0 (
CM.go 417793 [t1, t2, t8, t9, t10]) (
CM.ret .undef)
theorem g102_0_ok : LeD (real E Mk Nk) g102_0 (fun ts m => goR E Mk 417792 ts m) := apS_le fun _ => apS_le fun _ => apS_le fun _ => apS_le fun _ => apS_le fun _ => ap0_le fun _ => goR_eq 400 (by kernel_rfl)
noncomputable def g102_1 : List AV → CM := apS fun t1 => apS fun t2 => apS fun t8 => apS fun t9 => apS fun t10 => ap0 <|
CM.pu (p2 (indexAddrA Tryz.prog 156) t8 t10) fun x0 =>
CM.rm (q1 (loadA Tryz.prog 9) x0 ) fun x1 =>
CM.pu (p2 (indexAddrA Tryz.prog 46) t1 t10) fun x2 =>
CM.rm (q1 (loadA Tryz.prog 54) x2 ) fun x3 =>
CM.callv t2 [x1, x3] fun x4 =>
CM.pu (p1 (unA .not) x4) fun x5 =>
CM.cond x5 (
CM.ret .undef) (
CM.go 417794 [t1, t2, t8, t9, t10])
theorem g102_1_ok : LeD (real E Mk Nk) g102_1 (fun ts m => goR E Mk 417793 ts m) := apS_le fun _ => apS_le fun _ => apS_le fun _ => apS_le fun _ => apS_le fun _ => ap0_le fun _ => goR_eq 400 (by kernel_rfl)
noncomputable def g102_2 : List AV → CM := apS fun t1 => apS fun t2 => apS fun t8 => apS fun t9 => apS fun t10 => ap0 <|
CM.pu (p2 (binA Tryz.prog .add 3) t10 (.int .i64 1)) fun x0 =>
CM.go 417792 [t1, t2, t8, t9, x0]
theorem g102_2_ok : LeD (real E Mk Nk) g102_2 (fun ts m => goR E Mk 417794 ts m) := apS_le fun _ => apS_le fun _ => apS_le fun _ => apS_le fun _ => apS_le fun _ => ap0_le fun _ => goR_eq 400 (by kernel_rfl)
noncomputable def f102 : List AV → CM := apS fun a0 => apS fun a1 => apS fun a2 => ap0 <|
CM.pu (p1 (lenT Tryz.prog 156) a0) fun x0 =>
CM.go 417792 [a1, a2, a0, x0, (.int .i64 0)]
theorem f102_ok : LeD (real E Mk Nk) f102 (fun xs m => run E (.fn 102) xs m) := apS_le fun _ => apS_le fun _ => apS_le fun _ => ap0_le fun _ => run_eq 400 rfl (by kernel_rfl) (by kernel_rfl)
noncomputable def f103 : List AV → CM := apS fun a0 => ap0 <|
CM.al (some (.cells [] false, sB 1 0)) fun x0 =>
CM.pu (p1 nnA a0) fun x1 =>
CM.pu (p1 (fun a => fieldAddrA Tryz.prog 160 a 0) x1) fun x2 =>
CM.rm (q1 (loadA Tryz.prog 156) x2 ) fun x3 =>
CM.ef (apE 1 16 x0 x3) fun x4 =>
CM.ret x4
theorem f103_ok : LeD (real E Mk Nk) f103 (fun xs m => run E (.fn 103) xs m) := apS_le fun _ => ap0_le fun _ => run_eq 400 rfl (by kernel_rfl) (by kernel_rfl)
noncomputable def f104 : List AV → CM := apS fun a0 => ap0 <|
CM.al (some (.cells [] false, sB 9 0)) fun x0 =>
CM.pu (p1 nnA a0) fun x1 =>
CM.pu (p1 (fun a => fieldAddrA Tryz.prog 160 a 1) x1) fun x2 =>
CM.rm (q1 (loadA Tryz.prog 46) x2 ) fun x3 =>
CM.ef (apE 9 88 x0 x3) fun x4 =>
CM.ret x4
theorem f104_ok : LeD (real E Mk Nk) f104 (fun xs m => run E (.fn 104) xs m) := apS_le fun _ => ap0_le fun _ => run_eq 400 rfl (by kernel_rfl) (by kernel_rfl)
noncomputable def f105 : List AV → CM := apS fun a0 => apS fun a1 => ap0 <|
CM.rm (q1 (loadA Tryz.prog 79) a1 ) fun x0 =>
CM.memo fun m1 =>
CM.call 107 [x0] fun x2 =>
CM.rm (q1 (loadA Tryz.prog 79) a1 ) fun x4 =>
CM.chk (q1 (loadA Tryz.prog 79) a1 m1) x4 <|
CM.call 108 [x4] fun x6 =>
CM.call 106 [x2, x6, a0] fun _ =>
CM.ret .undef
theorem f105_ok : LeD (real E Mk Nk) f105 (fun xs m => run E (.fn 105) xs m) := apS_le fun _ => apS_le fun _ => ap0_le fun _ => run_eq 400 rfl (by kernel_rfl) (by kernel_rfl)
noncomputable def g106_0 : List AV → CM := apS fun t1 => apS fun t2 => apS fun t8 => apS fun t9 => apS fun t10 => ap0 <|
CM.pu (p2 (binA Tryz.prog .lss 3) t10 t9) fun x0 =>
CM.cond x0 (
CM.go 434177 [t1, t2, t8, t9, t10]) (
CM.ret .undef)
theorem g106_0_ok : LeD (real E Mk Nk) g106_0 (fun ts m => goR E Mk 434176 ts m) := apS_le fun _ => apS_le fun _ => apS_le fun _ => apS_le fun _ => apS_le fun _ => ap0_le fun _ => goR_eq 400 (by kernel_rfl)
noncomputable def g106_1 : List AV → CM := apS fun t1 => apS fun t2 => apS fun t8 => apS fun t9 => apS fun t10 => ap0 <|
CM.pu (p2 (indexAddrA Tryz.prog 142) t8 t10) fun x0 =>
CM.rm (q1 (loadA Tryz.prog 30) x0 ) fun x1 =>
CM.pu (p2 (indexAddrA Tryz.prog 47) t1 t10) fun x2 =>
CM.rm (q1 (loadA Tryz.prog 91) x2 ) fun x3 =>
CM.callv t2 [x1, x3] fun x4 =>
CM.pu (p1 (unA .not) x4) fun x5 =>
CM.cond x5 (
CM.ret .undef) (
CM.go 434178 [t1, t2, t8, t9, t10])
theorem g106_1_ok : LeD (real E Mk Nk) g106_1 (fun ts m => goR E Mk 434177 ts m) := apS_le fun _ => apS_le fun _ => apS_le fun _ => apS_le fun _ => apS_le fun _ => ap0_le fun _ => goR_eq 400 (by kernel_rfl)
noncomputable def g106_2 : List AV → CM := apS fun t1 => apS fun t2 => apS fun t8 => apS fun t9 => apS fun t10 => ap0 <|
CM.pu (p2 (binA Tryz.prog .add 3) t10 (.int .i64 1)) fun x0 =>
CM.go 434176 [t1, t2, t8, t9, x0]
theorem g106_2_ok : LeD (real E Mk Nk) g106_2 (fun ts m => goR E Mk 434178 ts m) := apS_le fun _ => apS_le fun _ => apS_le fun _ => apS_le fun _ => apS_le fun _ => ap0_le fun _ => goR_eq 400 (by kernel_rfl)
noncomputable def f106 : List AV → CM := apS fun a0 => apS fun a1 => apS fun a2 => ap0 <|
CM.pu (p1 (lenT Tryz.prog 142) a0) fun x0 =>
CM.go 434176 [a1, a2, a0, x0, (.int .i64 0)]
theorem f106_ok : LeD (real E Mk Nk) f106 (fun xs m => run E (.fn 106) xs m) := apS_le fun _ => apS_le fun _ => apS_le fun _ => ap0_le fun _ => run_eq 400 rfl (by kernel_rfl) (by kernel_rfl)
noncomputable def f107 : List AV → CM := apS fun a0 => ap0 <|
CM.al (some (.cells [] false, sB 1 0)) fun x0 =>
CM.pu (p1 nnA a0) fun x1 =>
CM.pu (p1 (fun a => fieldAddrA Tryz.prog 162 a 0) x1) fun x2 =>
CM.rm (q1 (loadA Tryz.prog 142) x2 ) fun x3 =>
CM.ef (apE 1 8 x0 x3) fun x4 =>
CM.ret x4
theorem f107_ok : LeD (real E Mk Nk) f107 (fun xs m => run E (.fn 107) xs m) := apS_le fun _ => ap0_le fun _ => run_eq 400 rfl (by kernel_rfl) (by kernel_rfl)
noncomputable def f108 : List AV → CM := apS fun a0 => ap0 <|
CM.al (some (.cells [] false, sB 4 0)) fun x0 =>
CM.pu (p1 nnA a0) fun x1 =>
CM.pu (p1 (fun a => fieldAddrA Tryz.prog 162 a 1) x1) fun x2 =>
CM.rm (q1 (loadA Tryz.prog 47) x2 ) fun x3 =>
CM.ef (apE 4 40 x0 x3) fun x4 =>
CM.ret x4
theorem f108_ok : LeD (real E Mk Nk) f108 (fun xs m => run E (.fn 108) xs m) := apS_le fun _ => ap0_le fun _ => run_eq 400 rfl (by kernel_rfl) (by kernel_rfl)
noncomputable def g110_0 : List AV → CM := apS fun t1 => apS fun t8 => apS fun t9 => apS fun t10 => ap0 <|
CM.pu (p2 (binA Tryz.prog .lss 3) t10 t9) fun x0 =>
CM.cond x0 (
CM.go 450561 [t1, t8, t9, t10]) (
CM.go 450563 [])
theorem g110_0_ok : LeD (real E Mk Nk) g110_0 (fun ts m => goR E Mk 450560 ts m) := apS_le fun _ => apS_le fun _ => apS_le fun _ => apS_le fun _ => ap0_le fun _ => goR_eq 400 (by kernel_rfl)
noncomputable def g110_1 : List AV → CM := apS fun t1 => apS fun t8 => apS fun t9 => apS fun t10 => ap0 <|
CM.pu (p2 (indexAddrA Tryz.prog 45) t8 t10) fun x0 =>
CM.rm (q1 (loadA Tryz.prog 85) x0 ) fun x1 =>
CM.al (some (.cells [(.str []), (.int .i64 0), (.int .i64 0), (.int .u64 0)] false, pB)) fun x2 =>
CM.st (fun m => stV m x2 x1 4) <|
CM.pu (p1 (fun a => fieldAddrA Tryz.prog 85 a 0) x2) fun x4 =>
CM.rm (q1 (loadA Tryz.prog 9) x4 ) fun x5 =>
CM.pu (p2 (binA Tryz.prog .eql 9) x5 t1) fun x6 =>
CM.cond x6 (
CM.ret (.bool true)) (
CM.go 450562 [t1, t8, t9, t10])
theorem g110_1_ok : LeD (real E Mk Nk) g110_1 (fun ts m => goR E Mk 450561 ts m) := apS_le fun _ => apS_le fun _ => apS_le fun _ => apS_le fun _ => ap0_le fun _ => goR_eq 400 (by kernel_rfl)
noncomputable def g110_2 : List AV → CM := apS fun t1 => apS fun t8 => apS fun t9 => apS fun t10 => ap0 <|
CM.pu (p2 (binA Tryz.prog .add 3) t10 (.int .i64 1)) fun x0 =>
CM.go 450560 [t1, t8, t9, x0]
theorem g110_2_ok : LeD (real E Mk Nk) g110_2 (fun ts m => goR E Mk 450562 ts m) := apS_le fun _ => apS_le fun _ => apS_le fun _ => apS_le fun _ => ap0_le fun _ => goR_eq 400 (by kernel_rfl)
noncomputable def g110_3 : List AV → CM := ap0 <|
CM.ret (.bool false)
theorem g110_3_ok : LeD (real E Mk Nk) g110_3 (fun ts m => goR E Mk 450563 ts m) := ap0_le fun _ => goR_eq 400 (by kernel_rfl)
noncomputable def f110 : List AV → CM := apS fun a0 => apS fun a1 => ap0 <|
CM.al (boxA a0) fun x0 =>
CM.pu (p1 (fun a => fieldAddrA Tryz.prog 49 a 0) x0) fun x1 =>
CM.rm (q1 (loadA Tryz.prog 45) x1 ) fun x2 =>
CM.pu (p1 (lenT Tryz.prog 45) x2) fun x3 =>
CM.go 450560 [a1, x2, x3, (.int .i64 0)]
theorem f110_ok : LeD (real E Mk Nk) f110 (fun xs m => run E (.fn 110) xs m) := apS_le fun _ => apS_le fun _ => ap0_le fun _ => run_eq 400 rfl (by kernel_rfl) (by kernel_rfl)
noncomputable def g111_0 : List AV → CM := apS fun t0 => apS fun t3 => ap0 <|
CM.pu (p1 nnA t0) fun x0 =>
CM.pu (p1 (fun a => fieldAddrA Tryz.prog 196 a 0) x0) fun x1 =>
CM.rm (q1 (loadA Tryz.prog 35) x1 ) fun x2 =>
CM.pu (p1 (fun a => fieldAddrA Tryz.prog 35 a 0) t3) fun x3 =>
CM.rm (q1 (loadA Tryz.prog 2) x3 ) fun x4 =>
CM.call 43 [x4] fun x6 =>
CM.memo fun m7 =>
CM.chk (q1 (loadA Tryz.prog 35) x1 m7) x2 <|
CM.call 84 [x2, x6] fun x9 =>
CM.pu (p1 (fun a => extractA a 0) x9) fun x11 =>
CM.pu (p1 (fun a => extractA a 1) x9) fun _ =>
CM.pu (p1 nnA t0) fun x13 =>
CM.pu (p1 (fun a => fieldAddrA Tryz.prog 196 a 0) x13) fun x14 =>
CM.st (fun m => stV m x14 x11 2) <|
CM.ret .undef
theorem g111_0_ok : LeD (real E Mk Nk) g111_0 (fun ts m => goR E Mk 454656 ts m) := apS_le fun _ => apS_le fun _ => ap0_le fun _ => goR_eq 400 (by kernel_rfl)
noncomputable def f111 : List AV → CM := apS fun a0 => apS fun a1 => ap0 <|
CM.al (boxA a1) fun x0 =>
CM.pu (p1 nnA a0) fun x1 =>
CM.pu (p1 (fun a => fieldAddrA Tryz.prog 196 a 1) x1) fun x2 =>
CM.rm (q1 (loadA Tryz.prog 30) x2 ) fun x3 =>
CM.pu (p1 (fun a => fieldAddrA Tryz.prog 35 a 1) x0) fun x4 =>
CM.rm (q1 (loadA Tryz.prog 30) x4 ) fun x5 =>
CM.pu (p2 (binA Tryz.prog .add 30) x3 x5) fun x6 =>
CM.pu (p1 nnA a0) fun x7 =>
CM.pu (p1 (fun a => fieldAddrA Tryz.prog 196 a 1) x7) fun x8 =>
CM.st (fun m => stV m x8 x6 1) <|
CM.pu (p1 nnA a0) fun x12 =>
CM.pu (p1 (fun a => fieldAddrA Tryz.prog 196 a 1) x12) fun x13 =>
CM.rm (q1 (loadA Tryz.prog 30) x13 ) fun x14 =>
CM.pu (p1 (fun a => fieldAddrA Tryz.prog 35 a 1) x0) fun x15 =>
CM.rm (q1 (loadA Tryz.prog 30) x15 ) fun x16 =>
CM.pu (p2 (binA Tryz.prog .lss 30) x14 x16) fun x17 =>
CM.cond x17 (
CM.pu (p1 nnA a0) fun x18 =>
CM.pu (p1 (fun a => fieldAddrA Tryz.prog 196 a 0) x18) fun x19 =>
CM.rm (q1 (loadA Tryz.prog 35) x19 ) fun x20 =>
CM.call 43 [(.int .i64 1)] fun x22 =>
CM.memo fun m23 =>
CM.chk (q1 (loadA Tryz.prog 35) x19 m23) x20 <|
CM.call 84 [x20, x22] fun x25 =>
CM.pu (p1 (fun a => extractA a 0) x25) fun x27 =>
CM.pu (p1 (fun a => extractA a 1) x25) fun _ =>
CM.pu (p1 nnA a0) fun x29 =>
CM.pu (p1 (fun a => fieldAddrA Tryz.prog 196 a 0) x29) fun x30 =>
CM.st (fun m => stV m x30 x27 2) <|
CM.go 454656 [a0, x0]) (
CM.go 454656 [a0, x0])
theorem f111_ok : LeD (real E Mk Nk) f111 (fun xs m => run E (.fn 111) xs m) := apS_le fun _ => apS_le fun _ => ap0_le fun _ => run_eq 400 rfl (by kernel_rfl) (by kernel_rfl)
noncomputable def f112 : List AV → CM := apS fun a0 => ap0 <|
CM.pu (p1 nnA a0) fun x0 =>
CM.pu (p1 (fun a => fieldAddrA Tryz.prog 196 a 1) x0) fun x1 =>
CM.rm (q1 (loadA Tryz.prog 30) x1 ) fun x2 =>
CM.pu (p2 (binA Tryz.prog .eql 30) x2 (.int .u64 0)) fun x3 =>
CM.ifv x3 (
CM.pu (p1 nnA a0) fun x4 =>
CM.pu (p1 (fun a => fieldAddrA Tryz.prog 196 a 0) x4) fun x5 =>
CM.rm (q1 (loadA Tryz.prog 35) x5 ) fun x6 =>
CM.call 83 [x6] fun x7 =>
CM.pu (p2 (binA Tryz.prog .eql 3) x7 (.int .i64 0)) fun x8 =>
CM.ret x8) (
CM.ret (.bool false))
theorem f112_ok : LeD (real E Mk Nk) f112 (fun xs m => run E (.fn 112) xs m) := apS_le fun _ => ap0_le fun _ => run_eq 400 rfl (by kernel_rfl) (by kernel_rfl)
noncomputable def f113 : List AV → CM := apS fun a0 => apS fun a1 => apS fun a2 => ap0 <|
CM.pu (p2 (binA Tryz.prog .geq 3) a0 a1) fun x0 =>
CM.ifv x0 (
CM.pu (p2 (binA Tryz.prog .leq 3) a0 a2) fun x1 =>
CM.ret x1) (
CM.ret (.bool false))
theorem f113_ok : LeD (real E Mk Nk) f113 (fun xs m => run E (.fn 113) xs m) := apS_le fun _ => apS_le fun _ => apS_le fun _ => ap0_le fun _ => run_eq 400 rfl (by kernel_rfl) (by kernel_rfl)
noncomputable def f114 : List AV → CM := apS fun a0 => ap0 <|
CM.pu (p2 (binA Tryz.prog .geq 30) a0 (.int .u64 1)) fun x0 =>
CM.ifv x0 (
CM.pu (p2 (binA Tryz.prog .leq 30) a0 (.int .u64 72057594037927935)) fun x1 =>
CM.ret x1) (
CM.ret (.bool false))
theorem f114_ok : LeD (real E Mk Nk) f114 (fun xs m => run E (.fn 114) xs m) := apS_le fun _ => ap0_le fun _ => run_eq 400 rfl (by kernel_rfl) (by kernel_rfl)
noncomputable def g115_0 : List AV → CM := apS fun t0 => ap0 <|
CM.pu (p1 (buildA Tryz.prog 250) [(2, t0)]) fun x0 =>
CM.al (boxA x0) fun x1 =>
CM.ret (.tup [x1, (.int .i64 0)])
theorem g115_0_ok : LeD (real E Mk Nk) g115_0 (fun ts m => goR E Mk 471040 ts m) := apS_le fun _ => ap0_le fun _ => goR_eq 400 (by kernel_rfl)
noncomputable def f115 : List AV → CM := apS fun a0 => ap0 <|
CM.pu (p2 (binA Tryz.prog .lss 3) a0 (.int .i64 1)) fun x0 =>
CM.ifv x0 (
CM.ret (.tup [(.ptr none), (.int .i64 1)])) (
CM.pu (p2 (binA Tryz.prog .gtr 3) a0 (.int .i64 4096)) fun x1 =>
CM.cond x1 (
CM.ret (.tup [(.ptr none), (.int .i64 1)])) (
CM.go 471040 [a0]))
theorem f115_ok : LeD (real E Mk Nk) f115 (fun xs m => run E (.fn 115) xs m) := apS_le fun _ => ap0_le fun _ => run_eq 400 rfl (by kernel_rfl) (by kernel_rfl)
noncomputable def f116 : List AV → CM := apS fun a0 => ap0 <|
CM.al (boxA a0) fun x0 =>
CM.ret (.fn (.func 154) [] [x0])
theorem f116_ok : LeD (real E Mk Nk) f116 (fun xs m => run E (.fn 116) xs m) := apS_le fun _ => ap0_le fun _ => run_eq 400 rfl (by kernel_rfl) (by kernel_rfl)
noncomputable def g117_0 : List AV → CM := apS fun t6 => ap0 <|
CM.ret t6
theorem g117_0_ok : LeD (real E Mk Nk) g117_0 (fun ts m => goR E Mk 479232 ts m) := apS_le fun _ => ap0_le fun _ => goR_eq 400 (by kernel_rfl)
noncomputable def f117 : List AV → CM := apS fun a0 => apS fun a1 => ap0 <|
CM.pu (p1 nnA a0) fun x0 =>
CM.pu (p1 (fun a => fieldAddrA Tryz.prog 250 a 0) x0) fun x1 =>
CM.rm (q1 (loadA Tryz.prog 142) x1 ) fun x2 =>
CM.call 79 [x2, a1] fun x3 =>
CM.pu (p1 (fun a => extractA a 0) x3) fun x4 =>
CM.pu (p1 (fun a => extractA a 1) x3) fun x5 =>
CM.cond x5 (
CM.pu (p1 nnA a0) fun x6 =>
CM.pu (p1 (fun a => fieldAddrA Tryz.prog 250 a 0) x6) fun x7 =>
CM.rm (q1 (loadA Tryz.prog 142) x7 ) fun x8 =>
CM.pu (p2 (binA Tryz.prog .add 3) x4 (.int .i64 1)) fun x9 =>
CM.call 158 [x8, x4, x9] fun x10 =>
CM.pu (p1 nnA a0) fun x11 =>
CM.pu (p1 (fun a => fieldAddrA Tryz.prog 250 a 0) x11) fun x12 =>
CM.st (fun m => stV m x12 x10 1) <|
CM.pu (p1 nnA a0) fun x14 =>
CM.pu (p1 (fun a => fieldAddrA Tryz.prog 250 a 1) x14) fun x15 =>
CM.rm (q1 (loadA Tryz.prog 75) x15 ) fun x16 =>
CM.pu (p2 (binA Tryz.prog .add 3) x4 (.int .i64 1)) fun x17 =>
CM.call 159 [x16, x4, x17] fun x18 =>
CM.pu (p1 nnA a0) fun x19 =>
CM.pu (p1 (fun a => fieldAddrA Tryz.prog 250 a 1) x19) fun x20 =>
CM.st (fun m => stV m x20 x18 1) <|
CM.go 479232 [x5]) (
CM.go 479232 [x5])
theorem f117_ok : LeD (real E Mk Nk) f117 (fun xs m => run E (.fn 117) xs m) := apS_le fun _ => apS_le fun _ => ap0_le fun _ => run_eq 400 rfl (by kernel_rfl) (by kernel_rfl)
noncomputable def f118 : List AV → CM := apS fun a0 => ap0 <|
CM.al (some (.cells [] false, sB 1 0)) fun x0 =>
CM.ef (apE 1 1 x0 a0) fun x1 =>
CM.pu (p1 (buildA Tryz.prog 255) [(0, x1)]) fun x2 =>
CM.al (boxA x2) fun x3 =>
CM.ret x3
theorem f118_ok : LeD (real E Mk Nk) f118 (fun xs m => run E (.fn 118) xs m) := apS_le fun _ => ap0_le fun _ => run_eq 400 rfl (by kernel_rfl) (by kernel_rfl)
noncomputable def g119_0 : List AV → CM := apS fun t0 => ap0 <|
CM.pu (p1 nnA t0) fun x0 =>
CM.pu (p1 (fun a => fieldAddrA Tryz.prog 255 a 1) x0) fun x1 =>
CM.rm (q1 (loadA Tryz.prog 3) x1 ) fun x2 =>
CM.pu (p2 (binA Tryz.prog .add 3) x2 (.int .i64 1)) fun x3 =>
CM.pu (p1 nnA t0) fun x4 =>
CM.pu (p1 (fun a => fieldAddrA Tryz.prog 255 a 1) x4) fun x5 =>
CM.st (fun m => stV m x5 x3 1) <|
CM.pu (p1 nnA t0) fun x7 =>
CM.pu (p1 (fun a => fieldAddrA Tryz.prog 255 a 0) x7) fun x8 =>
CM.rm (q1 (loadA Tryz.prog 68) x8 ) fun x9 =>
CM.pu (p1 nnA t0) fun x10 =>
CM.pu (p1 (fun a => fieldAddrA Tryz.prog 255 a 1) x10) fun x11 =>
CM.rm (q1 (loadA Tryz.prog 3) x11 ) fun x12 =>
CM.pu (p2 (binA Tryz.prog .sub 3) x12 (.int .i64 1)) fun x13 =>
CM.pu (p2 (indexAddrA Tryz.prog 68) x9 x13) fun x14 =>
CM.rm (q1 (loadA Tryz.prog 5) x14 ) fun x15 =>
CM.ret x15
theorem g119_0_ok : LeD (real E Mk Nk) g119_0 (fun ts m => goR E Mk 487424 ts m) := apS_le fun _ => ap0_le fun _ => goR_eq 400 (by kernel_rfl)
noncomputable def f119 : List AV → CM := apS fun a0 => apS fun a1 => ap0 <|
CM.pu (p1 nnA a0) fun x0 =>
CM.pu (p1 (fun a => fieldAddrA Tryz.prog 255 a 2) x0) fun x1 =>
CM.rm (q1 (loadA Tryz.prog 25) x1 ) fun x2 =>
CM.pu (p2 (binA Tryz.prog .neq 25) x2 (.int .i64 0)) fun x3 =>
CM.cond x3 (
CM.ret (.int .u8 0)) (
CM.pu (p1 nnA a0) fun x4 =>
CM.pu (p1 (fun a => fieldAddrA Tryz.prog 255 a 1) x4) fun x5 =>
CM.rm (q1 (loadA Tryz.prog 3) x5 ) fun x6 =>
CM.pu (p1 nnA a0) fun x7 =>
CM.pu (p1 (fun a => fieldAddrA Tryz.prog 255 a 0) x7) fun x8 =>
CM.rm (q1 (loadA Tryz.prog 68) x8 ) fun x9 =>
CM.pu (p1 (lenT Tryz.prog 68) x9) fun x10 =>
CM.pu (p2 (binA Tryz.prog .geq 3) x6 x10) fun x11 =>
CM.cond x11 (
CM.call 160 [a0, (.int .i64 10)] fun _ =>
CM.ret (.int .u8 0)) (
CM.pu (p1 nnA a0) fun x13 =>
CM.pu (p1 (fun a => fieldAddrA Tryz.prog 255 a 0) x13) fun x14 =>
CM.rm (q1 (loadA Tryz.prog 68) x14 ) fun x15 =>
CM.pu (p1 nnA a0) fun x16 =>
CM.pu (p1 (fun a => fieldAddrA Tryz.prog 255 a 1) x16) fun x17 =>
CM.rm (q1 (loadA Tryz.prog 3) x17 ) fun x18 =>
CM.pu (p2 (indexAddrA Tryz.prog 68) x15 x18) fun x19 =>
CM.rm (q1 (loadA Tryz.prog 5) x19 ) fun x20 =>
CM.pu (p2 (binA Tryz.prog .gtr 5) x20 a1) fun x21 =>
CM.cond x21 (
CM.call 160 [a0, (.int .i64 12)] fun _ =>
CM.ret (.int .u8 0)) (
CM.go 487424 [a0])))
theorem f119_ok : LeD (real E Mk Nk) f119 (fun xs m => run E (.fn 119) xs m) := apS_le fun _ => apS_le fun _ => ap0_le fun _ => run_eq 400 rfl (by kernel_rfl) (by kernel_rfl)
noncomputable def g120_0 : List AV → CM := apS fun t3 => apS fun t4 => ap0 <|
CM.pu (p2 (binA Tryz.prog .eql 3) t4 (.int .i64 4)) fun x0 =>
CM.cond x0 (
CM.cond x0 (
CM.go 491528 [t3]) (
CM.go 491521 [t3, t4])) (
CM.pu (p2 (binA Tryz.prog .eql 3) t4 (.int .i64 5)) fun x1 =>
CM.cond x1 (
CM.go 491528 [t3]) (
CM.go 491521 [t3, t4]))
theorem g120_0_ok : LeD (real E Mk Nk) g120_0 (fun ts m => goR E Mk 491520 ts m) := apS_le fun _ => apS_le fun _ => ap0_le fun _ => goR_eq 400 (by kernel_rfl)
noncomputable def g120_1 : List AV → CM := apS fun t3 => apS fun t4 => ap0 <|
CM.pu (p2 (binA Tryz.prog .eql 3) t4 (.int .i64 9)) fun x0 =>
CM.cond x0 (
CM.go 491529 [t3]) (
CM.go 491522 [t3, t4])
theorem g120_1_ok : LeD (real E Mk Nk) g120_1 (fun ts m => goR E Mk 491521 ts m) := apS_le fun _ => apS_le fun _ => ap0_le fun _ => goR_eq 400 (by kernel_rfl)
noncomputable def g120_2 : List AV → CM := apS fun t3 => apS fun t4 => ap0 <|
CM.pu (p2 (binA Tryz.prog .eql 3) t4 (.int .i64 7)) fun x0 =>
CM.cond x0 (
CM.go 491530 [t3]) (
CM.go 491523 [t3, t4])
theorem g120_2_ok : LeD (real E Mk Nk) g120_2 (fun ts m => goR E Mk 491522 ts m) := apS_le fun _ => apS_le fun _ => ap0_le fun _ => goR_eq 400 (by kernel_rfl)
noncomputable def g120_3 : List AV → CM := apS fun t3 => apS fun t4 => ap0 <|
CM.pu (p2 (binA Tryz.prog .eql 3) t4 (.int .i64 11)) fun x0 =>
CM.cond x0 (
CM.go 491531 [t3]) (
CM.go 491524 [t3, t4])
theorem g120_3_ok : LeD (real E Mk Nk) g120_3 (fun ts m => goR E Mk 491523 ts m) := apS_le fun _ => apS_le fun _ => ap0_le fun _ => goR_eq 400 (by kernel_rfl)
noncomputable def g120_4 : List AV → CM := apS fun t3 => apS fun t4 => ap0 <|
CM.pu (p2 (binA Tryz.prog .eql 3) t4 (.int .i64 3)) fun x0 =>
CM.cond x0 (
CM.cond x0 (
CM.go 491532 [t3]) (
CM.go 491525 [t3, t4])) (
CM.pu (p2 (binA Tryz.prog .eql 3) t4 (.int .i64 10)) fun x1 =>
CM.cond x1 (
CM.go 491532 [t3]) (
CM.go 491525 [t3, t4]))
theorem g120_4_ok : LeD (real E Mk Nk) g120_4 (fun ts m => goR E Mk 491524 ts m) := apS_le fun _ => apS_le fun _ => ap0_le fun _ => goR_eq 400 (by kernel_rfl)
noncomputable def g120_5 : List AV → CM := apS fun t3 => apS fun t4 => ap0 <|
CM.pu (p2 (binA Tryz.prog .eql 3) t4 (.int .i64 1)) fun x0 =>
CM.cond x0 (
CM.go 491533 [t3]) (
CM.go 491526 [t3, t4])
theorem g120_5_ok : LeD (real E Mk Nk) g120_5 (fun ts m => goR E Mk 491525 ts m) := apS_le fun _ => apS_le fun _ => ap0_le fun _ => goR_eq 400 (by kernel_rfl)
noncomputable def g120_6 : List AV → CM := apS fun t3 => apS fun t4 => ap0 <|
CM.pu (p2 (binA Tryz.prog .eql 3) t4 (.int .i64 2)) fun x0 =>
CM.cond x0 (
CM.go 491534 [t3]) (
CM.go 491535 [t3])
theorem g120_6_ok : LeD (real E Mk Nk) g120_6 (fun ts m => goR E Mk 491526 ts m) := apS_le fun _ => apS_le fun _ => ap0_le fun _ => goR_eq 400 (by kernel_rfl)
noncomputable def g120_7 : List AV → CM := apS fun t3 => ap0 <|
CM.pu (p2 (binA Tryz.prog .or 3) t3 (.int .i64 8)) fun x0 =>
CM.go 491528 [x0]
theorem g120_7_ok : LeD (real E Mk Nk) g120_7 (fun ts m => goR E Mk 491527 ts m) := apS_le fun _ => ap0_le fun _ => goR_eq 400 (by kernel_rfl)
noncomputable def g120_8 : List AV → CM := apS fun t3 => ap0 <|
CM.pu (p2 (binA Tryz.prog .or 3) t3 (.int .i64 16)) fun x0 =>
CM.go 491529 [x0]
theorem g120_8_ok : LeD (real E Mk Nk) g120_8 (fun ts m => goR E Mk 491528 ts m) := apS_le fun _ => ap0_le fun _ => goR_eq 400 (by kernel_rfl)
noncomputable def g120_9 : List AV → CM := apS fun t3 => ap0 <|
CM.pu (p2 (binA Tryz.prog .or 3) t3 (.int .i64 7)) fun x0 =>
CM.go 491535 [x0]
theorem g120_9_ok : LeD (real E Mk Nk) g120_9 (fun ts m => goR E Mk 491529 ts m) := apS_le fun _ => ap0_le fun _ => goR_eq 400 (by kernel_rfl)
noncomputable def g120_10 : List AV → CM := apS fun t3 => ap0 <|
CM.pu (p2 (binA Tryz.prog .or 3) t3 (.int .i64 16)) fun x0 =>
CM.go 491531 [x0]
theorem g120_10_ok : LeD (real E Mk Nk) g120_10 (fun ts m => goR E Mk 491530 ts m) := apS_le fun _ => ap0_le fun _ => goR_eq 400 (by kernel_rfl)
noncomputable def g120_11 : List AV → CM := apS fun t3 => ap0 <|
CM.pu (p2 (binA Tryz.prog .or 3) t3 (.int .i64 64)) fun x0 =>
CM.go 491532 [x0]
theorem g120_11_ok : LeD (real E Mk Nk) g120_11 (fun ts m => goR E Mk 491531 ts m) := apS_le fun _ => ap0_le fun _ => goR_eq 400 (by kernel_rfl)
noncomputable def g120_12 : List AV → CM := apS fun t3 => ap0 <|
CM.pu (p2 (binA Tryz.prog .or 3) t3 (.int .i64 34)) fun x0 =>
CM.go 491533 [x0]
theorem g120_12_ok : LeD (real E Mk Nk) g120_12 (fun ts m => goR E Mk 491532 ts m) := apS_le fun _ => ap0_le fun _ => goR_eq 400 (by kernel_rfl)
noncomputable def g120_13 : List AV → CM := apS fun t3 => ap0 <|
CM.pu (p2 (binA Tryz.prog .or 3) t3 (.int .i64 1)) fun x0 =>
CM.go 491535 [x0]
theorem g120_13_ok : LeD (real E Mk Nk) g120_13 (fun ts m => goR E Mk 491533 ts m) := apS_le fun _ => ap0_le fun _ => goR_eq 400 (by kernel_rfl)
noncomputable def g120_14 : List AV → CM := apS fun t3 => ap0 <|
CM.pu (p2 (binA Tryz.prog .or 3) t3 (.int .i64 39)) fun x0 =>
CM.go 491535 [x0]
theorem g120_14_ok : LeD (real E Mk Nk) g120_14 (fun ts m => goR E Mk 491534 ts m) := apS_le fun _ => ap0_le fun _ => goR_eq 400 (by kernel_rfl)
noncomputable def g120_15 : List AV → CM := apS fun t3 => ap0 <|
CM.ret t3
theorem g120_15_ok : LeD (real E Mk Nk) g120_15 (fun ts m => goR E Mk 491535 ts m) := apS_le fun _ => ap0_le fun _ => goR_eq 400 (by kernel_rfl)
noncomputable def f120 : List AV → CM := apS fun a0 => ap0 <|
CM.pu (p2 (binA Tryz.prog .eql 3) a0 (.int .i64 6)) fun x0 =>
CM.cond x0 (
CM.cond x0 (
CM.go 491527 [(.int .i64 0)]) (
CM.go 491520 [(.int .i64 0), a0])) (
CM.pu (p2 (binA Tryz.prog .eql 3) a0 (.int .i64 8)) fun x1 =>
CM.cond x1 (
CM.go 491527 [(.int .i64 0)]) (
CM.go 491520 [(.int .i64 0), a0]))
theorem f120_ok : LeD (real E Mk Nk) f120 (fun xs m => run E (.fn 120) xs m) := apS_le fun _ => ap0_le fun _ => run_eq 400 rfl (by kernel_rfl) (by kernel_rfl)
noncomputable def f121 : List AV → CM := apS fun a0 => apS fun a1 => apS fun a2 => ap0 <|
CM.pu (p2 (binA Tryz.prog .eql 3) a2 (.int .i64 1)) fun x0 =>
CM.cond x0 (
CM.call 161 [a0, (.int .u64 72057594037927935)] fun x1 =>
CM.pu (p1 nnA a1) fun x2 =>
CM.pu (p1 (fun a => fieldAddrA Tryz.prog 73 a 1) x2) fun x3 =>
CM.st (fun m => stV m x3 x1 1) <|
CM.ret .undef) (
CM.pu (p2 (binA Tryz.prog .eql 3) a2 (.int .i64 2)) fun x5 =>
CM.cond x5 (
CM.call 161 [a0, (.int .u64 72057594037927935)] fun x6 =>
CM.pu (p1 nnA a1) fun x7 =>
CM.pu (p1 (fun a => fieldAddrA Tryz.prog 73 a 2) x7) fun x8 =>
CM.st (fun m => stV m x8 x6 1) <|
CM.ret .undef) (
CM.pu (p2 (binA Tryz.prog .eql 3) a2 (.int .i64 4)) fun x10 =>
CM.cond x10 (
CM.call 161 [a0, (.int .u64 18446744073709551615)] fun x11 =>
CM.pu (p1 nnA a1) fun x12 =>
CM.pu (p1 (fun a => fieldAddrA Tryz.prog 73 a 3) x12) fun x13 =>
CM.st (fun m => stV m x13 x11 1) <|
CM.ret .undef) (
CM.pu (p2 (binA Tryz.prog .eql 3) a2 (.int .i64 8)) fun x15 =>
CM.cond x15 (
CM.call 161 [a0, (.int .u64 18446744073709551615)] fun x16 =>
CM.pu (p1 nnA a1) fun x17 =>
CM.pu (p1 (fun a => fieldAddrA Tryz.prog 73 a 4) x17) fun x18 =>
CM.st (fun m => stV m x18 x16 1) <|
CM.ret .undef) (
CM.pu (p2 (binA Tryz.prog .eql 3) a2 (.int .i64 16)) fun x20 =>
CM.cond x20 (
CM.call 162 [a0] fun x21 =>
CM.pu (p1 nnA a1) fun x22 =>
CM.pu (p1 (fun a => fieldAddrA Tryz.prog 73 a 5) x22) fun x23 =>
CM.st (fun m => stV m x23 x21 3) <|
CM.ret .undef) (
CM.pu (p2 (binA Tryz.prog .eql 3) a2 (.int .i64 32)) fun x25 =>
CM.cond x25 (
CM.call 163 [a0] fun x26 =>
CM.pu (p1 nnA a1) fun x27 =>
CM.pu (p1 (fun a => fieldAddrA Tryz.prog 73 a 6) x27) fun x28 =>
CM.st (fun m => stV m x28 x26 1) <|
CM.ret .undef) (
CM.pu (p2 (binA Tryz.prog .eql 3) a2 (.int .i64 64)) fun x30 =>
CM.cond x30 (
CM.call 163 [a0] fun x31 =>
CM.pu (p1 nnA a1) fun x32 =>
CM.pu (p1 (fun a => fieldAddrA Tryz.prog 73 a 7) x32) fun x33 =>
CM.st (fun m => stV m x33 x31 1) <|
CM.ret .undef) (
CM.ret .undef)))))))
theorem f121_ok : LeD (real E Mk Nk) f121 (fun xs m => run E (.fn 121) xs m) := apS_le fun _ => apS_le fun _ => apS_le fun _ => ap0_le fun _ => run_eq 400 rfl (by kernel_rfl) (by kernel_rfl)
noncomputable def g122_0 : List AV → CM := apS fun t0 => ap0 <|
CM.pu (p1 nnA t0) fun x0 =>
CM.pu (p1 (fun a => fieldAddrA Tryz.prog 255 a 2) x0) fun x1 =>
CM.rm (q1 (loadA Tryz.prog 25) x1 ) fun x2 =>
CM.ret x2
theorem g122_0_ok : LeD (real E Mk Nk) g122_0 (fun ts m => goR E Mk 499712 ts m) := apS_le fun _ => ap0_le fun _ => goR_eq 400 (by kernel_rfl)
noncomputable def f122 : List AV → CM := apS fun a0 => ap0 <|
CM.pu (p1 nnA a0) fun x0 =>
CM.pu (p1 (fun a => fieldAddrA Tryz.prog 255 a 2) x0) fun x1 =>
CM.rm (q1 (loadA Tryz.prog 25) x1 ) fun x2 =>
CM.pu (p2 (binA Tryz.prog .eql 25) x2 (.int .i64 0)) fun x3 =>
CM.ifv x3 (
CM.pu (p1 nnA a0) fun x4 =>
CM.pu (p1 (fun a => fieldAddrA Tryz.prog 255 a 1) x4) fun x5 =>
CM.rm (q1 (loadA Tryz.prog 3) x5 ) fun x6 =>
CM.pu (p1 nnA a0) fun x7 =>
CM.pu (p1 (fun a => fieldAddrA Tryz.prog 255 a 0) x7) fun x8 =>
CM.rm (q1 (loadA Tryz.prog 68) x8 ) fun x9 =>
CM.pu (p1 (lenT Tryz.prog 68) x9) fun x10 =>
CM.pu (p2 (binA Tryz.prog .lss 3) x6 x10) fun x11 =>
CM.cond x11 (
CM.ret (.int .i64 11)) (
CM.go 499712 [a0])) (
CM.go 499712 [a0])
theorem f122_ok : LeD (real E Mk Nk) f122 (fun xs m => run E (.fn 122) xs m) := apS_le fun _ => ap0_le fun _ => run_eq 400 rfl (by kernel_rfl) (by kernel_rfl)
noncomputable def g123_0 : List AV → CM := apS fun t1 => apS fun t3 => ap0 <|
CM.go 503809 [t1, t3, (.int .i64 1)]
theorem g123_0_ok : LeD (real E Mk Nk) g123_0 (fun ts m => goR E Mk 503808 ts m) := apS_le fun _ => apS_le fun _ => ap0_le fun _ => goR_eq 400 (by kernel_rfl)
noncomputable def g123_1 : List AV → CM := apS fun t1 => apS fun t3 => apS fun t4 => ap0 <|
CM.pu (p2 (binA Tryz.prog .lss 3) t4 (.int .i64 128)) fun x0 =>
CM.cond x0 (
CM.go 503810 [t1, t3, t4]) (
CM.go 503812 [])
theorem g123_1_ok : LeD (real E Mk Nk) g123_1 (fun ts m => goR E Mk 503809 ts m) := apS_le fun _ => apS_le fun _ => apS_le fun _ => ap0_le fun _ => goR_eq 400 (by kernel_rfl)
noncomputable def g123_2 : List AV → CM := apS fun t1 => apS fun t3 => apS fun t4 => ap0 <|
CM.pu (p2 (binA Tryz.prog .and 3) t3 t4) fun x0 =>
CM.pu (p2 (binA Tryz.prog .neq 3) x0 (.int .i64 0)) fun x1 =>
CM.ifv x1 (
CM.rm (q1 (loadA Tryz.prog 73) t1 ) fun x2 =>
CM.call 164 [x2, t4] fun x3 =>
CM.pu (p1 (unA .not) x3) fun x4 =>
CM.ifv x4 (
CM.ret (.bool false)) (
CM.pu (p2 (binA Tryz.prog .and 3) t3 t4) fun x5 =>
CM.pu (p2 (binA Tryz.prog .eql 3) x5 (.int .i64 0)) fun x6 =>
CM.ifv x6 (
CM.rm (q1 (loadA Tryz.prog 73) t1 ) fun x7 =>
CM.call 165 [x7, t4] fun x8 =>
CM.pu (p1 (unA .not) x8) fun x9 =>
CM.cond x9 (
CM.ret (.bool false)) (
CM.go 503811 [t1, t3, t4])) (
CM.go 503811 [t1, t3, t4]))) (
CM.pu (p2 (binA Tryz.prog .and 3) t3 t4) fun x10 =>
CM.pu (p2 (binA Tryz.prog .eql 3) x10 (.int .i64 0)) fun x11 =>
CM.ifv x11 (
CM.rm (q1 (loadA Tryz.prog 73) t1 ) fun x12 =>
CM.call 165 [x12, t4] fun x13 =>
CM.pu (p1 (unA .not) x13) fun x14 =>
CM.cond x14 (
CM.ret (.bool false)) (
CM.go 503811 [t1, t3, t4])) (
CM.go 503811 [t1, t3, t4]))
theorem g123_2_ok : LeD (real E Mk Nk) g123_2 (fun ts m => goR E Mk 503810 ts m) := apS_le fun _ => apS_le fun _ => apS_le fun _ => ap0_le fun _ => goR_eq 400 (by kernel_rfl)
noncomputable def g123_3 : List AV → CM := apS fun t1 => apS fun t3 => apS fun t4 => ap0 <|
CM.pu (p2 (binA Tryz.prog .shl 3) t4 (.int .u64 1)) fun x0 =>
CM.go 503809 [t1, t3, x0]
theorem g123_3_ok : LeD (real E Mk Nk) g123_3 (fun ts m => goR E Mk 503811 ts m) := apS_le fun _ => apS_le fun _ => apS_le fun _ => ap0_le fun _ => goR_eq 400 (by kernel_rfl)
noncomputable def g123_4 : List AV → CM := ap0 <|
CM.ret (.bool true)
theorem g123_4_ok : LeD (real E Mk Nk) g123_4 (fun ts m => goR E Mk 503812 ts m) := ap0_le fun _ => goR_eq 400 (by kernel_rfl)
noncomputable def f123 : List AV → CM := apS fun a0 => ap0 <|
CM.al (boxA a0) fun x0 =>
CM.pu (p1 (fun a => fieldAddrA Tryz.prog 73 a 0) x0) fun x1 =>
CM.rm (q1 (loadA Tryz.prog 3) x1 ) fun x2 =>
CM.call 120 [x2] fun x3 =>
CM.pu (p2 (binA Tryz.prog .eql 3) x3 (.int .i64 0)) fun x4 =>
CM.cond x4 (
CM.ret (.bool false)) (
CM.go 503808 [x0, x3])
theorem f123_ok : LeD (real E Mk Nk) f123 (fun xs m => run E (.fn 123) xs m) := apS_le fun _ => ap0_le fun _ => run_eq 400 rfl (by kernel_rfl) (by kernel_rfl)
noncomputable def g124_0 : List AV → CM := apS fun t0 => apS fun t4 => apS fun t6 => ap0 <|
CM.pu (p1 nnA t0) fun x0 =>
CM.pu (p1 (fun a => fieldAddrA Tryz.prog 250 a 1) x0) fun x1 =>
CM.rm (q1 (loadA Tryz.prog 75) x1 ) fun x2 =>
CM.pu (p2 (indexAddrA Tryz.prog 75) x2 t6) fun x3 =>
CM.rm (q1 (loadA Tryz.prog 205) x3 ) fun x4 =>
CM.st (fun m => stV m t4 x4 4) <|
CM.resC Tryz.prog [ResultVar.cell 0 205, ResultVar.tmp 1] [t4, (.bool true)]
theorem g124_0_ok : LeD (real E Mk Nk) g124_0 (fun ts m => goR E Mk 507904 ts m) := apS_le fun _ => apS_le fun _ => apS_le fun _ => ap0_le fun _ => goR_eq 400 (by kernel_rfl)
noncomputable def f124 : List AV → CM := apS fun a0 => apS fun a1 => ap0 <|
CM.al (some (.cells [(.int .u64 0), (.int .u64 0), (.int .u64 0), (.sl none 0 0 0 true)] false, pB)) fun x0 =>
CM.pu (p1 nnA a0) fun x1 =>
CM.pu (p1 (fun a => fieldAddrA Tryz.prog 250 a 0) x1) fun x2 =>
CM.rm (q1 (loadA Tryz.prog 142) x2 ) fun x3 =>
CM.call 79 [x3, a1] fun x4 =>
CM.pu (p1 (fun a => extractA a 0) x4) fun x5 =>
CM.pu (p1 (fun a => extractA a 1) x4) fun x6 =>
CM.pu (p1 (unA .not) x6) fun x7 =>
CM.cond x7 (
CM.al (some (.cells [(.int .u64 0), (.int .u64 0), (.int .u64 0), (.sl none 0 0 0 true)] false, pB)) fun x8 =>
CM.rm (q1 (loadA Tryz.prog 205) x8 ) fun x9 =>
CM.st (fun m => stV m x0 x9 4) <|
CM.resC Tryz.prog [ResultVar.cell 0 205, ResultVar.tmp 1] [x0, (.bool false)]) (
CM.go 507904 [a0, x0, x5])
theorem f124_ok : LeD (real E Mk Nk) f124 (fun xs m => run E (.fn 124) xs m) := apS_le fun _ => apS_le fun _ => ap0_le fun _ => run_eq 400 rfl (by kernel_rfl) (by kernel_rfl)
noncomputable def f125 : List AV → CM := apS fun a0 => ap0 <|
CM.pu (p1 nnA a0) fun x0 =>
CM.pu (p1 (fun a => fieldAddrA Tryz.prog 250 a 0) x0) fun x1 =>
CM.rm (q1 (loadA Tryz.prog 142) x1 ) fun x2 =>
CM.pu (p1 (lenT Tryz.prog 142) x2) fun x3 =>
CM.ret x3
theorem f125_ok : LeD (real E Mk Nk) f125 (fun xs m => run E (.fn 125) xs m) := apS_le fun _ => ap0_le fun _ => run_eq 400 rfl (by kernel_rfl) (by kernel_rfl)
noncomputable def g126_0 : List AV → CM := apS fun t3 => apS fun t4 => apS fun t5 => apS fun t6 => apS fun t7 => apS fun t12 => apS fun t13 => apS fun t14 => ap0 <|
CM.rng (.fn (rsOf E 126)) t12 (loopOf E 126 0 ([.undef, .undef, .undef, t3, t4, t5, t6, t7, .undef, .undef, .undef, .undef, t12, t13, t14] ++ List.replicate 12 .undef)) 516096 [t3, t4, t5, t6, t7, t12, t13, t14]
theorem g126_0_ok : LeD (real E Mk Nk) g126_0 (fun ts m => goR E Mk 516096 ts m) := apS_le fun _ => apS_le fun _ => apS_le fun _ => apS_le fun _ => apS_le fun _ => apS_le fun _ => apS_le fun _ => apS_le fun _ => ap0_le fun _ => goR_eq 400 (by kernel_rfl)
noncomputable def g126_2 : List AV → CM := apS fun t3 => ap0 <|
CM.rm (q1 (loadA Tryz.prog 30) t3 ) fun x0 =>
CM.ret x0
theorem g126_2_ok : LeD (real E Mk Nk) g126_2 (fun ts m => goR E Mk 516098 ts m) := apS_le fun _ => ap0_le fun _ => goR_eq 400 (by kernel_rfl)
noncomputable def l126_0_none : List AV → CM := apS fun t3 => apS fun _ => apS fun _ => apS fun _ => apS fun _ => apS fun _ => apS fun _ => apS fun _ => ap0 <|
CM.go 516098 [t3]
theorem l126_0_none_ok : LeD (real E Mk Nk) l126_0_none (fun ts m => afR E Nk 516096 none ts m) := apS_le fun _ => apS_le fun _ => apS_le fun _ => apS_le fun _ => apS_le fun _ => apS_le fun _ => apS_le fun _ => apS_le fun _ => ap0_le fun _ => afR_eq 400 (by kernel_rfl)
noncomputable def f126 : List AV → CM := apS fun a0 => ap0 <|
CM.al (some (.cells [(.int .u64 0)] false, pB)) fun x0 =>
CM.al (some (.cells [(.int .u64 0)] false, pB)) fun x1 =>
CM.al (some (.cells [(.bool false)] false, pB)) fun x2 =>
CM.st (fun m => stV m x0 (.int .u64 0) 1) <|
CM.st (fun m => stV m x1 (.int .u64 0) 1) <|
CM.st (fun m => stV m x2 (.bool false) 1) <|
CM.pu (p1 nnA a0) fun x6 =>
CM.pu (p1 (fun a => fieldAddrA Tryz.prog 207 a 1) x6) fun x7 =>
CM.rm (q1 (loadA Tryz.prog 200) x7 ) fun x8 =>
CM.call 116 [x8] fun x9 =>
CM.go 516096 [x0, x1, x2, .undef, .undef, x9, .undef, .undef]
theorem f126_ok : LeD (real E Mk Nk) f126 (fun xs m => run E (.fn 126) xs m) := apS_le fun _ => ap0_le fun _ => run_eq 400 rfl (by kernel_rfl) (by kernel_rfl)
noncomputable def g127_0 : List AV → CM := ap0 <|
CM.ret (.bool true)
theorem g127_0_ok : LeD (real E Mk Nk) g127_0 (fun ts m => goR E Mk 520192 ts m) := ap0_le fun _ => goR_eq 400 (by kernel_rfl)
noncomputable def f127 : List AV → CM := apS fun a0 => apS fun a1 => apS fun a2 => ap0 <|
CM.al (boxA a2) fun x0 =>
CM.pu (p1 nnA a0) fun x1 =>
CM.pu (p1 (fun a => fieldAddrA Tryz.prog 250 a 0) x1) fun x2 =>
CM.rm (q1 (loadA Tryz.prog 142) x2 ) fun x3 =>
CM.call 79 [x3, a1] fun x4 =>
CM.pu (p1 (fun a => extractA a 0) x4) fun x5 =>
CM.pu (p1 (fun a => extractA a 1) x4) fun x6 =>
CM.cond x6 (
CM.pu (p1 nnA a0) fun x7 =>
CM.pu (p1 (fun a => fieldAddrA Tryz.prog 250 a 1) x7) fun x8 =>
CM.rm (q1 (loadA Tryz.prog 75) x8 ) fun x9 =>
CM.rm (q1 (loadA Tryz.prog 205) x0 ) fun x10 =>
CM.pu (p2 (indexAddrA Tryz.prog 75) x9 x5) fun x11 =>
CM.st (fun m => stV m x11 x10 4) <|
CM.go 520192 []) (
CM.pu (p1 nnA a0) fun x15 =>
CM.pu (p1 (fun a => fieldAddrA Tryz.prog 250 a 0) x15) fun x16 =>
CM.rm (q1 (loadA Tryz.prog 142) x16 ) fun x17 =>
CM.pu (p1 (lenT Tryz.prog 142) x17) fun x18 =>
CM.pu (p1 nnA a0) fun x19 =>
CM.pu (p1 (fun a => fieldAddrA Tryz.prog 250 a 2) x19) fun x20 =>
CM.rm (q1 (loadA Tryz.prog 3) x20 ) fun x21 =>
CM.pu (p2 (binA Tryz.prog .geq 3) x18 x21) fun x22 =>
CM.cond x22 (
CM.ret (.bool false)) (
CM.pu (p1 nnA a0) fun x23 =>
CM.pu (p1 (fun a => fieldAddrA Tryz.prog 250 a 0) x23) fun x24 =>
CM.rm (q1 (loadA Tryz.prog 142) x24 ) fun x25 =>
CM.al (bsA 1 1 [(.int .u64 0)] [(0, a1)]) fun x26 =>
CM.call 80 [x25, x5, x26] fun x27 =>
CM.pu (p1 nnA a0) fun x28 =>
CM.pu (p1 (fun a => fieldAddrA Tryz.prog 250 a 0) x28) fun x29 =>
CM.st (fun m => stV m x29 x27 1) <|
CM.pu (p1 nnA a0) fun x31 =>
CM.pu (p1 (fun a => fieldAddrA Tryz.prog 250 a 1) x31) fun x32 =>
CM.rm (q1 (loadA Tryz.prog 75) x32 ) fun x33 =>
CM.rm (q1 (loadA Tryz.prog 205) x0 ) fun x34 =>
CM.al (bsA 4 1 [(.int .u64 0), (.int .u64 0), (.int .u64 0), (.sl none 0 0 0 true)] [(0, x34)]) fun x35 =>
CM.call 166 [x33, x5, x35] fun x37 =>
CM.pu (p1 nnA a0) fun x39 =>
CM.pu (p1 (fun a => fieldAddrA Tryz.prog 250 a 1) x39) fun x40 =>
CM.st (fun m => stV m x40 x37 1) <|
CM.go 520192 []))
theorem f127_ok : LeD (real E Mk Nk) f127 (fun xs m => run E (.fn 127) xs m) := apS_le fun _ => apS_le fun _ => apS_le fun _ => ap0_le fun _ => run_eq 400 rfl (by kernel_rfl) (by kernel_rfl)
noncomputable def g128_0 : List AV → CM := apS fun t1 => ap0 <|
CM.pu (p1 (fun a => fieldAddrA Tryz.prog 73 a 0) t1) fun x0 =>
CM.rm (q1 (loadA Tryz.prog 3) x0 ) fun x1 =>
CM.call 168 [x1] fun x2 =>
CM.pu (p1 (fun a => fieldAddrA Tryz.prog 73 a 0) t1) fun x3 =>
CM.rm (q1 (loadA Tryz.prog 3) x3 ) fun x4 =>
CM.pu (p1 (convA Tryz.prog 3 5) x4) fun x5 =>
CM.al (bsA 1 1 [(.int .u8 0)] [(0, x5)]) fun x6 =>
CM.pu (p1 (fun a => fieldAddrA Tryz.prog 73 a 1) t1) fun x7 =>
CM.rm (q1 (loadA Tryz.prog 30) x7 ) fun x8 =>
CM.call 169 [x8] fun x10 =>
CM.memo fun m11 =>
CM.chk (q1 (loadA Tryz.prog 3) x3 m11) x4 <|
CM.ef (apE 1 1 x6 x10) fun x13 =>
CM.call 170 [x2, (.str [115, 101, 113])] fun x15 =>
CM.cond x15 (
CM.pu (p1 (fun a => fieldAddrA Tryz.prog 73 a 2) t1) fun x16 =>
CM.rm (q1 (loadA Tryz.prog 30) x16 ) fun x17 =>
CM.call 169 [x17] fun x18 =>
CM.ef (apE 1 1 x13 x18) fun x19 =>
CM.go 524289 [t1, x2, x19]) (
CM.go 524289 [t1, x2, x13])
theorem g128_0_ok : LeD (real E Mk Nk) g128_0 (fun ts m => goR E Mk 524288 ts m) := apS_le fun _ => ap0_le fun _ => goR_eq 400 (by kernel_rfl)
noncomputable def g128_1 : List AV → CM := apS fun t1 => apS fun t4 => apS fun t5 => ap0 <|
CM.call 170 [t4, (.str [97])] fun x0 =>
CM.cond x0 (
CM.pu (p1 (fun a => fieldAddrA Tryz.prog 73 a 3) t1) fun x1 =>
CM.rm (q1 (loadA Tryz.prog 30) x1 ) fun x2 =>
CM.call 169 [x2] fun x3 =>
CM.ef (apE 1 1 t5 x3) fun x4 =>
CM.go 524290 [t1, t4, x4]) (
CM.go 524290 [t1, t4, t5])
theorem g128_1_ok : LeD (real E Mk Nk) g128_1 (fun ts m => goR E Mk 524289 ts m) := apS_le fun _ => apS_le fun _ => apS_le fun _ => ap0_le fun _ => goR_eq 400 (by kernel_rfl)
noncomputable def g128_2 : List AV → CM := apS fun t1 => apS fun t4 => apS fun t5 => ap0 <|
CM.call 170 [t4, (.str [98])] fun x0 =>
CM.cond x0 (
CM.pu (p1 (fun a => fieldAddrA Tryz.prog 73 a 4) t1) fun x1 =>
CM.rm (q1 (loadA Tryz.prog 30) x1 ) fun x2 =>
CM.call 169 [x2] fun x3 =>
CM.ef (apE 1 1 t5 x3) fun x4 =>
CM.go 524291 [t1, t4, x4]) (
CM.go 524291 [t1, t4, t5])
theorem g128_2_ok : LeD (real E Mk Nk) g128_2 (fun ts m => goR E Mk 524290 ts m) := apS_le fun _ => apS_le fun _ => apS_le fun _ => ap0_le fun _ => goR_eq 400 (by kernel_rfl)
noncomputable def g128_3 : List AV → CM := apS fun t1 => apS fun t4 => apS fun t5 => ap0 <|
CM.call 170 [t4, (.str [97, 109, 111, 117, 110, 116])] fun x0 =>
CM.cond x0 (
CM.pu (p1 (fun a => fieldAddrA Tryz.prog 73 a 5) t1) fun x1 =>
CM.rm (q1 (loadA Tryz.prog 37) x1 ) fun x2 =>
CM.call 171 [x2] fun x3 =>
CM.ef (apE 1 1 t5 x3) fun x4 =>
CM.go 524292 [t1, x4]) (
CM.go 524292 [t1, t5])
theorem g128_3_ok : LeD (real E Mk Nk) g128_3 (fun ts m => goR E Mk 524291 ts m) := apS_le fun _ => apS_le fun _ => apS_le fun _ => ap0_le fun _ => goR_eq 400 (by kernel_rfl)
noncomputable def g128_4 : List AV → CM := apS fun t1 => apS fun t5 => ap0 <|
CM.pu (p1 (fun a => fieldAddrA Tryz.prog 73 a 6) t1) fun x0 =>
CM.rm (q1 (loadA Tryz.prog 9) x0 ) fun x1 =>
CM.memo fun m2 =>
CM.ef (apE 1 1 t5 x1) fun x3 =>
CM.pu (p1 (fun a => fieldAddrA Tryz.prog 73 a 7) t1) fun x5 =>
CM.rm (q1 (loadA Tryz.prog 9) x5 ) fun x6 =>
CM.chk (q1 (loadA Tryz.prog 9) x5 m2) x6 <|
CM.ef (apE 1 1 x3 x6) fun x8 =>
CM.ret (.tup [x8, (.int .i64 0)])
theorem g128_4_ok : LeD (real E Mk Nk) g128_4 (fun ts m => goR E Mk 524292 ts m) := apS_le fun _ => apS_le fun _ => ap0_le fun _ => goR_eq 400 (by kernel_rfl)
noncomputable def f128 : List AV → CM := apS fun a0 => ap0 <|
CM.al (boxA a0) fun x0 =>
CM.rm (q1 (loadA Tryz.prog 73) x0 ) fun x1 =>
CM.call 167 [x1] fun x2 =>
CM.pu (p1 (unA .not) x2) fun x3 =>
CM.cond x3 (
CM.ret (.tup [(.sl none 0 0 0 true), (.int .i64 1)])) (
CM.go 524288 [x0])
theorem f128_ok : LeD (real E Mk Nk) f128 (fun xs m => run E (.fn 128) xs m) := apS_le fun _ => ap0_le fun _ => run_eq 400 rfl (by kernel_rfl) (by kernel_rfl)
noncomputable def f129 : List AV → CM := apS fun a0 => ap0 <|
CM.al (boxA a0) fun x0 =>
CM.al (some (.cells [(.sl none 0 0 0 true), (.sl none 0 0 0 true), (.sl none 0 0 0 true), (.int .u64 0)] false, pB)) fun x1 =>
CM.al (some (.cells [(.sl none 0 0 0 true), (.sl none 0 0 0 true), (.sl none 0 0 0 true), (.int .u64 0)] false, pB)) fun x2 =>
CM.rm (q1 (loadA Tryz.prog 226) x0 ) fun x3 =>
CM.call 172 [x3, (.int .u64 8), (.fn (.func 173) [] [x0, x2])] fun _ =>
CM.rm (q1 (loadA Tryz.prog 226) x0 ) fun x5 =>
CM.call 172 [x5, (.int .u64 64), (.fn (.func 176) [] [x0, x2])] fun _ =>
CM.rm (q1 (loadA Tryz.prog 226) x0 ) fun x7 =>
CM.pu (p1 nnA x7) fun x8 =>
CM.pu (p1 (fun a => fieldAddrA Tryz.prog 228 a 0) x8) fun x9 =>
CM.rm (q1 (loadA Tryz.prog 211) x9 ) fun x10 =>
CM.call 161 [x10, (.int .u64 18446744073709551615)] fun x11 =>
CM.pu (p1 (fun a => fieldAddrA Tryz.prog 49 a 3) x2) fun x12 =>
CM.st (fun m => stV m x12 x11 1) <|
CM.rm (q1 (loadA Tryz.prog 226) x0 ) fun x14 =>
CM.call 172 [x14, (.int .u64 64), (.fn (.func 177) [] [x0, x2])] fun _ =>
CM.rm (q1 (loadA Tryz.prog 49) x2 ) fun x16 =>
CM.st (fun m => stV m x1 x16 4) <|
CM.resC Tryz.prog [ResultVar.cell 0 49] [x1]
theorem f129_ok : LeD (real E Mk Nk) f129 (fun xs m => run E (.fn 129) xs m) := apS_le fun _ => ap0_le fun _ => run_eq 400 rfl (by kernel_rfl) (by kernel_rfl)
noncomputable def f130 : List AV → CM := apS fun a0 => ap0 <|
CM.al (boxA a0) fun x0 =>
CM.al (some (.cells [(.sl none 0 0 0 true)] false, pB)) fun x1 =>
CM.rm (q1 (loadA Tryz.prog 226) x0 ) fun x2 =>
CM.call 172 [x2, (.int .u64 16), (.fn (.func 178) [] [x0, x1])] fun _ =>
CM.rm (q1 (loadA Tryz.prog 75) x1 ) fun x4 =>
CM.ret x4
theorem f130_ok : LeD (real E Mk Nk) f130 (fun xs m => run E (.fn 130) xs m) := apS_le fun _ => ap0_le fun _ => run_eq 400 rfl (by kernel_rfl) (by kernel_rfl)
noncomputable def g131_0 : List AV → CM := apS fun t0 => ap0 <|
CM.pu (p1 (lenT Tryz.prog 75) t0) fun x0 =>
CM.go 536577 [(.int .u64 0), t0, x0, (.int .i64 0)]
theorem g131_0_ok : LeD (real E Mk Nk) g131_0 (fun ts m => goR E Mk 536576 ts m) := apS_le fun _ => ap0_le fun _ => goR_eq 400 (by kernel_rfl)
noncomputable def g131_1 : List AV → CM := apS fun t5 => apS fun t20 => apS fun t21 => apS fun t22 => ap0 <|
CM.pu (p2 (binA Tryz.prog .lss 3) t22 t21) fun x0 =>
CM.cond x0 (
CM.go 536578 [t5, t20, t21, t22]) (
CM.go 536581 [])
theorem g131_1_ok : LeD (real E Mk Nk) g131_1 (fun ts m => goR E Mk 536577 ts m) := apS_le fun _ => apS_le fun _ => apS_le fun _ => apS_le fun _ => ap0_le fun _ => goR_eq 400 (by kernel_rfl)
noncomputable def g131_2 : List AV → CM := apS fun t5 => apS fun t20 => apS fun t21 => apS fun t22 => ap0 <|
CM.pu (p2 (indexAddrA Tryz.prog 75) t20 t22) fun x0 =>
CM.rm (q1 (loadA Tryz.prog 205) x0 ) fun x1 =>
CM.al (some (.cells [(.int .u64 0), (.int .u64 0), (.int .u64 0), (.sl none 0 0 0 true)] false, pB)) fun x2 =>
CM.st (fun m => stV m x2 x1 4) <|
CM.pu (p1 (fun a => fieldAddrA Tryz.prog 205 a 0) x2) fun x4 =>
CM.rm (q1 (loadA Tryz.prog 30) x4 ) fun x5 =>
CM.pu (p2 (binA Tryz.prog .leq 30) x5 t5) fun x6 =>
CM.ifv x6 (
CM.ret (.bool false)) (
CM.pu (p1 (fun a => fieldAddrA Tryz.prog 205 a 0) x2) fun x7 =>
CM.rm (q1 (loadA Tryz.prog 30) x7 ) fun x8 =>
CM.pu (p2 (binA Tryz.prog .gtr 30) x8 (.int .u64 72057594037927935)) fun x9 =>
CM.ifv x9 (
CM.ret (.bool false)) (
CM.pu (p1 (fun a => fieldAddrA Tryz.prog 205 a 1) x2) fun x10 =>
CM.rm (q1 (loadA Tryz.prog 30) x10 ) fun x11 =>
CM.pu (p2 (binA Tryz.prog .gtr 30) x11 (.int .u64 72057594037927935)) fun x12 =>
CM.ifv x12 (
CM.ret (.bool false)) (
CM.pu (p1 (fun a => fieldAddrA Tryz.prog 205 a 2) x2) fun x13 =>
CM.rm (q1 (loadA Tryz.prog 30) x13 ) fun x14 =>
CM.pu (p2 (binA Tryz.prog .gtr 30) x14 (.int .u64 72057594037927935)) fun x15 =>
CM.ifv x15 (
CM.ret (.bool false)) (
CM.rm (q1 (loadA Tryz.prog 205) x2 ) fun x16 =>
CM.call 181 [x16] fun x17 =>
CM.pu (p1 (unA .not) x17) fun x18 =>
CM.cond x18 (
CM.ret (.bool false)) (
CM.go 536579 [x2, t20, t21, t22])))))
theorem g131_2_ok : LeD (real E Mk Nk) g131_2 (fun ts m => goR E Mk 536578 ts m) := apS_le fun _ => apS_le fun _ => apS_le fun _ => apS_le fun _ => ap0_le fun _ => goR_eq 400 (by kernel_rfl)
noncomputable def g131_3 : List AV → CM := apS fun t7 => apS fun t20 => apS fun t21 => apS fun t22 => ap0 <|
CM.pu (p1 (fun a => fieldAddrA Tryz.prog 205 a 0) t7) fun x0 =>
CM.rm (q1 (loadA Tryz.prog 30) x0 ) fun x1 =>
CM.go 536580 [x1, t20, t21, t22]
theorem g131_3_ok : LeD (real E Mk Nk) g131_3 (fun ts m => goR E Mk 536579 ts m) := apS_le fun _ => apS_le fun _ => apS_le fun _ => apS_le fun _ => ap0_le fun _ => goR_eq 400 (by kernel_rfl)
noncomputable def g131_4 : List AV → CM := apS fun t5 => apS fun t20 => apS fun t21 => apS fun t22 => ap0 <|
CM.pu (p2 (binA Tryz.prog .add 3) t22 (.int .i64 1)) fun x0 =>
CM.go 536577 [t5, t20, t21, x0]
theorem g131_4_ok : LeD (real E Mk Nk) g131_4 (fun ts m => goR E Mk 536580 ts m) := apS_le fun _ => apS_le fun _ => apS_le fun _ => apS_le fun _ => ap0_le fun _ => goR_eq 400 (by kernel_rfl)
noncomputable def g131_5 : List AV → CM := ap0 <|
CM.ret (.bool true)
theorem g131_5_ok : LeD (real E Mk Nk) g131_5 (fun ts m => goR E Mk 536581 ts m) := ap0_le fun _ => goR_eq 400 (by kernel_rfl)
noncomputable def f131 : List AV → CM := apS fun a0 => apS fun a1 => ap0 <|
CM.pu (p2 (binA Tryz.prog .lss 3) a1 (.int .i64 1)) fun x0 =>
CM.ifv x0 (
CM.ret (.bool false)) (
CM.pu (p2 (binA Tryz.prog .gtr 3) a1 (.int .i64 16)) fun x1 =>
CM.ifv x1 (
CM.ret (.bool false)) (
CM.pu (p1 (lenT Tryz.prog 75) a0) fun x2 =>
CM.pu (p2 (binA Tryz.prog .gtr 3) x2 a1) fun x3 =>
CM.cond x3 (
CM.ret (.bool false)) (
CM.go 536576 [a0])))
theorem f131_ok : LeD (real E Mk Nk) f131 (fun xs m => run E (.fn 131) xs m) := apS_le fun _ => apS_le fun _ => ap0_le fun _ => run_eq 400 rfl (by kernel_rfl) (by kernel_rfl)
noncomputable def f132 : List AV → CM := apS fun a0 => ap0 <|
CM.al (boxA a0) fun x0 =>
CM.al (some (.cells [(.int .u64 0), (.int .u64 0), (.int .u64 0), (.sl none 0 0 0 true)] false, pB)) fun x1 =>
CM.al (some (.cells [] false, sB 6 0)) fun x2 =>
CM.pu (p1 (fun a => fieldAddrA Tryz.prog 205 a 3) x0) fun x3 =>
CM.rm (q1 (loadA Tryz.prog 203) x3 ) fun x4 =>
CM.ef (apE 6 48 x2 x4) fun x5 =>
CM.pu (p1 (fun a => fieldAddrA Tryz.prog 205 a 3) x0) fun x6 =>
CM.st (fun m => stV m x6 x5 1) <|
CM.rm (q1 (loadA Tryz.prog 205) x0 ) fun x8 =>
CM.st (fun m => stV m x1 x8 4) <|
CM.resC Tryz.prog [ResultVar.cell 0 205] [x1]
theorem f132_ok : LeD (real E Mk Nk) f132 (fun xs m => run E (.fn 132) xs m) := apS_le fun _ => ap0_le fun _ => run_eq 400 rfl (by kernel_rfl) (by kernel_rfl)
noncomputable def f133 : List AV → CM := apS fun a0 => apS fun a1 => ap0 <|
CM.call 182 [a0] fun x0 =>
CM.ifv x0 (
CM.call 182 [a1] fun x1 =>
CM.pu (p1 (unA .not) x1) fun x2 =>
CM.ifv x2 (
CM.ret (.bool true)) (
CM.pu (p2 (binA Tryz.prog .lss 9) a0 a1) fun x3 =>
CM.ret x3)) (
CM.pu (p2 (binA Tryz.prog .lss 9) a0 a1) fun x4 =>
CM.ret x4)
theorem f133_ok : LeD (real E Mk Nk) f133 (fun xs m => run E (.fn 133) xs m) := apS_le fun _ => apS_le fun _ => ap0_le fun _ => run_eq 400 rfl (by kernel_rfl) (by kernel_rfl)
noncomputable def f134 : List AV → CM := apS fun a0 => ap0 <|
CM.pu (p2 (binA Tryz.prog .neq 9) a0 a0) fun x0 =>
CM.ret x0
theorem f134_ok : LeD (real E Mk Nk) f134 (fun xs m => run E (.fn 134) xs m) := apS_le fun _ => ap0_le fun _ => run_eq 400 rfl (by kernel_rfl) (by kernel_rfl)
noncomputable def f136 : List AV → CM := apS fun a0 => apS fun a1 => ap0 <|
CM.pu (p1 (lenT Tryz.prog 156) a0) fun x0 =>
CM.pu (p2 (binA Tryz.prog .sub 3) x0 a1) fun x1 =>
CM.call 183 [a0, x1] fun _ =>
CM.ret .undef
theorem f136_ok : LeD (real E Mk Nk) f136 (fun xs m => run E (.fn 136) xs m) := apS_le fun _ => apS_le fun _ => ap0_le fun _ => run_eq 400 rfl (by kernel_rfl) (by kernel_rfl)
noncomputable def f138 : List AV → CM := apS fun a0 => apS fun a1 => ap0 <|
CM.pu (p1 (lenT Tryz.prog 45) a0) fun x0 =>
CM.pu (p2 (binA Tryz.prog .sub 3) x0 a1) fun x1 =>
CM.call 184 [a0, x1] fun _ =>
CM.ret .undef
theorem f138_ok : LeD (real E Mk Nk) f138 (fun xs m => run E (.fn 138) xs m) := apS_le fun _ => apS_le fun _ => ap0_le fun _ => run_eq 400 rfl (by kernel_rfl) (by kernel_rfl)
noncomputable def f139 : List AV → CM := apS fun a0 => apS fun a1 => ap0 <|
CM.call 185 [a0] fun x0 =>
CM.ifv x0 (
CM.call 185 [a1] fun x1 =>
CM.pu (p1 (unA .not) x1) fun x2 =>
CM.ifv x2 (
CM.ret (.bool true)) (
CM.pu (p2 (binA Tryz.prog .lss 30) a0 a1) fun x3 =>
CM.ret x3)) (
CM.pu (p2 (binA Tryz.prog .lss 30) a0 a1) fun x4 =>
CM.ret x4)
theorem f139_ok : LeD (real E Mk Nk) f139 (fun xs m => run E (.fn 139) xs m) := apS_le fun _ => apS_le fun _ => ap0_le fun _ => run_eq 400 rfl (by kernel_rfl) (by kernel_rfl)
noncomputable def f140 : List AV → CM := apS fun a0 => ap0 <|
CM.pu (p2 (binA Tryz.prog .neq 30) a0 a0) fun x0 =>
CM.ret x0
theorem f140_ok : LeD (real E Mk Nk) f140 (fun xs m => run E (.fn 140) xs m) := apS_le fun _ => ap0_le fun _ => run_eq 400 rfl (by kernel_rfl) (by kernel_rfl)
noncomputable def f142 : List AV → CM := apS fun a0 => apS fun a1 => ap0 <|
CM.pu (p1 (lenT Tryz.prog 142) a0) fun x0 =>
CM.pu (p2 (binA Tryz.prog .sub 3) x0 a1) fun x1 =>
CM.call 186 [a0, x1] fun _ =>
CM.ret .undef
theorem f142_ok : LeD (real E Mk Nk) f142 (fun xs m => run E (.fn 142) xs m) := apS_le fun _ => apS_le fun _ => ap0_le fun _ => run_eq 400 rfl (by kernel_rfl) (by kernel_rfl)
noncomputable def f144 : List AV → CM := apS fun a0 => apS fun a1 => ap0 <|
CM.pu (p1 (lenT Tryz.prog 47) a0) fun x0 =>
CM.pu (p2 (binA Tryz.prog .sub 3) x0 a1) fun x1 =>
CM.call 187 [a0, x1] fun _ =>
CM.ret .undef
theorem f144_ok : LeD (real E Mk Nk) f144 (fun xs m => run E (.fn 144) xs m) := apS_le fun _ => apS_le fun _ => ap0_le fun _ => run_eq 400 rfl (by kernel_rfl) (by kernel_rfl)
noncomputable def f146 : List AV → CM := apS fun a0 => ap0 <|
CM.pu (p2 (binA Tryz.prog .geq 3) a0 (.int .i64 0)) fun x0 =>
CM.ifv x0 (
CM.pu (p2 (binA Tryz.prog .leq 3) a0 (.int .i64 18)) fun x1 =>
CM.ret x1) (
CM.ret (.bool false))
theorem f146_ok : LeD (real E Mk Nk) f146 (fun xs m => run E (.fn 146) xs m) := apS_le fun _ => ap0_le fun _ => run_eq 400 rfl (by kernel_rfl) (by kernel_rfl)
noncomputable def g147_0 : List AV → CM := apS fun t2 => apS fun t3 => ap0 <|
CM.pu (p1 (fun a => fieldAddrA Tryz.prog 37 a 1) t2) fun x0 =>
CM.rm (q1 (loadA Tryz.prog 3) x0 ) fun x1 =>
CM.pu (p1 (fun a => fieldAddrA Tryz.prog 37 a 1) t3) fun x2 =>
CM.rm (q1 (loadA Tryz.prog 3) x2 ) fun x3 =>
CM.pu (p2 (binA Tryz.prog .lss 3) x1 x3) fun x4 =>
CM.cond x4 (
CM.rm (q1 (loadA Tryz.prog 37) t3 ) fun x5 =>
CM.rm (q1 (loadA Tryz.prog 37) t2 ) fun x6 =>
CM.call 188 [x5, x6] fun x7 =>
CM.pu (p1 (unA .neg) x7) fun x8 =>
CM.ret (.tup [x8, (.int .i64 0)])) (
CM.go 602113 [t2, t3])
theorem g147_0_ok : LeD (real E Mk Nk) g147_0 (fun ts m => goR E Mk 602112 ts m) := apS_le fun _ => apS_le fun _ => ap0_le fun _ => goR_eq 400 (by kernel_rfl)
noncomputable def g147_1 : List AV → CM := apS fun t2 => apS fun t3 => ap0 <|
CM.rm (q1 (loadA Tryz.prog 37) t2 ) fun x0 =>
CM.rm (q1 (loadA Tryz.prog 37) t3 ) fun x1 =>
CM.call 188 [x0, x1] fun x2 =>
CM.ret (.tup [x2, (.int .i64 0)])
theorem g147_1_ok : LeD (real E Mk Nk) g147_1 (fun ts m => goR E Mk 602113 ts m) := apS_le fun _ => apS_le fun _ => ap0_le fun _ => goR_eq 400 (by kernel_rfl)
noncomputable def f147 : List AV → CM := apS fun a0 => apS fun a1 => ap0 <|
CM.al (boxA a0) fun x0 =>
CM.al (boxA a1) fun x1 =>
CM.rm (q1 (loadA Tryz.prog 37) x0 ) fun x2 =>
CM.call 85 [x2] fun x3 =>
CM.pu (p1 (unA .not) x3) fun x4 =>
CM.ifv x4 (
CM.ret (.tup [(.int .i64 0), (.int .i64 21)])) (
CM.rm (q1 (loadA Tryz.prog 37) x1 ) fun x5 =>
CM.call 85 [x5] fun x6 =>
CM.pu (p1 (unA .not) x6) fun x7 =>
CM.cond x7 (
CM.ret (.tup [(.int .i64 0), (.int .i64 21)])) (
CM.go 602112 [x0, x1]))
theorem f147_ok : LeD (real E Mk Nk) f147 (fun xs m => run E (.fn 147) xs m) := apS_le fun _ => apS_le fun _ => ap0_le fun _ => run_eq 400 rfl (by kernel_rfl) (by kernel_rfl)
noncomputable def f149 : List AV → CM := apS fun a0 => apS fun a1 => ap0 <|
CM.pu (p1 (lenT Tryz.prog 46) a0) fun x0 =>
CM.pu (p2 (binA Tryz.prog .sub 3) x0 a1) fun x1 =>
CM.call 189 [a0, x1] fun _ =>
CM.ret .undef
theorem f149_ok : LeD (real E Mk Nk) f149 (fun xs m => run E (.fn 149) xs m) := apS_le fun _ => apS_le fun _ => ap0_le fun _ => run_eq 400 rfl (by kernel_rfl) (by kernel_rfl)
noncomputable def g150_0 : List AV → CM := apS fun t2 => apS fun t3 => apS fun t4 => apS fun t6 => ap0 <|
CM.pu (p2 minA t2 (.int .i64 18)) fun x0 =>
CM.rm (q1 (loadA Tryz.prog 35) t3 ) fun x1 =>
CM.rm (q1 (loadA Tryz.prog 35) t4 ) fun x2 =>
CM.call 191 [x1, x2] fun x3 =>
CM.call 192 [x0] fun x4 =>
CM.call 190 [x3, x4] fun x5 =>
CM.pu (p1 (fun a => extractA a 0) x5) fun x6 =>
CM.pu (p1 (fun a => extractA a 1) x5) fun x7 =>
CM.al (some (.cells [(.int .u64 0), (.int .u64 0), (.int .u64 0), (.int .u64 0)] false, pB)) fun x8 =>
CM.st (fun m => stV m x8 x6 4) <|
CM.rm (q1 (loadA Tryz.prog 271) x8 ) fun x10 =>
CM.pu (p2 (binA Tryz.prog .sub 3) t2 x0) fun x11 =>
CM.call 192 [x11] fun x13 =>
CM.memo fun m14 =>
CM.chk (q1 (loadA Tryz.prog 271) x8 m14) x10 <|
CM.call 190 [x10, x13] fun x16 =>
CM.pu (p1 (fun a => extractA a 0) x16) fun x18 =>
CM.pu (p1 (fun a => extractA a 1) x16) fun x19 =>
CM.st (fun m => stV m x8 x18 4) <|
CM.pu (p2 (binA Tryz.prog .eql 3) t2 (.int .i64 0)) fun x23 =>
CM.cond x23 (
CM.go 614401 [t3, t4, t6, x8, (.bool false)]) (
CM.pu (p2 (binA Tryz.prog .eql 3) t2 x0) fun x24 =>
CM.cond x24 (
CM.call 192 [x0] fun x25 =>
CM.pu (p2 (binA Tryz.prog .quo 30) x25 (.int .u64 2)) fun x26 =>
CM.pu (p2 (binA Tryz.prog .gtr 30) x7 x26) fun x27 =>
CM.ifv x27 (
CM.go 614401 [t3, t4, t6, x8, (.bool true)]) (
CM.call 192 [x0] fun x28 =>
CM.pu (p2 (binA Tryz.prog .quo 30) x28 (.int .u64 2)) fun x29 =>
CM.pu (p2 (binA Tryz.prog .eql 30) x7 x29) fun x30 =>
CM.ifv x30 (
CM.pu (p2 (indexAddrA Tryz.prog 271) x8 (.int .i64 0)) fun x31 =>
CM.rm (q1 (loadA Tryz.prog 30) x31 ) fun x32 =>
CM.pu (p2 (binA Tryz.prog .and 30) x32 (.int .u64 1)) fun x33 =>
CM.pu (p2 (binA Tryz.prog .eql 30) x33 (.int .u64 1)) fun x34 =>
CM.go 614401 [t3, t4, t6, x8, x34]) (
CM.go 614401 [t3, t4, t6, x8, (.bool false)]))) (
CM.pu (p2 (binA Tryz.prog .sub 3) t2 x0) fun x35 =>
CM.call 192 [x35] fun x36 =>
CM.pu (p2 (binA Tryz.prog .quo 30) x36 (.int .u64 2)) fun x37 =>
CM.pu (p2 (binA Tryz.prog .gtr 30) x19 x37) fun x38 =>
CM.ifv x38 (
CM.go 614401 [t3, t4, t6, x8, (.bool true)]) (
CM.pu (p2 (binA Tryz.prog .eql 30) x19 x37) fun x39 =>
CM.ifv x39 (
CM.pu (p2 (binA Tryz.prog .gtr 30) x7 (.int .u64 0)) fun x40 =>
CM.ifv x40 (
CM.go 614401 [t3, t4, t6, x8, (.bool true)]) (
CM.pu (p2 (indexAddrA Tryz.prog 271) x8 (.int .i64 0)) fun x41 =>
CM.rm (q1 (loadA Tryz.prog 30) x41 ) fun x42 =>
CM.pu (p2 (binA Tryz.prog .and 30) x42 (.int .u64 1)) fun x43 =>
CM.pu (p2 (binA Tryz.prog .eql 30) x43 (.int .u64 1)) fun x44 =>
CM.go 614401 [t3, t4, t6, x8, x44])) (
CM.go 614401 [t3, t4, t6, x8, (.bool false)]))))
theorem g150_0_ok : LeD (real E Mk Nk) g150_0 (fun ts m => goR E Mk 614400 ts m) := apS_le fun _ => apS_le fun _ => apS_le fun _ => apS_le fun _ => ap0_le fun _ => goR_eq 400 (by kernel_rfl)
noncomputable def g150_1 : List AV → CM := apS fun t3 => apS fun t4 => apS fun t6 => apS fun t9 => apS fun t12 => ap0 <|
CM.go 614402 [t3, t4, t6, t9, t12, (.int .i64 0)]
theorem g150_1_ok : LeD (real E Mk Nk) g150_1 (fun ts m => goR E Mk 614401 ts m) := apS_le fun _ => apS_le fun _ => apS_le fun _ => apS_le fun _ => apS_le fun _ => ap0_le fun _ => goR_eq 400 (by kernel_rfl)
noncomputable def g150_2 : List AV → CM := apS fun t3 => apS fun t4 => apS fun t6 => apS fun t9 => apS fun t12 => apS fun t14 => ap0 <|
CM.pu (p2 (binA Tryz.prog .lss 3) t14 (.int .i64 4)) fun x0 =>
CM.ifv x0 (
CM.cond t12 (
CM.go 614403 [t3, t4, t6, t9, t14]) (
CM.go 614405 [t3, t4, t6, t9])) (
CM.go 614405 [t3, t4, t6, t9])
theorem g150_2_ok : LeD (real E Mk Nk) g150_2 (fun ts m => goR E Mk 614402 ts m) := apS_le fun _ => apS_le fun _ => apS_le fun _ => apS_le fun _ => apS_le fun _ => apS_le fun _ => ap0_le fun _ => goR_eq 400 (by kernel_rfl)
noncomputable def g150_3 : List AV → CM := apS fun t3 => apS fun t4 => apS fun t6 => apS fun t9 => apS fun t14 => ap0 <|
CM.pu (p2 (indexAddrA Tryz.prog 271) t9 t14) fun x0 =>
CM.rm (q1 (loadA Tryz.prog 30) x0 ) fun x1 =>
CM.pu (p2 (binA Tryz.prog .add 30) x1 (.int .u64 1)) fun x2 =>
CM.pu (p2 (indexAddrA Tryz.prog 271) t9 t14) fun x3 =>
CM.st (fun m => stV m x3 x2 1) <|
CM.pu (p2 (indexAddrA Tryz.prog 271) t9 t14) fun x5 =>
CM.rm (q1 (loadA Tryz.prog 30) x5 ) fun x6 =>
CM.pu (p2 (binA Tryz.prog .eql 30) x6 (.int .u64 0)) fun x7 =>
CM.go 614404 [t3, t4, t6, t9, x7, t14]
theorem g150_3_ok : LeD (real E Mk Nk) g150_3 (fun ts m => goR E Mk 614403 ts m) := apS_le fun _ => apS_le fun _ => apS_le fun _ => apS_le fun _ => apS_le fun _ => ap0_le fun _ => goR_eq 400 (by kernel_rfl)
noncomputable def g150_4 : List AV → CM := apS fun t3 => apS fun t4 => apS fun t6 => apS fun t9 => apS fun t12 => apS fun t14 => ap0 <|
CM.pu (p2 (binA Tryz.prog .add 3) t14 (.int .i64 1)) fun x0 =>
CM.go 614402 [t3, t4, t6, t9, t12, x0]
theorem g150_4_ok : LeD (real E Mk Nk) g150_4 (fun ts m => goR E Mk 614404 ts m) := apS_le fun _ => apS_le fun _ => apS_le fun _ => apS_le fun _ => apS_le fun _ => apS_le fun _ => ap0_le fun _ => goR_eq 400 (by kernel_rfl)
noncomputable def g150_5 : List AV → CM := apS fun t3 => apS fun t4 => apS fun t6 => apS fun t9 => ap0 <|
CM.pu (p1 (fun a => fieldAddrA Tryz.prog 35 a 0) t3) fun x0 =>
CM.rm (q1 (loadA Tryz.prog 2) x0 ) fun x1 =>
CM.pu (p2 (binA Tryz.prog .lss 2) x1 (.int .i64 0)) fun x2 =>
CM.pu (p1 (fun a => fieldAddrA Tryz.prog 35 a 0) t4) fun x3 =>
CM.rm (q1 (loadA Tryz.prog 2) x3 ) fun x4 =>
CM.pu (p2 (binA Tryz.prog .lss 2) x4 (.int .i64 0)) fun x5 =>
CM.pu (p2 (binA Tryz.prog .neq 4) x2 x5) fun x6 =>
CM.rm (q1 (loadA Tryz.prog 271) t9 ) fun x7 =>
CM.call 193 [x6, x7] fun x8 =>
CM.pu (p1 (fun a => extractA a 0) x8) fun x9 =>
CM.pu (p1 (fun a => extractA a 1) x8) fun x10 =>
CM.st (fun m => stV m t6 x9 2) <|
CM.resC Tryz.prog [ResultVar.cell 0 35, ResultVar.tmp 1] [t6, x10]
theorem g150_5_ok : LeD (real E Mk Nk) g150_5 (fun ts m => goR E Mk 614405 ts m) := apS_le fun _ => apS_le fun _ => apS_le fun _ => apS_le fun _ => ap0_le fun _ => goR_eq 400 (by kernel_rfl)
noncomputable def f150 : List AV → CM := apS fun a0 => apS fun a1 => apS fun a2 => ap0 <|
CM.al (boxA a0) fun x0 =>
CM.al (boxA a1) fun x1 =>
CM.al (some (.cells [(.int .i64 0), (.int .u64 0)] false, pB)) fun x2 =>
CM.pu (p2 (binA Tryz.prog .lss 3) a2 (.int .i64 0)) fun x3 =>
CM.ifv x3 (
CM.pu (p1 (buildA Tryz.prog 35) []) fun x4 =>
CM.st (fun m => stV m x2 x4 2) <|
CM.resC Tryz.prog [ResultVar.cell 0 35, ResultVar.tmp 1] [x2, (.int .i64 1)]) (
CM.pu (p2 (binA Tryz.prog .gtr 3) a2 (.int .i64 36)) fun x6 =>
CM.cond x6 (
CM.pu (p1 (buildA Tryz.prog 35) []) fun x7 =>
CM.st (fun m => stV m x2 x7 2) <|
CM.resC Tryz.prog [ResultVar.cell 0 35, ResultVar.tmp 1] [x2, (.int .i64 1)]) (
CM.go 614400 [a2, x0, x1, x2]))
theorem f150_ok : LeD (real E Mk Nk) f150 (fun xs m => run E (.fn 150) xs m) := apS_le fun _ => apS_le fun _ => apS_le fun _ => ap0_le fun _ => run_eq 400 rfl (by kernel_rfl) (by kernel_rfl)
end Go.Proofs.YtamooapjonlcdaaGreat.T
