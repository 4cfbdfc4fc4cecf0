/- Functions as trees, printed by our own program (wip/tools/gen3.lean). -/
import Derived.Test.YtamooapjonlcdaaGreatT0
namespace Go.Proofs.YtamooapjonlcdaaGreat.T
open Go Go.Abs Go.Proofs.YtamooapjonlcdaaGreat
set_option maxRecDepth 10000
noncomputable def f71 : List AV → CM := apS fun a0 => ap0 <|
CM.al (boxA a0) fun x0 =>
CM.rm (q1 (loadA Tryz.prog 73) x0 ) fun x1 =>
CM.call 128 [x1] fun x2 =>
CM.pu (p1 (fun a => extractA a 0) x2) fun x3 =>
CM.pu (p1 (fun a => extractA a 1) x2) fun _ =>
CM.ret x3
theorem f71_ok : LeD (real E Mk Nk) f71 (fun xs m => run E (.fn 71) xs m) := apS_le fun _ => ap0_le fun _ => run_eq 400 rfl (by kernel_rfl) (by kernel_rfl)
noncomputable def g72_0 : List AV → CM := apS fun t0 => apS fun t2 => ap0 <|
CM.call 118 [t0] fun x0 =>
CM.pu (p1 (buildA Tryz.prog 228) [(0, x0)]) fun x1 =>
CM.al (boxA x1) fun x2 =>
CM.call 129 [x2] fun x3 =>
CM.al (some (.cells [(.sl none 0 0 0 true), (.sl none 0 0 0 true), (.sl none 0 0 0 true), (.int .u64 0)] false, pB)) fun x4 =>
CM.st (fun m => stV m x4 x3 4) <|
CM.call 130 [x2] fun x6 =>
CM.pu (p1 nnA x2) fun x7 =>
CM.pu (p1 (fun a => fieldAddrA Tryz.prog 228 a 1) x7) fun x8 =>
CM.rm (q1 (loadA Tryz.prog 25) x8 ) fun x9 =>
CM.pu (p2 (binA Tryz.prog .eql 25) x9 (.int .i64 0)) fun x10 =>
CM.cond x10 (
CM.pu (p1 nnA x2) fun x11 =>
CM.pu (p1 (fun a => fieldAddrA Tryz.prog 228 a 0) x11) fun x12 =>
CM.rm (q1 (loadA Tryz.prog 211) x12 ) fun x13 =>
CM.call 122 [x13] fun x14 =>
CM.go 294913 [t2, x4, x6, x14]) (
CM.go 294913 [t2, x4, x6, x9])
theorem g72_0_ok : LeD (real E Mk Nk) g72_0 (fun ts m => goR E Mk 294912 ts m) := apS_le fun _ => apS_le fun _ => ap0_le fun _ => goR_eq 400 (by kernel_rfl)
noncomputable def g72_1 : List AV → CM := apS fun t2 => apS fun t6 => apS fun t7 => apS fun t8 => ap0 <|
CM.pu (p2 (binA Tryz.prog .eql 25) t8 (.int .i64 0)) fun x0 =>
CM.ifv x0 (
CM.rm (q1 (loadA Tryz.prog 49) t6 ) fun x1 =>
CM.call 22 [x1, (.int .i64 64)] fun x2 =>
CM.pu (p1 (unA .not) x2) fun x3 =>
CM.ifv x3 (
CM.go 294914 [t2, t6, t7, (.int .i64 11)]) (
CM.call 131 [t7, (.int .i64 16)] fun x4 =>
CM.pu (p1 (unA .not) x4) fun x5 =>
CM.cond x5 (
CM.go 294914 [t2, t6, t7, (.int .i64 11)]) (
CM.go 294914 [t2, t6, t7, t8]))) (
CM.go 294914 [t2, t6, t7, t8])
theorem g72_1_ok : LeD (real E Mk Nk) g72_1 (fun ts m => goR E Mk 294913 ts m) := apS_le fun _ => apS_le fun _ => apS_le fun _ => apS_le fun _ => ap0_le fun _ => goR_eq 400 (by kernel_rfl)
noncomputable def g72_2 : List AV → CM := apS fun t2 => apS fun t6 => apS fun t7 => apS fun t8 => ap0 <|
CM.pu (p2 (binA Tryz.prog .neq 25) t8 (.int .i64 0)) fun x0 =>
CM.cond x0 (
CM.pu (p1 (buildA Tryz.prog 49) []) fun x1 =>
CM.st (fun m => stV m t2 x1 4) <|
CM.resC Tryz.prog [ResultVar.cell 0 49, ResultVar.tmp 1, ResultVar.tmp 2] [t2, (.sl none 0 0 0 true), t8]) (
CM.go 294915 [t2, t6, t7])
theorem g72_2_ok : LeD (real E Mk Nk) g72_2 (fun ts m => goR E Mk 294914 ts m) := apS_le fun _ => apS_le fun _ => apS_le fun _ => apS_le fun _ => ap0_le fun _ => goR_eq 400 (by kernel_rfl)
noncomputable def g72_3 : List AV → CM := apS fun t2 => apS fun t6 => apS fun t7 => ap0 <|
CM.rm (q1 (loadA Tryz.prog 49) t6 ) fun x0 =>
CM.st (fun m => stV m t2 x0 4) <|
CM.resC Tryz.prog [ResultVar.cell 0 49, ResultVar.tmp 1, ResultVar.tmp 2] [t2, t7, (.int .i64 0)]
theorem g72_3_ok : LeD (real E Mk Nk) g72_3 (fun ts m => goR E Mk 294915 ts m) := apS_le fun _ => apS_le fun _ => apS_le fun _ => ap0_le fun _ => goR_eq 400 (by kernel_rfl)
noncomputable def f72 : List AV → CM := apS fun a0 => ap0 <|
CM.al (some (.cells [(.sl none 0 0 0 true), (.sl none 0 0 0 true), (.sl none 0 0 0 true), (.int .u64 0)] false, pB)) fun x0 =>
CM.pu (p1 (lenT Tryz.prog 68) a0) fun x1 =>
CM.pu (p2 (binA Tryz.prog .gtr 3) x1 (.int .i64 32768)) fun x2 =>
CM.cond x2 (
CM.pu (p1 (buildA Tryz.prog 49) []) fun x3 =>
CM.st (fun m => stV m x0 x3 4) <|
CM.resC Tryz.prog [ResultVar.cell 0 49, ResultVar.tmp 1, ResultVar.tmp 2] [x0, (.sl none 0 0 0 true), (.int .i64 12)]) (
CM.go 294912 [a0, x0])
theorem f72_ok : LeD (real E Mk Nk) f72 (fun xs m => run E (.fn 72) xs m) := apS_le fun _ => ap0_le fun _ => run_eq 400 rfl (by kernel_rfl) (by kernel_rfl)
noncomputable def g73_0 : List AV → CM := apS fun t1 => apS fun t2 => ap0 <|
CM.call 7 [t1] fun x0 =>
CM.pu (p1 (fun a => extractA a 0) x0) fun x1 =>
CM.pu (p1 (fun a => extractA a 1) x0) fun x2 =>
CM.pu (p2 (binA Tryz.prog .neq 25) x2 (.int .i64 0)) fun x3 =>
CM.cond x3 (
CM.ret (.tup [(.ptr none), x2])) (
CM.go 299009 [t2, x1])
theorem g73_0_ok : LeD (real E Mk Nk) g73_0 (fun ts m => goR E Mk 299008 ts m) := apS_le fun _ => apS_le fun _ => ap0_le fun _ => goR_eq 400 (by kernel_rfl)
noncomputable def g73_1 : List AV → CM := apS fun t2 => apS fun t6 => ap0 <|
CM.pu (p1 (fun a => fieldAddrA Tryz.prog 49 a 0) t2) fun x0 =>
CM.rm (q1 (loadA Tryz.prog 45) x0 ) fun x1 =>
CM.pu (p1 (lenT Tryz.prog 45) x1) fun x2 =>
CM.go 299010 [t2, t6, x1, x2, (.int .i64 0)]
theorem g73_1_ok : LeD (real E Mk Nk) g73_1 (fun ts m => goR E Mk 299009 ts m) := apS_le fun _ => apS_le fun _ => ap0_le fun _ => goR_eq 400 (by kernel_rfl)
noncomputable def g73_2 : List AV → CM := apS fun t2 => apS fun t6 => apS fun t27 => apS fun t28 => apS fun t29 => ap0 <|
CM.pu (p2 (binA Tryz.prog .lss 3) t29 t28) fun x0 =>
CM.cond x0 (
CM.go 299011 [t2, t6, t27, t28, t29]) (
CM.go 299013 [t2, t6])
theorem g73_2_ok : LeD (real E Mk Nk) g73_2 (fun ts m => goR E Mk 299010 ts m) := apS_le fun _ => apS_le fun _ => apS_le fun _ => apS_le fun _ => apS_le fun _ => ap0_le fun _ => goR_eq 400 (by kernel_rfl)
noncomputable def g73_3 : List AV → CM := apS fun t2 => apS fun t6 => apS fun t27 => apS fun t28 => apS fun t29 => ap0 <|
CM.pu (p2 (indexAddrA Tryz.prog 45) t27 t29) fun x0 =>
CM.rm (q1 (loadA Tryz.prog 85) x0 ) fun x1 =>
CM.al (some (.cells [(.str []), (.int .i64 0), (.int .i64 0), (.int .u64 0)] false, pB)) fun x2 =>
CM.st (fun m => stV m x2 x1 4) <|
CM.pu (p1 nnA t6) fun x4 =>
CM.pu (p1 (fun a => fieldAddrA Tryz.prog 81 a 1) x4) fun x5 =>
CM.rm (q1 (loadA Tryz.prog 77) x5 ) fun x6 =>
CM.pu (p1 (fun a => fieldAddrA Tryz.prog 85 a 0) x2) fun x7 =>
CM.rm (q1 (loadA Tryz.prog 9) x7 ) fun x8 =>
CM.rm (q1 (loadA Tryz.prog 85) x2 ) fun x9 =>
CM.call 36 [x6, x8, x9] fun _ =>
CM.go 299012 [t2, t6, t27, t28, t29]
theorem g73_3_ok : LeD (real E Mk Nk) g73_3 (fun ts m => goR E Mk 299011 ts m) := apS_le fun _ => apS_le fun _ => apS_le fun _ => apS_le fun _ => apS_le fun _ => ap0_le fun _ => goR_eq 400 (by kernel_rfl)
noncomputable def g73_4 : List AV → CM := apS fun t2 => apS fun t6 => apS fun t27 => apS fun t28 => apS fun t29 => ap0 <|
CM.pu (p2 (binA Tryz.prog .add 3) t29 (.int .i64 1)) fun x0 =>
CM.go 299010 [t2, t6, t27, t28, x0]
theorem g73_4_ok : LeD (real E Mk Nk) g73_4 (fun ts m => goR E Mk 299012 ts m) := apS_le fun _ => apS_le fun _ => apS_le fun _ => apS_le fun _ => apS_le fun _ => ap0_le fun _ => goR_eq 400 (by kernel_rfl)
noncomputable def g73_5 : List AV → CM := apS fun t2 => apS fun t6 => ap0 <|
CM.pu (p1 (fun a => fieldAddrA Tryz.prog 49 a 1) t2) fun x0 =>
CM.rm (q1 (loadA Tryz.prog 46) x0 ) fun x1 =>
CM.pu (p1 (lenT Tryz.prog 46) x1) fun x2 =>
CM.go 299014 [t2, t6, x1, x2, (.int .i64 0)]
theorem g73_5_ok : LeD (real E Mk Nk) g73_5 (fun ts m => goR E Mk 299013 ts m) := apS_le fun _ => apS_le fun _ => ap0_le fun _ => goR_eq 400 (by kernel_rfl)
noncomputable def g73_6 : List AV → CM := apS fun t2 => apS fun t6 => apS fun t43 => apS fun t44 => apS fun t45 => ap0 <|
CM.pu (p2 (binA Tryz.prog .lss 3) t45 t44) fun x0 =>
CM.cond x0 (
CM.go 299015 [t2, t6, t43, t44, t45]) (
CM.go 299017 [t2, t6])
theorem g73_6_ok : LeD (real E Mk Nk) g73_6 (fun ts m => goR E Mk 299014 ts m) := apS_le fun _ => apS_le fun _ => apS_le fun _ => apS_le fun _ => apS_le fun _ => ap0_le fun _ => goR_eq 400 (by kernel_rfl)
noncomputable def g73_7 : List AV → CM := apS fun t2 => apS fun t6 => apS fun t43 => apS fun t44 => apS fun t45 => ap0 <|
CM.pu (p2 (indexAddrA Tryz.prog 46) t43 t45) fun x0 =>
CM.rm (q1 (loadA Tryz.prog 54) x0 ) fun x1 =>
CM.al (some (.cells [(.str []), (.str []), (.int .i64 0), (.int .u64 0), (.int .i64 0), (.int .i64 0), (.int .u64 0), (.int .i64 0), (.int .u64 0)] false, pB)) fun x2 =>
CM.st (fun m => stV m x2 x1 9) <|
CM.pu (p1 nnA t6) fun x4 =>
CM.pu (p1 (fun a => fieldAddrA Tryz.prog 81 a 2) x4) fun x5 =>
CM.rm (q1 (loadA Tryz.prog 78) x5 ) fun x6 =>
CM.pu (p1 (fun a => fieldAddrA Tryz.prog 54 a 0) x2) fun x7 =>
CM.rm (q1 (loadA Tryz.prog 9) x7 ) fun x8 =>
CM.pu (p1 (fun a => fieldAddrA Tryz.prog 54 a 1) x2) fun x9 =>
CM.rm (q1 (loadA Tryz.prog 9) x9 ) fun x10 =>
CM.pu (p2 (binA Tryz.prog .add 9) x8 x10) fun x11 =>
CM.rm (q1 (loadA Tryz.prog 54) x2 ) fun x12 =>
CM.call 46 [x6, x11, x12] fun _ =>
CM.go 299016 [t2, t6, t43, t44, t45]
theorem g73_7_ok : LeD (real E Mk Nk) g73_7 (fun ts m => goR E Mk 299015 ts m) := apS_le fun _ => apS_le fun _ => apS_le fun _ => apS_le fun _ => apS_le fun _ => ap0_le fun _ => goR_eq 400 (by kernel_rfl)
noncomputable def g73_8 : List AV → CM := apS fun t2 => apS fun t6 => apS fun t43 => apS fun t44 => apS fun t45 => ap0 <|
CM.pu (p2 (binA Tryz.prog .add 3) t45 (.int .i64 1)) fun x0 =>
CM.go 299014 [t2, t6, t43, t44, x0]
theorem g73_8_ok : LeD (real E Mk Nk) g73_8 (fun ts m => goR E Mk 299016 ts m) := apS_le fun _ => apS_le fun _ => apS_le fun _ => apS_le fun _ => apS_le fun _ => ap0_le fun _ => goR_eq 400 (by kernel_rfl)
noncomputable def g73_9 : List AV → CM := apS fun t2 => apS fun t6 => ap0 <|
CM.pu (p1 (fun a => fieldAddrA Tryz.prog 49 a 2) t2) fun x0 =>
CM.rm (q1 (loadA Tryz.prog 47) x0 ) fun x1 =>
CM.pu (p1 (lenT Tryz.prog 47) x1) fun x2 =>
CM.go 299018 [t2, t6, x1, x2, (.int .i64 0)]
theorem g73_9_ok : LeD (real E Mk Nk) g73_9 (fun ts m => goR E Mk 299017 ts m) := apS_le fun _ => apS_le fun _ => ap0_le fun _ => goR_eq 400 (by kernel_rfl)
noncomputable def g73_10 : List AV → CM := apS fun t2 => apS fun t6 => apS fun t62 => apS fun t63 => apS fun t64 => ap0 <|
CM.pu (p2 (binA Tryz.prog .lss 3) t64 t63) fun x0 =>
CM.cond x0 (
CM.go 299019 [t2, t6, t62, t63, t64]) (
CM.go 299021 [t2, t6])
theorem g73_10_ok : LeD (real E Mk Nk) g73_10 (fun ts m => goR E Mk 299018 ts m) := apS_le fun _ => apS_le fun _ => apS_le fun _ => apS_le fun _ => apS_le fun _ => ap0_le fun _ => goR_eq 400 (by kernel_rfl)
noncomputable def g73_11 : List AV → CM := apS fun t2 => apS fun t6 => apS fun t62 => apS fun t63 => apS fun t64 => ap0 <|
CM.pu (p2 (indexAddrA Tryz.prog 47) t62 t64) fun x0 =>
CM.rm (q1 (loadA Tryz.prog 91) x0 ) fun x1 =>
CM.al (some (.cells [(.int .u64 0), (.str []), (.int .i64 0), (.int .u64 0)] false, pB)) fun x2 =>
CM.st (fun m => stV m x2 x1 4) <|
CM.pu (p1 nnA t6) fun x4 =>
CM.pu (p1 (fun a => fieldAddrA Tryz.prog 81 a 3) x4) fun x5 =>
CM.rm (q1 (loadA Tryz.prog 79) x5 ) fun x6 =>
CM.pu (p1 (fun a => fieldAddrA Tryz.prog 91 a 0) x2) fun x7 =>
CM.rm (q1 (loadA Tryz.prog 30) x7 ) fun x8 =>
CM.rm (q1 (loadA Tryz.prog 91) x2 ) fun x9 =>
CM.call 38 [x6, x8, x9] fun _ =>
CM.go 299020 [t2, t6, t62, t63, t64]
theorem g73_11_ok : LeD (real E Mk Nk) g73_11 (fun ts m => goR E Mk 299019 ts m) := apS_le fun _ => apS_le fun _ => apS_le fun _ => apS_le fun _ => apS_le fun _ => ap0_le fun _ => goR_eq 400 (by kernel_rfl)
noncomputable def g73_12 : List AV → CM := apS fun t2 => apS fun t6 => apS fun t62 => apS fun t63 => apS fun t64 => ap0 <|
CM.pu (p2 (binA Tryz.prog .add 3) t64 (.int .i64 1)) fun x0 =>
CM.go 299018 [t2, t6, t62, t63, x0]
theorem g73_12_ok : LeD (real E Mk Nk) g73_12 (fun ts m => goR E Mk 299020 ts m) := apS_le fun _ => apS_le fun _ => apS_le fun _ => apS_le fun _ => apS_le fun _ => ap0_le fun _ => goR_eq 400 (by kernel_rfl)
noncomputable def g73_13 : List AV → CM := apS fun t2 => apS fun t6 => ap0 <|
CM.pu (p1 (fun a => fieldAddrA Tryz.prog 49 a 3) t2) fun x0 =>
CM.rm (q1 (loadA Tryz.prog 30) x0 ) fun x1 =>
CM.pu (p1 nnA t6) fun x2 =>
CM.pu (p1 (fun a => fieldAddrA Tryz.prog 81 a 4) x2) fun x3 =>
CM.st (fun m => stV m x3 x1 1) <|
CM.ret (.tup [t6, (.int .i64 0)])
theorem g73_13_ok : LeD (real E Mk Nk) g73_13 (fun ts m => goR E Mk 299021 ts m) := apS_le fun _ => apS_le fun _ => ap0_le fun _ => goR_eq 400 (by kernel_rfl)
noncomputable def f73 : List AV → CM := apS fun a0 => apS fun a1 => ap0 <|
CM.al (boxA a0) fun x0 =>
CM.rm (q1 (loadA Tryz.prog 49) x0 ) fun x1 =>
CM.call 22 [x1, a1] fun x2 =>
CM.pu (p1 (unA .not) x2) fun x3 =>
CM.cond x3 (
CM.ret (.tup [(.ptr none), (.int .i64 1)])) (
CM.go 299008 [a1, x0])
theorem f73_ok : LeD (real E Mk Nk) f73 (fun xs m => run E (.fn 73) xs m) := apS_le fun _ => apS_le fun _ => ap0_le fun _ => run_eq 400 rfl (by kernel_rfl) (by kernel_rfl)
noncomputable def g74_0 : List AV → CM := apS fun t0 => apS fun t1 => apS fun t2 => ap0 <|
CM.call 62 [t1, t2] fun x0 =>
CM.pu (p1 (fun a => extractA a 0) x0) fun x1 =>
CM.pu (p1 (fun a => extractA a 1) x0) fun x2 =>
CM.pu (p2 (binA Tryz.prog .neq 25) x2 (.int .i64 0)) fun x3 =>
CM.cond x3 (
CM.ret (.tup [(.ptr none), x2])) (
CM.go 303105 [t0, x1])
theorem g74_0_ok : LeD (real E Mk Nk) g74_0 (fun ts m => goR E Mk 303104 ts m) := apS_le fun _ => apS_le fun _ => apS_le fun _ => ap0_le fun _ => goR_eq 400 (by kernel_rfl)
noncomputable def g74_1 : List AV → CM := apS fun t0 => apS fun t8 => ap0 <|
CM.pu (p1 (lenT Tryz.prog 75) t0) fun x0 =>
CM.go 303106 [t8, t0, x0, (.int .i64 0)]
theorem g74_1_ok : LeD (real E Mk Nk) g74_1 (fun ts m => goR E Mk 303105 ts m) := apS_le fun _ => apS_le fun _ => ap0_le fun _ => goR_eq 400 (by kernel_rfl)
noncomputable def g74_2 : List AV → CM := apS fun t8 => apS fun t25 => apS fun t26 => apS fun t27 => ap0 <|
CM.pu (p2 (binA Tryz.prog .lss 3) t27 t26) fun x0 =>
CM.cond x0 (
CM.go 303107 [t8, t25, t26, t27]) (
CM.go 303109 [t8])
theorem g74_2_ok : LeD (real E Mk Nk) g74_2 (fun ts m => goR E Mk 303106 ts m) := apS_le fun _ => apS_le fun _ => apS_le fun _ => apS_le fun _ => ap0_le fun _ => goR_eq 400 (by kernel_rfl)
noncomputable def g74_3 : List AV → CM := apS fun t8 => apS fun t25 => apS fun t26 => apS fun t27 => ap0 <|
CM.pu (p2 (indexAddrA Tryz.prog 75) t25 t27) fun x0 =>
CM.rm (q1 (loadA Tryz.prog 205) x0 ) fun x1 =>
CM.al (some (.cells [(.int .u64 0), (.int .u64 0), (.int .u64 0), (.sl none 0 0 0 true)] false, pB)) fun x2 =>
CM.st (fun m => stV m x2 x1 4) <|
CM.pu (p1 nnA t8) fun x4 =>
CM.pu (p1 (fun a => fieldAddrA Tryz.prog 207 a 1) x4) fun x5 =>
CM.rm (q1 (loadA Tryz.prog 200) x5 ) fun x6 =>
CM.pu (p1 (fun a => fieldAddrA Tryz.prog 205 a 0) x2) fun x7 =>
CM.rm (q1 (loadA Tryz.prog 30) x7 ) fun x8 =>
CM.rm (q1 (loadA Tryz.prog 205) x2 ) fun x9 =>
CM.call 132 [x9] fun x11 =>
CM.memo fun m12 =>
CM.chk (q1 (loadA Tryz.prog 30) x7 m12) x8 <|
CM.chk (q1 (loadA Tryz.prog 200) x5 m12) x6 <|
CM.call 127 [x6, x8, x11] fun _ =>
CM.go 303108 [t8, t25, t26, t27]
theorem g74_3_ok : LeD (real E Mk Nk) g74_3 (fun ts m => goR E Mk 303107 ts m) := apS_le fun _ => apS_le fun _ => apS_le fun _ => apS_le fun _ => ap0_le fun _ => goR_eq 400 (by kernel_rfl)
noncomputable def g74_4 : List AV → CM := apS fun t8 => apS fun t25 => apS fun t26 => apS fun t27 => ap0 <|
CM.pu (p2 (binA Tryz.prog .add 3) t27 (.int .i64 1)) fun x0 =>
CM.go 303106 [t8, t25, t26, x0]
theorem g74_4_ok : LeD (real E Mk Nk) g74_4 (fun ts m => goR E Mk 303108 ts m) := apS_le fun _ => apS_le fun _ => apS_le fun _ => apS_le fun _ => ap0_le fun _ => goR_eq 400 (by kernel_rfl)
noncomputable def g74_5 : List AV → CM := apS fun t8 => ap0 <|
CM.ret (.tup [t8, (.int .i64 0)])
theorem g74_5_ok : LeD (real E Mk Nk) g74_5 (fun ts m => goR E Mk 303109 ts m) := apS_le fun _ => ap0_le fun _ => goR_eq 400 (by kernel_rfl)
noncomputable def f74 : List AV → CM := apS fun a0 => apS fun a1 => apS fun a2 => ap0 <|
CM.call 131 [a0, a1] fun x0 =>
CM.pu (p1 (unA .not) x0) fun x1 =>
CM.cond x1 (
CM.ret (.tup [(.ptr none), (.int .i64 1)])) (
CM.go 303104 [a0, a1, a2])
theorem f74_ok : LeD (real E Mk Nk) f74 (fun xs m => run E (.fn 74) xs m) := apS_le fun _ => apS_le fun _ => apS_le fun _ => ap0_le fun _ => run_eq 400 rfl (by kernel_rfl) (by kernel_rfl)
noncomputable def g75_0 : List AV → CM := apS fun t3 => apS fun t5 => apS fun t10 => apS fun t12 => ap0 <|
CM.rng (.fn (rsOf E 75)) t10 (loopOf E 75 0 ([.undef, .undef, .undef, t3, .undef, t5, .undef, .undef, .undef, .undef, t10, .undef, t12] ++ List.replicate 6 .undef)) 307200 [t3, t5, t10, t12]
theorem g75_0_ok : LeD (real E Mk Nk) g75_0 (fun ts m => goR E Mk 307200 ts m) := apS_le fun _ => apS_le fun _ => apS_le fun _ => apS_le fun _ => ap0_le fun _ => goR_eq 400 (by kernel_rfl)
noncomputable def g75_2 : List AV → CM := apS fun t3 => ap0 <|
CM.rm (q1 (loadA Tryz.prog 75) t3 ) fun x0 =>
CM.ret x0
theorem g75_2_ok : LeD (real E Mk Nk) g75_2 (fun ts m => goR E Mk 307202 ts m) := apS_le fun _ => ap0_le fun _ => goR_eq 400 (by kernel_rfl)
noncomputable def l75_0_none : List AV → CM := apS fun t3 => apS fun _ => apS fun _ => apS fun _ => ap0 <|
CM.go 307202 [t3]
theorem l75_0_none_ok : LeD (real E Mk Nk) l75_0_none (fun ts m => afR E Nk 307200 none ts m) := apS_le fun _ => apS_le fun _ => apS_le fun _ => apS_le fun _ => ap0_le fun _ => afR_eq 400 (by kernel_rfl)
noncomputable def f75 : List AV → CM := apS fun a0 => ap0 <|
CM.al (some (.cells [(.sl none 0 0 0 true)] false, pB)) fun x0 =>
CM.pu (p1 nnA a0) fun x1 =>
CM.pu (p1 (fun a => fieldAddrA Tryz.prog 207 a 1) x1) fun x2 =>
CM.rm (q1 (loadA Tryz.prog 200) x2 ) fun x3 =>
CM.call 116 [x3] fun x4 =>
CM.go 307200 [x0, .undef, x4, .undef]
theorem f75_ok : LeD (real E Mk Nk) f75 (fun xs m => run E (.fn 75) xs m) := apS_le fun _ => ap0_le fun _ => run_eq 400 rfl (by kernel_rfl) (by kernel_rfl)
noncomputable def g76_0 : List AV → CM := apS fun t0 => apS fun t1 => apS fun t6 => apS fun t7 => apS fun t8 => ap0 <|
CM.pu (p2 (binA Tryz.prog .lss 3) t7 t8) fun x0 =>
CM.cond x0 (
CM.go 311297 [t0, t1, t6, t7, t8]) (
CM.go 311298 [t0, t1, t6, t7])
theorem g76_0_ok : LeD (real E Mk Nk) g76_0 (fun ts m => goR E Mk 311296 ts m) := apS_le fun _ => apS_le fun _ => apS_le fun _ => apS_le fun _ => apS_le fun _ => ap0_le fun _ => goR_eq 400 (by kernel_rfl)
noncomputable def g76_1 : List AV → CM := apS fun t0 => apS fun t1 => apS fun t6 => apS fun t7 => apS fun t8 => ap0 <|
CM.pu (p2 (binA Tryz.prog .add 3) t7 t8) fun x0 =>
CM.pu (p1 (convA Tryz.prog 3 173) x0) fun x1 =>
CM.pu (p2 (binA Tryz.prog .shr 173) x1 (.int .u64 1)) fun x2 =>
CM.pu (p1 (convA Tryz.prog 173 3) x2) fun x3 =>
CM.pu (p2 (indexAddrA Tryz.prog 156) t0 x3) fun x4 =>
CM.rm (q1 (loadA Tryz.prog 9) x4 ) fun x5 =>
CM.call 133 [x5, t1] fun x6 =>
CM.cond x6 (
CM.pu (p2 (binA Tryz.prog .add 3) x3 (.int .i64 1)) fun x7 =>
CM.go 311296 [t0, t1, t6, x7, t8]) (
CM.go 311296 [t0, t1, t6, t7, x3])
theorem g76_1_ok : LeD (real E Mk Nk) g76_1 (fun ts m => goR E Mk 311297 ts m) := apS_le fun _ => apS_le fun _ => apS_le fun _ => apS_le fun _ => apS_le fun _ => ap0_le fun _ => goR_eq 400 (by kernel_rfl)
noncomputable def g76_2 : List AV → CM := apS fun t0 => apS fun t1 => apS fun t6 => apS fun t7 => ap0 <|
CM.pu (p2 (binA Tryz.prog .lss 3) t7 t6) fun x0 =>
CM.ifv x0 (
CM.pu (p2 (indexAddrA Tryz.prog 156) t0 t7) fun x1 =>
CM.rm (q1 (loadA Tryz.prog 9) x1 ) fun x2 =>
CM.pu (p2 (binA Tryz.prog .eql 9) x2 t1) fun x3 =>
CM.ifv x3 (
CM.ret (.tup [t7, (.bool true)])) (
CM.pu (p2 (indexAddrA Tryz.prog 156) t0 t7) fun x4 =>
CM.rm (q1 (loadA Tryz.prog 9) x4 ) fun x5 =>
CM.call 134 [x5] fun x6 =>
CM.ifv x6 (
CM.call 134 [t1] fun x7 =>
CM.ret (.tup [t7, x7])) (
CM.ret (.tup [t7, (.bool false)])))) (
CM.ret (.tup [t7, (.bool false)]))
theorem g76_2_ok : LeD (real E Mk Nk) g76_2 (fun ts m => goR E Mk 311298 ts m) := apS_le fun _ => apS_le fun _ => apS_le fun _ => apS_le fun _ => ap0_le fun _ => goR_eq 400 (by kernel_rfl)
noncomputable def f76 : List AV → CM := apS fun a0 => apS fun a1 => ap0 <|
CM.pu (p1 (lenT Tryz.prog 156) a0) fun x0 =>
CM.go 311296 [a0, a1, x0, (.int .i64 0), x0]
theorem f76_ok : LeD (real E Mk Nk) f76 (fun xs m => run E (.fn 76) xs m) := apS_le fun _ => apS_le fun _ => ap0_le fun _ => run_eq 400 rfl (by kernel_rfl) (by kernel_rfl)
noncomputable def g79_0 : List AV → CM := apS fun t0 => apS fun t1 => apS fun t6 => apS fun t7 => apS fun t8 => ap0 <|
CM.pu (p2 (binA Tryz.prog .lss 3) t7 t8) fun x0 =>
CM.cond x0 (
CM.go 323585 [t0, t1, t6, t7, t8]) (
CM.go 323586 [t0, t1, t6, t7])
theorem g79_0_ok : LeD (real E Mk Nk) g79_0 (fun ts m => goR E Mk 323584 ts m) := apS_le fun _ => apS_le fun _ => apS_le fun _ => apS_le fun _ => apS_le fun _ => ap0_le fun _ => goR_eq 400 (by kernel_rfl)
noncomputable def g79_1 : List AV → CM := apS fun t0 => apS fun t1 => apS fun t6 => apS fun t7 => apS fun t8 => ap0 <|
CM.pu (p2 (binA Tryz.prog .add 3) t7 t8) fun x0 =>
CM.pu (p1 (convA Tryz.prog 3 173) x0) fun x1 =>
CM.pu (p2 (binA Tryz.prog .shr 173) x1 (.int .u64 1)) fun x2 =>
CM.pu (p1 (convA Tryz.prog 173 3) x2) fun x3 =>
CM.pu (p2 (indexAddrA Tryz.prog 142) t0 x3) fun x4 =>
CM.rm (q1 (loadA Tryz.prog 30) x4 ) fun x5 =>
CM.call 139 [x5, t1] fun x6 =>
CM.cond x6 (
CM.pu (p2 (binA Tryz.prog .add 3) x3 (.int .i64 1)) fun x7 =>
CM.go 323584 [t0, t1, t6, x7, t8]) (
CM.go 323584 [t0, t1, t6, t7, x3])
theorem g79_1_ok : LeD (real E Mk Nk) g79_1 (fun ts m => goR E Mk 323585 ts m) := apS_le fun _ => apS_le fun _ => apS_le fun _ => apS_le fun _ => apS_le fun _ => ap0_le fun _ => goR_eq 400 (by kernel_rfl)
noncomputable def g79_2 : List AV → CM := apS fun t0 => apS fun t1 => apS fun t6 => apS fun t7 => ap0 <|
CM.pu (p2 (binA Tryz.prog .lss 3) t7 t6) fun x0 =>
CM.ifv x0 (
CM.pu (p2 (indexAddrA Tryz.prog 142) t0 t7) fun x1 =>
CM.rm (q1 (loadA Tryz.prog 30) x1 ) fun x2 =>
CM.pu (p2 (binA Tryz.prog .eql 30) x2 t1) fun x3 =>
CM.ifv x3 (
CM.ret (.tup [t7, (.bool true)])) (
CM.pu (p2 (indexAddrA Tryz.prog 142) t0 t7) fun x4 =>
CM.rm (q1 (loadA Tryz.prog 30) x4 ) fun x5 =>
CM.call 140 [x5] fun x6 =>
CM.ifv x6 (
CM.call 140 [t1] fun x7 =>
CM.ret (.tup [t7, x7])) (
CM.ret (.tup [t7, (.bool false)])))) (
CM.ret (.tup [t7, (.bool false)]))
theorem g79_2_ok : LeD (real E Mk Nk) g79_2 (fun ts m => goR E Mk 323586 ts m) := apS_le fun _ => apS_le fun _ => apS_le fun _ => apS_le fun _ => ap0_le fun _ => goR_eq 400 (by kernel_rfl)
noncomputable def f79 : List AV → CM := apS fun a0 => apS fun a1 => ap0 <|
CM.pu (p1 (lenT Tryz.prog 142) a0) fun x0 =>
CM.go 323584 [a0, a1, x0, (.int .i64 0), x0]
theorem f79_ok : LeD (real E Mk Nk) f79 (fun xs m => run E (.fn 79) xs m) := apS_le fun _ => apS_le fun _ => ap0_le fun _ => run_eq 400 rfl (by kernel_rfl) (by kernel_rfl)
noncomputable def g82_0 : List AV → CM := apS fun t0 => apS fun t4 => apS fun t6 => ap0 <|
CM.pu (p1 nnA t0) fun x0 =>
CM.pu (p1 (fun a => fieldAddrA Tryz.prog 162 a 1) x0) fun x1 =>
CM.rm (q1 (loadA Tryz.prog 47) x1 ) fun x2 =>
CM.pu (p2 (indexAddrA Tryz.prog 47) x2 t6) fun x3 =>
CM.rm (q1 (loadA Tryz.prog 91) x3 ) fun x4 =>
CM.st (fun m => stV m t4 x4 4) <|
CM.resC Tryz.prog [ResultVar.cell 0 91, ResultVar.tmp 1] [t4, (.bool true)]
theorem g82_0_ok : LeD (real E Mk Nk) g82_0 (fun ts m => goR E Mk 335872 ts m) := apS_le fun _ => apS_le fun _ => apS_le fun _ => ap0_le fun _ => goR_eq 400 (by kernel_rfl)
noncomputable def f82 : List AV → CM := apS fun a0 => apS fun a1 => ap0 <|
CM.al (some (.cells [(.int .u64 0), (.str []), (.int .i64 0), (.int .u64 0)] false, pB)) fun x0 =>
CM.pu (p1 nnA a0) fun x1 =>
CM.pu (p1 (fun a => fieldAddrA Tryz.prog 162 a 0) x1) fun x2 =>
CM.rm (q1 (loadA Tryz.prog 142) x2 ) fun x3 =>
CM.call 79 [x3, a1] fun x4 =>
CM.pu (p1 (fun a => extractA a 0) x4) fun x5 =>
CM.pu (p1 (fun a => extractA a 1) x4) fun x6 =>
CM.pu (p1 (unA .not) x6) fun x7 =>
CM.cond x7 (
CM.al (some (.cells [(.int .u64 0), (.str []), (.int .i64 0), (.int .u64 0)] false, pB)) fun x8 =>
CM.rm (q1 (loadA Tryz.prog 91) x8 ) fun x9 =>
CM.st (fun m => stV m x0 x9 4) <|
CM.resC Tryz.prog [ResultVar.cell 0 91, ResultVar.tmp 1] [x0, (.bool false)]) (
CM.go 335872 [a0, x0, x5])
theorem f82_ok : LeD (real E Mk Nk) f82 (fun xs m => run E (.fn 82) xs m) := apS_le fun _ => apS_le fun _ => ap0_le fun _ => run_eq 400 rfl (by kernel_rfl) (by kernel_rfl)
noncomputable def g83_0 : List AV → CM := ap0 <|
CM.ret (.int .i64 1)
theorem g83_0_ok : LeD (real E Mk Nk) g83_0 (fun ts m => goR E Mk 339968 ts m) := ap0_le fun _ => goR_eq 400 (by kernel_rfl)
noncomputable def f83 : List AV → CM := apS fun a0 => ap0 <|
CM.al (boxA a0) fun x0 =>
CM.pu (p1 (fun a => fieldAddrA Tryz.prog 35 a 0) x0) fun x1 =>
CM.rm (q1 (loadA Tryz.prog 2) x1 ) fun x2 =>
CM.pu (p2 (binA Tryz.prog .lss 2) x2 (.int .i64 0)) fun x3 =>
CM.cond x3 (
CM.ret (.int .i64 (-1))) (
CM.pu (p1 (fun a => fieldAddrA Tryz.prog 35 a 0) x0) fun x4 =>
CM.rm (q1 (loadA Tryz.prog 2) x4 ) fun x5 =>
CM.pu (p2 (binA Tryz.prog .eql 2) x5 (.int .i64 0)) fun x6 =>
CM.ifv x6 (
CM.pu (p1 (fun a => fieldAddrA Tryz.prog 35 a 1) x0) fun x7 =>
CM.rm (q1 (loadA Tryz.prog 30) x7 ) fun x8 =>
CM.pu (p2 (binA Tryz.prog .eql 30) x8 (.int .u64 0)) fun x9 =>
CM.cond x9 (
CM.ret (.int .i64 0)) (
CM.go 339968 [])) (
CM.go 339968 []))
theorem f83_ok : LeD (real E Mk Nk) f83 (fun xs m => run E (.fn 83) xs m) := apS_le fun _ => ap0_le fun _ => run_eq 400 rfl (by kernel_rfl) (by kernel_rfl)
noncomputable def g84_0 : List AV → CM := apS fun t4 => apS fun t6 => apS fun t8 => ap0 <|
CM.pu (p1 (convA Tryz.prog 30 2) t8) fun x0 =>
CM.pu (p1 (buildA Tryz.prog 35) [(0, x0), (1, t6)]) fun x1 =>
CM.st (fun m => stV m t4 x1 2) <|
CM.resC Tryz.prog [ResultVar.cell 0 35, ResultVar.tmp 1] [t4, (.int .i64 0)]
theorem g84_0_ok : LeD (real E Mk Nk) g84_0 (fun ts m => goR E Mk 344064 ts m) := apS_le fun _ => apS_le fun _ => apS_le fun _ => ap0_le fun _ => goR_eq 400 (by kernel_rfl)
noncomputable def f84 : List AV → CM := apS fun a0 => apS fun a1 => ap0 <|
CM.al (boxA a0) fun x0 =>
CM.al (boxA a1) fun x1 =>
CM.al (some (.cells [(.int .i64 0), (.int .u64 0)] false, pB)) fun x2 =>
CM.pu (p1 (fun a => fieldAddrA Tryz.prog 35 a 1) x0) fun x3 =>
CM.rm (q1 (loadA Tryz.prog 30) x3 ) fun x4 =>
CM.pu (p1 (fun a => fieldAddrA Tryz.prog 35 a 1) x1) fun x5 =>
CM.rm (q1 (loadA Tryz.prog 30) x5 ) fun x6 =>
CM.call 145 [x4, x6, (.int .u64 0)] fun x7 =>
CM.pu (p1 (fun a => extractA a 0) x7) fun x8 =>
CM.pu (p1 (fun a => extractA a 1) x7) fun x9 =>
CM.pu (p1 (fun a => fieldAddrA Tryz.prog 35 a 0) x0) fun x10 =>
CM.rm (q1 (loadA Tryz.prog 2) x10 ) fun x11 =>
CM.pu (p1 (convA Tryz.prog 2 30) x11) fun x12 =>
CM.pu (p1 (fun a => fieldAddrA Tryz.prog 35 a 0) x1) fun x13 =>
CM.rm (q1 (loadA Tryz.prog 2) x13 ) fun x14 =>
CM.pu (p1 (convA Tryz.prog 2 30) x14) fun x15 =>
CM.call 145 [x12, x15, x9] fun x16 =>
CM.pu (p1 (fun a => extractA a 0) x16) fun x17 =>
CM.pu (p1 (fun a => extractA a 1) x16) fun _ =>
CM.pu (p1 (fun a => fieldAddrA Tryz.prog 35 a 0) x0) fun x19 =>
CM.rm (q1 (loadA Tryz.prog 2) x19 ) fun x20 =>
CM.pu (p2 (binA Tryz.prog .lss 2) x20 (.int .i64 0)) fun x21 =>
CM.pu (p1 (fun a => fieldAddrA Tryz.prog 35 a 0) x1) fun x22 =>
CM.rm (q1 (loadA Tryz.prog 2) x22 ) fun x23 =>
CM.pu (p2 (binA Tryz.prog .lss 2) x23 (.int .i64 0)) fun x24 =>
CM.pu (p2 (binA Tryz.prog .eql 4) x21 x24) fun x25 =>
CM.ifv x25 (
CM.pu (p1 (convA Tryz.prog 30 2) x17) fun x26 =>
CM.pu (p2 (binA Tryz.prog .lss 2) x26 (.int .i64 0)) fun x27 =>
CM.pu (p1 (fun a => fieldAddrA Tryz.prog 35 a 0) x0) fun x28 =>
CM.rm (q1 (loadA Tryz.prog 2) x28 ) fun x29 =>
CM.pu (p2 (binA Tryz.prog .lss 2) x29 (.int .i64 0)) fun x30 =>
CM.pu (p2 (binA Tryz.prog .neq 4) x27 x30) fun x31 =>
CM.cond x31 (
CM.pu (p1 (buildA Tryz.prog 35) []) fun x32 =>
CM.st (fun m => stV m x2 x32 2) <|
CM.resC Tryz.prog [ResultVar.cell 0 35, ResultVar.tmp 1] [x2, (.int .i64 20)]) (
CM.go 344064 [x2, x8, x17])) (
CM.go 344064 [x2, x8, x17])
theorem f84_ok : LeD (real E Mk Nk) f84 (fun xs m => run E (.fn 84) xs m) := apS_le fun _ => apS_le fun _ => ap0_le fun _ => run_eq 400 rfl (by kernel_rfl) (by kernel_rfl)
noncomputable def f85 : List AV → CM := apS fun a0 => ap0 <|
CM.al (boxA a0) fun x0 =>
CM.pu (p1 (fun a => fieldAddrA Tryz.prog 37 a 1) x0) fun x1 =>
CM.rm (q1 (loadA Tryz.prog 3) x1 ) fun x2 =>
CM.call 146 [x2] fun x3 =>
CM.ret x3
theorem f85_ok : LeD (real E Mk Nk) f85 (fun xs m => run E (.fn 85) xs m) := apS_le fun _ => ap0_le fun _ => run_eq 400 rfl (by kernel_rfl) (by kernel_rfl)
noncomputable def f86 : List AV → CM := apS fun a0 => ap0 <|
CM.al (boxA a0) fun x0 =>
CM.rm (q1 (loadA Tryz.prog 37) x0 ) fun x1 =>
CM.pu (p1 (buildA Tryz.prog 37) []) fun x2 =>
CM.call 147 [x1, x2] fun x3 =>
CM.pu (p1 (fun a => extractA a 0) x3) fun x4 =>
CM.pu (p1 (fun a => extractA a 1) x3) fun x5 =>
CM.pu (p2 (binA Tryz.prog .eql 25) x5 (.int .i64 0)) fun x6 =>
CM.ifv x6 (
CM.pu (p2 (binA Tryz.prog .gtr 3) x4 (.int .i64 0)) fun x7 =>
CM.ret x7) (
CM.ret (.bool false))
theorem f86_ok : LeD (real E Mk Nk) f86 (fun xs m => run E (.fn 86) xs m) := apS_le fun _ => ap0_le fun _ => run_eq 400 rfl (by kernel_rfl) (by kernel_rfl)
noncomputable def g88_0 : List AV → CM := ap0 <|
CM.ret (.int .i64 1)
theorem g88_0_ok : LeD (real E Mk Nk) g88_0 (fun ts m => goR E Mk 360448 ts m) := ap0_le fun _ => goR_eq 400 (by kernel_rfl)
noncomputable def f88 : List AV → CM := apS fun a0 => apS fun a1 => ap0 <|
CM.al (boxA a0) fun x0 =>
CM.al (boxA a1) fun x1 =>
CM.pu (p1 (fun a => fieldAddrA Tryz.prog 35 a 0) x0) fun x2 =>
CM.rm (q1 (loadA Tryz.prog 2) x2 ) fun x3 =>
CM.pu (p1 (fun a => fieldAddrA Tryz.prog 35 a 0) x1) fun x4 =>
CM.rm (q1 (loadA Tryz.prog 2) x4 ) fun x5 =>
CM.pu (p2 (binA Tryz.prog .lss 2) x3 x5) fun x6 =>
CM.ifv x6 (
CM.ret (.int .i64 (-1))) (
CM.pu (p1 (fun a => fieldAddrA Tryz.prog 35 a 0) x0) fun x7 =>
CM.rm (q1 (loadA Tryz.prog 2) x7 ) fun x8 =>
CM.pu (p1 (fun a => fieldAddrA Tryz.prog 35 a 0) x1) fun x9 =>
CM.rm (q1 (loadA Tryz.prog 2) x9 ) fun x10 =>
CM.pu (p2 (binA Tryz.prog .eql 2) x8 x10) fun x11 =>
CM.ifv x11 (
CM.pu (p1 (fun a => fieldAddrA Tryz.prog 35 a 1) x0) fun x12 =>
CM.rm (q1 (loadA Tryz.prog 30) x12 ) fun x13 =>
CM.pu (p1 (fun a => fieldAddrA Tryz.prog 35 a 1) x1) fun x14 =>
CM.rm (q1 (loadA Tryz.prog 30) x14 ) fun x15 =>
CM.pu (p2 (binA Tryz.prog .lss 30) x13 x15) fun x16 =>
CM.cond x16 (
CM.ret (.int .i64 (-1))) (
CM.rm (q1 (loadA Tryz.prog 35) x0 ) fun x17 =>
CM.rm (q1 (loadA Tryz.prog 35) x1 ) fun x18 =>
CM.pu (p2 (binA Tryz.prog .eql 35) x17 x18) fun x19 =>
CM.cond x19 (
CM.ret (.int .i64 0)) (
CM.go 360448 []))) (
CM.rm (q1 (loadA Tryz.prog 35) x0 ) fun x20 =>
CM.rm (q1 (loadA Tryz.prog 35) x1 ) fun x21 =>
CM.pu (p2 (binA Tryz.prog .eql 35) x20 x21) fun x22 =>
CM.cond x22 (
CM.ret (.int .i64 0)) (
CM.go 360448 [])))
theorem f88_ok : LeD (real E Mk Nk) f88 (fun xs m => run E (.fn 88) xs m) := apS_le fun _ => apS_le fun _ => ap0_le fun _ => run_eq 400 rfl (by kernel_rfl) (by kernel_rfl)
noncomputable def g89_0 : List AV → CM := apS fun t2 => apS fun t3 => apS fun t4 => apS fun t6 => ap0 <|
CM.pu (p1 (fun a => fieldAddrA Tryz.prog 37 a 1) t3) fun x0 =>
CM.rm (q1 (loadA Tryz.prog 3) x0 ) fun x1 =>
CM.pu (p1 (fun a => fieldAddrA Tryz.prog 37 a 1) t4) fun x2 =>
CM.rm (q1 (loadA Tryz.prog 3) x2 ) fun x3 =>
CM.pu (p2 (binA Tryz.prog .add 3) x1 x3) fun x4 =>
CM.pu (p2 (binA Tryz.prog .sub 3) x4 t2) fun x5 =>
CM.al (some (.cells [(.int .i64 0), (.int .u64 0)] false, pB)) fun x6 =>
CM.pu (p2 (binA Tryz.prog .geq 3) x5 (.int .i64 0)) fun x7 =>
CM.cond x7 (
CM.pu (p1 (fun a => fieldAddrA Tryz.prog 37 a 0) t3) fun x8 =>
CM.rm (q1 (loadA Tryz.prog 35) x8 ) fun x9 =>
CM.pu (p1 (fun a => fieldAddrA Tryz.prog 37 a 0) t4) fun x10 =>
CM.rm (q1 (loadA Tryz.prog 35) x10 ) fun x11 =>
CM.call 150 [x9, x11, x5] fun x12 =>
CM.pu (p1 (fun a => extractA a 0) x12) fun x13 =>
CM.pu (p1 (fun a => extractA a 1) x12) fun x14 =>
CM.st (fun m => stV m x6 x13 2) <|
CM.go 364545 [t2, t6, x6, x14]) (
CM.pu (p1 (fun a => fieldAddrA Tryz.prog 37 a 0) t3) fun x16 =>
CM.rm (q1 (loadA Tryz.prog 35) x16 ) fun x17 =>
CM.pu (p1 (fun a => fieldAddrA Tryz.prog 37 a 0) t4) fun x18 =>
CM.rm (q1 (loadA Tryz.prog 35) x18 ) fun x19 =>
CM.call 151 [x17, x19] fun x20 =>
CM.pu (p1 (fun a => extractA a 0) x20) fun x21 =>
CM.pu (p1 (fun a => extractA a 1) x20) fun x22 =>
CM.st (fun m => stV m x6 x21 2) <|
CM.pu (p2 (binA Tryz.prog .eql 25) x22 (.int .i64 0)) fun x24 =>
CM.cond x24 (
CM.rm (q1 (loadA Tryz.prog 35) x6 ) fun x25 =>
CM.pu (p1 (unA .neg) x5) fun x26 =>
CM.call 152 [x25, x26] fun x27 =>
CM.pu (p1 (fun a => extractA a 0) x27) fun x28 =>
CM.pu (p1 (fun a => extractA a 1) x27) fun x29 =>
CM.st (fun m => stV m x6 x28 2) <|
CM.go 364545 [t2, t6, x6, x29]) (
CM.go 364545 [t2, t6, x6, x22]))
theorem g89_0_ok : LeD (real E Mk Nk) g89_0 (fun ts m => goR E Mk 364544 ts m) := apS_le fun _ => apS_le fun _ => apS_le fun _ => apS_le fun _ => ap0_le fun _ => goR_eq 400 (by kernel_rfl)
noncomputable def g89_1 : List AV → CM := apS fun t2 => apS fun t6 => apS fun t9 => apS fun t10 => ap0 <|
CM.pu (p2 (binA Tryz.prog .neq 25) t10 (.int .i64 0)) fun x0 =>
CM.cond x0 (
CM.pu (p1 (buildA Tryz.prog 37) []) fun x1 =>
CM.st (fun m => stV m t6 x1 3) <|
CM.resC Tryz.prog [ResultVar.cell 0 37, ResultVar.tmp 1] [t6, t10]) (
CM.go 364546 [t2, t6, t9])
theorem g89_1_ok : LeD (real E Mk Nk) g89_1 (fun ts m => goR E Mk 364545 ts m) := apS_le fun _ => apS_le fun _ => apS_le fun _ => apS_le fun _ => ap0_le fun _ => goR_eq 400 (by kernel_rfl)
noncomputable def g89_2 : List AV → CM := apS fun t2 => apS fun t6 => apS fun t9 => ap0 <|
CM.rm (q1 (loadA Tryz.prog 35) t9 ) fun x0 =>
CM.pu (p1 (buildA Tryz.prog 37) [(0, x0), (1, t2)]) fun x1 =>
CM.st (fun m => stV m t6 x1 3) <|
CM.resC Tryz.prog [ResultVar.cell 0 37, ResultVar.tmp 1] [t6, (.int .i64 0)]
theorem g89_2_ok : LeD (real E Mk Nk) g89_2 (fun ts m => goR E Mk 364546 ts m) := apS_le fun _ => apS_le fun _ => apS_le fun _ => ap0_le fun _ => goR_eq 400 (by kernel_rfl)
noncomputable def f89 : List AV → CM := apS fun a0 => apS fun a1 => apS fun a2 => ap0 <|
CM.al (boxA a0) fun x0 =>
CM.al (boxA a1) fun x1 =>
CM.al (some (.cells [(.int .i64 0), (.int .u64 0), (.int .i64 0)] false, pB)) fun x2 =>
CM.rm (q1 (loadA Tryz.prog 37) x0 ) fun x3 =>
CM.call 85 [x3] fun x4 =>
CM.pu (p1 (unA .not) x4) fun x5 =>
CM.ifv x5 (
CM.pu (p1 (buildA Tryz.prog 37) []) fun x6 =>
CM.st (fun m => stV m x2 x6 3) <|
CM.resC Tryz.prog [ResultVar.cell 0 37, ResultVar.tmp 1] [x2, (.int .i64 21)]) (
CM.rm (q1 (loadA Tryz.prog 37) x1 ) fun x8 =>
CM.call 85 [x8] fun x9 =>
CM.pu (p1 (unA .not) x9) fun x10 =>
CM.ifv x10 (
CM.pu (p1 (buildA Tryz.prog 37) []) fun x11 =>
CM.st (fun m => stV m x2 x11 3) <|
CM.resC Tryz.prog [ResultVar.cell 0 37, ResultVar.tmp 1] [x2, (.int .i64 21)]) (
CM.call 146 [a2] fun x13 =>
CM.pu (p1 (unA .not) x13) fun x14 =>
CM.cond x14 (
CM.pu (p1 (buildA Tryz.prog 37) []) fun x15 =>
CM.st (fun m => stV m x2 x15 3) <|
CM.resC Tryz.prog [ResultVar.cell 0 37, ResultVar.tmp 1] [x2, (.int .i64 21)]) (
CM.go 364544 [a2, x0, x1, x2])))
theorem f89_ok : LeD (real E Mk Nk) f89 (fun xs m => run E (.fn 89) xs m) := apS_le fun _ => apS_le fun _ => apS_le fun _ => ap0_le fun _ => run_eq 400 rfl (by kernel_rfl) (by kernel_rfl)
noncomputable def g90_0 : List AV → CM := apS fun t1 => apS fun t2 => apS fun t4 => ap0 <|
CM.pu (p2 (binA Tryz.prog .lss 3) t4 (.int .i64 16)) fun x0 =>
CM.cond x0 (
CM.go 368641 [t1, t2, t4]) (
CM.go 368643 [t1, t2])
theorem g90_0_ok : LeD (real E Mk Nk) g90_0 (fun ts m => goR E Mk 368640 ts m) := apS_le fun _ => apS_le fun _ => apS_le fun _ => ap0_le fun _ => goR_eq 400 (by kernel_rfl)
noncomputable def g90_1 : List AV → CM := apS fun t1 => apS fun t2 => apS fun t4 => ap0 <|
CM.pu (p1 (fun a => fieldAddrA Tryz.prog 116 a 1) t1) fun x0 =>
CM.pu (p2 (indexAddrA Tryz.prog 114) x0 t4) fun x1 =>
CM.rm (q1 (loadA Tryz.prog 30) x1 ) fun x2 =>
CM.pu (p2 (binA Tryz.prog .neq 30) x2 (.int .u64 0)) fun x3 =>
CM.cond x3 (
CM.pu (p1 (buildA Tryz.prog 35) []) fun x4 =>
CM.st (fun m => stV m t2 x4 2) <|
CM.resC Tryz.prog [ResultVar.cell 0 35, ResultVar.tmp 1] [t2, (.bool false)]) (
CM.go 368642 [t1, t2, t4])
theorem g90_1_ok : LeD (real E Mk Nk) g90_1 (fun ts m => goR E Mk 368641 ts m) := apS_le fun _ => apS_le fun _ => apS_le fun _ => ap0_le fun _ => goR_eq 400 (by kernel_rfl)
noncomputable def g90_2 : List AV → CM := apS fun t1 => apS fun t2 => apS fun t4 => ap0 <|
CM.pu (p2 (binA Tryz.prog .add 3) t4 (.int .i64 1)) fun x0 =>
CM.go 368640 [t1, t2, x0]
theorem g90_2_ok : LeD (real E Mk Nk) g90_2 (fun ts m => goR E Mk 368642 ts m) := apS_le fun _ => apS_le fun _ => apS_le fun _ => ap0_le fun _ => goR_eq 400 (by kernel_rfl)
noncomputable def g90_3 : List AV → CM := apS fun t1 => apS fun t2 => ap0 <|
CM.pu (p1 (fun a => fieldAddrA Tryz.prog 116 a 1) t1) fun x0 =>
CM.pu (p2 (indexAddrA Tryz.prog 114) x0 (.int .i64 0)) fun x1 =>
CM.rm (q1 (loadA Tryz.prog 30) x1 ) fun x2 =>
CM.pu (p1 (fun a => fieldAddrA Tryz.prog 116 a 1) t1) fun x3 =>
CM.pu (p2 (indexAddrA Tryz.prog 114) x3 (.int .i64 1)) fun x4 =>
CM.rm (q1 (loadA Tryz.prog 30) x4 ) fun x5 =>
CM.pu (p2 (binA Tryz.prog .shl 30) x5 (.int .u64 32)) fun x6 =>
CM.pu (p2 (binA Tryz.prog .add 30) x2 x6) fun x7 =>
CM.pu (p1 (fun a => fieldAddrA Tryz.prog 116 a 1) t1) fun x8 =>
CM.pu (p2 (indexAddrA Tryz.prog 114) x8 (.int .i64 2)) fun x9 =>
CM.rm (q1 (loadA Tryz.prog 30) x9 ) fun x10 =>
CM.pu (p1 (fun a => fieldAddrA Tryz.prog 116 a 1) t1) fun x11 =>
CM.pu (p2 (indexAddrA Tryz.prog 114) x11 (.int .i64 3)) fun x12 =>
CM.rm (q1 (loadA Tryz.prog 30) x12 ) fun x13 =>
CM.pu (p2 (binA Tryz.prog .shl 30) x13 (.int .u64 32)) fun x14 =>
CM.pu (p2 (binA Tryz.prog .add 30) x10 x14) fun x15 =>
CM.pu (p1 (fun a => fieldAddrA Tryz.prog 116 a 0) t1) fun x16 =>
CM.rm (q1 (loadA Tryz.prog 4) x16 ) fun x17 =>
CM.pu (p1 (unA .not) x17) fun x18 =>
CM.cond x18 (
CM.pu (p1 (convA Tryz.prog 30 2) x15) fun x19 =>
CM.pu (p1 (buildA Tryz.prog 35) [(0, x19), (1, x7)]) fun x20 =>
CM.pu (p2 (binA Tryz.prog .lss 30) x15 (.int .u64 9223372036854775808)) fun x21 =>
CM.st (fun m => stV m t2 x20 2) <|
CM.resC Tryz.prog [ResultVar.cell 0 35, ResultVar.tmp 1] [t2, x21]) (
CM.go 368644 [t2, x7, x15])
theorem g90_3_ok : LeD (real E Mk Nk) g90_3 (fun ts m => goR E Mk 368643 ts m) := apS_le fun _ => apS_le fun _ => ap0_le fun _ => goR_eq 400 (by kernel_rfl)
noncomputable def g90_4 : List AV → CM := apS fun t2 => apS fun t5 => apS fun t6 => ap0 <|
CM.pu (p2 (binA Tryz.prog .gtr 30) t6 (.int .u64 9223372036854775808)) fun x0 =>
CM.ifv x0 (
CM.pu (p1 (buildA Tryz.prog 35) []) fun x1 =>
CM.st (fun m => stV m t2 x1 2) <|
CM.resC Tryz.prog [ResultVar.cell 0 35, ResultVar.tmp 1] [t2, (.bool false)]) (
CM.pu (p2 (binA Tryz.prog .eql 30) t6 (.int .u64 9223372036854775808)) fun x3 =>
CM.ifv x3 (
CM.pu (p2 (binA Tryz.prog .gtr 30) t5 (.int .u64 0)) fun x4 =>
CM.cond x4 (
CM.pu (p1 (buildA Tryz.prog 35) []) fun x5 =>
CM.st (fun m => stV m t2 x5 2) <|
CM.resC Tryz.prog [ResultVar.cell 0 35, ResultVar.tmp 1] [t2, (.bool false)]) (
CM.go 368645 [t2, t5, t6])) (
CM.go 368645 [t2, t5, t6]))
theorem g90_4_ok : LeD (real E Mk Nk) g90_4 (fun ts m => goR E Mk 368644 ts m) := apS_le fun _ => apS_le fun _ => apS_le fun _ => ap0_le fun _ => goR_eq 400 (by kernel_rfl)
noncomputable def g90_5 : List AV → CM := apS fun t2 => apS fun t5 => apS fun t6 => ap0 <|
CM.pu (p1 (unA .xor) t5) fun x0 =>
CM.pu (p1 (unA .xor) t6) fun x1 =>
CM.pu (p2 (binA Tryz.prog .add 30) x0 (.int .u64 1)) fun x2 =>
CM.pu (p2 (binA Tryz.prog .eql 30) x2 (.int .u64 0)) fun x3 =>
CM.cond x3 (
CM.pu (p2 (binA Tryz.prog .add 30) x1 (.int .u64 1)) fun x4 =>
CM.go 368646 [t2, x2, x4]) (
CM.go 368646 [t2, x2, x1])
theorem g90_5_ok : LeD (real E Mk Nk) g90_5 (fun ts m => goR E Mk 368645 ts m) := apS_le fun _ => apS_le fun _ => apS_le fun _ => ap0_le fun _ => goR_eq 400 (by kernel_rfl)
noncomputable def g90_6 : List AV → CM := apS fun t2 => apS fun t5 => apS fun t6 => ap0 <|
CM.pu (p1 (convA Tryz.prog 30 2) t6) fun x0 =>
CM.pu (p1 (buildA Tryz.prog 35) [(0, x0), (1, t5)]) fun x1 =>
CM.st (fun m => stV m t2 x1 2) <|
CM.resC Tryz.prog [ResultVar.cell 0 35, ResultVar.tmp 1] [t2, (.bool true)]
theorem g90_6_ok : LeD (real E Mk Nk) g90_6 (fun ts m => goR E Mk 368646 ts m) := apS_le fun _ => apS_le fun _ => apS_le fun _ => ap0_le fun _ => goR_eq 400 (by kernel_rfl)
noncomputable def f90 : List AV → CM := apS fun a0 => ap0 <|
CM.al (boxA a0) fun x0 =>
CM.al (some (.cells [(.int .i64 0), (.int .u64 0)] false, pB)) fun x1 =>
CM.go 368640 [x0, x1, (.int .i64 4)]
theorem f90_ok : LeD (real E Mk Nk) f90 (fun xs m => run E (.fn 90) xs m) := apS_le fun _ => ap0_le fun _ => run_eq 400 rfl (by kernel_rfl) (by kernel_rfl)
noncomputable def g91_0 : List AV → CM := apS fun t0 => apS fun t2 => apS fun t3 => apS fun t4 => apS fun t5 => ap0 <|
CM.pu (p2 (binA Tryz.prog .lss 3) t5 t0) fun x0 =>
CM.cond x0 (
CM.go 372737 [t0, t2, t3, t4, t5]) (
CM.go 372739 [t2, t3])
theorem g91_0_ok : LeD (real E Mk Nk) g91_0 (fun ts m => goR E Mk 372736 ts m) := apS_le fun _ => apS_le fun _ => apS_le fun _ => apS_le fun _ => apS_le fun _ => ap0_le fun _ => goR_eq 400 (by kernel_rfl)
noncomputable def g91_1 : List AV → CM := apS fun t0 => apS fun t2 => apS fun t3 => apS fun t4 => apS fun t5 => ap0 <|
CM.rm (q1 (loadA Tryz.prog 114) t3 ) fun x0 =>
CM.rm (q1 (loadA Tryz.prog 114) t4 ) fun x1 =>
CM.call 96 [x0, x1] fun x2 =>
CM.st (fun m => stV m t3 x2 16) <|
CM.go 372738 [t0, t2, t3, t4, t5]
theorem g91_1_ok : LeD (real E Mk Nk) g91_1 (fun ts m => goR E Mk 372737 ts m) := apS_le fun _ => apS_le fun _ => apS_le fun _ => apS_le fun _ => apS_le fun _ => ap0_le fun _ => goR_eq 400 (by kernel_rfl)
noncomputable def g91_2 : List AV → CM := apS fun t0 => apS fun t2 => apS fun t3 => apS fun t4 => apS fun t5 => ap0 <|
CM.pu (p2 (binA Tryz.prog .add 3) t5 (.int .i64 1)) fun x0 =>
CM.go 372736 [t0, t2, t3, t4, x0]
theorem g91_2_ok : LeD (real E Mk Nk) g91_2 (fun ts m => goR E Mk 372738 ts m) := apS_le fun _ => apS_le fun _ => apS_le fun _ => apS_le fun _ => apS_le fun _ => ap0_le fun _ => goR_eq 400 (by kernel_rfl)
noncomputable def g91_3 : List AV → CM := apS fun t2 => apS fun t3 => ap0 <|
CM.rm (q1 (loadA Tryz.prog 114) t3 ) fun x0 =>
CM.st (fun m => stV m t2 x0 16) <|
CM.resC Tryz.prog [ResultVar.cell 0 114] [t2]
theorem g91_3_ok : LeD (real E Mk Nk) g91_3 (fun ts m => goR E Mk 372739 ts m) := apS_le fun _ => apS_le fun _ => ap0_le fun _ => goR_eq 400 (by kernel_rfl)
noncomputable def f91 : List AV → CM := apS fun a0 => ap0 <|
CM.al (some (.cells [(.int .u64 0), (.int .u64 0), (.int .u64 0), (.int .u64 0), (.int .u64 0), (.int .u64 0), (.int .u64 0), (.int .u64 0), (.int .u64 0), (.int .u64 0), (.int .u64 0), (.int .u64 0), (.int .u64 0), (.int .u64 0), (.int .u64 0), (.int .u64 0)] false, pB)) fun x0 =>
CM.al (some (.cells [(.int .u64 0), (.int .u64 0), (.int .u64 0), (.int .u64 0), (.int .u64 0), (.int .u64 0), (.int .u64 0), (.int .u64 0), (.int .u64 0), (.int .u64 0), (.int .u64 0), (.int .u64 0), (.int .u64 0), (.int .u64 0), (.int .u64 0), (.int .u64 0)] false, pB)) fun x1 =>
CM.al (some (.cells [(.int .u64 0), (.int .u64 0), (.int .u64 0), (.int .u64 0), (.int .u64 0), (.int .u64 0), (.int .u64 0), (.int .u64 0), (.int .u64 0), (.int .u64 0), (.int .u64 0), (.int .u64 0), (.int .u64 0), (.int .u64 0), (.int .u64 0), (.int .u64 0)] false, pB)) fun x2 =>
CM.pu (p2 (indexAddrA Tryz.prog 114) x1 (.int .i64 0)) fun x3 =>
CM.st (fun m => stV m x3 (.int .u64 1) 1) <|
CM.pu (p2 (indexAddrA Tryz.prog 114) x2 (.int .i64 0)) fun x5 =>
CM.st (fun m => stV m x5 (.int .u64 10) 1) <|
CM.go 372736 [a0, x0, x1, x2, (.int .i64 0)]
theorem f91_ok : LeD (real E Mk Nk) f91 (fun xs m => run E (.fn 91) xs m) := apS_le fun _ => ap0_le fun _ => run_eq 400 rfl (by kernel_rfl) (by kernel_rfl)
noncomputable def g92_0 : List AV → CM := apS fun t2 => apS fun t3 => apS fun t4 => apS fun t5 => apS fun t6 => ap0 <|
CM.pu (p2 (binA Tryz.prog .geq 3) t6 (.int .i64 0)) fun x0 =>
CM.cond x0 (
CM.go 376833 [t2, t3, t4, t5, t6]) (
CM.go 376835 [t4, t5])
theorem g92_0_ok : LeD (real E Mk Nk) g92_0 (fun ts m => goR E Mk 376832 ts m) := apS_le fun _ => apS_le fun _ => apS_le fun _ => apS_le fun _ => apS_le fun _ => ap0_le fun _ => goR_eq 400 (by kernel_rfl)
noncomputable def g92_1 : List AV → CM := apS fun t2 => apS fun t3 => apS fun t4 => apS fun t5 => apS fun t6 => ap0 <|
CM.rm (q1 (loadA Tryz.prog 114) t5 ) fun x0 =>
CM.rm (q1 (loadA Tryz.prog 114) t5 ) fun x1 =>
CM.call 94 [x0, x1] fun x2 =>
CM.st (fun m => stV m t5 x2 16) <|
CM.pu (p2 (indexAddrA Tryz.prog 114) t5 (.int .i64 0)) fun x4 =>
CM.rm (q1 (loadA Tryz.prog 30) x4 ) fun x5 =>
CM.pu (p2 (binA Tryz.prog .quo 3) t6 (.int .i64 32)) fun x6 =>
CM.pu (p2 (indexAddrA Tryz.prog 114) t2 x6) fun x7 =>
CM.rm (q1 (loadA Tryz.prog 30) x7 ) fun x8 =>
CM.pu (p1 (convA Tryz.prog 3 173) t6) fun x9 =>
CM.pu (p2 (binA Tryz.prog .rem 173) x9 (.int .u64 32)) fun x10 =>
CM.pu (p2 (binA Tryz.prog .shr 30) x8 x10) fun x11 =>
CM.pu (p2 (binA Tryz.prog .rem 30) x11 (.int .u64 2)) fun x12 =>
CM.pu (p2 (binA Tryz.prog .add 30) x5 x12) fun x13 =>
CM.pu (p2 (indexAddrA Tryz.prog 114) t5 (.int .i64 0)) fun x14 =>
CM.st (fun m => stV m x14 x13 1) <|
CM.rm (q1 (loadA Tryz.prog 114) t5 ) fun x18 =>
CM.rm (q1 (loadA Tryz.prog 114) t3 ) fun x19 =>
CM.call 93 [x18, x19] fun x20 =>
CM.pu (p2 (binA Tryz.prog .geq 3) x20 (.int .i64 0)) fun x21 =>
CM.cond x21 (
CM.rm (q1 (loadA Tryz.prog 114) t5 ) fun x22 =>
CM.rm (q1 (loadA Tryz.prog 114) t3 ) fun x23 =>
CM.call 153 [x22, x23] fun x24 =>
CM.st (fun m => stV m t5 x24 16) <|
CM.pu (p2 (binA Tryz.prog .quo 3) t6 (.int .i64 32)) fun x26 =>
CM.pu (p2 (binA Tryz.prog .quo 3) t6 (.int .i64 32)) fun x27 =>
CM.pu (p2 (indexAddrA Tryz.prog 114) t4 x27) fun x28 =>
CM.rm (q1 (loadA Tryz.prog 30) x28 ) fun x29 =>
CM.pu (p1 (convA Tryz.prog 3 173) t6) fun x30 =>
CM.pu (p2 (binA Tryz.prog .rem 173) x30 (.int .u64 32)) fun x31 =>
CM.pu (p2 (binA Tryz.prog .shl 30) (.int .u64 1) x31) fun x32 =>
CM.pu (p2 (binA Tryz.prog .add 30) x29 x32) fun x33 =>
CM.pu (p2 (indexAddrA Tryz.prog 114) t4 x26) fun x34 =>
CM.st (fun m => stV m x34 x33 1) <|
CM.go 376834 [t2, t3, t4, t5, t6]) (
CM.go 376834 [t2, t3, t4, t5, t6])
theorem g92_1_ok : LeD (real E Mk Nk) g92_1 (fun ts m => goR E Mk 376833 ts m) := apS_le fun _ => apS_le fun _ => apS_le fun _ => apS_le fun _ => apS_le fun _ => ap0_le fun _ => goR_eq 400 (by kernel_rfl)
noncomputable def g92_2 : List AV → CM := apS fun t2 => apS fun t3 => apS fun t4 => apS fun t5 => apS fun t6 => ap0 <|
CM.pu (p2 (binA Tryz.prog .sub 3) t6 (.int .i64 1)) fun x0 =>
CM.go 376832 [t2, t3, t4, t5, x0]
theorem g92_2_ok : LeD (real E Mk Nk) g92_2 (fun ts m => goR E Mk 376834 ts m) := apS_le fun _ => apS_le fun _ => apS_le fun _ => apS_le fun _ => apS_le fun _ => ap0_le fun _ => goR_eq 400 (by kernel_rfl)
noncomputable def g92_3 : List AV → CM := apS fun t4 => apS fun t5 => ap0 <|
CM.rm (q1 (loadA Tryz.prog 114) t4 ) fun x0 =>
CM.rm (q1 (loadA Tryz.prog 114) t5 ) fun x1 =>
CM.st (fun m => stV m t4 x0 16) <|
CM.memo fun m4 =>
CM.chk (q1 (loadA Tryz.prog 114) t5 m4) x1 <|
CM.st (fun m => stV m t5 x1 16) <|
CM.resC Tryz.prog [ResultVar.cell 0 114, ResultVar.cell 1 114] [t4, t5]
theorem g92_3_ok : LeD (real E Mk Nk) g92_3 (fun ts m => goR E Mk 376835 ts m) := apS_le fun _ => apS_le fun _ => ap0_le fun _ => goR_eq 400 (by kernel_rfl)
noncomputable def f92 : List AV → CM := apS fun a0 => apS fun a1 => ap0 <|
CM.al (boxA a0) fun x0 =>
CM.al (boxA a1) fun x1 =>
CM.al (some (.cells [(.int .u64 0), (.int .u64 0), (.int .u64 0), (.int .u64 0), (.int .u64 0), (.int .u64 0), (.int .u64 0), (.int .u64 0), (.int .u64 0), (.int .u64 0), (.int .u64 0), (.int .u64 0), (.int .u64 0), (.int .u64 0), (.int .u64 0), (.int .u64 0)] false, pB)) fun x2 =>
CM.al (some (.cells [(.int .u64 0), (.int .u64 0), (.int .u64 0), (.int .u64 0), (.int .u64 0), (.int .u64 0), (.int .u64 0), (.int .u64 0), (.int .u64 0), (.int .u64 0), (.int .u64 0), (.int .u64 0), (.int .u64 0), (.int .u64 0), (.int .u64 0), (.int .u64 0)] false, pB)) fun x3 =>
CM.go 376832 [x0, x1, x2, x3, (.int .i64 511)]
theorem f92_ok : LeD (real E Mk Nk) f92 (fun xs m => run E (.fn 92) xs m) := apS_le fun _ => apS_le fun _ => ap0_le fun _ => run_eq 400 rfl (by kernel_rfl) (by kernel_rfl)
noncomputable def g93_0 : List AV → CM := apS fun t2 => apS fun t3 => apS fun t5 => ap0 <|
CM.pu (p2 (binA Tryz.prog .geq 3) t5 (.int .i64 0)) fun x0 =>
CM.cond x0 (
CM.go 380929 [t2, t3, t5]) (
CM.go 380932 [])
theorem g93_0_ok : LeD (real E Mk Nk) g93_0 (fun ts m => goR E Mk 380928 ts m) := apS_le fun _ => apS_le fun _ => apS_le fun _ => ap0_le fun _ => goR_eq 400 (by kernel_rfl)
noncomputable def g93_1 : List AV → CM := apS fun t2 => apS fun t3 => apS fun t5 => ap0 <|
CM.pu (p2 (indexAddrA Tryz.prog 114) t2 t5) fun x0 =>
CM.rm (q1 (loadA Tryz.prog 30) x0 ) fun x1 =>
CM.pu (p2 (indexAddrA Tryz.prog 114) t3 t5) fun x2 =>
CM.rm (q1 (loadA Tryz.prog 30) x2 ) fun x3 =>
CM.pu (p2 (binA Tryz.prog .neq 30) x1 x3) fun x4 =>
CM.cond x4 (
CM.pu (p2 (indexAddrA Tryz.prog 114) t2 t5) fun x5 =>
CM.rm (q1 (loadA Tryz.prog 30) x5 ) fun x6 =>
CM.pu (p2 (indexAddrA Tryz.prog 114) t3 t5) fun x7 =>
CM.rm (q1 (loadA Tryz.prog 30) x7 ) fun x8 =>
CM.pu (p2 (binA Tryz.prog .lss 30) x6 x8) fun x9 =>
CM.cond x9 (
CM.ret (.int .i64 (-1))) (
CM.go 380930 [])) (
CM.go 380931 [t2, t3, t5])
theorem g93_1_ok : LeD (real E Mk Nk) g93_1 (fun ts m => goR E Mk 380929 ts m) := apS_le fun _ => apS_le fun _ => apS_le fun _ => ap0_le fun _ => goR_eq 400 (by kernel_rfl)
noncomputable def g93_2 : List AV → CM := ap0 <|
CM.ret (.int .i64 1)
theorem g93_2_ok : LeD (real E Mk Nk) g93_2 (fun ts m => goR E Mk 380930 ts m) := ap0_le fun _ => goR_eq 400 (by kernel_rfl)
noncomputable def g93_3 : List AV → CM := apS fun t2 => apS fun t3 => apS fun t5 => ap0 <|
CM.pu (p2 (binA Tryz.prog .sub 3) t5 (.int .i64 1)) fun x0 =>
CM.go 380928 [t2, t3, x0]
theorem g93_3_ok : LeD (real E Mk Nk) g93_3 (fun ts m => goR E Mk 380931 ts m) := apS_le fun _ => apS_le fun _ => apS_le fun _ => ap0_le fun _ => goR_eq 400 (by kernel_rfl)
noncomputable def g93_4 : List AV → CM := ap0 <|
CM.ret (.int .i64 0)
theorem g93_4_ok : LeD (real E Mk Nk) g93_4 (fun ts m => goR E Mk 380932 ts m) := ap0_le fun _ => goR_eq 400 (by kernel_rfl)
noncomputable def f93 : List AV → CM := apS fun a0 => apS fun a1 => ap0 <|
CM.al (boxA a0) fun x0 =>
CM.al (boxA a1) fun x1 =>
CM.go 380928 [x0, x1, (.int .i64 15)]
theorem f93_ok : LeD (real E Mk Nk) f93 (fun xs m => run E (.fn 93) xs m) := apS_le fun _ => apS_le fun _ => ap0_le fun _ => run_eq 400 rfl (by kernel_rfl) (by kernel_rfl)
noncomputable def g94_0 : List AV → CM := apS fun t2 => apS fun t3 => apS fun t4 => apS fun t5 => apS fun t6 => apS fun t7 => ap0 <|
CM.pu (p2 (binA Tryz.prog .lss 3) t7 (.int .i64 16)) fun x0 =>
CM.cond x0 (
CM.go 385025 [t2, t3, t4, t5, t6, t7]) (
CM.go 385027 [t4, t5])
theorem g94_0_ok : LeD (real E Mk Nk) g94_0 (fun ts m => goR E Mk 385024 ts m) := apS_le fun _ => apS_le fun _ => apS_le fun _ => apS_le fun _ => apS_le fun _ => apS_le fun _ => ap0_le fun _ => goR_eq 400 (by kernel_rfl)
noncomputable def g94_1 : List AV → CM := apS fun t2 => apS fun t3 => apS fun t4 => apS fun t5 => apS fun t6 => apS fun t7 => ap0 <|
CM.pu (p2 (indexAddrA Tryz.prog 114) t2 t7) fun x0 =>
CM.rm (q1 (loadA Tryz.prog 30) x0 ) fun x1 =>
CM.pu (p2 (indexAddrA Tryz.prog 114) t3 t7) fun x2 =>
CM.rm (q1 (loadA Tryz.prog 30) x2 ) fun x3 =>
CM.pu (p2 (binA Tryz.prog .add 30) x1 x3) fun x4 =>
CM.pu (p2 (binA Tryz.prog .add 30) x4 t6) fun x5 =>
CM.pu (p2 (binA Tryz.prog .rem 30) x5 (.int .u64 4294967296)) fun x6 =>
CM.pu (p2 (indexAddrA Tryz.prog 114) t5 t7) fun x7 =>
CM.st (fun m => stV m x7 x6 1) <|
CM.pu (p2 (binA Tryz.prog .quo 30) x5 (.int .u64 4294967296)) fun x9 =>
CM.go 385026 [t2, t3, t4, t5, x9, t7]
theorem g94_1_ok : LeD (real E Mk Nk) g94_1 (fun ts m => goR E Mk 385025 ts m) := apS_le fun _ => apS_le fun _ => apS_le fun _ => apS_le fun _ => apS_le fun _ => apS_le fun _ => ap0_le fun _ => goR_eq 400 (by kernel_rfl)
noncomputable def g94_2 : List AV → CM := apS fun t2 => apS fun t3 => apS fun t4 => apS fun t5 => apS fun t6 => apS fun t7 => ap0 <|
CM.pu (p2 (binA Tryz.prog .add 3) t7 (.int .i64 1)) fun x0 =>
CM.go 385024 [t2, t3, t4, t5, t6, x0]
theorem g94_2_ok : LeD (real E Mk Nk) g94_2 (fun ts m => goR E Mk 385026 ts m) := apS_le fun _ => apS_le fun _ => apS_le fun _ => apS_le fun _ => apS_le fun _ => apS_le fun _ => ap0_le fun _ => goR_eq 400 (by kernel_rfl)
noncomputable def g94_3 : List AV → CM := apS fun t4 => apS fun t5 => ap0 <|
CM.rm (q1 (loadA Tryz.prog 114) t5 ) fun x0 =>
CM.st (fun m => stV m t4 x0 16) <|
CM.resC Tryz.prog [ResultVar.cell 0 114] [t4]
theorem g94_3_ok : LeD (real E Mk Nk) g94_3 (fun ts m => goR E Mk 385027 ts m) := apS_le fun _ => apS_le fun _ => ap0_le fun _ => goR_eq 400 (by kernel_rfl)
noncomputable def f94 : List AV → CM := apS fun a0 => apS fun a1 => ap0 <|
CM.al (boxA a0) fun x0 =>
CM.al (boxA a1) fun x1 =>
CM.al (some (.cells [(.int .u64 0), (.int .u64 0), (.int .u64 0), (.int .u64 0), (.int .u64 0), (.int .u64 0), (.int .u64 0), (.int .u64 0), (.int .u64 0), (.int .u64 0), (.int .u64 0), (.int .u64 0), (.int .u64 0), (.int .u64 0), (.int .u64 0), (.int .u64 0)] false, pB)) fun x2 =>
CM.al (some (.cells [(.int .u64 0), (.int .u64 0), (.int .u64 0), (.int .u64 0), (.int .u64 0), (.int .u64 0), (.int .u64 0), (.int .u64 0), (.int .u64 0), (.int .u64 0), (.int .u64 0), (.int .u64 0), (.int .u64 0), (.int .u64 0), (.int .u64 0), (.int .u64 0)] false, pB)) fun x3 =>
CM.go 385024 [x0, x1, x2, x3, (.int .u64 0), (.int .i64 0)]
theorem f94_ok : LeD (real E Mk Nk) f94 (fun xs m => run E (.fn 94) xs m) := apS_le fun _ => apS_le fun _ => ap0_le fun _ => run_eq 400 rfl (by kernel_rfl) (by kernel_rfl)
noncomputable def f95 : List AV → CM := apS fun a0 => ap0 <|
CM.al (boxA a0) fun x0 =>
CM.rm (q1 (loadA Tryz.prog 114) x0 ) fun x1 =>
CM.pu (p1 (buildA Tryz.prog 114) []) fun x2 =>
CM.pu (p2 (binA Tryz.prog .eql 114) x1 x2) fun x3 =>
CM.ret x3
theorem f95_ok : LeD (real E Mk Nk) f95 (fun xs m => run E (.fn 95) xs m) := apS_le fun _ => ap0_le fun _ => run_eq 400 rfl (by kernel_rfl) (by kernel_rfl)
noncomputable def g96_0 : List AV → CM := apS fun t2 => apS fun t3 => apS fun t4 => apS fun t5 => apS fun t6 => ap0 <|
CM.pu (p2 (binA Tryz.prog .lss 3) t6 (.int .i64 8)) fun x0 =>
CM.cond x0 (
CM.go 393217 [t2, t3, t4, t5, t6]) (
CM.go 393222 [t4, t5])
theorem g96_0_ok : LeD (real E Mk Nk) g96_0 (fun ts m => goR E Mk 393216 ts m) := apS_le fun _ => apS_le fun _ => apS_le fun _ => apS_le fun _ => apS_le fun _ => ap0_le fun _ => goR_eq 400 (by kernel_rfl)
noncomputable def g96_1 : List AV → CM := apS fun t2 => apS fun t3 => apS fun t4 => apS fun t5 => apS fun t6 => ap0 <|
CM.go 393218 [t2, t3, t4, t5, t6, (.int .u64 0), (.int .i64 0)]
theorem g96_1_ok : LeD (real E Mk Nk) g96_1 (fun ts m => goR E Mk 393217 ts m) := apS_le fun _ => apS_le fun _ => apS_le fun _ => apS_le fun _ => apS_le fun _ => ap0_le fun _ => goR_eq 400 (by kernel_rfl)
noncomputable def g96_2 : List AV → CM := apS fun t2 => apS fun t3 => apS fun t4 => apS fun t5 => apS fun t6 => apS fun t7 => apS fun t8 => ap0 <|
CM.pu (p2 (binA Tryz.prog .lss 3) t8 (.int .i64 8)) fun x0 =>
CM.cond x0 (
CM.go 393219 [t2, t3, t4, t5, t6, t7, t8]) (
CM.go 393221 [t2, t3, t4, t5, t6])
theorem g96_2_ok : LeD (real E Mk Nk) g96_2 (fun ts m => goR E Mk 393218 ts m) := apS_le fun _ => apS_le fun _ => apS_le fun _ => apS_le fun _ => apS_le fun _ => apS_le fun _ => apS_le fun _ => ap0_le fun _ => goR_eq 400 (by kernel_rfl)
noncomputable def g96_3 : List AV → CM := apS fun t2 => apS fun t3 => apS fun t4 => apS fun t5 => apS fun t6 => apS fun t7 => apS fun t8 => ap0 <|
CM.pu (p2 (binA Tryz.prog .add 3) t6 t8) fun x0 =>
CM.pu (p2 (indexAddrA Tryz.prog 114) t5 x0) fun x1 =>
CM.rm (q1 (loadA Tryz.prog 30) x1 ) fun x2 =>
CM.pu (p2 (indexAddrA Tryz.prog 114) t2 t6) fun x3 =>
CM.rm (q1 (loadA Tryz.prog 30) x3 ) fun x4 =>
CM.pu (p2 (indexAddrA Tryz.prog 114) t3 t8) fun x5 =>
CM.rm (q1 (loadA Tryz.prog 30) x5 ) fun x6 =>
CM.pu (p2 (binA Tryz.prog .mul 30) x4 x6) fun x7 =>
CM.pu (p2 (binA Tryz.prog .add 30) x2 x7) fun x8 =>
CM.pu (p2 (binA Tryz.prog .add 30) x8 t7) fun x9 =>
CM.pu (p2 (binA Tryz.prog .add 3) t6 t8) fun x10 =>
CM.pu (p2 (binA Tryz.prog .rem 30) x9 (.int .u64 4294967296)) fun x11 =>
CM.pu (p2 (indexAddrA Tryz.prog 114) t5 x10) fun x12 =>
CM.st (fun m => stV m x12 x11 1) <|
CM.pu (p2 (binA Tryz.prog .quo 30) x9 (.int .u64 4294967296)) fun x14 =>
CM.go 393220 [t2, t3, t4, t5, t6, x14, t8]
theorem g96_3_ok : LeD (real E Mk Nk) g96_3 (fun ts m => goR E Mk 393219 ts m) := apS_le fun _ => apS_le fun _ => apS_le fun _ => apS_le fun _ => apS_le fun _ => apS_le fun _ => apS_le fun _ => ap0_le fun _ => goR_eq 400 (by kernel_rfl)
noncomputable def g96_4 : List AV → CM := apS fun t2 => apS fun t3 => apS fun t4 => apS fun t5 => apS fun t6 => apS fun t7 => apS fun t8 => ap0 <|
CM.pu (p2 (binA Tryz.prog .add 3) t8 (.int .i64 1)) fun x0 =>
CM.go 393218 [t2, t3, t4, t5, t6, t7, x0]
theorem g96_4_ok : LeD (real E Mk Nk) g96_4 (fun ts m => goR E Mk 393220 ts m) := apS_le fun _ => apS_le fun _ => apS_le fun _ => apS_le fun _ => apS_le fun _ => apS_le fun _ => apS_le fun _ => ap0_le fun _ => goR_eq 400 (by kernel_rfl)
noncomputable def g96_5 : List AV → CM := apS fun t2 => apS fun t3 => apS fun t4 => apS fun t5 => apS fun t6 => ap0 <|
CM.pu (p2 (binA Tryz.prog .add 3) t6 (.int .i64 1)) fun x0 =>
CM.go 393216 [t2, t3, t4, t5, x0]
theorem g96_5_ok : LeD (real E Mk Nk) g96_5 (fun ts m => goR E Mk 393221 ts m) := apS_le fun _ => apS_le fun _ => apS_le fun _ => apS_le fun _ => apS_le fun _ => ap0_le fun _ => goR_eq 400 (by kernel_rfl)
noncomputable def g96_6 : List AV → CM := apS fun t4 => apS fun t5 => ap0 <|
CM.rm (q1 (loadA Tryz.prog 114) t5 ) fun x0 =>
CM.st (fun m => stV m t4 x0 16) <|
CM.resC Tryz.prog [ResultVar.cell 0 114] [t4]
theorem g96_6_ok : LeD (real E Mk Nk) g96_6 (fun ts m => goR E Mk 393222 ts m) := apS_le fun _ => apS_le fun _ => ap0_le fun _ => goR_eq 400 (by kernel_rfl)
noncomputable def f96 : List AV → CM := apS fun a0 => apS fun a1 => ap0 <|
CM.al (boxA a0) fun x0 =>
CM.al (boxA a1) fun x1 =>
CM.al (some (.cells [(.int .u64 0), (.int .u64 0), (.int .u64 0), (.int .u64 0), (.int .u64 0), (.int .u64 0), (.int .u64 0), (.int .u64 0), (.int .u64 0), (.int .u64 0), (.int .u64 0), (.int .u64 0), (.int .u64 0), (.int .u64 0), (.int .u64 0), (.int .u64 0)] false, pB)) fun x2 =>
CM.al (some (.cells [(.int .u64 0), (.int .u64 0), (.int .u64 0), (.int .u64 0), (.int .u64 0), (.int .u64 0), (.int .u64 0), (.int .u64 0), (.int .u64 0), (.int .u64 0), (.int .u64 0), (.int .u64 0), (.int .u64 0), (.int .u64 0), (.int .u64 0), (.int .u64 0)] false, pB)) fun x3 =>
CM.go 393216 [x0, x1, x2, x3, (.int .i64 0)]
theorem f96_ok : LeD (real E Mk Nk) f96 (fun xs m => run E (.fn 96) xs m) := apS_le fun _ => apS_le fun _ => ap0_le fun _ => run_eq 400 rfl (by kernel_rfl) (by kernel_rfl)
noncomputable def f97 : List AV → CM := apS fun a0 => apS fun a1 => ap0 <|
CM.rm (q1 (loadA Tryz.prog 77) a1 ) fun x0 =>
CM.memo fun m1 =>
CM.call 99 [x0] fun x2 =>
CM.rm (q1 (loadA Tryz.prog 77) a1 ) fun x4 =>
CM.chk (q1 (loadA Tryz.prog 77) a1 m1) x4 <|
CM.call 100 [x4] fun x6 =>
CM.call 98 [x2, x6, a0] fun _ =>
CM.ret .undef
theorem f97_ok : LeD (real E Mk Nk) f97 (fun xs m => run E (.fn 97) xs m) := apS_le fun _ => apS_le fun _ => ap0_le fun _ => run_eq 400 rfl (by kernel_rfl) (by kernel_rfl)
noncomputable def g98_0 : List AV → CM := apS fun t1 => apS fun t2 => apS fun t8 => apS fun t9 => apS fun t10 => ap0 <|
CM.pu (p2 (binA Tryz.prog .lss 3) t10 t9) fun x0 =>
CM.cond x0 (
CM.go 401409 [t1, t2, t8, t9, t10]) (
CM.ret .undef)
theorem g98_0_ok : LeD (real E Mk Nk) g98_0 (fun ts m => goR E Mk 401408 ts m) := apS_le fun _ => apS_le fun _ => apS_le fun _ => apS_le fun _ => apS_le fun _ => ap0_le fun _ => goR_eq 400 (by kernel_rfl)
noncomputable def g98_1 : List AV → CM := apS fun t1 => apS fun t2 => apS fun t8 => apS fun t9 => apS fun t10 => ap0 <|
CM.pu (p2 (indexAddrA Tryz.prog 156) t8 t10) fun x0 =>
CM.rm (q1 (loadA Tryz.prog 9) x0 ) fun x1 =>
CM.pu (p2 (indexAddrA Tryz.prog 45) t1 t10) fun x2 =>
CM.rm (q1 (loadA Tryz.prog 85) x2 ) fun x3 =>
CM.callv t2 [x1, x3] fun x4 =>
CM.pu (p1 (unA .not) x4) fun x5 =>
CM.cond x5 (
CM.ret .undef) (
CM.go 401410 [t1, t2, t8, t9, t10])
theorem g98_1_ok : LeD (real E Mk Nk) g98_1 (fun ts m => goR E Mk 401409 ts m) := apS_le fun _ => apS_le fun _ => apS_le fun _ => apS_le fun _ => apS_le fun _ => ap0_le fun _ => goR_eq 400 (by kernel_rfl)
noncomputable def g98_2 : List AV → CM := apS fun t1 => apS fun t2 => apS fun t8 => apS fun t9 => apS fun t10 => ap0 <|
CM.pu (p2 (binA Tryz.prog .add 3) t10 (.int .i64 1)) fun x0 =>
CM.go 401408 [t1, t2, t8, t9, x0]
theorem g98_2_ok : LeD (real E Mk Nk) g98_2 (fun ts m => goR E Mk 401410 ts m) := apS_le fun _ => apS_le fun _ => apS_le fun _ => apS_le fun _ => apS_le fun _ => ap0_le fun _ => goR_eq 400 (by kernel_rfl)
noncomputable def f98 : List AV → CM := apS fun a0 => apS fun a1 => apS fun a2 => ap0 <|
CM.pu (p1 (lenT Tryz.prog 156) a0) fun x0 =>
CM.go 401408 [a1, a2, a0, x0, (.int .i64 0)]
theorem f98_ok : LeD (real E Mk Nk) f98 (fun xs m => run E (.fn 98) xs m) := apS_le fun _ => apS_le fun _ => apS_le fun _ => ap0_le fun _ => run_eq 400 rfl (by kernel_rfl) (by kernel_rfl)
end Go.Proofs.YtamooapjonlcdaaGreat.T
