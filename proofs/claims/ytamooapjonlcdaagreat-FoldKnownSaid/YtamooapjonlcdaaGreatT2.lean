/- Functions as trees, printed by our own program (wip/tools/gen3.lean). -/
import Derived.Test.YtamooapjonlcdaaGreatT0
namespace Go.Proofs.YtamooapjonlcdaaGreat.T
open Go Go.Abs Go.Proofs.YtamooapjonlcdaaGreat
set_option maxRecDepth 10000
noncomputable def g22_0 : List AV → CM := apS fun t2 => ap0 <|
CM.pu (p1 (fun a => fieldAddrA Tryz.prog 49 a 0) t2) fun x0 =>
CM.rm (q1 (loadA Tryz.prog 45) x0 ) fun x1 =>
CM.pu (p1 (lenT Tryz.prog 45) x1) fun x2 =>
CM.go 90113 [t2, x1, x2, (.int .i64 0)]
theorem g22_0_ok : LeD (real E Mk Nk) g22_0 (fun ts m => goR E Mk 90112 ts m) := apS_le fun _ => ap0_le fun _ => goR_eq 400 (by kernel_rfl)
noncomputable def g22_1 : List AV → CM := apS fun t2 => apS fun t29 => apS fun t30 => apS fun t31 => ap0 <|
CM.pu (p2 (binA Tryz.prog .lss 3) t31 t30) fun x0 =>
CM.cond x0 (
CM.go 90114 [t2, t29, t30, t31]) (
CM.go 90116 [t2])
theorem g22_1_ok : LeD (real E Mk Nk) g22_1 (fun ts m => goR E Mk 90113 ts m) := apS_le fun _ => apS_le fun _ => apS_le fun _ => apS_le fun _ => ap0_le fun _ => goR_eq 400 (by kernel_rfl)
noncomputable def g22_2 : List AV → CM := apS fun t2 => apS fun t29 => apS fun t30 => apS fun t31 => ap0 <|
CM.pu (p2 (indexAddrA Tryz.prog 45) t29 t31) fun x0 =>
CM.rm (q1 (loadA Tryz.prog 85) x0 ) fun x1 =>
CM.al (some (.cells [(.str []), (.int .i64 0), (.int .i64 0), (.int .u64 0)] false, pB)) fun x2 =>
CM.st (fun m => stV m x2 x1 4) <|
CM.pu (p1 (fun a => fieldAddrA Tryz.prog 85 a 0) x2) fun x4 =>
CM.rm (q1 (loadA Tryz.prog 9) x4 ) fun x5 =>
CM.call 35 [x5] fun x7 =>
CM.pu (p1 (unA .not) x7) fun x9 =>
CM.ifv x9 (
CM.ret (.bool false)) (
CM.pu (p2 (binA Tryz.prog .gtr 3) t31 (.int .i64 0)) fun x10 =>
CM.ifv x10 (
CM.pu (p1 (fun a => fieldAddrA Tryz.prog 49 a 0) t2) fun x11 =>
CM.rm (q1 (loadA Tryz.prog 45) x11 ) fun x12 =>
CM.pu (p2 (binA Tryz.prog .sub 3) t31 (.int .i64 1)) fun x13 =>
CM.pu (p2 (indexAddrA Tryz.prog 45) x12 x13) fun x14 =>
CM.pu (p1 (fun a => fieldAddrA Tryz.prog 85 a 0) x14) fun x15 =>
CM.rm (q1 (loadA Tryz.prog 9) x15 ) fun x16 =>
CM.pu (p1 (fun a => fieldAddrA Tryz.prog 85 a 0) x2) fun x17 =>
CM.rm (q1 (loadA Tryz.prog 9) x17 ) fun x18 =>
CM.pu (p2 (binA Tryz.prog .geq 9) x16 x18) fun x19 =>
CM.ifv x19 (
CM.ret (.bool false)) (
CM.pu (p1 (fun a => fieldAddrA Tryz.prog 85 a 1) x2) fun x20 =>
CM.rm (q1 (loadA Tryz.prog 3) x20 ) fun x21 =>
CM.pu (p2 (binA Tryz.prog .lss 3) x21 (.int .i64 0)) fun x22 =>
CM.ifv x22 (
CM.ret (.bool false)) (
CM.pu (p1 (fun a => fieldAddrA Tryz.prog 85 a 1) x2) fun x23 =>
CM.rm (q1 (loadA Tryz.prog 3) x23 ) fun x24 =>
CM.pu (p2 (binA Tryz.prog .gtr 3) x24 (.int .i64 18)) fun x25 =>
CM.cond x25 (
CM.ret (.bool false)) (
CM.go 90115 [t2, t29, t30, t31])))) (
CM.pu (p1 (fun a => fieldAddrA Tryz.prog 85 a 1) x2) fun x26 =>
CM.rm (q1 (loadA Tryz.prog 3) x26 ) fun x27 =>
CM.pu (p2 (binA Tryz.prog .lss 3) x27 (.int .i64 0)) fun x28 =>
CM.ifv x28 (
CM.ret (.bool false)) (
CM.pu (p1 (fun a => fieldAddrA Tryz.prog 85 a 1) x2) fun x29 =>
CM.rm (q1 (loadA Tryz.prog 3) x29 ) fun x30 =>
CM.pu (p2 (binA Tryz.prog .gtr 3) x30 (.int .i64 18)) fun x31 =>
CM.cond x31 (
CM.ret (.bool false)) (
CM.go 90115 [t2, t29, t30, t31]))))
theorem g22_2_ok : LeD (real E Mk Nk) g22_2 (fun ts m => goR E Mk 90114 ts m) := apS_le fun _ => apS_le fun _ => apS_le fun _ => apS_le fun _ => ap0_le fun _ => goR_eq 400 (by kernel_rfl)
noncomputable def g22_3 : List AV → CM := apS fun t2 => apS fun t29 => apS fun t30 => apS fun t31 => ap0 <|
CM.pu (p2 (binA Tryz.prog .add 3) t31 (.int .i64 1)) fun x0 =>
CM.go 90113 [t2, t29, t30, x0]
theorem g22_3_ok : LeD (real E Mk Nk) g22_3 (fun ts m => goR E Mk 90115 ts m) := apS_le fun _ => apS_le fun _ => apS_le fun _ => apS_le fun _ => ap0_le fun _ => goR_eq 400 (by kernel_rfl)
noncomputable def g22_4 : List AV → CM := apS fun t2 => ap0 <|
CM.rm (q1 (loadA Tryz.prog 49) t2 ) fun x0 =>
CM.call 58 [x0] fun x1 =>
CM.pu (p1 (unA .not) x1) fun x2 =>
CM.ifv x2 (
CM.ret (.bool false)) (
CM.rm (q1 (loadA Tryz.prog 49) t2 ) fun x3 =>
CM.call 59 [x3] fun x4 =>
CM.pu (p1 (unA .not) x4) fun x5 =>
CM.cond x5 (
CM.ret (.bool false)) (
CM.go 90117 [t2]))
theorem g22_4_ok : LeD (real E Mk Nk) g22_4 (fun ts m => goR E Mk 90116 ts m) := apS_le fun _ => ap0_le fun _ => goR_eq 400 (by kernel_rfl)
noncomputable def g22_5 : List AV → CM := apS fun t2 => ap0 <|
CM.pu (p1 (fun a => fieldAddrA Tryz.prog 49 a 0) t2) fun x0 =>
CM.rm (q1 (loadA Tryz.prog 45) x0 ) fun x1 =>
CM.pu (p1 (lenT Tryz.prog 45) x1) fun x2 =>
CM.go 90118 [t2, x1, x2, (.int .i64 0)]
theorem g22_5_ok : LeD (real E Mk Nk) g22_5 (fun ts m => goR E Mk 90117 ts m) := apS_le fun _ => ap0_le fun _ => goR_eq 400 (by kernel_rfl)
noncomputable def g22_6 : List AV → CM := apS fun t2 => apS fun t76 => apS fun t77 => apS fun t78 => ap0 <|
CM.pu (p2 (binA Tryz.prog .lss 3) t78 t77) fun x0 =>
CM.cond x0 (
CM.go 90119 [t2, t76, t77, t78]) (
CM.go 90121 [])
theorem g22_6_ok : LeD (real E Mk Nk) g22_6 (fun ts m => goR E Mk 90118 ts m) := apS_le fun _ => apS_le fun _ => apS_le fun _ => apS_le fun _ => ap0_le fun _ => goR_eq 400 (by kernel_rfl)
noncomputable def g22_7 : List AV → CM := apS fun t2 => apS fun t76 => apS fun t77 => apS fun t78 => ap0 <|
CM.pu (p2 (indexAddrA Tryz.prog 45) t76 t78) fun x0 =>
CM.rm (q1 (loadA Tryz.prog 85) x0 ) fun x1 =>
CM.al (some (.cells [(.str []), (.int .i64 0), (.int .i64 0), (.int .u64 0)] false, pB)) fun x2 =>
CM.st (fun m => stV m x2 x1 4) <|
CM.rm (q1 (loadA Tryz.prog 49) t2 ) fun x4 =>
CM.rm (q1 (loadA Tryz.prog 85) x2 ) fun x5 =>
CM.call 60 [x4, x5] fun x6 =>
CM.pu (p1 (unA .not) x6) fun x7 =>
CM.cond x7 (
CM.ret (.bool false)) (
CM.go 90120 [t2, t76, t77, t78])
theorem g22_7_ok : LeD (real E Mk Nk) g22_7 (fun ts m => goR E Mk 90119 ts m) := apS_le fun _ => apS_le fun _ => apS_le fun _ => apS_le fun _ => ap0_le fun _ => goR_eq 400 (by kernel_rfl)
noncomputable def g22_8 : List AV → CM := apS fun t2 => apS fun t76 => apS fun t77 => apS fun t78 => ap0 <|
CM.pu (p2 (binA Tryz.prog .add 3) t78 (.int .i64 1)) fun x0 =>
CM.go 90118 [t2, t76, t77, x0]
theorem g22_8_ok : LeD (real E Mk Nk) g22_8 (fun ts m => goR E Mk 90120 ts m) := apS_le fun _ => apS_le fun _ => apS_le fun _ => apS_le fun _ => ap0_le fun _ => goR_eq 400 (by kernel_rfl)
noncomputable def g22_9 : List AV → CM := ap0 <|
CM.ret (.bool true)
theorem g22_9_ok : LeD (real E Mk Nk) g22_9 (fun ts m => goR E Mk 90121 ts m) := ap0_le fun _ => goR_eq 400 (by kernel_rfl)
noncomputable def f22 : List AV → CM := apS fun a0 => apS fun a1 => ap0 <|
CM.al (boxA a0) fun x0 =>
CM.pu (p2 (binA Tryz.prog .lss 3) a1 (.int .i64 1)) fun x1 =>
CM.ifv x1 (
CM.ret (.bool false)) (
CM.pu (p2 (binA Tryz.prog .gtr 3) a1 (.int .i64 64)) fun x2 =>
CM.ifv x2 (
CM.ret (.bool false)) (
CM.pu (p1 (fun a => fieldAddrA Tryz.prog 49 a 0) x0) fun x3 =>
CM.rm (q1 (loadA Tryz.prog 45) x3 ) fun x4 =>
CM.pu (p1 (lenT Tryz.prog 45) x4) fun x5 =>
CM.pu (p2 (binA Tryz.prog .gtr 3) x5 (.int .i64 8)) fun x6 =>
CM.ifv x6 (
CM.ret (.bool false)) (
CM.pu (p1 (fun a => fieldAddrA Tryz.prog 49 a 2) x0) fun x7 =>
CM.rm (q1 (loadA Tryz.prog 47) x7 ) fun x8 =>
CM.pu (p1 (lenT Tryz.prog 47) x8) fun x9 =>
CM.pu (p2 (binA Tryz.prog .gtr 3) x9 a1) fun x10 =>
CM.cond x10 (
CM.ret (.bool false)) (
CM.go 90112 [x0]))))
theorem f22_ok : LeD (real E Mk Nk) f22 (fun xs m => run E (.fn 22) xs m) := apS_le fun _ => apS_le fun _ => ap0_le fun _ => run_eq 400 rfl (by kernel_rfl) (by kernel_rfl)
noncomputable def g23_0 : List AV → CM := apS fun t1 => ap0 <|
CM.pu (p1 (fun a => fieldAddrA Tryz.prog 62 a 10) t1) fun x0 =>
CM.rm (q1 (loadA Tryz.prog 3) x0 ) fun x1 =>
CM.call 7 [x1] fun x2 =>
CM.pu (p1 (fun a => extractA a 0) x2) fun x3 =>
CM.pu (p1 (fun a => extractA a 1) x2) fun x4 =>
CM.pu (p1 (fun a => fieldAddrA Tryz.prog 62 a 11) t1) fun x5 =>
CM.rm (q1 (loadA Tryz.prog 3) x5 ) fun x6 =>
CM.pu (p1 (fun a => fieldAddrA Tryz.prog 62 a 12) t1) fun x7 =>
CM.rm (q1 (loadA Tryz.prog 30) x7 ) fun x8 =>
CM.call 62 [x6, x8] fun x9 =>
CM.pu (p1 (fun a => extractA a 0) x9) fun x10 =>
CM.pu (p1 (fun a => extractA a 1) x9) fun x11 =>
CM.pu (p2 (binA Tryz.prog .neq 25) x4 (.int .i64 0)) fun x12 =>
CM.ifv x12 (
CM.ret (.tup [(.ptr none), (.int .i64 1)])) (
CM.pu (p2 (binA Tryz.prog .neq 25) x11 (.int .i64 0)) fun x13 =>
CM.cond x13 (
CM.ret (.tup [(.ptr none), (.int .i64 1)])) (
CM.go 94209 [t1, x3, x10]))
theorem g23_0_ok : LeD (real E Mk Nk) g23_0 (fun ts m => goR E Mk 94208 ts m) := apS_le fun _ => ap0_le fun _ => goR_eq 400 (by kernel_rfl)
noncomputable def g23_1 : List AV → CM := apS fun t1 => apS fun t4 => apS fun t6 => ap0 <|
CM.rm (q1 (loadA Tryz.prog 62) t1 ) fun x0 =>
CM.pu (p1 (buildA Tryz.prog 137) [(0, x0), (1, t4), (2, t6)]) fun x1 =>
CM.al (boxA x1) fun x2 =>
CM.ret (.tup [x2, (.int .i64 0)])
theorem g23_1_ok : LeD (real E Mk Nk) g23_1 (fun ts m => goR E Mk 94209 ts m) := apS_le fun _ => apS_le fun _ => apS_le fun _ => ap0_le fun _ => goR_eq 400 (by kernel_rfl)
noncomputable def f23 : List AV → CM := apS fun a0 => ap0 <|
CM.al (boxA a0) fun x0 =>
CM.rm (q1 (loadA Tryz.prog 62) x0 ) fun x1 =>
CM.call 61 [x1] fun x2 =>
CM.pu (p1 (unA .not) x2) fun x3 =>
CM.cond x3 (
CM.ret (.tup [(.ptr none), (.int .i64 1)])) (
CM.go 94208 [x0])
theorem f23_ok : LeD (real E Mk Nk) f23 (fun xs m => run E (.fn 23) xs m) := apS_le fun _ => ap0_le fun _ => run_eq 400 rfl (by kernel_rfl) (by kernel_rfl)
noncomputable def f24 : List AV → CM := ap0 <|
CM.al (some (.cells [(.int .i64 0), (.int .i64 0), (.int .i64 0), (.int .i64 0), (.int .i64 0), (.int .i64 0), (.int .i64 0), (.int .i64 0), (.int .i64 0), (.int .i64 0), (.int .i64 0), (.int .i64 0), (.int .u64 0)] false, pB)) fun x0 =>
CM.pu (p1 (buildA Tryz.prog 140) [(10, (.int .i64 3)), (11, (.int .i64 2)), (12, (.int .i64 50))]) fun x1 =>
CM.call 63 [x1] fun x2 =>
CM.st (fun m => stV m x0 x2 13) <|
CM.resC Tryz.prog [ResultVar.cell 0 62] [x0]
theorem f24_ok : LeD (real E Mk Nk) f24 (fun xs m => run E (.fn 24) xs m) := ap0_le fun _ => run_eq 400 rfl (by kernel_rfl) (by kernel_rfl)
noncomputable def g25_0 : List AV → CM := apS fun t1 => ap0 <|
CM.pu (p1 (buildA Tryz.prog 70) [(1, (.int .u64 1)), (2, (.int .u64 1))]) fun x0 =>
CM.call 26 [t1, x0] fun x1 =>
CM.pu (p1 (fun a => extractA a 0) x1) fun x2 =>
CM.pu (p1 (fun a => extractA a 1) x1) fun x3 =>
CM.al (some (.cells [(.int .i64 0), (.int .u64 0), (.int .i64 0), (.int .u64 0), (.int .i64 0)] false, pB)) fun x4 =>
CM.st (fun m => stV m x4 x2 5) <|
CM.pu (p1 (buildA Tryz.prog 73) [(0, (.int .i64 1)), (1, (.int .u64 5))]) fun x6 =>
CM.call 27 [(.int .u64 2), x6] fun x7 =>
CM.call 26 [t1, x7] fun x8 =>
CM.pu (p1 (fun a => extractA a 0) x8) fun x9 =>
CM.pu (p1 (fun a => extractA a 1) x8) fun x10 =>
CM.al (some (.cells [(.int .i64 0), (.int .u64 0), (.int .i64 0), (.int .u64 0), (.int .i64 0)] false, pB)) fun x11 =>
CM.st (fun m => stV m x11 x9 5) <|
CM.pu (p1 (buildA Tryz.prog 73) [(0, (.int .i64 2)), (1, (.int .u64 5)), (2, (.int .u64 1)), (6, (.str [69, 85, 82])), (3, (.int .u64 2))]) fun x13 =>
CM.call 27 [(.int .u64 3), x13] fun x14 =>
CM.call 26 [t1, x14] fun x15 =>
CM.pu (p1 (fun a => extractA a 0) x15) fun x16 =>
CM.pu (p1 (fun a => extractA a 1) x15) fun x17 =>
CM.al (some (.cells [(.int .i64 0), (.int .u64 0), (.int .i64 0), (.int .u64 0), (.int .i64 0)] false, pB)) fun x18 =>
CM.st (fun m => stV m x18 x16 5) <|
CM.pu (p1 (buildA Tryz.prog 73) [(0, (.int .i64 3)), (1, (.int .u64 5)), (2, (.int .u64 2)), (6, (.str [69, 85, 82]))]) fun x20 =>
CM.call 27 [(.int .u64 4), x20] fun x21 =>
CM.call 26 [t1, x21] fun x22 =>
CM.pu (p1 (fun a => extractA a 0) x22) fun x23 =>
CM.pu (p1 (fun a => extractA a 1) x22) fun x24 =>
CM.al (some (.cells [(.int .i64 0), (.int .u64 0), (.int .i64 0), (.int .u64 0), (.int .i64 0)] false, pB)) fun x25 =>
CM.st (fun m => stV m x25 x23 5) <|
CM.pu (p1 (buildA Tryz.prog 73) [(0, (.int .i64 3)), (1, (.int .u64 5)), (2, (.int .u64 2)), (6, (.str [69, 85, 82]))]) fun x27 =>
CM.call 27 [(.int .u64 5), x27] fun x28 =>
CM.call 26 [t1, x28] fun x29 =>
CM.pu (p1 (fun a => extractA a 0) x29) fun x30 =>
CM.pu (p1 (fun a => extractA a 1) x29) fun x31 =>
CM.al (some (.cells [(.int .i64 0), (.int .u64 0), (.int .i64 0), (.int .u64 0), (.int .i64 0)] false, pB)) fun x32 =>
CM.st (fun m => stV m x32 x30 5) <|
CM.pu (p1 (unA .not) x3) fun x34 =>
CM.ifv x34 (
CM.ifv x10 (
CM.pu (p1 (fun a => fieldAddrA Tryz.prog 65 a 1) x11) fun x35 =>
CM.rm (q1 (loadA Tryz.prog 30) x35 ) fun x36 =>
CM.pu (p2 (binA Tryz.prog .eql 30) x36 (.int .u64 5)) fun x37 =>
CM.ifv x37 (
CM.ifv x17 (
CM.rm (q1 (loadA Tryz.prog 65) x18 ) fun x38 =>
CM.pu (p1 (buildA Tryz.prog 65) []) fun x39 =>
CM.pu (p2 (binA Tryz.prog .eql 65) x38 x39) fun x40 =>
CM.ifv x40 (
CM.ifv x24 (
CM.pu (p1 (fun a => fieldAddrA Tryz.prog 65 a 1) x25) fun x41 =>
CM.rm (q1 (loadA Tryz.prog 30) x41 ) fun x42 =>
CM.pu (p2 (binA Tryz.prog .eql 30) x42 (.int .u64 1)) fun x43 =>
CM.ifv x43 (
CM.ifv x31 (
CM.pu (p1 (fun a => fieldAddrA Tryz.prog 65 a 1) x32) fun x44 =>
CM.rm (q1 (loadA Tryz.prog 30) x44 ) fun x45 =>
CM.pu (p2 (binA Tryz.prog .eql 30) x45 (.int .u64 1)) fun x46 =>
CM.ifv x46 (
CM.call 64 [t1] fun x47 =>
CM.pu (p2 (binA Tryz.prog .eql 30) x47 (.int .u64 5)) fun x48 =>
CM.ret x48) (
CM.ret (.bool false))) (
CM.ret (.bool false))) (
CM.ret (.bool false))) (
CM.ret (.bool false))) (
CM.ret (.bool false))) (
CM.ret (.bool false))) (
CM.ret (.bool false))) (
CM.ret (.bool false))) (
CM.ret (.bool false))
theorem g25_0_ok : LeD (real E Mk Nk) g25_0 (fun ts m => goR E Mk 102400 ts m) := apS_le fun _ => ap0_le fun _ => goR_eq 400 (by kernel_rfl)
noncomputable def f25 : List AV → CM := ap0 <|
CM.call 24 [] fun x0 =>
CM.call 23 [x0] fun x1 =>
CM.pu (p1 (fun a => extractA a 0) x1) fun x2 =>
CM.pu (p1 (fun a => extractA a 1) x1) fun x3 =>
CM.pu (p2 (binA Tryz.prog .neq 25) x3 (.int .i64 0)) fun x4 =>
CM.ifv x4 (
CM.ret (.bool false)) (
CM.pu (p2 (binA Tryz.prog .eql 58) x2 (.ptr none)) fun x5 =>
CM.cond x5 (
CM.ret (.bool false)) (
CM.go 102400 [x2]))
theorem f25_ok : LeD (real E Mk Nk) f25 (fun xs m => run E (.fn 25) xs m) := ap0_le fun _ => run_eq 400 rfl (by kernel_rfl) (by kernel_rfl)
noncomputable def g26_0 : List AV → CM := apS fun t0 => apS fun t3 => apS fun t4 => apS fun t6 => ap0 <|
CM.pu (p1 (unA .not) t6) fun x0 =>
CM.ifv x0 (
CM.pu (p1 (buildA Tryz.prog 65) []) fun x1 =>
CM.st (fun m => stV m t4 x1 5) <|
CM.resC Tryz.prog [ResultVar.cell 0 65, ResultVar.tmp 1] [t4, (.bool false)]) (
CM.pu (p1 (fun a => fieldAddrA Tryz.prog 70 a 2) t3) fun x3 =>
CM.rm (q1 (loadA Tryz.prog 30) x3 ) fun x4 =>
CM.pu (p1 nnA t0) fun x5 =>
CM.pu (p1 (fun a => fieldAddrA Tryz.prog 137 a 3) x5) fun x6 =>
CM.rm (q1 (loadA Tryz.prog 30) x6 ) fun x7 =>
CM.pu (p2 (binA Tryz.prog .add 30) x7 (.int .u64 1)) fun x8 =>
CM.pu (p2 (binA Tryz.prog .neq 30) x4 x8) fun x9 =>
CM.ifv x9 (
CM.pu (p1 (buildA Tryz.prog 65) []) fun x10 =>
CM.st (fun m => stV m t4 x10 5) <|
CM.resC Tryz.prog [ResultVar.cell 0 65, ResultVar.tmp 1] [t4, (.bool false)]) (
CM.pu (p1 (fun a => fieldAddrA Tryz.prog 70 a 2) t3) fun x12 =>
CM.rm (q1 (loadA Tryz.prog 30) x12 ) fun x13 =>
CM.pu (p2 (binA Tryz.prog .gtr 30) x13 (.int .u64 72057594037927935)) fun x14 =>
CM.cond x14 (
CM.pu (p1 (buildA Tryz.prog 65) []) fun x15 =>
CM.st (fun m => stV m t4 x15 5) <|
CM.resC Tryz.prog [ResultVar.cell 0 65, ResultVar.tmp 1] [t4, (.bool false)]) (
CM.go 106497 [t0, t3, t4])))
theorem g26_0_ok : LeD (real E Mk Nk) g26_0 (fun ts m => goR E Mk 106496 ts m) := apS_le fun _ => apS_le fun _ => apS_le fun _ => apS_le fun _ => ap0_le fun _ => goR_eq 400 (by kernel_rfl)
noncomputable def g26_1 : List AV → CM := apS fun t0 => apS fun t3 => apS fun t4 => ap0 <|
CM.pu (p1 (fun a => fieldAddrA Tryz.prog 70 a 2) t3) fun x0 =>
CM.rm (q1 (loadA Tryz.prog 30) x0 ) fun x1 =>
CM.pu (p1 nnA t0) fun x2 =>
CM.pu (p1 (fun a => fieldAddrA Tryz.prog 137 a 3) x2) fun x3 =>
CM.st (fun m => stV m x3 x1 1) <|
CM.pu (p1 nnA t0) fun x5 =>
CM.pu (p1 (fun a => fieldAddrA Tryz.prog 137 a 2) x5) fun x6 =>
CM.rm (q1 (loadA Tryz.prog 133) x6 ) fun x7 =>
CM.pu (p1 (fun a => fieldAddrA Tryz.prog 70 a 2) t3) fun x8 =>
CM.rm (q1 (loadA Tryz.prog 30) x8 ) fun x9 =>
CM.call 65 [x7, x9] fun _ =>
CM.pu (p1 (fun a => fieldAddrA Tryz.prog 70 a 0) t3) fun x13 =>
CM.rm (q1 (loadA Tryz.prog 3) x13 ) fun x14 =>
CM.pu (p2 (binA Tryz.prog .neq 3) x14 (.int .i64 1)) fun x15 =>
CM.cond x15 (
CM.pu (p1 (buildA Tryz.prog 65) []) fun x16 =>
CM.st (fun m => stV m t4 x16 5) <|
CM.resC Tryz.prog [ResultVar.cell 0 65, ResultVar.tmp 1] [t4, (.bool false)]) (
CM.go 106498 [t0, t3, t4])
theorem g26_1_ok : LeD (real E Mk Nk) g26_1 (fun ts m => goR E Mk 106497 ts m) := apS_le fun _ => apS_le fun _ => apS_le fun _ => ap0_le fun _ => goR_eq 400 (by kernel_rfl)
noncomputable def g26_2 : List AV → CM := apS fun t0 => apS fun t3 => apS fun t4 => ap0 <|
CM.pu (p1 (fun a => fieldAddrA Tryz.prog 70 a 3) t3) fun x0 =>
CM.rm (q1 (loadA Tryz.prog 68) x0 ) fun x1 =>
CM.call 66 [x1] fun x2 =>
CM.pu (p1 (fun a => extractA a 0) x2) fun x3 =>
CM.pu (p1 (fun a => extractA a 1) x2) fun x4 =>
CM.al (some (.cells [(.int .i64 0), (.int .u64 0), (.int .u64 0), (.int .u64 0), (.int .u64 0), (.int .i64 0), (.int .u64 0), (.int .i64 0), (.str []), (.str [])] false, pB)) fun x5 =>
CM.st (fun m => stV m x5 x3 10) <|
CM.pu (p2 (binA Tryz.prog .neq 25) x4 (.int .i64 0)) fun x7 =>
CM.cond x7 (
CM.pu (p1 (buildA Tryz.prog 65) [(0, x4)]) fun x8 =>
CM.st (fun m => stV m t4 x8 5) <|
CM.resC Tryz.prog [ResultVar.cell 0 65, ResultVar.tmp 1] [t4, (.bool true)]) (
CM.pu (p1 (fun a => fieldAddrA Tryz.prog 73 a 0) x5) fun x10 =>
CM.rm (q1 (loadA Tryz.prog 3) x10 ) fun x11 =>
CM.pu (p2 (binA Tryz.prog .eql 3) x11 (.int .i64 1)) fun x12 =>
CM.cond x12 (
CM.pu (p1 nnA t0) fun x13 =>
CM.pu (p1 (fun a => fieldAddrA Tryz.prog 137 a 2) x13) fun x14 =>
CM.rm (q1 (loadA Tryz.prog 133) x14 ) fun x15 =>
CM.pu (p1 (fun a => fieldAddrA Tryz.prog 73 a 1) x5) fun x16 =>
CM.rm (q1 (loadA Tryz.prog 30) x16 ) fun x17 =>
CM.pu (p1 (fun a => fieldAddrA Tryz.prog 70 a 2) t3) fun x18 =>
CM.rm (q1 (loadA Tryz.prog 30) x18 ) fun x19 =>
CM.call 67 [x15, x17, x19] fun x21 =>
CM.pu (p2 (binA Tryz.prog .neq 25) x21 (.int .i64 0)) fun x23 =>
CM.cond x23 (
CM.pu (p1 (buildA Tryz.prog 65) [(0, x21)]) fun x24 =>
CM.st (fun m => stV m t4 x24 5) <|
CM.resC Tryz.prog [ResultVar.cell 0 65, ResultVar.tmp 1] [t4, (.bool true)]) (
CM.go 106499 [t4, x5])) (
CM.go 106500 [t0, t3, t4, x5]))
theorem g26_2_ok : LeD (real E Mk Nk) g26_2 (fun ts m => goR E Mk 106498 ts m) := apS_le fun _ => apS_le fun _ => apS_le fun _ => ap0_le fun _ => goR_eq 400 (by kernel_rfl)
noncomputable def g26_3 : List AV → CM := apS fun t4 => apS fun t7 => ap0 <|
CM.pu (p1 (fun a => fieldAddrA Tryz.prog 73 a 1) t7) fun x0 =>
CM.rm (q1 (loadA Tryz.prog 30) x0 ) fun x1 =>
CM.pu (p1 (buildA Tryz.prog 65) [(1, x1)]) fun x2 =>
CM.st (fun m => stV m t4 x2 5) <|
CM.resC Tryz.prog [ResultVar.cell 0 65, ResultVar.tmp 1] [t4, (.bool true)]
theorem g26_3_ok : LeD (real E Mk Nk) g26_3 (fun ts m => goR E Mk 106499 ts m) := apS_le fun _ => apS_le fun _ => ap0_le fun _ => goR_eq 400 (by kernel_rfl)
noncomputable def g26_4 : List AV → CM := apS fun t0 => apS fun t3 => apS fun t4 => apS fun t7 => ap0 <|
CM.pu (p1 nnA t0) fun x0 =>
CM.pu (p1 (fun a => fieldAddrA Tryz.prog 137 a 2) x0) fun x1 =>
CM.rm (q1 (loadA Tryz.prog 133) x1 ) fun x2 =>
CM.pu (p1 (fun a => fieldAddrA Tryz.prog 73 a 1) t7) fun x3 =>
CM.rm (q1 (loadA Tryz.prog 30) x3 ) fun x4 =>
CM.pu (p1 (fun a => fieldAddrA Tryz.prog 73 a 2) t7) fun x5 =>
CM.rm (q1 (loadA Tryz.prog 30) x5 ) fun x6 =>
CM.pu (p1 (fun a => fieldAddrA Tryz.prog 70 a 2) t3) fun x7 =>
CM.rm (q1 (loadA Tryz.prog 30) x7 ) fun x8 =>
CM.call 68 [x2, x4, x6, x8] fun x10 =>
CM.pu (p1 (fun a => extractA a 0) x10) fun x12 =>
CM.pu (p1 (fun a => extractA a 1) x10) fun x13 =>
CM.pu (p1 (fun a => extractA a 2) x10) fun x14 =>
CM.al (some (.cells [(.int .i64 0), (.int .u64 0), (.int .i64 0), (.int .u64 0), (.int .i64 0)] false, pB)) fun x15 =>
CM.st (fun m => stV m x15 x12 5) <|
CM.pu (p2 (binA Tryz.prog .neq 25) x14 (.int .i64 0)) fun x19 =>
CM.cond x19 (
CM.pu (p1 (buildA Tryz.prog 65) [(0, x14)]) fun x20 =>
CM.st (fun m => stV m t4 x20 5) <|
CM.resC Tryz.prog [ResultVar.cell 0 65, ResultVar.tmp 1] [t4, (.bool true)]) (
CM.cond x13 (
CM.rm (q1 (loadA Tryz.prog 65) x15 ) fun x22 =>
CM.st (fun m => stV m t4 x22 5) <|
CM.resC Tryz.prog [ResultVar.cell 0 65, ResultVar.tmp 1] [t4, (.bool true)]) (
CM.go 106501 [t0, t4, t7, x15]))
theorem g26_4_ok : LeD (real E Mk Nk) g26_4 (fun ts m => goR E Mk 106500 ts m) := apS_le fun _ => apS_le fun _ => apS_le fun _ => apS_le fun _ => ap0_le fun _ => goR_eq 400 (by kernel_rfl)
noncomputable def g26_5 : List AV → CM := apS fun t0 => apS fun t4 => apS fun t7 => apS fun t9 => ap0 <|
CM.rm (q1 (loadA Tryz.prog 73) t7 ) fun x0 =>
CM.call 69 [t0, x0] fun x1 =>
CM.st (fun m => stV m t9 x1 5) <|
CM.pu (p1 (fun a => fieldAddrA Tryz.prog 65 a 0) t9) fun x3 =>
CM.rm (q1 (loadA Tryz.prog 25) x3 ) fun x4 =>
CM.pu (p2 (binA Tryz.prog .neq 25) x4 (.int .i64 0)) fun x5 =>
CM.cond x5 (
CM.pu (p1 (fun a => fieldAddrA Tryz.prog 65 a 0) t9) fun x6 =>
CM.rm (q1 (loadA Tryz.prog 25) x6 ) fun x7 =>
CM.pu (p1 (buildA Tryz.prog 65) [(0, x7)]) fun x8 =>
CM.st (fun m => stV m t9 x8 5) <|
CM.go 106502 [t0, t4, t7, t9]) (
CM.go 106502 [t0, t4, t7, t9])
theorem g26_5_ok : LeD (real E Mk Nk) g26_5 (fun ts m => goR E Mk 106501 ts m) := apS_le fun _ => apS_le fun _ => apS_le fun _ => apS_le fun _ => ap0_le fun _ => goR_eq 400 (by kernel_rfl)
noncomputable def g26_6 : List AV → CM := apS fun t0 => apS fun t4 => apS fun t7 => apS fun t9 => ap0 <|
CM.pu (p1 nnA t0) fun x0 =>
CM.pu (p1 (fun a => fieldAddrA Tryz.prog 137 a 2) x0) fun x1 =>
CM.rm (q1 (loadA Tryz.prog 133) x1 ) fun x2 =>
CM.pu (p1 (fun a => fieldAddrA Tryz.prog 73 a 1) t7) fun x3 =>
CM.rm (q1 (loadA Tryz.prog 30) x3 ) fun x4 =>
CM.pu (p1 (fun a => fieldAddrA Tryz.prog 73 a 2) t7) fun x5 =>
CM.rm (q1 (loadA Tryz.prog 30) x5 ) fun x6 =>
CM.rm (q1 (loadA Tryz.prog 65) t9 ) fun x7 =>
CM.call 70 [x2, x4, x6, x7] fun _ =>
CM.rm (q1 (loadA Tryz.prog 65) t9 ) fun x11 =>
CM.st (fun m => stV m t4 x11 5) <|
CM.resC Tryz.prog [ResultVar.cell 0 65, ResultVar.tmp 1] [t4, (.bool true)]
theorem g26_6_ok : LeD (real E Mk Nk) g26_6 (fun ts m => goR E Mk 106502 ts m) := apS_le fun _ => apS_le fun _ => apS_le fun _ => apS_le fun _ => ap0_le fun _ => goR_eq 400 (by kernel_rfl)
noncomputable def f26 : List AV → CM := apS fun a0 => apS fun a1 => ap0 <|
CM.al (boxA a1) fun x0 =>
CM.al (some (.cells [(.int .i64 0), (.int .u64 0), (.int .i64 0), (.int .u64 0), (.int .i64 0)] false, pB)) fun x1 =>
CM.pu (p1 (fun a => fieldAddrA Tryz.prog 70 a 0) x0) fun x2 =>
CM.rm (q1 (loadA Tryz.prog 3) x2 ) fun x3 =>
CM.pu (p2 (binA Tryz.prog .eql 3) x3 (.int .i64 0)) fun x4 =>
CM.ifv x4 (
CM.go 106496 [a0, x0, x1, (.bool true)]) (
CM.pu (p1 (fun a => fieldAddrA Tryz.prog 70 a 0) x0) fun x5 =>
CM.rm (q1 (loadA Tryz.prog 3) x5 ) fun x6 =>
CM.pu (p2 (binA Tryz.prog .eql 3) x6 (.int .i64 1)) fun x7 =>
CM.ifv x7 (
CM.go 106496 [a0, x0, x1, (.bool true)]) (
CM.pu (p1 (fun a => fieldAddrA Tryz.prog 70 a 0) x0) fun x8 =>
CM.rm (q1 (loadA Tryz.prog 3) x8 ) fun x9 =>
CM.pu (p2 (binA Tryz.prog .eql 3) x9 (.int .i64 2)) fun x10 =>
CM.go 106496 [a0, x0, x1, x10]))
theorem f26_ok : LeD (real E Mk Nk) f26 (fun xs m => run E (.fn 26) xs m) := apS_le fun _ => apS_le fun _ => ap0_le fun _ => run_eq 400 rfl (by kernel_rfl) (by kernel_rfl)
noncomputable def f27 : List AV → CM := apS fun a0 => apS fun a1 => ap0 <|
CM.al (boxA a1) fun x0 =>
CM.al (some (.cells [(.int .i64 0), (.int .u64 0), (.int .u64 0), (.sl none 0 0 0 true), (.int .i64 0)] false, pB)) fun x1 =>
CM.rm (q1 (loadA Tryz.prog 73) x0 ) fun x2 =>
CM.call 71 [x2] fun x3 =>
CM.pu (p1 (buildA Tryz.prog 70) [(0, (.int .i64 1)), (1, (.int .u64 1)), (2, a0), (3, x3)]) fun x4 =>
CM.st (fun m => stV m x1 x4 5) <|
CM.resC Tryz.prog [ResultVar.cell 0 70] [x1]
theorem f27_ok : LeD (real E Mk Nk) f27 (fun xs m => run E (.fn 27) xs m) := apS_le fun _ => apS_le fun _ => ap0_le fun _ => run_eq 400 rfl (by kernel_rfl) (by kernel_rfl)
noncomputable def g28_0 : List AV → CM := apS fun t0 => apS fun t1 => apS fun t7 => apS fun t8 => ap0 <|
CM.rm (q1 (loadA Tryz.prog 49) t7 ) fun x0 =>
CM.pu (p1 nnA t0) fun x1 =>
CM.pu (p1 (fun a => fieldAddrA Tryz.prog 137 a 0) x1) fun x2 =>
CM.pu (p1 (fun a => fieldAddrA Tryz.prog 62 a 10) x2) fun x3 =>
CM.rm (q1 (loadA Tryz.prog 3) x3 ) fun x4 =>
CM.call 73 [x0, x4] fun x6 =>
CM.pu (p1 (fun a => extractA a 0) x6) fun x8 =>
CM.pu (p1 (fun a => extractA a 1) x6) fun x9 =>
CM.pu (p1 nnA t0) fun x10 =>
CM.pu (p1 (fun a => fieldAddrA Tryz.prog 137 a 0) x10) fun x11 =>
CM.pu (p1 (fun a => fieldAddrA Tryz.prog 62 a 11) x11) fun x12 =>
CM.rm (q1 (loadA Tryz.prog 3) x12 ) fun x13 =>
CM.pu (p1 nnA t0) fun x14 =>
CM.pu (p1 (fun a => fieldAddrA Tryz.prog 137 a 0) x14) fun x15 =>
CM.pu (p1 (fun a => fieldAddrA Tryz.prog 62 a 12) x15) fun x16 =>
CM.rm (q1 (loadA Tryz.prog 30) x16 ) fun x17 =>
CM.call 74 [t8, x13, x17] fun x19 =>
CM.pu (p1 (fun a => extractA a 0) x19) fun x21 =>
CM.pu (p1 (fun a => extractA a 1) x19) fun x22 =>
CM.pu (p2 (binA Tryz.prog .neq 25) x9 (.int .i64 0)) fun x23 =>
CM.ifv x23 (
CM.ret (.int .i64 1)) (
CM.pu (p2 (binA Tryz.prog .neq 25) x22 (.int .i64 0)) fun x24 =>
CM.cond x24 (
CM.ret (.int .i64 1)) (
CM.go 114689 [t0, t1, x8, x21]))
theorem g28_0_ok : LeD (real E Mk Nk) g28_0 (fun ts m => goR E Mk 114688 ts m) := apS_le fun _ => apS_le fun _ => apS_le fun _ => apS_le fun _ => ap0_le fun _ => goR_eq 400 (by kernel_rfl)
noncomputable def g28_1 : List AV → CM := apS fun t0 => apS fun t1 => apS fun t10 => apS fun t12 => ap0 <|
CM.pu (p1 nnA t0) fun x0 =>
CM.pu (p1 (fun a => fieldAddrA Tryz.prog 137 a 1) x0) fun x1 =>
CM.st (fun m => stV m x1 t10 1) <|
CM.pu (p1 nnA t0) fun x3 =>
CM.pu (p1 (fun a => fieldAddrA Tryz.prog 137 a 2) x3) fun x4 =>
CM.st (fun m => stV m x4 t12 1) <|
CM.pu (p1 nnA t0) fun x6 =>
CM.pu (p1 (fun a => fieldAddrA Tryz.prog 137 a 3) x6) fun x7 =>
CM.st (fun m => stV m x7 t1 1) <|
CM.ret (.int .i64 0)
theorem g28_1_ok : LeD (real E Mk Nk) g28_1 (fun ts m => goR E Mk 114689 ts m) := apS_le fun _ => apS_le fun _ => apS_le fun _ => apS_le fun _ => ap0_le fun _ => goR_eq 400 (by kernel_rfl)
noncomputable def f28 : List AV → CM := apS fun a0 => apS fun a1 => apS fun a2 => ap0 <|
CM.call 72 [a2] fun x0 =>
CM.pu (p1 (fun a => extractA a 0) x0) fun x1 =>
CM.pu (p1 (fun a => extractA a 1) x0) fun x2 =>
CM.pu (p1 (fun a => extractA a 2) x0) fun x3 =>
CM.al (some (.cells [(.sl none 0 0 0 true), (.sl none 0 0 0 true), (.sl none 0 0 0 true), (.int .u64 0)] false, pB)) fun x4 =>
CM.st (fun m => stV m x4 x1 4) <|
CM.pu (p2 (binA Tryz.prog .gtr 30) a1 (.int .u64 72057594037927935)) fun x6 =>
CM.ifv x6 (
CM.ret (.int .i64 1)) (
CM.pu (p2 (binA Tryz.prog .neq 25) x3 (.int .i64 0)) fun x7 =>
CM.cond x7 (
CM.ret (.int .i64 1)) (
CM.go 114688 [a0, a1, x4, x2]))
theorem f28_ok : LeD (real E Mk Nk) f28 (fun xs m => run E (.fn 28) xs m) := apS_le fun _ => apS_le fun _ => apS_le fun _ => ap0_le fun _ => run_eq 400 rfl (by kernel_rfl) (by kernel_rfl)
noncomputable def f29 : List AV → CM := apS fun a0 => ap0 <|
CM.pu (p1 nnA a0) fun x0 =>
CM.pu (p1 (fun a => fieldAddrA Tryz.prog 137 a 2) x0) fun x1 =>
CM.rm (q1 (loadA Tryz.prog 133) x1 ) fun x2 =>
CM.call 75 [x2] fun x3 =>
CM.ret x3
theorem f29_ok : LeD (real E Mk Nk) f29 (fun xs m => run E (.fn 29) xs m) := apS_le fun _ => ap0_le fun _ => run_eq 400 rfl (by kernel_rfl) (by kernel_rfl)
noncomputable def g30_0 : List AV → CM := apS fun t0 => ap0 <|
CM.pu (p1 (buildA Tryz.prog 158) [(2, t0)]) fun x0 =>
CM.al (boxA x0) fun x1 =>
CM.ret (.tup [x1, (.int .i64 0)])
theorem g30_0_ok : LeD (real E Mk Nk) g30_0 (fun ts m => goR E Mk 122880 ts m) := apS_le fun _ => ap0_le fun _ => goR_eq 400 (by kernel_rfl)
noncomputable def f30 : List AV → CM := apS fun a0 => ap0 <|
CM.pu (p2 (binA Tryz.prog .lss 3) a0 (.int .i64 1)) fun x0 =>
CM.ifv x0 (
CM.ret (.tup [(.ptr none), (.int .i64 1)])) (
CM.pu (p2 (binA Tryz.prog .gtr 3) a0 (.int .i64 4096)) fun x1 =>
CM.cond x1 (
CM.ret (.tup [(.ptr none), (.int .i64 1)])) (
CM.go 122880 [a0]))
theorem f30_ok : LeD (real E Mk Nk) f30 (fun xs m => run E (.fn 30) xs m) := apS_le fun _ => ap0_le fun _ => run_eq 400 rfl (by kernel_rfl) (by kernel_rfl)
noncomputable def g31_0 : List AV → CM := apS fun t0 => ap0 <|
CM.pu (p1 (buildA Tryz.prog 160) [(2, t0)]) fun x0 =>
CM.al (boxA x0) fun x1 =>
CM.ret (.tup [x1, (.int .i64 0)])
theorem g31_0_ok : LeD (real E Mk Nk) g31_0 (fun ts m => goR E Mk 126976 ts m) := apS_le fun _ => ap0_le fun _ => goR_eq 400 (by kernel_rfl)
noncomputable def f31 : List AV → CM := apS fun a0 => ap0 <|
CM.pu (p2 (binA Tryz.prog .lss 3) a0 (.int .i64 1)) fun x0 =>
CM.ifv x0 (
CM.ret (.tup [(.ptr none), (.int .i64 1)])) (
CM.pu (p2 (binA Tryz.prog .gtr 3) a0 (.int .i64 4096)) fun x1 =>
CM.cond x1 (
CM.ret (.tup [(.ptr none), (.int .i64 1)])) (
CM.go 126976 [a0]))
theorem f31_ok : LeD (real E Mk Nk) f31 (fun xs m => run E (.fn 31) xs m) := apS_le fun _ => ap0_le fun _ => run_eq 400 rfl (by kernel_rfl) (by kernel_rfl)
noncomputable def g32_0 : List AV → CM := apS fun t0 => ap0 <|
CM.pu (p1 (buildA Tryz.prog 162) [(2, t0)]) fun x0 =>
CM.al (boxA x0) fun x1 =>
CM.ret (.tup [x1, (.int .i64 0)])
theorem g32_0_ok : LeD (real E Mk Nk) g32_0 (fun ts m => goR E Mk 131072 ts m) := apS_le fun _ => ap0_le fun _ => goR_eq 400 (by kernel_rfl)
noncomputable def f32 : List AV → CM := apS fun a0 => ap0 <|
CM.pu (p2 (binA Tryz.prog .lss 3) a0 (.int .i64 1)) fun x0 =>
CM.ifv x0 (
CM.ret (.tup [(.ptr none), (.int .i64 1)])) (
CM.pu (p2 (binA Tryz.prog .gtr 3) a0 (.int .i64 4096)) fun x1 =>
CM.cond x1 (
CM.ret (.tup [(.ptr none), (.int .i64 1)])) (
CM.go 131072 [a0]))
theorem f32_ok : LeD (real E Mk Nk) f32 (fun xs m => run E (.fn 32) xs m) := apS_le fun _ => ap0_le fun _ => run_eq 400 rfl (by kernel_rfl) (by kernel_rfl)
noncomputable def g33_0 : List AV → CM := apS fun t4 => apS fun t6 => ap0 <|
CM.pu (p1 (fun a => fieldAddrA Tryz.prog 85 a 2) t6) fun x0 =>
CM.rm (q1 (loadA Tryz.prog 35) x0 ) fun x1 =>
CM.pu (p1 (fun a => fieldAddrA Tryz.prog 85 a 1) t6) fun x2 =>
CM.rm (q1 (loadA Tryz.prog 3) x2 ) fun x3 =>
CM.pu (p1 (buildA Tryz.prog 37) [(0, x1), (1, x3)]) fun x4 =>
CM.st (fun m => stV m t4 x4 3) <|
CM.resC Tryz.prog [ResultVar.cell 0 37, ResultVar.tmp 1] [t4, (.int .i64 0)]
theorem g33_0_ok : LeD (real E Mk Nk) g33_0 (fun ts m => goR E Mk 135168 ts m) := apS_le fun _ => apS_le fun _ => ap0_le fun _ => goR_eq 400 (by kernel_rfl)
noncomputable def f33 : List AV → CM := apS fun a0 => apS fun a1 => ap0 <|
CM.al (some (.cells [(.int .i64 0), (.int .u64 0), (.int .i64 0)] false, pB)) fun x0 =>
CM.pu (p1 nnA a0) fun x1 =>
CM.pu (p1 (fun a => fieldAddrA Tryz.prog 81 a 1) x1) fun x2 =>
CM.rm (q1 (loadA Tryz.prog 77) x2 ) fun x3 =>
CM.call 34 [x3, a1] fun x4 =>
CM.pu (p1 (fun a => extractA a 0) x4) fun x5 =>
CM.pu (p1 (fun a => extractA a 1) x4) fun x6 =>
CM.al (some (.cells [(.str []), (.int .i64 0), (.int .i64 0), (.int .u64 0)] false, pB)) fun x7 =>
CM.st (fun m => stV m x7 x5 4) <|
CM.pu (p1 (unA .not) x6) fun x9 =>
CM.cond x9 (
CM.pu (p1 (buildA Tryz.prog 37) []) fun x10 =>
CM.st (fun m => stV m x0 x10 3) <|
CM.resC Tryz.prog [ResultVar.cell 0 37, ResultVar.tmp 1] [x0, (.int .i64 41)]) (
CM.go 135168 [x0, x7])
theorem f33_ok : LeD (real E Mk Nk) f33 (fun xs m => run E (.fn 33) xs m) := apS_le fun _ => apS_le fun _ => ap0_le fun _ => run_eq 400 rfl (by kernel_rfl) (by kernel_rfl)
noncomputable def g34_0 : List AV → CM := apS fun t0 => apS fun t4 => apS fun t6 => ap0 <|
CM.pu (p1 nnA t0) fun x0 =>
CM.pu (p1 (fun a => fieldAddrA Tryz.prog 158 a 1) x0) fun x1 =>
CM.rm (q1 (loadA Tryz.prog 45) x1 ) fun x2 =>
CM.pu (p2 (indexAddrA Tryz.prog 45) x2 t6) fun x3 =>
CM.rm (q1 (loadA Tryz.prog 85) x3 ) fun x4 =>
CM.st (fun m => stV m t4 x4 4) <|
CM.resC Tryz.prog [ResultVar.cell 0 85, ResultVar.tmp 1] [t4, (.bool true)]
theorem g34_0_ok : LeD (real E Mk Nk) g34_0 (fun ts m => goR E Mk 139264 ts m) := apS_le fun _ => apS_le fun _ => apS_le fun _ => ap0_le fun _ => goR_eq 400 (by kernel_rfl)
noncomputable def f34 : List AV → CM := apS fun a0 => apS fun a1 => ap0 <|
CM.al (some (.cells [(.str []), (.int .i64 0), (.int .i64 0), (.int .u64 0)] false, pB)) fun x0 =>
CM.pu (p1 nnA a0) fun x1 =>
CM.pu (p1 (fun a => fieldAddrA Tryz.prog 158 a 0) x1) fun x2 =>
CM.rm (q1 (loadA Tryz.prog 156) x2 ) fun x3 =>
CM.call 76 [x3, a1] fun x4 =>
CM.pu (p1 (fun a => extractA a 0) x4) fun x5 =>
CM.pu (p1 (fun a => extractA a 1) x4) fun x6 =>
CM.pu (p1 (unA .not) x6) fun x7 =>
CM.cond x7 (
CM.al (some (.cells [(.str []), (.int .i64 0), (.int .i64 0), (.int .u64 0)] false, pB)) fun x8 =>
CM.rm (q1 (loadA Tryz.prog 85) x8 ) fun x9 =>
CM.st (fun m => stV m x0 x9 4) <|
CM.resC Tryz.prog [ResultVar.cell 0 85, ResultVar.tmp 1] [x0, (.bool false)]) (
CM.go 139264 [a0, x0, x5])
theorem f34_ok : LeD (real E Mk Nk) f34 (fun xs m => run E (.fn 34) xs m) := apS_le fun _ => apS_le fun _ => ap0_le fun _ => run_eq 400 rfl (by kernel_rfl) (by kernel_rfl)
noncomputable def g35_0 : List AV → CM := apS fun t0 => apS fun t3 => ap0 <|
CM.pu (p1 (lenT Tryz.prog 9) t0) fun x0 =>
CM.pu (p2 (binA Tryz.prog .lss 3) t3 x0) fun x1 =>
CM.cond x1 (
CM.go 143361 [t0, t3]) (
CM.go 143363 [t0])
theorem g35_0_ok : LeD (real E Mk Nk) g35_0 (fun ts m => goR E Mk 143360 ts m) := apS_le fun _ => apS_le fun _ => ap0_le fun _ => goR_eq 400 (by kernel_rfl)
noncomputable def g35_1 : List AV → CM := apS fun t0 => apS fun t3 => ap0 <|
CM.pu (p2 (indexA Tryz.prog 9) t0 t3) fun x0 =>
CM.pu (p2 (binA Tryz.prog .lss 5) x0 (.int .u8 65)) fun x1 =>
CM.ifv x1 (
CM.ret (.bool false)) (
CM.pu (p2 (indexA Tryz.prog 9) t0 t3) fun x2 =>
CM.pu (p2 (binA Tryz.prog .gtr 5) x2 (.int .u8 90)) fun x3 =>
CM.cond x3 (
CM.ret (.bool false)) (
CM.go 143362 [t0, t3]))
theorem g35_1_ok : LeD (real E Mk Nk) g35_1 (fun ts m => goR E Mk 143361 ts m) := apS_le fun _ => apS_le fun _ => ap0_le fun _ => goR_eq 400 (by kernel_rfl)
noncomputable def g35_2 : List AV → CM := apS fun t0 => apS fun t3 => ap0 <|
CM.pu (p2 (binA Tryz.prog .add 3) t3 (.int .i64 1)) fun x0 =>
CM.go 143360 [t0, x0]
theorem g35_2_ok : LeD (real E Mk Nk) g35_2 (fun ts m => goR E Mk 143362 ts m) := apS_le fun _ => apS_le fun _ => ap0_le fun _ => goR_eq 400 (by kernel_rfl)
noncomputable def g35_3 : List AV → CM := apS fun t0 => ap0 <|
CM.pu (p1 (lenT Tryz.prog 9) t0) fun x0 =>
CM.pu (p2 (binA Tryz.prog .eql 3) x0 (.int .i64 3)) fun x1 =>
CM.ret x1
theorem g35_3_ok : LeD (real E Mk Nk) g35_3 (fun ts m => goR E Mk 143363 ts m) := apS_le fun _ => ap0_le fun _ => goR_eq 400 (by kernel_rfl)
noncomputable def f35 : List AV → CM := apS fun a0 => ap0 <|
CM.go 143360 [a0, (.int .i64 0)]
theorem f35_ok : LeD (real E Mk Nk) f35 (fun xs m => run E (.fn 35) xs m) := apS_le fun _ => ap0_le fun _ => run_eq 400 rfl (by kernel_rfl) (by kernel_rfl)
noncomputable def g36_0 : List AV → CM := ap0 <|
CM.ret (.bool true)
theorem g36_0_ok : LeD (real E Mk Nk) g36_0 (fun ts m => goR E Mk 147456 ts m) := ap0_le fun _ => goR_eq 400 (by kernel_rfl)
noncomputable def f36 : List AV → CM := apS fun a0 => apS fun a1 => apS fun a2 => ap0 <|
CM.al (boxA a2) fun x0 =>
CM.pu (p1 nnA a0) fun x1 =>
CM.pu (p1 (fun a => fieldAddrA Tryz.prog 158 a 0) x1) fun x2 =>
CM.rm (q1 (loadA Tryz.prog 156) x2 ) fun x3 =>
CM.call 76 [x3, a1] fun x4 =>
CM.pu (p1 (fun a => extractA a 0) x4) fun x5 =>
CM.pu (p1 (fun a => extractA a 1) x4) fun x6 =>
CM.cond x6 (
CM.pu (p1 nnA a0) fun x7 =>
CM.pu (p1 (fun a => fieldAddrA Tryz.prog 158 a 1) x7) fun x8 =>
CM.rm (q1 (loadA Tryz.prog 45) x8 ) fun x9 =>
CM.rm (q1 (loadA Tryz.prog 85) x0 ) fun x10 =>
CM.pu (p2 (indexAddrA Tryz.prog 45) x9 x5) fun x11 =>
CM.st (fun m => stV m x11 x10 4) <|
CM.go 147456 []) (
CM.pu (p1 nnA a0) fun x15 =>
CM.pu (p1 (fun a => fieldAddrA Tryz.prog 158 a 0) x15) fun x16 =>
CM.rm (q1 (loadA Tryz.prog 156) x16 ) fun x17 =>
CM.pu (p1 (lenT Tryz.prog 156) x17) fun x18 =>
CM.pu (p1 nnA a0) fun x19 =>
CM.pu (p1 (fun a => fieldAddrA Tryz.prog 158 a 2) x19) fun x20 =>
CM.rm (q1 (loadA Tryz.prog 3) x20 ) fun x21 =>
CM.pu (p2 (binA Tryz.prog .geq 3) x18 x21) fun x22 =>
CM.cond x22 (
CM.ret (.bool false)) (
CM.pu (p1 nnA a0) fun x23 =>
CM.pu (p1 (fun a => fieldAddrA Tryz.prog 158 a 0) x23) fun x24 =>
CM.rm (q1 (loadA Tryz.prog 156) x24 ) fun x25 =>
CM.al (bsA 1 1 [(.str [])] [(0, a1)]) fun x26 =>
CM.call 77 [x25, x5, x26] fun x27 =>
CM.pu (p1 nnA a0) fun x28 =>
CM.pu (p1 (fun a => fieldAddrA Tryz.prog 158 a 0) x28) fun x29 =>
CM.st (fun m => stV m x29 x27 1) <|
CM.pu (p1 nnA a0) fun x31 =>
CM.pu (p1 (fun a => fieldAddrA Tryz.prog 158 a 1) x31) fun x32 =>
CM.rm (q1 (loadA Tryz.prog 45) x32 ) fun x33 =>
CM.rm (q1 (loadA Tryz.prog 85) x0 ) fun x34 =>
CM.al (bsA 4 1 [(.str []), (.int .i64 0), (.int .i64 0), (.int .u64 0)] [(0, x34)]) fun x35 =>
CM.call 78 [x33, x5, x35] fun x37 =>
CM.pu (p1 nnA a0) fun x39 =>
CM.pu (p1 (fun a => fieldAddrA Tryz.prog 158 a 1) x39) fun x40 =>
CM.st (fun m => stV m x40 x37 1) <|
CM.go 147456 []))
theorem f36_ok : LeD (real E Mk Nk) f36 (fun xs m => run E (.fn 36) xs m) := apS_le fun _ => apS_le fun _ => apS_le fun _ => ap0_le fun _ => run_eq 400 rfl (by kernel_rfl) (by kernel_rfl)
noncomputable def f37 : List AV → CM := apS fun a0 => ap0 <|
CM.pu (p1 nnA a0) fun x0 =>
CM.pu (p1 (fun a => fieldAddrA Tryz.prog 162 a 0) x0) fun x1 =>
CM.rm (q1 (loadA Tryz.prog 142) x1 ) fun x2 =>
CM.pu (p1 (lenT Tryz.prog 142) x2) fun x3 =>
CM.ret x3
theorem f37_ok : LeD (real E Mk Nk) f37 (fun xs m => run E (.fn 37) xs m) := apS_le fun _ => ap0_le fun _ => run_eq 400 rfl (by kernel_rfl) (by kernel_rfl)
noncomputable def g38_0 : List AV → CM := ap0 <|
CM.ret (.bool true)
theorem g38_0_ok : LeD (real E Mk Nk) g38_0 (fun ts m => goR E Mk 155648 ts m) := ap0_le fun _ => goR_eq 400 (by kernel_rfl)
noncomputable def f38 : List AV → CM := apS fun a0 => apS fun a1 => apS fun a2 => ap0 <|
CM.al (boxA a2) fun x0 =>
CM.pu (p1 nnA a0) fun x1 =>
CM.pu (p1 (fun a => fieldAddrA Tryz.prog 162 a 0) x1) fun x2 =>
CM.rm (q1 (loadA Tryz.prog 142) x2 ) fun x3 =>
CM.call 79 [x3, a1] fun x4 =>
CM.pu (p1 (fun a => extractA a 0) x4) fun x5 =>
CM.pu (p1 (fun a => extractA a 1) x4) fun x6 =>
CM.cond x6 (
CM.pu (p1 nnA a0) fun x7 =>
CM.pu (p1 (fun a => fieldAddrA Tryz.prog 162 a 1) x7) fun x8 =>
CM.rm (q1 (loadA Tryz.prog 47) x8 ) fun x9 =>
CM.rm (q1 (loadA Tryz.prog 91) x0 ) fun x10 =>
CM.pu (p2 (indexAddrA Tryz.prog 47) x9 x5) fun x11 =>
CM.st (fun m => stV m x11 x10 4) <|
CM.go 155648 []) (
CM.pu (p1 nnA a0) fun x15 =>
CM.pu (p1 (fun a => fieldAddrA Tryz.prog 162 a 0) x15) fun x16 =>
CM.rm (q1 (loadA Tryz.prog 142) x16 ) fun x17 =>
CM.pu (p1 (lenT Tryz.prog 142) x17) fun x18 =>
CM.pu (p1 nnA a0) fun x19 =>
CM.pu (p1 (fun a => fieldAddrA Tryz.prog 162 a 2) x19) fun x20 =>
CM.rm (q1 (loadA Tryz.prog 3) x20 ) fun x21 =>
CM.pu (p2 (binA Tryz.prog .geq 3) x18 x21) fun x22 =>
CM.cond x22 (
CM.ret (.bool false)) (
CM.pu (p1 nnA a0) fun x23 =>
CM.pu (p1 (fun a => fieldAddrA Tryz.prog 162 a 0) x23) fun x24 =>
CM.rm (q1 (loadA Tryz.prog 142) x24 ) fun x25 =>
CM.al (bsA 1 1 [(.int .u64 0)] [(0, a1)]) fun x26 =>
CM.call 80 [x25, x5, x26] fun x27 =>
CM.pu (p1 nnA a0) fun x28 =>
CM.pu (p1 (fun a => fieldAddrA Tryz.prog 162 a 0) x28) fun x29 =>
CM.st (fun m => stV m x29 x27 1) <|
CM.pu (p1 nnA a0) fun x31 =>
CM.pu (p1 (fun a => fieldAddrA Tryz.prog 162 a 1) x31) fun x32 =>
CM.rm (q1 (loadA Tryz.prog 47) x32 ) fun x33 =>
CM.rm (q1 (loadA Tryz.prog 91) x0 ) fun x34 =>
CM.al (bsA 4 1 [(.int .u64 0), (.str []), (.int .i64 0), (.int .u64 0)] [(0, x34)]) fun x35 =>
CM.call 81 [x33, x5, x35] fun x37 =>
CM.pu (p1 nnA a0) fun x39 =>
CM.pu (p1 (fun a => fieldAddrA Tryz.prog 162 a 1) x39) fun x40 =>
CM.st (fun m => stV m x40 x37 1) <|
CM.go 155648 []))
theorem f38_ok : LeD (real E Mk Nk) f38 (fun xs m => run E (.fn 38) xs m) := apS_le fun _ => apS_le fun _ => apS_le fun _ => ap0_le fun _ => run_eq 400 rfl (by kernel_rfl) (by kernel_rfl)
noncomputable def g39_0 : List AV → CM := apS fun t0 => apS fun t4 => apS fun t5 => apS fun t7 => ap0 <|
CM.pu (p1 nnA t0) fun x0 =>
CM.pu (p1 (fun a => fieldAddrA Tryz.prog 81 a 1) x0) fun x1 =>
CM.rm (q1 (loadA Tryz.prog 77) x1 ) fun x2 =>
CM.pu (p1 (fun a => fieldAddrA Tryz.prog 91 a 1) t7) fun x3 =>
CM.rm (q1 (loadA Tryz.prog 9) x3 ) fun x4 =>
CM.call 34 [x2, x4] fun x6 =>
CM.pu (p1 (fun a => extractA a 0) x6) fun x8 =>
CM.pu (p1 (fun a => extractA a 1) x6) fun _ =>
CM.al (some (.cells [(.str []), (.int .i64 0), (.int .i64 0), (.int .u64 0)] false, pB)) fun x10 =>
CM.st (fun m => stV m x10 x8 4) <|
CM.rm (q1 (loadA Tryz.prog 91) t7 ) fun x14 =>
CM.rm (q1 (loadA Tryz.prog 85) x10 ) fun x15 =>
CM.st (fun m => stV m t4 x14 4) <|
CM.memo fun m18 =>
CM.chk (q1 (loadA Tryz.prog 85) x10 m18) x15 <|
CM.st (fun m => stV m t5 x15 4) <|
CM.resC Tryz.prog [ResultVar.cell 0 91, ResultVar.cell 1 85, ResultVar.tmp 2] [t4, t5, (.int .i64 0)]
theorem g39_0_ok : LeD (real E Mk Nk) g39_0 (fun ts m => goR E Mk 159744 ts m) := apS_le fun _ => apS_le fun _ => apS_le fun _ => apS_le fun _ => ap0_le fun _ => goR_eq 400 (by kernel_rfl)
noncomputable def f39 : List AV → CM := apS fun a0 => apS fun a1 => ap0 <|
CM.al (some (.cells [(.int .u64 0), (.str []), (.int .i64 0), (.int .u64 0)] false, pB)) fun x0 =>
CM.al (some (.cells [(.str []), (.int .i64 0), (.int .i64 0), (.int .u64 0)] false, pB)) fun x1 =>
CM.pu (p1 nnA a0) fun x2 =>
CM.pu (p1 (fun a => fieldAddrA Tryz.prog 81 a 3) x2) fun x3 =>
CM.rm (q1 (loadA Tryz.prog 79) x3 ) fun x4 =>
CM.call 82 [x4, a1] fun x5 =>
CM.pu (p1 (fun a => extractA a 0) x5) fun x6 =>
CM.pu (p1 (fun a => extractA a 1) x5) fun x7 =>
CM.al (some (.cells [(.int .u64 0), (.str []), (.int .i64 0), (.int .u64 0)] false, pB)) fun x8 =>
CM.st (fun m => stV m x8 x6 4) <|
CM.pu (p1 (unA .not) x7) fun x10 =>
CM.cond x10 (
CM.rm (q1 (loadA Tryz.prog 91) x8 ) fun x11 =>
CM.pu (p1 (buildA Tryz.prog 85) []) fun x12 =>
CM.st (fun m => stV m x0 x11 4) <|
CM.st (fun m => stV m x1 x12 4) <|
CM.resC Tryz.prog [ResultVar.cell 0 91, ResultVar.cell 1 85, ResultVar.tmp 2] [x0, x1, (.int .i64 40)]) (
CM.go 159744 [a0, x0, x1, x8])
theorem f39_ok : LeD (real E Mk Nk) f39 (fun xs m => run E (.fn 39) xs m) := apS_le fun _ => apS_le fun _ => ap0_le fun _ => run_eq 400 rfl (by kernel_rfl) (by kernel_rfl)
noncomputable def g40_0 : List AV → CM := ap0 <|
CM.ret (.int .i64 0)
theorem g40_0_ok : LeD (real E Mk Nk) g40_0 (fun ts m => goR E Mk 163840 ts m) := ap0_le fun _ => goR_eq 400 (by kernel_rfl)
noncomputable def f40 : List AV → CM := apS fun a0 => apS fun a1 => ap0 <|
CM.al (boxA a0) fun x0 =>
CM.al (boxA a1) fun x1 =>
CM.pu (p1 (fun a => fieldAddrA Tryz.prog 37 a 1) x1) fun x2 =>
CM.rm (q1 (loadA Tryz.prog 3) x2 ) fun x3 =>
CM.pu (p1 (fun a => fieldAddrA Tryz.prog 85 a 1) x0) fun x4 =>
CM.rm (q1 (loadA Tryz.prog 3) x4 ) fun x5 =>
CM.pu (p2 (binA Tryz.prog .neq 3) x3 x5) fun x6 =>
CM.cond x6 (
CM.ret (.int .i64 21)) (
CM.pu (p1 (fun a => fieldAddrA Tryz.prog 37 a 0) x1) fun x7 =>
CM.rm (q1 (loadA Tryz.prog 35) x7 ) fun x8 =>
CM.call 83 [x8] fun x9 =>
CM.pu (p2 (binA Tryz.prog .leq 3) x9 (.int .i64 0)) fun x10 =>
CM.cond x10 (
CM.ret (.int .i64 43)) (
CM.go 163840 []))
theorem f40_ok : LeD (real E Mk Nk) f40 (fun xs m => run E (.fn 40) xs m) := apS_le fun _ => apS_le fun _ => ap0_le fun _ => run_eq 400 rfl (by kernel_rfl) (by kernel_rfl)
noncomputable def g41_0 : List AV → CM := apS fun t0 => apS fun t1 => apS fun t7 => apS fun t9 => ap0 <|
CM.rm (q1 (loadA Tryz.prog 35) t7 ) fun x0 =>
CM.rm (q1 (loadA Tryz.prog 35) t9 ) fun x1 =>
CM.pu (p1 nnA t0) fun x2 =>
CM.st (fun m => stV m x2 x0 2) <|
CM.memo fun m5 =>
CM.chk (q1 (loadA Tryz.prog 35) t9 m5) x1 <|
CM.pu (p1 nnA t1) fun x6 =>
CM.st (fun m => stV m x6 x1 2) <|
CM.ret (.int .i64 0)
theorem g41_0_ok : LeD (real E Mk Nk) g41_0 (fun ts m => goR E Mk 167936 ts m) := apS_le fun _ => apS_le fun _ => apS_le fun _ => apS_le fun _ => ap0_le fun _ => goR_eq 400 (by kernel_rfl)
noncomputable def f41 : List AV → CM := apS fun a0 => apS fun a1 => apS fun a2 => ap0 <|
CM.al (boxA a2) fun x0 =>
CM.pu (p1 nnA a0) fun x1 =>
CM.rm (q1 (loadA Tryz.prog 35) x1 ) fun x2 =>
CM.rm (q1 (loadA Tryz.prog 35) x0 ) fun x3 =>
CM.call 57 [x2, x3] fun x5 =>
CM.pu (p1 (fun a => extractA a 0) x5) fun x7 =>
CM.pu (p1 (fun a => extractA a 1) x5) fun x8 =>
CM.al (some (.cells [(.int .i64 0), (.int .u64 0)] false, pB)) fun x9 =>
CM.st (fun m => stV m x9 x7 2) <|
CM.pu (p1 nnA a1) fun x13 =>
CM.rm (q1 (loadA Tryz.prog 35) x13 ) fun x14 =>
CM.rm (q1 (loadA Tryz.prog 35) x0 ) fun x15 =>
CM.call 84 [x14, x15] fun x17 =>
CM.pu (p1 (fun a => extractA a 0) x17) fun x19 =>
CM.pu (p1 (fun a => extractA a 1) x17) fun x20 =>
CM.al (some (.cells [(.int .i64 0), (.int .u64 0)] false, pB)) fun x21 =>
CM.st (fun m => stV m x21 x19 2) <|
CM.pu (p2 (binA Tryz.prog .neq 25) x8 (.int .i64 0)) fun x25 =>
CM.ifv x25 (
CM.ret (.int .i64 20)) (
CM.pu (p2 (binA Tryz.prog .neq 25) x20 (.int .i64 0)) fun x26 =>
CM.cond x26 (
CM.ret (.int .i64 20)) (
CM.go 167936 [a0, a1, x9, x21]))
theorem f41_ok : LeD (real E Mk Nk) f41 (fun xs m => run E (.fn 41) xs m) := apS_le fun _ => apS_le fun _ => apS_le fun _ => ap0_le fun _ => run_eq 400 rfl (by kernel_rfl) (by kernel_rfl)
noncomputable def f42 : List AV → CM := apS fun a0 => apS fun a1 => ap0 <|
CM.al (boxA a1) fun x0 =>
CM.pu (p1 nnA a0) fun x1 =>
CM.pu (p1 (fun a => fieldAddrA Tryz.prog 81 a 3) x1) fun x2 =>
CM.rm (q1 (loadA Tryz.prog 79) x2 ) fun x3 =>
CM.pu (p1 (fun a => fieldAddrA Tryz.prog 91 a 0) x0) fun x4 =>
CM.rm (q1 (loadA Tryz.prog 30) x4 ) fun x5 =>
CM.rm (q1 (loadA Tryz.prog 91) x0 ) fun x6 =>
CM.call 38 [x3, x5, x6] fun _ =>
CM.ret .undef
theorem f42_ok : LeD (real E Mk Nk) f42 (fun xs m => run E (.fn 42) xs m) := apS_le fun _ => apS_le fun _ => ap0_le fun _ => run_eq 400 rfl (by kernel_rfl) (by kernel_rfl)
noncomputable def f43 : List AV → CM := apS fun a0 => ap0 <|
CM.al (some (.cells [(.int .i64 0), (.int .u64 0)] false, pB)) fun x0 =>
CM.pu (p2 (binA Tryz.prog .shr 2) a0 (.int .u64 63)) fun x1 =>
CM.pu (p1 (convA Tryz.prog 2 30) a0) fun x2 =>
CM.pu (p1 (buildA Tryz.prog 35) [(0, x1), (1, x2)]) fun x3 =>
CM.st (fun m => stV m x0 x3 2) <|
CM.resC Tryz.prog [ResultVar.cell 0 35] [x0]
theorem f43_ok : LeD (real E Mk Nk) f43 (fun xs m => run E (.fn 43) xs m) := apS_le fun _ => ap0_le fun _ => run_eq 400 rfl (by kernel_rfl) (by kernel_rfl)
noncomputable def g44_0 : List AV → CM := ap0 <|
CM.ret (.int .i64 0)
theorem g44_0_ok : LeD (real E Mk Nk) g44_0 (fun ts m => goR E Mk 180224 ts m) := ap0_le fun _ => goR_eq 400 (by kernel_rfl)
noncomputable def f44 : List AV → CM := apS fun a0 => ap0 <|
CM.al (boxA a0) fun x0 =>
CM.rm (q1 (loadA Tryz.prog 37) x0 ) fun x1 =>
CM.call 85 [x1] fun x2 =>
CM.pu (p1 (unA .not) x2) fun x3 =>
CM.cond x3 (
CM.ret (.int .i64 21)) (
CM.rm (q1 (loadA Tryz.prog 37) x0 ) fun x4 =>
CM.call 86 [x4] fun x5 =>
CM.pu (p1 (unA .not) x5) fun x6 =>
CM.cond x6 (
CM.ret (.int .i64 44)) (
CM.go 180224 []))
theorem f44_ok : LeD (real E Mk Nk) f44 (fun xs m => run E (.fn 44) xs m) := apS_le fun _ => ap0_le fun _ => run_eq 400 rfl (by kernel_rfl) (by kernel_rfl)
noncomputable def g45_0 : List AV → CM := apS fun t0 => apS fun t4 => apS fun t6 => ap0 <|
CM.pu (p1 nnA t0) fun x0 =>
CM.pu (p1 (fun a => fieldAddrA Tryz.prog 160 a 1) x0) fun x1 =>
CM.rm (q1 (loadA Tryz.prog 46) x1 ) fun x2 =>
CM.pu (p2 (indexAddrA Tryz.prog 46) x2 t6) fun x3 =>
CM.rm (q1 (loadA Tryz.prog 54) x3 ) fun x4 =>
CM.st (fun m => stV m t4 x4 9) <|
CM.resC Tryz.prog [ResultVar.cell 0 54, ResultVar.tmp 1] [t4, (.bool true)]
theorem g45_0_ok : LeD (real E Mk Nk) g45_0 (fun ts m => goR E Mk 184320 ts m) := apS_le fun _ => apS_le fun _ => apS_le fun _ => ap0_le fun _ => goR_eq 400 (by kernel_rfl)
noncomputable def f45 : List AV → CM := apS fun a0 => apS fun a1 => ap0 <|
CM.al (some (.cells [(.str []), (.str []), (.int .i64 0), (.int .u64 0), (.int .i64 0), (.int .i64 0), (.int .u64 0), (.int .i64 0), (.int .u64 0)] false, pB)) fun x0 =>
CM.pu (p1 nnA a0) fun x1 =>
CM.pu (p1 (fun a => fieldAddrA Tryz.prog 160 a 0) x1) fun x2 =>
CM.rm (q1 (loadA Tryz.prog 156) x2 ) fun x3 =>
CM.call 76 [x3, a1] fun x4 =>
CM.pu (p1 (fun a => extractA a 0) x4) fun x5 =>
CM.pu (p1 (fun a => extractA a 1) x4) fun x6 =>
CM.pu (p1 (unA .not) x6) fun x7 =>
CM.cond x7 (
CM.al (some (.cells [(.str []), (.str []), (.int .i64 0), (.int .u64 0), (.int .i64 0), (.int .i64 0), (.int .u64 0), (.int .i64 0), (.int .u64 0)] false, pB)) fun x8 =>
CM.rm (q1 (loadA Tryz.prog 54) x8 ) fun x9 =>
CM.st (fun m => stV m x0 x9 9) <|
CM.resC Tryz.prog [ResultVar.cell 0 54, ResultVar.tmp 1] [x0, (.bool false)]) (
CM.go 184320 [a0, x0, x5])
theorem f45_ok : LeD (real E Mk Nk) f45 (fun xs m => run E (.fn 45) xs m) := apS_le fun _ => apS_le fun _ => ap0_le fun _ => run_eq 400 rfl (by kernel_rfl) (by kernel_rfl)
noncomputable def g46_0 : List AV → CM := ap0 <|
CM.ret (.bool true)
theorem g46_0_ok : LeD (real E Mk Nk) g46_0 (fun ts m => goR E Mk 188416 ts m) := ap0_le fun _ => goR_eq 400 (by kernel_rfl)
noncomputable def f46 : List AV → CM := apS fun a0 => apS fun a1 => apS fun a2 => ap0 <|
CM.al (boxA a2) fun x0 =>
CM.pu (p1 nnA a0) fun x1 =>
CM.pu (p1 (fun a => fieldAddrA Tryz.prog 160 a 0) x1) fun x2 =>
CM.rm (q1 (loadA Tryz.prog 156) x2 ) fun x3 =>
CM.call 76 [x3, a1] fun x4 =>
CM.pu (p1 (fun a => extractA a 0) x4) fun x5 =>
CM.pu (p1 (fun a => extractA a 1) x4) fun x6 =>
CM.cond x6 (
CM.pu (p1 nnA a0) fun x7 =>
CM.pu (p1 (fun a => fieldAddrA Tryz.prog 160 a 1) x7) fun x8 =>
CM.rm (q1 (loadA Tryz.prog 46) x8 ) fun x9 =>
CM.rm (q1 (loadA Tryz.prog 54) x0 ) fun x10 =>
CM.pu (p2 (indexAddrA Tryz.prog 46) x9 x5) fun x11 =>
CM.st (fun m => stV m x11 x10 9) <|
CM.go 188416 []) (
CM.pu (p1 nnA a0) fun x15 =>
CM.pu (p1 (fun a => fieldAddrA Tryz.prog 160 a 0) x15) fun x16 =>
CM.rm (q1 (loadA Tryz.prog 156) x16 ) fun x17 =>
CM.pu (p1 (lenT Tryz.prog 156) x17) fun x18 =>
CM.pu (p1 nnA a0) fun x19 =>
CM.pu (p1 (fun a => fieldAddrA Tryz.prog 160 a 2) x19) fun x20 =>
CM.rm (q1 (loadA Tryz.prog 3) x20 ) fun x21 =>
CM.pu (p2 (binA Tryz.prog .geq 3) x18 x21) fun x22 =>
CM.cond x22 (
CM.ret (.bool false)) (
CM.pu (p1 nnA a0) fun x23 =>
CM.pu (p1 (fun a => fieldAddrA Tryz.prog 160 a 0) x23) fun x24 =>
CM.rm (q1 (loadA Tryz.prog 156) x24 ) fun x25 =>
CM.al (bsA 1 1 [(.str [])] [(0, a1)]) fun x26 =>
CM.call 77 [x25, x5, x26] fun x27 =>
CM.pu (p1 nnA a0) fun x28 =>
CM.pu (p1 (fun a => fieldAddrA Tryz.prog 160 a 0) x28) fun x29 =>
CM.st (fun m => stV m x29 x27 1) <|
CM.pu (p1 nnA a0) fun x31 =>
CM.pu (p1 (fun a => fieldAddrA Tryz.prog 160 a 1) x31) fun x32 =>
CM.rm (q1 (loadA Tryz.prog 46) x32 ) fun x33 =>
CM.rm (q1 (loadA Tryz.prog 54) x0 ) fun x34 =>
CM.al (bsA 9 1 [(.str []), (.str []), (.int .i64 0), (.int .u64 0), (.int .i64 0), (.int .i64 0), (.int .u64 0), (.int .i64 0), (.int .u64 0)] [(0, x34)]) fun x35 =>
CM.call 87 [x33, x5, x35] fun x37 =>
CM.pu (p1 nnA a0) fun x39 =>
CM.pu (p1 (fun a => fieldAddrA Tryz.prog 160 a 1) x39) fun x40 =>
CM.st (fun m => stV m x40 x37 1) <|
CM.go 188416 []))
theorem f46_ok : LeD (real E Mk Nk) f46 (fun xs m => run E (.fn 46) xs m) := apS_le fun _ => apS_le fun _ => apS_le fun _ => ap0_le fun _ => run_eq 400 rfl (by kernel_rfl) (by kernel_rfl)
noncomputable def f47 : List AV → CM := apS fun a0 => apS fun a1 => ap0 <|
CM.al (boxA a0) fun x0 =>
CM.al (boxA a1) fun x1 =>
CM.pu (p1 (fun a => fieldAddrA Tryz.prog 91 a 2) x0) fun x2 =>
CM.rm (q1 (loadA Tryz.prog 35) x2 ) fun x3 =>
CM.pu (p1 (fun a => fieldAddrA Tryz.prog 37 a 0) x1) fun x4 =>
CM.rm (q1 (loadA Tryz.prog 35) x4 ) fun x5 =>
CM.call 88 [x3, x5] fun x6 =>
CM.pu (p2 (binA Tryz.prog .lss 3) x6 (.int .i64 0)) fun x7 =>
CM.ret x7
theorem f47_ok : LeD (real E Mk Nk) f47 (fun xs m => run E (.fn 47) xs m) := apS_le fun _ => apS_le fun _ => ap0_le fun _ => run_eq 400 rfl (by kernel_rfl) (by kernel_rfl)
noncomputable def g48_0 : List AV → CM := apS fun t2 => apS fun t3 => apS fun t4 => apS fun t6 => ap0 <|
CM.rm (q1 (loadA Tryz.prog 37) t4 ) fun x0 =>
CM.call 44 [x0] fun x1 =>
CM.pu (p2 (binA Tryz.prog .neq 25) x1 (.int .i64 0)) fun x2 =>
CM.cond x2 (
CM.pu (p1 (buildA Tryz.prog 37) []) fun x3 =>
CM.st (fun m => stV m t6 x3 3) <|
CM.resC Tryz.prog [ResultVar.cell 0 37, ResultVar.tmp 1] [t6, x1]) (
CM.go 196609 [t2, t3, t4, t6])
theorem g48_0_ok : LeD (real E Mk Nk) g48_0 (fun ts m => goR E Mk 196608 ts m) := apS_le fun _ => apS_le fun _ => apS_le fun _ => apS_le fun _ => ap0_le fun _ => goR_eq 400 (by kernel_rfl)
noncomputable def g48_1 : List AV → CM := apS fun t2 => apS fun t3 => apS fun t4 => apS fun t6 => ap0 <|
CM.rm (q1 (loadA Tryz.prog 37) t3 ) fun x0 =>
CM.rm (q1 (loadA Tryz.prog 37) t4 ) fun x1 =>
CM.call 89 [x0, x1, t2] fun x2 =>
CM.pu (p1 (fun a => extractA a 0) x2) fun x3 =>
CM.pu (p1 (fun a => extractA a 1) x2) fun x4 =>
CM.st (fun m => stV m t6 x3 3) <|
CM.resC Tryz.prog [ResultVar.cell 0 37, ResultVar.tmp 1] [t6, x4]
theorem g48_1_ok : LeD (real E Mk Nk) g48_1 (fun ts m => goR E Mk 196609 ts m) := apS_le fun _ => apS_le fun _ => apS_le fun _ => apS_le fun _ => ap0_le fun _ => goR_eq 400 (by kernel_rfl)
noncomputable def f48 : List AV → CM := apS fun a0 => apS fun a1 => apS fun a2 => ap0 <|
CM.al (boxA a0) fun x0 =>
CM.al (boxA a1) fun x1 =>
CM.al (some (.cells [(.int .i64 0), (.int .u64 0), (.int .i64 0)] false, pB)) fun x2 =>
CM.rm (q1 (loadA Tryz.prog 37) x0 ) fun x3 =>
CM.call 85 [x3] fun x4 =>
CM.pu (p1 (unA .not) x4) fun x5 =>
CM.ifv x5 (
CM.pu (p1 (buildA Tryz.prog 37) []) fun x6 =>
CM.st (fun m => stV m x2 x6 3) <|
CM.resC Tryz.prog [ResultVar.cell 0 37, ResultVar.tmp 1] [x2, (.int .i64 21)]) (
CM.pu (p2 (binA Tryz.prog .lss 3) a2 (.int .i64 0)) fun x8 =>
CM.ifv x8 (
CM.pu (p1 (buildA Tryz.prog 37) []) fun x9 =>
CM.st (fun m => stV m x2 x9 3) <|
CM.resC Tryz.prog [ResultVar.cell 0 37, ResultVar.tmp 1] [x2, (.int .i64 21)]) (
CM.pu (p2 (binA Tryz.prog .gtr 3) a2 (.int .i64 18)) fun x11 =>
CM.cond x11 (
CM.pu (p1 (buildA Tryz.prog 37) []) fun x12 =>
CM.st (fun m => stV m x2 x12 3) <|
CM.resC Tryz.prog [ResultVar.cell 0 37, ResultVar.tmp 1] [x2, (.int .i64 21)]) (
CM.rm (q1 (loadA Tryz.prog 37) x0 ) fun x14 =>
CM.call 86 [x14] fun x15 =>
CM.pu (p1 (unA .not) x15) fun x16 =>
CM.cond x16 (
CM.pu (p1 (buildA Tryz.prog 37) []) fun x17 =>
CM.st (fun m => stV m x2 x17 3) <|
CM.resC Tryz.prog [ResultVar.cell 0 37, ResultVar.tmp 1] [x2, (.int .i64 43)]) (
CM.go 196608 [a2, x0, x1, x2]))))
theorem f48_ok : LeD (real E Mk Nk) f48 (fun xs m => run E (.fn 48) xs m) := apS_le fun _ => apS_le fun _ => apS_le fun _ => ap0_le fun _ => run_eq 400 rfl (by kernel_rfl) (by kernel_rfl)
noncomputable def f49 : List AV → CM := apS fun a0 => ap0 <|
CM.al (boxA a0) fun x0 =>
CM.pu (p1 (fun a => fieldAddrA Tryz.prog 37 a 1) x0) fun x1 =>
CM.rm (q1 (loadA Tryz.prog 3) x1 ) fun x2 =>
CM.pu (p2 (binA Tryz.prog .geq 3) x2 (.int .i64 0)) fun x3 =>
CM.ifv x3 (
CM.pu (p1 (fun a => fieldAddrA Tryz.prog 37 a 1) x0) fun x4 =>
CM.rm (q1 (loadA Tryz.prog 3) x4 ) fun x5 =>
CM.pu (p2 (binA Tryz.prog .leq 3) x5 (.int .i64 18)) fun x6 =>
CM.ret x6) (
CM.ret (.bool false))
theorem f49_ok : LeD (real E Mk Nk) f49 (fun xs m => run E (.fn 49) xs m) := apS_le fun _ => ap0_le fun _ => run_eq 400 rfl (by kernel_rfl) (by kernel_rfl)
noncomputable def g50_0 : List AV → CM := apS fun t1 => apS fun t4 => apS fun t6 => ap0 <|
CM.rm (q1 (loadA Tryz.prog 35) t6 ) fun x0 =>
CM.pu (p1 (buildA Tryz.prog 37) [(0, x0), (1, t1)]) fun x1 =>
CM.st (fun m => stV m t4 x1 3) <|
CM.resC Tryz.prog [ResultVar.cell 0 37, ResultVar.tmp 1] [t4, (.int .i64 0)]
theorem g50_0_ok : LeD (real E Mk Nk) g50_0 (fun ts m => goR E Mk 204800 ts m) := apS_le fun _ => apS_le fun _ => apS_le fun _ => ap0_le fun _ => goR_eq 400 (by kernel_rfl)
noncomputable def f50 : List AV → CM := apS fun a0 => apS fun a1 => ap0 <|
CM.al (boxA a0) fun x0 =>
CM.al (some (.cells [(.int .i64 0), (.int .u64 0), (.int .i64 0)] false, pB)) fun x1 =>
CM.rm (q1 (loadA Tryz.prog 116) x0 ) fun x2 =>
CM.call 90 [x2] fun x3 =>
CM.pu (p1 (fun a => extractA a 0) x3) fun x4 =>
CM.pu (p1 (fun a => extractA a 1) x3) fun x5 =>
CM.al (some (.cells [(.int .i64 0), (.int .u64 0)] false, pB)) fun x6 =>
CM.st (fun m => stV m x6 x4 2) <|
CM.pu (p1 (unA .not) x5) fun x8 =>
CM.cond x8 (
CM.pu (p1 (buildA Tryz.prog 37) []) fun x9 =>
CM.st (fun m => stV m x1 x9 3) <|
CM.resC Tryz.prog [ResultVar.cell 0 37, ResultVar.tmp 1] [x1, (.int .i64 20)]) (
CM.go 204800 [a1, x1, x6])
theorem f50_ok : LeD (real E Mk Nk) f50 (fun xs m => run E (.fn 50) xs m) := apS_le fun _ => apS_le fun _ => ap0_le fun _ => run_eq 400 rfl (by kernel_rfl) (by kernel_rfl)
noncomputable def g51_0 : List AV → CM := apS fun t1 => apS fun t2 => apS fun t4 => ap0 <|
CM.call 91 [t1] fun x0 =>
CM.al (some (.cells [(.int .u64 0), (.int .u64 0), (.int .u64 0), (.int .u64 0), (.int .u64 0), (.int .u64 0), (.int .u64 0), (.int .u64 0), (.int .u64 0), (.int .u64 0), (.int .u64 0), (.int .u64 0), (.int .u64 0), (.int .u64 0), (.int .u64 0), (.int .u64 0)] false, pB)) fun x1 =>
CM.st (fun m => stV m x1 x0 16) <|
CM.pu (p1 (fun a => fieldAddrA Tryz.prog 116 a 1) t2) fun x3 =>
CM.rm (q1 (loadA Tryz.prog 114) x3 ) fun x4 =>
CM.rm (q1 (loadA Tryz.prog 114) x1 ) fun x5 =>
CM.call 92 [x4, x5] fun x6 =>
CM.pu (p1 (fun a => extractA a 0) x6) fun x7 =>
CM.pu (p1 (fun a => extractA a 1) x6) fun x8 =>
CM.al (some (.cells [(.int .u64 0), (.int .u64 0), (.int .u64 0), (.int .u64 0), (.int .u64 0), (.int .u64 0), (.int .u64 0), (.int .u64 0), (.int .u64 0), (.int .u64 0), (.int .u64 0), (.int .u64 0), (.int .u64 0), (.int .u64 0), (.int .u64 0), (.int .u64 0)] false, pB)) fun x9 =>
CM.al (some (.cells [(.int .u64 0), (.int .u64 0), (.int .u64 0), (.int .u64 0), (.int .u64 0), (.int .u64 0), (.int .u64 0), (.int .u64 0), (.int .u64 0), (.int .u64 0), (.int .u64 0), (.int .u64 0), (.int .u64 0), (.int .u64 0), (.int .u64 0), (.int .u64 0)] false, pB)) fun x10 =>
CM.st (fun m => stV m x9 x7 16) <|
CM.st (fun m => stV m x10 x8 16) <|
CM.al (some (.cells [(.int .u64 0), (.int .u64 0), (.int .u64 0), (.int .u64 0), (.int .u64 0), (.int .u64 0), (.int .u64 0), (.int .u64 0), (.int .u64 0), (.int .u64 0), (.int .u64 0), (.int .u64 0), (.int .u64 0), (.int .u64 0), (.int .u64 0), (.int .u64 0)] false, pB)) fun x13 =>
CM.pu (p2 (indexAddrA Tryz.prog 114) x13 (.int .i64 0)) fun x14 =>
CM.st (fun m => stV m x14 (.int .u64 1) 1) <|
CM.rm (q1 (loadA Tryz.prog 114) x10 ) fun x16 =>
CM.rm (q1 (loadA Tryz.prog 114) x10 ) fun x17 =>
CM.memo fun m18 =>
CM.call 94 [x16, x17] fun x19 =>
CM.rm (q1 (loadA Tryz.prog 114) x1 ) fun x21 =>
CM.chk (q1 (loadA Tryz.prog 114) x1 m18) x21 <|
CM.call 93 [x19, x21] fun x23 =>
CM.pu (p2 (binA Tryz.prog .gtr 3) x23 (.int .i64 0)) fun x25 =>
CM.ifv x25 (
CM.rm (q1 (loadA Tryz.prog 114) x9 ) fun x26 =>
CM.rm (q1 (loadA Tryz.prog 114) x13 ) fun x27 =>
CM.call 94 [x26, x27] fun x28 =>
CM.st (fun m => stV m x9 x28 16) <|
CM.go 208897 [t2, t4, x9]) (
CM.pu (p2 (binA Tryz.prog .eql 3) x23 (.int .i64 0)) fun x30 =>
CM.ifv x30 (
CM.pu (p2 (indexAddrA Tryz.prog 114) x9 (.int .i64 0)) fun x31 =>
CM.rm (q1 (loadA Tryz.prog 30) x31 ) fun x32 =>
CM.pu (p2 (binA Tryz.prog .rem 30) x32 (.int .u64 2)) fun x33 =>
CM.pu (p2 (binA Tryz.prog .eql 30) x33 (.int .u64 1)) fun x34 =>
CM.cond x34 (
CM.rm (q1 (loadA Tryz.prog 114) x9 ) fun x35 =>
CM.rm (q1 (loadA Tryz.prog 114) x13 ) fun x36 =>
CM.call 94 [x35, x36] fun x37 =>
CM.st (fun m => stV m x9 x37 16) <|
CM.go 208897 [t2, t4, x9]) (
CM.go 208897 [t2, t4, x9])) (
CM.go 208897 [t2, t4, x9]))
theorem g51_0_ok : LeD (real E Mk Nk) g51_0 (fun ts m => goR E Mk 208896 ts m) := apS_le fun _ => apS_le fun _ => apS_le fun _ => ap0_le fun _ => goR_eq 400 (by kernel_rfl)
noncomputable def g51_1 : List AV → CM := apS fun t2 => apS fun t4 => apS fun t6 => ap0 <|
CM.pu (p1 (fun a => fieldAddrA Tryz.prog 116 a 0) t2) fun x0 =>
CM.rm (q1 (loadA Tryz.prog 4) x0 ) fun x1 =>
CM.ifv x1 (
CM.rm (q1 (loadA Tryz.prog 114) t6 ) fun x2 =>
CM.memo fun m3 =>
CM.call 95 [x2] fun x4 =>
CM.pu (p1 (unA .not) x4) fun x6 =>
CM.rm (q1 (loadA Tryz.prog 114) t6 ) fun x7 =>
CM.chk (q1 (loadA Tryz.prog 114) t6 m3) x7 <|
CM.pu (p1 (buildA Tryz.prog 116) [(0, x6), (1, x7)]) fun x8 =>
CM.st (fun m => stV m t4 x8 17) <|
CM.resC Tryz.prog [ResultVar.cell 0 116] [t4]) (
CM.rm (q1 (loadA Tryz.prog 114) t6 ) fun x12 =>
CM.pu (p1 (buildA Tryz.prog 116) [(0, (.bool false)), (1, x12)]) fun x13 =>
CM.st (fun m => stV m t4 x13 17) <|
CM.resC Tryz.prog [ResultVar.cell 0 116] [t4])
theorem g51_1_ok : LeD (real E Mk Nk) g51_1 (fun ts m => goR E Mk 208897 ts m) := apS_le fun _ => apS_le fun _ => apS_le fun _ => ap0_le fun _ => goR_eq 400 (by kernel_rfl)
noncomputable def f51 : List AV → CM := apS fun a0 => apS fun a1 => ap0 <|
CM.al (boxA a0) fun x0 =>
CM.al (some (.cells [(.bool false), (.int .u64 0), (.int .u64 0), (.int .u64 0), (.int .u64 0), (.int .u64 0), (.int .u64 0), (.int .u64 0), (.int .u64 0), (.int .u64 0), (.int .u64 0), (.int .u64 0), (.int .u64 0), (.int .u64 0), (.int .u64 0), (.int .u64 0), (.int .u64 0)] false, pB)) fun x1 =>
CM.pu (p2 (binA Tryz.prog .leq 3) a1 (.int .i64 0)) fun x2 =>
CM.cond x2 (
CM.rm (q1 (loadA Tryz.prog 116) x0 ) fun x3 =>
CM.pu (p1 (unA .neg) a1) fun x4 =>
CM.call 91 [x4] fun x6 =>
CM.memo fun m7 =>
CM.chk (q1 (loadA Tryz.prog 116) x0 m7) x3 <|
CM.pu (p1 (buildA Tryz.prog 116) [(0, (.bool false)), (1, x6)]) fun x8 =>
CM.call 52 [x3, x8] fun x10 =>
CM.st (fun m => stV m x1 x10 17) <|
CM.resC Tryz.prog [ResultVar.cell 0 116] [x1]) (
CM.go 208896 [a1, x0, x1])
theorem f51_ok : LeD (real E Mk Nk) f51 (fun xs m => run E (.fn 51) xs m) := apS_le fun _ => apS_le fun _ => ap0_le fun _ => run_eq 400 rfl (by kernel_rfl) (by kernel_rfl)
end Go.Proofs.YtamooapjonlcdaaGreat.T
