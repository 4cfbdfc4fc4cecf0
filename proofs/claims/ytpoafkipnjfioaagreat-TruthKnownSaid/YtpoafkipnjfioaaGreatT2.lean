/- Functions as trees, printed by our own program (wip/tools/gen3.lean). -/
import Derived.Test.YtpoafkipnjfioaaGreatT0
namespace Go.Proofs.YtpoafkipnjfioaaGreat.T
open Go Go.Abs Go.Proofs.YtpoafkipnjfioaaGreat
set_option maxRecDepth 10000
variable {H : FuncId → Option (List AV → Mem → R)}
noncomputable def g20_0 : List AV → CM := apS fun t1 => ap0 <|
 CM.pu (p1 (fun a => fieldAddrA Tryz.prog 54 a 10) t1) fun x0 =>
 CM.rm (q1 (loadA Tryz.prog 3) x0 ) fun x1 =>
 CM.call 6 [x1] fun x2 =>
 CM.pu (p1 (fun a => extractA a 0) x2) fun x3 =>
 CM.pu (p1 (fun a => extractA a 1) x2) fun x4 =>
 CM.pu (p1 (fun a => fieldAddrA Tryz.prog 54 a 11) t1) fun x5 =>
 CM.rm (q1 (loadA Tryz.prog 3) x5 ) fun x6 =>
 CM.pu (p1 (fun a => fieldAddrA Tryz.prog 54 a 12) t1) fun x7 =>
 CM.rm (q1 (loadA Tryz.prog 28) x7 ) fun x8 =>
 CM.call 62 [x6, x8] fun x9 =>
 CM.pu (p1 (fun a => extractA a 0) x9) fun x10 =>
 CM.pu (p1 (fun a => extractA a 1) x9) fun x11 =>
 CM.pu (p2 (binA Tryz.prog .neq 23) x4 (.int .i64 0)) fun x12 =>
 CM.ifv x12 (
 CM.ret (.tup [(.ptr none), (.int .i64 1)])) (
 CM.pu (p2 (binA Tryz.prog .neq 23) x11 (.int .i64 0)) fun x13 =>
 CM.cond x13 (
 CM.ret (.tup [(.ptr none), (.int .i64 1)])) (
 CM.go 81921 [t1, x3, x10]))
theorem g20_0_ok : EqD (Rl H) g20_0 (fun xs m => goR (EH H) Mk 81920 xs m) := sE fun _ => zE fun _ => goR_eq 400 (by kernel_rfl)
noncomputable def g20_1 : List AV → CM := apS fun t1 => apS fun t4 => apS fun t6 => ap0 <|
 CM.rm (q1 (loadA Tryz.prog 54) t1 ) fun x0 =>
 CM.pu (p1 (buildA Tryz.prog 137) [(0, x0), (1, t4), (2, t6)]) fun x1 =>
 CM.al (boxA x1) fun x2 =>
 CM.ret (.tup [x2, (.int .i64 0)])
theorem g20_1_ok : EqD (Rl H) g20_1 (fun xs m => goR (EH H) Mk 81921 xs m) := sE fun _ => sE fun _ => sE fun _ => zE fun _ => goR_eq 400 (by kernel_rfl)
noncomputable def f20 : List AV → CM := apS fun a0 => ap0 <|
 CM.al (boxA a0) fun x0 =>
 CM.rm (q1 (loadA Tryz.prog 54) x0 ) fun x1 =>
 CM.call 61 [x1] fun x2 =>
 CM.pu (p1 (unA .not) x2) fun x3 =>
 CM.cond x3 (
 CM.ret (.tup [(.ptr none), (.int .i64 1)])) (
 CM.go 81920 [x0])
theorem f20_ok (h : H 20 = none) : EqD (Rl H) f20 (fun xs m => run (EH H) (.fn 20) xs m) := sE fun _ => zE fun _ => run_eq 400 h (by kernel_rfl) (by kernel_rfl)
noncomputable def f21 : List AV → CM := ap0 <|
 CM.al (some (.cells [(.int .i64 0), (.int .i64 0), (.int .i64 0), (.int .i64 0), (.int .i64 0), (.int .i64 0), (.int .i64 0), (.int .i64 0), (.int .i64 0), (.int .i64 0), (.int .i64 0), (.int .i64 0), (.int .u64 0)] false, pB)) fun x0 =>
 CM.pu (p1 (buildA Tryz.prog 74) [(10, (.int .i64 3)), (11, (.int .i64 2)), (12, (.int .i64 50))]) fun x1 =>
 CM.call 28 [x1] fun x2 =>
 CM.st (fun m => stV m x0 x2 13) <|
 CM.resC Tryz.prog [ResultVar.cell 0 54] [x0]
theorem f21_ok (h : H 21 = none) : EqD (Rl H) f21 (fun xs m => run (EH H) (.fn 21) xs m) := zE fun _ => run_eq 400 h (by kernel_rfl) (by kernel_rfl)
noncomputable def g22_0 : List AV → CM := apS fun t1 => ap0 <|
 CM.pu (p1 (buildA Tryz.prog 62) [(1, (.int .u64 1)), (2, (.int .u64 1))]) fun x0 =>
 CM.call 23 [t1, x0] fun x1 =>
 CM.pu (p1 (fun a => extractA a 0) x1) fun x2 =>
 CM.pu (p1 (fun a => extractA a 1) x1) fun x3 =>
 CM.al (some (.cells [(.int .i64 0), (.int .u64 0), (.int .i64 0), (.int .u64 0), (.int .i64 0)] false, pB)) fun x4 =>
 CM.st (fun m => stV m x4 x2 5) <|
 CM.pu (p1 (buildA Tryz.prog 65) [(0, (.int .i64 1)), (1, (.int .u64 5))]) fun x6 =>
 CM.call 24 [(.int .u64 2), x6] fun x7 =>
 CM.call 23 [t1, x7] fun x8 =>
 CM.pu (p1 (fun a => extractA a 0) x8) fun x9 =>
 CM.pu (p1 (fun a => extractA a 1) x8) fun x10 =>
 CM.al (some (.cells [(.int .i64 0), (.int .u64 0), (.int .i64 0), (.int .u64 0), (.int .i64 0)] false, pB)) fun x11 =>
 CM.st (fun m => stV m x11 x9 5) <|
 CM.pu (p1 (buildA Tryz.prog 65) [(0, (.int .i64 2)), (1, (.int .u64 5)), (2, (.int .u64 1)), (6, (.str [69, 85, 82])), (3, (.int .u64 2))]) fun x13 =>
 CM.call 24 [(.int .u64 3), x13] fun x14 =>
 CM.call 23 [t1, x14] fun x15 =>
 CM.pu (p1 (fun a => extractA a 0) x15) fun x16 =>
 CM.pu (p1 (fun a => extractA a 1) x15) fun x17 =>
 CM.al (some (.cells [(.int .i64 0), (.int .u64 0), (.int .i64 0), (.int .u64 0), (.int .i64 0)] false, pB)) fun x18 =>
 CM.st (fun m => stV m x18 x16 5) <|
 CM.pu (p1 (buildA Tryz.prog 65) [(0, (.int .i64 3)), (1, (.int .u64 5)), (2, (.int .u64 2)), (6, (.str [69, 85, 82]))]) fun x20 =>
 CM.call 24 [(.int .u64 4), x20] fun x21 =>
 CM.call 23 [t1, x21] fun x22 =>
 CM.pu (p1 (fun a => extractA a 0) x22) fun x23 =>
 CM.pu (p1 (fun a => extractA a 1) x22) fun x24 =>
 CM.al (some (.cells [(.int .i64 0), (.int .u64 0), (.int .i64 0), (.int .u64 0), (.int .i64 0)] false, pB)) fun x25 =>
 CM.st (fun m => stV m x25 x23 5) <|
 CM.pu (p1 (buildA Tryz.prog 65) [(0, (.int .i64 3)), (1, (.int .u64 5)), (2, (.int .u64 2)), (6, (.str [69, 85, 82]))]) fun x27 =>
 CM.call 24 [(.int .u64 5), x27] fun x28 =>
 CM.call 23 [t1, x28] fun x29 =>
 CM.pu (p1 (fun a => extractA a 0) x29) fun x30 =>
 CM.pu (p1 (fun a => extractA a 1) x29) fun x31 =>
 CM.al (some (.cells [(.int .i64 0), (.int .u64 0), (.int .i64 0), (.int .u64 0), (.int .i64 0)] false, pB)) fun x32 =>
 CM.st (fun m => stV m x32 x30 5) <|
 CM.pu (p1 (unA .not) x3) fun x34 =>
 CM.ifv x34 (
 CM.ifv x10 (
 CM.pu (p1 (fun a => fieldAddrA Tryz.prog 57 a 1) x11) fun x35 =>
 CM.rm (q1 (loadA Tryz.prog 28) x35 ) fun x36 =>
 CM.pu (p2 (binA Tryz.prog .eql 28) x36 (.int .u64 5)) fun x37 =>
 CM.ifv x37 (
 CM.ifv x17 (
 CM.rm (q1 (loadA Tryz.prog 57) x18 ) fun x38 =>
 CM.pu (p1 (buildA Tryz.prog 57) []) fun x39 =>
 CM.pu (p2 (binA Tryz.prog .eql 57) x38 x39) fun x40 =>
 CM.ifv x40 (
 CM.ifv x24 (
 CM.pu (p1 (fun a => fieldAddrA Tryz.prog 57 a 1) x25) fun x41 =>
 CM.rm (q1 (loadA Tryz.prog 28) x41 ) fun x42 =>
 CM.pu (p2 (binA Tryz.prog .eql 28) x42 (.int .u64 1)) fun x43 =>
 CM.ifv x43 (
 CM.ifv x31 (
 CM.pu (p1 (fun a => fieldAddrA Tryz.prog 57 a 1) x32) fun x44 =>
 CM.rm (q1 (loadA Tryz.prog 28) x44 ) fun x45 =>
 CM.pu (p2 (binA Tryz.prog .eql 28) x45 (.int .u64 1)) fun x46 =>
 CM.ifv x46 (
 CM.call 63 [t1] fun x47 =>
 CM.pu (p2 (binA Tryz.prog .eql 28) x47 (.int .u64 5)) fun x48 =>
 CM.ret x48) (
 CM.ret (.bool false))) (
 CM.ret (.bool false))) (
 CM.ret (.bool false))) (
 CM.ret (.bool false))) (
 CM.ret (.bool false))) (
 CM.ret (.bool false))) (
 CM.ret (.bool false))) (
 CM.ret (.bool false))) (
 CM.ret (.bool false))
theorem g22_0_ok : EqD (Rl H) g22_0 (fun xs m => goR (EH H) Mk 90112 xs m) := sE fun _ => zE fun _ => goR_eq 400 (by kernel_rfl)
noncomputable def f22 : List AV → CM := ap0 <|
 CM.call 21 [] fun x0 =>
 CM.call 20 [x0] fun x1 =>
 CM.pu (p1 (fun a => extractA a 0) x1) fun x2 =>
 CM.pu (p1 (fun a => extractA a 1) x1) fun x3 =>
 CM.pu (p2 (binA Tryz.prog .neq 23) x3 (.int .i64 0)) fun x4 =>
 CM.ifv x4 (
 CM.ret (.bool false)) (
 CM.pu (p2 (binA Tryz.prog .eql 50) x2 (.ptr none)) fun x5 =>
 CM.cond x5 (
 CM.ret (.bool false)) (
 CM.go 90112 [x2]))
theorem f22_ok (h : H 22 = none) : EqD (Rl H) f22 (fun xs m => run (EH H) (.fn 22) xs m) := zE fun _ => run_eq 400 h (by kernel_rfl) (by kernel_rfl)
noncomputable def g23_0 : List AV → CM := apS fun t0 => apS fun t3 => apS fun t4 => apS fun t6 => ap0 <|
 CM.pu (p1 (unA .not) t6) fun x0 =>
 CM.ifv x0 (
 CM.pu (p1 (buildA Tryz.prog 57) []) fun x1 =>
 CM.st (fun m => stV m t4 x1 5) <|
 CM.resC Tryz.prog [ResultVar.cell 0 57, ResultVar.tmp 1] [t4, (.bool false)]) (
 CM.pu (p1 (fun a => fieldAddrA Tryz.prog 62 a 2) t3) fun x3 =>
 CM.rm (q1 (loadA Tryz.prog 28) x3 ) fun x4 =>
 CM.pu (p1 nnA t0) fun x5 =>
 CM.pu (p1 (fun a => fieldAddrA Tryz.prog 137 a 3) x5) fun x6 =>
 CM.rm (q1 (loadA Tryz.prog 28) x6 ) fun x7 =>
 CM.pu (p2 (binA Tryz.prog .add 28) x7 (.int .u64 1)) fun x8 =>
 CM.pu (p2 (binA Tryz.prog .neq 28) x4 x8) fun x9 =>
 CM.ifv x9 (
 CM.pu (p1 (buildA Tryz.prog 57) []) fun x10 =>
 CM.st (fun m => stV m t4 x10 5) <|
 CM.resC Tryz.prog [ResultVar.cell 0 57, ResultVar.tmp 1] [t4, (.bool false)]) (
 CM.pu (p1 (fun a => fieldAddrA Tryz.prog 62 a 2) t3) fun x12 =>
 CM.rm (q1 (loadA Tryz.prog 28) x12 ) fun x13 =>
 CM.pu (p2 (binA Tryz.prog .gtr 28) x13 (.int .u64 72057594037927935)) fun x14 =>
 CM.cond x14 (
 CM.pu (p1 (buildA Tryz.prog 57) []) fun x15 =>
 CM.st (fun m => stV m t4 x15 5) <|
 CM.resC Tryz.prog [ResultVar.cell 0 57, ResultVar.tmp 1] [t4, (.bool false)]) (
 CM.go 94209 [t0, t3, t4])))
theorem g23_0_ok : EqD (Rl H) g23_0 (fun xs m => goR (EH H) Mk 94208 xs m) := sE fun _ => sE fun _ => sE fun _ => sE fun _ => zE fun _ => goR_eq 400 (by kernel_rfl)
noncomputable def g23_1 : List AV → CM := apS fun t0 => apS fun t3 => apS fun t4 => ap0 <|
 CM.pu (p1 (fun a => fieldAddrA Tryz.prog 62 a 2) t3) fun x0 =>
 CM.rm (q1 (loadA Tryz.prog 28) x0 ) fun x1 =>
 CM.pu (p1 nnA t0) fun x2 =>
 CM.pu (p1 (fun a => fieldAddrA Tryz.prog 137 a 3) x2) fun x3 =>
 CM.st (fun m => stV m x3 x1 1) <|
 CM.pu (p1 nnA t0) fun x5 =>
 CM.pu (p1 (fun a => fieldAddrA Tryz.prog 137 a 2) x5) fun x6 =>
 CM.rm (q1 (loadA Tryz.prog 133) x6 ) fun x7 =>
 CM.pu (p1 (fun a => fieldAddrA Tryz.prog 62 a 2) t3) fun x8 =>
 CM.rm (q1 (loadA Tryz.prog 28) x8 ) fun x9 =>
 CM.call 64 [x7, x9] fun _ =>
 CM.pu (p1 (fun a => fieldAddrA Tryz.prog 62 a 0) t3) fun x13 =>
 CM.rm (q1 (loadA Tryz.prog 3) x13 ) fun x14 =>
 CM.pu (p2 (binA Tryz.prog .neq 3) x14 (.int .i64 1)) fun x15 =>
 CM.cond x15 (
 CM.pu (p1 (buildA Tryz.prog 57) []) fun x16 =>
 CM.st (fun m => stV m t4 x16 5) <|
 CM.resC Tryz.prog [ResultVar.cell 0 57, ResultVar.tmp 1] [t4, (.bool false)]) (
 CM.go 94210 [t0, t3, t4])
theorem g23_1_ok : EqD (Rl H) g23_1 (fun xs m => goR (EH H) Mk 94209 xs m) := sE fun _ => sE fun _ => sE fun _ => zE fun _ => goR_eq 400 (by kernel_rfl)
noncomputable def g23_2 : List AV → CM := apS fun t0 => apS fun t3 => apS fun t4 => ap0 <|
 CM.pu (p1 (fun a => fieldAddrA Tryz.prog 62 a 3) t3) fun x0 =>
 CM.rm (q1 (loadA Tryz.prog 60) x0 ) fun x1 =>
 CM.call 65 [x1] fun x2 =>
 CM.pu (p1 (fun a => extractA a 0) x2) fun x3 =>
 CM.pu (p1 (fun a => extractA a 1) x2) fun x4 =>
 CM.al (some (.cells [(.int .i64 0), (.int .u64 0), (.int .u64 0), (.int .u64 0), (.int .u64 0), (.int .i64 0), (.int .u64 0), (.int .i64 0), (.str []), (.str [])] false, pB)) fun x5 =>
 CM.st (fun m => stV m x5 x3 10) <|
 CM.pu (p2 (binA Tryz.prog .neq 23) x4 (.int .i64 0)) fun x7 =>
 CM.cond x7 (
 CM.pu (p1 (buildA Tryz.prog 57) [(0, x4)]) fun x8 =>
 CM.st (fun m => stV m t4 x8 5) <|
 CM.resC Tryz.prog [ResultVar.cell 0 57, ResultVar.tmp 1] [t4, (.bool true)]) (
 CM.pu (p1 (fun a => fieldAddrA Tryz.prog 65 a 0) x5) fun x10 =>
 CM.rm (q1 (loadA Tryz.prog 3) x10 ) fun x11 =>
 CM.pu (p2 (binA Tryz.prog .eql 3) x11 (.int .i64 1)) fun x12 =>
 CM.cond x12 (
 CM.pu (p1 nnA t0) fun x13 =>
 CM.pu (p1 (fun a => fieldAddrA Tryz.prog 137 a 2) x13) fun x14 =>
 CM.rm (q1 (loadA Tryz.prog 133) x14 ) fun x15 =>
 CM.pu (p1 (fun a => fieldAddrA Tryz.prog 65 a 1) x5) fun x16 =>
 CM.rm (q1 (loadA Tryz.prog 28) x16 ) fun x17 =>
 CM.pu (p1 (fun a => fieldAddrA Tryz.prog 62 a 2) t3) fun x18 =>
 CM.rm (q1 (loadA Tryz.prog 28) x18 ) fun x19 =>
 CM.call 66 [x15, x17, x19] fun x21 =>
 CM.pu (p2 (binA Tryz.prog .neq 23) x21 (.int .i64 0)) fun x23 =>
 CM.cond x23 (
 CM.pu (p1 (buildA Tryz.prog 57) [(0, x21)]) fun x24 =>
 CM.st (fun m => stV m t4 x24 5) <|
 CM.resC Tryz.prog [ResultVar.cell 0 57, ResultVar.tmp 1] [t4, (.bool true)]) (
 CM.go 94211 [t4, x5])) (
 CM.go 94212 [t0, t3, t4, x5]))
theorem g23_2_ok : EqD (Rl H) g23_2 (fun xs m => goR (EH H) Mk 94210 xs m) := sE fun _ => sE fun _ => sE fun _ => zE fun _ => goR_eq 400 (by kernel_rfl)
noncomputable def g23_3 : List AV → CM := apS fun t4 => apS fun t7 => ap0 <|
 CM.pu (p1 (fun a => fieldAddrA Tryz.prog 65 a 1) t7) fun x0 =>
 CM.rm (q1 (loadA Tryz.prog 28) x0 ) fun x1 =>
 CM.pu (p1 (buildA Tryz.prog 57) [(1, x1)]) fun x2 =>
 CM.st (fun m => stV m t4 x2 5) <|
 CM.resC Tryz.prog [ResultVar.cell 0 57, ResultVar.tmp 1] [t4, (.bool true)]
theorem g23_3_ok : EqD (Rl H) g23_3 (fun xs m => goR (EH H) Mk 94211 xs m) := sE fun _ => sE fun _ => zE fun _ => goR_eq 400 (by kernel_rfl)
noncomputable def g23_4 : List AV → CM := apS fun t0 => apS fun t3 => apS fun t4 => apS fun t7 => ap0 <|
 CM.pu (p1 nnA t0) fun x0 =>
 CM.pu (p1 (fun a => fieldAddrA Tryz.prog 137 a 2) x0) fun x1 =>
 CM.rm (q1 (loadA Tryz.prog 133) x1 ) fun x2 =>
 CM.pu (p1 (fun a => fieldAddrA Tryz.prog 65 a 1) t7) fun x3 =>
 CM.rm (q1 (loadA Tryz.prog 28) x3 ) fun x4 =>
 CM.pu (p1 (fun a => fieldAddrA Tryz.prog 65 a 2) t7) fun x5 =>
 CM.rm (q1 (loadA Tryz.prog 28) x5 ) fun x6 =>
 CM.pu (p1 (fun a => fieldAddrA Tryz.prog 62 a 2) t3) fun x7 =>
 CM.rm (q1 (loadA Tryz.prog 28) x7 ) fun x8 =>
 CM.call 67 [x2, x4, x6, x8] fun x10 =>
 CM.pu (p1 (fun a => extractA a 0) x10) fun x12 =>
 CM.pu (p1 (fun a => extractA a 1) x10) fun x13 =>
 CM.pu (p1 (fun a => extractA a 2) x10) fun x14 =>
 CM.al (some (.cells [(.int .i64 0), (.int .u64 0), (.int .i64 0), (.int .u64 0), (.int .i64 0)] false, pB)) fun x15 =>
 CM.st (fun m => stV m x15 x12 5) <|
 CM.pu (p2 (binA Tryz.prog .neq 23) x14 (.int .i64 0)) fun x19 =>
 CM.cond x19 (
 CM.pu (p1 (buildA Tryz.prog 57) [(0, x14)]) fun x20 =>
 CM.st (fun m => stV m t4 x20 5) <|
 CM.resC Tryz.prog [ResultVar.cell 0 57, ResultVar.tmp 1] [t4, (.bool true)]) (
 CM.cond x13 (
 CM.rm (q1 (loadA Tryz.prog 57) x15 ) fun x22 =>
 CM.st (fun m => stV m t4 x22 5) <|
 CM.resC Tryz.prog [ResultVar.cell 0 57, ResultVar.tmp 1] [t4, (.bool true)]) (
 CM.go 94213 [t0, t4, t7, x15]))
theorem g23_4_ok : EqD (Rl H) g23_4 (fun xs m => goR (EH H) Mk 94212 xs m) := sE fun _ => sE fun _ => sE fun _ => sE fun _ => zE fun _ => goR_eq 400 (by kernel_rfl)
noncomputable def g23_5 : List AV → CM := apS fun t0 => apS fun t4 => apS fun t7 => apS fun t9 => ap0 <|
 CM.rm (q1 (loadA Tryz.prog 65) t7 ) fun x0 =>
 CM.call 68 [t0, x0] fun x1 =>
 CM.st (fun m => stV m t9 x1 5) <|
 CM.pu (p1 (fun a => fieldAddrA Tryz.prog 57 a 0) t9) fun x3 =>
 CM.rm (q1 (loadA Tryz.prog 23) x3 ) fun x4 =>
 CM.pu (p2 (binA Tryz.prog .neq 23) x4 (.int .i64 0)) fun x5 =>
 CM.cond x5 (
 CM.pu (p1 (fun a => fieldAddrA Tryz.prog 57 a 0) t9) fun x6 =>
 CM.rm (q1 (loadA Tryz.prog 23) x6 ) fun x7 =>
 CM.pu (p1 (buildA Tryz.prog 57) [(0, x7)]) fun x8 =>
 CM.st (fun m => stV m t9 x8 5) <|
 CM.go 94214 [t0, t4, t7, t9]) (
 CM.go 94214 [t0, t4, t7, t9])
theorem g23_5_ok : EqD (Rl H) g23_5 (fun xs m => goR (EH H) Mk 94213 xs m) := sE fun _ => sE fun _ => sE fun _ => sE fun _ => zE fun _ => goR_eq 400 (by kernel_rfl)
noncomputable def g23_6 : List AV → CM := apS fun t0 => apS fun t4 => apS fun t7 => apS fun t9 => ap0 <|
 CM.pu (p1 nnA t0) fun x0 =>
 CM.pu (p1 (fun a => fieldAddrA Tryz.prog 137 a 2) x0) fun x1 =>
 CM.rm (q1 (loadA Tryz.prog 133) x1 ) fun x2 =>
 CM.pu (p1 (fun a => fieldAddrA Tryz.prog 65 a 1) t7) fun x3 =>
 CM.rm (q1 (loadA Tryz.prog 28) x3 ) fun x4 =>
 CM.pu (p1 (fun a => fieldAddrA Tryz.prog 65 a 2) t7) fun x5 =>
 CM.rm (q1 (loadA Tryz.prog 28) x5 ) fun x6 =>
 CM.rm (q1 (loadA Tryz.prog 57) t9 ) fun x7 =>
 CM.call 69 [x2, x4, x6, x7] fun _ =>
 CM.rm (q1 (loadA Tryz.prog 57) t9 ) fun x11 =>
 CM.st (fun m => stV m t4 x11 5) <|
 CM.resC Tryz.prog [ResultVar.cell 0 57, ResultVar.tmp 1] [t4, (.bool true)]
theorem g23_6_ok : EqD (Rl H) g23_6 (fun xs m => goR (EH H) Mk 94214 xs m) := sE fun _ => sE fun _ => sE fun _ => sE fun _ => zE fun _ => goR_eq 400 (by kernel_rfl)
noncomputable def f23 : List AV → CM := apS fun a0 => apS fun a1 => ap0 <|
 CM.al (boxA a1) fun x0 =>
 CM.al (some (.cells [(.int .i64 0), (.int .u64 0), (.int .i64 0), (.int .u64 0), (.int .i64 0)] false, pB)) fun x1 =>
 CM.pu (p1 (fun a => fieldAddrA Tryz.prog 62 a 0) x0) fun x2 =>
 CM.rm (q1 (loadA Tryz.prog 3) x2 ) fun x3 =>
 CM.pu (p2 (binA Tryz.prog .eql 3) x3 (.int .i64 0)) fun x4 =>
 CM.ifv x4 (
 CM.go 94208 [a0, x0, x1, (.bool true)]) (
 CM.pu (p1 (fun a => fieldAddrA Tryz.prog 62 a 0) x0) fun x5 =>
 CM.rm (q1 (loadA Tryz.prog 3) x5 ) fun x6 =>
 CM.pu (p2 (binA Tryz.prog .eql 3) x6 (.int .i64 1)) fun x7 =>
 CM.ifv x7 (
 CM.go 94208 [a0, x0, x1, (.bool true)]) (
 CM.pu (p1 (fun a => fieldAddrA Tryz.prog 62 a 0) x0) fun x8 =>
 CM.rm (q1 (loadA Tryz.prog 3) x8 ) fun x9 =>
 CM.pu (p2 (binA Tryz.prog .eql 3) x9 (.int .i64 2)) fun x10 =>
 CM.go 94208 [a0, x0, x1, x10]))
theorem f23_ok (h : H 23 = none) : EqD (Rl H) f23 (fun xs m => run (EH H) (.fn 23) xs m) := sE fun _ => sE fun _ => zE fun _ => run_eq 400 h (by kernel_rfl) (by kernel_rfl)
noncomputable def f24 : List AV → CM := apS fun a0 => apS fun a1 => ap0 <|
 CM.al (boxA a1) fun x0 =>
 CM.al (some (.cells [(.int .i64 0), (.int .u64 0), (.int .u64 0), (.sl none 0 0 0 true), (.int .i64 0)] false, pB)) fun x1 =>
 CM.rm (q1 (loadA Tryz.prog 65) x0 ) fun x2 =>
 CM.call 30 [x2] fun x3 =>
 CM.pu (p1 (buildA Tryz.prog 62) [(0, (.int .i64 1)), (1, (.int .u64 1)), (2, a0), (3, x3)]) fun x4 =>
 CM.st (fun m => stV m x1 x4 5) <|
 CM.resC Tryz.prog [ResultVar.cell 0 62] [x1]
theorem f24_ok (h : H 24 = none) : EqD (Rl H) f24 (fun xs m => run (EH H) (.fn 24) xs m) := sE fun _ => sE fun _ => zE fun _ => run_eq 400 h (by kernel_rfl) (by kernel_rfl)
noncomputable def g25_0 : List AV → CM := apS fun t0 => apS fun t1 => apS fun t7 => apS fun t8 => ap0 <|
 CM.rm (q1 (loadA Tryz.prog 48) t7 ) fun x0 =>
 CM.pu (p1 nnA t0) fun x1 =>
 CM.pu (p1 (fun a => fieldAddrA Tryz.prog 137 a 0) x1) fun x2 =>
 CM.pu (p1 (fun a => fieldAddrA Tryz.prog 54 a 10) x2) fun x3 =>
 CM.rm (q1 (loadA Tryz.prog 3) x3 ) fun x4 =>
 CM.call 71 [x0, x4] fun x6 =>
 CM.pu (p1 (fun a => extractA a 0) x6) fun x8 =>
 CM.pu (p1 (fun a => extractA a 1) x6) fun x9 =>
 CM.pu (p1 nnA t0) fun x10 =>
 CM.pu (p1 (fun a => fieldAddrA Tryz.prog 137 a 0) x10) fun x11 =>
 CM.pu (p1 (fun a => fieldAddrA Tryz.prog 54 a 11) x11) fun x12 =>
 CM.rm (q1 (loadA Tryz.prog 3) x12 ) fun x13 =>
 CM.pu (p1 nnA t0) fun x14 =>
 CM.pu (p1 (fun a => fieldAddrA Tryz.prog 137 a 0) x14) fun x15 =>
 CM.pu (p1 (fun a => fieldAddrA Tryz.prog 54 a 12) x15) fun x16 =>
 CM.rm (q1 (loadA Tryz.prog 28) x16 ) fun x17 =>
 CM.call 72 [t8, x13, x17] fun x19 =>
 CM.pu (p1 (fun a => extractA a 0) x19) fun x21 =>
 CM.pu (p1 (fun a => extractA a 1) x19) fun x22 =>
 CM.pu (p2 (binA Tryz.prog .neq 23) x9 (.int .i64 0)) fun x23 =>
 CM.ifv x23 (
 CM.ret (.int .i64 1)) (
 CM.pu (p2 (binA Tryz.prog .neq 23) x22 (.int .i64 0)) fun x24 =>
 CM.cond x24 (
 CM.ret (.int .i64 1)) (
 CM.go 102401 [t0, t1, x8, x21]))
theorem g25_0_ok : EqD (Rl H) g25_0 (fun xs m => goR (EH H) Mk 102400 xs m) := sE fun _ => sE fun _ => sE fun _ => sE fun _ => zE fun _ => goR_eq 400 (by kernel_rfl)
noncomputable def g25_1 : List AV → CM := apS fun t0 => apS fun t1 => apS fun t10 => apS fun t12 => ap0 <|
 CM.pu (p1 nnA t0) fun x0 =>
 CM.pu (p1 (fun a => fieldAddrA Tryz.prog 137 a 1) x0) fun x1 =>
 CM.st (fun m => stV m x1 t10 1) <|
 CM.pu (p1 nnA t0) fun x3 =>
 CM.pu (p1 (fun a => fieldAddrA Tryz.prog 137 a 2) x3) fun x4 =>
 CM.st (fun m => stV m x4 t12 1) <|
 CM.pu (p1 nnA t0) fun x6 =>
 CM.pu (p1 (fun a => fieldAddrA Tryz.prog 137 a 3) x6) fun x7 =>
 CM.st (fun m => stV m x7 t1 1) <|
 CM.ret (.int .i64 0)
theorem g25_1_ok : EqD (Rl H) g25_1 (fun xs m => goR (EH H) Mk 102401 xs m) := sE fun _ => sE fun _ => sE fun _ => sE fun _ => zE fun _ => goR_eq 400 (by kernel_rfl)
noncomputable def f25 : List AV → CM := apS fun a0 => apS fun a1 => apS fun a2 => ap0 <|
 CM.call 70 [a2] fun x0 =>
 CM.pu (p1 (fun a => extractA a 0) x0) fun x1 =>
 CM.pu (p1 (fun a => extractA a 1) x0) fun x2 =>
 CM.pu (p1 (fun a => extractA a 2) x0) fun x3 =>
 CM.al (some (.cells [(.sl none 0 0 0 true), (.sl none 0 0 0 true), (.sl none 0 0 0 true), (.int .u64 0)] false, pB)) fun x4 =>
 CM.st (fun m => stV m x4 x1 4) <|
 CM.pu (p2 (binA Tryz.prog .gtr 28) a1 (.int .u64 72057594037927935)) fun x6 =>
 CM.ifv x6 (
 CM.ret (.int .i64 1)) (
 CM.pu (p2 (binA Tryz.prog .neq 23) x3 (.int .i64 0)) fun x7 =>
 CM.cond x7 (
 CM.ret (.int .i64 1)) (
 CM.go 102400 [a0, a1, x4, x2]))
theorem f25_ok (h : H 25 = none) : EqD (Rl H) f25 (fun xs m => run (EH H) (.fn 25) xs m) := sE fun _ => sE fun _ => sE fun _ => zE fun _ => run_eq 400 h (by kernel_rfl) (by kernel_rfl)
noncomputable def f26 : List AV → CM := apS fun a0 => ap0 <|
 CM.pu (p1 nnA a0) fun x0 =>
 CM.pu (p1 (fun a => fieldAddrA Tryz.prog 137 a 2) x0) fun x1 =>
 CM.rm (q1 (loadA Tryz.prog 133) x1 ) fun x2 =>
 CM.call 73 [x2] fun x3 =>
 CM.ret x3
theorem f26_ok (h : H 26 = none) : EqD (Rl H) f26 (fun xs m => run (EH H) (.fn 26) xs m) := sE fun _ => zE fun _ => run_eq 400 h (by kernel_rfl) (by kernel_rfl)
noncomputable def g27_0 : List AV → CM := apS fun t4 => ap0 <|
 CM.call 74 [t4] fun x0 =>
 CM.pu (p1 (buildA Tryz.prog 154) [(1, x0)]) fun x1 =>
 CM.al (some (.cells [(.int .i64 0), (.int .u64 0), (.int .u64 0), (.sl none 0 0 0 true), (.int .i64 0), (.sl none 0 0 0 true), (.int .i64 0), (.int .u64 0), (.int .i64 0), (.int .u64 0), (.int .i64 0), (.bool false)] false, pB)) fun x2 =>
 CM.st (fun m => stV m x2 x1 12) <|
 CM.pu (p1 (fun a => fieldAddrA Tryz.prog 154 a 1) x2) fun x4 =>
 CM.rm (q1 (loadA Tryz.prog 60) x4 ) fun x5 =>
 CM.call 25 [t4, (.int .u64 1), x5] fun x6 =>
 CM.pu (p2 (binA Tryz.prog .neq 23) x6 (.int .i64 0)) fun x7 =>
 CM.cond x7 (
 CM.ret (.tup [(.ptr none), (.int .i64 1)])) (
 CM.go 110593 [t4, x2])
theorem g27_0_ok : EqD (Rl H) g27_0 (fun xs m => goR (EH H) Mk 110592 xs m) := sE fun _ => zE fun _ => goR_eq 400 (by kernel_rfl)
noncomputable def g27_1 : List AV → CM := apS fun t4 => apS fun t6 => ap0 <|
 CM.rm (q1 (loadA Tryz.prog 154) t6 ) fun x0 =>
 CM.al (bsA 12 1 [(.int .i64 0), (.int .u64 0), (.int .u64 0), (.sl none 0 0 0 true), (.int .i64 0), (.sl none 0 0 0 true), (.int .i64 0), (.int .u64 0), (.int .i64 0), (.int .u64 0), (.int .i64 0), (.bool false)] [(0, x0)]) fun x1 =>
 CM.al (some (.map [], mB)) fun x2 =>
 CM.al (some (.map [], mB)) fun x3 =>
 CM.pu (p1 (buildA Tryz.prog 158) [(0, t4), (1, x1), (2, x2), (3, x3)]) fun x4 =>
 CM.al (boxA x4) fun x5 =>
 CM.ret (.tup [x5, (.int .i64 0)])
theorem g27_1_ok : EqD (Rl H) g27_1 (fun xs m => goR (EH H) Mk 110593 xs m) := sE fun _ => sE fun _ => zE fun _ => goR_eq 400 (by kernel_rfl)
noncomputable def f27 : List AV → CM := apS fun a0 => ap0 <|
 CM.al (boxA a0) fun x0 =>
 CM.rm (q1 (loadA Tryz.prog 54) x0 ) fun x1 =>
 CM.call 20 [x1] fun x2 =>
 CM.pu (p1 (fun a => extractA a 0) x2) fun x3 =>
 CM.pu (p1 (fun a => extractA a 1) x2) fun x4 =>
 CM.pu (p2 (binA Tryz.prog .neq 23) x4 (.int .i64 0)) fun x5 =>
 CM.cond x5 (
 CM.ret (.tup [(.ptr none), (.int .i64 1)])) (
 CM.go 110592 [x3])
theorem f27_ok (h : H 27 = none) : EqD (Rl H) f27 (fun xs m => run (EH H) (.fn 27) xs m) := sE fun _ => zE fun _ => run_eq 400 h (by kernel_rfl) (by kernel_rfl)
noncomputable def g28_0 : List AV → CM := apS fun t1 => apS fun t2 => apS fun t3 => ap0 <|
 CM.pu (p1 (fun a => fieldAddrA Tryz.prog 74 a 8) t1) fun x0 =>
 CM.rm (q1 (loadA Tryz.prog 3) x0 ) fun x1 =>
 CM.call 75 [x1, (.int .i64 80)] fun x2 =>
 CM.pu (p2 (binA Tryz.prog .add 3) (.int .i64 8) x2) fun x3 =>
 CM.pu (p1 (fun a => fieldAddrA Tryz.prog 54 a 8) t3) fun x4 =>
 CM.st (fun m => stV m x4 x3 1) <|
 CM.pu (p1 (fun a => fieldAddrA Tryz.prog 74 a 9) t1) fun x6 =>
 CM.rm (q1 (loadA Tryz.prog 3) x6 ) fun x7 =>
 CM.call 75 [x7, (.int .i64 8)] fun x8 =>
 CM.pu (p2 (binA Tryz.prog .add 3) (.int .i64 1) x8) fun x9 =>
 CM.pu (p1 (fun a => fieldAddrA Tryz.prog 54 a 9) t3) fun x10 =>
 CM.st (fun m => stV m x10 x9 1) <|
 CM.pu (p1 (fun a => fieldAddrA Tryz.prog 74 a 10) t1) fun x12 =>
 CM.rm (q1 (loadA Tryz.prog 3) x12 ) fun x13 =>
 CM.call 75 [x13, (.int .i64 8)] fun x14 =>
 CM.pu (p2 (binA Tryz.prog .add 3) (.int .i64 1) x14) fun x15 =>
 CM.pu (p1 (fun a => fieldAddrA Tryz.prog 54 a 10) t3) fun x16 =>
 CM.st (fun m => stV m x16 x15 1) <|
 CM.pu (p1 (fun a => fieldAddrA Tryz.prog 74 a 11) t1) fun x18 =>
 CM.rm (q1 (loadA Tryz.prog 3) x18 ) fun x19 =>
 CM.call 75 [x19, (.int .i64 4)] fun x20 =>
 CM.pu (p2 (binA Tryz.prog .add 3) (.int .i64 1) x20) fun x21 =>
 CM.pu (p1 (fun a => fieldAddrA Tryz.prog 54 a 11) t3) fun x22 =>
 CM.st (fun m => stV m x22 x21 1) <|
 CM.pu (p1 (fun a => fieldAddrA Tryz.prog 74 a 12) t1) fun x24 =>
 CM.rm (q1 (loadA Tryz.prog 3) x24 ) fun x25 =>
 CM.call 75 [x25, (.int .i64 60)] fun x26 =>
 CM.pu (p2 (binA Tryz.prog .add 3) (.int .i64 1) x26) fun x27 =>
 CM.pu (p1 (convA Tryz.prog 3 28) x27) fun x28 =>
 CM.pu (p1 (fun a => fieldAddrA Tryz.prog 54 a 12) t3) fun x29 =>
 CM.st (fun m => stV m x29 x28 1) <|
 CM.rm (q1 (loadA Tryz.prog 54) t3 ) fun x31 =>
 CM.st (fun m => stV m t2 x31 13) <|
 CM.resC Tryz.prog [ResultVar.cell 0 54] [t2]
theorem g28_0_ok : EqD (Rl H) g28_0 (fun xs m => goR (EH H) Mk 114688 xs m) := sE fun _ => sE fun _ => sE fun _ => zE fun _ => goR_eq 400 (by kernel_rfl)
noncomputable def f28 : List AV → CM := apS fun a0 => ap0 <|
 CM.al (boxA a0) fun x0 =>
 CM.al (some (.cells [(.int .i64 0), (.int .i64 0), (.int .i64 0), (.int .i64 0), (.int .i64 0), (.int .i64 0), (.int .i64 0), (.int .i64 0), (.int .i64 0), (.int .i64 0), (.int .i64 0), (.int .i64 0), (.int .u64 0)] false, pB)) fun x1 =>
 CM.pu (p1 (fun a => fieldAddrA Tryz.prog 74 a 0) x0) fun x2 =>
 CM.rm (q1 (loadA Tryz.prog 3) x2 ) fun x3 =>
 CM.memo fun m4 =>
 CM.call 75 [x3, (.int .i64 5)] fun x5 =>
 CM.pu (p2 (binA Tryz.prog .add 3) (.int .i64 1) x5) fun x7 =>
 CM.pu (p1 (fun a => fieldAddrA Tryz.prog 74 a 2) x0) fun x8 =>
 CM.rm (q1 (loadA Tryz.prog 3) x8 ) fun x9 =>
 CM.chk (q1 (loadA Tryz.prog 3) x8 m4) x9 <|
 CM.call 75 [x9, (.int .i64 8)] fun x11 =>
 CM.pu (p2 (binA Tryz.prog .add 3) (.int .i64 4) x11) fun x13 =>
 CM.pu (p1 (buildA Tryz.prog 54) [(0, x7), (2, x13)]) fun x14 =>
 CM.al (some (.cells [(.int .i64 0), (.int .i64 0), (.int .i64 0), (.int .i64 0), (.int .i64 0), (.int .i64 0), (.int .i64 0), (.int .i64 0), (.int .i64 0), (.int .i64 0), (.int .i64 0), (.int .i64 0), (.int .u64 0)] false, pB)) fun x15 =>
 CM.st (fun m => stV m x15 x14 13) <|
 CM.pu (p1 (fun a => fieldAddrA Tryz.prog 74 a 1) x0) fun x19 =>
 CM.rm (q1 (loadA Tryz.prog 3) x19 ) fun x20 =>
 CM.pu (p1 (fun a => fieldAddrA Tryz.prog 54 a 0) x15) fun x21 =>
 CM.rm (q1 (loadA Tryz.prog 3) x21 ) fun x22 =>
 CM.pu (p1 (convA Tryz.prog 3 160) x22) fun x23 =>
 CM.pu (p2 (binA Tryz.prog .shl 3) (.int .i64 1) x23) fun x24 =>
 CM.pu (p2 (binA Tryz.prog .sub 3) x24 (.int .i64 1)) fun x25 =>
 CM.call 75 [x20, x25] fun x26 =>
 CM.pu (p2 (binA Tryz.prog .add 3) (.int .i64 1) x26) fun x27 =>
 CM.pu (p2 (binA Tryz.prog .mul 3) (.int .i64 2) x27) fun x28 =>
 CM.pu (p1 (fun a => fieldAddrA Tryz.prog 54 a 1) x15) fun x29 =>
 CM.st (fun m => stV m x29 x28 1) <|
 CM.pu (p1 (fun a => fieldAddrA Tryz.prog 54 a 2) x15) fun x31 =>
 CM.rm (q1 (loadA Tryz.prog 3) x31 ) fun x32 =>
 CM.pu (p1 (fun a => fieldAddrA Tryz.prog 74 a 3) x0) fun x33 =>
 CM.rm (q1 (loadA Tryz.prog 3) x33 ) fun x34 =>
 CM.call 75 [x34, (.int .i64 30)] fun x36 =>
 CM.memo fun m37 =>
 CM.chk (q1 (loadA Tryz.prog 3) x31 m37) x32 <|
 CM.pu (p2 (binA Tryz.prog .add 3) x32 x36) fun x38 =>
 CM.pu (p1 (fun a => fieldAddrA Tryz.prog 54 a 3) x15) fun x39 =>
 CM.st (fun m => stV m x39 x38 1) <|
 CM.pu (p1 (fun a => fieldAddrA Tryz.prog 74 a 4) x0) fun x43 =>
 CM.rm (q1 (loadA Tryz.prog 3) x43 ) fun x44 =>
 CM.call 75 [x44, (.int .i64 2)] fun x45 =>
 CM.pu (p2 (binA Tryz.prog .add 3) (.int .i64 1) x45) fun x46 =>
 CM.pu (p1 (fun a => fieldAddrA Tryz.prog 54 a 4) x15) fun x47 =>
 CM.st (fun m => stV m x47 x46 1) <|
 CM.pu (p1 (fun a => fieldAddrA Tryz.prog 74 a 5) x0) fun x49 =>
 CM.rm (q1 (loadA Tryz.prog 3) x49 ) fun x50 =>
 CM.call 75 [x50, (.int .i64 60)] fun x51 =>
 CM.pu (p2 (binA Tryz.prog .add 3) (.int .i64 6) x51) fun x52 =>
 CM.pu (p1 (fun a => fieldAddrA Tryz.prog 54 a 5) x15) fun x53 =>
 CM.st (fun m => stV m x53 x52 1) <|
 CM.pu (p1 (fun a => fieldAddrA Tryz.prog 74 a 6) x0) fun x55 =>
 CM.rm (q1 (loadA Tryz.prog 3) x55 ) fun x56 =>
 CM.call 75 [x56, (.int .i64 600)] fun x57 =>
 CM.pu (p2 (binA Tryz.prog .add 3) (.int .i64 64) x57) fun x58 =>
 CM.pu (p1 (fun a => fieldAddrA Tryz.prog 54 a 6) x15) fun x59 =>
 CM.st (fun m => stV m x59 x58 1) <|
 CM.pu (p1 (fun a => fieldAddrA Tryz.prog 54 a 7) x15) fun x61 =>
 CM.st (fun m => stV m x61 (.int .i64 1048576) 1) <|
 CM.pu (p1 (fun a => fieldAddrA Tryz.prog 74 a 7) x0) fun x63 =>
 CM.rm (q1 (loadA Tryz.prog 3) x63 ) fun x64 =>
 CM.pu (p2 (binA Tryz.prog .rem 3) x64 (.int .i64 4)) fun x65 =>
 CM.pu (p2 (binA Tryz.prog .eql 3) x65 (.int .i64 3)) fun x66 =>
 CM.cond x66 (
 CM.pu (p1 (fun a => fieldAddrA Tryz.prog 74 a 7) x0) fun x67 =>
 CM.rm (q1 (loadA Tryz.prog 3) x67 ) fun x68 =>
 CM.call 75 [x68, (.int .i64 3000)] fun x69 =>
 CM.pu (p1 (fun a => fieldAddrA Tryz.prog 54 a 7) x15) fun x70 =>
 CM.st (fun m => stV m x70 x69 1) <|
 CM.go 114688 [x0, x1, x15]) (
 CM.go 114688 [x0, x1, x15])
theorem f28_ok (h : H 28 = none) : EqD (Rl H) f28 (fun xs m => run (EH H) (.fn 28) xs m) := sE fun _ => zE fun _ => run_eq 400 h (by kernel_rfl) (by kernel_rfl)
noncomputable def g29_0 : List AV → CM := apS fun t1 => ap0 <|
 CM.pu (p1 (buildA Tryz.prog 62) [(1, (.int .u64 2)), (2, (.int .u64 2))]) fun x0 =>
 CM.al (some (.cells [(.int .i64 0), (.int .u64 0), (.int .u64 0), (.sl none 0 0 0 true), (.int .i64 0)] false, pB)) fun x1 =>
 CM.st (fun m => stV m x1 x0 5) <|
 CM.rm (q1 (loadA Tryz.prog 62) x1 ) fun x3 =>
 CM.call 32 [t1, x3] fun x4 =>
 CM.rm (q1 (loadA Tryz.prog 62) x1 ) fun x5 =>
 CM.call 32 [t1, x5] fun x6 =>
 CM.pu (p1 (buildA Tryz.prog 62) [(1, (.int .u64 3)), (2, (.int .u64 2))]) fun x7 =>
 CM.call 32 [t1, x7] fun x8 =>
 CM.pu (p1 (buildA Tryz.prog 62) [(1, (.int .u64 3)), (2, (.int .u64 9))]) fun x9 =>
 CM.call 32 [t1, x9] fun x10 =>
 CM.call 77 [t1, (.int .u64 2)] fun x11 =>
 CM.pu (p1 (fun a => extractA a 0) x11) fun x12 =>
 CM.pu (p1 (fun a => extractA a 1) x11) fun x13 =>
 CM.al (some (.cells [(.int .i64 0), (.int .u64 0), (.int .u64 0), (.sl none 0 0 0 true), (.int .i64 0)] false, pB)) fun x14 =>
 CM.st (fun m => stV m x14 x12 5) <|
 CM.ifv x4 (
 CM.ifv x6 (
 CM.pu (p1 (unA .not) x8) fun x16 =>
 CM.ifv x16 (
 CM.pu (p1 (unA .not) x10) fun x17 =>
 CM.ifv x17 (
 CM.ifv x13 (
 CM.rm (q1 (loadA Tryz.prog 62) x1 ) fun x18 =>
 CM.rm (q1 (loadA Tryz.prog 62) x14 ) fun x19 =>
 CM.call 78 [x18, x19] fun x20 =>
 CM.ifv x20 (
 CM.call 76 [t1] fun x21 =>
 CM.pu (p2 (binA Tryz.prog .eql 28) x21 (.int .u64 2)) fun x22 =>
 CM.ret x22) (
 CM.ret (.bool false))) (
 CM.ret (.bool false))) (
 CM.ret (.bool false))) (
 CM.ret (.bool false))) (
 CM.ret (.bool false))) (
 CM.ret (.bool false))
theorem g29_0_ok : EqD (Rl H) g29_0 (fun xs m => goR (EH H) Mk 118784 xs m) := sE fun _ => zE fun _ => goR_eq 400 (by kernel_rfl)
noncomputable def f29 : List AV → CM := ap0 <|
 CM.pu (p1 (buildA Tryz.prog 74) []) fun x0 =>
 CM.call 28 [x0] fun x1 =>
 CM.call 27 [x1] fun x2 =>
 CM.pu (p1 (fun a => extractA a 0) x2) fun x3 =>
 CM.pu (p1 (fun a => extractA a 1) x2) fun x4 =>
 CM.pu (p2 (binA Tryz.prog .neq 23) x4 (.int .i64 0)) fun x5 =>
 CM.ifv x5 (
 CM.ret (.bool false)) (
 CM.pu (p2 (binA Tryz.prog .eql 69) x3 (.ptr none)) fun x6 =>
 CM.ifv x6 (
 CM.ret (.bool false)) (
 CM.call 76 [x3] fun x7 =>
 CM.pu (p2 (binA Tryz.prog .neq 28) x7 (.int .u64 1)) fun x8 =>
 CM.cond x8 (
 CM.ret (.bool false)) (
 CM.go 118784 [x3])))
theorem f29_ok (h : H 29 = none) : EqD (Rl H) f29 (fun xs m => run (EH H) (.fn 29) xs m) := zE fun _ => run_eq 400 h (by kernel_rfl) (by kernel_rfl)
noncomputable def f30 : List AV → CM := apS fun a0 => ap0 <|
 CM.al (boxA a0) fun x0 =>
 CM.rm (q1 (loadA Tryz.prog 65) x0 ) fun x1 =>
 CM.call 79 [x1] fun x2 =>
 CM.pu (p1 (fun a => extractA a 0) x2) fun x3 =>
 CM.pu (p1 (fun a => extractA a 1) x2) fun _ =>
 CM.ret x3
theorem f30_ok (h : H 30 = none) : EqD (Rl H) f30 (fun xs m => run (EH H) (.fn 30) xs m) := sE fun _ => zE fun _ => run_eq 400 h (by kernel_rfl) (by kernel_rfl)
noncomputable def f31 : List AV → CM := apS fun a0 => apS fun a1 => ap0 <|
 CM.call 65 [a1] fun x0 =>
 CM.pu (p1 (fun a => extractA a 0) x0) fun x1 =>
 CM.pu (p1 (fun a => extractA a 1) x0) fun x2 =>
 CM.al (some (.cells [(.int .i64 0), (.int .u64 0), (.int .u64 0), (.int .u64 0), (.int .u64 0), (.int .i64 0), (.int .u64 0), (.int .i64 0), (.str []), (.str [])] false, pB)) fun x3 =>
 CM.st (fun m => stV m x3 x1 10) <|
 CM.pu (p1 nnA a0) fun x5 =>
 CM.pu (p1 (fun a => fieldAddrA Tryz.prog 158 a 2) x5) fun x6 =>
 CM.rm (q1 (loadA Tryz.prog 156) x6 ) fun x7 =>
 CM.rm (q1 (toStrA Tryz.prog 60) a1 ) fun x8 =>
 CM.rm (q2 (fun a k => lookupA Tryz.prog 156 a k true) x7 x8 ) fun x9 =>
 CM.pu (p1 (fun a => extractA a 0) x9) fun _ =>
 CM.pu (p1 (fun a => extractA a 1) x9) fun x11 =>
 CM.pu (p2 (binA Tryz.prog .eql 23) x2 (.int .i64 0)) fun x12 =>
 CM.ifv x12 (
 CM.pu (p1 (unA .not) x11) fun x13 =>
 CM.cond x13 (
 CM.pu (p1 nnA a0) fun x14 =>
 CM.pu (p1 (fun a => fieldAddrA Tryz.prog 158 a 2) x14) fun x15 =>
 CM.rm (q1 (loadA Tryz.prog 156) x15 ) fun x16 =>
 CM.rm (q1 (toStrA Tryz.prog 60) a1 ) fun x17 =>
 CM.pu (p1 nnA a0) fun x18 =>
 CM.pu (p1 (fun a => fieldAddrA Tryz.prog 158 a 4) x18) fun x19 =>
 CM.rm (q1 (loadA Tryz.prog 28) x19 ) fun x20 =>
 CM.st (mapPut Tryz.prog 156 x16 x17 x20) <|
 CM.ret .undef) (
 CM.ret .undef)) (
 CM.ret .undef)
theorem f31_ok (h : H 31 = none) : EqD (Rl H) f31 (fun xs m => run (EH H) (.fn 31) xs m) := sE fun _ => sE fun _ => zE fun _ => run_eq 400 h (by kernel_rfl) (by kernel_rfl)
noncomputable def g32_0 : List AV → CM := apS fun t0 => apS fun t3 => ap0 <|
 CM.pu (p1 (fun a => fieldAddrA Tryz.prog 62 a 2) t3) fun x0 =>
 CM.rm (q1 (loadA Tryz.prog 28) x0 ) fun x1 =>
 CM.call 76 [t0] fun x3 =>
 CM.memo fun m4 =>
 CM.chk (q1 (loadA Tryz.prog 28) x0 m4) x1 <|
 CM.pu (p2 (binA Tryz.prog .leq 28) x1 x3) fun x5 =>
 CM.cond x5 (
 CM.pu (p1 nnA t0) fun x6 =>
 CM.pu (p1 (fun a => fieldAddrA Tryz.prog 158 a 1) x6) fun x7 =>
 CM.rm (q1 (loadA Tryz.prog 155) x7 ) fun x8 =>
 CM.pu (p1 (fun a => fieldAddrA Tryz.prog 62 a 2) t3) fun x9 =>
 CM.rm (q1 (loadA Tryz.prog 28) x9 ) fun x10 =>
 CM.pu (p2 (binA Tryz.prog .sub 28) x10 (.int .u64 1)) fun x11 =>
 CM.pu (p2 (indexAddrA Tryz.prog 155) x8 x11) fun x12 =>
 CM.pu (p1 (fun a => fieldAddrA Tryz.prog 154 a 0) x12) fun x13 =>
 CM.rm (q1 (loadA Tryz.prog 62) x13 ) fun x14 =>
 CM.rm (q1 (loadA Tryz.prog 62) t3 ) fun x15 =>
 CM.call 80 [x14, x15] fun x17 =>
 CM.ret x17) (
 CM.go 131073 [t0, t3])
theorem g32_0_ok : EqD (Rl H) g32_0 (fun xs m => goR (EH H) Mk 131072 xs m) := sE fun _ => sE fun _ => zE fun _ => goR_eq 400 (by kernel_rfl)
noncomputable def g32_1 : List AV → CM := apS fun t0 => apS fun t3 => ap0 <|
 CM.rm (q1 (loadA Tryz.prog 62) t3 ) fun x0 =>
 CM.call 81 [x0] fun x2 =>
 CM.pu (p1 (unA .not) x2) fun x4 =>
 CM.ifv x4 (
 CM.ret (.bool false)) (
 CM.pu (p1 (fun a => fieldAddrA Tryz.prog 62 a 1) t3) fun x5 =>
 CM.rm (q1 (loadA Tryz.prog 28) x5 ) fun x6 =>
 CM.pu (p1 nnA t0) fun x7 =>
 CM.pu (p1 (fun a => fieldAddrA Tryz.prog 158 a 1) x7) fun x8 =>
 CM.rm (q1 (loadA Tryz.prog 155) x8 ) fun x9 =>
 CM.pu (p1 nnA t0) fun x10 =>
 CM.pu (p1 (fun a => fieldAddrA Tryz.prog 158 a 1) x10) fun x11 =>
 CM.rm (q1 (loadA Tryz.prog 155) x11 ) fun x12 =>
 CM.pu (p1 (lenT Tryz.prog 155) x12) fun x13 =>
 CM.pu (p2 (binA Tryz.prog .sub 3) x13 (.int .i64 1)) fun x14 =>
 CM.pu (p2 (indexAddrA Tryz.prog 155) x9 x14) fun x15 =>
 CM.pu (p1 (fun a => fieldAddrA Tryz.prog 154 a 0) x15) fun x16 =>
 CM.pu (p1 (fun a => fieldAddrA Tryz.prog 62 a 1) x16) fun x17 =>
 CM.rm (q1 (loadA Tryz.prog 28) x17 ) fun x18 =>
 CM.pu (p2 (binA Tryz.prog .lss 28) x6 x18) fun x19 =>
 CM.cond x19 (
 CM.ret (.bool false)) (
 CM.go 131074 [t0, t3]))
theorem g32_1_ok : EqD (Rl H) g32_1 (fun xs m => goR (EH H) Mk 131073 xs m) := sE fun _ => sE fun _ => zE fun _ => goR_eq 400 (by kernel_rfl)
noncomputable def g32_2 : List AV → CM := apS fun t0 => apS fun t3 => ap0 <|
 CM.al (some (.cells [] false, sB 1 0)) fun x0 =>
 CM.pu (p1 (fun a => fieldAddrA Tryz.prog 62 a 3) t3) fun x1 =>
 CM.rm (q1 (loadA Tryz.prog 60) x1 ) fun x2 =>
 CM.ef (apE 1 1 x0 x2) fun x3 =>
 CM.pu (p1 (fun a => fieldAddrA Tryz.prog 62 a 3) t3) fun x4 =>
 CM.st (fun m => stV m x4 x3 1) <|
 CM.rm (q1 (loadA Tryz.prog 62) t3 ) fun x6 =>
 CM.pu (p1 (buildA Tryz.prog 154) [(0, x6)]) fun x7 =>
 CM.al (some (.cells [(.int .i64 0), (.int .u64 0), (.int .u64 0), (.sl none 0 0 0 true), (.int .i64 0), (.sl none 0 0 0 true), (.int .i64 0), (.int .u64 0), (.int .i64 0), (.int .u64 0), (.int .i64 0), (.bool false)] false, pB)) fun x8 =>
 CM.st (fun m => stV m x8 x7 12) <|
 CM.pu (p1 nnA t0) fun x10 =>
 CM.pu (p1 (fun a => fieldAddrA Tryz.prog 158 a 0) x10) fun x11 =>
 CM.rm (q1 (loadA Tryz.prog 50) x11 ) fun x12 =>
 CM.rm (q1 (loadA Tryz.prog 62) t3 ) fun x13 =>
 CM.call 23 [x12, x13] fun x15 =>
 CM.pu (p1 (fun a => extractA a 0) x15) fun x17 =>
 CM.pu (p1 (fun a => extractA a 1) x15) fun x18 =>
 CM.pu (p1 (fun a => fieldAddrA Tryz.prog 154 a 2) x8) fun x19 =>
 CM.st (fun m => stV m x19 x17 5) <|
 CM.pu (p1 (fun a => fieldAddrA Tryz.prog 154 a 3) x8) fun x23 =>
 CM.st (fun m => stV m x23 x18 1) <|
 CM.pu (p1 nnA t0) fun x27 =>
 CM.pu (p1 (fun a => fieldAddrA Tryz.prog 158 a 0) x27) fun x28 =>
 CM.rm (q1 (loadA Tryz.prog 50) x28 ) fun x29 =>
 CM.call 74 [x29] fun x30 =>
 CM.pu (p1 (fun a => fieldAddrA Tryz.prog 154 a 1) x8) fun x31 =>
 CM.st (fun m => stV m x31 x30 1) <|
 CM.pu (p1 nnA t0) fun x33 =>
 CM.pu (p1 (fun a => fieldAddrA Tryz.prog 158 a 1) x33) fun x34 =>
 CM.rm (q1 (loadA Tryz.prog 155) x34 ) fun x35 =>
 CM.rm (q1 (loadA Tryz.prog 154) x8 ) fun x36 =>
 CM.al (bsA 12 1 [(.int .i64 0), (.int .u64 0), (.int .u64 0), (.sl none 0 0 0 true), (.int .i64 0), (.sl none 0 0 0 true), (.int .i64 0), (.int .u64 0), (.int .i64 0), (.int .u64 0), (.int .i64 0), (.bool false)] [(0, x36)]) fun x37 =>
 CM.ef (apE 12 128 x35 x37) fun x39 =>
 CM.pu (p1 nnA t0) fun x41 =>
 CM.pu (p1 (fun a => fieldAddrA Tryz.prog 158 a 1) x41) fun x42 =>
 CM.st (fun m => stV m x42 x39 1) <|
 CM.pu (p1 nnA t0) fun x46 =>
 CM.pu (p1 (fun a => fieldAddrA Tryz.prog 158 a 3) x46) fun x47 =>
 CM.rm (q1 (loadA Tryz.prog 156) x47 ) fun x48 =>
 CM.pu (p1 (fun a => fieldAddrA Tryz.prog 62 a 3) t3) fun x49 =>
 CM.rm (q1 (loadA Tryz.prog 60) x49 ) fun x50 =>
 CM.rm (q1 (toStrA Tryz.prog 60) x50 ) fun x51 =>
 CM.rm (q2 (fun a k => lookupA Tryz.prog 156 a k true) x48 x51 ) fun x52 =>
 CM.pu (p1 (fun a => extractA a 0) x52) fun _ =>
 CM.pu (p1 (fun a => extractA a 1) x52) fun x54 =>
 CM.pu (p1 (unA .not) x54) fun x55 =>
 CM.ifv x55 (
 CM.pu (p1 (fun a => fieldAddrA Tryz.prog 62 a 0) t3) fun x56 =>
 CM.rm (q1 (loadA Tryz.prog 3) x56 ) fun x57 =>
 CM.pu (p2 (binA Tryz.prog .eql 3) x57 (.int .i64 1)) fun x58 =>
 CM.cond x58 (
 CM.pu (p1 nnA t0) fun x59 =>
 CM.pu (p1 (fun a => fieldAddrA Tryz.prog 158 a 3) x59) fun x60 =>
 CM.rm (q1 (loadA Tryz.prog 156) x60 ) fun x61 =>
 CM.pu (p1 (fun a => fieldAddrA Tryz.prog 62 a 3) t3) fun x62 =>
 CM.rm (q1 (loadA Tryz.prog 60) x62 ) fun x63 =>
 CM.rm (q1 (toStrA Tryz.prog 60) x63 ) fun x64 =>
 CM.pu (p1 (fun a => fieldAddrA Tryz.prog 62 a 2) t3) fun x65 =>
 CM.rm (q1 (loadA Tryz.prog 28) x65 ) fun x66 =>
 CM.st (mapPut Tryz.prog 156 x61 x64 x66) <|
 CM.go 131075 []) (
 CM.go 131075 [])) (
 CM.go 131075 [])
theorem g32_2_ok : EqD (Rl H) g32_2 (fun xs m => goR (EH H) Mk 131074 xs m) := sE fun _ => sE fun _ => zE fun _ => goR_eq 400 (by kernel_rfl)
noncomputable def g32_3 : List AV → CM := ap0 <|
 CM.ret (.bool true)
theorem g32_3_ok : EqD (Rl H) g32_3 (fun xs m => goR (EH H) Mk 131075 xs m) := zE fun _ => goR_eq 400 (by kernel_rfl)
noncomputable def f32 : List AV → CM := apS fun a0 => apS fun a1 => ap0 <|
 CM.al (boxA a1) fun x0 =>
 CM.pu (p1 (fun a => fieldAddrA Tryz.prog 62 a 2) x0) fun x1 =>
 CM.rm (q1 (loadA Tryz.prog 28) x1 ) fun x2 =>
 CM.pu (p2 (binA Tryz.prog .lss 28) x2 (.int .u64 2)) fun x3 =>
 CM.ifv x3 (
 CM.ret (.bool false)) (
 CM.pu (p1 (fun a => fieldAddrA Tryz.prog 62 a 2) x0) fun x4 =>
 CM.rm (q1 (loadA Tryz.prog 28) x4 ) fun x5 =>
 CM.call 76 [a0] fun x7 =>
 CM.memo fun m8 =>
 CM.chk (q1 (loadA Tryz.prog 28) x4 m8) x5 <|
 CM.pu (p2 (binA Tryz.prog .add 28) x7 (.int .u64 1)) fun x9 =>
 CM.pu (p2 (binA Tryz.prog .gtr 28) x5 x9) fun x10 =>
 CM.cond x10 (
 CM.ret (.bool false)) (
 CM.go 131072 [a0, x0]))
theorem f32_ok (h : H 32 = none) : EqD (Rl H) f32 (fun xs m => run (EH H) (.fn 32) xs m) := sE fun _ => sE fun _ => zE fun _ => run_eq 400 h (by kernel_rfl) (by kernel_rfl)
noncomputable def f33 : List AV → CM := apS fun a0 => apS fun a1 => ap0 <|
 CM.al (some (.cells [(.int .i64 0), (.int .u64 0), (.int .i64 0), (.int .u64 0), (.int .i64 0)] false, pB)) fun x0 =>
 CM.call 82 [a0, a1] fun x1 =>
 CM.pu (p1 (fun a => extractA a 0) x1) fun x2 =>
 CM.pu (p1 (fun a => extractA a 1) x1) fun x3 =>
 CM.al (some (.cells [(.int .i64 0), (.int .u64 0), (.int .u64 0), (.sl none 0 0 0 true), (.int .i64 0), (.sl none 0 0 0 true), (.int .i64 0), (.int .u64 0), (.int .i64 0), (.int .u64 0), (.int .i64 0), (.bool false)] false, pB)) fun x4 =>
 CM.st (fun m => stV m x4 x2 12) <|
 CM.pu (p1 (fun a => fieldAddrA Tryz.prog 154 a 2) x4) fun x6 =>
 CM.rm (q1 (loadA Tryz.prog 57) x6 ) fun x7 =>
 CM.ifv x3 (
 CM.pu (p1 (fun a => fieldAddrA Tryz.prog 154 a 3) x4) fun x8 =>
 CM.rm (q1 (loadA Tryz.prog 4) x8 ) fun x9 =>
 CM.st (fun m => stV m x0 x7 5) <|
 CM.memo fun m12 =>
 CM.chk (q1 (loadA Tryz.prog 4) x8 m12) x9 <|
 CM.resC Tryz.prog [ResultVar.cell 0 57, ResultVar.tmp 1] [x0, x9]) (
 CM.st (fun m => stV m x0 x7 5) <|
 CM.resC Tryz.prog [ResultVar.cell 0 57, ResultVar.tmp 1] [x0, (.bool false)])
theorem f33_ok (h : H 33 = none) : EqD (Rl H) f33 (fun xs m => run (EH H) (.fn 33) xs m) := sE fun _ => sE fun _ => zE fun _ => run_eq 400 h (by kernel_rfl) (by kernel_rfl)
noncomputable def g34_0 : List AV → CM := apS fun t0 => apS fun t3 => ap0 <|
 CM.pu (p1 nnA t0) fun x0 =>
 CM.pu (p1 (fun a => fieldAddrA Tryz.prog 158 a 4) x0) fun x1 =>
 CM.rm (q1 (loadA Tryz.prog 28) x1 ) fun x2 =>
 CM.pu (p1 (fun a => fieldAddrA Tryz.prog 80 a 6) t3) fun x3 =>
 CM.rm (q1 (loadA Tryz.prog 28) x3 ) fun x4 =>
 CM.pu (p2 maxA x2 x4) fun x5 =>
 CM.pu (p1 nnA t0) fun x6 =>
 CM.pu (p1 (fun a => fieldAddrA Tryz.prog 158 a 4) x6) fun x7 =>
 CM.st (fun m => stV m x7 x5 1) <|
 CM.pu (p1 (fun a => fieldAddrA Tryz.prog 80 a 6) t3) fun x11 =>
 CM.rm (q1 (loadA Tryz.prog 28) x11 ) fun x12 =>
 CM.call 82 [t0, x12] fun x13 =>
 CM.pu (p1 (fun a => extractA a 0) x13) fun x14 =>
 CM.pu (p1 (fun a => extractA a 1) x13) fun x15 =>
 CM.al (some (.cells [(.int .i64 0), (.int .u64 0), (.int .u64 0), (.sl none 0 0 0 true), (.int .i64 0), (.sl none 0 0 0 true), (.int .i64 0), (.int .u64 0), (.int .i64 0), (.int .u64 0), (.int .i64 0), (.bool false)] false, pB)) fun x16 =>
 CM.st (fun m => stV m x16 x14 12) <|
 CM.pu (p1 (unA .not) x15) fun x18 =>
 CM.ifv x18 (
 CM.ret (.bool false)) (
 CM.pu (p1 (fun a => fieldAddrA Tryz.prog 154 a 0) x16) fun x19 =>
 CM.pu (p1 (fun a => fieldAddrA Tryz.prog 62 a 0) x19) fun x20 =>
 CM.rm (q1 (loadA Tryz.prog 3) x20 ) fun x21 =>
 CM.pu (p2 (binA Tryz.prog .neq 3) x21 (.int .i64 1)) fun x22 =>
 CM.ifv x22 (
 CM.ret (.bool false)) (
 CM.pu (p1 (fun a => fieldAddrA Tryz.prog 154 a 3) x16) fun x23 =>
 CM.rm (q1 (loadA Tryz.prog 4) x23 ) fun x24 =>
 CM.pu (p1 (unA .not) x24) fun x25 =>
 CM.ifv x25 (
 CM.ret (.bool false)) (
 CM.pu (p1 (fun a => fieldAddrA Tryz.prog 154 a 2) x16) fun x26 =>
 CM.rm (q1 (loadA Tryz.prog 57) x26 ) fun x27 =>
 CM.pu (p1 (fun a => fieldAddrA Tryz.prog 80 a 5) t3) fun x28 =>
 CM.rm (q1 (loadA Tryz.prog 57) x28 ) fun x29 =>
 CM.pu (p2 (binA Tryz.prog .neq 57) x27 x29) fun x30 =>
 CM.cond x30 (
 CM.ret (.bool false)) (
 CM.go 139265 [t0, t3, x16]))))
theorem g34_0_ok : EqD (Rl H) g34_0 (fun xs m => goR (EH H) Mk 139264 xs m) := sE fun _ => sE fun _ => zE fun _ => goR_eq 400 (by kernel_rfl)
noncomputable def g34_1 : List AV → CM := apS fun t0 => apS fun t3 => apS fun t5 => ap0 <|
 CM.pu (p1 (fun a => fieldAddrA Tryz.prog 154 a 0) t5) fun x0 =>
 CM.pu (p1 (fun a => fieldAddrA Tryz.prog 62 a 3) x0) fun x1 =>
 CM.rm (q1 (loadA Tryz.prog 60) x1 ) fun x2 =>
 CM.call 65 [x2] fun x3 =>
 CM.pu (p1 (fun a => extractA a 0) x3) fun x4 =>
 CM.pu (p1 (fun a => extractA a 1) x3) fun x5 =>
 CM.al (some (.cells [(.int .i64 0), (.int .u64 0), (.int .u64 0), (.int .u64 0), (.int .u64 0), (.int .i64 0), (.int .u64 0), (.int .i64 0), (.str []), (.str [])] false, pB)) fun x6 =>
 CM.st (fun m => stV m x6 x4 10) <|
 CM.pu (p1 nnA t0) fun x8 =>
 CM.pu (p1 (fun a => fieldAddrA Tryz.prog 158 a 2) x8) fun x9 =>
 CM.rm (q1 (loadA Tryz.prog 156) x9 ) fun x10 =>
 CM.pu (p1 (fun a => fieldAddrA Tryz.prog 154 a 0) t5) fun x11 =>
 CM.pu (p1 (fun a => fieldAddrA Tryz.prog 62 a 3) x11) fun x12 =>
 CM.rm (q1 (loadA Tryz.prog 60) x12 ) fun x13 =>
 CM.rm (q1 (toStrA Tryz.prog 60) x13 ) fun x14 =>
 CM.rm (q2 (fun a k => lookupA Tryz.prog 156 a k true) x10 x14 ) fun x15 =>
 CM.pu (p1 (fun a => extractA a 0) x15) fun x16 =>
 CM.pu (p1 (fun a => extractA a 1) x15) fun x17 =>
 CM.pu (p2 (binA Tryz.prog .eql 23) x5 (.int .i64 0)) fun x18 =>
 CM.ifv x18 (
 CM.pu (p1 (fun a => fieldAddrA Tryz.prog 65 a 1) x6) fun x19 =>
 CM.rm (q1 (loadA Tryz.prog 28) x19 ) fun x20 =>
 CM.pu (p1 (fun a => fieldAddrA Tryz.prog 80 a 1) t3) fun x21 =>
 CM.rm (q1 (loadA Tryz.prog 28) x21 ) fun x22 =>
 CM.pu (p2 (binA Tryz.prog .eql 28) x20 x22) fun x23 =>
 CM.ifv x23 (
 CM.pu (p1 (fun a => fieldAddrA Tryz.prog 65 a 2) x6) fun x24 =>
 CM.rm (q1 (loadA Tryz.prog 28) x24 ) fun x25 =>
 CM.pu (p1 (fun a => fieldAddrA Tryz.prog 80 a 2) t3) fun x26 =>
 CM.rm (q1 (loadA Tryz.prog 28) x26 ) fun x27 =>
 CM.pu (p2 (binA Tryz.prog .eql 28) x25 x27) fun x28 =>
 CM.ifv x28 (
 CM.ifv x17 (
 CM.pu (p1 nnA t0) fun x29 =>
 CM.pu (p1 (fun a => fieldAddrA Tryz.prog 158 a 3) x29) fun x30 =>
 CM.rm (q1 (loadA Tryz.prog 156) x30 ) fun x31 =>
 CM.pu (p1 (fun a => fieldAddrA Tryz.prog 154 a 0) t5) fun x32 =>
 CM.pu (p1 (fun a => fieldAddrA Tryz.prog 62 a 3) x32) fun x33 =>
 CM.rm (q1 (loadA Tryz.prog 60) x33 ) fun x34 =>
 CM.rm (q1 (toStrA Tryz.prog 60) x34 ) fun x35 =>
 CM.rm (q2 (fun a k => lookupA Tryz.prog 156 a k false) x31 x35 ) fun x36 =>
 CM.pu (p2 (binA Tryz.prog .lss 28) x16 x36) fun x37 =>
 CM.ret x37) (
 CM.ret (.bool false))) (
 CM.ret (.bool false))) (
 CM.ret (.bool false))) (
 CM.ret (.bool false))
theorem g34_1_ok : EqD (Rl H) g34_1 (fun xs m => goR (EH H) Mk 139265 xs m) := sE fun _ => sE fun _ => sE fun _ => zE fun _ => goR_eq 400 (by kernel_rfl)
noncomputable def f34 : List AV → CM := apS fun a0 => apS fun a1 => ap0 <|
 CM.al (boxA a1) fun x0 =>
 CM.pu (p1 (fun a => fieldAddrA Tryz.prog 80 a 3) x0) fun x1 =>
 CM.rm (q1 (loadA Tryz.prog 23) x1 ) fun x2 =>
 CM.pu (p2 (binA Tryz.prog .neq 23) x2 (.int .i64 0)) fun x3 =>
 CM.cond x3 (
 CM.ret (.bool true)) (
 CM.go 139264 [a0, x0])
theorem f34_ok (h : H 34 = none) : EqD (Rl H) f34 (fun xs m => run (EH H) (.fn 34) xs m) := sE fun _ => sE fun _ => zE fun _ => run_eq 400 h (by kernel_rfl) (by kernel_rfl)
noncomputable def g35_0 : List AV → CM := apS fun t6 => ap0 <|
 CM.al (some (.cells [] false, sB 1 0)) fun x0 =>
 CM.pu (p1 (fun a => fieldAddrA Tryz.prog 154 a 1) t6) fun x1 =>
 CM.rm (q1 (loadA Tryz.prog 60) x1 ) fun x2 =>
 CM.ef (apE 1 1 x0 x2) fun x3 =>
 CM.ret (.tup [x3, (.bool true)])
theorem g35_0_ok : EqD (Rl H) g35_0 (fun xs m => goR (EH H) Mk 143360 xs m) := sE fun _ => zE fun _ => goR_eq 400 (by kernel_rfl)
noncomputable def f35 : List AV → CM := apS fun a0 => apS fun a1 => ap0 <|
 CM.call 82 [a0, a1] fun x0 =>
 CM.pu (p1 (fun a => extractA a 0) x0) fun x1 =>
 CM.pu (p1 (fun a => extractA a 1) x0) fun x2 =>
 CM.al (some (.cells [(.int .i64 0), (.int .u64 0), (.int .u64 0), (.sl none 0 0 0 true), (.int .i64 0), (.sl none 0 0 0 true), (.int .i64 0), (.int .u64 0), (.int .i64 0), (.int .u64 0), (.int .i64 0), (.bool false)] false, pB)) fun x3 =>
 CM.st (fun m => stV m x3 x1 12) <|
 CM.pu (p1 (unA .not) x2) fun x5 =>
 CM.cond x5 (
 CM.ret (.tup [(.sl none 0 0 0 true), (.bool false)])) (
 CM.go 143360 [x3])
theorem f35_ok (h : H 35 = none) : EqD (Rl H) f35 (fun xs m => run (EH H) (.fn 35) xs m) := sE fun _ => sE fun _ => zE fun _ => run_eq 400 h (by kernel_rfl) (by kernel_rfl)
noncomputable def g36_0 : List AV → CM := apS fun t0 => ap0 <|
 CM.pu (p1 (buildA Tryz.prog 171) [(2, t0)]) fun x0 =>
 CM.al (boxA x0) fun x1 =>
 CM.ret (.tup [x1, (.int .i64 0)])
theorem g36_0_ok : EqD (Rl H) g36_0 (fun xs m => goR (EH H) Mk 147456 xs m) := sE fun _ => zE fun _ => goR_eq 400 (by kernel_rfl)
noncomputable def f36 : List AV → CM := apS fun a0 => ap0 <|
 CM.pu (p2 (binA Tryz.prog .lss 3) a0 (.int .i64 1)) fun x0 =>
 CM.ifv x0 (
 CM.ret (.tup [(.ptr none), (.int .i64 1)])) (
 CM.pu (p2 (binA Tryz.prog .gtr 3) a0 (.int .i64 4096)) fun x1 =>
 CM.cond x1 (
 CM.ret (.tup [(.ptr none), (.int .i64 1)])) (
 CM.go 147456 [a0]))
theorem f36_ok (h : H 36 = none) : EqD (Rl H) f36 (fun xs m => run (EH H) (.fn 36) xs m) := sE fun _ => zE fun _ => run_eq 400 h (by kernel_rfl) (by kernel_rfl)
noncomputable def g37_0 : List AV → CM := apS fun t0 => ap0 <|
 CM.pu (p1 (buildA Tryz.prog 173) [(2, t0)]) fun x0 =>
 CM.al (boxA x0) fun x1 =>
 CM.ret (.tup [x1, (.int .i64 0)])
theorem g37_0_ok : EqD (Rl H) g37_0 (fun xs m => goR (EH H) Mk 151552 xs m) := sE fun _ => zE fun _ => goR_eq 400 (by kernel_rfl)
noncomputable def f37 : List AV → CM := apS fun a0 => ap0 <|
 CM.pu (p2 (binA Tryz.prog .lss 3) a0 (.int .i64 1)) fun x0 =>
 CM.ifv x0 (
 CM.ret (.tup [(.ptr none), (.int .i64 1)])) (
 CM.pu (p2 (binA Tryz.prog .gtr 3) a0 (.int .i64 4096)) fun x1 =>
 CM.cond x1 (
 CM.ret (.tup [(.ptr none), (.int .i64 1)])) (
 CM.go 151552 [a0]))
theorem f37_ok (h : H 37 = none) : EqD (Rl H) f37 (fun xs m => run (EH H) (.fn 37) xs m) := sE fun _ => zE fun _ => run_eq 400 h (by kernel_rfl) (by kernel_rfl)
noncomputable def g38_0 : List AV → CM := apS fun t0 => ap0 <|
 CM.pu (p1 (buildA Tryz.prog 175) [(2, t0)]) fun x0 =>
 CM.al (boxA x0) fun x1 =>
 CM.ret (.tup [x1, (.int .i64 0)])
theorem g38_0_ok : EqD (Rl H) g38_0 (fun xs m => goR (EH H) Mk 155648 xs m) := sE fun _ => zE fun _ => goR_eq 400 (by kernel_rfl)
noncomputable def f38 : List AV → CM := apS fun a0 => ap0 <|
 CM.pu (p2 (binA Tryz.prog .lss 3) a0 (.int .i64 1)) fun x0 =>
 CM.ifv x0 (
 CM.ret (.tup [(.ptr none), (.int .i64 1)])) (
 CM.pu (p2 (binA Tryz.prog .gtr 3) a0 (.int .i64 4096)) fun x1 =>
 CM.cond x1 (
 CM.ret (.tup [(.ptr none), (.int .i64 1)])) (
 CM.go 155648 [a0]))
theorem f38_ok (h : H 38 = none) : EqD (Rl H) f38 (fun xs m => run (EH H) (.fn 38) xs m) := sE fun _ => zE fun _ => run_eq 400 h (by kernel_rfl) (by kernel_rfl)
noncomputable def g39_0 : List AV → CM := apS fun t4 => apS fun t6 => ap0 <|
 CM.pu (p1 (fun a => fieldAddrA Tryz.prog 92 a 2) t6) fun x0 =>
 CM.rm (q1 (loadA Tryz.prog 33) x0 ) fun x1 =>
 CM.pu (p1 (fun a => fieldAddrA Tryz.prog 92 a 1) t6) fun x2 =>
 CM.rm (q1 (loadA Tryz.prog 3) x2 ) fun x3 =>
 CM.pu (p1 (buildA Tryz.prog 35) [(0, x1), (1, x3)]) fun x4 =>
 CM.st (fun m => stV m t4 x4 3) <|
 CM.resC Tryz.prog [ResultVar.cell 0 35, ResultVar.tmp 1] [t4, (.int .i64 0)]
theorem g39_0_ok : EqD (Rl H) g39_0 (fun xs m => goR (EH H) Mk 159744 xs m) := sE fun _ => sE fun _ => zE fun _ => goR_eq 400 (by kernel_rfl)
noncomputable def f39 : List AV → CM := apS fun a0 => apS fun a1 => ap0 <|
 CM.al (some (.cells [(.int .i64 0), (.int .u64 0), (.int .i64 0)] false, pB)) fun x0 =>
 CM.pu (p1 nnA a0) fun x1 =>
 CM.pu (p1 (fun a => fieldAddrA Tryz.prog 88 a 1) x1) fun x2 =>
 CM.rm (q1 (loadA Tryz.prog 84) x2 ) fun x3 =>
 CM.call 40 [x3, a1] fun x4 =>
 CM.pu (p1 (fun a => extractA a 0) x4) fun x5 =>
 CM.pu (p1 (fun a => extractA a 1) x4) fun x6 =>
 CM.al (some (.cells [(.str []), (.int .i64 0), (.int .i64 0), (.int .u64 0)] false, pB)) fun x7 =>
 CM.st (fun m => stV m x7 x5 4) <|
 CM.pu (p1 (unA .not) x6) fun x9 =>
 CM.cond x9 (
 CM.pu (p1 (buildA Tryz.prog 35) []) fun x10 =>
 CM.st (fun m => stV m x0 x10 3) <|
 CM.resC Tryz.prog [ResultVar.cell 0 35, ResultVar.tmp 1] [x0, (.int .i64 41)]) (
 CM.go 159744 [x0, x7])
theorem f39_ok (h : H 39 = none) : EqD (Rl H) f39 (fun xs m => run (EH H) (.fn 39) xs m) := sE fun _ => sE fun _ => zE fun _ => run_eq 400 h (by kernel_rfl) (by kernel_rfl)
noncomputable def g40_0 : List AV → CM := apS fun t0 => apS fun t4 => apS fun t6 => ap0 <|
 CM.pu (p1 nnA t0) fun x0 =>
 CM.pu (p1 (fun a => fieldAddrA Tryz.prog 171 a 1) x0) fun x1 =>
 CM.rm (q1 (loadA Tryz.prog 44) x1 ) fun x2 =>
 CM.pu (p2 (indexAddrA Tryz.prog 44) x2 t6) fun x3 =>
 CM.rm (q1 (loadA Tryz.prog 92) x3 ) fun x4 =>
 CM.st (fun m => stV m t4 x4 4) <|
 CM.resC Tryz.prog [ResultVar.cell 0 92, ResultVar.tmp 1] [t4, (.bool true)]
theorem g40_0_ok : EqD (Rl H) g40_0 (fun xs m => goR (EH H) Mk 163840 xs m) := sE fun _ => sE fun _ => sE fun _ => zE fun _ => goR_eq 400 (by kernel_rfl)
noncomputable def f40 : List AV → CM := apS fun a0 => apS fun a1 => ap0 <|
 CM.al (some (.cells [(.str []), (.int .i64 0), (.int .i64 0), (.int .u64 0)] false, pB)) fun x0 =>
 CM.pu (p1 nnA a0) fun x1 =>
 CM.pu (p1 (fun a => fieldAddrA Tryz.prog 171 a 0) x1) fun x2 =>
 CM.rm (q1 (loadA Tryz.prog 169) x2 ) fun x3 =>
 CM.call 83 [x3, a1] fun x4 =>
 CM.pu (p1 (fun a => extractA a 0) x4) fun x5 =>
 CM.pu (p1 (fun a => extractA a 1) x4) fun x6 =>
 CM.pu (p1 (unA .not) x6) fun x7 =>
 CM.cond x7 (
 CM.al (some (.cells [(.str []), (.int .i64 0), (.int .i64 0), (.int .u64 0)] false, pB)) fun x8 =>
 CM.rm (q1 (loadA Tryz.prog 92) x8 ) fun x9 =>
 CM.st (fun m => stV m x0 x9 4) <|
 CM.resC Tryz.prog [ResultVar.cell 0 92, ResultVar.tmp 1] [x0, (.bool false)]) (
 CM.go 163840 [a0, x0, x5])
theorem f40_ok (h : H 40 = none) : EqD (Rl H) f40 (fun xs m => run (EH H) (.fn 40) xs m) := sE fun _ => sE fun _ => zE fun _ => run_eq 400 h (by kernel_rfl) (by kernel_rfl)
noncomputable def g41_0 : List AV → CM := apS fun t0 => apS fun t3 => ap0 <|
 CM.pu (p1 (lenT Tryz.prog 9) t0) fun x0 =>
 CM.pu (p2 (binA Tryz.prog .lss 3) t3 x0) fun x1 =>
 CM.cond x1 (
 CM.go 167937 [t0, t3]) (
 CM.go 167939 [t0])
theorem g41_0_ok : EqD (Rl H) g41_0 (fun xs m => goR (EH H) Mk 167936 xs m) := sE fun _ => sE fun _ => zE fun _ => goR_eq 400 (by kernel_rfl)
noncomputable def g41_1 : List AV → CM := apS fun t0 => apS fun t3 => ap0 <|
 CM.pu (p2 (indexA Tryz.prog 9) t0 t3) fun x0 =>
 CM.pu (p2 (binA Tryz.prog .lss 5) x0 (.int .u8 65)) fun x1 =>
 CM.ifv x1 (
 CM.ret (.bool false)) (
 CM.pu (p2 (indexA Tryz.prog 9) t0 t3) fun x2 =>
 CM.pu (p2 (binA Tryz.prog .gtr 5) x2 (.int .u8 90)) fun x3 =>
 CM.cond x3 (
 CM.ret (.bool false)) (
 CM.go 167938 [t0, t3]))
theorem g41_1_ok : EqD (Rl H) g41_1 (fun xs m => goR (EH H) Mk 167937 xs m) := sE fun _ => sE fun _ => zE fun _ => goR_eq 400 (by kernel_rfl)
noncomputable def g41_2 : List AV → CM := apS fun t0 => apS fun t3 => ap0 <|
 CM.pu (p2 (binA Tryz.prog .add 3) t3 (.int .i64 1)) fun x0 =>
 CM.go 167936 [t0, x0]
theorem g41_2_ok : EqD (Rl H) g41_2 (fun xs m => goR (EH H) Mk 167938 xs m) := sE fun _ => sE fun _ => zE fun _ => goR_eq 400 (by kernel_rfl)
noncomputable def g41_3 : List AV → CM := apS fun t0 => ap0 <|
 CM.pu (p1 (lenT Tryz.prog 9) t0) fun x0 =>
 CM.pu (p2 (binA Tryz.prog .eql 3) x0 (.int .i64 3)) fun x1 =>
 CM.ret x1
theorem g41_3_ok : EqD (Rl H) g41_3 (fun xs m => goR (EH H) Mk 167939 xs m) := sE fun _ => zE fun _ => goR_eq 400 (by kernel_rfl)
noncomputable def f41 : List AV → CM := apS fun a0 => ap0 <|
 CM.go 167936 [a0, (.int .i64 0)]
theorem f41_ok (h : H 41 = none) : EqD (Rl H) f41 (fun xs m => run (EH H) (.fn 41) xs m) := sE fun _ => zE fun _ => run_eq 400 h (by kernel_rfl) (by kernel_rfl)
noncomputable def g42_0 : List AV → CM := ap0 <|
 CM.ret (.bool true)
theorem g42_0_ok : EqD (Rl H) g42_0 (fun xs m => goR (EH H) Mk 172032 xs m) := zE fun _ => goR_eq 400 (by kernel_rfl)
noncomputable def f42 : List AV → CM := apS fun a0 => apS fun a1 => apS fun a2 => ap0 <|
 CM.al (boxA a2) fun x0 =>
 CM.pu (p1 nnA a0) fun x1 =>
 CM.pu (p1 (fun a => fieldAddrA Tryz.prog 171 a 0) x1) fun x2 =>
 CM.rm (q1 (loadA Tryz.prog 169) x2 ) fun x3 =>
 CM.call 83 [x3, a1] fun x4 =>
 CM.pu (p1 (fun a => extractA a 0) x4) fun x5 =>
 CM.pu (p1 (fun a => extractA a 1) x4) fun x6 =>
 CM.cond x6 (
 CM.pu (p1 nnA a0) fun x7 =>
 CM.pu (p1 (fun a => fieldAddrA Tryz.prog 171 a 1) x7) fun x8 =>
 CM.rm (q1 (loadA Tryz.prog 44) x8 ) fun x9 =>
 CM.rm (q1 (loadA Tryz.prog 92) x0 ) fun x10 =>
 CM.pu (p2 (indexAddrA Tryz.prog 44) x9 x5) fun x11 =>
 CM.st (fun m => stV m x11 x10 4) <|
 CM.go 172032 []) (
 CM.pu (p1 nnA a0) fun x15 =>
 CM.pu (p1 (fun a => fieldAddrA Tryz.prog 171 a 0) x15) fun x16 =>
 CM.rm (q1 (loadA Tryz.prog 169) x16 ) fun x17 =>
 CM.pu (p1 (lenT Tryz.prog 169) x17) fun x18 =>
 CM.pu (p1 nnA a0) fun x19 =>
 CM.pu (p1 (fun a => fieldAddrA Tryz.prog 171 a 2) x19) fun x20 =>
 CM.rm (q1 (loadA Tryz.prog 3) x20 ) fun x21 =>
 CM.pu (p2 (binA Tryz.prog .geq 3) x18 x21) fun x22 =>
 CM.cond x22 (
 CM.ret (.bool false)) (
 CM.pu (p1 nnA a0) fun x23 =>
 CM.pu (p1 (fun a => fieldAddrA Tryz.prog 171 a 0) x23) fun x24 =>
 CM.rm (q1 (loadA Tryz.prog 169) x24 ) fun x25 =>
 CM.al (bsA 1 1 [(.str [])] [(0, a1)]) fun x26 =>
 CM.call 84 [x25, x5, x26] fun x27 =>
 CM.pu (p1 nnA a0) fun x28 =>
 CM.pu (p1 (fun a => fieldAddrA Tryz.prog 171 a 0) x28) fun x29 =>
 CM.st (fun m => stV m x29 x27 1) <|
 CM.pu (p1 nnA a0) fun x31 =>
 CM.pu (p1 (fun a => fieldAddrA Tryz.prog 171 a 1) x31) fun x32 =>
 CM.rm (q1 (loadA Tryz.prog 44) x32 ) fun x33 =>
 CM.rm (q1 (loadA Tryz.prog 92) x0 ) fun x34 =>
 CM.al (bsA 4 1 [(.str []), (.int .i64 0), (.int .i64 0), (.int .u64 0)] [(0, x34)]) fun x35 =>
 CM.call 85 [x33, x5, x35] fun x37 =>
 CM.pu (p1 nnA a0) fun x39 =>
 CM.pu (p1 (fun a => fieldAddrA Tryz.prog 171 a 1) x39) fun x40 =>
 CM.st (fun m => stV m x40 x37 1) <|
 CM.go 172032 []))
theorem f42_ok (h : H 42 = none) : EqD (Rl H) f42 (fun xs m => run (EH H) (.fn 42) xs m) := sE fun _ => sE fun _ => sE fun _ => zE fun _ => run_eq 400 h (by kernel_rfl) (by kernel_rfl)
noncomputable def f43 : List AV → CM := apS fun a0 => ap0 <|
 CM.pu (p1 nnA a0) fun x0 =>
 CM.pu (p1 (fun a => fieldAddrA Tryz.prog 175 a 0) x0) fun x1 =>
 CM.rm (q1 (loadA Tryz.prog 139) x1 ) fun x2 =>
 CM.pu (p1 (lenT Tryz.prog 139) x2) fun x3 =>
 CM.ret x3
theorem f43_ok (h : H 43 = none) : EqD (Rl H) f43 (fun xs m => run (EH H) (.fn 43) xs m) := sE fun _ => zE fun _ => run_eq 400 h (by kernel_rfl) (by kernel_rfl)
noncomputable def g44_0 : List AV → CM := ap0 <|
 CM.ret (.bool true)
theorem g44_0_ok : EqD (Rl H) g44_0 (fun xs m => goR (EH H) Mk 180224 xs m) := zE fun _ => goR_eq 400 (by kernel_rfl)
noncomputable def f44 : List AV → CM := apS fun a0 => apS fun a1 => apS fun a2 => ap0 <|
 CM.al (boxA a2) fun x0 =>
 CM.pu (p1 nnA a0) fun x1 =>
 CM.pu (p1 (fun a => fieldAddrA Tryz.prog 175 a 0) x1) fun x2 =>
 CM.rm (q1 (loadA Tryz.prog 139) x2 ) fun x3 =>
 CM.call 86 [x3, a1] fun x4 =>
 CM.pu (p1 (fun a => extractA a 0) x4) fun x5 =>
 CM.pu (p1 (fun a => extractA a 1) x4) fun x6 =>
 CM.cond x6 (
 CM.pu (p1 nnA a0) fun x7 =>
 CM.pu (p1 (fun a => fieldAddrA Tryz.prog 175 a 1) x7) fun x8 =>
 CM.rm (q1 (loadA Tryz.prog 46) x8 ) fun x9 =>
 CM.rm (q1 (loadA Tryz.prog 100) x0 ) fun x10 =>
 CM.pu (p2 (indexAddrA Tryz.prog 46) x9 x5) fun x11 =>
 CM.st (fun m => stV m x11 x10 4) <|
 CM.go 180224 []) (
 CM.pu (p1 nnA a0) fun x15 =>
 CM.pu (p1 (fun a => fieldAddrA Tryz.prog 175 a 0) x15) fun x16 =>
 CM.rm (q1 (loadA Tryz.prog 139) x16 ) fun x17 =>
 CM.pu (p1 (lenT Tryz.prog 139) x17) fun x18 =>
 CM.pu (p1 nnA a0) fun x19 =>
 CM.pu (p1 (fun a => fieldAddrA Tryz.prog 175 a 2) x19) fun x20 =>
 CM.rm (q1 (loadA Tryz.prog 3) x20 ) fun x21 =>
 CM.pu (p2 (binA Tryz.prog .geq 3) x18 x21) fun x22 =>
 CM.cond x22 (
 CM.ret (.bool false)) (
 CM.pu (p1 nnA a0) fun x23 =>
 CM.pu (p1 (fun a => fieldAddrA Tryz.prog 175 a 0) x23) fun x24 =>
 CM.rm (q1 (loadA Tryz.prog 139) x24 ) fun x25 =>
 CM.al (bsA 1 1 [(.int .u64 0)] [(0, a1)]) fun x26 =>
 CM.call 87 [x25, x5, x26] fun x27 =>
 CM.pu (p1 nnA a0) fun x28 =>
 CM.pu (p1 (fun a => fieldAddrA Tryz.prog 175 a 0) x28) fun x29 =>
 CM.st (fun m => stV m x29 x27 1) <|
 CM.pu (p1 nnA a0) fun x31 =>
 CM.pu (p1 (fun a => fieldAddrA Tryz.prog 175 a 1) x31) fun x32 =>
 CM.rm (q1 (loadA Tryz.prog 46) x32 ) fun x33 =>
 CM.rm (q1 (loadA Tryz.prog 100) x0 ) fun x34 =>
 CM.al (bsA 4 1 [(.int .u64 0), (.str []), (.int .i64 0), (.int .u64 0)] [(0, x34)]) fun x35 =>
 CM.call 88 [x33, x5, x35] fun x37 =>
 CM.pu (p1 nnA a0) fun x39 =>
 CM.pu (p1 (fun a => fieldAddrA Tryz.prog 175 a 1) x39) fun x40 =>
 CM.st (fun m => stV m x40 x37 1) <|
 CM.go 180224 []))
theorem f44_ok (h : H 44 = none) : EqD (Rl H) f44 (fun xs m => run (EH H) (.fn 44) xs m) := sE fun _ => sE fun _ => sE fun _ => zE fun _ => run_eq 400 h (by kernel_rfl) (by kernel_rfl)
noncomputable def g45_0 : List AV → CM := apS fun t0 => apS fun t4 => apS fun t5 => apS fun t7 => ap0 <|
 CM.pu (p1 nnA t0) fun x0 =>
 CM.pu (p1 (fun a => fieldAddrA Tryz.prog 88 a 1) x0) fun x1 =>
 CM.rm (q1 (loadA Tryz.prog 84) x1 ) fun x2 =>
 CM.pu (p1 (fun a => fieldAddrA Tryz.prog 100 a 1) t7) fun x3 =>
 CM.rm (q1 (loadA Tryz.prog 9) x3 ) fun x4 =>
 CM.call 40 [x2, x4] fun x6 =>
 CM.pu (p1 (fun a => extractA a 0) x6) fun x8 =>
 CM.pu (p1 (fun a => extractA a 1) x6) fun _ =>
 CM.al (some (.cells [(.str []), (.int .i64 0), (.int .i64 0), (.int .u64 0)] false, pB)) fun x10 =>
 CM.st (fun m => stV m x10 x8 4) <|
 CM.rm (q1 (loadA Tryz.prog 100) t7 ) fun x14 =>
 CM.rm (q1 (loadA Tryz.prog 92) x10 ) fun x15 =>
 CM.st (fun m => stV m t4 x14 4) <|
 CM.memo fun m18 =>
 CM.chk (q1 (loadA Tryz.prog 92) x10 m18) x15 <|
 CM.st (fun m => stV m t5 x15 4) <|
 CM.resC Tryz.prog [ResultVar.cell 0 100, ResultVar.cell 1 92, ResultVar.tmp 2] [t4, t5, (.int .i64 0)]
theorem g45_0_ok : EqD (Rl H) g45_0 (fun xs m => goR (EH H) Mk 184320 xs m) := sE fun _ => sE fun _ => sE fun _ => sE fun _ => zE fun _ => goR_eq 400 (by kernel_rfl)
noncomputable def f45 : List AV → CM := apS fun a0 => apS fun a1 => ap0 <|
 CM.al (some (.cells [(.int .u64 0), (.str []), (.int .i64 0), (.int .u64 0)] false, pB)) fun x0 =>
 CM.al (some (.cells [(.str []), (.int .i64 0), (.int .i64 0), (.int .u64 0)] false, pB)) fun x1 =>
 CM.pu (p1 nnA a0) fun x2 =>
 CM.pu (p1 (fun a => fieldAddrA Tryz.prog 88 a 3) x2) fun x3 =>
 CM.rm (q1 (loadA Tryz.prog 86) x3 ) fun x4 =>
 CM.call 89 [x4, a1] fun x5 =>
 CM.pu (p1 (fun a => extractA a 0) x5) fun x6 =>
 CM.pu (p1 (fun a => extractA a 1) x5) fun x7 =>
 CM.al (some (.cells [(.int .u64 0), (.str []), (.int .i64 0), (.int .u64 0)] false, pB)) fun x8 =>
 CM.st (fun m => stV m x8 x6 4) <|
 CM.pu (p1 (unA .not) x7) fun x10 =>
 CM.cond x10 (
 CM.rm (q1 (loadA Tryz.prog 100) x8 ) fun x11 =>
 CM.pu (p1 (buildA Tryz.prog 92) []) fun x12 =>
 CM.st (fun m => stV m x0 x11 4) <|
 CM.st (fun m => stV m x1 x12 4) <|
 CM.resC Tryz.prog [ResultVar.cell 0 100, ResultVar.cell 1 92, ResultVar.tmp 2] [x0, x1, (.int .i64 40)]) (
 CM.go 184320 [a0, x0, x1, x8])
theorem f45_ok (h : H 45 = none) : EqD (Rl H) f45 (fun xs m => run (EH H) (.fn 45) xs m) := sE fun _ => sE fun _ => zE fun _ => run_eq 400 h (by kernel_rfl) (by kernel_rfl)
end Go.Proofs.YtpoafkipnjfioaaGreat.T
