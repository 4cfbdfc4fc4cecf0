/- Functions as trees, printed by our own program (wip/tools/gen3.lean). -/
import Derived.Test.YtpoafkipnjfioaaGreatT0
namespace Go.Proofs.YtpoafkipnjfioaaGreat.T
open Go Go.Abs Go.Proofs.YtpoafkipnjfioaaGreat
set_option maxRecDepth 10000
variable {H : FuncId → Option (List AV → Mem → R)}
noncomputable def f2 : List AV → CM := ap0 <|
 CM.call 1 [] fun _ =>
 CM.ret .undef
theorem f2_ok (h : H 2 = none) : EqD (Rl H) f2 (fun xs m => run (EH H) (.fn 2) xs m) := zE fun _ => run_eq 400 h (by kernel_rfl) (by kernel_rfl)
noncomputable def g3_0 : List AV → CM := apS fun t5 => ap0 <|
 CM.call 8 [t5, (.str [69, 85, 82]), (.int .u64 2)] fun _ =>
 CM.call 9 [t5, (.str [69, 85, 82])] fun _ =>
 CM.call 11 [(.int .i64 1000), (.int .i64 2)] fun x2 =>
 CM.call 10 [t5, (.int .u64 1), x2] fun _ =>
 CM.call 11 [(.int .i64 15), (.int .i64 1)] fun x4 =>
 CM.call 10 [t5, (.int .u64 1), x4] fun x5 =>
 CM.call 11 [(.int .i64 1200), (.int .i64 2)] fun x6 =>
 CM.call 12 [t5, (.int .u64 1), x6] fun x7 =>
 CM.call 8 [t5, (.str [74, 80, 89]), (.int .u64 0)] fun _ =>
 CM.call 9 [t5, (.str [74, 80, 89])] fun _ =>
 CM.call 11 [(.int .i64 1615), (.int .i64 1)] fun x10 =>
 CM.call 13 [t5, (.str [69, 85, 82]), (.str [74, 80, 89]), x10] fun x11 =>
 CM.call 11 [(.int .i64 1), (.int .i64 2)] fun x12 =>
 CM.call 14 [t5, (.int .u64 1), (.int .u64 2), x12] fun x13 =>
 CM.pu (p1 (fun a => extractA a 0) x13) fun x14 =>
 CM.pu (p1 (fun a => extractA a 1) x13) fun x15 =>
 CM.al (some (.cells [(.int .i64 0), (.int .u64 0), (.int .i64 0)] false, pB)) fun x16 =>
 CM.st (fun m => stV m x16 x14 3) <|
 CM.call 15 [t5, (.int .u64 2)] fun x18 =>
 CM.pu (p1 (fun a => extractA a 0) x18) fun x19 =>
 CM.pu (p1 (fun a => extractA a 1) x18) fun _ =>
 CM.al (some (.cells [(.int .i64 0), (.int .u64 0), (.int .i64 0)] false, pB)) fun x21 =>
 CM.st (fun m => stV m x21 x19 3) <|
 CM.call 16 [t5, (.str [69, 85, 82]), (.str [74, 80, 89])] fun x23 =>
 CM.pu (p1 (fun a => extractA a 0) x23) fun x24 =>
 CM.pu (p1 (fun a => extractA a 1) x23) fun _ =>
 CM.al (some (.cells [(.int .i64 0), (.int .u64 0), (.int .i64 0)] false, pB)) fun x26 =>
 CM.st (fun m => stV m x26 x24 3) <|
 CM.pu (p2 (binA Tryz.prog .eql 23) x5 (.int .i64 21)) fun x28 =>
 CM.ifv x28 (
 CM.pu (p2 (binA Tryz.prog .eql 23) x7 (.int .i64 42)) fun x29 =>
 CM.ifv x29 (
 CM.pu (p2 (binA Tryz.prog .eql 23) x11 (.int .i64 0)) fun x30 =>
 CM.ifv x30 (
 CM.pu (p2 (binA Tryz.prog .eql 23) x15 (.int .i64 0)) fun x31 =>
 CM.ifv x31 (
 CM.rm (q1 (loadA Tryz.prog 35) x16 ) fun x32 =>
 CM.call 11 [(.int .i64 2), (.int .i64 0)] fun x34 =>
 CM.memo fun m35 =>
 CM.chk (q1 (loadA Tryz.prog 35) x16 m35) x32 <|
 CM.pu (p2 (binA Tryz.prog .eql 35) x32 x34) fun x36 =>
 CM.ifv x36 (
 CM.rm (q1 (loadA Tryz.prog 35) x21 ) fun x37 =>
 CM.call 11 [(.int .i64 2), (.int .i64 0)] fun x39 =>
 CM.memo fun m40 =>
 CM.chk (q1 (loadA Tryz.prog 35) x21 m40) x37 <|
 CM.pu (p2 (binA Tryz.prog .eql 35) x37 x39) fun x41 =>
 CM.ifv x41 (
 CM.rm (q1 (loadA Tryz.prog 35) x26 ) fun x42 =>
 CM.call 11 [(.int .i64 1), (.int .i64 2)] fun x44 =>
 CM.memo fun m45 =>
 CM.chk (q1 (loadA Tryz.prog 35) x26 m45) x42 <|
 CM.pu (p2 (binA Tryz.prog .eql 35) x42 x44) fun x46 =>
 CM.ifv x46 (
 CM.call 11 [(.int .i64 1), (.int .i64 2)] fun x48 =>
 CM.call 17 [t5, (.int .u64 1), (.int .u64 1), x48] fun x51 =>
 CM.pu (p2 (binA Tryz.prog .eql 23) x51 (.int .i64 45)) fun x53 =>
 CM.ifv x53 (
 CM.call 11 [(.int .i64 1), (.int .i64 2)] fun x55 =>
 CM.call 17 [t5, (.int .u64 1), (.int .u64 2), x55] fun x58 =>
 CM.pu (p2 (binA Tryz.prog .eql 23) x58 (.int .i64 41)) fun x60 =>
 CM.ifv x60 (
 CM.call 19 [t5] fun x62 =>
 CM.call 18 [x62, (.int .i64 4)] fun x65 =>
 CM.ret x65) (
 CM.ret (.bool false))) (
 CM.ret (.bool false))) (
 CM.ret (.bool false))) (
 CM.ret (.bool false))) (
 CM.ret (.bool false))) (
 CM.ret (.bool false))) (
 CM.ret (.bool false))) (
 CM.ret (.bool false))) (
 CM.ret (.bool false))
theorem g3_0_ok : EqD (Rl H) g3_0 (fun xs m => goR (EH H) Mk 12288 xs m) := sE fun _ => zE fun _ => goR_eq 400 (by kernel_rfl)
noncomputable def f3 : List AV → CM := ap0 <|
 CM.call 6 [(.int .i64 0)] fun x0 =>
 CM.pu (p1 (fun a => extractA a 0) x0) fun _ =>
 CM.pu (p1 (fun a => extractA a 1) x0) fun x2 =>
 CM.call 6 [(.int .i64 65)] fun x3 =>
 CM.pu (p1 (fun a => extractA a 0) x3) fun _ =>
 CM.pu (p1 (fun a => extractA a 1) x3) fun x5 =>
 CM.call 6 [(.int .i64 4)] fun x6 =>
 CM.pu (p1 (fun a => extractA a 0) x6) fun x7 =>
 CM.pu (p1 (fun a => extractA a 1) x6) fun x8 =>
 CM.call 7 [] fun x9 =>
 CM.pu (p1 (unA .not) x9) fun x10 =>
 CM.ifv x10 (
 CM.ret (.bool false)) (
 CM.pu (p2 (binA Tryz.prog .neq 23) x2 (.int .i64 1)) fun x11 =>
 CM.ifv x11 (
 CM.ret (.bool false)) (
 CM.pu (p2 (binA Tryz.prog .neq 23) x5 (.int .i64 1)) fun x12 =>
 CM.ifv x12 (
 CM.ret (.bool false)) (
 CM.pu (p2 (binA Tryz.prog .neq 23) x8 (.int .i64 0)) fun x13 =>
 CM.ifv x13 (
 CM.ret (.bool false)) (
 CM.pu (p2 (binA Tryz.prog .eql 22) x7 (.ptr none)) fun x14 =>
 CM.cond x14 (
 CM.ret (.bool false)) (
 CM.go 12288 [x7])))))
theorem f3_ok (h : H 3 = none) : EqD (Rl H) f3 (fun xs m => run (EH H) (.fn 3) xs m) := zE fun _ => run_eq 400 h (by kernel_rfl) (by kernel_rfl)
noncomputable def g4_0 : List AV → CM := apS fun t3 => ap0 <|
 CM.pu (p1 (buildA Tryz.prog 62) [(1, (.int .u64 1)), (2, (.int .u64 9))]) fun x0 =>
 CM.call 23 [t3, x0] fun x1 =>
 CM.pu (p1 (fun a => extractA a 0) x1) fun x2 =>
 CM.pu (p1 (fun a => extractA a 1) x1) fun x3 =>
 CM.al (some (.cells [(.int .i64 0), (.int .u64 0), (.int .i64 0), (.int .u64 0), (.int .i64 0)] false, pB)) fun x4 =>
 CM.st (fun m => stV m x4 x2 5) <|
 CM.pu (p1 (buildA Tryz.prog 65) [(0, (.int .i64 1)), (1, (.int .u64 5))]) fun x6 =>
 CM.call 24 [(.int .u64 1), x6] fun x7 =>
 CM.call 23 [t3, x7] fun _ =>
 CM.pu (p1 (buildA Tryz.prog 65) [(0, (.int .i64 3)), (1, (.int .u64 5)), (2, (.int .u64 4)), (6, (.str [69, 85, 82]))]) fun x9 =>
 CM.call 24 [(.int .u64 2), x9] fun x10 =>
 CM.call 23 [t3, x10] fun x11 =>
 CM.pu (p1 (fun a => extractA a 0) x11) fun x12 =>
 CM.pu (p1 (fun a => extractA a 1) x11) fun x13 =>
 CM.al (some (.cells [(.int .i64 0), (.int .u64 0), (.int .i64 0), (.int .u64 0), (.int .i64 0)] false, pB)) fun x14 =>
 CM.st (fun m => stV m x14 x12 5) <|
 CM.pu (p1 (buildA Tryz.prog 65) [(0, (.int .i64 3)), (1, (.int .u64 6)), (2, (.int .u64 1)), (6, (.str [69, 85, 82]))]) fun x16 =>
 CM.call 24 [(.int .u64 3), x16] fun x17 =>
 CM.call 23 [t3, x17] fun x18 =>
 CM.pu (p1 (fun a => extractA a 0) x18) fun x19 =>
 CM.pu (p1 (fun a => extractA a 1) x18) fun x20 =>
 CM.al (some (.cells [(.int .i64 0), (.int .u64 0), (.int .i64 0), (.int .u64 0), (.int .i64 0)] false, pB)) fun x21 =>
 CM.st (fun m => stV m x21 x19 5) <|
 CM.al (bsA 1 2 [(.int .u8 0)] [(0, (.int .u8 1)), (1, (.int .u8 0))]) fun x23 =>
 CM.pu (p1 (buildA Tryz.prog 62) [(0, (.int .i64 1)), (1, (.int .u64 1)), (2, (.int .u64 4)), (3, x23)]) fun x24 =>
 CM.call 23 [t3, x24] fun x25 =>
 CM.pu (p1 (fun a => extractA a 0) x25) fun x26 =>
 CM.pu (p1 (fun a => extractA a 1) x25) fun x27 =>
 CM.al (some (.cells [(.int .i64 0), (.int .u64 0), (.int .i64 0), (.int .u64 0), (.int .i64 0)] false, pB)) fun x28 =>
 CM.st (fun m => stV m x28 x26 5) <|
 CM.pu (p1 (unA .not) x3) fun x30 =>
 CM.ifv x30 (
 CM.ifv x13 (
 CM.pu (p1 (fun a => fieldAddrA Tryz.prog 57 a 0) x14) fun x31 =>
 CM.rm (q1 (loadA Tryz.prog 23) x31 ) fun x32 =>
 CM.pu (p2 (binA Tryz.prog .eql 23) x32 (.int .i64 52)) fun x33 =>
 CM.ifv x33 (
 CM.ifv x20 (
 CM.pu (p1 (fun a => fieldAddrA Tryz.prog 57 a 0) x21) fun x34 =>
 CM.rm (q1 (loadA Tryz.prog 23) x34 ) fun x35 =>
 CM.pu (p2 (binA Tryz.prog .eql 23) x35 (.int .i64 50)) fun x36 =>
 CM.ifv x36 (
 CM.ifv x27 (
 CM.pu (p1 (fun a => fieldAddrA Tryz.prog 57 a 0) x28) fun x37 =>
 CM.rm (q1 (loadA Tryz.prog 23) x37 ) fun x38 =>
 CM.pu (p2 (binA Tryz.prog .eql 23) x38 (.int .i64 11)) fun x39 =>
 CM.ifv x39 (
 CM.al (bsA 1 1 [(.int .u8 0)] [(0, (.int .u8 1))]) fun x40 =>
 CM.call 25 [t3, (.int .u64 7), x40] fun x41 =>
 CM.pu (p2 (binA Tryz.prog .eql 23) x41 (.int .i64 1)) fun x42 =>
 CM.ifv x42 (
 CM.call 26 [t3] fun x43 =>
 CM.pu (p1 (lenT Tryz.prog 67) x43) fun x44 =>
 CM.pu (p2 (binA Tryz.prog .eql 3) x44 (.int .i64 1)) fun x45 =>
 CM.ret x45) (
 CM.ret (.bool false))) (
 CM.ret (.bool false))) (
 CM.ret (.bool false))) (
 CM.ret (.bool false))) (
 CM.ret (.bool false))) (
 CM.ret (.bool false))) (
 CM.ret (.bool false))) (
 CM.ret (.bool false))
theorem g4_0_ok : EqD (Rl H) g4_0 (fun xs m => goR (EH H) Mk 16384 xs m) := sE fun _ => zE fun _ => goR_eq 400 (by kernel_rfl)
noncomputable def f4 : List AV → CM := ap0 <|
 CM.pu (p1 (buildA Tryz.prog 54) []) fun x0 =>
 CM.call 20 [x0] fun x1 =>
 CM.pu (p1 (fun a => extractA a 0) x1) fun _ =>
 CM.pu (p1 (fun a => extractA a 1) x1) fun x3 =>
 CM.call 21 [] fun x4 =>
 CM.call 20 [x4] fun x5 =>
 CM.pu (p1 (fun a => extractA a 0) x5) fun x6 =>
 CM.pu (p1 (fun a => extractA a 1) x5) fun x7 =>
 CM.call 22 [] fun x8 =>
 CM.pu (p1 (unA .not) x8) fun x9 =>
 CM.ifv x9 (
 CM.ret (.bool false)) (
 CM.pu (p2 (binA Tryz.prog .neq 23) x3 (.int .i64 1)) fun x10 =>
 CM.ifv x10 (
 CM.ret (.bool false)) (
 CM.pu (p2 (binA Tryz.prog .neq 23) x7 (.int .i64 0)) fun x11 =>
 CM.ifv x11 (
 CM.ret (.bool false)) (
 CM.pu (p2 (binA Tryz.prog .eql 50) x6 (.ptr none)) fun x12 =>
 CM.cond x12 (
 CM.ret (.bool false)) (
 CM.go 16384 [x6]))))
theorem f4_ok (h : H 4 = none) : EqD (Rl H) f4 (fun xs m => run (EH H) (.fn 4) xs m) := zE fun _ => run_eq 400 h (by kernel_rfl) (by kernel_rfl)
noncomputable def g5_0 : List AV → CM := apS fun t3 => ap0 <|
 CM.pu (p1 (buildA Tryz.prog 65) [(0, (.int .i64 1)), (1, (.int .u64 5))]) fun x0 =>
 CM.call 30 [x0] fun x1 =>
 CM.call 31 [t3, x1] fun _ =>
 CM.pu (p1 (buildA Tryz.prog 62) [(0, (.int .i64 1)), (1, (.int .u64 2)), (2, (.int .u64 2)), (3, x1)]) fun x3 =>
 CM.call 32 [t3, x3] fun x4 =>
 CM.call 33 [t3, (.int .u64 2)] fun x5 =>
 CM.pu (p1 (fun a => extractA a 0) x5) fun x6 =>
 CM.pu (p1 (fun a => extractA a 1) x5) fun x7 =>
 CM.al (some (.cells [(.int .i64 0), (.int .u64 0), (.int .i64 0), (.int .u64 0), (.int .i64 0)] false, pB)) fun x8 =>
 CM.st (fun m => stV m x8 x6 5) <|
 CM.rm (q1 (loadA Tryz.prog 57) x8 ) fun x10 =>
 CM.pu (p1 (buildA Tryz.prog 80) [(1, (.int .u64 5)), (5, x10), (6, (.int .u64 2))]) fun x11 =>
 CM.al (some (.cells [(.int .i64 0), (.int .u64 0), (.int .u64 0), (.int .i64 0), (.int .i64 0), (.int .i64 0), (.int .u64 0), (.int .i64 0), (.int .u64 0), (.int .i64 0), (.int .u64 0)] false, pB)) fun x12 =>
 CM.st (fun m => stV m x12 x11 11) <|
 CM.rm (q1 (loadA Tryz.prog 80) x12 ) fun x14 =>
 CM.call 34 [t3, x14] fun x15 =>
 CM.pu (p1 (fun a => fieldAddrA Tryz.prog 80 a 1) x12) fun x16 =>
 CM.st (fun m => stV m x16 (.int .u64 6) 1) <|
 CM.rm (q1 (loadA Tryz.prog 80) x12 ) fun x18 =>
 CM.call 34 [t3, x18] fun x19 =>
 CM.pu (p1 (fun a => fieldAddrA Tryz.prog 80 a 3) x12) fun x20 =>
 CM.st (fun m => stV m x20 (.int .i64 31) 1) <|
 CM.call 35 [t3, (.int .u64 1)] fun x22 =>
 CM.pu (p1 (fun a => extractA a 0) x22) fun _ =>
 CM.pu (p1 (fun a => extractA a 1) x22) fun x24 =>
 CM.call 35 [t3, (.int .u64 3)] fun x25 =>
 CM.pu (p1 (fun a => extractA a 0) x25) fun _ =>
 CM.pu (p1 (fun a => extractA a 1) x25) fun x27 =>
 CM.ifv x4 (
 CM.ifv x7 (
 CM.pu (p1 (fun a => fieldAddrA Tryz.prog 57 a 1) x8) fun x28 =>
 CM.rm (q1 (loadA Tryz.prog 28) x28 ) fun x29 =>
 CM.pu (p2 (binA Tryz.prog .eql 28) x29 (.int .u64 5)) fun x30 =>
 CM.ifv x30 (
 CM.ifv x15 (
 CM.pu (p1 (unA .not) x19) fun x31 =>
 CM.ifv x31 (
 CM.rm (q1 (loadA Tryz.prog 80) x12 ) fun x32 =>
 CM.call 34 [t3, x32] fun x33 =>
 CM.ifv x33 (
 CM.ifv x24 (
 CM.pu (p1 (unA .not) x27) fun x34 =>
 CM.ret x34) (
 CM.ret (.bool false))) (
 CM.ret (.bool false))) (
 CM.ret (.bool false))) (
 CM.ret (.bool false))) (
 CM.ret (.bool false))) (
 CM.ret (.bool false))) (
 CM.ret (.bool false))
theorem g5_0_ok : EqD (Rl H) g5_0 (fun xs m => goR (EH H) Mk 20480 xs m) := sE fun _ => zE fun _ => goR_eq 400 (by kernel_rfl)
noncomputable def f5 : List AV → CM := ap0 <|
 CM.pu (p1 (buildA Tryz.prog 54) []) fun x0 =>
 CM.call 27 [x0] fun x1 =>
 CM.pu (p1 (fun a => extractA a 0) x1) fun _ =>
 CM.pu (p1 (fun a => extractA a 1) x1) fun x3 =>
 CM.pu (p1 (buildA Tryz.prog 74) []) fun x4 =>
 CM.call 28 [x4] fun x5 =>
 CM.call 27 [x5] fun x6 =>
 CM.pu (p1 (fun a => extractA a 0) x6) fun x7 =>
 CM.pu (p1 (fun a => extractA a 1) x6) fun x8 =>
 CM.call 29 [] fun x9 =>
 CM.pu (p1 (unA .not) x9) fun x10 =>
 CM.ifv x10 (
 CM.ret (.bool false)) (
 CM.pu (p2 (binA Tryz.prog .neq 23) x3 (.int .i64 1)) fun x11 =>
 CM.ifv x11 (
 CM.ret (.bool false)) (
 CM.pu (p2 (binA Tryz.prog .neq 23) x8 (.int .i64 0)) fun x12 =>
 CM.ifv x12 (
 CM.ret (.bool false)) (
 CM.pu (p2 (binA Tryz.prog .eql 69) x7 (.ptr none)) fun x13 =>
 CM.cond x13 (
 CM.ret (.bool false)) (
 CM.go 20480 [x7]))))
theorem f5_ok (h : H 5 = none) : EqD (Rl H) f5 (fun xs m => run (EH H) (.fn 5) xs m) := zE fun _ => run_eq 400 h (by kernel_rfl) (by kernel_rfl)
noncomputable def g6_0 : List AV → CM := apS fun t0 => ap0 <|
 CM.pu (p1 (buildA Tryz.prog 88) [(0, t0)]) fun x0 =>
 CM.al (boxA x0) fun x1 =>
 CM.call 36 [(.int .i64 8)] fun x2 =>
 CM.pu (p1 (fun a => extractA a 0) x2) fun x3 =>
 CM.pu (p1 (fun a => extractA a 1) x2) fun _ =>
 CM.pu (p1 nnA x1) fun x5 =>
 CM.pu (p1 (fun a => fieldAddrA Tryz.prog 88 a 1) x5) fun x6 =>
 CM.st (fun m => stV m x6 x3 1) <|
 CM.call 37 [(.int .i64 64)] fun x8 =>
 CM.pu (p1 (fun a => extractA a 0) x8) fun x9 =>
 CM.pu (p1 (fun a => extractA a 1) x8) fun _ =>
 CM.pu (p1 nnA x1) fun x11 =>
 CM.pu (p1 (fun a => fieldAddrA Tryz.prog 88 a 2) x11) fun x12 =>
 CM.st (fun m => stV m x12 x9 1) <|
 CM.call 38 [t0] fun x14 =>
 CM.pu (p1 (fun a => extractA a 0) x14) fun x15 =>
 CM.pu (p1 (fun a => extractA a 1) x14) fun _ =>
 CM.pu (p1 nnA x1) fun x17 =>
 CM.pu (p1 (fun a => fieldAddrA Tryz.prog 88 a 3) x17) fun x18 =>
 CM.st (fun m => stV m x18 x15 1) <|
 CM.ret (.tup [x1, (.int .i64 0)])
theorem g6_0_ok : EqD (Rl H) g6_0 (fun xs m => goR (EH H) Mk 24576 xs m) := sE fun _ => zE fun _ => goR_eq 400 (by kernel_rfl)
noncomputable def f6 : List AV → CM := apS fun a0 => ap0 <|
 CM.pu (p2 (binA Tryz.prog .lss 3) a0 (.int .i64 1)) fun x0 =>
 CM.ifv x0 (
 CM.ret (.tup [(.ptr none), (.int .i64 1)])) (
 CM.pu (p2 (binA Tryz.prog .gtr 3) a0 (.int .i64 64)) fun x1 =>
 CM.cond x1 (
 CM.ret (.tup [(.ptr none), (.int .i64 1)])) (
 CM.go 24576 [a0]))
theorem f6_ok (h : H 6 = none) : EqD (Rl H) f6 (fun xs m => run (EH H) (.fn 6) xs m) := sE fun _ => zE fun _ => run_eq 400 h (by kernel_rfl) (by kernel_rfl)
noncomputable def g7_0 : List AV → CM := apS fun t1 => ap0 <|
 CM.call 8 [t1, (.str [69, 85, 82]), (.int .u64 2)] fun x0 =>
 CM.call 8 [t1, (.str [69, 85, 82]), (.int .u64 2)] fun x1 =>
 CM.call 9 [t1, (.str [69, 85, 82])] fun x2 =>
 CM.pu (p1 (fun a => extractA a 0) x2) fun x3 =>
 CM.pu (p1 (fun a => extractA a 1) x2) fun x4 =>
 CM.call 9 [t1, (.str [85, 83, 68])] fun x5 =>
 CM.pu (p1 (fun a => extractA a 0) x5) fun _ =>
 CM.pu (p1 (fun a => extractA a 1) x5) fun x7 =>
 CM.call 11 [(.int .i64 1000), (.int .i64 2)] fun x8 =>
 CM.call 10 [t1, (.int .u64 1), x8] fun x9 =>
 CM.call 39 [t1, (.str [69, 85, 82])] fun x10 =>
 CM.pu (p1 (fun a => extractA a 0) x10) fun x11 =>
 CM.pu (p1 (fun a => extractA a 1) x10) fun x12 =>
 CM.al (some (.cells [(.int .i64 0), (.int .u64 0), (.int .i64 0)] false, pB)) fun x13 =>
 CM.st (fun m => stV m x13 x11 3) <|
 CM.pu (p2 (binA Tryz.prog .eql 23) x0 (.int .i64 0)) fun x15 =>
 CM.ifv x15 (
 CM.pu (p2 (binA Tryz.prog .eql 23) x1 (.int .i64 45)) fun x16 =>
 CM.ifv x16 (
 CM.pu (p2 (binA Tryz.prog .eql 28) x3 (.int .u64 1)) fun x17 =>
 CM.ifv x17 (
 CM.pu (p2 (binA Tryz.prog .eql 23) x4 (.int .i64 0)) fun x18 =>
 CM.ifv x18 (
 CM.pu (p2 (binA Tryz.prog .eql 23) x7 (.int .i64 41)) fun x19 =>
 CM.ifv x19 (
 CM.pu (p2 (binA Tryz.prog .eql 23) x9 (.int .i64 0)) fun x20 =>
 CM.ifv x20 (
 CM.pu (p2 (binA Tryz.prog .eql 23) x12 (.int .i64 0)) fun x21 =>
 CM.ifv x21 (
 CM.rm (q1 (loadA Tryz.prog 35) x13 ) fun x22 =>
 CM.call 11 [(.int .i64 (-1000)), (.int .i64 2)] fun x24 =>
 CM.memo fun m25 =>
 CM.chk (q1 (loadA Tryz.prog 35) x13 m25) x22 <|
 CM.pu (p2 (binA Tryz.prog .eql 35) x22 x24) fun x26 =>
 CM.ret x26) (
 CM.ret (.bool false))) (
 CM.ret (.bool false))) (
 CM.ret (.bool false))) (
 CM.ret (.bool false))) (
 CM.ret (.bool false))) (
 CM.ret (.bool false))) (
 CM.ret (.bool false))
theorem g7_0_ok : EqD (Rl H) g7_0 (fun xs m => goR (EH H) Mk 28672 xs m) := sE fun _ => zE fun _ => goR_eq 400 (by kernel_rfl)
noncomputable def f7 : List AV → CM := ap0 <|
 CM.call 6 [(.int .i64 4)] fun x0 =>
 CM.pu (p1 (fun a => extractA a 0) x0) fun x1 =>
 CM.pu (p1 (fun a => extractA a 1) x0) fun x2 =>
 CM.pu (p2 (binA Tryz.prog .neq 23) x2 (.int .i64 0)) fun x3 =>
 CM.ifv x3 (
 CM.ret (.bool false)) (
 CM.pu (p2 (binA Tryz.prog .eql 22) x1 (.ptr none)) fun x4 =>
 CM.cond x4 (
 CM.ret (.bool false)) (
 CM.go 28672 [x1]))
theorem f7_ok (h : H 7 = none) : EqD (Rl H) f7 (fun xs m => run (EH H) (.fn 7) xs m) := zE fun _ => run_eq 400 h (by kernel_rfl) (by kernel_rfl)
noncomputable def g8_0 : List AV → CM := ap0 <|
 CM.ret (.int .i64 0)
theorem g8_0_ok : EqD (Rl H) g8_0 (fun xs m => goR (EH H) Mk 32768 xs m) := zE fun _ => goR_eq 400 (by kernel_rfl)
noncomputable def f8 : List AV → CM := apS fun a0 => apS fun a1 => apS fun a2 => ap0 <|
 CM.pu (p1 nnA a0) fun x0 =>
 CM.pu (p1 (fun a => fieldAddrA Tryz.prog 88 a 1) x0) fun x1 =>
 CM.rm (q1 (loadA Tryz.prog 84) x1 ) fun x2 =>
 CM.call 40 [x2, a1] fun x3 =>
 CM.pu (p1 (fun a => extractA a 0) x3) fun x4 =>
 CM.pu (p1 (fun a => extractA a 1) x3) fun x5 =>
 CM.al (some (.cells [(.str []), (.int .i64 0), (.int .i64 0), (.int .u64 0)] false, pB)) fun x6 =>
 CM.st (fun m => stV m x6 x4 4) <|
 CM.call 41 [a1] fun x8 =>
 CM.pu (p1 (unA .not) x8) fun x9 =>
 CM.cond x9 (
 CM.ret (.int .i64 41)) (
 CM.pu (p2 (binA Tryz.prog .gtr 28) a2 (.int .u64 18)) fun x10 =>
 CM.cond x10 (
 CM.ret (.int .i64 21)) (
 CM.cond x5 (
 CM.ret (.int .i64 45)) (
 CM.pu (p1 nnA a0) fun x11 =>
 CM.pu (p1 (fun a => fieldAddrA Tryz.prog 88 a 1) x11) fun x12 =>
 CM.rm (q1 (loadA Tryz.prog 84) x12 ) fun x13 =>
 CM.pu (p1 (convA Tryz.prog 28 3) a2) fun x14 =>
 CM.pu (p1 (buildA Tryz.prog 92) [(0, a1), (1, x14)]) fun x15 =>
 CM.call 42 [x13, a1, x15] fun x16 =>
 CM.pu (p1 (unA .not) x16) fun x17 =>
 CM.cond x17 (
 CM.ret (.int .i64 2)) (
 CM.go 32768 []))))
theorem f8_ok (h : H 8 = none) : EqD (Rl H) f8 (fun xs m => run (EH H) (.fn 8) xs m) := sE fun _ => sE fun _ => sE fun _ => zE fun _ => run_eq 400 h (by kernel_rfl) (by kernel_rfl)
noncomputable def g9_0 : List AV → CM := apS fun t0 => apS fun t1 => ap0 <|
 CM.pu (p1 nnA t0) fun x0 =>
 CM.pu (p1 (fun a => fieldAddrA Tryz.prog 88 a 3) x0) fun x1 =>
 CM.rm (q1 (loadA Tryz.prog 86) x1 ) fun x2 =>
 CM.memo fun m3 =>
 CM.call 43 [x2] fun x4 =>
 CM.pu (p1 nnA t0) fun x6 =>
 CM.pu (p1 (fun a => fieldAddrA Tryz.prog 88 a 0) x6) fun x7 =>
 CM.rm (q1 (loadA Tryz.prog 3) x7 ) fun x8 =>
 CM.chk (q1 (loadA Tryz.prog 3) x7 m3) x8 <|
 CM.pu (p2 (binA Tryz.prog .geq 3) x4 x8) fun x9 =>
 CM.ifv x9 (
 CM.ret (.tup [(.int .u64 0), (.int .i64 2)])) (
 CM.pu (p1 nnA t0) fun x10 =>
 CM.pu (p1 (fun a => fieldAddrA Tryz.prog 88 a 4) x10) fun x11 =>
 CM.rm (q1 (loadA Tryz.prog 28) x11 ) fun x12 =>
 CM.pu (p2 (binA Tryz.prog .geq 28) x12 (.int .u64 72057594037927935)) fun x13 =>
 CM.cond x13 (
 CM.ret (.tup [(.int .u64 0), (.int .i64 2)])) (
 CM.go 36865 [t0, t1]))
theorem g9_0_ok : EqD (Rl H) g9_0 (fun xs m => goR (EH H) Mk 36864 xs m) := sE fun _ => sE fun _ => zE fun _ => goR_eq 400 (by kernel_rfl)
noncomputable def g9_1 : List AV → CM := apS fun t0 => apS fun t1 => ap0 <|
 CM.pu (p1 nnA t0) fun x0 =>
 CM.pu (p1 (fun a => fieldAddrA Tryz.prog 88 a 4) x0) fun x1 =>
 CM.rm (q1 (loadA Tryz.prog 28) x1 ) fun x2 =>
 CM.pu (p2 (binA Tryz.prog .add 28) x2 (.int .u64 1)) fun x3 =>
 CM.pu (p1 nnA t0) fun x4 =>
 CM.pu (p1 (fun a => fieldAddrA Tryz.prog 88 a 4) x4) fun x5 =>
 CM.st (fun m => stV m x5 x3 1) <|
 CM.pu (p1 nnA t0) fun x7 =>
 CM.pu (p1 (fun a => fieldAddrA Tryz.prog 88 a 3) x7) fun x8 =>
 CM.rm (q1 (loadA Tryz.prog 86) x8 ) fun x9 =>
 CM.pu (p1 nnA t0) fun x10 =>
 CM.pu (p1 (fun a => fieldAddrA Tryz.prog 88 a 4) x10) fun x11 =>
 CM.rm (q1 (loadA Tryz.prog 28) x11 ) fun x12 =>
 CM.pu (p1 nnA t0) fun x13 =>
 CM.pu (p1 (fun a => fieldAddrA Tryz.prog 88 a 4) x13) fun x14 =>
 CM.rm (q1 (loadA Tryz.prog 28) x14 ) fun x15 =>
 CM.pu (p1 (buildA Tryz.prog 100) [(0, x15), (1, t1)]) fun x16 =>
 CM.call 44 [x9, x12, x16] fun _ =>
 CM.pu (p1 nnA t0) fun x20 =>
 CM.pu (p1 (fun a => fieldAddrA Tryz.prog 88 a 4) x20) fun x21 =>
 CM.rm (q1 (loadA Tryz.prog 28) x21 ) fun x22 =>
 CM.ret (.tup [x22, (.int .i64 0)])
theorem g9_1_ok : EqD (Rl H) g9_1 (fun xs m => goR (EH H) Mk 36865 xs m) := sE fun _ => sE fun _ => zE fun _ => goR_eq 400 (by kernel_rfl)
noncomputable def f9 : List AV → CM := apS fun a0 => apS fun a1 => ap0 <|
 CM.pu (p1 nnA a0) fun x0 =>
 CM.pu (p1 (fun a => fieldAddrA Tryz.prog 88 a 1) x0) fun x1 =>
 CM.rm (q1 (loadA Tryz.prog 84) x1 ) fun x2 =>
 CM.call 40 [x2, a1] fun x3 =>
 CM.pu (p1 (fun a => extractA a 0) x3) fun x4 =>
 CM.pu (p1 (fun a => extractA a 1) x3) fun x5 =>
 CM.al (some (.cells [(.str []), (.int .i64 0), (.int .i64 0), (.int .u64 0)] false, pB)) fun x6 =>
 CM.st (fun m => stV m x6 x4 4) <|
 CM.pu (p1 (unA .not) x5) fun x8 =>
 CM.cond x8 (
 CM.ret (.tup [(.int .u64 0), (.int .i64 41)])) (
 CM.go 36864 [a0, a1])
theorem f9_ok (h : H 9 = none) : EqD (Rl H) f9 (fun xs m => run (EH H) (.fn 9) xs m) := sE fun _ => sE fun _ => zE fun _ => run_eq 400 h (by kernel_rfl) (by kernel_rfl)
noncomputable def g10_0 : List AV → CM := apS fun t0 => apS fun t5 => apS fun t7 => apS fun t8 => apS fun t9 => ap0 <|
 CM.pu (p2 (binA Tryz.prog .eql 23) t9 (.int .i64 0)) fun x0 =>
 CM.cond x0 (
 CM.pu (p1 (fun a => fieldAddrA Tryz.prog 92 a 2) t8) fun x1 =>
 CM.pu (p1 (fun a => fieldAddrA Tryz.prog 100 a 2) t7) fun x2 =>
 CM.pu (p1 (fun a => fieldAddrA Tryz.prog 35 a 0) t5) fun x3 =>
 CM.rm (q1 (loadA Tryz.prog 33) x3 ) fun x4 =>
 CM.call 47 [x1, x2, x4] fun x5 =>
 CM.go 40961 [t0, t7, t8, x5]) (
 CM.go 40961 [t0, t7, t8, t9])
theorem g10_0_ok : EqD (Rl H) g10_0 (fun xs m => goR (EH H) Mk 40960 xs m) := sE fun _ => sE fun _ => sE fun _ => sE fun _ => sE fun _ => zE fun _ => goR_eq 400 (by kernel_rfl)
noncomputable def g10_1 : List AV → CM := apS fun t0 => apS fun t7 => apS fun t8 => apS fun t9 => ap0 <|
 CM.pu (p2 (binA Tryz.prog .eql 23) t9 (.int .i64 0)) fun x0 =>
 CM.cond x0 (
 CM.rm (q1 (loadA Tryz.prog 100) t7 ) fun x1 =>
 CM.call 48 [t0, x1] fun _ =>
 CM.pu (p1 nnA t0) fun x3 =>
 CM.pu (p1 (fun a => fieldAddrA Tryz.prog 88 a 1) x3) fun x4 =>
 CM.rm (q1 (loadA Tryz.prog 84) x4 ) fun x5 =>
 CM.pu (p1 (fun a => fieldAddrA Tryz.prog 92 a 0) t8) fun x6 =>
 CM.rm (q1 (loadA Tryz.prog 9) x6 ) fun x7 =>
 CM.rm (q1 (loadA Tryz.prog 92) t8 ) fun x8 =>
 CM.call 42 [x5, x7, x8] fun _ =>
 CM.go 40962 [t9]) (
 CM.go 40962 [t9])
theorem g10_1_ok : EqD (Rl H) g10_1 (fun xs m => goR (EH H) Mk 40961 xs m) := sE fun _ => sE fun _ => sE fun _ => sE fun _ => zE fun _ => goR_eq 400 (by kernel_rfl)
noncomputable def g10_2 : List AV → CM := apS fun t9 => ap0 <|
 CM.ret t9
theorem g10_2_ok : EqD (Rl H) g10_2 (fun xs m => goR (EH H) Mk 40962 xs m) := sE fun _ => zE fun _ => goR_eq 400 (by kernel_rfl)
noncomputable def f10 : List AV → CM := apS fun a0 => apS fun a1 => apS fun a2 => ap0 <|
 CM.al (boxA a2) fun x0 =>
 CM.call 45 [a0, a1] fun x1 =>
 CM.pu (p1 (fun a => extractA a 0) x1) fun x2 =>
 CM.pu (p1 (fun a => extractA a 1) x1) fun x3 =>
 CM.pu (p1 (fun a => extractA a 2) x1) fun x4 =>
 CM.al (some (.cells [(.int .u64 0), (.str []), (.int .i64 0), (.int .u64 0)] false, pB)) fun x5 =>
 CM.al (some (.cells [(.str []), (.int .i64 0), (.int .i64 0), (.int .u64 0)] false, pB)) fun x6 =>
 CM.st (fun m => stV m x5 x2 4) <|
 CM.st (fun m => stV m x6 x3 4) <|
 CM.pu (p2 (binA Tryz.prog .eql 23) x4 (.int .i64 0)) fun x9 =>
 CM.cond x9 (
 CM.rm (q1 (loadA Tryz.prog 92) x6 ) fun x10 =>
 CM.rm (q1 (loadA Tryz.prog 35) x0 ) fun x11 =>
 CM.call 46 [x10, x11] fun x12 =>
 CM.go 40960 [a0, x0, x5, x6, x12]) (
 CM.go 40960 [a0, x0, x5, x6, x4])
theorem f10_ok (h : H 10 = none) : EqD (Rl H) f10 (fun xs m => run (EH H) (.fn 10) xs m) := sE fun _ => sE fun _ => sE fun _ => zE fun _ => run_eq 400 h (by kernel_rfl) (by kernel_rfl)
noncomputable def f11 : List AV → CM := apS fun a0 => apS fun a1 => ap0 <|
 CM.al (some (.cells [(.int .i64 0), (.int .u64 0), (.int .i64 0)] false, pB)) fun x0 =>
 CM.call 49 [a0] fun x1 =>
 CM.pu (p1 (buildA Tryz.prog 35) [(0, x1), (1, a1)]) fun x2 =>
 CM.st (fun m => stV m x0 x2 3) <|
 CM.resC Tryz.prog [ResultVar.cell 0 35] [x0]
theorem f11_ok (h : H 11 = none) : EqD (Rl H) f11 (fun xs m => run (EH H) (.fn 11) xs m) := sE fun _ => sE fun _ => zE fun _ => run_eq 400 h (by kernel_rfl) (by kernel_rfl)
noncomputable def g12_0 : List AV → CM := apS fun t0 => apS fun t5 => apS fun t7 => apS fun t8 => apS fun t9 => ap0 <|
 CM.pu (p2 (binA Tryz.prog .eql 23) t9 (.int .i64 0)) fun x0 =>
 CM.ifv x0 (
 CM.rm (q1 (loadA Tryz.prog 100) t7 ) fun x1 =>
 CM.rm (q1 (loadA Tryz.prog 35) t5 ) fun x2 =>
 CM.call 50 [x1, x2] fun x3 =>
 CM.cond x3 (
 CM.go 49153 [t0, t5, t7, t8, (.int .i64 42)]) (
 CM.go 49153 [t0, t5, t7, t8, t9])) (
 CM.go 49153 [t0, t5, t7, t8, t9])
theorem g12_0_ok : EqD (Rl H) g12_0 (fun xs m => goR (EH H) Mk 49152 xs m) := sE fun _ => sE fun _ => sE fun _ => sE fun _ => sE fun _ => zE fun _ => goR_eq 400 (by kernel_rfl)
noncomputable def g12_1 : List AV → CM := apS fun t0 => apS fun t5 => apS fun t7 => apS fun t8 => apS fun t9 => ap0 <|
 CM.pu (p2 (binA Tryz.prog .eql 23) t9 (.int .i64 0)) fun x0 =>
 CM.cond x0 (
 CM.pu (p1 (fun a => fieldAddrA Tryz.prog 100 a 2) t7) fun x1 =>
 CM.pu (p1 (fun a => fieldAddrA Tryz.prog 92 a 2) t8) fun x2 =>
 CM.pu (p1 (fun a => fieldAddrA Tryz.prog 35 a 0) t5) fun x3 =>
 CM.rm (q1 (loadA Tryz.prog 33) x3 ) fun x4 =>
 CM.call 47 [x1, x2, x4] fun x5 =>
 CM.go 49154 [t0, t7, t8, x5]) (
 CM.go 49154 [t0, t7, t8, t9])
theorem g12_1_ok : EqD (Rl H) g12_1 (fun xs m => goR (EH H) Mk 49153 xs m) := sE fun _ => sE fun _ => sE fun _ => sE fun _ => sE fun _ => zE fun _ => goR_eq 400 (by kernel_rfl)
noncomputable def g12_2 : List AV → CM := apS fun t0 => apS fun t7 => apS fun t8 => apS fun t9 => ap0 <|
 CM.pu (p2 (binA Tryz.prog .eql 23) t9 (.int .i64 0)) fun x0 =>
 CM.cond x0 (
 CM.rm (q1 (loadA Tryz.prog 100) t7 ) fun x1 =>
 CM.call 48 [t0, x1] fun _ =>
 CM.pu (p1 nnA t0) fun x3 =>
 CM.pu (p1 (fun a => fieldAddrA Tryz.prog 88 a 1) x3) fun x4 =>
 CM.rm (q1 (loadA Tryz.prog 84) x4 ) fun x5 =>
 CM.pu (p1 (fun a => fieldAddrA Tryz.prog 92 a 0) t8) fun x6 =>
 CM.rm (q1 (loadA Tryz.prog 9) x6 ) fun x7 =>
 CM.rm (q1 (loadA Tryz.prog 92) t8 ) fun x8 =>
 CM.call 42 [x5, x7, x8] fun _ =>
 CM.go 49155 [t9]) (
 CM.go 49155 [t9])
theorem g12_2_ok : EqD (Rl H) g12_2 (fun xs m => goR (EH H) Mk 49154 xs m) := sE fun _ => sE fun _ => sE fun _ => sE fun _ => zE fun _ => goR_eq 400 (by kernel_rfl)
noncomputable def g12_3 : List AV → CM := apS fun t9 => ap0 <|
 CM.ret t9
theorem g12_3_ok : EqD (Rl H) g12_3 (fun xs m => goR (EH H) Mk 49155 xs m) := sE fun _ => zE fun _ => goR_eq 400 (by kernel_rfl)
noncomputable def f12 : List AV → CM := apS fun a0 => apS fun a1 => apS fun a2 => ap0 <|
 CM.al (boxA a2) fun x0 =>
 CM.call 45 [a0, a1] fun x1 =>
 CM.pu (p1 (fun a => extractA a 0) x1) fun x2 =>
 CM.pu (p1 (fun a => extractA a 1) x1) fun x3 =>
 CM.pu (p1 (fun a => extractA a 2) x1) fun x4 =>
 CM.al (some (.cells [(.int .u64 0), (.str []), (.int .i64 0), (.int .u64 0)] false, pB)) fun x5 =>
 CM.al (some (.cells [(.str []), (.int .i64 0), (.int .i64 0), (.int .u64 0)] false, pB)) fun x6 =>
 CM.st (fun m => stV m x5 x2 4) <|
 CM.st (fun m => stV m x6 x3 4) <|
 CM.pu (p2 (binA Tryz.prog .eql 23) x4 (.int .i64 0)) fun x9 =>
 CM.cond x9 (
 CM.rm (q1 (loadA Tryz.prog 92) x6 ) fun x10 =>
 CM.rm (q1 (loadA Tryz.prog 35) x0 ) fun x11 =>
 CM.call 46 [x10, x11] fun x12 =>
 CM.go 49152 [a0, x0, x5, x6, x12]) (
 CM.go 49152 [a0, x0, x5, x6, x4])
theorem f12_ok (h : H 12 = none) : EqD (Rl H) f12 (fun xs m => run (EH H) (.fn 12) xs m) := sE fun _ => sE fun _ => sE fun _ => zE fun _ => run_eq 400 h (by kernel_rfl) (by kernel_rfl)
noncomputable def g13_0 : List AV → CM := apS fun t0 => apS fun t1 => apS fun t2 => apS fun t7 => ap0 <|
 CM.rm (q1 (loadA Tryz.prog 35) t7 ) fun x0 =>
 CM.call 51 [x0] fun x1 =>
 CM.pu (p2 (binA Tryz.prog .neq 23) x1 (.int .i64 0)) fun x2 =>
 CM.cond x2 (
 CM.ret x1) (
 CM.go 53249 [t0, t1, t2, t7])
theorem g13_0_ok : EqD (Rl H) g13_0 (fun xs m => goR (EH H) Mk 53248 xs m) := sE fun _ => sE fun _ => sE fun _ => sE fun _ => zE fun _ => goR_eq 400 (by kernel_rfl)
noncomputable def g13_1 : List AV → CM := apS fun t0 => apS fun t1 => apS fun t2 => apS fun t7 => ap0 <|
 CM.pu (p1 nnA t0) fun x0 =>
 CM.pu (p1 (fun a => fieldAddrA Tryz.prog 88 a 2) x0) fun x1 =>
 CM.rm (q1 (loadA Tryz.prog 85) x1 ) fun x2 =>
 CM.pu (p2 (binA Tryz.prog .add 9) t1 t2) fun x3 =>
 CM.call 52 [x2, x3] fun x4 =>
 CM.pu (p1 (fun a => extractA a 0) x4) fun x5 =>
 CM.pu (p1 (fun a => extractA a 1) x4) fun _ =>
 CM.al (some (.cells [(.str []), (.str []), (.int .i64 0), (.int .u64 0), (.int .i64 0), (.int .i64 0), (.int .u64 0), (.int .i64 0), (.int .u64 0)] false, pB)) fun x7 =>
 CM.st (fun m => stV m x7 x5 9) <|
 CM.rm (q1 (loadA Tryz.prog 35) t7 ) fun x9 =>
 CM.pu (p1 (fun a => fieldAddrA Tryz.prog 96 a 0) x7) fun x10 =>
 CM.st (fun m => stV m x10 t1 1) <|
 CM.memo fun m13 =>
 CM.chk (q1 (loadA Tryz.prog 35) t7 m13) x9 <|
 CM.pu (p1 (fun a => fieldAddrA Tryz.prog 96 a 1) x7) fun x14 =>
 CM.st (fun m => stV m x14 t2 1) <|
 CM.memo fun m17 =>
 CM.chk (q1 (loadA Tryz.prog 35) t7 m17) x9 <|
 CM.pu (p1 (fun a => fieldAddrA Tryz.prog 96 a 2) x7) fun x18 =>
 CM.st (fun m => stV m x18 x9 3) <|
 CM.pu (p1 nnA t0) fun x22 =>
 CM.pu (p1 (fun a => fieldAddrA Tryz.prog 88 a 2) x22) fun x23 =>
 CM.rm (q1 (loadA Tryz.prog 85) x23 ) fun x24 =>
 CM.pu (p2 (binA Tryz.prog .add 9) t1 t2) fun x25 =>
 CM.rm (q1 (loadA Tryz.prog 96) x7 ) fun x26 =>
 CM.call 53 [x24, x25, x26] fun _ =>
 CM.ret (.int .i64 0)
theorem g13_1_ok : EqD (Rl H) g13_1 (fun xs m => goR (EH H) Mk 53249 xs m) := sE fun _ => sE fun _ => sE fun _ => sE fun _ => zE fun _ => goR_eq 400 (by kernel_rfl)
noncomputable def f13 : List AV → CM := apS fun a0 => apS fun a1 => apS fun a2 => apS fun a3 => ap0 <|
 CM.al (boxA a3) fun x0 =>
 CM.pu (p1 nnA a0) fun x1 =>
 CM.pu (p1 (fun a => fieldAddrA Tryz.prog 88 a 1) x1) fun x2 =>
 CM.rm (q1 (loadA Tryz.prog 84) x2 ) fun x3 =>
 CM.call 40 [x3, a1] fun x4 =>
 CM.pu (p1 (fun a => extractA a 0) x4) fun x5 =>
 CM.pu (p1 (fun a => extractA a 1) x4) fun x6 =>
 CM.al (some (.cells [(.str []), (.int .i64 0), (.int .i64 0), (.int .u64 0)] false, pB)) fun x7 =>
 CM.st (fun m => stV m x7 x5 4) <|
 CM.pu (p1 nnA a0) fun x9 =>
 CM.pu (p1 (fun a => fieldAddrA Tryz.prog 88 a 1) x9) fun x10 =>
 CM.rm (q1 (loadA Tryz.prog 84) x10 ) fun x11 =>
 CM.call 40 [x11, a2] fun x12 =>
 CM.pu (p1 (fun a => extractA a 0) x12) fun x13 =>
 CM.pu (p1 (fun a => extractA a 1) x12) fun x14 =>
 CM.al (some (.cells [(.str []), (.int .i64 0), (.int .i64 0), (.int .u64 0)] false, pB)) fun x15 =>
 CM.st (fun m => stV m x15 x13 4) <|
 CM.pu (p1 (unA .not) x6) fun x17 =>
 CM.ifv x17 (
 CM.ret (.int .i64 41)) (
 CM.pu (p1 (unA .not) x14) fun x18 =>
 CM.cond x18 (
 CM.ret (.int .i64 41)) (
 CM.pu (p2 (binA Tryz.prog .eql 9) a1 a2) fun x19 =>
 CM.cond x19 (
 CM.ret (.int .i64 45)) (
 CM.go 53248 [a0, a1, a2, x0])))
theorem f13_ok (h : H 13 = none) : EqD (Rl H) f13 (fun xs m => run (EH H) (.fn 13) xs m) := sE fun _ => sE fun _ => sE fun _ => sE fun _ => zE fun _ => run_eq 400 h (by kernel_rfl) (by kernel_rfl)
noncomputable def g14_0 : List AV → CM := apS fun t0 => apS fun t7 => apS fun t8 => apS fun t10 => apS fun t11 => apS fun t13 => apS fun t14 => apS fun t16 => ap0 <|
 CM.rm (q1 (loadA Tryz.prog 92) t11 ) fun x0 =>
 CM.rm (q1 (loadA Tryz.prog 35) t7 ) fun x1 =>
 CM.call 46 [x0, x1] fun x2 =>
 CM.pu (p2 (binA Tryz.prog .eql 23) x2 (.int .i64 0)) fun x3 =>
 CM.ifv x3 (
 CM.rm (q1 (loadA Tryz.prog 100) t10 ) fun x4 =>
 CM.rm (q1 (loadA Tryz.prog 35) t7 ) fun x5 =>
 CM.call 50 [x4, x5] fun x6 =>
 CM.cond x6 (
 CM.go 57345 [t0, t7, t8, t10, (.int .i64 42), t13, t14, t16]) (
 CM.go 57345 [t0, t7, t8, t10, x2, t13, t14, t16])) (
 CM.go 57345 [t0, t7, t8, t10, x2, t13, t14, t16])
theorem g14_0_ok : EqD (Rl H) g14_0 (fun xs m => goR (EH H) Mk 57344 xs m) := sE fun _ => sE fun _ => sE fun _ => sE fun _ => sE fun _ => sE fun _ => sE fun _ => sE fun _ => zE fun _ => goR_eq 400 (by kernel_rfl)
noncomputable def g14_1 : List AV → CM := apS fun t0 => apS fun t7 => apS fun t8 => apS fun t10 => apS fun t12 => apS fun t13 => apS fun t14 => apS fun t16 => ap0 <|
 CM.al (some (.cells [(.int .i64 0), (.int .u64 0), (.int .i64 0)] false, pB)) fun x0 =>
 CM.pu (p2 (binA Tryz.prog .eql 23) t12 (.int .i64 0)) fun x1 =>
 CM.cond x1 (
 CM.rm (q1 (loadA Tryz.prog 35) t7 ) fun x2 =>
 CM.pu (p1 (fun a => fieldAddrA Tryz.prog 96 a 2) t16) fun x3 =>
 CM.rm (q1 (loadA Tryz.prog 35) x3 ) fun x4 =>
 CM.pu (p1 (fun a => fieldAddrA Tryz.prog 92 a 1) t14) fun x5 =>
 CM.rm (q1 (loadA Tryz.prog 3) x5 ) fun x6 =>
 CM.call 54 [x2, x4, x6] fun x7 =>
 CM.pu (p1 (fun a => extractA a 0) x7) fun x8 =>
 CM.pu (p1 (fun a => extractA a 1) x7) fun x9 =>
 CM.st (fun m => stV m x0 x8 3) <|
 CM.go 57346 [t0, t7, t8, t10, x9, t13, t16, x0]) (
 CM.go 57346 [t0, t7, t8, t10, t12, t13, t16, x0])
theorem g14_1_ok : EqD (Rl H) g14_1 (fun xs m => goR (EH H) Mk 57345 xs m) := sE fun _ => sE fun _ => sE fun _ => sE fun _ => sE fun _ => sE fun _ => sE fun _ => sE fun _ => zE fun _ => goR_eq 400 (by kernel_rfl)
noncomputable def g14_2 : List AV → CM := apS fun t0 => apS fun t7 => apS fun t8 => apS fun t10 => apS fun t12 => apS fun t13 => apS fun t16 => apS fun t18 => ap0 <|
 CM.pu (p2 (binA Tryz.prog .eql 23) t12 (.int .i64 0)) fun x0 =>
 CM.cond x0 (
 CM.pu (p1 (fun a => fieldAddrA Tryz.prog 100 a 2) t10) fun x1 =>
 CM.pu (p1 (fun a => fieldAddrA Tryz.prog 96 a 3) t16) fun x2 =>
 CM.pu (p1 (fun a => fieldAddrA Tryz.prog 35 a 0) t7) fun x3 =>
 CM.rm (q1 (loadA Tryz.prog 33) x3 ) fun x4 =>
 CM.call 47 [x1, x2, x4] fun x5 =>
 CM.go 57347 [t0, t8, t10, x5, t13, t16, t18]) (
 CM.go 57347 [t0, t8, t10, t12, t13, t16, t18])
theorem g14_2_ok : EqD (Rl H) g14_2 (fun xs m => goR (EH H) Mk 57346 xs m) := sE fun _ => sE fun _ => sE fun _ => sE fun _ => sE fun _ => sE fun _ => sE fun _ => sE fun _ => zE fun _ => goR_eq 400 (by kernel_rfl)
noncomputable def g14_3 : List AV → CM := apS fun t0 => apS fun t8 => apS fun t10 => apS fun t12 => apS fun t13 => apS fun t16 => apS fun t18 => ap0 <|
 CM.pu (p2 (binA Tryz.prog .eql 23) t12 (.int .i64 0)) fun x0 =>
 CM.cond x0 (
 CM.pu (p1 (fun a => fieldAddrA Tryz.prog 96 a 4) t16) fun x1 =>
 CM.pu (p1 (fun a => fieldAddrA Tryz.prog 100 a 2) t13) fun x2 =>
 CM.pu (p1 (fun a => fieldAddrA Tryz.prog 35 a 0) t18) fun x3 =>
 CM.rm (q1 (loadA Tryz.prog 33) x3 ) fun x4 =>
 CM.call 47 [x1, x2, x4] fun x5 =>
 CM.go 57348 [t0, t8, t10, x5, t13, t16, t18]) (
 CM.go 57348 [t0, t8, t10, t12, t13, t16, t18])
theorem g14_3_ok : EqD (Rl H) g14_3 (fun xs m => goR (EH H) Mk 57347 xs m) := sE fun _ => sE fun _ => sE fun _ => sE fun _ => sE fun _ => sE fun _ => sE fun _ => zE fun _ => goR_eq 400 (by kernel_rfl)
noncomputable def g14_4 : List AV → CM := apS fun t0 => apS fun t8 => apS fun t10 => apS fun t12 => apS fun t13 => apS fun t16 => apS fun t18 => ap0 <|
 CM.pu (p2 (binA Tryz.prog .neq 23) t12 (.int .i64 0)) fun x0 =>
 CM.cond x0 (
 CM.pu (p1 (buildA Tryz.prog 35) []) fun x1 =>
 CM.st (fun m => stV m t8 x1 3) <|
 CM.resC Tryz.prog [ResultVar.cell 0 35, ResultVar.tmp 1] [t8, t12]) (
 CM.go 57349 [t0, t8, t10, t13, t16, t18])
theorem g14_4_ok : EqD (Rl H) g14_4 (fun xs m => goR (EH H) Mk 57348 xs m) := sE fun _ => sE fun _ => sE fun _ => sE fun _ => sE fun _ => sE fun _ => sE fun _ => zE fun _ => goR_eq 400 (by kernel_rfl)
noncomputable def g14_5 : List AV → CM := apS fun t0 => apS fun t8 => apS fun t10 => apS fun t13 => apS fun t16 => apS fun t18 => ap0 <|
 CM.rm (q1 (loadA Tryz.prog 100) t10 ) fun x0 =>
 CM.call 48 [t0, x0] fun _ =>
 CM.rm (q1 (loadA Tryz.prog 100) t13 ) fun x2 =>
 CM.call 48 [t0, x2] fun _ =>
 CM.pu (p1 nnA t0) fun x4 =>
 CM.pu (p1 (fun a => fieldAddrA Tryz.prog 88 a 2) x4) fun x5 =>
 CM.rm (q1 (loadA Tryz.prog 85) x5 ) fun x6 =>
 CM.pu (p1 (fun a => fieldAddrA Tryz.prog 96 a 0) t16) fun x7 =>
 CM.rm (q1 (loadA Tryz.prog 9) x7 ) fun x8 =>
 CM.pu (p1 (fun a => fieldAddrA Tryz.prog 96 a 1) t16) fun x9 =>
 CM.rm (q1 (loadA Tryz.prog 9) x9 ) fun x10 =>
 CM.pu (p2 (binA Tryz.prog .add 9) x8 x10) fun x11 =>
 CM.rm (q1 (loadA Tryz.prog 96) t16 ) fun x12 =>
 CM.call 53 [x6, x11, x12] fun _ =>
 CM.rm (q1 (loadA Tryz.prog 35) t18 ) fun x16 =>
 CM.st (fun m => stV m t8 x16 3) <|
 CM.resC Tryz.prog [ResultVar.cell 0 35, ResultVar.tmp 1] [t8, (.int .i64 0)]
theorem g14_5_ok : EqD (Rl H) g14_5 (fun xs m => goR (EH H) Mk 57349 xs m) := sE fun _ => sE fun _ => sE fun _ => sE fun _ => sE fun _ => sE fun _ => zE fun _ => goR_eq 400 (by kernel_rfl)
noncomputable def f14 : List AV → CM := apS fun a0 => apS fun a1 => apS fun a2 => apS fun a3 => ap0 <|
 CM.al (boxA a3) fun x0 =>
 CM.al (some (.cells [(.int .i64 0), (.int .u64 0), (.int .i64 0)] false, pB)) fun x1 =>
 CM.call 45 [a0, a1] fun x2 =>
 CM.pu (p1 (fun a => extractA a 0) x2) fun x3 =>
 CM.pu (p1 (fun a => extractA a 1) x2) fun x4 =>
 CM.pu (p1 (fun a => extractA a 2) x2) fun x5 =>
 CM.al (some (.cells [(.int .u64 0), (.str []), (.int .i64 0), (.int .u64 0)] false, pB)) fun x6 =>
 CM.al (some (.cells [(.str []), (.int .i64 0), (.int .i64 0), (.int .u64 0)] false, pB)) fun x7 =>
 CM.st (fun m => stV m x6 x3 4) <|
 CM.st (fun m => stV m x7 x4 4) <|
 CM.call 45 [a0, a2] fun x10 =>
 CM.pu (p1 (fun a => extractA a 0) x10) fun x11 =>
 CM.pu (p1 (fun a => extractA a 1) x10) fun x12 =>
 CM.pu (p1 (fun a => extractA a 2) x10) fun x13 =>
 CM.al (some (.cells [(.int .u64 0), (.str []), (.int .i64 0), (.int .u64 0)] false, pB)) fun x14 =>
 CM.al (some (.cells [(.str []), (.int .i64 0), (.int .i64 0), (.int .u64 0)] false, pB)) fun x15 =>
 CM.st (fun m => stV m x14 x11 4) <|
 CM.st (fun m => stV m x15 x12 4) <|
 CM.pu (p1 nnA a0) fun x18 =>
 CM.pu (p1 (fun a => fieldAddrA Tryz.prog 88 a 2) x18) fun x19 =>
 CM.rm (q1 (loadA Tryz.prog 85) x19 ) fun x20 =>
 CM.pu (p1 (fun a => fieldAddrA Tryz.prog 92 a 0) x7) fun x21 =>
 CM.rm (q1 (loadA Tryz.prog 9) x21 ) fun x22 =>
 CM.pu (p1 (fun a => fieldAddrA Tryz.prog 92 a 0) x15) fun x23 =>
 CM.rm (q1 (loadA Tryz.prog 9) x23 ) fun x24 =>
 CM.pu (p2 (binA Tryz.prog .add 9) x22 x24) fun x25 =>
 CM.call 52 [x20, x25] fun x27 =>
 CM.pu (p1 (fun a => extractA a 0) x27) fun x29 =>
 CM.pu (p1 (fun a => extractA a 1) x27) fun x30 =>
 CM.al (some (.cells [(.str []), (.str []), (.int .i64 0), (.int .u64 0), (.int .i64 0), (.int .i64 0), (.int .u64 0), (.int .i64 0), (.int .u64 0)] false, pB)) fun x31 =>
 CM.st (fun m => stV m x31 x29 9) <|
 CM.pu (p2 (binA Tryz.prog .neq 23) x5 (.int .i64 0)) fun x35 =>
 CM.cond x35 (
 CM.pu (p1 (buildA Tryz.prog 35) []) fun x36 =>
 CM.st (fun m => stV m x1 x36 3) <|
 CM.resC Tryz.prog [ResultVar.cell 0 35, ResultVar.tmp 1] [x1, x5]) (
 CM.pu (p2 (binA Tryz.prog .neq 23) x13 (.int .i64 0)) fun x38 =>
 CM.cond x38 (
 CM.pu (p1 (buildA Tryz.prog 35) []) fun x39 =>
 CM.st (fun m => stV m x1 x39 3) <|
 CM.resC Tryz.prog [ResultVar.cell 0 35, ResultVar.tmp 1] [x1, x13]) (
 CM.pu (p1 (fun a => fieldAddrA Tryz.prog 92 a 0) x7) fun x41 =>
 CM.rm (q1 (loadA Tryz.prog 9) x41 ) fun x42 =>
 CM.pu (p1 (fun a => fieldAddrA Tryz.prog 92 a 0) x15) fun x43 =>
 CM.rm (q1 (loadA Tryz.prog 9) x43 ) fun x44 =>
 CM.pu (p2 (binA Tryz.prog .eql 9) x42 x44) fun x45 =>
 CM.cond x45 (
 CM.pu (p1 (buildA Tryz.prog 35) []) fun x46 =>
 CM.st (fun m => stV m x1 x46 3) <|
 CM.resC Tryz.prog [ResultVar.cell 0 35, ResultVar.tmp 1] [x1, (.int .i64 45)]) (
 CM.pu (p1 (unA .not) x30) fun x48 =>
 CM.cond x48 (
 CM.pu (p1 (buildA Tryz.prog 35) []) fun x49 =>
 CM.st (fun m => stV m x1 x49 3) <|
 CM.resC Tryz.prog [ResultVar.cell 0 35, ResultVar.tmp 1] [x1, (.int .i64 44)]) (
 CM.go 57344 [a0, x0, x1, x6, x7, x14, x15, x31]))))
theorem f14_ok (h : H 14 = none) : EqD (Rl H) f14 (fun xs m => run (EH H) (.fn 14) xs m) := sE fun _ => sE fun _ => sE fun _ => sE fun _ => zE fun _ => run_eq 400 h (by kernel_rfl) (by kernel_rfl)
noncomputable def g15_0 : List AV → CM := apS fun t4 => apS fun t6 => apS fun t7 => ap0 <|
 CM.pu (p1 (fun a => fieldAddrA Tryz.prog 100 a 2) t6) fun x0 =>
 CM.rm (q1 (loadA Tryz.prog 33) x0 ) fun x1 =>
 CM.pu (p1 (fun a => fieldAddrA Tryz.prog 92 a 1) t7) fun x2 =>
 CM.rm (q1 (loadA Tryz.prog 3) x2 ) fun x3 =>
 CM.pu (p1 (buildA Tryz.prog 35) [(0, x1), (1, x3)]) fun x4 =>
 CM.st (fun m => stV m t4 x4 3) <|
 CM.resC Tryz.prog [ResultVar.cell 0 35, ResultVar.tmp 1] [t4, (.int .i64 0)]
theorem g15_0_ok : EqD (Rl H) g15_0 (fun xs m => goR (EH H) Mk 61440 xs m) := sE fun _ => sE fun _ => sE fun _ => zE fun _ => goR_eq 400 (by kernel_rfl)
noncomputable def f15 : List AV → CM := apS fun a0 => apS fun a1 => ap0 <|
 CM.al (some (.cells [(.int .i64 0), (.int .u64 0), (.int .i64 0)] false, pB)) fun x0 =>
 CM.call 45 [a0, a1] fun x1 =>
 CM.pu (p1 (fun a => extractA a 0) x1) fun x2 =>
 CM.pu (p1 (fun a => extractA a 1) x1) fun x3 =>
 CM.pu (p1 (fun a => extractA a 2) x1) fun x4 =>
 CM.al (some (.cells [(.int .u64 0), (.str []), (.int .i64 0), (.int .u64 0)] false, pB)) fun x5 =>
 CM.al (some (.cells [(.str []), (.int .i64 0), (.int .i64 0), (.int .u64 0)] false, pB)) fun x6 =>
 CM.st (fun m => stV m x5 x2 4) <|
 CM.st (fun m => stV m x6 x3 4) <|
 CM.pu (p2 (binA Tryz.prog .neq 23) x4 (.int .i64 0)) fun x9 =>
 CM.cond x9 (
 CM.pu (p1 (buildA Tryz.prog 35) []) fun x10 =>
 CM.st (fun m => stV m x0 x10 3) <|
 CM.resC Tryz.prog [ResultVar.cell 0 35, ResultVar.tmp 1] [x0, x4]) (
 CM.go 61440 [x0, x5, x6])
theorem f15_ok (h : H 15 = none) : EqD (Rl H) f15 (fun xs m => run (EH H) (.fn 15) xs m) := sE fun _ => sE fun _ => zE fun _ => run_eq 400 h (by kernel_rfl) (by kernel_rfl)
noncomputable def g16_0 : List AV → CM := apS fun t6 => apS fun t8 => apS fun t12 => ap0 <|
 CM.pu (p1 (fun a => fieldAddrA Tryz.prog 96 a 3) t12) fun x0 =>
 CM.rm (q1 (loadA Tryz.prog 33) x0 ) fun x1 =>
 CM.pu (p1 (fun a => fieldAddrA Tryz.prog 92 a 1) t8) fun x2 =>
 CM.rm (q1 (loadA Tryz.prog 3) x2 ) fun x3 =>
 CM.pu (p1 (buildA Tryz.prog 35) [(0, x1), (1, x3)]) fun x4 =>
 CM.st (fun m => stV m t6 x4 3) <|
 CM.resC Tryz.prog [ResultVar.cell 0 35, ResultVar.tmp 1] [t6, (.int .i64 0)]
theorem g16_0_ok : EqD (Rl H) g16_0 (fun xs m => goR (EH H) Mk 65536 xs m) := sE fun _ => sE fun _ => sE fun _ => zE fun _ => goR_eq 400 (by kernel_rfl)
noncomputable def f16 : List AV → CM := apS fun a0 => apS fun a1 => apS fun a2 => ap0 <|
 CM.al (some (.cells [(.int .i64 0), (.int .u64 0), (.int .i64 0)] false, pB)) fun x0 =>
 CM.pu (p1 nnA a0) fun x1 =>
 CM.pu (p1 (fun a => fieldAddrA Tryz.prog 88 a 1) x1) fun x2 =>
 CM.rm (q1 (loadA Tryz.prog 84) x2 ) fun x3 =>
 CM.call 40 [x3, a1] fun x4 =>
 CM.pu (p1 (fun a => extractA a 0) x4) fun x5 =>
 CM.pu (p1 (fun a => extractA a 1) x4) fun x6 =>
 CM.al (some (.cells [(.str []), (.int .i64 0), (.int .i64 0), (.int .u64 0)] false, pB)) fun x7 =>
 CM.st (fun m => stV m x7 x5 4) <|
 CM.pu (p1 nnA a0) fun x9 =>
 CM.pu (p1 (fun a => fieldAddrA Tryz.prog 88 a 1) x9) fun x10 =>
 CM.rm (q1 (loadA Tryz.prog 84) x10 ) fun x11 =>
 CM.call 40 [x11, a2] fun x12 =>
 CM.pu (p1 (fun a => extractA a 0) x12) fun x13 =>
 CM.pu (p1 (fun a => extractA a 1) x12) fun x14 =>
 CM.al (some (.cells [(.str []), (.int .i64 0), (.int .i64 0), (.int .u64 0)] false, pB)) fun x15 =>
 CM.st (fun m => stV m x15 x13 4) <|
 CM.pu (p1 nnA a0) fun x17 =>
 CM.pu (p1 (fun a => fieldAddrA Tryz.prog 88 a 2) x17) fun x18 =>
 CM.rm (q1 (loadA Tryz.prog 85) x18 ) fun x19 =>
 CM.pu (p2 (binA Tryz.prog .add 9) a1 a2) fun x20 =>
 CM.call 52 [x19, x20] fun x21 =>
 CM.pu (p1 (fun a => extractA a 0) x21) fun x22 =>
 CM.pu (p1 (fun a => extractA a 1) x21) fun x23 =>
 CM.al (some (.cells [(.str []), (.str []), (.int .i64 0), (.int .u64 0), (.int .i64 0), (.int .i64 0), (.int .u64 0), (.int .i64 0), (.int .u64 0)] false, pB)) fun x24 =>
 CM.st (fun m => stV m x24 x22 9) <|
 CM.pu (p1 (unA .not) x6) fun x26 =>
 CM.ifv x26 (
 CM.pu (p1 (buildA Tryz.prog 35) []) fun x27 =>
 CM.st (fun m => stV m x0 x27 3) <|
 CM.resC Tryz.prog [ResultVar.cell 0 35, ResultVar.tmp 1] [x0, (.int .i64 41)]) (
 CM.pu (p1 (unA .not) x14) fun x29 =>
 CM.cond x29 (
 CM.pu (p1 (buildA Tryz.prog 35) []) fun x30 =>
 CM.st (fun m => stV m x0 x30 3) <|
 CM.resC Tryz.prog [ResultVar.cell 0 35, ResultVar.tmp 1] [x0, (.int .i64 41)]) (
 CM.pu (p1 (unA .not) x23) fun x32 =>
 CM.cond x32 (
 CM.pu (p1 (buildA Tryz.prog 35) []) fun x33 =>
 CM.st (fun m => stV m x0 x33 3) <|
 CM.resC Tryz.prog [ResultVar.cell 0 35, ResultVar.tmp 1] [x0, (.int .i64 44)]) (
 CM.go 65536 [x0, x7, x24])))
theorem f16_ok (h : H 16 = none) : EqD (Rl H) f16 (fun xs m => run (EH H) (.fn 16) xs m) := sE fun _ => sE fun _ => sE fun _ => zE fun _ => run_eq 400 h (by kernel_rfl) (by kernel_rfl)
noncomputable def g17_0 : List AV → CM := apS fun t0 => apS fun t7 => apS fun t9 => apS fun t10 => apS fun t12 => ap0 <|
 CM.rm (q1 (loadA Tryz.prog 92) t10 ) fun x0 =>
 CM.rm (q1 (loadA Tryz.prog 35) t7 ) fun x1 =>
 CM.call 46 [x0, x1] fun x2 =>
 CM.pu (p2 (binA Tryz.prog .eql 23) x2 (.int .i64 0)) fun x3 =>
 CM.ifv x3 (
 CM.rm (q1 (loadA Tryz.prog 100) t9 ) fun x4 =>
 CM.rm (q1 (loadA Tryz.prog 35) t7 ) fun x5 =>
 CM.call 50 [x4, x5] fun x6 =>
 CM.cond x6 (
 CM.go 69633 [t0, t7, t9, (.int .i64 42), t12]) (
 CM.go 69633 [t0, t7, t9, x2, t12])) (
 CM.go 69633 [t0, t7, t9, x2, t12])
theorem g17_0_ok : EqD (Rl H) g17_0 (fun xs m => goR (EH H) Mk 69632 xs m) := sE fun _ => sE fun _ => sE fun _ => sE fun _ => sE fun _ => zE fun _ => goR_eq 400 (by kernel_rfl)
noncomputable def g17_1 : List AV → CM := apS fun t0 => apS fun t7 => apS fun t9 => apS fun t11 => apS fun t12 => ap0 <|
 CM.pu (p2 (binA Tryz.prog .eql 23) t11 (.int .i64 0)) fun x0 =>
 CM.cond x0 (
 CM.pu (p1 (fun a => fieldAddrA Tryz.prog 100 a 2) t9) fun x1 =>
 CM.pu (p1 (fun a => fieldAddrA Tryz.prog 100 a 2) t12) fun x2 =>
 CM.pu (p1 (fun a => fieldAddrA Tryz.prog 35 a 0) t7) fun x3 =>
 CM.rm (q1 (loadA Tryz.prog 33) x3 ) fun x4 =>
 CM.call 47 [x1, x2, x4] fun x5 =>
 CM.go 69634 [t0, t9, x5, t12]) (
 CM.go 69634 [t0, t9, t11, t12])
theorem g17_1_ok : EqD (Rl H) g17_1 (fun xs m => goR (EH H) Mk 69633 xs m) := sE fun _ => sE fun _ => sE fun _ => sE fun _ => sE fun _ => zE fun _ => goR_eq 400 (by kernel_rfl)
noncomputable def g17_2 : List AV → CM := apS fun t0 => apS fun t9 => apS fun t11 => apS fun t12 => ap0 <|
 CM.pu (p2 (binA Tryz.prog .eql 23) t11 (.int .i64 0)) fun x0 =>
 CM.cond x0 (
 CM.rm (q1 (loadA Tryz.prog 100) t9 ) fun x1 =>
 CM.call 48 [t0, x1] fun _ =>
 CM.rm (q1 (loadA Tryz.prog 100) t12 ) fun x3 =>
 CM.call 48 [t0, x3] fun _ =>
 CM.go 69635 [t11]) (
 CM.go 69635 [t11])
theorem g17_2_ok : EqD (Rl H) g17_2 (fun xs m => goR (EH H) Mk 69634 xs m) := sE fun _ => sE fun _ => sE fun _ => sE fun _ => zE fun _ => goR_eq 400 (by kernel_rfl)
noncomputable def g17_3 : List AV → CM := apS fun t11 => ap0 <|
 CM.ret t11
theorem g17_3_ok : EqD (Rl H) g17_3 (fun xs m => goR (EH H) Mk 69635 xs m) := sE fun _ => zE fun _ => goR_eq 400 (by kernel_rfl)
noncomputable def f17 : List AV → CM := apS fun a0 => apS fun a1 => apS fun a2 => apS fun a3 => ap0 <|
 CM.al (boxA a3) fun x0 =>
 CM.call 45 [a0, a1] fun x1 =>
 CM.pu (p1 (fun a => extractA a 0) x1) fun x2 =>
 CM.pu (p1 (fun a => extractA a 1) x1) fun x3 =>
 CM.pu (p1 (fun a => extractA a 2) x1) fun x4 =>
 CM.al (some (.cells [(.int .u64 0), (.str []), (.int .i64 0), (.int .u64 0)] false, pB)) fun x5 =>
 CM.al (some (.cells [(.str []), (.int .i64 0), (.int .i64 0), (.int .u64 0)] false, pB)) fun x6 =>
 CM.st (fun m => stV m x5 x2 4) <|
 CM.st (fun m => stV m x6 x3 4) <|
 CM.call 45 [a0, a2] fun x9 =>
 CM.pu (p1 (fun a => extractA a 0) x9) fun x10 =>
 CM.pu (p1 (fun a => extractA a 1) x9) fun x11 =>
 CM.pu (p1 (fun a => extractA a 2) x9) fun x12 =>
 CM.al (some (.cells [(.int .u64 0), (.str []), (.int .i64 0), (.int .u64 0)] false, pB)) fun x13 =>
 CM.al (some (.cells [(.str []), (.int .i64 0), (.int .i64 0), (.int .u64 0)] false, pB)) fun x14 =>
 CM.st (fun m => stV m x13 x10 4) <|
 CM.st (fun m => stV m x14 x11 4) <|
 CM.pu (p2 (binA Tryz.prog .neq 23) x4 (.int .i64 0)) fun x17 =>
 CM.cond x17 (
 CM.ret x4) (
 CM.pu (p2 (binA Tryz.prog .neq 23) x12 (.int .i64 0)) fun x18 =>
 CM.cond x18 (
 CM.ret x12) (
 CM.pu (p2 (binA Tryz.prog .eql 28) a1 a2) fun x19 =>
 CM.cond x19 (
 CM.ret (.int .i64 45)) (
 CM.pu (p1 (fun a => fieldAddrA Tryz.prog 92 a 0) x6) fun x20 =>
 CM.rm (q1 (loadA Tryz.prog 9) x20 ) fun x21 =>
 CM.pu (p1 (fun a => fieldAddrA Tryz.prog 92 a 0) x14) fun x22 =>
 CM.rm (q1 (loadA Tryz.prog 9) x22 ) fun x23 =>
 CM.pu (p2 (binA Tryz.prog .neq 9) x21 x23) fun x24 =>
 CM.cond x24 (
 CM.ret (.int .i64 41)) (
 CM.go 69632 [a0, x0, x5, x6, x13]))))
theorem f17_ok (h : H 17 = none) : EqD (Rl H) f17 (fun xs m => run (EH H) (.fn 17) xs m) := sE fun _ => sE fun _ => sE fun _ => sE fun _ => zE fun _ => run_eq 400 h (by kernel_rfl) (by kernel_rfl)
noncomputable def g18_0 : List AV → CM := apS fun t2 => ap0 <|
 CM.pu (p1 (fun a => fieldAddrA Tryz.prog 48 a 0) t2) fun x0 =>
 CM.rm (q1 (loadA Tryz.prog 44) x0 ) fun x1 =>
 CM.pu (p1 (lenT Tryz.prog 44) x1) fun x2 =>
 CM.go 73729 [t2, x1, x2, (.int .i64 0)]
theorem g18_0_ok : EqD (Rl H) g18_0 (fun xs m => goR (EH H) Mk 73728 xs m) := sE fun _ => zE fun _ => goR_eq 400 (by kernel_rfl)
noncomputable def g18_1 : List AV → CM := apS fun t2 => apS fun t29 => apS fun t30 => apS fun t31 => ap0 <|
 CM.pu (p2 (binA Tryz.prog .lss 3) t31 t30) fun x0 =>
 CM.cond x0 (
 CM.go 73730 [t2, t29, t30, t31]) (
 CM.go 73732 [t2])
theorem g18_1_ok : EqD (Rl H) g18_1 (fun xs m => goR (EH H) Mk 73729 xs m) := sE fun _ => sE fun _ => sE fun _ => sE fun _ => zE fun _ => goR_eq 400 (by kernel_rfl)
noncomputable def g18_2 : List AV → CM := apS fun t2 => apS fun t29 => apS fun t30 => apS fun t31 => ap0 <|
 CM.pu (p2 (indexAddrA Tryz.prog 44) t29 t31) fun x0 =>
 CM.rm (q1 (loadA Tryz.prog 92) x0 ) fun x1 =>
 CM.al (some (.cells [(.str []), (.int .i64 0), (.int .i64 0), (.int .u64 0)] false, pB)) fun x2 =>
 CM.st (fun m => stV m x2 x1 4) <|
 CM.pu (p1 (fun a => fieldAddrA Tryz.prog 92 a 0) x2) fun x4 =>
 CM.rm (q1 (loadA Tryz.prog 9) x4 ) fun x5 =>
 CM.call 41 [x5] fun x7 =>
 CM.pu (p1 (unA .not) x7) fun x9 =>
 CM.ifv x9 (
 CM.ret (.bool false)) (
 CM.pu (p2 (binA Tryz.prog .gtr 3) t31 (.int .i64 0)) fun x10 =>
 CM.ifv x10 (
 CM.pu (p1 (fun a => fieldAddrA Tryz.prog 48 a 0) t2) fun x11 =>
 CM.rm (q1 (loadA Tryz.prog 44) x11 ) fun x12 =>
 CM.pu (p2 (binA Tryz.prog .sub 3) t31 (.int .i64 1)) fun x13 =>
 CM.pu (p2 (indexAddrA Tryz.prog 44) x12 x13) fun x14 =>
 CM.pu (p1 (fun a => fieldAddrA Tryz.prog 92 a 0) x14) fun x15 =>
 CM.rm (q1 (loadA Tryz.prog 9) x15 ) fun x16 =>
 CM.pu (p1 (fun a => fieldAddrA Tryz.prog 92 a 0) x2) fun x17 =>
 CM.rm (q1 (loadA Tryz.prog 9) x17 ) fun x18 =>
 CM.pu (p2 (binA Tryz.prog .geq 9) x16 x18) fun x19 =>
 CM.ifv x19 (
 CM.ret (.bool false)) (
 CM.pu (p1 (fun a => fieldAddrA Tryz.prog 92 a 1) x2) fun x20 =>
 CM.rm (q1 (loadA Tryz.prog 3) x20 ) fun x21 =>
 CM.pu (p2 (binA Tryz.prog .lss 3) x21 (.int .i64 0)) fun x22 =>
 CM.ifv x22 (
 CM.ret (.bool false)) (
 CM.pu (p1 (fun a => fieldAddrA Tryz.prog 92 a 1) x2) fun x23 =>
 CM.rm (q1 (loadA Tryz.prog 3) x23 ) fun x24 =>
 CM.pu (p2 (binA Tryz.prog .gtr 3) x24 (.int .i64 18)) fun x25 =>
 CM.cond x25 (
 CM.ret (.bool false)) (
 CM.go 73731 [t2, t29, t30, t31])))) (
 CM.pu (p1 (fun a => fieldAddrA Tryz.prog 92 a 1) x2) fun x26 =>
 CM.rm (q1 (loadA Tryz.prog 3) x26 ) fun x27 =>
 CM.pu (p2 (binA Tryz.prog .lss 3) x27 (.int .i64 0)) fun x28 =>
 CM.ifv x28 (
 CM.ret (.bool false)) (
 CM.pu (p1 (fun a => fieldAddrA Tryz.prog 92 a 1) x2) fun x29 =>
 CM.rm (q1 (loadA Tryz.prog 3) x29 ) fun x30 =>
 CM.pu (p2 (binA Tryz.prog .gtr 3) x30 (.int .i64 18)) fun x31 =>
 CM.cond x31 (
 CM.ret (.bool false)) (
 CM.go 73731 [t2, t29, t30, t31]))))
theorem g18_2_ok : EqD (Rl H) g18_2 (fun xs m => goR (EH H) Mk 73730 xs m) := sE fun _ => sE fun _ => sE fun _ => sE fun _ => zE fun _ => goR_eq 400 (by kernel_rfl)
noncomputable def g18_3 : List AV → CM := apS fun t2 => apS fun t29 => apS fun t30 => apS fun t31 => ap0 <|
 CM.pu (p2 (binA Tryz.prog .add 3) t31 (.int .i64 1)) fun x0 =>
 CM.go 73729 [t2, t29, t30, x0]
theorem g18_3_ok : EqD (Rl H) g18_3 (fun xs m => goR (EH H) Mk 73731 xs m) := sE fun _ => sE fun _ => sE fun _ => sE fun _ => zE fun _ => goR_eq 400 (by kernel_rfl)
noncomputable def g18_4 : List AV → CM := apS fun t2 => ap0 <|
 CM.rm (q1 (loadA Tryz.prog 48) t2 ) fun x0 =>
 CM.call 55 [x0] fun x1 =>
 CM.pu (p1 (unA .not) x1) fun x2 =>
 CM.ifv x2 (
 CM.ret (.bool false)) (
 CM.rm (q1 (loadA Tryz.prog 48) t2 ) fun x3 =>
 CM.call 56 [x3] fun x4 =>
 CM.pu (p1 (unA .not) x4) fun x5 =>
 CM.cond x5 (
 CM.ret (.bool false)) (
 CM.go 73733 [t2]))
theorem g18_4_ok : EqD (Rl H) g18_4 (fun xs m => goR (EH H) Mk 73732 xs m) := sE fun _ => zE fun _ => goR_eq 400 (by kernel_rfl)
noncomputable def g18_5 : List AV → CM := apS fun t2 => ap0 <|
 CM.pu (p1 (fun a => fieldAddrA Tryz.prog 48 a 0) t2) fun x0 =>
 CM.rm (q1 (loadA Tryz.prog 44) x0 ) fun x1 =>
 CM.pu (p1 (lenT Tryz.prog 44) x1) fun x2 =>
 CM.go 73734 [t2, x1, x2, (.int .i64 0)]
theorem g18_5_ok : EqD (Rl H) g18_5 (fun xs m => goR (EH H) Mk 73733 xs m) := sE fun _ => zE fun _ => goR_eq 400 (by kernel_rfl)
noncomputable def g18_6 : List AV → CM := apS fun t2 => apS fun t76 => apS fun t77 => apS fun t78 => ap0 <|
 CM.pu (p2 (binA Tryz.prog .lss 3) t78 t77) fun x0 =>
 CM.cond x0 (
 CM.go 73735 [t2, t76, t77, t78]) (
 CM.go 73737 [])
theorem g18_6_ok : EqD (Rl H) g18_6 (fun xs m => goR (EH H) Mk 73734 xs m) := sE fun _ => sE fun _ => sE fun _ => sE fun _ => zE fun _ => goR_eq 400 (by kernel_rfl)
noncomputable def g18_7 : List AV → CM := apS fun t2 => apS fun t76 => apS fun t77 => apS fun t78 => ap0 <|
 CM.pu (p2 (indexAddrA Tryz.prog 44) t76 t78) fun x0 =>
 CM.rm (q1 (loadA Tryz.prog 92) x0 ) fun x1 =>
 CM.al (some (.cells [(.str []), (.int .i64 0), (.int .i64 0), (.int .u64 0)] false, pB)) fun x2 =>
 CM.st (fun m => stV m x2 x1 4) <|
 CM.rm (q1 (loadA Tryz.prog 48) t2 ) fun x4 =>
 CM.rm (q1 (loadA Tryz.prog 92) x2 ) fun x5 =>
 CM.call 57 [x4, x5] fun x6 =>
 CM.pu (p1 (unA .not) x6) fun x7 =>
 CM.cond x7 (
 CM.ret (.bool false)) (
 CM.go 73736 [t2, t76, t77, t78])
theorem g18_7_ok : EqD (Rl H) g18_7 (fun xs m => goR (EH H) Mk 73735 xs m) := sE fun _ => sE fun _ => sE fun _ => sE fun _ => zE fun _ => goR_eq 400 (by kernel_rfl)
noncomputable def g18_8 : List AV → CM := apS fun t2 => apS fun t76 => apS fun t77 => apS fun t78 => ap0 <|
 CM.pu (p2 (binA Tryz.prog .add 3) t78 (.int .i64 1)) fun x0 =>
 CM.go 73734 [t2, t76, t77, x0]
theorem g18_8_ok : EqD (Rl H) g18_8 (fun xs m => goR (EH H) Mk 73736 xs m) := sE fun _ => sE fun _ => sE fun _ => sE fun _ => zE fun _ => goR_eq 400 (by kernel_rfl)
noncomputable def g18_9 : List AV → CM := ap0 <|
 CM.ret (.bool true)
theorem g18_9_ok : EqD (Rl H) g18_9 (fun xs m => goR (EH H) Mk 73737 xs m) := zE fun _ => goR_eq 400 (by kernel_rfl)
noncomputable def f18 : List AV → CM := apS fun a0 => apS fun a1 => ap0 <|
 CM.al (boxA a0) fun x0 =>
 CM.pu (p2 (binA Tryz.prog .lss 3) a1 (.int .i64 1)) fun x1 =>
 CM.ifv x1 (
 CM.ret (.bool false)) (
 CM.pu (p2 (binA Tryz.prog .gtr 3) a1 (.int .i64 64)) fun x2 =>
 CM.ifv x2 (
 CM.ret (.bool false)) (
 CM.pu (p1 (fun a => fieldAddrA Tryz.prog 48 a 0) x0) fun x3 =>
 CM.rm (q1 (loadA Tryz.prog 44) x3 ) fun x4 =>
 CM.pu (p1 (lenT Tryz.prog 44) x4) fun x5 =>
 CM.pu (p2 (binA Tryz.prog .gtr 3) x5 (.int .i64 8)) fun x6 =>
 CM.ifv x6 (
 CM.ret (.bool false)) (
 CM.pu (p1 (fun a => fieldAddrA Tryz.prog 48 a 2) x0) fun x7 =>
 CM.rm (q1 (loadA Tryz.prog 46) x7 ) fun x8 =>
 CM.pu (p1 (lenT Tryz.prog 46) x8) fun x9 =>
 CM.pu (p2 (binA Tryz.prog .gtr 3) x9 a1) fun x10 =>
 CM.cond x10 (
 CM.ret (.bool false)) (
 CM.go 73728 [x0]))))
theorem f18_ok (h : H 18 = none) : EqD (Rl H) f18 (fun xs m => run (EH H) (.fn 18) xs m) := sE fun _ => sE fun _ => zE fun _ => run_eq 400 h (by kernel_rfl) (by kernel_rfl)
noncomputable def g19_0 : List AV → CM := apS fun t0 => apS fun t2 => apS fun t3 => apS fun t5 => apS fun t7 => apS fun t9 => apS fun t19 => apS fun t21 => apS fun t34 => apS fun t47 => ap0 <|
 CM.rng (.fn (rsOf (EH fun _ => none) 19)) t19 (loopOf (EH fun _ => none) 19 0 ([t0, .undef, t2, t3, .undef, t5, .undef, t7, .undef, t9, .undef, .undef, .undef, .undef, .undef, .undef, .undef, .undef, .undef, t19, .undef, t21, .undef, .undef, .undef, .undef, .undef, .undef, .undef, .undef, .undef, .undef, .undef, .undef, t34, .undef, .undef, .undef, .undef, .undef, .undef, .undef, .undef, .undef, .undef, .undef, .undef, t47] ++ List.replicate 7 .undef)) 77824 [t0, t2, t3, t5, t7, t9, t19, t21, t34, t47]
theorem g19_0_ok : EqD (Rl H) g19_0 (fun xs m => goR (EH H) Mk 77824 xs m) := sE fun _ => sE fun _ => sE fun _ => sE fun _ => sE fun _ => sE fun _ => sE fun _ => sE fun _ => sE fun _ => sE fun _ => zE fun _ => goR_eq 400 (by kernel_rfl)
noncomputable def g19_2 : List AV → CM := apS fun t0 => apS fun t2 => apS fun t3 => apS fun t7 => apS fun t9 => apS fun t34 => apS fun t47 => ap0 <|
 CM.pu (p1 nnA t0) fun x0 =>
 CM.pu (p1 (fun a => fieldAddrA Tryz.prog 88 a 2) x0) fun x1 =>
 CM.rm (q1 (loadA Tryz.prog 85) x1 ) fun x2 =>
 CM.call 59 [x2] fun x3 =>
 CM.go 77827 [t0, t2, t3, t7, t9, x3, t34, t47]
theorem g19_2_ok : EqD (Rl H) g19_2 (fun xs m => goR (EH H) Mk 77826 xs m) := sE fun _ => sE fun _ => sE fun _ => sE fun _ => sE fun _ => sE fun _ => sE fun _ => zE fun _ => goR_eq 400 (by kernel_rfl)
noncomputable def g19_3 : List AV → CM := apS fun t0 => apS fun t2 => apS fun t3 => apS fun t7 => apS fun t9 => apS fun t32 => apS fun t34 => apS fun t47 => ap0 <|
 CM.rng (.fn (rsOf (EH fun _ => none) 19)) t32 (loopOf (EH fun _ => none) 19 1 ([t0, .undef, t2, t3, .undef, .undef, .undef, t7, .undef, t9, .undef, .undef, .undef, .undef, .undef, .undef, .undef, .undef, .undef, .undef, .undef, .undef, .undef, .undef, .undef, .undef, .undef, .undef, .undef, .undef, .undef, .undef, t32, .undef, t34, .undef, .undef, .undef, .undef, .undef, .undef, .undef, .undef, .undef, .undef, .undef, .undef, t47] ++ List.replicate 7 .undef)) 77825 [t0, t2, t3, t7, t9, t32, t34, t47]
theorem g19_3_ok : EqD (Rl H) g19_3 (fun xs m => goR (EH H) Mk 77827 xs m) := sE fun _ => sE fun _ => sE fun _ => sE fun _ => sE fun _ => sE fun _ => sE fun _ => sE fun _ => zE fun _ => goR_eq 400 (by kernel_rfl)
noncomputable def g19_5 : List AV → CM := apS fun t0 => apS fun t2 => apS fun t3 => apS fun t9 => apS fun t47 => ap0 <|
 CM.pu (p1 nnA t0) fun x0 =>
 CM.pu (p1 (fun a => fieldAddrA Tryz.prog 88 a 3) x0) fun x1 =>
 CM.rm (q1 (loadA Tryz.prog 86) x1 ) fun x2 =>
 CM.call 60 [x2] fun x3 =>
 CM.go 77830 [t2, t3, t9, x3, t47]
theorem g19_5_ok : EqD (Rl H) g19_5 (fun xs m => goR (EH H) Mk 77829 xs m) := sE fun _ => sE fun _ => sE fun _ => sE fun _ => sE fun _ => zE fun _ => goR_eq 400 (by kernel_rfl)
noncomputable def g19_6 : List AV → CM := apS fun t2 => apS fun t3 => apS fun t9 => apS fun t45 => apS fun t47 => ap0 <|
 CM.rng (.fn (rsOf (EH fun _ => none) 19)) t45 (loopOf (EH fun _ => none) 19 2 ([.undef, .undef, t2, t3, .undef, .undef, .undef, .undef, .undef, t9, .undef, .undef, .undef, .undef, .undef, .undef, .undef, .undef, .undef, .undef, .undef, .undef, .undef, .undef, .undef, .undef, .undef, .undef, .undef, .undef, .undef, .undef, .undef, .undef, .undef, .undef, .undef, .undef, .undef, .undef, .undef, .undef, .undef, .undef, .undef, t45, .undef, t47] ++ List.replicate 7 .undef)) 77826 [t2, t3, t9, t45, t47]
theorem g19_6_ok : EqD (Rl H) g19_6 (fun xs m => goR (EH H) Mk 77830 xs m) := sE fun _ => sE fun _ => sE fun _ => sE fun _ => sE fun _ => zE fun _ => goR_eq 400 (by kernel_rfl)
noncomputable def g19_8 : List AV → CM := apS fun t2 => apS fun t3 => ap0 <|
 CM.rm (q1 (loadA Tryz.prog 48) t3 ) fun x0 =>
 CM.st (fun m => stV m t2 x0 4) <|
 CM.resC Tryz.prog [ResultVar.cell 0 48] [t2]
theorem g19_8_ok : EqD (Rl H) g19_8 (fun xs m => goR (EH H) Mk 77832 xs m) := sE fun _ => sE fun _ => zE fun _ => goR_eq 400 (by kernel_rfl)
noncomputable def l19_0_none : List AV → CM := apS fun t0 => apS fun t2 => apS fun t3 => apS fun _ => apS fun t7 => apS fun t9 => apS fun _ => apS fun _ => apS fun t34 => apS fun t47 => ap0 <|
 CM.go 77826 [t0, t2, t3, t7, t9, t34, t47]
theorem l19_0_none_ok : EqD (Rl H) l19_0_none (fun xs m => afR (EH H) Nk 77824 none xs m) := sE fun _ => sE fun _ => sE fun _ => sE fun _ => sE fun _ => sE fun _ => sE fun _ => sE fun _ => sE fun _ => sE fun _ => zE fun _ => afR_eq 400 (by kernel_rfl)
noncomputable def l19_1_none : List AV → CM := apS fun t0 => apS fun t2 => apS fun t3 => apS fun _ => apS fun t9 => apS fun _ => apS fun _ => apS fun t47 => ap0 <|
 CM.go 77829 [t0, t2, t3, t9, t47]
theorem l19_1_none_ok : EqD (Rl H) l19_1_none (fun xs m => afR (EH H) Nk 77825 none xs m) := sE fun _ => sE fun _ => sE fun _ => sE fun _ => sE fun _ => sE fun _ => sE fun _ => sE fun _ => zE fun _ => afR_eq 400 (by kernel_rfl)
noncomputable def l19_2_none : List AV → CM := apS fun t2 => apS fun t3 => apS fun _ => apS fun _ => apS fun _ => ap0 <|
 CM.go 77832 [t2, t3]
theorem l19_2_none_ok : EqD (Rl H) l19_2_none (fun xs m => afR (EH H) Nk 77826 none xs m) := sE fun _ => sE fun _ => sE fun _ => sE fun _ => sE fun _ => zE fun _ => afR_eq 400 (by kernel_rfl)
noncomputable def f19 : List AV → CM := apS fun a0 => ap0 <|
 CM.al (some (.cells [(.sl none 0 0 0 true), (.sl none 0 0 0 true), (.sl none 0 0 0 true), (.int .u64 0)] false, pB)) fun x0 =>
 CM.pu (p1 nnA a0) fun x1 =>
 CM.pu (p1 (fun a => fieldAddrA Tryz.prog 88 a 4) x1) fun x2 =>
 CM.rm (q1 (loadA Tryz.prog 28) x2 ) fun x3 =>
 CM.pu (p1 (buildA Tryz.prog 48) [(3, x3)]) fun x4 =>
 CM.al (some (.cells [(.sl none 0 0 0 true), (.sl none 0 0 0 true), (.sl none 0 0 0 true), (.int .u64 0)] false, pB)) fun x5 =>
 CM.st (fun m => stV m x5 x4 4) <|
 CM.pu (p1 nnA a0) fun x7 =>
 CM.pu (p1 (fun a => fieldAddrA Tryz.prog 88 a 1) x7) fun x8 =>
 CM.rm (q1 (loadA Tryz.prog 84) x8 ) fun x9 =>
 CM.call 58 [x9] fun x10 =>
 CM.go 77824 [a0, x0, x5, .undef, .undef, .undef, x10, .undef, .undef, .undef]
theorem f19_ok (h : H 19 = none) : EqD (Rl H) f19 (fun xs m => run (EH H) (.fn 19) xs m) := sE fun _ => zE fun _ => run_eq 400 h (by kernel_rfl) (by kernel_rfl)
end Go.Proofs.YtpoafkipnjfioaaGreat.T
