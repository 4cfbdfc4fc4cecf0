/- Functions as trees, printed by our own program (wip/tools/gen3.lean). -/
import Derived.Test.YtlginbmjiecglaaT0
namespace Go.Proofs.Ytlginbmjiecglaa.T
open Go Go.Abs Go.Proofs.Ytlginbmjiecglaa
set_option maxRecDepth 10000
variable {H : FuncId → Option (List AV → Mem → R)}
noncomputable def f2 : List AV → CM := ap0 <|
 CM.call 1 [] fun _ =>
 CM.ret .undef
theorem f2_ok (h : H 2 = none) : EqD (Rl H) f2 (fun xs m => run (EH H) (.fn 2) xs m) := zE fun _ => run_eq 400 h (by kernel_rfl) (by kernel_rfl)
noncomputable def g3_0 : List AV → CM := apS fun t0 => apS fun t1 => apS fun t5 => ap0 <|
 CM.go 12289 [t0, t1, t5, (.int .i64 0)]
theorem g3_0_ok : EqD (Rl H) g3_0 (fun xs m => goR (EH H) Mk 12288 xs m) := sE fun _ => sE fun _ => sE fun _ => zE fun _ => goR_eq 400 (by kernel_rfl)
noncomputable def g3_1 : List AV → CM := apS fun t0 => apS fun t1 => apS fun t5 => apS fun t7 => ap0 <|
 CM.pu (p2 (binA Try.prog .lss 3) t7 (.int .i64 8)) fun x0 =>
 CM.cond x0 (
 CM.go 12290 [t0, t1, t5, t7]) (
 CM.go 12292 [t0, t5])
theorem g3_1_ok : EqD (Rl H) g3_1 (fun xs m => goR (EH H) Mk 12289 xs m) := sE fun _ => sE fun _ => sE fun _ => sE fun _ => zE fun _ => goR_eq 400 (by kernel_rfl)
noncomputable def g3_2 : List AV → CM := apS fun t0 => apS fun t1 => apS fun t5 => apS fun t7 => ap0 <|
 CM.pu (p2 (binA Try.prog .add 3) (.int .i64 65) t7) fun x0 =>
 CM.pu (p1 (convA Try.prog 3 5) x0) fun x1 =>
 CM.al (bsA 1 3 [(.int .u8 0)] [(0, x1), (1, (.int .u8 88)), (2, (.int .u8 89))]) fun x2 =>
 CM.rm (q1 (toStrA Try.prog 30) x2 ) fun x3 =>
 CM.pu (p2 (binA Try.prog .rem 22) t1 (.int .u64 19)) fun x4 =>
 CM.call 7 [t5, x3, x4] fun x5 =>
 CM.pu (p2 (binA Try.prog .neq 25) x5 (.int .i64 0)) fun x6 =>
 CM.cond x6 (
 CM.ret (.bool false)) (
 CM.go 12291 [t0, t1, t5, t7])
theorem g3_2_ok : EqD (Rl H) g3_2 (fun xs m => goR (EH H) Mk 12290 xs m) := sE fun _ => sE fun _ => sE fun _ => sE fun _ => zE fun _ => goR_eq 400 (by kernel_rfl)
noncomputable def g3_3 : List AV → CM := apS fun t0 => apS fun t1 => apS fun t5 => apS fun t7 => ap0 <|
 CM.pu (p2 (binA Try.prog .add 3) t7 (.int .i64 1)) fun x0 =>
 CM.go 12289 [t0, t1, t5, x0]
theorem g3_3_ok : EqD (Rl H) g3_3 (fun xs m => goR (EH H) Mk 12291 xs m) := sE fun _ => sE fun _ => sE fun _ => sE fun _ => zE fun _ => goR_eq 400 (by kernel_rfl)
noncomputable def g3_4 : List AV → CM := apS fun t0 => apS fun t5 => ap0 <|
 CM.go 12293 [t0, t5, (.int .i64 0)]
theorem g3_4_ok : EqD (Rl H) g3_4 (fun xs m => goR (EH H) Mk 12292 xs m) := sE fun _ => sE fun _ => zE fun _ => goR_eq 400 (by kernel_rfl)
noncomputable def g3_5 : List AV → CM := apS fun t0 => apS fun t5 => apS fun t8 => ap0 <|
 CM.pu (p2 (binA Try.prog .lss 3) t8 t0) fun x0 =>
 CM.cond x0 (
 CM.go 12294 [t0, t5, t8]) (
 CM.go 12296 [t5])
theorem g3_5_ok : EqD (Rl H) g3_5 (fun xs m => goR (EH H) Mk 12293 xs m) := sE fun _ => sE fun _ => sE fun _ => zE fun _ => goR_eq 400 (by kernel_rfl)
noncomputable def g3_6 : List AV → CM := apS fun t0 => apS fun t5 => apS fun t8 => ap0 <|
 CM.pu (p2 (binA Try.prog .rem 3) t8 (.int .i64 8)) fun x0 =>
 CM.pu (p2 (binA Try.prog .add 3) (.int .i64 65) x0) fun x1 =>
 CM.pu (p1 (convA Try.prog 3 5) x1) fun x2 =>
 CM.al (bsA 1 3 [(.int .u8 0)] [(0, x2), (1, (.int .u8 88)), (2, (.int .u8 89))]) fun x3 =>
 CM.rm (q1 (toStrA Try.prog 30) x3 ) fun x4 =>
 CM.call 8 [t5, x4] fun x5 =>
 CM.pu (p1 (fun a => extractA a 0) x5) fun x6 =>
 CM.pu (p1 (fun a => extractA a 1) x5) fun x7 =>
 CM.pu (p2 (binA Try.prog .neq 25) x7 (.int .i64 0)) fun x8 =>
 CM.ifv x8 (
 CM.ret (.bool false)) (
 CM.pu (p2 (binA Try.prog .add 3) t8 (.int .i64 1)) fun x9 =>
 CM.pu (p1 (convA Try.prog 3 22) x9) fun x10 =>
 CM.pu (p2 (binA Try.prog .neq 22) x6 x10) fun x11 =>
 CM.cond x11 (
 CM.ret (.bool false)) (
 CM.go 12295 [t0, t5, t8]))
theorem g3_6_ok : EqD (Rl H) g3_6 (fun xs m => goR (EH H) Mk 12294 xs m) := sE fun _ => sE fun _ => sE fun _ => zE fun _ => goR_eq 400 (by kernel_rfl)
noncomputable def g3_7 : List AV → CM := apS fun t0 => apS fun t5 => apS fun t8 => ap0 <|
 CM.pu (p2 (binA Try.prog .add 3) t8 (.int .i64 1)) fun x0 =>
 CM.go 12293 [t0, t5, x0]
theorem g3_7_ok : EqD (Rl H) g3_7 (fun xs m => goR (EH H) Mk 12295 xs m) := sE fun _ => sE fun _ => sE fun _ => zE fun _ => goR_eq 400 (by kernel_rfl)
noncomputable def g3_8 : List AV → CM := apS fun t5 => ap0 <|
 CM.call 8 [t5, (.str [65, 88, 89])] fun x0 =>
 CM.pu (p1 (fun a => extractA a 0) x0) fun _ =>
 CM.pu (p1 (fun a => extractA a 1) x0) fun x2 =>
 CM.call 7 [t5, (.str [90, 90, 90]), (.int .u64 0)] fun x3 =>
 CM.pu (p2 (binA Try.prog .eql 25) x3 (.int .i64 2)) fun x4 =>
 CM.ifv x4 (
 CM.call 7 [t5, (.str [65, 88, 89]), (.int .u64 0)] fun x5 =>
 CM.pu (p2 (binA Try.prog .eql 25) x5 (.int .i64 45)) fun x6 =>
 CM.ifv x6 (
 CM.pu (p2 (binA Try.prog .eql 25) x2 (.int .i64 2)) fun x7 =>
 CM.ifv x7 (
 CM.call 7 [t5, (.str [90, 90, 90]), (.int .u64 19)] fun x8 =>
 CM.pu (p2 (binA Try.prog .eql 25) x8 (.int .i64 21)) fun x9 =>
 CM.ret x9) (
 CM.ret (.bool false))) (
 CM.ret (.bool false))) (
 CM.ret (.bool false))
theorem g3_8_ok : EqD (Rl H) g3_8 (fun xs m => goR (EH H) Mk 12296 xs m) := sE fun _ => zE fun _ => goR_eq 400 (by kernel_rfl)
noncomputable def f3 : List AV → CM := apS fun a0 => apS fun a1 => ap0 <|
 CM.call 4 [a0, (.int .i64 64)] fun x0 =>
 CM.pu (p2 (binA Try.prog .add 3) (.int .i64 1) x0) fun x1 =>
 CM.call 5 [x1] fun x2 =>
 CM.pu (p1 (fun a => extractA a 0) x2) fun x3 =>
 CM.pu (p1 (fun a => extractA a 1) x2) fun x4 =>
 CM.call 6 [] fun x5 =>
 CM.pu (p1 (unA .not) x5) fun x6 =>
 CM.ifv x6 (
 CM.ret (.bool false)) (
 CM.pu (p2 (binA Try.prog .neq 25) x4 (.int .i64 0)) fun x7 =>
 CM.ifv x7 (
 CM.ret (.bool false)) (
 CM.pu (p2 (binA Try.prog .eql 24) x3 (.ptr none)) fun x8 =>
 CM.cond x8 (
 CM.ret (.bool false)) (
 CM.go 12288 [x1, a1, x3])))
theorem f3_ok (h : H 3 = none) : EqD (Rl H) f3 (fun xs m => run (EH H) (.fn 3) xs m) := sE fun _ => sE fun _ => zE fun _ => run_eq 400 h (by kernel_rfl) (by kernel_rfl)
noncomputable def g4_0 : List AV → CM := apS fun t0 => ap0 <|
 CM.ret t0
theorem g4_0_ok : EqD (Rl H) g4_0 (fun xs m => goR (EH H) Mk 16384 xs m) := sE fun _ => zE fun _ => goR_eq 400 (by kernel_rfl)
noncomputable def f4 : List AV → CM := apS fun a0 => apS fun a1 => ap0 <|
 CM.pu (p2 (binA Try.prog .rem 3) a0 a1) fun x0 =>
 CM.pu (p2 (binA Try.prog .lss 3) x0 (.int .i64 0)) fun x1 =>
 CM.cond x1 (
 CM.pu (p2 (binA Try.prog .add 3) x0 a1) fun x2 =>
 CM.go 16384 [x2]) (
 CM.go 16384 [x0])
theorem f4_ok (h : H 4 = none) : EqD (Rl H) f4 (fun xs m => run (EH H) (.fn 4) xs m) := sE fun _ => sE fun _ => zE fun _ => run_eq 400 h (by kernel_rfl) (by kernel_rfl)
noncomputable def g5_0 : List AV → CM := apS fun t0 => ap0 <|
 CM.pu (p1 (buildA Try.prog 38) [(0, t0)]) fun x0 =>
 CM.al (boxA x0) fun x1 =>
 CM.call 9 [(.int .i64 8)] fun x2 =>
 CM.pu (p1 (fun a => extractA a 0) x2) fun x3 =>
 CM.pu (p1 (fun a => extractA a 1) x2) fun _ =>
 CM.pu (p1 nnA x1) fun x5 =>
 CM.pu (p1 (fun a => fieldAddrA Try.prog 38 a 1) x5) fun x6 =>
 CM.st (fun m => stV m x6 x3 1) <|
 CM.call 10 [(.int .i64 64)] fun x8 =>
 CM.pu (p1 (fun a => extractA a 0) x8) fun x9 =>
 CM.pu (p1 (fun a => extractA a 1) x8) fun _ =>
 CM.pu (p1 nnA x1) fun x11 =>
 CM.pu (p1 (fun a => fieldAddrA Try.prog 38 a 2) x11) fun x12 =>
 CM.st (fun m => stV m x12 x9 1) <|
 CM.call 11 [t0] fun x14 =>
 CM.pu (p1 (fun a => extractA a 0) x14) fun x15 =>
 CM.pu (p1 (fun a => extractA a 1) x14) fun _ =>
 CM.pu (p1 nnA x1) fun x17 =>
 CM.pu (p1 (fun a => fieldAddrA Try.prog 38 a 3) x17) fun x18 =>
 CM.st (fun m => stV m x18 x15 1) <|
 CM.ret (.tup [x1, (.int .i64 0)])
theorem g5_0_ok : EqD (Rl H) g5_0 (fun xs m => goR (EH H) Mk 20480 xs m) := sE fun _ => zE fun _ => goR_eq 400 (by kernel_rfl)
noncomputable def f5 : List AV → CM := apS fun a0 => ap0 <|
 CM.pu (p2 (binA Try.prog .lss 3) a0 (.int .i64 1)) fun x0 =>
 CM.ifv x0 (
 CM.ret (.tup [(.ptr none), (.int .i64 1)])) (
 CM.pu (p2 (binA Try.prog .gtr 3) a0 (.int .i64 64)) fun x1 =>
 CM.cond x1 (
 CM.ret (.tup [(.ptr none), (.int .i64 1)])) (
 CM.go 20480 [a0]))
theorem f5_ok (h : H 5 = none) : EqD (Rl H) f5 (fun xs m => run (EH H) (.fn 5) xs m) := sE fun _ => zE fun _ => run_eq 400 h (by kernel_rfl) (by kernel_rfl)
noncomputable def g6_0 : List AV → CM := apS fun t1 => ap0 <|
 CM.call 7 [t1, (.str [69, 85, 82]), (.int .u64 2)] fun x0 =>
 CM.call 7 [t1, (.str [69, 85, 82]), (.int .u64 2)] fun x1 =>
 CM.call 8 [t1, (.str [69, 85, 82])] fun x2 =>
 CM.pu (p1 (fun a => extractA a 0) x2) fun x3 =>
 CM.pu (p1 (fun a => extractA a 1) x2) fun x4 =>
 CM.call 8 [t1, (.str [85, 83, 68])] fun x5 =>
 CM.pu (p1 (fun a => extractA a 0) x5) fun _ =>
 CM.pu (p1 (fun a => extractA a 1) x5) fun x7 =>
 CM.call 13 [(.int .i64 1000), (.int .i64 2)] fun x8 =>
 CM.call 12 [t1, (.int .u64 1), x8] fun x9 =>
 CM.call 14 [t1, (.str [69, 85, 82])] fun x10 =>
 CM.pu (p1 (fun a => extractA a 0) x10) fun x11 =>
 CM.pu (p1 (fun a => extractA a 1) x10) fun x12 =>
 CM.al (some (.cells [(.int .i64 0), (.int .u64 0), (.int .i64 0)] false, pB)) fun x13 =>
 CM.st (fun m => stV m x13 x11 3) <|
 CM.pu (p2 (binA Try.prog .eql 25) x0 (.int .i64 0)) fun x15 =>
 CM.ifv x15 (
 CM.pu (p2 (binA Try.prog .eql 25) x1 (.int .i64 45)) fun x16 =>
 CM.ifv x16 (
 CM.pu (p2 (binA Try.prog .eql 22) x3 (.int .u64 1)) fun x17 =>
 CM.ifv x17 (
 CM.pu (p2 (binA Try.prog .eql 25) x4 (.int .i64 0)) fun x18 =>
 CM.ifv x18 (
 CM.pu (p2 (binA Try.prog .eql 25) x7 (.int .i64 41)) fun x19 =>
 CM.ifv x19 (
 CM.pu (p2 (binA Try.prog .eql 25) x9 (.int .i64 0)) fun x20 =>
 CM.ifv x20 (
 CM.pu (p2 (binA Try.prog .eql 25) x12 (.int .i64 0)) fun x21 =>
 CM.ifv x21 (
 CM.rm (q1 (loadA Try.prog 48) x13 ) fun x22 =>
 CM.call 13 [(.int .i64 (-1000)), (.int .i64 2)] fun x24 =>
 CM.memo fun m25 =>
 CM.chk (q1 (loadA Try.prog 48) x13 m25) x22 <|
 CM.pu (p2 (binA Try.prog .eql 48) x22 x24) fun x26 =>
 CM.ret x26) (
 CM.ret (.bool false))) (
 CM.ret (.bool false))) (
 CM.ret (.bool false))) (
 CM.ret (.bool false))) (
 CM.ret (.bool false))) (
 CM.ret (.bool false))) (
 CM.ret (.bool false))
theorem g6_0_ok : EqD (Rl H) g6_0 (fun xs m => goR (EH H) Mk 24576 xs m) := sE fun _ => zE fun _ => goR_eq 400 (by kernel_rfl)
noncomputable def f6 : List AV → CM := ap0 <|
 CM.call 5 [(.int .i64 4)] fun x0 =>
 CM.pu (p1 (fun a => extractA a 0) x0) fun x1 =>
 CM.pu (p1 (fun a => extractA a 1) x0) fun x2 =>
 CM.pu (p2 (binA Try.prog .neq 25) x2 (.int .i64 0)) fun x3 =>
 CM.ifv x3 (
 CM.ret (.bool false)) (
 CM.pu (p2 (binA Try.prog .eql 24) x1 (.ptr none)) fun x4 =>
 CM.cond x4 (
 CM.ret (.bool false)) (
 CM.go 24576 [x1]))
theorem f6_ok (h : H 6 = none) : EqD (Rl H) f6 (fun xs m => run (EH H) (.fn 6) xs m) := zE fun _ => run_eq 400 h (by kernel_rfl) (by kernel_rfl)
noncomputable def g7_0 : List AV → CM := ap0 <|
 CM.ret (.int .i64 0)
theorem g7_0_ok : EqD (Rl H) g7_0 (fun xs m => goR (EH H) Mk 28672 xs m) := zE fun _ => goR_eq 400 (by kernel_rfl)
noncomputable def f7 : List AV → CM := apS fun a0 => apS fun a1 => apS fun a2 => ap0 <|
 CM.pu (p1 nnA a0) fun x0 =>
 CM.pu (p1 (fun a => fieldAddrA Try.prog 38 a 1) x0) fun x1 =>
 CM.rm (q1 (loadA Try.prog 34) x1 ) fun x2 =>
 CM.call 15 [x2, a1] fun x3 =>
 CM.pu (p1 (fun a => extractA a 0) x3) fun x4 =>
 CM.pu (p1 (fun a => extractA a 1) x3) fun x5 =>
 CM.al (some (.cells [(.str []), (.int .i64 0), (.int .i64 0), (.int .u64 0)] false, pB)) fun x6 =>
 CM.st (fun m => stV m x6 x4 4) <|
 CM.call 16 [a1] fun x8 =>
 CM.pu (p1 (unA .not) x8) fun x9 =>
 CM.cond x9 (
 CM.ret (.int .i64 41)) (
 CM.pu (p2 (binA Try.prog .gtr 22) a2 (.int .u64 18)) fun x10 =>
 CM.cond x10 (
 CM.ret (.int .i64 21)) (
 CM.cond x5 (
 CM.ret (.int .i64 45)) (
 CM.pu (p1 nnA a0) fun x11 =>
 CM.pu (p1 (fun a => fieldAddrA Try.prog 38 a 1) x11) fun x12 =>
 CM.rm (q1 (loadA Try.prog 34) x12 ) fun x13 =>
 CM.pu (p1 (convA Try.prog 22 3) a2) fun x14 =>
 CM.pu (p1 (buildA Try.prog 44) [(0, a1), (1, x14)]) fun x15 =>
 CM.call 17 [x13, a1, x15] fun x16 =>
 CM.pu (p1 (unA .not) x16) fun x17 =>
 CM.cond x17 (
 CM.ret (.int .i64 2)) (
 CM.go 28672 []))))
theorem f7_ok (h : H 7 = none) : EqD (Rl H) f7 (fun xs m => run (EH H) (.fn 7) xs m) := sE fun _ => sE fun _ => sE fun _ => zE fun _ => run_eq 400 h (by kernel_rfl) (by kernel_rfl)
noncomputable def g8_0 : List AV → CM := apS fun t0 => apS fun t1 => ap0 <|
 CM.pu (p1 nnA t0) fun x0 =>
 CM.pu (p1 (fun a => fieldAddrA Try.prog 38 a 3) x0) fun x1 =>
 CM.rm (q1 (loadA Try.prog 36) x1 ) fun x2 =>
 CM.memo fun m3 =>
 CM.call 18 [x2] fun x4 =>
 CM.pu (p1 nnA t0) fun x6 =>
 CM.pu (p1 (fun a => fieldAddrA Try.prog 38 a 0) x6) fun x7 =>
 CM.rm (q1 (loadA Try.prog 3) x7 ) fun x8 =>
 CM.chk (q1 (loadA Try.prog 3) x7 m3) x8 <|
 CM.pu (p2 (binA Try.prog .geq 3) x4 x8) fun x9 =>
 CM.ifv x9 (
 CM.ret (.tup [(.int .u64 0), (.int .i64 2)])) (
 CM.pu (p1 nnA t0) fun x10 =>
 CM.pu (p1 (fun a => fieldAddrA Try.prog 38 a 4) x10) fun x11 =>
 CM.rm (q1 (loadA Try.prog 22) x11 ) fun x12 =>
 CM.pu (p2 (binA Try.prog .geq 22) x12 (.int .u64 72057594037927935)) fun x13 =>
 CM.cond x13 (
 CM.ret (.tup [(.int .u64 0), (.int .i64 2)])) (
 CM.go 32769 [t0, t1]))
theorem g8_0_ok : EqD (Rl H) g8_0 (fun xs m => goR (EH H) Mk 32768 xs m) := sE fun _ => sE fun _ => zE fun _ => goR_eq 400 (by kernel_rfl)
noncomputable def g8_1 : List AV → CM := apS fun t0 => apS fun t1 => ap0 <|
 CM.pu (p1 nnA t0) fun x0 =>
 CM.pu (p1 (fun a => fieldAddrA Try.prog 38 a 4) x0) fun x1 =>
 CM.rm (q1 (loadA Try.prog 22) x1 ) fun x2 =>
 CM.pu (p2 (binA Try.prog .add 22) x2 (.int .u64 1)) fun x3 =>
 CM.pu (p1 nnA t0) fun x4 =>
 CM.pu (p1 (fun a => fieldAddrA Try.prog 38 a 4) x4) fun x5 =>
 CM.st (fun m => stV m x5 x3 1) <|
 CM.pu (p1 nnA t0) fun x7 =>
 CM.pu (p1 (fun a => fieldAddrA Try.prog 38 a 3) x7) fun x8 =>
 CM.rm (q1 (loadA Try.prog 36) x8 ) fun x9 =>
 CM.pu (p1 nnA t0) fun x10 =>
 CM.pu (p1 (fun a => fieldAddrA Try.prog 38 a 4) x10) fun x11 =>
 CM.rm (q1 (loadA Try.prog 22) x11 ) fun x12 =>
 CM.pu (p1 nnA t0) fun x13 =>
 CM.pu (p1 (fun a => fieldAddrA Try.prog 38 a 4) x13) fun x14 =>
 CM.rm (q1 (loadA Try.prog 22) x14 ) fun x15 =>
 CM.pu (p1 (buildA Try.prog 54) [(0, x15), (1, t1)]) fun x16 =>
 CM.call 19 [x9, x12, x16] fun _ =>
 CM.pu (p1 nnA t0) fun x20 =>
 CM.pu (p1 (fun a => fieldAddrA Try.prog 38 a 4) x20) fun x21 =>
 CM.rm (q1 (loadA Try.prog 22) x21 ) fun x22 =>
 CM.ret (.tup [x22, (.int .i64 0)])
theorem g8_1_ok : EqD (Rl H) g8_1 (fun xs m => goR (EH H) Mk 32769 xs m) := sE fun _ => sE fun _ => zE fun _ => goR_eq 400 (by kernel_rfl)
noncomputable def f8 : List AV → CM := apS fun a0 => apS fun a1 => ap0 <|
 CM.pu (p1 nnA a0) fun x0 =>
 CM.pu (p1 (fun a => fieldAddrA Try.prog 38 a 1) x0) fun x1 =>
 CM.rm (q1 (loadA Try.prog 34) x1 ) fun x2 =>
 CM.call 15 [x2, a1] fun x3 =>
 CM.pu (p1 (fun a => extractA a 0) x3) fun x4 =>
 CM.pu (p1 (fun a => extractA a 1) x3) fun x5 =>
 CM.al (some (.cells [(.str []), (.int .i64 0), (.int .i64 0), (.int .u64 0)] false, pB)) fun x6 =>
 CM.st (fun m => stV m x6 x4 4) <|
 CM.pu (p1 (unA .not) x5) fun x8 =>
 CM.cond x8 (
 CM.ret (.tup [(.int .u64 0), (.int .i64 41)])) (
 CM.go 32768 [a0, a1])
theorem f8_ok (h : H 8 = none) : EqD (Rl H) f8 (fun xs m => run (EH H) (.fn 8) xs m) := sE fun _ => sE fun _ => zE fun _ => run_eq 400 h (by kernel_rfl) (by kernel_rfl)
noncomputable def g9_0 : List AV → CM := apS fun t0 => ap0 <|
 CM.pu (p1 (buildA Try.prog 68) [(2, t0)]) fun x0 =>
 CM.al (boxA x0) fun x1 =>
 CM.ret (.tup [x1, (.int .i64 0)])
theorem g9_0_ok : EqD (Rl H) g9_0 (fun xs m => goR (EH H) Mk 36864 xs m) := sE fun _ => zE fun _ => goR_eq 400 (by kernel_rfl)
noncomputable def f9 : List AV → CM := apS fun a0 => ap0 <|
 CM.pu (p2 (binA Try.prog .lss 3) a0 (.int .i64 1)) fun x0 =>
 CM.ifv x0 (
 CM.ret (.tup [(.ptr none), (.int .i64 1)])) (
 CM.pu (p2 (binA Try.prog .gtr 3) a0 (.int .i64 4096)) fun x1 =>
 CM.cond x1 (
 CM.ret (.tup [(.ptr none), (.int .i64 1)])) (
 CM.go 36864 [a0]))
theorem f9_ok (h : H 9 = none) : EqD (Rl H) f9 (fun xs m => run (EH H) (.fn 9) xs m) := sE fun _ => zE fun _ => run_eq 400 h (by kernel_rfl) (by kernel_rfl)
noncomputable def g10_0 : List AV → CM := apS fun t0 => ap0 <|
 CM.pu (p1 (buildA Try.prog 71) [(2, t0)]) fun x0 =>
 CM.al (boxA x0) fun x1 =>
 CM.ret (.tup [x1, (.int .i64 0)])
theorem g10_0_ok : EqD (Rl H) g10_0 (fun xs m => goR (EH H) Mk 40960 xs m) := sE fun _ => zE fun _ => goR_eq 400 (by kernel_rfl)
noncomputable def f10 : List AV → CM := apS fun a0 => ap0 <|
 CM.pu (p2 (binA Try.prog .lss 3) a0 (.int .i64 1)) fun x0 =>
 CM.ifv x0 (
 CM.ret (.tup [(.ptr none), (.int .i64 1)])) (
 CM.pu (p2 (binA Try.prog .gtr 3) a0 (.int .i64 4096)) fun x1 =>
 CM.cond x1 (
 CM.ret (.tup [(.ptr none), (.int .i64 1)])) (
 CM.go 40960 [a0]))
theorem f10_ok (h : H 10 = none) : EqD (Rl H) f10 (fun xs m => run (EH H) (.fn 10) xs m) := sE fun _ => zE fun _ => run_eq 400 h (by kernel_rfl) (by kernel_rfl)
noncomputable def g11_0 : List AV → CM := apS fun t0 => ap0 <|
 CM.pu (p1 (buildA Try.prog 75) [(2, t0)]) fun x0 =>
 CM.al (boxA x0) fun x1 =>
 CM.ret (.tup [x1, (.int .i64 0)])
theorem g11_0_ok : EqD (Rl H) g11_0 (fun xs m => goR (EH H) Mk 45056 xs m) := sE fun _ => zE fun _ => goR_eq 400 (by kernel_rfl)
noncomputable def f11 : List AV → CM := apS fun a0 => ap0 <|
 CM.pu (p2 (binA Try.prog .lss 3) a0 (.int .i64 1)) fun x0 =>
 CM.ifv x0 (
 CM.ret (.tup [(.ptr none), (.int .i64 1)])) (
 CM.pu (p2 (binA Try.prog .gtr 3) a0 (.int .i64 4096)) fun x1 =>
 CM.cond x1 (
 CM.ret (.tup [(.ptr none), (.int .i64 1)])) (
 CM.go 45056 [a0]))
theorem f11_ok (h : H 11 = none) : EqD (Rl H) f11 (fun xs m => run (EH H) (.fn 11) xs m) := sE fun _ => zE fun _ => run_eq 400 h (by kernel_rfl) (by kernel_rfl)
noncomputable def g12_0 : List AV → CM := apS fun t0 => apS fun t5 => apS fun t7 => apS fun t8 => apS fun t9 => ap0 <|
 CM.pu (p2 (binA Try.prog .eql 25) t9 (.int .i64 0)) fun x0 =>
 CM.cond x0 (
 CM.pu (p1 (fun a => fieldAddrA Try.prog 44 a 2) t8) fun x1 =>
 CM.pu (p1 (fun a => fieldAddrA Try.prog 54 a 2) t7) fun x2 =>
 CM.pu (p1 (fun a => fieldAddrA Try.prog 48 a 0) t5) fun x3 =>
 CM.rm (q1 (loadA Try.prog 42) x3 ) fun x4 =>
 CM.call 22 [x1, x2, x4] fun x5 =>
 CM.go 49153 [t0, t7, t8, x5]) (
 CM.go 49153 [t0, t7, t8, t9])
theorem g12_0_ok : EqD (Rl H) g12_0 (fun xs m => goR (EH H) Mk 49152 xs m) := sE fun _ => sE fun _ => sE fun _ => sE fun _ => sE fun _ => zE fun _ => goR_eq 400 (by kernel_rfl)
noncomputable def g12_1 : List AV → CM := apS fun t0 => apS fun t7 => apS fun t8 => apS fun t9 => ap0 <|
 CM.pu (p2 (binA Try.prog .eql 25) t9 (.int .i64 0)) fun x0 =>
 CM.cond x0 (
 CM.rm (q1 (loadA Try.prog 54) t7 ) fun x1 =>
 CM.call 23 [t0, x1] fun _ =>
 CM.pu (p1 nnA t0) fun x3 =>
 CM.pu (p1 (fun a => fieldAddrA Try.prog 38 a 1) x3) fun x4 =>
 CM.rm (q1 (loadA Try.prog 34) x4 ) fun x5 =>
 CM.pu (p1 (fun a => fieldAddrA Try.prog 44 a 0) t8) fun x6 =>
 CM.rm (q1 (loadA Try.prog 9) x6 ) fun x7 =>
 CM.rm (q1 (loadA Try.prog 44) t8 ) fun x8 =>
 CM.call 17 [x5, x7, x8] fun _ =>
 CM.go 49154 [t9]) (
 CM.go 49154 [t9])
theorem g12_1_ok : EqD (Rl H) g12_1 (fun xs m => goR (EH H) Mk 49153 xs m) := sE fun _ => sE fun _ => sE fun _ => sE fun _ => zE fun _ => goR_eq 400 (by kernel_rfl)
noncomputable def g12_2 : List AV → CM := apS fun t9 => ap0 <|
 CM.ret t9
theorem g12_2_ok : EqD (Rl H) g12_2 (fun xs m => goR (EH H) Mk 49154 xs m) := sE fun _ => zE fun _ => goR_eq 400 (by kernel_rfl)
noncomputable def f12 : List AV → CM := apS fun a0 => apS fun a1 => apS fun a2 => ap0 <|
 CM.al (boxA a2) fun x0 =>
 CM.call 20 [a0, a1] fun x1 =>
 CM.pu (p1 (fun a => extractA a 0) x1) fun x2 =>
 CM.pu (p1 (fun a => extractA a 1) x1) fun x3 =>
 CM.pu (p1 (fun a => extractA a 2) x1) fun x4 =>
 CM.al (some (.cells [(.int .u64 0), (.str []), (.int .i64 0), (.int .u64 0)] false, pB)) fun x5 =>
 CM.al (some (.cells [(.str []), (.int .i64 0), (.int .i64 0), (.int .u64 0)] false, pB)) fun x6 =>
 CM.st (fun m => stV m x5 x2 4) <|
 CM.st (fun m => stV m x6 x3 4) <|
 CM.pu (p2 (binA Try.prog .eql 25) x4 (.int .i64 0)) fun x9 =>
 CM.cond x9 (
 CM.rm (q1 (loadA Try.prog 44) x6 ) fun x10 =>
 CM.rm (q1 (loadA Try.prog 48) x0 ) fun x11 =>
 CM.call 21 [x10, x11] fun x12 =>
 CM.go 49152 [a0, x0, x5, x6, x12]) (
 CM.go 49152 [a0, x0, x5, x6, x4])
theorem f12_ok (h : H 12 = none) : EqD (Rl H) f12 (fun xs m => run (EH H) (.fn 12) xs m) := sE fun _ => sE fun _ => sE fun _ => zE fun _ => run_eq 400 h (by kernel_rfl) (by kernel_rfl)
noncomputable def f13 : List AV → CM := apS fun a0 => apS fun a1 => ap0 <|
 CM.al (some (.cells [(.int .i64 0), (.int .u64 0), (.int .i64 0)] false, pB)) fun x0 =>
 CM.call 24 [a0] fun x1 =>
 CM.pu (p1 (buildA Try.prog 48) [(0, x1), (1, a1)]) fun x2 =>
 CM.st (fun m => stV m x0 x2 3) <|
 CM.resC Try.prog [ResultVar.cell 0 48] [x0]
theorem f13_ok (h : H 13 = none) : EqD (Rl H) f13 (fun xs m => run (EH H) (.fn 13) xs m) := sE fun _ => sE fun _ => zE fun _ => run_eq 400 h (by kernel_rfl) (by kernel_rfl)
noncomputable def g14_0 : List AV → CM := apS fun t4 => apS fun t6 => ap0 <|
 CM.pu (p1 (fun a => fieldAddrA Try.prog 44 a 2) t6) fun x0 =>
 CM.rm (q1 (loadA Try.prog 42) x0 ) fun x1 =>
 CM.pu (p1 (fun a => fieldAddrA Try.prog 44 a 1) t6) fun x2 =>
 CM.rm (q1 (loadA Try.prog 3) x2 ) fun x3 =>
 CM.pu (p1 (buildA Try.prog 48) [(0, x1), (1, x3)]) fun x4 =>
 CM.st (fun m => stV m t4 x4 3) <|
 CM.resC Try.prog [ResultVar.cell 0 48, ResultVar.tmp 1] [t4, (.int .i64 0)]
theorem g14_0_ok : EqD (Rl H) g14_0 (fun xs m => goR (EH H) Mk 57344 xs m) := sE fun _ => sE fun _ => zE fun _ => goR_eq 400 (by kernel_rfl)
noncomputable def f14 : List AV → CM := apS fun a0 => apS fun a1 => ap0 <|
 CM.al (some (.cells [(.int .i64 0), (.int .u64 0), (.int .i64 0)] false, pB)) fun x0 =>
 CM.pu (p1 nnA a0) fun x1 =>
 CM.pu (p1 (fun a => fieldAddrA Try.prog 38 a 1) x1) fun x2 =>
 CM.rm (q1 (loadA Try.prog 34) x2 ) fun x3 =>
 CM.call 15 [x3, a1] fun x4 =>
 CM.pu (p1 (fun a => extractA a 0) x4) fun x5 =>
 CM.pu (p1 (fun a => extractA a 1) x4) fun x6 =>
 CM.al (some (.cells [(.str []), (.int .i64 0), (.int .i64 0), (.int .u64 0)] false, pB)) fun x7 =>
 CM.st (fun m => stV m x7 x5 4) <|
 CM.pu (p1 (unA .not) x6) fun x9 =>
 CM.cond x9 (
 CM.pu (p1 (buildA Try.prog 48) []) fun x10 =>
 CM.st (fun m => stV m x0 x10 3) <|
 CM.resC Try.prog [ResultVar.cell 0 48, ResultVar.tmp 1] [x0, (.int .i64 41)]) (
 CM.go 57344 [x0, x7])
theorem f14_ok (h : H 14 = none) : EqD (Rl H) f14 (fun xs m => run (EH H) (.fn 14) xs m) := sE fun _ => sE fun _ => zE fun _ => run_eq 400 h (by kernel_rfl) (by kernel_rfl)
noncomputable def g15_0 : List AV → CM := apS fun t0 => apS fun t4 => apS fun t6 => ap0 <|
 CM.pu (p1 nnA t0) fun x0 =>
 CM.pu (p1 (fun a => fieldAddrA Try.prog 68 a 1) x0) fun x1 =>
 CM.rm (q1 (loadA Try.prog 66) x1 ) fun x2 =>
 CM.pu (p2 (indexAddrA Try.prog 66) x2 t6) fun x3 =>
 CM.rm (q1 (loadA Try.prog 44) x3 ) fun x4 =>
 CM.st (fun m => stV m t4 x4 4) <|
 CM.resC Try.prog [ResultVar.cell 0 44, ResultVar.tmp 1] [t4, (.bool true)]
theorem g15_0_ok : EqD (Rl H) g15_0 (fun xs m => goR (EH H) Mk 61440 xs m) := sE fun _ => sE fun _ => sE fun _ => zE fun _ => goR_eq 400 (by kernel_rfl)
noncomputable def f15 : List AV → CM := apS fun a0 => apS fun a1 => ap0 <|
 CM.al (some (.cells [(.str []), (.int .i64 0), (.int .i64 0), (.int .u64 0)] false, pB)) fun x0 =>
 CM.pu (p1 nnA a0) fun x1 =>
 CM.pu (p1 (fun a => fieldAddrA Try.prog 68 a 0) x1) fun x2 =>
 CM.rm (q1 (loadA Try.prog 65) x2 ) fun x3 =>
 CM.call 25 [x3, a1] fun x4 =>
 CM.pu (p1 (fun a => extractA a 0) x4) fun x5 =>
 CM.pu (p1 (fun a => extractA a 1) x4) fun x6 =>
 CM.pu (p1 (unA .not) x6) fun x7 =>
 CM.cond x7 (
 CM.al (some (.cells [(.str []), (.int .i64 0), (.int .i64 0), (.int .u64 0)] false, pB)) fun x8 =>
 CM.rm (q1 (loadA Try.prog 44) x8 ) fun x9 =>
 CM.st (fun m => stV m x0 x9 4) <|
 CM.resC Try.prog [ResultVar.cell 0 44, ResultVar.tmp 1] [x0, (.bool false)]) (
 CM.go 61440 [a0, x0, x5])
theorem f15_ok (h : H 15 = none) : EqD (Rl H) f15 (fun xs m => run (EH H) (.fn 15) xs m) := sE fun _ => sE fun _ => zE fun _ => run_eq 400 h (by kernel_rfl) (by kernel_rfl)
noncomputable def g16_0 : List AV → CM := apS fun t0 => apS fun t3 => ap0 <|
 CM.pu (p1 (lenT Try.prog 9) t0) fun x0 =>
 CM.pu (p2 (binA Try.prog .lss 3) t3 x0) fun x1 =>
 CM.cond x1 (
 CM.go 65537 [t0, t3]) (
 CM.go 65539 [t0])
theorem g16_0_ok : EqD (Rl H) g16_0 (fun xs m => goR (EH H) Mk 65536 xs m) := sE fun _ => sE fun _ => zE fun _ => goR_eq 400 (by kernel_rfl)
noncomputable def g16_1 : List AV → CM := apS fun t0 => apS fun t3 => ap0 <|
 CM.pu (p2 (indexA Try.prog 9) t0 t3) fun x0 =>
 CM.pu (p2 (binA Try.prog .lss 5) x0 (.int .u8 65)) fun x1 =>
 CM.ifv x1 (
 CM.ret (.bool false)) (
 CM.pu (p2 (indexA Try.prog 9) t0 t3) fun x2 =>
 CM.pu (p2 (binA Try.prog .gtr 5) x2 (.int .u8 90)) fun x3 =>
 CM.cond x3 (
 CM.ret (.bool false)) (
 CM.go 65538 [t0, t3]))
theorem g16_1_ok : EqD (Rl H) g16_1 (fun xs m => goR (EH H) Mk 65537 xs m) := sE fun _ => sE fun _ => zE fun _ => goR_eq 400 (by kernel_rfl)
noncomputable def g16_2 : List AV → CM := apS fun t0 => apS fun t3 => ap0 <|
 CM.pu (p2 (binA Try.prog .add 3) t3 (.int .i64 1)) fun x0 =>
 CM.go 65536 [t0, x0]
theorem g16_2_ok : EqD (Rl H) g16_2 (fun xs m => goR (EH H) Mk 65538 xs m) := sE fun _ => sE fun _ => zE fun _ => goR_eq 400 (by kernel_rfl)
noncomputable def g16_3 : List AV → CM := apS fun t0 => ap0 <|
 CM.pu (p1 (lenT Try.prog 9) t0) fun x0 =>
 CM.pu (p2 (binA Try.prog .eql 3) x0 (.int .i64 3)) fun x1 =>
 CM.ret x1
theorem g16_3_ok : EqD (Rl H) g16_3 (fun xs m => goR (EH H) Mk 65539 xs m) := sE fun _ => zE fun _ => goR_eq 400 (by kernel_rfl)
noncomputable def f16 : List AV → CM := apS fun a0 => ap0 <|
 CM.go 65536 [a0, (.int .i64 0)]
theorem f16_ok (h : H 16 = none) : EqD (Rl H) f16 (fun xs m => run (EH H) (.fn 16) xs m) := sE fun _ => zE fun _ => run_eq 400 h (by kernel_rfl) (by kernel_rfl)
noncomputable def g17_0 : List AV → CM := ap0 <|
 CM.ret (.bool true)
theorem g17_0_ok : EqD (Rl H) g17_0 (fun xs m => goR (EH H) Mk 69632 xs m) := zE fun _ => goR_eq 400 (by kernel_rfl)
noncomputable def f17 : List AV → CM := apS fun a0 => apS fun a1 => apS fun a2 => ap0 <|
 CM.al (boxA a2) fun x0 =>
 CM.pu (p1 nnA a0) fun x1 =>
 CM.pu (p1 (fun a => fieldAddrA Try.prog 68 a 0) x1) fun x2 =>
 CM.rm (q1 (loadA Try.prog 65) x2 ) fun x3 =>
 CM.call 25 [x3, a1] fun x4 =>
 CM.pu (p1 (fun a => extractA a 0) x4) fun x5 =>
 CM.pu (p1 (fun a => extractA a 1) x4) fun x6 =>
 CM.cond x6 (
 CM.pu (p1 nnA a0) fun x7 =>
 CM.pu (p1 (fun a => fieldAddrA Try.prog 68 a 1) x7) fun x8 =>
 CM.rm (q1 (loadA Try.prog 66) x8 ) fun x9 =>
 CM.rm (q1 (loadA Try.prog 44) x0 ) fun x10 =>
 CM.pu (p2 (indexAddrA Try.prog 66) x9 x5) fun x11 =>
 CM.st (fun m => stV m x11 x10 4) <|
 CM.go 69632 []) (
 CM.pu (p1 nnA a0) fun x15 =>
 CM.pu (p1 (fun a => fieldAddrA Try.prog 68 a 0) x15) fun x16 =>
 CM.rm (q1 (loadA Try.prog 65) x16 ) fun x17 =>
 CM.pu (p1 (lenT Try.prog 65) x17) fun x18 =>
 CM.pu (p1 nnA a0) fun x19 =>
 CM.pu (p1 (fun a => fieldAddrA Try.prog 68 a 2) x19) fun x20 =>
 CM.rm (q1 (loadA Try.prog 3) x20 ) fun x21 =>
 CM.pu (p2 (binA Try.prog .geq 3) x18 x21) fun x22 =>
 CM.cond x22 (
 CM.ret (.bool false)) (
 CM.pu (p1 nnA a0) fun x23 =>
 CM.pu (p1 (fun a => fieldAddrA Try.prog 68 a 0) x23) fun x24 =>
 CM.rm (q1 (loadA Try.prog 65) x24 ) fun x25 =>
 CM.al (bsA 1 1 [(.str [])] [(0, a1)]) fun x26 =>
 CM.call 26 [x25, x5, x26] fun x27 =>
 CM.pu (p1 nnA a0) fun x28 =>
 CM.pu (p1 (fun a => fieldAddrA Try.prog 68 a 0) x28) fun x29 =>
 CM.st (fun m => stV m x29 x27 1) <|
 CM.pu (p1 nnA a0) fun x31 =>
 CM.pu (p1 (fun a => fieldAddrA Try.prog 68 a 1) x31) fun x32 =>
 CM.rm (q1 (loadA Try.prog 66) x32 ) fun x33 =>
 CM.rm (q1 (loadA Try.prog 44) x0 ) fun x34 =>
 CM.al (bsA 4 1 [(.str []), (.int .i64 0), (.int .i64 0), (.int .u64 0)] [(0, x34)]) fun x35 =>
 CM.call 27 [x33, x5, x35] fun x37 =>
 CM.pu (p1 nnA a0) fun x39 =>
 CM.pu (p1 (fun a => fieldAddrA Try.prog 68 a 1) x39) fun x40 =>
 CM.st (fun m => stV m x40 x37 1) <|
 CM.go 69632 []))
theorem f17_ok (h : H 17 = none) : EqD (Rl H) f17 (fun xs m => run (EH H) (.fn 17) xs m) := sE fun _ => sE fun _ => sE fun _ => zE fun _ => run_eq 400 h (by kernel_rfl) (by kernel_rfl)
noncomputable def f18 : List AV → CM := apS fun a0 => ap0 <|
 CM.pu (p1 nnA a0) fun x0 =>
 CM.pu (p1 (fun a => fieldAddrA Try.prog 75 a 0) x0) fun x1 =>
 CM.rm (q1 (loadA Try.prog 72) x1 ) fun x2 =>
 CM.pu (p1 (lenT Try.prog 72) x2) fun x3 =>
 CM.ret x3
theorem f18_ok (h : H 18 = none) : EqD (Rl H) f18 (fun xs m => run (EH H) (.fn 18) xs m) := sE fun _ => zE fun _ => run_eq 400 h (by kernel_rfl) (by kernel_rfl)
noncomputable def g19_0 : List AV → CM := ap0 <|
 CM.ret (.bool true)
theorem g19_0_ok : EqD (Rl H) g19_0 (fun xs m => goR (EH H) Mk 77824 xs m) := zE fun _ => goR_eq 400 (by kernel_rfl)
noncomputable def f19 : List AV → CM := apS fun a0 => apS fun a1 => apS fun a2 => ap0 <|
 CM.al (boxA a2) fun x0 =>
 CM.pu (p1 nnA a0) fun x1 =>
 CM.pu (p1 (fun a => fieldAddrA Try.prog 75 a 0) x1) fun x2 =>
 CM.rm (q1 (loadA Try.prog 72) x2 ) fun x3 =>
 CM.call 28 [x3, a1] fun x4 =>
 CM.pu (p1 (fun a => extractA a 0) x4) fun x5 =>
 CM.pu (p1 (fun a => extractA a 1) x4) fun x6 =>
 CM.cond x6 (
 CM.pu (p1 nnA a0) fun x7 =>
 CM.pu (p1 (fun a => fieldAddrA Try.prog 75 a 1) x7) fun x8 =>
 CM.rm (q1 (loadA Try.prog 73) x8 ) fun x9 =>
 CM.rm (q1 (loadA Try.prog 54) x0 ) fun x10 =>
 CM.pu (p2 (indexAddrA Try.prog 73) x9 x5) fun x11 =>
 CM.st (fun m => stV m x11 x10 4) <|
 CM.go 77824 []) (
 CM.pu (p1 nnA a0) fun x15 =>
 CM.pu (p1 (fun a => fieldAddrA Try.prog 75 a 0) x15) fun x16 =>
 CM.rm (q1 (loadA Try.prog 72) x16 ) fun x17 =>
 CM.pu (p1 (lenT Try.prog 72) x17) fun x18 =>
 CM.pu (p1 nnA a0) fun x19 =>
 CM.pu (p1 (fun a => fieldAddrA Try.prog 75 a 2) x19) fun x20 =>
 CM.rm (q1 (loadA Try.prog 3) x20 ) fun x21 =>
 CM.pu (p2 (binA Try.prog .geq 3) x18 x21) fun x22 =>
 CM.cond x22 (
 CM.ret (.bool false)) (
 CM.pu (p1 nnA a0) fun x23 =>
 CM.pu (p1 (fun a => fieldAddrA Try.prog 75 a 0) x23) fun x24 =>
 CM.rm (q1 (loadA Try.prog 72) x24 ) fun x25 =>
 CM.al (bsA 1 1 [(.int .u64 0)] [(0, a1)]) fun x26 =>
 CM.call 29 [x25, x5, x26] fun x27 =>
 CM.pu (p1 nnA a0) fun x28 =>
 CM.pu (p1 (fun a => fieldAddrA Try.prog 75 a 0) x28) fun x29 =>
 CM.st (fun m => stV m x29 x27 1) <|
 CM.pu (p1 nnA a0) fun x31 =>
 CM.pu (p1 (fun a => fieldAddrA Try.prog 75 a 1) x31) fun x32 =>
 CM.rm (q1 (loadA Try.prog 73) x32 ) fun x33 =>
 CM.rm (q1 (loadA Try.prog 54) x0 ) fun x34 =>
 CM.al (bsA 4 1 [(.int .u64 0), (.str []), (.int .i64 0), (.int .u64 0)] [(0, x34)]) fun x35 =>
 CM.call 30 [x33, x5, x35] fun x37 =>
 CM.pu (p1 nnA a0) fun x39 =>
 CM.pu (p1 (fun a => fieldAddrA Try.prog 75 a 1) x39) fun x40 =>
 CM.st (fun m => stV m x40 x37 1) <|
 CM.go 77824 []))
theorem f19_ok (h : H 19 = none) : EqD (Rl H) f19 (fun xs m => run (EH H) (.fn 19) xs m) := sE fun _ => sE fun _ => sE fun _ => zE fun _ => run_eq 400 h (by kernel_rfl) (by kernel_rfl)
noncomputable def g20_0 : List AV → CM := apS fun t0 => apS fun t4 => apS fun t5 => apS fun t7 => ap0 <|
 CM.pu (p1 nnA t0) fun x0 =>
 CM.pu (p1 (fun a => fieldAddrA Try.prog 38 a 1) x0) fun x1 =>
 CM.rm (q1 (loadA Try.prog 34) x1 ) fun x2 =>
 CM.pu (p1 (fun a => fieldAddrA Try.prog 54 a 1) t7) fun x3 =>
 CM.rm (q1 (loadA Try.prog 9) x3 ) fun x4 =>
 CM.call 15 [x2, x4] fun x6 =>
 CM.pu (p1 (fun a => extractA a 0) x6) fun x8 =>
 CM.pu (p1 (fun a => extractA a 1) x6) fun _ =>
 CM.al (some (.cells [(.str []), (.int .i64 0), (.int .i64 0), (.int .u64 0)] false, pB)) fun x10 =>
 CM.st (fun m => stV m x10 x8 4) <|
 CM.rm (q1 (loadA Try.prog 54) t7 ) fun x14 =>
 CM.rm (q1 (loadA Try.prog 44) x10 ) fun x15 =>
 CM.st (fun m => stV m t4 x14 4) <|
 CM.memo fun m18 =>
 CM.chk (q1 (loadA Try.prog 44) x10 m18) x15 <|
 CM.st (fun m => stV m t5 x15 4) <|
 CM.resC Try.prog [ResultVar.cell 0 54, ResultVar.cell 1 44, ResultVar.tmp 2] [t4, t5, (.int .i64 0)]
theorem g20_0_ok : EqD (Rl H) g20_0 (fun xs m => goR (EH H) Mk 81920 xs m) := sE fun _ => sE fun _ => sE fun _ => sE fun _ => zE fun _ => goR_eq 400 (by kernel_rfl)
noncomputable def f20 : List AV → CM := apS fun a0 => apS fun a1 => ap0 <|
 CM.al (some (.cells [(.int .u64 0), (.str []), (.int .i64 0), (.int .u64 0)] false, pB)) fun x0 =>
 CM.al (some (.cells [(.str []), (.int .i64 0), (.int .i64 0), (.int .u64 0)] false, pB)) fun x1 =>
 CM.pu (p1 nnA a0) fun x2 =>
 CM.pu (p1 (fun a => fieldAddrA Try.prog 38 a 3) x2) fun x3 =>
 CM.rm (q1 (loadA Try.prog 36) x3 ) fun x4 =>
 CM.call 31 [x4, a1] fun x5 =>
 CM.pu (p1 (fun a => extractA a 0) x5) fun x6 =>
 CM.pu (p1 (fun a => extractA a 1) x5) fun x7 =>
 CM.al (some (.cells [(.int .u64 0), (.str []), (.int .i64 0), (.int .u64 0)] false, pB)) fun x8 =>
 CM.st (fun m => stV m x8 x6 4) <|
 CM.pu (p1 (unA .not) x7) fun x10 =>
 CM.cond x10 (
 CM.rm (q1 (loadA Try.prog 54) x8 ) fun x11 =>
 CM.pu (p1 (buildA Try.prog 44) []) fun x12 =>
 CM.st (fun m => stV m x0 x11 4) <|
 CM.st (fun m => stV m x1 x12 4) <|
 CM.resC Try.prog [ResultVar.cell 0 54, ResultVar.cell 1 44, ResultVar.tmp 2] [x0, x1, (.int .i64 40)]) (
 CM.go 81920 [a0, x0, x1, x8])
theorem f20_ok (h : H 20 = none) : EqD (Rl H) f20 (fun xs m => run (EH H) (.fn 20) xs m) := sE fun _ => sE fun _ => zE fun _ => run_eq 400 h (by kernel_rfl) (by kernel_rfl)
noncomputable def g21_0 : List AV → CM := ap0 <|
 CM.ret (.int .i64 0)
theorem g21_0_ok : EqD (Rl H) g21_0 (fun xs m => goR (EH H) Mk 86016 xs m) := zE fun _ => goR_eq 400 (by kernel_rfl)
noncomputable def f21 : List AV → CM := apS fun a0 => apS fun a1 => ap0 <|
 CM.al (boxA a0) fun x0 =>
 CM.al (boxA a1) fun x1 =>
 CM.pu (p1 (fun a => fieldAddrA Try.prog 48 a 1) x1) fun x2 =>
 CM.rm (q1 (loadA Try.prog 3) x2 ) fun x3 =>
 CM.pu (p1 (fun a => fieldAddrA Try.prog 44 a 1) x0) fun x4 =>
 CM.rm (q1 (loadA Try.prog 3) x4 ) fun x5 =>
 CM.pu (p2 (binA Try.prog .neq 3) x3 x5) fun x6 =>
 CM.cond x6 (
 CM.ret (.int .i64 21)) (
 CM.pu (p1 (fun a => fieldAddrA Try.prog 48 a 0) x1) fun x7 =>
 CM.rm (q1 (loadA Try.prog 42) x7 ) fun x8 =>
 CM.call 32 [x8] fun x9 =>
 CM.pu (p2 (binA Try.prog .leq 3) x9 (.int .i64 0)) fun x10 =>
 CM.cond x10 (
 CM.ret (.int .i64 43)) (
 CM.go 86016 []))
theorem f21_ok (h : H 21 = none) : EqD (Rl H) f21 (fun xs m => run (EH H) (.fn 21) xs m) := sE fun _ => sE fun _ => zE fun _ => run_eq 400 h (by kernel_rfl) (by kernel_rfl)
noncomputable def g22_0 : List AV → CM := apS fun t0 => apS fun t1 => apS fun t7 => apS fun t9 => ap0 <|
 CM.rm (q1 (loadA Try.prog 42) t7 ) fun x0 =>
 CM.rm (q1 (loadA Try.prog 42) t9 ) fun x1 =>
 CM.pu (p1 nnA t0) fun x2 =>
 CM.st (fun m => stV m x2 x0 2) <|
 CM.memo fun m5 =>
 CM.chk (q1 (loadA Try.prog 42) t9 m5) x1 <|
 CM.pu (p1 nnA t1) fun x6 =>
 CM.st (fun m => stV m x6 x1 2) <|
 CM.ret (.int .i64 0)
theorem g22_0_ok : EqD (Rl H) g22_0 (fun xs m => goR (EH H) Mk 90112 xs m) := sE fun _ => sE fun _ => sE fun _ => sE fun _ => zE fun _ => goR_eq 400 (by kernel_rfl)
noncomputable def f22 : List AV → CM := apS fun a0 => apS fun a1 => apS fun a2 => ap0 <|
 CM.al (boxA a2) fun x0 =>
 CM.pu (p1 nnA a0) fun x1 =>
 CM.rm (q1 (loadA Try.prog 42) x1 ) fun x2 =>
 CM.rm (q1 (loadA Try.prog 42) x0 ) fun x3 =>
 CM.call 33 [x2, x3] fun x5 =>
 CM.pu (p1 (fun a => extractA a 0) x5) fun x7 =>
 CM.pu (p1 (fun a => extractA a 1) x5) fun x8 =>
 CM.al (some (.cells [(.int .i64 0), (.int .u64 0)] false, pB)) fun x9 =>
 CM.st (fun m => stV m x9 x7 2) <|
 CM.pu (p1 nnA a1) fun x13 =>
 CM.rm (q1 (loadA Try.prog 42) x13 ) fun x14 =>
 CM.rm (q1 (loadA Try.prog 42) x0 ) fun x15 =>
 CM.call 34 [x14, x15] fun x17 =>
 CM.pu (p1 (fun a => extractA a 0) x17) fun x19 =>
 CM.pu (p1 (fun a => extractA a 1) x17) fun x20 =>
 CM.al (some (.cells [(.int .i64 0), (.int .u64 0)] false, pB)) fun x21 =>
 CM.st (fun m => stV m x21 x19 2) <|
 CM.pu (p2 (binA Try.prog .neq 25) x8 (.int .i64 0)) fun x25 =>
 CM.ifv x25 (
 CM.ret (.int .i64 20)) (
 CM.pu (p2 (binA Try.prog .neq 25) x20 (.int .i64 0)) fun x26 =>
 CM.cond x26 (
 CM.ret (.int .i64 20)) (
 CM.go 90112 [a0, a1, x9, x21]))
theorem f22_ok (h : H 22 = none) : EqD (Rl H) f22 (fun xs m => run (EH H) (.fn 22) xs m) := sE fun _ => sE fun _ => sE fun _ => zE fun _ => run_eq 400 h (by kernel_rfl) (by kernel_rfl)
noncomputable def f23 : List AV → CM := apS fun a0 => apS fun a1 => ap0 <|
 CM.al (boxA a1) fun x0 =>
 CM.pu (p1 nnA a0) fun x1 =>
 CM.pu (p1 (fun a => fieldAddrA Try.prog 38 a 3) x1) fun x2 =>
 CM.rm (q1 (loadA Try.prog 36) x2 ) fun x3 =>
 CM.pu (p1 (fun a => fieldAddrA Try.prog 54 a 0) x0) fun x4 =>
 CM.rm (q1 (loadA Try.prog 22) x4 ) fun x5 =>
 CM.rm (q1 (loadA Try.prog 54) x0 ) fun x6 =>
 CM.call 19 [x3, x5, x6] fun _ =>
 CM.ret .undef
theorem f23_ok (h : H 23 = none) : EqD (Rl H) f23 (fun xs m => run (EH H) (.fn 23) xs m) := sE fun _ => sE fun _ => zE fun _ => run_eq 400 h (by kernel_rfl) (by kernel_rfl)
noncomputable def f24 : List AV → CM := apS fun a0 => ap0 <|
 CM.al (some (.cells [(.int .i64 0), (.int .u64 0)] false, pB)) fun x0 =>
 CM.pu (p2 (binA Try.prog .shr 2) a0 (.int .u64 63)) fun x1 =>
 CM.pu (p1 (convA Try.prog 2 22) a0) fun x2 =>
 CM.pu (p1 (buildA Try.prog 42) [(0, x1), (1, x2)]) fun x3 =>
 CM.st (fun m => stV m x0 x3 2) <|
 CM.resC Try.prog [ResultVar.cell 0 42] [x0]
theorem f24_ok (h : H 24 = none) : EqD (Rl H) f24 (fun xs m => run (EH H) (.fn 24) xs m) := sE fun _ => zE fun _ => run_eq 400 h (by kernel_rfl) (by kernel_rfl)
noncomputable def g25_0 : List AV → CM := apS fun t0 => apS fun t1 => apS fun t6 => apS fun t7 => apS fun t8 => ap0 <|
 CM.pu (p2 (binA Try.prog .lss 3) t7 t8) fun x0 =>
 CM.cond x0 (
 CM.go 102401 [t0, t1, t6, t7, t8]) (
 CM.go 102402 [t0, t1, t6, t7])
theorem g25_0_ok : EqD (Rl H) g25_0 (fun xs m => goR (EH H) Mk 102400 xs m) := sE fun _ => sE fun _ => sE fun _ => sE fun _ => sE fun _ => zE fun _ => goR_eq 400 (by kernel_rfl)
noncomputable def g25_1 : List AV → CM := apS fun t0 => apS fun t1 => apS fun t6 => apS fun t7 => apS fun t8 => ap0 <|
 CM.pu (p2 (binA Try.prog .add 3) t7 t8) fun x0 =>
 CM.pu (p1 (convA Try.prog 3 95) x0) fun x1 =>
 CM.pu (p2 (binA Try.prog .shr 95) x1 (.int .u64 1)) fun x2 =>
 CM.pu (p1 (convA Try.prog 95 3) x2) fun x3 =>
 CM.pu (p2 (indexAddrA Try.prog 65) t0 x3) fun x4 =>
 CM.rm (q1 (loadA Try.prog 9) x4 ) fun x5 =>
 CM.call 35 [x5, t1] fun x6 =>
 CM.cond x6 (
 CM.pu (p2 (binA Try.prog .add 3) x3 (.int .i64 1)) fun x7 =>
 CM.go 102400 [t0, t1, t6, x7, t8]) (
 CM.go 102400 [t0, t1, t6, t7, x3])
theorem g25_1_ok : EqD (Rl H) g25_1 (fun xs m => goR (EH H) Mk 102401 xs m) := sE fun _ => sE fun _ => sE fun _ => sE fun _ => sE fun _ => zE fun _ => goR_eq 400 (by kernel_rfl)
noncomputable def g25_2 : List AV → CM := apS fun t0 => apS fun t1 => apS fun t6 => apS fun t7 => ap0 <|
 CM.pu (p2 (binA Try.prog .lss 3) t7 t6) fun x0 =>
 CM.ifv x0 (
 CM.pu (p2 (indexAddrA Try.prog 65) t0 t7) fun x1 =>
 CM.rm (q1 (loadA Try.prog 9) x1 ) fun x2 =>
 CM.pu (p2 (binA Try.prog .eql 9) x2 t1) fun x3 =>
 CM.ifv x3 (
 CM.ret (.tup [t7, (.bool true)])) (
 CM.pu (p2 (indexAddrA Try.prog 65) t0 t7) fun x4 =>
 CM.rm (q1 (loadA Try.prog 9) x4 ) fun x5 =>
 CM.call 36 [x5] fun x6 =>
 CM.ifv x6 (
 CM.call 36 [t1] fun x7 =>
 CM.ret (.tup [t7, x7])) (
 CM.ret (.tup [t7, (.bool false)])))) (
 CM.ret (.tup [t7, (.bool false)]))
theorem g25_2_ok : EqD (Rl H) g25_2 (fun xs m => goR (EH H) Mk 102402 xs m) := sE fun _ => sE fun _ => sE fun _ => sE fun _ => zE fun _ => goR_eq 400 (by kernel_rfl)
noncomputable def f25 : List AV → CM := apS fun a0 => apS fun a1 => ap0 <|
 CM.pu (p1 (lenT Try.prog 65) a0) fun x0 =>
 CM.go 102400 [a0, a1, x0, (.int .i64 0), x0]
theorem f25_ok (h : H 25 = none) : EqD (Rl H) f25 (fun xs m => run (EH H) (.fn 25) xs m) := sE fun _ => sE fun _ => zE fun _ => run_eq 400 h (by kernel_rfl) (by kernel_rfl)
noncomputable def g28_0 : List AV → CM := apS fun t0 => apS fun t1 => apS fun t6 => apS fun t7 => apS fun t8 => ap0 <|
 CM.pu (p2 (binA Try.prog .lss 3) t7 t8) fun x0 =>
 CM.cond x0 (
 CM.go 114689 [t0, t1, t6, t7, t8]) (
 CM.go 114690 [t0, t1, t6, t7])
theorem g28_0_ok : EqD (Rl H) g28_0 (fun xs m => goR (EH H) Mk 114688 xs m) := sE fun _ => sE fun _ => sE fun _ => sE fun _ => sE fun _ => zE fun _ => goR_eq 400 (by kernel_rfl)
noncomputable def g28_1 : List AV → CM := apS fun t0 => apS fun t1 => apS fun t6 => apS fun t7 => apS fun t8 => ap0 <|
 CM.pu (p2 (binA Try.prog .add 3) t7 t8) fun x0 =>
 CM.pu (p1 (convA Try.prog 3 95) x0) fun x1 =>
 CM.pu (p2 (binA Try.prog .shr 95) x1 (.int .u64 1)) fun x2 =>
 CM.pu (p1 (convA Try.prog 95 3) x2) fun x3 =>
 CM.pu (p2 (indexAddrA Try.prog 72) t0 x3) fun x4 =>
 CM.rm (q1 (loadA Try.prog 22) x4 ) fun x5 =>
 CM.call 41 [x5, t1] fun x6 =>
 CM.cond x6 (
 CM.pu (p2 (binA Try.prog .add 3) x3 (.int .i64 1)) fun x7 =>
 CM.go 114688 [t0, t1, t6, x7, t8]) (
 CM.go 114688 [t0, t1, t6, t7, x3])
theorem g28_1_ok : EqD (Rl H) g28_1 (fun xs m => goR (EH H) Mk 114689 xs m) := sE fun _ => sE fun _ => sE fun _ => sE fun _ => sE fun _ => zE fun _ => goR_eq 400 (by kernel_rfl)
noncomputable def g28_2 : List AV → CM := apS fun t0 => apS fun t1 => apS fun t6 => apS fun t7 => ap0 <|
 CM.pu (p2 (binA Try.prog .lss 3) t7 t6) fun x0 =>
 CM.ifv x0 (
 CM.pu (p2 (indexAddrA Try.prog 72) t0 t7) fun x1 =>
 CM.rm (q1 (loadA Try.prog 22) x1 ) fun x2 =>
 CM.pu (p2 (binA Try.prog .eql 22) x2 t1) fun x3 =>
 CM.ifv x3 (
 CM.ret (.tup [t7, (.bool true)])) (
 CM.pu (p2 (indexAddrA Try.prog 72) t0 t7) fun x4 =>
 CM.rm (q1 (loadA Try.prog 22) x4 ) fun x5 =>
 CM.call 42 [x5] fun x6 =>
 CM.ifv x6 (
 CM.call 42 [t1] fun x7 =>
 CM.ret (.tup [t7, x7])) (
 CM.ret (.tup [t7, (.bool false)])))) (
 CM.ret (.tup [t7, (.bool false)]))
theorem g28_2_ok : EqD (Rl H) g28_2 (fun xs m => goR (EH H) Mk 114690 xs m) := sE fun _ => sE fun _ => sE fun _ => sE fun _ => zE fun _ => goR_eq 400 (by kernel_rfl)
noncomputable def f28 : List AV → CM := apS fun a0 => apS fun a1 => ap0 <|
 CM.pu (p1 (lenT Try.prog 72) a0) fun x0 =>
 CM.go 114688 [a0, a1, x0, (.int .i64 0), x0]
theorem f28_ok (h : H 28 = none) : EqD (Rl H) f28 (fun xs m => run (EH H) (.fn 28) xs m) := sE fun _ => sE fun _ => zE fun _ => run_eq 400 h (by kernel_rfl) (by kernel_rfl)
noncomputable def g31_0 : List AV → CM := apS fun t0 => apS fun t4 => apS fun t6 => ap0 <|
 CM.pu (p1 nnA t0) fun x0 =>
 CM.pu (p1 (fun a => fieldAddrA Try.prog 75 a 1) x0) fun x1 =>
 CM.rm (q1 (loadA Try.prog 73) x1 ) fun x2 =>
 CM.pu (p2 (indexAddrA Try.prog 73) x2 t6) fun x3 =>
 CM.rm (q1 (loadA Try.prog 54) x3 ) fun x4 =>
 CM.st (fun m => stV m t4 x4 4) <|
 CM.resC Try.prog [ResultVar.cell 0 54, ResultVar.tmp 1] [t4, (.bool true)]
theorem g31_0_ok : EqD (Rl H) g31_0 (fun xs m => goR (EH H) Mk 126976 xs m) := sE fun _ => sE fun _ => sE fun _ => zE fun _ => goR_eq 400 (by kernel_rfl)
noncomputable def f31 : List AV → CM := apS fun a0 => apS fun a1 => ap0 <|
 CM.al (some (.cells [(.int .u64 0), (.str []), (.int .i64 0), (.int .u64 0)] false, pB)) fun x0 =>
 CM.pu (p1 nnA a0) fun x1 =>
 CM.pu (p1 (fun a => fieldAddrA Try.prog 75 a 0) x1) fun x2 =>
 CM.rm (q1 (loadA Try.prog 72) x2 ) fun x3 =>
 CM.call 28 [x3, a1] fun x4 =>
 CM.pu (p1 (fun a => extractA a 0) x4) fun x5 =>
 CM.pu (p1 (fun a => extractA a 1) x4) fun x6 =>
 CM.pu (p1 (unA .not) x6) fun x7 =>
 CM.cond x7 (
 CM.al (some (.cells [(.int .u64 0), (.str []), (.int .i64 0), (.int .u64 0)] false, pB)) fun x8 =>
 CM.rm (q1 (loadA Try.prog 54) x8 ) fun x9 =>
 CM.st (fun m => stV m x0 x9 4) <|
 CM.resC Try.prog [ResultVar.cell 0 54, ResultVar.tmp 1] [x0, (.bool false)]) (
 CM.go 126976 [a0, x0, x5])
theorem f31_ok (h : H 31 = none) : EqD (Rl H) f31 (fun xs m => run (EH H) (.fn 31) xs m) := sE fun _ => sE fun _ => zE fun _ => run_eq 400 h (by kernel_rfl) (by kernel_rfl)
noncomputable def g32_0 : List AV → CM := ap0 <|
 CM.ret (.int .i64 1)
theorem g32_0_ok : EqD (Rl H) g32_0 (fun xs m => goR (EH H) Mk 131072 xs m) := zE fun _ => goR_eq 400 (by kernel_rfl)
noncomputable def f32 : List AV → CM := apS fun a0 => ap0 <|
 CM.al (boxA a0) fun x0 =>
 CM.pu (p1 (fun a => fieldAddrA Try.prog 42 a 0) x0) fun x1 =>
 CM.rm (q1 (loadA Try.prog 2) x1 ) fun x2 =>
 CM.pu (p2 (binA Try.prog .lss 2) x2 (.int .i64 0)) fun x3 =>
 CM.cond x3 (
 CM.ret (.int .i64 (-1))) (
 CM.pu (p1 (fun a => fieldAddrA Try.prog 42 a 0) x0) fun x4 =>
 CM.rm (q1 (loadA Try.prog 2) x4 ) fun x5 =>
 CM.pu (p2 (binA Try.prog .eql 2) x5 (.int .i64 0)) fun x6 =>
 CM.ifv x6 (
 CM.pu (p1 (fun a => fieldAddrA Try.prog 42 a 1) x0) fun x7 =>
 CM.rm (q1 (loadA Try.prog 22) x7 ) fun x8 =>
 CM.pu (p2 (binA Try.prog .eql 22) x8 (.int .u64 0)) fun x9 =>
 CM.cond x9 (
 CM.ret (.int .i64 0)) (
 CM.go 131072 [])) (
 CM.go 131072 []))
theorem f32_ok (h : H 32 = none) : EqD (Rl H) f32 (fun xs m => run (EH H) (.fn 32) xs m) := sE fun _ => zE fun _ => run_eq 400 h (by kernel_rfl) (by kernel_rfl)
noncomputable def g33_0 : List AV → CM := apS fun t4 => apS fun t6 => apS fun t8 => ap0 <|
 CM.pu (p1 (convA Try.prog 22 2) t8) fun x0 =>
 CM.pu (p1 (buildA Try.prog 42) [(0, x0), (1, t6)]) fun x1 =>
 CM.st (fun m => stV m t4 x1 2) <|
 CM.resC Try.prog [ResultVar.cell 0 42, ResultVar.tmp 1] [t4, (.int .i64 0)]
theorem g33_0_ok : EqD (Rl H) g33_0 (fun xs m => goR (EH H) Mk 135168 xs m) := sE fun _ => sE fun _ => sE fun _ => zE fun _ => goR_eq 400 (by kernel_rfl)
noncomputable def f33 : List AV → CM := apS fun a0 => apS fun a1 => ap0 <|
 CM.al (boxA a0) fun x0 =>
 CM.al (boxA a1) fun x1 =>
 CM.al (some (.cells [(.int .i64 0), (.int .u64 0)] false, pB)) fun x2 =>
 CM.pu (p1 (fun a => fieldAddrA Try.prog 42 a 1) x0) fun x3 =>
 CM.rm (q1 (loadA Try.prog 22) x3 ) fun x4 =>
 CM.pu (p1 (fun a => fieldAddrA Try.prog 42 a 1) x1) fun x5 =>
 CM.rm (q1 (loadA Try.prog 22) x5 ) fun x6 =>
 CM.call 47 [x4, x6, (.int .u64 0)] fun x7 =>
 CM.pu (p1 (fun a => extractA a 0) x7) fun x8 =>
 CM.pu (p1 (fun a => extractA a 1) x7) fun x9 =>
 CM.pu (p1 (fun a => fieldAddrA Try.prog 42 a 0) x0) fun x10 =>
 CM.rm (q1 (loadA Try.prog 2) x10 ) fun x11 =>
 CM.pu (p1 (convA Try.prog 2 22) x11) fun x12 =>
 CM.pu (p1 (fun a => fieldAddrA Try.prog 42 a 0) x1) fun x13 =>
 CM.rm (q1 (loadA Try.prog 2) x13 ) fun x14 =>
 CM.pu (p1 (convA Try.prog 2 22) x14) fun x15 =>
 CM.call 47 [x12, x15, x9] fun x16 =>
 CM.pu (p1 (fun a => extractA a 0) x16) fun x17 =>
 CM.pu (p1 (fun a => extractA a 1) x16) fun _ =>
 CM.pu (p1 (fun a => fieldAddrA Try.prog 42 a 0) x0) fun x19 =>
 CM.rm (q1 (loadA Try.prog 2) x19 ) fun x20 =>
 CM.pu (p2 (binA Try.prog .lss 2) x20 (.int .i64 0)) fun x21 =>
 CM.pu (p1 (fun a => fieldAddrA Try.prog 42 a 0) x1) fun x22 =>
 CM.rm (q1 (loadA Try.prog 2) x22 ) fun x23 =>
 CM.pu (p2 (binA Try.prog .lss 2) x23 (.int .i64 0)) fun x24 =>
 CM.pu (p2 (binA Try.prog .neq 4) x21 x24) fun x25 =>
 CM.ifv x25 (
 CM.pu (p1 (convA Try.prog 22 2) x17) fun x26 =>
 CM.pu (p2 (binA Try.prog .lss 2) x26 (.int .i64 0)) fun x27 =>
 CM.pu (p1 (fun a => fieldAddrA Try.prog 42 a 0) x0) fun x28 =>
 CM.rm (q1 (loadA Try.prog 2) x28 ) fun x29 =>
 CM.pu (p2 (binA Try.prog .lss 2) x29 (.int .i64 0)) fun x30 =>
 CM.pu (p2 (binA Try.prog .neq 4) x27 x30) fun x31 =>
 CM.cond x31 (
 CM.pu (p1 (buildA Try.prog 42) []) fun x32 =>
 CM.st (fun m => stV m x2 x32 2) <|
 CM.resC Try.prog [ResultVar.cell 0 42, ResultVar.tmp 1] [x2, (.int .i64 20)]) (
 CM.go 135168 [x2, x8, x17])) (
 CM.go 135168 [x2, x8, x17])
theorem f33_ok (h : H 33 = none) : EqD (Rl H) f33 (fun xs m => run (EH H) (.fn 33) xs m) := sE fun _ => sE fun _ => zE fun _ => run_eq 400 h (by kernel_rfl) (by kernel_rfl)
noncomputable def g34_0 : List AV → CM := apS fun t4 => apS fun t6 => apS fun t8 => ap0 <|
 CM.pu (p1 (convA Try.prog 22 2) t8) fun x0 =>
 CM.pu (p1 (buildA Try.prog 42) [(0, x0), (1, t6)]) fun x1 =>
 CM.st (fun m => stV m t4 x1 2) <|
 CM.resC Try.prog [ResultVar.cell 0 42, ResultVar.tmp 1] [t4, (.int .i64 0)]
theorem g34_0_ok : EqD (Rl H) g34_0 (fun xs m => goR (EH H) Mk 139264 xs m) := sE fun _ => sE fun _ => sE fun _ => zE fun _ => goR_eq 400 (by kernel_rfl)
noncomputable def f34 : List AV → CM := apS fun a0 => apS fun a1 => ap0 <|
 CM.al (boxA a0) fun x0 =>
 CM.al (boxA a1) fun x1 =>
 CM.al (some (.cells [(.int .i64 0), (.int .u64 0)] false, pB)) fun x2 =>
 CM.pu (p1 (fun a => fieldAddrA Try.prog 42 a 1) x0) fun x3 =>
 CM.rm (q1 (loadA Try.prog 22) x3 ) fun x4 =>
 CM.pu (p1 (fun a => fieldAddrA Try.prog 42 a 1) x1) fun x5 =>
 CM.rm (q1 (loadA Try.prog 22) x5 ) fun x6 =>
 CM.call 48 [x4, x6, (.int .u64 0)] fun x7 =>
 CM.pu (p1 (fun a => extractA a 0) x7) fun x8 =>
 CM.pu (p1 (fun a => extractA a 1) x7) fun x9 =>
 CM.pu (p1 (fun a => fieldAddrA Try.prog 42 a 0) x0) fun x10 =>
 CM.rm (q1 (loadA Try.prog 2) x10 ) fun x11 =>
 CM.pu (p1 (convA Try.prog 2 22) x11) fun x12 =>
 CM.pu (p1 (fun a => fieldAddrA Try.prog 42 a 0) x1) fun x13 =>
 CM.rm (q1 (loadA Try.prog 2) x13 ) fun x14 =>
 CM.pu (p1 (convA Try.prog 2 22) x14) fun x15 =>
 CM.call 48 [x12, x15, x9] fun x16 =>
 CM.pu (p1 (fun a => extractA a 0) x16) fun x17 =>
 CM.pu (p1 (fun a => extractA a 1) x16) fun _ =>
 CM.pu (p1 (fun a => fieldAddrA Try.prog 42 a 0) x0) fun x19 =>
 CM.rm (q1 (loadA Try.prog 2) x19 ) fun x20 =>
 CM.pu (p2 (binA Try.prog .lss 2) x20 (.int .i64 0)) fun x21 =>
 CM.pu (p1 (fun a => fieldAddrA Try.prog 42 a 0) x1) fun x22 =>
 CM.rm (q1 (loadA Try.prog 2) x22 ) fun x23 =>
 CM.pu (p2 (binA Try.prog .lss 2) x23 (.int .i64 0)) fun x24 =>
 CM.pu (p2 (binA Try.prog .eql 4) x21 x24) fun x25 =>
 CM.ifv x25 (
 CM.pu (p1 (convA Try.prog 22 2) x17) fun x26 =>
 CM.pu (p2 (binA Try.prog .lss 2) x26 (.int .i64 0)) fun x27 =>
 CM.pu (p1 (fun a => fieldAddrA Try.prog 42 a 0) x0) fun x28 =>
 CM.rm (q1 (loadA Try.prog 2) x28 ) fun x29 =>
 CM.pu (p2 (binA Try.prog .lss 2) x29 (.int .i64 0)) fun x30 =>
 CM.pu (p2 (binA Try.prog .neq 4) x27 x30) fun x31 =>
 CM.cond x31 (
 CM.pu (p1 (buildA Try.prog 42) []) fun x32 =>
 CM.st (fun m => stV m x2 x32 2) <|
 CM.resC Try.prog [ResultVar.cell 0 42, ResultVar.tmp 1] [x2, (.int .i64 20)]) (
 CM.go 139264 [x2, x8, x17])) (
 CM.go 139264 [x2, x8, x17])
theorem f34_ok (h : H 34 = none) : EqD (Rl H) f34 (fun xs m => run (EH H) (.fn 34) xs m) := sE fun _ => sE fun _ => zE fun _ => run_eq 400 h (by kernel_rfl) (by kernel_rfl)
noncomputable def f35 : List AV → CM := apS fun a0 => apS fun a1 => ap0 <|
 CM.call 49 [a0] fun x0 =>
 CM.ifv x0 (
 CM.call 49 [a1] fun x1 =>
 CM.pu (p1 (unA .not) x1) fun x2 =>
 CM.ifv x2 (
 CM.ret (.bool true)) (
 CM.pu (p2 (binA Try.prog .lss 9) a0 a1) fun x3 =>
 CM.ret x3)) (
 CM.pu (p2 (binA Try.prog .lss 9) a0 a1) fun x4 =>
 CM.ret x4)
theorem f35_ok (h : H 35 = none) : EqD (Rl H) f35 (fun xs m => run (EH H) (.fn 35) xs m) := sE fun _ => sE fun _ => zE fun _ => run_eq 400 h (by kernel_rfl) (by kernel_rfl)
noncomputable def f36 : List AV → CM := apS fun a0 => ap0 <|
 CM.pu (p2 (binA Try.prog .neq 9) a0 a0) fun x0 =>
 CM.ret x0
theorem f36_ok (h : H 36 = none) : EqD (Rl H) f36 (fun xs m => run (EH H) (.fn 36) xs m) := sE fun _ => zE fun _ => run_eq 400 h (by kernel_rfl) (by kernel_rfl)
noncomputable def f38 : List AV → CM := apS fun a0 => apS fun a1 => ap0 <|
 CM.pu (p1 (lenT Try.prog 65) a0) fun x0 =>
 CM.pu (p2 (binA Try.prog .sub 3) x0 a1) fun x1 =>
 CM.call 50 [a0, x1] fun _ =>
 CM.ret .undef
theorem f38_ok (h : H 38 = none) : EqD (Rl H) f38 (fun xs m => run (EH H) (.fn 38) xs m) := sE fun _ => sE fun _ => zE fun _ => run_eq 400 h (by kernel_rfl) (by kernel_rfl)
noncomputable def f40 : List AV → CM := apS fun a0 => apS fun a1 => ap0 <|
 CM.pu (p1 (lenT Try.prog 66) a0) fun x0 =>
 CM.pu (p2 (binA Try.prog .sub 3) x0 a1) fun x1 =>
 CM.call 51 [a0, x1] fun _ =>
 CM.ret .undef
theorem f40_ok (h : H 40 = none) : EqD (Rl H) f40 (fun xs m => run (EH H) (.fn 40) xs m) := sE fun _ => sE fun _ => zE fun _ => run_eq 400 h (by kernel_rfl) (by kernel_rfl)
noncomputable def f41 : List AV → CM := apS fun a0 => apS fun a1 => ap0 <|
 CM.call 52 [a0] fun x0 =>
 CM.ifv x0 (
 CM.call 52 [a1] fun x1 =>
 CM.pu (p1 (unA .not) x1) fun x2 =>
 CM.ifv x2 (
 CM.ret (.bool true)) (
 CM.pu (p2 (binA Try.prog .lss 22) a0 a1) fun x3 =>
 CM.ret x3)) (
 CM.pu (p2 (binA Try.prog .lss 22) a0 a1) fun x4 =>
 CM.ret x4)
theorem f41_ok (h : H 41 = none) : EqD (Rl H) f41 (fun xs m => run (EH H) (.fn 41) xs m) := sE fun _ => sE fun _ => zE fun _ => run_eq 400 h (by kernel_rfl) (by kernel_rfl)
noncomputable def f42 : List AV → CM := apS fun a0 => ap0 <|
 CM.pu (p2 (binA Try.prog .neq 22) a0 a0) fun x0 =>
 CM.ret x0
theorem f42_ok (h : H 42 = none) : EqD (Rl H) f42 (fun xs m => run (EH H) (.fn 42) xs m) := sE fun _ => zE fun _ => run_eq 400 h (by kernel_rfl) (by kernel_rfl)
noncomputable def f44 : List AV → CM := apS fun a0 => apS fun a1 => ap0 <|
 CM.pu (p1 (lenT Try.prog 72) a0) fun x0 =>
 CM.pu (p2 (binA Try.prog .sub 3) x0 a1) fun x1 =>
 CM.call 53 [a0, x1] fun _ =>
 CM.ret .undef
theorem f44_ok (h : H 44 = none) : EqD (Rl H) f44 (fun xs m => run (EH H) (.fn 44) xs m) := sE fun _ => sE fun _ => zE fun _ => run_eq 400 h (by kernel_rfl) (by kernel_rfl)
noncomputable def f46 : List AV → CM := apS fun a0 => apS fun a1 => ap0 <|
 CM.pu (p1 (lenT Try.prog 73) a0) fun x0 =>
 CM.pu (p2 (binA Try.prog .sub 3) x0 a1) fun x1 =>
 CM.call 54 [a0, x1] fun _ =>
 CM.ret .undef
theorem f46_ok (h : H 46 = none) : EqD (Rl H) f46 (fun xs m => run (EH H) (.fn 46) xs m) := sE fun _ => sE fun _ => zE fun _ => run_eq 400 h (by kernel_rfl) (by kernel_rfl)
noncomputable def f49 : List AV → CM := apS fun a0 => ap0 <|
 CM.pu (p2 (binA Try.prog .neq 9) a0 a0) fun x0 =>
 CM.ret x0
theorem f49_ok (h : H 49 = none) : EqD (Rl H) f49 (fun xs m => run (EH H) (.fn 49) xs m) := sE fun _ => zE fun _ => run_eq 400 h (by kernel_rfl) (by kernel_rfl)
noncomputable def f50 : List AV → CM := apS fun a0 => apS fun a1 => ap0 <|
 CM.pu (p2 (fun a h => sliceA Try.prog 65 a none (some h)) a0 a1) fun x0 =>
 CM.call 55 [x0] fun _ =>
 CM.pu (p2 (fun a l => sliceA Try.prog 65 a (some l) none) a0 a1) fun x2 =>
 CM.call 55 [x2] fun _ =>
 CM.call 55 [a0] fun _ =>
 CM.ret .undef
theorem f50_ok (h : H 50 = none) : EqD (Rl H) f50 (fun xs m => run (EH H) (.fn 50) xs m) := sE fun _ => sE fun _ => zE fun _ => run_eq 400 h (by kernel_rfl) (by kernel_rfl)
noncomputable def f51 : List AV → CM := apS fun a0 => apS fun a1 => ap0 <|
 CM.pu (p2 (fun a h => sliceA Try.prog 66 a none (some h)) a0 a1) fun x0 =>
 CM.call 56 [x0] fun _ =>
 CM.pu (p2 (fun a l => sliceA Try.prog 66 a (some l) none) a0 a1) fun x2 =>
 CM.call 56 [x2] fun _ =>
 CM.call 56 [a0] fun _ =>
 CM.ret .undef
theorem f51_ok (h : H 51 = none) : EqD (Rl H) f51 (fun xs m => run (EH H) (.fn 51) xs m) := sE fun _ => sE fun _ => zE fun _ => run_eq 400 h (by kernel_rfl) (by kernel_rfl)
noncomputable def f52 : List AV → CM := apS fun a0 => ap0 <|
 CM.pu (p2 (binA Try.prog .neq 22) a0 a0) fun x0 =>
 CM.ret x0
theorem f52_ok (h : H 52 = none) : EqD (Rl H) f52 (fun xs m => run (EH H) (.fn 52) xs m) := sE fun _ => zE fun _ => run_eq 400 h (by kernel_rfl) (by kernel_rfl)
noncomputable def f53 : List AV → CM := apS fun a0 => apS fun a1 => ap0 <|
 CM.pu (p2 (fun a h => sliceA Try.prog 72 a none (some h)) a0 a1) fun x0 =>
 CM.call 57 [x0] fun _ =>
 CM.pu (p2 (fun a l => sliceA Try.prog 72 a (some l) none) a0 a1) fun x2 =>
 CM.call 57 [x2] fun _ =>
 CM.call 57 [a0] fun _ =>
 CM.ret .undef
theorem f53_ok (h : H 53 = none) : EqD (Rl H) f53 (fun xs m => run (EH H) (.fn 53) xs m) := sE fun _ => sE fun _ => zE fun _ => run_eq 400 h (by kernel_rfl) (by kernel_rfl)
noncomputable def f54 : List AV → CM := apS fun a0 => apS fun a1 => ap0 <|
 CM.pu (p2 (fun a h => sliceA Try.prog 73 a none (some h)) a0 a1) fun x0 =>
 CM.call 58 [x0] fun _ =>
 CM.pu (p2 (fun a l => sliceA Try.prog 73 a (some l) none) a0 a1) fun x2 =>
 CM.call 58 [x2] fun _ =>
 CM.call 58 [a0] fun _ =>
 CM.ret .undef
theorem f54_ok (h : H 54 = none) : EqD (Rl H) f54 (fun xs m => run (EH H) (.fn 54) xs m) := sE fun _ => sE fun _ => zE fun _ => run_eq 400 h (by kernel_rfl) (by kernel_rfl)
noncomputable def g55_0 : List AV → CM := apS fun t0 => apS fun t2 => apS fun t3 => ap0 <|
 CM.pu (p2 (binA Try.prog .lss 3) t2 t3) fun x0 =>
 CM.cond x0 (
 CM.go 225281 [t0, t2, t3]) (
 CM.ret .undef)
theorem g55_0_ok : EqD (Rl H) g55_0 (fun xs m => goR (EH H) Mk 225280 xs m) := sE fun _ => sE fun _ => sE fun _ => zE fun _ => goR_eq 400 (by kernel_rfl)
noncomputable def g55_1 : List AV → CM := apS fun t0 => apS fun t2 => apS fun t3 => ap0 <|
 CM.pu (p2 (indexAddrA Try.prog 65) t0 t3) fun x0 =>
 CM.rm (q1 (loadA Try.prog 9) x0 ) fun x1 =>
 CM.pu (p2 (indexAddrA Try.prog 65) t0 t2) fun x2 =>
 CM.rm (q1 (loadA Try.prog 9) x2 ) fun x3 =>
 CM.pu (p2 (indexAddrA Try.prog 65) t0 t2) fun x4 =>
 CM.st (fun m => stV m x4 x1 1) <|
 CM.pu (p2 (indexAddrA Try.prog 65) t0 t3) fun x8 =>
 CM.st (fun m => stV m x8 x3 1) <|
 CM.go 225282 [t0, t2, t3]
theorem g55_1_ok : EqD (Rl H) g55_1 (fun xs m => goR (EH H) Mk 225281 xs m) := sE fun _ => sE fun _ => sE fun _ => zE fun _ => goR_eq 400 (by kernel_rfl)
noncomputable def g55_2 : List AV → CM := apS fun t0 => apS fun t2 => apS fun t3 => ap0 <|
 CM.pu (p2 (binA Try.prog .add 3) t2 (.int .i64 1)) fun x0 =>
 CM.pu (p2 (binA Try.prog .sub 3) t3 (.int .i64 1)) fun x1 =>
 CM.go 225280 [t0, x0, x1]
theorem g55_2_ok : EqD (Rl H) g55_2 (fun xs m => goR (EH H) Mk 225282 xs m) := sE fun _ => sE fun _ => sE fun _ => zE fun _ => goR_eq 400 (by kernel_rfl)
noncomputable def f55 : List AV → CM := apS fun a0 => ap0 <|
 CM.pu (p1 (lenT Try.prog 65) a0) fun x0 =>
 CM.pu (p2 (binA Try.prog .sub 3) x0 (.int .i64 1)) fun x1 =>
 CM.go 225280 [a0, (.int .i64 0), x1]
theorem f55_ok (h : H 55 = none) : EqD (Rl H) f55 (fun xs m => run (EH H) (.fn 55) xs m) := sE fun _ => zE fun _ => run_eq 400 h (by kernel_rfl) (by kernel_rfl)
noncomputable def g56_0 : List AV → CM := apS fun t0 => apS fun t2 => apS fun t3 => ap0 <|
 CM.pu (p2 (binA Try.prog .lss 3) t2 t3) fun x0 =>
 CM.cond x0 (
 CM.go 229377 [t0, t2, t3]) (
 CM.ret .undef)
theorem g56_0_ok : EqD (Rl H) g56_0 (fun xs m => goR (EH H) Mk 229376 xs m) := sE fun _ => sE fun _ => sE fun _ => zE fun _ => goR_eq 400 (by kernel_rfl)
noncomputable def g56_1 : List AV → CM := apS fun t0 => apS fun t2 => apS fun t3 => ap0 <|
 CM.pu (p2 (indexAddrA Try.prog 66) t0 t3) fun x0 =>
 CM.rm (q1 (loadA Try.prog 44) x0 ) fun x1 =>
 CM.pu (p2 (indexAddrA Try.prog 66) t0 t2) fun x2 =>
 CM.rm (q1 (loadA Try.prog 44) x2 ) fun x3 =>
 CM.pu (p2 (indexAddrA Try.prog 66) t0 t2) fun x4 =>
 CM.st (fun m => stV m x4 x1 4) <|
 CM.pu (p2 (indexAddrA Try.prog 66) t0 t3) fun x8 =>
 CM.st (fun m => stV m x8 x3 4) <|
 CM.go 229378 [t0, t2, t3]
theorem g56_1_ok : EqD (Rl H) g56_1 (fun xs m => goR (EH H) Mk 229377 xs m) := sE fun _ => sE fun _ => sE fun _ => zE fun _ => goR_eq 400 (by kernel_rfl)
noncomputable def g56_2 : List AV → CM := apS fun t0 => apS fun t2 => apS fun t3 => ap0 <|
 CM.pu (p2 (binA Try.prog .add 3) t2 (.int .i64 1)) fun x0 =>
 CM.pu (p2 (binA Try.prog .sub 3) t3 (.int .i64 1)) fun x1 =>
 CM.go 229376 [t0, x0, x1]
theorem g56_2_ok : EqD (Rl H) g56_2 (fun xs m => goR (EH H) Mk 229378 xs m) := sE fun _ => sE fun _ => sE fun _ => zE fun _ => goR_eq 400 (by kernel_rfl)
noncomputable def f56 : List AV → CM := apS fun a0 => ap0 <|
 CM.pu (p1 (lenT Try.prog 66) a0) fun x0 =>
 CM.pu (p2 (binA Try.prog .sub 3) x0 (.int .i64 1)) fun x1 =>
 CM.go 229376 [a0, (.int .i64 0), x1]
theorem f56_ok (h : H 56 = none) : EqD (Rl H) f56 (fun xs m => run (EH H) (.fn 56) xs m) := sE fun _ => zE fun _ => run_eq 400 h (by kernel_rfl) (by kernel_rfl)
noncomputable def g57_0 : List AV → CM := apS fun t0 => apS fun t2 => apS fun t3 => ap0 <|
 CM.pu (p2 (binA Try.prog .lss 3) t2 t3) fun x0 =>
 CM.cond x0 (
 CM.go 233473 [t0, t2, t3]) (
 CM.ret .undef)
theorem g57_0_ok : EqD (Rl H) g57_0 (fun xs m => goR (EH H) Mk 233472 xs m) := sE fun _ => sE fun _ => sE fun _ => zE fun _ => goR_eq 400 (by kernel_rfl)
noncomputable def g57_1 : List AV → CM := apS fun t0 => apS fun t2 => apS fun t3 => ap0 <|
 CM.pu (p2 (indexAddrA Try.prog 72) t0 t3) fun x0 =>
 CM.rm (q1 (loadA Try.prog 22) x0 ) fun x1 =>
 CM.pu (p2 (indexAddrA Try.prog 72) t0 t2) fun x2 =>
 CM.rm (q1 (loadA Try.prog 22) x2 ) fun x3 =>
 CM.pu (p2 (indexAddrA Try.prog 72) t0 t2) fun x4 =>
 CM.st (fun m => stV m x4 x1 1) <|
 CM.pu (p2 (indexAddrA Try.prog 72) t0 t3) fun x8 =>
 CM.st (fun m => stV m x8 x3 1) <|
 CM.go 233474 [t0, t2, t3]
theorem g57_1_ok : EqD (Rl H) g57_1 (fun xs m => goR (EH H) Mk 233473 xs m) := sE fun _ => sE fun _ => sE fun _ => zE fun _ => goR_eq 400 (by kernel_rfl)
noncomputable def g57_2 : List AV → CM := apS fun t0 => apS fun t2 => apS fun t3 => ap0 <|
 CM.pu (p2 (binA Try.prog .add 3) t2 (.int .i64 1)) fun x0 =>
 CM.pu (p2 (binA Try.prog .sub 3) t3 (.int .i64 1)) fun x1 =>
 CM.go 233472 [t0, x0, x1]
theorem g57_2_ok : EqD (Rl H) g57_2 (fun xs m => goR (EH H) Mk 233474 xs m) := sE fun _ => sE fun _ => sE fun _ => zE fun _ => goR_eq 400 (by kernel_rfl)
noncomputable def f57 : List AV → CM := apS fun a0 => ap0 <|
 CM.pu (p1 (lenT Try.prog 72) a0) fun x0 =>
 CM.pu (p2 (binA Try.prog .sub 3) x0 (.int .i64 1)) fun x1 =>
 CM.go 233472 [a0, (.int .i64 0), x1]
theorem f57_ok (h : H 57 = none) : EqD (Rl H) f57 (fun xs m => run (EH H) (.fn 57) xs m) := sE fun _ => zE fun _ => run_eq 400 h (by kernel_rfl) (by kernel_rfl)
noncomputable def g58_0 : List AV → CM := apS fun t0 => apS fun t2 => apS fun t3 => ap0 <|
 CM.pu (p2 (binA Try.prog .lss 3) t2 t3) fun x0 =>
 CM.cond x0 (
 CM.go 237569 [t0, t2, t3]) (
 CM.ret .undef)
theorem g58_0_ok : EqD (Rl H) g58_0 (fun xs m => goR (EH H) Mk 237568 xs m) := sE fun _ => sE fun _ => sE fun _ => zE fun _ => goR_eq 400 (by kernel_rfl)
noncomputable def g58_1 : List AV → CM := apS fun t0 => apS fun t2 => apS fun t3 => ap0 <|
 CM.pu (p2 (indexAddrA Try.prog 73) t0 t3) fun x0 =>
 CM.rm (q1 (loadA Try.prog 54) x0 ) fun x1 =>
 CM.pu (p2 (indexAddrA Try.prog 73) t0 t2) fun x2 =>
 CM.rm (q1 (loadA Try.prog 54) x2 ) fun x3 =>
 CM.pu (p2 (indexAddrA Try.prog 73) t0 t2) fun x4 =>
 CM.st (fun m => stV m x4 x1 4) <|
 CM.pu (p2 (indexAddrA Try.prog 73) t0 t3) fun x8 =>
 CM.st (fun m => stV m x8 x3 4) <|
 CM.go 237570 [t0, t2, t3]
theorem g58_1_ok : EqD (Rl H) g58_1 (fun xs m => goR (EH H) Mk 237569 xs m) := sE fun _ => sE fun _ => sE fun _ => zE fun _ => goR_eq 400 (by kernel_rfl)
noncomputable def g58_2 : List AV → CM := apS fun t0 => apS fun t2 => apS fun t3 => ap0 <|
 CM.pu (p2 (binA Try.prog .add 3) t2 (.int .i64 1)) fun x0 =>
 CM.pu (p2 (binA Try.prog .sub 3) t3 (.int .i64 1)) fun x1 =>
 CM.go 237568 [t0, x0, x1]
theorem g58_2_ok : EqD (Rl H) g58_2 (fun xs m => goR (EH H) Mk 237570 xs m) := sE fun _ => sE fun _ => sE fun _ => zE fun _ => goR_eq 400 (by kernel_rfl)
noncomputable def f58 : List AV → CM := apS fun a0 => ap0 <|
 CM.pu (p1 (lenT Try.prog 73) a0) fun x0 =>
 CM.pu (p2 (binA Try.prog .sub 3) x0 (.int .i64 1)) fun x1 =>
 CM.go 237568 [a0, (.int .i64 0), x1]
theorem f58_ok (h : H 58 = none) : EqD (Rl H) f58 (fun xs m => run (EH H) (.fn 58) xs m) := sE fun _ => zE fun _ => run_eq 400 h (by kernel_rfl) (by kernel_rfl)
end Go.Proofs.Ytlginbmjiecglaa.T
