/- Texts of one claim, put together. -/
import Derived.Test.YtlginbmjiecglaaGreatK8
section
namespace Go.Proofs.YtlginbmjiecglaaGreat.T
open Go Go.Abs Go.Proofs.YtlginbmjiecglaaGreat
set_option maxRecDepth 10000
variable {H : FuncId → Option (List AV → Mem → R)}
noncomputable def f2 : List AV → CM := ap0 <|
 CM.call 1 [] fun _ =>
 CM.ret .undef
theorem f2_ok (h : H 2 = none) : EqD (Rl H) f2 (fun xs m => run (EH H) (.fn 2) xs m) := zE fun _ => run_eq 400 h (by kernel_rfl) (by kernel_rfl)
noncomputable def g3_0 : List AV → CM := apS fun t0 => apS fun t1 => apS fun t2 => apS fun t3 => apS fun t4 => apS fun t5 => apS fun t13 => ap0 <|
 CM.pu (p1 (convA Tryz.prog 3 30) t3) fun x0 =>
 CM.call 7 [t13, (.str [65, 65, 65]), x0] fun _ =>
 CM.pu (p1 (convA Tryz.prog 3 30) t4) fun x2 =>
 CM.call 7 [t13, (.str [66, 66, 66]), x2] fun _ =>
 CM.call 8 [t13, (.str [65, 65, 65])] fun _ =>
 CM.call 8 [t13, (.str [66, 66, 66])] fun _ =>
 CM.pu (p2 (binA Tryz.prog .rem 22) t1 (.int .u32 1000000)) fun x6 =>
 CM.pu (p1 (convA Tryz.prog 22 2) x6) fun x7 =>
 CM.pu (p2 (binA Tryz.prog .add 2) x7 (.int .i64 1)) fun x8 =>
 CM.pu (p1 (convA Tryz.prog 22 2) t0) fun x9 =>
 CM.pu (p2 (binA Tryz.prog .add 2) x8 x9) fun x10 =>
 CM.call 10 [x10, t3] fun x11 =>
 CM.call 9 [t13, (.int .u64 1), x11] fun x12 =>
 CM.pu (p2 (binA Tryz.prog .neq 25) x12 (.int .i64 0)) fun x13 =>
 CM.ifv x13 (
 CM.ret (.bool false)) (
 CM.pu (p1 (convA Tryz.prog 22 2) t2) fun x14 =>
 CM.pu (p2 (binA Tryz.prog .add 2) x14 (.int .i64 1)) fun x15 =>
 CM.call 10 [x15, t5] fun x16 =>
 CM.call 11 [t13, (.str [65, 65, 65]), (.str [66, 66, 66]), x16] fun x17 =>
 CM.pu (p2 (binA Tryz.prog .neq 25) x17 (.int .i64 0)) fun x18 =>
 CM.cond x18 (
 CM.ret (.bool false)) (
 CM.go 12289 [t0, t2, t3, t4, t5, t13, x8]))
theorem g3_0_ok : EqD (Rl H) g3_0 (fun xs m => goR (EH H) Mk 12288 xs m) := sE fun _ => sE fun _ => sE fun _ => sE fun _ => sE fun _ => sE fun _ => sE fun _ => zE fun _ => goR_eq 400 (by kernel_rfl)
noncomputable def g3_1 : List AV → CM := apS fun t0 => apS fun t2 => apS fun t3 => apS fun t4 => apS fun t5 => apS fun t13 => apS fun t15 => ap0 <|
 CM.call 10 [t15, t3] fun x0 =>
 CM.call 12 [t13, (.int .u64 1), (.int .u64 2), x0] fun x1 =>
 CM.pu (p1 (fun a => extractA a 0) x1) fun x2 =>
 CM.pu (p1 (fun a => extractA a 1) x1) fun x3 =>
 CM.al (some (.cells [(.int .i64 0), (.int .u64 0), (.int .i64 0)] false, pB)) fun x4 =>
 CM.st (fun m => stV m x4 x2 3) <|
 CM.call 10 [t15, t3] fun x6 =>
 CM.pu (p1 (convA Tryz.prog 22 2) t2) fun x7 =>
 CM.pu (p2 (binA Tryz.prog .add 2) x7 (.int .i64 1)) fun x8 =>
 CM.call 10 [x8, t5] fun x9 =>
 CM.call 13 [x6, x9, t4] fun x10 =>
 CM.pu (p1 (fun a => extractA a 0) x10) fun x11 =>
 CM.pu (p1 (fun a => extractA a 1) x10) fun x12 =>
 CM.al (some (.cells [(.int .i64 0), (.int .u64 0), (.int .i64 0)] false, pB)) fun x13 =>
 CM.st (fun m => stV m x13 x11 3) <|
 CM.call 14 [t13, (.int .u64 1)] fun x15 =>
 CM.pu (p1 (fun a => extractA a 0) x15) fun x16 =>
 CM.pu (p1 (fun a => extractA a 1) x15) fun _ =>
 CM.al (some (.cells [(.int .i64 0), (.int .u64 0), (.int .i64 0)] false, pB)) fun x18 =>
 CM.st (fun m => stV m x18 x16 3) <|
 CM.call 14 [t13, (.int .u64 2)] fun x20 =>
 CM.pu (p1 (fun a => extractA a 0) x20) fun x21 =>
 CM.pu (p1 (fun a => extractA a 1) x20) fun _ =>
 CM.al (some (.cells [(.int .i64 0), (.int .u64 0), (.int .i64 0)] false, pB)) fun x23 =>
 CM.st (fun m => stV m x23 x21 3) <|
 CM.call 15 [t13, (.str [65, 65, 65]), (.str [66, 66, 66])] fun x25 =>
 CM.pu (p1 (fun a => extractA a 0) x25) fun x26 =>
 CM.pu (p1 (fun a => extractA a 1) x25) fun _ =>
 CM.al (some (.cells [(.int .i64 0), (.int .u64 0), (.int .i64 0)] false, pB)) fun x28 =>
 CM.st (fun m => stV m x28 x26 3) <|
 CM.call 16 [t13] fun x30 =>
 CM.al (some (.cells [(.sl none 0 0 0 true), (.sl none 0 0 0 true), (.sl none 0 0 0 true), (.int .u64 0)] false, pB)) fun x31 =>
 CM.st (fun m => stV m x31 x30 4) <|
 CM.pu (p1 (fun a => fieldAddrA Tryz.prog 37 a 0) x13) fun x33 =>
 CM.rm (q1 (loadA Tryz.prog 35) x33 ) fun x34 =>
 CM.call 17 [x34] fun x35 =>
 CM.pu (p1 (fun a => extractA a 0) x35) fun x36 =>
 CM.pu (p1 (fun a => extractA a 1) x35) fun _ =>
 CM.al (some (.cells [(.int .i64 0), (.int .u64 0)] false, pB)) fun x38 =>
 CM.st (fun m => stV m x38 x36 2) <|
 CM.pu (p2 (binA Tryz.prog .eql 25) x3 (.int .i64 0)) fun x40 =>
 CM.ifv x40 (
 CM.pu (p2 (binA Tryz.prog .eql 25) x12 (.int .i64 0)) fun x41 =>
 CM.ifv x41 (
 CM.rm (q1 (loadA Tryz.prog 37) x4 ) fun x42 =>
 CM.rm (q1 (loadA Tryz.prog 37) x13 ) fun x43 =>
 CM.pu (p2 (binA Tryz.prog .eql 37) x42 x43) fun x44 =>
 CM.ifv x44 (
 CM.rm (q1 (loadA Tryz.prog 37) x23 ) fun x45 =>
 CM.rm (q1 (loadA Tryz.prog 37) x13 ) fun x46 =>
 CM.pu (p2 (binA Tryz.prog .eql 37) x45 x46) fun x47 =>
 CM.ifv x47 (
 CM.rm (q1 (loadA Tryz.prog 37) x18 ) fun x48 =>
 CM.pu (p1 (convA Tryz.prog 22 2) t0) fun x49 =>
 CM.call 10 [x49, t3] fun x51 =>
 CM.memo fun m52 =>
 CM.chk (q1 (loadA Tryz.prog 37) x18 m52) x48 <|
 CM.pu (p2 (binA Tryz.prog .eql 37) x48 x51) fun x53 =>
 CM.ifv x53 (
 CM.rm (q1 (loadA Tryz.prog 37) x28 ) fun x54 =>
 CM.call 10 [t15, t3] fun x56 =>
 CM.memo fun m57 =>
 CM.chk (q1 (loadA Tryz.prog 37) x28 m57) x54 <|
 CM.pu (p2 (binA Tryz.prog .eql 37) x54 x56) fun x58 =>
 CM.ifv x58 (
 CM.pu (p1 (fun a => fieldAddrA Tryz.prog 49 a 1) x31) fun x59 =>
 CM.rm (q1 (loadA Tryz.prog 46) x59 ) fun x60 =>
 CM.pu (p1 (lenT Tryz.prog 46) x60) fun x61 =>
 CM.pu (p2 (binA Tryz.prog .eql 3) x61 (.int .i64 1)) fun x62 =>
 CM.ifv x62 (
 CM.pu (p1 (fun a => fieldAddrA Tryz.prog 49 a 1) x31) fun x63 =>
 CM.rm (q1 (loadA Tryz.prog 46) x63 ) fun x64 =>
 CM.pu (p2 (indexAddrA Tryz.prog 46) x64 (.int .i64 0)) fun x65 =>
 CM.pu (p1 (fun a => fieldAddrA Tryz.prog 54 a 4) x65) fun x66 =>
 CM.rm (q1 (loadA Tryz.prog 35) x66 ) fun x67 =>
 CM.rm (q1 (loadA Tryz.prog 35) x38 ) fun x68 =>
 CM.pu (p2 (binA Tryz.prog .eql 35) x67 x68) fun x69 =>
 CM.ret x69) (
 CM.ret (.bool false))) (
 CM.ret (.bool false))) (
 CM.ret (.bool false))) (
 CM.ret (.bool false))) (
 CM.ret (.bool false))) (
 CM.ret (.bool false))) (
 CM.ret (.bool false))
theorem g3_1_ok : EqD (Rl H) g3_1 (fun xs m => goR (EH H) Mk 12289 xs m) := sE fun _ => sE fun _ => sE fun _ => sE fun _ => sE fun _ => sE fun _ => sE fun _ => zE fun _ => goR_eq 400 (by kernel_rfl)
noncomputable def f3 : List AV → CM := apS fun a0 => apS fun a1 => apS fun a2 => apS fun a3 => apS fun a4 => apS fun a5 => ap0 <|
 CM.call 4 [a3, (.int .i64 7)] fun x0 =>
 CM.call 4 [a4, (.int .i64 7)] fun x1 =>
 CM.call 4 [a5, (.int .i64 9)] fun x2 =>
 CM.call 5 [(.int .i64 2)] fun x3 =>
 CM.pu (p1 (fun a => extractA a 0) x3) fun x4 =>
 CM.pu (p1 (fun a => extractA a 1) x3) fun x5 =>
 CM.call 6 [] fun x6 =>
 CM.pu (p1 (unA .not) x6) fun x7 =>
 CM.ifv x7 (
 CM.ret (.bool false)) (
 CM.pu (p2 (binA Tryz.prog .neq 25) x5 (.int .i64 0)) fun x8 =>
 CM.ifv x8 (
 CM.ret (.bool false)) (
 CM.pu (p2 (binA Tryz.prog .eql 24) x4 (.ptr none)) fun x9 =>
 CM.cond x9 (
 CM.ret (.bool false)) (
 CM.go 12288 [a0, a1, a2, x0, x1, x2, x4])))
theorem f3_ok (h : H 3 = none) : EqD (Rl H) f3 (fun xs m => run (EH H) (.fn 3) xs m) := sE fun _ => sE fun _ => sE fun _ => sE fun _ => sE fun _ => sE fun _ => zE fun _ => run_eq 400 h (by kernel_rfl) (by kernel_rfl)
noncomputable def g4_0 : List AV → CM := apS fun t0 => ap0 <|
 CM.ret t0
theorem g4_0_ok : EqD (Rl H) g4_0 (fun xs m => goR (EH H) Mk 16384 xs m) := sE fun _ => zE fun _ => goR_eq 400 (by kernel_rfl)
noncomputable def f4 : List AV → CM := apS fun a0 => apS fun a1 => ap0 <|
 CM.pu (p2 (binA Tryz.prog .rem 3) a0 a1) fun x0 =>
 CM.pu (p2 (binA Tryz.prog .lss 3) x0 (.int .i64 0)) fun x1 =>
 CM.cond x1 (
 CM.pu (p2 (binA Tryz.prog .add 3) x0 a1) fun x2 =>
 CM.go 16384 [x2]) (
 CM.go 16384 [x0])
theorem f4_ok (h : H 4 = none) : EqD (Rl H) f4 (fun xs m => run (EH H) (.fn 4) xs m) := sE fun _ => sE fun _ => zE fun _ => run_eq 400 h (by kernel_rfl) (by kernel_rfl)
noncomputable def g5_0 : List AV → CM := apS fun t0 => ap0 <|
 CM.pu (p1 (buildA Tryz.prog 60) [(0, t0)]) fun x0 =>
 CM.al (boxA x0) fun x1 =>
 CM.call 18 [(.int .i64 8)] fun x2 =>
 CM.pu (p1 (fun a => extractA a 0) x2) fun x3 =>
 CM.pu (p1 (fun a => extractA a 1) x2) fun _ =>
 CM.pu (p1 nnA x1) fun x5 =>
 CM.pu (p1 (fun a => fieldAddrA Tryz.prog 60 a 1) x5) fun x6 =>
 CM.st (fun m => stV m x6 x3 1) <|
 CM.call 19 [(.int .i64 64)] fun x8 =>
 CM.pu (p1 (fun a => extractA a 0) x8) fun x9 =>
 CM.pu (p1 (fun a => extractA a 1) x8) fun _ =>
 CM.pu (p1 nnA x1) fun x11 =>
 CM.pu (p1 (fun a => fieldAddrA Tryz.prog 60 a 2) x11) fun x12 =>
 CM.st (fun m => stV m x12 x9 1) <|
 CM.call 20 [t0] fun x14 =>
 CM.pu (p1 (fun a => extractA a 0) x14) fun x15 =>
 CM.pu (p1 (fun a => extractA a 1) x14) fun _ =>
 CM.pu (p1 nnA x1) fun x17 =>
 CM.pu (p1 (fun a => fieldAddrA Tryz.prog 60 a 3) x17) fun x18 =>
 CM.st (fun m => stV m x18 x15 1) <|
 CM.ret (.tup [x1, (.int .i64 0)])
theorem g5_0_ok : EqD (Rl H) g5_0 (fun xs m => goR (EH H) Mk 20480 xs m) := sE fun _ => zE fun _ => goR_eq 400 (by kernel_rfl)
noncomputable def f5 : List AV → CM := apS fun a0 => ap0 <|
 CM.pu (p2 (binA Tryz.prog .lss 3) a0 (.int .i64 1)) fun x0 =>
 CM.ifv x0 (
 CM.ret (.tup [(.ptr none), (.int .i64 1)])) (
 CM.pu (p2 (binA Tryz.prog .gtr 3) a0 (.int .i64 64)) fun x1 =>
 CM.cond x1 (
 CM.ret (.tup [(.ptr none), (.int .i64 1)])) (
 CM.go 20480 [a0]))
theorem f5_ok (h : H 5 = none) : EqD (Rl H) f5 (fun xs m => run (EH H) (.fn 5) xs m) := sE fun _ => zE fun _ => run_eq 400 h (by kernel_rfl) (by kernel_rfl)
noncomputable def g6_0 : List AV → CM := apS fun t1 => ap0 <|
 CM.call 7 [t1, (.str [69, 85, 82]), (.int .u64 2)] fun x0 =>
 CM.call 7 [t1, (.str [69, 85, 82]), (.int .u64 2)] fun x1 =>
 CM.call 8 [t1, (.str [69, 85, 82])] fun x2 =>
 CM.pu (p1 (fun a => extractA a 0) x2) fun x3 =>
 CM.pu (p1 (fun a => extractA a 1) x2) fun x4 =>
 CM.call 8 [t1, (.str [85, 83, 68])] fun x5 =>
 CM.pu (p1 (fun a => extractA a 0) x5) fun _ =>
 CM.pu (p1 (fun a => extractA a 1) x5) fun x7 =>
 CM.call 10 [(.int .i64 1000), (.int .i64 2)] fun x8 =>
 CM.call 9 [t1, (.int .u64 1), x8] fun x9 =>
 CM.call 21 [t1, (.str [69, 85, 82])] fun x10 =>
 CM.pu (p1 (fun a => extractA a 0) x10) fun x11 =>
 CM.pu (p1 (fun a => extractA a 1) x10) fun x12 =>
 CM.al (some (.cells [(.int .i64 0), (.int .u64 0), (.int .i64 0)] false, pB)) fun x13 =>
 CM.st (fun m => stV m x13 x11 3) <|
 CM.pu (p2 (binA Tryz.prog .eql 25) x0 (.int .i64 0)) fun x15 =>
 CM.ifv x15 (
 CM.pu (p2 (binA Tryz.prog .eql 25) x1 (.int .i64 45)) fun x16 =>
 CM.ifv x16 (
 CM.pu (p2 (binA Tryz.prog .eql 30) x3 (.int .u64 1)) fun x17 =>
 CM.ifv x17 (
 CM.pu (p2 (binA Tryz.prog .eql 25) x4 (.int .i64 0)) fun x18 =>
 CM.ifv x18 (
 CM.pu (p2 (binA Tryz.prog .eql 25) x7 (.int .i64 41)) fun x19 =>
 CM.ifv x19 (
 CM.pu (p2 (binA Tryz.prog .eql 25) x9 (.int .i64 0)) fun x20 =>
 CM.ifv x20 (
 CM.pu (p2 (binA Tryz.prog .eql 25) x12 (.int .i64 0)) fun x21 =>
 CM.ifv x21 (
 CM.rm (q1 (loadA Tryz.prog 37) x13 ) fun x22 =>
 CM.call 10 [(.int .i64 (-1000)), (.int .i64 2)] fun x24 =>
 CM.memo fun m25 =>
 CM.chk (q1 (loadA Tryz.prog 37) x13 m25) x22 <|
 CM.pu (p2 (binA Tryz.prog .eql 37) x22 x24) fun x26 =>
 CM.ret x26) (
 CM.ret (.bool false))) (
 CM.ret (.bool false))) (
 CM.ret (.bool false))) (
 CM.ret (.bool false))) (
 CM.ret (.bool false))) (
 CM.ret (.bool false))) (
 CM.ret (.bool false))
theorem g6_0_ok : EqD (Rl H) g6_0 (fun xs m => goR (EH H) Mk 24576 xs m) := sE fun _ => zE fun _ => goR_eq 400 (by kernel_rfl)
noncomputable def f6 : List AV → CM := ap0 <|
 CM.call 5 [(.int .i64 4)] fun x0 =>
 CM.pu (p1 (fun a => extractA a 0) x0) fun x1 =>
 CM.pu (p1 (fun a => extractA a 1) x0) fun x2 =>
 CM.pu (p2 (binA Tryz.prog .neq 25) x2 (.int .i64 0)) fun x3 =>
 CM.ifv x3 (
 CM.ret (.bool false)) (
 CM.pu (p2 (binA Tryz.prog .eql 24) x1 (.ptr none)) fun x4 =>
 CM.cond x4 (
 CM.ret (.bool false)) (
 CM.go 24576 [x1]))
theorem f6_ok (h : H 6 = none) : EqD (Rl H) f6 (fun xs m => run (EH H) (.fn 6) xs m) := zE fun _ => run_eq 400 h (by kernel_rfl) (by kernel_rfl)
noncomputable def g7_0 : List AV → CM := ap0 <|
 CM.ret (.int .i64 0)
theorem g7_0_ok : EqD (Rl H) g7_0 (fun xs m => goR (EH H) Mk 28672 xs m) := zE fun _ => goR_eq 400 (by kernel_rfl)
noncomputable def f7 : List AV → CM := apS fun a0 => apS fun a1 => apS fun a2 => ap0 <|
 CM.pu (p1 nnA a0) fun x0 =>
 CM.pu (p1 (fun a => fieldAddrA Tryz.prog 60 a 1) x0) fun x1 =>
 CM.rm (q1 (loadA Tryz.prog 56) x1 ) fun x2 =>
 CM.call 22 [x2, a1] fun x3 =>
 CM.pu (p1 (fun a => extractA a 0) x3) fun x4 =>
 CM.pu (p1 (fun a => extractA a 1) x3) fun x5 =>
 CM.al (some (.cells [(.str []), (.int .i64 0), (.int .i64 0), (.int .u64 0)] false, pB)) fun x6 =>
 CM.st (fun m => stV m x6 x4 4) <|
 CM.call 23 [a1] fun x8 =>
 CM.pu (p1 (unA .not) x8) fun x9 =>
 CM.cond x9 (
 CM.ret (.int .i64 41)) (
 CM.pu (p2 (binA Tryz.prog .gtr 30) a2 (.int .u64 18)) fun x10 =>
 CM.cond x10 (
 CM.ret (.int .i64 21)) (
 CM.cond x5 (
 CM.ret (.int .i64 45)) (
 CM.pu (p1 nnA a0) fun x11 =>
 CM.pu (p1 (fun a => fieldAddrA Tryz.prog 60 a 1) x11) fun x12 =>
 CM.rm (q1 (loadA Tryz.prog 56) x12 ) fun x13 =>
 CM.pu (p1 (convA Tryz.prog 30 3) a2) fun x14 =>
 CM.pu (p1 (buildA Tryz.prog 64) [(0, a1), (1, x14)]) fun x15 =>
 CM.call 24 [x13, a1, x15] fun x16 =>
 CM.pu (p1 (unA .not) x16) fun x17 =>
 CM.cond x17 (
 CM.ret (.int .i64 2)) (
 CM.go 28672 []))))
theorem f7_ok (h : H 7 = none) : EqD (Rl H) f7 (fun xs m => run (EH H) (.fn 7) xs m) := sE fun _ => sE fun _ => sE fun _ => zE fun _ => run_eq 400 h (by kernel_rfl) (by kernel_rfl)
noncomputable def g8_0 : List AV → CM := apS fun t0 => apS fun t1 => ap0 <|
 CM.pu (p1 nnA t0) fun x0 =>
 CM.pu (p1 (fun a => fieldAddrA Tryz.prog 60 a 3) x0) fun x1 =>
 CM.rm (q1 (loadA Tryz.prog 58) x1 ) fun x2 =>
 CM.memo fun m3 =>
 CM.call 25 [x2] fun x4 =>
 CM.pu (p1 nnA t0) fun x6 =>
 CM.pu (p1 (fun a => fieldAddrA Tryz.prog 60 a 0) x6) fun x7 =>
 CM.rm (q1 (loadA Tryz.prog 3) x7 ) fun x8 =>
 CM.chk (q1 (loadA Tryz.prog 3) x7 m3) x8 <|
 CM.pu (p2 (binA Tryz.prog .geq 3) x4 x8) fun x9 =>
 CM.ifv x9 (
 CM.ret (.tup [(.int .u64 0), (.int .i64 2)])) (
 CM.pu (p1 nnA t0) fun x10 =>
 CM.pu (p1 (fun a => fieldAddrA Tryz.prog 60 a 4) x10) fun x11 =>
 CM.rm (q1 (loadA Tryz.prog 30) x11 ) fun x12 =>
 CM.pu (p2 (binA Tryz.prog .geq 30) x12 (.int .u64 72057594037927935)) fun x13 =>
 CM.cond x13 (
 CM.ret (.tup [(.int .u64 0), (.int .i64 2)])) (
 CM.go 32769 [t0, t1]))
theorem g8_0_ok : EqD (Rl H) g8_0 (fun xs m => goR (EH H) Mk 32768 xs m) := sE fun _ => sE fun _ => zE fun _ => goR_eq 400 (by kernel_rfl)
noncomputable def g8_1 : List AV → CM := apS fun t0 => apS fun t1 => ap0 <|
 CM.pu (p1 nnA t0) fun x0 =>
 CM.pu (p1 (fun a => fieldAddrA Tryz.prog 60 a 4) x0) fun x1 =>
 CM.rm (q1 (loadA Tryz.prog 30) x1 ) fun x2 =>
 CM.pu (p2 (binA Tryz.prog .add 30) x2 (.int .u64 1)) fun x3 =>
 CM.pu (p1 nnA t0) fun x4 =>
 CM.pu (p1 (fun a => fieldAddrA Tryz.prog 60 a 4) x4) fun x5 =>
 CM.st (fun m => stV m x5 x3 1) <|
 CM.pu (p1 nnA t0) fun x7 =>
 CM.pu (p1 (fun a => fieldAddrA Tryz.prog 60 a 3) x7) fun x8 =>
 CM.rm (q1 (loadA Tryz.prog 58) x8 ) fun x9 =>
 CM.pu (p1 nnA t0) fun x10 =>
 CM.pu (p1 (fun a => fieldAddrA Tryz.prog 60 a 4) x10) fun x11 =>
 CM.rm (q1 (loadA Tryz.prog 30) x11 ) fun x12 =>
 CM.pu (p1 nnA t0) fun x13 =>
 CM.pu (p1 (fun a => fieldAddrA Tryz.prog 60 a 4) x13) fun x14 =>
 CM.rm (q1 (loadA Tryz.prog 30) x14 ) fun x15 =>
 CM.pu (p1 (buildA Tryz.prog 70) [(0, x15), (1, t1)]) fun x16 =>
 CM.call 26 [x9, x12, x16] fun _ =>
 CM.pu (p1 nnA t0) fun x20 =>
 CM.pu (p1 (fun a => fieldAddrA Tryz.prog 60 a 4) x20) fun x21 =>
 CM.rm (q1 (loadA Tryz.prog 30) x21 ) fun x22 =>
 CM.ret (.tup [x22, (.int .i64 0)])
theorem g8_1_ok : EqD (Rl H) g8_1 (fun xs m => goR (EH H) Mk 32769 xs m) := sE fun _ => sE fun _ => zE fun _ => goR_eq 400 (by kernel_rfl)
noncomputable def f8 : List AV → CM := apS fun a0 => apS fun a1 => ap0 <|
 CM.pu (p1 nnA a0) fun x0 =>
 CM.pu (p1 (fun a => fieldAddrA Tryz.prog 60 a 1) x0) fun x1 =>
 CM.rm (q1 (loadA Tryz.prog 56) x1 ) fun x2 =>
 CM.call 22 [x2, a1] fun x3 =>
 CM.pu (p1 (fun a => extractA a 0) x3) fun x4 =>
 CM.pu (p1 (fun a => extractA a 1) x3) fun x5 =>
 CM.al (some (.cells [(.str []), (.int .i64 0), (.int .i64 0), (.int .u64 0)] false, pB)) fun x6 =>
 CM.st (fun m => stV m x6 x4 4) <|
 CM.pu (p1 (unA .not) x5) fun x8 =>
 CM.cond x8 (
 CM.ret (.tup [(.int .u64 0), (.int .i64 41)])) (
 CM.go 32768 [a0, a1])
theorem f8_ok (h : H 8 = none) : EqD (Rl H) f8 (fun xs m => run (EH H) (.fn 8) xs m) := sE fun _ => sE fun _ => zE fun _ => run_eq 400 h (by kernel_rfl) (by kernel_rfl)
noncomputable def g9_0 : List AV → CM := apS fun t0 => apS fun t5 => apS fun t7 => apS fun t8 => apS fun t9 => ap0 <|
 CM.pu (p2 (binA Tryz.prog .eql 25) t9 (.int .i64 0)) fun x0 =>
 CM.cond x0 (
 CM.pu (p1 (fun a => fieldAddrA Tryz.prog 64 a 2) t8) fun x1 =>
 CM.pu (p1 (fun a => fieldAddrA Tryz.prog 70 a 2) t7) fun x2 =>
 CM.pu (p1 (fun a => fieldAddrA Tryz.prog 37 a 0) t5) fun x3 =>
 CM.rm (q1 (loadA Tryz.prog 35) x3 ) fun x4 =>
 CM.call 29 [x1, x2, x4] fun x5 =>
 CM.go 36865 [t0, t7, t8, x5]) (
 CM.go 36865 [t0, t7, t8, t9])
theorem g9_0_ok : EqD (Rl H) g9_0 (fun xs m => goR (EH H) Mk 36864 xs m) := sE fun _ => sE fun _ => sE fun _ => sE fun _ => sE fun _ => zE fun _ => goR_eq 400 (by kernel_rfl)
noncomputable def g9_1 : List AV → CM := apS fun t0 => apS fun t7 => apS fun t8 => apS fun t9 => ap0 <|
 CM.pu (p2 (binA Tryz.prog .eql 25) t9 (.int .i64 0)) fun x0 =>
 CM.cond x0 (
 CM.rm (q1 (loadA Tryz.prog 70) t7 ) fun x1 =>
 CM.call 30 [t0, x1] fun _ =>
 CM.pu (p1 nnA t0) fun x3 =>
 CM.pu (p1 (fun a => fieldAddrA Tryz.prog 60 a 1) x3) fun x4 =>
 CM.rm (q1 (loadA Tryz.prog 56) x4 ) fun x5 =>
 CM.pu (p1 (fun a => fieldAddrA Tryz.prog 64 a 0) t8) fun x6 =>
 CM.rm (q1 (loadA Tryz.prog 9) x6 ) fun x7 =>
 CM.rm (q1 (loadA Tryz.prog 64) t8 ) fun x8 =>
 CM.call 24 [x5, x7, x8] fun _ =>
 CM.go 36866 [t9]) (
 CM.go 36866 [t9])
theorem g9_1_ok : EqD (Rl H) g9_1 (fun xs m => goR (EH H) Mk 36865 xs m) := sE fun _ => sE fun _ => sE fun _ => sE fun _ => zE fun _ => goR_eq 400 (by kernel_rfl)
noncomputable def g9_2 : List AV → CM := apS fun t9 => ap0 <|
 CM.ret t9
theorem g9_2_ok : EqD (Rl H) g9_2 (fun xs m => goR (EH H) Mk 36866 xs m) := sE fun _ => zE fun _ => goR_eq 400 (by kernel_rfl)
noncomputable def f9 : List AV → CM := apS fun a0 => apS fun a1 => apS fun a2 => ap0 <|
 CM.al (boxA a2) fun x0 =>
 CM.call 27 [a0, a1] fun x1 =>
 CM.pu (p1 (fun a => extractA a 0) x1) fun x2 =>
 CM.pu (p1 (fun a => extractA a 1) x1) fun x3 =>
 CM.pu (p1 (fun a => extractA a 2) x1) fun x4 =>
 CM.al (some (.cells [(.int .u64 0), (.str []), (.int .i64 0), (.int .u64 0)] false, pB)) fun x5 =>
 CM.al (some (.cells [(.str []), (.int .i64 0), (.int .i64 0), (.int .u64 0)] false, pB)) fun x6 =>
 CM.st (fun m => stV m x5 x2 4) <|
 CM.st (fun m => stV m x6 x3 4) <|
 CM.pu (p2 (binA Tryz.prog .eql 25) x4 (.int .i64 0)) fun x9 =>
 CM.cond x9 (
 CM.rm (q1 (loadA Tryz.prog 64) x6 ) fun x10 =>
 CM.rm (q1 (loadA Tryz.prog 37) x0 ) fun x11 =>
 CM.call 28 [x10, x11] fun x12 =>
 CM.go 36864 [a0, x0, x5, x6, x12]) (
 CM.go 36864 [a0, x0, x5, x6, x4])
theorem f9_ok (h : H 9 = none) : EqD (Rl H) f9 (fun xs m => run (EH H) (.fn 9) xs m) := sE fun _ => sE fun _ => sE fun _ => zE fun _ => run_eq 400 h (by kernel_rfl) (by kernel_rfl)
noncomputable def f10 : List AV → CM := apS fun a0 => apS fun a1 => ap0 <|
 CM.al (some (.cells [(.int .i64 0), (.int .u64 0), (.int .i64 0)] false, pB)) fun x0 =>
 CM.call 31 [a0] fun x1 =>
 CM.pu (p1 (buildA Tryz.prog 37) [(0, x1), (1, a1)]) fun x2 =>
 CM.st (fun m => stV m x0 x2 3) <|
 CM.resC Tryz.prog [ResultVar.cell 0 37] [x0]
theorem f10_ok (h : H 10 = none) : EqD (Rl H) f10 (fun xs m => run (EH H) (.fn 10) xs m) := sE fun _ => sE fun _ => zE fun _ => run_eq 400 h (by kernel_rfl) (by kernel_rfl)
noncomputable def g11_0 : List AV → CM := apS fun t0 => apS fun t1 => apS fun t2 => apS fun t7 => ap0 <|
 CM.rm (q1 (loadA Tryz.prog 37) t7 ) fun x0 =>
 CM.call 32 [x0] fun x1 =>
 CM.pu (p2 (binA Tryz.prog .neq 25) x1 (.int .i64 0)) fun x2 =>
 CM.cond x2 (
 CM.ret x1) (
 CM.go 45057 [t0, t1, t2, t7])
theorem g11_0_ok : EqD (Rl H) g11_0 (fun xs m => goR (EH H) Mk 45056 xs m) := sE fun _ => sE fun _ => sE fun _ => sE fun _ => zE fun _ => goR_eq 400 (by kernel_rfl)
noncomputable def g11_1 : List AV → CM := apS fun t0 => apS fun t1 => apS fun t2 => apS fun t7 => ap0 <|
 CM.pu (p1 nnA t0) fun x0 =>
 CM.pu (p1 (fun a => fieldAddrA Tryz.prog 60 a 2) x0) fun x1 =>
 CM.rm (q1 (loadA Tryz.prog 57) x1 ) fun x2 =>
 CM.pu (p2 (binA Tryz.prog .add 9) t1 t2) fun x3 =>
 CM.call 33 [x2, x3] fun x4 =>
 CM.pu (p1 (fun a => extractA a 0) x4) fun x5 =>
 CM.pu (p1 (fun a => extractA a 1) x4) fun _ =>
 CM.al (some (.cells [(.str []), (.str []), (.int .i64 0), (.int .u64 0), (.int .i64 0), (.int .i64 0), (.int .u64 0), (.int .i64 0), (.int .u64 0)] false, pB)) fun x7 =>
 CM.st (fun m => stV m x7 x5 9) <|
 CM.rm (q1 (loadA Tryz.prog 37) t7 ) fun x9 =>
 CM.pu (p1 (fun a => fieldAddrA Tryz.prog 54 a 0) x7) fun x10 =>
 CM.st (fun m => stV m x10 t1 1) <|
 CM.memo fun m13 =>
 CM.chk (q1 (loadA Tryz.prog 37) t7 m13) x9 <|
 CM.pu (p1 (fun a => fieldAddrA Tryz.prog 54 a 1) x7) fun x14 =>
 CM.st (fun m => stV m x14 t2 1) <|
 CM.memo fun m17 =>
 CM.chk (q1 (loadA Tryz.prog 37) t7 m17) x9 <|
 CM.pu (p1 (fun a => fieldAddrA Tryz.prog 54 a 2) x7) fun x18 =>
 CM.st (fun m => stV m x18 x9 3) <|
 CM.pu (p1 nnA t0) fun x22 =>
 CM.pu (p1 (fun a => fieldAddrA Tryz.prog 60 a 2) x22) fun x23 =>
 CM.rm (q1 (loadA Tryz.prog 57) x23 ) fun x24 =>
 CM.pu (p2 (binA Tryz.prog .add 9) t1 t2) fun x25 =>
 CM.rm (q1 (loadA Tryz.prog 54) x7 ) fun x26 =>
 CM.call 34 [x24, x25, x26] fun _ =>
 CM.ret (.int .i64 0)
theorem g11_1_ok : EqD (Rl H) g11_1 (fun xs m => goR (EH H) Mk 45057 xs m) := sE fun _ => sE fun _ => sE fun _ => sE fun _ => zE fun _ => goR_eq 400 (by kernel_rfl)
noncomputable def f11 : List AV → CM := apS fun a0 => apS fun a1 => apS fun a2 => apS fun a3 => ap0 <|
 CM.al (boxA a3) fun x0 =>
 CM.pu (p1 nnA a0) fun x1 =>
 CM.pu (p1 (fun a => fieldAddrA Tryz.prog 60 a 1) x1) fun x2 =>
 CM.rm (q1 (loadA Tryz.prog 56) x2 ) fun x3 =>
 CM.call 22 [x3, a1] fun x4 =>
 CM.pu (p1 (fun a => extractA a 0) x4) fun x5 =>
 CM.pu (p1 (fun a => extractA a 1) x4) fun x6 =>
 CM.al (some (.cells [(.str []), (.int .i64 0), (.int .i64 0), (.int .u64 0)] false, pB)) fun x7 =>
 CM.st (fun m => stV m x7 x5 4) <|
 CM.pu (p1 nnA a0) fun x9 =>
 CM.pu (p1 (fun a => fieldAddrA Tryz.prog 60 a 1) x9) fun x10 =>
 CM.rm (q1 (loadA Tryz.prog 56) x10 ) fun x11 =>
 CM.call 22 [x11, a2] fun x12 =>
 CM.pu (p1 (fun a => extractA a 0) x12) fun x13 =>
 CM.pu (p1 (fun a => extractA a 1) x12) fun x14 =>
 CM.al (some (.cells [(.str []), (.int .i64 0), (.int .i64 0), (.int .u64 0)] false, pB)) fun x15 =>
 CM.st (fun m => stV m x15 x13 4) <|
 CM.pu (p1 (unA .not) x6) fun x17 =>
 CM.ifv x17 (
 CM.ret (.int .i64 41)) (
 CM.pu (p1 (unA .not) x14) fun x18 =>
 CM.cond x18 (
 CM.ret (.int .i64 41)) (
 CM.pu (p2 (binA Tryz.prog .eql 9) a1 a2) fun x19 =>
 CM.cond x19 (
 CM.ret (.int .i64 45)) (
 CM.go 45056 [a0, a1, a2, x0])))
theorem f11_ok (h : H 11 = none) : EqD (Rl H) f11 (fun xs m => run (EH H) (.fn 11) xs m) := sE fun _ => sE fun _ => sE fun _ => sE fun _ => zE fun _ => run_eq 400 h (by kernel_rfl) (by kernel_rfl)
noncomputable def g12_0 : List AV → CM := apS fun t0 => apS fun t7 => apS fun t8 => apS fun t10 => apS fun t11 => apS fun t13 => apS fun t14 => apS fun t16 => ap0 <|
 CM.rm (q1 (loadA Tryz.prog 64) t11 ) fun x0 =>
 CM.rm (q1 (loadA Tryz.prog 37) t7 ) fun x1 =>
 CM.call 28 [x0, x1] fun x2 =>
 CM.pu (p2 (binA Tryz.prog .eql 25) x2 (.int .i64 0)) fun x3 =>
 CM.ifv x3 (
 CM.rm (q1 (loadA Tryz.prog 70) t10 ) fun x4 =>
 CM.rm (q1 (loadA Tryz.prog 37) t7 ) fun x5 =>
 CM.call 35 [x4, x5] fun x6 =>
 CM.cond x6 (
 CM.go 49153 [t0, t7, t8, t10, (.int .i64 42), t13, t14, t16]) (
 CM.go 49153 [t0, t7, t8, t10, x2, t13, t14, t16])) (
 CM.go 49153 [t0, t7, t8, t10, x2, t13, t14, t16])
theorem g12_0_ok : EqD (Rl H) g12_0 (fun xs m => goR (EH H) Mk 49152 xs m) := sE fun _ => sE fun _ => sE fun _ => sE fun _ => sE fun _ => sE fun _ => sE fun _ => sE fun _ => zE fun _ => goR_eq 400 (by kernel_rfl)
noncomputable def g12_1 : List AV → CM := apS fun t0 => apS fun t7 => apS fun t8 => apS fun t10 => apS fun t12 => apS fun t13 => apS fun t14 => apS fun t16 => ap0 <|
 CM.al (some (.cells [(.int .i64 0), (.int .u64 0), (.int .i64 0)] false, pB)) fun x0 =>
 CM.pu (p2 (binA Tryz.prog .eql 25) t12 (.int .i64 0)) fun x1 =>
 CM.cond x1 (
 CM.rm (q1 (loadA Tryz.prog 37) t7 ) fun x2 =>
 CM.pu (p1 (fun a => fieldAddrA Tryz.prog 54 a 2) t16) fun x3 =>
 CM.rm (q1 (loadA Tryz.prog 37) x3 ) fun x4 =>
 CM.pu (p1 (fun a => fieldAddrA Tryz.prog 64 a 1) t14) fun x5 =>
 CM.rm (q1 (loadA Tryz.prog 3) x5 ) fun x6 =>
 CM.call 36 [x2, x4, x6] fun x7 =>
 CM.pu (p1 (fun a => extractA a 0) x7) fun x8 =>
 CM.pu (p1 (fun a => extractA a 1) x7) fun x9 =>
 CM.st (fun m => stV m x0 x8 3) <|
 CM.go 49154 [t0, t7, t8, t10, x9, t13, t16, x0]) (
 CM.go 49154 [t0, t7, t8, t10, t12, t13, t16, x0])
theorem g12_1_ok : EqD (Rl H) g12_1 (fun xs m => goR (EH H) Mk 49153 xs m) := sE fun _ => sE fun _ => sE fun _ => sE fun _ => sE fun _ => sE fun _ => sE fun _ => sE fun _ => zE fun _ => goR_eq 400 (by kernel_rfl)
noncomputable def g12_2 : List AV → CM := apS fun t0 => apS fun t7 => apS fun t8 => apS fun t10 => apS fun t12 => apS fun t13 => apS fun t16 => apS fun t18 => ap0 <|
 CM.pu (p2 (binA Tryz.prog .eql 25) t12 (.int .i64 0)) fun x0 =>
 CM.cond x0 (
 CM.pu (p1 (fun a => fieldAddrA Tryz.prog 70 a 2) t10) fun x1 =>
 CM.pu (p1 (fun a => fieldAddrA Tryz.prog 54 a 3) t16) fun x2 =>
 CM.pu (p1 (fun a => fieldAddrA Tryz.prog 37 a 0) t7) fun x3 =>
 CM.rm (q1 (loadA Tryz.prog 35) x3 ) fun x4 =>
 CM.call 29 [x1, x2, x4] fun x5 =>
 CM.go 49155 [t0, t8, t10, x5, t13, t16, t18]) (
 CM.go 49155 [t0, t8, t10, t12, t13, t16, t18])
theorem g12_2_ok : EqD (Rl H) g12_2 (fun xs m => goR (EH H) Mk 49154 xs m) := sE fun _ => sE fun _ => sE fun _ => sE fun _ => sE fun _ => sE fun _ => sE fun _ => sE fun _ => zE fun _ => goR_eq 400 (by kernel_rfl)
noncomputable def g12_3 : List AV → CM := apS fun t0 => apS fun t8 => apS fun t10 => apS fun t12 => apS fun t13 => apS fun t16 => apS fun t18 => ap0 <|
 CM.pu (p2 (binA Tryz.prog .eql 25) t12 (.int .i64 0)) fun x0 =>
 CM.cond x0 (
 CM.pu (p1 (fun a => fieldAddrA Tryz.prog 54 a 4) t16) fun x1 =>
 CM.pu (p1 (fun a => fieldAddrA Tryz.prog 70 a 2) t13) fun x2 =>
 CM.pu (p1 (fun a => fieldAddrA Tryz.prog 37 a 0) t18) fun x3 =>
 CM.rm (q1 (loadA Tryz.prog 35) x3 ) fun x4 =>
 CM.call 29 [x1, x2, x4] fun x5 =>
 CM.go 49156 [t0, t8, t10, x5, t13, t16, t18]) (
 CM.go 49156 [t0, t8, t10, t12, t13, t16, t18])
theorem g12_3_ok : EqD (Rl H) g12_3 (fun xs m => goR (EH H) Mk 49155 xs m) := sE fun _ => sE fun _ => sE fun _ => sE fun _ => sE fun _ => sE fun _ => sE fun _ => zE fun _ => goR_eq 400 (by kernel_rfl)
noncomputable def g12_4 : List AV → CM := apS fun t0 => apS fun t8 => apS fun t10 => apS fun t12 => apS fun t13 => apS fun t16 => apS fun t18 => ap0 <|
 CM.pu (p2 (binA Tryz.prog .neq 25) t12 (.int .i64 0)) fun x0 =>
 CM.cond x0 (
 CM.pu (p1 (buildA Tryz.prog 37) []) fun x1 =>
 CM.st (fun m => stV m t8 x1 3) <|
 CM.resC Tryz.prog [ResultVar.cell 0 37, ResultVar.tmp 1] [t8, t12]) (
 CM.go 49157 [t0, t8, t10, t13, t16, t18])
theorem g12_4_ok : EqD (Rl H) g12_4 (fun xs m => goR (EH H) Mk 49156 xs m) := sE fun _ => sE fun _ => sE fun _ => sE fun _ => sE fun _ => sE fun _ => sE fun _ => zE fun _ => goR_eq 400 (by kernel_rfl)
noncomputable def g12_5 : List AV → CM := apS fun t0 => apS fun t8 => apS fun t10 => apS fun t13 => apS fun t16 => apS fun t18 => ap0 <|
 CM.rm (q1 (loadA Tryz.prog 70) t10 ) fun x0 =>
 CM.call 30 [t0, x0] fun _ =>
 CM.rm (q1 (loadA Tryz.prog 70) t13 ) fun x2 =>
 CM.call 30 [t0, x2] fun _ =>
 CM.pu (p1 nnA t0) fun x4 =>
 CM.pu (p1 (fun a => fieldAddrA Tryz.prog 60 a 2) x4) fun x5 =>
 CM.rm (q1 (loadA Tryz.prog 57) x5 ) fun x6 =>
 CM.pu (p1 (fun a => fieldAddrA Tryz.prog 54 a 0) t16) fun x7 =>
 CM.rm (q1 (loadA Tryz.prog 9) x7 ) fun x8 =>
 CM.pu (p1 (fun a => fieldAddrA Tryz.prog 54 a 1) t16) fun x9 =>
 CM.rm (q1 (loadA Tryz.prog 9) x9 ) fun x10 =>
 CM.pu (p2 (binA Tryz.prog .add 9) x8 x10) fun x11 =>
 CM.rm (q1 (loadA Tryz.prog 54) t16 ) fun x12 =>
 CM.call 34 [x6, x11, x12] fun _ =>
 CM.rm (q1 (loadA Tryz.prog 37) t18 ) fun x16 =>
 CM.st (fun m => stV m t8 x16 3) <|
 CM.resC Tryz.prog [ResultVar.cell 0 37, ResultVar.tmp 1] [t8, (.int .i64 0)]
theorem g12_5_ok : EqD (Rl H) g12_5 (fun xs m => goR (EH H) Mk 49157 xs m) := sE fun _ => sE fun _ => sE fun _ => sE fun _ => sE fun _ => sE fun _ => zE fun _ => goR_eq 400 (by kernel_rfl)
noncomputable def f12 : List AV → CM := apS fun a0 => apS fun a1 => apS fun a2 => apS fun a3 => ap0 <|
 CM.al (boxA a3) fun x0 =>
 CM.al (some (.cells [(.int .i64 0), (.int .u64 0), (.int .i64 0)] false, pB)) fun x1 =>
 CM.call 27 [a0, a1] fun x2 =>
 CM.pu (p1 (fun a => extractA a 0) x2) fun x3 =>
 CM.pu (p1 (fun a => extractA a 1) x2) fun x4 =>
 CM.pu (p1 (fun a => extractA a 2) x2) fun x5 =>
 CM.al (some (.cells [(.int .u64 0), (.str []), (.int .i64 0), (.int .u64 0)] false, pB)) fun x6 =>
 CM.al (some (.cells [(.str []), (.int .i64 0), (.int .i64 0), (.int .u64 0)] false, pB)) fun x7 =>
 CM.st (fun m => stV m x6 x3 4) <|
 CM.st (fun m => stV m x7 x4 4) <|
 CM.call 27 [a0, a2] fun x10 =>
 CM.pu (p1 (fun a => extractA a 0) x10) fun x11 =>
 CM.pu (p1 (fun a => extractA a 1) x10) fun x12 =>
 CM.pu (p1 (fun a => extractA a 2) x10) fun x13 =>
 CM.al (some (.cells [(.int .u64 0), (.str []), (.int .i64 0), (.int .u64 0)] false, pB)) fun x14 =>
 CM.al (some (.cells [(.str []), (.int .i64 0), (.int .i64 0), (.int .u64 0)] false, pB)) fun x15 =>
 CM.st (fun m => stV m x14 x11 4) <|
 CM.st (fun m => stV m x15 x12 4) <|
 CM.pu (p1 nnA a0) fun x18 =>
 CM.pu (p1 (fun a => fieldAddrA Tryz.prog 60 a 2) x18) fun x19 =>
 CM.rm (q1 (loadA Tryz.prog 57) x19 ) fun x20 =>
 CM.pu (p1 (fun a => fieldAddrA Tryz.prog 64 a 0) x7) fun x21 =>
 CM.rm (q1 (loadA Tryz.prog 9) x21 ) fun x22 =>
 CM.pu (p1 (fun a => fieldAddrA Tryz.prog 64 a 0) x15) fun x23 =>
 CM.rm (q1 (loadA Tryz.prog 9) x23 ) fun x24 =>
 CM.pu (p2 (binA Tryz.prog .add 9) x22 x24) fun x25 =>
 CM.call 33 [x20, x25] fun x27 =>
 CM.pu (p1 (fun a => extractA a 0) x27) fun x29 =>
 CM.pu (p1 (fun a => extractA a 1) x27) fun x30 =>
 CM.al (some (.cells [(.str []), (.str []), (.int .i64 0), (.int .u64 0), (.int .i64 0), (.int .i64 0), (.int .u64 0), (.int .i64 0), (.int .u64 0)] false, pB)) fun x31 =>
 CM.st (fun m => stV m x31 x29 9) <|
 CM.pu (p2 (binA Tryz.prog .neq 25) x5 (.int .i64 0)) fun x35 =>
 CM.cond x35 (
 CM.pu (p1 (buildA Tryz.prog 37) []) fun x36 =>
 CM.st (fun m => stV m x1 x36 3) <|
 CM.resC Tryz.prog [ResultVar.cell 0 37, ResultVar.tmp 1] [x1, x5]) (
 CM.pu (p2 (binA Tryz.prog .neq 25) x13 (.int .i64 0)) fun x38 =>
 CM.cond x38 (
 CM.pu (p1 (buildA Tryz.prog 37) []) fun x39 =>
 CM.st (fun m => stV m x1 x39 3) <|
 CM.resC Tryz.prog [ResultVar.cell 0 37, ResultVar.tmp 1] [x1, x13]) (
 CM.pu (p1 (fun a => fieldAddrA Tryz.prog 64 a 0) x7) fun x41 =>
 CM.rm (q1 (loadA Tryz.prog 9) x41 ) fun x42 =>
 CM.pu (p1 (fun a => fieldAddrA Tryz.prog 64 a 0) x15) fun x43 =>
 CM.rm (q1 (loadA Tryz.prog 9) x43 ) fun x44 =>
 CM.pu (p2 (binA Tryz.prog .eql 9) x42 x44) fun x45 =>
 CM.cond x45 (
 CM.pu (p1 (buildA Tryz.prog 37) []) fun x46 =>
 CM.st (fun m => stV m x1 x46 3) <|
 CM.resC Tryz.prog [ResultVar.cell 0 37, ResultVar.tmp 1] [x1, (.int .i64 45)]) (
 CM.pu (p1 (unA .not) x30) fun x48 =>
 CM.cond x48 (
 CM.pu (p1 (buildA Tryz.prog 37) []) fun x49 =>
 CM.st (fun m => stV m x1 x49 3) <|
 CM.resC Tryz.prog [ResultVar.cell 0 37, ResultVar.tmp 1] [x1, (.int .i64 44)]) (
 CM.go 49152 [a0, x0, x1, x6, x7, x14, x15, x31]))))
theorem f12_ok (h : H 12 = none) : EqD (Rl H) f12 (fun xs m => run (EH H) (.fn 12) xs m) := sE fun _ => sE fun _ => sE fun _ => sE fun _ => zE fun _ => run_eq 400 h (by kernel_rfl) (by kernel_rfl)
noncomputable def g13_0 : List AV → CM := apS fun t2 => apS fun t3 => apS fun t4 => apS fun t6 => ap0 <|
 CM.pu (p1 (fun a => fieldAddrA Tryz.prog 37 a 0) t3) fun x0 =>
 CM.rm (q1 (loadA Tryz.prog 35) x0 ) fun x1 =>
 CM.memo fun m2 =>
 CM.call 41 [x1] fun x3 =>
 CM.pu (p1 (fun a => fieldAddrA Tryz.prog 37 a 0) t4) fun x5 =>
 CM.rm (q1 (loadA Tryz.prog 35) x5 ) fun x6 =>
 CM.chk (q1 (loadA Tryz.prog 35) x5 m2) x6 <|
 CM.memo fun m7 =>
 CM.call 41 [x6] fun x8 =>
 CM.memo fun m10 =>
 CM.call 40 [x3, x8] fun x11 =>
 CM.pu (p1 (fun a => fieldAddrA Tryz.prog 37 a 1) t3) fun x13 =>
 CM.rm (q1 (loadA Tryz.prog 3) x13 ) fun x14 =>
 CM.chk (q1 (loadA Tryz.prog 3) x13 m10) x14 <|
 CM.chk (q1 (loadA Tryz.prog 3) x13 m7) x14 <|
 CM.chk (q1 (loadA Tryz.prog 3) x13 m2) x14 <|
 CM.pu (p1 (fun a => fieldAddrA Tryz.prog 37 a 1) t4) fun x15 =>
 CM.rm (q1 (loadA Tryz.prog 3) x15 ) fun x16 =>
 CM.chk (q1 (loadA Tryz.prog 3) x15 m10) x16 <|
 CM.chk (q1 (loadA Tryz.prog 3) x15 m7) x16 <|
 CM.chk (q1 (loadA Tryz.prog 3) x15 m2) x16 <|
 CM.pu (p2 (binA Tryz.prog .add 3) x14 x16) fun x17 =>
 CM.pu (p2 (binA Tryz.prog .sub 3) x17 t2) fun x18 =>
 CM.call 39 [x11, x18] fun x20 =>
 CM.call 38 [x20, t2] fun x23 =>
 CM.pu (p1 (fun a => extractA a 0) x23) fun x25 =>
 CM.pu (p1 (fun a => extractA a 1) x23) fun x26 =>
 CM.st (fun m => stV m t6 x25 3) <|
 CM.resC Tryz.prog [ResultVar.cell 0 37, ResultVar.tmp 1] [t6, x26]
theorem g13_0_ok : EqD (Rl H) g13_0 (fun xs m => goR (EH H) Mk 53248 xs m) := sE fun _ => sE fun _ => sE fun _ => sE fun _ => zE fun _ => goR_eq 400 (by kernel_rfl)
noncomputable def f13 : List AV → CM := apS fun a0 => apS fun a1 => apS fun a2 => ap0 <|
 CM.al (boxA a0) fun x0 =>
 CM.al (boxA a1) fun x1 =>
 CM.al (some (.cells [(.int .i64 0), (.int .u64 0), (.int .i64 0)] false, pB)) fun x2 =>
 CM.rm (q1 (loadA Tryz.prog 37) x0 ) fun x3 =>
 CM.call 37 [x3] fun x4 =>
 CM.pu (p1 (unA .not) x4) fun x5 =>
 CM.ifv x5 (
 CM.pu (p1 (buildA Tryz.prog 37) []) fun x6 =>
 CM.st (fun m => stV m x2 x6 3) <|
 CM.resC Tryz.prog [ResultVar.cell 0 37, ResultVar.tmp 1] [x2, (.int .i64 21)]) (
 CM.rm (q1 (loadA Tryz.prog 37) x1 ) fun x8 =>
 CM.call 37 [x8] fun x9 =>
 CM.pu (p1 (unA .not) x9) fun x10 =>
 CM.ifv x10 (
 CM.pu (p1 (buildA Tryz.prog 37) []) fun x11 =>
 CM.st (fun m => stV m x2 x11 3) <|
 CM.resC Tryz.prog [ResultVar.cell 0 37, ResultVar.tmp 1] [x2, (.int .i64 21)]) (
 CM.pu (p2 (binA Tryz.prog .lss 3) a2 (.int .i64 0)) fun x13 =>
 CM.ifv x13 (
 CM.pu (p1 (buildA Tryz.prog 37) []) fun x14 =>
 CM.st (fun m => stV m x2 x14 3) <|
 CM.resC Tryz.prog [ResultVar.cell 0 37, ResultVar.tmp 1] [x2, (.int .i64 21)]) (
 CM.pu (p2 (binA Tryz.prog .gtr 3) a2 (.int .i64 18)) fun x16 =>
 CM.cond x16 (
 CM.pu (p1 (buildA Tryz.prog 37) []) fun x17 =>
 CM.st (fun m => stV m x2 x17 3) <|
 CM.resC Tryz.prog [ResultVar.cell 0 37, ResultVar.tmp 1] [x2, (.int .i64 21)]) (
 CM.go 53248 [a2, x0, x1, x2]))))
theorem f13_ok (h : H 13 = none) : EqD (Rl H) f13 (fun xs m => run (EH H) (.fn 13) xs m) := sE fun _ => sE fun _ => sE fun _ => zE fun _ => run_eq 400 h (by kernel_rfl) (by kernel_rfl)
noncomputable def g14_0 : List AV → CM := apS fun t4 => apS fun t6 => apS fun t7 => ap0 <|
 CM.pu (p1 (fun a => fieldAddrA Tryz.prog 70 a 2) t6) fun x0 =>
 CM.rm (q1 (loadA Tryz.prog 35) x0 ) fun x1 =>
 CM.pu (p1 (fun a => fieldAddrA Tryz.prog 64 a 1) t7) fun x2 =>
 CM.rm (q1 (loadA Tryz.prog 3) x2 ) fun x3 =>
 CM.pu (p1 (buildA Tryz.prog 37) [(0, x1), (1, x3)]) fun x4 =>
 CM.st (fun m => stV m t4 x4 3) <|
 CM.resC Tryz.prog [ResultVar.cell 0 37, ResultVar.tmp 1] [t4, (.int .i64 0)]
theorem g14_0_ok : EqD (Rl H) g14_0 (fun xs m => goR (EH H) Mk 57344 xs m) := sE fun _ => sE fun _ => sE fun _ => zE fun _ => goR_eq 400 (by kernel_rfl)
noncomputable def f14 : List AV → CM := apS fun a0 => apS fun a1 => ap0 <|
 CM.al (some (.cells [(.int .i64 0), (.int .u64 0), (.int .i64 0)] false, pB)) fun x0 =>
 CM.call 27 [a0, a1] fun x1 =>
 CM.pu (p1 (fun a => extractA a 0) x1) fun x2 =>
 CM.pu (p1 (fun a => extractA a 1) x1) fun x3 =>
 CM.pu (p1 (fun a => extractA a 2) x1) fun x4 =>
 CM.al (some (.cells [(.int .u64 0), (.str []), (.int .i64 0), (.int .u64 0)] false, pB)) fun x5 =>
 CM.al (some (.cells [(.str []), (.int .i64 0), (.int .i64 0), (.int .u64 0)] false, pB)) fun x6 =>
 CM.st (fun m => stV m x5 x2 4) <|
 CM.st (fun m => stV m x6 x3 4) <|
 CM.pu (p2 (binA Tryz.prog .neq 25) x4 (.int .i64 0)) fun x9 =>
 CM.cond x9 (
 CM.pu (p1 (buildA Tryz.prog 37) []) fun x10 =>
 CM.st (fun m => stV m x0 x10 3) <|
 CM.resC Tryz.prog [ResultVar.cell 0 37, ResultVar.tmp 1] [x0, x4]) (
 CM.go 57344 [x0, x5, x6])
theorem f14_ok (h : H 14 = none) : EqD (Rl H) f14 (fun xs m => run (EH H) (.fn 14) xs m) := sE fun _ => sE fun _ => zE fun _ => run_eq 400 h (by kernel_rfl) (by kernel_rfl)
noncomputable def g15_0 : List AV → CM := apS fun t6 => apS fun t8 => apS fun t12 => ap0 <|
 CM.pu (p1 (fun a => fieldAddrA Tryz.prog 54 a 3) t12) fun x0 =>
 CM.rm (q1 (loadA Tryz.prog 35) x0 ) fun x1 =>
 CM.pu (p1 (fun a => fieldAddrA Tryz.prog 64 a 1) t8) fun x2 =>
 CM.rm (q1 (loadA Tryz.prog 3) x2 ) fun x3 =>
 CM.pu (p1 (buildA Tryz.prog 37) [(0, x1), (1, x3)]) fun x4 =>
 CM.st (fun m => stV m t6 x4 3) <|
 CM.resC Tryz.prog [ResultVar.cell 0 37, ResultVar.tmp 1] [t6, (.int .i64 0)]
theorem g15_0_ok : EqD (Rl H) g15_0 (fun xs m => goR (EH H) Mk 61440 xs m) := sE fun _ => sE fun _ => sE fun _ => zE fun _ => goR_eq 400 (by kernel_rfl)
noncomputable def f15 : List AV → CM := apS fun a0 => apS fun a1 => apS fun a2 => ap0 <|
 CM.al (some (.cells [(.int .i64 0), (.int .u64 0), (.int .i64 0)] false, pB)) fun x0 =>
 CM.pu (p1 nnA a0) fun x1 =>
 CM.pu (p1 (fun a => fieldAddrA Tryz.prog 60 a 1) x1) fun x2 =>
 CM.rm (q1 (loadA Tryz.prog 56) x2 ) fun x3 =>
 CM.call 22 [x3, a1] fun x4 =>
 CM.pu (p1 (fun a => extractA a 0) x4) fun x5 =>
 CM.pu (p1 (fun a => extractA a 1) x4) fun x6 =>
 CM.al (some (.cells [(.str []), (.int .i64 0), (.int .i64 0), (.int .u64 0)] false, pB)) fun x7 =>
 CM.st (fun m => stV m x7 x5 4) <|
 CM.pu (p1 nnA a0) fun x9 =>
 CM.pu (p1 (fun a => fieldAddrA Tryz.prog 60 a 1) x9) fun x10 =>
 CM.rm (q1 (loadA Tryz.prog 56) x10 ) fun x11 =>
 CM.call 22 [x11, a2] fun x12 =>
 CM.pu (p1 (fun a => extractA a 0) x12) fun x13 =>
 CM.pu (p1 (fun a => extractA a 1) x12) fun x14 =>
 CM.al (some (.cells [(.str []), (.int .i64 0), (.int .i64 0), (.int .u64 0)] false, pB)) fun x15 =>
 CM.st (fun m => stV m x15 x13 4) <|
 CM.pu (p1 nnA a0) fun x17 =>
 CM.pu (p1 (fun a => fieldAddrA Tryz.prog 60 a 2) x17) fun x18 =>
 CM.rm (q1 (loadA Tryz.prog 57) x18 ) fun x19 =>
 CM.pu (p2 (binA Tryz.prog .add 9) a1 a2) fun x20 =>
 CM.call 33 [x19, x20] fun x21 =>
 CM.pu (p1 (fun a => extractA a 0) x21) fun x22 =>
 CM.pu (p1 (fun a => extractA a 1) x21) fun x23 =>
 CM.al (some (.cells [(.str []), (.str []), (.int .i64 0), (.int .u64 0), (.int .i64 0), (.int .i64 0), (.int .u64 0), (.int .i64 0), (.int .u64 0)] false, pB)) fun x24 =>
 CM.st (fun m => stV m x24 x22 9) <|
 CM.pu (p1 (unA .not) x6) fun x26 =>
 CM.ifv x26 (
 CM.pu (p1 (buildA Tryz.prog 37) []) fun x27 =>
 CM.st (fun m => stV m x0 x27 3) <|
 CM.resC Tryz.prog [ResultVar.cell 0 37, ResultVar.tmp 1] [x0, (.int .i64 41)]) (
 CM.pu (p1 (unA .not) x14) fun x29 =>
 CM.cond x29 (
 CM.pu (p1 (buildA Tryz.prog 37) []) fun x30 =>
 CM.st (fun m => stV m x0 x30 3) <|
 CM.resC Tryz.prog [ResultVar.cell 0 37, ResultVar.tmp 1] [x0, (.int .i64 41)]) (
 CM.pu (p1 (unA .not) x23) fun x32 =>
 CM.cond x32 (
 CM.pu (p1 (buildA Tryz.prog 37) []) fun x33 =>
 CM.st (fun m => stV m x0 x33 3) <|
 CM.resC Tryz.prog [ResultVar.cell 0 37, ResultVar.tmp 1] [x0, (.int .i64 44)]) (
 CM.go 61440 [x0, x7, x24])))
theorem f15_ok (h : H 15 = none) : EqD (Rl H) f15 (fun xs m => run (EH H) (.fn 15) xs m) := sE fun _ => sE fun _ => sE fun _ => zE fun _ => run_eq 400 h (by kernel_rfl) (by kernel_rfl)
noncomputable def g16_0 : List AV → CM := apS fun t0 => apS fun t2 => apS fun t3 => apS fun t5 => apS fun t7 => apS fun t9 => apS fun t19 => apS fun t21 => apS fun t34 => apS fun t47 => ap0 <|
 CM.rng (.fn (rsOf (EH fun _ => none) 16)) t19 (loopOf (EH fun _ => none) 16 0 ([t0, .undef, t2, t3, .undef, t5, .undef, t7, .undef, t9, .undef, .undef, .undef, .undef, .undef, .undef, .undef, .undef, .undef, t19, .undef, t21, .undef, .undef, .undef, .undef, .undef, .undef, .undef, .undef, .undef, .undef, .undef, .undef, t34, .undef, .undef, .undef, .undef, .undef, .undef, .undef, .undef, .undef, .undef, .undef, .undef, t47] ++ List.replicate 7 .undef)) 65536 [t0, t2, t3, t5, t7, t9, t19, t21, t34, t47]
theorem g16_0_ok : EqD (Rl H) g16_0 (fun xs m => goR (EH H) Mk 65536 xs m) := sE fun _ => sE fun _ => sE fun _ => sE fun _ => sE fun _ => sE fun _ => sE fun _ => sE fun _ => sE fun _ => sE fun _ => zE fun _ => goR_eq 400 (by kernel_rfl)
noncomputable def g16_2 : List AV → CM := apS fun t0 => apS fun t2 => apS fun t3 => apS fun t7 => apS fun t9 => apS fun t34 => apS fun t47 => ap0 <|
 CM.pu (p1 nnA t0) fun x0 =>
 CM.pu (p1 (fun a => fieldAddrA Tryz.prog 60 a 2) x0) fun x1 =>
 CM.rm (q1 (loadA Tryz.prog 57) x1 ) fun x2 =>
 CM.call 43 [x2] fun x3 =>
 CM.go 65539 [t0, t2, t3, t7, t9, x3, t34, t47]
theorem g16_2_ok : EqD (Rl H) g16_2 (fun xs m => goR (EH H) Mk 65538 xs m) := sE fun _ => sE fun _ => sE fun _ => sE fun _ => sE fun _ => sE fun _ => sE fun _ => zE fun _ => goR_eq 400 (by kernel_rfl)
noncomputable def g16_3 : List AV → CM := apS fun t0 => apS fun t2 => apS fun t3 => apS fun t7 => apS fun t9 => apS fun t32 => apS fun t34 => apS fun t47 => ap0 <|
 CM.rng (.fn (rsOf (EH fun _ => none) 16)) t32 (loopOf (EH fun _ => none) 16 1 ([t0, .undef, t2, t3, .undef, .undef, .undef, t7, .undef, t9, .undef, .undef, .undef, .undef, .undef, .undef, .undef, .undef, .undef, .undef, .undef, .undef, .undef, .undef, .undef, .undef, .undef, .undef, .undef, .undef, .undef, .undef, t32, .undef, t34, .undef, .undef, .undef, .undef, .undef, .undef, .undef, .undef, .undef, .undef, .undef, .undef, t47] ++ List.replicate 7 .undef)) 65537 [t0, t2, t3, t7, t9, t32, t34, t47]
theorem g16_3_ok : EqD (Rl H) g16_3 (fun xs m => goR (EH H) Mk 65539 xs m) := sE fun _ => sE fun _ => sE fun _ => sE fun _ => sE fun _ => sE fun _ => sE fun _ => sE fun _ => zE fun _ => goR_eq 400 (by kernel_rfl)
noncomputable def g16_5 : List AV → CM := apS fun t0 => apS fun t2 => apS fun t3 => apS fun t9 => apS fun t47 => ap0 <|
 CM.pu (p1 nnA t0) fun x0 =>
 CM.pu (p1 (fun a => fieldAddrA Tryz.prog 60 a 3) x0) fun x1 =>
 CM.rm (q1 (loadA Tryz.prog 58) x1 ) fun x2 =>
 CM.call 44 [x2] fun x3 =>
 CM.go 65542 [t2, t3, t9, x3, t47]
theorem g16_5_ok : EqD (Rl H) g16_5 (fun xs m => goR (EH H) Mk 65541 xs m) := sE fun _ => sE fun _ => sE fun _ => sE fun _ => sE fun _ => zE fun _ => goR_eq 400 (by kernel_rfl)
noncomputable def g16_6 : List AV → CM := apS fun t2 => apS fun t3 => apS fun t9 => apS fun t45 => apS fun t47 => ap0 <|
 CM.rng (.fn (rsOf (EH fun _ => none) 16)) t45 (loopOf (EH fun _ => none) 16 2 ([.undef, .undef, t2, t3, .undef, .undef, .undef, .undef, .undef, t9, .undef, .undef, .undef, .undef, .undef, .undef, .undef, .undef, .undef, .undef, .undef, .undef, .undef, .undef, .undef, .undef, .undef, .undef, .undef, .undef, .undef, .undef, .undef, .undef, .undef, .undef, .undef, .undef, .undef, .undef, .undef, .undef, .undef, .undef, .undef, t45, .undef, t47] ++ List.replicate 7 .undef)) 65538 [t2, t3, t9, t45, t47]
theorem g16_6_ok : EqD (Rl H) g16_6 (fun xs m => goR (EH H) Mk 65542 xs m) := sE fun _ => sE fun _ => sE fun _ => sE fun _ => sE fun _ => zE fun _ => goR_eq 400 (by kernel_rfl)
noncomputable def g16_8 : List AV → CM := apS fun t2 => apS fun t3 => ap0 <|
 CM.rm (q1 (loadA Tryz.prog 49) t3 ) fun x0 =>
 CM.st (fun m => stV m t2 x0 4) <|
 CM.resC Tryz.prog [ResultVar.cell 0 49] [t2]
theorem g16_8_ok : EqD (Rl H) g16_8 (fun xs m => goR (EH H) Mk 65544 xs m) := sE fun _ => sE fun _ => zE fun _ => goR_eq 400 (by kernel_rfl)
noncomputable def l16_0_none : List AV → CM := apS fun t0 => apS fun t2 => apS fun t3 => apS fun _ => apS fun t7 => apS fun t9 => apS fun _ => apS fun _ => apS fun t34 => apS fun t47 => ap0 <|
 CM.go 65538 [t0, t2, t3, t7, t9, t34, t47]
theorem l16_0_none_ok : EqD (Rl H) l16_0_none (fun xs m => afR (EH H) Nk 65536 none xs m) := sE fun _ => sE fun _ => sE fun _ => sE fun _ => sE fun _ => sE fun _ => sE fun _ => sE fun _ => sE fun _ => sE fun _ => zE fun _ => afR_eq 400 (by kernel_rfl)
noncomputable def l16_1_none : List AV → CM := apS fun t0 => apS fun t2 => apS fun t3 => apS fun _ => apS fun t9 => apS fun _ => apS fun _ => apS fun t47 => ap0 <|
 CM.go 65541 [t0, t2, t3, t9, t47]
theorem l16_1_none_ok : EqD (Rl H) l16_1_none (fun xs m => afR (EH H) Nk 65537 none xs m) := sE fun _ => sE fun _ => sE fun _ => sE fun _ => sE fun _ => sE fun _ => sE fun _ => sE fun _ => zE fun _ => afR_eq 400 (by kernel_rfl)
noncomputable def l16_2_none : List AV → CM := apS fun t2 => apS fun t3 => apS fun _ => apS fun _ => apS fun _ => ap0 <|
 CM.go 65544 [t2, t3]
theorem l16_2_none_ok : EqD (Rl H) l16_2_none (fun xs m => afR (EH H) Nk 65538 none xs m) := sE fun _ => sE fun _ => sE fun _ => sE fun _ => sE fun _ => zE fun _ => afR_eq 400 (by kernel_rfl)
noncomputable def f16 : List AV → CM := apS fun a0 => ap0 <|
 CM.al (some (.cells [(.sl none 0 0 0 true), (.sl none 0 0 0 true), (.sl none 0 0 0 true), (.int .u64 0)] false, pB)) fun x0 =>
 CM.pu (p1 nnA a0) fun x1 =>
 CM.pu (p1 (fun a => fieldAddrA Tryz.prog 60 a 4) x1) fun x2 =>
 CM.rm (q1 (loadA Tryz.prog 30) x2 ) fun x3 =>
 CM.pu (p1 (buildA Tryz.prog 49) [(3, x3)]) fun x4 =>
 CM.al (some (.cells [(.sl none 0 0 0 true), (.sl none 0 0 0 true), (.sl none 0 0 0 true), (.int .u64 0)] false, pB)) fun x5 =>
 CM.st (fun m => stV m x5 x4 4) <|
 CM.pu (p1 nnA a0) fun x7 =>
 CM.pu (p1 (fun a => fieldAddrA Tryz.prog 60 a 1) x7) fun x8 =>
 CM.rm (q1 (loadA Tryz.prog 56) x8 ) fun x9 =>
 CM.call 42 [x9] fun x10 =>
 CM.go 65536 [a0, x0, x5, .undef, .undef, .undef, x10, .undef, .undef, .undef]
theorem f16_ok (h : H 16 = none) : EqD (Rl H) f16 (fun xs m => run (EH H) (.fn 16) xs m) := sE fun _ => zE fun _ => run_eq 400 h (by kernel_rfl) (by kernel_rfl)
noncomputable def f17 : List AV → CM := apS fun a0 => ap0 <|
 CM.al (boxA a0) fun x0 =>
 CM.al (some (.cells [(.int .i64 0), (.int .u64 0)] false, pB)) fun x1 =>
 CM.pu (p1 (buildA Tryz.prog 35) []) fun x2 =>
 CM.rm (q1 (loadA Tryz.prog 35) x0 ) fun x3 =>
 CM.call 45 [x2, x3] fun x4 =>
 CM.pu (p1 (fun a => extractA a 0) x4) fun x5 =>
 CM.pu (p1 (fun a => extractA a 1) x4) fun x6 =>
 CM.st (fun m => stV m x1 x5 2) <|
 CM.resC Tryz.prog [ResultVar.cell 0 35, ResultVar.tmp 1] [x1, x6]
theorem f17_ok (h : H 17 = none) : EqD (Rl H) f17 (fun xs m => run (EH H) (.fn 17) xs m) := sE fun _ => zE fun _ => run_eq 400 h (by kernel_rfl) (by kernel_rfl)
noncomputable def g18_0 : List AV → CM := apS fun t0 => ap0 <|
 CM.pu (p1 (buildA Tryz.prog 111) [(2, t0)]) fun x0 =>
 CM.al (boxA x0) fun x1 =>
 CM.ret (.tup [x1, (.int .i64 0)])
theorem g18_0_ok : EqD (Rl H) g18_0 (fun xs m => goR (EH H) Mk 73728 xs m) := sE fun _ => zE fun _ => goR_eq 400 (by kernel_rfl)
noncomputable def f18 : List AV → CM := apS fun a0 => ap0 <|
 CM.pu (p2 (binA Tryz.prog .lss 3) a0 (.int .i64 1)) fun x0 =>
 CM.ifv x0 (
 CM.ret (.tup [(.ptr none), (.int .i64 1)])) (
 CM.pu (p2 (binA Tryz.prog .gtr 3) a0 (.int .i64 4096)) fun x1 =>
 CM.cond x1 (
 CM.ret (.tup [(.ptr none), (.int .i64 1)])) (
 CM.go 73728 [a0]))
theorem f18_ok (h : H 18 = none) : EqD (Rl H) f18 (fun xs m => run (EH H) (.fn 18) xs m) := sE fun _ => zE fun _ => run_eq 400 h (by kernel_rfl) (by kernel_rfl)
noncomputable def g19_0 : List AV → CM := apS fun t0 => ap0 <|
 CM.pu (p1 (buildA Tryz.prog 113) [(2, t0)]) fun x0 =>
 CM.al (boxA x0) fun x1 =>
 CM.ret (.tup [x1, (.int .i64 0)])
theorem g19_0_ok : EqD (Rl H) g19_0 (fun xs m => goR (EH H) Mk 77824 xs m) := sE fun _ => zE fun _ => goR_eq 400 (by kernel_rfl)
noncomputable def f19 : List AV → CM := apS fun a0 => ap0 <|
 CM.pu (p2 (binA Tryz.prog .lss 3) a0 (.int .i64 1)) fun x0 =>
 CM.ifv x0 (
 CM.ret (.tup [(.ptr none), (.int .i64 1)])) (
 CM.pu (p2 (binA Tryz.prog .gtr 3) a0 (.int .i64 4096)) fun x1 =>
 CM.cond x1 (
 CM.ret (.tup [(.ptr none), (.int .i64 1)])) (
 CM.go 77824 [a0]))
theorem f19_ok (h : H 19 = none) : EqD (Rl H) f19 (fun xs m => run (EH H) (.fn 19) xs m) := sE fun _ => zE fun _ => run_eq 400 h (by kernel_rfl) (by kernel_rfl)
noncomputable def g20_0 : List AV → CM := apS fun t0 => ap0 <|
 CM.pu (p1 (buildA Tryz.prog 116) [(2, t0)]) fun x0 =>
 CM.al (boxA x0) fun x1 =>
 CM.ret (.tup [x1, (.int .i64 0)])
theorem g20_0_ok : EqD (Rl H) g20_0 (fun xs m => goR (EH H) Mk 81920 xs m) := sE fun _ => zE fun _ => goR_eq 400 (by kernel_rfl)
noncomputable def f20 : List AV → CM := apS fun a0 => ap0 <|
 CM.pu (p2 (binA Tryz.prog .lss 3) a0 (.int .i64 1)) fun x0 =>
 CM.ifv x0 (
 CM.ret (.tup [(.ptr none), (.int .i64 1)])) (
 CM.pu (p2 (binA Tryz.prog .gtr 3) a0 (.int .i64 4096)) fun x1 =>
 CM.cond x1 (
 CM.ret (.tup [(.ptr none), (.int .i64 1)])) (
 CM.go 81920 [a0]))
theorem f20_ok (h : H 20 = none) : EqD (Rl H) f20 (fun xs m => run (EH H) (.fn 20) xs m) := sE fun _ => zE fun _ => run_eq 400 h (by kernel_rfl) (by kernel_rfl)
noncomputable def g21_0 : List AV → CM := apS fun t4 => apS fun t6 => ap0 <|
 CM.pu (p1 (fun a => fieldAddrA Tryz.prog 64 a 2) t6) fun x0 =>
 CM.rm (q1 (loadA Tryz.prog 35) x0 ) fun x1 =>
 CM.pu (p1 (fun a => fieldAddrA Tryz.prog 64 a 1) t6) fun x2 =>
 CM.rm (q1 (loadA Tryz.prog 3) x2 ) fun x3 =>
 CM.pu (p1 (buildA Tryz.prog 37) [(0, x1), (1, x3)]) fun x4 =>
 CM.st (fun m => stV m t4 x4 3) <|
 CM.resC Tryz.prog [ResultVar.cell 0 37, ResultVar.tmp 1] [t4, (.int .i64 0)]
theorem g21_0_ok : EqD (Rl H) g21_0 (fun xs m => goR (EH H) Mk 86016 xs m) := sE fun _ => sE fun _ => zE fun _ => goR_eq 400 (by kernel_rfl)
noncomputable def f21 : List AV → CM := apS fun a0 => apS fun a1 => ap0 <|
 CM.al (some (.cells [(.int .i64 0), (.int .u64 0), (.int .i64 0)] false, pB)) fun x0 =>
 CM.pu (p1 nnA a0) fun x1 =>
 CM.pu (p1 (fun a => fieldAddrA Tryz.prog 60 a 1) x1) fun x2 =>
 CM.rm (q1 (loadA Tryz.prog 56) x2 ) fun x3 =>
 CM.call 22 [x3, a1] fun x4 =>
 CM.pu (p1 (fun a => extractA a 0) x4) fun x5 =>
 CM.pu (p1 (fun a => extractA a 1) x4) fun x6 =>
 CM.al (some (.cells [(.str []), (.int .i64 0), (.int .i64 0), (.int .u64 0)] false, pB)) fun x7 =>
 CM.st (fun m => stV m x7 x5 4) <|
 CM.pu (p1 (unA .not) x6) fun x9 =>
 CM.cond x9 (
 CM.pu (p1 (buildA Tryz.prog 37) []) fun x10 =>
 CM.st (fun m => stV m x0 x10 3) <|
 CM.resC Tryz.prog [ResultVar.cell 0 37, ResultVar.tmp 1] [x0, (.int .i64 41)]) (
 CM.go 86016 [x0, x7])
theorem f21_ok (h : H 21 = none) : EqD (Rl H) f21 (fun xs m => run (EH H) (.fn 21) xs m) := sE fun _ => sE fun _ => zE fun _ => run_eq 400 h (by kernel_rfl) (by kernel_rfl)
noncomputable def g22_0 : List AV → CM := apS fun t0 => apS fun t4 => apS fun t6 => ap0 <|
 CM.pu (p1 nnA t0) fun x0 =>
 CM.pu (p1 (fun a => fieldAddrA Tryz.prog 111 a 1) x0) fun x1 =>
 CM.rm (q1 (loadA Tryz.prog 45) x1 ) fun x2 =>
 CM.pu (p2 (indexAddrA Tryz.prog 45) x2 t6) fun x3 =>
 CM.rm (q1 (loadA Tryz.prog 64) x3 ) fun x4 =>
 CM.st (fun m => stV m t4 x4 4) <|
 CM.resC Tryz.prog [ResultVar.cell 0 64, ResultVar.tmp 1] [t4, (.bool true)]
theorem g22_0_ok : EqD (Rl H) g22_0 (fun xs m => goR (EH H) Mk 90112 xs m) := sE fun _ => sE fun _ => sE fun _ => zE fun _ => goR_eq 400 (by kernel_rfl)
noncomputable def f22 : List AV → CM := apS fun a0 => apS fun a1 => ap0 <|
 CM.al (some (.cells [(.str []), (.int .i64 0), (.int .i64 0), (.int .u64 0)] false, pB)) fun x0 =>
 CM.pu (p1 nnA a0) fun x1 =>
 CM.pu (p1 (fun a => fieldAddrA Tryz.prog 111 a 0) x1) fun x2 =>
 CM.rm (q1 (loadA Tryz.prog 109) x2 ) fun x3 =>
 CM.call 46 [x3, a1] fun x4 =>
 CM.pu (p1 (fun a => extractA a 0) x4) fun x5 =>
 CM.pu (p1 (fun a => extractA a 1) x4) fun x6 =>
 CM.pu (p1 (unA .not) x6) fun x7 =>
 CM.cond x7 (
 CM.al (some (.cells [(.str []), (.int .i64 0), (.int .i64 0), (.int .u64 0)] false, pB)) fun x8 =>
 CM.rm (q1 (loadA Tryz.prog 64) x8 ) fun x9 =>
 CM.st (fun m => stV m x0 x9 4) <|
 CM.resC Tryz.prog [ResultVar.cell 0 64, ResultVar.tmp 1] [x0, (.bool false)]) (
 CM.go 90112 [a0, x0, x5])
theorem f22_ok (h : H 22 = none) : EqD (Rl H) f22 (fun xs m => run (EH H) (.fn 22) xs m) := sE fun _ => sE fun _ => zE fun _ => run_eq 400 h (by kernel_rfl) (by kernel_rfl)
noncomputable def g23_0 : List AV → CM := apS fun t0 => apS fun t3 => ap0 <|
 CM.pu (p1 (lenT Tryz.prog 9) t0) fun x0 =>
 CM.pu (p2 (binA Tryz.prog .lss 3) t3 x0) fun x1 =>
 CM.cond x1 (
 CM.go 94209 [t0, t3]) (
 CM.go 94211 [t0])
theorem g23_0_ok : EqD (Rl H) g23_0 (fun xs m => goR (EH H) Mk 94208 xs m) := sE fun _ => sE fun _ => zE fun _ => goR_eq 400 (by kernel_rfl)
noncomputable def g23_1 : List AV → CM := apS fun t0 => apS fun t3 => ap0 <|
 CM.pu (p2 (indexA Tryz.prog 9) t0 t3) fun x0 =>
 CM.pu (p2 (binA Tryz.prog .lss 5) x0 (.int .u8 65)) fun x1 =>
 CM.ifv x1 (
 CM.ret (.bool false)) (
 CM.pu (p2 (indexA Tryz.prog 9) t0 t3) fun x2 =>
 CM.pu (p2 (binA Tryz.prog .gtr 5) x2 (.int .u8 90)) fun x3 =>
 CM.cond x3 (
 CM.ret (.bool false)) (
 CM.go 94210 [t0, t3]))
theorem g23_1_ok : EqD (Rl H) g23_1 (fun xs m => goR (EH H) Mk 94209 xs m) := sE fun _ => sE fun _ => zE fun _ => goR_eq 400 (by kernel_rfl)
noncomputable def g23_2 : List AV → CM := apS fun t0 => apS fun t3 => ap0 <|
 CM.pu (p2 (binA Tryz.prog .add 3) t3 (.int .i64 1)) fun x0 =>
 CM.go 94208 [t0, x0]
theorem g23_2_ok : EqD (Rl H) g23_2 (fun xs m => goR (EH H) Mk 94210 xs m) := sE fun _ => sE fun _ => zE fun _ => goR_eq 400 (by kernel_rfl)
noncomputable def g23_3 : List AV → CM := apS fun t0 => ap0 <|
 CM.pu (p1 (lenT Tryz.prog 9) t0) fun x0 =>
 CM.pu (p2 (binA Tryz.prog .eql 3) x0 (.int .i64 3)) fun x1 =>
 CM.ret x1
theorem g23_3_ok : EqD (Rl H) g23_3 (fun xs m => goR (EH H) Mk 94211 xs m) := sE fun _ => zE fun _ => goR_eq 400 (by kernel_rfl)
noncomputable def f23 : List AV → CM := apS fun a0 => ap0 <|
 CM.go 94208 [a0, (.int .i64 0)]
theorem f23_ok (h : H 23 = none) : EqD (Rl H) f23 (fun xs m => run (EH H) (.fn 23) xs m) := sE fun _ => zE fun _ => run_eq 400 h (by kernel_rfl) (by kernel_rfl)
noncomputable def g24_0 : List AV → CM := ap0 <|
 CM.ret (.bool true)
theorem g24_0_ok : EqD (Rl H) g24_0 (fun xs m => goR (EH H) Mk 98304 xs m) := zE fun _ => goR_eq 400 (by kernel_rfl)
noncomputable def f24 : List AV → CM := apS fun a0 => apS fun a1 => apS fun a2 => ap0 <|
 CM.al (boxA a2) fun x0 =>
 CM.pu (p1 nnA a0) fun x1 =>
 CM.pu (p1 (fun a => fieldAddrA Tryz.prog 111 a 0) x1) fun x2 =>
 CM.rm (q1 (loadA Tryz.prog 109) x2 ) fun x3 =>
 CM.call 46 [x3, a1] fun x4 =>
 CM.pu (p1 (fun a => extractA a 0) x4) fun x5 =>
 CM.pu (p1 (fun a => extractA a 1) x4) fun x6 =>
 CM.cond x6 (
 CM.pu (p1 nnA a0) fun x7 =>
 CM.pu (p1 (fun a => fieldAddrA Tryz.prog 111 a 1) x7) fun x8 =>
 CM.rm (q1 (loadA Tryz.prog 45) x8 ) fun x9 =>
 CM.rm (q1 (loadA Tryz.prog 64) x0 ) fun x10 =>
 CM.pu (p2 (indexAddrA Tryz.prog 45) x9 x5) fun x11 =>
 CM.st (fun m => stV m x11 x10 4) <|
 CM.go 98304 []) (
 CM.pu (p1 nnA a0) fun x15 =>
 CM.pu (p1 (fun a => fieldAddrA Tryz.prog 111 a 0) x15) fun x16 =>
 CM.rm (q1 (loadA Tryz.prog 109) x16 ) fun x17 =>
 CM.pu (p1 (lenT Tryz.prog 109) x17) fun x18 =>
 CM.pu (p1 nnA a0) fun x19 =>
 CM.pu (p1 (fun a => fieldAddrA Tryz.prog 111 a 2) x19) fun x20 =>
 CM.rm (q1 (loadA Tryz.prog 3) x20 ) fun x21 =>
 CM.pu (p2 (binA Tryz.prog .geq 3) x18 x21) fun x22 =>
 CM.cond x22 (
 CM.ret (.bool false)) (
 CM.pu (p1 nnA a0) fun x23 =>
 CM.pu (p1 (fun a => fieldAddrA Tryz.prog 111 a 0) x23) fun x24 =>
 CM.rm (q1 (loadA Tryz.prog 109) x24 ) fun x25 =>
 CM.al (bsA 1 1 [(.str [])] [(0, a1)]) fun x26 =>
 CM.call 47 [x25, x5, x26] fun x27 =>
 CM.pu (p1 nnA a0) fun x28 =>
 CM.pu (p1 (fun a => fieldAddrA Tryz.prog 111 a 0) x28) fun x29 =>
 CM.st (fun m => stV m x29 x27 1) <|
 CM.pu (p1 nnA a0) fun x31 =>
 CM.pu (p1 (fun a => fieldAddrA Tryz.prog 111 a 1) x31) fun x32 =>
 CM.rm (q1 (loadA Tryz.prog 45) x32 ) fun x33 =>
 CM.rm (q1 (loadA Tryz.prog 64) x0 ) fun x34 =>
 CM.al (bsA 4 1 [(.str []), (.int .i64 0), (.int .i64 0), (.int .u64 0)] [(0, x34)]) fun x35 =>
 CM.call 48 [x33, x5, x35] fun x37 =>
 CM.pu (p1 nnA a0) fun x39 =>
 CM.pu (p1 (fun a => fieldAddrA Tryz.prog 111 a 1) x39) fun x40 =>
 CM.st (fun m => stV m x40 x37 1) <|
 CM.go 98304 []))
theorem f24_ok (h : H 24 = none) : EqD (Rl H) f24 (fun xs m => run (EH H) (.fn 24) xs m) := sE fun _ => sE fun _ => sE fun _ => zE fun _ => run_eq 400 h (by kernel_rfl) (by kernel_rfl)
noncomputable def f25 : List AV → CM := apS fun a0 => ap0 <|
 CM.pu (p1 nnA a0) fun x0 =>
 CM.pu (p1 (fun a => fieldAddrA Tryz.prog 116 a 0) x0) fun x1 =>
 CM.rm (q1 (loadA Tryz.prog 114) x1 ) fun x2 =>
 CM.pu (p1 (lenT Tryz.prog 114) x2) fun x3 =>
 CM.ret x3
theorem f25_ok (h : H 25 = none) : EqD (Rl H) f25 (fun xs m => run (EH H) (.fn 25) xs m) := sE fun _ => zE fun _ => run_eq 400 h (by kernel_rfl) (by kernel_rfl)
noncomputable def g26_0 : List AV → CM := ap0 <|
 CM.ret (.bool true)
theorem g26_0_ok : EqD (Rl H) g26_0 (fun xs m => goR (EH H) Mk 106496 xs m) := zE fun _ => goR_eq 400 (by kernel_rfl)
noncomputable def f26 : List AV → CM := apS fun a0 => apS fun a1 => apS fun a2 => ap0 <|
 CM.al (boxA a2) fun x0 =>
 CM.pu (p1 nnA a0) fun x1 =>
 CM.pu (p1 (fun a => fieldAddrA Tryz.prog 116 a 0) x1) fun x2 =>
 CM.rm (q1 (loadA Tryz.prog 114) x2 ) fun x3 =>
 CM.call 49 [x3, a1] fun x4 =>
 CM.pu (p1 (fun a => extractA a 0) x4) fun x5 =>
 CM.pu (p1 (fun a => extractA a 1) x4) fun x6 =>
 CM.cond x6 (
 CM.pu (p1 nnA a0) fun x7 =>
 CM.pu (p1 (fun a => fieldAddrA Tryz.prog 116 a 1) x7) fun x8 =>
 CM.rm (q1 (loadA Tryz.prog 47) x8 ) fun x9 =>
 CM.rm (q1 (loadA Tryz.prog 70) x0 ) fun x10 =>
 CM.pu (p2 (indexAddrA Tryz.prog 47) x9 x5) fun x11 =>
 CM.st (fun m => stV m x11 x10 4) <|
 CM.go 106496 []) (
 CM.pu (p1 nnA a0) fun x15 =>
 CM.pu (p1 (fun a => fieldAddrA Tryz.prog 116 a 0) x15) fun x16 =>
 CM.rm (q1 (loadA Tryz.prog 114) x16 ) fun x17 =>
 CM.pu (p1 (lenT Tryz.prog 114) x17) fun x18 =>
 CM.pu (p1 nnA a0) fun x19 =>
 CM.pu (p1 (fun a => fieldAddrA Tryz.prog 116 a 2) x19) fun x20 =>
 CM.rm (q1 (loadA Tryz.prog 3) x20 ) fun x21 =>
 CM.pu (p2 (binA Tryz.prog .geq 3) x18 x21) fun x22 =>
 CM.cond x22 (
 CM.ret (.bool false)) (
 CM.pu (p1 nnA a0) fun x23 =>
 CM.pu (p1 (fun a => fieldAddrA Tryz.prog 116 a 0) x23) fun x24 =>
 CM.rm (q1 (loadA Tryz.prog 114) x24 ) fun x25 =>
 CM.al (bsA 1 1 [(.int .u64 0)] [(0, a1)]) fun x26 =>
 CM.call 50 [x25, x5, x26] fun x27 =>
 CM.pu (p1 nnA a0) fun x28 =>
 CM.pu (p1 (fun a => fieldAddrA Tryz.prog 116 a 0) x28) fun x29 =>
 CM.st (fun m => stV m x29 x27 1) <|
 CM.pu (p1 nnA a0) fun x31 =>
 CM.pu (p1 (fun a => fieldAddrA Tryz.prog 116 a 1) x31) fun x32 =>
 CM.rm (q1 (loadA Tryz.prog 47) x32 ) fun x33 =>
 CM.rm (q1 (loadA Tryz.prog 70) x0 ) fun x34 =>
 CM.al (bsA 4 1 [(.int .u64 0), (.str []), (.int .i64 0), (.int .u64 0)] [(0, x34)]) fun x35 =>
 CM.call 51 [x33, x5, x35] fun x37 =>
 CM.pu (p1 nnA a0) fun x39 =>
 CM.pu (p1 (fun a => fieldAddrA Tryz.prog 116 a 1) x39) fun x40 =>
 CM.st (fun m => stV m x40 x37 1) <|
 CM.go 106496 []))
theorem f26_ok (h : H 26 = none) : EqD (Rl H) f26 (fun xs m => run (EH H) (.fn 26) xs m) := sE fun _ => sE fun _ => sE fun _ => zE fun _ => run_eq 400 h (by kernel_rfl) (by kernel_rfl)
noncomputable def g27_0 : List AV → CM := apS fun t0 => apS fun t4 => apS fun t5 => apS fun t7 => ap0 <|
 CM.pu (p1 nnA t0) fun x0 =>
 CM.pu (p1 (fun a => fieldAddrA Tryz.prog 60 a 1) x0) fun x1 =>
 CM.rm (q1 (loadA Tryz.prog 56) x1 ) fun x2 =>
 CM.pu (p1 (fun a => fieldAddrA Tryz.prog 70 a 1) t7) fun x3 =>
 CM.rm (q1 (loadA Tryz.prog 9) x3 ) fun x4 =>
 CM.call 22 [x2, x4] fun x6 =>
 CM.pu (p1 (fun a => extractA a 0) x6) fun x8 =>
 CM.pu (p1 (fun a => extractA a 1) x6) fun _ =>
 CM.al (some (.cells [(.str []), (.int .i64 0), (.int .i64 0), (.int .u64 0)] false, pB)) fun x10 =>
 CM.st (fun m => stV m x10 x8 4) <|
 CM.rm (q1 (loadA Tryz.prog 70) t7 ) fun x14 =>
 CM.rm (q1 (loadA Tryz.prog 64) x10 ) fun x15 =>
 CM.st (fun m => stV m t4 x14 4) <|
 CM.memo fun m18 =>
 CM.chk (q1 (loadA Tryz.prog 64) x10 m18) x15 <|
 CM.st (fun m => stV m t5 x15 4) <|
 CM.resC Tryz.prog [ResultVar.cell 0 70, ResultVar.cell 1 64, ResultVar.tmp 2] [t4, t5, (.int .i64 0)]
theorem g27_0_ok : EqD (Rl H) g27_0 (fun xs m => goR (EH H) Mk 110592 xs m) := sE fun _ => sE fun _ => sE fun _ => sE fun _ => zE fun _ => goR_eq 400 (by kernel_rfl)
noncomputable def f27 : List AV → CM := apS fun a0 => apS fun a1 => ap0 <|
 CM.al (some (.cells [(.int .u64 0), (.str []), (.int .i64 0), (.int .u64 0)] false, pB)) fun x0 =>
 CM.al (some (.cells [(.str []), (.int .i64 0), (.int .i64 0), (.int .u64 0)] false, pB)) fun x1 =>
 CM.pu (p1 nnA a0) fun x2 =>
 CM.pu (p1 (fun a => fieldAddrA Tryz.prog 60 a 3) x2) fun x3 =>
 CM.rm (q1 (loadA Tryz.prog 58) x3 ) fun x4 =>
 CM.call 52 [x4, a1] fun x5 =>
 CM.pu (p1 (fun a => extractA a 0) x5) fun x6 =>
 CM.pu (p1 (fun a => extractA a 1) x5) fun x7 =>
 CM.al (some (.cells [(.int .u64 0), (.str []), (.int .i64 0), (.int .u64 0)] false, pB)) fun x8 =>
 CM.st (fun m => stV m x8 x6 4) <|
 CM.pu (p1 (unA .not) x7) fun x10 =>
 CM.cond x10 (
 CM.rm (q1 (loadA Tryz.prog 70) x8 ) fun x11 =>
 CM.pu (p1 (buildA Tryz.prog 64) []) fun x12 =>
 CM.st (fun m => stV m x0 x11 4) <|
 CM.st (fun m => stV m x1 x12 4) <|
 CM.resC Tryz.prog [ResultVar.cell 0 70, ResultVar.cell 1 64, ResultVar.tmp 2] [x0, x1, (.int .i64 40)]) (
 CM.go 110592 [a0, x0, x1, x8])
theorem f27_ok (h : H 27 = none) : EqD (Rl H) f27 (fun xs m => run (EH H) (.fn 27) xs m) := sE fun _ => sE fun _ => zE fun _ => run_eq 400 h (by kernel_rfl) (by kernel_rfl)
noncomputable def g28_0 : List AV → CM := ap0 <|
 CM.ret (.int .i64 0)
theorem g28_0_ok : EqD (Rl H) g28_0 (fun xs m => goR (EH H) Mk 114688 xs m) := zE fun _ => goR_eq 400 (by kernel_rfl)
noncomputable def f28 : List AV → CM := apS fun a0 => apS fun a1 => ap0 <|
 CM.al (boxA a0) fun x0 =>
 CM.al (boxA a1) fun x1 =>
 CM.pu (p1 (fun a => fieldAddrA Tryz.prog 37 a 1) x1) fun x2 =>
 CM.rm (q1 (loadA Tryz.prog 3) x2 ) fun x3 =>
 CM.pu (p1 (fun a => fieldAddrA Tryz.prog 64 a 1) x0) fun x4 =>
 CM.rm (q1 (loadA Tryz.prog 3) x4 ) fun x5 =>
 CM.pu (p2 (binA Tryz.prog .neq 3) x3 x5) fun x6 =>
 CM.cond x6 (
 CM.ret (.int .i64 21)) (
 CM.pu (p1 (fun a => fieldAddrA Tryz.prog 37 a 0) x1) fun x7 =>
 CM.rm (q1 (loadA Tryz.prog 35) x7 ) fun x8 =>
 CM.call 53 [x8] fun x9 =>
 CM.pu (p2 (binA Tryz.prog .leq 3) x9 (.int .i64 0)) fun x10 =>
 CM.cond x10 (
 CM.ret (.int .i64 43)) (
 CM.go 114688 []))
theorem f28_ok (h : H 28 = none) : EqD (Rl H) f28 (fun xs m => run (EH H) (.fn 28) xs m) := sE fun _ => sE fun _ => zE fun _ => run_eq 400 h (by kernel_rfl) (by kernel_rfl)
end Go.Proofs.YtlginbmjiecglaaGreat.T
end
