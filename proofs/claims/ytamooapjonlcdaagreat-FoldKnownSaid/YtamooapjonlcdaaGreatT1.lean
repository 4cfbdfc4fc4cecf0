/- Functions as trees, printed by our own program (wip/tools/gen3.lean). -/
import Derived.Test.YtamooapjonlcdaaGreatT0
namespace Go.Proofs.YtamooapjonlcdaaGreat.T
open Go Go.Abs Go.Proofs.YtamooapjonlcdaaGreat
set_option maxRecDepth 10000
noncomputable def f2 : List AV → CM := ap0 <|
CM.call 1 [] fun _ =>
CM.ret .undef
theorem f2_ok : LeD (real E Mk Nk) f2 (fun xs m => run E (.fn 2) xs m) := ap0_le fun _ => run_eq 400 rfl (by kernel_rfl) (by kernel_rfl)
noncomputable def g3_0 : List AV → CM := apS fun t0 => apS fun t1 => apS fun t2 => apS fun t3 => apS fun t4 => apS fun t5 => apS fun t13 => ap0 <|
CM.pu (p1 (convA Tryz.prog 3 30) t3) fun x0 =>
CM.call 9 [t13, (.str [65, 65, 65]), x0] fun _ =>
CM.pu (p1 (convA Tryz.prog 3 30) t4) fun x2 =>
CM.call 9 [t13, (.str [66, 66, 66]), x2] fun _ =>
CM.call 10 [t13, (.str [65, 65, 65])] fun _ =>
CM.call 10 [t13, (.str [66, 66, 66])] fun _ =>
CM.pu (p2 (binA Tryz.prog .rem 22) t1 (.int .u32 1000000)) fun x6 =>
CM.pu (p1 (convA Tryz.prog 22 2) x6) fun x7 =>
CM.pu (p2 (binA Tryz.prog .add 2) x7 (.int .i64 1)) fun x8 =>
CM.pu (p1 (convA Tryz.prog 22 2) t0) fun x9 =>
CM.pu (p2 (binA Tryz.prog .add 2) x8 x9) fun x10 =>
CM.call 12 [x10, t3] fun x11 =>
CM.call 11 [t13, (.int .u64 1), x11] fun x12 =>
CM.pu (p2 (binA Tryz.prog .neq 25) x12 (.int .i64 0)) fun x13 =>
CM.ifv x13 (
CM.ret (.bool false)) (
CM.pu (p1 (convA Tryz.prog 22 2) t2) fun x14 =>
CM.pu (p2 (binA Tryz.prog .add 2) x14 (.int .i64 1)) fun x15 =>
CM.call 12 [x15, t5] fun x16 =>
CM.call 13 [t13, (.str [65, 65, 65]), (.str [66, 66, 66]), x16] fun x17 =>
CM.pu (p2 (binA Tryz.prog .neq 25) x17 (.int .i64 0)) fun x18 =>
CM.cond x18 (
CM.ret (.bool false)) (
CM.go 12289 [t0, t2, t3, t4, t5, t13, x8]))
theorem g3_0_ok : LeD (real E Mk Nk) g3_0 (fun ts m => goR E Mk 12288 ts m) := apS_le fun _ => apS_le fun _ => apS_le fun _ => apS_le fun _ => apS_le fun _ => apS_le fun _ => apS_le fun _ => ap0_le fun _ => goR_eq 400 (by kernel_rfl)
noncomputable def g3_1 : List AV → CM := apS fun t0 => apS fun t2 => apS fun t3 => apS fun t4 => apS fun t5 => apS fun t13 => apS fun t15 => ap0 <|
CM.call 12 [t15, t3] fun x0 =>
CM.call 14 [t13, (.int .u64 1), (.int .u64 2), x0] fun x1 =>
CM.pu (p1 (fun a => extractA a 0) x1) fun x2 =>
CM.pu (p1 (fun a => extractA a 1) x1) fun x3 =>
CM.al (some (.cells [(.int .i64 0), (.int .u64 0), (.int .i64 0)] false, pB)) fun x4 =>
CM.st (fun m => stV m x4 x2 3) <|
CM.call 12 [t15, t3] fun x6 =>
CM.pu (p1 (convA Tryz.prog 22 2) t2) fun x7 =>
CM.pu (p2 (binA Tryz.prog .add 2) x7 (.int .i64 1)) fun x8 =>
CM.call 12 [x8, t5] fun x9 =>
CM.call 15 [x6, x9, t4] fun x10 =>
CM.pu (p1 (fun a => extractA a 0) x10) fun x11 =>
CM.pu (p1 (fun a => extractA a 1) x10) fun x12 =>
CM.al (some (.cells [(.int .i64 0), (.int .u64 0), (.int .i64 0)] false, pB)) fun x13 =>
CM.st (fun m => stV m x13 x11 3) <|
CM.call 16 [t13, (.int .u64 1)] fun x15 =>
CM.pu (p1 (fun a => extractA a 0) x15) fun x16 =>
CM.pu (p1 (fun a => extractA a 1) x15) fun _ =>
CM.al (some (.cells [(.int .i64 0), (.int .u64 0), (.int .i64 0)] false, pB)) fun x18 =>
CM.st (fun m => stV m x18 x16 3) <|
CM.call 16 [t13, (.int .u64 2)] fun x20 =>
CM.pu (p1 (fun a => extractA a 0) x20) fun x21 =>
CM.pu (p1 (fun a => extractA a 1) x20) fun _ =>
CM.al (some (.cells [(.int .i64 0), (.int .u64 0), (.int .i64 0)] false, pB)) fun x23 =>
CM.st (fun m => stV m x23 x21 3) <|
CM.call 17 [t13, (.str [65, 65, 65]), (.str [66, 66, 66])] fun x25 =>
CM.pu (p1 (fun a => extractA a 0) x25) fun x26 =>
CM.pu (p1 (fun a => extractA a 1) x25) fun _ =>
CM.al (some (.cells [(.int .i64 0), (.int .u64 0), (.int .i64 0)] false, pB)) fun x28 =>
CM.st (fun m => stV m x28 x26 3) <|
CM.call 18 [t13] fun x30 =>
CM.al (some (.cells [(.sl none 0 0 0 true), (.sl none 0 0 0 true), (.sl none 0 0 0 true), (.int .u64 0)] false, pB)) fun x31 =>
CM.st (fun m => stV m x31 x30 4) <|
CM.pu (p1 (fun a => fieldAddrA Tryz.prog 37 a 0) x13) fun x33 =>
CM.rm (q1 (loadA Tryz.prog 35) x33 ) fun x34 =>
CM.call 19 [x34] fun x35 =>
CM.pu (p1 (fun a => extractA a 0) x35) fun x36 =>
CM.pu (p1 (fun a => extractA a 1) x35) fun _ =>
CM.al (some (.cells [(.int .i64 0), (.int .u64 0)] false, pB)) fun x38 =>
CM.st (fun m => stV m x38 x36 2) <|
CM.pu (p2 (binA Tryz.prog .eql 25) x3 (.int .i64 0)) fun x40 =>
CM.ifv x40 (
CM.pu (p2 (binA Tryz.prog .eql 25) x12 (.int .i64 0)) fun x41 =>
CM.ifv x41 (
CM.rm (q1 (loadA Tryz.prog 37) x4 ) fun x42 =>
CM.rm (q1 (loadA Tryz.prog 37) x13 ) fun x43 =>
CM.pu (p2 (binA Tryz.prog .eql 37) x42 x43) fun x44 =>
CM.ifv x44 (
CM.rm (q1 (loadA Tryz.prog 37) x23 ) fun x45 =>
CM.rm (q1 (loadA Tryz.prog 37) x13 ) fun x46 =>
CM.pu (p2 (binA Tryz.prog .eql 37) x45 x46) fun x47 =>
CM.ifv x47 (
CM.rm (q1 (loadA Tryz.prog 37) x18 ) fun x48 =>
CM.pu (p1 (convA Tryz.prog 22 2) t0) fun x49 =>
CM.call 12 [x49, t3] fun x51 =>
CM.memo fun m52 =>
CM.chk (q1 (loadA Tryz.prog 37) x18 m52) x48 <|
CM.pu (p2 (binA Tryz.prog .eql 37) x48 x51) fun x53 =>
CM.ifv x53 (
CM.rm (q1 (loadA Tryz.prog 37) x28 ) fun x54 =>
CM.call 12 [t15, t3] fun x56 =>
CM.memo fun m57 =>
CM.chk (q1 (loadA Tryz.prog 37) x28 m57) x54 <|
CM.pu (p2 (binA Tryz.prog .eql 37) x54 x56) fun x58 =>
CM.ifv x58 (
CM.pu (p1 (fun a => fieldAddrA Tryz.prog 49 a 1) x31) fun x59 =>
CM.rm (q1 (loadA Tryz.prog 46) x59 ) fun x60 =>
CM.pu (p1 (lenT Tryz.prog 46) x60) fun x61 =>
CM.pu (p2 (binA Tryz.prog .eql 3) x61 (.int .i64 1)) fun x62 =>
CM.ifv x62 (
CM.pu (p1 (fun a => fieldAddrA Tryz.prog 49 a 1) x31) fun x63 =>
CM.rm (q1 (loadA Tryz.prog 46) x63 ) fun x64 =>
CM.pu (p2 (indexAddrA Tryz.prog 46) x64 (.int .i64 0)) fun x65 =>
CM.pu (p1 (fun a => fieldAddrA Tryz.prog 54 a 4) x65) fun x66 =>
CM.rm (q1 (loadA Tryz.prog 35) x66 ) fun x67 =>
CM.rm (q1 (loadA Tryz.prog 35) x38 ) fun x68 =>
CM.pu (p2 (binA Tryz.prog .eql 35) x67 x68) fun x69 =>
CM.ret x69) (
CM.ret (.bool false))) (
CM.ret (.bool false))) (
CM.ret (.bool false))) (
CM.ret (.bool false))) (
CM.ret (.bool false))) (
CM.ret (.bool false))) (
CM.ret (.bool false))
theorem g3_1_ok : LeD (real E Mk Nk) g3_1 (fun ts m => goR E Mk 12289 ts m) := apS_le fun _ => apS_le fun _ => apS_le fun _ => apS_le fun _ => apS_le fun _ => apS_le fun _ => apS_le fun _ => ap0_le fun _ => goR_eq 400 (by kernel_rfl)
noncomputable def f3 : List AV → CM := apS fun a0 => apS fun a1 => apS fun a2 => apS fun a3 => apS fun a4 => apS fun a5 => ap0 <|
CM.call 6 [a3, (.int .i64 7)] fun x0 =>
CM.call 6 [a4, (.int .i64 7)] fun x1 =>
CM.call 6 [a5, (.int .i64 9)] fun x2 =>
CM.call 7 [(.int .i64 2)] fun x3 =>
CM.pu (p1 (fun a => extractA a 0) x3) fun x4 =>
CM.pu (p1 (fun a => extractA a 1) x3) fun x5 =>
CM.call 8 [] fun x6 =>
CM.pu (p1 (unA .not) x6) fun x7 =>
CM.ifv x7 (
CM.ret (.bool false)) (
CM.pu (p2 (binA Tryz.prog .neq 25) x5 (.int .i64 0)) fun x8 =>
CM.ifv x8 (
CM.ret (.bool false)) (
CM.pu (p2 (binA Tryz.prog .eql 24) x4 (.ptr none)) fun x9 =>
CM.cond x9 (
CM.ret (.bool false)) (
CM.go 12288 [a0, a1, a2, x0, x1, x2, x4])))
theorem f3_ok : LeD (real E Mk Nk) f3 (fun xs m => run E (.fn 3) xs m) := apS_le fun _ => apS_le fun _ => apS_le fun _ => apS_le fun _ => apS_le fun _ => apS_le fun _ => ap0_le fun _ => run_eq 400 rfl (by kernel_rfl) (by kernel_rfl)
noncomputable def g4_0 : List AV → CM := apS fun t5 => ap0 <|
CM.call 9 [t5, (.str [69, 85, 82]), (.int .u64 2)] fun _ =>
CM.call 10 [t5, (.str [69, 85, 82])] fun _ =>
CM.call 12 [(.int .i64 1000), (.int .i64 2)] fun x2 =>
CM.call 11 [t5, (.int .u64 1), x2] fun _ =>
CM.call 12 [(.int .i64 15), (.int .i64 1)] fun x4 =>
CM.call 11 [t5, (.int .u64 1), x4] fun x5 =>
CM.call 12 [(.int .i64 1200), (.int .i64 2)] fun x6 =>
CM.call 20 [t5, (.int .u64 1), x6] fun x7 =>
CM.call 9 [t5, (.str [74, 80, 89]), (.int .u64 0)] fun _ =>
CM.call 10 [t5, (.str [74, 80, 89])] fun _ =>
CM.call 12 [(.int .i64 1615), (.int .i64 1)] fun x10 =>
CM.call 13 [t5, (.str [69, 85, 82]), (.str [74, 80, 89]), x10] fun x11 =>
CM.call 12 [(.int .i64 1), (.int .i64 2)] fun x12 =>
CM.call 14 [t5, (.int .u64 1), (.int .u64 2), x12] fun x13 =>
CM.pu (p1 (fun a => extractA a 0) x13) fun x14 =>
CM.pu (p1 (fun a => extractA a 1) x13) fun x15 =>
CM.al (some (.cells [(.int .i64 0), (.int .u64 0), (.int .i64 0)] false, pB)) fun x16 =>
CM.st (fun m => stV m x16 x14 3) <|
CM.call 16 [t5, (.int .u64 2)] fun x18 =>
CM.pu (p1 (fun a => extractA a 0) x18) fun x19 =>
CM.pu (p1 (fun a => extractA a 1) x18) fun _ =>
CM.al (some (.cells [(.int .i64 0), (.int .u64 0), (.int .i64 0)] false, pB)) fun x21 =>
CM.st (fun m => stV m x21 x19 3) <|
CM.call 17 [t5, (.str [69, 85, 82]), (.str [74, 80, 89])] fun x23 =>
CM.pu (p1 (fun a => extractA a 0) x23) fun x24 =>
CM.pu (p1 (fun a => extractA a 1) x23) fun _ =>
CM.al (some (.cells [(.int .i64 0), (.int .u64 0), (.int .i64 0)] false, pB)) fun x26 =>
CM.st (fun m => stV m x26 x24 3) <|
CM.pu (p2 (binA Tryz.prog .eql 25) x5 (.int .i64 21)) fun x28 =>
CM.ifv x28 (
CM.pu (p2 (binA Tryz.prog .eql 25) x7 (.int .i64 42)) fun x29 =>
CM.ifv x29 (
CM.pu (p2 (binA Tryz.prog .eql 25) x11 (.int .i64 0)) fun x30 =>
CM.ifv x30 (
CM.pu (p2 (binA Tryz.prog .eql 25) x15 (.int .i64 0)) fun x31 =>
CM.ifv x31 (
CM.rm (q1 (loadA Tryz.prog 37) x16 ) fun x32 =>
CM.call 12 [(.int .i64 2), (.int .i64 0)] fun x34 =>
CM.memo fun m35 =>
CM.chk (q1 (loadA Tryz.prog 37) x16 m35) x32 <|
CM.pu (p2 (binA Tryz.prog .eql 37) x32 x34) fun x36 =>
CM.ifv x36 (
CM.rm (q1 (loadA Tryz.prog 37) x21 ) fun x37 =>
CM.call 12 [(.int .i64 2), (.int .i64 0)] fun x39 =>
CM.memo fun m40 =>
CM.chk (q1 (loadA Tryz.prog 37) x21 m40) x37 <|
CM.pu (p2 (binA Tryz.prog .eql 37) x37 x39) fun x41 =>
CM.ifv x41 (
CM.rm (q1 (loadA Tryz.prog 37) x26 ) fun x42 =>
CM.call 12 [(.int .i64 1), (.int .i64 2)] fun x44 =>
CM.memo fun m45 =>
CM.chk (q1 (loadA Tryz.prog 37) x26 m45) x42 <|
CM.pu (p2 (binA Tryz.prog .eql 37) x42 x44) fun x46 =>
CM.ifv x46 (
CM.call 12 [(.int .i64 1), (.int .i64 2)] fun x48 =>
CM.call 21 [t5, (.int .u64 1), (.int .u64 1), x48] fun x51 =>
CM.pu (p2 (binA Tryz.prog .eql 25) x51 (.int .i64 45)) fun x53 =>
CM.ifv x53 (
CM.call 12 [(.int .i64 1), (.int .i64 2)] fun x55 =>
CM.call 21 [t5, (.int .u64 1), (.int .u64 2), x55] fun x58 =>
CM.pu (p2 (binA Tryz.prog .eql 25) x58 (.int .i64 41)) fun x60 =>
CM.ifv x60 (
CM.call 18 [t5] fun x62 =>
CM.call 22 [x62, (.int .i64 4)] fun x65 =>
CM.ret x65) (
CM.ret (.bool false))) (
CM.ret (.bool false))) (
CM.ret (.bool false))) (
CM.ret (.bool false))) (
CM.ret (.bool false))) (
CM.ret (.bool false))) (
CM.ret (.bool false))) (
CM.ret (.bool false))) (
CM.ret (.bool false))
theorem g4_0_ok : LeD (real E Mk Nk) g4_0 (fun ts m => goR E Mk 16384 ts m) := apS_le fun _ => ap0_le fun _ => goR_eq 400 (by kernel_rfl)
noncomputable def f4 : List AV → CM := ap0 <|
CM.call 7 [(.int .i64 0)] fun x0 =>
CM.pu (p1 (fun a => extractA a 0) x0) fun _ =>
CM.pu (p1 (fun a => extractA a 1) x0) fun x2 =>
CM.call 7 [(.int .i64 65)] fun x3 =>
CM.pu (p1 (fun a => extractA a 0) x3) fun _ =>
CM.pu (p1 (fun a => extractA a 1) x3) fun x5 =>
CM.call 7 [(.int .i64 4)] fun x6 =>
CM.pu (p1 (fun a => extractA a 0) x6) fun x7 =>
CM.pu (p1 (fun a => extractA a 1) x6) fun x8 =>
CM.call 8 [] fun x9 =>
CM.pu (p1 (unA .not) x9) fun x10 =>
CM.ifv x10 (
CM.ret (.bool false)) (
CM.pu (p2 (binA Tryz.prog .neq 25) x2 (.int .i64 1)) fun x11 =>
CM.ifv x11 (
CM.ret (.bool false)) (
CM.pu (p2 (binA Tryz.prog .neq 25) x5 (.int .i64 1)) fun x12 =>
CM.ifv x12 (
CM.ret (.bool false)) (
CM.pu (p2 (binA Tryz.prog .neq 25) x8 (.int .i64 0)) fun x13 =>
CM.ifv x13 (
CM.ret (.bool false)) (
CM.pu (p2 (binA Tryz.prog .eql 24) x7 (.ptr none)) fun x14 =>
CM.cond x14 (
CM.ret (.bool false)) (
CM.go 16384 [x7])))))
theorem f4_ok : LeD (real E Mk Nk) f4 (fun xs m => run E (.fn 4) xs m) := ap0_le fun _ => run_eq 400 rfl (by kernel_rfl) (by kernel_rfl)
noncomputable def g5_0 : List AV → CM := apS fun t3 => ap0 <|
CM.pu (p1 (buildA Tryz.prog 70) [(1, (.int .u64 1)), (2, (.int .u64 9))]) fun x0 =>
CM.call 26 [t3, x0] fun x1 =>
CM.pu (p1 (fun a => extractA a 0) x1) fun x2 =>
CM.pu (p1 (fun a => extractA a 1) x1) fun x3 =>
CM.al (some (.cells [(.int .i64 0), (.int .u64 0), (.int .i64 0), (.int .u64 0), (.int .i64 0)] false, pB)) fun x4 =>
CM.st (fun m => stV m x4 x2 5) <|
CM.pu (p1 (buildA Tryz.prog 73) [(0, (.int .i64 1)), (1, (.int .u64 5))]) fun x6 =>
CM.call 27 [(.int .u64 1), x6] fun x7 =>
CM.call 26 [t3, x7] fun _ =>
CM.pu (p1 (buildA Tryz.prog 73) [(0, (.int .i64 3)), (1, (.int .u64 5)), (2, (.int .u64 4)), (6, (.str [69, 85, 82]))]) fun x9 =>
CM.call 27 [(.int .u64 2), x9] fun x10 =>
CM.call 26 [t3, x10] fun x11 =>
CM.pu (p1 (fun a => extractA a 0) x11) fun x12 =>
CM.pu (p1 (fun a => extractA a 1) x11) fun x13 =>
CM.al (some (.cells [(.int .i64 0), (.int .u64 0), (.int .i64 0), (.int .u64 0), (.int .i64 0)] false, pB)) fun x14 =>
CM.st (fun m => stV m x14 x12 5) <|
CM.pu (p1 (buildA Tryz.prog 73) [(0, (.int .i64 3)), (1, (.int .u64 6)), (2, (.int .u64 1)), (6, (.str [69, 85, 82]))]) fun x16 =>
CM.call 27 [(.int .u64 3), x16] fun x17 =>
CM.call 26 [t3, x17] fun x18 =>
CM.pu (p1 (fun a => extractA a 0) x18) fun x19 =>
CM.pu (p1 (fun a => extractA a 1) x18) fun x20 =>
CM.al (some (.cells [(.int .i64 0), (.int .u64 0), (.int .i64 0), (.int .u64 0), (.int .i64 0)] false, pB)) fun x21 =>
CM.st (fun m => stV m x21 x19 5) <|
CM.al (bsA 1 2 [(.int .u8 0)] [(0, (.int .u8 1)), (1, (.int .u8 0))]) fun x23 =>
CM.pu (p1 (buildA Tryz.prog 70) [(0, (.int .i64 1)), (1, (.int .u64 1)), (2, (.int .u64 4)), (3, x23)]) fun x24 =>
CM.call 26 [t3, x24] fun x25 =>
CM.pu (p1 (fun a => extractA a 0) x25) fun x26 =>
CM.pu (p1 (fun a => extractA a 1) x25) fun x27 =>
CM.al (some (.cells [(.int .i64 0), (.int .u64 0), (.int .i64 0), (.int .u64 0), (.int .i64 0)] false, pB)) fun x28 =>
CM.st (fun m => stV m x28 x26 5) <|
CM.pu (p1 (unA .not) x3) fun x30 =>
CM.ifv x30 (
CM.ifv x13 (
CM.pu (p1 (fun a => fieldAddrA Tryz.prog 65 a 0) x14) fun x31 =>
CM.rm (q1 (loadA Tryz.prog 25) x31 ) fun x32 =>
CM.pu (p2 (binA Tryz.prog .eql 25) x32 (.int .i64 52)) fun x33 =>
CM.ifv x33 (
CM.ifv x20 (
CM.pu (p1 (fun a => fieldAddrA Tryz.prog 65 a 0) x21) fun x34 =>
CM.rm (q1 (loadA Tryz.prog 25) x34 ) fun x35 =>
CM.pu (p2 (binA Tryz.prog .eql 25) x35 (.int .i64 50)) fun x36 =>
CM.ifv x36 (
CM.ifv x27 (
CM.pu (p1 (fun a => fieldAddrA Tryz.prog 65 a 0) x28) fun x37 =>
CM.rm (q1 (loadA Tryz.prog 25) x37 ) fun x38 =>
CM.pu (p2 (binA Tryz.prog .eql 25) x38 (.int .i64 11)) fun x39 =>
CM.ifv x39 (
CM.al (bsA 1 1 [(.int .u8 0)] [(0, (.int .u8 1))]) fun x40 =>
CM.call 28 [t3, (.int .u64 7), x40] fun x41 =>
CM.pu (p2 (binA Tryz.prog .eql 25) x41 (.int .i64 1)) fun x42 =>
CM.ifv x42 (
CM.call 29 [t3] fun x43 =>
CM.pu (p1 (lenT Tryz.prog 75) x43) fun x44 =>
CM.pu (p2 (binA Tryz.prog .eql 3) x44 (.int .i64 1)) fun x45 =>
CM.ret x45) (
CM.ret (.bool false))) (
CM.ret (.bool false))) (
CM.ret (.bool false))) (
CM.ret (.bool false))) (
CM.ret (.bool false))) (
CM.ret (.bool false))) (
CM.ret (.bool false))) (
CM.ret (.bool false))
theorem g5_0_ok : LeD (real E Mk Nk) g5_0 (fun ts m => goR E Mk 20480 ts m) := apS_le fun _ => ap0_le fun _ => goR_eq 400 (by kernel_rfl)
noncomputable def f5 : List AV → CM := ap0 <|
CM.pu (p1 (buildA Tryz.prog 62) []) fun x0 =>
CM.call 23 [x0] fun x1 =>
CM.pu (p1 (fun a => extractA a 0) x1) fun _ =>
CM.pu (p1 (fun a => extractA a 1) x1) fun x3 =>
CM.call 24 [] fun x4 =>
CM.call 23 [x4] fun x5 =>
CM.pu (p1 (fun a => extractA a 0) x5) fun x6 =>
CM.pu (p1 (fun a => extractA a 1) x5) fun x7 =>
CM.call 25 [] fun x8 =>
CM.pu (p1 (unA .not) x8) fun x9 =>
CM.ifv x9 (
CM.ret (.bool false)) (
CM.pu (p2 (binA Tryz.prog .neq 25) x3 (.int .i64 1)) fun x10 =>
CM.ifv x10 (
CM.ret (.bool false)) (
CM.pu (p2 (binA Tryz.prog .neq 25) x7 (.int .i64 0)) fun x11 =>
CM.ifv x11 (
CM.ret (.bool false)) (
CM.pu (p2 (binA Tryz.prog .eql 58) x6 (.ptr none)) fun x12 =>
CM.cond x12 (
CM.ret (.bool false)) (
CM.go 20480 [x6]))))
theorem f5_ok : LeD (real E Mk Nk) f5 (fun xs m => run E (.fn 5) xs m) := ap0_le fun _ => run_eq 400 rfl (by kernel_rfl) (by kernel_rfl)
noncomputable def g6_0 : List AV → CM := apS fun t0 => ap0 <|
CM.ret t0
theorem g6_0_ok : LeD (real E Mk Nk) g6_0 (fun ts m => goR E Mk 24576 ts m) := apS_le fun _ => ap0_le fun _ => goR_eq 400 (by kernel_rfl)
noncomputable def f6 : List AV → CM := apS fun a0 => apS fun a1 => ap0 <|
CM.pu (p2 (binA Tryz.prog .rem 3) a0 a1) fun x0 =>
CM.pu (p2 (binA Tryz.prog .lss 3) x0 (.int .i64 0)) fun x1 =>
CM.cond x1 (
CM.pu (p2 (binA Tryz.prog .add 3) x0 a1) fun x2 =>
CM.go 24576 [x2]) (
CM.go 24576 [x0])
theorem f6_ok : LeD (real E Mk Nk) f6 (fun xs m => run E (.fn 6) xs m) := apS_le fun _ => apS_le fun _ => ap0_le fun _ => run_eq 400 rfl (by kernel_rfl) (by kernel_rfl)
noncomputable def g7_0 : List AV → CM := apS fun t0 => ap0 <|
CM.pu (p1 (buildA Tryz.prog 81) [(0, t0)]) fun x0 =>
CM.al (boxA x0) fun x1 =>
CM.call 30 [(.int .i64 8)] fun x2 =>
CM.pu (p1 (fun a => extractA a 0) x2) fun x3 =>
CM.pu (p1 (fun a => extractA a 1) x2) fun _ =>
CM.pu (p1 nnA x1) fun x5 =>
CM.pu (p1 (fun a => fieldAddrA Tryz.prog 81 a 1) x5) fun x6 =>
CM.st (fun m => stV m x6 x3 1) <|
CM.call 31 [(.int .i64 64)] fun x8 =>
CM.pu (p1 (fun a => extractA a 0) x8) fun x9 =>
CM.pu (p1 (fun a => extractA a 1) x8) fun _ =>
CM.pu (p1 nnA x1) fun x11 =>
CM.pu (p1 (fun a => fieldAddrA Tryz.prog 81 a 2) x11) fun x12 =>
CM.st (fun m => stV m x12 x9 1) <|
CM.call 32 [t0] fun x14 =>
CM.pu (p1 (fun a => extractA a 0) x14) fun x15 =>
CM.pu (p1 (fun a => extractA a 1) x14) fun _ =>
CM.pu (p1 nnA x1) fun x17 =>
CM.pu (p1 (fun a => fieldAddrA Tryz.prog 81 a 3) x17) fun x18 =>
CM.st (fun m => stV m x18 x15 1) <|
CM.ret (.tup [x1, (.int .i64 0)])
theorem g7_0_ok : LeD (real E Mk Nk) g7_0 (fun ts m => goR E Mk 28672 ts m) := apS_le fun _ => ap0_le fun _ => goR_eq 400 (by kernel_rfl)
noncomputable def f7 : List AV → CM := apS fun a0 => ap0 <|
CM.pu (p2 (binA Tryz.prog .lss 3) a0 (.int .i64 1)) fun x0 =>
CM.ifv x0 (
CM.ret (.tup [(.ptr none), (.int .i64 1)])) (
CM.pu (p2 (binA Tryz.prog .gtr 3) a0 (.int .i64 64)) fun x1 =>
CM.cond x1 (
CM.ret (.tup [(.ptr none), (.int .i64 1)])) (
CM.go 28672 [a0]))
theorem f7_ok : LeD (real E Mk Nk) f7 (fun xs m => run E (.fn 7) xs m) := apS_le fun _ => ap0_le fun _ => run_eq 400 rfl (by kernel_rfl) (by kernel_rfl)
noncomputable def g8_0 : List AV → CM := apS fun t1 => ap0 <|
CM.call 9 [t1, (.str [69, 85, 82]), (.int .u64 2)] fun x0 =>
CM.call 9 [t1, (.str [69, 85, 82]), (.int .u64 2)] fun x1 =>
CM.call 10 [t1, (.str [69, 85, 82])] fun x2 =>
CM.pu (p1 (fun a => extractA a 0) x2) fun x3 =>
CM.pu (p1 (fun a => extractA a 1) x2) fun x4 =>
CM.call 10 [t1, (.str [85, 83, 68])] fun x5 =>
CM.pu (p1 (fun a => extractA a 0) x5) fun _ =>
CM.pu (p1 (fun a => extractA a 1) x5) fun x7 =>
CM.call 12 [(.int .i64 1000), (.int .i64 2)] fun x8 =>
CM.call 11 [t1, (.int .u64 1), x8] fun x9 =>
CM.call 33 [t1, (.str [69, 85, 82])] fun x10 =>
CM.pu (p1 (fun a => extractA a 0) x10) fun x11 =>
CM.pu (p1 (fun a => extractA a 1) x10) fun x12 =>
CM.al (some (.cells [(.int .i64 0), (.int .u64 0), (.int .i64 0)] false, pB)) fun x13 =>
CM.st (fun m => stV m x13 x11 3) <|
CM.pu (p2 (binA Tryz.prog .eql 25) x0 (.int .i64 0)) fun x15 =>
CM.ifv x15 (
CM.pu (p2 (binA Tryz.prog .eql 25) x1 (.int .i64 45)) fun x16 =>
CM.ifv x16 (
CM.pu (p2 (binA Tryz.prog .eql 30) x3 (.int .u64 1)) fun x17 =>
CM.ifv x17 (
CM.pu (p2 (binA Tryz.prog .eql 25) x4 (.int .i64 0)) fun x18 =>
CM.ifv x18 (
CM.pu (p2 (binA Tryz.prog .eql 25) x7 (.int .i64 41)) fun x19 =>
CM.ifv x19 (
CM.pu (p2 (binA Tryz.prog .eql 25) x9 (.int .i64 0)) fun x20 =>
CM.ifv x20 (
CM.pu (p2 (binA Tryz.prog .eql 25) x12 (.int .i64 0)) fun x21 =>
CM.ifv x21 (
CM.rm (q1 (loadA Tryz.prog 37) x13 ) fun x22 =>
CM.call 12 [(.int .i64 (-1000)), (.int .i64 2)] fun x24 =>
CM.memo fun m25 =>
CM.chk (q1 (loadA Tryz.prog 37) x13 m25) x22 <|
CM.pu (p2 (binA Tryz.prog .eql 37) x22 x24) fun x26 =>
CM.ret x26) (
CM.ret (.bool false))) (
CM.ret (.bool false))) (
CM.ret (.bool false))) (
CM.ret (.bool false))) (
CM.ret (.bool false))) (
CM.ret (.bool false))) (
CM.ret (.bool false))
theorem g8_0_ok : LeD (real E Mk Nk) g8_0 (fun ts m => goR E Mk 32768 ts m) := apS_le fun _ => ap0_le fun _ => goR_eq 400 (by kernel_rfl)
noncomputable def f8 : List AV → CM := ap0 <|
CM.call 7 [(.int .i64 4)] fun x0 =>
CM.pu (p1 (fun a => extractA a 0) x0) fun x1 =>
CM.pu (p1 (fun a => extractA a 1) x0) fun x2 =>
CM.pu (p2 (binA Tryz.prog .neq 25) x2 (.int .i64 0)) fun x3 =>
CM.ifv x3 (
CM.ret (.bool false)) (
CM.pu (p2 (binA Tryz.prog .eql 24) x1 (.ptr none)) fun x4 =>
CM.cond x4 (
CM.ret (.bool false)) (
CM.go 32768 [x1]))
theorem f8_ok : LeD (real E Mk Nk) f8 (fun xs m => run E (.fn 8) xs m) := ap0_le fun _ => run_eq 400 rfl (by kernel_rfl) (by kernel_rfl)
noncomputable def g9_0 : List AV → CM := ap0 <|
CM.ret (.int .i64 0)
theorem g9_0_ok : LeD (real E Mk Nk) g9_0 (fun ts m => goR E Mk 36864 ts m) := ap0_le fun _ => goR_eq 400 (by kernel_rfl)
noncomputable def f9 : List AV → CM := apS fun a0 => apS fun a1 => apS fun a2 => ap0 <|
CM.pu (p1 nnA a0) fun x0 =>
CM.pu (p1 (fun a => fieldAddrA Tryz.prog 81 a 1) x0) fun x1 =>
CM.rm (q1 (loadA Tryz.prog 77) x1 ) fun x2 =>
CM.call 34 [x2, a1] fun x3 =>
CM.pu (p1 (fun a => extractA a 0) x3) fun x4 =>
CM.pu (p1 (fun a => extractA a 1) x3) fun x5 =>
CM.al (some (.cells [(.str []), (.int .i64 0), (.int .i64 0), (.int .u64 0)] false, pB)) fun x6 =>
CM.st (fun m => stV m x6 x4 4) <|
CM.call 35 [a1] fun x8 =>
CM.pu (p1 (unA .not) x8) fun x9 =>
CM.cond x9 (
CM.ret (.int .i64 41)) (
CM.pu (p2 (binA Tryz.prog .gtr 30) a2 (.int .u64 18)) fun x10 =>
CM.cond x10 (
CM.ret (.int .i64 21)) (
CM.cond x5 (
CM.ret (.int .i64 45)) (
CM.pu (p1 nnA a0) fun x11 =>
CM.pu (p1 (fun a => fieldAddrA Tryz.prog 81 a 1) x11) fun x12 =>
CM.rm (q1 (loadA Tryz.prog 77) x12 ) fun x13 =>
CM.pu (p1 (convA Tryz.prog 30 3) a2) fun x14 =>
CM.pu (p1 (buildA Tryz.prog 85) [(0, a1), (1, x14)]) fun x15 =>
CM.call 36 [x13, a1, x15] fun x16 =>
CM.pu (p1 (unA .not) x16) fun x17 =>
CM.cond x17 (
CM.ret (.int .i64 2)) (
CM.go 36864 []))))
theorem f9_ok : LeD (real E Mk Nk) f9 (fun xs m => run E (.fn 9) xs m) := apS_le fun _ => apS_le fun _ => apS_le fun _ => ap0_le fun _ => run_eq 400 rfl (by kernel_rfl) (by kernel_rfl)
noncomputable def g10_0 : List AV → CM := apS fun t0 => apS fun t1 => ap0 <|
CM.pu (p1 nnA t0) fun x0 =>
CM.pu (p1 (fun a => fieldAddrA Tryz.prog 81 a 3) x0) fun x1 =>
CM.rm (q1 (loadA Tryz.prog 79) x1 ) fun x2 =>
CM.memo fun m3 =>
CM.call 37 [x2] fun x4 =>
CM.pu (p1 nnA t0) fun x6 =>
CM.pu (p1 (fun a => fieldAddrA Tryz.prog 81 a 0) x6) fun x7 =>
CM.rm (q1 (loadA Tryz.prog 3) x7 ) fun x8 =>
CM.chk (q1 (loadA Tryz.prog 3) x7 m3) x8 <|
CM.pu (p2 (binA Tryz.prog .geq 3) x4 x8) fun x9 =>
CM.ifv x9 (
CM.ret (.tup [(.int .u64 0), (.int .i64 2)])) (
CM.pu (p1 nnA t0) fun x10 =>
CM.pu (p1 (fun a => fieldAddrA Tryz.prog 81 a 4) x10) fun x11 =>
CM.rm (q1 (loadA Tryz.prog 30) x11 ) fun x12 =>
CM.pu (p2 (binA Tryz.prog .geq 30) x12 (.int .u64 72057594037927935)) fun x13 =>
CM.cond x13 (
CM.ret (.tup [(.int .u64 0), (.int .i64 2)])) (
CM.go 40961 [t0, t1]))
theorem g10_0_ok : LeD (real E Mk Nk) g10_0 (fun ts m => goR E Mk 40960 ts m) := apS_le fun _ => apS_le fun _ => ap0_le fun _ => goR_eq 400 (by kernel_rfl)
noncomputable def g10_1 : List AV → CM := apS fun t0 => apS fun t1 => ap0 <|
CM.pu (p1 nnA t0) fun x0 =>
CM.pu (p1 (fun a => fieldAddrA Tryz.prog 81 a 4) x0) fun x1 =>
CM.rm (q1 (loadA Tryz.prog 30) x1 ) fun x2 =>
CM.pu (p2 (binA Tryz.prog .add 30) x2 (.int .u64 1)) fun x3 =>
CM.pu (p1 nnA t0) fun x4 =>
CM.pu (p1 (fun a => fieldAddrA Tryz.prog 81 a 4) x4) fun x5 =>
CM.st (fun m => stV m x5 x3 1) <|
CM.pu (p1 nnA t0) fun x7 =>
CM.pu (p1 (fun a => fieldAddrA Tryz.prog 81 a 3) x7) fun x8 =>
CM.rm (q1 (loadA Tryz.prog 79) x8 ) fun x9 =>
CM.pu (p1 nnA t0) fun x10 =>
CM.pu (p1 (fun a => fieldAddrA Tryz.prog 81 a 4) x10) fun x11 =>
CM.rm (q1 (loadA Tryz.prog 30) x11 ) fun x12 =>
CM.pu (p1 nnA t0) fun x13 =>
CM.pu (p1 (fun a => fieldAddrA Tryz.prog 81 a 4) x13) fun x14 =>
CM.rm (q1 (loadA Tryz.prog 30) x14 ) fun x15 =>
CM.pu (p1 (buildA Tryz.prog 91) [(0, x15), (1, t1)]) fun x16 =>
CM.call 38 [x9, x12, x16] fun _ =>
CM.pu (p1 nnA t0) fun x20 =>
CM.pu (p1 (fun a => fieldAddrA Tryz.prog 81 a 4) x20) fun x21 =>
CM.rm (q1 (loadA Tryz.prog 30) x21 ) fun x22 =>
CM.ret (.tup [x22, (.int .i64 0)])
theorem g10_1_ok : LeD (real E Mk Nk) g10_1 (fun ts m => goR E Mk 40961 ts m) := apS_le fun _ => apS_le fun _ => ap0_le fun _ => goR_eq 400 (by kernel_rfl)
noncomputable def f10 : List AV → CM := apS fun a0 => apS fun a1 => ap0 <|
CM.pu (p1 nnA a0) fun x0 =>
CM.pu (p1 (fun a => fieldAddrA Tryz.prog 81 a 1) x0) fun x1 =>
CM.rm (q1 (loadA Tryz.prog 77) x1 ) fun x2 =>
CM.call 34 [x2, a1] fun x3 =>
CM.pu (p1 (fun a => extractA a 0) x3) fun x4 =>
CM.pu (p1 (fun a => extractA a 1) x3) fun x5 =>
CM.al (some (.cells [(.str []), (.int .i64 0), (.int .i64 0), (.int .u64 0)] false, pB)) fun x6 =>
CM.st (fun m => stV m x6 x4 4) <|
CM.pu (p1 (unA .not) x5) fun x8 =>
CM.cond x8 (
CM.ret (.tup [(.int .u64 0), (.int .i64 41)])) (
CM.go 40960 [a0, a1])
theorem f10_ok : LeD (real E Mk Nk) f10 (fun xs m => run E (.fn 10) xs m) := apS_le fun _ => apS_le fun _ => ap0_le fun _ => run_eq 400 rfl (by kernel_rfl) (by kernel_rfl)
noncomputable def g11_0 : List AV → CM := apS fun t0 => apS fun t5 => apS fun t7 => apS fun t8 => apS fun t9 => ap0 <|
CM.pu (p2 (binA Tryz.prog .eql 25) t9 (.int .i64 0)) fun x0 =>
CM.cond x0 (
CM.pu (p1 (fun a => fieldAddrA Tryz.prog 85 a 2) t8) fun x1 =>
CM.pu (p1 (fun a => fieldAddrA Tryz.prog 91 a 2) t7) fun x2 =>
CM.pu (p1 (fun a => fieldAddrA Tryz.prog 37 a 0) t5) fun x3 =>
CM.rm (q1 (loadA Tryz.prog 35) x3 ) fun x4 =>
CM.call 41 [x1, x2, x4] fun x5 =>
CM.go 45057 [t0, t7, t8, x5]) (
CM.go 45057 [t0, t7, t8, t9])
theorem g11_0_ok : LeD (real E Mk Nk) g11_0 (fun ts m => goR E Mk 45056 ts m) := apS_le fun _ => apS_le fun _ => apS_le fun _ => apS_le fun _ => apS_le fun _ => ap0_le fun _ => goR_eq 400 (by kernel_rfl)
noncomputable def g11_1 : List AV → CM := apS fun t0 => apS fun t7 => apS fun t8 => apS fun t9 => ap0 <|
CM.pu (p2 (binA Tryz.prog .eql 25) t9 (.int .i64 0)) fun x0 =>
CM.cond x0 (
CM.rm (q1 (loadA Tryz.prog 91) t7 ) fun x1 =>
CM.call 42 [t0, x1] fun _ =>
CM.pu (p1 nnA t0) fun x3 =>
CM.pu (p1 (fun a => fieldAddrA Tryz.prog 81 a 1) x3) fun x4 =>
CM.rm (q1 (loadA Tryz.prog 77) x4 ) fun x5 =>
CM.pu (p1 (fun a => fieldAddrA Tryz.prog 85 a 0) t8) fun x6 =>
CM.rm (q1 (loadA Tryz.prog 9) x6 ) fun x7 =>
CM.rm (q1 (loadA Tryz.prog 85) t8 ) fun x8 =>
CM.call 36 [x5, x7, x8] fun _ =>
CM.go 45058 [t9]) (
CM.go 45058 [t9])
theorem g11_1_ok : LeD (real E Mk Nk) g11_1 (fun ts m => goR E Mk 45057 ts m) := apS_le fun _ => apS_le fun _ => apS_le fun _ => apS_le fun _ => ap0_le fun _ => goR_eq 400 (by kernel_rfl)
noncomputable def g11_2 : List AV → CM := apS fun t9 => ap0 <|
CM.ret t9
theorem g11_2_ok : LeD (real E Mk Nk) g11_2 (fun ts m => goR E Mk 45058 ts m) := apS_le fun _ => ap0_le fun _ => goR_eq 400 (by kernel_rfl)
noncomputable def f11 : List AV → CM := apS fun a0 => apS fun a1 => apS fun a2 => ap0 <|
CM.al (boxA a2) fun x0 =>
CM.call 39 [a0, a1] fun x1 =>
CM.pu (p1 (fun a => extractA a 0) x1) fun x2 =>
CM.pu (p1 (fun a => extractA a 1) x1) fun x3 =>
CM.pu (p1 (fun a => extractA a 2) x1) fun x4 =>
CM.al (some (.cells [(.int .u64 0), (.str []), (.int .i64 0), (.int .u64 0)] false, pB)) fun x5 =>
CM.al (some (.cells [(.str []), (.int .i64 0), (.int .i64 0), (.int .u64 0)] false, pB)) fun x6 =>
CM.st (fun m => stV m x5 x2 4) <|
CM.st (fun m => stV m x6 x3 4) <|
CM.pu (p2 (binA Tryz.prog .eql 25) x4 (.int .i64 0)) fun x9 =>
CM.cond x9 (
CM.rm (q1 (loadA Tryz.prog 85) x6 ) fun x10 =>
CM.rm (q1 (loadA Tryz.prog 37) x0 ) fun x11 =>
CM.call 40 [x10, x11] fun x12 =>
CM.go 45056 [a0, x0, x5, x6, x12]) (
CM.go 45056 [a0, x0, x5, x6, x4])
theorem f11_ok : LeD (real E Mk Nk) f11 (fun xs m => run E (.fn 11) xs m) := apS_le fun _ => apS_le fun _ => apS_le fun _ => ap0_le fun _ => run_eq 400 rfl (by kernel_rfl) (by kernel_rfl)
noncomputable def f12 : List AV → CM := apS fun a0 => apS fun a1 => ap0 <|
CM.al (some (.cells [(.int .i64 0), (.int .u64 0), (.int .i64 0)] false, pB)) fun x0 =>
CM.call 43 [a0] fun x1 =>
CM.pu (p1 (buildA Tryz.prog 37) [(0, x1), (1, a1)]) fun x2 =>
CM.st (fun m => stV m x0 x2 3) <|
CM.resC Tryz.prog [ResultVar.cell 0 37] [x0]
theorem f12_ok : LeD (real E Mk Nk) f12 (fun xs m => run E (.fn 12) xs m) := apS_le fun _ => apS_le fun _ => ap0_le fun _ => run_eq 400 rfl (by kernel_rfl) (by kernel_rfl)
noncomputable def g13_0 : List AV → CM := apS fun t0 => apS fun t1 => apS fun t2 => apS fun t7 => ap0 <|
CM.rm (q1 (loadA Tryz.prog 37) t7 ) fun x0 =>
CM.call 44 [x0] fun x1 =>
CM.pu (p2 (binA Tryz.prog .neq 25) x1 (.int .i64 0)) fun x2 =>
CM.cond x2 (
CM.ret x1) (
CM.go 53249 [t0, t1, t2, t7])
theorem g13_0_ok : LeD (real E Mk Nk) g13_0 (fun ts m => goR E Mk 53248 ts m) := apS_le fun _ => apS_le fun _ => apS_le fun _ => apS_le fun _ => ap0_le fun _ => goR_eq 400 (by kernel_rfl)
noncomputable def g13_1 : List AV → CM := apS fun t0 => apS fun t1 => apS fun t2 => apS fun t7 => ap0 <|
CM.pu (p1 nnA t0) fun x0 =>
CM.pu (p1 (fun a => fieldAddrA Tryz.prog 81 a 2) x0) fun x1 =>
CM.rm (q1 (loadA Tryz.prog 78) x1 ) fun x2 =>
CM.pu (p2 (binA Tryz.prog .add 9) t1 t2) fun x3 =>
CM.call 45 [x2, x3] fun x4 =>
CM.pu (p1 (fun a => extractA a 0) x4) fun x5 =>
CM.pu (p1 (fun a => extractA a 1) x4) fun _ =>
CM.al (some (.cells [(.str []), (.str []), (.int .i64 0), (.int .u64 0), (.int .i64 0), (.int .i64 0), (.int .u64 0), (.int .i64 0), (.int .u64 0)] false, pB)) fun x7 =>
CM.st (fun m => stV m x7 x5 9) <|
CM.rm (q1 (loadA Tryz.prog 37) t7 ) fun x9 =>
CM.pu (p1 (fun a => fieldAddrA Tryz.prog 54 a 0) x7) fun x10 =>
CM.st (fun m => stV m x10 t1 1) <|
CM.memo fun m13 =>
CM.chk (q1 (loadA Tryz.prog 37) t7 m13) x9 <|
CM.pu (p1 (fun a => fieldAddrA Tryz.prog 54 a 1) x7) fun x14 =>
CM.st (fun m => stV m x14 t2 1) <|
CM.memo fun m17 =>
CM.chk (q1 (loadA Tryz.prog 37) t7 m17) x9 <|
CM.pu (p1 (fun a => fieldAddrA Tryz.prog 54 a 2) x7) fun x18 =>
CM.st (fun m => stV m x18 x9 3) <|
CM.pu (p1 nnA t0) fun x22 =>
CM.pu (p1 (fun a => fieldAddrA Tryz.prog 81 a 2) x22) fun x23 =>
CM.rm (q1 (loadA Tryz.prog 78) x23 ) fun x24 =>
CM.pu (p2 (binA Tryz.prog .add 9) t1 t2) fun x25 =>
CM.rm (q1 (loadA Tryz.prog 54) x7 ) fun x26 =>
CM.call 46 [x24, x25, x26] fun _ =>
CM.ret (.int .i64 0)
theorem g13_1_ok : LeD (real E Mk Nk) g13_1 (fun ts m => goR E Mk 53249 ts m) := apS_le fun _ => apS_le fun _ => apS_le fun _ => apS_le fun _ => ap0_le fun _ => goR_eq 400 (by kernel_rfl)
noncomputable def f13 : List AV → CM := apS fun a0 => apS fun a1 => apS fun a2 => apS fun a3 => ap0 <|
CM.al (boxA a3) fun x0 =>
CM.pu (p1 nnA a0) fun x1 =>
CM.pu (p1 (fun a => fieldAddrA Tryz.prog 81 a 1) x1) fun x2 =>
CM.rm (q1 (loadA Tryz.prog 77) x2 ) fun x3 =>
CM.call 34 [x3, a1] fun x4 =>
CM.pu (p1 (fun a => extractA a 0) x4) fun x5 =>
CM.pu (p1 (fun a => extractA a 1) x4) fun x6 =>
CM.al (some (.cells [(.str []), (.int .i64 0), (.int .i64 0), (.int .u64 0)] false, pB)) fun x7 =>
CM.st (fun m => stV m x7 x5 4) <|
CM.pu (p1 nnA a0) fun x9 =>
CM.pu (p1 (fun a => fieldAddrA Tryz.prog 81 a 1) x9) fun x10 =>
CM.rm (q1 (loadA Tryz.prog 77) x10 ) fun x11 =>
CM.call 34 [x11, a2] fun x12 =>
CM.pu (p1 (fun a => extractA a 0) x12) fun x13 =>
CM.pu (p1 (fun a => extractA a 1) x12) fun x14 =>
CM.al (some (.cells [(.str []), (.int .i64 0), (.int .i64 0), (.int .u64 0)] false, pB)) fun x15 =>
CM.st (fun m => stV m x15 x13 4) <|
CM.pu (p1 (unA .not) x6) fun x17 =>
CM.ifv x17 (
CM.ret (.int .i64 41)) (
CM.pu (p1 (unA .not) x14) fun x18 =>
CM.cond x18 (
CM.ret (.int .i64 41)) (
CM.pu (p2 (binA Tryz.prog .eql 9) a1 a2) fun x19 =>
CM.cond x19 (
CM.ret (.int .i64 45)) (
CM.go 53248 [a0, a1, a2, x0])))
theorem f13_ok : LeD (real E Mk Nk) f13 (fun xs m => run E (.fn 13) xs m) := apS_le fun _ => apS_le fun _ => apS_le fun _ => apS_le fun _ => ap0_le fun _ => run_eq 400 rfl (by kernel_rfl) (by kernel_rfl)
noncomputable def g14_0 : List AV → CM := apS fun t0 => apS fun t7 => apS fun t8 => apS fun t10 => apS fun t11 => apS fun t13 => apS fun t14 => apS fun t16 => ap0 <|
CM.rm (q1 (loadA Tryz.prog 85) t11 ) fun x0 =>
CM.rm (q1 (loadA Tryz.prog 37) t7 ) fun x1 =>
CM.call 40 [x0, x1] fun x2 =>
CM.pu (p2 (binA Tryz.prog .eql 25) x2 (.int .i64 0)) fun x3 =>
CM.ifv x3 (
CM.rm (q1 (loadA Tryz.prog 91) t10 ) fun x4 =>
CM.rm (q1 (loadA Tryz.prog 37) t7 ) fun x5 =>
CM.call 47 [x4, x5] fun x6 =>
CM.cond x6 (
CM.go 57345 [t0, t7, t8, t10, (.int .i64 42), t13, t14, t16]) (
CM.go 57345 [t0, t7, t8, t10, x2, t13, t14, t16])) (
CM.go 57345 [t0, t7, t8, t10, x2, t13, t14, t16])
theorem g14_0_ok : LeD (real E Mk Nk) g14_0 (fun ts m => goR E Mk 57344 ts m) := apS_le fun _ => apS_le fun _ => apS_le fun _ => apS_le fun _ => apS_le fun _ => apS_le fun _ => apS_le fun _ => apS_le fun _ => ap0_le fun _ => goR_eq 400 (by kernel_rfl)
noncomputable def g14_1 : List AV → CM := apS fun t0 => apS fun t7 => apS fun t8 => apS fun t10 => apS fun t12 => apS fun t13 => apS fun t14 => apS fun t16 => ap0 <|
CM.al (some (.cells [(.int .i64 0), (.int .u64 0), (.int .i64 0)] false, pB)) fun x0 =>
CM.pu (p2 (binA Tryz.prog .eql 25) t12 (.int .i64 0)) fun x1 =>
CM.cond x1 (
CM.rm (q1 (loadA Tryz.prog 37) t7 ) fun x2 =>
CM.pu (p1 (fun a => fieldAddrA Tryz.prog 54 a 2) t16) fun x3 =>
CM.rm (q1 (loadA Tryz.prog 37) x3 ) fun x4 =>
CM.pu (p1 (fun a => fieldAddrA Tryz.prog 85 a 1) t14) fun x5 =>
CM.rm (q1 (loadA Tryz.prog 3) x5 ) fun x6 =>
CM.call 48 [x2, x4, x6] fun x7 =>
CM.pu (p1 (fun a => extractA a 0) x7) fun x8 =>
CM.pu (p1 (fun a => extractA a 1) x7) fun x9 =>
CM.st (fun m => stV m x0 x8 3) <|
CM.go 57346 [t0, t7, t8, t10, x9, t13, t16, x0]) (
CM.go 57346 [t0, t7, t8, t10, t12, t13, t16, x0])
theorem g14_1_ok : LeD (real E Mk Nk) g14_1 (fun ts m => goR E Mk 57345 ts m) := apS_le fun _ => apS_le fun _ => apS_le fun _ => apS_le fun _ => apS_le fun _ => apS_le fun _ => apS_le fun _ => apS_le fun _ => ap0_le fun _ => goR_eq 400 (by kernel_rfl)
noncomputable def g14_2 : List AV → CM := apS fun t0 => apS fun t7 => apS fun t8 => apS fun t10 => apS fun t12 => apS fun t13 => apS fun t16 => apS fun t18 => ap0 <|
CM.pu (p2 (binA Tryz.prog .eql 25) t12 (.int .i64 0)) fun x0 =>
CM.cond x0 (
CM.pu (p1 (fun a => fieldAddrA Tryz.prog 91 a 2) t10) fun x1 =>
CM.pu (p1 (fun a => fieldAddrA Tryz.prog 54 a 3) t16) fun x2 =>
CM.pu (p1 (fun a => fieldAddrA Tryz.prog 37 a 0) t7) fun x3 =>
CM.rm (q1 (loadA Tryz.prog 35) x3 ) fun x4 =>
CM.call 41 [x1, x2, x4] fun x5 =>
CM.go 57347 [t0, t8, t10, x5, t13, t16, t18]) (
CM.go 57347 [t0, t8, t10, t12, t13, t16, t18])
theorem g14_2_ok : LeD (real E Mk Nk) g14_2 (fun ts m => goR E Mk 57346 ts m) := apS_le fun _ => apS_le fun _ => apS_le fun _ => apS_le fun _ => apS_le fun _ => apS_le fun _ => apS_le fun _ => apS_le fun _ => ap0_le fun _ => goR_eq 400 (by kernel_rfl)
noncomputable def g14_3 : List AV → CM := apS fun t0 => apS fun t8 => apS fun t10 => apS fun t12 => apS fun t13 => apS fun t16 => apS fun t18 => ap0 <|
CM.pu (p2 (binA Tryz.prog .eql 25) t12 (.int .i64 0)) fun x0 =>
CM.cond x0 (
CM.pu (p1 (fun a => fieldAddrA Tryz.prog 54 a 4) t16) fun x1 =>
CM.pu (p1 (fun a => fieldAddrA Tryz.prog 91 a 2) t13) fun x2 =>
CM.pu (p1 (fun a => fieldAddrA Tryz.prog 37 a 0) t18) fun x3 =>
CM.rm (q1 (loadA Tryz.prog 35) x3 ) fun x4 =>
CM.call 41 [x1, x2, x4] fun x5 =>
CM.go 57348 [t0, t8, t10, x5, t13, t16, t18]) (
CM.go 57348 [t0, t8, t10, t12, t13, t16, t18])
theorem g14_3_ok : LeD (real E Mk Nk) g14_3 (fun ts m => goR E Mk 57347 ts m) := apS_le fun _ => apS_le fun _ => apS_le fun _ => apS_le fun _ => apS_le fun _ => apS_le fun _ => apS_le fun _ => ap0_le fun _ => goR_eq 400 (by kernel_rfl)
noncomputable def g14_4 : List AV → CM := apS fun t0 => apS fun t8 => apS fun t10 => apS fun t12 => apS fun t13 => apS fun t16 => apS fun t18 => ap0 <|
CM.pu (p2 (binA Tryz.prog .neq 25) t12 (.int .i64 0)) fun x0 =>
CM.cond x0 (
CM.pu (p1 (buildA Tryz.prog 37) []) fun x1 =>
CM.st (fun m => stV m t8 x1 3) <|
CM.resC Tryz.prog [ResultVar.cell 0 37, ResultVar.tmp 1] [t8, t12]) (
CM.go 57349 [t0, t8, t10, t13, t16, t18])
theorem g14_4_ok : LeD (real E Mk Nk) g14_4 (fun ts m => goR E Mk 57348 ts m) := apS_le fun _ => apS_le fun _ => apS_le fun _ => apS_le fun _ => apS_le fun _ => apS_le fun _ => apS_le fun _ => ap0_le fun _ => goR_eq 400 (by kernel_rfl)
noncomputable def g14_5 : List AV → CM := apS fun t0 => apS fun t8 => apS fun t10 => apS fun t13 => apS fun t16 => apS fun t18 => ap0 <|
CM.rm (q1 (loadA Tryz.prog 91) t10 ) fun x0 =>
CM.call 42 [t0, x0] fun _ =>
CM.rm (q1 (loadA Tryz.prog 91) t13 ) fun x2 =>
CM.call 42 [t0, x2] fun _ =>
CM.pu (p1 nnA t0) fun x4 =>
CM.pu (p1 (fun a => fieldAddrA Tryz.prog 81 a 2) x4) fun x5 =>
CM.rm (q1 (loadA Tryz.prog 78) x5 ) fun x6 =>
CM.pu (p1 (fun a => fieldAddrA Tryz.prog 54 a 0) t16) fun x7 =>
CM.rm (q1 (loadA Tryz.prog 9) x7 ) fun x8 =>
CM.pu (p1 (fun a => fieldAddrA Tryz.prog 54 a 1) t16) fun x9 =>
CM.rm (q1 (loadA Tryz.prog 9) x9 ) fun x10 =>
CM.pu (p2 (binA Tryz.prog .add 9) x8 x10) fun x11 =>
CM.rm (q1 (loadA Tryz.prog 54) t16 ) fun x12 =>
CM.call 46 [x6, x11, x12] fun _ =>
CM.rm (q1 (loadA Tryz.prog 37) t18 ) fun x16 =>
CM.st (fun m => stV m t8 x16 3) <|
CM.resC Tryz.prog [ResultVar.cell 0 37, ResultVar.tmp 1] [t8, (.int .i64 0)]
theorem g14_5_ok : LeD (real E Mk Nk) g14_5 (fun ts m => goR E Mk 57349 ts m) := apS_le fun _ => apS_le fun _ => apS_le fun _ => apS_le fun _ => apS_le fun _ => apS_le fun _ => ap0_le fun _ => goR_eq 400 (by kernel_rfl)
noncomputable def f14 : List AV → CM := apS fun a0 => apS fun a1 => apS fun a2 => apS fun a3 => ap0 <|
CM.al (boxA a3) fun x0 =>
CM.al (some (.cells [(.int .i64 0), (.int .u64 0), (.int .i64 0)] false, pB)) fun x1 =>
CM.call 39 [a0, a1] fun x2 =>
CM.pu (p1 (fun a => extractA a 0) x2) fun x3 =>
CM.pu (p1 (fun a => extractA a 1) x2) fun x4 =>
CM.pu (p1 (fun a => extractA a 2) x2) fun x5 =>
CM.al (some (.cells [(.int .u64 0), (.str []), (.int .i64 0), (.int .u64 0)] false, pB)) fun x6 =>
CM.al (some (.cells [(.str []), (.int .i64 0), (.int .i64 0), (.int .u64 0)] false, pB)) fun x7 =>
CM.st (fun m => stV m x6 x3 4) <|
CM.st (fun m => stV m x7 x4 4) <|
CM.call 39 [a0, a2] fun x10 =>
CM.pu (p1 (fun a => extractA a 0) x10) fun x11 =>
CM.pu (p1 (fun a => extractA a 1) x10) fun x12 =>
CM.pu (p1 (fun a => extractA a 2) x10) fun x13 =>
CM.al (some (.cells [(.int .u64 0), (.str []), (.int .i64 0), (.int .u64 0)] false, pB)) fun x14 =>
CM.al (some (.cells [(.str []), (.int .i64 0), (.int .i64 0), (.int .u64 0)] false, pB)) fun x15 =>
CM.st (fun m => stV m x14 x11 4) <|
CM.st (fun m => stV m x15 x12 4) <|
CM.pu (p1 nnA a0) fun x18 =>
CM.pu (p1 (fun a => fieldAddrA Tryz.prog 81 a 2) x18) fun x19 =>
CM.rm (q1 (loadA Tryz.prog 78) x19 ) fun x20 =>
CM.pu (p1 (fun a => fieldAddrA Tryz.prog 85 a 0) x7) fun x21 =>
CM.rm (q1 (loadA Tryz.prog 9) x21 ) fun x22 =>
CM.pu (p1 (fun a => fieldAddrA Tryz.prog 85 a 0) x15) fun x23 =>
CM.rm (q1 (loadA Tryz.prog 9) x23 ) fun x24 =>
CM.pu (p2 (binA Tryz.prog .add 9) x22 x24) fun x25 =>
CM.call 45 [x20, x25] fun x27 =>
CM.pu (p1 (fun a => extractA a 0) x27) fun x29 =>
CM.pu (p1 (fun a => extractA a 1) x27) fun x30 =>
CM.al (some (.cells [(.str []), (.str []), (.int .i64 0), (.int .u64 0), (.int .i64 0), (.int .i64 0), (.int .u64 0), (.int .i64 0), (.int .u64 0)] false, pB)) fun x31 =>
CM.st (fun m => stV m x31 x29 9) <|
CM.pu (p2 (binA Tryz.prog .neq 25) x5 (.int .i64 0)) fun x35 =>
CM.cond x35 (
CM.pu (p1 (buildA Tryz.prog 37) []) fun x36 =>
CM.st (fun m => stV m x1 x36 3) <|
CM.resC Tryz.prog [ResultVar.cell 0 37, ResultVar.tmp 1] [x1, x5]) (
CM.pu (p2 (binA Tryz.prog .neq 25) x13 (.int .i64 0)) fun x38 =>
CM.cond x38 (
CM.pu (p1 (buildA Tryz.prog 37) []) fun x39 =>
CM.st (fun m => stV m x1 x39 3) <|
CM.resC Tryz.prog [ResultVar.cell 0 37, ResultVar.tmp 1] [x1, x13]) (
CM.pu (p1 (fun a => fieldAddrA Tryz.prog 85 a 0) x7) fun x41 =>
CM.rm (q1 (loadA Tryz.prog 9) x41 ) fun x42 =>
CM.pu (p1 (fun a => fieldAddrA Tryz.prog 85 a 0) x15) fun x43 =>
CM.rm (q1 (loadA Tryz.prog 9) x43 ) fun x44 =>
CM.pu (p2 (binA Tryz.prog .eql 9) x42 x44) fun x45 =>
CM.cond x45 (
CM.pu (p1 (buildA Tryz.prog 37) []) fun x46 =>
CM.st (fun m => stV m x1 x46 3) <|
CM.resC Tryz.prog [ResultVar.cell 0 37, ResultVar.tmp 1] [x1, (.int .i64 45)]) (
CM.pu (p1 (unA .not) x30) fun x48 =>
CM.cond x48 (
CM.pu (p1 (buildA Tryz.prog 37) []) fun x49 =>
CM.st (fun m => stV m x1 x49 3) <|
CM.resC Tryz.prog [ResultVar.cell 0 37, ResultVar.tmp 1] [x1, (.int .i64 44)]) (
CM.go 57344 [a0, x0, x1, x6, x7, x14, x15, x31]))))
theorem f14_ok : LeD (real E Mk Nk) f14 (fun xs m => run E (.fn 14) xs m) := apS_le fun _ => apS_le fun _ => apS_le fun _ => apS_le fun _ => ap0_le fun _ => run_eq 400 rfl (by kernel_rfl) (by kernel_rfl)
noncomputable def g15_0 : List AV → CM := apS fun t2 => apS fun t3 => apS fun t4 => apS fun t6 => ap0 <|
CM.pu (p1 (fun a => fieldAddrA Tryz.prog 37 a 0) t3) fun x0 =>
CM.rm (q1 (loadA Tryz.prog 35) x0 ) fun x1 =>
CM.memo fun m2 =>
CM.call 53 [x1] fun x3 =>
CM.pu (p1 (fun a => fieldAddrA Tryz.prog 37 a 0) t4) fun x5 =>
CM.rm (q1 (loadA Tryz.prog 35) x5 ) fun x6 =>
CM.chk (q1 (loadA Tryz.prog 35) x5 m2) x6 <|
CM.memo fun m7 =>
CM.call 53 [x6] fun x8 =>
CM.memo fun m10 =>
CM.call 52 [x3, x8] fun x11 =>
CM.pu (p1 (fun a => fieldAddrA Tryz.prog 37 a 1) t3) fun x13 =>
CM.rm (q1 (loadA Tryz.prog 3) x13 ) fun x14 =>
CM.chk (q1 (loadA Tryz.prog 3) x13 m10) x14 <|
CM.chk (q1 (loadA Tryz.prog 3) x13 m7) x14 <|
CM.chk (q1 (loadA Tryz.prog 3) x13 m2) x14 <|
CM.pu (p1 (fun a => fieldAddrA Tryz.prog 37 a 1) t4) fun x15 =>
CM.rm (q1 (loadA Tryz.prog 3) x15 ) fun x16 =>
CM.chk (q1 (loadA Tryz.prog 3) x15 m10) x16 <|
CM.chk (q1 (loadA Tryz.prog 3) x15 m7) x16 <|
CM.chk (q1 (loadA Tryz.prog 3) x15 m2) x16 <|
CM.pu (p2 (binA Tryz.prog .add 3) x14 x16) fun x17 =>
CM.pu (p2 (binA Tryz.prog .sub 3) x17 t2) fun x18 =>
CM.call 51 [x11, x18] fun x20 =>
CM.call 50 [x20, t2] fun x23 =>
CM.pu (p1 (fun a => extractA a 0) x23) fun x25 =>
CM.pu (p1 (fun a => extractA a 1) x23) fun x26 =>
CM.st (fun m => stV m t6 x25 3) <|
CM.resC Tryz.prog [ResultVar.cell 0 37, ResultVar.tmp 1] [t6, x26]
theorem g15_0_ok : LeD (real E Mk Nk) g15_0 (fun ts m => goR E Mk 61440 ts m) := apS_le fun _ => apS_le fun _ => apS_le fun _ => apS_le fun _ => ap0_le fun _ => goR_eq 400 (by kernel_rfl)
noncomputable def f15 : List AV → CM := apS fun a0 => apS fun a1 => apS fun a2 => ap0 <|
CM.al (boxA a0) fun x0 =>
CM.al (boxA a1) fun x1 =>
CM.al (some (.cells [(.int .i64 0), (.int .u64 0), (.int .i64 0)] false, pB)) fun x2 =>
CM.rm (q1 (loadA Tryz.prog 37) x0 ) fun x3 =>
CM.call 49 [x3] fun x4 =>
CM.pu (p1 (unA .not) x4) fun x5 =>
CM.ifv x5 (
CM.pu (p1 (buildA Tryz.prog 37) []) fun x6 =>
CM.st (fun m => stV m x2 x6 3) <|
CM.resC Tryz.prog [ResultVar.cell 0 37, ResultVar.tmp 1] [x2, (.int .i64 21)]) (
CM.rm (q1 (loadA Tryz.prog 37) x1 ) fun x8 =>
CM.call 49 [x8] fun x9 =>
CM.pu (p1 (unA .not) x9) fun x10 =>
CM.ifv x10 (
CM.pu (p1 (buildA Tryz.prog 37) []) fun x11 =>
CM.st (fun m => stV m x2 x11 3) <|
CM.resC Tryz.prog [ResultVar.cell 0 37, ResultVar.tmp 1] [x2, (.int .i64 21)]) (
CM.pu (p2 (binA Tryz.prog .lss 3) a2 (.int .i64 0)) fun x13 =>
CM.ifv x13 (
CM.pu (p1 (buildA Tryz.prog 37) []) fun x14 =>
CM.st (fun m => stV m x2 x14 3) <|
CM.resC Tryz.prog [ResultVar.cell 0 37, ResultVar.tmp 1] [x2, (.int .i64 21)]) (
CM.pu (p2 (binA Tryz.prog .gtr 3) a2 (.int .i64 18)) fun x16 =>
CM.cond x16 (
CM.pu (p1 (buildA Tryz.prog 37) []) fun x17 =>
CM.st (fun m => stV m x2 x17 3) <|
CM.resC Tryz.prog [ResultVar.cell 0 37, ResultVar.tmp 1] [x2, (.int .i64 21)]) (
CM.go 61440 [a2, x0, x1, x2]))))
theorem f15_ok : LeD (real E Mk Nk) f15 (fun xs m => run E (.fn 15) xs m) := apS_le fun _ => apS_le fun _ => apS_le fun _ => ap0_le fun _ => run_eq 400 rfl (by kernel_rfl) (by kernel_rfl)
noncomputable def g16_0 : List AV → CM := apS fun t4 => apS fun t6 => apS fun t7 => ap0 <|
CM.pu (p1 (fun a => fieldAddrA Tryz.prog 91 a 2) t6) fun x0 =>
CM.rm (q1 (loadA Tryz.prog 35) x0 ) fun x1 =>
CM.pu (p1 (fun a => fieldAddrA Tryz.prog 85 a 1) t7) fun x2 =>
CM.rm (q1 (loadA Tryz.prog 3) x2 ) fun x3 =>
CM.pu (p1 (buildA Tryz.prog 37) [(0, x1), (1, x3)]) fun x4 =>
CM.st (fun m => stV m t4 x4 3) <|
CM.resC Tryz.prog [ResultVar.cell 0 37, ResultVar.tmp 1] [t4, (.int .i64 0)]
theorem g16_0_ok : LeD (real E Mk Nk) g16_0 (fun ts m => goR E Mk 65536 ts m) := apS_le fun _ => apS_le fun _ => apS_le fun _ => ap0_le fun _ => goR_eq 400 (by kernel_rfl)
noncomputable def f16 : List AV → CM := apS fun a0 => apS fun a1 => ap0 <|
CM.al (some (.cells [(.int .i64 0), (.int .u64 0), (.int .i64 0)] false, pB)) fun x0 =>
CM.call 39 [a0, a1] fun x1 =>
CM.pu (p1 (fun a => extractA a 0) x1) fun x2 =>
CM.pu (p1 (fun a => extractA a 1) x1) fun x3 =>
CM.pu (p1 (fun a => extractA a 2) x1) fun x4 =>
CM.al (some (.cells [(.int .u64 0), (.str []), (.int .i64 0), (.int .u64 0)] false, pB)) fun x5 =>
CM.al (some (.cells [(.str []), (.int .i64 0), (.int .i64 0), (.int .u64 0)] false, pB)) fun x6 =>
CM.st (fun m => stV m x5 x2 4) <|
CM.st (fun m => stV m x6 x3 4) <|
CM.pu (p2 (binA Tryz.prog .neq 25) x4 (.int .i64 0)) fun x9 =>
CM.cond x9 (
CM.pu (p1 (buildA Tryz.prog 37) []) fun x10 =>
CM.st (fun m => stV m x0 x10 3) <|
CM.resC Tryz.prog [ResultVar.cell 0 37, ResultVar.tmp 1] [x0, x4]) (
CM.go 65536 [x0, x5, x6])
theorem f16_ok : LeD (real E Mk Nk) f16 (fun xs m => run E (.fn 16) xs m) := apS_le fun _ => apS_le fun _ => ap0_le fun _ => run_eq 400 rfl (by kernel_rfl) (by kernel_rfl)
noncomputable def g17_0 : List AV → CM := apS fun t6 => apS fun t8 => apS fun t12 => ap0 <|
CM.pu (p1 (fun a => fieldAddrA Tryz.prog 54 a 3) t12) fun x0 =>
CM.rm (q1 (loadA Tryz.prog 35) x0 ) fun x1 =>
CM.pu (p1 (fun a => fieldAddrA Tryz.prog 85 a 1) t8) fun x2 =>
CM.rm (q1 (loadA Tryz.prog 3) x2 ) fun x3 =>
CM.pu (p1 (buildA Tryz.prog 37) [(0, x1), (1, x3)]) fun x4 =>
CM.st (fun m => stV m t6 x4 3) <|
CM.resC Tryz.prog [ResultVar.cell 0 37, ResultVar.tmp 1] [t6, (.int .i64 0)]
theorem g17_0_ok : LeD (real E Mk Nk) g17_0 (fun ts m => goR E Mk 69632 ts m) := apS_le fun _ => apS_le fun _ => apS_le fun _ => ap0_le fun _ => goR_eq 400 (by kernel_rfl)
noncomputable def f17 : List AV → CM := apS fun a0 => apS fun a1 => apS fun a2 => ap0 <|
CM.al (some (.cells [(.int .i64 0), (.int .u64 0), (.int .i64 0)] false, pB)) fun x0 =>
CM.pu (p1 nnA a0) fun x1 =>
CM.pu (p1 (fun a => fieldAddrA Tryz.prog 81 a 1) x1) fun x2 =>
CM.rm (q1 (loadA Tryz.prog 77) x2 ) fun x3 =>
CM.call 34 [x3, a1] fun x4 =>
CM.pu (p1 (fun a => extractA a 0) x4) fun x5 =>
CM.pu (p1 (fun a => extractA a 1) x4) fun x6 =>
CM.al (some (.cells [(.str []), (.int .i64 0), (.int .i64 0), (.int .u64 0)] false, pB)) fun x7 =>
CM.st (fun m => stV m x7 x5 4) <|
CM.pu (p1 nnA a0) fun x9 =>
CM.pu (p1 (fun a => fieldAddrA Tryz.prog 81 a 1) x9) fun x10 =>
CM.rm (q1 (loadA Tryz.prog 77) x10 ) fun x11 =>
CM.call 34 [x11, a2] fun x12 =>
CM.pu (p1 (fun a => extractA a 0) x12) fun x13 =>
CM.pu (p1 (fun a => extractA a 1) x12) fun x14 =>
CM.al (some (.cells [(.str []), (.int .i64 0), (.int .i64 0), (.int .u64 0)] false, pB)) fun x15 =>
CM.st (fun m => stV m x15 x13 4) <|
CM.pu (p1 nnA a0) fun x17 =>
CM.pu (p1 (fun a => fieldAddrA Tryz.prog 81 a 2) x17) fun x18 =>
CM.rm (q1 (loadA Tryz.prog 78) x18 ) fun x19 =>
CM.pu (p2 (binA Tryz.prog .add 9) a1 a2) fun x20 =>
CM.call 45 [x19, x20] fun x21 =>
CM.pu (p1 (fun a => extractA a 0) x21) fun x22 =>
CM.pu (p1 (fun a => extractA a 1) x21) fun x23 =>
CM.al (some (.cells [(.str []), (.str []), (.int .i64 0), (.int .u64 0), (.int .i64 0), (.int .i64 0), (.int .u64 0), (.int .i64 0), (.int .u64 0)] false, pB)) fun x24 =>
CM.st (fun m => stV m x24 x22 9) <|
CM.pu (p1 (unA .not) x6) fun x26 =>
CM.ifv x26 (
CM.pu (p1 (buildA Tryz.prog 37) []) fun x27 =>
CM.st (fun m => stV m x0 x27 3) <|
CM.resC Tryz.prog [ResultVar.cell 0 37, ResultVar.tmp 1] [x0, (.int .i64 41)]) (
CM.pu (p1 (unA .not) x14) fun x29 =>
CM.cond x29 (
CM.pu (p1 (buildA Tryz.prog 37) []) fun x30 =>
CM.st (fun m => stV m x0 x30 3) <|
CM.resC Tryz.prog [ResultVar.cell 0 37, ResultVar.tmp 1] [x0, (.int .i64 41)]) (
CM.pu (p1 (unA .not) x23) fun x32 =>
CM.cond x32 (
CM.pu (p1 (buildA Tryz.prog 37) []) fun x33 =>
CM.st (fun m => stV m x0 x33 3) <|
CM.resC Tryz.prog [ResultVar.cell 0 37, ResultVar.tmp 1] [x0, (.int .i64 44)]) (
CM.go 69632 [x0, x7, x24])))
theorem f17_ok : LeD (real E Mk Nk) f17 (fun xs m => run E (.fn 17) xs m) := apS_le fun _ => apS_le fun _ => apS_le fun _ => ap0_le fun _ => run_eq 400 rfl (by kernel_rfl) (by kernel_rfl)
noncomputable def g18_0 : List AV → CM := apS fun t0 => apS fun t2 => apS fun t3 => apS fun t5 => apS fun t7 => apS fun t9 => apS fun t19 => apS fun t21 => apS fun t34 => apS fun t47 => ap0 <|
CM.rng (.fn (rsOf E 18)) t19 (loopOf E 18 0 ([t0, .undef, t2, t3, .undef, t5, .undef, t7, .undef, t9, .undef, .undef, .undef, .undef, .undef, .undef, .undef, .undef, .undef, t19, .undef, t21, .undef, .undef, .undef, .undef, .undef, .undef, .undef, .undef, .undef, .undef, .undef, .undef, t34, .undef, .undef, .undef, .undef, .undef, .undef, .undef, .undef, .undef, .undef, .undef, .undef, t47] ++ List.replicate 7 .undef)) 73728 [t0, t2, t3, t5, t7, t9, t19, t21, t34, t47]
theorem g18_0_ok : LeD (real E Mk Nk) g18_0 (fun ts m => goR E Mk 73728 ts m) := apS_le fun _ => apS_le fun _ => apS_le fun _ => apS_le fun _ => apS_le fun _ => apS_le fun _ => apS_le fun _ => apS_le fun _ => apS_le fun _ => apS_le fun _ => ap0_le fun _ => goR_eq 400 (by kernel_rfl)
noncomputable def g18_2 : List AV → CM := apS fun t0 => apS fun t2 => apS fun t3 => apS fun t7 => apS fun t9 => apS fun t34 => apS fun t47 => ap0 <|
CM.pu (p1 nnA t0) fun x0 =>
CM.pu (p1 (fun a => fieldAddrA Tryz.prog 81 a 2) x0) fun x1 =>
CM.rm (q1 (loadA Tryz.prog 78) x1 ) fun x2 =>
CM.call 55 [x2] fun x3 =>
CM.go 73731 [t0, t2, t3, t7, t9, x3, t34, t47]
theorem g18_2_ok : LeD (real E Mk Nk) g18_2 (fun ts m => goR E Mk 73730 ts m) := apS_le fun _ => apS_le fun _ => apS_le fun _ => apS_le fun _ => apS_le fun _ => apS_le fun _ => apS_le fun _ => ap0_le fun _ => goR_eq 400 (by kernel_rfl)
noncomputable def g18_3 : List AV → CM := apS fun t0 => apS fun t2 => apS fun t3 => apS fun t7 => apS fun t9 => apS fun t32 => apS fun t34 => apS fun t47 => ap0 <|
CM.rng (.fn (rsOf E 18)) t32 (loopOf E 18 1 ([t0, .undef, t2, t3, .undef, .undef, .undef, t7, .undef, t9, .undef, .undef, .undef, .undef, .undef, .undef, .undef, .undef, .undef, .undef, .undef, .undef, .undef, .undef, .undef, .undef, .undef, .undef, .undef, .undef, .undef, .undef, t32, .undef, t34, .undef, .undef, .undef, .undef, .undef, .undef, .undef, .undef, .undef, .undef, .undef, .undef, t47] ++ List.replicate 7 .undef)) 73729 [t0, t2, t3, t7, t9, t32, t34, t47]
theorem g18_3_ok : LeD (real E Mk Nk) g18_3 (fun ts m => goR E Mk 73731 ts m) := apS_le fun _ => apS_le fun _ => apS_le fun _ => apS_le fun _ => apS_le fun _ => apS_le fun _ => apS_le fun _ => apS_le fun _ => ap0_le fun _ => goR_eq 400 (by kernel_rfl)
noncomputable def g18_5 : List AV → CM := apS fun t0 => apS fun t2 => apS fun t3 => apS fun t9 => apS fun t47 => ap0 <|
CM.pu (p1 nnA t0) fun x0 =>
CM.pu (p1 (fun a => fieldAddrA Tryz.prog 81 a 3) x0) fun x1 =>
CM.rm (q1 (loadA Tryz.prog 79) x1 ) fun x2 =>
CM.call 56 [x2] fun x3 =>
CM.go 73734 [t2, t3, t9, x3, t47]
theorem g18_5_ok : LeD (real E Mk Nk) g18_5 (fun ts m => goR E Mk 73733 ts m) := apS_le fun _ => apS_le fun _ => apS_le fun _ => apS_le fun _ => apS_le fun _ => ap0_le fun _ => goR_eq 400 (by kernel_rfl)
noncomputable def g18_6 : List AV → CM := apS fun t2 => apS fun t3 => apS fun t9 => apS fun t45 => apS fun t47 => ap0 <|
CM.rng (.fn (rsOf E 18)) t45 (loopOf E 18 2 ([.undef, .undef, t2, t3, .undef, .undef, .undef, .undef, .undef, t9, .undef, .undef, .undef, .undef, .undef, .undef, .undef, .undef, .undef, .undef, .undef, .undef, .undef, .undef, .undef, .undef, .undef, .undef, .undef, .undef, .undef, .undef, .undef, .undef, .undef, .undef, .undef, .undef, .undef, .undef, .undef, .undef, .undef, .undef, .undef, t45, .undef, t47] ++ List.replicate 7 .undef)) 73730 [t2, t3, t9, t45, t47]
theorem g18_6_ok : LeD (real E Mk Nk) g18_6 (fun ts m => goR E Mk 73734 ts m) := apS_le fun _ => apS_le fun _ => apS_le fun _ => apS_le fun _ => apS_le fun _ => ap0_le fun _ => goR_eq 400 (by kernel_rfl)
noncomputable def g18_8 : List AV → CM := apS fun t2 => apS fun t3 => ap0 <|
CM.rm (q1 (loadA Tryz.prog 49) t3 ) fun x0 =>
CM.st (fun m => stV m t2 x0 4) <|
CM.resC Tryz.prog [ResultVar.cell 0 49] [t2]
theorem g18_8_ok : LeD (real E Mk Nk) g18_8 (fun ts m => goR E Mk 73736 ts m) := apS_le fun _ => apS_le fun _ => ap0_le fun _ => goR_eq 400 (by kernel_rfl)
noncomputable def l18_0_none : List AV → CM := apS fun t0 => apS fun t2 => apS fun t3 => apS fun _ => apS fun t7 => apS fun t9 => apS fun _ => apS fun _ => apS fun t34 => apS fun t47 => ap0 <|
CM.go 73730 [t0, t2, t3, t7, t9, t34, t47]
theorem l18_0_none_ok : LeD (real E Mk Nk) l18_0_none (fun ts m => afR E Nk 73728 none ts m) := apS_le fun _ => apS_le fun _ => apS_le fun _ => apS_le fun _ => apS_le fun _ => apS_le fun _ => apS_le fun _ => apS_le fun _ => apS_le fun _ => apS_le fun _ => ap0_le fun _ => afR_eq 400 (by kernel_rfl)
noncomputable def l18_1_none : List AV → CM := apS fun t0 => apS fun t2 => apS fun t3 => apS fun _ => apS fun t9 => apS fun _ => apS fun _ => apS fun t47 => ap0 <|
CM.go 73733 [t0, t2, t3, t9, t47]
theorem l18_1_none_ok : LeD (real E Mk Nk) l18_1_none (fun ts m => afR E Nk 73729 none ts m) := apS_le fun _ => apS_le fun _ => apS_le fun _ => apS_le fun _ => apS_le fun _ => apS_le fun _ => apS_le fun _ => apS_le fun _ => ap0_le fun _ => afR_eq 400 (by kernel_rfl)
noncomputable def l18_2_none : List AV → CM := apS fun t2 => apS fun t3 => apS fun _ => apS fun _ => apS fun _ => ap0 <|
CM.go 73736 [t2, t3]
theorem l18_2_none_ok : LeD (real E Mk Nk) l18_2_none (fun ts m => afR E Nk 73730 none ts m) := apS_le fun _ => apS_le fun _ => apS_le fun _ => apS_le fun _ => apS_le fun _ => ap0_le fun _ => afR_eq 400 (by kernel_rfl)
noncomputable def f18 : List AV → CM := apS fun a0 => ap0 <|
CM.al (some (.cells [(.sl none 0 0 0 true), (.sl none 0 0 0 true), (.sl none 0 0 0 true), (.int .u64 0)] false, pB)) fun x0 =>
CM.pu (p1 nnA a0) fun x1 =>
CM.pu (p1 (fun a => fieldAddrA Tryz.prog 81 a 4) x1) fun x2 =>
CM.rm (q1 (loadA Tryz.prog 30) x2 ) fun x3 =>
CM.pu (p1 (buildA Tryz.prog 49) [(3, x3)]) fun x4 =>
CM.al (some (.cells [(.sl none 0 0 0 true), (.sl none 0 0 0 true), (.sl none 0 0 0 true), (.int .u64 0)] false, pB)) fun x5 =>
CM.st (fun m => stV m x5 x4 4) <|
CM.pu (p1 nnA a0) fun x7 =>
CM.pu (p1 (fun a => fieldAddrA Tryz.prog 81 a 1) x7) fun x8 =>
CM.rm (q1 (loadA Tryz.prog 77) x8 ) fun x9 =>
CM.call 54 [x9] fun x10 =>
CM.go 73728 [a0, x0, x5, .undef, .undef, .undef, x10, .undef, .undef, .undef]
theorem f18_ok : LeD (real E Mk Nk) f18 (fun xs m => run E (.fn 18) xs m) := apS_le fun _ => ap0_le fun _ => run_eq 400 rfl (by kernel_rfl) (by kernel_rfl)
noncomputable def f19 : List AV → CM := apS fun a0 => ap0 <|
CM.al (boxA a0) fun x0 =>
CM.al (some (.cells [(.int .i64 0), (.int .u64 0)] false, pB)) fun x1 =>
CM.pu (p1 (buildA Tryz.prog 35) []) fun x2 =>
CM.rm (q1 (loadA Tryz.prog 35) x0 ) fun x3 =>
CM.call 57 [x2, x3] fun x4 =>
CM.pu (p1 (fun a => extractA a 0) x4) fun x5 =>
CM.pu (p1 (fun a => extractA a 1) x4) fun x6 =>
CM.st (fun m => stV m x1 x5 2) <|
CM.resC Tryz.prog [ResultVar.cell 0 35, ResultVar.tmp 1] [x1, x6]
theorem f19_ok : LeD (real E Mk Nk) f19 (fun xs m => run E (.fn 19) xs m) := apS_le fun _ => ap0_le fun _ => run_eq 400 rfl (by kernel_rfl) (by kernel_rfl)
noncomputable def g20_0 : List AV → CM := apS fun t0 => apS fun t5 => apS fun t7 => apS fun t8 => apS fun t9 => ap0 <|
CM.pu (p2 (binA Tryz.prog .eql 25) t9 (.int .i64 0)) fun x0 =>
CM.ifv x0 (
CM.rm (q1 (loadA Tryz.prog 91) t7 ) fun x1 =>
CM.rm (q1 (loadA Tryz.prog 37) t5 ) fun x2 =>
CM.call 47 [x1, x2] fun x3 =>
CM.cond x3 (
CM.go 81921 [t0, t5, t7, t8, (.int .i64 42)]) (
CM.go 81921 [t0, t5, t7, t8, t9])) (
CM.go 81921 [t0, t5, t7, t8, t9])
theorem g20_0_ok : LeD (real E Mk Nk) g20_0 (fun ts m => goR E Mk 81920 ts m) := apS_le fun _ => apS_le fun _ => apS_le fun _ => apS_le fun _ => apS_le fun _ => ap0_le fun _ => goR_eq 400 (by kernel_rfl)
noncomputable def g20_1 : List AV → CM := apS fun t0 => apS fun t5 => apS fun t7 => apS fun t8 => apS fun t9 => ap0 <|
CM.pu (p2 (binA Tryz.prog .eql 25) t9 (.int .i64 0)) fun x0 =>
CM.cond x0 (
CM.pu (p1 (fun a => fieldAddrA Tryz.prog 91 a 2) t7) fun x1 =>
CM.pu (p1 (fun a => fieldAddrA Tryz.prog 85 a 2) t8) fun x2 =>
CM.pu (p1 (fun a => fieldAddrA Tryz.prog 37 a 0) t5) fun x3 =>
CM.rm (q1 (loadA Tryz.prog 35) x3 ) fun x4 =>
CM.call 41 [x1, x2, x4] fun x5 =>
CM.go 81922 [t0, t7, t8, x5]) (
CM.go 81922 [t0, t7, t8, t9])
theorem g20_1_ok : LeD (real E Mk Nk) g20_1 (fun ts m => goR E Mk 81921 ts m) := apS_le fun _ => apS_le fun _ => apS_le fun _ => apS_le fun _ => apS_le fun _ => ap0_le fun _ => goR_eq 400 (by kernel_rfl)
noncomputable def g20_2 : List AV → CM := apS fun t0 => apS fun t7 => apS fun t8 => apS fun t9 => ap0 <|
CM.pu (p2 (binA Tryz.prog .eql 25) t9 (.int .i64 0)) fun x0 =>
CM.cond x0 (
CM.rm (q1 (loadA Tryz.prog 91) t7 ) fun x1 =>
CM.call 42 [t0, x1] fun _ =>
CM.pu (p1 nnA t0) fun x3 =>
CM.pu (p1 (fun a => fieldAddrA Tryz.prog 81 a 1) x3) fun x4 =>
CM.rm (q1 (loadA Tryz.prog 77) x4 ) fun x5 =>
CM.pu (p1 (fun a => fieldAddrA Tryz.prog 85 a 0) t8) fun x6 =>
CM.rm (q1 (loadA Tryz.prog 9) x6 ) fun x7 =>
CM.rm (q1 (loadA Tryz.prog 85) t8 ) fun x8 =>
CM.call 36 [x5, x7, x8] fun _ =>
CM.go 81923 [t9]) (
CM.go 81923 [t9])
theorem g20_2_ok : LeD (real E Mk Nk) g20_2 (fun ts m => goR E Mk 81922 ts m) := apS_le fun _ => apS_le fun _ => apS_le fun _ => apS_le fun _ => ap0_le fun _ => goR_eq 400 (by kernel_rfl)
noncomputable def g20_3 : List AV → CM := apS fun t9 => ap0 <|
CM.ret t9
theorem g20_3_ok : LeD (real E Mk Nk) g20_3 (fun ts m => goR E Mk 81923 ts m) := apS_le fun _ => ap0_le fun _ => goR_eq 400 (by kernel_rfl)
noncomputable def f20 : List AV → CM := apS fun a0 => apS fun a1 => apS fun a2 => ap0 <|
CM.al (boxA a2) fun x0 =>
CM.call 39 [a0, a1] fun x1 =>
CM.pu (p1 (fun a => extractA a 0) x1) fun x2 =>
CM.pu (p1 (fun a => extractA a 1) x1) fun x3 =>
CM.pu (p1 (fun a => extractA a 2) x1) fun x4 =>
CM.al (some (.cells [(.int .u64 0), (.str []), (.int .i64 0), (.int .u64 0)] false, pB)) fun x5 =>
CM.al (some (.cells [(.str []), (.int .i64 0), (.int .i64 0), (.int .u64 0)] false, pB)) fun x6 =>
CM.st (fun m => stV m x5 x2 4) <|
CM.st (fun m => stV m x6 x3 4) <|
CM.pu (p2 (binA Tryz.prog .eql 25) x4 (.int .i64 0)) fun x9 =>
CM.cond x9 (
CM.rm (q1 (loadA Tryz.prog 85) x6 ) fun x10 =>
CM.rm (q1 (loadA Tryz.prog 37) x0 ) fun x11 =>
CM.call 40 [x10, x11] fun x12 =>
CM.go 81920 [a0, x0, x5, x6, x12]) (
CM.go 81920 [a0, x0, x5, x6, x4])
theorem f20_ok : LeD (real E Mk Nk) f20 (fun xs m => run E (.fn 20) xs m) := apS_le fun _ => apS_le fun _ => apS_le fun _ => ap0_le fun _ => run_eq 400 rfl (by kernel_rfl) (by kernel_rfl)
noncomputable def g21_0 : List AV → CM := apS fun t0 => apS fun t7 => apS fun t9 => apS fun t10 => apS fun t12 => ap0 <|
CM.rm (q1 (loadA Tryz.prog 85) t10 ) fun x0 =>
CM.rm (q1 (loadA Tryz.prog 37) t7 ) fun x1 =>
CM.call 40 [x0, x1] fun x2 =>
CM.pu (p2 (binA Tryz.prog .eql 25) x2 (.int .i64 0)) fun x3 =>
CM.ifv x3 (
CM.rm (q1 (loadA Tryz.prog 91) t9 ) fun x4 =>
CM.rm (q1 (loadA Tryz.prog 37) t7 ) fun x5 =>
CM.call 47 [x4, x5] fun x6 =>
CM.cond x6 (
CM.go 86017 [t0, t7, t9, (.int .i64 42), t12]) (
CM.go 86017 [t0, t7, t9, x2, t12])) (
CM.go 86017 [t0, t7, t9, x2, t12])
theorem g21_0_ok : LeD (real E Mk Nk) g21_0 (fun ts m => goR E Mk 86016 ts m) := apS_le fun _ => apS_le fun _ => apS_le fun _ => apS_le fun _ => apS_le fun _ => ap0_le fun _ => goR_eq 400 (by kernel_rfl)
noncomputable def g21_1 : List AV → CM := apS fun t0 => apS fun t7 => apS fun t9 => apS fun t11 => apS fun t12 => ap0 <|
CM.pu (p2 (binA Tryz.prog .eql 25) t11 (.int .i64 0)) fun x0 =>
CM.cond x0 (
CM.pu (p1 (fun a => fieldAddrA Tryz.prog 91 a 2) t9) fun x1 =>
CM.pu (p1 (fun a => fieldAddrA Tryz.prog 91 a 2) t12) fun x2 =>
CM.pu (p1 (fun a => fieldAddrA Tryz.prog 37 a 0) t7) fun x3 =>
CM.rm (q1 (loadA Tryz.prog 35) x3 ) fun x4 =>
CM.call 41 [x1, x2, x4] fun x5 =>
CM.go 86018 [t0, t9, x5, t12]) (
CM.go 86018 [t0, t9, t11, t12])
theorem g21_1_ok : LeD (real E Mk Nk) g21_1 (fun ts m => goR E Mk 86017 ts m) := apS_le fun _ => apS_le fun _ => apS_le fun _ => apS_le fun _ => apS_le fun _ => ap0_le fun _ => goR_eq 400 (by kernel_rfl)
noncomputable def g21_2 : List AV → CM := apS fun t0 => apS fun t9 => apS fun t11 => apS fun t12 => ap0 <|
CM.pu (p2 (binA Tryz.prog .eql 25) t11 (.int .i64 0)) fun x0 =>
CM.cond x0 (
CM.rm (q1 (loadA Tryz.prog 91) t9 ) fun x1 =>
CM.call 42 [t0, x1] fun _ =>
CM.rm (q1 (loadA Tryz.prog 91) t12 ) fun x3 =>
CM.call 42 [t0, x3] fun _ =>
CM.go 86019 [t11]) (
CM.go 86019 [t11])
theorem g21_2_ok : LeD (real E Mk Nk) g21_2 (fun ts m => goR E Mk 86018 ts m) := apS_le fun _ => apS_le fun _ => apS_le fun _ => apS_le fun _ => ap0_le fun _ => goR_eq 400 (by kernel_rfl)
noncomputable def g21_3 : List AV → CM := apS fun t11 => ap0 <|
CM.ret t11
theorem g21_3_ok : LeD (real E Mk Nk) g21_3 (fun ts m => goR E Mk 86019 ts m) := apS_le fun _ => ap0_le fun _ => goR_eq 400 (by kernel_rfl)
noncomputable def f21 : List AV → CM := apS fun a0 => apS fun a1 => apS fun a2 => apS fun a3 => ap0 <|
CM.al (boxA a3) fun x0 =>
CM.call 39 [a0, a1] fun x1 =>
CM.pu (p1 (fun a => extractA a 0) x1) fun x2 =>
CM.pu (p1 (fun a => extractA a 1) x1) fun x3 =>
CM.pu (p1 (fun a => extractA a 2) x1) fun x4 =>
CM.al (some (.cells [(.int .u64 0), (.str []), (.int .i64 0), (.int .u64 0)] false, pB)) fun x5 =>
CM.al (some (.cells [(.str []), (.int .i64 0), (.int .i64 0), (.int .u64 0)] false, pB)) fun x6 =>
CM.st (fun m => stV m x5 x2 4) <|
CM.st (fun m => stV m x6 x3 4) <|
CM.call 39 [a0, a2] fun x9 =>
CM.pu (p1 (fun a => extractA a 0) x9) fun x10 =>
CM.pu (p1 (fun a => extractA a 1) x9) fun x11 =>
CM.pu (p1 (fun a => extractA a 2) x9) fun x12 =>
CM.al (some (.cells [(.int .u64 0), (.str []), (.int .i64 0), (.int .u64 0)] false, pB)) fun x13 =>
CM.al (some (.cells [(.str []), (.int .i64 0), (.int .i64 0), (.int .u64 0)] false, pB)) fun x14 =>
CM.st (fun m => stV m x13 x10 4) <|
CM.st (fun m => stV m x14 x11 4) <|
CM.pu (p2 (binA Tryz.prog .neq 25) x4 (.int .i64 0)) fun x17 =>
CM.cond x17 (
CM.ret x4) (
CM.pu (p2 (binA Tryz.prog .neq 25) x12 (.int .i64 0)) fun x18 =>
CM.cond x18 (
CM.ret x12) (
CM.pu (p2 (binA Tryz.prog .eql 30) a1 a2) fun x19 =>
CM.cond x19 (
CM.ret (.int .i64 45)) (
CM.pu (p1 (fun a => fieldAddrA Tryz.prog 85 a 0) x6) fun x20 =>
CM.rm (q1 (loadA Tryz.prog 9) x20 ) fun x21 =>
CM.pu (p1 (fun a => fieldAddrA Tryz.prog 85 a 0) x14) fun x22 =>
CM.rm (q1 (loadA Tryz.prog 9) x22 ) fun x23 =>
CM.pu (p2 (binA Tryz.prog .neq 9) x21 x23) fun x24 =>
CM.cond x24 (
CM.ret (.int .i64 41)) (
CM.go 86016 [a0, x0, x5, x6, x13]))))
theorem f21_ok : LeD (real E Mk Nk) f21 (fun xs m => run E (.fn 21) xs m) := apS_le fun _ => apS_le fun _ => apS_le fun _ => apS_le fun _ => ap0_le fun _ => run_eq 400 rfl (by kernel_rfl) (by kernel_rfl)
end Go.Proofs.YtamooapjonlcdaaGreat.T
