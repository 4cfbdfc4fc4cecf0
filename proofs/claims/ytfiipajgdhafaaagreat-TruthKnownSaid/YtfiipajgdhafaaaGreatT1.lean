/- Functions as trees, printed by our own program (wip/tools/gen3.lean). -/
import Derived.Test.YtfiipajgdhafaaaGreatT0
namespace Go.Proofs.YtfiipajgdhafaaaGreat.T
open Go Go.Abs Go.Proofs.YtfiipajgdhafaaaGreat
set_option maxRecDepth 10000
noncomputable def f2 : List AV → CM := ap0 <|
CM.call 1 [] fun _ =>
CM.ret .undef
theorem f2_ok : LeD (real E Mk Nk) f2 (fun xs m => run E (.fn 2) xs m) := ap0_le fun _ => run_eq 400 rfl (by kernel_rfl) (by kernel_rfl)
noncomputable def g3_0 : List AV → CM := apS fun t3 => ap0 <|
CM.pu (p1 (buildA Tryz.prog 40) [(0, (.int .i64 1)), (1, (.int .u64 5))]) fun x0 =>
CM.call 7 [x0] fun x1 =>
CM.call 8 [t3, x1] fun _ =>
CM.pu (p1 (buildA Tryz.prog 44) [(0, (.int .i64 1)), (1, (.int .u64 2)), (2, (.int .u64 2)), (3, x1)]) fun x3 =>
CM.call 9 [t3, x3] fun x4 =>
CM.call 10 [t3, (.int .u64 2)] fun x5 =>
CM.pu (p1 (fun a => extractA a 0) x5) fun x6 =>
CM.pu (p1 (fun a => extractA a 1) x5) fun x7 =>
CM.al (some (.cells [(.int .i64 0), (.int .u64 0), (.int .i64 0), (.int .u64 0), (.int .i64 0)] false, pB)) fun x8 =>
CM.st (fun m => stV m x8 x6 5) <|
CM.rm (q1 (loadA Tryz.prog 46) x8 ) fun x10 =>
CM.pu (p1 (buildA Tryz.prog 50) [(1, (.int .u64 5)), (5, x10), (6, (.int .u64 2))]) fun x11 =>
CM.al (some (.cells [(.int .i64 0), (.int .u64 0), (.int .u64 0), (.int .i64 0), (.int .i64 0), (.int .i64 0), (.int .u64 0), (.int .i64 0), (.int .u64 0), (.int .i64 0), (.int .u64 0)] false, pB)) fun x12 =>
CM.st (fun m => stV m x12 x11 11) <|
CM.rm (q1 (loadA Tryz.prog 50) x12 ) fun x14 =>
CM.call 11 [t3, x14] fun x15 =>
CM.pu (p1 (fun a => fieldAddrA Tryz.prog 50 a 1) x12) fun x16 =>
CM.st (fun m => stV m x16 (.int .u64 6) 1) <|
CM.rm (q1 (loadA Tryz.prog 50) x12 ) fun x18 =>
CM.call 11 [t3, x18] fun x19 =>
CM.pu (p1 (fun a => fieldAddrA Tryz.prog 50 a 3) x12) fun x20 =>
CM.st (fun m => stV m x20 (.int .i64 31) 1) <|
CM.call 12 [t3, (.int .u64 1)] fun x22 =>
CM.pu (p1 (fun a => extractA a 0) x22) fun _ =>
CM.pu (p1 (fun a => extractA a 1) x22) fun x24 =>
CM.call 12 [t3, (.int .u64 3)] fun x25 =>
CM.pu (p1 (fun a => extractA a 0) x25) fun _ =>
CM.pu (p1 (fun a => extractA a 1) x25) fun x27 =>
CM.ifv x4 (
CM.ifv x7 (
CM.pu (p1 (fun a => fieldAddrA Tryz.prog 46 a 1) x8) fun x28 =>
CM.rm (q1 (loadA Tryz.prog 26) x28 ) fun x29 =>
CM.pu (p2 (binA Tryz.prog .eql 26) x29 (.int .u64 5)) fun x30 =>
CM.ifv x30 (
CM.ifv x15 (
CM.pu (p1 (unA .not) x19) fun x31 =>
CM.ifv x31 (
CM.rm (q1 (loadA Tryz.prog 50) x12 ) fun x32 =>
CM.call 11 [t3, x32] fun x33 =>
CM.ifv x33 (
CM.ifv x24 (
CM.pu (p1 (unA .not) x27) fun x34 =>
CM.ret x34) (
CM.ret (.bool false))) (
CM.ret (.bool false))) (
CM.ret (.bool false))) (
CM.ret (.bool false))) (
CM.ret (.bool false))) (
CM.ret (.bool false))) (
CM.ret (.bool false))
theorem g3_0_ok : LeD (real E Mk Nk) g3_0 (fun ts m => goR E Mk 12288 ts m) := apS_le fun _ => ap0_le fun _ => goR_eq 400 (by kernel_rfl)
noncomputable def f3 : List AV → CM := ap0 <|
CM.pu (p1 (buildA Tryz.prog 28) []) fun x0 =>
CM.call 4 [x0] fun x1 =>
CM.pu (p1 (fun a => extractA a 0) x1) fun _ =>
CM.pu (p1 (fun a => extractA a 1) x1) fun x3 =>
CM.pu (p1 (buildA Tryz.prog 31) []) fun x4 =>
CM.call 5 [x4] fun x5 =>
CM.call 4 [x5] fun x6 =>
CM.pu (p1 (fun a => extractA a 0) x6) fun x7 =>
CM.pu (p1 (fun a => extractA a 1) x6) fun x8 =>
CM.call 6 [] fun x9 =>
CM.pu (p1 (unA .not) x9) fun x10 =>
CM.ifv x10 (
CM.ret (.bool false)) (
CM.pu (p2 (binA Tryz.prog .neq 23) x3 (.int .i64 1)) fun x11 =>
CM.ifv x11 (
CM.ret (.bool false)) (
CM.pu (p2 (binA Tryz.prog .neq 23) x8 (.int .i64 0)) fun x12 =>
CM.ifv x12 (
CM.ret (.bool false)) (
CM.pu (p2 (binA Tryz.prog .eql 22) x7 (.ptr none)) fun x13 =>
CM.cond x13 (
CM.ret (.bool false)) (
CM.go 12288 [x7]))))
theorem f3_ok : LeD (real E Mk Nk) f3 (fun xs m => run E (.fn 3) xs m) := ap0_le fun _ => run_eq 400 rfl (by kernel_rfl) (by kernel_rfl)
noncomputable def g4_0 : List AV → CM := apS fun t4 => ap0 <|
CM.call 14 [t4] fun x0 =>
CM.pu (p1 (buildA Tryz.prog 59) [(1, x0)]) fun x1 =>
CM.al (some (.cells [(.int .i64 0), (.int .u64 0), (.int .u64 0), (.sl none 0 0 0 true), (.int .i64 0), (.sl none 0 0 0 true), (.int .i64 0), (.int .u64 0), (.int .i64 0), (.int .u64 0), (.int .i64 0), (.bool false)] false, pB)) fun x2 =>
CM.st (fun m => stV m x2 x1 12) <|
CM.pu (p1 (fun a => fieldAddrA Tryz.prog 59 a 1) x2) fun x4 =>
CM.rm (q1 (loadA Tryz.prog 33) x4 ) fun x5 =>
CM.call 15 [t4, (.int .u64 1), x5] fun x6 =>
CM.pu (p2 (binA Tryz.prog .neq 23) x6 (.int .i64 0)) fun x7 =>
CM.cond x7 (
CM.ret (.tup [(.ptr none), (.int .i64 1)])) (
CM.go 16385 [t4, x2])
theorem g4_0_ok : LeD (real E Mk Nk) g4_0 (fun ts m => goR E Mk 16384 ts m) := apS_le fun _ => ap0_le fun _ => goR_eq 400 (by kernel_rfl)
noncomputable def g4_1 : List AV → CM := apS fun t4 => apS fun t6 => ap0 <|
CM.rm (q1 (loadA Tryz.prog 59) t6 ) fun x0 =>
CM.al (bsA 12 1 [(.int .i64 0), (.int .u64 0), (.int .u64 0), (.sl none 0 0 0 true), (.int .i64 0), (.sl none 0 0 0 true), (.int .i64 0), (.int .u64 0), (.int .i64 0), (.int .u64 0), (.int .i64 0), (.bool false)] [(0, x0)]) fun x1 =>
CM.al (some (.map [], mB)) fun x2 =>
CM.al (some (.map [], mB)) fun x3 =>
CM.pu (p1 (buildA Tryz.prog 64) [(0, t4), (1, x1), (2, x2), (3, x3)]) fun x4 =>
CM.al (boxA x4) fun x5 =>
CM.ret (.tup [x5, (.int .i64 0)])
theorem g4_1_ok : LeD (real E Mk Nk) g4_1 (fun ts m => goR E Mk 16385 ts m) := apS_le fun _ => apS_le fun _ => ap0_le fun _ => goR_eq 400 (by kernel_rfl)
noncomputable def f4 : List AV → CM := apS fun a0 => ap0 <|
CM.al (boxA a0) fun x0 =>
CM.rm (q1 (loadA Tryz.prog 28) x0 ) fun x1 =>
CM.call 13 [x1] fun x2 =>
CM.pu (p1 (fun a => extractA a 0) x2) fun x3 =>
CM.pu (p1 (fun a => extractA a 1) x2) fun x4 =>
CM.pu (p2 (binA Tryz.prog .neq 23) x4 (.int .i64 0)) fun x5 =>
CM.cond x5 (
CM.ret (.tup [(.ptr none), (.int .i64 1)])) (
CM.go 16384 [x3])
theorem f4_ok : LeD (real E Mk Nk) f4 (fun xs m => run E (.fn 4) xs m) := apS_le fun _ => ap0_le fun _ => run_eq 400 rfl (by kernel_rfl) (by kernel_rfl)
noncomputable def g5_0 : List AV → CM := apS fun t1 => apS fun t2 => apS fun t3 => ap0 <|
CM.pu (p1 (fun a => fieldAddrA Tryz.prog 31 a 8) t1) fun x0 =>
CM.rm (q1 (loadA Tryz.prog 3) x0 ) fun x1 =>
CM.call 16 [x1, (.int .i64 80)] fun x2 =>
CM.pu (p2 (binA Tryz.prog .add 3) (.int .i64 8) x2) fun x3 =>
CM.pu (p1 (fun a => fieldAddrA Tryz.prog 28 a 8) t3) fun x4 =>
CM.st (fun m => stV m x4 x3 1) <|
CM.pu (p1 (fun a => fieldAddrA Tryz.prog 31 a 9) t1) fun x6 =>
CM.rm (q1 (loadA Tryz.prog 3) x6 ) fun x7 =>
CM.call 16 [x7, (.int .i64 8)] fun x8 =>
CM.pu (p2 (binA Tryz.prog .add 3) (.int .i64 1) x8) fun x9 =>
CM.pu (p1 (fun a => fieldAddrA Tryz.prog 28 a 9) t3) fun x10 =>
CM.st (fun m => stV m x10 x9 1) <|
CM.pu (p1 (fun a => fieldAddrA Tryz.prog 31 a 10) t1) fun x12 =>
CM.rm (q1 (loadA Tryz.prog 3) x12 ) fun x13 =>
CM.call 16 [x13, (.int .i64 8)] fun x14 =>
CM.pu (p2 (binA Tryz.prog .add 3) (.int .i64 1) x14) fun x15 =>
CM.pu (p1 (fun a => fieldAddrA Tryz.prog 28 a 10) t3) fun x16 =>
CM.st (fun m => stV m x16 x15 1) <|
CM.pu (p1 (fun a => fieldAddrA Tryz.prog 31 a 11) t1) fun x18 =>
CM.rm (q1 (loadA Tryz.prog 3) x18 ) fun x19 =>
CM.call 16 [x19, (.int .i64 4)] fun x20 =>
CM.pu (p2 (binA Tryz.prog .add 3) (.int .i64 1) x20) fun x21 =>
CM.pu (p1 (fun a => fieldAddrA Tryz.prog 28 a 11) t3) fun x22 =>
CM.st (fun m => stV m x22 x21 1) <|
CM.pu (p1 (fun a => fieldAddrA Tryz.prog 31 a 12) t1) fun x24 =>
CM.rm (q1 (loadA Tryz.prog 3) x24 ) fun x25 =>
CM.call 16 [x25, (.int .i64 60)] fun x26 =>
CM.pu (p2 (binA Tryz.prog .add 3) (.int .i64 1) x26) fun x27 =>
CM.pu (p1 (convA Tryz.prog 3 26) x27) fun x28 =>
CM.pu (p1 (fun a => fieldAddrA Tryz.prog 28 a 12) t3) fun x29 =>
CM.st (fun m => stV m x29 x28 1) <|
CM.rm (q1 (loadA Tryz.prog 28) t3 ) fun x31 =>
CM.st (fun m => stV m t2 x31 13) <|
CM.resC Tryz.prog [ResultVar.cell 0 28] [t2]
theorem g5_0_ok : LeD (real E Mk Nk) g5_0 (fun ts m => goR E Mk 20480 ts m) := apS_le fun _ => apS_le fun _ => apS_le fun _ => ap0_le fun _ => goR_eq 400 (by kernel_rfl)
noncomputable def f5 : List AV → CM := apS fun a0 => ap0 <|
CM.al (boxA a0) fun x0 =>
CM.al (some (.cells [(.int .i64 0), (.int .i64 0), (.int .i64 0), (.int .i64 0), (.int .i64 0), (.int .i64 0), (.int .i64 0), (.int .i64 0), (.int .i64 0), (.int .i64 0), (.int .i64 0), (.int .i64 0), (.int .u64 0)] false, pB)) fun x1 =>
CM.pu (p1 (fun a => fieldAddrA Tryz.prog 31 a 0) x0) fun x2 =>
CM.rm (q1 (loadA Tryz.prog 3) x2 ) fun x3 =>
CM.memo fun m4 =>
CM.call 16 [x3, (.int .i64 5)] fun x5 =>
CM.pu (p2 (binA Tryz.prog .add 3) (.int .i64 1) x5) fun x7 =>
CM.pu (p1 (fun a => fieldAddrA Tryz.prog 31 a 2) x0) fun x8 =>
CM.rm (q1 (loadA Tryz.prog 3) x8 ) fun x9 =>
CM.chk (q1 (loadA Tryz.prog 3) x8 m4) x9 <|
CM.call 16 [x9, (.int .i64 8)] fun x11 =>
CM.pu (p2 (binA Tryz.prog .add 3) (.int .i64 4) x11) fun x13 =>
CM.pu (p1 (buildA Tryz.prog 28) [(0, x7), (2, x13)]) fun x14 =>
CM.al (some (.cells [(.int .i64 0), (.int .i64 0), (.int .i64 0), (.int .i64 0), (.int .i64 0), (.int .i64 0), (.int .i64 0), (.int .i64 0), (.int .i64 0), (.int .i64 0), (.int .i64 0), (.int .i64 0), (.int .u64 0)] false, pB)) fun x15 =>
CM.st (fun m => stV m x15 x14 13) <|
CM.pu (p1 (fun a => fieldAddrA Tryz.prog 31 a 1) x0) fun x19 =>
CM.rm (q1 (loadA Tryz.prog 3) x19 ) fun x20 =>
CM.pu (p1 (fun a => fieldAddrA Tryz.prog 28 a 0) x15) fun x21 =>
CM.rm (q1 (loadA Tryz.prog 3) x21 ) fun x22 =>
CM.pu (p1 (convA Tryz.prog 3 66) x22) fun x23 =>
CM.pu (p2 (binA Tryz.prog .shl 3) (.int .i64 1) x23) fun x24 =>
CM.pu (p2 (binA Tryz.prog .sub 3) x24 (.int .i64 1)) fun x25 =>
CM.call 16 [x20, x25] fun x26 =>
CM.pu (p2 (binA Tryz.prog .add 3) (.int .i64 1) x26) fun x27 =>
CM.pu (p2 (binA Tryz.prog .mul 3) (.int .i64 2) x27) fun x28 =>
CM.pu (p1 (fun a => fieldAddrA Tryz.prog 28 a 1) x15) fun x29 =>
CM.st (fun m => stV m x29 x28 1) <|
CM.pu (p1 (fun a => fieldAddrA Tryz.prog 28 a 2) x15) fun x31 =>
CM.rm (q1 (loadA Tryz.prog 3) x31 ) fun x32 =>
CM.pu (p1 (fun a => fieldAddrA Tryz.prog 31 a 3) x0) fun x33 =>
CM.rm (q1 (loadA Tryz.prog 3) x33 ) fun x34 =>
CM.call 16 [x34, (.int .i64 30)] fun x36 =>
CM.memo fun m37 =>
CM.chk (q1 (loadA Tryz.prog 3) x31 m37) x32 <|
CM.pu (p2 (binA Tryz.prog .add 3) x32 x36) fun x38 =>
CM.pu (p1 (fun a => fieldAddrA Tryz.prog 28 a 3) x15) fun x39 =>
CM.st (fun m => stV m x39 x38 1) <|
CM.pu (p1 (fun a => fieldAddrA Tryz.prog 31 a 4) x0) fun x43 =>
CM.rm (q1 (loadA Tryz.prog 3) x43 ) fun x44 =>
CM.call 16 [x44, (.int .i64 2)] fun x45 =>
CM.pu (p2 (binA Tryz.prog .add 3) (.int .i64 1) x45) fun x46 =>
CM.pu (p1 (fun a => fieldAddrA Tryz.prog 28 a 4) x15) fun x47 =>
CM.st (fun m => stV m x47 x46 1) <|
CM.pu (p1 (fun a => fieldAddrA Tryz.prog 31 a 5) x0) fun x49 =>
CM.rm (q1 (loadA Tryz.prog 3) x49 ) fun x50 =>
CM.call 16 [x50, (.int .i64 60)] fun x51 =>
CM.pu (p2 (binA Tryz.prog .add 3) (.int .i64 6) x51) fun x52 =>
CM.pu (p1 (fun a => fieldAddrA Tryz.prog 28 a 5) x15) fun x53 =>
CM.st (fun m => stV m x53 x52 1) <|
CM.pu (p1 (fun a => fieldAddrA Tryz.prog 31 a 6) x0) fun x55 =>
CM.rm (q1 (loadA Tryz.prog 3) x55 ) fun x56 =>
CM.call 16 [x56, (.int .i64 600)] fun x57 =>
CM.pu (p2 (binA Tryz.prog .add 3) (.int .i64 64) x57) fun x58 =>
CM.pu (p1 (fun a => fieldAddrA Tryz.prog 28 a 6) x15) fun x59 =>
CM.st (fun m => stV m x59 x58 1) <|
CM.pu (p1 (fun a => fieldAddrA Tryz.prog 28 a 7) x15) fun x61 =>
CM.st (fun m => stV m x61 (.int .i64 1048576) 1) <|
CM.pu (p1 (fun a => fieldAddrA Tryz.prog 31 a 7) x0) fun x63 =>
CM.rm (q1 (loadA Tryz.prog 3) x63 ) fun x64 =>
CM.pu (p2 (binA Tryz.prog .rem 3) x64 (.int .i64 4)) fun x65 =>
CM.pu (p2 (binA Tryz.prog .eql 3) x65 (.int .i64 3)) fun x66 =>
CM.cond x66 (
CM.pu (p1 (fun a => fieldAddrA Tryz.prog 31 a 7) x0) fun x67 =>
CM.rm (q1 (loadA Tryz.prog 3) x67 ) fun x68 =>
CM.call 16 [x68, (.int .i64 3000)] fun x69 =>
CM.pu (p1 (fun a => fieldAddrA Tryz.prog 28 a 7) x15) fun x70 =>
CM.st (fun m => stV m x70 x69 1) <|
CM.go 20480 [x0, x1, x15]) (
CM.go 20480 [x0, x1, x15])
theorem f5_ok : LeD (real E Mk Nk) f5 (fun xs m => run E (.fn 5) xs m) := apS_le fun _ => ap0_le fun _ => run_eq 400 rfl (by kernel_rfl) (by kernel_rfl)
noncomputable def g6_0 : List AV → CM := apS fun t1 => ap0 <|
CM.pu (p1 (buildA Tryz.prog 44) [(1, (.int .u64 2)), (2, (.int .u64 2))]) fun x0 =>
CM.al (some (.cells [(.int .i64 0), (.int .u64 0), (.int .u64 0), (.sl none 0 0 0 true), (.int .i64 0)] false, pB)) fun x1 =>
CM.st (fun m => stV m x1 x0 5) <|
CM.rm (q1 (loadA Tryz.prog 44) x1 ) fun x3 =>
CM.call 9 [t1, x3] fun x4 =>
CM.rm (q1 (loadA Tryz.prog 44) x1 ) fun x5 =>
CM.call 9 [t1, x5] fun x6 =>
CM.pu (p1 (buildA Tryz.prog 44) [(1, (.int .u64 3)), (2, (.int .u64 2))]) fun x7 =>
CM.call 9 [t1, x7] fun x8 =>
CM.pu (p1 (buildA Tryz.prog 44) [(1, (.int .u64 3)), (2, (.int .u64 9))]) fun x9 =>
CM.call 9 [t1, x9] fun x10 =>
CM.call 18 [t1, (.int .u64 2)] fun x11 =>
CM.pu (p1 (fun a => extractA a 0) x11) fun x12 =>
CM.pu (p1 (fun a => extractA a 1) x11) fun x13 =>
CM.al (some (.cells [(.int .i64 0), (.int .u64 0), (.int .u64 0), (.sl none 0 0 0 true), (.int .i64 0)] false, pB)) fun x14 =>
CM.st (fun m => stV m x14 x12 5) <|
CM.ifv x4 (
CM.ifv x6 (
CM.pu (p1 (unA .not) x8) fun x16 =>
CM.ifv x16 (
CM.pu (p1 (unA .not) x10) fun x17 =>
CM.ifv x17 (
CM.ifv x13 (
CM.rm (q1 (loadA Tryz.prog 44) x1 ) fun x18 =>
CM.rm (q1 (loadA Tryz.prog 44) x14 ) fun x19 =>
CM.call 19 [x18, x19] fun x20 =>
CM.ifv x20 (
CM.call 17 [t1] fun x21 =>
CM.pu (p2 (binA Tryz.prog .eql 26) x21 (.int .u64 2)) fun x22 =>
CM.ret x22) (
CM.ret (.bool false))) (
CM.ret (.bool false))) (
CM.ret (.bool false))) (
CM.ret (.bool false))) (
CM.ret (.bool false))) (
CM.ret (.bool false))
theorem g6_0_ok : LeD (real E Mk Nk) g6_0 (fun ts m => goR E Mk 24576 ts m) := apS_le fun _ => ap0_le fun _ => goR_eq 400 (by kernel_rfl)
noncomputable def f6 : List AV → CM := ap0 <|
CM.pu (p1 (buildA Tryz.prog 31) []) fun x0 =>
CM.call 5 [x0] fun x1 =>
CM.call 4 [x1] fun x2 =>
CM.pu (p1 (fun a => extractA a 0) x2) fun x3 =>
CM.pu (p1 (fun a => extractA a 1) x2) fun x4 =>
CM.pu (p2 (binA Tryz.prog .neq 23) x4 (.int .i64 0)) fun x5 =>
CM.ifv x5 (
CM.ret (.bool false)) (
CM.pu (p2 (binA Tryz.prog .eql 22) x3 (.ptr none)) fun x6 =>
CM.ifv x6 (
CM.ret (.bool false)) (
CM.call 17 [x3] fun x7 =>
CM.pu (p2 (binA Tryz.prog .neq 26) x7 (.int .u64 1)) fun x8 =>
CM.cond x8 (
CM.ret (.bool false)) (
CM.go 24576 [x3])))
theorem f6_ok : LeD (real E Mk Nk) f6 (fun xs m => run E (.fn 6) xs m) := ap0_le fun _ => run_eq 400 rfl (by kernel_rfl) (by kernel_rfl)
noncomputable def f7 : List AV → CM := apS fun a0 => ap0 <|
CM.al (boxA a0) fun x0 =>
CM.rm (q1 (loadA Tryz.prog 40) x0 ) fun x1 =>
CM.call 20 [x1] fun x2 =>
CM.pu (p1 (fun a => extractA a 0) x2) fun x3 =>
CM.pu (p1 (fun a => extractA a 1) x2) fun _ =>
CM.ret x3
theorem f7_ok : LeD (real E Mk Nk) f7 (fun xs m => run E (.fn 7) xs m) := apS_le fun _ => ap0_le fun _ => run_eq 400 rfl (by kernel_rfl) (by kernel_rfl)
noncomputable def f8 : List AV → CM := apS fun a0 => apS fun a1 => ap0 <|
CM.call 21 [a1] fun x0 =>
CM.pu (p1 (fun a => extractA a 0) x0) fun x1 =>
CM.pu (p1 (fun a => extractA a 1) x0) fun x2 =>
CM.al (some (.cells [(.int .i64 0), (.int .u64 0), (.int .u64 0), (.int .u64 0), (.int .u64 0), (.int .i64 0), (.int .u64 0), (.int .i64 0), (.str []), (.str [])] false, pB)) fun x3 =>
CM.st (fun m => stV m x3 x1 10) <|
CM.pu (p1 nnA a0) fun x5 =>
CM.pu (p1 (fun a => fieldAddrA Tryz.prog 64 a 2) x5) fun x6 =>
CM.rm (q1 (loadA Tryz.prog 62) x6 ) fun x7 =>
CM.rm (q1 (toStrA Tryz.prog 33) a1 ) fun x8 =>
CM.rm (q2 (fun a k => lookupA Tryz.prog 62 a k true) x7 x8 ) fun x9 =>
CM.pu (p1 (fun a => extractA a 0) x9) fun _ =>
CM.pu (p1 (fun a => extractA a 1) x9) fun x11 =>
CM.pu (p2 (binA Tryz.prog .eql 23) x2 (.int .i64 0)) fun x12 =>
CM.ifv x12 (
CM.pu (p1 (unA .not) x11) fun x13 =>
CM.cond x13 (
CM.pu (p1 nnA a0) fun x14 =>
CM.pu (p1 (fun a => fieldAddrA Tryz.prog 64 a 2) x14) fun x15 =>
CM.rm (q1 (loadA Tryz.prog 62) x15 ) fun x16 =>
CM.rm (q1 (toStrA Tryz.prog 33) a1 ) fun x17 =>
CM.pu (p1 nnA a0) fun x18 =>
CM.pu (p1 (fun a => fieldAddrA Tryz.prog 64 a 4) x18) fun x19 =>
CM.rm (q1 (loadA Tryz.prog 26) x19 ) fun x20 =>
CM.st (mapPut Tryz.prog 62 x16 x17 x20) <|
CM.ret .undef) (
CM.ret .undef)) (
CM.ret .undef)
theorem f8_ok : LeD (real E Mk Nk) f8 (fun xs m => run E (.fn 8) xs m) := apS_le fun _ => apS_le fun _ => ap0_le fun _ => run_eq 400 rfl (by kernel_rfl) (by kernel_rfl)
noncomputable def g9_0 : List AV → CM := apS fun t0 => apS fun t3 => ap0 <|
CM.pu (p1 (fun a => fieldAddrA Tryz.prog 44 a 2) t3) fun x0 =>
CM.rm (q1 (loadA Tryz.prog 26) x0 ) fun x1 =>
CM.call 17 [t0] fun x3 =>
CM.memo fun m4 =>
CM.chk (q1 (loadA Tryz.prog 26) x0 m4) x1 <|
CM.pu (p2 (binA Tryz.prog .leq 26) x1 x3) fun x5 =>
CM.cond x5 (
CM.pu (p1 nnA t0) fun x6 =>
CM.pu (p1 (fun a => fieldAddrA Tryz.prog 64 a 1) x6) fun x7 =>
CM.rm (q1 (loadA Tryz.prog 61) x7 ) fun x8 =>
CM.pu (p1 (fun a => fieldAddrA Tryz.prog 44 a 2) t3) fun x9 =>
CM.rm (q1 (loadA Tryz.prog 26) x9 ) fun x10 =>
CM.pu (p2 (binA Tryz.prog .sub 26) x10 (.int .u64 1)) fun x11 =>
CM.pu (p2 (indexAddrA Tryz.prog 61) x8 x11) fun x12 =>
CM.pu (p1 (fun a => fieldAddrA Tryz.prog 59 a 0) x12) fun x13 =>
CM.rm (q1 (loadA Tryz.prog 44) x13 ) fun x14 =>
CM.rm (q1 (loadA Tryz.prog 44) t3 ) fun x15 =>
CM.call 22 [x14, x15] fun x17 =>
CM.ret x17) (
CM.go 36865 [t0, t3])
theorem g9_0_ok : LeD (real E Mk Nk) g9_0 (fun ts m => goR E Mk 36864 ts m) := apS_le fun _ => apS_le fun _ => ap0_le fun _ => goR_eq 400 (by kernel_rfl)
noncomputable def g9_1 : List AV → CM := apS fun t0 => apS fun t3 => ap0 <|
CM.rm (q1 (loadA Tryz.prog 44) t3 ) fun x0 =>
CM.call 23 [x0] fun x2 =>
CM.pu (p1 (unA .not) x2) fun x4 =>
CM.ifv x4 (
CM.ret (.bool false)) (
CM.pu (p1 (fun a => fieldAddrA Tryz.prog 44 a 1) t3) fun x5 =>
CM.rm (q1 (loadA Tryz.prog 26) x5 ) fun x6 =>
CM.pu (p1 nnA t0) fun x7 =>
CM.pu (p1 (fun a => fieldAddrA Tryz.prog 64 a 1) x7) fun x8 =>
CM.rm (q1 (loadA Tryz.prog 61) x8 ) fun x9 =>
CM.pu (p1 nnA t0) fun x10 =>
CM.pu (p1 (fun a => fieldAddrA Tryz.prog 64 a 1) x10) fun x11 =>
CM.rm (q1 (loadA Tryz.prog 61) x11 ) fun x12 =>
CM.pu (p1 (lenT Tryz.prog 61) x12) fun x13 =>
CM.pu (p2 (binA Tryz.prog .sub 3) x13 (.int .i64 1)) fun x14 =>
CM.pu (p2 (indexAddrA Tryz.prog 61) x9 x14) fun x15 =>
CM.pu (p1 (fun a => fieldAddrA Tryz.prog 59 a 0) x15) fun x16 =>
CM.pu (p1 (fun a => fieldAddrA Tryz.prog 44 a 1) x16) fun x17 =>
CM.rm (q1 (loadA Tryz.prog 26) x17 ) fun x18 =>
CM.pu (p2 (binA Tryz.prog .lss 26) x6 x18) fun x19 =>
CM.cond x19 (
CM.ret (.bool false)) (
CM.go 36866 [t0, t3]))
theorem g9_1_ok : LeD (real E Mk Nk) g9_1 (fun ts m => goR E Mk 36865 ts m) := apS_le fun _ => apS_le fun _ => ap0_le fun _ => goR_eq 400 (by kernel_rfl)
noncomputable def g9_2 : List AV → CM := apS fun t0 => apS fun t3 => ap0 <|
CM.al (some (.cells [] false, sB 1 0)) fun x0 =>
CM.pu (p1 (fun a => fieldAddrA Tryz.prog 44 a 3) t3) fun x1 =>
CM.rm (q1 (loadA Tryz.prog 33) x1 ) fun x2 =>
CM.ef (apE 1 1 x0 x2) fun x3 =>
CM.pu (p1 (fun a => fieldAddrA Tryz.prog 44 a 3) t3) fun x4 =>
CM.st (fun m => stV m x4 x3 1) <|
CM.rm (q1 (loadA Tryz.prog 44) t3 ) fun x6 =>
CM.pu (p1 (buildA Tryz.prog 59) [(0, x6)]) fun x7 =>
CM.al (some (.cells [(.int .i64 0), (.int .u64 0), (.int .u64 0), (.sl none 0 0 0 true), (.int .i64 0), (.sl none 0 0 0 true), (.int .i64 0), (.int .u64 0), (.int .i64 0), (.int .u64 0), (.int .i64 0), (.bool false)] false, pB)) fun x8 =>
CM.st (fun m => stV m x8 x7 12) <|
CM.pu (p1 nnA t0) fun x10 =>
CM.pu (p1 (fun a => fieldAddrA Tryz.prog 64 a 0) x10) fun x11 =>
CM.rm (q1 (loadA Tryz.prog 54) x11 ) fun x12 =>
CM.rm (q1 (loadA Tryz.prog 44) t3 ) fun x13 =>
CM.call 24 [x12, x13] fun x15 =>
CM.pu (p1 (fun a => extractA a 0) x15) fun x17 =>
CM.pu (p1 (fun a => extractA a 1) x15) fun x18 =>
CM.pu (p1 (fun a => fieldAddrA Tryz.prog 59 a 2) x8) fun x19 =>
CM.st (fun m => stV m x19 x17 5) <|
CM.pu (p1 (fun a => fieldAddrA Tryz.prog 59 a 3) x8) fun x23 =>
CM.st (fun m => stV m x23 x18 1) <|
CM.pu (p1 nnA t0) fun x27 =>
CM.pu (p1 (fun a => fieldAddrA Tryz.prog 64 a 0) x27) fun x28 =>
CM.rm (q1 (loadA Tryz.prog 54) x28 ) fun x29 =>
CM.call 14 [x29] fun x30 =>
CM.pu (p1 (fun a => fieldAddrA Tryz.prog 59 a 1) x8) fun x31 =>
CM.st (fun m => stV m x31 x30 1) <|
CM.pu (p1 nnA t0) fun x33 =>
CM.pu (p1 (fun a => fieldAddrA Tryz.prog 64 a 1) x33) fun x34 =>
CM.rm (q1 (loadA Tryz.prog 61) x34 ) fun x35 =>
CM.rm (q1 (loadA Tryz.prog 59) x8 ) fun x36 =>
CM.al (bsA 12 1 [(.int .i64 0), (.int .u64 0), (.int .u64 0), (.sl none 0 0 0 true), (.int .i64 0), (.sl none 0 0 0 true), (.int .i64 0), (.int .u64 0), (.int .i64 0), (.int .u64 0), (.int .i64 0), (.bool false)] [(0, x36)]) fun x37 =>
CM.ef (apE 12 128 x35 x37) fun x39 =>
CM.pu (p1 nnA t0) fun x41 =>
CM.pu (p1 (fun a => fieldAddrA Tryz.prog 64 a 1) x41) fun x42 =>
CM.st (fun m => stV m x42 x39 1) <|
CM.pu (p1 nnA t0) fun x46 =>
CM.pu (p1 (fun a => fieldAddrA Tryz.prog 64 a 3) x46) fun x47 =>
CM.rm (q1 (loadA Tryz.prog 62) x47 ) fun x48 =>
CM.pu (p1 (fun a => fieldAddrA Tryz.prog 44 a 3) t3) fun x49 =>
CM.rm (q1 (loadA Tryz.prog 33) x49 ) fun x50 =>
CM.rm (q1 (toStrA Tryz.prog 33) x50 ) fun x51 =>
CM.rm (q2 (fun a k => lookupA Tryz.prog 62 a k true) x48 x51 ) fun x52 =>
CM.pu (p1 (fun a => extractA a 0) x52) fun _ =>
CM.pu (p1 (fun a => extractA a 1) x52) fun x54 =>
CM.pu (p1 (unA .not) x54) fun x55 =>
CM.ifv x55 (
CM.pu (p1 (fun a => fieldAddrA Tryz.prog 44 a 0) t3) fun x56 =>
CM.rm (q1 (loadA Tryz.prog 3) x56 ) fun x57 =>
CM.pu (p2 (binA Tryz.prog .eql 3) x57 (.int .i64 1)) fun x58 =>
CM.cond x58 (
CM.pu (p1 nnA t0) fun x59 =>
CM.pu (p1 (fun a => fieldAddrA Tryz.prog 64 a 3) x59) fun x60 =>
CM.rm (q1 (loadA Tryz.prog 62) x60 ) fun x61 =>
CM.pu (p1 (fun a => fieldAddrA Tryz.prog 44 a 3) t3) fun x62 =>
CM.rm (q1 (loadA Tryz.prog 33) x62 ) fun x63 =>
CM.rm (q1 (toStrA Tryz.prog 33) x63 ) fun x64 =>
CM.pu (p1 (fun a => fieldAddrA Tryz.prog 44 a 2) t3) fun x65 =>
CM.rm (q1 (loadA Tryz.prog 26) x65 ) fun x66 =>
CM.st (mapPut Tryz.prog 62 x61 x64 x66) <|
CM.go 36867 []) (
CM.go 36867 [])) (
CM.go 36867 [])
theorem g9_2_ok : LeD (real E Mk Nk) g9_2 (fun ts m => goR E Mk 36866 ts m) := apS_le fun _ => apS_le fun _ => ap0_le fun _ => goR_eq 400 (by kernel_rfl)
noncomputable def g9_3 : List AV → CM := ap0 <|
CM.ret (.bool true)
theorem g9_3_ok : LeD (real E Mk Nk) g9_3 (fun ts m => goR E Mk 36867 ts m) := ap0_le fun _ => goR_eq 400 (by kernel_rfl)
noncomputable def f9 : List AV → CM := apS fun a0 => apS fun a1 => ap0 <|
CM.al (boxA a1) fun x0 =>
CM.pu (p1 (fun a => fieldAddrA Tryz.prog 44 a 2) x0) fun x1 =>
CM.rm (q1 (loadA Tryz.prog 26) x1 ) fun x2 =>
CM.pu (p2 (binA Tryz.prog .lss 26) x2 (.int .u64 2)) fun x3 =>
CM.ifv x3 (
CM.ret (.bool false)) (
CM.pu (p1 (fun a => fieldAddrA Tryz.prog 44 a 2) x0) fun x4 =>
CM.rm (q1 (loadA Tryz.prog 26) x4 ) fun x5 =>
CM.call 17 [a0] fun x7 =>
CM.memo fun m8 =>
CM.chk (q1 (loadA Tryz.prog 26) x4 m8) x5 <|
CM.pu (p2 (binA Tryz.prog .add 26) x7 (.int .u64 1)) fun x9 =>
CM.pu (p2 (binA Tryz.prog .gtr 26) x5 x9) fun x10 =>
CM.cond x10 (
CM.ret (.bool false)) (
CM.go 36864 [a0, x0]))
theorem f9_ok : LeD (real E Mk Nk) f9 (fun xs m => run E (.fn 9) xs m) := apS_le fun _ => apS_le fun _ => ap0_le fun _ => run_eq 400 rfl (by kernel_rfl) (by kernel_rfl)
noncomputable def f10 : List AV → CM := apS fun a0 => apS fun a1 => ap0 <|
CM.al (some (.cells [(.int .i64 0), (.int .u64 0), (.int .i64 0), (.int .u64 0), (.int .i64 0)] false, pB)) fun x0 =>
CM.call 25 [a0, a1] fun x1 =>
CM.pu (p1 (fun a => extractA a 0) x1) fun x2 =>
CM.pu (p1 (fun a => extractA a 1) x1) fun x3 =>
CM.al (some (.cells [(.int .i64 0), (.int .u64 0), (.int .u64 0), (.sl none 0 0 0 true), (.int .i64 0), (.sl none 0 0 0 true), (.int .i64 0), (.int .u64 0), (.int .i64 0), (.int .u64 0), (.int .i64 0), (.bool false)] false, pB)) fun x4 =>
CM.st (fun m => stV m x4 x2 12) <|
CM.pu (p1 (fun a => fieldAddrA Tryz.prog 59 a 2) x4) fun x6 =>
CM.rm (q1 (loadA Tryz.prog 46) x6 ) fun x7 =>
CM.ifv x3 (
CM.pu (p1 (fun a => fieldAddrA Tryz.prog 59 a 3) x4) fun x8 =>
CM.rm (q1 (loadA Tryz.prog 4) x8 ) fun x9 =>
CM.st (fun m => stV m x0 x7 5) <|
CM.memo fun m12 =>
CM.chk (q1 (loadA Tryz.prog 4) x8 m12) x9 <|
CM.resC Tryz.prog [ResultVar.cell 0 46, ResultVar.tmp 1] [x0, x9]) (
CM.st (fun m => stV m x0 x7 5) <|
CM.resC Tryz.prog [ResultVar.cell 0 46, ResultVar.tmp 1] [x0, (.bool false)])
theorem f10_ok : LeD (real E Mk Nk) f10 (fun xs m => run E (.fn 10) xs m) := apS_le fun _ => apS_le fun _ => ap0_le fun _ => run_eq 400 rfl (by kernel_rfl) (by kernel_rfl)
noncomputable def g11_0 : List AV → CM := apS fun t0 => apS fun t3 => ap0 <|
CM.pu (p1 nnA t0) fun x0 =>
CM.pu (p1 (fun a => fieldAddrA Tryz.prog 64 a 4) x0) fun x1 =>
CM.rm (q1 (loadA Tryz.prog 26) x1 ) fun x2 =>
CM.pu (p1 (fun a => fieldAddrA Tryz.prog 50 a 6) t3) fun x3 =>
CM.rm (q1 (loadA Tryz.prog 26) x3 ) fun x4 =>
CM.pu (p2 maxA x2 x4) fun x5 =>
CM.pu (p1 nnA t0) fun x6 =>
CM.pu (p1 (fun a => fieldAddrA Tryz.prog 64 a 4) x6) fun x7 =>
CM.st (fun m => stV m x7 x5 1) <|
CM.pu (p1 (fun a => fieldAddrA Tryz.prog 50 a 6) t3) fun x11 =>
CM.rm (q1 (loadA Tryz.prog 26) x11 ) fun x12 =>
CM.call 25 [t0, x12] fun x13 =>
CM.pu (p1 (fun a => extractA a 0) x13) fun x14 =>
CM.pu (p1 (fun a => extractA a 1) x13) fun x15 =>
CM.al (some (.cells [(.int .i64 0), (.int .u64 0), (.int .u64 0), (.sl none 0 0 0 true), (.int .i64 0), (.sl none 0 0 0 true), (.int .i64 0), (.int .u64 0), (.int .i64 0), (.int .u64 0), (.int .i64 0), (.bool false)] false, pB)) fun x16 =>
CM.st (fun m => stV m x16 x14 12) <|
CM.pu (p1 (unA .not) x15) fun x18 =>
CM.ifv x18 (
CM.ret (.bool false)) (
CM.pu (p1 (fun a => fieldAddrA Tryz.prog 59 a 0) x16) fun x19 =>
CM.pu (p1 (fun a => fieldAddrA Tryz.prog 44 a 0) x19) fun x20 =>
CM.rm (q1 (loadA Tryz.prog 3) x20 ) fun x21 =>
CM.pu (p2 (binA Tryz.prog .neq 3) x21 (.int .i64 1)) fun x22 =>
CM.ifv x22 (
CM.ret (.bool false)) (
CM.pu (p1 (fun a => fieldAddrA Tryz.prog 59 a 3) x16) fun x23 =>
CM.rm (q1 (loadA Tryz.prog 4) x23 ) fun x24 =>
CM.pu (p1 (unA .not) x24) fun x25 =>
CM.ifv x25 (
CM.ret (.bool false)) (
CM.pu (p1 (fun a => fieldAddrA Tryz.prog 59 a 2) x16) fun x26 =>
CM.rm (q1 (loadA Tryz.prog 46) x26 ) fun x27 =>
CM.pu (p1 (fun a => fieldAddrA Tryz.prog 50 a 5) t3) fun x28 =>
CM.rm (q1 (loadA Tryz.prog 46) x28 ) fun x29 =>
CM.pu (p2 (binA Tryz.prog .neq 46) x27 x29) fun x30 =>
CM.cond x30 (
CM.ret (.bool false)) (
CM.go 45057 [t0, t3, x16]))))
theorem g11_0_ok : LeD (real E Mk Nk) g11_0 (fun ts m => goR E Mk 45056 ts m) := apS_le fun _ => apS_le fun _ => ap0_le fun _ => goR_eq 400 (by kernel_rfl)
noncomputable def g11_1 : List AV → CM := apS fun t0 => apS fun t3 => apS fun t5 => ap0 <|
CM.pu (p1 (fun a => fieldAddrA Tryz.prog 59 a 0) t5) fun x0 =>
CM.pu (p1 (fun a => fieldAddrA Tryz.prog 44 a 3) x0) fun x1 =>
CM.rm (q1 (loadA Tryz.prog 33) x1 ) fun x2 =>
CM.call 21 [x2] fun x3 =>
CM.pu (p1 (fun a => extractA a 0) x3) fun x4 =>
CM.pu (p1 (fun a => extractA a 1) x3) fun x5 =>
CM.al (some (.cells [(.int .i64 0), (.int .u64 0), (.int .u64 0), (.int .u64 0), (.int .u64 0), (.int .i64 0), (.int .u64 0), (.int .i64 0), (.str []), (.str [])] false, pB)) fun x6 =>
CM.st (fun m => stV m x6 x4 10) <|
CM.pu (p1 nnA t0) fun x8 =>
CM.pu (p1 (fun a => fieldAddrA Tryz.prog 64 a 2) x8) fun x9 =>
CM.rm (q1 (loadA Tryz.prog 62) x9 ) fun x10 =>
CM.pu (p1 (fun a => fieldAddrA Tryz.prog 59 a 0) t5) fun x11 =>
CM.pu (p1 (fun a => fieldAddrA Tryz.prog 44 a 3) x11) fun x12 =>
CM.rm (q1 (loadA Tryz.prog 33) x12 ) fun x13 =>
CM.rm (q1 (toStrA Tryz.prog 33) x13 ) fun x14 =>
CM.rm (q2 (fun a k => lookupA Tryz.prog 62 a k true) x10 x14 ) fun x15 =>
CM.pu (p1 (fun a => extractA a 0) x15) fun x16 =>
CM.pu (p1 (fun a => extractA a 1) x15) fun x17 =>
CM.pu (p2 (binA Tryz.prog .eql 23) x5 (.int .i64 0)) fun x18 =>
CM.ifv x18 (
CM.pu (p1 (fun a => fieldAddrA Tryz.prog 40 a 1) x6) fun x19 =>
CM.rm (q1 (loadA Tryz.prog 26) x19 ) fun x20 =>
CM.pu (p1 (fun a => fieldAddrA Tryz.prog 50 a 1) t3) fun x21 =>
CM.rm (q1 (loadA Tryz.prog 26) x21 ) fun x22 =>
CM.pu (p2 (binA Tryz.prog .eql 26) x20 x22) fun x23 =>
CM.ifv x23 (
CM.pu (p1 (fun a => fieldAddrA Tryz.prog 40 a 2) x6) fun x24 =>
CM.rm (q1 (loadA Tryz.prog 26) x24 ) fun x25 =>
CM.pu (p1 (fun a => fieldAddrA Tryz.prog 50 a 2) t3) fun x26 =>
CM.rm (q1 (loadA Tryz.prog 26) x26 ) fun x27 =>
CM.pu (p2 (binA Tryz.prog .eql 26) x25 x27) fun x28 =>
CM.ifv x28 (
CM.ifv x17 (
CM.pu (p1 nnA t0) fun x29 =>
CM.pu (p1 (fun a => fieldAddrA Tryz.prog 64 a 3) x29) fun x30 =>
CM.rm (q1 (loadA Tryz.prog 62) x30 ) fun x31 =>
CM.pu (p1 (fun a => fieldAddrA Tryz.prog 59 a 0) t5) fun x32 =>
CM.pu (p1 (fun a => fieldAddrA Tryz.prog 44 a 3) x32) fun x33 =>
CM.rm (q1 (loadA Tryz.prog 33) x33 ) fun x34 =>
CM.rm (q1 (toStrA Tryz.prog 33) x34 ) fun x35 =>
CM.rm (q2 (fun a k => lookupA Tryz.prog 62 a k false) x31 x35 ) fun x36 =>
CM.pu (p2 (binA Tryz.prog .lss 26) x16 x36) fun x37 =>
CM.ret x37) (
CM.ret (.bool false))) (
CM.ret (.bool false))) (
CM.ret (.bool false))) (
CM.ret (.bool false))
theorem g11_1_ok : LeD (real E Mk Nk) g11_1 (fun ts m => goR E Mk 45057 ts m) := apS_le fun _ => apS_le fun _ => apS_le fun _ => ap0_le fun _ => goR_eq 400 (by kernel_rfl)
noncomputable def f11 : List AV → CM := apS fun a0 => apS fun a1 => ap0 <|
CM.al (boxA a1) fun x0 =>
CM.pu (p1 (fun a => fieldAddrA Tryz.prog 50 a 3) x0) fun x1 =>
CM.rm (q1 (loadA Tryz.prog 23) x1 ) fun x2 =>
CM.pu (p2 (binA Tryz.prog .neq 23) x2 (.int .i64 0)) fun x3 =>
CM.cond x3 (
CM.ret (.bool true)) (
CM.go 45056 [a0, x0])
theorem f11_ok : LeD (real E Mk Nk) f11 (fun xs m => run E (.fn 11) xs m) := apS_le fun _ => apS_le fun _ => ap0_le fun _ => run_eq 400 rfl (by kernel_rfl) (by kernel_rfl)
noncomputable def g12_0 : List AV → CM := apS fun t6 => ap0 <|
CM.al (some (.cells [] false, sB 1 0)) fun x0 =>
CM.pu (p1 (fun a => fieldAddrA Tryz.prog 59 a 1) t6) fun x1 =>
CM.rm (q1 (loadA Tryz.prog 33) x1 ) fun x2 =>
CM.ef (apE 1 1 x0 x2) fun x3 =>
CM.ret (.tup [x3, (.bool true)])
theorem g12_0_ok : LeD (real E Mk Nk) g12_0 (fun ts m => goR E Mk 49152 ts m) := apS_le fun _ => ap0_le fun _ => goR_eq 400 (by kernel_rfl)
noncomputable def f12 : List AV → CM := apS fun a0 => apS fun a1 => ap0 <|
CM.call 25 [a0, a1] fun x0 =>
CM.pu (p1 (fun a => extractA a 0) x0) fun x1 =>
CM.pu (p1 (fun a => extractA a 1) x0) fun x2 =>
CM.al (some (.cells [(.int .i64 0), (.int .u64 0), (.int .u64 0), (.sl none 0 0 0 true), (.int .i64 0), (.sl none 0 0 0 true), (.int .i64 0), (.int .u64 0), (.int .i64 0), (.int .u64 0), (.int .i64 0), (.bool false)] false, pB)) fun x3 =>
CM.st (fun m => stV m x3 x1 12) <|
CM.pu (p1 (unA .not) x2) fun x5 =>
CM.cond x5 (
CM.ret (.tup [(.sl none 0 0 0 true), (.bool false)])) (
CM.go 49152 [x3])
theorem f12_ok : LeD (real E Mk Nk) f12 (fun xs m => run E (.fn 12) xs m) := apS_le fun _ => apS_le fun _ => ap0_le fun _ => run_eq 400 rfl (by kernel_rfl) (by kernel_rfl)
noncomputable def g13_0 : List AV → CM := apS fun t1 => ap0 <|
CM.pu (p1 (fun a => fieldAddrA Tryz.prog 28 a 10) t1) fun x0 =>
CM.rm (q1 (loadA Tryz.prog 3) x0 ) fun x1 =>
CM.call 27 [x1] fun x2 =>
CM.pu (p1 (fun a => extractA a 0) x2) fun x3 =>
CM.pu (p1 (fun a => extractA a 1) x2) fun x4 =>
CM.pu (p1 (fun a => fieldAddrA Tryz.prog 28 a 11) t1) fun x5 =>
CM.rm (q1 (loadA Tryz.prog 3) x5 ) fun x6 =>
CM.pu (p1 (fun a => fieldAddrA Tryz.prog 28 a 12) t1) fun x7 =>
CM.rm (q1 (loadA Tryz.prog 26) x7 ) fun x8 =>
CM.call 28 [x6, x8] fun x9 =>
CM.pu (p1 (fun a => extractA a 0) x9) fun x10 =>
CM.pu (p1 (fun a => extractA a 1) x9) fun x11 =>
CM.pu (p2 (binA Tryz.prog .neq 23) x4 (.int .i64 0)) fun x12 =>
CM.ifv x12 (
CM.ret (.tup [(.ptr none), (.int .i64 1)])) (
CM.pu (p2 (binA Tryz.prog .neq 23) x11 (.int .i64 0)) fun x13 =>
CM.cond x13 (
CM.ret (.tup [(.ptr none), (.int .i64 1)])) (
CM.go 53249 [t1, x3, x10]))
theorem g13_0_ok : LeD (real E Mk Nk) g13_0 (fun ts m => goR E Mk 53248 ts m) := apS_le fun _ => ap0_le fun _ => goR_eq 400 (by kernel_rfl)
noncomputable def g13_1 : List AV → CM := apS fun t1 => apS fun t4 => apS fun t6 => ap0 <|
CM.rm (q1 (loadA Tryz.prog 28) t1 ) fun x0 =>
CM.pu (p1 (buildA Tryz.prog 87) [(0, x0), (1, t4), (2, t6)]) fun x1 =>
CM.al (boxA x1) fun x2 =>
CM.ret (.tup [x2, (.int .i64 0)])
theorem g13_1_ok : LeD (real E Mk Nk) g13_1 (fun ts m => goR E Mk 53249 ts m) := apS_le fun _ => apS_le fun _ => apS_le fun _ => ap0_le fun _ => goR_eq 400 (by kernel_rfl)
noncomputable def f13 : List AV → CM := apS fun a0 => ap0 <|
CM.al (boxA a0) fun x0 =>
CM.rm (q1 (loadA Tryz.prog 28) x0 ) fun x1 =>
CM.call 26 [x1] fun x2 =>
CM.pu (p1 (unA .not) x2) fun x3 =>
CM.cond x3 (
CM.ret (.tup [(.ptr none), (.int .i64 1)])) (
CM.go 53248 [x0])
theorem f13_ok : LeD (real E Mk Nk) f13 (fun xs m => run E (.fn 13) xs m) := apS_le fun _ => ap0_le fun _ => run_eq 400 rfl (by kernel_rfl) (by kernel_rfl)
noncomputable def f14 : List AV → CM := apS fun a0 => ap0 <|
CM.call 30 [a0] fun x0 =>
CM.call 31 [a0] fun x1 =>
CM.call 29 [x0, x1] fun x2 =>
CM.pu (p1 (fun a => extractA a 0) x2) fun x3 =>
CM.pu (p1 (fun a => extractA a 1) x2) fun _ =>
CM.ret x3
theorem f14_ok : LeD (real E Mk Nk) f14 (fun xs m => run E (.fn 14) xs m) := apS_le fun _ => ap0_le fun _ => run_eq 400 rfl (by kernel_rfl) (by kernel_rfl)
noncomputable def g15_0 : List AV → CM := apS fun t0 => apS fun t1 => apS fun t7 => apS fun t8 => ap0 <|
CM.rm (q1 (loadA Tryz.prog 93) t7 ) fun x0 =>
CM.pu (p1 nnA t0) fun x1 =>
CM.pu (p1 (fun a => fieldAddrA Tryz.prog 87 a 0) x1) fun x2 =>
CM.pu (p1 (fun a => fieldAddrA Tryz.prog 28 a 10) x2) fun x3 =>
CM.rm (q1 (loadA Tryz.prog 3) x3 ) fun x4 =>
CM.call 33 [x0, x4] fun x6 =>
CM.pu (p1 (fun a => extractA a 0) x6) fun x8 =>
CM.pu (p1 (fun a => extractA a 1) x6) fun x9 =>
CM.pu (p1 nnA t0) fun x10 =>
CM.pu (p1 (fun a => fieldAddrA Tryz.prog 87 a 0) x10) fun x11 =>
CM.pu (p1 (fun a => fieldAddrA Tryz.prog 28 a 11) x11) fun x12 =>
CM.rm (q1 (loadA Tryz.prog 3) x12 ) fun x13 =>
CM.pu (p1 nnA t0) fun x14 =>
CM.pu (p1 (fun a => fieldAddrA Tryz.prog 87 a 0) x14) fun x15 =>
CM.pu (p1 (fun a => fieldAddrA Tryz.prog 28 a 12) x15) fun x16 =>
CM.rm (q1 (loadA Tryz.prog 26) x16 ) fun x17 =>
CM.call 34 [t8, x13, x17] fun x19 =>
CM.pu (p1 (fun a => extractA a 0) x19) fun x21 =>
CM.pu (p1 (fun a => extractA a 1) x19) fun x22 =>
CM.pu (p2 (binA Tryz.prog .neq 23) x9 (.int .i64 0)) fun x23 =>
CM.ifv x23 (
CM.ret (.int .i64 1)) (
CM.pu (p2 (binA Tryz.prog .neq 23) x22 (.int .i64 0)) fun x24 =>
CM.cond x24 (
CM.ret (.int .i64 1)) (
CM.go 61441 [t0, t1, x8, x21]))
theorem g15_0_ok : LeD (real E Mk Nk) g15_0 (fun ts m => goR E Mk 61440 ts m) := apS_le fun _ => apS_le fun _ => apS_le fun _ => apS_le fun _ => ap0_le fun _ => goR_eq 400 (by kernel_rfl)
noncomputable def g15_1 : List AV → CM := apS fun t0 => apS fun t1 => apS fun t10 => apS fun t12 => ap0 <|
CM.pu (p1 nnA t0) fun x0 =>
CM.pu (p1 (fun a => fieldAddrA Tryz.prog 87 a 1) x0) fun x1 =>
CM.st (fun m => stV m x1 t10 1) <|
CM.pu (p1 nnA t0) fun x3 =>
CM.pu (p1 (fun a => fieldAddrA Tryz.prog 87 a 2) x3) fun x4 =>
CM.st (fun m => stV m x4 t12 1) <|
CM.pu (p1 nnA t0) fun x6 =>
CM.pu (p1 (fun a => fieldAddrA Tryz.prog 87 a 3) x6) fun x7 =>
CM.st (fun m => stV m x7 t1 1) <|
CM.ret (.int .i64 0)
theorem g15_1_ok : LeD (real E Mk Nk) g15_1 (fun ts m => goR E Mk 61441 ts m) := apS_le fun _ => apS_le fun _ => apS_le fun _ => apS_le fun _ => ap0_le fun _ => goR_eq 400 (by kernel_rfl)
noncomputable def f15 : List AV → CM := apS fun a0 => apS fun a1 => apS fun a2 => ap0 <|
CM.call 32 [a2] fun x0 =>
CM.pu (p1 (fun a => extractA a 0) x0) fun x1 =>
CM.pu (p1 (fun a => extractA a 1) x0) fun x2 =>
CM.pu (p1 (fun a => extractA a 2) x0) fun x3 =>
CM.al (some (.cells [(.sl none 0 0 0 true), (.sl none 0 0 0 true), (.sl none 0 0 0 true), (.int .u64 0)] false, pB)) fun x4 =>
CM.st (fun m => stV m x4 x1 4) <|
CM.pu (p2 (binA Tryz.prog .gtr 26) a1 (.int .u64 72057594037927935)) fun x6 =>
CM.ifv x6 (
CM.ret (.int .i64 1)) (
CM.pu (p2 (binA Tryz.prog .neq 23) x3 (.int .i64 0)) fun x7 =>
CM.cond x7 (
CM.ret (.int .i64 1)) (
CM.go 61440 [a0, a1, x4, x2]))
theorem f15_ok : LeD (real E Mk Nk) f15 (fun xs m => run E (.fn 15) xs m) := apS_le fun _ => apS_le fun _ => apS_le fun _ => ap0_le fun _ => run_eq 400 rfl (by kernel_rfl) (by kernel_rfl)
noncomputable def g16_0 : List AV → CM := apS fun t0 => ap0 <|
CM.ret t0
theorem g16_0_ok : LeD (real E Mk Nk) g16_0 (fun ts m => goR E Mk 65536 ts m) := apS_le fun _ => ap0_le fun _ => goR_eq 400 (by kernel_rfl)
noncomputable def f16 : List AV → CM := apS fun a0 => apS fun a1 => ap0 <|
CM.pu (p2 (binA Tryz.prog .rem 3) a0 a1) fun x0 =>
CM.pu (p2 (binA Tryz.prog .lss 3) x0 (.int .i64 0)) fun x1 =>
CM.cond x1 (
CM.pu (p2 (binA Tryz.prog .add 3) x0 a1) fun x2 =>
CM.go 65536 [x2]) (
CM.go 65536 [x0])
theorem f16_ok : LeD (real E Mk Nk) f16 (fun xs m => run E (.fn 16) xs m) := apS_le fun _ => apS_le fun _ => ap0_le fun _ => run_eq 400 rfl (by kernel_rfl) (by kernel_rfl)
noncomputable def f17 : List AV → CM := apS fun a0 => ap0 <|
CM.pu (p1 nnA a0) fun x0 =>
CM.pu (p1 (fun a => fieldAddrA Tryz.prog 64 a 1) x0) fun x1 =>
CM.rm (q1 (loadA Tryz.prog 61) x1 ) fun x2 =>
CM.pu (p1 (lenT Tryz.prog 61) x2) fun x3 =>
CM.pu (p1 (convA Tryz.prog 3 26) x3) fun x4 =>
CM.ret x4
theorem f17_ok : LeD (real E Mk Nk) f17 (fun xs m => run E (.fn 17) xs m) := apS_le fun _ => ap0_le fun _ => run_eq 400 rfl (by kernel_rfl) (by kernel_rfl)
noncomputable def g18_0 : List AV → CM := apS fun t4 => apS fun t6 => ap0 <|
CM.al (some (.cells [] false, sB 1 0)) fun x0 =>
CM.pu (p1 (fun a => fieldAddrA Tryz.prog 59 a 0) t6) fun x1 =>
CM.pu (p1 (fun a => fieldAddrA Tryz.prog 44 a 3) x1) fun x2 =>
CM.rm (q1 (loadA Tryz.prog 33) x2 ) fun x3 =>
CM.ef (apE 1 1 x0 x3) fun x4 =>
CM.pu (p1 (fun a => fieldAddrA Tryz.prog 59 a 0) t6) fun x5 =>
CM.pu (p1 (fun a => fieldAddrA Tryz.prog 44 a 3) x5) fun x6 =>
CM.st (fun m => stV m x6 x4 1) <|
CM.pu (p1 (fun a => fieldAddrA Tryz.prog 59 a 0) t6) fun x8 =>
CM.rm (q1 (loadA Tryz.prog 44) x8 ) fun x9 =>
CM.st (fun m => stV m t4 x9 5) <|
CM.resC Tryz.prog [ResultVar.cell 0 44, ResultVar.tmp 1] [t4, (.bool true)]
theorem g18_0_ok : LeD (real E Mk Nk) g18_0 (fun ts m => goR E Mk 73728 ts m) := apS_le fun _ => apS_le fun _ => ap0_le fun _ => goR_eq 400 (by kernel_rfl)
noncomputable def f18 : List AV → CM := apS fun a0 => apS fun a1 => ap0 <|
CM.al (some (.cells [(.int .i64 0), (.int .u64 0), (.int .u64 0), (.sl none 0 0 0 true), (.int .i64 0)] false, pB)) fun x0 =>
CM.call 25 [a0, a1] fun x1 =>
CM.pu (p1 (fun a => extractA a 0) x1) fun x2 =>
CM.pu (p1 (fun a => extractA a 1) x1) fun x3 =>
CM.al (some (.cells [(.int .i64 0), (.int .u64 0), (.int .u64 0), (.sl none 0 0 0 true), (.int .i64 0), (.sl none 0 0 0 true), (.int .i64 0), (.int .u64 0), (.int .i64 0), (.int .u64 0), (.int .i64 0), (.bool false)] false, pB)) fun x4 =>
CM.st (fun m => stV m x4 x2 12) <|
CM.pu (p1 (unA .not) x3) fun x6 =>
CM.ifv x6 (
CM.pu (p1 (buildA Tryz.prog 44) []) fun x7 =>
CM.st (fun m => stV m x0 x7 5) <|
CM.resC Tryz.prog [ResultVar.cell 0 44, ResultVar.tmp 1] [x0, (.bool false)]) (
CM.pu (p2 (binA Tryz.prog .eql 26) a1 (.int .u64 1)) fun x9 =>
CM.cond x9 (
CM.pu (p1 (buildA Tryz.prog 44) []) fun x10 =>
CM.st (fun m => stV m x0 x10 5) <|
CM.resC Tryz.prog [ResultVar.cell 0 44, ResultVar.tmp 1] [x0, (.bool false)]) (
CM.go 73728 [x0, x4]))
theorem f18_ok : LeD (real E Mk Nk) f18 (fun xs m => run E (.fn 18) xs m) := apS_le fun _ => apS_le fun _ => ap0_le fun _ => run_eq 400 rfl (by kernel_rfl) (by kernel_rfl)
noncomputable def f19 : List AV → CM := apS fun a0 => apS fun a1 => ap0 <|
CM.al (boxA a0) fun x0 =>
CM.al (boxA a1) fun x1 =>
CM.pu (p1 (fun a => fieldAddrA Tryz.prog 44 a 0) x0) fun x2 =>
CM.rm (q1 (loadA Tryz.prog 3) x2 ) fun x3 =>
CM.pu (p1 (fun a => fieldAddrA Tryz.prog 44 a 0) x1) fun x4 =>
CM.rm (q1 (loadA Tryz.prog 3) x4 ) fun x5 =>
CM.pu (p2 (binA Tryz.prog .eql 3) x3 x5) fun x6 =>
CM.ifv x6 (
CM.pu (p1 (fun a => fieldAddrA Tryz.prog 44 a 1) x0) fun x7 =>
CM.rm (q1 (loadA Tryz.prog 26) x7 ) fun x8 =>
CM.pu (p1 (fun a => fieldAddrA Tryz.prog 44 a 1) x1) fun x9 =>
CM.rm (q1 (loadA Tryz.prog 26) x9 ) fun x10 =>
CM.pu (p2 (binA Tryz.prog .eql 26) x8 x10) fun x11 =>
CM.ifv x11 (
CM.pu (p1 (fun a => fieldAddrA Tryz.prog 44 a 2) x0) fun x12 =>
CM.rm (q1 (loadA Tryz.prog 26) x12 ) fun x13 =>
CM.pu (p1 (fun a => fieldAddrA Tryz.prog 44 a 2) x1) fun x14 =>
CM.rm (q1 (loadA Tryz.prog 26) x14 ) fun x15 =>
CM.pu (p2 (binA Tryz.prog .eql 26) x13 x15) fun x16 =>
CM.ifv x16 (
CM.pu (p1 (fun a => fieldAddrA Tryz.prog 44 a 3) x0) fun x17 =>
CM.rm (q1 (loadA Tryz.prog 33) x17 ) fun x18 =>
CM.rm (q1 (toStrA Tryz.prog 33) x18 ) fun x19 =>
CM.pu (p1 (fun a => fieldAddrA Tryz.prog 44 a 3) x1) fun x20 =>
CM.rm (q1 (loadA Tryz.prog 33) x20 ) fun x21 =>
CM.rm (q1 (toStrA Tryz.prog 33) x21 ) fun x22 =>
CM.pu (p2 (binA Tryz.prog .eql 9) x19 x22) fun x23 =>
CM.ifv x23 (
CM.pu (p1 (fun a => fieldAddrA Tryz.prog 44 a 4) x0) fun x24 =>
CM.rm (q1 (loadA Tryz.prog 3) x24 ) fun x25 =>
CM.pu (p1 (fun a => fieldAddrA Tryz.prog 44 a 4) x1) fun x26 =>
CM.rm (q1 (loadA Tryz.prog 3) x26 ) fun x27 =>
CM.pu (p2 (binA Tryz.prog .eql 3) x25 x27) fun x28 =>
CM.ret x28) (
CM.ret (.bool false))) (
CM.ret (.bool false))) (
CM.ret (.bool false))) (
CM.ret (.bool false))
theorem f19_ok : LeD (real E Mk Nk) f19 (fun xs m => run E (.fn 19) xs m) := apS_le fun _ => apS_le fun _ => ap0_le fun _ => run_eq 400 rfl (by kernel_rfl) (by kernel_rfl)
noncomputable def g20_0 : List AV → CM := apS fun t1 => ap0 <|
CM.pu (p1 (fun a => fieldAddrA Tryz.prog 40 a 0) t1) fun x0 =>
CM.rm (q1 (loadA Tryz.prog 3) x0 ) fun x1 =>
CM.call 36 [x1] fun x2 =>
CM.pu (p1 (fun a => fieldAddrA Tryz.prog 40 a 0) t1) fun x3 =>
CM.rm (q1 (loadA Tryz.prog 3) x3 ) fun x4 =>
CM.pu (p1 (convA Tryz.prog 3 5) x4) fun x5 =>
CM.al (bsA 1 1 [(.int .u8 0)] [(0, x5)]) fun x6 =>
CM.pu (p1 (fun a => fieldAddrA Tryz.prog 40 a 1) t1) fun x7 =>
CM.rm (q1 (loadA Tryz.prog 26) x7 ) fun x8 =>
CM.call 37 [x8] fun x10 =>
CM.memo fun m11 =>
CM.chk (q1 (loadA Tryz.prog 3) x3 m11) x4 <|
CM.ef (apE 1 1 x6 x10) fun x13 =>
CM.call 38 [x2, (.str [115, 101, 113])] fun x15 =>
CM.cond x15 (
CM.pu (p1 (fun a => fieldAddrA Tryz.prog 40 a 2) t1) fun x16 =>
CM.rm (q1 (loadA Tryz.prog 26) x16 ) fun x17 =>
CM.call 37 [x17] fun x18 =>
CM.ef (apE 1 1 x13 x18) fun x19 =>
CM.go 81921 [t1, x2, x19]) (
CM.go 81921 [t1, x2, x13])
theorem g20_0_ok : LeD (real E Mk Nk) g20_0 (fun ts m => goR E Mk 81920 ts m) := apS_le fun _ => ap0_le fun _ => goR_eq 400 (by kernel_rfl)
noncomputable def g20_1 : List AV → CM := apS fun t1 => apS fun t4 => apS fun t5 => ap0 <|
CM.call 38 [t4, (.str [97])] fun x0 =>
CM.cond x0 (
CM.pu (p1 (fun a => fieldAddrA Tryz.prog 40 a 3) t1) fun x1 =>
CM.rm (q1 (loadA Tryz.prog 26) x1 ) fun x2 =>
CM.call 37 [x2] fun x3 =>
CM.ef (apE 1 1 t5 x3) fun x4 =>
CM.go 81922 [t1, t4, x4]) (
CM.go 81922 [t1, t4, t5])
theorem g20_1_ok : LeD (real E Mk Nk) g20_1 (fun ts m => goR E Mk 81921 ts m) := apS_le fun _ => apS_le fun _ => apS_le fun _ => ap0_le fun _ => goR_eq 400 (by kernel_rfl)
noncomputable def g20_2 : List AV → CM := apS fun t1 => apS fun t4 => apS fun t5 => ap0 <|
CM.call 38 [t4, (.str [98])] fun x0 =>
CM.cond x0 (
CM.pu (p1 (fun a => fieldAddrA Tryz.prog 40 a 4) t1) fun x1 =>
CM.rm (q1 (loadA Tryz.prog 26) x1 ) fun x2 =>
CM.call 37 [x2] fun x3 =>
CM.ef (apE 1 1 t5 x3) fun x4 =>
CM.go 81923 [t1, t4, x4]) (
CM.go 81923 [t1, t4, t5])
theorem g20_2_ok : LeD (real E Mk Nk) g20_2 (fun ts m => goR E Mk 81922 ts m) := apS_le fun _ => apS_le fun _ => apS_le fun _ => ap0_le fun _ => goR_eq 400 (by kernel_rfl)
noncomputable def g20_3 : List AV → CM := apS fun t1 => apS fun t4 => apS fun t5 => ap0 <|
CM.call 38 [t4, (.str [97, 109, 111, 117, 110, 116])] fun x0 =>
CM.cond x0 (
CM.pu (p1 (fun a => fieldAddrA Tryz.prog 40 a 5) t1) fun x1 =>
CM.rm (q1 (loadA Tryz.prog 38) x1 ) fun x2 =>
CM.call 39 [x2] fun x3 =>
CM.ef (apE 1 1 t5 x3) fun x4 =>
CM.go 81924 [t1, x4]) (
CM.go 81924 [t1, t5])
theorem g20_3_ok : LeD (real E Mk Nk) g20_3 (fun ts m => goR E Mk 81923 ts m) := apS_le fun _ => apS_le fun _ => apS_le fun _ => ap0_le fun _ => goR_eq 400 (by kernel_rfl)
noncomputable def g20_4 : List AV → CM := apS fun t1 => apS fun t5 => ap0 <|
CM.pu (p1 (fun a => fieldAddrA Tryz.prog 40 a 6) t1) fun x0 =>
CM.rm (q1 (loadA Tryz.prog 9) x0 ) fun x1 =>
CM.memo fun m2 =>
CM.ef (apE 1 1 t5 x1) fun x3 =>
CM.pu (p1 (fun a => fieldAddrA Tryz.prog 40 a 7) t1) fun x5 =>
CM.rm (q1 (loadA Tryz.prog 9) x5 ) fun x6 =>
CM.chk (q1 (loadA Tryz.prog 9) x5 m2) x6 <|
CM.ef (apE 1 1 x3 x6) fun x8 =>
CM.ret (.tup [x8, (.int .i64 0)])
theorem g20_4_ok : LeD (real E Mk Nk) g20_4 (fun ts m => goR E Mk 81924 ts m) := apS_le fun _ => apS_le fun _ => ap0_le fun _ => goR_eq 400 (by kernel_rfl)
noncomputable def f20 : List AV → CM := apS fun a0 => ap0 <|
CM.al (boxA a0) fun x0 =>
CM.rm (q1 (loadA Tryz.prog 40) x0 ) fun x1 =>
CM.call 35 [x1] fun x2 =>
CM.pu (p1 (unA .not) x2) fun x3 =>
CM.cond x3 (
CM.ret (.tup [(.sl none 0 0 0 true), (.int .i64 1)])) (
CM.go 81920 [x0])
theorem f20_ok : LeD (real E Mk Nk) f20 (fun xs m => run E (.fn 20) xs m) := apS_le fun _ => ap0_le fun _ => run_eq 400 rfl (by kernel_rfl) (by kernel_rfl)
noncomputable def g21_0 : List AV → CM := apS fun t0 => apS fun t2 => ap0 <|
CM.call 40 [t0] fun x0 =>
CM.al (some (.cells [(.int .i64 0), (.int .u64 0), (.int .u64 0), (.int .u64 0), (.int .u64 0), (.int .i64 0), (.int .u64 0), (.int .i64 0), (.str []), (.str [])] false, pB)) fun x1 =>
CM.call 41 [x0, (.int .u8 11)] fun x2 =>
CM.pu (p1 (convA Tryz.prog 5 3) x2) fun x3 =>
CM.pu (p1 (fun a => fieldAddrA Tryz.prog 40 a 0) x1) fun x4 =>
CM.st (fun m => stV m x4 x3 1) <|
CM.pu (p1 (fun a => fieldAddrA Tryz.prog 40 a 0) x1) fun x6 =>
CM.rm (q1 (loadA Tryz.prog 3) x6 ) fun x7 =>
CM.call 42 [x7] fun x8 =>
CM.go 86017 [t2, x0, x1, x8, (.int .i64 1)]
theorem g21_0_ok : LeD (real E Mk Nk) g21_0 (fun ts m => goR E Mk 86016 ts m) := apS_le fun _ => apS_le fun _ => ap0_le fun _ => goR_eq 400 (by kernel_rfl)
noncomputable def g21_1 : List AV → CM := apS fun t2 => apS fun t4 => apS fun t5 => apS fun t6 => apS fun t7 => ap0 <|
CM.pu (p2 (binA Tryz.prog .lss 3) t7 (.int .i64 128)) fun x0 =>
CM.cond x0 (
CM.go 86018 [t2, t4, t5, t6, t7]) (
CM.go 86020 [t2, t4, t5])
theorem g21_1_ok : LeD (real E Mk Nk) g21_1 (fun ts m => goR E Mk 86017 ts m) := apS_le fun _ => apS_le fun _ => apS_le fun _ => apS_le fun _ => apS_le fun _ => ap0_le fun _ => goR_eq 400 (by kernel_rfl)
noncomputable def g21_2 : List AV → CM := apS fun t2 => apS fun t4 => apS fun t5 => apS fun t6 => apS fun t7 => ap0 <|
CM.pu (p2 (binA Tryz.prog .and 3) t6 t7) fun x0 =>
CM.pu (p2 (binA Tryz.prog .neq 3) x0 (.int .i64 0)) fun x1 =>
CM.cond x1 (
CM.call 43 [t4, t5, t7] fun _ =>
CM.go 86019 [t2, t4, t5, t6, t7]) (
CM.go 86019 [t2, t4, t5, t6, t7])
theorem g21_2_ok : LeD (real E Mk Nk) g21_2 (fun ts m => goR E Mk 86018 ts m) := apS_le fun _ => apS_le fun _ => apS_le fun _ => apS_le fun _ => apS_le fun _ => ap0_le fun _ => goR_eq 400 (by kernel_rfl)
noncomputable def g21_3 : List AV → CM := apS fun t2 => apS fun t4 => apS fun t5 => apS fun t6 => apS fun t7 => ap0 <|
CM.pu (p2 (binA Tryz.prog .shl 3) t7 (.int .u64 1)) fun x0 =>
CM.go 86017 [t2, t4, t5, t6, x0]
theorem g21_3_ok : LeD (real E Mk Nk) g21_3 (fun ts m => goR E Mk 86019 ts m) := apS_le fun _ => apS_le fun _ => apS_le fun _ => apS_le fun _ => apS_le fun _ => ap0_le fun _ => goR_eq 400 (by kernel_rfl)
noncomputable def g21_4 : List AV → CM := apS fun t2 => apS fun t4 => apS fun t5 => ap0 <|
CM.call 44 [t4] fun x0 =>
CM.pu (p2 (binA Tryz.prog .eql 23) x0 (.int .i64 0)) fun x1 =>
CM.ifv x1 (
CM.rm (q1 (loadA Tryz.prog 40) t5 ) fun x2 =>
CM.call 45 [x2] fun x3 =>
CM.pu (p1 (unA .not) x3) fun x4 =>
CM.cond x4 (
CM.go 86021 [t2, t5, (.int .i64 11)]) (
CM.go 86021 [t2, t5, x0])) (
CM.go 86021 [t2, t5, x0])
theorem g21_4_ok : LeD (real E Mk Nk) g21_4 (fun ts m => goR E Mk 86020 ts m) := apS_le fun _ => apS_le fun _ => apS_le fun _ => ap0_le fun _ => goR_eq 400 (by kernel_rfl)
noncomputable def g21_5 : List AV → CM := apS fun t2 => apS fun t5 => apS fun t8 => ap0 <|
CM.pu (p2 (binA Tryz.prog .neq 23) t8 (.int .i64 0)) fun x0 =>
CM.cond x0 (
CM.pu (p1 (buildA Tryz.prog 40) []) fun x1 =>
CM.st (fun m => stV m t2 x1 10) <|
CM.resC Tryz.prog [ResultVar.cell 0 40, ResultVar.tmp 1] [t2, t8]) (
CM.go 86022 [t2, t5])
theorem g21_5_ok : LeD (real E Mk Nk) g21_5 (fun ts m => goR E Mk 86021 ts m) := apS_le fun _ => apS_le fun _ => apS_le fun _ => ap0_le fun _ => goR_eq 400 (by kernel_rfl)
noncomputable def g21_6 : List AV → CM := apS fun t2 => apS fun t5 => ap0 <|
CM.rm (q1 (loadA Tryz.prog 40) t5 ) fun x0 =>
CM.st (fun m => stV m t2 x0 10) <|
CM.resC Tryz.prog [ResultVar.cell 0 40, ResultVar.tmp 1] [t2, (.int .i64 0)]
theorem g21_6_ok : LeD (real E Mk Nk) g21_6 (fun ts m => goR E Mk 86022 ts m) := apS_le fun _ => apS_le fun _ => ap0_le fun _ => goR_eq 400 (by kernel_rfl)
noncomputable def f21 : List AV → CM := apS fun a0 => ap0 <|
CM.al (some (.cells [(.int .i64 0), (.int .u64 0), (.int .u64 0), (.int .u64 0), (.int .u64 0), (.int .i64 0), (.int .u64 0), (.int .i64 0), (.str []), (.str [])] false, pB)) fun x0 =>
CM.pu (p1 (lenT Tryz.prog 33) a0) fun x1 =>
CM.pu (p2 (binA Tryz.prog .gtr 3) x1 (.int .i64 128)) fun x2 =>
CM.cond x2 (
CM.pu (p1 (buildA Tryz.prog 40) []) fun x3 =>
CM.st (fun m => stV m x0 x3 10) <|
CM.resC Tryz.prog [ResultVar.cell 0 40, ResultVar.tmp 1] [x0, (.int .i64 12)]) (
CM.go 86016 [a0, x0])
theorem f21_ok : LeD (real E Mk Nk) f21 (fun xs m => run E (.fn 21) xs m) := apS_le fun _ => ap0_le fun _ => run_eq 400 rfl (by kernel_rfl) (by kernel_rfl)
noncomputable def f22 : List AV → CM := apS fun a0 => apS fun a1 => ap0 <|
CM.al (boxA a0) fun x0 =>
CM.al (boxA a1) fun x1 =>
CM.pu (p1 (fun a => fieldAddrA Tryz.prog 44 a 0) x0) fun x2 =>
CM.rm (q1 (loadA Tryz.prog 3) x2 ) fun x3 =>
CM.pu (p1 (fun a => fieldAddrA Tryz.prog 44 a 0) x1) fun x4 =>
CM.rm (q1 (loadA Tryz.prog 3) x4 ) fun x5 =>
CM.pu (p2 (binA Tryz.prog .eql 3) x3 x5) fun x6 =>
CM.ifv x6 (
CM.pu (p1 (fun a => fieldAddrA Tryz.prog 44 a 1) x0) fun x7 =>
CM.rm (q1 (loadA Tryz.prog 26) x7 ) fun x8 =>
CM.pu (p1 (fun a => fieldAddrA Tryz.prog 44 a 1) x1) fun x9 =>
CM.rm (q1 (loadA Tryz.prog 26) x9 ) fun x10 =>
CM.pu (p2 (binA Tryz.prog .eql 26) x8 x10) fun x11 =>
CM.ifv x11 (
CM.pu (p1 (fun a => fieldAddrA Tryz.prog 44 a 4) x0) fun x12 =>
CM.rm (q1 (loadA Tryz.prog 3) x12 ) fun x13 =>
CM.pu (p1 (fun a => fieldAddrA Tryz.prog 44 a 4) x1) fun x14 =>
CM.rm (q1 (loadA Tryz.prog 3) x14 ) fun x15 =>
CM.pu (p2 (binA Tryz.prog .eql 3) x13 x15) fun x16 =>
CM.ifv x16 (
CM.pu (p1 (fun a => fieldAddrA Tryz.prog 44 a 3) x0) fun x17 =>
CM.rm (q1 (loadA Tryz.prog 33) x17 ) fun x18 =>
CM.pu (p1 (fun a => fieldAddrA Tryz.prog 44 a 3) x1) fun x19 =>
CM.rm (q1 (loadA Tryz.prog 33) x19 ) fun x20 =>
CM.call 46 [x18, x20] fun x21 =>
CM.ret x21) (
CM.ret (.bool false))) (
CM.ret (.bool false))) (
CM.ret (.bool false))
theorem f22_ok : LeD (real E Mk Nk) f22 (fun xs m => run E (.fn 22) xs m) := apS_le fun _ => apS_le fun _ => ap0_le fun _ => run_eq 400 rfl (by kernel_rfl) (by kernel_rfl)
noncomputable def g23_0 : List AV → CM := apS fun t1 => apS fun t3 => apS fun t4 => ap0 <|
CM.ifv t3 (
CM.ifv t4 (
CM.pu (p1 (fun a => fieldAddrA Tryz.prog 44 a 1) t1) fun x0 =>
CM.rm (q1 (loadA Tryz.prog 26) x0 ) fun x1 =>
CM.call 48 [x1] fun x2 =>
CM.ifv x2 (
CM.pu (p1 (fun a => fieldAddrA Tryz.prog 44 a 2) t1) fun x3 =>
CM.rm (q1 (loadA Tryz.prog 26) x3 ) fun x4 =>
CM.call 48 [x4] fun x5 =>
CM.ret x5) (
CM.ret (.bool false))) (
CM.ret (.bool false))) (
CM.ret (.bool false))
theorem g23_0_ok : LeD (real E Mk Nk) g23_0 (fun ts m => goR E Mk 94208 ts m) := apS_le fun _ => apS_le fun _ => apS_le fun _ => ap0_le fun _ => goR_eq 400 (by kernel_rfl)
noncomputable def f23 : List AV → CM := apS fun a0 => ap0 <|
CM.al (boxA a0) fun x0 =>
CM.pu (p1 (fun a => fieldAddrA Tryz.prog 44 a 3) x0) fun x1 =>
CM.rm (q1 (loadA Tryz.prog 33) x1 ) fun x2 =>
CM.pu (p1 (lenT Tryz.prog 33) x2) fun x3 =>
CM.pu (p2 (binA Tryz.prog .eql 3) x3 (.int .i64 0)) fun x4 =>
CM.pu (p1 (fun a => fieldAddrA Tryz.prog 44 a 4) x0) fun x5 =>
CM.rm (q1 (loadA Tryz.prog 3) x5 ) fun x6 =>
CM.pu (p2 (binA Tryz.prog .eql 3) x6 (.int .i64 0)) fun x7 =>
CM.pu (p1 (fun a => fieldAddrA Tryz.prog 44 a 0) x0) fun x8 =>
CM.rm (q1 (loadA Tryz.prog 3) x8 ) fun x9 =>
CM.pu (p2 (binA Tryz.prog .eql 3) x9 (.int .i64 0)) fun x10 =>
CM.cond x10 (
CM.go 94208 [x0, x4, x7]) (
CM.pu (p2 (binA Tryz.prog .eql 3) x9 (.int .i64 1)) fun x11 =>
CM.cond x11 (
CM.pu (p1 (fun a => fieldAddrA Tryz.prog 44 a 3) x0) fun x12 =>
CM.rm (q1 (loadA Tryz.prog 33) x12 ) fun x13 =>
CM.pu (p1 (lenT Tryz.prog 33) x13) fun x14 =>
CM.pu (p2 (binA Tryz.prog .geq 3) x14 (.int .i64 1)) fun x15 =>
CM.ifv x15 (
CM.pu (p1 (fun a => fieldAddrA Tryz.prog 44 a 3) x0) fun x16 =>
CM.rm (q1 (loadA Tryz.prog 33) x16 ) fun x17 =>
CM.pu (p1 (lenT Tryz.prog 33) x17) fun x18 =>
CM.pu (p2 (binA Tryz.prog .leq 3) x18 (.int .i64 128)) fun x19 =>
CM.go 94208 [x0, x19, x7]) (
CM.go 94208 [x0, (.bool false), x7])) (
CM.pu (p2 (binA Tryz.prog .eql 3) x9 (.int .i64 2)) fun x20 =>
CM.cond x20 (
CM.pu (p1 (fun a => fieldAddrA Tryz.prog 44 a 4) x0) fun x21 =>
CM.rm (q1 (loadA Tryz.prog 3) x21 ) fun x22 =>
CM.call 47 [x22] fun x23 =>
CM.go 94208 [x0, x4, x23]) (
CM.ret (.bool false))))
theorem f23_ok : LeD (real E Mk Nk) f23 (fun xs m => run E (.fn 23) xs m) := apS_le fun _ => ap0_le fun _ => run_eq 400 rfl (by kernel_rfl) (by kernel_rfl)
noncomputable def g24_0 : List AV → CM := apS fun t0 => apS fun t3 => apS fun t4 => apS fun t6 => ap0 <|
CM.pu (p1 (unA .not) t6) fun x0 =>
CM.ifv x0 (
CM.pu (p1 (buildA Tryz.prog 46) []) fun x1 =>
CM.st (fun m => stV m t4 x1 5) <|
CM.resC Tryz.prog [ResultVar.cell 0 46, ResultVar.tmp 1] [t4, (.bool false)]) (
CM.pu (p1 (fun a => fieldAddrA Tryz.prog 44 a 2) t3) fun x3 =>
CM.rm (q1 (loadA Tryz.prog 26) x3 ) fun x4 =>
CM.pu (p1 nnA t0) fun x5 =>
CM.pu (p1 (fun a => fieldAddrA Tryz.prog 87 a 3) x5) fun x6 =>
CM.rm (q1 (loadA Tryz.prog 26) x6 ) fun x7 =>
CM.pu (p2 (binA Tryz.prog .add 26) x7 (.int .u64 1)) fun x8 =>
CM.pu (p2 (binA Tryz.prog .neq 26) x4 x8) fun x9 =>
CM.ifv x9 (
CM.pu (p1 (buildA Tryz.prog 46) []) fun x10 =>
CM.st (fun m => stV m t4 x10 5) <|
CM.resC Tryz.prog [ResultVar.cell 0 46, ResultVar.tmp 1] [t4, (.bool false)]) (
CM.pu (p1 (fun a => fieldAddrA Tryz.prog 44 a 2) t3) fun x12 =>
CM.rm (q1 (loadA Tryz.prog 26) x12 ) fun x13 =>
CM.pu (p2 (binA Tryz.prog .gtr 26) x13 (.int .u64 72057594037927935)) fun x14 =>
CM.cond x14 (
CM.pu (p1 (buildA Tryz.prog 46) []) fun x15 =>
CM.st (fun m => stV m t4 x15 5) <|
CM.resC Tryz.prog [ResultVar.cell 0 46, ResultVar.tmp 1] [t4, (.bool false)]) (
CM.go 98305 [t0, t3, t4])))
theorem g24_0_ok : LeD (real E Mk Nk) g24_0 (fun ts m => goR E Mk 98304 ts m) := apS_le fun _ => apS_le fun _ => apS_le fun _ => apS_le fun _ => ap0_le fun _ => goR_eq 400 (by kernel_rfl)
noncomputable def g24_1 : List AV → CM := apS fun t0 => apS fun t3 => apS fun t4 => ap0 <|
CM.pu (p1 (fun a => fieldAddrA Tryz.prog 44 a 2) t3) fun x0 =>
CM.rm (q1 (loadA Tryz.prog 26) x0 ) fun x1 =>
CM.pu (p1 nnA t0) fun x2 =>
CM.pu (p1 (fun a => fieldAddrA Tryz.prog 87 a 3) x2) fun x3 =>
CM.st (fun m => stV m x3 x1 1) <|
CM.pu (p1 nnA t0) fun x5 =>
CM.pu (p1 (fun a => fieldAddrA Tryz.prog 87 a 2) x5) fun x6 =>
CM.rm (q1 (loadA Tryz.prog 83) x6 ) fun x7 =>
CM.pu (p1 (fun a => fieldAddrA Tryz.prog 44 a 2) t3) fun x8 =>
CM.rm (q1 (loadA Tryz.prog 26) x8 ) fun x9 =>
CM.call 49 [x7, x9] fun _ =>
CM.pu (p1 (fun a => fieldAddrA Tryz.prog 44 a 0) t3) fun x13 =>
CM.rm (q1 (loadA Tryz.prog 3) x13 ) fun x14 =>
CM.pu (p2 (binA Tryz.prog .neq 3) x14 (.int .i64 1)) fun x15 =>
CM.cond x15 (
CM.pu (p1 (buildA Tryz.prog 46) []) fun x16 =>
CM.st (fun m => stV m t4 x16 5) <|
CM.resC Tryz.prog [ResultVar.cell 0 46, ResultVar.tmp 1] [t4, (.bool false)]) (
CM.go 98306 [t0, t3, t4])
theorem g24_1_ok : LeD (real E Mk Nk) g24_1 (fun ts m => goR E Mk 98305 ts m) := apS_le fun _ => apS_le fun _ => apS_le fun _ => ap0_le fun _ => goR_eq 400 (by kernel_rfl)
noncomputable def g24_2 : List AV → CM := apS fun t0 => apS fun t3 => apS fun t4 => ap0 <|
CM.pu (p1 (fun a => fieldAddrA Tryz.prog 44 a 3) t3) fun x0 =>
CM.rm (q1 (loadA Tryz.prog 33) x0 ) fun x1 =>
CM.call 21 [x1] fun x2 =>
CM.pu (p1 (fun a => extractA a 0) x2) fun x3 =>
CM.pu (p1 (fun a => extractA a 1) x2) fun x4 =>
CM.al (some (.cells [(.int .i64 0), (.int .u64 0), (.int .u64 0), (.int .u64 0), (.int .u64 0), (.int .i64 0), (.int .u64 0), (.int .i64 0), (.str []), (.str [])] false, pB)) fun x5 =>
CM.st (fun m => stV m x5 x3 10) <|
CM.pu (p2 (binA Tryz.prog .neq 23) x4 (.int .i64 0)) fun x7 =>
CM.cond x7 (
CM.pu (p1 (buildA Tryz.prog 46) [(0, x4)]) fun x8 =>
CM.st (fun m => stV m t4 x8 5) <|
CM.resC Tryz.prog [ResultVar.cell 0 46, ResultVar.tmp 1] [t4, (.bool true)]) (
CM.pu (p1 (fun a => fieldAddrA Tryz.prog 40 a 0) x5) fun x10 =>
CM.rm (q1 (loadA Tryz.prog 3) x10 ) fun x11 =>
CM.pu (p2 (binA Tryz.prog .eql 3) x11 (.int .i64 1)) fun x12 =>
CM.cond x12 (
CM.pu (p1 nnA t0) fun x13 =>
CM.pu (p1 (fun a => fieldAddrA Tryz.prog 87 a 2) x13) fun x14 =>
CM.rm (q1 (loadA Tryz.prog 83) x14 ) fun x15 =>
CM.pu (p1 (fun a => fieldAddrA Tryz.prog 40 a 1) x5) fun x16 =>
CM.rm (q1 (loadA Tryz.prog 26) x16 ) fun x17 =>
CM.pu (p1 (fun a => fieldAddrA Tryz.prog 44 a 2) t3) fun x18 =>
CM.rm (q1 (loadA Tryz.prog 26) x18 ) fun x19 =>
CM.call 50 [x15, x17, x19] fun x21 =>
CM.pu (p2 (binA Tryz.prog .neq 23) x21 (.int .i64 0)) fun x23 =>
CM.cond x23 (
CM.pu (p1 (buildA Tryz.prog 46) [(0, x21)]) fun x24 =>
CM.st (fun m => stV m t4 x24 5) <|
CM.resC Tryz.prog [ResultVar.cell 0 46, ResultVar.tmp 1] [t4, (.bool true)]) (
CM.go 98307 [t4, x5])) (
CM.go 98308 [t0, t3, t4, x5]))
theorem g24_2_ok : LeD (real E Mk Nk) g24_2 (fun ts m => goR E Mk 98306 ts m) := apS_le fun _ => apS_le fun _ => apS_le fun _ => ap0_le fun _ => goR_eq 400 (by kernel_rfl)
noncomputable def g24_3 : List AV → CM := apS fun t4 => apS fun t7 => ap0 <|
CM.pu (p1 (fun a => fieldAddrA Tryz.prog 40 a 1) t7) fun x0 =>
CM.rm (q1 (loadA Tryz.prog 26) x0 ) fun x1 =>
CM.pu (p1 (buildA Tryz.prog 46) [(1, x1)]) fun x2 =>
CM.st (fun m => stV m t4 x2 5) <|
CM.resC Tryz.prog [ResultVar.cell 0 46, ResultVar.tmp 1] [t4, (.bool true)]
theorem g24_3_ok : LeD (real E Mk Nk) g24_3 (fun ts m => goR E Mk 98307 ts m) := apS_le fun _ => apS_le fun _ => ap0_le fun _ => goR_eq 400 (by kernel_rfl)
noncomputable def g24_4 : List AV → CM := apS fun t0 => apS fun t3 => apS fun t4 => apS fun t7 => ap0 <|
CM.pu (p1 nnA t0) fun x0 =>
CM.pu (p1 (fun a => fieldAddrA Tryz.prog 87 a 2) x0) fun x1 =>
CM.rm (q1 (loadA Tryz.prog 83) x1 ) fun x2 =>
CM.pu (p1 (fun a => fieldAddrA Tryz.prog 40 a 1) t7) fun x3 =>
CM.rm (q1 (loadA Tryz.prog 26) x3 ) fun x4 =>
CM.pu (p1 (fun a => fieldAddrA Tryz.prog 40 a 2) t7) fun x5 =>
CM.rm (q1 (loadA Tryz.prog 26) x5 ) fun x6 =>
CM.pu (p1 (fun a => fieldAddrA Tryz.prog 44 a 2) t3) fun x7 =>
CM.rm (q1 (loadA Tryz.prog 26) x7 ) fun x8 =>
CM.call 51 [x2, x4, x6, x8] fun x10 =>
CM.pu (p1 (fun a => extractA a 0) x10) fun x12 =>
CM.pu (p1 (fun a => extractA a 1) x10) fun x13 =>
CM.pu (p1 (fun a => extractA a 2) x10) fun x14 =>
CM.al (some (.cells [(.int .i64 0), (.int .u64 0), (.int .i64 0), (.int .u64 0), (.int .i64 0)] false, pB)) fun x15 =>
CM.st (fun m => stV m x15 x12 5) <|
CM.pu (p2 (binA Tryz.prog .neq 23) x14 (.int .i64 0)) fun x19 =>
CM.cond x19 (
CM.pu (p1 (buildA Tryz.prog 46) [(0, x14)]) fun x20 =>
CM.st (fun m => stV m t4 x20 5) <|
CM.resC Tryz.prog [ResultVar.cell 0 46, ResultVar.tmp 1] [t4, (.bool true)]) (
CM.cond x13 (
CM.rm (q1 (loadA Tryz.prog 46) x15 ) fun x22 =>
CM.st (fun m => stV m t4 x22 5) <|
CM.resC Tryz.prog [ResultVar.cell 0 46, ResultVar.tmp 1] [t4, (.bool true)]) (
CM.go 98309 [t0, t4, t7, x15]))
theorem g24_4_ok : LeD (real E Mk Nk) g24_4 (fun ts m => goR E Mk 98308 ts m) := apS_le fun _ => apS_le fun _ => apS_le fun _ => apS_le fun _ => ap0_le fun _ => goR_eq 400 (by kernel_rfl)
noncomputable def g24_5 : List AV → CM := apS fun t0 => apS fun t4 => apS fun t7 => apS fun t9 => ap0 <|
CM.rm (q1 (loadA Tryz.prog 40) t7 ) fun x0 =>
CM.call 52 [t0, x0] fun x1 =>
CM.st (fun m => stV m t9 x1 5) <|
CM.pu (p1 (fun a => fieldAddrA Tryz.prog 46 a 0) t9) fun x3 =>
CM.rm (q1 (loadA Tryz.prog 23) x3 ) fun x4 =>
CM.pu (p2 (binA Tryz.prog .neq 23) x4 (.int .i64 0)) fun x5 =>
CM.cond x5 (
CM.pu (p1 (fun a => fieldAddrA Tryz.prog 46 a 0) t9) fun x6 =>
CM.rm (q1 (loadA Tryz.prog 23) x6 ) fun x7 =>
CM.pu (p1 (buildA Tryz.prog 46) [(0, x7)]) fun x8 =>
CM.st (fun m => stV m t9 x8 5) <|
CM.go 98310 [t0, t4, t7, t9]) (
CM.go 98310 [t0, t4, t7, t9])
theorem g24_5_ok : LeD (real E Mk Nk) g24_5 (fun ts m => goR E Mk 98309 ts m) := apS_le fun _ => apS_le fun _ => apS_le fun _ => apS_le fun _ => ap0_le fun _ => goR_eq 400 (by kernel_rfl)
noncomputable def g24_6 : List AV → CM := apS fun t0 => apS fun t4 => apS fun t7 => apS fun t9 => ap0 <|
CM.pu (p1 nnA t0) fun x0 =>
CM.pu (p1 (fun a => fieldAddrA Tryz.prog 87 a 2) x0) fun x1 =>
CM.rm (q1 (loadA Tryz.prog 83) x1 ) fun x2 =>
CM.pu (p1 (fun a => fieldAddrA Tryz.prog 40 a 1) t7) fun x3 =>
CM.rm (q1 (loadA Tryz.prog 26) x3 ) fun x4 =>
CM.pu (p1 (fun a => fieldAddrA Tryz.prog 40 a 2) t7) fun x5 =>
CM.rm (q1 (loadA Tryz.prog 26) x5 ) fun x6 =>
CM.rm (q1 (loadA Tryz.prog 46) t9 ) fun x7 =>
CM.call 53 [x2, x4, x6, x7] fun _ =>
CM.rm (q1 (loadA Tryz.prog 46) t9 ) fun x11 =>
CM.st (fun m => stV m t4 x11 5) <|
CM.resC Tryz.prog [ResultVar.cell 0 46, ResultVar.tmp 1] [t4, (.bool true)]
theorem g24_6_ok : LeD (real E Mk Nk) g24_6 (fun ts m => goR E Mk 98310 ts m) := apS_le fun _ => apS_le fun _ => apS_le fun _ => apS_le fun _ => ap0_le fun _ => goR_eq 400 (by kernel_rfl)
noncomputable def f24 : List AV → CM := apS fun a0 => apS fun a1 => ap0 <|
CM.al (boxA a1) fun x0 =>
CM.al (some (.cells [(.int .i64 0), (.int .u64 0), (.int .i64 0), (.int .u64 0), (.int .i64 0)] false, pB)) fun x1 =>
CM.pu (p1 (fun a => fieldAddrA Tryz.prog 44 a 0) x0) fun x2 =>
CM.rm (q1 (loadA Tryz.prog 3) x2 ) fun x3 =>
CM.pu (p2 (binA Tryz.prog .eql 3) x3 (.int .i64 0)) fun x4 =>
CM.ifv x4 (
CM.go 98304 [a0, x0, x1, (.bool true)]) (
CM.pu (p1 (fun a => fieldAddrA Tryz.prog 44 a 0) x0) fun x5 =>
CM.rm (q1 (loadA Tryz.prog 3) x5 ) fun x6 =>
CM.pu (p2 (binA Tryz.prog .eql 3) x6 (.int .i64 1)) fun x7 =>
CM.ifv x7 (
CM.go 98304 [a0, x0, x1, (.bool true)]) (
CM.pu (p1 (fun a => fieldAddrA Tryz.prog 44 a 0) x0) fun x8 =>
CM.rm (q1 (loadA Tryz.prog 3) x8 ) fun x9 =>
CM.pu (p2 (binA Tryz.prog .eql 3) x9 (.int .i64 2)) fun x10 =>
CM.go 98304 [a0, x0, x1, x10]))
theorem f24_ok : LeD (real E Mk Nk) f24 (fun xs m => run E (.fn 24) xs m) := apS_le fun _ => apS_le fun _ => ap0_le fun _ => run_eq 400 rfl (by kernel_rfl) (by kernel_rfl)
end Go.Proofs.YtfiipajgdhafaaaGreat.T
