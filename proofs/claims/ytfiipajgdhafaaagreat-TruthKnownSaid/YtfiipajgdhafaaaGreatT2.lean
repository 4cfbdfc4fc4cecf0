/- Functions as trees, printed by our own program (wip/tools/gen3.lean). -/
import Derived.Test.YtfiipajgdhafaaaGreatT0
namespace Go.Proofs.YtfiipajgdhafaaaGreat.T
open Go Go.Abs Go.Proofs.YtfiipajgdhafaaaGreat
set_option maxRecDepth 10000
noncomputable def g25_0 : List AV → CM := apS fun t0 => apS fun t1 => apS fun t4 => ap0 <|
CM.pu (p1 nnA t0) fun x0 =>
CM.pu (p1 (fun a => fieldAddrA Tryz.prog 64 a 1) x0) fun x1 =>
CM.rm (q1 (loadA Tryz.prog 61) x1 ) fun x2 =>
CM.pu (p2 (binA Tryz.prog .sub 26) t1 (.int .u64 1)) fun x3 =>
CM.pu (p2 (indexAddrA Tryz.prog 61) x2 x3) fun x4 =>
CM.rm (q1 (loadA Tryz.prog 59) x4 ) fun x5 =>
CM.st (fun m => stV m t4 x5 12) <|
CM.resC Tryz.prog [ResultVar.cell 0 59, ResultVar.tmp 1] [t4, (.bool true)]
theorem g25_0_ok : LeD (real E Mk Nk) g25_0 (fun ts m => goR E Mk 102400 ts m) := apS_le fun _ => apS_le fun _ => apS_le fun _ => ap0_le fun _ => goR_eq 400 (by kernel_rfl)
noncomputable def f25 : List AV → CM := apS fun a0 => apS fun a1 => ap0 <|
CM.al (some (.cells [(.int .i64 0), (.int .u64 0), (.int .u64 0), (.sl none 0 0 0 true), (.int .i64 0), (.sl none 0 0 0 true), (.int .i64 0), (.int .u64 0), (.int .i64 0), (.int .u64 0), (.int .i64 0), (.bool false)] false, pB)) fun x0 =>
CM.pu (p2 (binA Tryz.prog .lss 26) a1 (.int .u64 1)) fun x1 =>
CM.ifv x1 (
CM.pu (p1 (buildA Tryz.prog 59) []) fun x2 =>
CM.st (fun m => stV m x0 x2 12) <|
CM.resC Tryz.prog [ResultVar.cell 0 59, ResultVar.tmp 1] [x0, (.bool false)]) (
CM.call 17 [a0] fun x4 =>
CM.pu (p2 (binA Tryz.prog .gtr 26) a1 x4) fun x5 =>
CM.cond x5 (
CM.pu (p1 (buildA Tryz.prog 59) []) fun x6 =>
CM.st (fun m => stV m x0 x6 12) <|
CM.resC Tryz.prog [ResultVar.cell 0 59, ResultVar.tmp 1] [x0, (.bool false)]) (
CM.go 102400 [a0, a1, x0]))
theorem f25_ok : LeD (real E Mk Nk) f25 (fun xs m => run E (.fn 25) xs m) := apS_le fun _ => apS_le fun _ => ap0_le fun _ => run_eq 400 rfl (by kernel_rfl) (by kernel_rfl)
noncomputable def g26_0 : List AV → CM := apS fun t1 => apS fun t3 => ap0 <|
CM.pu (p1 (fun a => fieldAddrA Tryz.prog 28 a 5) t1) fun x0 =>
CM.rm (q1 (loadA Tryz.prog 3) x0 ) fun x1 =>
CM.call 54 [x1, (.int .i64 4), (.int .i64 1024)] fun x2 =>
CM.ifv x2 (
CM.pu (p1 (fun a => fieldAddrA Tryz.prog 28 a 6) t1) fun x3 =>
CM.rm (q1 (loadA Tryz.prog 3) x3 ) fun x4 =>
CM.call 54 [x4, (.int .i64 64), (.int .i64 16384)] fun x5 =>
CM.ifv x5 (
CM.pu (p1 (fun a => fieldAddrA Tryz.prog 28 a 7) t1) fun x6 =>
CM.rm (q1 (loadA Tryz.prog 3) x6 ) fun x7 =>
CM.call 54 [x7, (.int .i64 0), (.int .i64 1048576)] fun x8 =>
CM.ifv x8 (
CM.pu (p1 (fun a => fieldAddrA Tryz.prog 28 a 8) t1) fun x9 =>
CM.rm (q1 (loadA Tryz.prog 3) x9 ) fun x10 =>
CM.call 54 [x10, (.int .i64 1), (.int .i64 256)] fun x11 =>
CM.ifv x11 (
CM.pu (p1 (fun a => fieldAddrA Tryz.prog 28 a 9) t1) fun x12 =>
CM.rm (q1 (loadA Tryz.prog 3) x12 ) fun x13 =>
CM.call 54 [x13, (.int .i64 1), (.int .i64 32)] fun x14 =>
CM.go 106497 [t1, t3, x14]) (
CM.go 106497 [t1, t3, (.bool false)])) (
CM.go 106497 [t1, t3, (.bool false)])) (
CM.go 106497 [t1, t3, (.bool false)])) (
CM.go 106497 [t1, t3, (.bool false)])
theorem g26_0_ok : LeD (real E Mk Nk) g26_0 (fun ts m => goR E Mk 106496 ts m) := apS_le fun _ => apS_le fun _ => ap0_le fun _ => goR_eq 400 (by kernel_rfl)
noncomputable def g26_1 : List AV → CM := apS fun t1 => apS fun t3 => apS fun t4 => ap0 <|
CM.ifv t3 (
CM.ifv t4 (
CM.pu (p1 (fun a => fieldAddrA Tryz.prog 28 a 10) t1) fun x0 =>
CM.rm (q1 (loadA Tryz.prog 3) x0 ) fun x1 =>
CM.call 54 [x1, (.int .i64 1), (.int .i64 64)] fun x2 =>
CM.ifv x2 (
CM.pu (p1 (fun a => fieldAddrA Tryz.prog 28 a 11) t1) fun x3 =>
CM.rm (q1 (loadA Tryz.prog 3) x3 ) fun x4 =>
CM.call 54 [x4, (.int .i64 1), (.int .i64 16)] fun x5 =>
CM.ifv x5 (
CM.pu (p1 (fun a => fieldAddrA Tryz.prog 28 a 12) t1) fun x6 =>
CM.rm (q1 (loadA Tryz.prog 26) x6 ) fun x7 =>
CM.pu (p2 (binA Tryz.prog .geq 26) x7 (.int .u64 1)) fun x8 =>
CM.ifv x8 (
CM.pu (p1 (fun a => fieldAddrA Tryz.prog 28 a 12) t1) fun x9 =>
CM.rm (q1 (loadA Tryz.prog 26) x9 ) fun x10 =>
CM.pu (p2 (binA Tryz.prog .leq 26) x10 (.int .u64 72057594037927935)) fun x11 =>
CM.ret x11) (
CM.ret (.bool false))) (
CM.ret (.bool false))) (
CM.ret (.bool false))) (
CM.ret (.bool false))) (
CM.ret (.bool false))
theorem g26_1_ok : LeD (real E Mk Nk) g26_1 (fun ts m => goR E Mk 106497 ts m) := apS_le fun _ => apS_le fun _ => apS_le fun _ => ap0_le fun _ => goR_eq 400 (by kernel_rfl)
noncomputable def f26 : List AV → CM := apS fun a0 => ap0 <|
CM.al (boxA a0) fun x0 =>
CM.pu (p1 (fun a => fieldAddrA Tryz.prog 28 a 0) x0) fun x1 =>
CM.rm (q1 (loadA Tryz.prog 3) x1 ) fun x2 =>
CM.call 54 [x2, (.int .i64 1), (.int .i64 7)] fun x4 =>
CM.ifv x4 (
CM.pu (p1 (fun a => fieldAddrA Tryz.prog 28 a 1) x0) fun x6 =>
CM.rm (q1 (loadA Tryz.prog 3) x6 ) fun x7 =>
CM.pu (p2 (binA Tryz.prog .gtr 3) x7 (.int .i64 0)) fun x8 =>
CM.ifv x8 (
CM.pu (p1 (fun a => fieldAddrA Tryz.prog 28 a 1) x0) fun x9 =>
CM.rm (q1 (loadA Tryz.prog 3) x9 ) fun x10 =>
CM.pu (p2 (binA Tryz.prog .and 3) x10 (.int .i64 1)) fun x11 =>
CM.pu (p2 (binA Tryz.prog .eql 3) x11 (.int .i64 0)) fun x12 =>
CM.ifv x12 (
CM.pu (p1 (fun a => fieldAddrA Tryz.prog 28 a 1) x0) fun x13 =>
CM.rm (q1 (loadA Tryz.prog 3) x13 ) fun x14 =>
CM.pu (p1 (fun a => fieldAddrA Tryz.prog 28 a 0) x0) fun x15 =>
CM.rm (q1 (loadA Tryz.prog 3) x15 ) fun x16 =>
CM.pu (p2 (binA Tryz.prog .shl 3) (.int .i64 2) x16) fun x17 =>
CM.pu (p2 (binA Tryz.prog .lss 3) x14 x17) fun x18 =>
CM.ifv x18 (
CM.pu (p1 (fun a => fieldAddrA Tryz.prog 28 a 2) x0) fun x19 =>
CM.rm (q1 (loadA Tryz.prog 3) x19 ) fun x20 =>
CM.call 54 [x20, (.int .i64 2), (.int .i64 1000)] fun x22 =>
CM.ifv x22 (
CM.pu (p1 (fun a => fieldAddrA Tryz.prog 28 a 3) x0) fun x24 =>
CM.rm (q1 (loadA Tryz.prog 3) x24 ) fun x25 =>
CM.pu (p1 (fun a => fieldAddrA Tryz.prog 28 a 2) x0) fun x26 =>
CM.rm (q1 (loadA Tryz.prog 3) x26 ) fun x27 =>
CM.call 54 [x25, x27, (.int .i64 2000)] fun x29 =>
CM.ifv x29 (
CM.pu (p1 (fun a => fieldAddrA Tryz.prog 28 a 4) x0) fun x31 =>
CM.rm (q1 (loadA Tryz.prog 3) x31 ) fun x32 =>
CM.pu (p1 (fun a => fieldAddrA Tryz.prog 28 a 2) x0) fun x33 =>
CM.rm (q1 (loadA Tryz.prog 3) x33 ) fun x34 =>
CM.pu (p2 (binA Tryz.prog .sub 3) x34 (.int .i64 1)) fun x35 =>
CM.call 54 [x32, (.int .i64 1), x35] fun x37 =>
CM.go 106496 [x0, x37]) (
CM.go 106496 [x0, (.bool false)])) (
CM.go 106496 [x0, (.bool false)])) (
CM.go 106496 [x0, (.bool false)])) (
CM.go 106496 [x0, (.bool false)])) (
CM.go 106496 [x0, (.bool false)])) (
CM.go 106496 [x0, (.bool false)])
theorem f26_ok : LeD (real E Mk Nk) f26 (fun xs m => run E (.fn 26) xs m) := apS_le fun _ => ap0_le fun _ => run_eq 400 rfl (by kernel_rfl) (by kernel_rfl)
noncomputable def g27_0 : List AV → CM := apS fun t0 => ap0 <|
CM.pu (p1 (buildA Tryz.prog 128) [(0, t0)]) fun x0 =>
CM.al (boxA x0) fun x1 =>
CM.call 55 [(.int .i64 8)] fun x2 =>
CM.pu (p1 (fun a => extractA a 0) x2) fun x3 =>
CM.pu (p1 (fun a => extractA a 1) x2) fun _ =>
CM.pu (p1 nnA x1) fun x5 =>
CM.pu (p1 (fun a => fieldAddrA Tryz.prog 128 a 1) x5) fun x6 =>
CM.st (fun m => stV m x6 x3 1) <|
CM.call 56 [(.int .i64 64)] fun x8 =>
CM.pu (p1 (fun a => extractA a 0) x8) fun x9 =>
CM.pu (p1 (fun a => extractA a 1) x8) fun _ =>
CM.pu (p1 nnA x1) fun x11 =>
CM.pu (p1 (fun a => fieldAddrA Tryz.prog 128 a 2) x11) fun x12 =>
CM.st (fun m => stV m x12 x9 1) <|
CM.call 57 [t0] fun x14 =>
CM.pu (p1 (fun a => extractA a 0) x14) fun x15 =>
CM.pu (p1 (fun a => extractA a 1) x14) fun _ =>
CM.pu (p1 nnA x1) fun x17 =>
CM.pu (p1 (fun a => fieldAddrA Tryz.prog 128 a 3) x17) fun x18 =>
CM.st (fun m => stV m x18 x15 1) <|
CM.ret (.tup [x1, (.int .i64 0)])
theorem g27_0_ok : LeD (real E Mk Nk) g27_0 (fun ts m => goR E Mk 110592 ts m) := apS_le fun _ => ap0_le fun _ => goR_eq 400 (by kernel_rfl)
noncomputable def f27 : List AV → CM := apS fun a0 => ap0 <|
CM.pu (p2 (binA Tryz.prog .lss 3) a0 (.int .i64 1)) fun x0 =>
CM.ifv x0 (
CM.ret (.tup [(.ptr none), (.int .i64 1)])) (
CM.pu (p2 (binA Tryz.prog .gtr 3) a0 (.int .i64 64)) fun x1 =>
CM.cond x1 (
CM.ret (.tup [(.ptr none), (.int .i64 1)])) (
CM.go 110592 [a0]))
theorem f27_ok : LeD (real E Mk Nk) f27 (fun xs m => run E (.fn 27) xs m) := apS_le fun _ => ap0_le fun _ => run_eq 400 rfl (by kernel_rfl) (by kernel_rfl)
noncomputable def g28_0 : List AV → CM := apS fun t0 => apS fun t1 => ap0 <|
CM.call 59 [t0] fun x0 =>
CM.pu (p1 (fun a => extractA a 0) x0) fun x1 =>
CM.pu (p1 (fun a => extractA a 1) x0) fun _ =>
CM.pu (p1 (buildA Tryz.prog 148) [(0, t1), (1, x1), (2, t0)]) fun x3 =>
CM.al (boxA x3) fun x4 =>
CM.ret (.tup [x4, (.int .i64 0)])
theorem g28_0_ok : LeD (real E Mk Nk) g28_0 (fun ts m => goR E Mk 114688 ts m) := apS_le fun _ => apS_le fun _ => ap0_le fun _ => goR_eq 400 (by kernel_rfl)
noncomputable def f28 : List AV → CM := apS fun a0 => apS fun a1 => ap0 <|
CM.pu (p2 (binA Tryz.prog .lss 3) a0 (.int .i64 1)) fun x0 =>
CM.ifv x0 (
CM.ret (.tup [(.ptr none), (.int .i64 1)])) (
CM.pu (p2 (binA Tryz.prog .gtr 3) a0 (.int .i64 16)) fun x1 =>
CM.ifv x1 (
CM.ret (.tup [(.ptr none), (.int .i64 1)])) (
CM.call 58 [a1] fun x2 =>
CM.pu (p1 (unA .not) x2) fun x3 =>
CM.cond x3 (
CM.ret (.tup [(.ptr none), (.int .i64 1)])) (
CM.go 114688 [a0, a1])))
theorem f28_ok : LeD (real E Mk Nk) f28 (fun xs m => run E (.fn 28) xs m) := apS_le fun _ => apS_le fun _ => ap0_le fun _ => run_eq 400 rfl (by kernel_rfl) (by kernel_rfl)
noncomputable def g29_0 : List AV → CM := apS fun t1 => apS fun t2 => ap0 <|
CM.call 62 [] fun x0 =>
CM.al (some (.cells [(.ptr none)] false, pB)) fun x1 =>
CM.st (fun m => stV m x1 x0 1) <|
CM.al (some (.cells [.nilFn] false, pB)) fun x3 =>
CM.st (fun m => stV m x3 (.fn (.func 63) [] [x1]) 1) <|
CM.rm (q1 (loadA Tryz.prog 151) x1 ) fun x5 =>
CM.pu (p1 (fun a => fieldAddrA Tryz.prog 93 a 0) t2) fun x6 =>
CM.rm (q1 (loadA Tryz.prog 89) x6 ) fun x7 =>
CM.call 66 [x5, x7, (.fn (.func 67) [] [x1, x3])] fun _ =>
CM.rm (q1 (loadA Tryz.prog 151) x1 ) fun x9 =>
CM.pu (p1 (fun a => fieldAddrA Tryz.prog 93 a 1) t2) fun x10 =>
CM.rm (q1 (loadA Tryz.prog 90) x10 ) fun x11 =>
CM.call 70 [x9, x11, (.fn (.func 71) [] [x1, x3])] fun _ =>
CM.rm (q1 (loadA Tryz.prog 151) x1 ) fun x13 =>
CM.pu (p1 (fun a => fieldAddrA Tryz.prog 93 a 3) t2) fun x14 =>
CM.rm (q1 (loadA Tryz.prog 26) x14 ) fun x15 =>
CM.call 65 [x13, x15] fun _ =>
CM.rm (q1 (loadA Tryz.prog 151) x1 ) fun x17 =>
CM.pu (p1 (fun a => fieldAddrA Tryz.prog 93 a 2) t2) fun x18 =>
CM.rm (q1 (loadA Tryz.prog 91) x18 ) fun x19 =>
CM.call 72 [x17, x19, (.fn (.func 73) [] [x1, x3])] fun _ =>
CM.rm (q1 (loadA Tryz.prog 151) x1 ) fun x21 =>
CM.call 74 [x21, t1, (.fn (.func 75) [] [x1])] fun _ =>
CM.rm (q1 (loadA Tryz.prog 151) x1 ) fun x23 =>
CM.call 79 [x23] fun x24 =>
CM.ret (.tup [x24, (.int .i64 0)])
theorem g29_0_ok : LeD (real E Mk Nk) g29_0 (fun ts m => goR E Mk 118784 ts m) := apS_le fun _ => apS_le fun _ => ap0_le fun _ => goR_eq 400 (by kernel_rfl)
noncomputable def f29 : List AV → CM := apS fun a0 => apS fun a1 => ap0 <|
CM.al (boxA a0) fun x0 =>
CM.rm (q1 (loadA Tryz.prog 93) x0 ) fun x1 =>
CM.call 60 [x1, (.int .i64 64)] fun x2 =>
CM.pu (p1 (unA .not) x2) fun x3 =>
CM.ifv x3 (
CM.ret (.tup [(.sl none 0 0 0 true), (.int .i64 1)])) (
CM.call 61 [a1, (.int .i64 16)] fun x4 =>
CM.pu (p1 (unA .not) x4) fun x5 =>
CM.cond x5 (
CM.ret (.tup [(.sl none 0 0 0 true), (.int .i64 1)])) (
CM.go 118784 [a1, x0]))
theorem f29_ok : LeD (real E Mk Nk) f29 (fun xs m => run E (.fn 29) xs m) := apS_le fun _ => apS_le fun _ => ap0_le fun _ => run_eq 400 rfl (by kernel_rfl) (by kernel_rfl)
noncomputable def f30 : List AV → CM := apS fun a0 => ap0 <|
CM.al (some (.cells [(.sl none 0 0 0 true), (.sl none 0 0 0 true), (.sl none 0 0 0 true), (.int .u64 0)] false, pB)) fun x0 =>
CM.pu (p1 nnA a0) fun x1 =>
CM.pu (p1 (fun a => fieldAddrA Tryz.prog 87 a 1) x1) fun x2 =>
CM.rm (q1 (loadA Tryz.prog 80) x2 ) fun x3 =>
CM.call 80 [x3] fun x4 =>
CM.st (fun m => stV m x0 x4 4) <|
CM.resC Tryz.prog [ResultVar.cell 0 93] [x0]
theorem f30_ok : LeD (real E Mk Nk) f30 (fun xs m => run E (.fn 30) xs m) := apS_le fun _ => ap0_le fun _ => run_eq 400 rfl (by kernel_rfl) (by kernel_rfl)
noncomputable def f31 : List AV → CM := apS fun a0 => ap0 <|
CM.pu (p1 nnA a0) fun x0 =>
CM.pu (p1 (fun a => fieldAddrA Tryz.prog 87 a 2) x0) fun x1 =>
CM.rm (q1 (loadA Tryz.prog 83) x1 ) fun x2 =>
CM.call 81 [x2] fun x3 =>
CM.ret x3
theorem f31_ok : LeD (real E Mk Nk) f31 (fun xs m => run E (.fn 31) xs m) := apS_le fun _ => ap0_le fun _ => run_eq 400 rfl (by kernel_rfl) (by kernel_rfl)
noncomputable def g32_0 : List AV → CM := apS fun t0 => apS fun t2 => ap0 <|
CM.call 40 [t0] fun x0 =>
CM.pu (p1 (buildA Tryz.prog 172) [(0, x0)]) fun x1 =>
CM.al (boxA x1) fun x2 =>
CM.call 82 [x2] fun x3 =>
CM.al (some (.cells [(.sl none 0 0 0 true), (.sl none 0 0 0 true), (.sl none 0 0 0 true), (.int .u64 0)] false, pB)) fun x4 =>
CM.st (fun m => stV m x4 x3 4) <|
CM.call 83 [x2] fun x6 =>
CM.pu (p1 nnA x2) fun x7 =>
CM.pu (p1 (fun a => fieldAddrA Tryz.prog 172 a 1) x7) fun x8 =>
CM.rm (q1 (loadA Tryz.prog 23) x8 ) fun x9 =>
CM.pu (p2 (binA Tryz.prog .eql 23) x9 (.int .i64 0)) fun x10 =>
CM.cond x10 (
CM.pu (p1 nnA x2) fun x11 =>
CM.pu (p1 (fun a => fieldAddrA Tryz.prog 172 a 0) x11) fun x12 =>
CM.rm (q1 (loadA Tryz.prog 106) x12 ) fun x13 =>
CM.call 44 [x13] fun x14 =>
CM.go 131073 [t2, x4, x6, x14]) (
CM.go 131073 [t2, x4, x6, x9])
theorem g32_0_ok : LeD (real E Mk Nk) g32_0 (fun ts m => goR E Mk 131072 ts m) := apS_le fun _ => apS_le fun _ => ap0_le fun _ => goR_eq 400 (by kernel_rfl)
noncomputable def g32_1 : List AV → CM := apS fun t2 => apS fun t6 => apS fun t7 => apS fun t8 => ap0 <|
CM.pu (p2 (binA Tryz.prog .eql 23) t8 (.int .i64 0)) fun x0 =>
CM.ifv x0 (
CM.rm (q1 (loadA Tryz.prog 93) t6 ) fun x1 =>
CM.call 60 [x1, (.int .i64 64)] fun x2 =>
CM.pu (p1 (unA .not) x2) fun x3 =>
CM.ifv x3 (
CM.go 131074 [t2, t6, t7, (.int .i64 11)]) (
CM.call 61 [t7, (.int .i64 16)] fun x4 =>
CM.pu (p1 (unA .not) x4) fun x5 =>
CM.cond x5 (
CM.go 131074 [t2, t6, t7, (.int .i64 11)]) (
CM.go 131074 [t2, t6, t7, t8]))) (
CM.go 131074 [t2, t6, t7, t8])
theorem g32_1_ok : LeD (real E Mk Nk) g32_1 (fun ts m => goR E Mk 131073 ts m) := apS_le fun _ => apS_le fun _ => apS_le fun _ => apS_le fun _ => ap0_le fun _ => goR_eq 400 (by kernel_rfl)
noncomputable def g32_2 : List AV → CM := apS fun t2 => apS fun t6 => apS fun t7 => apS fun t8 => ap0 <|
CM.pu (p2 (binA Tryz.prog .neq 23) t8 (.int .i64 0)) fun x0 =>
CM.cond x0 (
CM.pu (p1 (buildA Tryz.prog 93) []) fun x1 =>
CM.st (fun m => stV m t2 x1 4) <|
CM.resC Tryz.prog [ResultVar.cell 0 93, ResultVar.tmp 1, ResultVar.tmp 2] [t2, (.sl none 0 0 0 true), t8]) (
CM.go 131075 [t2, t6, t7])
theorem g32_2_ok : LeD (real E Mk Nk) g32_2 (fun ts m => goR E Mk 131074 ts m) := apS_le fun _ => apS_le fun _ => apS_le fun _ => apS_le fun _ => ap0_le fun _ => goR_eq 400 (by kernel_rfl)
noncomputable def g32_3 : List AV → CM := apS fun t2 => apS fun t6 => apS fun t7 => ap0 <|
CM.rm (q1 (loadA Tryz.prog 93) t6 ) fun x0 =>
CM.st (fun m => stV m t2 x0 4) <|
CM.resC Tryz.prog [ResultVar.cell 0 93, ResultVar.tmp 1, ResultVar.tmp 2] [t2, t7, (.int .i64 0)]
theorem g32_3_ok : LeD (real E Mk Nk) g32_3 (fun ts m => goR E Mk 131075 ts m) := apS_le fun _ => apS_le fun _ => apS_le fun _ => ap0_le fun _ => goR_eq 400 (by kernel_rfl)
noncomputable def f32 : List AV → CM := apS fun a0 => ap0 <|
CM.al (some (.cells [(.sl none 0 0 0 true), (.sl none 0 0 0 true), (.sl none 0 0 0 true), (.int .u64 0)] false, pB)) fun x0 =>
CM.pu (p1 (lenT Tryz.prog 33) a0) fun x1 =>
CM.pu (p2 (binA Tryz.prog .gtr 3) x1 (.int .i64 32768)) fun x2 =>
CM.cond x2 (
CM.pu (p1 (buildA Tryz.prog 93) []) fun x3 =>
CM.st (fun m => stV m x0 x3 4) <|
CM.resC Tryz.prog [ResultVar.cell 0 93, ResultVar.tmp 1, ResultVar.tmp 2] [x0, (.sl none 0 0 0 true), (.int .i64 12)]) (
CM.go 131072 [a0, x0])
theorem f32_ok : LeD (real E Mk Nk) f32 (fun xs m => run E (.fn 32) xs m) := apS_le fun _ => ap0_le fun _ => run_eq 400 rfl (by kernel_rfl) (by kernel_rfl)
noncomputable def g33_0 : List AV → CM := apS fun t1 => apS fun t2 => ap0 <|
CM.call 27 [t1] fun x0 =>
CM.pu (p1 (fun a => extractA a 0) x0) fun x1 =>
CM.pu (p1 (fun a => extractA a 1) x0) fun x2 =>
CM.pu (p2 (binA Tryz.prog .neq 23) x2 (.int .i64 0)) fun x3 =>
CM.cond x3 (
CM.ret (.tup [(.ptr none), x2])) (
CM.go 135169 [t2, x1])
theorem g33_0_ok : LeD (real E Mk Nk) g33_0 (fun ts m => goR E Mk 135168 ts m) := apS_le fun _ => apS_le fun _ => ap0_le fun _ => goR_eq 400 (by kernel_rfl)
noncomputable def g33_1 : List AV → CM := apS fun t2 => apS fun t6 => ap0 <|
CM.pu (p1 (fun a => fieldAddrA Tryz.prog 93 a 0) t2) fun x0 =>
CM.rm (q1 (loadA Tryz.prog 89) x0 ) fun x1 =>
CM.pu (p1 (lenT Tryz.prog 89) x1) fun x2 =>
CM.go 135170 [t2, t6, x1, x2, (.int .i64 0)]
theorem g33_1_ok : LeD (real E Mk Nk) g33_1 (fun ts m => goR E Mk 135169 ts m) := apS_le fun _ => apS_le fun _ => ap0_le fun _ => goR_eq 400 (by kernel_rfl)
noncomputable def g33_2 : List AV → CM := apS fun t2 => apS fun t6 => apS fun t27 => apS fun t28 => apS fun t29 => ap0 <|
CM.pu (p2 (binA Tryz.prog .lss 3) t29 t28) fun x0 =>
CM.cond x0 (
CM.go 135171 [t2, t6, t27, t28, t29]) (
CM.go 135173 [t2, t6])
theorem g33_2_ok : LeD (real E Mk Nk) g33_2 (fun ts m => goR E Mk 135170 ts m) := apS_le fun _ => apS_le fun _ => apS_le fun _ => apS_le fun _ => apS_le fun _ => ap0_le fun _ => goR_eq 400 (by kernel_rfl)
noncomputable def g33_3 : List AV → CM := apS fun t2 => apS fun t6 => apS fun t27 => apS fun t28 => apS fun t29 => ap0 <|
CM.pu (p2 (indexAddrA Tryz.prog 89) t27 t29) fun x0 =>
CM.rm (q1 (loadA Tryz.prog 132) x0 ) fun x1 =>
CM.al (some (.cells [(.str []), (.int .i64 0), (.int .i64 0), (.int .u64 0)] false, pB)) fun x2 =>
CM.st (fun m => stV m x2 x1 4) <|
CM.pu (p1 nnA t6) fun x4 =>
CM.pu (p1 (fun a => fieldAddrA Tryz.prog 128 a 1) x4) fun x5 =>
CM.rm (q1 (loadA Tryz.prog 124) x5 ) fun x6 =>
CM.pu (p1 (fun a => fieldAddrA Tryz.prog 132 a 0) x2) fun x7 =>
CM.rm (q1 (loadA Tryz.prog 9) x7 ) fun x8 =>
CM.rm (q1 (loadA Tryz.prog 132) x2 ) fun x9 =>
CM.call 84 [x6, x8, x9] fun _ =>
CM.go 135172 [t2, t6, t27, t28, t29]
theorem g33_3_ok : LeD (real E Mk Nk) g33_3 (fun ts m => goR E Mk 135171 ts m) := apS_le fun _ => apS_le fun _ => apS_le fun _ => apS_le fun _ => apS_le fun _ => ap0_le fun _ => goR_eq 400 (by kernel_rfl)
noncomputable def g33_4 : List AV → CM := apS fun t2 => apS fun t6 => apS fun t27 => apS fun t28 => apS fun t29 => ap0 <|
CM.pu (p2 (binA Tryz.prog .add 3) t29 (.int .i64 1)) fun x0 =>
CM.go 135170 [t2, t6, t27, t28, x0]
theorem g33_4_ok : LeD (real E Mk Nk) g33_4 (fun ts m => goR E Mk 135172 ts m) := apS_le fun _ => apS_le fun _ => apS_le fun _ => apS_le fun _ => apS_le fun _ => ap0_le fun _ => goR_eq 400 (by kernel_rfl)
noncomputable def g33_5 : List AV → CM := apS fun t2 => apS fun t6 => ap0 <|
CM.pu (p1 (fun a => fieldAddrA Tryz.prog 93 a 1) t2) fun x0 =>
CM.rm (q1 (loadA Tryz.prog 90) x0 ) fun x1 =>
CM.pu (p1 (lenT Tryz.prog 90) x1) fun x2 =>
CM.go 135174 [t2, t6, x1, x2, (.int .i64 0)]
theorem g33_5_ok : LeD (real E Mk Nk) g33_5 (fun ts m => goR E Mk 135173 ts m) := apS_le fun _ => apS_le fun _ => ap0_le fun _ => goR_eq 400 (by kernel_rfl)
noncomputable def g33_6 : List AV → CM := apS fun t2 => apS fun t6 => apS fun t43 => apS fun t44 => apS fun t45 => ap0 <|
CM.pu (p2 (binA Tryz.prog .lss 3) t45 t44) fun x0 =>
CM.cond x0 (
CM.go 135175 [t2, t6, t43, t44, t45]) (
CM.go 135177 [t2, t6])
theorem g33_6_ok : LeD (real E Mk Nk) g33_6 (fun ts m => goR E Mk 135174 ts m) := apS_le fun _ => apS_le fun _ => apS_le fun _ => apS_le fun _ => apS_le fun _ => ap0_le fun _ => goR_eq 400 (by kernel_rfl)
noncomputable def g33_7 : List AV → CM := apS fun t2 => apS fun t6 => apS fun t43 => apS fun t44 => apS fun t45 => ap0 <|
CM.pu (p2 (indexAddrA Tryz.prog 90) t43 t45) fun x0 =>
CM.rm (q1 (loadA Tryz.prog 136) x0 ) fun x1 =>
CM.al (some (.cells [(.str []), (.str []), (.int .i64 0), (.int .u64 0), (.int .i64 0), (.int .i64 0), (.int .u64 0), (.int .i64 0), (.int .u64 0)] false, pB)) fun x2 =>
CM.st (fun m => stV m x2 x1 9) <|
CM.pu (p1 nnA t6) fun x4 =>
CM.pu (p1 (fun a => fieldAddrA Tryz.prog 128 a 2) x4) fun x5 =>
CM.rm (q1 (loadA Tryz.prog 125) x5 ) fun x6 =>
CM.pu (p1 (fun a => fieldAddrA Tryz.prog 136 a 0) x2) fun x7 =>
CM.rm (q1 (loadA Tryz.prog 9) x7 ) fun x8 =>
CM.pu (p1 (fun a => fieldAddrA Tryz.prog 136 a 1) x2) fun x9 =>
CM.rm (q1 (loadA Tryz.prog 9) x9 ) fun x10 =>
CM.pu (p2 (binA Tryz.prog .add 9) x8 x10) fun x11 =>
CM.rm (q1 (loadA Tryz.prog 136) x2 ) fun x12 =>
CM.call 85 [x6, x11, x12] fun _ =>
CM.go 135176 [t2, t6, t43, t44, t45]
theorem g33_7_ok : LeD (real E Mk Nk) g33_7 (fun ts m => goR E Mk 135175 ts m) := apS_le fun _ => apS_le fun _ => apS_le fun _ => apS_le fun _ => apS_le fun _ => ap0_le fun _ => goR_eq 400 (by kernel_rfl)
noncomputable def g33_8 : List AV → CM := apS fun t2 => apS fun t6 => apS fun t43 => apS fun t44 => apS fun t45 => ap0 <|
CM.pu (p2 (binA Tryz.prog .add 3) t45 (.int .i64 1)) fun x0 =>
CM.go 135174 [t2, t6, t43, t44, x0]
theorem g33_8_ok : LeD (real E Mk Nk) g33_8 (fun ts m => goR E Mk 135176 ts m) := apS_le fun _ => apS_le fun _ => apS_le fun _ => apS_le fun _ => apS_le fun _ => ap0_le fun _ => goR_eq 400 (by kernel_rfl)
noncomputable def g33_9 : List AV → CM := apS fun t2 => apS fun t6 => ap0 <|
CM.pu (p1 (fun a => fieldAddrA Tryz.prog 93 a 2) t2) fun x0 =>
CM.rm (q1 (loadA Tryz.prog 91) x0 ) fun x1 =>
CM.pu (p1 (lenT Tryz.prog 91) x1) fun x2 =>
CM.go 135178 [t2, t6, x1, x2, (.int .i64 0)]
theorem g33_9_ok : LeD (real E Mk Nk) g33_9 (fun ts m => goR E Mk 135177 ts m) := apS_le fun _ => apS_le fun _ => ap0_le fun _ => goR_eq 400 (by kernel_rfl)
noncomputable def g33_10 : List AV → CM := apS fun t2 => apS fun t6 => apS fun t62 => apS fun t63 => apS fun t64 => ap0 <|
CM.pu (p2 (binA Tryz.prog .lss 3) t64 t63) fun x0 =>
CM.cond x0 (
CM.go 135179 [t2, t6, t62, t63, t64]) (
CM.go 135181 [t2, t6])
theorem g33_10_ok : LeD (real E Mk Nk) g33_10 (fun ts m => goR E Mk 135178 ts m) := apS_le fun _ => apS_le fun _ => apS_le fun _ => apS_le fun _ => apS_le fun _ => ap0_le fun _ => goR_eq 400 (by kernel_rfl)
noncomputable def g33_11 : List AV → CM := apS fun t2 => apS fun t6 => apS fun t62 => apS fun t63 => apS fun t64 => ap0 <|
CM.pu (p2 (indexAddrA Tryz.prog 91) t62 t64) fun x0 =>
CM.rm (q1 (loadA Tryz.prog 140) x0 ) fun x1 =>
CM.al (some (.cells [(.int .u64 0), (.str []), (.int .i64 0), (.int .u64 0)] false, pB)) fun x2 =>
CM.st (fun m => stV m x2 x1 4) <|
CM.pu (p1 nnA t6) fun x4 =>
CM.pu (p1 (fun a => fieldAddrA Tryz.prog 128 a 3) x4) fun x5 =>
CM.rm (q1 (loadA Tryz.prog 126) x5 ) fun x6 =>
CM.pu (p1 (fun a => fieldAddrA Tryz.prog 140 a 0) x2) fun x7 =>
CM.rm (q1 (loadA Tryz.prog 26) x7 ) fun x8 =>
CM.rm (q1 (loadA Tryz.prog 140) x2 ) fun x9 =>
CM.call 86 [x6, x8, x9] fun _ =>
CM.go 135180 [t2, t6, t62, t63, t64]
theorem g33_11_ok : LeD (real E Mk Nk) g33_11 (fun ts m => goR E Mk 135179 ts m) := apS_le fun _ => apS_le fun _ => apS_le fun _ => apS_le fun _ => apS_le fun _ => ap0_le fun _ => goR_eq 400 (by kernel_rfl)
noncomputable def g33_12 : List AV → CM := apS fun t2 => apS fun t6 => apS fun t62 => apS fun t63 => apS fun t64 => ap0 <|
CM.pu (p2 (binA Tryz.prog .add 3) t64 (.int .i64 1)) fun x0 =>
CM.go 135178 [t2, t6, t62, t63, x0]
theorem g33_12_ok : LeD (real E Mk Nk) g33_12 (fun ts m => goR E Mk 135180 ts m) := apS_le fun _ => apS_le fun _ => apS_le fun _ => apS_le fun _ => apS_le fun _ => ap0_le fun _ => goR_eq 400 (by kernel_rfl)
noncomputable def g33_13 : List AV → CM := apS fun t2 => apS fun t6 => ap0 <|
CM.pu (p1 (fun a => fieldAddrA Tryz.prog 93 a 3) t2) fun x0 =>
CM.rm (q1 (loadA Tryz.prog 26) x0 ) fun x1 =>
CM.pu (p1 nnA t6) fun x2 =>
CM.pu (p1 (fun a => fieldAddrA Tryz.prog 128 a 4) x2) fun x3 =>
CM.st (fun m => stV m x3 x1 1) <|
CM.ret (.tup [t6, (.int .i64 0)])
theorem g33_13_ok : LeD (real E Mk Nk) g33_13 (fun ts m => goR E Mk 135181 ts m) := apS_le fun _ => apS_le fun _ => ap0_le fun _ => goR_eq 400 (by kernel_rfl)
noncomputable def f33 : List AV → CM := apS fun a0 => apS fun a1 => ap0 <|
CM.al (boxA a0) fun x0 =>
CM.rm (q1 (loadA Tryz.prog 93) x0 ) fun x1 =>
CM.call 60 [x1, a1] fun x2 =>
CM.pu (p1 (unA .not) x2) fun x3 =>
CM.cond x3 (
CM.ret (.tup [(.ptr none), (.int .i64 1)])) (
CM.go 135168 [a1, x0])
theorem f33_ok : LeD (real E Mk Nk) f33 (fun xs m => run E (.fn 33) xs m) := apS_le fun _ => apS_le fun _ => ap0_le fun _ => run_eq 400 rfl (by kernel_rfl) (by kernel_rfl)
noncomputable def g34_0 : List AV → CM := apS fun t0 => apS fun t1 => apS fun t2 => ap0 <|
CM.call 28 [t1, t2] fun x0 =>
CM.pu (p1 (fun a => extractA a 0) x0) fun x1 =>
CM.pu (p1 (fun a => extractA a 1) x0) fun x2 =>
CM.pu (p2 (binA Tryz.prog .neq 23) x2 (.int .i64 0)) fun x3 =>
CM.cond x3 (
CM.ret (.tup [(.ptr none), x2])) (
CM.go 139265 [t0, x1])
theorem g34_0_ok : LeD (real E Mk Nk) g34_0 (fun ts m => goR E Mk 139264 ts m) := apS_le fun _ => apS_le fun _ => apS_le fun _ => ap0_le fun _ => goR_eq 400 (by kernel_rfl)
noncomputable def g34_1 : List AV → CM := apS fun t0 => apS fun t8 => ap0 <|
CM.pu (p1 (lenT Tryz.prog 95) t0) fun x0 =>
CM.go 139266 [t8, t0, x0, (.int .i64 0)]
theorem g34_1_ok : LeD (real E Mk Nk) g34_1 (fun ts m => goR E Mk 139265 ts m) := apS_le fun _ => apS_le fun _ => ap0_le fun _ => goR_eq 400 (by kernel_rfl)
noncomputable def g34_2 : List AV → CM := apS fun t8 => apS fun t25 => apS fun t26 => apS fun t27 => ap0 <|
CM.pu (p2 (binA Tryz.prog .lss 3) t27 t26) fun x0 =>
CM.cond x0 (
CM.go 139267 [t8, t25, t26, t27]) (
CM.go 139269 [t8])
theorem g34_2_ok : LeD (real E Mk Nk) g34_2 (fun ts m => goR E Mk 139266 ts m) := apS_le fun _ => apS_le fun _ => apS_le fun _ => apS_le fun _ => ap0_le fun _ => goR_eq 400 (by kernel_rfl)
noncomputable def g34_3 : List AV → CM := apS fun t8 => apS fun t25 => apS fun t26 => apS fun t27 => ap0 <|
CM.pu (p2 (indexAddrA Tryz.prog 95) t25 t27) fun x0 =>
CM.rm (q1 (loadA Tryz.prog 146) x0 ) fun x1 =>
CM.al (some (.cells [(.int .u64 0), (.int .u64 0), (.int .u64 0), (.sl none 0 0 0 true)] false, pB)) fun x2 =>
CM.st (fun m => stV m x2 x1 4) <|
CM.pu (p1 nnA t8) fun x4 =>
CM.pu (p1 (fun a => fieldAddrA Tryz.prog 148 a 1) x4) fun x5 =>
CM.rm (q1 (loadA Tryz.prog 141) x5 ) fun x6 =>
CM.pu (p1 (fun a => fieldAddrA Tryz.prog 146 a 0) x2) fun x7 =>
CM.rm (q1 (loadA Tryz.prog 26) x7 ) fun x8 =>
CM.rm (q1 (loadA Tryz.prog 146) x2 ) fun x9 =>
CM.call 88 [x9] fun x11 =>
CM.memo fun m12 =>
CM.chk (q1 (loadA Tryz.prog 26) x7 m12) x8 <|
CM.chk (q1 (loadA Tryz.prog 141) x5 m12) x6 <|
CM.call 87 [x6, x8, x11] fun _ =>
CM.go 139268 [t8, t25, t26, t27]
theorem g34_3_ok : LeD (real E Mk Nk) g34_3 (fun ts m => goR E Mk 139267 ts m) := apS_le fun _ => apS_le fun _ => apS_le fun _ => apS_le fun _ => ap0_le fun _ => goR_eq 400 (by kernel_rfl)
noncomputable def g34_4 : List AV → CM := apS fun t8 => apS fun t25 => apS fun t26 => apS fun t27 => ap0 <|
CM.pu (p2 (binA Tryz.prog .add 3) t27 (.int .i64 1)) fun x0 =>
CM.go 139266 [t8, t25, t26, x0]
theorem g34_4_ok : LeD (real E Mk Nk) g34_4 (fun ts m => goR E Mk 139268 ts m) := apS_le fun _ => apS_le fun _ => apS_le fun _ => apS_le fun _ => ap0_le fun _ => goR_eq 400 (by kernel_rfl)
noncomputable def g34_5 : List AV → CM := apS fun t8 => ap0 <|
CM.ret (.tup [t8, (.int .i64 0)])
theorem g34_5_ok : LeD (real E Mk Nk) g34_5 (fun ts m => goR E Mk 139269 ts m) := apS_le fun _ => ap0_le fun _ => goR_eq 400 (by kernel_rfl)
noncomputable def f34 : List AV → CM := apS fun a0 => apS fun a1 => apS fun a2 => ap0 <|
CM.call 61 [a0, a1] fun x0 =>
CM.pu (p1 (unA .not) x0) fun x1 =>
CM.cond x1 (
CM.ret (.tup [(.ptr none), (.int .i64 1)])) (
CM.go 139264 [a0, a1, a2])
theorem f34_ok : LeD (real E Mk Nk) f34 (fun xs m => run E (.fn 34) xs m) := apS_le fun _ => apS_le fun _ => apS_le fun _ => ap0_le fun _ => run_eq 400 rfl (by kernel_rfl) (by kernel_rfl)
noncomputable def g35_0 : List AV → CM := apS fun t1 => apS fun t3 => ap0 <|
CM.call 38 [t3, (.str [97])] fun x0 =>
CM.pu (p1 (unA .not) x0) fun x1 =>
CM.ifv x1 (
CM.pu (p1 (fun a => fieldAddrA Tryz.prog 40 a 3) t1) fun x2 =>
CM.rm (q1 (loadA Tryz.prog 26) x2 ) fun x3 =>
CM.pu (p2 (binA Tryz.prog .neq 26) x3 (.int .u64 0)) fun x4 =>
CM.ifv x4 (
CM.ret (.bool false)) (
CM.call 38 [t3, (.str [98])] fun x5 =>
CM.pu (p1 (unA .not) x5) fun x6 =>
CM.ifv x6 (
CM.pu (p1 (fun a => fieldAddrA Tryz.prog 40 a 4) t1) fun x7 =>
CM.rm (q1 (loadA Tryz.prog 26) x7 ) fun x8 =>
CM.pu (p2 (binA Tryz.prog .neq 26) x8 (.int .u64 0)) fun x9 =>
CM.cond x9 (
CM.ret (.bool false)) (
CM.go 143361 [t1, t3])) (
CM.go 143361 [t1, t3]))) (
CM.call 38 [t3, (.str [98])] fun x10 =>
CM.pu (p1 (unA .not) x10) fun x11 =>
CM.ifv x11 (
CM.pu (p1 (fun a => fieldAddrA Tryz.prog 40 a 4) t1) fun x12 =>
CM.rm (q1 (loadA Tryz.prog 26) x12 ) fun x13 =>
CM.pu (p2 (binA Tryz.prog .neq 26) x13 (.int .u64 0)) fun x14 =>
CM.cond x14 (
CM.ret (.bool false)) (
CM.go 143361 [t1, t3])) (
CM.go 143361 [t1, t3]))
theorem g35_0_ok : LeD (real E Mk Nk) g35_0 (fun ts m => goR E Mk 143360 ts m) := apS_le fun _ => apS_le fun _ => ap0_le fun _ => goR_eq 400 (by kernel_rfl)
noncomputable def g35_1 : List AV → CM := apS fun t1 => apS fun t3 => ap0 <|
CM.call 38 [t3, (.str [97, 109, 111, 117, 110, 116])] fun x0 =>
CM.pu (p1 (unA .not) x0) fun x1 =>
CM.cond x1 (
CM.pu (p1 (fun a => fieldAddrA Tryz.prog 40 a 5) t1) fun x2 =>
CM.rm (q1 (loadA Tryz.prog 38) x2 ) fun x3 =>
CM.pu (p1 (buildA Tryz.prog 38) []) fun x4 =>
CM.pu (p2 (binA Tryz.prog .eql 38) x3 x4) fun x5 =>
CM.ret x5) (
CM.go 143362 [t1])
theorem g35_1_ok : LeD (real E Mk Nk) g35_1 (fun ts m => goR E Mk 143361 ts m) := apS_le fun _ => apS_le fun _ => ap0_le fun _ => goR_eq 400 (by kernel_rfl)
noncomputable def g35_2 : List AV → CM := apS fun t1 => ap0 <|
CM.pu (p1 (fun a => fieldAddrA Tryz.prog 40 a 5) t1) fun x0 =>
CM.pu (p1 (fun a => fieldAddrA Tryz.prog 38 a 1) x0) fun x1 =>
CM.rm (q1 (loadA Tryz.prog 3) x1 ) fun x2 =>
CM.pu (p2 (binA Tryz.prog .geq 3) x2 (.int .i64 0)) fun x3 =>
CM.ifv x3 (
CM.pu (p1 (fun a => fieldAddrA Tryz.prog 40 a 5) t1) fun x4 =>
CM.pu (p1 (fun a => fieldAddrA Tryz.prog 38 a 1) x4) fun x5 =>
CM.rm (q1 (loadA Tryz.prog 3) x5 ) fun x6 =>
CM.pu (p2 (binA Tryz.prog .leq 3) x6 (.int .i64 18)) fun x7 =>
CM.ret x7) (
CM.ret (.bool false))
theorem g35_2_ok : LeD (real E Mk Nk) g35_2 (fun ts m => goR E Mk 143362 ts m) := apS_le fun _ => ap0_le fun _ => goR_eq 400 (by kernel_rfl)
noncomputable def f35 : List AV → CM := apS fun a0 => ap0 <|
CM.al (boxA a0) fun x0 =>
CM.pu (p1 (fun a => fieldAddrA Tryz.prog 40 a 0) x0) fun x1 =>
CM.rm (q1 (loadA Tryz.prog 3) x1 ) fun x2 =>
CM.call 36 [x2] fun x3 =>
CM.pu (p2 (binA Tryz.prog .eql 9) x3 (.str [])) fun x4 =>
CM.ifv x4 (
CM.ret (.bool false)) (
CM.pu (p1 (fun a => fieldAddrA Tryz.prog 40 a 1) x0) fun x5 =>
CM.rm (q1 (loadA Tryz.prog 26) x5 ) fun x6 =>
CM.call 89 [(.bool true), x6] fun x8 =>
CM.pu (p1 (unA .not) x8) fun x10 =>
CM.ifv x10 (
CM.ret (.bool false)) (
CM.memo fun m11 =>
CM.call 38 [x3, (.str [115, 101, 113])] fun x12 =>
CM.pu (p1 (fun a => fieldAddrA Tryz.prog 40 a 2) x0) fun x14 =>
CM.rm (q1 (loadA Tryz.prog 26) x14 ) fun x15 =>
CM.chk (q1 (loadA Tryz.prog 26) x14 m11) x15 <|
CM.call 89 [x12, x15] fun x17 =>
CM.pu (p1 (unA .not) x17) fun x19 =>
CM.ifv x19 (
CM.ret (.bool false)) (
CM.memo fun m20 =>
CM.call 38 [x3, (.str [120])] fun x21 =>
CM.pu (p1 (fun a => fieldAddrA Tryz.prog 40 a 6) x0) fun x23 =>
CM.rm (q1 (loadA Tryz.prog 9) x23 ) fun x24 =>
CM.chk (q1 (loadA Tryz.prog 9) x23 m20) x24 <|
CM.call 90 [x21, x24] fun x26 =>
CM.pu (p1 (unA .not) x26) fun x28 =>
CM.ifv x28 (
CM.ret (.bool false)) (
CM.memo fun m29 =>
CM.call 38 [x3, (.str [121])] fun x30 =>
CM.pu (p1 (fun a => fieldAddrA Tryz.prog 40 a 7) x0) fun x32 =>
CM.rm (q1 (loadA Tryz.prog 9) x32 ) fun x33 =>
CM.chk (q1 (loadA Tryz.prog 9) x32 m29) x33 <|
CM.call 90 [x30, x33] fun x35 =>
CM.pu (p1 (unA .not) x35) fun x37 =>
CM.cond x37 (
CM.ret (.bool false)) (
CM.go 143360 [x0, x3])))))
theorem f35_ok : LeD (real E Mk Nk) f35 (fun xs m => run E (.fn 35) xs m) := apS_le fun _ => ap0_le fun _ => run_eq 400 rfl (by kernel_rfl) (by kernel_rfl)
noncomputable def g36_0 : List AV → CM := apS fun t0 => apS fun t3 => ap0 <|
CM.pu (p2 (indexAddrA Tryz.prog 180) t3 t0) fun x0 =>
CM.rm (q1 (loadA Tryz.prog 9) x0 ) fun x1 =>
CM.ret x1
theorem g36_0_ok : LeD (real E Mk Nk) g36_0 (fun ts m => goR E Mk 147456 ts m) := apS_le fun _ => apS_le fun _ => ap0_le fun _ => goR_eq 400 (by kernel_rfl)
noncomputable def f36 : List AV → CM := apS fun a0 => ap0 <|
CM.pu (p1 (buildA Tryz.prog 180) [(0, (.str [])), (1, (.str [115, 101, 115, 115, 105, 111, 110])), (2, (.str [115, 101, 115, 115, 105, 111, 110, 32, 115, 101, 113, 32, 97, 32, 120])), (3, (.str [115, 101, 115, 115, 105, 111, 110, 32, 115, 101, 113, 32, 120])), (4, (.str [115, 101, 115, 115, 105, 111, 110, 32, 115, 101, 113, 32, 97, 32, 97, 109, 111, 117, 110, 116])), (5, (.str [115, 101, 115, 115, 105, 111, 110, 32, 115, 101, 113, 32, 97, 32, 97, 109, 111, 117, 110, 116])), (6, (.str [115, 101, 115, 115, 105, 111, 110, 32, 115, 101, 113, 32, 97, 32, 98, 32, 97, 109, 111, 117, 110, 116])), (7, (.str [115, 101, 115, 115, 105, 111, 110, 32, 115, 101, 113, 32, 97, 109, 111, 117, 110, 116, 32, 120, 32, 121])), (8, (.str [115, 101, 115, 115, 105, 111, 110, 32, 115, 101, 113, 32, 97, 32, 98, 32, 97, 109, 111, 117, 110, 116])), (9, (.str [115, 101, 115, 115, 105, 111, 110, 32, 115, 101, 113, 32, 97])), (10, (.str [115, 101, 115, 115, 105, 111, 110, 32, 115, 101, 113, 32, 120])), (11, (.str [115, 101, 115, 115, 105, 111, 110, 32, 115, 101, 113, 32, 120, 32, 121]))]) fun x0 =>
CM.al (some (.cells [(.str []), (.str []), (.str []), (.str []), (.str []), (.str []), (.str []), (.str []), (.str []), (.str []), (.str []), (.str [])] false, pB)) fun x1 =>
CM.st (fun m => stV m x1 x0 12) <|
CM.pu (p2 (binA Tryz.prog .lss 3) a0 (.int .i64 1)) fun x3 =>
CM.ifv x3 (
CM.ret (.str [])) (
CM.pu (p2 (binA Tryz.prog .gtr 3) a0 (.int .i64 11)) fun x4 =>
CM.cond x4 (
CM.ret (.str [])) (
CM.go 147456 [a0, x1]))
theorem f36_ok : LeD (real E Mk Nk) f36 (fun xs m => run E (.fn 36) xs m) := apS_le fun _ => ap0_le fun _ => run_eq 400 rfl (by kernel_rfl) (by kernel_rfl)
noncomputable def g37_0 : List AV → CM := apS fun t0 => apS fun t3 => ap0 <|
CM.pu (p2 (binA Tryz.prog .geq 26) t0 (.int .u64 128)) fun x0 =>
CM.cond x0 (
CM.go 151553 [t0, t3]) (
CM.go 151554 [t0, t3])
theorem g37_0_ok : LeD (real E Mk Nk) g37_0 (fun ts m => goR E Mk 151552 ts m) := apS_le fun _ => apS_le fun _ => ap0_le fun _ => goR_eq 400 (by kernel_rfl)
noncomputable def g37_1 : List AV → CM := apS fun t0 => apS fun t3 => ap0 <|
CM.pu (p2 (binA Tryz.prog .rem 26) t0 (.int .u64 128)) fun x0 =>
CM.pu (p2 (binA Tryz.prog .add 26) x0 (.int .u64 128)) fun x1 =>
CM.pu (p1 (convA Tryz.prog 26 5) x1) fun x2 =>
CM.al (bsA 1 1 [(.int .u8 0)] [(0, x2)]) fun x3 =>
CM.ef (apE 1 1 t3 x3) fun x4 =>
CM.pu (p2 (binA Tryz.prog .quo 26) t0 (.int .u64 128)) fun x5 =>
CM.go 151552 [x5, x4]
theorem g37_1_ok : LeD (real E Mk Nk) g37_1 (fun ts m => goR E Mk 151553 ts m) := apS_le fun _ => apS_le fun _ => ap0_le fun _ => goR_eq 400 (by kernel_rfl)
noncomputable def g37_2 : List AV → CM := apS fun t0 => apS fun t3 => ap0 <|
CM.pu (p1 (convA Tryz.prog 26 5) t0) fun x0 =>
CM.al (bsA 1 1 [(.int .u8 0)] [(0, x0)]) fun x1 =>
CM.ef (apE 1 1 t3 x1) fun x2 =>
CM.ret x2
theorem g37_2_ok : LeD (real E Mk Nk) g37_2 (fun ts m => goR E Mk 151554 ts m) := apS_le fun _ => apS_le fun _ => ap0_le fun _ => goR_eq 400 (by kernel_rfl)
noncomputable def f37 : List AV → CM := apS fun a0 => ap0 <|
CM.go 151552 [a0, (.sl none 0 0 0 true)]
theorem f37_ok : LeD (real E Mk Nk) f37 (fun xs m => run E (.fn 37) xs m) := apS_le fun _ => ap0_le fun _ => run_eq 400 rfl (by kernel_rfl) (by kernel_rfl)
noncomputable def g38_0 : List AV → CM := apS fun t0 => apS fun t1 => apS fun t5 => apS fun t6 => ap0 <|
CM.pu (p1 (lenT Tryz.prog 9) t0) fun x0 =>
CM.pu (p2 (binA Tryz.prog .leq 3) t6 x0) fun x1 =>
CM.cond x1 (
CM.go 155649 [t0, t1, t5, t6]) (
CM.go 155652 [])
theorem g38_0_ok : LeD (real E Mk Nk) g38_0 (fun ts m => goR E Mk 155648 ts m) := apS_le fun _ => apS_le fun _ => apS_le fun _ => apS_le fun _ => ap0_le fun _ => goR_eq 400 (by kernel_rfl)
noncomputable def g38_1 : List AV → CM := apS fun t0 => apS fun t1 => apS fun t5 => apS fun t6 => ap0 <|
CM.pu (p1 (lenT Tryz.prog 9) t0) fun x0 =>
CM.pu (p2 (binA Tryz.prog .eql 3) t6 x0) fun x1 =>
CM.ifv x1 (
CM.pu (p3 (fun a l h => sliceA Tryz.prog 9 a (some l) (some h)) t0 t5 t6) fun x2 =>
CM.pu (p2 (binA Tryz.prog .eql 9) x2 t1) fun x3 =>
CM.cond x3 (
CM.ret (.bool true)) (
CM.go 155650 [t0, t1, t6])) (
CM.pu (p2 (indexA Tryz.prog 9) t0 t6) fun x4 =>
CM.pu (p2 (binA Tryz.prog .eql 5) x4 (.int .u8 32)) fun x5 =>
CM.cond x5 (
CM.pu (p3 (fun a l h => sliceA Tryz.prog 9 a (some l) (some h)) t0 t5 t6) fun x6 =>
CM.pu (p2 (binA Tryz.prog .eql 9) x6 t1) fun x7 =>
CM.cond x7 (
CM.ret (.bool true)) (
CM.go 155650 [t0, t1, t6])) (
CM.go 155651 [t0, t1, t5, t6]))
theorem g38_1_ok : LeD (real E Mk Nk) g38_1 (fun ts m => goR E Mk 155649 ts m) := apS_le fun _ => apS_le fun _ => apS_le fun _ => apS_le fun _ => ap0_le fun _ => goR_eq 400 (by kernel_rfl)
noncomputable def g38_2 : List AV → CM := apS fun t0 => apS fun t1 => apS fun t6 => ap0 <|
CM.pu (p2 (binA Tryz.prog .add 3) t6 (.int .i64 1)) fun x0 =>
CM.go 155651 [t0, t1, x0, t6]
theorem g38_2_ok : LeD (real E Mk Nk) g38_2 (fun ts m => goR E Mk 155650 ts m) := apS_le fun _ => apS_le fun _ => apS_le fun _ => ap0_le fun _ => goR_eq 400 (by kernel_rfl)
noncomputable def g38_3 : List AV → CM := apS fun t0 => apS fun t1 => apS fun t5 => apS fun t6 => ap0 <|
CM.pu (p2 (binA Tryz.prog .add 3) t6 (.int .i64 1)) fun x0 =>
CM.go 155648 [t0, t1, t5, x0]
theorem g38_3_ok : LeD (real E Mk Nk) g38_3 (fun ts m => goR E Mk 155651 ts m) := apS_le fun _ => apS_le fun _ => apS_le fun _ => apS_le fun _ => ap0_le fun _ => goR_eq 400 (by kernel_rfl)
noncomputable def g38_4 : List AV → CM := ap0 <|
CM.ret (.bool false)
theorem g38_4_ok : LeD (real E Mk Nk) g38_4 (fun ts m => goR E Mk 155652 ts m) := ap0_le fun _ => goR_eq 400 (by kernel_rfl)
noncomputable def f38 : List AV → CM := apS fun a0 => apS fun a1 => ap0 <|
CM.go 155648 [a0, a1, (.int .i64 0), (.int .i64 0)]
theorem f38_ok : LeD (real E Mk Nk) f38 (fun xs m => run E (.fn 38) xs m) := apS_le fun _ => apS_le fun _ => ap0_le fun _ => run_eq 400 rfl (by kernel_rfl) (by kernel_rfl)
noncomputable def f39 : List AV → CM := apS fun a0 => ap0 <|
CM.al (boxA a0) fun x0 =>
CM.pu (p1 (fun a => fieldAddrA Tryz.prog 38 a 1) x0) fun x1 =>
CM.rm (q1 (loadA Tryz.prog 3) x1 ) fun x2 =>
CM.pu (p1 (convA Tryz.prog 3 5) x2) fun x3 =>
CM.al (bsA 1 1 [(.int .u8 0)] [(0, x3)]) fun x4 =>
CM.pu (p1 (fun a => fieldAddrA Tryz.prog 38 a 0) x0) fun x5 =>
CM.pu (p1 (fun a => fieldAddrA Tryz.prog 36 a 0) x5) fun x6 =>
CM.rm (q1 (loadA Tryz.prog 2) x6 ) fun x7 =>
CM.memo fun m8 =>
CM.call 91 [x7] fun x9 =>
CM.memo fun m10 =>
CM.chk (q1 (loadA Tryz.prog 3) x1 m10) x2 <|
CM.memo fun m11 =>
CM.ef (apE 1 1 x4 x9) fun x12 =>
CM.pu (p1 (fun a => fieldAddrA Tryz.prog 38 a 0) x0) fun x14 =>
CM.pu (p1 (fun a => fieldAddrA Tryz.prog 36 a 1) x14) fun x15 =>
CM.rm (q1 (loadA Tryz.prog 26) x15 ) fun x16 =>
CM.chk (q1 (loadA Tryz.prog 26) x15 m11) x16 <|
CM.chk (q1 (loadA Tryz.prog 26) x15 m8) x16 <|
CM.call 37 [x16] fun x18 =>
CM.ef (apE 1 1 x12 x18) fun x21 =>
CM.ret x21
theorem f39_ok : LeD (real E Mk Nk) f39 (fun xs m => run E (.fn 39) xs m) := apS_le fun _ => ap0_le fun _ => run_eq 400 rfl (by kernel_rfl) (by kernel_rfl)
noncomputable def f40 : List AV → CM := apS fun a0 => ap0 <|
CM.al (some (.cells [] false, sB 1 0)) fun x0 =>
CM.ef (apE 1 1 x0 a0) fun x1 =>
CM.pu (p1 (buildA Tryz.prog 183) [(0, x1)]) fun x2 =>
CM.al (boxA x2) fun x3 =>
CM.ret x3
theorem f40_ok : LeD (real E Mk Nk) f40 (fun xs m => run E (.fn 40) xs m) := apS_le fun _ => ap0_le fun _ => run_eq 400 rfl (by kernel_rfl) (by kernel_rfl)
noncomputable def g41_0 : List AV → CM := apS fun t0 => ap0 <|
CM.pu (p1 nnA t0) fun x0 =>
CM.pu (p1 (fun a => fieldAddrA Tryz.prog 183 a 1) x0) fun x1 =>
CM.rm (q1 (loadA Tryz.prog 3) x1 ) fun x2 =>
CM.pu (p2 (binA Tryz.prog .add 3) x2 (.int .i64 1)) fun x3 =>
CM.pu (p1 nnA t0) fun x4 =>
CM.pu (p1 (fun a => fieldAddrA Tryz.prog 183 a 1) x4) fun x5 =>
CM.st (fun m => stV m x5 x3 1) <|
CM.pu (p1 nnA t0) fun x7 =>
CM.pu (p1 (fun a => fieldAddrA Tryz.prog 183 a 0) x7) fun x8 =>
CM.rm (q1 (loadA Tryz.prog 33) x8 ) fun x9 =>
CM.pu (p1 nnA t0) fun x10 =>
CM.pu (p1 (fun a => fieldAddrA Tryz.prog 183 a 1) x10) fun x11 =>
CM.rm (q1 (loadA Tryz.prog 3) x11 ) fun x12 =>
CM.pu (p2 (binA Tryz.prog .sub 3) x12 (.int .i64 1)) fun x13 =>
CM.pu (p2 (indexAddrA Tryz.prog 33) x9 x13) fun x14 =>
CM.rm (q1 (loadA Tryz.prog 5) x14 ) fun x15 =>
CM.ret x15
theorem g41_0_ok : LeD (real E Mk Nk) g41_0 (fun ts m => goR E Mk 167936 ts m) := apS_le fun _ => ap0_le fun _ => goR_eq 400 (by kernel_rfl)
noncomputable def f41 : List AV → CM := apS fun a0 => apS fun a1 => ap0 <|
CM.pu (p1 nnA a0) fun x0 =>
CM.pu (p1 (fun a => fieldAddrA Tryz.prog 183 a 2) x0) fun x1 =>
CM.rm (q1 (loadA Tryz.prog 23) x1 ) fun x2 =>
CM.pu (p2 (binA Tryz.prog .neq 23) x2 (.int .i64 0)) fun x3 =>
CM.cond x3 (
CM.ret (.int .u8 0)) (
CM.pu (p1 nnA a0) fun x4 =>
CM.pu (p1 (fun a => fieldAddrA Tryz.prog 183 a 1) x4) fun x5 =>
CM.rm (q1 (loadA Tryz.prog 3) x5 ) fun x6 =>
CM.pu (p1 nnA a0) fun x7 =>
CM.pu (p1 (fun a => fieldAddrA Tryz.prog 183 a 0) x7) fun x8 =>
CM.rm (q1 (loadA Tryz.prog 33) x8 ) fun x9 =>
CM.pu (p1 (lenT Tryz.prog 33) x9) fun x10 =>
CM.pu (p2 (binA Tryz.prog .geq 3) x6 x10) fun x11 =>
CM.cond x11 (
CM.call 92 [a0, (.int .i64 10)] fun _ =>
CM.ret (.int .u8 0)) (
CM.pu (p1 nnA a0) fun x13 =>
CM.pu (p1 (fun a => fieldAddrA Tryz.prog 183 a 0) x13) fun x14 =>
CM.rm (q1 (loadA Tryz.prog 33) x14 ) fun x15 =>
CM.pu (p1 nnA a0) fun x16 =>
CM.pu (p1 (fun a => fieldAddrA Tryz.prog 183 a 1) x16) fun x17 =>
CM.rm (q1 (loadA Tryz.prog 3) x17 ) fun x18 =>
CM.pu (p2 (indexAddrA Tryz.prog 33) x15 x18) fun x19 =>
CM.rm (q1 (loadA Tryz.prog 5) x19 ) fun x20 =>
CM.pu (p2 (binA Tryz.prog .gtr 5) x20 a1) fun x21 =>
CM.cond x21 (
CM.call 92 [a0, (.int .i64 12)] fun _ =>
CM.ret (.int .u8 0)) (
CM.go 167936 [a0])))
theorem f41_ok : LeD (real E Mk Nk) f41 (fun xs m => run E (.fn 41) xs m) := apS_le fun _ => apS_le fun _ => ap0_le fun _ => run_eq 400 rfl (by kernel_rfl) (by kernel_rfl)
noncomputable def g42_0 : List AV → CM := apS fun t3 => apS fun t4 => ap0 <|
CM.pu (p2 (binA Tryz.prog .eql 3) t4 (.int .i64 4)) fun x0 =>
CM.cond x0 (
CM.cond x0 (
CM.go 172040 [t3]) (
CM.go 172033 [t3, t4])) (
CM.pu (p2 (binA Tryz.prog .eql 3) t4 (.int .i64 5)) fun x1 =>
CM.cond x1 (
CM.go 172040 [t3]) (
CM.go 172033 [t3, t4]))
theorem g42_0_ok : LeD (real E Mk Nk) g42_0 (fun ts m => goR E Mk 172032 ts m) := apS_le fun _ => apS_le fun _ => ap0_le fun _ => goR_eq 400 (by kernel_rfl)
noncomputable def g42_1 : List AV → CM := apS fun t3 => apS fun t4 => ap0 <|
CM.pu (p2 (binA Tryz.prog .eql 3) t4 (.int .i64 9)) fun x0 =>
CM.cond x0 (
CM.go 172041 [t3]) (
CM.go 172034 [t3, t4])
theorem g42_1_ok : LeD (real E Mk Nk) g42_1 (fun ts m => goR E Mk 172033 ts m) := apS_le fun _ => apS_le fun _ => ap0_le fun _ => goR_eq 400 (by kernel_rfl)
noncomputable def g42_2 : List AV → CM := apS fun t3 => apS fun t4 => ap0 <|
CM.pu (p2 (binA Tryz.prog .eql 3) t4 (.int .i64 7)) fun x0 =>
CM.cond x0 (
CM.go 172042 [t3]) (
CM.go 172035 [t3, t4])
theorem g42_2_ok : LeD (real E Mk Nk) g42_2 (fun ts m => goR E Mk 172034 ts m) := apS_le fun _ => apS_le fun _ => ap0_le fun _ => goR_eq 400 (by kernel_rfl)
noncomputable def g42_3 : List AV → CM := apS fun t3 => apS fun t4 => ap0 <|
CM.pu (p2 (binA Tryz.prog .eql 3) t4 (.int .i64 11)) fun x0 =>
CM.cond x0 (
CM.go 172043 [t3]) (
CM.go 172036 [t3, t4])
theorem g42_3_ok : LeD (real E Mk Nk) g42_3 (fun ts m => goR E Mk 172035 ts m) := apS_le fun _ => apS_le fun _ => ap0_le fun _ => goR_eq 400 (by kernel_rfl)
noncomputable def g42_4 : List AV → CM := apS fun t3 => apS fun t4 => ap0 <|
CM.pu (p2 (binA Tryz.prog .eql 3) t4 (.int .i64 3)) fun x0 =>
CM.cond x0 (
CM.cond x0 (
CM.go 172044 [t3]) (
CM.go 172037 [t3, t4])) (
CM.pu (p2 (binA Tryz.prog .eql 3) t4 (.int .i64 10)) fun x1 =>
CM.cond x1 (
CM.go 172044 [t3]) (
CM.go 172037 [t3, t4]))
theorem g42_4_ok : LeD (real E Mk Nk) g42_4 (fun ts m => goR E Mk 172036 ts m) := apS_le fun _ => apS_le fun _ => ap0_le fun _ => goR_eq 400 (by kernel_rfl)
noncomputable def g42_5 : List AV → CM := apS fun t3 => apS fun t4 => ap0 <|
CM.pu (p2 (binA Tryz.prog .eql 3) t4 (.int .i64 1)) fun x0 =>
CM.cond x0 (
CM.go 172045 [t3]) (
CM.go 172038 [t3, t4])
theorem g42_5_ok : LeD (real E Mk Nk) g42_5 (fun ts m => goR E Mk 172037 ts m) := apS_le fun _ => apS_le fun _ => ap0_le fun _ => goR_eq 400 (by kernel_rfl)
noncomputable def g42_6 : List AV → CM := apS fun t3 => apS fun t4 => ap0 <|
CM.pu (p2 (binA Tryz.prog .eql 3) t4 (.int .i64 2)) fun x0 =>
CM.cond x0 (
CM.go 172046 [t3]) (
CM.go 172047 [t3])
theorem g42_6_ok : LeD (real E Mk Nk) g42_6 (fun ts m => goR E Mk 172038 ts m) := apS_le fun _ => apS_le fun _ => ap0_le fun _ => goR_eq 400 (by kernel_rfl)
noncomputable def g42_7 : List AV → CM := apS fun t3 => ap0 <|
CM.pu (p2 (binA Tryz.prog .or 3) t3 (.int .i64 8)) fun x0 =>
CM.go 172040 [x0]
theorem g42_7_ok : LeD (real E Mk Nk) g42_7 (fun ts m => goR E Mk 172039 ts m) := apS_le fun _ => ap0_le fun _ => goR_eq 400 (by kernel_rfl)
noncomputable def g42_8 : List AV → CM := apS fun t3 => ap0 <|
CM.pu (p2 (binA Tryz.prog .or 3) t3 (.int .i64 16)) fun x0 =>
CM.go 172041 [x0]
theorem g42_8_ok : LeD (real E Mk Nk) g42_8 (fun ts m => goR E Mk 172040 ts m) := apS_le fun _ => ap0_le fun _ => goR_eq 400 (by kernel_rfl)
noncomputable def g42_9 : List AV → CM := apS fun t3 => ap0 <|
CM.pu (p2 (binA Tryz.prog .or 3) t3 (.int .i64 7)) fun x0 =>
CM.go 172047 [x0]
theorem g42_9_ok : LeD (real E Mk Nk) g42_9 (fun ts m => goR E Mk 172041 ts m) := apS_le fun _ => ap0_le fun _ => goR_eq 400 (by kernel_rfl)
noncomputable def g42_10 : List AV → CM := apS fun t3 => ap0 <|
CM.pu (p2 (binA Tryz.prog .or 3) t3 (.int .i64 16)) fun x0 =>
CM.go 172043 [x0]
theorem g42_10_ok : LeD (real E Mk Nk) g42_10 (fun ts m => goR E Mk 172042 ts m) := apS_le fun _ => ap0_le fun _ => goR_eq 400 (by kernel_rfl)
noncomputable def g42_11 : List AV → CM := apS fun t3 => ap0 <|
CM.pu (p2 (binA Tryz.prog .or 3) t3 (.int .i64 64)) fun x0 =>
CM.go 172044 [x0]
theorem g42_11_ok : LeD (real E Mk Nk) g42_11 (fun ts m => goR E Mk 172043 ts m) := apS_le fun _ => ap0_le fun _ => goR_eq 400 (by kernel_rfl)
noncomputable def g42_12 : List AV → CM := apS fun t3 => ap0 <|
CM.pu (p2 (binA Tryz.prog .or 3) t3 (.int .i64 34)) fun x0 =>
CM.go 172045 [x0]
theorem g42_12_ok : LeD (real E Mk Nk) g42_12 (fun ts m => goR E Mk 172044 ts m) := apS_le fun _ => ap0_le fun _ => goR_eq 400 (by kernel_rfl)
noncomputable def g42_13 : List AV → CM := apS fun t3 => ap0 <|
CM.pu (p2 (binA Tryz.prog .or 3) t3 (.int .i64 1)) fun x0 =>
CM.go 172047 [x0]
theorem g42_13_ok : LeD (real E Mk Nk) g42_13 (fun ts m => goR E Mk 172045 ts m) := apS_le fun _ => ap0_le fun _ => goR_eq 400 (by kernel_rfl)
noncomputable def g42_14 : List AV → CM := apS fun t3 => ap0 <|
CM.pu (p2 (binA Tryz.prog .or 3) t3 (.int .i64 39)) fun x0 =>
CM.go 172047 [x0]
theorem g42_14_ok : LeD (real E Mk Nk) g42_14 (fun ts m => goR E Mk 172046 ts m) := apS_le fun _ => ap0_le fun _ => goR_eq 400 (by kernel_rfl)
noncomputable def g42_15 : List AV → CM := apS fun t3 => ap0 <|
CM.ret t3
theorem g42_15_ok : LeD (real E Mk Nk) g42_15 (fun ts m => goR E Mk 172047 ts m) := apS_le fun _ => ap0_le fun _ => goR_eq 400 (by kernel_rfl)
noncomputable def f42 : List AV → CM := apS fun a0 => ap0 <|
CM.pu (p2 (binA Tryz.prog .eql 3) a0 (.int .i64 6)) fun x0 =>
CM.cond x0 (
CM.cond x0 (
CM.go 172039 [(.int .i64 0)]) (
CM.go 172032 [(.int .i64 0), a0])) (
CM.pu (p2 (binA Tryz.prog .eql 3) a0 (.int .i64 8)) fun x1 =>
CM.cond x1 (
CM.go 172039 [(.int .i64 0)]) (
CM.go 172032 [(.int .i64 0), a0]))
theorem f42_ok : LeD (real E Mk Nk) f42 (fun xs m => run E (.fn 42) xs m) := apS_le fun _ => ap0_le fun _ => run_eq 400 rfl (by kernel_rfl) (by kernel_rfl)
noncomputable def f43 : List AV → CM := apS fun a0 => apS fun a1 => apS fun a2 => ap0 <|
CM.pu (p2 (binA Tryz.prog .eql 3) a2 (.int .i64 1)) fun x0 =>
CM.cond x0 (
CM.call 93 [a0, (.int .u64 72057594037927935)] fun x1 =>
CM.pu (p1 nnA a1) fun x2 =>
CM.pu (p1 (fun a => fieldAddrA Tryz.prog 40 a 1) x2) fun x3 =>
CM.st (fun m => stV m x3 x1 1) <|
CM.ret .undef) (
CM.pu (p2 (binA Tryz.prog .eql 3) a2 (.int .i64 2)) fun x5 =>
CM.cond x5 (
CM.call 93 [a0, (.int .u64 72057594037927935)] fun x6 =>
CM.pu (p1 nnA a1) fun x7 =>
CM.pu (p1 (fun a => fieldAddrA Tryz.prog 40 a 2) x7) fun x8 =>
CM.st (fun m => stV m x8 x6 1) <|
CM.ret .undef) (
CM.pu (p2 (binA Tryz.prog .eql 3) a2 (.int .i64 4)) fun x10 =>
CM.cond x10 (
CM.call 93 [a0, (.int .u64 18446744073709551615)] fun x11 =>
CM.pu (p1 nnA a1) fun x12 =>
CM.pu (p1 (fun a => fieldAddrA Tryz.prog 40 a 3) x12) fun x13 =>
CM.st (fun m => stV m x13 x11 1) <|
CM.ret .undef) (
CM.pu (p2 (binA Tryz.prog .eql 3) a2 (.int .i64 8)) fun x15 =>
CM.cond x15 (
CM.call 93 [a0, (.int .u64 18446744073709551615)] fun x16 =>
CM.pu (p1 nnA a1) fun x17 =>
CM.pu (p1 (fun a => fieldAddrA Tryz.prog 40 a 4) x17) fun x18 =>
CM.st (fun m => stV m x18 x16 1) <|
CM.ret .undef) (
CM.pu (p2 (binA Tryz.prog .eql 3) a2 (.int .i64 16)) fun x20 =>
CM.cond x20 (
CM.call 94 [a0] fun x21 =>
CM.pu (p1 nnA a1) fun x22 =>
CM.pu (p1 (fun a => fieldAddrA Tryz.prog 40 a 5) x22) fun x23 =>
CM.st (fun m => stV m x23 x21 3) <|
CM.ret .undef) (
CM.pu (p2 (binA Tryz.prog .eql 3) a2 (.int .i64 32)) fun x25 =>
CM.cond x25 (
CM.call 95 [a0] fun x26 =>
CM.pu (p1 nnA a1) fun x27 =>
CM.pu (p1 (fun a => fieldAddrA Tryz.prog 40 a 6) x27) fun x28 =>
CM.st (fun m => stV m x28 x26 1) <|
CM.ret .undef) (
CM.pu (p2 (binA Tryz.prog .eql 3) a2 (.int .i64 64)) fun x30 =>
CM.cond x30 (
CM.call 95 [a0] fun x31 =>
CM.pu (p1 nnA a1) fun x32 =>
CM.pu (p1 (fun a => fieldAddrA Tryz.prog 40 a 7) x32) fun x33 =>
CM.st (fun m => stV m x33 x31 1) <|
CM.ret .undef) (
CM.ret .undef)))))))
theorem f43_ok : LeD (real E Mk Nk) f43 (fun xs m => run E (.fn 43) xs m) := apS_le fun _ => apS_le fun _ => apS_le fun _ => ap0_le fun _ => run_eq 400 rfl (by kernel_rfl) (by kernel_rfl)
noncomputable def g44_0 : List AV → CM := apS fun t0 => ap0 <|
CM.pu (p1 nnA t0) fun x0 =>
CM.pu (p1 (fun a => fieldAddrA Tryz.prog 183 a 2) x0) fun x1 =>
CM.rm (q1 (loadA Tryz.prog 23) x1 ) fun x2 =>
CM.ret x2
theorem g44_0_ok : LeD (real E Mk Nk) g44_0 (fun ts m => goR E Mk 180224 ts m) := apS_le fun _ => ap0_le fun _ => goR_eq 400 (by kernel_rfl)
noncomputable def f44 : List AV → CM := apS fun a0 => ap0 <|
CM.pu (p1 nnA a0) fun x0 =>
CM.pu (p1 (fun a => fieldAddrA Tryz.prog 183 a 2) x0) fun x1 =>
CM.rm (q1 (loadA Tryz.prog 23) x1 ) fun x2 =>
CM.pu (p2 (binA Tryz.prog .eql 23) x2 (.int .i64 0)) fun x3 =>
CM.ifv x3 (
CM.pu (p1 nnA a0) fun x4 =>
CM.pu (p1 (fun a => fieldAddrA Tryz.prog 183 a 1) x4) fun x5 =>
CM.rm (q1 (loadA Tryz.prog 3) x5 ) fun x6 =>
CM.pu (p1 nnA a0) fun x7 =>
CM.pu (p1 (fun a => fieldAddrA Tryz.prog 183 a 0) x7) fun x8 =>
CM.rm (q1 (loadA Tryz.prog 33) x8 ) fun x9 =>
CM.pu (p1 (lenT Tryz.prog 33) x9) fun x10 =>
CM.pu (p2 (binA Tryz.prog .lss 3) x6 x10) fun x11 =>
CM.cond x11 (
CM.ret (.int .i64 11)) (
CM.go 180224 [a0])) (
CM.go 180224 [a0])
theorem f44_ok : LeD (real E Mk Nk) f44 (fun xs m => run E (.fn 44) xs m) := apS_le fun _ => ap0_le fun _ => run_eq 400 rfl (by kernel_rfl) (by kernel_rfl)
noncomputable def g45_0 : List AV → CM := apS fun t1 => apS fun t3 => ap0 <|
CM.go 184321 [t1, t3, (.int .i64 1)]
theorem g45_0_ok : LeD (real E Mk Nk) g45_0 (fun ts m => goR E Mk 184320 ts m) := apS_le fun _ => apS_le fun _ => ap0_le fun _ => goR_eq 400 (by kernel_rfl)
noncomputable def g45_1 : List AV → CM := apS fun t1 => apS fun t3 => apS fun t4 => ap0 <|
CM.pu (p2 (binA Tryz.prog .lss 3) t4 (.int .i64 128)) fun x0 =>
CM.cond x0 (
CM.go 184322 [t1, t3, t4]) (
CM.go 184324 [])
theorem g45_1_ok : LeD (real E Mk Nk) g45_1 (fun ts m => goR E Mk 184321 ts m) := apS_le fun _ => apS_le fun _ => apS_le fun _ => ap0_le fun _ => goR_eq 400 (by kernel_rfl)
noncomputable def g45_2 : List AV → CM := apS fun t1 => apS fun t3 => apS fun t4 => ap0 <|
CM.pu (p2 (binA Tryz.prog .and 3) t3 t4) fun x0 =>
CM.pu (p2 (binA Tryz.prog .neq 3) x0 (.int .i64 0)) fun x1 =>
CM.ifv x1 (
CM.rm (q1 (loadA Tryz.prog 40) t1 ) fun x2 =>
CM.call 96 [x2, t4] fun x3 =>
CM.pu (p1 (unA .not) x3) fun x4 =>
CM.ifv x4 (
CM.ret (.bool false)) (
CM.pu (p2 (binA Tryz.prog .and 3) t3 t4) fun x5 =>
CM.pu (p2 (binA Tryz.prog .eql 3) x5 (.int .i64 0)) fun x6 =>
CM.ifv x6 (
CM.rm (q1 (loadA Tryz.prog 40) t1 ) fun x7 =>
CM.call 97 [x7, t4] fun x8 =>
CM.pu (p1 (unA .not) x8) fun x9 =>
CM.cond x9 (
CM.ret (.bool false)) (
CM.go 184323 [t1, t3, t4])) (
CM.go 184323 [t1, t3, t4]))) (
CM.pu (p2 (binA Tryz.prog .and 3) t3 t4) fun x10 =>
CM.pu (p2 (binA Tryz.prog .eql 3) x10 (.int .i64 0)) fun x11 =>
CM.ifv x11 (
CM.rm (q1 (loadA Tryz.prog 40) t1 ) fun x12 =>
CM.call 97 [x12, t4] fun x13 =>
CM.pu (p1 (unA .not) x13) fun x14 =>
CM.cond x14 (
CM.ret (.bool false)) (
CM.go 184323 [t1, t3, t4])) (
CM.go 184323 [t1, t3, t4]))
theorem g45_2_ok : LeD (real E Mk Nk) g45_2 (fun ts m => goR E Mk 184322 ts m) := apS_le fun _ => apS_le fun _ => apS_le fun _ => ap0_le fun _ => goR_eq 400 (by kernel_rfl)
noncomputable def g45_3 : List AV → CM := apS fun t1 => apS fun t3 => apS fun t4 => ap0 <|
CM.pu (p2 (binA Tryz.prog .shl 3) t4 (.int .u64 1)) fun x0 =>
CM.go 184321 [t1, t3, x0]
theorem g45_3_ok : LeD (real E Mk Nk) g45_3 (fun ts m => goR E Mk 184323 ts m) := apS_le fun _ => apS_le fun _ => apS_le fun _ => ap0_le fun _ => goR_eq 400 (by kernel_rfl)
noncomputable def g45_4 : List AV → CM := ap0 <|
CM.ret (.bool true)
theorem g45_4_ok : LeD (real E Mk Nk) g45_4 (fun ts m => goR E Mk 184324 ts m) := ap0_le fun _ => goR_eq 400 (by kernel_rfl)
noncomputable def f45 : List AV → CM := apS fun a0 => ap0 <|
CM.al (boxA a0) fun x0 =>
CM.pu (p1 (fun a => fieldAddrA Tryz.prog 40 a 0) x0) fun x1 =>
CM.rm (q1 (loadA Tryz.prog 3) x1 ) fun x2 =>
CM.call 42 [x2] fun x3 =>
CM.pu (p2 (binA Tryz.prog .eql 3) x3 (.int .i64 0)) fun x4 =>
CM.cond x4 (
CM.ret (.bool false)) (
CM.go 184320 [x0, x3])
theorem f45_ok : LeD (real E Mk Nk) f45 (fun xs m => run E (.fn 45) xs m) := apS_le fun _ => ap0_le fun _ => run_eq 400 rfl (by kernel_rfl) (by kernel_rfl)
noncomputable def g46_0 : List AV → CM := apS fun t0 => apS fun t1 => ap0 <|
CM.pu (p1 (lenT Tryz.prog 33) t0) fun x0 =>
CM.go 188417 [t0, t1, x0, (.int .i64 0)]
theorem g46_0_ok : LeD (real E Mk Nk) g46_0 (fun ts m => goR E Mk 188416 ts m) := apS_le fun _ => apS_le fun _ => ap0_le fun _ => goR_eq 400 (by kernel_rfl)
noncomputable def g46_1 : List AV → CM := apS fun t0 => apS fun t1 => apS fun t12 => apS fun t13 => ap0 <|
CM.pu (p2 (binA Tryz.prog .lss 3) t13 t12) fun x0 =>
CM.cond x0 (
CM.go 188418 [t0, t1, t12, t13]) (
CM.go 188420 [])
theorem g46_1_ok : LeD (real E Mk Nk) g46_1 (fun ts m => goR E Mk 188417 ts m) := apS_le fun _ => apS_le fun _ => apS_le fun _ => apS_le fun _ => ap0_le fun _ => goR_eq 400 (by kernel_rfl)
noncomputable def g46_2 : List AV → CM := apS fun t0 => apS fun t1 => apS fun t12 => apS fun t13 => ap0 <|
CM.pu (p2 (indexAddrA Tryz.prog 33) t0 t13) fun x0 =>
CM.rm (q1 (loadA Tryz.prog 5) x0 ) fun x1 =>
CM.pu (p2 (indexAddrA Tryz.prog 33) t1 t13) fun x2 =>
CM.rm (q1 (loadA Tryz.prog 5) x2 ) fun x3 =>
CM.pu (p2 (binA Tryz.prog .neq 5) x1 x3) fun x4 =>
CM.cond x4 (
CM.ret (.bool false)) (
CM.go 188419 [t0, t1, t12, t13])
theorem g46_2_ok : LeD (real E Mk Nk) g46_2 (fun ts m => goR E Mk 188418 ts m) := apS_le fun _ => apS_le fun _ => apS_le fun _ => apS_le fun _ => ap0_le fun _ => goR_eq 400 (by kernel_rfl)
noncomputable def g46_3 : List AV → CM := apS fun t0 => apS fun t1 => apS fun t12 => apS fun t13 => ap0 <|
CM.pu (p2 (binA Tryz.prog .add 3) t13 (.int .i64 1)) fun x0 =>
CM.go 188417 [t0, t1, t12, x0]
theorem g46_3_ok : LeD (real E Mk Nk) g46_3 (fun ts m => goR E Mk 188419 ts m) := apS_le fun _ => apS_le fun _ => apS_le fun _ => apS_le fun _ => ap0_le fun _ => goR_eq 400 (by kernel_rfl)
noncomputable def g46_4 : List AV → CM := ap0 <|
CM.ret (.bool true)
theorem g46_4_ok : LeD (real E Mk Nk) g46_4 (fun ts m => goR E Mk 188420 ts m) := ap0_le fun _ => goR_eq 400 (by kernel_rfl)
noncomputable def f46 : List AV → CM := apS fun a0 => apS fun a1 => ap0 <|
CM.pu (p1 (lenT Tryz.prog 33) a0) fun x0 =>
CM.pu (p1 (lenT Tryz.prog 33) a1) fun x1 =>
CM.pu (p2 (binA Tryz.prog .neq 3) x0 x1) fun x2 =>
CM.cond x2 (
CM.ret (.bool false)) (
CM.go 188416 [a0, a1])
theorem f46_ok : LeD (real E Mk Nk) f46 (fun xs m => run E (.fn 46) xs m) := apS_le fun _ => apS_le fun _ => ap0_le fun _ => run_eq 400 rfl (by kernel_rfl) (by kernel_rfl)
noncomputable def f47 : List AV → CM := apS fun a0 => ap0 <|
CM.pu (p2 (binA Tryz.prog .gtr 3) a0 (.int .i64 0)) fun x0 =>
CM.ifv x0 (
CM.pu (p2 (binA Tryz.prog .leq 3) a0 (.int .i64 254)) fun x1 =>
CM.ifv x1 (
CM.pu (p2 (binA Tryz.prog .and 3) a0 (.int .i64 1)) fun x2 =>
CM.pu (p2 (binA Tryz.prog .eql 3) x2 (.int .i64 0)) fun x3 =>
CM.ret x3) (
CM.ret (.bool false))) (
CM.ret (.bool false))
theorem f47_ok : LeD (real E Mk Nk) f47 (fun xs m => run E (.fn 47) xs m) := apS_le fun _ => ap0_le fun _ => run_eq 400 rfl (by kernel_rfl) (by kernel_rfl)
noncomputable def f48 : List AV → CM := apS fun a0 => ap0 <|
CM.pu (p2 (binA Tryz.prog .geq 26) a0 (.int .u64 1)) fun x0 =>
CM.ifv x0 (
CM.pu (p2 (binA Tryz.prog .leq 26) a0 (.int .u64 72057594037927935)) fun x1 =>
CM.ret x1) (
CM.ret (.bool false))
theorem f48_ok : LeD (real E Mk Nk) f48 (fun xs m => run E (.fn 48) xs m) := apS_le fun _ => ap0_le fun _ => run_eq 400 rfl (by kernel_rfl) (by kernel_rfl)
noncomputable def g49_0 : List AV → CM := apS fun t2 => apS fun t3 => apS fun t5 => apS fun t6 => apS fun t7 => apS fun t12 => apS fun t13 => apS fun t14 => ap0 <|
CM.rng (.fn (rsOf E 49)) t12 (loopOf E 49 0 ([.undef, .undef, t2, t3, .undef, t5, t6, t7, .undef, .undef, .undef, .undef, t12, t13, t14] ++ List.replicate 26 .undef)) 200704 [t2, t3, t5, t6, t7, t12, t13, t14]
theorem g49_0_ok : LeD (real E Mk Nk) g49_0 (fun ts m => goR E Mk 200704 ts m) := apS_le fun _ => apS_le fun _ => apS_le fun _ => apS_le fun _ => apS_le fun _ => apS_le fun _ => apS_le fun _ => apS_le fun _ => ap0_le fun _ => goR_eq 400 (by kernel_rfl)
noncomputable def g49_2 : List AV → CM := apS fun t5 => ap0 <|
CM.rm (q1 (loadA Tryz.prog 116) t5 ) fun x0 =>
CM.ret x0
theorem g49_2_ok : LeD (real E Mk Nk) g49_2 (fun ts m => goR E Mk 200706 ts m) := apS_le fun _ => ap0_le fun _ => goR_eq 400 (by kernel_rfl)
noncomputable def l49_0_none : List AV → CM := apS fun _ => apS fun _ => apS fun t5 => apS fun _ => apS fun _ => apS fun _ => apS fun _ => apS fun _ => ap0 <|
CM.go 200706 [t5]
theorem l49_0_none_ok : LeD (real E Mk Nk) l49_0_none (fun ts m => afR E Nk 200704 none ts m) := apS_le fun _ => apS_le fun _ => apS_le fun _ => apS_le fun _ => apS_le fun _ => apS_le fun _ => apS_le fun _ => apS_le fun _ => ap0_le fun _ => afR_eq 400 (by kernel_rfl)
noncomputable def f49 : List AV → CM := apS fun a0 => apS fun a1 => ap0 <|
CM.al (boxA a0) fun x0 =>
CM.al (boxA a1) fun x1 =>
CM.al (some (.cells [(.sl none 0 0 0 true)] false, pB)) fun x2 =>
CM.rm (q1 (loadA Tryz.prog 83) x0 ) fun x3 =>
CM.pu (p1 nnA x3) fun x4 =>
CM.pu (p1 (fun a => fieldAddrA Tryz.prog 148 a 1) x4) fun x5 =>
CM.rm (q1 (loadA Tryz.prog 141) x5 ) fun x6 =>
CM.call 98 [x6] fun x7 =>
CM.go 200704 [x0, x1, x2, .undef, .undef, x7, .undef, .undef]
theorem f49_ok : LeD (real E Mk Nk) f49 (fun xs m => run E (.fn 49) xs m) := apS_le fun _ => apS_le fun _ => ap0_le fun _ => run_eq 400 rfl (by kernel_rfl) (by kernel_rfl)
noncomputable def g50_0 : List AV → CM := apS fun t0 => apS fun t1 => apS fun t2 => ap0 <|
CM.pu (p1 nnA t0) fun x0 =>
CM.pu (p1 (fun a => fieldAddrA Tryz.prog 148 a 1) x0) fun x1 =>
CM.rm (q1 (loadA Tryz.prog 141) x1 ) fun x2 =>
CM.call 100 [x2, t1] fun x3 =>
CM.pu (p1 (fun a => extractA a 0) x3) fun x4 =>
CM.pu (p1 (fun a => extractA a 1) x3) fun x5 =>
CM.al (some (.cells [(.int .u64 0), (.int .u64 0), (.int .u64 0), (.sl none 0 0 0 true)] false, pB)) fun x6 =>
CM.st (fun m => stV m x6 x4 4) <|
CM.pu (p1 (unA .not) x5) fun x8 =>
CM.ifv x8 (
CM.pu (p1 nnA t0) fun x9 =>
CM.pu (p1 (fun a => fieldAddrA Tryz.prog 148 a 1) x9) fun x10 =>
CM.rm (q1 (loadA Tryz.prog 141) x10 ) fun x11 =>
CM.memo fun m12 =>
CM.call 101 [x11] fun x13 =>
CM.pu (p1 nnA t0) fun x15 =>
CM.pu (p1 (fun a => fieldAddrA Tryz.prog 148 a 2) x15) fun x16 =>
CM.rm (q1 (loadA Tryz.prog 3) x16 ) fun x17 =>
CM.chk (q1 (loadA Tryz.prog 3) x16 m12) x17 <|
CM.pu (p2 (binA Tryz.prog .geq 3) x13 x17) fun x18 =>
CM.cond x18 (
CM.pu (p1 nnA t0) fun x19 =>
CM.pu (p1 (fun a => fieldAddrA Tryz.prog 148 a 1) x19) fun x20 =>
CM.rm (q1 (loadA Tryz.prog 141) x20 ) fun x21 =>
CM.call 102 [t0] fun x23 =>
CM.memo fun m24 =>
CM.chk (q1 (loadA Tryz.prog 141) x20 m24) x21 <|
CM.call 99 [x21, x23] fun _ =>
CM.go 204801 [t0, t1, t2, x6]) (
CM.go 204801 [t0, t1, t2, x6])) (
CM.go 204801 [t0, t1, t2, x6])
theorem g50_0_ok : LeD (real E Mk Nk) g50_0 (fun ts m => goR E Mk 204800 ts m) := apS_le fun _ => apS_le fun _ => apS_le fun _ => ap0_le fun _ => goR_eq 400 (by kernel_rfl)
noncomputable def g50_1 : List AV → CM := apS fun t0 => apS fun t1 => apS fun t2 => apS fun t7 => ap0 <|
CM.pu (p1 (fun a => fieldAddrA Tryz.prog 146 a 0) t7) fun x0 =>
CM.st (fun m => stV m x0 t1 1) <|
CM.pu (p1 (fun a => fieldAddrA Tryz.prog 146 a 2) t7) fun x2 =>
CM.st (fun m => stV m x2 t2 1) <|
CM.pu (p1 nnA t0) fun x4 =>
CM.pu (p1 (fun a => fieldAddrA Tryz.prog 148 a 1) x4) fun x5 =>
CM.rm (q1 (loadA Tryz.prog 141) x5 ) fun x6 =>
CM.rm (q1 (loadA Tryz.prog 146) t7 ) fun x7 =>
CM.call 87 [x6, t1, x7] fun _ =>
CM.ret (.int .i64 0)
theorem g50_1_ok : LeD (real E Mk Nk) g50_1 (fun ts m => goR E Mk 204801 ts m) := apS_le fun _ => apS_le fun _ => apS_le fun _ => apS_le fun _ => ap0_le fun _ => goR_eq 400 (by kernel_rfl)
noncomputable def f50 : List AV → CM := apS fun a0 => apS fun a1 => apS fun a2 => ap0 <|
CM.call 58 [a1] fun x0 =>
CM.pu (p1 (unA .not) x0) fun x1 =>
CM.cond x1 (
CM.ret (.int .i64 1)) (
CM.go 204800 [a0, a1, a2])
theorem f50_ok : LeD (real E Mk Nk) f50 (fun xs m => run E (.fn 50) xs m) := apS_le fun _ => apS_le fun _ => apS_le fun _ => ap0_le fun _ => run_eq 400 rfl (by kernel_rfl) (by kernel_rfl)
end Go.Proofs.YtfiipajgdhafaaaGreat.T
