/- Functions as trees, printed by our own program (wip/tools/gen3.lean). -/
import Derived.Test.YtpoafkipnjfioaaGreatT0
namespace Go.Proofs.YtpoafkipnjfioaaGreat.T
open Go Go.Abs Go.Proofs.YtpoafkipnjfioaaGreat
set_option maxRecDepth 10000
variable {H : FuncId → Option (List AV → Mem → R)}
noncomputable def f111 : List AV → CM := apS fun a0 => ap0 <|
 CM.al (some (.cells [] false, sB 1 0)) fun x0 =>
 CM.pu (p1 nnA a0) fun x1 =>
 CM.pu (p1 (fun a => fieldAddrA Tryz.prog 175 a 0) x1) fun x2 =>
 CM.rm (q1 (loadA Tryz.prog 139) x2 ) fun x3 =>
 CM.ef (apE 1 8 x0 x3) fun x4 =>
 CM.ret x4
theorem f111_ok (h : H 111 = none) : EqD (Rl H) f111 (fun xs m => run (EH H) (.fn 111) xs m) := sE fun _ => zE fun _ => run_eq 400 h (by kernel_rfl) (by kernel_rfl)
noncomputable def f112 : List AV → CM := apS fun a0 => ap0 <|
 CM.al (some (.cells [] false, sB 4 0)) fun x0 =>
 CM.pu (p1 nnA a0) fun x1 =>
 CM.pu (p1 (fun a => fieldAddrA Tryz.prog 175 a 1) x1) fun x2 =>
 CM.rm (q1 (loadA Tryz.prog 46) x2 ) fun x3 =>
 CM.ef (apE 4 40 x0 x3) fun x4 =>
 CM.ret x4
theorem f112_ok (h : H 112 = none) : EqD (Rl H) f112 (fun xs m => run (EH H) (.fn 112) xs m) := sE fun _ => zE fun _ => run_eq 400 h (by kernel_rfl) (by kernel_rfl)
noncomputable def f113 : List AV → CM := apS fun a0 => apS fun a1 => apS fun a2 => ap0 <|
 CM.pu (p2 (binA Tryz.prog .geq 3) a0 a1) fun x0 =>
 CM.ifv x0 (
 CM.pu (p2 (binA Tryz.prog .leq 3) a0 a2) fun x1 =>
 CM.ret x1) (
 CM.ret (.bool false))
theorem f113_ok (h : H 113 = none) : EqD (Rl H) f113 (fun xs m => run (EH H) (.fn 113) xs m) := sE fun _ => sE fun _ => sE fun _ => zE fun _ => run_eq 400 h (by kernel_rfl) (by kernel_rfl)
noncomputable def f114 : List AV → CM := apS fun a0 => ap0 <|
 CM.pu (p2 (binA Tryz.prog .geq 28) a0 (.int .u64 1)) fun x0 =>
 CM.ifv x0 (
 CM.pu (p2 (binA Tryz.prog .leq 28) a0 (.int .u64 72057594037927935)) fun x1 =>
 CM.ret x1) (
 CM.ret (.bool false))
theorem f114_ok (h : H 114 = none) : EqD (Rl H) f114 (fun xs m => run (EH H) (.fn 114) xs m) := sE fun _ => zE fun _ => run_eq 400 h (by kernel_rfl) (by kernel_rfl)
noncomputable def g115_0 : List AV → CM := apS fun t0 => ap0 <|
 CM.pu (p1 (buildA Tryz.prog 260) [(2, t0)]) fun x0 =>
 CM.al (boxA x0) fun x1 =>
 CM.ret (.tup [x1, (.int .i64 0)])
theorem g115_0_ok : EqD (Rl H) g115_0 (fun xs m => goR (EH H) Mk 471040 xs m) := sE fun _ => zE fun _ => goR_eq 400 (by kernel_rfl)
noncomputable def f115 : List AV → CM := apS fun a0 => ap0 <|
 CM.pu (p2 (binA Tryz.prog .lss 3) a0 (.int .i64 1)) fun x0 =>
 CM.ifv x0 (
 CM.ret (.tup [(.ptr none), (.int .i64 1)])) (
 CM.pu (p2 (binA Tryz.prog .gtr 3) a0 (.int .i64 4096)) fun x1 =>
 CM.cond x1 (
 CM.ret (.tup [(.ptr none), (.int .i64 1)])) (
 CM.go 471040 [a0]))
theorem f115_ok (h : H 115 = none) : EqD (Rl H) f115 (fun xs m => run (EH H) (.fn 115) xs m) := sE fun _ => zE fun _ => run_eq 400 h (by kernel_rfl) (by kernel_rfl)
noncomputable def f116 : List AV → CM := apS fun a0 => ap0 <|
 CM.al (boxA a0) fun x0 =>
 CM.ret (.fn (.func 163) [] [x0])
theorem f116_ok (h : H 116 = none) : EqD (Rl H) f116 (fun xs m => run (EH H) (.fn 116) xs m) := sE fun _ => zE fun _ => run_eq 400 h (by kernel_rfl) (by kernel_rfl)
noncomputable def g117_0 : List AV → CM := apS fun t6 => ap0 <|
 CM.ret t6
theorem g117_0_ok : EqD (Rl H) g117_0 (fun xs m => goR (EH H) Mk 479232 xs m) := sE fun _ => zE fun _ => goR_eq 400 (by kernel_rfl)
noncomputable def f117 : List AV → CM := apS fun a0 => apS fun a1 => ap0 <|
 CM.pu (p1 nnA a0) fun x0 =>
 CM.pu (p1 (fun a => fieldAddrA Tryz.prog 260 a 0) x0) fun x1 =>
 CM.rm (q1 (loadA Tryz.prog 139) x1 ) fun x2 =>
 CM.call 86 [x2, a1] fun x3 =>
 CM.pu (p1 (fun a => extractA a 0) x3) fun x4 =>
 CM.pu (p1 (fun a => extractA a 1) x3) fun x5 =>
 CM.cond x5 (
 CM.pu (p1 nnA a0) fun x6 =>
 CM.pu (p1 (fun a => fieldAddrA Tryz.prog 260 a 0) x6) fun x7 =>
 CM.rm (q1 (loadA Tryz.prog 139) x7 ) fun x8 =>
 CM.pu (p2 (binA Tryz.prog .add 3) x4 (.int .i64 1)) fun x9 =>
 CM.call 167 [x8, x4, x9] fun x10 =>
 CM.pu (p1 nnA a0) fun x11 =>
 CM.pu (p1 (fun a => fieldAddrA Tryz.prog 260 a 0) x11) fun x12 =>
 CM.st (fun m => stV m x12 x10 1) <|
 CM.pu (p1 nnA a0) fun x14 =>
 CM.pu (p1 (fun a => fieldAddrA Tryz.prog 260 a 1) x14) fun x15 =>
 CM.rm (q1 (loadA Tryz.prog 67) x15 ) fun x16 =>
 CM.pu (p2 (binA Tryz.prog .add 3) x4 (.int .i64 1)) fun x17 =>
 CM.call 168 [x16, x4, x17] fun x18 =>
 CM.pu (p1 nnA a0) fun x19 =>
 CM.pu (p1 (fun a => fieldAddrA Tryz.prog 260 a 1) x19) fun x20 =>
 CM.st (fun m => stV m x20 x18 1) <|
 CM.go 479232 [x5]) (
 CM.go 479232 [x5])
theorem f117_ok (h : H 117 = none) : EqD (Rl H) f117 (fun xs m => run (EH H) (.fn 117) xs m) := sE fun _ => sE fun _ => zE fun _ => run_eq 400 h (by kernel_rfl) (by kernel_rfl)
noncomputable def f118 : List AV → CM := apS fun a0 => ap0 <|
 CM.al (some (.cells [] false, sB 1 0)) fun x0 =>
 CM.ef (apE 1 1 x0 a0) fun x1 =>
 CM.pu (p1 (buildA Tryz.prog 265) [(0, x1)]) fun x2 =>
 CM.al (boxA x2) fun x3 =>
 CM.ret x3
theorem f118_ok (h : H 118 = none) : EqD (Rl H) f118 (fun xs m => run (EH H) (.fn 118) xs m) := sE fun _ => zE fun _ => run_eq 400 h (by kernel_rfl) (by kernel_rfl)
noncomputable def g119_0 : List AV → CM := apS fun t0 => ap0 <|
 CM.pu (p1 nnA t0) fun x0 =>
 CM.pu (p1 (fun a => fieldAddrA Tryz.prog 265 a 1) x0) fun x1 =>
 CM.rm (q1 (loadA Tryz.prog 3) x1 ) fun x2 =>
 CM.pu (p2 (binA Tryz.prog .add 3) x2 (.int .i64 1)) fun x3 =>
 CM.pu (p1 nnA t0) fun x4 =>
 CM.pu (p1 (fun a => fieldAddrA Tryz.prog 265 a 1) x4) fun x5 =>
 CM.st (fun m => stV m x5 x3 1) <|
 CM.pu (p1 nnA t0) fun x7 =>
 CM.pu (p1 (fun a => fieldAddrA Tryz.prog 265 a 0) x7) fun x8 =>
 CM.rm (q1 (loadA Tryz.prog 60) x8 ) fun x9 =>
 CM.pu (p1 nnA t0) fun x10 =>
 CM.pu (p1 (fun a => fieldAddrA Tryz.prog 265 a 1) x10) fun x11 =>
 CM.rm (q1 (loadA Tryz.prog 3) x11 ) fun x12 =>
 CM.pu (p2 (binA Tryz.prog .sub 3) x12 (.int .i64 1)) fun x13 =>
 CM.pu (p2 (indexAddrA Tryz.prog 60) x9 x13) fun x14 =>
 CM.rm (q1 (loadA Tryz.prog 5) x14 ) fun x15 =>
 CM.ret x15
theorem g119_0_ok : EqD (Rl H) g119_0 (fun xs m => goR (EH H) Mk 487424 xs m) := sE fun _ => zE fun _ => goR_eq 400 (by kernel_rfl)
noncomputable def f119 : List AV → CM := apS fun a0 => apS fun a1 => ap0 <|
 CM.pu (p1 nnA a0) fun x0 =>
 CM.pu (p1 (fun a => fieldAddrA Tryz.prog 265 a 2) x0) fun x1 =>
 CM.rm (q1 (loadA Tryz.prog 23) x1 ) fun x2 =>
 CM.pu (p2 (binA Tryz.prog .neq 23) x2 (.int .i64 0)) fun x3 =>
 CM.cond x3 (
 CM.ret (.int .u8 0)) (
 CM.pu (p1 nnA a0) fun x4 =>
 CM.pu (p1 (fun a => fieldAddrA Tryz.prog 265 a 1) x4) fun x5 =>
 CM.rm (q1 (loadA Tryz.prog 3) x5 ) fun x6 =>
 CM.pu (p1 nnA a0) fun x7 =>
 CM.pu (p1 (fun a => fieldAddrA Tryz.prog 265 a 0) x7) fun x8 =>
 CM.rm (q1 (loadA Tryz.prog 60) x8 ) fun x9 =>
 CM.pu (p1 (lenT Tryz.prog 60) x9) fun x10 =>
 CM.pu (p2 (binA Tryz.prog .geq 3) x6 x10) fun x11 =>
 CM.cond x11 (
 CM.call 169 [a0, (.int .i64 10)] fun _ =>
 CM.ret (.int .u8 0)) (
 CM.pu (p1 nnA a0) fun x13 =>
 CM.pu (p1 (fun a => fieldAddrA Tryz.prog 265 a 0) x13) fun x14 =>
 CM.rm (q1 (loadA Tryz.prog 60) x14 ) fun x15 =>
 CM.pu (p1 nnA a0) fun x16 =>
 CM.pu (p1 (fun a => fieldAddrA Tryz.prog 265 a 1) x16) fun x17 =>
 CM.rm (q1 (loadA Tryz.prog 3) x17 ) fun x18 =>
 CM.pu (p2 (indexAddrA Tryz.prog 60) x15 x18) fun x19 =>
 CM.rm (q1 (loadA Tryz.prog 5) x19 ) fun x20 =>
 CM.pu (p2 (binA Tryz.prog .gtr 5) x20 a1) fun x21 =>
 CM.cond x21 (
 CM.call 169 [a0, (.int .i64 12)] fun _ =>
 CM.ret (.int .u8 0)) (
 CM.go 487424 [a0])))
theorem f119_ok (h : H 119 = none) : EqD (Rl H) f119 (fun xs m => run (EH H) (.fn 119) xs m) := sE fun _ => sE fun _ => zE fun _ => run_eq 400 h (by kernel_rfl) (by kernel_rfl)
noncomputable def g120_0 : List AV → CM := apS fun t3 => apS fun t4 => ap0 <|
 CM.pu (p2 (binA Tryz.prog .eql 3) t4 (.int .i64 4)) fun x0 =>
 CM.cond x0 (
 CM.cond x0 (
 CM.go 491528 [t3]) (
 CM.go 491521 [t3, t4])) (
 CM.pu (p2 (binA Tryz.prog .eql 3) t4 (.int .i64 5)) fun x1 =>
 CM.cond x1 (
 CM.go 491528 [t3]) (
 CM.go 491521 [t3, t4]))
theorem g120_0_ok : EqD (Rl H) g120_0 (fun xs m => goR (EH H) Mk 491520 xs m) := sE fun _ => sE fun _ => zE fun _ => goR_eq 400 (by kernel_rfl)
noncomputable def g120_1 : List AV → CM := apS fun t3 => apS fun t4 => ap0 <|
 CM.pu (p2 (binA Tryz.prog .eql 3) t4 (.int .i64 9)) fun x0 =>
 CM.cond x0 (
 CM.go 491529 [t3]) (
 CM.go 491522 [t3, t4])
theorem g120_1_ok : EqD (Rl H) g120_1 (fun xs m => goR (EH H) Mk 491521 xs m) := sE fun _ => sE fun _ => zE fun _ => goR_eq 400 (by kernel_rfl)
noncomputable def g120_2 : List AV → CM := apS fun t3 => apS fun t4 => ap0 <|
 CM.pu (p2 (binA Tryz.prog .eql 3) t4 (.int .i64 7)) fun x0 =>
 CM.cond x0 (
 CM.go 491530 [t3]) (
 CM.go 491523 [t3, t4])
theorem g120_2_ok : EqD (Rl H) g120_2 (fun xs m => goR (EH H) Mk 491522 xs m) := sE fun _ => sE fun _ => zE fun _ => goR_eq 400 (by kernel_rfl)
noncomputable def g120_3 : List AV → CM := apS fun t3 => apS fun t4 => ap0 <|
 CM.pu (p2 (binA Tryz.prog .eql 3) t4 (.int .i64 11)) fun x0 =>
 CM.cond x0 (
 CM.go 491531 [t3]) (
 CM.go 491524 [t3, t4])
theorem g120_3_ok : EqD (Rl H) g120_3 (fun xs m => goR (EH H) Mk 491523 xs m) := sE fun _ => sE fun _ => zE fun _ => goR_eq 400 (by kernel_rfl)
noncomputable def g120_4 : List AV → CM := apS fun t3 => apS fun t4 => ap0 <|
 CM.pu (p2 (binA Tryz.prog .eql 3) t4 (.int .i64 3)) fun x0 =>
 CM.cond x0 (
 CM.cond x0 (
 CM.go 491532 [t3]) (
 CM.go 491525 [t3, t4])) (
 CM.pu (p2 (binA Tryz.prog .eql 3) t4 (.int .i64 10)) fun x1 =>
 CM.cond x1 (
 CM.go 491532 [t3]) (
 CM.go 491525 [t3, t4]))
theorem g120_4_ok : EqD (Rl H) g120_4 (fun xs m => goR (EH H) Mk 491524 xs m) := sE fun _ => sE fun _ => zE fun _ => goR_eq 400 (by kernel_rfl)
noncomputable def g120_5 : List AV → CM := apS fun t3 => apS fun t4 => ap0 <|
 CM.pu (p2 (binA Tryz.prog .eql 3) t4 (.int .i64 1)) fun x0 =>
 CM.cond x0 (
 CM.go 491533 [t3]) (
 CM.go 491526 [t3, t4])
theorem g120_5_ok : EqD (Rl H) g120_5 (fun xs m => goR (EH H) Mk 491525 xs m) := sE fun _ => sE fun _ => zE fun _ => goR_eq 400 (by kernel_rfl)
noncomputable def g120_6 : List AV → CM := apS fun t3 => apS fun t4 => ap0 <|
 CM.pu (p2 (binA Tryz.prog .eql 3) t4 (.int .i64 2)) fun x0 =>
 CM.cond x0 (
 CM.go 491534 [t3]) (
 CM.go 491535 [t3])
theorem g120_6_ok : EqD (Rl H) g120_6 (fun xs m => goR (EH H) Mk 491526 xs m) := sE fun _ => sE fun _ => zE fun _ => goR_eq 400 (by kernel_rfl)
noncomputable def g120_7 : List AV → CM := apS fun t3 => ap0 <|
 CM.pu (p2 (binA Tryz.prog .or 3) t3 (.int .i64 8)) fun x0 =>
 CM.go 491528 [x0]
theorem g120_7_ok : EqD (Rl H) g120_7 (fun xs m => goR (EH H) Mk 491527 xs m) := sE fun _ => zE fun _ => goR_eq 400 (by kernel_rfl)
noncomputable def g120_8 : List AV → CM := apS fun t3 => ap0 <|
 CM.pu (p2 (binA Tryz.prog .or 3) t3 (.int .i64 16)) fun x0 =>
 CM.go 491529 [x0]
theorem g120_8_ok : EqD (Rl H) g120_8 (fun xs m => goR (EH H) Mk 491528 xs m) := sE fun _ => zE fun _ => goR_eq 400 (by kernel_rfl)
noncomputable def g120_9 : List AV → CM := apS fun t3 => ap0 <|
 CM.pu (p2 (binA Tryz.prog .or 3) t3 (.int .i64 7)) fun x0 =>
 CM.go 491535 [x0]
theorem g120_9_ok : EqD (Rl H) g120_9 (fun xs m => goR (EH H) Mk 491529 xs m) := sE fun _ => zE fun _ => goR_eq 400 (by kernel_rfl)
noncomputable def g120_10 : List AV → CM := apS fun t3 => ap0 <|
 CM.pu (p2 (binA Tryz.prog .or 3) t3 (.int .i64 16)) fun x0 =>
 CM.go 491531 [x0]
theorem g120_10_ok : EqD (Rl H) g120_10 (fun xs m => goR (EH H) Mk 491530 xs m) := sE fun _ => zE fun _ => goR_eq 400 (by kernel_rfl)
noncomputable def g120_11 : List AV → CM := apS fun t3 => ap0 <|
 CM.pu (p2 (binA Tryz.prog .or 3) t3 (.int .i64 64)) fun x0 =>
 CM.go 491532 [x0]
theorem g120_11_ok : EqD (Rl H) g120_11 (fun xs m => goR (EH H) Mk 491531 xs m) := sE fun _ => zE fun _ => goR_eq 400 (by kernel_rfl)
noncomputable def g120_12 : List AV → CM := apS fun t3 => ap0 <|
 CM.pu (p2 (binA Tryz.prog .or 3) t3 (.int .i64 34)) fun x0 =>
 CM.go 491533 [x0]
theorem g120_12_ok : EqD (Rl H) g120_12 (fun xs m => goR (EH H) Mk 491532 xs m) := sE fun _ => zE fun _ => goR_eq 400 (by kernel_rfl)
noncomputable def g120_13 : List AV → CM := apS fun t3 => ap0 <|
 CM.pu (p2 (binA Tryz.prog .or 3) t3 (.int .i64 1)) fun x0 =>
 CM.go 491535 [x0]
theorem g120_13_ok : EqD (Rl H) g120_13 (fun xs m => goR (EH H) Mk 491533 xs m) := sE fun _ => zE fun _ => goR_eq 400 (by kernel_rfl)
noncomputable def g120_14 : List AV → CM := apS fun t3 => ap0 <|
 CM.pu (p2 (binA Tryz.prog .or 3) t3 (.int .i64 39)) fun x0 =>
 CM.go 491535 [x0]
theorem g120_14_ok : EqD (Rl H) g120_14 (fun xs m => goR (EH H) Mk 491534 xs m) := sE fun _ => zE fun _ => goR_eq 400 (by kernel_rfl)
noncomputable def g120_15 : List AV → CM := apS fun t3 => ap0 <|
 CM.ret t3
theorem g120_15_ok : EqD (Rl H) g120_15 (fun xs m => goR (EH H) Mk 491535 xs m) := sE fun _ => zE fun _ => goR_eq 400 (by kernel_rfl)
noncomputable def f120 : List AV → CM := apS fun a0 => ap0 <|
 CM.pu (p2 (binA Tryz.prog .eql 3) a0 (.int .i64 6)) fun x0 =>
 CM.cond x0 (
 CM.cond x0 (
 CM.go 491527 [(.int .i64 0)]) (
 CM.go 491520 [(.int .i64 0), a0])) (
 CM.pu (p2 (binA Tryz.prog .eql 3) a0 (.int .i64 8)) fun x1 =>
 CM.cond x1 (
 CM.go 491527 [(.int .i64 0)]) (
 CM.go 491520 [(.int .i64 0), a0]))
theorem f120_ok (h : H 120 = none) : EqD (Rl H) f120 (fun xs m => run (EH H) (.fn 120) xs m) := sE fun _ => zE fun _ => run_eq 400 h (by kernel_rfl) (by kernel_rfl)
noncomputable def f121 : List AV → CM := apS fun a0 => apS fun a1 => apS fun a2 => ap0 <|
 CM.pu (p2 (binA Tryz.prog .eql 3) a2 (.int .i64 1)) fun x0 =>
 CM.cond x0 (
 CM.call 170 [a0, (.int .u64 72057594037927935)] fun x1 =>
 CM.pu (p1 nnA a1) fun x2 =>
 CM.pu (p1 (fun a => fieldAddrA Tryz.prog 65 a 1) x2) fun x3 =>
 CM.st (fun m => stV m x3 x1 1) <|
 CM.ret .undef) (
 CM.pu (p2 (binA Tryz.prog .eql 3) a2 (.int .i64 2)) fun x5 =>
 CM.cond x5 (
 CM.call 170 [a0, (.int .u64 72057594037927935)] fun x6 =>
 CM.pu (p1 nnA a1) fun x7 =>
 CM.pu (p1 (fun a => fieldAddrA Tryz.prog 65 a 2) x7) fun x8 =>
 CM.st (fun m => stV m x8 x6 1) <|
 CM.ret .undef) (
 CM.pu (p2 (binA Tryz.prog .eql 3) a2 (.int .i64 4)) fun x10 =>
 CM.cond x10 (
 CM.call 170 [a0, (.int .u64 18446744073709551615)] fun x11 =>
 CM.pu (p1 nnA a1) fun x12 =>
 CM.pu (p1 (fun a => fieldAddrA Tryz.prog 65 a 3) x12) fun x13 =>
 CM.st (fun m => stV m x13 x11 1) <|
 CM.ret .undef) (
 CM.pu (p2 (binA Tryz.prog .eql 3) a2 (.int .i64 8)) fun x15 =>
 CM.cond x15 (
 CM.call 170 [a0, (.int .u64 18446744073709551615)] fun x16 =>
 CM.pu (p1 nnA a1) fun x17 =>
 CM.pu (p1 (fun a => fieldAddrA Tryz.prog 65 a 4) x17) fun x18 =>
 CM.st (fun m => stV m x18 x16 1) <|
 CM.ret .undef) (
 CM.pu (p2 (binA Tryz.prog .eql 3) a2 (.int .i64 16)) fun x20 =>
 CM.cond x20 (
 CM.call 171 [a0] fun x21 =>
 CM.pu (p1 nnA a1) fun x22 =>
 CM.pu (p1 (fun a => fieldAddrA Tryz.prog 65 a 5) x22) fun x23 =>
 CM.st (fun m => stV m x23 x21 3) <|
 CM.ret .undef) (
 CM.pu (p2 (binA Tryz.prog .eql 3) a2 (.int .i64 32)) fun x25 =>
 CM.cond x25 (
 CM.call 172 [a0] fun x26 =>
 CM.pu (p1 nnA a1) fun x27 =>
 CM.pu (p1 (fun a => fieldAddrA Tryz.prog 65 a 6) x27) fun x28 =>
 CM.st (fun m => stV m x28 x26 1) <|
 CM.ret .undef) (
 CM.pu (p2 (binA Tryz.prog .eql 3) a2 (.int .i64 64)) fun x30 =>
 CM.cond x30 (
 CM.call 172 [a0] fun x31 =>
 CM.pu (p1 nnA a1) fun x32 =>
 CM.pu (p1 (fun a => fieldAddrA Tryz.prog 65 a 7) x32) fun x33 =>
 CM.st (fun m => stV m x33 x31 1) <|
 CM.ret .undef) (
 CM.ret .undef)))))))
theorem f121_ok (h : H 121 = none) : EqD (Rl H) f121 (fun xs m => run (EH H) (.fn 121) xs m) := sE fun _ => sE fun _ => sE fun _ => zE fun _ => run_eq 400 h (by kernel_rfl) (by kernel_rfl)
noncomputable def g122_0 : List AV → CM := apS fun t0 => ap0 <|
 CM.pu (p1 nnA t0) fun x0 =>
 CM.pu (p1 (fun a => fieldAddrA Tryz.prog 265 a 2) x0) fun x1 =>
 CM.rm (q1 (loadA Tryz.prog 23) x1 ) fun x2 =>
 CM.ret x2
theorem g122_0_ok : EqD (Rl H) g122_0 (fun xs m => goR (EH H) Mk 499712 xs m) := sE fun _ => zE fun _ => goR_eq 400 (by kernel_rfl)
noncomputable def f122 : List AV → CM := apS fun a0 => ap0 <|
 CM.pu (p1 nnA a0) fun x0 =>
 CM.pu (p1 (fun a => fieldAddrA Tryz.prog 265 a 2) x0) fun x1 =>
 CM.rm (q1 (loadA Tryz.prog 23) x1 ) fun x2 =>
 CM.pu (p2 (binA Tryz.prog .eql 23) x2 (.int .i64 0)) fun x3 =>
 CM.ifv x3 (
 CM.pu (p1 nnA a0) fun x4 =>
 CM.pu (p1 (fun a => fieldAddrA Tryz.prog 265 a 1) x4) fun x5 =>
 CM.rm (q1 (loadA Tryz.prog 3) x5 ) fun x6 =>
 CM.pu (p1 nnA a0) fun x7 =>
 CM.pu (p1 (fun a => fieldAddrA Tryz.prog 265 a 0) x7) fun x8 =>
 CM.rm (q1 (loadA Tryz.prog 60) x8 ) fun x9 =>
 CM.pu (p1 (lenT Tryz.prog 60) x9) fun x10 =>
 CM.pu (p2 (binA Tryz.prog .lss 3) x6 x10) fun x11 =>
 CM.cond x11 (
 CM.ret (.int .i64 11)) (
 CM.go 499712 [a0])) (
 CM.go 499712 [a0])
theorem f122_ok (h : H 122 = none) : EqD (Rl H) f122 (fun xs m => run (EH H) (.fn 122) xs m) := sE fun _ => zE fun _ => run_eq 400 h (by kernel_rfl) (by kernel_rfl)
noncomputable def g123_0 : List AV → CM := apS fun t1 => apS fun t3 => ap0 <|
 CM.go 503809 [t1, t3, (.int .i64 1)]
theorem g123_0_ok : EqD (Rl H) g123_0 (fun xs m => goR (EH H) Mk 503808 xs m) := sE fun _ => sE fun _ => zE fun _ => goR_eq 400 (by kernel_rfl)
noncomputable def g123_1 : List AV → CM := apS fun t1 => apS fun t3 => apS fun t4 => ap0 <|
 CM.pu (p2 (binA Tryz.prog .lss 3) t4 (.int .i64 128)) fun x0 =>
 CM.cond x0 (
 CM.go 503810 [t1, t3, t4]) (
 CM.go 503812 [])
theorem g123_1_ok : EqD (Rl H) g123_1 (fun xs m => goR (EH H) Mk 503809 xs m) := sE fun _ => sE fun _ => sE fun _ => zE fun _ => goR_eq 400 (by kernel_rfl)
noncomputable def g123_2 : List AV → CM := apS fun t1 => apS fun t3 => apS fun t4 => ap0 <|
 CM.pu (p2 (binA Tryz.prog .and 3) t3 t4) fun x0 =>
 CM.pu (p2 (binA Tryz.prog .neq 3) x0 (.int .i64 0)) fun x1 =>
 CM.ifv x1 (
 CM.rm (q1 (loadA Tryz.prog 65) t1 ) fun x2 =>
 CM.call 173 [x2, t4] fun x3 =>
 CM.pu (p1 (unA .not) x3) fun x4 =>
 CM.ifv x4 (
 CM.ret (.bool false)) (
 CM.pu (p2 (binA Tryz.prog .and 3) t3 t4) fun x5 =>
 CM.pu (p2 (binA Tryz.prog .eql 3) x5 (.int .i64 0)) fun x6 =>
 CM.ifv x6 (
 CM.rm (q1 (loadA Tryz.prog 65) t1 ) fun x7 =>
 CM.call 174 [x7, t4] fun x8 =>
 CM.pu (p1 (unA .not) x8) fun x9 =>
 CM.cond x9 (
 CM.ret (.bool false)) (
 CM.go 503811 [t1, t3, t4])) (
 CM.go 503811 [t1, t3, t4]))) (
 CM.pu (p2 (binA Tryz.prog .and 3) t3 t4) fun x10 =>
 CM.pu (p2 (binA Tryz.prog .eql 3) x10 (.int .i64 0)) fun x11 =>
 CM.ifv x11 (
 CM.rm (q1 (loadA Tryz.prog 65) t1 ) fun x12 =>
 CM.call 174 [x12, t4] fun x13 =>
 CM.pu (p1 (unA .not) x13) fun x14 =>
 CM.cond x14 (
 CM.ret (.bool false)) (
 CM.go 503811 [t1, t3, t4])) (
 CM.go 503811 [t1, t3, t4]))
theorem g123_2_ok : EqD (Rl H) g123_2 (fun xs m => goR (EH H) Mk 503810 xs m) := sE fun _ => sE fun _ => sE fun _ => zE fun _ => goR_eq 400 (by kernel_rfl)
noncomputable def g123_3 : List AV → CM := apS fun t1 => apS fun t3 => apS fun t4 => ap0 <|
 CM.pu (p2 (binA Tryz.prog .shl 3) t4 (.int .u64 1)) fun x0 =>
 CM.go 503809 [t1, t3, x0]
theorem g123_3_ok : EqD (Rl H) g123_3 (fun xs m => goR (EH H) Mk 503811 xs m) := sE fun _ => sE fun _ => sE fun _ => zE fun _ => goR_eq 400 (by kernel_rfl)
noncomputable def g123_4 : List AV → CM := ap0 <|
 CM.ret (.bool true)
theorem g123_4_ok : EqD (Rl H) g123_4 (fun xs m => goR (EH H) Mk 503812 xs m) := zE fun _ => goR_eq 400 (by kernel_rfl)
noncomputable def f123 : List AV → CM := apS fun a0 => ap0 <|
 CM.al (boxA a0) fun x0 =>
 CM.pu (p1 (fun a => fieldAddrA Tryz.prog 65 a 0) x0) fun x1 =>
 CM.rm (q1 (loadA Tryz.prog 3) x1 ) fun x2 =>
 CM.call 120 [x2] fun x3 =>
 CM.pu (p2 (binA Tryz.prog .eql 3) x3 (.int .i64 0)) fun x4 =>
 CM.cond x4 (
 CM.ret (.bool false)) (
 CM.go 503808 [x0, x3])
theorem f123_ok (h : H 123 = none) : EqD (Rl H) f123 (fun xs m => run (EH H) (.fn 123) xs m) := sE fun _ => zE fun _ => run_eq 400 h (by kernel_rfl) (by kernel_rfl)
noncomputable def g124_0 : List AV → CM := apS fun t0 => apS fun t4 => apS fun t6 => ap0 <|
 CM.pu (p1 nnA t0) fun x0 =>
 CM.pu (p1 (fun a => fieldAddrA Tryz.prog 260 a 1) x0) fun x1 =>
 CM.rm (q1 (loadA Tryz.prog 67) x1 ) fun x2 =>
 CM.pu (p2 (indexAddrA Tryz.prog 67) x2 t6) fun x3 =>
 CM.rm (q1 (loadA Tryz.prog 210) x3 ) fun x4 =>
 CM.st (fun m => stV m t4 x4 4) <|
 CM.resC Tryz.prog [ResultVar.cell 0 210, ResultVar.tmp 1] [t4, (.bool true)]
theorem g124_0_ok : EqD (Rl H) g124_0 (fun xs m => goR (EH H) Mk 507904 xs m) := sE fun _ => sE fun _ => sE fun _ => zE fun _ => goR_eq 400 (by kernel_rfl)
noncomputable def f124 : List AV → CM := apS fun a0 => apS fun a1 => ap0 <|
 CM.al (some (.cells [(.int .u64 0), (.int .u64 0), (.int .u64 0), (.sl none 0 0 0 true)] false, pB)) fun x0 =>
 CM.pu (p1 nnA a0) fun x1 =>
 CM.pu (p1 (fun a => fieldAddrA Tryz.prog 260 a 0) x1) fun x2 =>
 CM.rm (q1 (loadA Tryz.prog 139) x2 ) fun x3 =>
 CM.call 86 [x3, a1] fun x4 =>
 CM.pu (p1 (fun a => extractA a 0) x4) fun x5 =>
 CM.pu (p1 (fun a => extractA a 1) x4) fun x6 =>
 CM.pu (p1 (unA .not) x6) fun x7 =>
 CM.cond x7 (
 CM.al (some (.cells [(.int .u64 0), (.int .u64 0), (.int .u64 0), (.sl none 0 0 0 true)] false, pB)) fun x8 =>
 CM.rm (q1 (loadA Tryz.prog 210) x8 ) fun x9 =>
 CM.st (fun m => stV m x0 x9 4) <|
 CM.resC Tryz.prog [ResultVar.cell 0 210, ResultVar.tmp 1] [x0, (.bool false)]) (
 CM.go 507904 [a0, x0, x5])
theorem f124_ok (h : H 124 = none) : EqD (Rl H) f124 (fun xs m => run (EH H) (.fn 124) xs m) := sE fun _ => sE fun _ => zE fun _ => run_eq 400 h (by kernel_rfl) (by kernel_rfl)
noncomputable def f125 : List AV → CM := apS fun a0 => ap0 <|
 CM.pu (p1 nnA a0) fun x0 =>
 CM.pu (p1 (fun a => fieldAddrA Tryz.prog 260 a 0) x0) fun x1 =>
 CM.rm (q1 (loadA Tryz.prog 139) x1 ) fun x2 =>
 CM.pu (p1 (lenT Tryz.prog 139) x2) fun x3 =>
 CM.ret x3
theorem f125_ok (h : H 125 = none) : EqD (Rl H) f125 (fun xs m => run (EH H) (.fn 125) xs m) := sE fun _ => zE fun _ => run_eq 400 h (by kernel_rfl) (by kernel_rfl)
noncomputable def g126_0 : List AV → CM := apS fun t3 => apS fun t4 => apS fun t5 => apS fun t6 => apS fun t7 => apS fun t12 => apS fun t13 => apS fun t14 => ap0 <|
 CM.rng (.fn (rsOf (EH fun _ => none) 126)) t12 (loopOf (EH fun _ => none) 126 0 ([.undef, .undef, .undef, t3, t4, t5, t6, t7, .undef, .undef, .undef, .undef, t12, t13, t14] ++ List.replicate 12 .undef)) 516096 [t3, t4, t5, t6, t7, t12, t13, t14]
theorem g126_0_ok : EqD (Rl H) g126_0 (fun xs m => goR (EH H) Mk 516096 xs m) := sE fun _ => sE fun _ => sE fun _ => sE fun _ => sE fun _ => sE fun _ => sE fun _ => sE fun _ => zE fun _ => goR_eq 400 (by kernel_rfl)
noncomputable def g126_2 : List AV → CM := apS fun t3 => ap0 <|
 CM.rm (q1 (loadA Tryz.prog 28) t3 ) fun x0 =>
 CM.ret x0
theorem g126_2_ok : EqD (Rl H) g126_2 (fun xs m => goR (EH H) Mk 516098 xs m) := sE fun _ => zE fun _ => goR_eq 400 (by kernel_rfl)
noncomputable def l126_0_none : List AV → CM := apS fun t3 => apS fun _ => apS fun _ => apS fun _ => apS fun _ => apS fun _ => apS fun _ => apS fun _ => ap0 <|
 CM.go 516098 [t3]
theorem l126_0_none_ok : EqD (Rl H) l126_0_none (fun xs m => afR (EH H) Nk 516096 none xs m) := sE fun _ => sE fun _ => sE fun _ => sE fun _ => sE fun _ => sE fun _ => sE fun _ => sE fun _ => zE fun _ => afR_eq 400 (by kernel_rfl)
noncomputable def f126 : List AV → CM := apS fun a0 => ap0 <|
 CM.al (some (.cells [(.int .u64 0)] false, pB)) fun x0 =>
 CM.al (some (.cells [(.int .u64 0)] false, pB)) fun x1 =>
 CM.al (some (.cells [(.bool false)] false, pB)) fun x2 =>
 CM.st (fun m => stV m x0 (.int .u64 0) 1) <|
 CM.st (fun m => stV m x1 (.int .u64 0) 1) <|
 CM.st (fun m => stV m x2 (.bool false) 1) <|
 CM.pu (p1 nnA a0) fun x6 =>
 CM.pu (p1 (fun a => fieldAddrA Tryz.prog 212 a 1) x6) fun x7 =>
 CM.rm (q1 (loadA Tryz.prog 205) x7 ) fun x8 =>
 CM.call 116 [x8] fun x9 =>
 CM.go 516096 [x0, x1, x2, .undef, .undef, x9, .undef, .undef]
theorem f126_ok (h : H 126 = none) : EqD (Rl H) f126 (fun xs m => run (EH H) (.fn 126) xs m) := sE fun _ => zE fun _ => run_eq 400 h (by kernel_rfl) (by kernel_rfl)
noncomputable def g127_0 : List AV → CM := ap0 <|
 CM.ret (.bool true)
theorem g127_0_ok : EqD (Rl H) g127_0 (fun xs m => goR (EH H) Mk 520192 xs m) := zE fun _ => goR_eq 400 (by kernel_rfl)
noncomputable def f127 : List AV → CM := apS fun a0 => apS fun a1 => apS fun a2 => ap0 <|
 CM.al (boxA a2) fun x0 =>
 CM.pu (p1 nnA a0) fun x1 =>
 CM.pu (p1 (fun a => fieldAddrA Tryz.prog 260 a 0) x1) fun x2 =>
 CM.rm (q1 (loadA Tryz.prog 139) x2 ) fun x3 =>
 CM.call 86 [x3, a1] fun x4 =>
 CM.pu (p1 (fun a => extractA a 0) x4) fun x5 =>
 CM.pu (p1 (fun a => extractA a 1) x4) fun x6 =>
 CM.cond x6 (
 CM.pu (p1 nnA a0) fun x7 =>
 CM.pu (p1 (fun a => fieldAddrA Tryz.prog 260 a 1) x7) fun x8 =>
 CM.rm (q1 (loadA Tryz.prog 67) x8 ) fun x9 =>
 CM.rm (q1 (loadA Tryz.prog 210) x0 ) fun x10 =>
 CM.pu (p2 (indexAddrA Tryz.prog 67) x9 x5) fun x11 =>
 CM.st (fun m => stV m x11 x10 4) <|
 CM.go 520192 []) (
 CM.pu (p1 nnA a0) fun x15 =>
 CM.pu (p1 (fun a => fieldAddrA Tryz.prog 260 a 0) x15) fun x16 =>
 CM.rm (q1 (loadA Tryz.prog 139) x16 ) fun x17 =>
 CM.pu (p1 (lenT Tryz.prog 139) x17) fun x18 =>
 CM.pu (p1 nnA a0) fun x19 =>
 CM.pu (p1 (fun a => fieldAddrA Tryz.prog 260 a 2) x19) fun x20 =>
 CM.rm (q1 (loadA Tryz.prog 3) x20 ) fun x21 =>
 CM.pu (p2 (binA Tryz.prog .geq 3) x18 x21) fun x22 =>
 CM.cond x22 (
 CM.ret (.bool false)) (
 CM.pu (p1 nnA a0) fun x23 =>
 CM.pu (p1 (fun a => fieldAddrA Tryz.prog 260 a 0) x23) fun x24 =>
 CM.rm (q1 (loadA Tryz.prog 139) x24 ) fun x25 =>
 CM.al (bsA 1 1 [(.int .u64 0)] [(0, a1)]) fun x26 =>
 CM.call 87 [x25, x5, x26] fun x27 =>
 CM.pu (p1 nnA a0) fun x28 =>
 CM.pu (p1 (fun a => fieldAddrA Tryz.prog 260 a 0) x28) fun x29 =>
 CM.st (fun m => stV m x29 x27 1) <|
 CM.pu (p1 nnA a0) fun x31 =>
 CM.pu (p1 (fun a => fieldAddrA Tryz.prog 260 a 1) x31) fun x32 =>
 CM.rm (q1 (loadA Tryz.prog 67) x32 ) fun x33 =>
 CM.rm (q1 (loadA Tryz.prog 210) x0 ) fun x34 =>
 CM.al (bsA 4 1 [(.int .u64 0), (.int .u64 0), (.int .u64 0), (.sl none 0 0 0 true)] [(0, x34)]) fun x35 =>
 CM.call 175 [x33, x5, x35] fun x37 =>
 CM.pu (p1 nnA a0) fun x39 =>
 CM.pu (p1 (fun a => fieldAddrA Tryz.prog 260 a 1) x39) fun x40 =>
 CM.st (fun m => stV m x40 x37 1) <|
 CM.go 520192 []))
theorem f127_ok (h : H 127 = none) : EqD (Rl H) f127 (fun xs m => run (EH H) (.fn 127) xs m) := sE fun _ => sE fun _ => sE fun _ => zE fun _ => run_eq 400 h (by kernel_rfl) (by kernel_rfl)
noncomputable def f128 : List AV → CM := apS fun a0 => ap0 <|
 CM.al (boxA a0) fun x0 =>
 CM.al (some (.cells [(.sl none 0 0 0 true), (.sl none 0 0 0 true), (.sl none 0 0 0 true), (.int .u64 0)] false, pB)) fun x1 =>
 CM.al (some (.cells [(.sl none 0 0 0 true), (.sl none 0 0 0 true), (.sl none 0 0 0 true), (.int .u64 0)] false, pB)) fun x2 =>
 CM.rm (q1 (loadA Tryz.prog 229) x0 ) fun x3 =>
 CM.call 176 [x3, (.int .u64 8), (.fn (.func 177) [] [x0, x2])] fun _ =>
 CM.rm (q1 (loadA Tryz.prog 229) x0 ) fun x5 =>
 CM.call 176 [x5, (.int .u64 64), (.fn (.func 180) [] [x0, x2])] fun _ =>
 CM.rm (q1 (loadA Tryz.prog 229) x0 ) fun x7 =>
 CM.pu (p1 nnA x7) fun x8 =>
 CM.pu (p1 (fun a => fieldAddrA Tryz.prog 231 a 0) x8) fun x9 =>
 CM.rm (q1 (loadA Tryz.prog 216) x9 ) fun x10 =>
 CM.call 170 [x10, (.int .u64 18446744073709551615)] fun x11 =>
 CM.pu (p1 (fun a => fieldAddrA Tryz.prog 48 a 3) x2) fun x12 =>
 CM.st (fun m => stV m x12 x11 1) <|
 CM.rm (q1 (loadA Tryz.prog 229) x0 ) fun x14 =>
 CM.call 176 [x14, (.int .u64 64), (.fn (.func 181) [] [x0, x2])] fun _ =>
 CM.rm (q1 (loadA Tryz.prog 48) x2 ) fun x16 =>
 CM.st (fun m => stV m x1 x16 4) <|
 CM.resC Tryz.prog [ResultVar.cell 0 48] [x1]
theorem f128_ok (h : H 128 = none) : EqD (Rl H) f128 (fun xs m => run (EH H) (.fn 128) xs m) := sE fun _ => zE fun _ => run_eq 400 h (by kernel_rfl) (by kernel_rfl)
noncomputable def f129 : List AV → CM := apS fun a0 => ap0 <|
 CM.al (boxA a0) fun x0 =>
 CM.al (some (.cells [(.sl none 0 0 0 true)] false, pB)) fun x1 =>
 CM.rm (q1 (loadA Tryz.prog 229) x0 ) fun x2 =>
 CM.call 176 [x2, (.int .u64 16), (.fn (.func 182) [] [x0, x1])] fun _ =>
 CM.rm (q1 (loadA Tryz.prog 67) x1 ) fun x4 =>
 CM.ret x4
theorem f129_ok (h : H 129 = none) : EqD (Rl H) f129 (fun xs m => run (EH H) (.fn 129) xs m) := sE fun _ => zE fun _ => run_eq 400 h (by kernel_rfl) (by kernel_rfl)
noncomputable def g130_0 : List AV → CM := apS fun t0 => ap0 <|
 CM.pu (p1 (lenT Tryz.prog 67) t0) fun x0 =>
 CM.go 532481 [(.int .u64 0), t0, x0, (.int .i64 0)]
theorem g130_0_ok : EqD (Rl H) g130_0 (fun xs m => goR (EH H) Mk 532480 xs m) := sE fun _ => zE fun _ => goR_eq 400 (by kernel_rfl)
noncomputable def g130_1 : List AV → CM := apS fun t5 => apS fun t20 => apS fun t21 => apS fun t22 => ap0 <|
 CM.pu (p2 (binA Tryz.prog .lss 3) t22 t21) fun x0 =>
 CM.cond x0 (
 CM.go 532482 [t5, t20, t21, t22]) (
 CM.go 532485 [])
theorem g130_1_ok : EqD (Rl H) g130_1 (fun xs m => goR (EH H) Mk 532481 xs m) := sE fun _ => sE fun _ => sE fun _ => sE fun _ => zE fun _ => goR_eq 400 (by kernel_rfl)
noncomputable def g130_2 : List AV → CM := apS fun t5 => apS fun t20 => apS fun t21 => apS fun t22 => ap0 <|
 CM.pu (p2 (indexAddrA Tryz.prog 67) t20 t22) fun x0 =>
 CM.rm (q1 (loadA Tryz.prog 210) x0 ) fun x1 =>
 CM.al (some (.cells [(.int .u64 0), (.int .u64 0), (.int .u64 0), (.sl none 0 0 0 true)] false, pB)) fun x2 =>
 CM.st (fun m => stV m x2 x1 4) <|
 CM.pu (p1 (fun a => fieldAddrA Tryz.prog 210 a 0) x2) fun x4 =>
 CM.rm (q1 (loadA Tryz.prog 28) x4 ) fun x5 =>
 CM.pu (p2 (binA Tryz.prog .leq 28) x5 t5) fun x6 =>
 CM.ifv x6 (
 CM.ret (.bool false)) (
 CM.pu (p1 (fun a => fieldAddrA Tryz.prog 210 a 0) x2) fun x7 =>
 CM.rm (q1 (loadA Tryz.prog 28) x7 ) fun x8 =>
 CM.pu (p2 (binA Tryz.prog .gtr 28) x8 (.int .u64 72057594037927935)) fun x9 =>
 CM.ifv x9 (
 CM.ret (.bool false)) (
 CM.pu (p1 (fun a => fieldAddrA Tryz.prog 210 a 1) x2) fun x10 =>
 CM.rm (q1 (loadA Tryz.prog 28) x10 ) fun x11 =>
 CM.pu (p2 (binA Tryz.prog .gtr 28) x11 (.int .u64 72057594037927935)) fun x12 =>
 CM.ifv x12 (
 CM.ret (.bool false)) (
 CM.pu (p1 (fun a => fieldAddrA Tryz.prog 210 a 2) x2) fun x13 =>
 CM.rm (q1 (loadA Tryz.prog 28) x13 ) fun x14 =>
 CM.pu (p2 (binA Tryz.prog .gtr 28) x14 (.int .u64 72057594037927935)) fun x15 =>
 CM.ifv x15 (
 CM.ret (.bool false)) (
 CM.rm (q1 (loadA Tryz.prog 210) x2 ) fun x16 =>
 CM.call 185 [x16] fun x17 =>
 CM.pu (p1 (unA .not) x17) fun x18 =>
 CM.cond x18 (
 CM.ret (.bool false)) (
 CM.go 532483 [x2, t20, t21, t22])))))
theorem g130_2_ok : EqD (Rl H) g130_2 (fun xs m => goR (EH H) Mk 532482 xs m) := sE fun _ => sE fun _ => sE fun _ => sE fun _ => zE fun _ => goR_eq 400 (by kernel_rfl)
noncomputable def g130_3 : List AV → CM := apS fun t7 => apS fun t20 => apS fun t21 => apS fun t22 => ap0 <|
 CM.pu (p1 (fun a => fieldAddrA Tryz.prog 210 a 0) t7) fun x0 =>
 CM.rm (q1 (loadA Tryz.prog 28) x0 ) fun x1 =>
 CM.go 532484 [x1, t20, t21, t22]
theorem g130_3_ok : EqD (Rl H) g130_3 (fun xs m => goR (EH H) Mk 532483 xs m) := sE fun _ => sE fun _ => sE fun _ => sE fun _ => zE fun _ => goR_eq 400 (by kernel_rfl)
noncomputable def g130_4 : List AV → CM := apS fun t5 => apS fun t20 => apS fun t21 => apS fun t22 => ap0 <|
 CM.pu (p2 (binA Tryz.prog .add 3) t22 (.int .i64 1)) fun x0 =>
 CM.go 532481 [t5, t20, t21, x0]
theorem g130_4_ok : EqD (Rl H) g130_4 (fun xs m => goR (EH H) Mk 532484 xs m) := sE fun _ => sE fun _ => sE fun _ => sE fun _ => zE fun _ => goR_eq 400 (by kernel_rfl)
noncomputable def g130_5 : List AV → CM := ap0 <|
 CM.ret (.bool true)
theorem g130_5_ok : EqD (Rl H) g130_5 (fun xs m => goR (EH H) Mk 532485 xs m) := zE fun _ => goR_eq 400 (by kernel_rfl)
noncomputable def f130 : List AV → CM := apS fun a0 => apS fun a1 => ap0 <|
 CM.pu (p2 (binA Tryz.prog .lss 3) a1 (.int .i64 1)) fun x0 =>
 CM.ifv x0 (
 CM.ret (.bool false)) (
 CM.pu (p2 (binA Tryz.prog .gtr 3) a1 (.int .i64 16)) fun x1 =>
 CM.ifv x1 (
 CM.ret (.bool false)) (
 CM.pu (p1 (lenT Tryz.prog 67) a0) fun x2 =>
 CM.pu (p2 (binA Tryz.prog .gtr 3) x2 a1) fun x3 =>
 CM.cond x3 (
 CM.ret (.bool false)) (
 CM.go 532480 [a0])))
theorem f130_ok (h : H 130 = none) : EqD (Rl H) f130 (fun xs m => run (EH H) (.fn 130) xs m) := sE fun _ => sE fun _ => zE fun _ => run_eq 400 h (by kernel_rfl) (by kernel_rfl)
noncomputable def f131 : List AV → CM := apS fun a0 => ap0 <|
 CM.al (boxA a0) fun x0 =>
 CM.al (some (.cells [(.int .u64 0), (.int .u64 0), (.int .u64 0), (.sl none 0 0 0 true)] false, pB)) fun x1 =>
 CM.al (some (.cells [] false, sB 6 0)) fun x2 =>
 CM.pu (p1 (fun a => fieldAddrA Tryz.prog 210 a 3) x0) fun x3 =>
 CM.rm (q1 (loadA Tryz.prog 208) x3 ) fun x4 =>
 CM.ef (apE 6 48 x2 x4) fun x5 =>
 CM.pu (p1 (fun a => fieldAddrA Tryz.prog 210 a 3) x0) fun x6 =>
 CM.st (fun m => stV m x6 x5 1) <|
 CM.rm (q1 (loadA Tryz.prog 210) x0 ) fun x8 =>
 CM.st (fun m => stV m x1 x8 4) <|
 CM.resC Tryz.prog [ResultVar.cell 0 210] [x1]
theorem f131_ok (h : H 131 = none) : EqD (Rl H) f131 (fun xs m => run (EH H) (.fn 131) xs m) := sE fun _ => zE fun _ => run_eq 400 h (by kernel_rfl) (by kernel_rfl)
noncomputable def g132_0 : List AV → CM := apS fun t1 => apS fun t2 => ap0 <|
 CM.call 186 [] fun x0 =>
 CM.al (some (.cells [(.ptr none)] false, pB)) fun x1 =>
 CM.st (fun m => stV m x1 x0 1) <|
 CM.al (some (.cells [.nilFn] false, pB)) fun x3 =>
 CM.st (fun m => stV m x3 (.fn (.func 187) [] [x1]) 1) <|
 CM.rm (q1 (loadA Tryz.prog 277) x1 ) fun x5 =>
 CM.pu (p1 (fun a => fieldAddrA Tryz.prog 48 a 0) t2) fun x6 =>
 CM.rm (q1 (loadA Tryz.prog 44) x6 ) fun x7 =>
 CM.call 190 [x5, x7, (.fn (.func 191) [] [x1, x3])] fun _ =>
 CM.rm (q1 (loadA Tryz.prog 277) x1 ) fun x9 =>
 CM.pu (p1 (fun a => fieldAddrA Tryz.prog 48 a 1) t2) fun x10 =>
 CM.rm (q1 (loadA Tryz.prog 45) x10 ) fun x11 =>
 CM.call 194 [x9, x11, (.fn (.func 195) [] [x1, x3])] fun _ =>
 CM.rm (q1 (loadA Tryz.prog 277) x1 ) fun x13 =>
 CM.pu (p1 (fun a => fieldAddrA Tryz.prog 48 a 3) t2) fun x14 =>
 CM.rm (q1 (loadA Tryz.prog 28) x14 ) fun x15 =>
 CM.call 189 [x13, x15] fun _ =>
 CM.rm (q1 (loadA Tryz.prog 277) x1 ) fun x17 =>
 CM.pu (p1 (fun a => fieldAddrA Tryz.prog 48 a 2) t2) fun x18 =>
 CM.rm (q1 (loadA Tryz.prog 46) x18 ) fun x19 =>
 CM.call 196 [x17, x19, (.fn (.func 197) [] [x1, x3])] fun _ =>
 CM.rm (q1 (loadA Tryz.prog 277) x1 ) fun x21 =>
 CM.call 198 [x21, t1, (.fn (.func 199) [] [x1])] fun _ =>
 CM.rm (q1 (loadA Tryz.prog 277) x1 ) fun x23 =>
 CM.call 203 [x23] fun x24 =>
 CM.ret (.tup [x24, (.int .i64 0)])
theorem g132_0_ok : EqD (Rl H) g132_0 (fun xs m => goR (EH H) Mk 540672 xs m) := sE fun _ => sE fun _ => zE fun _ => goR_eq 400 (by kernel_rfl)
noncomputable def f132 : List AV → CM := apS fun a0 => apS fun a1 => ap0 <|
 CM.al (boxA a0) fun x0 =>
 CM.rm (q1 (loadA Tryz.prog 48) x0 ) fun x1 =>
 CM.call 18 [x1, (.int .i64 64)] fun x2 =>
 CM.pu (p1 (unA .not) x2) fun x3 =>
 CM.ifv x3 (
 CM.ret (.tup [(.sl none 0 0 0 true), (.int .i64 1)])) (
 CM.call 130 [a1, (.int .i64 16)] fun x4 =>
 CM.pu (p1 (unA .not) x4) fun x5 =>
 CM.cond x5 (
 CM.ret (.tup [(.sl none 0 0 0 true), (.int .i64 1)])) (
 CM.go 540672 [a1, x0]))
theorem f132_ok (h : H 132 = none) : EqD (Rl H) f132 (fun xs m => run (EH H) (.fn 132) xs m) := sE fun _ => sE fun _ => zE fun _ => run_eq 400 h (by kernel_rfl) (by kernel_rfl)
noncomputable def f133 : List AV → CM := apS fun a0 => ap0 <|
 CM.al (some (.cells [(.sl none 0 0 0 true), (.sl none 0 0 0 true), (.sl none 0 0 0 true), (.int .u64 0)] false, pB)) fun x0 =>
 CM.pu (p1 nnA a0) fun x1 =>
 CM.pu (p1 (fun a => fieldAddrA Tryz.prog 137 a 1) x1) fun x2 =>
 CM.rm (q1 (loadA Tryz.prog 22) x2 ) fun x3 =>
 CM.call 19 [x3] fun x4 =>
 CM.st (fun m => stV m x0 x4 4) <|
 CM.resC Tryz.prog [ResultVar.cell 0 48] [x0]
theorem f133_ok (h : H 133 = none) : EqD (Rl H) f133 (fun xs m => run (EH H) (.fn 133) xs m) := sE fun _ => zE fun _ => run_eq 400 h (by kernel_rfl) (by kernel_rfl)
noncomputable def g134_0 : List AV → CM := apS fun t1 => apS fun t3 => ap0 <|
 CM.call 137 [t3, (.str [97])] fun x0 =>
 CM.pu (p1 (unA .not) x0) fun x1 =>
 CM.ifv x1 (
 CM.pu (p1 (fun a => fieldAddrA Tryz.prog 65 a 3) t1) fun x2 =>
 CM.rm (q1 (loadA Tryz.prog 28) x2 ) fun x3 =>
 CM.pu (p2 (binA Tryz.prog .neq 28) x3 (.int .u64 0)) fun x4 =>
 CM.ifv x4 (
 CM.ret (.bool false)) (
 CM.call 137 [t3, (.str [98])] fun x5 =>
 CM.pu (p1 (unA .not) x5) fun x6 =>
 CM.ifv x6 (
 CM.pu (p1 (fun a => fieldAddrA Tryz.prog 65 a 4) t1) fun x7 =>
 CM.rm (q1 (loadA Tryz.prog 28) x7 ) fun x8 =>
 CM.pu (p2 (binA Tryz.prog .neq 28) x8 (.int .u64 0)) fun x9 =>
 CM.cond x9 (
 CM.ret (.bool false)) (
 CM.go 548865 [t1, t3])) (
 CM.go 548865 [t1, t3]))) (
 CM.call 137 [t3, (.str [98])] fun x10 =>
 CM.pu (p1 (unA .not) x10) fun x11 =>
 CM.ifv x11 (
 CM.pu (p1 (fun a => fieldAddrA Tryz.prog 65 a 4) t1) fun x12 =>
 CM.rm (q1 (loadA Tryz.prog 28) x12 ) fun x13 =>
 CM.pu (p2 (binA Tryz.prog .neq 28) x13 (.int .u64 0)) fun x14 =>
 CM.cond x14 (
 CM.ret (.bool false)) (
 CM.go 548865 [t1, t3])) (
 CM.go 548865 [t1, t3]))
theorem g134_0_ok : EqD (Rl H) g134_0 (fun xs m => goR (EH H) Mk 548864 xs m) := sE fun _ => sE fun _ => zE fun _ => goR_eq 400 (by kernel_rfl)
noncomputable def g134_1 : List AV → CM := apS fun t1 => apS fun t3 => ap0 <|
 CM.call 137 [t3, (.str [97, 109, 111, 117, 110, 116])] fun x0 =>
 CM.pu (p1 (unA .not) x0) fun x1 =>
 CM.cond x1 (
 CM.pu (p1 (fun a => fieldAddrA Tryz.prog 65 a 5) t1) fun x2 =>
 CM.rm (q1 (loadA Tryz.prog 35) x2 ) fun x3 =>
 CM.pu (p1 (buildA Tryz.prog 35) []) fun x4 =>
 CM.pu (p2 (binA Tryz.prog .eql 35) x3 x4) fun x5 =>
 CM.ret x5) (
 CM.go 548866 [t1])
theorem g134_1_ok : EqD (Rl H) g134_1 (fun xs m => goR (EH H) Mk 548865 xs m) := sE fun _ => sE fun _ => zE fun _ => goR_eq 400 (by kernel_rfl)
noncomputable def g134_2 : List AV → CM := apS fun t1 => ap0 <|
 CM.pu (p1 (fun a => fieldAddrA Tryz.prog 65 a 5) t1) fun x0 =>
 CM.pu (p1 (fun a => fieldAddrA Tryz.prog 35 a 1) x0) fun x1 =>
 CM.rm (q1 (loadA Tryz.prog 3) x1 ) fun x2 =>
 CM.pu (p2 (binA Tryz.prog .geq 3) x2 (.int .i64 0)) fun x3 =>
 CM.ifv x3 (
 CM.pu (p1 (fun a => fieldAddrA Tryz.prog 65 a 5) t1) fun x4 =>
 CM.pu (p1 (fun a => fieldAddrA Tryz.prog 35 a 1) x4) fun x5 =>
 CM.rm (q1 (loadA Tryz.prog 3) x5 ) fun x6 =>
 CM.pu (p2 (binA Tryz.prog .leq 3) x6 (.int .i64 18)) fun x7 =>
 CM.ret x7) (
 CM.ret (.bool false))
theorem g134_2_ok : EqD (Rl H) g134_2 (fun xs m => goR (EH H) Mk 548866 xs m) := sE fun _ => zE fun _ => goR_eq 400 (by kernel_rfl)
noncomputable def f134 : List AV → CM := apS fun a0 => ap0 <|
 CM.al (boxA a0) fun x0 =>
 CM.pu (p1 (fun a => fieldAddrA Tryz.prog 65 a 0) x0) fun x1 =>
 CM.rm (q1 (loadA Tryz.prog 3) x1 ) fun x2 =>
 CM.call 135 [x2] fun x3 =>
 CM.pu (p2 (binA Tryz.prog .eql 9) x3 (.str [])) fun x4 =>
 CM.ifv x4 (
 CM.ret (.bool false)) (
 CM.pu (p1 (fun a => fieldAddrA Tryz.prog 65 a 1) x0) fun x5 =>
 CM.rm (q1 (loadA Tryz.prog 28) x5 ) fun x6 =>
 CM.call 204 [(.bool true), x6] fun x8 =>
 CM.pu (p1 (unA .not) x8) fun x10 =>
 CM.ifv x10 (
 CM.ret (.bool false)) (
 CM.memo fun m11 =>
 CM.call 137 [x3, (.str [115, 101, 113])] fun x12 =>
 CM.pu (p1 (fun a => fieldAddrA Tryz.prog 65 a 2) x0) fun x14 =>
 CM.rm (q1 (loadA Tryz.prog 28) x14 ) fun x15 =>
 CM.chk (q1 (loadA Tryz.prog 28) x14 m11) x15 <|
 CM.call 204 [x12, x15] fun x17 =>
 CM.pu (p1 (unA .not) x17) fun x19 =>
 CM.ifv x19 (
 CM.ret (.bool false)) (
 CM.memo fun m20 =>
 CM.call 137 [x3, (.str [120])] fun x21 =>
 CM.pu (p1 (fun a => fieldAddrA Tryz.prog 65 a 6) x0) fun x23 =>
 CM.rm (q1 (loadA Tryz.prog 9) x23 ) fun x24 =>
 CM.chk (q1 (loadA Tryz.prog 9) x23 m20) x24 <|
 CM.call 205 [x21, x24] fun x26 =>
 CM.pu (p1 (unA .not) x26) fun x28 =>
 CM.ifv x28 (
 CM.ret (.bool false)) (
 CM.memo fun m29 =>
 CM.call 137 [x3, (.str [121])] fun x30 =>
 CM.pu (p1 (fun a => fieldAddrA Tryz.prog 65 a 7) x0) fun x32 =>
 CM.rm (q1 (loadA Tryz.prog 9) x32 ) fun x33 =>
 CM.chk (q1 (loadA Tryz.prog 9) x32 m29) x33 <|
 CM.call 205 [x30, x33] fun x35 =>
 CM.pu (p1 (unA .not) x35) fun x37 =>
 CM.cond x37 (
 CM.ret (.bool false)) (
 CM.go 548864 [x0, x3])))))
theorem f134_ok (h : H 134 = none) : EqD (Rl H) f134 (fun xs m => run (EH H) (.fn 134) xs m) := sE fun _ => zE fun _ => run_eq 400 h (by kernel_rfl) (by kernel_rfl)
noncomputable def g135_0 : List AV → CM := apS fun t0 => apS fun t3 => ap0 <|
 CM.pu (p2 (indexAddrA Tryz.prog 294) t3 t0) fun x0 =>
 CM.rm (q1 (loadA Tryz.prog 9) x0 ) fun x1 =>
 CM.ret x1
theorem g135_0_ok : EqD (Rl H) g135_0 (fun xs m => goR (EH H) Mk 552960 xs m) := sE fun _ => sE fun _ => zE fun _ => goR_eq 400 (by kernel_rfl)
noncomputable def f135 : List AV → CM := apS fun a0 => ap0 <|
 CM.pu (p1 (buildA Tryz.prog 294) [(0, (.str [])), (1, (.str [115, 101, 115, 115, 105, 111, 110])), (2, (.str [115, 101, 115, 115, 105, 111, 110, 32, 115, 101, 113, 32, 97, 32, 120])), (3, (.str [115, 101, 115, 115, 105, 111, 110, 32, 115, 101, 113, 32, 120])), (4, (.str [115, 101, 115, 115, 105, 111, 110, 32, 115, 101, 113, 32, 97, 32, 97, 109, 111, 117, 110, 116])), (5, (.str [115, 101, 115, 115, 105, 111, 110, 32, 115, 101, 113, 32, 97, 32, 97, 109, 111, 117, 110, 116])), (6, (.str [115, 101, 115, 115, 105, 111, 110, 32, 115, 101, 113, 32, 97, 32, 98, 32, 97, 109, 111, 117, 110, 116])), (7, (.str [115, 101, 115, 115, 105, 111, 110, 32, 115, 101, 113, 32, 97, 109, 111, 117, 110, 116, 32, 120, 32, 121])), (8, (.str [115, 101, 115, 115, 105, 111, 110, 32, 115, 101, 113, 32, 97, 32, 98, 32, 97, 109, 111, 117, 110, 116])), (9, (.str [115, 101, 115, 115, 105, 111, 110, 32, 115, 101, 113, 32, 97])), (10, (.str [115, 101, 115, 115, 105, 111, 110, 32, 115, 101, 113, 32, 120])), (11, (.str [115, 101, 115, 115, 105, 111, 110, 32, 115, 101, 113, 32, 120, 32, 121]))]) fun x0 =>
 CM.al (some (.cells [(.str []), (.str []), (.str []), (.str []), (.str []), (.str []), (.str []), (.str []), (.str []), (.str []), (.str []), (.str [])] false, pB)) fun x1 =>
 CM.st (fun m => stV m x1 x0 12) <|
 CM.pu (p2 (binA Tryz.prog .lss 3) a0 (.int .i64 1)) fun x3 =>
 CM.ifv x3 (
 CM.ret (.str [])) (
 CM.pu (p2 (binA Tryz.prog .gtr 3) a0 (.int .i64 11)) fun x4 =>
 CM.cond x4 (
 CM.ret (.str [])) (
 CM.go 552960 [a0, x1]))
theorem f135_ok (h : H 135 = none) : EqD (Rl H) f135 (fun xs m => run (EH H) (.fn 135) xs m) := sE fun _ => zE fun _ => run_eq 400 h (by kernel_rfl) (by kernel_rfl)
noncomputable def g136_0 : List AV → CM := apS fun t0 => apS fun t3 => ap0 <|
 CM.pu (p2 (binA Tryz.prog .geq 28) t0 (.int .u64 128)) fun x0 =>
 CM.cond x0 (
 CM.go 557057 [t0, t3]) (
 CM.go 557058 [t0, t3])
theorem g136_0_ok : EqD (Rl H) g136_0 (fun xs m => goR (EH H) Mk 557056 xs m) := sE fun _ => sE fun _ => zE fun _ => goR_eq 400 (by kernel_rfl)
noncomputable def g136_1 : List AV → CM := apS fun t0 => apS fun t3 => ap0 <|
 CM.pu (p2 (binA Tryz.prog .rem 28) t0 (.int .u64 128)) fun x0 =>
 CM.pu (p2 (binA Tryz.prog .add 28) x0 (.int .u64 128)) fun x1 =>
 CM.pu (p1 (convA Tryz.prog 28 5) x1) fun x2 =>
 CM.al (bsA 1 1 [(.int .u8 0)] [(0, x2)]) fun x3 =>
 CM.ef (apE 1 1 t3 x3) fun x4 =>
 CM.pu (p2 (binA Tryz.prog .quo 28) t0 (.int .u64 128)) fun x5 =>
 CM.go 557056 [x5, x4]
theorem g136_1_ok : EqD (Rl H) g136_1 (fun xs m => goR (EH H) Mk 557057 xs m) := sE fun _ => sE fun _ => zE fun _ => goR_eq 400 (by kernel_rfl)
noncomputable def g136_2 : List AV → CM := apS fun t0 => apS fun t3 => ap0 <|
 CM.pu (p1 (convA Tryz.prog 28 5) t0) fun x0 =>
 CM.al (bsA 1 1 [(.int .u8 0)] [(0, x0)]) fun x1 =>
 CM.ef (apE 1 1 t3 x1) fun x2 =>
 CM.ret x2
theorem g136_2_ok : EqD (Rl H) g136_2 (fun xs m => goR (EH H) Mk 557058 xs m) := sE fun _ => sE fun _ => zE fun _ => goR_eq 400 (by kernel_rfl)
noncomputable def f136 : List AV → CM := apS fun a0 => ap0 <|
 CM.go 557056 [a0, (.sl none 0 0 0 true)]
theorem f136_ok (h : H 136 = none) : EqD (Rl H) f136 (fun xs m => run (EH H) (.fn 136) xs m) := sE fun _ => zE fun _ => run_eq 400 h (by kernel_rfl) (by kernel_rfl)
noncomputable def g137_0 : List AV → CM := apS fun t0 => apS fun t1 => apS fun t5 => apS fun t6 => ap0 <|
 CM.pu (p1 (lenT Tryz.prog 9) t0) fun x0 =>
 CM.pu (p2 (binA Tryz.prog .leq 3) t6 x0) fun x1 =>
 CM.cond x1 (
 CM.go 561153 [t0, t1, t5, t6]) (
 CM.go 561156 [])
theorem g137_0_ok : EqD (Rl H) g137_0 (fun xs m => goR (EH H) Mk 561152 xs m) := sE fun _ => sE fun _ => sE fun _ => sE fun _ => zE fun _ => goR_eq 400 (by kernel_rfl)
noncomputable def g137_1 : List AV → CM := apS fun t0 => apS fun t1 => apS fun t5 => apS fun t6 => ap0 <|
 CM.pu (p1 (lenT Tryz.prog 9) t0) fun x0 =>
 CM.pu (p2 (binA Tryz.prog .eql 3) t6 x0) fun x1 =>
 CM.ifv x1 (
 CM.pu (p3 (fun a l h => sliceA Tryz.prog 9 a (some l) (some h)) t0 t5 t6) fun x2 =>
 CM.pu (p2 (binA Tryz.prog .eql 9) x2 t1) fun x3 =>
 CM.cond x3 (
 CM.ret (.bool true)) (
 CM.go 561154 [t0, t1, t6])) (
 CM.pu (p2 (indexA Tryz.prog 9) t0 t6) fun x4 =>
 CM.pu (p2 (binA Tryz.prog .eql 5) x4 (.int .u8 32)) fun x5 =>
 CM.cond x5 (
 CM.pu (p3 (fun a l h => sliceA Tryz.prog 9 a (some l) (some h)) t0 t5 t6) fun x6 =>
 CM.pu (p2 (binA Tryz.prog .eql 9) x6 t1) fun x7 =>
 CM.cond x7 (
 CM.ret (.bool true)) (
 CM.go 561154 [t0, t1, t6])) (
 CM.go 561155 [t0, t1, t5, t6]))
theorem g137_1_ok : EqD (Rl H) g137_1 (fun xs m => goR (EH H) Mk 561153 xs m) := sE fun _ => sE fun _ => sE fun _ => sE fun _ => zE fun _ => goR_eq 400 (by kernel_rfl)
noncomputable def g137_2 : List AV → CM := apS fun t0 => apS fun t1 => apS fun t6 => ap0 <|
 CM.pu (p2 (binA Tryz.prog .add 3) t6 (.int .i64 1)) fun x0 =>
 CM.go 561155 [t0, t1, x0, t6]
theorem g137_2_ok : EqD (Rl H) g137_2 (fun xs m => goR (EH H) Mk 561154 xs m) := sE fun _ => sE fun _ => sE fun _ => zE fun _ => goR_eq 400 (by kernel_rfl)
noncomputable def g137_3 : List AV → CM := apS fun t0 => apS fun t1 => apS fun t5 => apS fun t6 => ap0 <|
 CM.pu (p2 (binA Tryz.prog .add 3) t6 (.int .i64 1)) fun x0 =>
 CM.go 561152 [t0, t1, t5, x0]
theorem g137_3_ok : EqD (Rl H) g137_3 (fun xs m => goR (EH H) Mk 561155 xs m) := sE fun _ => sE fun _ => sE fun _ => sE fun _ => zE fun _ => goR_eq 400 (by kernel_rfl)
noncomputable def g137_4 : List AV → CM := ap0 <|
 CM.ret (.bool false)
theorem g137_4_ok : EqD (Rl H) g137_4 (fun xs m => goR (EH H) Mk 561156 xs m) := zE fun _ => goR_eq 400 (by kernel_rfl)
noncomputable def f137 : List AV → CM := apS fun a0 => apS fun a1 => ap0 <|
 CM.go 561152 [a0, a1, (.int .i64 0), (.int .i64 0)]
theorem f137_ok (h : H 137 = none) : EqD (Rl H) f137 (fun xs m => run (EH H) (.fn 137) xs m) := sE fun _ => sE fun _ => zE fun _ => run_eq 400 h (by kernel_rfl) (by kernel_rfl)
noncomputable def f138 : List AV → CM := apS fun a0 => ap0 <|
 CM.al (boxA a0) fun x0 =>
 CM.pu (p1 (fun a => fieldAddrA Tryz.prog 35 a 1) x0) fun x1 =>
 CM.rm (q1 (loadA Tryz.prog 3) x1 ) fun x2 =>
 CM.pu (p1 (convA Tryz.prog 3 5) x2) fun x3 =>
 CM.al (bsA 1 1 [(.int .u8 0)] [(0, x3)]) fun x4 =>
 CM.pu (p1 (fun a => fieldAddrA Tryz.prog 35 a 0) x0) fun x5 =>
 CM.pu (p1 (fun a => fieldAddrA Tryz.prog 33 a 0) x5) fun x6 =>
 CM.rm (q1 (loadA Tryz.prog 2) x6 ) fun x7 =>
 CM.memo fun m8 =>
 CM.call 206 [x7] fun x9 =>
 CM.memo fun m10 =>
 CM.chk (q1 (loadA Tryz.prog 3) x1 m10) x2 <|
 CM.memo fun m11 =>
 CM.ef (apE 1 1 x4 x9) fun x12 =>
 CM.pu (p1 (fun a => fieldAddrA Tryz.prog 35 a 0) x0) fun x14 =>
 CM.pu (p1 (fun a => fieldAddrA Tryz.prog 33 a 1) x14) fun x15 =>
 CM.rm (q1 (loadA Tryz.prog 28) x15 ) fun x16 =>
 CM.chk (q1 (loadA Tryz.prog 28) x15 m11) x16 <|
 CM.chk (q1 (loadA Tryz.prog 28) x15 m8) x16 <|
 CM.call 136 [x16] fun x18 =>
 CM.ef (apE 1 1 x12 x18) fun x21 =>
 CM.ret x21
theorem f138_ok (h : H 138 = none) : EqD (Rl H) f138 (fun xs m => run (EH H) (.fn 138) xs m) := sE fun _ => zE fun _ => run_eq 400 h (by kernel_rfl) (by kernel_rfl)
noncomputable def g139_0 : List AV → CM := apS fun t0 => apS fun t1 => ap0 <|
 CM.pu (p1 (lenT Tryz.prog 60) t0) fun x0 =>
 CM.go 569345 [t0, t1, x0, (.int .i64 0)]
theorem g139_0_ok : EqD (Rl H) g139_0 (fun xs m => goR (EH H) Mk 569344 xs m) := sE fun _ => sE fun _ => zE fun _ => goR_eq 400 (by kernel_rfl)
noncomputable def g139_1 : List AV → CM := apS fun t0 => apS fun t1 => apS fun t12 => apS fun t13 => ap0 <|
 CM.pu (p2 (binA Tryz.prog .lss 3) t13 t12) fun x0 =>
 CM.cond x0 (
 CM.go 569346 [t0, t1, t12, t13]) (
 CM.go 569348 [])
theorem g139_1_ok : EqD (Rl H) g139_1 (fun xs m => goR (EH H) Mk 569345 xs m) := sE fun _ => sE fun _ => sE fun _ => sE fun _ => zE fun _ => goR_eq 400 (by kernel_rfl)
noncomputable def g139_2 : List AV → CM := apS fun t0 => apS fun t1 => apS fun t12 => apS fun t13 => ap0 <|
 CM.pu (p2 (indexAddrA Tryz.prog 60) t0 t13) fun x0 =>
 CM.rm (q1 (loadA Tryz.prog 5) x0 ) fun x1 =>
 CM.pu (p2 (indexAddrA Tryz.prog 60) t1 t13) fun x2 =>
 CM.rm (q1 (loadA Tryz.prog 5) x2 ) fun x3 =>
 CM.pu (p2 (binA Tryz.prog .neq 5) x1 x3) fun x4 =>
 CM.cond x4 (
 CM.ret (.bool false)) (
 CM.go 569347 [t0, t1, t12, t13])
theorem g139_2_ok : EqD (Rl H) g139_2 (fun xs m => goR (EH H) Mk 569346 xs m) := sE fun _ => sE fun _ => sE fun _ => sE fun _ => zE fun _ => goR_eq 400 (by kernel_rfl)
noncomputable def g139_3 : List AV → CM := apS fun t0 => apS fun t1 => apS fun t12 => apS fun t13 => ap0 <|
 CM.pu (p2 (binA Tryz.prog .add 3) t13 (.int .i64 1)) fun x0 =>
 CM.go 569345 [t0, t1, t12, x0]
theorem g139_3_ok : EqD (Rl H) g139_3 (fun xs m => goR (EH H) Mk 569347 xs m) := sE fun _ => sE fun _ => sE fun _ => sE fun _ => zE fun _ => goR_eq 400 (by kernel_rfl)
noncomputable def g139_4 : List AV → CM := ap0 <|
 CM.ret (.bool true)
theorem g139_4_ok : EqD (Rl H) g139_4 (fun xs m => goR (EH H) Mk 569348 xs m) := zE fun _ => goR_eq 400 (by kernel_rfl)
noncomputable def f139 : List AV → CM := apS fun a0 => apS fun a1 => ap0 <|
 CM.pu (p1 (lenT Tryz.prog 60) a0) fun x0 =>
 CM.pu (p1 (lenT Tryz.prog 60) a1) fun x1 =>
 CM.pu (p2 (binA Tryz.prog .neq 3) x0 x1) fun x2 =>
 CM.cond x2 (
 CM.ret (.bool false)) (
 CM.go 569344 [a0, a1])
theorem f139_ok (h : H 139 = none) : EqD (Rl H) f139 (fun xs m => run (EH H) (.fn 139) xs m) := sE fun _ => sE fun _ => zE fun _ => run_eq 400 h (by kernel_rfl) (by kernel_rfl)
noncomputable def f140 : List AV → CM := apS fun a0 => ap0 <|
 CM.pu (p2 (binA Tryz.prog .gtr 3) a0 (.int .i64 0)) fun x0 =>
 CM.ifv x0 (
 CM.pu (p2 (binA Tryz.prog .leq 3) a0 (.int .i64 254)) fun x1 =>
 CM.ifv x1 (
 CM.pu (p2 (binA Tryz.prog .and 3) a0 (.int .i64 1)) fun x2 =>
 CM.pu (p2 (binA Tryz.prog .eql 3) x2 (.int .i64 0)) fun x3 =>
 CM.ret x3) (
 CM.ret (.bool false))) (
 CM.ret (.bool false))
theorem f140_ok (h : H 140 = none) : EqD (Rl H) f140 (fun xs m => run (EH H) (.fn 140) xs m) := sE fun _ => zE fun _ => run_eq 400 h (by kernel_rfl) (by kernel_rfl)
noncomputable def f141 : List AV → CM := apS fun a0 => ap0 <|
 CM.pu (p2 (binA Tryz.prog .geq 28) a0 (.int .u64 1)) fun x0 =>
 CM.ifv x0 (
 CM.pu (p2 (binA Tryz.prog .leq 28) a0 (.int .u64 72057594037927935)) fun x1 =>
 CM.ret x1) (
 CM.ret (.bool false))
theorem f141_ok (h : H 141 = none) : EqD (Rl H) f141 (fun xs m => run (EH H) (.fn 141) xs m) := sE fun _ => zE fun _ => run_eq 400 h (by kernel_rfl) (by kernel_rfl)
noncomputable def f142 : List AV → CM := apS fun a0 => apS fun a1 => ap0 <|
 CM.call 207 [a0] fun x0 =>
 CM.ifv x0 (
 CM.call 207 [a1] fun x1 =>
 CM.pu (p1 (unA .not) x1) fun x2 =>
 CM.ifv x2 (
 CM.ret (.bool true)) (
 CM.pu (p2 (binA Tryz.prog .lss 9) a0 a1) fun x3 =>
 CM.ret x3)) (
 CM.pu (p2 (binA Tryz.prog .lss 9) a0 a1) fun x4 =>
 CM.ret x4)
theorem f142_ok (h : H 142 = none) : EqD (Rl H) f142 (fun xs m => run (EH H) (.fn 142) xs m) := sE fun _ => sE fun _ => zE fun _ => run_eq 400 h (by kernel_rfl) (by kernel_rfl)
noncomputable def f143 : List AV → CM := apS fun a0 => ap0 <|
 CM.pu (p2 (binA Tryz.prog .neq 9) a0 a0) fun x0 =>
 CM.ret x0
theorem f143_ok (h : H 143 = none) : EqD (Rl H) f143 (fun xs m => run (EH H) (.fn 143) xs m) := sE fun _ => zE fun _ => run_eq 400 h (by kernel_rfl) (by kernel_rfl)
noncomputable def f145 : List AV → CM := apS fun a0 => apS fun a1 => ap0 <|
 CM.pu (p1 (lenT Tryz.prog 169) a0) fun x0 =>
 CM.pu (p2 (binA Tryz.prog .sub 3) x0 a1) fun x1 =>
 CM.call 208 [a0, x1] fun _ =>
 CM.ret .undef
theorem f145_ok (h : H 145 = none) : EqD (Rl H) f145 (fun xs m => run (EH H) (.fn 145) xs m) := sE fun _ => sE fun _ => zE fun _ => run_eq 400 h (by kernel_rfl) (by kernel_rfl)
noncomputable def f147 : List AV → CM := apS fun a0 => apS fun a1 => ap0 <|
 CM.pu (p1 (lenT Tryz.prog 44) a0) fun x0 =>
 CM.pu (p2 (binA Tryz.prog .sub 3) x0 a1) fun x1 =>
 CM.call 209 [a0, x1] fun _ =>
 CM.ret .undef
theorem f147_ok (h : H 147 = none) : EqD (Rl H) f147 (fun xs m => run (EH H) (.fn 147) xs m) := sE fun _ => sE fun _ => zE fun _ => run_eq 400 h (by kernel_rfl) (by kernel_rfl)
noncomputable def f148 : List AV → CM := apS fun a0 => apS fun a1 => ap0 <|
 CM.call 210 [a0] fun x0 =>
 CM.ifv x0 (
 CM.call 210 [a1] fun x1 =>
 CM.pu (p1 (unA .not) x1) fun x2 =>
 CM.ifv x2 (
 CM.ret (.bool true)) (
 CM.pu (p2 (binA Tryz.prog .lss 28) a0 a1) fun x3 =>
 CM.ret x3)) (
 CM.pu (p2 (binA Tryz.prog .lss 28) a0 a1) fun x4 =>
 CM.ret x4)
theorem f148_ok (h : H 148 = none) : EqD (Rl H) f148 (fun xs m => run (EH H) (.fn 148) xs m) := sE fun _ => sE fun _ => zE fun _ => run_eq 400 h (by kernel_rfl) (by kernel_rfl)
noncomputable def f149 : List AV → CM := apS fun a0 => ap0 <|
 CM.pu (p2 (binA Tryz.prog .neq 28) a0 a0) fun x0 =>
 CM.ret x0
theorem f149_ok (h : H 149 = none) : EqD (Rl H) f149 (fun xs m => run (EH H) (.fn 149) xs m) := sE fun _ => zE fun _ => run_eq 400 h (by kernel_rfl) (by kernel_rfl)
noncomputable def f151 : List AV → CM := apS fun a0 => apS fun a1 => ap0 <|
 CM.pu (p1 (lenT Tryz.prog 139) a0) fun x0 =>
 CM.pu (p2 (binA Tryz.prog .sub 3) x0 a1) fun x1 =>
 CM.call 211 [a0, x1] fun _ =>
 CM.ret .undef
theorem f151_ok (h : H 151 = none) : EqD (Rl H) f151 (fun xs m => run (EH H) (.fn 151) xs m) := sE fun _ => sE fun _ => zE fun _ => run_eq 400 h (by kernel_rfl) (by kernel_rfl)
noncomputable def f153 : List AV → CM := apS fun a0 => apS fun a1 => ap0 <|
 CM.pu (p1 (lenT Tryz.prog 46) a0) fun x0 =>
 CM.pu (p2 (binA Tryz.prog .sub 3) x0 a1) fun x1 =>
 CM.call 212 [a0, x1] fun _ =>
 CM.ret .undef
theorem f153_ok (h : H 153 = none) : EqD (Rl H) f153 (fun xs m => run (EH H) (.fn 153) xs m) := sE fun _ => sE fun _ => zE fun _ => run_eq 400 h (by kernel_rfl) (by kernel_rfl)
noncomputable def f156 : List AV → CM := apS fun a0 => ap0 <|
 CM.pu (p2 (binA Tryz.prog .geq 3) a0 (.int .i64 0)) fun x0 =>
 CM.ifv x0 (
 CM.pu (p2 (binA Tryz.prog .leq 3) a0 (.int .i64 18)) fun x1 =>
 CM.ret x1) (
 CM.ret (.bool false))
theorem f156_ok (h : H 156 = none) : EqD (Rl H) f156 (fun xs m => run (EH H) (.fn 156) xs m) := sE fun _ => zE fun _ => run_eq 400 h (by kernel_rfl) (by kernel_rfl)
noncomputable def g157_0 : List AV → CM := apS fun t2 => apS fun t3 => ap0 <|
 CM.pu (p1 (fun a => fieldAddrA Tryz.prog 35 a 1) t2) fun x0 =>
 CM.rm (q1 (loadA Tryz.prog 3) x0 ) fun x1 =>
 CM.pu (p1 (fun a => fieldAddrA Tryz.prog 35 a 1) t3) fun x2 =>
 CM.rm (q1 (loadA Tryz.prog 3) x2 ) fun x3 =>
 CM.pu (p2 (binA Tryz.prog .lss 3) x1 x3) fun x4 =>
 CM.cond x4 (
 CM.rm (q1 (loadA Tryz.prog 35) t3 ) fun x5 =>
 CM.rm (q1 (loadA Tryz.prog 35) t2 ) fun x6 =>
 CM.call 213 [x5, x6] fun x7 =>
 CM.pu (p1 (unA .neg) x7) fun x8 =>
 CM.ret (.tup [x8, (.int .i64 0)])) (
 CM.go 643073 [t2, t3])
theorem g157_0_ok : EqD (Rl H) g157_0 (fun xs m => goR (EH H) Mk 643072 xs m) := sE fun _ => sE fun _ => zE fun _ => goR_eq 400 (by kernel_rfl)
noncomputable def g157_1 : List AV → CM := apS fun t2 => apS fun t3 => ap0 <|
 CM.rm (q1 (loadA Tryz.prog 35) t2 ) fun x0 =>
 CM.rm (q1 (loadA Tryz.prog 35) t3 ) fun x1 =>
 CM.call 213 [x0, x1] fun x2 =>
 CM.ret (.tup [x2, (.int .i64 0)])
theorem g157_1_ok : EqD (Rl H) g157_1 (fun xs m => goR (EH H) Mk 643073 xs m) := sE fun _ => sE fun _ => zE fun _ => goR_eq 400 (by kernel_rfl)
noncomputable def f157 : List AV → CM := apS fun a0 => apS fun a1 => ap0 <|
 CM.al (boxA a0) fun x0 =>
 CM.al (boxA a1) fun x1 =>
 CM.rm (q1 (loadA Tryz.prog 35) x0 ) fun x2 =>
 CM.call 94 [x2] fun x3 =>
 CM.pu (p1 (unA .not) x3) fun x4 =>
 CM.ifv x4 (
 CM.ret (.tup [(.int .i64 0), (.int .i64 21)])) (
 CM.rm (q1 (loadA Tryz.prog 35) x1 ) fun x5 =>
 CM.call 94 [x5] fun x6 =>
 CM.pu (p1 (unA .not) x6) fun x7 =>
 CM.cond x7 (
 CM.ret (.tup [(.int .i64 0), (.int .i64 21)])) (
 CM.go 643072 [x0, x1]))
theorem f157_ok (h : H 157 = none) : EqD (Rl H) f157 (fun xs m => run (EH H) (.fn 157) xs m) := sE fun _ => sE fun _ => zE fun _ => run_eq 400 h (by kernel_rfl) (by kernel_rfl)
noncomputable def f159 : List AV → CM := apS fun a0 => apS fun a1 => ap0 <|
 CM.pu (p1 (lenT Tryz.prog 45) a0) fun x0 =>
 CM.pu (p2 (binA Tryz.prog .sub 3) x0 a1) fun x1 =>
 CM.call 214 [a0, x1] fun _ =>
 CM.ret .undef
theorem f159_ok (h : H 159 = none) : EqD (Rl H) f159 (fun xs m => run (EH H) (.fn 159) xs m) := sE fun _ => sE fun _ => zE fun _ => run_eq 400 h (by kernel_rfl) (by kernel_rfl)
noncomputable def g160_0 : List AV → CM := apS fun t2 => apS fun t3 => apS fun t4 => apS fun t6 => ap0 <|
 CM.pu (p2 minA t2 (.int .i64 18)) fun x0 =>
 CM.rm (q1 (loadA Tryz.prog 33) t3 ) fun x1 =>
 CM.rm (q1 (loadA Tryz.prog 33) t4 ) fun x2 =>
 CM.call 216 [x1, x2] fun x3 =>
 CM.call 217 [x0] fun x4 =>
 CM.call 215 [x3, x4] fun x5 =>
 CM.pu (p1 (fun a => extractA a 0) x5) fun x6 =>
 CM.pu (p1 (fun a => extractA a 1) x5) fun x7 =>
 CM.al (some (.cells [(.int .u64 0), (.int .u64 0), (.int .u64 0), (.int .u64 0)] false, pB)) fun x8 =>
 CM.st (fun m => stV m x8 x6 4) <|
 CM.rm (q1 (loadA Tryz.prog 297) x8 ) fun x10 =>
 CM.pu (p2 (binA Tryz.prog .sub 3) t2 x0) fun x11 =>
 CM.call 217 [x11] fun x13 =>
 CM.memo fun m14 =>
 CM.chk (q1 (loadA Tryz.prog 297) x8 m14) x10 <|
 CM.call 215 [x10, x13] fun x16 =>
 CM.pu (p1 (fun a => extractA a 0) x16) fun x18 =>
 CM.pu (p1 (fun a => extractA a 1) x16) fun x19 =>
 CM.st (fun m => stV m x8 x18 4) <|
 CM.pu (p2 (binA Tryz.prog .eql 3) t2 (.int .i64 0)) fun x23 =>
 CM.cond x23 (
 CM.go 655361 [t3, t4, t6, x8, (.bool false)]) (
 CM.pu (p2 (binA Tryz.prog .eql 3) t2 x0) fun x24 =>
 CM.cond x24 (
 CM.call 217 [x0] fun x25 =>
 CM.pu (p2 (binA Tryz.prog .quo 28) x25 (.int .u64 2)) fun x26 =>
 CM.pu (p2 (binA Tryz.prog .gtr 28) x7 x26) fun x27 =>
 CM.ifv x27 (
 CM.go 655361 [t3, t4, t6, x8, (.bool true)]) (
 CM.call 217 [x0] fun x28 =>
 CM.pu (p2 (binA Tryz.prog .quo 28) x28 (.int .u64 2)) fun x29 =>
 CM.pu (p2 (binA Tryz.prog .eql 28) x7 x29) fun x30 =>
 CM.ifv x30 (
 CM.pu (p2 (indexAddrA Tryz.prog 297) x8 (.int .i64 0)) fun x31 =>
 CM.rm (q1 (loadA Tryz.prog 28) x31 ) fun x32 =>
 CM.pu (p2 (binA Tryz.prog .and 28) x32 (.int .u64 1)) fun x33 =>
 CM.pu (p2 (binA Tryz.prog .eql 28) x33 (.int .u64 1)) fun x34 =>
 CM.go 655361 [t3, t4, t6, x8, x34]) (
 CM.go 655361 [t3, t4, t6, x8, (.bool false)]))) (
 CM.pu (p2 (binA Tryz.prog .sub 3) t2 x0) fun x35 =>
 CM.call 217 [x35] fun x36 =>
 CM.pu (p2 (binA Tryz.prog .quo 28) x36 (.int .u64 2)) fun x37 =>
 CM.pu (p2 (binA Tryz.prog .gtr 28) x19 x37) fun x38 =>
 CM.ifv x38 (
 CM.go 655361 [t3, t4, t6, x8, (.bool true)]) (
 CM.pu (p2 (binA Tryz.prog .eql 28) x19 x37) fun x39 =>
 CM.ifv x39 (
 CM.pu (p2 (binA Tryz.prog .gtr 28) x7 (.int .u64 0)) fun x40 =>
 CM.ifv x40 (
 CM.go 655361 [t3, t4, t6, x8, (.bool true)]) (
 CM.pu (p2 (indexAddrA Tryz.prog 297) x8 (.int .i64 0)) fun x41 =>
 CM.rm (q1 (loadA Tryz.prog 28) x41 ) fun x42 =>
 CM.pu (p2 (binA Tryz.prog .and 28) x42 (.int .u64 1)) fun x43 =>
 CM.pu (p2 (binA Tryz.prog .eql 28) x43 (.int .u64 1)) fun x44 =>
 CM.go 655361 [t3, t4, t6, x8, x44])) (
 CM.go 655361 [t3, t4, t6, x8, (.bool false)]))))
theorem g160_0_ok : EqD (Rl H) g160_0 (fun xs m => goR (EH H) Mk 655360 xs m) := sE fun _ => sE fun _ => sE fun _ => sE fun _ => zE fun _ => goR_eq 400 (by kernel_rfl)
noncomputable def g160_1 : List AV → CM := apS fun t3 => apS fun t4 => apS fun t6 => apS fun t9 => apS fun t12 => ap0 <|
 CM.go 655362 [t3, t4, t6, t9, t12, (.int .i64 0)]
theorem g160_1_ok : EqD (Rl H) g160_1 (fun xs m => goR (EH H) Mk 655361 xs m) := sE fun _ => sE fun _ => sE fun _ => sE fun _ => sE fun _ => zE fun _ => goR_eq 400 (by kernel_rfl)
noncomputable def g160_2 : List AV → CM := apS fun t3 => apS fun t4 => apS fun t6 => apS fun t9 => apS fun t12 => apS fun t14 => ap0 <|
 CM.pu (p2 (binA Tryz.prog .lss 3) t14 (.int .i64 4)) fun x0 =>
 CM.ifv x0 (
 CM.cond t12 (
 CM.go 655363 [t3, t4, t6, t9, t14]) (
 CM.go 655365 [t3, t4, t6, t9])) (
 CM.go 655365 [t3, t4, t6, t9])
theorem g160_2_ok : EqD (Rl H) g160_2 (fun xs m => goR (EH H) Mk 655362 xs m) := sE fun _ => sE fun _ => sE fun _ => sE fun _ => sE fun _ => sE fun _ => zE fun _ => goR_eq 400 (by kernel_rfl)
noncomputable def g160_3 : List AV → CM := apS fun t3 => apS fun t4 => apS fun t6 => apS fun t9 => apS fun t14 => ap0 <|
 CM.pu (p2 (indexAddrA Tryz.prog 297) t9 t14) fun x0 =>
 CM.rm (q1 (loadA Tryz.prog 28) x0 ) fun x1 =>
 CM.pu (p2 (binA Tryz.prog .add 28) x1 (.int .u64 1)) fun x2 =>
 CM.pu (p2 (indexAddrA Tryz.prog 297) t9 t14) fun x3 =>
 CM.st (fun m => stV m x3 x2 1) <|
 CM.pu (p2 (indexAddrA Tryz.prog 297) t9 t14) fun x5 =>
 CM.rm (q1 (loadA Tryz.prog 28) x5 ) fun x6 =>
 CM.pu (p2 (binA Tryz.prog .eql 28) x6 (.int .u64 0)) fun x7 =>
 CM.go 655364 [t3, t4, t6, t9, x7, t14]
theorem g160_3_ok : EqD (Rl H) g160_3 (fun xs m => goR (EH H) Mk 655363 xs m) := sE fun _ => sE fun _ => sE fun _ => sE fun _ => sE fun _ => zE fun _ => goR_eq 400 (by kernel_rfl)
noncomputable def g160_4 : List AV → CM := apS fun t3 => apS fun t4 => apS fun t6 => apS fun t9 => apS fun t12 => apS fun t14 => ap0 <|
 CM.pu (p2 (binA Tryz.prog .add 3) t14 (.int .i64 1)) fun x0 =>
 CM.go 655362 [t3, t4, t6, t9, t12, x0]
theorem g160_4_ok : EqD (Rl H) g160_4 (fun xs m => goR (EH H) Mk 655364 xs m) := sE fun _ => sE fun _ => sE fun _ => sE fun _ => sE fun _ => sE fun _ => zE fun _ => goR_eq 400 (by kernel_rfl)
noncomputable def g160_5 : List AV → CM := apS fun t3 => apS fun t4 => apS fun t6 => apS fun t9 => ap0 <|
 CM.pu (p1 (fun a => fieldAddrA Tryz.prog 33 a 0) t3) fun x0 =>
 CM.rm (q1 (loadA Tryz.prog 2) x0 ) fun x1 =>
 CM.pu (p2 (binA Tryz.prog .lss 2) x1 (.int .i64 0)) fun x2 =>
 CM.pu (p1 (fun a => fieldAddrA Tryz.prog 33 a 0) t4) fun x3 =>
 CM.rm (q1 (loadA Tryz.prog 2) x3 ) fun x4 =>
 CM.pu (p2 (binA Tryz.prog .lss 2) x4 (.int .i64 0)) fun x5 =>
 CM.pu (p2 (binA Tryz.prog .neq 4) x2 x5) fun x6 =>
 CM.rm (q1 (loadA Tryz.prog 297) t9 ) fun x7 =>
 CM.call 218 [x6, x7] fun x8 =>
 CM.pu (p1 (fun a => extractA a 0) x8) fun x9 =>
 CM.pu (p1 (fun a => extractA a 1) x8) fun x10 =>
 CM.st (fun m => stV m t6 x9 2) <|
 CM.resC Tryz.prog [ResultVar.cell 0 33, ResultVar.tmp 1] [t6, x10]
theorem g160_5_ok : EqD (Rl H) g160_5 (fun xs m => goR (EH H) Mk 655365 xs m) := sE fun _ => sE fun _ => sE fun _ => sE fun _ => zE fun _ => goR_eq 400 (by kernel_rfl)
noncomputable def f160 : List AV → CM := apS fun a0 => apS fun a1 => apS fun a2 => ap0 <|
 CM.al (boxA a0) fun x0 =>
 CM.al (boxA a1) fun x1 =>
 CM.al (some (.cells [(.int .i64 0), (.int .u64 0)] false, pB)) fun x2 =>
 CM.pu (p2 (binA Tryz.prog .lss 3) a2 (.int .i64 0)) fun x3 =>
 CM.ifv x3 (
 CM.pu (p1 (buildA Tryz.prog 33) []) fun x4 =>
 CM.st (fun m => stV m x2 x4 2) <|
 CM.resC Tryz.prog [ResultVar.cell 0 33, ResultVar.tmp 1] [x2, (.int .i64 1)]) (
 CM.pu (p2 (binA Tryz.prog .gtr 3) a2 (.int .i64 36)) fun x6 =>
 CM.cond x6 (
 CM.pu (p1 (buildA Tryz.prog 33) []) fun x7 =>
 CM.st (fun m => stV m x2 x7 2) <|
 CM.resC Tryz.prog [ResultVar.cell 0 33, ResultVar.tmp 1] [x2, (.int .i64 1)]) (
 CM.go 655360 [a2, x0, x1, x2]))
theorem f160_ok (h : H 160 = none) : EqD (Rl H) f160 (fun xs m => run (EH H) (.fn 160) xs m) := sE fun _ => sE fun _ => sE fun _ => zE fun _ => run_eq 400 h (by kernel_rfl) (by kernel_rfl)
end Go.Proofs.YtpoafkipnjfioaaGreat.T
