/- Functions as trees, printed by our own program (wip/tools/gen3.lean). -/
import Derived.Test.YtpoafkipnjfioaaGreatT0
namespace Go.Proofs.YtpoafkipnjfioaaGreat.T
open Go Go.Abs Go.Proofs.YtpoafkipnjfioaaGreat
set_option maxRecDepth 10000
variable {H : FuncId → Option (List AV → Mem → R)}
noncomputable def g71_0 : List AV → CM := apS fun t1 => apS fun t2 => ap0 <|
 CM.call 6 [t1] fun x0 =>
 CM.pu (p1 (fun a => extractA a 0) x0) fun x1 =>
 CM.pu (p1 (fun a => extractA a 1) x0) fun x2 =>
 CM.pu (p2 (binA Tryz.prog .neq 23) x2 (.int .i64 0)) fun x3 =>
 CM.cond x3 (
 CM.ret (.tup [(.ptr none), x2])) (
 CM.go 290817 [t2, x1])
theorem g71_0_ok : EqD (Rl H) g71_0 (fun xs m => goR (EH H) Mk 290816 xs m) := sE fun _ => sE fun _ => zE fun _ => goR_eq 400 (by kernel_rfl)
noncomputable def g71_1 : List AV → CM := apS fun t2 => apS fun t6 => ap0 <|
 CM.pu (p1 (fun a => fieldAddrA Tryz.prog 48 a 0) t2) fun x0 =>
 CM.rm (q1 (loadA Tryz.prog 44) x0 ) fun x1 =>
 CM.pu (p1 (lenT Tryz.prog 44) x1) fun x2 =>
 CM.go 290818 [t2, t6, x1, x2, (.int .i64 0)]
theorem g71_1_ok : EqD (Rl H) g71_1 (fun xs m => goR (EH H) Mk 290817 xs m) := sE fun _ => sE fun _ => zE fun _ => goR_eq 400 (by kernel_rfl)
noncomputable def g71_2 : List AV → CM := apS fun t2 => apS fun t6 => apS fun t27 => apS fun t28 => apS fun t29 => ap0 <|
 CM.pu (p2 (binA Tryz.prog .lss 3) t29 t28) fun x0 =>
 CM.cond x0 (
 CM.go 290819 [t2, t6, t27, t28, t29]) (
 CM.go 290821 [t2, t6])
theorem g71_2_ok : EqD (Rl H) g71_2 (fun xs m => goR (EH H) Mk 290818 xs m) := sE fun _ => sE fun _ => sE fun _ => sE fun _ => sE fun _ => zE fun _ => goR_eq 400 (by kernel_rfl)
noncomputable def g71_3 : List AV → CM := apS fun t2 => apS fun t6 => apS fun t27 => apS fun t28 => apS fun t29 => ap0 <|
 CM.pu (p2 (indexAddrA Tryz.prog 44) t27 t29) fun x0 =>
 CM.rm (q1 (loadA Tryz.prog 92) x0 ) fun x1 =>
 CM.al (some (.cells [(.str []), (.int .i64 0), (.int .i64 0), (.int .u64 0)] false, pB)) fun x2 =>
 CM.st (fun m => stV m x2 x1 4) <|
 CM.pu (p1 nnA t6) fun x4 =>
 CM.pu (p1 (fun a => fieldAddrA Tryz.prog 88 a 1) x4) fun x5 =>
 CM.rm (q1 (loadA Tryz.prog 84) x5 ) fun x6 =>
 CM.pu (p1 (fun a => fieldAddrA Tryz.prog 92 a 0) x2) fun x7 =>
 CM.rm (q1 (loadA Tryz.prog 9) x7 ) fun x8 =>
 CM.rm (q1 (loadA Tryz.prog 92) x2 ) fun x9 =>
 CM.call 42 [x6, x8, x9] fun _ =>
 CM.go 290820 [t2, t6, t27, t28, t29]
theorem g71_3_ok : EqD (Rl H) g71_3 (fun xs m => goR (EH H) Mk 290819 xs m) := sE fun _ => sE fun _ => sE fun _ => sE fun _ => sE fun _ => zE fun _ => goR_eq 400 (by kernel_rfl)
noncomputable def g71_4 : List AV → CM := apS fun t2 => apS fun t6 => apS fun t27 => apS fun t28 => apS fun t29 => ap0 <|
 CM.pu (p2 (binA Tryz.prog .add 3) t29 (.int .i64 1)) fun x0 =>
 CM.go 290818 [t2, t6, t27, t28, x0]
theorem g71_4_ok : EqD (Rl H) g71_4 (fun xs m => goR (EH H) Mk 290820 xs m) := sE fun _ => sE fun _ => sE fun _ => sE fun _ => sE fun _ => zE fun _ => goR_eq 400 (by kernel_rfl)
noncomputable def g71_5 : List AV → CM := apS fun t2 => apS fun t6 => ap0 <|
 CM.pu (p1 (fun a => fieldAddrA Tryz.prog 48 a 1) t2) fun x0 =>
 CM.rm (q1 (loadA Tryz.prog 45) x0 ) fun x1 =>
 CM.pu (p1 (lenT Tryz.prog 45) x1) fun x2 =>
 CM.go 290822 [t2, t6, x1, x2, (.int .i64 0)]
theorem g71_5_ok : EqD (Rl H) g71_5 (fun xs m => goR (EH H) Mk 290821 xs m) := sE fun _ => sE fun _ => zE fun _ => goR_eq 400 (by kernel_rfl)
noncomputable def g71_6 : List AV → CM := apS fun t2 => apS fun t6 => apS fun t43 => apS fun t44 => apS fun t45 => ap0 <|
 CM.pu (p2 (binA Tryz.prog .lss 3) t45 t44) fun x0 =>
 CM.cond x0 (
 CM.go 290823 [t2, t6, t43, t44, t45]) (
 CM.go 290825 [t2, t6])
theorem g71_6_ok : EqD (Rl H) g71_6 (fun xs m => goR (EH H) Mk 290822 xs m) := sE fun _ => sE fun _ => sE fun _ => sE fun _ => sE fun _ => zE fun _ => goR_eq 400 (by kernel_rfl)
noncomputable def g71_7 : List AV → CM := apS fun t2 => apS fun t6 => apS fun t43 => apS fun t44 => apS fun t45 => ap0 <|
 CM.pu (p2 (indexAddrA Tryz.prog 45) t43 t45) fun x0 =>
 CM.rm (q1 (loadA Tryz.prog 96) x0 ) fun x1 =>
 CM.al (some (.cells [(.str []), (.str []), (.int .i64 0), (.int .u64 0), (.int .i64 0), (.int .i64 0), (.int .u64 0), (.int .i64 0), (.int .u64 0)] false, pB)) fun x2 =>
 CM.st (fun m => stV m x2 x1 9) <|
 CM.pu (p1 nnA t6) fun x4 =>
 CM.pu (p1 (fun a => fieldAddrA Tryz.prog 88 a 2) x4) fun x5 =>
 CM.rm (q1 (loadA Tryz.prog 85) x5 ) fun x6 =>
 CM.pu (p1 (fun a => fieldAddrA Tryz.prog 96 a 0) x2) fun x7 =>
 CM.rm (q1 (loadA Tryz.prog 9) x7 ) fun x8 =>
 CM.pu (p1 (fun a => fieldAddrA Tryz.prog 96 a 1) x2) fun x9 =>
 CM.rm (q1 (loadA Tryz.prog 9) x9 ) fun x10 =>
 CM.pu (p2 (binA Tryz.prog .add 9) x8 x10) fun x11 =>
 CM.rm (q1 (loadA Tryz.prog 96) x2 ) fun x12 =>
 CM.call 53 [x6, x11, x12] fun _ =>
 CM.go 290824 [t2, t6, t43, t44, t45]
theorem g71_7_ok : EqD (Rl H) g71_7 (fun xs m => goR (EH H) Mk 290823 xs m) := sE fun _ => sE fun _ => sE fun _ => sE fun _ => sE fun _ => zE fun _ => goR_eq 400 (by kernel_rfl)
noncomputable def g71_8 : List AV → CM := apS fun t2 => apS fun t6 => apS fun t43 => apS fun t44 => apS fun t45 => ap0 <|
 CM.pu (p2 (binA Tryz.prog .add 3) t45 (.int .i64 1)) fun x0 =>
 CM.go 290822 [t2, t6, t43, t44, x0]
theorem g71_8_ok : EqD (Rl H) g71_8 (fun xs m => goR (EH H) Mk 290824 xs m) := sE fun _ => sE fun _ => sE fun _ => sE fun _ => sE fun _ => zE fun _ => goR_eq 400 (by kernel_rfl)
noncomputable def g71_9 : List AV → CM := apS fun t2 => apS fun t6 => ap0 <|
 CM.pu (p1 (fun a => fieldAddrA Tryz.prog 48 a 2) t2) fun x0 =>
 CM.rm (q1 (loadA Tryz.prog 46) x0 ) fun x1 =>
 CM.pu (p1 (lenT Tryz.prog 46) x1) fun x2 =>
 CM.go 290826 [t2, t6, x1, x2, (.int .i64 0)]
theorem g71_9_ok : EqD (Rl H) g71_9 (fun xs m => goR (EH H) Mk 290825 xs m) := sE fun _ => sE fun _ => zE fun _ => goR_eq 400 (by kernel_rfl)
noncomputable def g71_10 : List AV → CM := apS fun t2 => apS fun t6 => apS fun t62 => apS fun t63 => apS fun t64 => ap0 <|
 CM.pu (p2 (binA Tryz.prog .lss 3) t64 t63) fun x0 =>
 CM.cond x0 (
 CM.go 290827 [t2, t6, t62, t63, t64]) (
 CM.go 290829 [t2, t6])
theorem g71_10_ok : EqD (Rl H) g71_10 (fun xs m => goR (EH H) Mk 290826 xs m) := sE fun _ => sE fun _ => sE fun _ => sE fun _ => sE fun _ => zE fun _ => goR_eq 400 (by kernel_rfl)
noncomputable def g71_11 : List AV → CM := apS fun t2 => apS fun t6 => apS fun t62 => apS fun t63 => apS fun t64 => ap0 <|
 CM.pu (p2 (indexAddrA Tryz.prog 46) t62 t64) fun x0 =>
 CM.rm (q1 (loadA Tryz.prog 100) x0 ) fun x1 =>
 CM.al (some (.cells [(.int .u64 0), (.str []), (.int .i64 0), (.int .u64 0)] false, pB)) fun x2 =>
 CM.st (fun m => stV m x2 x1 4) <|
 CM.pu (p1 nnA t6) fun x4 =>
 CM.pu (p1 (fun a => fieldAddrA Tryz.prog 88 a 3) x4) fun x5 =>
 CM.rm (q1 (loadA Tryz.prog 86) x5 ) fun x6 =>
 CM.pu (p1 (fun a => fieldAddrA Tryz.prog 100 a 0) x2) fun x7 =>
 CM.rm (q1 (loadA Tryz.prog 28) x7 ) fun x8 =>
 CM.rm (q1 (loadA Tryz.prog 100) x2 ) fun x9 =>
 CM.call 44 [x6, x8, x9] fun _ =>
 CM.go 290828 [t2, t6, t62, t63, t64]
theorem g71_11_ok : EqD (Rl H) g71_11 (fun xs m => goR (EH H) Mk 290827 xs m) := sE fun _ => sE fun _ => sE fun _ => sE fun _ => sE fun _ => zE fun _ => goR_eq 400 (by kernel_rfl)
noncomputable def g71_12 : List AV → CM := apS fun t2 => apS fun t6 => apS fun t62 => apS fun t63 => apS fun t64 => ap0 <|
 CM.pu (p2 (binA Tryz.prog .add 3) t64 (.int .i64 1)) fun x0 =>
 CM.go 290826 [t2, t6, t62, t63, x0]
theorem g71_12_ok : EqD (Rl H) g71_12 (fun xs m => goR (EH H) Mk 290828 xs m) := sE fun _ => sE fun _ => sE fun _ => sE fun _ => sE fun _ => zE fun _ => goR_eq 400 (by kernel_rfl)
noncomputable def g71_13 : List AV → CM := apS fun t2 => apS fun t6 => ap0 <|
 CM.pu (p1 (fun a => fieldAddrA Tryz.prog 48 a 3) t2) fun x0 =>
 CM.rm (q1 (loadA Tryz.prog 28) x0 ) fun x1 =>
 CM.pu (p1 nnA t6) fun x2 =>
 CM.pu (p1 (fun a => fieldAddrA Tryz.prog 88 a 4) x2) fun x3 =>
 CM.st (fun m => stV m x3 x1 1) <|
 CM.ret (.tup [t6, (.int .i64 0)])
theorem g71_13_ok : EqD (Rl H) g71_13 (fun xs m => goR (EH H) Mk 290829 xs m) := sE fun _ => sE fun _ => zE fun _ => goR_eq 400 (by kernel_rfl)
noncomputable def f71 : List AV → CM := apS fun a0 => apS fun a1 => ap0 <|
 CM.al (boxA a0) fun x0 =>
 CM.rm (q1 (loadA Tryz.prog 48) x0 ) fun x1 =>
 CM.call 18 [x1, a1] fun x2 =>
 CM.pu (p1 (unA .not) x2) fun x3 =>
 CM.cond x3 (
 CM.ret (.tup [(.ptr none), (.int .i64 1)])) (
 CM.go 290816 [a1, x0])
theorem f71_ok (h : H 71 = none) : EqD (Rl H) f71 (fun xs m => run (EH H) (.fn 71) xs m) := sE fun _ => sE fun _ => zE fun _ => run_eq 400 h (by kernel_rfl) (by kernel_rfl)
noncomputable def g72_0 : List AV → CM := apS fun t0 => apS fun t1 => apS fun t2 => ap0 <|
 CM.call 62 [t1, t2] fun x0 =>
 CM.pu (p1 (fun a => extractA a 0) x0) fun x1 =>
 CM.pu (p1 (fun a => extractA a 1) x0) fun x2 =>
 CM.pu (p2 (binA Tryz.prog .neq 23) x2 (.int .i64 0)) fun x3 =>
 CM.cond x3 (
 CM.ret (.tup [(.ptr none), x2])) (
 CM.go 294913 [t0, x1])
theorem g72_0_ok : EqD (Rl H) g72_0 (fun xs m => goR (EH H) Mk 294912 xs m) := sE fun _ => sE fun _ => sE fun _ => zE fun _ => goR_eq 400 (by kernel_rfl)
noncomputable def g72_1 : List AV → CM := apS fun t0 => apS fun t8 => ap0 <|
 CM.pu (p1 (lenT Tryz.prog 67) t0) fun x0 =>
 CM.go 294914 [t8, t0, x0, (.int .i64 0)]
theorem g72_1_ok : EqD (Rl H) g72_1 (fun xs m => goR (EH H) Mk 294913 xs m) := sE fun _ => sE fun _ => zE fun _ => goR_eq 400 (by kernel_rfl)
noncomputable def g72_2 : List AV → CM := apS fun t8 => apS fun t25 => apS fun t26 => apS fun t27 => ap0 <|
 CM.pu (p2 (binA Tryz.prog .lss 3) t27 t26) fun x0 =>
 CM.cond x0 (
 CM.go 294915 [t8, t25, t26, t27]) (
 CM.go 294917 [t8])
theorem g72_2_ok : EqD (Rl H) g72_2 (fun xs m => goR (EH H) Mk 294914 xs m) := sE fun _ => sE fun _ => sE fun _ => sE fun _ => zE fun _ => goR_eq 400 (by kernel_rfl)
noncomputable def g72_3 : List AV → CM := apS fun t8 => apS fun t25 => apS fun t26 => apS fun t27 => ap0 <|
 CM.pu (p2 (indexAddrA Tryz.prog 67) t25 t27) fun x0 =>
 CM.rm (q1 (loadA Tryz.prog 210) x0 ) fun x1 =>
 CM.al (some (.cells [(.int .u64 0), (.int .u64 0), (.int .u64 0), (.sl none 0 0 0 true)] false, pB)) fun x2 =>
 CM.st (fun m => stV m x2 x1 4) <|
 CM.pu (p1 nnA t8) fun x4 =>
 CM.pu (p1 (fun a => fieldAddrA Tryz.prog 212 a 1) x4) fun x5 =>
 CM.rm (q1 (loadA Tryz.prog 205) x5 ) fun x6 =>
 CM.pu (p1 (fun a => fieldAddrA Tryz.prog 210 a 0) x2) fun x7 =>
 CM.rm (q1 (loadA Tryz.prog 28) x7 ) fun x8 =>
 CM.rm (q1 (loadA Tryz.prog 210) x2 ) fun x9 =>
 CM.call 131 [x9] fun x11 =>
 CM.memo fun m12 =>
 CM.chk (q1 (loadA Tryz.prog 28) x7 m12) x8 <|
 CM.chk (q1 (loadA Tryz.prog 205) x5 m12) x6 <|
 CM.call 127 [x6, x8, x11] fun _ =>
 CM.go 294916 [t8, t25, t26, t27]
theorem g72_3_ok : EqD (Rl H) g72_3 (fun xs m => goR (EH H) Mk 294915 xs m) := sE fun _ => sE fun _ => sE fun _ => sE fun _ => zE fun _ => goR_eq 400 (by kernel_rfl)
noncomputable def g72_4 : List AV → CM := apS fun t8 => apS fun t25 => apS fun t26 => apS fun t27 => ap0 <|
 CM.pu (p2 (binA Tryz.prog .add 3) t27 (.int .i64 1)) fun x0 =>
 CM.go 294914 [t8, t25, t26, x0]
theorem g72_4_ok : EqD (Rl H) g72_4 (fun xs m => goR (EH H) Mk 294916 xs m) := sE fun _ => sE fun _ => sE fun _ => sE fun _ => zE fun _ => goR_eq 400 (by kernel_rfl)
noncomputable def g72_5 : List AV → CM := apS fun t8 => ap0 <|
 CM.ret (.tup [t8, (.int .i64 0)])
theorem g72_5_ok : EqD (Rl H) g72_5 (fun xs m => goR (EH H) Mk 294917 xs m) := sE fun _ => zE fun _ => goR_eq 400 (by kernel_rfl)
noncomputable def f72 : List AV → CM := apS fun a0 => apS fun a1 => apS fun a2 => ap0 <|
 CM.call 130 [a0, a1] fun x0 =>
 CM.pu (p1 (unA .not) x0) fun x1 =>
 CM.cond x1 (
 CM.ret (.tup [(.ptr none), (.int .i64 1)])) (
 CM.go 294912 [a0, a1, a2])
theorem f72_ok (h : H 72 = none) : EqD (Rl H) f72 (fun xs m => run (EH H) (.fn 72) xs m) := sE fun _ => sE fun _ => sE fun _ => zE fun _ => run_eq 400 h (by kernel_rfl) (by kernel_rfl)
noncomputable def g73_0 : List AV → CM := apS fun t3 => apS fun t5 => apS fun t10 => apS fun t12 => ap0 <|
 CM.rng (.fn (rsOf (EH fun _ => none) 73)) t10 (loopOf (EH fun _ => none) 73 0 ([.undef, .undef, .undef, t3, .undef, t5, .undef, .undef, .undef, .undef, t10, .undef, t12] ++ List.replicate 6 .undef)) 299008 [t3, t5, t10, t12]
theorem g73_0_ok : EqD (Rl H) g73_0 (fun xs m => goR (EH H) Mk 299008 xs m) := sE fun _ => sE fun _ => sE fun _ => sE fun _ => zE fun _ => goR_eq 400 (by kernel_rfl)
noncomputable def g73_2 : List AV → CM := apS fun t3 => ap0 <|
 CM.rm (q1 (loadA Tryz.prog 67) t3 ) fun x0 =>
 CM.ret x0
theorem g73_2_ok : EqD (Rl H) g73_2 (fun xs m => goR (EH H) Mk 299010 xs m) := sE fun _ => zE fun _ => goR_eq 400 (by kernel_rfl)
noncomputable def l73_0_none : List AV → CM := apS fun t3 => apS fun _ => apS fun _ => apS fun _ => ap0 <|
 CM.go 299010 [t3]
theorem l73_0_none_ok : EqD (Rl H) l73_0_none (fun xs m => afR (EH H) Nk 299008 none xs m) := sE fun _ => sE fun _ => sE fun _ => sE fun _ => zE fun _ => afR_eq 400 (by kernel_rfl)
noncomputable def f73 : List AV → CM := apS fun a0 => ap0 <|
 CM.al (some (.cells [(.sl none 0 0 0 true)] false, pB)) fun x0 =>
 CM.pu (p1 nnA a0) fun x1 =>
 CM.pu (p1 (fun a => fieldAddrA Tryz.prog 212 a 1) x1) fun x2 =>
 CM.rm (q1 (loadA Tryz.prog 205) x2 ) fun x3 =>
 CM.call 116 [x3] fun x4 =>
 CM.go 299008 [x0, .undef, x4, .undef]
theorem f73_ok (h : H 73 = none) : EqD (Rl H) f73 (fun xs m => run (EH H) (.fn 73) xs m) := sE fun _ => zE fun _ => run_eq 400 h (by kernel_rfl) (by kernel_rfl)
noncomputable def f74 : List AV → CM := apS fun a0 => ap0 <|
 CM.call 133 [a0] fun x0 =>
 CM.call 26 [a0] fun x1 =>
 CM.call 132 [x0, x1] fun x2 =>
 CM.pu (p1 (fun a => extractA a 0) x2) fun x3 =>
 CM.pu (p1 (fun a => extractA a 1) x2) fun _ =>
 CM.ret x3
theorem f74_ok (h : H 74 = none) : EqD (Rl H) f74 (fun xs m => run (EH H) (.fn 74) xs m) := sE fun _ => zE fun _ => run_eq 400 h (by kernel_rfl) (by kernel_rfl)
noncomputable def g75_0 : List AV → CM := apS fun t0 => ap0 <|
 CM.ret t0
theorem g75_0_ok : EqD (Rl H) g75_0 (fun xs m => goR (EH H) Mk 307200 xs m) := sE fun _ => zE fun _ => goR_eq 400 (by kernel_rfl)
noncomputable def f75 : List AV → CM := apS fun a0 => apS fun a1 => ap0 <|
 CM.pu (p2 (binA Tryz.prog .rem 3) a0 a1) fun x0 =>
 CM.pu (p2 (binA Tryz.prog .lss 3) x0 (.int .i64 0)) fun x1 =>
 CM.cond x1 (
 CM.pu (p2 (binA Tryz.prog .add 3) x0 a1) fun x2 =>
 CM.go 307200 [x2]) (
 CM.go 307200 [x0])
theorem f75_ok (h : H 75 = none) : EqD (Rl H) f75 (fun xs m => run (EH H) (.fn 75) xs m) := sE fun _ => sE fun _ => zE fun _ => run_eq 400 h (by kernel_rfl) (by kernel_rfl)
noncomputable def f76 : List AV → CM := apS fun a0 => ap0 <|
 CM.pu (p1 nnA a0) fun x0 =>
 CM.pu (p1 (fun a => fieldAddrA Tryz.prog 158 a 1) x0) fun x1 =>
 CM.rm (q1 (loadA Tryz.prog 155) x1 ) fun x2 =>
 CM.pu (p1 (lenT Tryz.prog 155) x2) fun x3 =>
 CM.pu (p1 (convA Tryz.prog 3 28) x3) fun x4 =>
 CM.ret x4
theorem f76_ok (h : H 76 = none) : EqD (Rl H) f76 (fun xs m => run (EH H) (.fn 76) xs m) := sE fun _ => zE fun _ => run_eq 400 h (by kernel_rfl) (by kernel_rfl)
noncomputable def g77_0 : List AV → CM := apS fun t4 => apS fun t6 => ap0 <|
 CM.al (some (.cells [] false, sB 1 0)) fun x0 =>
 CM.pu (p1 (fun a => fieldAddrA Tryz.prog 154 a 0) t6) fun x1 =>
 CM.pu (p1 (fun a => fieldAddrA Tryz.prog 62 a 3) x1) fun x2 =>
 CM.rm (q1 (loadA Tryz.prog 60) x2 ) fun x3 =>
 CM.ef (apE 1 1 x0 x3) fun x4 =>
 CM.pu (p1 (fun a => fieldAddrA Tryz.prog 154 a 0) t6) fun x5 =>
 CM.pu (p1 (fun a => fieldAddrA Tryz.prog 62 a 3) x5) fun x6 =>
 CM.st (fun m => stV m x6 x4 1) <|
 CM.pu (p1 (fun a => fieldAddrA Tryz.prog 154 a 0) t6) fun x8 =>
 CM.rm (q1 (loadA Tryz.prog 62) x8 ) fun x9 =>
 CM.st (fun m => stV m t4 x9 5) <|
 CM.resC Tryz.prog [ResultVar.cell 0 62, ResultVar.tmp 1] [t4, (.bool true)]
theorem g77_0_ok : EqD (Rl H) g77_0 (fun xs m => goR (EH H) Mk 315392 xs m) := sE fun _ => sE fun _ => zE fun _ => goR_eq 400 (by kernel_rfl)
noncomputable def f77 : List AV → CM := apS fun a0 => apS fun a1 => ap0 <|
 CM.al (some (.cells [(.int .i64 0), (.int .u64 0), (.int .u64 0), (.sl none 0 0 0 true), (.int .i64 0)] false, pB)) fun x0 =>
 CM.call 82 [a0, a1] fun x1 =>
 CM.pu (p1 (fun a => extractA a 0) x1) fun x2 =>
 CM.pu (p1 (fun a => extractA a 1) x1) fun x3 =>
 CM.al (some (.cells [(.int .i64 0), (.int .u64 0), (.int .u64 0), (.sl none 0 0 0 true), (.int .i64 0), (.sl none 0 0 0 true), (.int .i64 0), (.int .u64 0), (.int .i64 0), (.int .u64 0), (.int .i64 0), (.bool false)] false, pB)) fun x4 =>
 CM.st (fun m => stV m x4 x2 12) <|
 CM.pu (p1 (unA .not) x3) fun x6 =>
 CM.ifv x6 (
 CM.pu (p1 (buildA Tryz.prog 62) []) fun x7 =>
 CM.st (fun m => stV m x0 x7 5) <|
 CM.resC Tryz.prog [ResultVar.cell 0 62, ResultVar.tmp 1] [x0, (.bool false)]) (
 CM.pu (p2 (binA Tryz.prog .eql 28) a1 (.int .u64 1)) fun x9 =>
 CM.cond x9 (
 CM.pu (p1 (buildA Tryz.prog 62) []) fun x10 =>
 CM.st (fun m => stV m x0 x10 5) <|
 CM.resC Tryz.prog [ResultVar.cell 0 62, ResultVar.tmp 1] [x0, (.bool false)]) (
 CM.go 315392 [x0, x4]))
theorem f77_ok (h : H 77 = none) : EqD (Rl H) f77 (fun xs m => run (EH H) (.fn 77) xs m) := sE fun _ => sE fun _ => zE fun _ => run_eq 400 h (by kernel_rfl) (by kernel_rfl)
noncomputable def f78 : List AV → CM := apS fun a0 => apS fun a1 => ap0 <|
 CM.al (boxA a0) fun x0 =>
 CM.al (boxA a1) fun x1 =>
 CM.pu (p1 (fun a => fieldAddrA Tryz.prog 62 a 0) x0) fun x2 =>
 CM.rm (q1 (loadA Tryz.prog 3) x2 ) fun x3 =>
 CM.pu (p1 (fun a => fieldAddrA Tryz.prog 62 a 0) x1) fun x4 =>
 CM.rm (q1 (loadA Tryz.prog 3) x4 ) fun x5 =>
 CM.pu (p2 (binA Tryz.prog .eql 3) x3 x5) fun x6 =>
 CM.ifv x6 (
 CM.pu (p1 (fun a => fieldAddrA Tryz.prog 62 a 1) x0) fun x7 =>
 CM.rm (q1 (loadA Tryz.prog 28) x7 ) fun x8 =>
 CM.pu (p1 (fun a => fieldAddrA Tryz.prog 62 a 1) x1) fun x9 =>
 CM.rm (q1 (loadA Tryz.prog 28) x9 ) fun x10 =>
 CM.pu (p2 (binA Tryz.prog .eql 28) x8 x10) fun x11 =>
 CM.ifv x11 (
 CM.pu (p1 (fun a => fieldAddrA Tryz.prog 62 a 2) x0) fun x12 =>
 CM.rm (q1 (loadA Tryz.prog 28) x12 ) fun x13 =>
 CM.pu (p1 (fun a => fieldAddrA Tryz.prog 62 a 2) x1) fun x14 =>
 CM.rm (q1 (loadA Tryz.prog 28) x14 ) fun x15 =>
 CM.pu (p2 (binA Tryz.prog .eql 28) x13 x15) fun x16 =>
 CM.ifv x16 (
 CM.pu (p1 (fun a => fieldAddrA Tryz.prog 62 a 3) x0) fun x17 =>
 CM.rm (q1 (loadA Tryz.prog 60) x17 ) fun x18 =>
 CM.rm (q1 (toStrA Tryz.prog 60) x18 ) fun x19 =>
 CM.pu (p1 (fun a => fieldAddrA Tryz.prog 62 a 3) x1) fun x20 =>
 CM.rm (q1 (loadA Tryz.prog 60) x20 ) fun x21 =>
 CM.rm (q1 (toStrA Tryz.prog 60) x21 ) fun x22 =>
 CM.pu (p2 (binA Tryz.prog .eql 9) x19 x22) fun x23 =>
 CM.ifv x23 (
 CM.pu (p1 (fun a => fieldAddrA Tryz.prog 62 a 4) x0) fun x24 =>
 CM.rm (q1 (loadA Tryz.prog 3) x24 ) fun x25 =>
 CM.pu (p1 (fun a => fieldAddrA Tryz.prog 62 a 4) x1) fun x26 =>
 CM.rm (q1 (loadA Tryz.prog 3) x26 ) fun x27 =>
 CM.pu (p2 (binA Tryz.prog .eql 3) x25 x27) fun x28 =>
 CM.ret x28) (
 CM.ret (.bool false))) (
 CM.ret (.bool false))) (
 CM.ret (.bool false))) (
 CM.ret (.bool false))
theorem f78_ok (h : H 78 = none) : EqD (Rl H) f78 (fun xs m => run (EH H) (.fn 78) xs m) := sE fun _ => sE fun _ => zE fun _ => run_eq 400 h (by kernel_rfl) (by kernel_rfl)
noncomputable def g79_0 : List AV → CM := apS fun t1 => ap0 <|
 CM.pu (p1 (fun a => fieldAddrA Tryz.prog 65 a 0) t1) fun x0 =>
 CM.rm (q1 (loadA Tryz.prog 3) x0 ) fun x1 =>
 CM.call 135 [x1] fun x2 =>
 CM.pu (p1 (fun a => fieldAddrA Tryz.prog 65 a 0) t1) fun x3 =>
 CM.rm (q1 (loadA Tryz.prog 3) x3 ) fun x4 =>
 CM.pu (p1 (convA Tryz.prog 3 5) x4) fun x5 =>
 CM.al (bsA 1 1 [(.int .u8 0)] [(0, x5)]) fun x6 =>
 CM.pu (p1 (fun a => fieldAddrA Tryz.prog 65 a 1) t1) fun x7 =>
 CM.rm (q1 (loadA Tryz.prog 28) x7 ) fun x8 =>
 CM.call 136 [x8] fun x10 =>
 CM.memo fun m11 =>
 CM.chk (q1 (loadA Tryz.prog 3) x3 m11) x4 <|
 CM.ef (apE 1 1 x6 x10) fun x13 =>
 CM.call 137 [x2, (.str [115, 101, 113])] fun x15 =>
 CM.cond x15 (
 CM.pu (p1 (fun a => fieldAddrA Tryz.prog 65 a 2) t1) fun x16 =>
 CM.rm (q1 (loadA Tryz.prog 28) x16 ) fun x17 =>
 CM.call 136 [x17] fun x18 =>
 CM.ef (apE 1 1 x13 x18) fun x19 =>
 CM.go 323585 [t1, x2, x19]) (
 CM.go 323585 [t1, x2, x13])
theorem g79_0_ok : EqD (Rl H) g79_0 (fun xs m => goR (EH H) Mk 323584 xs m) := sE fun _ => zE fun _ => goR_eq 400 (by kernel_rfl)
noncomputable def g79_1 : List AV → CM := apS fun t1 => apS fun t4 => apS fun t5 => ap0 <|
 CM.call 137 [t4, (.str [97])] fun x0 =>
 CM.cond x0 (
 CM.pu (p1 (fun a => fieldAddrA Tryz.prog 65 a 3) t1) fun x1 =>
 CM.rm (q1 (loadA Tryz.prog 28) x1 ) fun x2 =>
 CM.call 136 [x2] fun x3 =>
 CM.ef (apE 1 1 t5 x3) fun x4 =>
 CM.go 323586 [t1, t4, x4]) (
 CM.go 323586 [t1, t4, t5])
theorem g79_1_ok : EqD (Rl H) g79_1 (fun xs m => goR (EH H) Mk 323585 xs m) := sE fun _ => sE fun _ => sE fun _ => zE fun _ => goR_eq 400 (by kernel_rfl)
noncomputable def g79_2 : List AV → CM := apS fun t1 => apS fun t4 => apS fun t5 => ap0 <|
 CM.call 137 [t4, (.str [98])] fun x0 =>
 CM.cond x0 (
 CM.pu (p1 (fun a => fieldAddrA Tryz.prog 65 a 4) t1) fun x1 =>
 CM.rm (q1 (loadA Tryz.prog 28) x1 ) fun x2 =>
 CM.call 136 [x2] fun x3 =>
 CM.ef (apE 1 1 t5 x3) fun x4 =>
 CM.go 323587 [t1, t4, x4]) (
 CM.go 323587 [t1, t4, t5])
theorem g79_2_ok : EqD (Rl H) g79_2 (fun xs m => goR (EH H) Mk 323586 xs m) := sE fun _ => sE fun _ => sE fun _ => zE fun _ => goR_eq 400 (by kernel_rfl)
noncomputable def g79_3 : List AV → CM := apS fun t1 => apS fun t4 => apS fun t5 => ap0 <|
 CM.call 137 [t4, (.str [97, 109, 111, 117, 110, 116])] fun x0 =>
 CM.cond x0 (
 CM.pu (p1 (fun a => fieldAddrA Tryz.prog 65 a 5) t1) fun x1 =>
 CM.rm (q1 (loadA Tryz.prog 35) x1 ) fun x2 =>
 CM.call 138 [x2] fun x3 =>
 CM.ef (apE 1 1 t5 x3) fun x4 =>
 CM.go 323588 [t1, x4]) (
 CM.go 323588 [t1, t5])
theorem g79_3_ok : EqD (Rl H) g79_3 (fun xs m => goR (EH H) Mk 323587 xs m) := sE fun _ => sE fun _ => sE fun _ => zE fun _ => goR_eq 400 (by kernel_rfl)
noncomputable def g79_4 : List AV → CM := apS fun t1 => apS fun t5 => ap0 <|
 CM.pu (p1 (fun a => fieldAddrA Tryz.prog 65 a 6) t1) fun x0 =>
 CM.rm (q1 (loadA Tryz.prog 9) x0 ) fun x1 =>
 CM.memo fun m2 =>
 CM.ef (apE 1 1 t5 x1) fun x3 =>
 CM.pu (p1 (fun a => fieldAddrA Tryz.prog 65 a 7) t1) fun x5 =>
 CM.rm (q1 (loadA Tryz.prog 9) x5 ) fun x6 =>
 CM.chk (q1 (loadA Tryz.prog 9) x5 m2) x6 <|
 CM.ef (apE 1 1 x3 x6) fun x8 =>
 CM.ret (.tup [x8, (.int .i64 0)])
theorem g79_4_ok : EqD (Rl H) g79_4 (fun xs m => goR (EH H) Mk 323588 xs m) := sE fun _ => sE fun _ => zE fun _ => goR_eq 400 (by kernel_rfl)
noncomputable def f79 : List AV → CM := apS fun a0 => ap0 <|
 CM.al (boxA a0) fun x0 =>
 CM.rm (q1 (loadA Tryz.prog 65) x0 ) fun x1 =>
 CM.call 134 [x1] fun x2 =>
 CM.pu (p1 (unA .not) x2) fun x3 =>
 CM.cond x3 (
 CM.ret (.tup [(.sl none 0 0 0 true), (.int .i64 1)])) (
 CM.go 323584 [x0])
theorem f79_ok (h : H 79 = none) : EqD (Rl H) f79 (fun xs m => run (EH H) (.fn 79) xs m) := sE fun _ => zE fun _ => run_eq 400 h (by kernel_rfl) (by kernel_rfl)
noncomputable def f80 : List AV → CM := apS fun a0 => apS fun a1 => ap0 <|
 CM.al (boxA a0) fun x0 =>
 CM.al (boxA a1) fun x1 =>
 CM.pu (p1 (fun a => fieldAddrA Tryz.prog 62 a 0) x0) fun x2 =>
 CM.rm (q1 (loadA Tryz.prog 3) x2 ) fun x3 =>
 CM.pu (p1 (fun a => fieldAddrA Tryz.prog 62 a 0) x1) fun x4 =>
 CM.rm (q1 (loadA Tryz.prog 3) x4 ) fun x5 =>
 CM.pu (p2 (binA Tryz.prog .eql 3) x3 x5) fun x6 =>
 CM.ifv x6 (
 CM.pu (p1 (fun a => fieldAddrA Tryz.prog 62 a 1) x0) fun x7 =>
 CM.rm (q1 (loadA Tryz.prog 28) x7 ) fun x8 =>
 CM.pu (p1 (fun a => fieldAddrA Tryz.prog 62 a 1) x1) fun x9 =>
 CM.rm (q1 (loadA Tryz.prog 28) x9 ) fun x10 =>
 CM.pu (p2 (binA Tryz.prog .eql 28) x8 x10) fun x11 =>
 CM.ifv x11 (
 CM.pu (p1 (fun a => fieldAddrA Tryz.prog 62 a 4) x0) fun x12 =>
 CM.rm (q1 (loadA Tryz.prog 3) x12 ) fun x13 =>
 CM.pu (p1 (fun a => fieldAddrA Tryz.prog 62 a 4) x1) fun x14 =>
 CM.rm (q1 (loadA Tryz.prog 3) x14 ) fun x15 =>
 CM.pu (p2 (binA Tryz.prog .eql 3) x13 x15) fun x16 =>
 CM.ifv x16 (
 CM.pu (p1 (fun a => fieldAddrA Tryz.prog 62 a 3) x0) fun x17 =>
 CM.rm (q1 (loadA Tryz.prog 60) x17 ) fun x18 =>
 CM.pu (p1 (fun a => fieldAddrA Tryz.prog 62 a 3) x1) fun x19 =>
 CM.rm (q1 (loadA Tryz.prog 60) x19 ) fun x20 =>
 CM.call 139 [x18, x20] fun x21 =>
 CM.ret x21) (
 CM.ret (.bool false))) (
 CM.ret (.bool false))) (
 CM.ret (.bool false))
theorem f80_ok (h : H 80 = none) : EqD (Rl H) f80 (fun xs m => run (EH H) (.fn 80) xs m) := sE fun _ => sE fun _ => zE fun _ => run_eq 400 h (by kernel_rfl) (by kernel_rfl)
noncomputable def g81_0 : List AV → CM := apS fun t1 => apS fun t3 => apS fun t4 => ap0 <|
 CM.ifv t3 (
 CM.ifv t4 (
 CM.pu (p1 (fun a => fieldAddrA Tryz.prog 62 a 1) t1) fun x0 =>
 CM.rm (q1 (loadA Tryz.prog 28) x0 ) fun x1 =>
 CM.call 141 [x1] fun x2 =>
 CM.ifv x2 (
 CM.pu (p1 (fun a => fieldAddrA Tryz.prog 62 a 2) t1) fun x3 =>
 CM.rm (q1 (loadA Tryz.prog 28) x3 ) fun x4 =>
 CM.call 141 [x4] fun x5 =>
 CM.ret x5) (
 CM.ret (.bool false))) (
 CM.ret (.bool false))) (
 CM.ret (.bool false))
theorem g81_0_ok : EqD (Rl H) g81_0 (fun xs m => goR (EH H) Mk 331776 xs m) := sE fun _ => sE fun _ => sE fun _ => zE fun _ => goR_eq 400 (by kernel_rfl)
noncomputable def f81 : List AV → CM := apS fun a0 => ap0 <|
 CM.al (boxA a0) fun x0 =>
 CM.pu (p1 (fun a => fieldAddrA Tryz.prog 62 a 3) x0) fun x1 =>
 CM.rm (q1 (loadA Tryz.prog 60) x1 ) fun x2 =>
 CM.pu (p1 (lenT Tryz.prog 60) x2) fun x3 =>
 CM.pu (p2 (binA Tryz.prog .eql 3) x3 (.int .i64 0)) fun x4 =>
 CM.pu (p1 (fun a => fieldAddrA Tryz.prog 62 a 4) x0) fun x5 =>
 CM.rm (q1 (loadA Tryz.prog 3) x5 ) fun x6 =>
 CM.pu (p2 (binA Tryz.prog .eql 3) x6 (.int .i64 0)) fun x7 =>
 CM.pu (p1 (fun a => fieldAddrA Tryz.prog 62 a 0) x0) fun x8 =>
 CM.rm (q1 (loadA Tryz.prog 3) x8 ) fun x9 =>
 CM.pu (p2 (binA Tryz.prog .eql 3) x9 (.int .i64 0)) fun x10 =>
 CM.cond x10 (
 CM.go 331776 [x0, x4, x7]) (
 CM.pu (p2 (binA Tryz.prog .eql 3) x9 (.int .i64 1)) fun x11 =>
 CM.cond x11 (
 CM.pu (p1 (fun a => fieldAddrA Tryz.prog 62 a 3) x0) fun x12 =>
 CM.rm (q1 (loadA Tryz.prog 60) x12 ) fun x13 =>
 CM.pu (p1 (lenT Tryz.prog 60) x13) fun x14 =>
 CM.pu (p2 (binA Tryz.prog .geq 3) x14 (.int .i64 1)) fun x15 =>
 CM.ifv x15 (
 CM.pu (p1 (fun a => fieldAddrA Tryz.prog 62 a 3) x0) fun x16 =>
 CM.rm (q1 (loadA Tryz.prog 60) x16 ) fun x17 =>
 CM.pu (p1 (lenT Tryz.prog 60) x17) fun x18 =>
 CM.pu (p2 (binA Tryz.prog .leq 3) x18 (.int .i64 128)) fun x19 =>
 CM.go 331776 [x0, x19, x7]) (
 CM.go 331776 [x0, (.bool false), x7])) (
 CM.pu (p2 (binA Tryz.prog .eql 3) x9 (.int .i64 2)) fun x20 =>
 CM.cond x20 (
 CM.pu (p1 (fun a => fieldAddrA Tryz.prog 62 a 4) x0) fun x21 =>
 CM.rm (q1 (loadA Tryz.prog 3) x21 ) fun x22 =>
 CM.call 140 [x22] fun x23 =>
 CM.go 331776 [x0, x4, x23]) (
 CM.ret (.bool false))))
theorem f81_ok (h : H 81 = none) : EqD (Rl H) f81 (fun xs m => run (EH H) (.fn 81) xs m) := sE fun _ => zE fun _ => run_eq 400 h (by kernel_rfl) (by kernel_rfl)
noncomputable def g82_0 : List AV → CM := apS fun t0 => apS fun t1 => apS fun t4 => ap0 <|
 CM.pu (p1 nnA t0) fun x0 =>
 CM.pu (p1 (fun a => fieldAddrA Tryz.prog 158 a 1) x0) fun x1 =>
 CM.rm (q1 (loadA Tryz.prog 155) x1 ) fun x2 =>
 CM.pu (p2 (binA Tryz.prog .sub 28) t1 (.int .u64 1)) fun x3 =>
 CM.pu (p2 (indexAddrA Tryz.prog 155) x2 x3) fun x4 =>
 CM.rm (q1 (loadA Tryz.prog 154) x4 ) fun x5 =>
 CM.st (fun m => stV m t4 x5 12) <|
 CM.resC Tryz.prog [ResultVar.cell 0 154, ResultVar.tmp 1] [t4, (.bool true)]
theorem g82_0_ok : EqD (Rl H) g82_0 (fun xs m => goR (EH H) Mk 335872 xs m) := sE fun _ => sE fun _ => sE fun _ => zE fun _ => goR_eq 400 (by kernel_rfl)
noncomputable def f82 : List AV → CM := apS fun a0 => apS fun a1 => ap0 <|
 CM.al (some (.cells [(.int .i64 0), (.int .u64 0), (.int .u64 0), (.sl none 0 0 0 true), (.int .i64 0), (.sl none 0 0 0 true), (.int .i64 0), (.int .u64 0), (.int .i64 0), (.int .u64 0), (.int .i64 0), (.bool false)] false, pB)) fun x0 =>
 CM.pu (p2 (binA Tryz.prog .lss 28) a1 (.int .u64 1)) fun x1 =>
 CM.ifv x1 (
 CM.pu (p1 (buildA Tryz.prog 154) []) fun x2 =>
 CM.st (fun m => stV m x0 x2 12) <|
 CM.resC Tryz.prog [ResultVar.cell 0 154, ResultVar.tmp 1] [x0, (.bool false)]) (
 CM.call 76 [a0] fun x4 =>
 CM.pu (p2 (binA Tryz.prog .gtr 28) a1 x4) fun x5 =>
 CM.cond x5 (
 CM.pu (p1 (buildA Tryz.prog 154) []) fun x6 =>
 CM.st (fun m => stV m x0 x6 12) <|
 CM.resC Tryz.prog [ResultVar.cell 0 154, ResultVar.tmp 1] [x0, (.bool false)]) (
 CM.go 335872 [a0, a1, x0]))
theorem f82_ok (h : H 82 = none) : EqD (Rl H) f82 (fun xs m => run (EH H) (.fn 82) xs m) := sE fun _ => sE fun _ => zE fun _ => run_eq 400 h (by kernel_rfl) (by kernel_rfl)
noncomputable def g83_0 : List AV → CM := apS fun t0 => apS fun t1 => apS fun t6 => apS fun t7 => apS fun t8 => ap0 <|
 CM.pu (p2 (binA Tryz.prog .lss 3) t7 t8) fun x0 =>
 CM.cond x0 (
 CM.go 339969 [t0, t1, t6, t7, t8]) (
 CM.go 339970 [t0, t1, t6, t7])
theorem g83_0_ok : EqD (Rl H) g83_0 (fun xs m => goR (EH H) Mk 339968 xs m) := sE fun _ => sE fun _ => sE fun _ => sE fun _ => sE fun _ => zE fun _ => goR_eq 400 (by kernel_rfl)
noncomputable def g83_1 : List AV → CM := apS fun t0 => apS fun t1 => apS fun t6 => apS fun t7 => apS fun t8 => ap0 <|
 CM.pu (p2 (binA Tryz.prog .add 3) t7 t8) fun x0 =>
 CM.pu (p1 (convA Tryz.prog 3 160) x0) fun x1 =>
 CM.pu (p2 (binA Tryz.prog .shr 160) x1 (.int .u64 1)) fun x2 =>
 CM.pu (p1 (convA Tryz.prog 160 3) x2) fun x3 =>
 CM.pu (p2 (indexAddrA Tryz.prog 169) t0 x3) fun x4 =>
 CM.rm (q1 (loadA Tryz.prog 9) x4 ) fun x5 =>
 CM.call 142 [x5, t1] fun x6 =>
 CM.cond x6 (
 CM.pu (p2 (binA Tryz.prog .add 3) x3 (.int .i64 1)) fun x7 =>
 CM.go 339968 [t0, t1, t6, x7, t8]) (
 CM.go 339968 [t0, t1, t6, t7, x3])
theorem g83_1_ok : EqD (Rl H) g83_1 (fun xs m => goR (EH H) Mk 339969 xs m) := sE fun _ => sE fun _ => sE fun _ => sE fun _ => sE fun _ => zE fun _ => goR_eq 400 (by kernel_rfl)
noncomputable def g83_2 : List AV → CM := apS fun t0 => apS fun t1 => apS fun t6 => apS fun t7 => ap0 <|
 CM.pu (p2 (binA Tryz.prog .lss 3) t7 t6) fun x0 =>
 CM.ifv x0 (
 CM.pu (p2 (indexAddrA Tryz.prog 169) t0 t7) fun x1 =>
 CM.rm (q1 (loadA Tryz.prog 9) x1 ) fun x2 =>
 CM.pu (p2 (binA Tryz.prog .eql 9) x2 t1) fun x3 =>
 CM.ifv x3 (
 CM.ret (.tup [t7, (.bool true)])) (
 CM.pu (p2 (indexAddrA Tryz.prog 169) t0 t7) fun x4 =>
 CM.rm (q1 (loadA Tryz.prog 9) x4 ) fun x5 =>
 CM.call 143 [x5] fun x6 =>
 CM.ifv x6 (
 CM.call 143 [t1] fun x7 =>
 CM.ret (.tup [t7, x7])) (
 CM.ret (.tup [t7, (.bool false)])))) (
 CM.ret (.tup [t7, (.bool false)]))
theorem g83_2_ok : EqD (Rl H) g83_2 (fun xs m => goR (EH H) Mk 339970 xs m) := sE fun _ => sE fun _ => sE fun _ => sE fun _ => zE fun _ => goR_eq 400 (by kernel_rfl)
noncomputable def f83 : List AV → CM := apS fun a0 => apS fun a1 => ap0 <|
 CM.pu (p1 (lenT Tryz.prog 169) a0) fun x0 =>
 CM.go 339968 [a0, a1, x0, (.int .i64 0), x0]
theorem f83_ok (h : H 83 = none) : EqD (Rl H) f83 (fun xs m => run (EH H) (.fn 83) xs m) := sE fun _ => sE fun _ => zE fun _ => run_eq 400 h (by kernel_rfl) (by kernel_rfl)
noncomputable def g86_0 : List AV → CM := apS fun t0 => apS fun t1 => apS fun t6 => apS fun t7 => apS fun t8 => ap0 <|
 CM.pu (p2 (binA Tryz.prog .lss 3) t7 t8) fun x0 =>
 CM.cond x0 (
 CM.go 352257 [t0, t1, t6, t7, t8]) (
 CM.go 352258 [t0, t1, t6, t7])
theorem g86_0_ok : EqD (Rl H) g86_0 (fun xs m => goR (EH H) Mk 352256 xs m) := sE fun _ => sE fun _ => sE fun _ => sE fun _ => sE fun _ => zE fun _ => goR_eq 400 (by kernel_rfl)
noncomputable def g86_1 : List AV → CM := apS fun t0 => apS fun t1 => apS fun t6 => apS fun t7 => apS fun t8 => ap0 <|
 CM.pu (p2 (binA Tryz.prog .add 3) t7 t8) fun x0 =>
 CM.pu (p1 (convA Tryz.prog 3 160) x0) fun x1 =>
 CM.pu (p2 (binA Tryz.prog .shr 160) x1 (.int .u64 1)) fun x2 =>
 CM.pu (p1 (convA Tryz.prog 160 3) x2) fun x3 =>
 CM.pu (p2 (indexAddrA Tryz.prog 139) t0 x3) fun x4 =>
 CM.rm (q1 (loadA Tryz.prog 28) x4 ) fun x5 =>
 CM.call 148 [x5, t1] fun x6 =>
 CM.cond x6 (
 CM.pu (p2 (binA Tryz.prog .add 3) x3 (.int .i64 1)) fun x7 =>
 CM.go 352256 [t0, t1, t6, x7, t8]) (
 CM.go 352256 [t0, t1, t6, t7, x3])
theorem g86_1_ok : EqD (Rl H) g86_1 (fun xs m => goR (EH H) Mk 352257 xs m) := sE fun _ => sE fun _ => sE fun _ => sE fun _ => sE fun _ => zE fun _ => goR_eq 400 (by kernel_rfl)
noncomputable def g86_2 : List AV → CM := apS fun t0 => apS fun t1 => apS fun t6 => apS fun t7 => ap0 <|
 CM.pu (p2 (binA Tryz.prog .lss 3) t7 t6) fun x0 =>
 CM.ifv x0 (
 CM.pu (p2 (indexAddrA Tryz.prog 139) t0 t7) fun x1 =>
 CM.rm (q1 (loadA Tryz.prog 28) x1 ) fun x2 =>
 CM.pu (p2 (binA Tryz.prog .eql 28) x2 t1) fun x3 =>
 CM.ifv x3 (
 CM.ret (.tup [t7, (.bool true)])) (
 CM.pu (p2 (indexAddrA Tryz.prog 139) t0 t7) fun x4 =>
 CM.rm (q1 (loadA Tryz.prog 28) x4 ) fun x5 =>
 CM.call 149 [x5] fun x6 =>
 CM.ifv x6 (
 CM.call 149 [t1] fun x7 =>
 CM.ret (.tup [t7, x7])) (
 CM.ret (.tup [t7, (.bool false)])))) (
 CM.ret (.tup [t7, (.bool false)]))
theorem g86_2_ok : EqD (Rl H) g86_2 (fun xs m => goR (EH H) Mk 352258 xs m) := sE fun _ => sE fun _ => sE fun _ => sE fun _ => zE fun _ => goR_eq 400 (by kernel_rfl)
noncomputable def f86 : List AV → CM := apS fun a0 => apS fun a1 => ap0 <|
 CM.pu (p1 (lenT Tryz.prog 139) a0) fun x0 =>
 CM.go 352256 [a0, a1, x0, (.int .i64 0), x0]
theorem f86_ok (h : H 86 = none) : EqD (Rl H) f86 (fun xs m => run (EH H) (.fn 86) xs m) := sE fun _ => sE fun _ => zE fun _ => run_eq 400 h (by kernel_rfl) (by kernel_rfl)
noncomputable def g89_0 : List AV → CM := apS fun t0 => apS fun t4 => apS fun t6 => ap0 <|
 CM.pu (p1 nnA t0) fun x0 =>
 CM.pu (p1 (fun a => fieldAddrA Tryz.prog 175 a 1) x0) fun x1 =>
 CM.rm (q1 (loadA Tryz.prog 46) x1 ) fun x2 =>
 CM.pu (p2 (indexAddrA Tryz.prog 46) x2 t6) fun x3 =>
 CM.rm (q1 (loadA Tryz.prog 100) x3 ) fun x4 =>
 CM.st (fun m => stV m t4 x4 4) <|
 CM.resC Tryz.prog [ResultVar.cell 0 100, ResultVar.tmp 1] [t4, (.bool true)]
theorem g89_0_ok : EqD (Rl H) g89_0 (fun xs m => goR (EH H) Mk 364544 xs m) := sE fun _ => sE fun _ => sE fun _ => zE fun _ => goR_eq 400 (by kernel_rfl)
noncomputable def f89 : List AV → CM := apS fun a0 => apS fun a1 => ap0 <|
 CM.al (some (.cells [(.int .u64 0), (.str []), (.int .i64 0), (.int .u64 0)] false, pB)) fun x0 =>
 CM.pu (p1 nnA a0) fun x1 =>
 CM.pu (p1 (fun a => fieldAddrA Tryz.prog 175 a 0) x1) fun x2 =>
 CM.rm (q1 (loadA Tryz.prog 139) x2 ) fun x3 =>
 CM.call 86 [x3, a1] fun x4 =>
 CM.pu (p1 (fun a => extractA a 0) x4) fun x5 =>
 CM.pu (p1 (fun a => extractA a 1) x4) fun x6 =>
 CM.pu (p1 (unA .not) x6) fun x7 =>
 CM.cond x7 (
 CM.al (some (.cells [(.int .u64 0), (.str []), (.int .i64 0), (.int .u64 0)] false, pB)) fun x8 =>
 CM.rm (q1 (loadA Tryz.prog 100) x8 ) fun x9 =>
 CM.st (fun m => stV m x0 x9 4) <|
 CM.resC Tryz.prog [ResultVar.cell 0 100, ResultVar.tmp 1] [x0, (.bool false)]) (
 CM.go 364544 [a0, x0, x5])
theorem f89_ok (h : H 89 = none) : EqD (Rl H) f89 (fun xs m => run (EH H) (.fn 89) xs m) := sE fun _ => sE fun _ => zE fun _ => run_eq 400 h (by kernel_rfl) (by kernel_rfl)
noncomputable def g90_0 : List AV → CM := ap0 <|
 CM.ret (.int .i64 1)
theorem g90_0_ok : EqD (Rl H) g90_0 (fun xs m => goR (EH H) Mk 368640 xs m) := zE fun _ => goR_eq 400 (by kernel_rfl)
noncomputable def f90 : List AV → CM := apS fun a0 => ap0 <|
 CM.al (boxA a0) fun x0 =>
 CM.pu (p1 (fun a => fieldAddrA Tryz.prog 33 a 0) x0) fun x1 =>
 CM.rm (q1 (loadA Tryz.prog 2) x1 ) fun x2 =>
 CM.pu (p2 (binA Tryz.prog .lss 2) x2 (.int .i64 0)) fun x3 =>
 CM.cond x3 (
 CM.ret (.int .i64 (-1))) (
 CM.pu (p1 (fun a => fieldAddrA Tryz.prog 33 a 0) x0) fun x4 =>
 CM.rm (q1 (loadA Tryz.prog 2) x4 ) fun x5 =>
 CM.pu (p2 (binA Tryz.prog .eql 2) x5 (.int .i64 0)) fun x6 =>
 CM.ifv x6 (
 CM.pu (p1 (fun a => fieldAddrA Tryz.prog 33 a 1) x0) fun x7 =>
 CM.rm (q1 (loadA Tryz.prog 28) x7 ) fun x8 =>
 CM.pu (p2 (binA Tryz.prog .eql 28) x8 (.int .u64 0)) fun x9 =>
 CM.cond x9 (
 CM.ret (.int .i64 0)) (
 CM.go 368640 [])) (
 CM.go 368640 []))
theorem f90_ok (h : H 90 = none) : EqD (Rl H) f90 (fun xs m => run (EH H) (.fn 90) xs m) := sE fun _ => zE fun _ => run_eq 400 h (by kernel_rfl) (by kernel_rfl)
noncomputable def g91_0 : List AV → CM := apS fun t4 => apS fun t6 => apS fun t8 => ap0 <|
 CM.pu (p1 (convA Tryz.prog 28 2) t8) fun x0 =>
 CM.pu (p1 (buildA Tryz.prog 33) [(0, x0), (1, t6)]) fun x1 =>
 CM.st (fun m => stV m t4 x1 2) <|
 CM.resC Tryz.prog [ResultVar.cell 0 33, ResultVar.tmp 1] [t4, (.int .i64 0)]
theorem g91_0_ok : EqD (Rl H) g91_0 (fun xs m => goR (EH H) Mk 372736 xs m) := sE fun _ => sE fun _ => sE fun _ => zE fun _ => goR_eq 400 (by kernel_rfl)
noncomputable def f91 : List AV → CM := apS fun a0 => apS fun a1 => ap0 <|
 CM.al (boxA a0) fun x0 =>
 CM.al (boxA a1) fun x1 =>
 CM.al (some (.cells [(.int .i64 0), (.int .u64 0)] false, pB)) fun x2 =>
 CM.pu (p1 (fun a => fieldAddrA Tryz.prog 33 a 1) x0) fun x3 =>
 CM.rm (q1 (loadA Tryz.prog 28) x3 ) fun x4 =>
 CM.pu (p1 (fun a => fieldAddrA Tryz.prog 33 a 1) x1) fun x5 =>
 CM.rm (q1 (loadA Tryz.prog 28) x5 ) fun x6 =>
 CM.call 154 [x4, x6, (.int .u64 0)] fun x7 =>
 CM.pu (p1 (fun a => extractA a 0) x7) fun x8 =>
 CM.pu (p1 (fun a => extractA a 1) x7) fun x9 =>
 CM.pu (p1 (fun a => fieldAddrA Tryz.prog 33 a 0) x0) fun x10 =>
 CM.rm (q1 (loadA Tryz.prog 2) x10 ) fun x11 =>
 CM.pu (p1 (convA Tryz.prog 2 28) x11) fun x12 =>
 CM.pu (p1 (fun a => fieldAddrA Tryz.prog 33 a 0) x1) fun x13 =>
 CM.rm (q1 (loadA Tryz.prog 2) x13 ) fun x14 =>
 CM.pu (p1 (convA Tryz.prog 2 28) x14) fun x15 =>
 CM.call 154 [x12, x15, x9] fun x16 =>
 CM.pu (p1 (fun a => extractA a 0) x16) fun x17 =>
 CM.pu (p1 (fun a => extractA a 1) x16) fun _ =>
 CM.pu (p1 (fun a => fieldAddrA Tryz.prog 33 a 0) x0) fun x19 =>
 CM.rm (q1 (loadA Tryz.prog 2) x19 ) fun x20 =>
 CM.pu (p2 (binA Tryz.prog .lss 2) x20 (.int .i64 0)) fun x21 =>
 CM.pu (p1 (fun a => fieldAddrA Tryz.prog 33 a 0) x1) fun x22 =>
 CM.rm (q1 (loadA Tryz.prog 2) x22 ) fun x23 =>
 CM.pu (p2 (binA Tryz.prog .lss 2) x23 (.int .i64 0)) fun x24 =>
 CM.pu (p2 (binA Tryz.prog .neq 4) x21 x24) fun x25 =>
 CM.ifv x25 (
 CM.pu (p1 (convA Tryz.prog 28 2) x17) fun x26 =>
 CM.pu (p2 (binA Tryz.prog .lss 2) x26 (.int .i64 0)) fun x27 =>
 CM.pu (p1 (fun a => fieldAddrA Tryz.prog 33 a 0) x0) fun x28 =>
 CM.rm (q1 (loadA Tryz.prog 2) x28 ) fun x29 =>
 CM.pu (p2 (binA Tryz.prog .lss 2) x29 (.int .i64 0)) fun x30 =>
 CM.pu (p2 (binA Tryz.prog .neq 4) x27 x30) fun x31 =>
 CM.cond x31 (
 CM.pu (p1 (buildA Tryz.prog 33) []) fun x32 =>
 CM.st (fun m => stV m x2 x32 2) <|
 CM.resC Tryz.prog [ResultVar.cell 0 33, ResultVar.tmp 1] [x2, (.int .i64 20)]) (
 CM.go 372736 [x2, x8, x17])) (
 CM.go 372736 [x2, x8, x17])
theorem f91_ok (h : H 91 = none) : EqD (Rl H) f91 (fun xs m => run (EH H) (.fn 91) xs m) := sE fun _ => sE fun _ => zE fun _ => run_eq 400 h (by kernel_rfl) (by kernel_rfl)
noncomputable def g92_0 : List AV → CM := apS fun t4 => apS fun t6 => apS fun t8 => ap0 <|
 CM.pu (p1 (convA Tryz.prog 28 2) t8) fun x0 =>
 CM.pu (p1 (buildA Tryz.prog 33) [(0, x0), (1, t6)]) fun x1 =>
 CM.st (fun m => stV m t4 x1 2) <|
 CM.resC Tryz.prog [ResultVar.cell 0 33, ResultVar.tmp 1] [t4, (.int .i64 0)]
theorem g92_0_ok : EqD (Rl H) g92_0 (fun xs m => goR (EH H) Mk 376832 xs m) := sE fun _ => sE fun _ => sE fun _ => zE fun _ => goR_eq 400 (by kernel_rfl)
noncomputable def f92 : List AV → CM := apS fun a0 => apS fun a1 => ap0 <|
 CM.al (boxA a0) fun x0 =>
 CM.al (boxA a1) fun x1 =>
 CM.al (some (.cells [(.int .i64 0), (.int .u64 0)] false, pB)) fun x2 =>
 CM.pu (p1 (fun a => fieldAddrA Tryz.prog 33 a 1) x0) fun x3 =>
 CM.rm (q1 (loadA Tryz.prog 28) x3 ) fun x4 =>
 CM.pu (p1 (fun a => fieldAddrA Tryz.prog 33 a 1) x1) fun x5 =>
 CM.rm (q1 (loadA Tryz.prog 28) x5 ) fun x6 =>
 CM.call 155 [x4, x6, (.int .u64 0)] fun x7 =>
 CM.pu (p1 (fun a => extractA a 0) x7) fun x8 =>
 CM.pu (p1 (fun a => extractA a 1) x7) fun x9 =>
 CM.pu (p1 (fun a => fieldAddrA Tryz.prog 33 a 0) x0) fun x10 =>
 CM.rm (q1 (loadA Tryz.prog 2) x10 ) fun x11 =>
 CM.pu (p1 (convA Tryz.prog 2 28) x11) fun x12 =>
 CM.pu (p1 (fun a => fieldAddrA Tryz.prog 33 a 0) x1) fun x13 =>
 CM.rm (q1 (loadA Tryz.prog 2) x13 ) fun x14 =>
 CM.pu (p1 (convA Tryz.prog 2 28) x14) fun x15 =>
 CM.call 155 [x12, x15, x9] fun x16 =>
 CM.pu (p1 (fun a => extractA a 0) x16) fun x17 =>
 CM.pu (p1 (fun a => extractA a 1) x16) fun _ =>
 CM.pu (p1 (fun a => fieldAddrA Tryz.prog 33 a 0) x0) fun x19 =>
 CM.rm (q1 (loadA Tryz.prog 2) x19 ) fun x20 =>
 CM.pu (p2 (binA Tryz.prog .lss 2) x20 (.int .i64 0)) fun x21 =>
 CM.pu (p1 (fun a => fieldAddrA Tryz.prog 33 a 0) x1) fun x22 =>
 CM.rm (q1 (loadA Tryz.prog 2) x22 ) fun x23 =>
 CM.pu (p2 (binA Tryz.prog .lss 2) x23 (.int .i64 0)) fun x24 =>
 CM.pu (p2 (binA Tryz.prog .eql 4) x21 x24) fun x25 =>
 CM.ifv x25 (
 CM.pu (p1 (convA Tryz.prog 28 2) x17) fun x26 =>
 CM.pu (p2 (binA Tryz.prog .lss 2) x26 (.int .i64 0)) fun x27 =>
 CM.pu (p1 (fun a => fieldAddrA Tryz.prog 33 a 0) x0) fun x28 =>
 CM.rm (q1 (loadA Tryz.prog 2) x28 ) fun x29 =>
 CM.pu (p2 (binA Tryz.prog .lss 2) x29 (.int .i64 0)) fun x30 =>
 CM.pu (p2 (binA Tryz.prog .neq 4) x27 x30) fun x31 =>
 CM.cond x31 (
 CM.pu (p1 (buildA Tryz.prog 33) []) fun x32 =>
 CM.st (fun m => stV m x2 x32 2) <|
 CM.resC Tryz.prog [ResultVar.cell 0 33, ResultVar.tmp 1] [x2, (.int .i64 20)]) (
 CM.go 376832 [x2, x8, x17])) (
 CM.go 376832 [x2, x8, x17])
theorem f92_ok (h : H 92 = none) : EqD (Rl H) f92 (fun xs m => run (EH H) (.fn 92) xs m) := sE fun _ => sE fun _ => zE fun _ => run_eq 400 h (by kernel_rfl) (by kernel_rfl)
noncomputable def g93_0 : List AV → CM := ap0 <|
 CM.ret (.int .i64 1)
theorem g93_0_ok : EqD (Rl H) g93_0 (fun xs m => goR (EH H) Mk 380928 xs m) := zE fun _ => goR_eq 400 (by kernel_rfl)
noncomputable def f93 : List AV → CM := apS fun a0 => apS fun a1 => ap0 <|
 CM.al (boxA a0) fun x0 =>
 CM.al (boxA a1) fun x1 =>
 CM.pu (p1 (fun a => fieldAddrA Tryz.prog 33 a 0) x0) fun x2 =>
 CM.rm (q1 (loadA Tryz.prog 2) x2 ) fun x3 =>
 CM.pu (p1 (fun a => fieldAddrA Tryz.prog 33 a 0) x1) fun x4 =>
 CM.rm (q1 (loadA Tryz.prog 2) x4 ) fun x5 =>
 CM.pu (p2 (binA Tryz.prog .lss 2) x3 x5) fun x6 =>
 CM.ifv x6 (
 CM.ret (.int .i64 (-1))) (
 CM.pu (p1 (fun a => fieldAddrA Tryz.prog 33 a 0) x0) fun x7 =>
 CM.rm (q1 (loadA Tryz.prog 2) x7 ) fun x8 =>
 CM.pu (p1 (fun a => fieldAddrA Tryz.prog 33 a 0) x1) fun x9 =>
 CM.rm (q1 (loadA Tryz.prog 2) x9 ) fun x10 =>
 CM.pu (p2 (binA Tryz.prog .eql 2) x8 x10) fun x11 =>
 CM.ifv x11 (
 CM.pu (p1 (fun a => fieldAddrA Tryz.prog 33 a 1) x0) fun x12 =>
 CM.rm (q1 (loadA Tryz.prog 28) x12 ) fun x13 =>
 CM.pu (p1 (fun a => fieldAddrA Tryz.prog 33 a 1) x1) fun x14 =>
 CM.rm (q1 (loadA Tryz.prog 28) x14 ) fun x15 =>
 CM.pu (p2 (binA Tryz.prog .lss 28) x13 x15) fun x16 =>
 CM.cond x16 (
 CM.ret (.int .i64 (-1))) (
 CM.rm (q1 (loadA Tryz.prog 33) x0 ) fun x17 =>
 CM.rm (q1 (loadA Tryz.prog 33) x1 ) fun x18 =>
 CM.pu (p2 (binA Tryz.prog .eql 33) x17 x18) fun x19 =>
 CM.cond x19 (
 CM.ret (.int .i64 0)) (
 CM.go 380928 []))) (
 CM.rm (q1 (loadA Tryz.prog 33) x0 ) fun x20 =>
 CM.rm (q1 (loadA Tryz.prog 33) x1 ) fun x21 =>
 CM.pu (p2 (binA Tryz.prog .eql 33) x20 x21) fun x22 =>
 CM.cond x22 (
 CM.ret (.int .i64 0)) (
 CM.go 380928 [])))
theorem f93_ok (h : H 93 = none) : EqD (Rl H) f93 (fun xs m => run (EH H) (.fn 93) xs m) := sE fun _ => sE fun _ => zE fun _ => run_eq 400 h (by kernel_rfl) (by kernel_rfl)
noncomputable def f94 : List AV → CM := apS fun a0 => ap0 <|
 CM.al (boxA a0) fun x0 =>
 CM.pu (p1 (fun a => fieldAddrA Tryz.prog 35 a 1) x0) fun x1 =>
 CM.rm (q1 (loadA Tryz.prog 3) x1 ) fun x2 =>
 CM.call 156 [x2] fun x3 =>
 CM.ret x3
theorem f94_ok (h : H 94 = none) : EqD (Rl H) f94 (fun xs m => run (EH H) (.fn 94) xs m) := sE fun _ => zE fun _ => run_eq 400 h (by kernel_rfl) (by kernel_rfl)
noncomputable def f95 : List AV → CM := apS fun a0 => ap0 <|
 CM.al (boxA a0) fun x0 =>
 CM.rm (q1 (loadA Tryz.prog 35) x0 ) fun x1 =>
 CM.pu (p1 (buildA Tryz.prog 35) []) fun x2 =>
 CM.call 157 [x1, x2] fun x3 =>
 CM.pu (p1 (fun a => extractA a 0) x3) fun x4 =>
 CM.pu (p1 (fun a => extractA a 1) x3) fun x5 =>
 CM.pu (p2 (binA Tryz.prog .eql 23) x5 (.int .i64 0)) fun x6 =>
 CM.ifv x6 (
 CM.pu (p2 (binA Tryz.prog .gtr 3) x4 (.int .i64 0)) fun x7 =>
 CM.ret x7) (
 CM.ret (.bool false))
theorem f95_ok (h : H 95 = none) : EqD (Rl H) f95 (fun xs m => run (EH H) (.fn 95) xs m) := sE fun _ => zE fun _ => run_eq 400 h (by kernel_rfl) (by kernel_rfl)
noncomputable def g97_0 : List AV → CM := apS fun t2 => apS fun t3 => apS fun t4 => apS fun t6 => ap0 <|
 CM.pu (p1 (fun a => fieldAddrA Tryz.prog 35 a 1) t3) fun x0 =>
 CM.rm (q1 (loadA Tryz.prog 3) x0 ) fun x1 =>
 CM.pu (p1 (fun a => fieldAddrA Tryz.prog 35 a 1) t4) fun x2 =>
 CM.rm (q1 (loadA Tryz.prog 3) x2 ) fun x3 =>
 CM.pu (p2 (binA Tryz.prog .add 3) x1 x3) fun x4 =>
 CM.pu (p2 (binA Tryz.prog .sub 3) x4 t2) fun x5 =>
 CM.al (some (.cells [(.int .i64 0), (.int .u64 0)] false, pB)) fun x6 =>
 CM.pu (p2 (binA Tryz.prog .geq 3) x5 (.int .i64 0)) fun x7 =>
 CM.cond x7 (
 CM.pu (p1 (fun a => fieldAddrA Tryz.prog 35 a 0) t3) fun x8 =>
 CM.rm (q1 (loadA Tryz.prog 33) x8 ) fun x9 =>
 CM.pu (p1 (fun a => fieldAddrA Tryz.prog 35 a 0) t4) fun x10 =>
 CM.rm (q1 (loadA Tryz.prog 33) x10 ) fun x11 =>
 CM.call 160 [x9, x11, x5] fun x12 =>
 CM.pu (p1 (fun a => extractA a 0) x12) fun x13 =>
 CM.pu (p1 (fun a => extractA a 1) x12) fun x14 =>
 CM.st (fun m => stV m x6 x13 2) <|
 CM.go 397313 [t2, t6, x6, x14]) (
 CM.pu (p1 (fun a => fieldAddrA Tryz.prog 35 a 0) t3) fun x16 =>
 CM.rm (q1 (loadA Tryz.prog 33) x16 ) fun x17 =>
 CM.pu (p1 (fun a => fieldAddrA Tryz.prog 35 a 0) t4) fun x18 =>
 CM.rm (q1 (loadA Tryz.prog 33) x18 ) fun x19 =>
 CM.call 161 [x17, x19] fun x20 =>
 CM.pu (p1 (fun a => extractA a 0) x20) fun x21 =>
 CM.pu (p1 (fun a => extractA a 1) x20) fun x22 =>
 CM.st (fun m => stV m x6 x21 2) <|
 CM.pu (p2 (binA Tryz.prog .eql 23) x22 (.int .i64 0)) fun x24 =>
 CM.cond x24 (
 CM.rm (q1 (loadA Tryz.prog 33) x6 ) fun x25 =>
 CM.pu (p1 (unA .neg) x5) fun x26 =>
 CM.call 162 [x25, x26] fun x27 =>
 CM.pu (p1 (fun a => extractA a 0) x27) fun x28 =>
 CM.pu (p1 (fun a => extractA a 1) x27) fun x29 =>
 CM.st (fun m => stV m x6 x28 2) <|
 CM.go 397313 [t2, t6, x6, x29]) (
 CM.go 397313 [t2, t6, x6, x22]))
theorem g97_0_ok : EqD (Rl H) g97_0 (fun xs m => goR (EH H) Mk 397312 xs m) := sE fun _ => sE fun _ => sE fun _ => sE fun _ => zE fun _ => goR_eq 400 (by kernel_rfl)
noncomputable def g97_1 : List AV → CM := apS fun t2 => apS fun t6 => apS fun t9 => apS fun t10 => ap0 <|
 CM.pu (p2 (binA Tryz.prog .neq 23) t10 (.int .i64 0)) fun x0 =>
 CM.cond x0 (
 CM.pu (p1 (buildA Tryz.prog 35) []) fun x1 =>
 CM.st (fun m => stV m t6 x1 3) <|
 CM.resC Tryz.prog [ResultVar.cell 0 35, ResultVar.tmp 1] [t6, t10]) (
 CM.go 397314 [t2, t6, t9])
theorem g97_1_ok : EqD (Rl H) g97_1 (fun xs m => goR (EH H) Mk 397313 xs m) := sE fun _ => sE fun _ => sE fun _ => sE fun _ => zE fun _ => goR_eq 400 (by kernel_rfl)
noncomputable def g97_2 : List AV → CM := apS fun t2 => apS fun t6 => apS fun t9 => ap0 <|
 CM.rm (q1 (loadA Tryz.prog 33) t9 ) fun x0 =>
 CM.pu (p1 (buildA Tryz.prog 35) [(0, x0), (1, t2)]) fun x1 =>
 CM.st (fun m => stV m t6 x1 3) <|
 CM.resC Tryz.prog [ResultVar.cell 0 35, ResultVar.tmp 1] [t6, (.int .i64 0)]
theorem g97_2_ok : EqD (Rl H) g97_2 (fun xs m => goR (EH H) Mk 397314 xs m) := sE fun _ => sE fun _ => sE fun _ => zE fun _ => goR_eq 400 (by kernel_rfl)
noncomputable def f97 : List AV → CM := apS fun a0 => apS fun a1 => apS fun a2 => ap0 <|
 CM.al (boxA a0) fun x0 =>
 CM.al (boxA a1) fun x1 =>
 CM.al (some (.cells [(.int .i64 0), (.int .u64 0), (.int .i64 0)] false, pB)) fun x2 =>
 CM.rm (q1 (loadA Tryz.prog 35) x0 ) fun x3 =>
 CM.call 94 [x3] fun x4 =>
 CM.pu (p1 (unA .not) x4) fun x5 =>
 CM.ifv x5 (
 CM.pu (p1 (buildA Tryz.prog 35) []) fun x6 =>
 CM.st (fun m => stV m x2 x6 3) <|
 CM.resC Tryz.prog [ResultVar.cell 0 35, ResultVar.tmp 1] [x2, (.int .i64 21)]) (
 CM.rm (q1 (loadA Tryz.prog 35) x1 ) fun x8 =>
 CM.call 94 [x8] fun x9 =>
 CM.pu (p1 (unA .not) x9) fun x10 =>
 CM.ifv x10 (
 CM.pu (p1 (buildA Tryz.prog 35) []) fun x11 =>
 CM.st (fun m => stV m x2 x11 3) <|
 CM.resC Tryz.prog [ResultVar.cell 0 35, ResultVar.tmp 1] [x2, (.int .i64 21)]) (
 CM.call 156 [a2] fun x13 =>
 CM.pu (p1 (unA .not) x13) fun x14 =>
 CM.cond x14 (
 CM.pu (p1 (buildA Tryz.prog 35) []) fun x15 =>
 CM.st (fun m => stV m x2 x15 3) <|
 CM.resC Tryz.prog [ResultVar.cell 0 35, ResultVar.tmp 1] [x2, (.int .i64 21)]) (
 CM.go 397312 [a2, x0, x1, x2])))
theorem f97_ok (h : H 97 = none) : EqD (Rl H) f97 (fun xs m => run (EH H) (.fn 97) xs m) := sE fun _ => sE fun _ => sE fun _ => zE fun _ => run_eq 400 h (by kernel_rfl) (by kernel_rfl)
noncomputable def g98_0 : List AV → CM := apS fun t1 => apS fun t8 => apS fun t9 => apS fun t10 => ap0 <|
 CM.pu (p2 (binA Tryz.prog .lss 3) t10 t9) fun x0 =>
 CM.cond x0 (
 CM.go 401409 [t1, t8, t9, t10]) (
 CM.go 401411 [])
theorem g98_0_ok : EqD (Rl H) g98_0 (fun xs m => goR (EH H) Mk 401408 xs m) := sE fun _ => sE fun _ => sE fun _ => sE fun _ => zE fun _ => goR_eq 400 (by kernel_rfl)
noncomputable def g98_1 : List AV → CM := apS fun t1 => apS fun t8 => apS fun t9 => apS fun t10 => ap0 <|
 CM.pu (p2 (indexAddrA Tryz.prog 44) t8 t10) fun x0 =>
 CM.rm (q1 (loadA Tryz.prog 92) x0 ) fun x1 =>
 CM.al (some (.cells [(.str []), (.int .i64 0), (.int .i64 0), (.int .u64 0)] false, pB)) fun x2 =>
 CM.st (fun m => stV m x2 x1 4) <|
 CM.pu (p1 (fun a => fieldAddrA Tryz.prog 92 a 0) x2) fun x4 =>
 CM.rm (q1 (loadA Tryz.prog 9) x4 ) fun x5 =>
 CM.pu (p2 (binA Tryz.prog .eql 9) x5 t1) fun x6 =>
 CM.cond x6 (
 CM.ret (.bool true)) (
 CM.go 401410 [t1, t8, t9, t10])
theorem g98_1_ok : EqD (Rl H) g98_1 (fun xs m => goR (EH H) Mk 401409 xs m) := sE fun _ => sE fun _ => sE fun _ => sE fun _ => zE fun _ => goR_eq 400 (by kernel_rfl)
noncomputable def g98_2 : List AV → CM := apS fun t1 => apS fun t8 => apS fun t9 => apS fun t10 => ap0 <|
 CM.pu (p2 (binA Tryz.prog .add 3) t10 (.int .i64 1)) fun x0 =>
 CM.go 401408 [t1, t8, t9, x0]
theorem g98_2_ok : EqD (Rl H) g98_2 (fun xs m => goR (EH H) Mk 401410 xs m) := sE fun _ => sE fun _ => sE fun _ => sE fun _ => zE fun _ => goR_eq 400 (by kernel_rfl)
noncomputable def g98_3 : List AV → CM := ap0 <|
 CM.ret (.bool false)
theorem g98_3_ok : EqD (Rl H) g98_3 (fun xs m => goR (EH H) Mk 401411 xs m) := zE fun _ => goR_eq 400 (by kernel_rfl)
noncomputable def f98 : List AV → CM := apS fun a0 => apS fun a1 => ap0 <|
 CM.al (boxA a0) fun x0 =>
 CM.pu (p1 (fun a => fieldAddrA Tryz.prog 48 a 0) x0) fun x1 =>
 CM.rm (q1 (loadA Tryz.prog 44) x1 ) fun x2 =>
 CM.pu (p1 (lenT Tryz.prog 44) x2) fun x3 =>
 CM.go 401408 [a1, x2, x3, (.int .i64 0)]
theorem f98_ok (h : H 98 = none) : EqD (Rl H) f98 (fun xs m => run (EH H) (.fn 98) xs m) := sE fun _ => sE fun _ => zE fun _ => run_eq 400 h (by kernel_rfl) (by kernel_rfl)
noncomputable def g99_0 : List AV → CM := apS fun t0 => apS fun t3 => ap0 <|
 CM.pu (p1 nnA t0) fun x0 =>
 CM.pu (p1 (fun a => fieldAddrA Tryz.prog 193 a 0) x0) fun x1 =>
 CM.rm (q1 (loadA Tryz.prog 33) x1 ) fun x2 =>
 CM.pu (p1 (fun a => fieldAddrA Tryz.prog 33 a 0) t3) fun x3 =>
 CM.rm (q1 (loadA Tryz.prog 2) x3 ) fun x4 =>
 CM.call 49 [x4] fun x6 =>
 CM.memo fun m7 =>
 CM.chk (q1 (loadA Tryz.prog 33) x1 m7) x2 <|
 CM.call 92 [x2, x6] fun x9 =>
 CM.pu (p1 (fun a => extractA a 0) x9) fun x11 =>
 CM.pu (p1 (fun a => extractA a 1) x9) fun _ =>
 CM.pu (p1 nnA t0) fun x13 =>
 CM.pu (p1 (fun a => fieldAddrA Tryz.prog 193 a 0) x13) fun x14 =>
 CM.st (fun m => stV m x14 x11 2) <|
 CM.ret .undef
theorem g99_0_ok : EqD (Rl H) g99_0 (fun xs m => goR (EH H) Mk 405504 xs m) := sE fun _ => sE fun _ => zE fun _ => goR_eq 400 (by kernel_rfl)
noncomputable def f99 : List AV → CM := apS fun a0 => apS fun a1 => ap0 <|
 CM.al (boxA a1) fun x0 =>
 CM.pu (p1 nnA a0) fun x1 =>
 CM.pu (p1 (fun a => fieldAddrA Tryz.prog 193 a 1) x1) fun x2 =>
 CM.rm (q1 (loadA Tryz.prog 28) x2 ) fun x3 =>
 CM.pu (p1 (fun a => fieldAddrA Tryz.prog 33 a 1) x0) fun x4 =>
 CM.rm (q1 (loadA Tryz.prog 28) x4 ) fun x5 =>
 CM.pu (p2 (binA Tryz.prog .add 28) x3 x5) fun x6 =>
 CM.pu (p1 nnA a0) fun x7 =>
 CM.pu (p1 (fun a => fieldAddrA Tryz.prog 193 a 1) x7) fun x8 =>
 CM.st (fun m => stV m x8 x6 1) <|
 CM.pu (p1 nnA a0) fun x12 =>
 CM.pu (p1 (fun a => fieldAddrA Tryz.prog 193 a 1) x12) fun x13 =>
 CM.rm (q1 (loadA Tryz.prog 28) x13 ) fun x14 =>
 CM.pu (p1 (fun a => fieldAddrA Tryz.prog 33 a 1) x0) fun x15 =>
 CM.rm (q1 (loadA Tryz.prog 28) x15 ) fun x16 =>
 CM.pu (p2 (binA Tryz.prog .lss 28) x14 x16) fun x17 =>
 CM.cond x17 (
 CM.pu (p1 nnA a0) fun x18 =>
 CM.pu (p1 (fun a => fieldAddrA Tryz.prog 193 a 0) x18) fun x19 =>
 CM.rm (q1 (loadA Tryz.prog 33) x19 ) fun x20 =>
 CM.call 49 [(.int .i64 1)] fun x22 =>
 CM.memo fun m23 =>
 CM.chk (q1 (loadA Tryz.prog 33) x19 m23) x20 <|
 CM.call 92 [x20, x22] fun x25 =>
 CM.pu (p1 (fun a => extractA a 0) x25) fun x27 =>
 CM.pu (p1 (fun a => extractA a 1) x25) fun _ =>
 CM.pu (p1 nnA a0) fun x29 =>
 CM.pu (p1 (fun a => fieldAddrA Tryz.prog 193 a 0) x29) fun x30 =>
 CM.st (fun m => stV m x30 x27 2) <|
 CM.go 405504 [a0, x0]) (
 CM.go 405504 [a0, x0])
theorem f99_ok (h : H 99 = none) : EqD (Rl H) f99 (fun xs m => run (EH H) (.fn 99) xs m) := sE fun _ => sE fun _ => zE fun _ => run_eq 400 h (by kernel_rfl) (by kernel_rfl)
noncomputable def f100 : List AV → CM := apS fun a0 => ap0 <|
 CM.pu (p1 nnA a0) fun x0 =>
 CM.pu (p1 (fun a => fieldAddrA Tryz.prog 193 a 1) x0) fun x1 =>
 CM.rm (q1 (loadA Tryz.prog 28) x1 ) fun x2 =>
 CM.pu (p2 (binA Tryz.prog .eql 28) x2 (.int .u64 0)) fun x3 =>
 CM.ifv x3 (
 CM.pu (p1 nnA a0) fun x4 =>
 CM.pu (p1 (fun a => fieldAddrA Tryz.prog 193 a 0) x4) fun x5 =>
 CM.rm (q1 (loadA Tryz.prog 33) x5 ) fun x6 =>
 CM.call 90 [x6] fun x7 =>
 CM.pu (p2 (binA Tryz.prog .eql 3) x7 (.int .i64 0)) fun x8 =>
 CM.ret x8) (
 CM.ret (.bool false))
theorem f100_ok (h : H 100 = none) : EqD (Rl H) f100 (fun xs m => run (EH H) (.fn 100) xs m) := sE fun _ => zE fun _ => run_eq 400 h (by kernel_rfl) (by kernel_rfl)
noncomputable def f101 : List AV → CM := apS fun a0 => apS fun a1 => ap0 <|
 CM.rm (q1 (loadA Tryz.prog 84) a1 ) fun x0 =>
 CM.memo fun m1 =>
 CM.call 103 [x0] fun x2 =>
 CM.rm (q1 (loadA Tryz.prog 84) a1 ) fun x4 =>
 CM.chk (q1 (loadA Tryz.prog 84) a1 m1) x4 <|
 CM.call 104 [x4] fun x6 =>
 CM.call 102 [x2, x6, a0] fun _ =>
 CM.ret .undef
theorem f101_ok (h : H 101 = none) : EqD (Rl H) f101 (fun xs m => run (EH H) (.fn 101) xs m) := sE fun _ => sE fun _ => zE fun _ => run_eq 400 h (by kernel_rfl) (by kernel_rfl)
noncomputable def g102_0 : List AV → CM := apS fun t1 => apS fun t2 => apS fun t8 => apS fun t9 => apS fun t10 => ap0 <|
 CM.pu (p2 (binA Tryz.prog .lss 3) t10 t9) fun x0 =>
 CM.cond x0 (
 CM.go 417793 [t1, t2, t8, t9, t10]) (
 CM.ret .undef)
theorem g102_0_ok : EqD (Rl H) g102_0 (fun xs m => goR (EH H) Mk 417792 xs m) := sE fun _ => sE fun _ => sE fun _ => sE fun _ => sE fun _ => zE fun _ => goR_eq 400 (by kernel_rfl)
noncomputable def g102_1 : List AV → CM := apS fun t1 => apS fun t2 => apS fun t8 => apS fun t9 => apS fun t10 => ap0 <|
 CM.pu (p2 (indexAddrA Tryz.prog 169) t8 t10) fun x0 =>
 CM.rm (q1 (loadA Tryz.prog 9) x0 ) fun x1 =>
 CM.pu (p2 (indexAddrA Tryz.prog 44) t1 t10) fun x2 =>
 CM.rm (q1 (loadA Tryz.prog 92) x2 ) fun x3 =>
 CM.callv t2 [x1, x3] fun x4 =>
 CM.pu (p1 (unA .not) x4) fun x5 =>
 CM.cond x5 (
 CM.ret .undef) (
 CM.go 417794 [t1, t2, t8, t9, t10])
theorem g102_1_ok : EqD (Rl H) g102_1 (fun xs m => goR (EH H) Mk 417793 xs m) := sE fun _ => sE fun _ => sE fun _ => sE fun _ => sE fun _ => zE fun _ => goR_eq 400 (by kernel_rfl)
noncomputable def g102_2 : List AV → CM := apS fun t1 => apS fun t2 => apS fun t8 => apS fun t9 => apS fun t10 => ap0 <|
 CM.pu (p2 (binA Tryz.prog .add 3) t10 (.int .i64 1)) fun x0 =>
 CM.go 417792 [t1, t2, t8, t9, x0]
theorem g102_2_ok : EqD (Rl H) g102_2 (fun xs m => goR (EH H) Mk 417794 xs m) := sE fun _ => sE fun _ => sE fun _ => sE fun _ => sE fun _ => zE fun _ => goR_eq 400 (by kernel_rfl)
noncomputable def f102 : List AV → CM := apS fun a0 => apS fun a1 => apS fun a2 => ap0 <|
 CM.pu (p1 (lenT Tryz.prog 169) a0) fun x0 =>
 CM.go 417792 [a1, a2, a0, x0, (.int .i64 0)]
theorem f102_ok (h : H 102 = none) : EqD (Rl H) f102 (fun xs m => run (EH H) (.fn 102) xs m) := sE fun _ => sE fun _ => sE fun _ => zE fun _ => run_eq 400 h (by kernel_rfl) (by kernel_rfl)
noncomputable def f103 : List AV → CM := apS fun a0 => ap0 <|
 CM.al (some (.cells [] false, sB 1 0)) fun x0 =>
 CM.pu (p1 nnA a0) fun x1 =>
 CM.pu (p1 (fun a => fieldAddrA Tryz.prog 171 a 0) x1) fun x2 =>
 CM.rm (q1 (loadA Tryz.prog 169) x2 ) fun x3 =>
 CM.ef (apE 1 16 x0 x3) fun x4 =>
 CM.ret x4
theorem f103_ok (h : H 103 = none) : EqD (Rl H) f103 (fun xs m => run (EH H) (.fn 103) xs m) := sE fun _ => zE fun _ => run_eq 400 h (by kernel_rfl) (by kernel_rfl)
noncomputable def f104 : List AV → CM := apS fun a0 => ap0 <|
 CM.al (some (.cells [] false, sB 4 0)) fun x0 =>
 CM.pu (p1 nnA a0) fun x1 =>
 CM.pu (p1 (fun a => fieldAddrA Tryz.prog 171 a 1) x1) fun x2 =>
 CM.rm (q1 (loadA Tryz.prog 44) x2 ) fun x3 =>
 CM.ef (apE 4 40 x0 x3) fun x4 =>
 CM.ret x4
theorem f104_ok (h : H 104 = none) : EqD (Rl H) f104 (fun xs m => run (EH H) (.fn 104) xs m) := sE fun _ => zE fun _ => run_eq 400 h (by kernel_rfl) (by kernel_rfl)
noncomputable def f105 : List AV → CM := apS fun a0 => apS fun a1 => ap0 <|
 CM.rm (q1 (loadA Tryz.prog 85) a1 ) fun x0 =>
 CM.memo fun m1 =>
 CM.call 107 [x0] fun x2 =>
 CM.rm (q1 (loadA Tryz.prog 85) a1 ) fun x4 =>
 CM.chk (q1 (loadA Tryz.prog 85) a1 m1) x4 <|
 CM.call 108 [x4] fun x6 =>
 CM.call 106 [x2, x6, a0] fun _ =>
 CM.ret .undef
theorem f105_ok (h : H 105 = none) : EqD (Rl H) f105 (fun xs m => run (EH H) (.fn 105) xs m) := sE fun _ => sE fun _ => zE fun _ => run_eq 400 h (by kernel_rfl) (by kernel_rfl)
noncomputable def g106_0 : List AV → CM := apS fun t1 => apS fun t2 => apS fun t8 => apS fun t9 => apS fun t10 => ap0 <|
 CM.pu (p2 (binA Tryz.prog .lss 3) t10 t9) fun x0 =>
 CM.cond x0 (
 CM.go 434177 [t1, t2, t8, t9, t10]) (
 CM.ret .undef)
theorem g106_0_ok : EqD (Rl H) g106_0 (fun xs m => goR (EH H) Mk 434176 xs m) := sE fun _ => sE fun _ => sE fun _ => sE fun _ => sE fun _ => zE fun _ => goR_eq 400 (by kernel_rfl)
noncomputable def g106_1 : List AV → CM := apS fun t1 => apS fun t2 => apS fun t8 => apS fun t9 => apS fun t10 => ap0 <|
 CM.pu (p2 (indexAddrA Tryz.prog 169) t8 t10) fun x0 =>
 CM.rm (q1 (loadA Tryz.prog 9) x0 ) fun x1 =>
 CM.pu (p2 (indexAddrA Tryz.prog 45) t1 t10) fun x2 =>
 CM.rm (q1 (loadA Tryz.prog 96) x2 ) fun x3 =>
 CM.callv t2 [x1, x3] fun x4 =>
 CM.pu (p1 (unA .not) x4) fun x5 =>
 CM.cond x5 (
 CM.ret .undef) (
 CM.go 434178 [t1, t2, t8, t9, t10])
theorem g106_1_ok : EqD (Rl H) g106_1 (fun xs m => goR (EH H) Mk 434177 xs m) := sE fun _ => sE fun _ => sE fun _ => sE fun _ => sE fun _ => zE fun _ => goR_eq 400 (by kernel_rfl)
noncomputable def g106_2 : List AV → CM := apS fun t1 => apS fun t2 => apS fun t8 => apS fun t9 => apS fun t10 => ap0 <|
 CM.pu (p2 (binA Tryz.prog .add 3) t10 (.int .i64 1)) fun x0 =>
 CM.go 434176 [t1, t2, t8, t9, x0]
theorem g106_2_ok : EqD (Rl H) g106_2 (fun xs m => goR (EH H) Mk 434178 xs m) := sE fun _ => sE fun _ => sE fun _ => sE fun _ => sE fun _ => zE fun _ => goR_eq 400 (by kernel_rfl)
noncomputable def f106 : List AV → CM := apS fun a0 => apS fun a1 => apS fun a2 => ap0 <|
 CM.pu (p1 (lenT Tryz.prog 169) a0) fun x0 =>
 CM.go 434176 [a1, a2, a0, x0, (.int .i64 0)]
theorem f106_ok (h : H 106 = none) : EqD (Rl H) f106 (fun xs m => run (EH H) (.fn 106) xs m) := sE fun _ => sE fun _ => sE fun _ => zE fun _ => run_eq 400 h (by kernel_rfl) (by kernel_rfl)
noncomputable def f107 : List AV → CM := apS fun a0 => ap0 <|
 CM.al (some (.cells [] false, sB 1 0)) fun x0 =>
 CM.pu (p1 nnA a0) fun x1 =>
 CM.pu (p1 (fun a => fieldAddrA Tryz.prog 173 a 0) x1) fun x2 =>
 CM.rm (q1 (loadA Tryz.prog 169) x2 ) fun x3 =>
 CM.ef (apE 1 16 x0 x3) fun x4 =>
 CM.ret x4
theorem f107_ok (h : H 107 = none) : EqD (Rl H) f107 (fun xs m => run (EH H) (.fn 107) xs m) := sE fun _ => zE fun _ => run_eq 400 h (by kernel_rfl) (by kernel_rfl)
noncomputable def f108 : List AV → CM := apS fun a0 => ap0 <|
 CM.al (some (.cells [] false, sB 9 0)) fun x0 =>
 CM.pu (p1 nnA a0) fun x1 =>
 CM.pu (p1 (fun a => fieldAddrA Tryz.prog 173 a 1) x1) fun x2 =>
 CM.rm (q1 (loadA Tryz.prog 45) x2 ) fun x3 =>
 CM.ef (apE 9 88 x0 x3) fun x4 =>
 CM.ret x4
theorem f108_ok (h : H 108 = none) : EqD (Rl H) f108 (fun xs m => run (EH H) (.fn 108) xs m) := sE fun _ => zE fun _ => run_eq 400 h (by kernel_rfl) (by kernel_rfl)
noncomputable def f109 : List AV → CM := apS fun a0 => apS fun a1 => ap0 <|
 CM.rm (q1 (loadA Tryz.prog 86) a1 ) fun x0 =>
 CM.memo fun m1 =>
 CM.call 111 [x0] fun x2 =>
 CM.rm (q1 (loadA Tryz.prog 86) a1 ) fun x4 =>
 CM.chk (q1 (loadA Tryz.prog 86) a1 m1) x4 <|
 CM.call 112 [x4] fun x6 =>
 CM.call 110 [x2, x6, a0] fun _ =>
 CM.ret .undef
theorem f109_ok (h : H 109 = none) : EqD (Rl H) f109 (fun xs m => run (EH H) (.fn 109) xs m) := sE fun _ => sE fun _ => zE fun _ => run_eq 400 h (by kernel_rfl) (by kernel_rfl)
noncomputable def g110_0 : List AV → CM := apS fun t1 => apS fun t2 => apS fun t8 => apS fun t9 => apS fun t10 => ap0 <|
 CM.pu (p2 (binA Tryz.prog .lss 3) t10 t9) fun x0 =>
 CM.cond x0 (
 CM.go 450561 [t1, t2, t8, t9, t10]) (
 CM.ret .undef)
theorem g110_0_ok : EqD (Rl H) g110_0 (fun xs m => goR (EH H) Mk 450560 xs m) := sE fun _ => sE fun _ => sE fun _ => sE fun _ => sE fun _ => zE fun _ => goR_eq 400 (by kernel_rfl)
noncomputable def g110_1 : List AV → CM := apS fun t1 => apS fun t2 => apS fun t8 => apS fun t9 => apS fun t10 => ap0 <|
 CM.pu (p2 (indexAddrA Tryz.prog 139) t8 t10) fun x0 =>
 CM.rm (q1 (loadA Tryz.prog 28) x0 ) fun x1 =>
 CM.pu (p2 (indexAddrA Tryz.prog 46) t1 t10) fun x2 =>
 CM.rm (q1 (loadA Tryz.prog 100) x2 ) fun x3 =>
 CM.callv t2 [x1, x3] fun x4 =>
 CM.pu (p1 (unA .not) x4) fun x5 =>
 CM.cond x5 (
 CM.ret .undef) (
 CM.go 450562 [t1, t2, t8, t9, t10])
theorem g110_1_ok : EqD (Rl H) g110_1 (fun xs m => goR (EH H) Mk 450561 xs m) := sE fun _ => sE fun _ => sE fun _ => sE fun _ => sE fun _ => zE fun _ => goR_eq 400 (by kernel_rfl)
noncomputable def g110_2 : List AV → CM := apS fun t1 => apS fun t2 => apS fun t8 => apS fun t9 => apS fun t10 => ap0 <|
 CM.pu (p2 (binA Tryz.prog .add 3) t10 (.int .i64 1)) fun x0 =>
 CM.go 450560 [t1, t2, t8, t9, x0]
theorem g110_2_ok : EqD (Rl H) g110_2 (fun xs m => goR (EH H) Mk 450562 xs m) := sE fun _ => sE fun _ => sE fun _ => sE fun _ => sE fun _ => zE fun _ => goR_eq 400 (by kernel_rfl)
noncomputable def f110 : List AV → CM := apS fun a0 => apS fun a1 => apS fun a2 => ap0 <|
 CM.pu (p1 (lenT Tryz.prog 139) a0) fun x0 =>
 CM.go 450560 [a1, a2, a0, x0, (.int .i64 0)]
theorem f110_ok (h : H 110 = none) : EqD (Rl H) f110 (fun xs m => run (EH H) (.fn 110) xs m) := sE fun _ => sE fun _ => sE fun _ => zE fun _ => run_eq 400 h (by kernel_rfl) (by kernel_rfl)
end Go.Proofs.YtpoafkipnjfioaaGreat.T
