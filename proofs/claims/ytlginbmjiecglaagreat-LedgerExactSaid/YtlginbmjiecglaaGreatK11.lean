/- Texts of one claim, put together. -/
import Derived.Test.YtlginbmjiecglaaGreatK10
section
namespace Go.Proofs.YtlginbmjiecglaaGreat.T
open Go Go.Abs Go.Proofs.YtlginbmjiecglaaGreat
set_option maxRecDepth 10000
variable {H : FuncId → Option (List AV → Mem → R)}
noncomputable def f65 : List AV → CM := apS fun a0 => ap0 <|
 CM.al (boxA a0) fun x0 =>
 CM.rm (q1 (loadA Tryz.prog 93) x0 ) fun x1 =>
 CM.pu (p1 (buildA Tryz.prog 93) []) fun x2 =>
 CM.pu (p2 (binA Tryz.prog .eql 93) x1 x2) fun x3 =>
 CM.ret x3
theorem f65_ok (h : H 65 = none) : EqD (Rl H) f65 (fun xs m => run (EH H) (.fn 65) xs m) := sE fun _ => zE fun _ => run_eq 400 h (by kernel_rfl) (by kernel_rfl)
noncomputable def g66_0 : List AV → CM := apS fun t2 => apS fun t3 => apS fun t4 => apS fun t5 => apS fun t6 => ap0 <|
 CM.pu (p2 (binA Tryz.prog .lss 3) t6 (.int .i64 8)) fun x0 =>
 CM.cond x0 (
 CM.go 270337 [t2, t3, t4, t5, t6]) (
 CM.go 270342 [t4, t5])
theorem g66_0_ok : EqD (Rl H) g66_0 (fun xs m => goR (EH H) Mk 270336 xs m) := sE fun _ => sE fun _ => sE fun _ => sE fun _ => sE fun _ => zE fun _ => goR_eq 400 (by kernel_rfl)
noncomputable def g66_1 : List AV → CM := apS fun t2 => apS fun t3 => apS fun t4 => apS fun t5 => apS fun t6 => ap0 <|
 CM.go 270338 [t2, t3, t4, t5, t6, (.int .u64 0), (.int .i64 0)]
theorem g66_1_ok : EqD (Rl H) g66_1 (fun xs m => goR (EH H) Mk 270337 xs m) := sE fun _ => sE fun _ => sE fun _ => sE fun _ => sE fun _ => zE fun _ => goR_eq 400 (by kernel_rfl)
noncomputable def g66_2 : List AV → CM := apS fun t2 => apS fun t3 => apS fun t4 => apS fun t5 => apS fun t6 => apS fun t7 => apS fun t8 => ap0 <|
 CM.pu (p2 (binA Tryz.prog .lss 3) t8 (.int .i64 8)) fun x0 =>
 CM.cond x0 (
 CM.go 270339 [t2, t3, t4, t5, t6, t7, t8]) (
 CM.go 270341 [t2, t3, t4, t5, t6])
theorem g66_2_ok : EqD (Rl H) g66_2 (fun xs m => goR (EH H) Mk 270338 xs m) := sE fun _ => sE fun _ => sE fun _ => sE fun _ => sE fun _ => sE fun _ => sE fun _ => zE fun _ => goR_eq 400 (by kernel_rfl)
noncomputable def g66_3 : List AV → CM := apS fun t2 => apS fun t3 => apS fun t4 => apS fun t5 => apS fun t6 => apS fun t7 => apS fun t8 => ap0 <|
 CM.pu (p2 (binA Tryz.prog .add 3) t6 t8) fun x0 =>
 CM.pu (p2 (indexAddrA Tryz.prog 93) t5 x0) fun x1 =>
 CM.rm (q1 (loadA Tryz.prog 30) x1 ) fun x2 =>
 CM.pu (p2 (indexAddrA Tryz.prog 93) t2 t6) fun x3 =>
 CM.rm (q1 (loadA Tryz.prog 30) x3 ) fun x4 =>
 CM.pu (p2 (indexAddrA Tryz.prog 93) t3 t8) fun x5 =>
 CM.rm (q1 (loadA Tryz.prog 30) x5 ) fun x6 =>
 CM.pu (p2 (binA Tryz.prog .mul 30) x4 x6) fun x7 =>
 CM.pu (p2 (binA Tryz.prog .add 30) x2 x7) fun x8 =>
 CM.pu (p2 (binA Tryz.prog .add 30) x8 t7) fun x9 =>
 CM.pu (p2 (binA Tryz.prog .add 3) t6 t8) fun x10 =>
 CM.pu (p2 (binA Tryz.prog .rem 30) x9 (.int .u64 4294967296)) fun x11 =>
 CM.pu (p2 (indexAddrA Tryz.prog 93) t5 x10) fun x12 =>
 CM.st (fun m => stV m x12 x11 1) <|
 CM.pu (p2 (binA Tryz.prog .quo 30) x9 (.int .u64 4294967296)) fun x14 =>
 CM.go 270340 [t2, t3, t4, t5, t6, x14, t8]
theorem g66_3_ok : EqD (Rl H) g66_3 (fun xs m => goR (EH H) Mk 270339 xs m) := sE fun _ => sE fun _ => sE fun _ => sE fun _ => sE fun _ => sE fun _ => sE fun _ => zE fun _ => goR_eq 400 (by kernel_rfl)
noncomputable def g66_4 : List AV → CM := apS fun t2 => apS fun t3 => apS fun t4 => apS fun t5 => apS fun t6 => apS fun t7 => apS fun t8 => ap0 <|
 CM.pu (p2 (binA Tryz.prog .add 3) t8 (.int .i64 1)) fun x0 =>
 CM.go 270338 [t2, t3, t4, t5, t6, t7, x0]
theorem g66_4_ok : EqD (Rl H) g66_4 (fun xs m => goR (EH H) Mk 270340 xs m) := sE fun _ => sE fun _ => sE fun _ => sE fun _ => sE fun _ => sE fun _ => sE fun _ => zE fun _ => goR_eq 400 (by kernel_rfl)
noncomputable def g66_5 : List AV → CM := apS fun t2 => apS fun t3 => apS fun t4 => apS fun t5 => apS fun t6 => ap0 <|
 CM.pu (p2 (binA Tryz.prog .add 3) t6 (.int .i64 1)) fun x0 =>
 CM.go 270336 [t2, t3, t4, t5, x0]
theorem g66_5_ok : EqD (Rl H) g66_5 (fun xs m => goR (EH H) Mk 270341 xs m) := sE fun _ => sE fun _ => sE fun _ => sE fun _ => sE fun _ => zE fun _ => goR_eq 400 (by kernel_rfl)
noncomputable def g66_6 : List AV → CM := apS fun t4 => apS fun t5 => ap0 <|
 CM.rm (q1 (loadA Tryz.prog 93) t5 ) fun x0 =>
 CM.st (fun m => stV m t4 x0 16) <|
 CM.resC Tryz.prog [ResultVar.cell 0 93] [t4]
theorem g66_6_ok : EqD (Rl H) g66_6 (fun xs m => goR (EH H) Mk 270342 xs m) := sE fun _ => sE fun _ => zE fun _ => goR_eq 400 (by kernel_rfl)
noncomputable def f66 : List AV → CM := apS fun a0 => apS fun a1 => ap0 <|
 CM.al (boxA a0) fun x0 =>
 CM.al (boxA a1) fun x1 =>
 CM.al (some (.cells [(.int .u64 0), (.int .u64 0), (.int .u64 0), (.int .u64 0), (.int .u64 0), (.int .u64 0), (.int .u64 0), (.int .u64 0), (.int .u64 0), (.int .u64 0), (.int .u64 0), (.int .u64 0), (.int .u64 0), (.int .u64 0), (.int .u64 0), (.int .u64 0)] false, pB)) fun x2 =>
 CM.al (some (.cells [(.int .u64 0), (.int .u64 0), (.int .u64 0), (.int .u64 0), (.int .u64 0), (.int .u64 0), (.int .u64 0), (.int .u64 0), (.int .u64 0), (.int .u64 0), (.int .u64 0), (.int .u64 0), (.int .u64 0), (.int .u64 0), (.int .u64 0), (.int .u64 0)] false, pB)) fun x3 =>
 CM.go 270336 [x0, x1, x2, x3, (.int .i64 0)]
theorem f66_ok (h : H 66 = none) : EqD (Rl H) f66 (fun xs m => run (EH H) (.fn 66) xs m) := sE fun _ => sE fun _ => zE fun _ => run_eq 400 h (by kernel_rfl) (by kernel_rfl)
noncomputable def f67 : List AV → CM := apS fun a0 => apS fun a1 => ap0 <|
 CM.rm (q1 (loadA Tryz.prog 56) a1 ) fun x0 =>
 CM.memo fun m1 =>
 CM.call 69 [x0] fun x2 =>
 CM.rm (q1 (loadA Tryz.prog 56) a1 ) fun x4 =>
 CM.chk (q1 (loadA Tryz.prog 56) a1 m1) x4 <|
 CM.call 70 [x4] fun x6 =>
 CM.call 68 [x2, x6, a0] fun _ =>
 CM.ret .undef
theorem f67_ok (h : H 67 = none) : EqD (Rl H) f67 (fun xs m => run (EH H) (.fn 67) xs m) := sE fun _ => sE fun _ => zE fun _ => run_eq 400 h (by kernel_rfl) (by kernel_rfl)
noncomputable def g68_0 : List AV → CM := apS fun t1 => apS fun t2 => apS fun t8 => apS fun t9 => apS fun t10 => ap0 <|
 CM.pu (p2 (binA Tryz.prog .lss 3) t10 t9) fun x0 =>
 CM.cond x0 (
 CM.go 278529 [t1, t2, t8, t9, t10]) (
 CM.ret .undef)
theorem g68_0_ok : EqD (Rl H) g68_0 (fun xs m => goR (EH H) Mk 278528 xs m) := sE fun _ => sE fun _ => sE fun _ => sE fun _ => sE fun _ => zE fun _ => goR_eq 400 (by kernel_rfl)
noncomputable def g68_1 : List AV → CM := apS fun t1 => apS fun t2 => apS fun t8 => apS fun t9 => apS fun t10 => ap0 <|
 CM.pu (p2 (indexAddrA Tryz.prog 109) t8 t10) fun x0 =>
 CM.rm (q1 (loadA Tryz.prog 9) x0 ) fun x1 =>
 CM.pu (p2 (indexAddrA Tryz.prog 45) t1 t10) fun x2 =>
 CM.rm (q1 (loadA Tryz.prog 64) x2 ) fun x3 =>
 CM.callv t2 [x1, x3] fun x4 =>
 CM.pu (p1 (unA .not) x4) fun x5 =>
 CM.cond x5 (
 CM.ret .undef) (
 CM.go 278530 [t1, t2, t8, t9, t10])
theorem g68_1_ok : EqD (Rl H) g68_1 (fun xs m => goR (EH H) Mk 278529 xs m) := sE fun _ => sE fun _ => sE fun _ => sE fun _ => sE fun _ => zE fun _ => goR_eq 400 (by kernel_rfl)
noncomputable def g68_2 : List AV → CM := apS fun t1 => apS fun t2 => apS fun t8 => apS fun t9 => apS fun t10 => ap0 <|
 CM.pu (p2 (binA Tryz.prog .add 3) t10 (.int .i64 1)) fun x0 =>
 CM.go 278528 [t1, t2, t8, t9, x0]
theorem g68_2_ok : EqD (Rl H) g68_2 (fun xs m => goR (EH H) Mk 278530 xs m) := sE fun _ => sE fun _ => sE fun _ => sE fun _ => sE fun _ => zE fun _ => goR_eq 400 (by kernel_rfl)
noncomputable def f68 : List AV → CM := apS fun a0 => apS fun a1 => apS fun a2 => ap0 <|
 CM.pu (p1 (lenT Tryz.prog 109) a0) fun x0 =>
 CM.go 278528 [a1, a2, a0, x0, (.int .i64 0)]
theorem f68_ok (h : H 68 = none) : EqD (Rl H) f68 (fun xs m => run (EH H) (.fn 68) xs m) := sE fun _ => sE fun _ => sE fun _ => zE fun _ => run_eq 400 h (by kernel_rfl) (by kernel_rfl)
noncomputable def f69 : List AV → CM := apS fun a0 => ap0 <|
 CM.al (some (.cells [] false, sB 1 0)) fun x0 =>
 CM.pu (p1 nnA a0) fun x1 =>
 CM.pu (p1 (fun a => fieldAddrA Tryz.prog 111 a 0) x1) fun x2 =>
 CM.rm (q1 (loadA Tryz.prog 109) x2 ) fun x3 =>
 CM.ef (apE 1 16 x0 x3) fun x4 =>
 CM.ret x4
theorem f69_ok (h : H 69 = none) : EqD (Rl H) f69 (fun xs m => run (EH H) (.fn 69) xs m) := sE fun _ => zE fun _ => run_eq 400 h (by kernel_rfl) (by kernel_rfl)
noncomputable def f70 : List AV → CM := apS fun a0 => ap0 <|
 CM.al (some (.cells [] false, sB 4 0)) fun x0 =>
 CM.pu (p1 nnA a0) fun x1 =>
 CM.pu (p1 (fun a => fieldAddrA Tryz.prog 111 a 1) x1) fun x2 =>
 CM.rm (q1 (loadA Tryz.prog 45) x2 ) fun x3 =>
 CM.ef (apE 4 40 x0 x3) fun x4 =>
 CM.ret x4
theorem f70_ok (h : H 70 = none) : EqD (Rl H) f70 (fun xs m => run (EH H) (.fn 70) xs m) := sE fun _ => zE fun _ => run_eq 400 h (by kernel_rfl) (by kernel_rfl)
noncomputable def f71 : List AV → CM := apS fun a0 => apS fun a1 => ap0 <|
 CM.rm (q1 (loadA Tryz.prog 57) a1 ) fun x0 =>
 CM.memo fun m1 =>
 CM.call 73 [x0] fun x2 =>
 CM.rm (q1 (loadA Tryz.prog 57) a1 ) fun x4 =>
 CM.chk (q1 (loadA Tryz.prog 57) a1 m1) x4 <|
 CM.call 74 [x4] fun x6 =>
 CM.call 72 [x2, x6, a0] fun _ =>
 CM.ret .undef
theorem f71_ok (h : H 71 = none) : EqD (Rl H) f71 (fun xs m => run (EH H) (.fn 71) xs m) := sE fun _ => sE fun _ => zE fun _ => run_eq 400 h (by kernel_rfl) (by kernel_rfl)
noncomputable def g72_0 : List AV → CM := apS fun t1 => apS fun t2 => apS fun t8 => apS fun t9 => apS fun t10 => ap0 <|
 CM.pu (p2 (binA Tryz.prog .lss 3) t10 t9) fun x0 =>
 CM.cond x0 (
 CM.go 294913 [t1, t2, t8, t9, t10]) (
 CM.ret .undef)
theorem g72_0_ok : EqD (Rl H) g72_0 (fun xs m => goR (EH H) Mk 294912 xs m) := sE fun _ => sE fun _ => sE fun _ => sE fun _ => sE fun _ => zE fun _ => goR_eq 400 (by kernel_rfl)
noncomputable def g72_1 : List AV → CM := apS fun t1 => apS fun t2 => apS fun t8 => apS fun t9 => apS fun t10 => ap0 <|
 CM.pu (p2 (indexAddrA Tryz.prog 109) t8 t10) fun x0 =>
 CM.rm (q1 (loadA Tryz.prog 9) x0 ) fun x1 =>
 CM.pu (p2 (indexAddrA Tryz.prog 46) t1 t10) fun x2 =>
 CM.rm (q1 (loadA Tryz.prog 54) x2 ) fun x3 =>
 CM.callv t2 [x1, x3] fun x4 =>
 CM.pu (p1 (unA .not) x4) fun x5 =>
 CM.cond x5 (
 CM.ret .undef) (
 CM.go 294914 [t1, t2, t8, t9, t10])
theorem g72_1_ok : EqD (Rl H) g72_1 (fun xs m => goR (EH H) Mk 294913 xs m) := sE fun _ => sE fun _ => sE fun _ => sE fun _ => sE fun _ => zE fun _ => goR_eq 400 (by kernel_rfl)
noncomputable def g72_2 : List AV → CM := apS fun t1 => apS fun t2 => apS fun t8 => apS fun t9 => apS fun t10 => ap0 <|
 CM.pu (p2 (binA Tryz.prog .add 3) t10 (.int .i64 1)) fun x0 =>
 CM.go 294912 [t1, t2, t8, t9, x0]
theorem g72_2_ok : EqD (Rl H) g72_2 (fun xs m => goR (EH H) Mk 294914 xs m) := sE fun _ => sE fun _ => sE fun _ => sE fun _ => sE fun _ => zE fun _ => goR_eq 400 (by kernel_rfl)
noncomputable def f72 : List AV → CM := apS fun a0 => apS fun a1 => apS fun a2 => ap0 <|
 CM.pu (p1 (lenT Tryz.prog 109) a0) fun x0 =>
 CM.go 294912 [a1, a2, a0, x0, (.int .i64 0)]
theorem f72_ok (h : H 72 = none) : EqD (Rl H) f72 (fun xs m => run (EH H) (.fn 72) xs m) := sE fun _ => sE fun _ => sE fun _ => zE fun _ => run_eq 400 h (by kernel_rfl) (by kernel_rfl)
noncomputable def f73 : List AV → CM := apS fun a0 => ap0 <|
 CM.al (some (.cells [] false, sB 1 0)) fun x0 =>
 CM.pu (p1 nnA a0) fun x1 =>
 CM.pu (p1 (fun a => fieldAddrA Tryz.prog 113 a 0) x1) fun x2 =>
 CM.rm (q1 (loadA Tryz.prog 109) x2 ) fun x3 =>
 CM.ef (apE 1 16 x0 x3) fun x4 =>
 CM.ret x4
theorem f73_ok (h : H 73 = none) : EqD (Rl H) f73 (fun xs m => run (EH H) (.fn 73) xs m) := sE fun _ => zE fun _ => run_eq 400 h (by kernel_rfl) (by kernel_rfl)
noncomputable def f74 : List AV → CM := apS fun a0 => ap0 <|
 CM.al (some (.cells [] false, sB 9 0)) fun x0 =>
 CM.pu (p1 nnA a0) fun x1 =>
 CM.pu (p1 (fun a => fieldAddrA Tryz.prog 113 a 1) x1) fun x2 =>
 CM.rm (q1 (loadA Tryz.prog 46) x2 ) fun x3 =>
 CM.ef (apE 9 88 x0 x3) fun x4 =>
 CM.ret x4
theorem f74_ok (h : H 74 = none) : EqD (Rl H) f74 (fun xs m => run (EH H) (.fn 74) xs m) := sE fun _ => zE fun _ => run_eq 400 h (by kernel_rfl) (by kernel_rfl)
noncomputable def f75 : List AV → CM := apS fun a0 => apS fun a1 => ap0 <|
 CM.rm (q1 (loadA Tryz.prog 58) a1 ) fun x0 =>
 CM.memo fun m1 =>
 CM.call 77 [x0] fun x2 =>
 CM.rm (q1 (loadA Tryz.prog 58) a1 ) fun x4 =>
 CM.chk (q1 (loadA Tryz.prog 58) a1 m1) x4 <|
 CM.call 78 [x4] fun x6 =>
 CM.call 76 [x2, x6, a0] fun _ =>
 CM.ret .undef
theorem f75_ok (h : H 75 = none) : EqD (Rl H) f75 (fun xs m => run (EH H) (.fn 75) xs m) := sE fun _ => sE fun _ => zE fun _ => run_eq 400 h (by kernel_rfl) (by kernel_rfl)
noncomputable def g76_0 : List AV → CM := apS fun t1 => apS fun t2 => apS fun t8 => apS fun t9 => apS fun t10 => ap0 <|
 CM.pu (p2 (binA Tryz.prog .lss 3) t10 t9) fun x0 =>
 CM.cond x0 (
 CM.go 311297 [t1, t2, t8, t9, t10]) (
 CM.ret .undef)
theorem g76_0_ok : EqD (Rl H) g76_0 (fun xs m => goR (EH H) Mk 311296 xs m) := sE fun _ => sE fun _ => sE fun _ => sE fun _ => sE fun _ => zE fun _ => goR_eq 400 (by kernel_rfl)
noncomputable def g76_1 : List AV → CM := apS fun t1 => apS fun t2 => apS fun t8 => apS fun t9 => apS fun t10 => ap0 <|
 CM.pu (p2 (indexAddrA Tryz.prog 114) t8 t10) fun x0 =>
 CM.rm (q1 (loadA Tryz.prog 30) x0 ) fun x1 =>
 CM.pu (p2 (indexAddrA Tryz.prog 47) t1 t10) fun x2 =>
 CM.rm (q1 (loadA Tryz.prog 70) x2 ) fun x3 =>
 CM.callv t2 [x1, x3] fun x4 =>
 CM.pu (p1 (unA .not) x4) fun x5 =>
 CM.cond x5 (
 CM.ret .undef) (
 CM.go 311298 [t1, t2, t8, t9, t10])
theorem g76_1_ok : EqD (Rl H) g76_1 (fun xs m => goR (EH H) Mk 311297 xs m) := sE fun _ => sE fun _ => sE fun _ => sE fun _ => sE fun _ => zE fun _ => goR_eq 400 (by kernel_rfl)
noncomputable def g76_2 : List AV → CM := apS fun t1 => apS fun t2 => apS fun t8 => apS fun t9 => apS fun t10 => ap0 <|
 CM.pu (p2 (binA Tryz.prog .add 3) t10 (.int .i64 1)) fun x0 =>
 CM.go 311296 [t1, t2, t8, t9, x0]
theorem g76_2_ok : EqD (Rl H) g76_2 (fun xs m => goR (EH H) Mk 311298 xs m) := sE fun _ => sE fun _ => sE fun _ => sE fun _ => sE fun _ => zE fun _ => goR_eq 400 (by kernel_rfl)
noncomputable def f76 : List AV → CM := apS fun a0 => apS fun a1 => apS fun a2 => ap0 <|
 CM.pu (p1 (lenT Tryz.prog 114) a0) fun x0 =>
 CM.go 311296 [a1, a2, a0, x0, (.int .i64 0)]
theorem f76_ok (h : H 76 = none) : EqD (Rl H) f76 (fun xs m => run (EH H) (.fn 76) xs m) := sE fun _ => sE fun _ => sE fun _ => zE fun _ => run_eq 400 h (by kernel_rfl) (by kernel_rfl)
noncomputable def f77 : List AV → CM := apS fun a0 => ap0 <|
 CM.al (some (.cells [] false, sB 1 0)) fun x0 =>
 CM.pu (p1 nnA a0) fun x1 =>
 CM.pu (p1 (fun a => fieldAddrA Tryz.prog 116 a 0) x1) fun x2 =>
 CM.rm (q1 (loadA Tryz.prog 114) x2 ) fun x3 =>
 CM.ef (apE 1 8 x0 x3) fun x4 =>
 CM.ret x4
theorem f77_ok (h : H 77 = none) : EqD (Rl H) f77 (fun xs m => run (EH H) (.fn 77) xs m) := sE fun _ => zE fun _ => run_eq 400 h (by kernel_rfl) (by kernel_rfl)
noncomputable def f78 : List AV → CM := apS fun a0 => ap0 <|
 CM.al (some (.cells [] false, sB 4 0)) fun x0 =>
 CM.pu (p1 nnA a0) fun x1 =>
 CM.pu (p1 (fun a => fieldAddrA Tryz.prog 116 a 1) x1) fun x2 =>
 CM.rm (q1 (loadA Tryz.prog 47) x2 ) fun x3 =>
 CM.ef (apE 4 40 x0 x3) fun x4 =>
 CM.ret x4
theorem f78_ok (h : H 78 = none) : EqD (Rl H) f78 (fun xs m => run (EH H) (.fn 78) xs m) := sE fun _ => zE fun _ => run_eq 400 h (by kernel_rfl) (by kernel_rfl)
noncomputable def f80 : List AV → CM := apS fun a0 => apS fun a1 => ap0 <|
 CM.call 101 [a0] fun x0 =>
 CM.ifv x0 (
 CM.call 101 [a1] fun x1 =>
 CM.pu (p1 (unA .not) x1) fun x2 =>
 CM.ifv x2 (
 CM.ret (.bool true)) (
 CM.pu (p2 (binA Tryz.prog .lss 9) a0 a1) fun x3 =>
 CM.ret x3)) (
 CM.pu (p2 (binA Tryz.prog .lss 9) a0 a1) fun x4 =>
 CM.ret x4)
theorem f80_ok (h : H 80 = none) : EqD (Rl H) f80 (fun xs m => run (EH H) (.fn 80) xs m) := sE fun _ => sE fun _ => zE fun _ => run_eq 400 h (by kernel_rfl) (by kernel_rfl)
noncomputable def f81 : List AV → CM := apS fun a0 => ap0 <|
 CM.pu (p2 (binA Tryz.prog .neq 9) a0 a0) fun x0 =>
 CM.ret x0
theorem f81_ok (h : H 81 = none) : EqD (Rl H) f81 (fun xs m => run (EH H) (.fn 81) xs m) := sE fun _ => zE fun _ => run_eq 400 h (by kernel_rfl) (by kernel_rfl)
noncomputable def f83 : List AV → CM := apS fun a0 => apS fun a1 => ap0 <|
 CM.pu (p1 (lenT Tryz.prog 109) a0) fun x0 =>
 CM.pu (p2 (binA Tryz.prog .sub 3) x0 a1) fun x1 =>
 CM.call 102 [a0, x1] fun _ =>
 CM.ret .undef
theorem f83_ok (h : H 83 = none) : EqD (Rl H) f83 (fun xs m => run (EH H) (.fn 83) xs m) := sE fun _ => sE fun _ => zE fun _ => run_eq 400 h (by kernel_rfl) (by kernel_rfl)
noncomputable def f85 : List AV → CM := apS fun a0 => apS fun a1 => ap0 <|
 CM.pu (p1 (lenT Tryz.prog 45) a0) fun x0 =>
 CM.pu (p2 (binA Tryz.prog .sub 3) x0 a1) fun x1 =>
 CM.call 103 [a0, x1] fun _ =>
 CM.ret .undef
theorem f85_ok (h : H 85 = none) : EqD (Rl H) f85 (fun xs m => run (EH H) (.fn 85) xs m) := sE fun _ => sE fun _ => zE fun _ => run_eq 400 h (by kernel_rfl) (by kernel_rfl)
noncomputable def f86 : List AV → CM := apS fun a0 => apS fun a1 => ap0 <|
 CM.call 104 [a0] fun x0 =>
 CM.ifv x0 (
 CM.call 104 [a1] fun x1 =>
 CM.pu (p1 (unA .not) x1) fun x2 =>
 CM.ifv x2 (
 CM.ret (.bool true)) (
 CM.pu (p2 (binA Tryz.prog .lss 30) a0 a1) fun x3 =>
 CM.ret x3)) (
 CM.pu (p2 (binA Tryz.prog .lss 30) a0 a1) fun x4 =>
 CM.ret x4)
theorem f86_ok (h : H 86 = none) : EqD (Rl H) f86 (fun xs m => run (EH H) (.fn 86) xs m) := sE fun _ => sE fun _ => zE fun _ => run_eq 400 h (by kernel_rfl) (by kernel_rfl)
noncomputable def f87 : List AV → CM := apS fun a0 => ap0 <|
 CM.pu (p2 (binA Tryz.prog .neq 30) a0 a0) fun x0 =>
 CM.ret x0
theorem f87_ok (h : H 87 = none) : EqD (Rl H) f87 (fun xs m => run (EH H) (.fn 87) xs m) := sE fun _ => zE fun _ => run_eq 400 h (by kernel_rfl) (by kernel_rfl)
noncomputable def f89 : List AV → CM := apS fun a0 => apS fun a1 => ap0 <|
 CM.pu (p1 (lenT Tryz.prog 114) a0) fun x0 =>
 CM.pu (p2 (binA Tryz.prog .sub 3) x0 a1) fun x1 =>
 CM.call 105 [a0, x1] fun _ =>
 CM.ret .undef
theorem f89_ok (h : H 89 = none) : EqD (Rl H) f89 (fun xs m => run (EH H) (.fn 89) xs m) := sE fun _ => sE fun _ => zE fun _ => run_eq 400 h (by kernel_rfl) (by kernel_rfl)
noncomputable def f91 : List AV → CM := apS fun a0 => apS fun a1 => ap0 <|
 CM.pu (p1 (lenT Tryz.prog 47) a0) fun x0 =>
 CM.pu (p2 (binA Tryz.prog .sub 3) x0 a1) fun x1 =>
 CM.call 106 [a0, x1] fun _ =>
 CM.ret .undef
theorem f91_ok (h : H 91 = none) : EqD (Rl H) f91 (fun xs m => run (EH H) (.fn 91) xs m) := sE fun _ => sE fun _ => zE fun _ => run_eq 400 h (by kernel_rfl) (by kernel_rfl)
noncomputable def f93 : List AV → CM := apS fun a0 => ap0 <|
 CM.pu (p2 (binA Tryz.prog .geq 3) a0 (.int .i64 0)) fun x0 =>
 CM.ifv x0 (
 CM.pu (p2 (binA Tryz.prog .leq 3) a0 (.int .i64 18)) fun x1 =>
 CM.ret x1) (
 CM.ret (.bool false))
theorem f93_ok (h : H 93 = none) : EqD (Rl H) f93 (fun xs m => run (EH H) (.fn 93) xs m) := sE fun _ => zE fun _ => run_eq 400 h (by kernel_rfl) (by kernel_rfl)
noncomputable def g94_0 : List AV → CM := apS fun t2 => apS fun t3 => ap0 <|
 CM.pu (p1 (fun a => fieldAddrA Tryz.prog 37 a 1) t2) fun x0 =>
 CM.rm (q1 (loadA Tryz.prog 3) x0 ) fun x1 =>
 CM.pu (p1 (fun a => fieldAddrA Tryz.prog 37 a 1) t3) fun x2 =>
 CM.rm (q1 (loadA Tryz.prog 3) x2 ) fun x3 =>
 CM.pu (p2 (binA Tryz.prog .lss 3) x1 x3) fun x4 =>
 CM.cond x4 (
 CM.rm (q1 (loadA Tryz.prog 37) t3 ) fun x5 =>
 CM.rm (q1 (loadA Tryz.prog 37) t2 ) fun x6 =>
 CM.call 107 [x5, x6] fun x7 =>
 CM.pu (p1 (unA .neg) x7) fun x8 =>
 CM.ret (.tup [x8, (.int .i64 0)])) (
 CM.go 385025 [t2, t3])
theorem g94_0_ok : EqD (Rl H) g94_0 (fun xs m => goR (EH H) Mk 385024 xs m) := sE fun _ => sE fun _ => zE fun _ => goR_eq 400 (by kernel_rfl)
noncomputable def g94_1 : List AV → CM := apS fun t2 => apS fun t3 => ap0 <|
 CM.rm (q1 (loadA Tryz.prog 37) t2 ) fun x0 =>
 CM.rm (q1 (loadA Tryz.prog 37) t3 ) fun x1 =>
 CM.call 107 [x0, x1] fun x2 =>
 CM.ret (.tup [x2, (.int .i64 0)])
theorem g94_1_ok : EqD (Rl H) g94_1 (fun xs m => goR (EH H) Mk 385025 xs m) := sE fun _ => sE fun _ => zE fun _ => goR_eq 400 (by kernel_rfl)
noncomputable def f94 : List AV → CM := apS fun a0 => apS fun a1 => ap0 <|
 CM.al (boxA a0) fun x0 =>
 CM.al (boxA a1) fun x1 =>
 CM.rm (q1 (loadA Tryz.prog 37) x0 ) fun x2 =>
 CM.call 55 [x2] fun x3 =>
 CM.pu (p1 (unA .not) x3) fun x4 =>
 CM.ifv x4 (
 CM.ret (.tup [(.int .i64 0), (.int .i64 21)])) (
 CM.rm (q1 (loadA Tryz.prog 37) x1 ) fun x5 =>
 CM.call 55 [x5] fun x6 =>
 CM.pu (p1 (unA .not) x6) fun x7 =>
 CM.cond x7 (
 CM.ret (.tup [(.int .i64 0), (.int .i64 21)])) (
 CM.go 385024 [x0, x1]))
theorem f94_ok (h : H 94 = none) : EqD (Rl H) f94 (fun xs m => run (EH H) (.fn 94) xs m) := sE fun _ => sE fun _ => zE fun _ => run_eq 400 h (by kernel_rfl) (by kernel_rfl)
noncomputable def f96 : List AV → CM := apS fun a0 => apS fun a1 => ap0 <|
 CM.pu (p1 (lenT Tryz.prog 46) a0) fun x0 =>
 CM.pu (p2 (binA Tryz.prog .sub 3) x0 a1) fun x1 =>
 CM.call 108 [a0, x1] fun _ =>
 CM.ret .undef
theorem f96_ok (h : H 96 = none) : EqD (Rl H) f96 (fun xs m => run (EH H) (.fn 96) xs m) := sE fun _ => sE fun _ => zE fun _ => run_eq 400 h (by kernel_rfl) (by kernel_rfl)
noncomputable def g97_0 : List AV → CM := apS fun t2 => apS fun t3 => apS fun t4 => apS fun t6 => ap0 <|
 CM.pu (p2 minA t2 (.int .i64 18)) fun x0 =>
 CM.rm (q1 (loadA Tryz.prog 35) t3 ) fun x1 =>
 CM.rm (q1 (loadA Tryz.prog 35) t4 ) fun x2 =>
 CM.call 110 [x1, x2] fun x3 =>
 CM.call 111 [x0] fun x4 =>
 CM.call 109 [x3, x4] fun x5 =>
 CM.pu (p1 (fun a => extractA a 0) x5) fun x6 =>
 CM.pu (p1 (fun a => extractA a 1) x5) fun x7 =>
 CM.al (some (.cells [(.int .u64 0), (.int .u64 0), (.int .u64 0), (.int .u64 0)] false, pB)) fun x8 =>
 CM.st (fun m => stV m x8 x6 4) <|
 CM.rm (q1 (loadA Tryz.prog 167) x8 ) fun x10 =>
 CM.pu (p2 (binA Tryz.prog .sub 3) t2 x0) fun x11 =>
 CM.call 111 [x11] fun x13 =>
 CM.memo fun m14 =>
 CM.chk (q1 (loadA Tryz.prog 167) x8 m14) x10 <|
 CM.call 109 [x10, x13] fun x16 =>
 CM.pu (p1 (fun a => extractA a 0) x16) fun x18 =>
 CM.pu (p1 (fun a => extractA a 1) x16) fun x19 =>
 CM.st (fun m => stV m x8 x18 4) <|
 CM.pu (p2 (binA Tryz.prog .eql 3) t2 (.int .i64 0)) fun x23 =>
 CM.cond x23 (
 CM.go 397313 [t3, t4, t6, x8, (.bool false)]) (
 CM.pu (p2 (binA Tryz.prog .eql 3) t2 x0) fun x24 =>
 CM.cond x24 (
 CM.call 111 [x0] fun x25 =>
 CM.pu (p2 (binA Tryz.prog .quo 30) x25 (.int .u64 2)) fun x26 =>
 CM.pu (p2 (binA Tryz.prog .gtr 30) x7 x26) fun x27 =>
 CM.ifv x27 (
 CM.go 397313 [t3, t4, t6, x8, (.bool true)]) (
 CM.call 111 [x0] fun x28 =>
 CM.pu (p2 (binA Tryz.prog .quo 30) x28 (.int .u64 2)) fun x29 =>
 CM.pu (p2 (binA Tryz.prog .eql 30) x7 x29) fun x30 =>
 CM.ifv x30 (
 CM.pu (p2 (indexAddrA Tryz.prog 167) x8 (.int .i64 0)) fun x31 =>
 CM.rm (q1 (loadA Tryz.prog 30) x31 ) fun x32 =>
 CM.pu (p2 (binA Tryz.prog .and 30) x32 (.int .u64 1)) fun x33 =>
 CM.pu (p2 (binA Tryz.prog .eql 30) x33 (.int .u64 1)) fun x34 =>
 CM.go 397313 [t3, t4, t6, x8, x34]) (
 CM.go 397313 [t3, t4, t6, x8, (.bool false)]))) (
 CM.pu (p2 (binA Tryz.prog .sub 3) t2 x0) fun x35 =>
 CM.call 111 [x35] fun x36 =>
 CM.pu (p2 (binA Tryz.prog .quo 30) x36 (.int .u64 2)) fun x37 =>
 CM.pu (p2 (binA Tryz.prog .gtr 30) x19 x37) fun x38 =>
 CM.ifv x38 (
 CM.go 397313 [t3, t4, t6, x8, (.bool true)]) (
 CM.pu (p2 (binA Tryz.prog .eql 30) x19 x37) fun x39 =>
 CM.ifv x39 (
 CM.pu (p2 (binA Tryz.prog .gtr 30) x7 (.int .u64 0)) fun x40 =>
 CM.ifv x40 (
 CM.go 397313 [t3, t4, t6, x8, (.bool true)]) (
 CM.pu (p2 (indexAddrA Tryz.prog 167) x8 (.int .i64 0)) fun x41 =>
 CM.rm (q1 (loadA Tryz.prog 30) x41 ) fun x42 =>
 CM.pu (p2 (binA Tryz.prog .and 30) x42 (.int .u64 1)) fun x43 =>
 CM.pu (p2 (binA Tryz.prog .eql 30) x43 (.int .u64 1)) fun x44 =>
 CM.go 397313 [t3, t4, t6, x8, x44])) (
 CM.go 397313 [t3, t4, t6, x8, (.bool false)]))))
theorem g97_0_ok : EqD (Rl H) g97_0 (fun xs m => goR (EH H) Mk 397312 xs m) := sE fun _ => sE fun _ => sE fun _ => sE fun _ => zE fun _ => goR_eq 400 (by kernel_rfl)
noncomputable def g97_1 : List AV → CM := apS fun t3 => apS fun t4 => apS fun t6 => apS fun t9 => apS fun t12 => ap0 <|
 CM.go 397314 [t3, t4, t6, t9, t12, (.int .i64 0)]
theorem g97_1_ok : EqD (Rl H) g97_1 (fun xs m => goR (EH H) Mk 397313 xs m) := sE fun _ => sE fun _ => sE fun _ => sE fun _ => sE fun _ => zE fun _ => goR_eq 400 (by kernel_rfl)
noncomputable def g97_2 : List AV → CM := apS fun t3 => apS fun t4 => apS fun t6 => apS fun t9 => apS fun t12 => apS fun t14 => ap0 <|
 CM.pu (p2 (binA Tryz.prog .lss 3) t14 (.int .i64 4)) fun x0 =>
 CM.ifv x0 (
 CM.cond t12 (
 CM.go 397315 [t3, t4, t6, t9, t14]) (
 CM.go 397317 [t3, t4, t6, t9])) (
 CM.go 397317 [t3, t4, t6, t9])
theorem g97_2_ok : EqD (Rl H) g97_2 (fun xs m => goR (EH H) Mk 397314 xs m) := sE fun _ => sE fun _ => sE fun _ => sE fun _ => sE fun _ => sE fun _ => zE fun _ => goR_eq 400 (by kernel_rfl)
noncomputable def g97_3 : List AV → CM := apS fun t3 => apS fun t4 => apS fun t6 => apS fun t9 => apS fun t14 => ap0 <|
 CM.pu (p2 (indexAddrA Tryz.prog 167) t9 t14) fun x0 =>
 CM.rm (q1 (loadA Tryz.prog 30) x0 ) fun x1 =>
 CM.pu (p2 (binA Tryz.prog .add 30) x1 (.int .u64 1)) fun x2 =>
 CM.pu (p2 (indexAddrA Tryz.prog 167) t9 t14) fun x3 =>
 CM.st (fun m => stV m x3 x2 1) <|
 CM.pu (p2 (indexAddrA Tryz.prog 167) t9 t14) fun x5 =>
 CM.rm (q1 (loadA Tryz.prog 30) x5 ) fun x6 =>
 CM.pu (p2 (binA Tryz.prog .eql 30) x6 (.int .u64 0)) fun x7 =>
 CM.go 397316 [t3, t4, t6, t9, x7, t14]
theorem g97_3_ok : EqD (Rl H) g97_3 (fun xs m => goR (EH H) Mk 397315 xs m) := sE fun _ => sE fun _ => sE fun _ => sE fun _ => sE fun _ => zE fun _ => goR_eq 400 (by kernel_rfl)
noncomputable def g97_4 : List AV → CM := apS fun t3 => apS fun t4 => apS fun t6 => apS fun t9 => apS fun t12 => apS fun t14 => ap0 <|
 CM.pu (p2 (binA Tryz.prog .add 3) t14 (.int .i64 1)) fun x0 =>
 CM.go 397314 [t3, t4, t6, t9, t12, x0]
theorem g97_4_ok : EqD (Rl H) g97_4 (fun xs m => goR (EH H) Mk 397316 xs m) := sE fun _ => sE fun _ => sE fun _ => sE fun _ => sE fun _ => sE fun _ => zE fun _ => goR_eq 400 (by kernel_rfl)
noncomputable def g97_5 : List AV → CM := apS fun t3 => apS fun t4 => apS fun t6 => apS fun t9 => ap0 <|
 CM.pu (p1 (fun a => fieldAddrA Tryz.prog 35 a 0) t3) fun x0 =>
 CM.rm (q1 (loadA Tryz.prog 2) x0 ) fun x1 =>
 CM.pu (p2 (binA Tryz.prog .lss 2) x1 (.int .i64 0)) fun x2 =>
 CM.pu (p1 (fun a => fieldAddrA Tryz.prog 35 a 0) t4) fun x3 =>
 CM.rm (q1 (loadA Tryz.prog 2) x3 ) fun x4 =>
 CM.pu (p2 (binA Tryz.prog .lss 2) x4 (.int .i64 0)) fun x5 =>
 CM.pu (p2 (binA Tryz.prog .neq 4) x2 x5) fun x6 =>
 CM.rm (q1 (loadA Tryz.prog 167) t9 ) fun x7 =>
 CM.call 112 [x6, x7] fun x8 =>
 CM.pu (p1 (fun a => extractA a 0) x8) fun x9 =>
 CM.pu (p1 (fun a => extractA a 1) x8) fun x10 =>
 CM.st (fun m => stV m t6 x9 2) <|
 CM.resC Tryz.prog [ResultVar.cell 0 35, ResultVar.tmp 1] [t6, x10]
theorem g97_5_ok : EqD (Rl H) g97_5 (fun xs m => goR (EH H) Mk 397317 xs m) := sE fun _ => sE fun _ => sE fun _ => sE fun _ => zE fun _ => goR_eq 400 (by kernel_rfl)
noncomputable def f97 : List AV → CM := apS fun a0 => apS fun a1 => apS fun a2 => ap0 <|
 CM.al (boxA a0) fun x0 =>
 CM.al (boxA a1) fun x1 =>
 CM.al (some (.cells [(.int .i64 0), (.int .u64 0)] false, pB)) fun x2 =>
 CM.pu (p2 (binA Tryz.prog .lss 3) a2 (.int .i64 0)) fun x3 =>
 CM.ifv x3 (
 CM.pu (p1 (buildA Tryz.prog 35) []) fun x4 =>
 CM.st (fun m => stV m x2 x4 2) <|
 CM.resC Tryz.prog [ResultVar.cell 0 35, ResultVar.tmp 1] [x2, (.int .i64 1)]) (
 CM.pu (p2 (binA Tryz.prog .gtr 3) a2 (.int .i64 36)) fun x6 =>
 CM.cond x6 (
 CM.pu (p1 (buildA Tryz.prog 35) []) fun x7 =>
 CM.st (fun m => stV m x2 x7 2) <|
 CM.resC Tryz.prog [ResultVar.cell 0 35, ResultVar.tmp 1] [x2, (.int .i64 1)]) (
 CM.go 397312 [a2, x0, x1, x2]))
theorem f97_ok (h : H 97 = none) : EqD (Rl H) f97 (fun xs m => run (EH H) (.fn 97) xs m) := sE fun _ => sE fun _ => sE fun _ => zE fun _ => run_eq 400 h (by kernel_rfl) (by kernel_rfl)
noncomputable def f98 : List AV → CM := apS fun a0 => apS fun a1 => ap0 <|
 CM.al (boxA a0) fun x0 =>
 CM.al (boxA a1) fun x1 =>
 CM.al (some (.cells [(.int .i64 0), (.int .u64 0)] false, pB)) fun x2 =>
 CM.pu (p1 (fun a => fieldAddrA Tryz.prog 35 a 0) x0) fun x3 =>
 CM.rm (q1 (loadA Tryz.prog 2) x3 ) fun x4 =>
 CM.pu (p2 (binA Tryz.prog .lss 2) x4 (.int .i64 0)) fun x5 =>
 CM.pu (p1 (fun a => fieldAddrA Tryz.prog 35 a 0) x1) fun x6 =>
 CM.rm (q1 (loadA Tryz.prog 2) x6 ) fun x7 =>
 CM.pu (p2 (binA Tryz.prog .lss 2) x7 (.int .i64 0)) fun x8 =>
 CM.pu (p2 (binA Tryz.prog .neq 4) x5 x8) fun x9 =>
 CM.rm (q1 (loadA Tryz.prog 35) x0 ) fun x10 =>
 CM.rm (q1 (loadA Tryz.prog 35) x1 ) fun x11 =>
 CM.call 110 [x10, x11] fun x13 =>
 CM.memo fun m14 =>
 CM.chk (q1 (loadA Tryz.prog 2) x6 m14) x7 <|
 CM.chk (q1 (loadA Tryz.prog 2) x3 m14) x4 <|
 CM.call 112 [x9, x13] fun x16 =>
 CM.pu (p1 (fun a => extractA a 0) x16) fun x18 =>
 CM.pu (p1 (fun a => extractA a 1) x16) fun x19 =>
 CM.st (fun m => stV m x2 x18 2) <|
 CM.resC Tryz.prog [ResultVar.cell 0 35, ResultVar.tmp 1] [x2, x19]
theorem f98_ok (h : H 98 = none) : EqD (Rl H) f98 (fun xs m => run (EH H) (.fn 98) xs m) := sE fun _ => sE fun _ => zE fun _ => run_eq 400 h (by kernel_rfl) (by kernel_rfl)
noncomputable def g99_0 : List AV → CM := apS fun t2 => apS fun t4 => apS fun t6 => ap0 <|
 CM.rm (q1 (loadA Tryz.prog 35) t2 ) fun x0 =>
 CM.rm (q1 (loadA Tryz.prog 35) t6 ) fun x1 =>
 CM.call 98 [x0, x1] fun x2 =>
 CM.pu (p1 (fun a => extractA a 0) x2) fun x3 =>
 CM.pu (p1 (fun a => extractA a 1) x2) fun x4 =>
 CM.st (fun m => stV m t4 x3 2) <|
 CM.resC Tryz.prog [ResultVar.cell 0 35, ResultVar.tmp 1] [t4, x4]
theorem g99_0_ok : EqD (Rl H) g99_0 (fun xs m => goR (EH H) Mk 405504 xs m) := sE fun _ => sE fun _ => sE fun _ => zE fun _ => goR_eq 400 (by kernel_rfl)
noncomputable def f99 : List AV → CM := apS fun a0 => apS fun a1 => ap0 <|
 CM.al (boxA a0) fun x0 =>
 CM.al (some (.cells [(.int .i64 0), (.int .u64 0)] false, pB)) fun x1 =>
 CM.call 113 [a1] fun x2 =>
 CM.pu (p1 (fun a => extractA a 0) x2) fun x3 =>
 CM.pu (p1 (fun a => extractA a 1) x2) fun x4 =>
 CM.al (some (.cells [(.int .i64 0), (.int .u64 0)] false, pB)) fun x5 =>
 CM.st (fun m => stV m x5 x3 2) <|
 CM.pu (p2 (binA Tryz.prog .neq 25) x4 (.int .i64 0)) fun x7 =>
 CM.cond x7 (
 CM.pu (p1 (buildA Tryz.prog 35) []) fun x8 =>
 CM.st (fun m => stV m x1 x8 2) <|
 CM.resC Tryz.prog [ResultVar.cell 0 35, ResultVar.tmp 1] [x1, x4]) (
 CM.go 405504 [x0, x1, x5])
theorem f99_ok (h : H 99 = none) : EqD (Rl H) f99 (fun xs m => run (EH H) (.fn 99) xs m) := sE fun _ => sE fun _ => zE fun _ => run_eq 400 h (by kernel_rfl) (by kernel_rfl)
noncomputable def g100_0 : List AV → CM := apS fun t2 => apS fun t3 => apS fun t4 => apS fun t5 => apS fun t6 => apS fun t7 => ap0 <|
 CM.pu (p2 (binA Tryz.prog .lss 3) t7 (.int .i64 16)) fun x0 =>
 CM.cond x0 (
 CM.go 409601 [t2, t3, t4, t5, t6, t7]) (
 CM.go 409603 [t4, t5])
theorem g100_0_ok : EqD (Rl H) g100_0 (fun xs m => goR (EH H) Mk 409600 xs m) := sE fun _ => sE fun _ => sE fun _ => sE fun _ => sE fun _ => sE fun _ => zE fun _ => goR_eq 400 (by kernel_rfl)
noncomputable def g100_1 : List AV → CM := apS fun t2 => apS fun t3 => apS fun t4 => apS fun t5 => apS fun t6 => apS fun t7 => ap0 <|
 CM.pu (p2 (indexAddrA Tryz.prog 93) t2 t7) fun x0 =>
 CM.rm (q1 (loadA Tryz.prog 30) x0 ) fun x1 =>
 CM.pu (p2 (binA Tryz.prog .add 30) x1 (.int .u64 4294967296)) fun x2 =>
 CM.pu (p2 (indexAddrA Tryz.prog 93) t3 t7) fun x3 =>
 CM.rm (q1 (loadA Tryz.prog 30) x3 ) fun x4 =>
 CM.pu (p2 (binA Tryz.prog .sub 30) x2 x4) fun x5 =>
 CM.pu (p2 (binA Tryz.prog .sub 30) x5 t6) fun x6 =>
 CM.pu (p2 (binA Tryz.prog .rem 30) x6 (.int .u64 4294967296)) fun x7 =>
 CM.pu (p2 (indexAddrA Tryz.prog 93) t5 t7) fun x8 =>
 CM.st (fun m => stV m x8 x7 1) <|
 CM.pu (p2 (binA Tryz.prog .quo 30) x6 (.int .u64 4294967296)) fun x10 =>
 CM.pu (p2 (binA Tryz.prog .sub 30) (.int .u64 1) x10) fun x11 =>
 CM.go 409602 [t2, t3, t4, t5, x11, t7]
theorem g100_1_ok : EqD (Rl H) g100_1 (fun xs m => goR (EH H) Mk 409601 xs m) := sE fun _ => sE fun _ => sE fun _ => sE fun _ => sE fun _ => sE fun _ => zE fun _ => goR_eq 400 (by kernel_rfl)
noncomputable def g100_2 : List AV → CM := apS fun t2 => apS fun t3 => apS fun t4 => apS fun t5 => apS fun t6 => apS fun t7 => ap0 <|
 CM.pu (p2 (binA Tryz.prog .add 3) t7 (.int .i64 1)) fun x0 =>
 CM.go 409600 [t2, t3, t4, t5, t6, x0]
theorem g100_2_ok : EqD (Rl H) g100_2 (fun xs m => goR (EH H) Mk 409602 xs m) := sE fun _ => sE fun _ => sE fun _ => sE fun _ => sE fun _ => sE fun _ => zE fun _ => goR_eq 400 (by kernel_rfl)
noncomputable def g100_3 : List AV → CM := apS fun t4 => apS fun t5 => ap0 <|
 CM.rm (q1 (loadA Tryz.prog 93) t5 ) fun x0 =>
 CM.st (fun m => stV m t4 x0 16) <|
 CM.resC Tryz.prog [ResultVar.cell 0 93] [t4]
theorem g100_3_ok : EqD (Rl H) g100_3 (fun xs m => goR (EH H) Mk 409603 xs m) := sE fun _ => sE fun _ => zE fun _ => goR_eq 400 (by kernel_rfl)
noncomputable def f100 : List AV → CM := apS fun a0 => apS fun a1 => ap0 <|
 CM.al (boxA a0) fun x0 =>
 CM.al (boxA a1) fun x1 =>
 CM.al (some (.cells [(.int .u64 0), (.int .u64 0), (.int .u64 0), (.int .u64 0), (.int .u64 0), (.int .u64 0), (.int .u64 0), (.int .u64 0), (.int .u64 0), (.int .u64 0), (.int .u64 0), (.int .u64 0), (.int .u64 0), (.int .u64 0), (.int .u64 0), (.int .u64 0)] false, pB)) fun x2 =>
 CM.al (some (.cells [(.int .u64 0), (.int .u64 0), (.int .u64 0), (.int .u64 0), (.int .u64 0), (.int .u64 0), (.int .u64 0), (.int .u64 0), (.int .u64 0), (.int .u64 0), (.int .u64 0), (.int .u64 0), (.int .u64 0), (.int .u64 0), (.int .u64 0), (.int .u64 0)] false, pB)) fun x3 =>
 CM.go 409600 [x0, x1, x2, x3, (.int .u64 0), (.int .i64 0)]
theorem f100_ok (h : H 100 = none) : EqD (Rl H) f100 (fun xs m => run (EH H) (.fn 100) xs m) := sE fun _ => sE fun _ => zE fun _ => run_eq 400 h (by kernel_rfl) (by kernel_rfl)
noncomputable def f101 : List AV → CM := apS fun a0 => ap0 <|
 CM.pu (p2 (binA Tryz.prog .neq 9) a0 a0) fun x0 =>
 CM.ret x0
theorem f101_ok (h : H 101 = none) : EqD (Rl H) f101 (fun xs m => run (EH H) (.fn 101) xs m) := sE fun _ => zE fun _ => run_eq 400 h (by kernel_rfl) (by kernel_rfl)
noncomputable def f102 : List AV → CM := apS fun a0 => apS fun a1 => ap0 <|
 CM.pu (p2 (fun a h => sliceA Tryz.prog 109 a none (some h)) a0 a1) fun x0 =>
 CM.call 114 [x0] fun _ =>
 CM.pu (p2 (fun a l => sliceA Tryz.prog 109 a (some l) none) a0 a1) fun x2 =>
 CM.call 114 [x2] fun _ =>
 CM.call 114 [a0] fun _ =>
 CM.ret .undef
theorem f102_ok (h : H 102 = none) : EqD (Rl H) f102 (fun xs m => run (EH H) (.fn 102) xs m) := sE fun _ => sE fun _ => zE fun _ => run_eq 400 h (by kernel_rfl) (by kernel_rfl)
noncomputable def f103 : List AV → CM := apS fun a0 => apS fun a1 => ap0 <|
 CM.pu (p2 (fun a h => sliceA Tryz.prog 45 a none (some h)) a0 a1) fun x0 =>
 CM.call 115 [x0] fun _ =>
 CM.pu (p2 (fun a l => sliceA Tryz.prog 45 a (some l) none) a0 a1) fun x2 =>
 CM.call 115 [x2] fun _ =>
 CM.call 115 [a0] fun _ =>
 CM.ret .undef
theorem f103_ok (h : H 103 = none) : EqD (Rl H) f103 (fun xs m => run (EH H) (.fn 103) xs m) := sE fun _ => sE fun _ => zE fun _ => run_eq 400 h (by kernel_rfl) (by kernel_rfl)
noncomputable def f104 : List AV → CM := apS fun a0 => ap0 <|
 CM.pu (p2 (binA Tryz.prog .neq 30) a0 a0) fun x0 =>
 CM.ret x0
theorem f104_ok (h : H 104 = none) : EqD (Rl H) f104 (fun xs m => run (EH H) (.fn 104) xs m) := sE fun _ => zE fun _ => run_eq 400 h (by kernel_rfl) (by kernel_rfl)
noncomputable def f105 : List AV → CM := apS fun a0 => apS fun a1 => ap0 <|
 CM.pu (p2 (fun a h => sliceA Tryz.prog 114 a none (some h)) a0 a1) fun x0 =>
 CM.call 116 [x0] fun _ =>
 CM.pu (p2 (fun a l => sliceA Tryz.prog 114 a (some l) none) a0 a1) fun x2 =>
 CM.call 116 [x2] fun _ =>
 CM.call 116 [a0] fun _ =>
 CM.ret .undef
theorem f105_ok (h : H 105 = none) : EqD (Rl H) f105 (fun xs m => run (EH H) (.fn 105) xs m) := sE fun _ => sE fun _ => zE fun _ => run_eq 400 h (by kernel_rfl) (by kernel_rfl)
noncomputable def f106 : List AV → CM := apS fun a0 => apS fun a1 => ap0 <|
 CM.pu (p2 (fun a h => sliceA Tryz.prog 47 a none (some h)) a0 a1) fun x0 =>
 CM.call 117 [x0] fun _ =>
 CM.pu (p2 (fun a l => sliceA Tryz.prog 47 a (some l) none) a0 a1) fun x2 =>
 CM.call 117 [x2] fun _ =>
 CM.call 117 [a0] fun _ =>
 CM.ret .undef
theorem f106_ok (h : H 106 = none) : EqD (Rl H) f106 (fun xs m => run (EH H) (.fn 106) xs m) := sE fun _ => sE fun _ => zE fun _ => run_eq 400 h (by kernel_rfl) (by kernel_rfl)
noncomputable def g107_0 : List AV → CM := apS fun t8 => ap0 <|
 CM.rm (q1 (loadA Tryz.prog 35) t8 ) fun x0 =>
 CM.call 53 [x0] fun x1 =>
 CM.ret x1
theorem g107_0_ok : EqD (Rl H) g107_0 (fun xs m => goR (EH H) Mk 438272 xs m) := sE fun _ => zE fun _ => goR_eq 400 (by kernel_rfl)
noncomputable def f107 : List AV → CM := apS fun a0 => apS fun a1 => ap0 <|
 CM.al (boxA a0) fun x0 =>
 CM.al (boxA a1) fun x1 =>
 CM.pu (p1 (fun a => fieldAddrA Tryz.prog 37 a 1) x0) fun x2 =>
 CM.rm (q1 (loadA Tryz.prog 3) x2 ) fun x3 =>
 CM.pu (p1 (fun a => fieldAddrA Tryz.prog 37 a 1) x1) fun x4 =>
 CM.rm (q1 (loadA Tryz.prog 3) x4 ) fun x5 =>
 CM.pu (p2 (binA Tryz.prog .sub 3) x3 x5) fun x6 =>
 CM.call 113 [x6] fun x7 =>
 CM.pu (p1 (fun a => extractA a 0) x7) fun x8 =>
 CM.pu (p1 (fun a => extractA a 1) x7) fun _ =>
 CM.al (some (.cells [(.int .i64 0), (.int .u64 0)] false, pB)) fun x10 =>
 CM.st (fun m => stV m x10 x8 2) <|
 CM.pu (p1 (fun a => fieldAddrA Tryz.prog 37 a 0) x0) fun x12 =>
 CM.rm (q1 (loadA Tryz.prog 35) x12 ) fun x13 =>
 CM.rm (q1 (loadA Tryz.prog 35) x10 ) fun x14 =>
 CM.call 118 [x13, x14] fun x15 =>
 CM.pu (p1 (fun a => extractA a 0) x15) fun x16 =>
 CM.pu (p1 (fun a => extractA a 1) x15) fun x17 =>
 CM.pu (p1 (fun a => extractA a 2) x15) fun _ =>
 CM.al (some (.cells [(.int .i64 0), (.int .u64 0)] false, pB)) fun x19 =>
 CM.al (some (.cells [(.int .i64 0), (.int .u64 0)] false, pB)) fun x20 =>
 CM.st (fun m => stV m x19 x16 2) <|
 CM.st (fun m => stV m x20 x17 2) <|
 CM.rm (q1 (loadA Tryz.prog 35) x19 ) fun x23 =>
 CM.pu (p1 (fun a => fieldAddrA Tryz.prog 37 a 0) x1) fun x24 =>
 CM.rm (q1 (loadA Tryz.prog 35) x24 ) fun x25 =>
 CM.call 58 [x23, x25] fun x26 =>
 CM.pu (p2 (binA Tryz.prog .neq 3) x26 (.int .i64 0)) fun x27 =>
 CM.cond x27 (
 CM.ret x26) (
 CM.go 438272 [x20])
theorem f107_ok (h : H 107 = none) : EqD (Rl H) f107 (fun xs m => run (EH H) (.fn 107) xs m) := sE fun _ => sE fun _ => zE fun _ => run_eq 400 h (by kernel_rfl) (by kernel_rfl)
noncomputable def f108 : List AV → CM := apS fun a0 => apS fun a1 => ap0 <|
 CM.pu (p2 (fun a h => sliceA Tryz.prog 46 a none (some h)) a0 a1) fun x0 =>
 CM.call 119 [x0] fun _ =>
 CM.pu (p2 (fun a l => sliceA Tryz.prog 46 a (some l) none) a0 a1) fun x2 =>
 CM.call 119 [x2] fun _ =>
 CM.call 119 [a0] fun _ =>
 CM.ret .undef
theorem f108_ok (h : H 108 = none) : EqD (Rl H) f108 (fun xs m => run (EH H) (.fn 108) xs m) := sE fun _ => sE fun _ => zE fun _ => run_eq 400 h (by kernel_rfl) (by kernel_rfl)
noncomputable def g109_0 : List AV → CM := apS fun t1 => apS fun t2 => apS fun t4 => apS fun t6 => apS fun t7 => ap0 <|
 CM.pu (p2 (binA Tryz.prog .geq 3) t7 (.int .i64 0)) fun x0 =>
 CM.cond x0 (
 CM.go 446465 [t1, t2, t4, t6, t7]) (
 CM.go 446467 [t2, t4, t6])
theorem g109_0_ok : EqD (Rl H) g109_0 (fun xs m => goR (EH H) Mk 446464 xs m) := sE fun _ => sE fun _ => sE fun _ => sE fun _ => sE fun _ => zE fun _ => goR_eq 400 (by kernel_rfl)
noncomputable def g109_1 : List AV → CM := apS fun t1 => apS fun t2 => apS fun t4 => apS fun t6 => apS fun t7 => ap0 <|
 CM.pu (p2 (indexAddrA Tryz.prog 167) t2 t7) fun x0 =>
 CM.rm (q1 (loadA Tryz.prog 30) x0 ) fun x1 =>
 CM.call 120 [t6, x1, t1] fun x2 =>
 CM.pu (p1 (fun a => extractA a 0) x2) fun x3 =>
 CM.pu (p1 (fun a => extractA a 1) x2) fun x4 =>
 CM.pu (p2 (indexAddrA Tryz.prog 167) t2 t7) fun x5 =>
 CM.st (fun m => stV m x5 x3 1) <|
 CM.go 446466 [t1, t2, t4, x4, t7]
theorem g109_1_ok : EqD (Rl H) g109_1 (fun xs m => goR (EH H) Mk 446465 xs m) := sE fun _ => sE fun _ => sE fun _ => sE fun _ => sE fun _ => zE fun _ => goR_eq 400 (by kernel_rfl)
noncomputable def g109_2 : List AV → CM := apS fun t1 => apS fun t2 => apS fun t4 => apS fun t6 => apS fun t7 => ap0 <|
 CM.pu (p2 (binA Tryz.prog .sub 3) t7 (.int .i64 1)) fun x0 =>
 CM.go 446464 [t1, t2, t4, t6, x0]
theorem g109_2_ok : EqD (Rl H) g109_2 (fun xs m => goR (EH H) Mk 446466 xs m) := sE fun _ => sE fun _ => sE fun _ => sE fun _ => sE fun _ => zE fun _ => goR_eq 400 (by kernel_rfl)
noncomputable def g109_3 : List AV → CM := apS fun t2 => apS fun t4 => apS fun t6 => ap0 <|
 CM.rm (q1 (loadA Tryz.prog 167) t2 ) fun x0 =>
 CM.st (fun m => stV m t4 x0 4) <|
 CM.resC Tryz.prog [ResultVar.cell 0 167, ResultVar.tmp 1] [t4, t6]
theorem g109_3_ok : EqD (Rl H) g109_3 (fun xs m => goR (EH H) Mk 446467 xs m) := sE fun _ => sE fun _ => sE fun _ => zE fun _ => goR_eq 400 (by kernel_rfl)
noncomputable def f109 : List AV → CM := apS fun a0 => apS fun a1 => ap0 <|
 CM.al (boxA a0) fun x0 =>
 CM.al (some (.cells [(.int .u64 0), (.int .u64 0), (.int .u64 0), (.int .u64 0)] false, pB)) fun x1 =>
 CM.go 446464 [a1, x0, x1, (.int .u64 0), (.int .i64 3)]
theorem f109_ok (h : H 109 = none) : EqD (Rl H) f109 (fun xs m => run (EH H) (.fn 109) xs m) := sE fun _ => sE fun _ => zE fun _ => run_eq 400 h (by kernel_rfl) (by kernel_rfl)
noncomputable def f110 : List AV → CM := apS fun a0 => apS fun a1 => ap0 <|
 CM.al (boxA a0) fun x0 =>
 CM.al (boxA a1) fun x1 =>
 CM.al (some (.cells [(.int .u64 0), (.int .u64 0), (.int .u64 0), (.int .u64 0)] false, pB)) fun x2 =>
 CM.rm (q1 (loadA Tryz.prog 35) x0 ) fun x3 =>
 CM.call 121 [x3] fun x4 =>
 CM.pu (p1 (fun a => extractA a 0) x4) fun x5 =>
 CM.pu (p1 (fun a => extractA a 1) x4) fun x6 =>
 CM.rm (q1 (loadA Tryz.prog 35) x1 ) fun x7 =>
 CM.call 121 [x7] fun x8 =>
 CM.pu (p1 (fun a => extractA a 0) x8) fun x9 =>
 CM.pu (p1 (fun a => extractA a 1) x8) fun x10 =>
 CM.al (some (.cells [(.int .u64 0), (.int .u64 0), (.int .u64 0), (.int .u64 0)] false, pB)) fun x11 =>
 CM.call 122 [x6, x10] fun x12 =>
 CM.pu (p1 (fun a => extractA a 0) x12) fun x13 =>
 CM.pu (p1 (fun a => extractA a 1) x12) fun x14 =>
 CM.pu (p2 (indexAddrA Tryz.prog 167) x11 (.int .i64 1)) fun x15 =>
 CM.st (fun m => stV m x15 x13 1) <|
 CM.pu (p2 (indexAddrA Tryz.prog 167) x11 (.int .i64 0)) fun x17 =>
 CM.st (fun m => stV m x17 x14 1) <|
 CM.callv (.fn (.func 123) [] [x11]) [x6, x9, (.int .i64 1)] fun _ =>
 CM.callv (.fn (.func 123) [] [x11]) [x5, x10, (.int .i64 1)] fun _ =>
 CM.callv (.fn (.func 123) [] [x11]) [x5, x9, (.int .i64 2)] fun _ =>
 CM.rm (q1 (loadA Tryz.prog 167) x11 ) fun x22 =>
 CM.st (fun m => stV m x2 x22 4) <|
 CM.resC Tryz.prog [ResultVar.cell 0 167] [x2]
theorem f110_ok (h : H 110 = none) : EqD (Rl H) f110 (fun xs m => run (EH H) (.fn 110) xs m) := sE fun _ => sE fun _ => zE fun _ => run_eq 400 h (by kernel_rfl) (by kernel_rfl)
noncomputable def g111_0 : List AV → CM := apS fun t0 => apS fun t3 => ap0 <|
 CM.pu (p2 (binA Tryz.prog .gtr 3) t0 (.int .i64 0)) fun x0 =>
 CM.cond x0 (
 CM.go 454657 [t0, t3]) (
 CM.go 454659 [t3])
theorem g111_0_ok : EqD (Rl H) g111_0 (fun xs m => goR (EH H) Mk 454656 xs m) := sE fun _ => sE fun _ => zE fun _ => goR_eq 400 (by kernel_rfl)
noncomputable def g111_1 : List AV → CM := apS fun t0 => apS fun t3 => ap0 <|
 CM.pu (p2 (binA Tryz.prog .mul 30) t3 (.int .u64 10)) fun x0 =>
 CM.go 454658 [t0, x0]
theorem g111_1_ok : EqD (Rl H) g111_1 (fun xs m => goR (EH H) Mk 454657 xs m) := sE fun _ => sE fun _ => zE fun _ => goR_eq 400 (by kernel_rfl)
noncomputable def g111_2 : List AV → CM := apS fun t0 => apS fun t3 => ap0 <|
 CM.pu (p2 (binA Tryz.prog .sub 3) t0 (.int .i64 1)) fun x0 =>
 CM.go 454656 [x0, t3]
theorem g111_2_ok : EqD (Rl H) g111_2 (fun xs m => goR (EH H) Mk 454658 xs m) := sE fun _ => sE fun _ => zE fun _ => goR_eq 400 (by kernel_rfl)
noncomputable def g111_3 : List AV → CM := apS fun t3 => ap0 <|
 CM.ret t3
theorem g111_3_ok : EqD (Rl H) g111_3 (fun xs m => goR (EH H) Mk 454659 xs m) := sE fun _ => zE fun _ => goR_eq 400 (by kernel_rfl)
noncomputable def f111 : List AV → CM := apS fun a0 => ap0 <|
 CM.go 454656 [a0, (.int .u64 1)]
theorem f111_ok (h : H 111 = none) : EqD (Rl H) f111 (fun xs m => run (EH H) (.fn 111) xs m) := sE fun _ => zE fun _ => run_eq 400 h (by kernel_rfl) (by kernel_rfl)
noncomputable def g112_0 : List AV → CM := apS fun t0 => apS fun t3 => apS fun t4 => ap0 <|
 CM.pu (p2 (indexAddrA Tryz.prog 167) t3 (.int .i64 1)) fun x0 =>
 CM.rm (q1 (loadA Tryz.prog 30) x0 ) fun x1 =>
 CM.pu (p2 (indexAddrA Tryz.prog 167) t3 (.int .i64 0)) fun x2 =>
 CM.rm (q1 (loadA Tryz.prog 30) x2 ) fun x3 =>
 CM.call 124 [t0, x1, x3] fun x4 =>
 CM.pu (p1 (fun a => extractA a 0) x4) fun x5 =>
 CM.pu (p1 (fun a => extractA a 1) x4) fun x6 =>
 CM.st (fun m => stV m t4 x5 2) <|
 CM.resC Tryz.prog [ResultVar.cell 0 35, ResultVar.tmp 1] [t4, x6]
theorem g112_0_ok : EqD (Rl H) g112_0 (fun xs m => goR (EH H) Mk 458752 xs m) := sE fun _ => sE fun _ => sE fun _ => zE fun _ => goR_eq 400 (by kernel_rfl)
noncomputable def f112 : List AV → CM := apS fun a0 => apS fun a1 => ap0 <|
 CM.al (boxA a1) fun x0 =>
 CM.al (some (.cells [(.int .i64 0), (.int .u64 0)] false, pB)) fun x1 =>
 CM.pu (p2 (indexAddrA Tryz.prog 167) x0 (.int .i64 3)) fun x2 =>
 CM.rm (q1 (loadA Tryz.prog 30) x2 ) fun x3 =>
 CM.pu (p2 (binA Tryz.prog .neq 30) x3 (.int .u64 0)) fun x4 =>
 CM.ifv x4 (
 CM.pu (p1 (buildA Tryz.prog 35) []) fun x5 =>
 CM.st (fun m => stV m x1 x5 2) <|
 CM.resC Tryz.prog [ResultVar.cell 0 35, ResultVar.tmp 1] [x1, (.int .i64 20)]) (
 CM.pu (p2 (indexAddrA Tryz.prog 167) x0 (.int .i64 2)) fun x7 =>
 CM.rm (q1 (loadA Tryz.prog 30) x7 ) fun x8 =>
 CM.pu (p2 (binA Tryz.prog .neq 30) x8 (.int .u64 0)) fun x9 =>
 CM.cond x9 (
 CM.pu (p1 (buildA Tryz.prog 35) []) fun x10 =>
 CM.st (fun m => stV m x1 x10 2) <|
 CM.resC Tryz.prog [ResultVar.cell 0 35, ResultVar.tmp 1] [x1, (.int .i64 20)]) (
 CM.go 458752 [a0, x0, x1]))
theorem f112_ok (h : H 112 = none) : EqD (Rl H) f112 (fun xs m => run (EH H) (.fn 112) xs m) := sE fun _ => sE fun _ => zE fun _ => run_eq 400 h (by kernel_rfl) (by kernel_rfl)
noncomputable def g113_0 : List AV → CM := apS fun t0 => apS fun t2 => ap0 <|
 CM.pu (p1 (buildA Tryz.prog 35) [(1, (.int .u64 1))]) fun x0 =>
 CM.al (some (.cells [(.int .i64 0), (.int .u64 0)] false, pB)) fun x1 =>
 CM.st (fun m => stV m x1 x0 2) <|
 CM.go 462849 [t0, t2, x1]
theorem g113_0_ok : EqD (Rl H) g113_0 (fun xs m => goR (EH H) Mk 462848 xs m) := sE fun _ => sE fun _ => zE fun _ => goR_eq 400 (by kernel_rfl)
noncomputable def g113_1 : List AV → CM := apS fun t0 => apS fun t2 => apS fun t4 => ap0 <|
 CM.pu (p2 (binA Tryz.prog .gtr 3) t0 (.int .i64 0)) fun x0 =>
 CM.cond x0 (
 CM.go 462850 [t0, t2, t4]) (
 CM.go 462852 [t2, t4])
theorem g113_1_ok : EqD (Rl H) g113_1 (fun xs m => goR (EH H) Mk 462849 xs m) := sE fun _ => sE fun _ => sE fun _ => zE fun _ => goR_eq 400 (by kernel_rfl)
noncomputable def g113_2 : List AV → CM := apS fun t0 => apS fun t2 => apS fun t4 => ap0 <|
 CM.rm (q1 (loadA Tryz.prog 35) t4 ) fun x0 =>
 CM.pu (p1 (buildA Tryz.prog 35) [(1, (.int .u64 10))]) fun x1 =>
 CM.call 98 [x0, x1] fun x2 =>
 CM.pu (p1 (fun a => extractA a 0) x2) fun x3 =>
 CM.pu (p1 (fun a => extractA a 1) x2) fun _ =>
 CM.st (fun m => stV m t4 x3 2) <|
 CM.go 462851 [t0, t2, t4]
theorem g113_2_ok : EqD (Rl H) g113_2 (fun xs m => goR (EH H) Mk 462850 xs m) := sE fun _ => sE fun _ => sE fun _ => zE fun _ => goR_eq 400 (by kernel_rfl)
noncomputable def g113_3 : List AV → CM := apS fun t0 => apS fun t2 => apS fun t4 => ap0 <|
 CM.pu (p2 (binA Tryz.prog .sub 3) t0 (.int .i64 1)) fun x0 =>
 CM.go 462849 [x0, t2, t4]
theorem g113_3_ok : EqD (Rl H) g113_3 (fun xs m => goR (EH H) Mk 462851 xs m) := sE fun _ => sE fun _ => sE fun _ => zE fun _ => goR_eq 400 (by kernel_rfl)
noncomputable def g113_4 : List AV → CM := apS fun t2 => apS fun t4 => ap0 <|
 CM.rm (q1 (loadA Tryz.prog 35) t4 ) fun x0 =>
 CM.st (fun m => stV m t2 x0 2) <|
 CM.resC Tryz.prog [ResultVar.cell 0 35, ResultVar.tmp 1] [t2, (.int .i64 0)]
theorem g113_4_ok : EqD (Rl H) g113_4 (fun xs m => goR (EH H) Mk 462852 xs m) := sE fun _ => sE fun _ => zE fun _ => goR_eq 400 (by kernel_rfl)
noncomputable def f113 : List AV → CM := apS fun a0 => ap0 <|
 CM.al (some (.cells [(.int .i64 0), (.int .u64 0)] false, pB)) fun x0 =>
 CM.pu (p2 (binA Tryz.prog .lss 3) a0 (.int .i64 0)) fun x1 =>
 CM.ifv x1 (
 CM.pu (p1 (buildA Tryz.prog 35) []) fun x2 =>
 CM.st (fun m => stV m x0 x2 2) <|
 CM.resC Tryz.prog [ResultVar.cell 0 35, ResultVar.tmp 1] [x0, (.int .i64 1)]) (
 CM.pu (p2 (binA Tryz.prog .gtr 3) a0 (.int .i64 38)) fun x4 =>
 CM.cond x4 (
 CM.pu (p1 (buildA Tryz.prog 35) []) fun x5 =>
 CM.st (fun m => stV m x0 x5 2) <|
 CM.resC Tryz.prog [ResultVar.cell 0 35, ResultVar.tmp 1] [x0, (.int .i64 1)]) (
 CM.go 462848 [a0, x0]))
theorem f113_ok (h : H 113 = none) : EqD (Rl H) f113 (fun xs m => run (EH H) (.fn 113) xs m) := sE fun _ => zE fun _ => run_eq 400 h (by kernel_rfl) (by kernel_rfl)
noncomputable def g114_0 : List AV → CM := apS fun t0 => apS fun t2 => apS fun t3 => ap0 <|
 CM.pu (p2 (binA Tryz.prog .lss 3) t2 t3) fun x0 =>
 CM.cond x0 (
 CM.go 466945 [t0, t2, t3]) (
 CM.ret .undef)
theorem g114_0_ok : EqD (Rl H) g114_0 (fun xs m => goR (EH H) Mk 466944 xs m) := sE fun _ => sE fun _ => sE fun _ => zE fun _ => goR_eq 400 (by kernel_rfl)
noncomputable def g114_1 : List AV → CM := apS fun t0 => apS fun t2 => apS fun t3 => ap0 <|
 CM.pu (p2 (indexAddrA Tryz.prog 109) t0 t3) fun x0 =>
 CM.rm (q1 (loadA Tryz.prog 9) x0 ) fun x1 =>
 CM.pu (p2 (indexAddrA Tryz.prog 109) t0 t2) fun x2 =>
 CM.rm (q1 (loadA Tryz.prog 9) x2 ) fun x3 =>
 CM.pu (p2 (indexAddrA Tryz.prog 109) t0 t2) fun x4 =>
 CM.st (fun m => stV m x4 x1 1) <|
 CM.pu (p2 (indexAddrA Tryz.prog 109) t0 t3) fun x8 =>
 CM.st (fun m => stV m x8 x3 1) <|
 CM.go 466946 [t0, t2, t3]
theorem g114_1_ok : EqD (Rl H) g114_1 (fun xs m => goR (EH H) Mk 466945 xs m) := sE fun _ => sE fun _ => sE fun _ => zE fun _ => goR_eq 400 (by kernel_rfl)
noncomputable def g114_2 : List AV → CM := apS fun t0 => apS fun t2 => apS fun t3 => ap0 <|
 CM.pu (p2 (binA Tryz.prog .add 3) t2 (.int .i64 1)) fun x0 =>
 CM.pu (p2 (binA Tryz.prog .sub 3) t3 (.int .i64 1)) fun x1 =>
 CM.go 466944 [t0, x0, x1]
theorem g114_2_ok : EqD (Rl H) g114_2 (fun xs m => goR (EH H) Mk 466946 xs m) := sE fun _ => sE fun _ => sE fun _ => zE fun _ => goR_eq 400 (by kernel_rfl)
noncomputable def f114 : List AV → CM := apS fun a0 => ap0 <|
 CM.pu (p1 (lenT Tryz.prog 109) a0) fun x0 =>
 CM.pu (p2 (binA Tryz.prog .sub 3) x0 (.int .i64 1)) fun x1 =>
 CM.go 466944 [a0, (.int .i64 0), x1]
theorem f114_ok (h : H 114 = none) : EqD (Rl H) f114 (fun xs m => run (EH H) (.fn 114) xs m) := sE fun _ => zE fun _ => run_eq 400 h (by kernel_rfl) (by kernel_rfl)
noncomputable def g115_0 : List AV → CM := apS fun t0 => apS fun t2 => apS fun t3 => ap0 <|
 CM.pu (p2 (binA Tryz.prog .lss 3) t2 t3) fun x0 =>
 CM.cond x0 (
 CM.go 471041 [t0, t2, t3]) (
 CM.ret .undef)
theorem g115_0_ok : EqD (Rl H) g115_0 (fun xs m => goR (EH H) Mk 471040 xs m) := sE fun _ => sE fun _ => sE fun _ => zE fun _ => goR_eq 400 (by kernel_rfl)
noncomputable def g115_1 : List AV → CM := apS fun t0 => apS fun t2 => apS fun t3 => ap0 <|
 CM.pu (p2 (indexAddrA Tryz.prog 45) t0 t3) fun x0 =>
 CM.rm (q1 (loadA Tryz.prog 64) x0 ) fun x1 =>
 CM.pu (p2 (indexAddrA Tryz.prog 45) t0 t2) fun x2 =>
 CM.rm (q1 (loadA Tryz.prog 64) x2 ) fun x3 =>
 CM.pu (p2 (indexAddrA Tryz.prog 45) t0 t2) fun x4 =>
 CM.st (fun m => stV m x4 x1 4) <|
 CM.pu (p2 (indexAddrA Tryz.prog 45) t0 t3) fun x8 =>
 CM.st (fun m => stV m x8 x3 4) <|
 CM.go 471042 [t0, t2, t3]
theorem g115_1_ok : EqD (Rl H) g115_1 (fun xs m => goR (EH H) Mk 471041 xs m) := sE fun _ => sE fun _ => sE fun _ => zE fun _ => goR_eq 400 (by kernel_rfl)
noncomputable def g115_2 : List AV → CM := apS fun t0 => apS fun t2 => apS fun t3 => ap0 <|
 CM.pu (p2 (binA Tryz.prog .add 3) t2 (.int .i64 1)) fun x0 =>
 CM.pu (p2 (binA Tryz.prog .sub 3) t3 (.int .i64 1)) fun x1 =>
 CM.go 471040 [t0, x0, x1]
theorem g115_2_ok : EqD (Rl H) g115_2 (fun xs m => goR (EH H) Mk 471042 xs m) := sE fun _ => sE fun _ => sE fun _ => zE fun _ => goR_eq 400 (by kernel_rfl)
noncomputable def f115 : List AV → CM := apS fun a0 => ap0 <|
 CM.pu (p1 (lenT Tryz.prog 45) a0) fun x0 =>
 CM.pu (p2 (binA Tryz.prog .sub 3) x0 (.int .i64 1)) fun x1 =>
 CM.go 471040 [a0, (.int .i64 0), x1]
theorem f115_ok (h : H 115 = none) : EqD (Rl H) f115 (fun xs m => run (EH H) (.fn 115) xs m) := sE fun _ => zE fun _ => run_eq 400 h (by kernel_rfl) (by kernel_rfl)
noncomputable def g116_0 : List AV → CM := apS fun t0 => apS fun t2 => apS fun t3 => ap0 <|
 CM.pu (p2 (binA Tryz.prog .lss 3) t2 t3) fun x0 =>
 CM.cond x0 (
 CM.go 475137 [t0, t2, t3]) (
 CM.ret .undef)
theorem g116_0_ok : EqD (Rl H) g116_0 (fun xs m => goR (EH H) Mk 475136 xs m) := sE fun _ => sE fun _ => sE fun _ => zE fun _ => goR_eq 400 (by kernel_rfl)
noncomputable def g116_1 : List AV → CM := apS fun t0 => apS fun t2 => apS fun t3 => ap0 <|
 CM.pu (p2 (indexAddrA Tryz.prog 114) t0 t3) fun x0 =>
 CM.rm (q1 (loadA Tryz.prog 30) x0 ) fun x1 =>
 CM.pu (p2 (indexAddrA Tryz.prog 114) t0 t2) fun x2 =>
 CM.rm (q1 (loadA Tryz.prog 30) x2 ) fun x3 =>
 CM.pu (p2 (indexAddrA Tryz.prog 114) t0 t2) fun x4 =>
 CM.st (fun m => stV m x4 x1 1) <|
 CM.pu (p2 (indexAddrA Tryz.prog 114) t0 t3) fun x8 =>
 CM.st (fun m => stV m x8 x3 1) <|
 CM.go 475138 [t0, t2, t3]
theorem g116_1_ok : EqD (Rl H) g116_1 (fun xs m => goR (EH H) Mk 475137 xs m) := sE fun _ => sE fun _ => sE fun _ => zE fun _ => goR_eq 400 (by kernel_rfl)
noncomputable def g116_2 : List AV → CM := apS fun t0 => apS fun t2 => apS fun t3 => ap0 <|
 CM.pu (p2 (binA Tryz.prog .add 3) t2 (.int .i64 1)) fun x0 =>
 CM.pu (p2 (binA Tryz.prog .sub 3) t3 (.int .i64 1)) fun x1 =>
 CM.go 475136 [t0, x0, x1]
theorem g116_2_ok : EqD (Rl H) g116_2 (fun xs m => goR (EH H) Mk 475138 xs m) := sE fun _ => sE fun _ => sE fun _ => zE fun _ => goR_eq 400 (by kernel_rfl)
noncomputable def f116 : List AV → CM := apS fun a0 => ap0 <|
 CM.pu (p1 (lenT Tryz.prog 114) a0) fun x0 =>
 CM.pu (p2 (binA Tryz.prog .sub 3) x0 (.int .i64 1)) fun x1 =>
 CM.go 475136 [a0, (.int .i64 0), x1]
theorem f116_ok (h : H 116 = none) : EqD (Rl H) f116 (fun xs m => run (EH H) (.fn 116) xs m) := sE fun _ => zE fun _ => run_eq 400 h (by kernel_rfl) (by kernel_rfl)
noncomputable def g117_0 : List AV → CM := apS fun t0 => apS fun t2 => apS fun t3 => ap0 <|
 CM.pu (p2 (binA Tryz.prog .lss 3) t2 t3) fun x0 =>
 CM.cond x0 (
 CM.go 479233 [t0, t2, t3]) (
 CM.ret .undef)
theorem g117_0_ok : EqD (Rl H) g117_0 (fun xs m => goR (EH H) Mk 479232 xs m) := sE fun _ => sE fun _ => sE fun _ => zE fun _ => goR_eq 400 (by kernel_rfl)
noncomputable def g117_1 : List AV → CM := apS fun t0 => apS fun t2 => apS fun t3 => ap0 <|
 CM.pu (p2 (indexAddrA Tryz.prog 47) t0 t3) fun x0 =>
 CM.rm (q1 (loadA Tryz.prog 70) x0 ) fun x1 =>
 CM.pu (p2 (indexAddrA Tryz.prog 47) t0 t2) fun x2 =>
 CM.rm (q1 (loadA Tryz.prog 70) x2 ) fun x3 =>
 CM.pu (p2 (indexAddrA Tryz.prog 47) t0 t2) fun x4 =>
 CM.st (fun m => stV m x4 x1 4) <|
 CM.pu (p2 (indexAddrA Tryz.prog 47) t0 t3) fun x8 =>
 CM.st (fun m => stV m x8 x3 4) <|
 CM.go 479234 [t0, t2, t3]
theorem g117_1_ok : EqD (Rl H) g117_1 (fun xs m => goR (EH H) Mk 479233 xs m) := sE fun _ => sE fun _ => sE fun _ => zE fun _ => goR_eq 400 (by kernel_rfl)
noncomputable def g117_2 : List AV → CM := apS fun t0 => apS fun t2 => apS fun t3 => ap0 <|
 CM.pu (p2 (binA Tryz.prog .add 3) t2 (.int .i64 1)) fun x0 =>
 CM.pu (p2 (binA Tryz.prog .sub 3) t3 (.int .i64 1)) fun x1 =>
 CM.go 479232 [t0, x0, x1]
theorem g117_2_ok : EqD (Rl H) g117_2 (fun xs m => goR (EH H) Mk 479234 xs m) := sE fun _ => sE fun _ => sE fun _ => zE fun _ => goR_eq 400 (by kernel_rfl)
noncomputable def f117 : List AV → CM := apS fun a0 => ap0 <|
 CM.pu (p1 (lenT Tryz.prog 47) a0) fun x0 =>
 CM.pu (p2 (binA Tryz.prog .sub 3) x0 (.int .i64 1)) fun x1 =>
 CM.go 479232 [a0, (.int .i64 0), x1]
theorem f117_ok (h : H 117 = none) : EqD (Rl H) f117 (fun xs m => run (EH H) (.fn 117) xs m) := sE fun _ => zE fun _ => run_eq 400 h (by kernel_rfl) (by kernel_rfl)
noncomputable def g118_0 : List AV → CM := apS fun t2 => apS fun t3 => apS fun t4 => apS fun t5 => ap0 <|
 CM.rm (q1 (loadA Tryz.prog 35) t2 ) fun x0 =>
 CM.call 121 [x0] fun x1 =>
 CM.pu (p1 (fun a => extractA a 0) x1) fun x2 =>
 CM.pu (p1 (fun a => extractA a 1) x1) fun x3 =>
 CM.rm (q1 (loadA Tryz.prog 35) t3 ) fun x4 =>
 CM.call 121 [x4] fun x5 =>
 CM.pu (p1 (fun a => extractA a 0) x5) fun x6 =>
 CM.pu (p1 (fun a => extractA a 1) x5) fun x7 =>
 CM.pu (p2 (binA Tryz.prog .eql 30) x6 (.int .u64 0)) fun x8 =>
 CM.cond x8 (
 CM.pu (p2 (binA Tryz.prog .quo 30) x2 x7) fun x9 =>
 CM.pu (p2 (binA Tryz.prog .rem 30) x2 x7) fun x10 =>
 CM.call 120 [x10, x3, x7] fun x11 =>
 CM.pu (p1 (fun a => extractA a 0) x11) fun x12 =>
 CM.pu (p1 (fun a => extractA a 1) x11) fun x13 =>
 CM.go 483332 [t2, t3, t4, t5, x9, x12, (.int .u64 0), x13]) (
 CM.call 125 [x6] fun x14 =>
 CM.go 483329 [t2, t3, t4, t5, x6, x7, (.int .u64 0), (.int .u64 0), x2, x3, x14])
theorem g118_0_ok : EqD (Rl H) g118_0 (fun xs m => goR (EH H) Mk 483328 xs m) := sE fun _ => sE fun _ => sE fun _ => sE fun _ => zE fun _ => goR_eq 400 (by kernel_rfl)
noncomputable def g118_1 : List AV → CM := apS fun t2 => apS fun t3 => apS fun t4 => apS fun t5 => apS fun t9 => apS fun t10 => apS fun t11 => apS fun t12 => apS fun t13 => apS fun t14 => apS fun t15 => ap0 <|
 CM.pu (p2 (binA Tryz.prog .geq 3) t15 (.int .i64 0)) fun x0 =>
 CM.cond x0 (
 CM.go 483330 [t2, t3, t4, t5, t9, t10, t11, t12, t13, t14, t15]) (
 CM.go 483332 [t2, t3, t4, t5, t11, t12, t13, t14])
theorem g118_1_ok : EqD (Rl H) g118_1 (fun xs m => goR (EH H) Mk 483329 xs m) := sE fun _ => sE fun _ => sE fun _ => sE fun _ => sE fun _ => sE fun _ => sE fun _ => sE fun _ => sE fun _ => sE fun _ => sE fun _ => zE fun _ => goR_eq 400 (by kernel_rfl)
noncomputable def g118_2 : List AV → CM := apS fun t2 => apS fun t3 => apS fun t4 => apS fun t5 => apS fun t9 => apS fun t10 => apS fun t11 => apS fun t12 => apS fun t13 => apS fun t14 => apS fun t15 => ap0 <|
 CM.pu (p2 (binA Tryz.prog .shl 30) t9 t15) fun x0 =>
 CM.pu (p2 (binA Tryz.prog .shr 30) t10 (.int .u64 1)) fun x1 =>
 CM.pu (p2 (binA Tryz.prog .sub 3) (.int .i64 63) t15) fun x2 =>
 CM.pu (p2 (binA Tryz.prog .shr 30) x1 x2) fun x3 =>
 CM.pu (p2 (binA Tryz.prog .or 30) x0 x3) fun x4 =>
 CM.pu (p2 (binA Tryz.prog .shl 30) t10 t15) fun x5 =>
 CM.pu (p2 (binA Tryz.prog .gtr 30) t13 x4) fun x6 =>
 CM.ifv x6 (
 CM.call 79 [t14, x5, (.int .u64 0)] fun x7 =>
 CM.pu (p1 (fun a => extractA a 0) x7) fun x8 =>
 CM.pu (p1 (fun a => extractA a 1) x7) fun x9 =>
 CM.call 79 [t13, x4, x9] fun x10 =>
 CM.pu (p1 (fun a => extractA a 0) x10) fun x11 =>
 CM.pu (p1 (fun a => extractA a 1) x10) fun _ =>
 CM.pu (p2 (binA Tryz.prog .shl 30) (.int .u64 1) t15) fun x13 =>
 CM.pu (p2 (binA Tryz.prog .or 30) t12 x13) fun x14 =>
 CM.go 483331 [t2, t3, t4, t5, t9, t10, t11, x14, x11, x8, t15]) (
 CM.pu (p2 (binA Tryz.prog .eql 30) t13 x4) fun x15 =>
 CM.ifv x15 (
 CM.pu (p2 (binA Tryz.prog .geq 30) t14 x5) fun x16 =>
 CM.cond x16 (
 CM.call 79 [t14, x5, (.int .u64 0)] fun x17 =>
 CM.pu (p1 (fun a => extractA a 0) x17) fun x18 =>
 CM.pu (p1 (fun a => extractA a 1) x17) fun x19 =>
 CM.call 79 [t13, x4, x19] fun x20 =>
 CM.pu (p1 (fun a => extractA a 0) x20) fun x21 =>
 CM.pu (p1 (fun a => extractA a 1) x20) fun _ =>
 CM.pu (p2 (binA Tryz.prog .shl 30) (.int .u64 1) t15) fun x23 =>
 CM.pu (p2 (binA Tryz.prog .or 30) t12 x23) fun x24 =>
 CM.go 483331 [t2, t3, t4, t5, t9, t10, t11, x24, x21, x18, t15]) (
 CM.go 483331 [t2, t3, t4, t5, t9, t10, t11, t12, t13, t14, t15])) (
 CM.go 483331 [t2, t3, t4, t5, t9, t10, t11, t12, t13, t14, t15]))
theorem g118_2_ok : EqD (Rl H) g118_2 (fun xs m => goR (EH H) Mk 483330 xs m) := sE fun _ => sE fun _ => sE fun _ => sE fun _ => sE fun _ => sE fun _ => sE fun _ => sE fun _ => sE fun _ => sE fun _ => sE fun _ => zE fun _ => goR_eq 400 (by kernel_rfl)
noncomputable def g118_3 : List AV → CM := apS fun t2 => apS fun t3 => apS fun t4 => apS fun t5 => apS fun t9 => apS fun t10 => apS fun t11 => apS fun t12 => apS fun t13 => apS fun t14 => apS fun t15 => ap0 <|
 CM.pu (p2 (binA Tryz.prog .sub 3) t15 (.int .i64 1)) fun x0 =>
 CM.go 483329 [t2, t3, t4, t5, t9, t10, t11, t12, t13, t14, x0]
theorem g118_3_ok : EqD (Rl H) g118_3 (fun xs m => goR (EH H) Mk 483331 xs m) := sE fun _ => sE fun _ => sE fun _ => sE fun _ => sE fun _ => sE fun _ => sE fun _ => sE fun _ => sE fun _ => sE fun _ => sE fun _ => zE fun _ => goR_eq 400 (by kernel_rfl)
noncomputable def g118_4 : List AV → CM := apS fun t2 => apS fun t3 => apS fun t4 => apS fun t5 => apS fun t11 => apS fun t12 => apS fun t13 => apS fun t14 => ap0 <|
 CM.pu (p1 (fun a => fieldAddrA Tryz.prog 35 a 0) t2) fun x0 =>
 CM.rm (q1 (loadA Tryz.prog 2) x0 ) fun x1 =>
 CM.pu (p2 (binA Tryz.prog .lss 2) x1 (.int .i64 0)) fun x2 =>
 CM.pu (p1 (fun a => fieldAddrA Tryz.prog 35 a 0) t3) fun x3 =>
 CM.rm (q1 (loadA Tryz.prog 2) x3 ) fun x4 =>
 CM.pu (p2 (binA Tryz.prog .lss 2) x4 (.int .i64 0)) fun x5 =>
 CM.pu (p2 (binA Tryz.prog .neq 4) x2 x5) fun x6 =>
 CM.call 124 [x6, t11, t12] fun x7 =>
 CM.pu (p1 (fun a => extractA a 0) x7) fun x8 =>
 CM.pu (p1 (fun a => extractA a 1) x7) fun x9 =>
 CM.st (fun m => stV m t4 x8 2) <|
 CM.pu (p2 (binA Tryz.prog .neq 25) x9 (.int .i64 0)) fun x11 =>
 CM.cond x11 (
 CM.pu (p1 (buildA Tryz.prog 35) []) fun x12 =>
 CM.pu (p1 (buildA Tryz.prog 35) []) fun x13 =>
 CM.st (fun m => stV m t4 x12 2) <|
 CM.st (fun m => stV m t5 x13 2) <|
 CM.resC Tryz.prog [ResultVar.cell 0 35, ResultVar.cell 1 35, ResultVar.tmp 2] [t4, t5, x9]) (
 CM.go 483333 [t2, t4, t5, t13, t14])
theorem g118_4_ok : EqD (Rl H) g118_4 (fun xs m => goR (EH H) Mk 483332 xs m) := sE fun _ => sE fun _ => sE fun _ => sE fun _ => sE fun _ => sE fun _ => sE fun _ => sE fun _ => zE fun _ => goR_eq 400 (by kernel_rfl)
noncomputable def g118_5 : List AV → CM := apS fun t2 => apS fun t4 => apS fun t5 => apS fun t13 => apS fun t14 => ap0 <|
 CM.pu (p1 (fun a => fieldAddrA Tryz.prog 35 a 0) t2) fun x0 =>
 CM.rm (q1 (loadA Tryz.prog 2) x0 ) fun x1 =>
 CM.pu (p2 (binA Tryz.prog .lss 2) x1 (.int .i64 0)) fun x2 =>
 CM.call 124 [x2, t13, t14] fun x3 =>
 CM.pu (p1 (fun a => extractA a 0) x3) fun x4 =>
 CM.pu (p1 (fun a => extractA a 1) x3) fun _ =>
 CM.st (fun m => stV m t5 x4 2) <|
 CM.rm (q1 (loadA Tryz.prog 35) t4 ) fun x7 =>
 CM.rm (q1 (loadA Tryz.prog 35) t5 ) fun x8 =>
 CM.st (fun m => stV m t4 x7 2) <|
 CM.memo fun m11 =>
 CM.chk (q1 (loadA Tryz.prog 35) t5 m11) x8 <|
 CM.st (fun m => stV m t5 x8 2) <|
 CM.resC Tryz.prog [ResultVar.cell 0 35, ResultVar.cell 1 35, ResultVar.tmp 2] [t4, t5, (.int .i64 0)]
theorem g118_5_ok : EqD (Rl H) g118_5 (fun xs m => goR (EH H) Mk 483333 xs m) := sE fun _ => sE fun _ => sE fun _ => sE fun _ => sE fun _ => zE fun _ => goR_eq 400 (by kernel_rfl)
noncomputable def f118 : List AV → CM := apS fun a0 => apS fun a1 => ap0 <|
 CM.al (boxA a0) fun x0 =>
 CM.al (boxA a1) fun x1 =>
 CM.al (some (.cells [(.int .i64 0), (.int .u64 0)] false, pB)) fun x2 =>
 CM.al (some (.cells [(.int .i64 0), (.int .u64 0)] false, pB)) fun x3 =>
 CM.rm (q1 (loadA Tryz.prog 35) x1 ) fun x4 =>
 CM.pu (p1 (buildA Tryz.prog 35) []) fun x5 =>
 CM.pu (p2 (binA Tryz.prog .eql 35) x4 x5) fun x6 =>
 CM.cond x6 (
 CM.rm (q1 (loadA Tryz.prog 35) x2 ) fun x7 =>
 CM.rm (q1 (loadA Tryz.prog 35) x3 ) fun x8 =>
 CM.st (fun m => stV m x2 x7 2) <|
 CM.memo fun m11 =>
 CM.chk (q1 (loadA Tryz.prog 35) x3 m11) x8 <|
 CM.st (fun m => stV m x3 x8 2) <|
 CM.resC Tryz.prog [ResultVar.cell 0 35, ResultVar.cell 1 35, ResultVar.tmp 2] [x2, x3, (.int .i64 22)]) (
 CM.go 483328 [x0, x1, x2, x3])
theorem f118_ok (h : H 118 = none) : EqD (Rl H) f118 (fun xs m => run (EH H) (.fn 118) xs m) := sE fun _ => sE fun _ => zE fun _ => run_eq 400 h (by kernel_rfl) (by kernel_rfl)
end Go.Proofs.YtlginbmjiecglaaGreat.T
end
section
namespace Go.Proofs.YtlginbmjiecglaaGreat.T
open Go Go.Abs Go.Proofs.YtlginbmjiecglaaGreat
set_option maxRecDepth 10000
variable {H : FuncId → Option (List AV → Mem → R)}
noncomputable def g119_0 : List AV → CM := apS fun t0 => apS fun t2 => apS fun t3 => ap0 <|
 CM.pu (p2 (binA Tryz.prog .lss 3) t2 t3) fun x0 =>
 CM.cond x0 (
 CM.go 487425 [t0, t2, t3]) (
 CM.ret .undef)
theorem g119_0_ok : EqD (Rl H) g119_0 (fun xs m => goR (EH H) Mk 487424 xs m) := sE fun _ => sE fun _ => sE fun _ => zE fun _ => goR_eq 400 (by kernel_rfl)
noncomputable def g119_1 : List AV → CM := apS fun t0 => apS fun t2 => apS fun t3 => ap0 <|
 CM.pu (p2 (indexAddrA Tryz.prog 46) t0 t3) fun x0 =>
 CM.rm (q1 (loadA Tryz.prog 54) x0 ) fun x1 =>
 CM.pu (p2 (indexAddrA Tryz.prog 46) t0 t2) fun x2 =>
 CM.rm (q1 (loadA Tryz.prog 54) x2 ) fun x3 =>
 CM.pu (p2 (indexAddrA Tryz.prog 46) t0 t2) fun x4 =>
 CM.st (fun m => stV m x4 x1 9) <|
 CM.pu (p2 (indexAddrA Tryz.prog 46) t0 t3) fun x8 =>
 CM.st (fun m => stV m x8 x3 9) <|
 CM.go 487426 [t0, t2, t3]
theorem g119_1_ok : EqD (Rl H) g119_1 (fun xs m => goR (EH H) Mk 487425 xs m) := sE fun _ => sE fun _ => sE fun _ => zE fun _ => goR_eq 400 (by kernel_rfl)
noncomputable def g119_2 : List AV → CM := apS fun t0 => apS fun t2 => apS fun t3 => ap0 <|
 CM.pu (p2 (binA Tryz.prog .add 3) t2 (.int .i64 1)) fun x0 =>
 CM.pu (p2 (binA Tryz.prog .sub 3) t3 (.int .i64 1)) fun x1 =>
 CM.go 487424 [t0, x0, x1]
theorem g119_2_ok : EqD (Rl H) g119_2 (fun xs m => goR (EH H) Mk 487426 xs m) := sE fun _ => sE fun _ => sE fun _ => zE fun _ => goR_eq 400 (by kernel_rfl)
noncomputable def f119 : List AV → CM := apS fun a0 => ap0 <|
 CM.pu (p1 (lenT Tryz.prog 46) a0) fun x0 =>
 CM.pu (p2 (binA Tryz.prog .sub 3) x0 (.int .i64 1)) fun x1 =>
 CM.go 487424 [a0, (.int .i64 0), x1]
theorem f119_ok (h : H 119 = none) : EqD (Rl H) f119 (fun xs m => run (EH H) (.fn 119) xs m) := sE fun _ => zE fun _ => run_eq 400 h (by kernel_rfl) (by kernel_rfl)
noncomputable def g120_0 : List AV → CM := apS fun t0 => apS fun t1 => apS fun t2 => ap0 <|
 CM.pu (p2 (binA Tryz.prog .leq 30) t2 t0) fun x0 =>
 CM.cond x0 (
 CM.rm (q1 (loadA Tryz.prog 187) (.ptr (some ⟨1, 0⟩)) ) fun _ =>
 CM.fail) (
 CM.go 491521 [t0, t1, t2])
theorem g120_0_ok : EqD (Rl H) g120_0 (fun xs m => goR (EH H) Mk 491520 xs m) := sE fun _ => sE fun _ => sE fun _ => zE fun _ => goR_eq 400 (by kernel_rfl)
noncomputable def g120_1 : List AV → CM := apS fun t0 => apS fun t1 => apS fun t2 => ap0 <|
 CM.pu (p2 (binA Tryz.prog .eql 30) t0 (.int .u64 0)) fun x0 =>
 CM.cond x0 (
 CM.pu (p2 (binA Tryz.prog .quo 30) t1 t2) fun x1 =>
 CM.pu (p2 (binA Tryz.prog .rem 30) t1 t2) fun x2 =>
 CM.ret (.tup [x1, x2])) (
 CM.go 491522 [t0, t1, t2])
theorem g120_1_ok : EqD (Rl H) g120_1 (fun xs m => goR (EH H) Mk 491521 xs m) := sE fun _ => sE fun _ => sE fun _ => zE fun _ => goR_eq 400 (by kernel_rfl)
noncomputable def g120_2 : List AV → CM := apS fun t0 => apS fun t1 => apS fun t2 => ap0 <|
 CM.call 125 [t2] fun x0 =>
 CM.pu (p1 (convA Tryz.prog 3 127) x0) fun x1 =>
 CM.pu (p2 (binA Tryz.prog .shl 30) t2 x1) fun x2 =>
 CM.pu (p2 (binA Tryz.prog .shr 30) x2 (.int .u64 32)) fun x3 =>
 CM.pu (p2 (binA Tryz.prog .and 30) x2 (.int .u64 4294967295)) fun x4 =>
 CM.pu (p2 (binA Tryz.prog .shl 30) t0 x1) fun x5 =>
 CM.pu (p2 (binA Tryz.prog .sub 127) (.int .u64 64) x1) fun x6 =>
 CM.pu (p2 (binA Tryz.prog .shr 30) t1 x6) fun x7 =>
 CM.pu (p2 (binA Tryz.prog .or 30) x5 x7) fun x8 =>
 CM.pu (p2 (binA Tryz.prog .shl 30) t1 x1) fun x9 =>
 CM.pu (p2 (binA Tryz.prog .shr 30) x9 (.int .u64 32)) fun x10 =>
 CM.pu (p2 (binA Tryz.prog .and 30) x9 (.int .u64 4294967295)) fun x11 =>
 CM.pu (p2 (binA Tryz.prog .quo 30) x8 x3) fun x12 =>
 CM.pu (p2 (binA Tryz.prog .mul 30) x12 x3) fun x13 =>
 CM.pu (p2 (binA Tryz.prog .sub 30) x8 x13) fun x14 =>
 CM.go 491523 [x2, x1, x3, x4, x8, x10, x11, x12, x14]
theorem g120_2_ok : EqD (Rl H) g120_2 (fun xs m => goR (EH H) Mk 491522 xs m) := sE fun _ => sE fun _ => sE fun _ => zE fun _ => goR_eq 400 (by kernel_rfl)
noncomputable def g120_3 : List AV → CM := apS fun t2 => apS fun t8 => apS fun t9 => apS fun t10 => apS fun t11 => apS fun t13 => apS fun t14 => apS fun t15 => apS fun t16 => ap0 <|
 CM.pu (p2 (binA Tryz.prog .geq 30) t15 (.int .u64 4294967296)) fun x0 =>
 CM.ifv x0 (
 CM.go 491524 [t2, t8, t9, t10, t11, t13, t14, t15, t16]) (
 CM.pu (p2 (binA Tryz.prog .mul 30) t15 t10) fun x1 =>
 CM.pu (p2 (binA Tryz.prog .mul 30) (.int .u64 4294967296) t16) fun x2 =>
 CM.pu (p2 (binA Tryz.prog .add 30) x2 t13) fun x3 =>
 CM.pu (p2 (binA Tryz.prog .gtr 30) x1 x3) fun x4 =>
 CM.cond x4 (
 CM.go 491524 [t2, t8, t9, t10, t11, t13, t14, t15, t16]) (
 CM.go 491525 [t2, t8, t9, t10, t11, t13, t14, t15]))
theorem g120_3_ok : EqD (Rl H) g120_3 (fun xs m => goR (EH H) Mk 491523 xs m) := sE fun _ => sE fun _ => sE fun _ => sE fun _ => sE fun _ => sE fun _ => sE fun _ => sE fun _ => sE fun _ => zE fun _ => goR_eq 400 (by kernel_rfl)
noncomputable def g120_4 : List AV → CM := apS fun t2 => apS fun t8 => apS fun t9 => apS fun t10 => apS fun t11 => apS fun t13 => apS fun t14 => apS fun t15 => apS fun t16 => ap0 <|
 CM.pu (p2 (binA Tryz.prog .sub 30) t15 (.int .u64 1)) fun x0 =>
 CM.pu (p2 (binA Tryz.prog .add 30) t16 t9) fun x1 =>
 CM.pu (p2 (binA Tryz.prog .geq 30) x1 (.int .u64 4294967296)) fun x2 =>
 CM.cond x2 (
 CM.go 491525 [t2, t8, t9, t10, t11, t13, t14, x0]) (
 CM.go 491523 [t2, t8, t9, t10, t11, t13, t14, x0, x1])
theorem g120_4_ok : EqD (Rl H) g120_4 (fun xs m => goR (EH H) Mk 491524 xs m) := sE fun _ => sE fun _ => sE fun _ => sE fun _ => sE fun _ => sE fun _ => sE fun _ => sE fun _ => sE fun _ => zE fun _ => goR_eq 400 (by kernel_rfl)
noncomputable def g120_5 : List AV → CM := apS fun t2 => apS fun t8 => apS fun t9 => apS fun t10 => apS fun t11 => apS fun t13 => apS fun t14 => apS fun t15 => ap0 <|
 CM.pu (p2 (binA Tryz.prog .mul 30) t11 (.int .u64 4294967296)) fun x0 =>
 CM.pu (p2 (binA Tryz.prog .add 30) x0 t13) fun x1 =>
 CM.pu (p2 (binA Tryz.prog .mul 30) t15 t2) fun x2 =>
 CM.pu (p2 (binA Tryz.prog .sub 30) x1 x2) fun x3 =>
 CM.pu (p2 (binA Tryz.prog .quo 30) x3 t9) fun x4 =>
 CM.pu (p2 (binA Tryz.prog .mul 30) x4 t9) fun x5 =>
 CM.pu (p2 (binA Tryz.prog .sub 30) x3 x5) fun x6 =>
 CM.go 491526 [t2, t8, t9, t10, t14, t15, x6, x3, x4]
theorem g120_5_ok : EqD (Rl H) g120_5 (fun xs m => goR (EH H) Mk 491525 xs m) := sE fun _ => sE fun _ => sE fun _ => sE fun _ => sE fun _ => sE fun _ => sE fun _ => sE fun _ => zE fun _ => goR_eq 400 (by kernel_rfl)
noncomputable def g120_6 : List AV → CM := apS fun t2 => apS fun t8 => apS fun t9 => apS fun t10 => apS fun t14 => apS fun t15 => apS fun t16 => apS fun t17 => apS fun t18 => ap0 <|
 CM.pu (p2 (binA Tryz.prog .geq 30) t18 (.int .u64 4294967296)) fun x0 =>
 CM.ifv x0 (
 CM.go 491527 [t2, t8, t9, t10, t14, t15, t16, t17, t18]) (
 CM.pu (p2 (binA Tryz.prog .mul 30) t18 t10) fun x1 =>
 CM.pu (p2 (binA Tryz.prog .mul 30) (.int .u64 4294967296) t16) fun x2 =>
 CM.pu (p2 (binA Tryz.prog .add 30) x2 t14) fun x3 =>
 CM.pu (p2 (binA Tryz.prog .gtr 30) x1 x3) fun x4 =>
 CM.cond x4 (
 CM.go 491527 [t2, t8, t9, t10, t14, t15, t16, t17, t18]) (
 CM.go 491528 [t2, t8, t14, t15, t17, t18]))
theorem g120_6_ok : EqD (Rl H) g120_6 (fun xs m => goR (EH H) Mk 491526 xs m) := sE fun _ => sE fun _ => sE fun _ => sE fun _ => sE fun _ => sE fun _ => sE fun _ => sE fun _ => sE fun _ => zE fun _ => goR_eq 400 (by kernel_rfl)
noncomputable def g120_7 : List AV → CM := apS fun t2 => apS fun t8 => apS fun t9 => apS fun t10 => apS fun t14 => apS fun t15 => apS fun t16 => apS fun t17 => apS fun t18 => ap0 <|
 CM.pu (p2 (binA Tryz.prog .sub 30) t18 (.int .u64 1)) fun x0 =>
 CM.pu (p2 (binA Tryz.prog .add 30) t16 t9) fun x1 =>
 CM.pu (p2 (binA Tryz.prog .geq 30) x1 (.int .u64 4294967296)) fun x2 =>
 CM.cond x2 (
 CM.go 491528 [t2, t8, t14, t15, t17, x0]) (
 CM.go 491526 [t2, t8, t9, t10, t14, t15, x1, t17, x0])
theorem g120_7_ok : EqD (Rl H) g120_7 (fun xs m => goR (EH H) Mk 491527 xs m) := sE fun _ => sE fun _ => sE fun _ => sE fun _ => sE fun _ => sE fun _ => sE fun _ => sE fun _ => sE fun _ => zE fun _ => goR_eq 400 (by kernel_rfl)
noncomputable def g120_8 : List AV → CM := apS fun t2 => apS fun t8 => apS fun t14 => apS fun t15 => apS fun t17 => apS fun t18 => ap0 <|
 CM.pu (p2 (binA Tryz.prog .mul 30) t15 (.int .u64 4294967296)) fun x0 =>
 CM.pu (p2 (binA Tryz.prog .add 30) x0 t18) fun x1 =>
 CM.pu (p2 (binA Tryz.prog .mul 30) t17 (.int .u64 4294967296)) fun x2 =>
 CM.pu (p2 (binA Tryz.prog .add 30) x2 t14) fun x3 =>
 CM.pu (p2 (binA Tryz.prog .mul 30) t18 t2) fun x4 =>
 CM.pu (p2 (binA Tryz.prog .sub 30) x3 x4) fun x5 =>
 CM.pu (p2 (binA Tryz.prog .shr 30) x5 t8) fun x6 =>
 CM.ret (.tup [x1, x6])
theorem g120_8_ok : EqD (Rl H) g120_8 (fun xs m => goR (EH H) Mk 491528 xs m) := sE fun _ => sE fun _ => sE fun _ => sE fun _ => sE fun _ => sE fun _ => zE fun _ => goR_eq 400 (by kernel_rfl)
noncomputable def f120 : List AV → CM := apS fun a0 => apS fun a1 => apS fun a2 => ap0 <|
 CM.pu (p2 (binA Tryz.prog .eql 30) a2 (.int .u64 0)) fun x0 =>
 CM.cond x0 (
 CM.rm (q1 (loadA Tryz.prog 187) (.ptr (some ⟨0, 0⟩)) ) fun _ =>
 CM.fail) (
 CM.go 491520 [a0, a1, a2])
theorem f120_ok (h : H 120 = none) : EqD (Rl H) f120 (fun xs m => run (EH H) (.fn 120) xs m) := sE fun _ => sE fun _ => sE fun _ => zE fun _ => run_eq 400 h (by kernel_rfl) (by kernel_rfl)
noncomputable def g121_0 : List AV → CM := apS fun t1 => ap0 <|
 CM.pu (p1 (fun a => fieldAddrA Tryz.prog 35 a 1) t1) fun x0 =>
 CM.rm (q1 (loadA Tryz.prog 30) x0 ) fun x1 =>
 CM.call 79 [(.int .u64 0), x1, (.int .u64 0)] fun x2 =>
 CM.pu (p1 (fun a => extractA a 0) x2) fun x3 =>
 CM.pu (p1 (fun a => extractA a 1) x2) fun x4 =>
 CM.pu (p1 (fun a => fieldAddrA Tryz.prog 35 a 0) t1) fun x5 =>
 CM.rm (q1 (loadA Tryz.prog 2) x5 ) fun x6 =>
 CM.pu (p1 (convA Tryz.prog 2 30) x6) fun x7 =>
 CM.call 79 [(.int .u64 0), x7, x4] fun x8 =>
 CM.pu (p1 (fun a => extractA a 0) x8) fun x9 =>
 CM.pu (p1 (fun a => extractA a 1) x8) fun _ =>
 CM.ret (.tup [x9, x3])
theorem g121_0_ok : EqD (Rl H) g121_0 (fun xs m => goR (EH H) Mk 495616 xs m) := sE fun _ => zE fun _ => goR_eq 400 (by kernel_rfl)
noncomputable def f121 : List AV → CM := apS fun a0 => ap0 <|
 CM.al (boxA a0) fun x0 =>
 CM.pu (p1 (fun a => fieldAddrA Tryz.prog 35 a 0) x0) fun x1 =>
 CM.rm (q1 (loadA Tryz.prog 2) x1 ) fun x2 =>
 CM.pu (p2 (binA Tryz.prog .geq 2) x2 (.int .i64 0)) fun x3 =>
 CM.cond x3 (
 CM.pu (p1 (fun a => fieldAddrA Tryz.prog 35 a 0) x0) fun x4 =>
 CM.rm (q1 (loadA Tryz.prog 2) x4 ) fun x5 =>
 CM.pu (p1 (convA Tryz.prog 2 30) x5) fun x6 =>
 CM.pu (p1 (fun a => fieldAddrA Tryz.prog 35 a 1) x0) fun x7 =>
 CM.rm (q1 (loadA Tryz.prog 30) x7 ) fun x8 =>
 CM.ret (.tup [x6, x8])) (
 CM.go 495616 [x0])
theorem f121_ok (h : H 121 = none) : EqD (Rl H) f121 (fun xs m => run (EH H) (.fn 121) xs m) := sE fun _ => zE fun _ => run_eq 400 h (by kernel_rfl) (by kernel_rfl)
noncomputable def f122 : List AV → CM := apS fun a0 => apS fun a1 => ap0 <|
 CM.pu (p2 (binA Tryz.prog .and 30) a0 (.int .u64 4294967295)) fun x0 =>
 CM.pu (p2 (binA Tryz.prog .shr 30) a0 (.int .u64 32)) fun x1 =>
 CM.pu (p2 (binA Tryz.prog .and 30) a1 (.int .u64 4294967295)) fun x2 =>
 CM.pu (p2 (binA Tryz.prog .shr 30) a1 (.int .u64 32)) fun x3 =>
 CM.pu (p2 (binA Tryz.prog .mul 30) x0 x2) fun x4 =>
 CM.pu (p2 (binA Tryz.prog .mul 30) x1 x2) fun x5 =>
 CM.pu (p2 (binA Tryz.prog .shr 30) x4 (.int .u64 32)) fun x6 =>
 CM.pu (p2 (binA Tryz.prog .add 30) x5 x6) fun x7 =>
 CM.pu (p2 (binA Tryz.prog .and 30) x7 (.int .u64 4294967295)) fun x8 =>
 CM.pu (p2 (binA Tryz.prog .shr 30) x7 (.int .u64 32)) fun x9 =>
 CM.pu (p2 (binA Tryz.prog .mul 30) x0 x3) fun x10 =>
 CM.pu (p2 (binA Tryz.prog .add 30) x8 x10) fun x11 =>
 CM.pu (p2 (binA Tryz.prog .mul 30) x1 x3) fun x12 =>
 CM.pu (p2 (binA Tryz.prog .add 30) x12 x9) fun x13 =>
 CM.pu (p2 (binA Tryz.prog .shr 30) x11 (.int .u64 32)) fun x14 =>
 CM.pu (p2 (binA Tryz.prog .add 30) x13 x14) fun x15 =>
 CM.pu (p2 (binA Tryz.prog .mul 30) a0 a1) fun x16 =>
 CM.ret (.tup [x15, x16])
theorem f122_ok (h : H 122 = none) : EqD (Rl H) f122 (fun xs m => run (EH H) (.fn 122) xs m) := sE fun _ => sE fun _ => zE fun _ => run_eq 400 h (by kernel_rfl) (by kernel_rfl)
noncomputable def f123 : List AV → CM := apS fun a0 => apS fun a1 => apS fun a2 => apS fun a3 => ap0 <|
 CM.call 122 [a0, a1] fun x0 =>
 CM.pu (p1 (fun a => extractA a 0) x0) fun x1 =>
 CM.pu (p1 (fun a => extractA a 1) x0) fun x2 =>
 CM.pu (p2 (indexAddrA Tryz.prog 167) a3 a2) fun x3 =>
 CM.rm (q1 (loadA Tryz.prog 30) x3 ) fun x4 =>
 CM.call 92 [x4, x2, (.int .u64 0)] fun x5 =>
 CM.pu (p1 (fun a => extractA a 0) x5) fun x6 =>
 CM.pu (p1 (fun a => extractA a 1) x5) fun x7 =>
 CM.pu (p2 (indexAddrA Tryz.prog 167) a3 a2) fun x8 =>
 CM.st (fun m => stV m x8 x6 1) <|
 CM.pu (p2 (binA Tryz.prog .add 3) a2 (.int .i64 1)) fun x10 =>
 CM.pu (p2 (binA Tryz.prog .add 3) a2 (.int .i64 1)) fun x11 =>
 CM.pu (p2 (indexAddrA Tryz.prog 167) a3 x11) fun x12 =>
 CM.rm (q1 (loadA Tryz.prog 30) x12 ) fun x13 =>
 CM.call 92 [x13, x1, x7] fun x14 =>
 CM.pu (p1 (fun a => extractA a 0) x14) fun x15 =>
 CM.pu (p1 (fun a => extractA a 1) x14) fun x16 =>
 CM.pu (p2 (indexAddrA Tryz.prog 167) a3 x10) fun x17 =>
 CM.st (fun m => stV m x17 x15 1) <|
 CM.pu (p2 (binA Tryz.prog .add 3) a2 (.int .i64 2)) fun x19 =>
 CM.pu (p2 (binA Tryz.prog .lss 3) x19 (.int .i64 4)) fun x20 =>
 CM.cond x20 (
 CM.pu (p2 (binA Tryz.prog .add 3) a2 (.int .i64 2)) fun x21 =>
 CM.pu (p2 (indexAddrA Tryz.prog 167) a3 x21) fun x22 =>
 CM.rm (q1 (loadA Tryz.prog 30) x22 ) fun x23 =>
 CM.pu (p2 (binA Tryz.prog .add 30) x23 x16) fun x24 =>
 CM.pu (p2 (indexAddrA Tryz.prog 167) a3 x21) fun x25 =>
 CM.st (fun m => stV m x25 x24 1) <|
 CM.ret .undef) (
 CM.ret .undef)
theorem f123_ok (h : H 123 = none) : EqD (Rl H) f123 (fun xs m => run (EH H) (.fn 123) xs m) := sE fun _ => sE fun _ => sE fun _ => sE fun _ => zE fun _ => run_eq 400 h (by kernel_rfl) (by kernel_rfl)
noncomputable def g124_0 : List AV → CM := apS fun t1 => apS fun t2 => apS fun t6 => ap0 <|
 CM.pu (p1 (convA Tryz.prog 30 2) t1) fun x0 =>
 CM.pu (p1 (buildA Tryz.prog 35) [(0, x0), (1, t2)]) fun x1 =>
 CM.st (fun m => stV m t6 x1 2) <|
 CM.resC Tryz.prog [ResultVar.cell 0 35, ResultVar.tmp 1] [t6, (.int .i64 0)]
theorem g124_0_ok : EqD (Rl H) g124_0 (fun xs m => goR (EH H) Mk 507904 xs m) := sE fun _ => sE fun _ => sE fun _ => zE fun _ => goR_eq 400 (by kernel_rfl)
noncomputable def g124_1 : List AV → CM := apS fun t1 => apS fun t2 => apS fun t6 => ap0 <|
 CM.pu (p2 (binA Tryz.prog .gtr 30) t1 (.int .u64 9223372036854775808)) fun x0 =>
 CM.ifv x0 (
 CM.pu (p1 (buildA Tryz.prog 35) []) fun x1 =>
 CM.st (fun m => stV m t6 x1 2) <|
 CM.resC Tryz.prog [ResultVar.cell 0 35, ResultVar.tmp 1] [t6, (.int .i64 20)]) (
 CM.pu (p2 (binA Tryz.prog .eql 30) t1 (.int .u64 9223372036854775808)) fun x3 =>
 CM.ifv x3 (
 CM.pu (p2 (binA Tryz.prog .gtr 30) t2 (.int .u64 0)) fun x4 =>
 CM.cond x4 (
 CM.pu (p1 (buildA Tryz.prog 35) []) fun x5 =>
 CM.st (fun m => stV m t6 x5 2) <|
 CM.resC Tryz.prog [ResultVar.cell 0 35, ResultVar.tmp 1] [t6, (.int .i64 20)]) (
 CM.go 507906 [t1, t2, t6])) (
 CM.go 507906 [t1, t2, t6]))
theorem g124_1_ok : EqD (Rl H) g124_1 (fun xs m => goR (EH H) Mk 507905 xs m) := sE fun _ => sE fun _ => sE fun _ => zE fun _ => goR_eq 400 (by kernel_rfl)
noncomputable def g124_2 : List AV → CM := apS fun t1 => apS fun t2 => apS fun t6 => ap0 <|
 CM.call 79 [(.int .u64 0), t2, (.int .u64 0)] fun x0 =>
 CM.pu (p1 (fun a => extractA a 0) x0) fun x1 =>
 CM.pu (p1 (fun a => extractA a 1) x0) fun x2 =>
 CM.call 79 [(.int .u64 0), t1, x2] fun x3 =>
 CM.pu (p1 (fun a => extractA a 0) x3) fun x4 =>
 CM.pu (p1 (fun a => extractA a 1) x3) fun _ =>
 CM.pu (p1 (convA Tryz.prog 30 2) x4) fun x6 =>
 CM.pu (p1 (buildA Tryz.prog 35) [(0, x6), (1, x1)]) fun x7 =>
 CM.st (fun m => stV m t6 x7 2) <|
 CM.resC Tryz.prog [ResultVar.cell 0 35, ResultVar.tmp 1] [t6, (.int .i64 0)]
theorem g124_2_ok : EqD (Rl H) g124_2 (fun xs m => goR (EH H) Mk 507906 xs m) := sE fun _ => sE fun _ => sE fun _ => zE fun _ => goR_eq 400 (by kernel_rfl)
noncomputable def f124 : List AV → CM := apS fun a0 => apS fun a1 => apS fun a2 => ap0 <|
 CM.al (some (.cells [(.int .i64 0), (.int .u64 0)] false, pB)) fun x0 =>
 CM.pu (p1 (unA .not) a0) fun x1 =>
 CM.cond x1 (
 CM.pu (p2 (binA Tryz.prog .geq 30) a1 (.int .u64 9223372036854775808)) fun x2 =>
 CM.cond x2 (
 CM.pu (p1 (buildA Tryz.prog 35) []) fun x3 =>
 CM.st (fun m => stV m x0 x3 2) <|
 CM.resC Tryz.prog [ResultVar.cell 0 35, ResultVar.tmp 1] [x0, (.int .i64 20)]) (
 CM.go 507904 [a1, a2, x0])) (
 CM.go 507905 [a1, a2, x0])
theorem f124_ok (h : H 124 = none) : EqD (Rl H) f124 (fun xs m => run (EH H) (.fn 124) xs m) := sE fun _ => sE fun _ => sE fun _ => zE fun _ => run_eq 400 h (by kernel_rfl) (by kernel_rfl)
noncomputable def f125 : List AV → CM := apS fun a0 => ap0 <|
 CM.call 126 [a0] fun x0 =>
 CM.pu (p2 (binA Tryz.prog .sub 3) (.int .i64 64) x0) fun x1 =>
 CM.ret x1
theorem f125_ok (h : H 125 = none) : EqD (Rl H) f125 (fun xs m => run (EH H) (.fn 125) xs m) := sE fun _ => zE fun _ => run_eq 400 h (by kernel_rfl) (by kernel_rfl)
noncomputable def g126_0 : List AV → CM := apS fun t0 => apS fun t2 => ap0 <|
 CM.pu (p2 (binA Tryz.prog .geq 30) t0 (.int .u64 65536)) fun x0 =>
 CM.cond x0 (
 CM.pu (p2 (binA Tryz.prog .shr 30) t0 (.int .u64 16)) fun x1 =>
 CM.pu (p2 (binA Tryz.prog .add 3) t2 (.int .i64 16)) fun x2 =>
 CM.go 516097 [x1, x2]) (
 CM.go 516097 [t0, t2])
theorem g126_0_ok : EqD (Rl H) g126_0 (fun xs m => goR (EH H) Mk 516096 xs m) := sE fun _ => sE fun _ => zE fun _ => goR_eq 400 (by kernel_rfl)
noncomputable def g126_1 : List AV → CM := apS fun t0 => apS fun t2 => ap0 <|
 CM.pu (p2 (binA Tryz.prog .geq 30) t0 (.int .u64 256)) fun x0 =>
 CM.cond x0 (
 CM.pu (p2 (binA Tryz.prog .shr 30) t0 (.int .u64 8)) fun x1 =>
 CM.pu (p2 (binA Tryz.prog .add 3) t2 (.int .i64 8)) fun x2 =>
 CM.go 516098 [x1, x2]) (
 CM.go 516098 [t0, t2])
theorem g126_1_ok : EqD (Rl H) g126_1 (fun xs m => goR (EH H) Mk 516097 xs m) := sE fun _ => sE fun _ => zE fun _ => goR_eq 400 (by kernel_rfl)
noncomputable def g126_2 : List AV → CM := apS fun t0 => apS fun t2 => ap0 <|
 CM.pu (p1 (convA Tryz.prog 30 5) t0) fun x0 =>
 CM.pu (p2 (indexA Tryz.prog 9) (.str [0, 1, 2, 2, 3, 3, 3, 3, 4, 4, 4, 4, 4, 4, 4, 4, 5, 5, 5, 5, 5, 5, 5, 5, 5, 5, 5, 5, 5, 5, 5, 5, 6, 6, 6, 6, 6, 6, 6, 6, 6, 6, 6, 6, 6, 6, 6, 6, 6, 6, 6, 6, 6, 6, 6, 6, 6, 6, 6, 6, 6, 6, 6, 6, 7, 7, 7, 7, 7, 7, 7, 7, 7, 7, 7, 7, 7, 7, 7, 7, 7, 7, 7, 7, 7, 7, 7, 7, 7, 7, 7, 7, 7, 7, 7, 7, 7, 7, 7, 7, 7, 7, 7, 7, 7, 7, 7, 7, 7, 7, 7, 7, 7, 7, 7, 7, 7, 7, 7, 7, 7, 7, 7, 7, 7, 7, 7, 7, 8, 8, 8, 8, 8, 8, 8, 8, 8, 8, 8, 8, 8, 8, 8, 8, 8, 8, 8, 8, 8, 8, 8, 8, 8, 8, 8, 8, 8, 8, 8, 8, 8, 8, 8, 8, 8, 8, 8, 8, 8, 8, 8, 8, 8, 8, 8, 8, 8, 8, 8, 8, 8, 8, 8, 8, 8, 8, 8, 8, 8, 8, 8, 8, 8, 8, 8, 8, 8, 8, 8, 8, 8, 8, 8, 8, 8, 8, 8, 8, 8, 8, 8, 8, 8, 8, 8, 8, 8, 8, 8, 8, 8, 8, 8, 8, 8, 8, 8, 8, 8, 8, 8, 8, 8, 8, 8, 8, 8, 8, 8, 8, 8, 8, 8, 8, 8, 8, 8, 8, 8, 8, 8, 8, 8, 8, 8, 8]) x0) fun x1 =>
 CM.pu (p1 (convA Tryz.prog 5 3) x1) fun x2 =>
 CM.pu (p2 (binA Tryz.prog .add 3) t2 x2) fun x3 =>
 CM.ret x3
theorem g126_2_ok : EqD (Rl H) g126_2 (fun xs m => goR (EH H) Mk 516098 xs m) := sE fun _ => sE fun _ => zE fun _ => goR_eq 400 (by kernel_rfl)
noncomputable def f126 : List AV → CM := apS fun a0 => ap0 <|
 CM.pu (p2 (binA Tryz.prog .geq 30) a0 (.int .u64 4294967296)) fun x0 =>
 CM.cond x0 (
 CM.pu (p2 (binA Tryz.prog .shr 30) a0 (.int .u64 32)) fun x1 =>
 CM.go 516096 [x1, (.int .i64 32)]) (
 CM.go 516096 [a0, (.int .i64 0)])
theorem f126_ok (h : H 126 = none) : EqD (Rl H) f126 (fun xs m => run (EH H) (.fn 126) xs m) := sE fun _ => zE fun _ => run_eq 400 h (by kernel_rfl) (by kernel_rfl)
end Go.Proofs.YtlginbmjiecglaaGreat.T
end
