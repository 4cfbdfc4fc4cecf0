/- Texts of one claim, put together. -/
import Derived.Test.YtlginbmjiecglaaGreatK9
section
namespace Go.Proofs.YtlginbmjiecglaaGreat.T
open Go Go.Abs Go.Proofs.YtlginbmjiecglaaGreat
set_option maxRecDepth 10000
variable {H : FuncId → Option (List AV → Mem → R)}
noncomputable def g29_0 : List AV → CM := apS fun t0 => apS fun t1 => apS fun t7 => apS fun t9 => ap0 <|
 CM.rm (q1 (loadA Tryz.prog 35) t7 ) fun x0 =>
 CM.rm (q1 (loadA Tryz.prog 35) t9 ) fun x1 =>
 CM.pu (p1 nnA t0) fun x2 =>
 CM.st (fun m => stV m x2 x0 2) <|
 CM.memo fun m5 =>
 CM.chk (q1 (loadA Tryz.prog 35) t9 m5) x1 <|
 CM.pu (p1 nnA t1) fun x6 =>
 CM.st (fun m => stV m x6 x1 2) <|
 CM.ret (.int .i64 0)
theorem g29_0_ok : EqD (Rl H) g29_0 (fun xs m => goR (EH H) Mk 118784 xs m) := sE fun _ => sE fun _ => sE fun _ => sE fun _ => zE fun _ => goR_eq 400 (by kernel_rfl)
noncomputable def f29 : List AV → CM := apS fun a0 => apS fun a1 => apS fun a2 => ap0 <|
 CM.al (boxA a2) fun x0 =>
 CM.pu (p1 nnA a0) fun x1 =>
 CM.rm (q1 (loadA Tryz.prog 35) x1 ) fun x2 =>
 CM.rm (q1 (loadA Tryz.prog 35) x0 ) fun x3 =>
 CM.call 45 [x2, x3] fun x5 =>
 CM.pu (p1 (fun a => extractA a 0) x5) fun x7 =>
 CM.pu (p1 (fun a => extractA a 1) x5) fun x8 =>
 CM.al (some (.cells [(.int .i64 0), (.int .u64 0)] false, pB)) fun x9 =>
 CM.st (fun m => stV m x9 x7 2) <|
 CM.pu (p1 nnA a1) fun x13 =>
 CM.rm (q1 (loadA Tryz.prog 35) x13 ) fun x14 =>
 CM.rm (q1 (loadA Tryz.prog 35) x0 ) fun x15 =>
 CM.call 54 [x14, x15] fun x17 =>
 CM.pu (p1 (fun a => extractA a 0) x17) fun x19 =>
 CM.pu (p1 (fun a => extractA a 1) x17) fun x20 =>
 CM.al (some (.cells [(.int .i64 0), (.int .u64 0)] false, pB)) fun x21 =>
 CM.st (fun m => stV m x21 x19 2) <|
 CM.pu (p2 (binA Tryz.prog .neq 25) x8 (.int .i64 0)) fun x25 =>
 CM.ifv x25 (
 CM.ret (.int .i64 20)) (
 CM.pu (p2 (binA Tryz.prog .neq 25) x20 (.int .i64 0)) fun x26 =>
 CM.cond x26 (
 CM.ret (.int .i64 20)) (
 CM.go 118784 [a0, a1, x9, x21]))
theorem f29_ok (h : H 29 = none) : EqD (Rl H) f29 (fun xs m => run (EH H) (.fn 29) xs m) := sE fun _ => sE fun _ => sE fun _ => zE fun _ => run_eq 400 h (by kernel_rfl) (by kernel_rfl)
noncomputable def f30 : List AV → CM := apS fun a0 => apS fun a1 => ap0 <|
 CM.al (boxA a1) fun x0 =>
 CM.pu (p1 nnA a0) fun x1 =>
 CM.pu (p1 (fun a => fieldAddrA Tryz.prog 60 a 3) x1) fun x2 =>
 CM.rm (q1 (loadA Tryz.prog 58) x2 ) fun x3 =>
 CM.pu (p1 (fun a => fieldAddrA Tryz.prog 70 a 0) x0) fun x4 =>
 CM.rm (q1 (loadA Tryz.prog 30) x4 ) fun x5 =>
 CM.rm (q1 (loadA Tryz.prog 70) x0 ) fun x6 =>
 CM.call 26 [x3, x5, x6] fun _ =>
 CM.ret .undef
theorem f30_ok (h : H 30 = none) : EqD (Rl H) f30 (fun xs m => run (EH H) (.fn 30) xs m) := sE fun _ => sE fun _ => zE fun _ => run_eq 400 h (by kernel_rfl) (by kernel_rfl)
noncomputable def f31 : List AV → CM := apS fun a0 => ap0 <|
 CM.al (some (.cells [(.int .i64 0), (.int .u64 0)] false, pB)) fun x0 =>
 CM.pu (p2 (binA Tryz.prog .shr 2) a0 (.int .u64 63)) fun x1 =>
 CM.pu (p1 (convA Tryz.prog 2 30) a0) fun x2 =>
 CM.pu (p1 (buildA Tryz.prog 35) [(0, x1), (1, x2)]) fun x3 =>
 CM.st (fun m => stV m x0 x3 2) <|
 CM.resC Tryz.prog [ResultVar.cell 0 35] [x0]
theorem f31_ok (h : H 31 = none) : EqD (Rl H) f31 (fun xs m => run (EH H) (.fn 31) xs m) := sE fun _ => zE fun _ => run_eq 400 h (by kernel_rfl) (by kernel_rfl)
noncomputable def g32_0 : List AV → CM := ap0 <|
 CM.ret (.int .i64 0)
theorem g32_0_ok : EqD (Rl H) g32_0 (fun xs m => goR (EH H) Mk 131072 xs m) := zE fun _ => goR_eq 400 (by kernel_rfl)
noncomputable def f32 : List AV → CM := apS fun a0 => ap0 <|
 CM.al (boxA a0) fun x0 =>
 CM.rm (q1 (loadA Tryz.prog 37) x0 ) fun x1 =>
 CM.call 55 [x1] fun x2 =>
 CM.pu (p1 (unA .not) x2) fun x3 =>
 CM.cond x3 (
 CM.ret (.int .i64 21)) (
 CM.rm (q1 (loadA Tryz.prog 37) x0 ) fun x4 =>
 CM.call 56 [x4] fun x5 =>
 CM.pu (p1 (unA .not) x5) fun x6 =>
 CM.cond x6 (
 CM.ret (.int .i64 44)) (
 CM.go 131072 []))
theorem f32_ok (h : H 32 = none) : EqD (Rl H) f32 (fun xs m => run (EH H) (.fn 32) xs m) := sE fun _ => zE fun _ => run_eq 400 h (by kernel_rfl) (by kernel_rfl)
noncomputable def g33_0 : List AV → CM := apS fun t0 => apS fun t4 => apS fun t6 => ap0 <|
 CM.pu (p1 nnA t0) fun x0 =>
 CM.pu (p1 (fun a => fieldAddrA Tryz.prog 113 a 1) x0) fun x1 =>
 CM.rm (q1 (loadA Tryz.prog 46) x1 ) fun x2 =>
 CM.pu (p2 (indexAddrA Tryz.prog 46) x2 t6) fun x3 =>
 CM.rm (q1 (loadA Tryz.prog 54) x3 ) fun x4 =>
 CM.st (fun m => stV m t4 x4 9) <|
 CM.resC Tryz.prog [ResultVar.cell 0 54, ResultVar.tmp 1] [t4, (.bool true)]
theorem g33_0_ok : EqD (Rl H) g33_0 (fun xs m => goR (EH H) Mk 135168 xs m) := sE fun _ => sE fun _ => sE fun _ => zE fun _ => goR_eq 400 (by kernel_rfl)
noncomputable def f33 : List AV → CM := apS fun a0 => apS fun a1 => ap0 <|
 CM.al (some (.cells [(.str []), (.str []), (.int .i64 0), (.int .u64 0), (.int .i64 0), (.int .i64 0), (.int .u64 0), (.int .i64 0), (.int .u64 0)] false, pB)) fun x0 =>
 CM.pu (p1 nnA a0) fun x1 =>
 CM.pu (p1 (fun a => fieldAddrA Tryz.prog 113 a 0) x1) fun x2 =>
 CM.rm (q1 (loadA Tryz.prog 109) x2 ) fun x3 =>
 CM.call 46 [x3, a1] fun x4 =>
 CM.pu (p1 (fun a => extractA a 0) x4) fun x5 =>
 CM.pu (p1 (fun a => extractA a 1) x4) fun x6 =>
 CM.pu (p1 (unA .not) x6) fun x7 =>
 CM.cond x7 (
 CM.al (some (.cells [(.str []), (.str []), (.int .i64 0), (.int .u64 0), (.int .i64 0), (.int .i64 0), (.int .u64 0), (.int .i64 0), (.int .u64 0)] false, pB)) fun x8 =>
 CM.rm (q1 (loadA Tryz.prog 54) x8 ) fun x9 =>
 CM.st (fun m => stV m x0 x9 9) <|
 CM.resC Tryz.prog [ResultVar.cell 0 54, ResultVar.tmp 1] [x0, (.bool false)]) (
 CM.go 135168 [a0, x0, x5])
theorem f33_ok (h : H 33 = none) : EqD (Rl H) f33 (fun xs m => run (EH H) (.fn 33) xs m) := sE fun _ => sE fun _ => zE fun _ => run_eq 400 h (by kernel_rfl) (by kernel_rfl)
noncomputable def g34_0 : List AV → CM := ap0 <|
 CM.ret (.bool true)
theorem g34_0_ok : EqD (Rl H) g34_0 (fun xs m => goR (EH H) Mk 139264 xs m) := zE fun _ => goR_eq 400 (by kernel_rfl)
noncomputable def f34 : List AV → CM := apS fun a0 => apS fun a1 => apS fun a2 => ap0 <|
 CM.al (boxA a2) fun x0 =>
 CM.pu (p1 nnA a0) fun x1 =>
 CM.pu (p1 (fun a => fieldAddrA Tryz.prog 113 a 0) x1) fun x2 =>
 CM.rm (q1 (loadA Tryz.prog 109) x2 ) fun x3 =>
 CM.call 46 [x3, a1] fun x4 =>
 CM.pu (p1 (fun a => extractA a 0) x4) fun x5 =>
 CM.pu (p1 (fun a => extractA a 1) x4) fun x6 =>
 CM.cond x6 (
 CM.pu (p1 nnA a0) fun x7 =>
 CM.pu (p1 (fun a => fieldAddrA Tryz.prog 113 a 1) x7) fun x8 =>
 CM.rm (q1 (loadA Tryz.prog 46) x8 ) fun x9 =>
 CM.rm (q1 (loadA Tryz.prog 54) x0 ) fun x10 =>
 CM.pu (p2 (indexAddrA Tryz.prog 46) x9 x5) fun x11 =>
 CM.st (fun m => stV m x11 x10 9) <|
 CM.go 139264 []) (
 CM.pu (p1 nnA a0) fun x15 =>
 CM.pu (p1 (fun a => fieldAddrA Tryz.prog 113 a 0) x15) fun x16 =>
 CM.rm (q1 (loadA Tryz.prog 109) x16 ) fun x17 =>
 CM.pu (p1 (lenT Tryz.prog 109) x17) fun x18 =>
 CM.pu (p1 nnA a0) fun x19 =>
 CM.pu (p1 (fun a => fieldAddrA Tryz.prog 113 a 2) x19) fun x20 =>
 CM.rm (q1 (loadA Tryz.prog 3) x20 ) fun x21 =>
 CM.pu (p2 (binA Tryz.prog .geq 3) x18 x21) fun x22 =>
 CM.cond x22 (
 CM.ret (.bool false)) (
 CM.pu (p1 nnA a0) fun x23 =>
 CM.pu (p1 (fun a => fieldAddrA Tryz.prog 113 a 0) x23) fun x24 =>
 CM.rm (q1 (loadA Tryz.prog 109) x24 ) fun x25 =>
 CM.al (bsA 1 1 [(.str [])] [(0, a1)]) fun x26 =>
 CM.call 47 [x25, x5, x26] fun x27 =>
 CM.pu (p1 nnA a0) fun x28 =>
 CM.pu (p1 (fun a => fieldAddrA Tryz.prog 113 a 0) x28) fun x29 =>
 CM.st (fun m => stV m x29 x27 1) <|
 CM.pu (p1 nnA a0) fun x31 =>
 CM.pu (p1 (fun a => fieldAddrA Tryz.prog 113 a 1) x31) fun x32 =>
 CM.rm (q1 (loadA Tryz.prog 46) x32 ) fun x33 =>
 CM.rm (q1 (loadA Tryz.prog 54) x0 ) fun x34 =>
 CM.al (bsA 9 1 [(.str []), (.str []), (.int .i64 0), (.int .u64 0), (.int .i64 0), (.int .i64 0), (.int .u64 0), (.int .i64 0), (.int .u64 0)] [(0, x34)]) fun x35 =>
 CM.call 57 [x33, x5, x35] fun x37 =>
 CM.pu (p1 nnA a0) fun x39 =>
 CM.pu (p1 (fun a => fieldAddrA Tryz.prog 113 a 1) x39) fun x40 =>
 CM.st (fun m => stV m x40 x37 1) <|
 CM.go 139264 []))
theorem f34_ok (h : H 34 = none) : EqD (Rl H) f34 (fun xs m => run (EH H) (.fn 34) xs m) := sE fun _ => sE fun _ => sE fun _ => zE fun _ => run_eq 400 h (by kernel_rfl) (by kernel_rfl)
noncomputable def f35 : List AV → CM := apS fun a0 => apS fun a1 => ap0 <|
 CM.al (boxA a0) fun x0 =>
 CM.al (boxA a1) fun x1 =>
 CM.pu (p1 (fun a => fieldAddrA Tryz.prog 70 a 2) x0) fun x2 =>
 CM.rm (q1 (loadA Tryz.prog 35) x2 ) fun x3 =>
 CM.pu (p1 (fun a => fieldAddrA Tryz.prog 37 a 0) x1) fun x4 =>
 CM.rm (q1 (loadA Tryz.prog 35) x4 ) fun x5 =>
 CM.call 58 [x3, x5] fun x6 =>
 CM.pu (p2 (binA Tryz.prog .lss 3) x6 (.int .i64 0)) fun x7 =>
 CM.ret x7
theorem f35_ok (h : H 35 = none) : EqD (Rl H) f35 (fun xs m => run (EH H) (.fn 35) xs m) := sE fun _ => sE fun _ => zE fun _ => run_eq 400 h (by kernel_rfl) (by kernel_rfl)
noncomputable def g36_0 : List AV → CM := apS fun t2 => apS fun t3 => apS fun t4 => apS fun t6 => ap0 <|
 CM.rm (q1 (loadA Tryz.prog 37) t4 ) fun x0 =>
 CM.call 32 [x0] fun x1 =>
 CM.pu (p2 (binA Tryz.prog .neq 25) x1 (.int .i64 0)) fun x2 =>
 CM.cond x2 (
 CM.pu (p1 (buildA Tryz.prog 37) []) fun x3 =>
 CM.st (fun m => stV m t6 x3 3) <|
 CM.resC Tryz.prog [ResultVar.cell 0 37, ResultVar.tmp 1] [t6, x1]) (
 CM.go 147457 [t2, t3, t4, t6])
theorem g36_0_ok : EqD (Rl H) g36_0 (fun xs m => goR (EH H) Mk 147456 xs m) := sE fun _ => sE fun _ => sE fun _ => sE fun _ => zE fun _ => goR_eq 400 (by kernel_rfl)
noncomputable def g36_1 : List AV → CM := apS fun t2 => apS fun t3 => apS fun t4 => apS fun t6 => ap0 <|
 CM.rm (q1 (loadA Tryz.prog 37) t3 ) fun x0 =>
 CM.rm (q1 (loadA Tryz.prog 37) t4 ) fun x1 =>
 CM.call 59 [x0, x1, t2] fun x2 =>
 CM.pu (p1 (fun a => extractA a 0) x2) fun x3 =>
 CM.pu (p1 (fun a => extractA a 1) x2) fun x4 =>
 CM.st (fun m => stV m t6 x3 3) <|
 CM.resC Tryz.prog [ResultVar.cell 0 37, ResultVar.tmp 1] [t6, x4]
theorem g36_1_ok : EqD (Rl H) g36_1 (fun xs m => goR (EH H) Mk 147457 xs m) := sE fun _ => sE fun _ => sE fun _ => sE fun _ => zE fun _ => goR_eq 400 (by kernel_rfl)
noncomputable def f36 : List AV → CM := apS fun a0 => apS fun a1 => apS fun a2 => ap0 <|
 CM.al (boxA a0) fun x0 =>
 CM.al (boxA a1) fun x1 =>
 CM.al (some (.cells [(.int .i64 0), (.int .u64 0), (.int .i64 0)] false, pB)) fun x2 =>
 CM.rm (q1 (loadA Tryz.prog 37) x0 ) fun x3 =>
 CM.call 55 [x3] fun x4 =>
 CM.pu (p1 (unA .not) x4) fun x5 =>
 CM.ifv x5 (
 CM.pu (p1 (buildA Tryz.prog 37) []) fun x6 =>
 CM.st (fun m => stV m x2 x6 3) <|
 CM.resC Tryz.prog [ResultVar.cell 0 37, ResultVar.tmp 1] [x2, (.int .i64 21)]) (
 CM.pu (p2 (binA Tryz.prog .lss 3) a2 (.int .i64 0)) fun x8 =>
 CM.ifv x8 (
 CM.pu (p1 (buildA Tryz.prog 37) []) fun x9 =>
 CM.st (fun m => stV m x2 x9 3) <|
 CM.resC Tryz.prog [ResultVar.cell 0 37, ResultVar.tmp 1] [x2, (.int .i64 21)]) (
 CM.pu (p2 (binA Tryz.prog .gtr 3) a2 (.int .i64 18)) fun x11 =>
 CM.cond x11 (
 CM.pu (p1 (buildA Tryz.prog 37) []) fun x12 =>
 CM.st (fun m => stV m x2 x12 3) <|
 CM.resC Tryz.prog [ResultVar.cell 0 37, ResultVar.tmp 1] [x2, (.int .i64 21)]) (
 CM.rm (q1 (loadA Tryz.prog 37) x0 ) fun x14 =>
 CM.call 56 [x14] fun x15 =>
 CM.pu (p1 (unA .not) x15) fun x16 =>
 CM.cond x16 (
 CM.pu (p1 (buildA Tryz.prog 37) []) fun x17 =>
 CM.st (fun m => stV m x2 x17 3) <|
 CM.resC Tryz.prog [ResultVar.cell 0 37, ResultVar.tmp 1] [x2, (.int .i64 43)]) (
 CM.go 147456 [a2, x0, x1, x2]))))
theorem f36_ok (h : H 36 = none) : EqD (Rl H) f36 (fun xs m => run (EH H) (.fn 36) xs m) := sE fun _ => sE fun _ => sE fun _ => zE fun _ => run_eq 400 h (by kernel_rfl) (by kernel_rfl)
noncomputable def f37 : List AV → CM := apS fun a0 => ap0 <|
 CM.al (boxA a0) fun x0 =>
 CM.pu (p1 (fun a => fieldAddrA Tryz.prog 37 a 1) x0) fun x1 =>
 CM.rm (q1 (loadA Tryz.prog 3) x1 ) fun x2 =>
 CM.pu (p2 (binA Tryz.prog .geq 3) x2 (.int .i64 0)) fun x3 =>
 CM.ifv x3 (
 CM.pu (p1 (fun a => fieldAddrA Tryz.prog 37 a 1) x0) fun x4 =>
 CM.rm (q1 (loadA Tryz.prog 3) x4 ) fun x5 =>
 CM.pu (p2 (binA Tryz.prog .leq 3) x5 (.int .i64 18)) fun x6 =>
 CM.ret x6) (
 CM.ret (.bool false))
theorem f37_ok (h : H 37 = none) : EqD (Rl H) f37 (fun xs m => run (EH H) (.fn 37) xs m) := sE fun _ => zE fun _ => run_eq 400 h (by kernel_rfl) (by kernel_rfl)
noncomputable def g38_0 : List AV → CM := apS fun t1 => apS fun t4 => apS fun t6 => ap0 <|
 CM.rm (q1 (loadA Tryz.prog 35) t6 ) fun x0 =>
 CM.pu (p1 (buildA Tryz.prog 37) [(0, x0), (1, t1)]) fun x1 =>
 CM.st (fun m => stV m t4 x1 3) <|
 CM.resC Tryz.prog [ResultVar.cell 0 37, ResultVar.tmp 1] [t4, (.int .i64 0)]
theorem g38_0_ok : EqD (Rl H) g38_0 (fun xs m => goR (EH H) Mk 155648 xs m) := sE fun _ => sE fun _ => sE fun _ => zE fun _ => goR_eq 400 (by kernel_rfl)
noncomputable def f38 : List AV → CM := apS fun a0 => apS fun a1 => ap0 <|
 CM.al (boxA a0) fun x0 =>
 CM.al (some (.cells [(.int .i64 0), (.int .u64 0), (.int .i64 0)] false, pB)) fun x1 =>
 CM.rm (q1 (loadA Tryz.prog 95) x0 ) fun x2 =>
 CM.call 60 [x2] fun x3 =>
 CM.pu (p1 (fun a => extractA a 0) x3) fun x4 =>
 CM.pu (p1 (fun a => extractA a 1) x3) fun x5 =>
 CM.al (some (.cells [(.int .i64 0), (.int .u64 0)] false, pB)) fun x6 =>
 CM.st (fun m => stV m x6 x4 2) <|
 CM.pu (p1 (unA .not) x5) fun x8 =>
 CM.cond x8 (
 CM.pu (p1 (buildA Tryz.prog 37) []) fun x9 =>
 CM.st (fun m => stV m x1 x9 3) <|
 CM.resC Tryz.prog [ResultVar.cell 0 37, ResultVar.tmp 1] [x1, (.int .i64 20)]) (
 CM.go 155648 [a1, x1, x6])
theorem f38_ok (h : H 38 = none) : EqD (Rl H) f38 (fun xs m => run (EH H) (.fn 38) xs m) := sE fun _ => sE fun _ => zE fun _ => run_eq 400 h (by kernel_rfl) (by kernel_rfl)
noncomputable def g39_0 : List AV → CM := apS fun t1 => apS fun t2 => apS fun t4 => ap0 <|
 CM.call 61 [t1] fun x0 =>
 CM.al (some (.cells [(.int .u64 0), (.int .u64 0), (.int .u64 0), (.int .u64 0), (.int .u64 0), (.int .u64 0), (.int .u64 0), (.int .u64 0), (.int .u64 0), (.int .u64 0), (.int .u64 0), (.int .u64 0), (.int .u64 0), (.int .u64 0), (.int .u64 0), (.int .u64 0)] false, pB)) fun x1 =>
 CM.st (fun m => stV m x1 x0 16) <|
 CM.pu (p1 (fun a => fieldAddrA Tryz.prog 95 a 1) t2) fun x3 =>
 CM.rm (q1 (loadA Tryz.prog 93) x3 ) fun x4 =>
 CM.rm (q1 (loadA Tryz.prog 93) x1 ) fun x5 =>
 CM.call 62 [x4, x5] fun x6 =>
 CM.pu (p1 (fun a => extractA a 0) x6) fun x7 =>
 CM.pu (p1 (fun a => extractA a 1) x6) fun x8 =>
 CM.al (some (.cells [(.int .u64 0), (.int .u64 0), (.int .u64 0), (.int .u64 0), (.int .u64 0), (.int .u64 0), (.int .u64 0), (.int .u64 0), (.int .u64 0), (.int .u64 0), (.int .u64 0), (.int .u64 0), (.int .u64 0), (.int .u64 0), (.int .u64 0), (.int .u64 0)] false, pB)) fun x9 =>
 CM.al (some (.cells [(.int .u64 0), (.int .u64 0), (.int .u64 0), (.int .u64 0), (.int .u64 0), (.int .u64 0), (.int .u64 0), (.int .u64 0), (.int .u64 0), (.int .u64 0), (.int .u64 0), (.int .u64 0), (.int .u64 0), (.int .u64 0), (.int .u64 0), (.int .u64 0)] false, pB)) fun x10 =>
 CM.st (fun m => stV m x9 x7 16) <|
 CM.st (fun m => stV m x10 x8 16) <|
 CM.al (some (.cells [(.int .u64 0), (.int .u64 0), (.int .u64 0), (.int .u64 0), (.int .u64 0), (.int .u64 0), (.int .u64 0), (.int .u64 0), (.int .u64 0), (.int .u64 0), (.int .u64 0), (.int .u64 0), (.int .u64 0), (.int .u64 0), (.int .u64 0), (.int .u64 0)] false, pB)) fun x13 =>
 CM.pu (p2 (indexAddrA Tryz.prog 93) x13 (.int .i64 0)) fun x14 =>
 CM.st (fun m => stV m x14 (.int .u64 1) 1) <|
 CM.rm (q1 (loadA Tryz.prog 93) x10 ) fun x16 =>
 CM.rm (q1 (loadA Tryz.prog 93) x10 ) fun x17 =>
 CM.memo fun m18 =>
 CM.call 64 [x16, x17] fun x19 =>
 CM.rm (q1 (loadA Tryz.prog 93) x1 ) fun x21 =>
 CM.chk (q1 (loadA Tryz.prog 93) x1 m18) x21 <|
 CM.call 63 [x19, x21] fun x23 =>
 CM.pu (p2 (binA Tryz.prog .gtr 3) x23 (.int .i64 0)) fun x25 =>
 CM.ifv x25 (
 CM.rm (q1 (loadA Tryz.prog 93) x9 ) fun x26 =>
 CM.rm (q1 (loadA Tryz.prog 93) x13 ) fun x27 =>
 CM.call 64 [x26, x27] fun x28 =>
 CM.st (fun m => stV m x9 x28 16) <|
 CM.go 159745 [t2, t4, x9]) (
 CM.pu (p2 (binA Tryz.prog .eql 3) x23 (.int .i64 0)) fun x30 =>
 CM.ifv x30 (
 CM.pu (p2 (indexAddrA Tryz.prog 93) x9 (.int .i64 0)) fun x31 =>
 CM.rm (q1 (loadA Tryz.prog 30) x31 ) fun x32 =>
 CM.pu (p2 (binA Tryz.prog .rem 30) x32 (.int .u64 2)) fun x33 =>
 CM.pu (p2 (binA Tryz.prog .eql 30) x33 (.int .u64 1)) fun x34 =>
 CM.cond x34 (
 CM.rm (q1 (loadA Tryz.prog 93) x9 ) fun x35 =>
 CM.rm (q1 (loadA Tryz.prog 93) x13 ) fun x36 =>
 CM.call 64 [x35, x36] fun x37 =>
 CM.st (fun m => stV m x9 x37 16) <|
 CM.go 159745 [t2, t4, x9]) (
 CM.go 159745 [t2, t4, x9])) (
 CM.go 159745 [t2, t4, x9]))
theorem g39_0_ok : EqD (Rl H) g39_0 (fun xs m => goR (EH H) Mk 159744 xs m) := sE fun _ => sE fun _ => sE fun _ => zE fun _ => goR_eq 400 (by kernel_rfl)
noncomputable def g39_1 : List AV → CM := apS fun t2 => apS fun t4 => apS fun t6 => ap0 <|
 CM.pu (p1 (fun a => fieldAddrA Tryz.prog 95 a 0) t2) fun x0 =>
 CM.rm (q1 (loadA Tryz.prog 4) x0 ) fun x1 =>
 CM.ifv x1 (
 CM.rm (q1 (loadA Tryz.prog 93) t6 ) fun x2 =>
 CM.memo fun m3 =>
 CM.call 65 [x2] fun x4 =>
 CM.pu (p1 (unA .not) x4) fun x6 =>
 CM.rm (q1 (loadA Tryz.prog 93) t6 ) fun x7 =>
 CM.chk (q1 (loadA Tryz.prog 93) t6 m3) x7 <|
 CM.pu (p1 (buildA Tryz.prog 95) [(0, x6), (1, x7)]) fun x8 =>
 CM.st (fun m => stV m t4 x8 17) <|
 CM.resC Tryz.prog [ResultVar.cell 0 95] [t4]) (
 CM.rm (q1 (loadA Tryz.prog 93) t6 ) fun x12 =>
 CM.pu (p1 (buildA Tryz.prog 95) [(0, (.bool false)), (1, x12)]) fun x13 =>
 CM.st (fun m => stV m t4 x13 17) <|
 CM.resC Tryz.prog [ResultVar.cell 0 95] [t4])
theorem g39_1_ok : EqD (Rl H) g39_1 (fun xs m => goR (EH H) Mk 159745 xs m) := sE fun _ => sE fun _ => sE fun _ => zE fun _ => goR_eq 400 (by kernel_rfl)
noncomputable def f39 : List AV → CM := apS fun a0 => apS fun a1 => ap0 <|
 CM.al (boxA a0) fun x0 =>
 CM.al (some (.cells [(.bool false), (.int .u64 0), (.int .u64 0), (.int .u64 0), (.int .u64 0), (.int .u64 0), (.int .u64 0), (.int .u64 0), (.int .u64 0), (.int .u64 0), (.int .u64 0), (.int .u64 0), (.int .u64 0), (.int .u64 0), (.int .u64 0), (.int .u64 0), (.int .u64 0)] false, pB)) fun x1 =>
 CM.pu (p2 (binA Tryz.prog .leq 3) a1 (.int .i64 0)) fun x2 =>
 CM.cond x2 (
 CM.rm (q1 (loadA Tryz.prog 95) x0 ) fun x3 =>
 CM.pu (p1 (unA .neg) a1) fun x4 =>
 CM.call 61 [x4] fun x6 =>
 CM.memo fun m7 =>
 CM.chk (q1 (loadA Tryz.prog 95) x0 m7) x3 <|
 CM.pu (p1 (buildA Tryz.prog 95) [(0, (.bool false)), (1, x6)]) fun x8 =>
 CM.call 40 [x3, x8] fun x10 =>
 CM.st (fun m => stV m x1 x10 17) <|
 CM.resC Tryz.prog [ResultVar.cell 0 95] [x1]) (
 CM.go 159744 [a1, x0, x1])
theorem f39_ok (h : H 39 = none) : EqD (Rl H) f39 (fun xs m => run (EH H) (.fn 39) xs m) := sE fun _ => sE fun _ => zE fun _ => run_eq 400 h (by kernel_rfl) (by kernel_rfl)
noncomputable def f40 : List AV → CM := apS fun a0 => apS fun a1 => ap0 <|
 CM.al (boxA a0) fun x0 =>
 CM.al (boxA a1) fun x1 =>
 CM.al (some (.cells [(.bool false), (.int .u64 0), (.int .u64 0), (.int .u64 0), (.int .u64 0), (.int .u64 0), (.int .u64 0), (.int .u64 0), (.int .u64 0), (.int .u64 0), (.int .u64 0), (.int .u64 0), (.int .u64 0), (.int .u64 0), (.int .u64 0), (.int .u64 0), (.int .u64 0)] false, pB)) fun x2 =>
 CM.pu (p1 (fun a => fieldAddrA Tryz.prog 95 a 1) x0) fun x3 =>
 CM.rm (q1 (loadA Tryz.prog 93) x3 ) fun x4 =>
 CM.pu (p1 (fun a => fieldAddrA Tryz.prog 95 a 1) x1) fun x5 =>
 CM.rm (q1 (loadA Tryz.prog 93) x5 ) fun x6 =>
 CM.call 66 [x4, x6] fun x7 =>
 CM.al (some (.cells [(.int .u64 0), (.int .u64 0), (.int .u64 0), (.int .u64 0), (.int .u64 0), (.int .u64 0), (.int .u64 0), (.int .u64 0), (.int .u64 0), (.int .u64 0), (.int .u64 0), (.int .u64 0), (.int .u64 0), (.int .u64 0), (.int .u64 0), (.int .u64 0)] false, pB)) fun x8 =>
 CM.st (fun m => stV m x8 x7 16) <|
 CM.pu (p1 (fun a => fieldAddrA Tryz.prog 95 a 0) x0) fun x10 =>
 CM.rm (q1 (loadA Tryz.prog 4) x10 ) fun x11 =>
 CM.pu (p1 (fun a => fieldAddrA Tryz.prog 95 a 0) x1) fun x12 =>
 CM.rm (q1 (loadA Tryz.prog 4) x12 ) fun x13 =>
 CM.pu (p2 (binA Tryz.prog .neq 4) x11 x13) fun x14 =>
 CM.ifv x14 (
 CM.rm (q1 (loadA Tryz.prog 93) x8 ) fun x15 =>
 CM.memo fun m16 =>
 CM.call 65 [x15] fun x17 =>
 CM.pu (p1 (unA .not) x17) fun x19 =>
 CM.rm (q1 (loadA Tryz.prog 93) x8 ) fun x20 =>
 CM.chk (q1 (loadA Tryz.prog 93) x8 m16) x20 <|
 CM.pu (p1 (buildA Tryz.prog 95) [(0, x19), (1, x20)]) fun x21 =>
 CM.st (fun m => stV m x2 x21 17) <|
 CM.resC Tryz.prog [ResultVar.cell 0 95] [x2]) (
 CM.rm (q1 (loadA Tryz.prog 93) x8 ) fun x25 =>
 CM.pu (p1 (buildA Tryz.prog 95) [(0, (.bool false)), (1, x25)]) fun x26 =>
 CM.st (fun m => stV m x2 x26 17) <|
 CM.resC Tryz.prog [ResultVar.cell 0 95] [x2])
theorem f40_ok (h : H 40 = none) : EqD (Rl H) f40 (fun xs m => run (EH H) (.fn 40) xs m) := sE fun _ => sE fun _ => zE fun _ => run_eq 400 h (by kernel_rfl) (by kernel_rfl)
noncomputable def g41_0 : List AV → CM := apS fun t2 => apS fun t3 => apS fun t4 => apS fun t5 => ap0 <|
 CM.pu (p1 (buildA Tryz.prog 95) [(0, t5)]) fun x0 =>
 CM.al (some (.cells [(.bool false), (.int .u64 0), (.int .u64 0), (.int .u64 0), (.int .u64 0), (.int .u64 0), (.int .u64 0), (.int .u64 0), (.int .u64 0), (.int .u64 0), (.int .u64 0), (.int .u64 0), (.int .u64 0), (.int .u64 0), (.int .u64 0), (.int .u64 0), (.int .u64 0)] false, pB)) fun x1 =>
 CM.st (fun m => stV m x1 x0 17) <|
 CM.pu (p2 (binA Tryz.prog .rem 30) t4 (.int .u64 4294967296)) fun x3 =>
 CM.pu (p1 (fun a => fieldAddrA Tryz.prog 95 a 1) x1) fun x4 =>
 CM.pu (p2 (indexAddrA Tryz.prog 93) x4 (.int .i64 0)) fun x5 =>
 CM.st (fun m => stV m x5 x3 1) <|
 CM.pu (p2 (binA Tryz.prog .quo 30) t4 (.int .u64 4294967296)) fun x7 =>
 CM.pu (p1 (fun a => fieldAddrA Tryz.prog 95 a 1) x1) fun x8 =>
 CM.pu (p2 (indexAddrA Tryz.prog 93) x8 (.int .i64 1)) fun x9 =>
 CM.st (fun m => stV m x9 x7 1) <|
 CM.pu (p2 (binA Tryz.prog .rem 30) t3 (.int .u64 4294967296)) fun x11 =>
 CM.pu (p1 (fun a => fieldAddrA Tryz.prog 95 a 1) x1) fun x12 =>
 CM.pu (p2 (indexAddrA Tryz.prog 93) x12 (.int .i64 2)) fun x13 =>
 CM.st (fun m => stV m x13 x11 1) <|
 CM.pu (p2 (binA Tryz.prog .quo 30) t3 (.int .u64 4294967296)) fun x15 =>
 CM.pu (p1 (fun a => fieldAddrA Tryz.prog 95 a 1) x1) fun x16 =>
 CM.pu (p2 (indexAddrA Tryz.prog 93) x16 (.int .i64 3)) fun x17 =>
 CM.st (fun m => stV m x17 x15 1) <|
 CM.rm (q1 (loadA Tryz.prog 95) x1 ) fun x19 =>
 CM.st (fun m => stV m t2 x19 17) <|
 CM.resC Tryz.prog [ResultVar.cell 0 95] [t2]
theorem g41_0_ok : EqD (Rl H) g41_0 (fun xs m => goR (EH H) Mk 167936 xs m) := sE fun _ => sE fun _ => sE fun _ => sE fun _ => zE fun _ => goR_eq 400 (by kernel_rfl)
noncomputable def f41 : List AV → CM := apS fun a0 => ap0 <|
 CM.al (boxA a0) fun x0 =>
 CM.al (some (.cells [(.bool false), (.int .u64 0), (.int .u64 0), (.int .u64 0), (.int .u64 0), (.int .u64 0), (.int .u64 0), (.int .u64 0), (.int .u64 0), (.int .u64 0), (.int .u64 0), (.int .u64 0), (.int .u64 0), (.int .u64 0), (.int .u64 0), (.int .u64 0), (.int .u64 0)] false, pB)) fun x1 =>
 CM.pu (p1 (fun a => fieldAddrA Tryz.prog 35 a 0) x0) fun x2 =>
 CM.rm (q1 (loadA Tryz.prog 2) x2 ) fun x3 =>
 CM.pu (p1 (convA Tryz.prog 2 30) x3) fun x4 =>
 CM.pu (p1 (fun a => fieldAddrA Tryz.prog 35 a 1) x0) fun x5 =>
 CM.rm (q1 (loadA Tryz.prog 30) x5 ) fun x6 =>
 CM.pu (p1 (fun a => fieldAddrA Tryz.prog 35 a 0) x0) fun x7 =>
 CM.rm (q1 (loadA Tryz.prog 2) x7 ) fun x8 =>
 CM.pu (p2 (binA Tryz.prog .lss 2) x8 (.int .i64 0)) fun x9 =>
 CM.cond x9 (
 CM.pu (p1 (unA .xor) x4) fun x10 =>
 CM.pu (p1 (unA .xor) x6) fun x11 =>
 CM.pu (p2 (binA Tryz.prog .add 30) x11 (.int .u64 1)) fun x12 =>
 CM.pu (p2 (binA Tryz.prog .eql 30) x12 (.int .u64 0)) fun x13 =>
 CM.cond x13 (
 CM.pu (p2 (binA Tryz.prog .add 30) x10 (.int .u64 1)) fun x14 =>
 CM.go 167936 [x1, x14, x12, x9]) (
 CM.go 167936 [x1, x10, x12, x9])) (
 CM.go 167936 [x1, x4, x6, x9])
theorem f41_ok (h : H 41 = none) : EqD (Rl H) f41 (fun xs m => run (EH H) (.fn 41) xs m) := sE fun _ => zE fun _ => run_eq 400 h (by kernel_rfl) (by kernel_rfl)
noncomputable def f42 : List AV → CM := apS fun a0 => ap0 <|
 CM.al (boxA a0) fun x0 =>
 CM.ret (.fn (.func 67) [] [x0])
theorem f42_ok (h : H 42 = none) : EqD (Rl H) f42 (fun xs m => run (EH H) (.fn 42) xs m) := sE fun _ => zE fun _ => run_eq 400 h (by kernel_rfl) (by kernel_rfl)
noncomputable def f43 : List AV → CM := apS fun a0 => ap0 <|
 CM.al (boxA a0) fun x0 =>
 CM.ret (.fn (.func 71) [] [x0])
theorem f43_ok (h : H 43 = none) : EqD (Rl H) f43 (fun xs m => run (EH H) (.fn 43) xs m) := sE fun _ => zE fun _ => run_eq 400 h (by kernel_rfl) (by kernel_rfl)
noncomputable def f44 : List AV → CM := apS fun a0 => ap0 <|
 CM.al (boxA a0) fun x0 =>
 CM.ret (.fn (.func 75) [] [x0])
theorem f44_ok (h : H 44 = none) : EqD (Rl H) f44 (fun xs m => run (EH H) (.fn 44) xs m) := sE fun _ => zE fun _ => run_eq 400 h (by kernel_rfl) (by kernel_rfl)
noncomputable def g45_0 : List AV → CM := apS fun t4 => apS fun t6 => apS fun t8 => ap0 <|
 CM.pu (p1 (convA Tryz.prog 30 2) t8) fun x0 =>
 CM.pu (p1 (buildA Tryz.prog 35) [(0, x0), (1, t6)]) fun x1 =>
 CM.st (fun m => stV m t4 x1 2) <|
 CM.resC Tryz.prog [ResultVar.cell 0 35, ResultVar.tmp 1] [t4, (.int .i64 0)]
theorem g45_0_ok : EqD (Rl H) g45_0 (fun xs m => goR (EH H) Mk 184320 xs m) := sE fun _ => sE fun _ => sE fun _ => zE fun _ => goR_eq 400 (by kernel_rfl)
noncomputable def f45 : List AV → CM := apS fun a0 => apS fun a1 => ap0 <|
 CM.al (boxA a0) fun x0 =>
 CM.al (boxA a1) fun x1 =>
 CM.al (some (.cells [(.int .i64 0), (.int .u64 0)] false, pB)) fun x2 =>
 CM.pu (p1 (fun a => fieldAddrA Tryz.prog 35 a 1) x0) fun x3 =>
 CM.rm (q1 (loadA Tryz.prog 30) x3 ) fun x4 =>
 CM.pu (p1 (fun a => fieldAddrA Tryz.prog 35 a 1) x1) fun x5 =>
 CM.rm (q1 (loadA Tryz.prog 30) x5 ) fun x6 =>
 CM.call 79 [x4, x6, (.int .u64 0)] fun x7 =>
 CM.pu (p1 (fun a => extractA a 0) x7) fun x8 =>
 CM.pu (p1 (fun a => extractA a 1) x7) fun x9 =>
 CM.pu (p1 (fun a => fieldAddrA Tryz.prog 35 a 0) x0) fun x10 =>
 CM.rm (q1 (loadA Tryz.prog 2) x10 ) fun x11 =>
 CM.pu (p1 (convA Tryz.prog 2 30) x11) fun x12 =>
 CM.pu (p1 (fun a => fieldAddrA Tryz.prog 35 a 0) x1) fun x13 =>
 CM.rm (q1 (loadA Tryz.prog 2) x13 ) fun x14 =>
 CM.pu (p1 (convA Tryz.prog 2 30) x14) fun x15 =>
 CM.call 79 [x12, x15, x9] fun x16 =>
 CM.pu (p1 (fun a => extractA a 0) x16) fun x17 =>
 CM.pu (p1 (fun a => extractA a 1) x16) fun _ =>
 CM.pu (p1 (fun a => fieldAddrA Tryz.prog 35 a 0) x0) fun x19 =>
 CM.rm (q1 (loadA Tryz.prog 2) x19 ) fun x20 =>
 CM.pu (p2 (binA Tryz.prog .lss 2) x20 (.int .i64 0)) fun x21 =>
 CM.pu (p1 (fun a => fieldAddrA Tryz.prog 35 a 0) x1) fun x22 =>
 CM.rm (q1 (loadA Tryz.prog 2) x22 ) fun x23 =>
 CM.pu (p2 (binA Tryz.prog .lss 2) x23 (.int .i64 0)) fun x24 =>
 CM.pu (p2 (binA Tryz.prog .neq 4) x21 x24) fun x25 =>
 CM.ifv x25 (
 CM.pu (p1 (convA Tryz.prog 30 2) x17) fun x26 =>
 CM.pu (p2 (binA Tryz.prog .lss 2) x26 (.int .i64 0)) fun x27 =>
 CM.pu (p1 (fun a => fieldAddrA Tryz.prog 35 a 0) x0) fun x28 =>
 CM.rm (q1 (loadA Tryz.prog 2) x28 ) fun x29 =>
 CM.pu (p2 (binA Tryz.prog .lss 2) x29 (.int .i64 0)) fun x30 =>
 CM.pu (p2 (binA Tryz.prog .neq 4) x27 x30) fun x31 =>
 CM.cond x31 (
 CM.pu (p1 (buildA Tryz.prog 35) []) fun x32 =>
 CM.st (fun m => stV m x2 x32 2) <|
 CM.resC Tryz.prog [ResultVar.cell 0 35, ResultVar.tmp 1] [x2, (.int .i64 20)]) (
 CM.go 184320 [x2, x8, x17])) (
 CM.go 184320 [x2, x8, x17])
theorem f45_ok (h : H 45 = none) : EqD (Rl H) f45 (fun xs m => run (EH H) (.fn 45) xs m) := sE fun _ => sE fun _ => zE fun _ => run_eq 400 h (by kernel_rfl) (by kernel_rfl)
noncomputable def g46_0 : List AV → CM := apS fun t0 => apS fun t1 => apS fun t6 => apS fun t7 => apS fun t8 => ap0 <|
 CM.pu (p2 (binA Tryz.prog .lss 3) t7 t8) fun x0 =>
 CM.cond x0 (
 CM.go 188417 [t0, t1, t6, t7, t8]) (
 CM.go 188418 [t0, t1, t6, t7])
theorem g46_0_ok : EqD (Rl H) g46_0 (fun xs m => goR (EH H) Mk 188416 xs m) := sE fun _ => sE fun _ => sE fun _ => sE fun _ => sE fun _ => zE fun _ => goR_eq 400 (by kernel_rfl)
noncomputable def g46_1 : List AV → CM := apS fun t0 => apS fun t1 => apS fun t6 => apS fun t7 => apS fun t8 => ap0 <|
 CM.pu (p2 (binA Tryz.prog .add 3) t7 t8) fun x0 =>
 CM.pu (p1 (convA Tryz.prog 3 127) x0) fun x1 =>
 CM.pu (p2 (binA Tryz.prog .shr 127) x1 (.int .u64 1)) fun x2 =>
 CM.pu (p1 (convA Tryz.prog 127 3) x2) fun x3 =>
 CM.pu (p2 (indexAddrA Tryz.prog 109) t0 x3) fun x4 =>
 CM.rm (q1 (loadA Tryz.prog 9) x4 ) fun x5 =>
 CM.call 80 [x5, t1] fun x6 =>
 CM.cond x6 (
 CM.pu (p2 (binA Tryz.prog .add 3) x3 (.int .i64 1)) fun x7 =>
 CM.go 188416 [t0, t1, t6, x7, t8]) (
 CM.go 188416 [t0, t1, t6, t7, x3])
theorem g46_1_ok : EqD (Rl H) g46_1 (fun xs m => goR (EH H) Mk 188417 xs m) := sE fun _ => sE fun _ => sE fun _ => sE fun _ => sE fun _ => zE fun _ => goR_eq 400 (by kernel_rfl)
noncomputable def g46_2 : List AV → CM := apS fun t0 => apS fun t1 => apS fun t6 => apS fun t7 => ap0 <|
 CM.pu (p2 (binA Tryz.prog .lss 3) t7 t6) fun x0 =>
 CM.ifv x0 (
 CM.pu (p2 (indexAddrA Tryz.prog 109) t0 t7) fun x1 =>
 CM.rm (q1 (loadA Tryz.prog 9) x1 ) fun x2 =>
 CM.pu (p2 (binA Tryz.prog .eql 9) x2 t1) fun x3 =>
 CM.ifv x3 (
 CM.ret (.tup [t7, (.bool true)])) (
 CM.pu (p2 (indexAddrA Tryz.prog 109) t0 t7) fun x4 =>
 CM.rm (q1 (loadA Tryz.prog 9) x4 ) fun x5 =>
 CM.call 81 [x5] fun x6 =>
 CM.ifv x6 (
 CM.call 81 [t1] fun x7 =>
 CM.ret (.tup [t7, x7])) (
 CM.ret (.tup [t7, (.bool false)])))) (
 CM.ret (.tup [t7, (.bool false)]))
theorem g46_2_ok : EqD (Rl H) g46_2 (fun xs m => goR (EH H) Mk 188418 xs m) := sE fun _ => sE fun _ => sE fun _ => sE fun _ => zE fun _ => goR_eq 400 (by kernel_rfl)
noncomputable def f46 : List AV → CM := apS fun a0 => apS fun a1 => ap0 <|
 CM.pu (p1 (lenT Tryz.prog 109) a0) fun x0 =>
 CM.go 188416 [a0, a1, x0, (.int .i64 0), x0]
theorem f46_ok (h : H 46 = none) : EqD (Rl H) f46 (fun xs m => run (EH H) (.fn 46) xs m) := sE fun _ => sE fun _ => zE fun _ => run_eq 400 h (by kernel_rfl) (by kernel_rfl)
noncomputable def g49_0 : List AV → CM := apS fun t0 => apS fun t1 => apS fun t6 => apS fun t7 => apS fun t8 => ap0 <|
 CM.pu (p2 (binA Tryz.prog .lss 3) t7 t8) fun x0 =>
 CM.cond x0 (
 CM.go 200705 [t0, t1, t6, t7, t8]) (
 CM.go 200706 [t0, t1, t6, t7])
theorem g49_0_ok : EqD (Rl H) g49_0 (fun xs m => goR (EH H) Mk 200704 xs m) := sE fun _ => sE fun _ => sE fun _ => sE fun _ => sE fun _ => zE fun _ => goR_eq 400 (by kernel_rfl)
noncomputable def g49_1 : List AV → CM := apS fun t0 => apS fun t1 => apS fun t6 => apS fun t7 => apS fun t8 => ap0 <|
 CM.pu (p2 (binA Tryz.prog .add 3) t7 t8) fun x0 =>
 CM.pu (p1 (convA Tryz.prog 3 127) x0) fun x1 =>
 CM.pu (p2 (binA Tryz.prog .shr 127) x1 (.int .u64 1)) fun x2 =>
 CM.pu (p1 (convA Tryz.prog 127 3) x2) fun x3 =>
 CM.pu (p2 (indexAddrA Tryz.prog 114) t0 x3) fun x4 =>
 CM.rm (q1 (loadA Tryz.prog 30) x4 ) fun x5 =>
 CM.call 86 [x5, t1] fun x6 =>
 CM.cond x6 (
 CM.pu (p2 (binA Tryz.prog .add 3) x3 (.int .i64 1)) fun x7 =>
 CM.go 200704 [t0, t1, t6, x7, t8]) (
 CM.go 200704 [t0, t1, t6, t7, x3])
theorem g49_1_ok : EqD (Rl H) g49_1 (fun xs m => goR (EH H) Mk 200705 xs m) := sE fun _ => sE fun _ => sE fun _ => sE fun _ => sE fun _ => zE fun _ => goR_eq 400 (by kernel_rfl)
noncomputable def g49_2 : List AV → CM := apS fun t0 => apS fun t1 => apS fun t6 => apS fun t7 => ap0 <|
 CM.pu (p2 (binA Tryz.prog .lss 3) t7 t6) fun x0 =>
 CM.ifv x0 (
 CM.pu (p2 (indexAddrA Tryz.prog 114) t0 t7) fun x1 =>
 CM.rm (q1 (loadA Tryz.prog 30) x1 ) fun x2 =>
 CM.pu (p2 (binA Tryz.prog .eql 30) x2 t1) fun x3 =>
 CM.ifv x3 (
 CM.ret (.tup [t7, (.bool true)])) (
 CM.pu (p2 (indexAddrA Tryz.prog 114) t0 t7) fun x4 =>
 CM.rm (q1 (loadA Tryz.prog 30) x4 ) fun x5 =>
 CM.call 87 [x5] fun x6 =>
 CM.ifv x6 (
 CM.call 87 [t1] fun x7 =>
 CM.ret (.tup [t7, x7])) (
 CM.ret (.tup [t7, (.bool false)])))) (
 CM.ret (.tup [t7, (.bool false)]))
theorem g49_2_ok : EqD (Rl H) g49_2 (fun xs m => goR (EH H) Mk 200706 xs m) := sE fun _ => sE fun _ => sE fun _ => sE fun _ => zE fun _ => goR_eq 400 (by kernel_rfl)
noncomputable def f49 : List AV → CM := apS fun a0 => apS fun a1 => ap0 <|
 CM.pu (p1 (lenT Tryz.prog 114) a0) fun x0 =>
 CM.go 200704 [a0, a1, x0, (.int .i64 0), x0]
theorem f49_ok (h : H 49 = none) : EqD (Rl H) f49 (fun xs m => run (EH H) (.fn 49) xs m) := sE fun _ => sE fun _ => zE fun _ => run_eq 400 h (by kernel_rfl) (by kernel_rfl)
noncomputable def g52_0 : List AV → CM := apS fun t0 => apS fun t4 => apS fun t6 => ap0 <|
 CM.pu (p1 nnA t0) fun x0 =>
 CM.pu (p1 (fun a => fieldAddrA Tryz.prog 116 a 1) x0) fun x1 =>
 CM.rm (q1 (loadA Tryz.prog 47) x1 ) fun x2 =>
 CM.pu (p2 (indexAddrA Tryz.prog 47) x2 t6) fun x3 =>
 CM.rm (q1 (loadA Tryz.prog 70) x3 ) fun x4 =>
 CM.st (fun m => stV m t4 x4 4) <|
 CM.resC Tryz.prog [ResultVar.cell 0 70, ResultVar.tmp 1] [t4, (.bool true)]
theorem g52_0_ok : EqD (Rl H) g52_0 (fun xs m => goR (EH H) Mk 212992 xs m) := sE fun _ => sE fun _ => sE fun _ => zE fun _ => goR_eq 400 (by kernel_rfl)
noncomputable def f52 : List AV → CM := apS fun a0 => apS fun a1 => ap0 <|
 CM.al (some (.cells [(.int .u64 0), (.str []), (.int .i64 0), (.int .u64 0)] false, pB)) fun x0 =>
 CM.pu (p1 nnA a0) fun x1 =>
 CM.pu (p1 (fun a => fieldAddrA Tryz.prog 116 a 0) x1) fun x2 =>
 CM.rm (q1 (loadA Tryz.prog 114) x2 ) fun x3 =>
 CM.call 49 [x3, a1] fun x4 =>
 CM.pu (p1 (fun a => extractA a 0) x4) fun x5 =>
 CM.pu (p1 (fun a => extractA a 1) x4) fun x6 =>
 CM.pu (p1 (unA .not) x6) fun x7 =>
 CM.cond x7 (
 CM.al (some (.cells [(.int .u64 0), (.str []), (.int .i64 0), (.int .u64 0)] false, pB)) fun x8 =>
 CM.rm (q1 (loadA Tryz.prog 70) x8 ) fun x9 =>
 CM.st (fun m => stV m x0 x9 4) <|
 CM.resC Tryz.prog [ResultVar.cell 0 70, ResultVar.tmp 1] [x0, (.bool false)]) (
 CM.go 212992 [a0, x0, x5])
theorem f52_ok (h : H 52 = none) : EqD (Rl H) f52 (fun xs m => run (EH H) (.fn 52) xs m) := sE fun _ => sE fun _ => zE fun _ => run_eq 400 h (by kernel_rfl) (by kernel_rfl)
noncomputable def g53_0 : List AV → CM := ap0 <|
 CM.ret (.int .i64 1)
theorem g53_0_ok : EqD (Rl H) g53_0 (fun xs m => goR (EH H) Mk 217088 xs m) := zE fun _ => goR_eq 400 (by kernel_rfl)
noncomputable def f53 : List AV → CM := apS fun a0 => ap0 <|
 CM.al (boxA a0) fun x0 =>
 CM.pu (p1 (fun a => fieldAddrA Tryz.prog 35 a 0) x0) fun x1 =>
 CM.rm (q1 (loadA Tryz.prog 2) x1 ) fun x2 =>
 CM.pu (p2 (binA Tryz.prog .lss 2) x2 (.int .i64 0)) fun x3 =>
 CM.cond x3 (
 CM.ret (.int .i64 (-1))) (
 CM.pu (p1 (fun a => fieldAddrA Tryz.prog 35 a 0) x0) fun x4 =>
 CM.rm (q1 (loadA Tryz.prog 2) x4 ) fun x5 =>
 CM.pu (p2 (binA Tryz.prog .eql 2) x5 (.int .i64 0)) fun x6 =>
 CM.ifv x6 (
 CM.pu (p1 (fun a => fieldAddrA Tryz.prog 35 a 1) x0) fun x7 =>
 CM.rm (q1 (loadA Tryz.prog 30) x7 ) fun x8 =>
 CM.pu (p2 (binA Tryz.prog .eql 30) x8 (.int .u64 0)) fun x9 =>
 CM.cond x9 (
 CM.ret (.int .i64 0)) (
 CM.go 217088 [])) (
 CM.go 217088 []))
theorem f53_ok (h : H 53 = none) : EqD (Rl H) f53 (fun xs m => run (EH H) (.fn 53) xs m) := sE fun _ => zE fun _ => run_eq 400 h (by kernel_rfl) (by kernel_rfl)
noncomputable def g54_0 : List AV → CM := apS fun t4 => apS fun t6 => apS fun t8 => ap0 <|
 CM.pu (p1 (convA Tryz.prog 30 2) t8) fun x0 =>
 CM.pu (p1 (buildA Tryz.prog 35) [(0, x0), (1, t6)]) fun x1 =>
 CM.st (fun m => stV m t4 x1 2) <|
 CM.resC Tryz.prog [ResultVar.cell 0 35, ResultVar.tmp 1] [t4, (.int .i64 0)]
theorem g54_0_ok : EqD (Rl H) g54_0 (fun xs m => goR (EH H) Mk 221184 xs m) := sE fun _ => sE fun _ => sE fun _ => zE fun _ => goR_eq 400 (by kernel_rfl)
noncomputable def f54 : List AV → CM := apS fun a0 => apS fun a1 => ap0 <|
 CM.al (boxA a0) fun x0 =>
 CM.al (boxA a1) fun x1 =>
 CM.al (some (.cells [(.int .i64 0), (.int .u64 0)] false, pB)) fun x2 =>
 CM.pu (p1 (fun a => fieldAddrA Tryz.prog 35 a 1) x0) fun x3 =>
 CM.rm (q1 (loadA Tryz.prog 30) x3 ) fun x4 =>
 CM.pu (p1 (fun a => fieldAddrA Tryz.prog 35 a 1) x1) fun x5 =>
 CM.rm (q1 (loadA Tryz.prog 30) x5 ) fun x6 =>
 CM.call 92 [x4, x6, (.int .u64 0)] fun x7 =>
 CM.pu (p1 (fun a => extractA a 0) x7) fun x8 =>
 CM.pu (p1 (fun a => extractA a 1) x7) fun x9 =>
 CM.pu (p1 (fun a => fieldAddrA Tryz.prog 35 a 0) x0) fun x10 =>
 CM.rm (q1 (loadA Tryz.prog 2) x10 ) fun x11 =>
 CM.pu (p1 (convA Tryz.prog 2 30) x11) fun x12 =>
 CM.pu (p1 (fun a => fieldAddrA Tryz.prog 35 a 0) x1) fun x13 =>
 CM.rm (q1 (loadA Tryz.prog 2) x13 ) fun x14 =>
 CM.pu (p1 (convA Tryz.prog 2 30) x14) fun x15 =>
 CM.call 92 [x12, x15, x9] fun x16 =>
 CM.pu (p1 (fun a => extractA a 0) x16) fun x17 =>
 CM.pu (p1 (fun a => extractA a 1) x16) fun _ =>
 CM.pu (p1 (fun a => fieldAddrA Tryz.prog 35 a 0) x0) fun x19 =>
 CM.rm (q1 (loadA Tryz.prog 2) x19 ) fun x20 =>
 CM.pu (p2 (binA Tryz.prog .lss 2) x20 (.int .i64 0)) fun x21 =>
 CM.pu (p1 (fun a => fieldAddrA Tryz.prog 35 a 0) x1) fun x22 =>
 CM.rm (q1 (loadA Tryz.prog 2) x22 ) fun x23 =>
 CM.pu (p2 (binA Tryz.prog .lss 2) x23 (.int .i64 0)) fun x24 =>
 CM.pu (p2 (binA Tryz.prog .eql 4) x21 x24) fun x25 =>
 CM.ifv x25 (
 CM.pu (p1 (convA Tryz.prog 30 2) x17) fun x26 =>
 CM.pu (p2 (binA Tryz.prog .lss 2) x26 (.int .i64 0)) fun x27 =>
 CM.pu (p1 (fun a => fieldAddrA Tryz.prog 35 a 0) x0) fun x28 =>
 CM.rm (q1 (loadA Tryz.prog 2) x28 ) fun x29 =>
 CM.pu (p2 (binA Tryz.prog .lss 2) x29 (.int .i64 0)) fun x30 =>
 CM.pu (p2 (binA Tryz.prog .neq 4) x27 x30) fun x31 =>
 CM.cond x31 (
 CM.pu (p1 (buildA Tryz.prog 35) []) fun x32 =>
 CM.st (fun m => stV m x2 x32 2) <|
 CM.resC Tryz.prog [ResultVar.cell 0 35, ResultVar.tmp 1] [x2, (.int .i64 20)]) (
 CM.go 221184 [x2, x8, x17])) (
 CM.go 221184 [x2, x8, x17])
theorem f54_ok (h : H 54 = none) : EqD (Rl H) f54 (fun xs m => run (EH H) (.fn 54) xs m) := sE fun _ => sE fun _ => zE fun _ => run_eq 400 h (by kernel_rfl) (by kernel_rfl)
noncomputable def f55 : List AV → CM := apS fun a0 => ap0 <|
 CM.al (boxA a0) fun x0 =>
 CM.pu (p1 (fun a => fieldAddrA Tryz.prog 37 a 1) x0) fun x1 =>
 CM.rm (q1 (loadA Tryz.prog 3) x1 ) fun x2 =>
 CM.call 93 [x2] fun x3 =>
 CM.ret x3
theorem f55_ok (h : H 55 = none) : EqD (Rl H) f55 (fun xs m => run (EH H) (.fn 55) xs m) := sE fun _ => zE fun _ => run_eq 400 h (by kernel_rfl) (by kernel_rfl)
noncomputable def f56 : List AV → CM := apS fun a0 => ap0 <|
 CM.al (boxA a0) fun x0 =>
 CM.rm (q1 (loadA Tryz.prog 37) x0 ) fun x1 =>
 CM.pu (p1 (buildA Tryz.prog 37) []) fun x2 =>
 CM.call 94 [x1, x2] fun x3 =>
 CM.pu (p1 (fun a => extractA a 0) x3) fun x4 =>
 CM.pu (p1 (fun a => extractA a 1) x3) fun x5 =>
 CM.pu (p2 (binA Tryz.prog .eql 25) x5 (.int .i64 0)) fun x6 =>
 CM.ifv x6 (
 CM.pu (p2 (binA Tryz.prog .gtr 3) x4 (.int .i64 0)) fun x7 =>
 CM.ret x7) (
 CM.ret (.bool false))
theorem f56_ok (h : H 56 = none) : EqD (Rl H) f56 (fun xs m => run (EH H) (.fn 56) xs m) := sE fun _ => zE fun _ => run_eq 400 h (by kernel_rfl) (by kernel_rfl)
noncomputable def g58_0 : List AV → CM := ap0 <|
 CM.ret (.int .i64 1)
theorem g58_0_ok : EqD (Rl H) g58_0 (fun xs m => goR (EH H) Mk 237568 xs m) := zE fun _ => goR_eq 400 (by kernel_rfl)
noncomputable def f58 : List AV → CM := apS fun a0 => apS fun a1 => ap0 <|
 CM.al (boxA a0) fun x0 =>
 CM.al (boxA a1) fun x1 =>
 CM.pu (p1 (fun a => fieldAddrA Tryz.prog 35 a 0) x0) fun x2 =>
 CM.rm (q1 (loadA Tryz.prog 2) x2 ) fun x3 =>
 CM.pu (p1 (fun a => fieldAddrA Tryz.prog 35 a 0) x1) fun x4 =>
 CM.rm (q1 (loadA Tryz.prog 2) x4 ) fun x5 =>
 CM.pu (p2 (binA Tryz.prog .lss 2) x3 x5) fun x6 =>
 CM.ifv x6 (
 CM.ret (.int .i64 (-1))) (
 CM.pu (p1 (fun a => fieldAddrA Tryz.prog 35 a 0) x0) fun x7 =>
 CM.rm (q1 (loadA Tryz.prog 2) x7 ) fun x8 =>
 CM.pu (p1 (fun a => fieldAddrA Tryz.prog 35 a 0) x1) fun x9 =>
 CM.rm (q1 (loadA Tryz.prog 2) x9 ) fun x10 =>
 CM.pu (p2 (binA Tryz.prog .eql 2) x8 x10) fun x11 =>
 CM.ifv x11 (
 CM.pu (p1 (fun a => fieldAddrA Tryz.prog 35 a 1) x0) fun x12 =>
 CM.rm (q1 (loadA Tryz.prog 30) x12 ) fun x13 =>
 CM.pu (p1 (fun a => fieldAddrA Tryz.prog 35 a 1) x1) fun x14 =>
 CM.rm (q1 (loadA Tryz.prog 30) x14 ) fun x15 =>
 CM.pu (p2 (binA Tryz.prog .lss 30) x13 x15) fun x16 =>
 CM.cond x16 (
 CM.ret (.int .i64 (-1))) (
 CM.rm (q1 (loadA Tryz.prog 35) x0 ) fun x17 =>
 CM.rm (q1 (loadA Tryz.prog 35) x1 ) fun x18 =>
 CM.pu (p2 (binA Tryz.prog .eql 35) x17 x18) fun x19 =>
 CM.cond x19 (
 CM.ret (.int .i64 0)) (
 CM.go 237568 []))) (
 CM.rm (q1 (loadA Tryz.prog 35) x0 ) fun x20 =>
 CM.rm (q1 (loadA Tryz.prog 35) x1 ) fun x21 =>
 CM.pu (p2 (binA Tryz.prog .eql 35) x20 x21) fun x22 =>
 CM.cond x22 (
 CM.ret (.int .i64 0)) (
 CM.go 237568 [])))
theorem f58_ok (h : H 58 = none) : EqD (Rl H) f58 (fun xs m => run (EH H) (.fn 58) xs m) := sE fun _ => sE fun _ => zE fun _ => run_eq 400 h (by kernel_rfl) (by kernel_rfl)
noncomputable def g59_0 : List AV → CM := apS fun t2 => apS fun t3 => apS fun t4 => apS fun t6 => ap0 <|
 CM.pu (p1 (fun a => fieldAddrA Tryz.prog 37 a 1) t3) fun x0 =>
 CM.rm (q1 (loadA Tryz.prog 3) x0 ) fun x1 =>
 CM.pu (p1 (fun a => fieldAddrA Tryz.prog 37 a 1) t4) fun x2 =>
 CM.rm (q1 (loadA Tryz.prog 3) x2 ) fun x3 =>
 CM.pu (p2 (binA Tryz.prog .add 3) x1 x3) fun x4 =>
 CM.pu (p2 (binA Tryz.prog .sub 3) x4 t2) fun x5 =>
 CM.al (some (.cells [(.int .i64 0), (.int .u64 0)] false, pB)) fun x6 =>
 CM.pu (p2 (binA Tryz.prog .geq 3) x5 (.int .i64 0)) fun x7 =>
 CM.cond x7 (
 CM.pu (p1 (fun a => fieldAddrA Tryz.prog 37 a 0) t3) fun x8 =>
 CM.rm (q1 (loadA Tryz.prog 35) x8 ) fun x9 =>
 CM.pu (p1 (fun a => fieldAddrA Tryz.prog 37 a 0) t4) fun x10 =>
 CM.rm (q1 (loadA Tryz.prog 35) x10 ) fun x11 =>
 CM.call 97 [x9, x11, x5] fun x12 =>
 CM.pu (p1 (fun a => extractA a 0) x12) fun x13 =>
 CM.pu (p1 (fun a => extractA a 1) x12) fun x14 =>
 CM.st (fun m => stV m x6 x13 2) <|
 CM.go 241665 [t2, t6, x6, x14]) (
 CM.pu (p1 (fun a => fieldAddrA Tryz.prog 37 a 0) t3) fun x16 =>
 CM.rm (q1 (loadA Tryz.prog 35) x16 ) fun x17 =>
 CM.pu (p1 (fun a => fieldAddrA Tryz.prog 37 a 0) t4) fun x18 =>
 CM.rm (q1 (loadA Tryz.prog 35) x18 ) fun x19 =>
 CM.call 98 [x17, x19] fun x20 =>
 CM.pu (p1 (fun a => extractA a 0) x20) fun x21 =>
 CM.pu (p1 (fun a => extractA a 1) x20) fun x22 =>
 CM.st (fun m => stV m x6 x21 2) <|
 CM.pu (p2 (binA Tryz.prog .eql 25) x22 (.int .i64 0)) fun x24 =>
 CM.cond x24 (
 CM.rm (q1 (loadA Tryz.prog 35) x6 ) fun x25 =>
 CM.pu (p1 (unA .neg) x5) fun x26 =>
 CM.call 99 [x25, x26] fun x27 =>
 CM.pu (p1 (fun a => extractA a 0) x27) fun x28 =>
 CM.pu (p1 (fun a => extractA a 1) x27) fun x29 =>
 CM.st (fun m => stV m x6 x28 2) <|
 CM.go 241665 [t2, t6, x6, x29]) (
 CM.go 241665 [t2, t6, x6, x22]))
theorem g59_0_ok : EqD (Rl H) g59_0 (fun xs m => goR (EH H) Mk 241664 xs m) := sE fun _ => sE fun _ => sE fun _ => sE fun _ => zE fun _ => goR_eq 400 (by kernel_rfl)
noncomputable def g59_1 : List AV → CM := apS fun t2 => apS fun t6 => apS fun t9 => apS fun t10 => ap0 <|
 CM.pu (p2 (binA Tryz.prog .neq 25) t10 (.int .i64 0)) fun x0 =>
 CM.cond x0 (
 CM.pu (p1 (buildA Tryz.prog 37) []) fun x1 =>
 CM.st (fun m => stV m t6 x1 3) <|
 CM.resC Tryz.prog [ResultVar.cell 0 37, ResultVar.tmp 1] [t6, t10]) (
 CM.go 241666 [t2, t6, t9])
theorem g59_1_ok : EqD (Rl H) g59_1 (fun xs m => goR (EH H) Mk 241665 xs m) := sE fun _ => sE fun _ => sE fun _ => sE fun _ => zE fun _ => goR_eq 400 (by kernel_rfl)
noncomputable def g59_2 : List AV → CM := apS fun t2 => apS fun t6 => apS fun t9 => ap0 <|
 CM.rm (q1 (loadA Tryz.prog 35) t9 ) fun x0 =>
 CM.pu (p1 (buildA Tryz.prog 37) [(0, x0), (1, t2)]) fun x1 =>
 CM.st (fun m => stV m t6 x1 3) <|
 CM.resC Tryz.prog [ResultVar.cell 0 37, ResultVar.tmp 1] [t6, (.int .i64 0)]
theorem g59_2_ok : EqD (Rl H) g59_2 (fun xs m => goR (EH H) Mk 241666 xs m) := sE fun _ => sE fun _ => sE fun _ => zE fun _ => goR_eq 400 (by kernel_rfl)
noncomputable def f59 : List AV → CM := apS fun a0 => apS fun a1 => apS fun a2 => ap0 <|
 CM.al (boxA a0) fun x0 =>
 CM.al (boxA a1) fun x1 =>
 CM.al (some (.cells [(.int .i64 0), (.int .u64 0), (.int .i64 0)] false, pB)) fun x2 =>
 CM.rm (q1 (loadA Tryz.prog 37) x0 ) fun x3 =>
 CM.call 55 [x3] fun x4 =>
 CM.pu (p1 (unA .not) x4) fun x5 =>
 CM.ifv x5 (
 CM.pu (p1 (buildA Tryz.prog 37) []) fun x6 =>
 CM.st (fun m => stV m x2 x6 3) <|
 CM.resC Tryz.prog [ResultVar.cell 0 37, ResultVar.tmp 1] [x2, (.int .i64 21)]) (
 CM.rm (q1 (loadA Tryz.prog 37) x1 ) fun x8 =>
 CM.call 55 [x8] fun x9 =>
 CM.pu (p1 (unA .not) x9) fun x10 =>
 CM.ifv x10 (
 CM.pu (p1 (buildA Tryz.prog 37) []) fun x11 =>
 CM.st (fun m => stV m x2 x11 3) <|
 CM.resC Tryz.prog [ResultVar.cell 0 37, ResultVar.tmp 1] [x2, (.int .i64 21)]) (
 CM.call 93 [a2] fun x13 =>
 CM.pu (p1 (unA .not) x13) fun x14 =>
 CM.cond x14 (
 CM.pu (p1 (buildA Tryz.prog 37) []) fun x15 =>
 CM.st (fun m => stV m x2 x15 3) <|
 CM.resC Tryz.prog [ResultVar.cell 0 37, ResultVar.tmp 1] [x2, (.int .i64 21)]) (
 CM.go 241664 [a2, x0, x1, x2])))
theorem f59_ok (h : H 59 = none) : EqD (Rl H) f59 (fun xs m => run (EH H) (.fn 59) xs m) := sE fun _ => sE fun _ => sE fun _ => zE fun _ => run_eq 400 h (by kernel_rfl) (by kernel_rfl)
noncomputable def g60_0 : List AV → CM := apS fun t1 => apS fun t2 => apS fun t4 => ap0 <|
 CM.pu (p2 (binA Tryz.prog .lss 3) t4 (.int .i64 16)) fun x0 =>
 CM.cond x0 (
 CM.go 245761 [t1, t2, t4]) (
 CM.go 245763 [t1, t2])
theorem g60_0_ok : EqD (Rl H) g60_0 (fun xs m => goR (EH H) Mk 245760 xs m) := sE fun _ => sE fun _ => sE fun _ => zE fun _ => goR_eq 400 (by kernel_rfl)
noncomputable def g60_1 : List AV → CM := apS fun t1 => apS fun t2 => apS fun t4 => ap0 <|
 CM.pu (p1 (fun a => fieldAddrA Tryz.prog 95 a 1) t1) fun x0 =>
 CM.pu (p2 (indexAddrA Tryz.prog 93) x0 t4) fun x1 =>
 CM.rm (q1 (loadA Tryz.prog 30) x1 ) fun x2 =>
 CM.pu (p2 (binA Tryz.prog .neq 30) x2 (.int .u64 0)) fun x3 =>
 CM.cond x3 (
 CM.pu (p1 (buildA Tryz.prog 35) []) fun x4 =>
 CM.st (fun m => stV m t2 x4 2) <|
 CM.resC Tryz.prog [ResultVar.cell 0 35, ResultVar.tmp 1] [t2, (.bool false)]) (
 CM.go 245762 [t1, t2, t4])
theorem g60_1_ok : EqD (Rl H) g60_1 (fun xs m => goR (EH H) Mk 245761 xs m) := sE fun _ => sE fun _ => sE fun _ => zE fun _ => goR_eq 400 (by kernel_rfl)
noncomputable def g60_2 : List AV → CM := apS fun t1 => apS fun t2 => apS fun t4 => ap0 <|
 CM.pu (p2 (binA Tryz.prog .add 3) t4 (.int .i64 1)) fun x0 =>
 CM.go 245760 [t1, t2, x0]
theorem g60_2_ok : EqD (Rl H) g60_2 (fun xs m => goR (EH H) Mk 245762 xs m) := sE fun _ => sE fun _ => sE fun _ => zE fun _ => goR_eq 400 (by kernel_rfl)
noncomputable def g60_3 : List AV → CM := apS fun t1 => apS fun t2 => ap0 <|
 CM.pu (p1 (fun a => fieldAddrA Tryz.prog 95 a 1) t1) fun x0 =>
 CM.pu (p2 (indexAddrA Tryz.prog 93) x0 (.int .i64 0)) fun x1 =>
 CM.rm (q1 (loadA Tryz.prog 30) x1 ) fun x2 =>
 CM.pu (p1 (fun a => fieldAddrA Tryz.prog 95 a 1) t1) fun x3 =>
 CM.pu (p2 (indexAddrA Tryz.prog 93) x3 (.int .i64 1)) fun x4 =>
 CM.rm (q1 (loadA Tryz.prog 30) x4 ) fun x5 =>
 CM.pu (p2 (binA Tryz.prog .shl 30) x5 (.int .u64 32)) fun x6 =>
 CM.pu (p2 (binA Tryz.prog .add 30) x2 x6) fun x7 =>
 CM.pu (p1 (fun a => fieldAddrA Tryz.prog 95 a 1) t1) fun x8 =>
 CM.pu (p2 (indexAddrA Tryz.prog 93) x8 (.int .i64 2)) fun x9 =>
 CM.rm (q1 (loadA Tryz.prog 30) x9 ) fun x10 =>
 CM.pu (p1 (fun a => fieldAddrA Tryz.prog 95 a 1) t1) fun x11 =>
 CM.pu (p2 (indexAddrA Tryz.prog 93) x11 (.int .i64 3)) fun x12 =>
 CM.rm (q1 (loadA Tryz.prog 30) x12 ) fun x13 =>
 CM.pu (p2 (binA Tryz.prog .shl 30) x13 (.int .u64 32)) fun x14 =>
 CM.pu (p2 (binA Tryz.prog .add 30) x10 x14) fun x15 =>
 CM.pu (p1 (fun a => fieldAddrA Tryz.prog 95 a 0) t1) fun x16 =>
 CM.rm (q1 (loadA Tryz.prog 4) x16 ) fun x17 =>
 CM.pu (p1 (unA .not) x17) fun x18 =>
 CM.cond x18 (
 CM.pu (p1 (convA Tryz.prog 30 2) x15) fun x19 =>
 CM.pu (p1 (buildA Tryz.prog 35) [(0, x19), (1, x7)]) fun x20 =>
 CM.pu (p2 (binA Tryz.prog .lss 30) x15 (.int .u64 9223372036854775808)) fun x21 =>
 CM.st (fun m => stV m t2 x20 2) <|
 CM.resC Tryz.prog [ResultVar.cell 0 35, ResultVar.tmp 1] [t2, x21]) (
 CM.go 245764 [t2, x7, x15])
theorem g60_3_ok : EqD (Rl H) g60_3 (fun xs m => goR (EH H) Mk 245763 xs m) := sE fun _ => sE fun _ => zE fun _ => goR_eq 400 (by kernel_rfl)
noncomputable def g60_4 : List AV → CM := apS fun t2 => apS fun t5 => apS fun t6 => ap0 <|
 CM.pu (p2 (binA Tryz.prog .gtr 30) t6 (.int .u64 9223372036854775808)) fun x0 =>
 CM.ifv x0 (
 CM.pu (p1 (buildA Tryz.prog 35) []) fun x1 =>
 CM.st (fun m => stV m t2 x1 2) <|
 CM.resC Tryz.prog [ResultVar.cell 0 35, ResultVar.tmp 1] [t2, (.bool false)]) (
 CM.pu (p2 (binA Tryz.prog .eql 30) t6 (.int .u64 9223372036854775808)) fun x3 =>
 CM.ifv x3 (
 CM.pu (p2 (binA Tryz.prog .gtr 30) t5 (.int .u64 0)) fun x4 =>
 CM.cond x4 (
 CM.pu (p1 (buildA Tryz.prog 35) []) fun x5 =>
 CM.st (fun m => stV m t2 x5 2) <|
 CM.resC Tryz.prog [ResultVar.cell 0 35, ResultVar.tmp 1] [t2, (.bool false)]) (
 CM.go 245765 [t2, t5, t6])) (
 CM.go 245765 [t2, t5, t6]))
theorem g60_4_ok : EqD (Rl H) g60_4 (fun xs m => goR (EH H) Mk 245764 xs m) := sE fun _ => sE fun _ => sE fun _ => zE fun _ => goR_eq 400 (by kernel_rfl)
noncomputable def g60_5 : List AV → CM := apS fun t2 => apS fun t5 => apS fun t6 => ap0 <|
 CM.pu (p1 (unA .xor) t5) fun x0 =>
 CM.pu (p1 (unA .xor) t6) fun x1 =>
 CM.pu (p2 (binA Tryz.prog .add 30) x0 (.int .u64 1)) fun x2 =>
 CM.pu (p2 (binA Tryz.prog .eql 30) x2 (.int .u64 0)) fun x3 =>
 CM.cond x3 (
 CM.pu (p2 (binA Tryz.prog .add 30) x1 (.int .u64 1)) fun x4 =>
 CM.go 245766 [t2, x2, x4]) (
 CM.go 245766 [t2, x2, x1])
theorem g60_5_ok : EqD (Rl H) g60_5 (fun xs m => goR (EH H) Mk 245765 xs m) := sE fun _ => sE fun _ => sE fun _ => zE fun _ => goR_eq 400 (by kernel_rfl)
noncomputable def g60_6 : List AV → CM := apS fun t2 => apS fun t5 => apS fun t6 => ap0 <|
 CM.pu (p1 (convA Tryz.prog 30 2) t6) fun x0 =>
 CM.pu (p1 (buildA Tryz.prog 35) [(0, x0), (1, t5)]) fun x1 =>
 CM.st (fun m => stV m t2 x1 2) <|
 CM.resC Tryz.prog [ResultVar.cell 0 35, ResultVar.tmp 1] [t2, (.bool true)]
theorem g60_6_ok : EqD (Rl H) g60_6 (fun xs m => goR (EH H) Mk 245766 xs m) := sE fun _ => sE fun _ => sE fun _ => zE fun _ => goR_eq 400 (by kernel_rfl)
noncomputable def f60 : List AV → CM := apS fun a0 => ap0 <|
 CM.al (boxA a0) fun x0 =>
 CM.al (some (.cells [(.int .i64 0), (.int .u64 0)] false, pB)) fun x1 =>
 CM.go 245760 [x0, x1, (.int .i64 4)]
theorem f60_ok (h : H 60 = none) : EqD (Rl H) f60 (fun xs m => run (EH H) (.fn 60) xs m) := sE fun _ => zE fun _ => run_eq 400 h (by kernel_rfl) (by kernel_rfl)
noncomputable def g61_0 : List AV → CM := apS fun t0 => apS fun t2 => apS fun t3 => apS fun t4 => apS fun t5 => ap0 <|
 CM.pu (p2 (binA Tryz.prog .lss 3) t5 t0) fun x0 =>
 CM.cond x0 (
 CM.go 249857 [t0, t2, t3, t4, t5]) (
 CM.go 249859 [t2, t3])
theorem g61_0_ok : EqD (Rl H) g61_0 (fun xs m => goR (EH H) Mk 249856 xs m) := sE fun _ => sE fun _ => sE fun _ => sE fun _ => sE fun _ => zE fun _ => goR_eq 400 (by kernel_rfl)
noncomputable def g61_1 : List AV → CM := apS fun t0 => apS fun t2 => apS fun t3 => apS fun t4 => apS fun t5 => ap0 <|
 CM.rm (q1 (loadA Tryz.prog 93) t3 ) fun x0 =>
 CM.rm (q1 (loadA Tryz.prog 93) t4 ) fun x1 =>
 CM.call 66 [x0, x1] fun x2 =>
 CM.st (fun m => stV m t3 x2 16) <|
 CM.go 249858 [t0, t2, t3, t4, t5]
theorem g61_1_ok : EqD (Rl H) g61_1 (fun xs m => goR (EH H) Mk 249857 xs m) := sE fun _ => sE fun _ => sE fun _ => sE fun _ => sE fun _ => zE fun _ => goR_eq 400 (by kernel_rfl)
noncomputable def g61_2 : List AV → CM := apS fun t0 => apS fun t2 => apS fun t3 => apS fun t4 => apS fun t5 => ap0 <|
 CM.pu (p2 (binA Tryz.prog .add 3) t5 (.int .i64 1)) fun x0 =>
 CM.go 249856 [t0, t2, t3, t4, x0]
theorem g61_2_ok : EqD (Rl H) g61_2 (fun xs m => goR (EH H) Mk 249858 xs m) := sE fun _ => sE fun _ => sE fun _ => sE fun _ => sE fun _ => zE fun _ => goR_eq 400 (by kernel_rfl)
noncomputable def g61_3 : List AV → CM := apS fun t2 => apS fun t3 => ap0 <|
 CM.rm (q1 (loadA Tryz.prog 93) t3 ) fun x0 =>
 CM.st (fun m => stV m t2 x0 16) <|
 CM.resC Tryz.prog [ResultVar.cell 0 93] [t2]
theorem g61_3_ok : EqD (Rl H) g61_3 (fun xs m => goR (EH H) Mk 249859 xs m) := sE fun _ => sE fun _ => zE fun _ => goR_eq 400 (by kernel_rfl)
noncomputable def f61 : List AV → CM := apS fun a0 => ap0 <|
 CM.al (some (.cells [(.int .u64 0), (.int .u64 0), (.int .u64 0), (.int .u64 0), (.int .u64 0), (.int .u64 0), (.int .u64 0), (.int .u64 0), (.int .u64 0), (.int .u64 0), (.int .u64 0), (.int .u64 0), (.int .u64 0), (.int .u64 0), (.int .u64 0), (.int .u64 0)] false, pB)) fun x0 =>
 CM.al (some (.cells [(.int .u64 0), (.int .u64 0), (.int .u64 0), (.int .u64 0), (.int .u64 0), (.int .u64 0), (.int .u64 0), (.int .u64 0), (.int .u64 0), (.int .u64 0), (.int .u64 0), (.int .u64 0), (.int .u64 0), (.int .u64 0), (.int .u64 0), (.int .u64 0)] false, pB)) fun x1 =>
 CM.al (some (.cells [(.int .u64 0), (.int .u64 0), (.int .u64 0), (.int .u64 0), (.int .u64 0), (.int .u64 0), (.int .u64 0), (.int .u64 0), (.int .u64 0), (.int .u64 0), (.int .u64 0), (.int .u64 0), (.int .u64 0), (.int .u64 0), (.int .u64 0), (.int .u64 0)] false, pB)) fun x2 =>
 CM.pu (p2 (indexAddrA Tryz.prog 93) x1 (.int .i64 0)) fun x3 =>
 CM.st (fun m => stV m x3 (.int .u64 1) 1) <|
 CM.pu (p2 (indexAddrA Tryz.prog 93) x2 (.int .i64 0)) fun x5 =>
 CM.st (fun m => stV m x5 (.int .u64 10) 1) <|
 CM.go 249856 [a0, x0, x1, x2, (.int .i64 0)]
theorem f61_ok (h : H 61 = none) : EqD (Rl H) f61 (fun xs m => run (EH H) (.fn 61) xs m) := sE fun _ => zE fun _ => run_eq 400 h (by kernel_rfl) (by kernel_rfl)
noncomputable def g62_0 : List AV → CM := apS fun t2 => apS fun t3 => apS fun t4 => apS fun t5 => apS fun t6 => ap0 <|
 CM.pu (p2 (binA Tryz.prog .geq 3) t6 (.int .i64 0)) fun x0 =>
 CM.cond x0 (
 CM.go 253953 [t2, t3, t4, t5, t6]) (
 CM.go 253955 [t4, t5])
theorem g62_0_ok : EqD (Rl H) g62_0 (fun xs m => goR (EH H) Mk 253952 xs m) := sE fun _ => sE fun _ => sE fun _ => sE fun _ => sE fun _ => zE fun _ => goR_eq 400 (by kernel_rfl)
noncomputable def g62_1 : List AV → CM := apS fun t2 => apS fun t3 => apS fun t4 => apS fun t5 => apS fun t6 => ap0 <|
 CM.rm (q1 (loadA Tryz.prog 93) t5 ) fun x0 =>
 CM.rm (q1 (loadA Tryz.prog 93) t5 ) fun x1 =>
 CM.call 64 [x0, x1] fun x2 =>
 CM.st (fun m => stV m t5 x2 16) <|
 CM.pu (p2 (indexAddrA Tryz.prog 93) t5 (.int .i64 0)) fun x4 =>
 CM.rm (q1 (loadA Tryz.prog 30) x4 ) fun x5 =>
 CM.pu (p2 (binA Tryz.prog .quo 3) t6 (.int .i64 32)) fun x6 =>
 CM.pu (p2 (indexAddrA Tryz.prog 93) t2 x6) fun x7 =>
 CM.rm (q1 (loadA Tryz.prog 30) x7 ) fun x8 =>
 CM.pu (p1 (convA Tryz.prog 3 127) t6) fun x9 =>
 CM.pu (p2 (binA Tryz.prog .rem 127) x9 (.int .u64 32)) fun x10 =>
 CM.pu (p2 (binA Tryz.prog .shr 30) x8 x10) fun x11 =>
 CM.pu (p2 (binA Tryz.prog .rem 30) x11 (.int .u64 2)) fun x12 =>
 CM.pu (p2 (binA Tryz.prog .add 30) x5 x12) fun x13 =>
 CM.pu (p2 (indexAddrA Tryz.prog 93) t5 (.int .i64 0)) fun x14 =>
 CM.st (fun m => stV m x14 x13 1) <|
 CM.rm (q1 (loadA Tryz.prog 93) t5 ) fun x18 =>
 CM.rm (q1 (loadA Tryz.prog 93) t3 ) fun x19 =>
 CM.call 63 [x18, x19] fun x20 =>
 CM.pu (p2 (binA Tryz.prog .geq 3) x20 (.int .i64 0)) fun x21 =>
 CM.cond x21 (
 CM.rm (q1 (loadA Tryz.prog 93) t5 ) fun x22 =>
 CM.rm (q1 (loadA Tryz.prog 93) t3 ) fun x23 =>
 CM.call 100 [x22, x23] fun x24 =>
 CM.st (fun m => stV m t5 x24 16) <|
 CM.pu (p2 (binA Tryz.prog .quo 3) t6 (.int .i64 32)) fun x26 =>
 CM.pu (p2 (binA Tryz.prog .quo 3) t6 (.int .i64 32)) fun x27 =>
 CM.pu (p2 (indexAddrA Tryz.prog 93) t4 x27) fun x28 =>
 CM.rm (q1 (loadA Tryz.prog 30) x28 ) fun x29 =>
 CM.pu (p1 (convA Tryz.prog 3 127) t6) fun x30 =>
 CM.pu (p2 (binA Tryz.prog .rem 127) x30 (.int .u64 32)) fun x31 =>
 CM.pu (p2 (binA Tryz.prog .shl 30) (.int .u64 1) x31) fun x32 =>
 CM.pu (p2 (binA Tryz.prog .add 30) x29 x32) fun x33 =>
 CM.pu (p2 (indexAddrA Tryz.prog 93) t4 x26) fun x34 =>
 CM.st (fun m => stV m x34 x33 1) <|
 CM.go 253954 [t2, t3, t4, t5, t6]) (
 CM.go 253954 [t2, t3, t4, t5, t6])
theorem g62_1_ok : EqD (Rl H) g62_1 (fun xs m => goR (EH H) Mk 253953 xs m) := sE fun _ => sE fun _ => sE fun _ => sE fun _ => sE fun _ => zE fun _ => goR_eq 400 (by kernel_rfl)
noncomputable def g62_2 : List AV → CM := apS fun t2 => apS fun t3 => apS fun t4 => apS fun t5 => apS fun t6 => ap0 <|
 CM.pu (p2 (binA Tryz.prog .sub 3) t6 (.int .i64 1)) fun x0 =>
 CM.go 253952 [t2, t3, t4, t5, x0]
theorem g62_2_ok : EqD (Rl H) g62_2 (fun xs m => goR (EH H) Mk 253954 xs m) := sE fun _ => sE fun _ => sE fun _ => sE fun _ => sE fun _ => zE fun _ => goR_eq 400 (by kernel_rfl)
noncomputable def g62_3 : List AV → CM := apS fun t4 => apS fun t5 => ap0 <|
 CM.rm (q1 (loadA Tryz.prog 93) t4 ) fun x0 =>
 CM.rm (q1 (loadA Tryz.prog 93) t5 ) fun x1 =>
 CM.st (fun m => stV m t4 x0 16) <|
 CM.memo fun m4 =>
 CM.chk (q1 (loadA Tryz.prog 93) t5 m4) x1 <|
 CM.st (fun m => stV m t5 x1 16) <|
 CM.resC Tryz.prog [ResultVar.cell 0 93, ResultVar.cell 1 93] [t4, t5]
theorem g62_3_ok : EqD (Rl H) g62_3 (fun xs m => goR (EH H) Mk 253955 xs m) := sE fun _ => sE fun _ => zE fun _ => goR_eq 400 (by kernel_rfl)
noncomputable def f62 : List AV → CM := apS fun a0 => apS fun a1 => ap0 <|
 CM.al (boxA a0) fun x0 =>
 CM.al (boxA a1) fun x1 =>
 CM.al (some (.cells [(.int .u64 0), (.int .u64 0), (.int .u64 0), (.int .u64 0), (.int .u64 0), (.int .u64 0), (.int .u64 0), (.int .u64 0), (.int .u64 0), (.int .u64 0), (.int .u64 0), (.int .u64 0), (.int .u64 0), (.int .u64 0), (.int .u64 0), (.int .u64 0)] false, pB)) fun x2 =>
 CM.al (some (.cells [(.int .u64 0), (.int .u64 0), (.int .u64 0), (.int .u64 0), (.int .u64 0), (.int .u64 0), (.int .u64 0), (.int .u64 0), (.int .u64 0), (.int .u64 0), (.int .u64 0), (.int .u64 0), (.int .u64 0), (.int .u64 0), (.int .u64 0), (.int .u64 0)] false, pB)) fun x3 =>
 CM.go 253952 [x0, x1, x2, x3, (.int .i64 511)]
theorem f62_ok (h : H 62 = none) : EqD (Rl H) f62 (fun xs m => run (EH H) (.fn 62) xs m) := sE fun _ => sE fun _ => zE fun _ => run_eq 400 h (by kernel_rfl) (by kernel_rfl)
noncomputable def g63_0 : List AV → CM := apS fun t2 => apS fun t3 => apS fun t5 => ap0 <|
 CM.pu (p2 (binA Tryz.prog .geq 3) t5 (.int .i64 0)) fun x0 =>
 CM.cond x0 (
 CM.go 258049 [t2, t3, t5]) (
 CM.go 258052 [])
theorem g63_0_ok : EqD (Rl H) g63_0 (fun xs m => goR (EH H) Mk 258048 xs m) := sE fun _ => sE fun _ => sE fun _ => zE fun _ => goR_eq 400 (by kernel_rfl)
noncomputable def g63_1 : List AV → CM := apS fun t2 => apS fun t3 => apS fun t5 => ap0 <|
 CM.pu (p2 (indexAddrA Tryz.prog 93) t2 t5) fun x0 =>
 CM.rm (q1 (loadA Tryz.prog 30) x0 ) fun x1 =>
 CM.pu (p2 (indexAddrA Tryz.prog 93) t3 t5) fun x2 =>
 CM.rm (q1 (loadA Tryz.prog 30) x2 ) fun x3 =>
 CM.pu (p2 (binA Tryz.prog .neq 30) x1 x3) fun x4 =>
 CM.cond x4 (
 CM.pu (p2 (indexAddrA Tryz.prog 93) t2 t5) fun x5 =>
 CM.rm (q1 (loadA Tryz.prog 30) x5 ) fun x6 =>
 CM.pu (p2 (indexAddrA Tryz.prog 93) t3 t5) fun x7 =>
 CM.rm (q1 (loadA Tryz.prog 30) x7 ) fun x8 =>
 CM.pu (p2 (binA Tryz.prog .lss 30) x6 x8) fun x9 =>
 CM.cond x9 (
 CM.ret (.int .i64 (-1))) (
 CM.go 258050 [])) (
 CM.go 258051 [t2, t3, t5])
theorem g63_1_ok : EqD (Rl H) g63_1 (fun xs m => goR (EH H) Mk 258049 xs m) := sE fun _ => sE fun _ => sE fun _ => zE fun _ => goR_eq 400 (by kernel_rfl)
noncomputable def g63_2 : List AV → CM := ap0 <|
 CM.ret (.int .i64 1)
theorem g63_2_ok : EqD (Rl H) g63_2 (fun xs m => goR (EH H) Mk 258050 xs m) := zE fun _ => goR_eq 400 (by kernel_rfl)
noncomputable def g63_3 : List AV → CM := apS fun t2 => apS fun t3 => apS fun t5 => ap0 <|
 CM.pu (p2 (binA Tryz.prog .sub 3) t5 (.int .i64 1)) fun x0 =>
 CM.go 258048 [t2, t3, x0]
theorem g63_3_ok : EqD (Rl H) g63_3 (fun xs m => goR (EH H) Mk 258051 xs m) := sE fun _ => sE fun _ => sE fun _ => zE fun _ => goR_eq 400 (by kernel_rfl)
noncomputable def g63_4 : List AV → CM := ap0 <|
 CM.ret (.int .i64 0)
theorem g63_4_ok : EqD (Rl H) g63_4 (fun xs m => goR (EH H) Mk 258052 xs m) := zE fun _ => goR_eq 400 (by kernel_rfl)
noncomputable def f63 : List AV → CM := apS fun a0 => apS fun a1 => ap0 <|
 CM.al (boxA a0) fun x0 =>
 CM.al (boxA a1) fun x1 =>
 CM.go 258048 [x0, x1, (.int .i64 15)]
theorem f63_ok (h : H 63 = none) : EqD (Rl H) f63 (fun xs m => run (EH H) (.fn 63) xs m) := sE fun _ => sE fun _ => zE fun _ => run_eq 400 h (by kernel_rfl) (by kernel_rfl)
noncomputable def g64_0 : List AV → CM := apS fun t2 => apS fun t3 => apS fun t4 => apS fun t5 => apS fun t6 => apS fun t7 => ap0 <|
 CM.pu (p2 (binA Tryz.prog .lss 3) t7 (.int .i64 16)) fun x0 =>
 CM.cond x0 (
 CM.go 262145 [t2, t3, t4, t5, t6, t7]) (
 CM.go 262147 [t4, t5])
theorem g64_0_ok : EqD (Rl H) g64_0 (fun xs m => goR (EH H) Mk 262144 xs m) := sE fun _ => sE fun _ => sE fun _ => sE fun _ => sE fun _ => sE fun _ => zE fun _ => goR_eq 400 (by kernel_rfl)
noncomputable def g64_1 : List AV → CM := apS fun t2 => apS fun t3 => apS fun t4 => apS fun t5 => apS fun t6 => apS fun t7 => ap0 <|
 CM.pu (p2 (indexAddrA Tryz.prog 93) t2 t7) fun x0 =>
 CM.rm (q1 (loadA Tryz.prog 30) x0 ) fun x1 =>
 CM.pu (p2 (indexAddrA Tryz.prog 93) t3 t7) fun x2 =>
 CM.rm (q1 (loadA Tryz.prog 30) x2 ) fun x3 =>
 CM.pu (p2 (binA Tryz.prog .add 30) x1 x3) fun x4 =>
 CM.pu (p2 (binA Tryz.prog .add 30) x4 t6) fun x5 =>
 CM.pu (p2 (binA Tryz.prog .rem 30) x5 (.int .u64 4294967296)) fun x6 =>
 CM.pu (p2 (indexAddrA Tryz.prog 93) t5 t7) fun x7 =>
 CM.st (fun m => stV m x7 x6 1) <|
 CM.pu (p2 (binA Tryz.prog .quo 30) x5 (.int .u64 4294967296)) fun x9 =>
 CM.go 262146 [t2, t3, t4, t5, x9, t7]
theorem g64_1_ok : EqD (Rl H) g64_1 (fun xs m => goR (EH H) Mk 262145 xs m) := sE fun _ => sE fun _ => sE fun _ => sE fun _ => sE fun _ => sE fun _ => zE fun _ => goR_eq 400 (by kernel_rfl)
noncomputable def g64_2 : List AV → CM := apS fun t2 => apS fun t3 => apS fun t4 => apS fun t5 => apS fun t6 => apS fun t7 => ap0 <|
 CM.pu (p2 (binA Tryz.prog .add 3) t7 (.int .i64 1)) fun x0 =>
 CM.go 262144 [t2, t3, t4, t5, t6, x0]
theorem g64_2_ok : EqD (Rl H) g64_2 (fun xs m => goR (EH H) Mk 262146 xs m) := sE fun _ => sE fun _ => sE fun _ => sE fun _ => sE fun _ => sE fun _ => zE fun _ => goR_eq 400 (by kernel_rfl)
noncomputable def g64_3 : List AV → CM := apS fun t4 => apS fun t5 => ap0 <|
 CM.rm (q1 (loadA Tryz.prog 93) t5 ) fun x0 =>
 CM.st (fun m => stV m t4 x0 16) <|
 CM.resC Tryz.prog [ResultVar.cell 0 93] [t4]
theorem g64_3_ok : EqD (Rl H) g64_3 (fun xs m => goR (EH H) Mk 262147 xs m) := sE fun _ => sE fun _ => zE fun _ => goR_eq 400 (by kernel_rfl)
noncomputable def f64 : List AV → CM := apS fun a0 => apS fun a1 => ap0 <|
 CM.al (boxA a0) fun x0 =>
 CM.al (boxA a1) fun x1 =>
 CM.al (some (.cells [(.int .u64 0), (.int .u64 0), (.int .u64 0), (.int .u64 0), (.int .u64 0), (.int .u64 0), (.int .u64 0), (.int .u64 0), (.int .u64 0), (.int .u64 0), (.int .u64 0), (.int .u64 0), (.int .u64 0), (.int .u64 0), (.int .u64 0), (.int .u64 0)] false, pB)) fun x2 =>
 CM.al (some (.cells [(.int .u64 0), (.int .u64 0), (.int .u64 0), (.int .u64 0), (.int .u64 0), (.int .u64 0), (.int .u64 0), (.int .u64 0), (.int .u64 0), (.int .u64 0), (.int .u64 0), (.int .u64 0), (.int .u64 0), (.int .u64 0), (.int .u64 0), (.int .u64 0)] false, pB)) fun x3 =>
 CM.go 262144 [x0, x1, x2, x3, (.int .u64 0), (.int .i64 0)]
theorem f64_ok (h : H 64 = none) : EqD (Rl H) f64 (fun xs m => run (EH H) (.fn 64) xs m) := sE fun _ => sE fun _ => zE fun _ => run_eq 400 h (by kernel_rfl) (by kernel_rfl)
end Go.Proofs.YtlginbmjiecglaaGreat.T
end
