/- Functions as trees, printed by our own program (wip/tools/gen3.lean). -/
import Derived.Test.YtpoafkipnjfioaaGreatT0
namespace Go.Proofs.YtpoafkipnjfioaaGreat.T
open Go Go.Abs Go.Proofs.YtpoafkipnjfioaaGreat
set_option maxRecDepth 10000
variable {H : FuncId → Option (List AV → Mem → R)}
noncomputable def g46_0 : List AV → CM := ap0 <|
 CM.ret (.int .i64 0)
theorem g46_0_ok : EqD (Rl H) g46_0 (fun xs m => goR (EH H) Mk 188416 xs m) := zE fun _ => goR_eq 400 (by kernel_rfl)
noncomputable def f46 : List AV → CM := apS fun a0 => apS fun a1 => ap0 <|
 CM.al (boxA a0) fun x0 =>
 CM.al (boxA a1) fun x1 =>
 CM.pu (p1 (fun a => fieldAddrA Tryz.prog 35 a 1) x1) fun x2 =>
 CM.rm (q1 (loadA Tryz.prog 3) x2 ) fun x3 =>
 CM.pu (p1 (fun a => fieldAddrA Tryz.prog 92 a 1) x0) fun x4 =>
 CM.rm (q1 (loadA Tryz.prog 3) x4 ) fun x5 =>
 CM.pu (p2 (binA Tryz.prog .neq 3) x3 x5) fun x6 =>
 CM.cond x6 (
 CM.ret (.int .i64 21)) (
 CM.pu (p1 (fun a => fieldAddrA Tryz.prog 35 a 0) x1) fun x7 =>
 CM.rm (q1 (loadA Tryz.prog 33) x7 ) fun x8 =>
 CM.call 90 [x8] fun x9 =>
 CM.pu (p2 (binA Tryz.prog .leq 3) x9 (.int .i64 0)) fun x10 =>
 CM.cond x10 (
 CM.ret (.int .i64 43)) (
 CM.go 188416 []))
theorem f46_ok (h : H 46 = none) : EqD (Rl H) f46 (fun xs m => run (EH H) (.fn 46) xs m) := sE fun _ => sE fun _ => zE fun _ => run_eq 400 h (by kernel_rfl) (by kernel_rfl)
noncomputable def g47_0 : List AV → CM := apS fun t0 => apS fun t1 => apS fun t7 => apS fun t9 => ap0 <|
 CM.rm (q1 (loadA Tryz.prog 33) t7 ) fun x0 =>
 CM.rm (q1 (loadA Tryz.prog 33) t9 ) fun x1 =>
 CM.pu (p1 nnA t0) fun x2 =>
 CM.st (fun m => stV m x2 x0 2) <|
 CM.memo fun m5 =>
 CM.chk (q1 (loadA Tryz.prog 33) t9 m5) x1 <|
 CM.pu (p1 nnA t1) fun x6 =>
 CM.st (fun m => stV m x6 x1 2) <|
 CM.ret (.int .i64 0)
theorem g47_0_ok : EqD (Rl H) g47_0 (fun xs m => goR (EH H) Mk 192512 xs m) := sE fun _ => sE fun _ => sE fun _ => sE fun _ => zE fun _ => goR_eq 400 (by kernel_rfl)
noncomputable def f47 : List AV → CM := apS fun a0 => apS fun a1 => apS fun a2 => ap0 <|
 CM.al (boxA a2) fun x0 =>
 CM.pu (p1 nnA a0) fun x1 =>
 CM.rm (q1 (loadA Tryz.prog 33) x1 ) fun x2 =>
 CM.rm (q1 (loadA Tryz.prog 33) x0 ) fun x3 =>
 CM.call 91 [x2, x3] fun x5 =>
 CM.pu (p1 (fun a => extractA a 0) x5) fun x7 =>
 CM.pu (p1 (fun a => extractA a 1) x5) fun x8 =>
 CM.al (some (.cells [(.int .i64 0), (.int .u64 0)] false, pB)) fun x9 =>
 CM.st (fun m => stV m x9 x7 2) <|
 CM.pu (p1 nnA a1) fun x13 =>
 CM.rm (q1 (loadA Tryz.prog 33) x13 ) fun x14 =>
 CM.rm (q1 (loadA Tryz.prog 33) x0 ) fun x15 =>
 CM.call 92 [x14, x15] fun x17 =>
 CM.pu (p1 (fun a => extractA a 0) x17) fun x19 =>
 CM.pu (p1 (fun a => extractA a 1) x17) fun x20 =>
 CM.al (some (.cells [(.int .i64 0), (.int .u64 0)] false, pB)) fun x21 =>
 CM.st (fun m => stV m x21 x19 2) <|
 CM.pu (p2 (binA Tryz.prog .neq 23) x8 (.int .i64 0)) fun x25 =>
 CM.ifv x25 (
 CM.ret (.int .i64 20)) (
 CM.pu (p2 (binA Tryz.prog .neq 23) x20 (.int .i64 0)) fun x26 =>
 CM.cond x26 (
 CM.ret (.int .i64 20)) (
 CM.go 192512 [a0, a1, x9, x21]))
theorem f47_ok (h : H 47 = none) : EqD (Rl H) f47 (fun xs m => run (EH H) (.fn 47) xs m) := sE fun _ => sE fun _ => sE fun _ => zE fun _ => run_eq 400 h (by kernel_rfl) (by kernel_rfl)
noncomputable def f48 : List AV → CM := apS fun a0 => apS fun a1 => ap0 <|
 CM.al (boxA a1) fun x0 =>
 CM.pu (p1 nnA a0) fun x1 =>
 CM.pu (p1 (fun a => fieldAddrA Tryz.prog 88 a 3) x1) fun x2 =>
 CM.rm (q1 (loadA Tryz.prog 86) x2 ) fun x3 =>
 CM.pu (p1 (fun a => fieldAddrA Tryz.prog 100 a 0) x0) fun x4 =>
 CM.rm (q1 (loadA Tryz.prog 28) x4 ) fun x5 =>
 CM.rm (q1 (loadA Tryz.prog 100) x0 ) fun x6 =>
 CM.call 44 [x3, x5, x6] fun _ =>
 CM.ret .undef
theorem f48_ok (h : H 48 = none) : EqD (Rl H) f48 (fun xs m => run (EH H) (.fn 48) xs m) := sE fun _ => sE fun _ => zE fun _ => run_eq 400 h (by kernel_rfl) (by kernel_rfl)
noncomputable def f49 : List AV → CM := apS fun a0 => ap0 <|
 CM.al (some (.cells [(.int .i64 0), (.int .u64 0)] false, pB)) fun x0 =>
 CM.pu (p2 (binA Tryz.prog .shr 2) a0 (.int .u64 63)) fun x1 =>
 CM.pu (p1 (convA Tryz.prog 2 28) a0) fun x2 =>
 CM.pu (p1 (buildA Tryz.prog 33) [(0, x1), (1, x2)]) fun x3 =>
 CM.st (fun m => stV m x0 x3 2) <|
 CM.resC Tryz.prog [ResultVar.cell 0 33] [x0]
theorem f49_ok (h : H 49 = none) : EqD (Rl H) f49 (fun xs m => run (EH H) (.fn 49) xs m) := sE fun _ => zE fun _ => run_eq 400 h (by kernel_rfl) (by kernel_rfl)
noncomputable def f50 : List AV → CM := apS fun a0 => apS fun a1 => ap0 <|
 CM.al (boxA a0) fun x0 =>
 CM.al (boxA a1) fun x1 =>
 CM.pu (p1 (fun a => fieldAddrA Tryz.prog 100 a 2) x0) fun x2 =>
 CM.rm (q1 (loadA Tryz.prog 33) x2 ) fun x3 =>
 CM.pu (p1 (fun a => fieldAddrA Tryz.prog 35 a 0) x1) fun x4 =>
 CM.rm (q1 (loadA Tryz.prog 33) x4 ) fun x5 =>
 CM.call 93 [x3, x5] fun x6 =>
 CM.pu (p2 (binA Tryz.prog .lss 3) x6 (.int .i64 0)) fun x7 =>
 CM.ret x7
theorem f50_ok (h : H 50 = none) : EqD (Rl H) f50 (fun xs m => run (EH H) (.fn 50) xs m) := sE fun _ => sE fun _ => zE fun _ => run_eq 400 h (by kernel_rfl) (by kernel_rfl)
noncomputable def g51_0 : List AV → CM := ap0 <|
 CM.ret (.int .i64 0)
theorem g51_0_ok : EqD (Rl H) g51_0 (fun xs m => goR (EH H) Mk 208896 xs m) := zE fun _ => goR_eq 400 (by kernel_rfl)
noncomputable def f51 : List AV → CM := apS fun a0 => ap0 <|
 CM.al (boxA a0) fun x0 =>
 CM.rm (q1 (loadA Tryz.prog 35) x0 ) fun x1 =>
 CM.call 94 [x1] fun x2 =>
 CM.pu (p1 (unA .not) x2) fun x3 =>
 CM.cond x3 (
 CM.ret (.int .i64 21)) (
 CM.rm (q1 (loadA Tryz.prog 35) x0 ) fun x4 =>
 CM.call 95 [x4] fun x5 =>
 CM.pu (p1 (unA .not) x5) fun x6 =>
 CM.cond x6 (
 CM.ret (.int .i64 44)) (
 CM.go 208896 []))
theorem f51_ok (h : H 51 = none) : EqD (Rl H) f51 (fun xs m => run (EH H) (.fn 51) xs m) := sE fun _ => zE fun _ => run_eq 400 h (by kernel_rfl) (by kernel_rfl)
noncomputable def g52_0 : List AV → CM := apS fun t0 => apS fun t4 => apS fun t6 => ap0 <|
 CM.pu (p1 nnA t0) fun x0 =>
 CM.pu (p1 (fun a => fieldAddrA Tryz.prog 173 a 1) x0) fun x1 =>
 CM.rm (q1 (loadA Tryz.prog 45) x1 ) fun x2 =>
 CM.pu (p2 (indexAddrA Tryz.prog 45) x2 t6) fun x3 =>
 CM.rm (q1 (loadA Tryz.prog 96) x3 ) fun x4 =>
 CM.st (fun m => stV m t4 x4 9) <|
 CM.resC Tryz.prog [ResultVar.cell 0 96, ResultVar.tmp 1] [t4, (.bool true)]
theorem g52_0_ok : EqD (Rl H) g52_0 (fun xs m => goR (EH H) Mk 212992 xs m) := sE fun _ => sE fun _ => sE fun _ => zE fun _ => goR_eq 400 (by kernel_rfl)
noncomputable def f52 : List AV → CM := apS fun a0 => apS fun a1 => ap0 <|
 CM.al (some (.cells [(.str []), (.str []), (.int .i64 0), (.int .u64 0), (.int .i64 0), (.int .i64 0), (.int .u64 0), (.int .i64 0), (.int .u64 0)] false, pB)) fun x0 =>
 CM.pu (p1 nnA a0) fun x1 =>
 CM.pu (p1 (fun a => fieldAddrA Tryz.prog 173 a 0) x1) fun x2 =>
 CM.rm (q1 (loadA Tryz.prog 169) x2 ) fun x3 =>
 CM.call 83 [x3, a1] fun x4 =>
 CM.pu (p1 (fun a => extractA a 0) x4) fun x5 =>
 CM.pu (p1 (fun a => extractA a 1) x4) fun x6 =>
 CM.pu (p1 (unA .not) x6) fun x7 =>
 CM.cond x7 (
 CM.al (some (.cells [(.str []), (.str []), (.int .i64 0), (.int .u64 0), (.int .i64 0), (.int .i64 0), (.int .u64 0), (.int .i64 0), (.int .u64 0)] false, pB)) fun x8 =>
 CM.rm (q1 (loadA Tryz.prog 96) x8 ) fun x9 =>
 CM.st (fun m => stV m x0 x9 9) <|
 CM.resC Tryz.prog [ResultVar.cell 0 96, ResultVar.tmp 1] [x0, (.bool false)]) (
 CM.go 212992 [a0, x0, x5])
theorem f52_ok (h : H 52 = none) : EqD (Rl H) f52 (fun xs m => run (EH H) (.fn 52) xs m) := sE fun _ => sE fun _ => zE fun _ => run_eq 400 h (by kernel_rfl) (by kernel_rfl)
noncomputable def g53_0 : List AV → CM := ap0 <|
 CM.ret (.bool true)
theorem g53_0_ok : EqD (Rl H) g53_0 (fun xs m => goR (EH H) Mk 217088 xs m) := zE fun _ => goR_eq 400 (by kernel_rfl)
noncomputable def f53 : List AV → CM := apS fun a0 => apS fun a1 => apS fun a2 => ap0 <|
 CM.al (boxA a2) fun x0 =>
 CM.pu (p1 nnA a0) fun x1 =>
 CM.pu (p1 (fun a => fieldAddrA Tryz.prog 173 a 0) x1) fun x2 =>
 CM.rm (q1 (loadA Tryz.prog 169) x2 ) fun x3 =>
 CM.call 83 [x3, a1] fun x4 =>
 CM.pu (p1 (fun a => extractA a 0) x4) fun x5 =>
 CM.pu (p1 (fun a => extractA a 1) x4) fun x6 =>
 CM.cond x6 (
 CM.pu (p1 nnA a0) fun x7 =>
 CM.pu (p1 (fun a => fieldAddrA Tryz.prog 173 a 1) x7) fun x8 =>
 CM.rm (q1 (loadA Tryz.prog 45) x8 ) fun x9 =>
 CM.rm (q1 (loadA Tryz.prog 96) x0 ) fun x10 =>
 CM.pu (p2 (indexAddrA Tryz.prog 45) x9 x5) fun x11 =>
 CM.st (fun m => stV m x11 x10 9) <|
 CM.go 217088 []) (
 CM.pu (p1 nnA a0) fun x15 =>
 CM.pu (p1 (fun a => fieldAddrA Tryz.prog 173 a 0) x15) fun x16 =>
 CM.rm (q1 (loadA Tryz.prog 169) x16 ) fun x17 =>
 CM.pu (p1 (lenT Tryz.prog 169) x17) fun x18 =>
 CM.pu (p1 nnA a0) fun x19 =>
 CM.pu (p1 (fun a => fieldAddrA Tryz.prog 173 a 2) x19) fun x20 =>
 CM.rm (q1 (loadA Tryz.prog 3) x20 ) fun x21 =>
 CM.pu (p2 (binA Tryz.prog .geq 3) x18 x21) fun x22 =>
 CM.cond x22 (
 CM.ret (.bool false)) (
 CM.pu (p1 nnA a0) fun x23 =>
 CM.pu (p1 (fun a => fieldAddrA Tryz.prog 173 a 0) x23) fun x24 =>
 CM.rm (q1 (loadA Tryz.prog 169) x24 ) fun x25 =>
 CM.al (bsA 1 1 [(.str [])] [(0, a1)]) fun x26 =>
 CM.call 84 [x25, x5, x26] fun x27 =>
 CM.pu (p1 nnA a0) fun x28 =>
 CM.pu (p1 (fun a => fieldAddrA Tryz.prog 173 a 0) x28) fun x29 =>
 CM.st (fun m => stV m x29 x27 1) <|
 CM.pu (p1 nnA a0) fun x31 =>
 CM.pu (p1 (fun a => fieldAddrA Tryz.prog 173 a 1) x31) fun x32 =>
 CM.rm (q1 (loadA Tryz.prog 45) x32 ) fun x33 =>
 CM.rm (q1 (loadA Tryz.prog 96) x0 ) fun x34 =>
 CM.al (bsA 9 1 [(.str []), (.str []), (.int .i64 0), (.int .u64 0), (.int .i64 0), (.int .i64 0), (.int .u64 0), (.int .i64 0), (.int .u64 0)] [(0, x34)]) fun x35 =>
 CM.call 96 [x33, x5, x35] fun x37 =>
 CM.pu (p1 nnA a0) fun x39 =>
 CM.pu (p1 (fun a => fieldAddrA Tryz.prog 173 a 1) x39) fun x40 =>
 CM.st (fun m => stV m x40 x37 1) <|
 CM.go 217088 []))
theorem f53_ok (h : H 53 = none) : EqD (Rl H) f53 (fun xs m => run (EH H) (.fn 53) xs m) := sE fun _ => sE fun _ => sE fun _ => zE fun _ => run_eq 400 h (by kernel_rfl) (by kernel_rfl)
noncomputable def g54_0 : List AV → CM := apS fun t2 => apS fun t3 => apS fun t4 => apS fun t6 => ap0 <|
 CM.rm (q1 (loadA Tryz.prog 35) t4 ) fun x0 =>
 CM.call 51 [x0] fun x1 =>
 CM.pu (p2 (binA Tryz.prog .neq 23) x1 (.int .i64 0)) fun x2 =>
 CM.cond x2 (
 CM.pu (p1 (buildA Tryz.prog 35) []) fun x3 =>
 CM.st (fun m => stV m t6 x3 3) <|
 CM.resC Tryz.prog [ResultVar.cell 0 35, ResultVar.tmp 1] [t6, x1]) (
 CM.go 221185 [t2, t3, t4, t6])
theorem g54_0_ok : EqD (Rl H) g54_0 (fun xs m => goR (EH H) Mk 221184 xs m) := sE fun _ => sE fun _ => sE fun _ => sE fun _ => zE fun _ => goR_eq 400 (by kernel_rfl)
noncomputable def g54_1 : List AV → CM := apS fun t2 => apS fun t3 => apS fun t4 => apS fun t6 => ap0 <|
 CM.rm (q1 (loadA Tryz.prog 35) t3 ) fun x0 =>
 CM.rm (q1 (loadA Tryz.prog 35) t4 ) fun x1 =>
 CM.call 97 [x0, x1, t2] fun x2 =>
 CM.pu (p1 (fun a => extractA a 0) x2) fun x3 =>
 CM.pu (p1 (fun a => extractA a 1) x2) fun x4 =>
 CM.st (fun m => stV m t6 x3 3) <|
 CM.resC Tryz.prog [ResultVar.cell 0 35, ResultVar.tmp 1] [t6, x4]
theorem g54_1_ok : EqD (Rl H) g54_1 (fun xs m => goR (EH H) Mk 221185 xs m) := sE fun _ => sE fun _ => sE fun _ => sE fun _ => zE fun _ => goR_eq 400 (by kernel_rfl)
noncomputable def f54 : List AV → CM := apS fun a0 => apS fun a1 => apS fun a2 => ap0 <|
 CM.al (boxA a0) fun x0 =>
 CM.al (boxA a1) fun x1 =>
 CM.al (some (.cells [(.int .i64 0), (.int .u64 0), (.int .i64 0)] false, pB)) fun x2 =>
 CM.rm (q1 (loadA Tryz.prog 35) x0 ) fun x3 =>
 CM.call 94 [x3] fun x4 =>
 CM.pu (p1 (unA .not) x4) fun x5 =>
 CM.ifv x5 (
 CM.pu (p1 (buildA Tryz.prog 35) []) fun x6 =>
 CM.st (fun m => stV m x2 x6 3) <|
 CM.resC Tryz.prog [ResultVar.cell 0 35, ResultVar.tmp 1] [x2, (.int .i64 21)]) (
 CM.pu (p2 (binA Tryz.prog .lss 3) a2 (.int .i64 0)) fun x8 =>
 CM.ifv x8 (
 CM.pu (p1 (buildA Tryz.prog 35) []) fun x9 =>
 CM.st (fun m => stV m x2 x9 3) <|
 CM.resC Tryz.prog [ResultVar.cell 0 35, ResultVar.tmp 1] [x2, (.int .i64 21)]) (
 CM.pu (p2 (binA Tryz.prog .gtr 3) a2 (.int .i64 18)) fun x11 =>
 CM.cond x11 (
 CM.pu (p1 (buildA Tryz.prog 35) []) fun x12 =>
 CM.st (fun m => stV m x2 x12 3) <|
 CM.resC Tryz.prog [ResultVar.cell 0 35, ResultVar.tmp 1] [x2, (.int .i64 21)]) (
 CM.rm (q1 (loadA Tryz.prog 35) x0 ) fun x14 =>
 CM.call 95 [x14] fun x15 =>
 CM.pu (p1 (unA .not) x15) fun x16 =>
 CM.cond x16 (
 CM.pu (p1 (buildA Tryz.prog 35) []) fun x17 =>
 CM.st (fun m => stV m x2 x17 3) <|
 CM.resC Tryz.prog [ResultVar.cell 0 35, ResultVar.tmp 1] [x2, (.int .i64 43)]) (
 CM.go 221184 [a2, x0, x1, x2]))))
theorem f54_ok (h : H 54 = none) : EqD (Rl H) f54 (fun xs m => run (EH H) (.fn 54) xs m) := sE fun _ => sE fun _ => sE fun _ => zE fun _ => run_eq 400 h (by kernel_rfl) (by kernel_rfl)
noncomputable def g55_0 : List AV → CM := apS fun t1 => apS fun t7 => apS fun t8 => apS fun t9 => ap0 <|
 CM.pu (p2 (binA Tryz.prog .lss 3) t9 t8) fun x0 =>
 CM.cond x0 (
 CM.go 225281 [t1, t7, t8, t9]) (
 CM.go 225284 [])
theorem g55_0_ok : EqD (Rl H) g55_0 (fun xs m => goR (EH H) Mk 225280 xs m) := sE fun _ => sE fun _ => sE fun _ => sE fun _ => zE fun _ => goR_eq 400 (by kernel_rfl)
noncomputable def g55_1 : List AV → CM := apS fun t1 => apS fun t7 => apS fun t8 => apS fun t9 => ap0 <|
 CM.pu (p2 (indexAddrA Tryz.prog 45) t7 t9) fun x0 =>
 CM.rm (q1 (loadA Tryz.prog 96) x0 ) fun x1 =>
 CM.al (some (.cells [(.str []), (.str []), (.int .i64 0), (.int .u64 0), (.int .i64 0), (.int .i64 0), (.int .u64 0), (.int .i64 0), (.int .u64 0)] false, pB)) fun x2 =>
 CM.st (fun m => stV m x2 x1 9) <|
 CM.pu (p2 (binA Tryz.prog .eql 3) t9 (.int .i64 0)) fun x4 =>
 CM.ifv x4 (
 CM.go 225282 [t1, x2, (.bool true), t7, t8, t9]) (
 CM.pu (p1 (fun a => fieldAddrA Tryz.prog 48 a 1) t1) fun x5 =>
 CM.rm (q1 (loadA Tryz.prog 45) x5 ) fun x6 =>
 CM.pu (p2 (binA Tryz.prog .sub 3) t9 (.int .i64 1)) fun x7 =>
 CM.pu (p2 (indexAddrA Tryz.prog 45) x6 x7) fun x8 =>
 CM.pu (p1 (fun a => fieldAddrA Tryz.prog 96 a 0) x8) fun x9 =>
 CM.rm (q1 (loadA Tryz.prog 9) x9 ) fun x10 =>
 CM.pu (p1 (fun a => fieldAddrA Tryz.prog 96 a 0) x2) fun x11 =>
 CM.rm (q1 (loadA Tryz.prog 9) x11 ) fun x12 =>
 CM.pu (p2 (binA Tryz.prog .lss 9) x10 x12) fun x13 =>
 CM.ifv x13 (
 CM.go 225282 [t1, x2, (.bool true), t7, t8, t9]) (
 CM.pu (p1 (fun a => fieldAddrA Tryz.prog 48 a 1) t1) fun x14 =>
 CM.rm (q1 (loadA Tryz.prog 45) x14 ) fun x15 =>
 CM.pu (p2 (binA Tryz.prog .sub 3) t9 (.int .i64 1)) fun x16 =>
 CM.pu (p2 (indexAddrA Tryz.prog 45) x15 x16) fun x17 =>
 CM.pu (p1 (fun a => fieldAddrA Tryz.prog 96 a 0) x17) fun x18 =>
 CM.rm (q1 (loadA Tryz.prog 9) x18 ) fun x19 =>
 CM.pu (p1 (fun a => fieldAddrA Tryz.prog 96 a 0) x2) fun x20 =>
 CM.rm (q1 (loadA Tryz.prog 9) x20 ) fun x21 =>
 CM.pu (p2 (binA Tryz.prog .eql 9) x19 x21) fun x22 =>
 CM.ifv x22 (
 CM.pu (p1 (fun a => fieldAddrA Tryz.prog 48 a 1) t1) fun x23 =>
 CM.rm (q1 (loadA Tryz.prog 45) x23 ) fun x24 =>
 CM.pu (p2 (binA Tryz.prog .sub 3) t9 (.int .i64 1)) fun x25 =>
 CM.pu (p2 (indexAddrA Tryz.prog 45) x24 x25) fun x26 =>
 CM.pu (p1 (fun a => fieldAddrA Tryz.prog 96 a 1) x26) fun x27 =>
 CM.rm (q1 (loadA Tryz.prog 9) x27 ) fun x28 =>
 CM.pu (p1 (fun a => fieldAddrA Tryz.prog 96 a 1) x2) fun x29 =>
 CM.rm (q1 (loadA Tryz.prog 9) x29 ) fun x30 =>
 CM.pu (p2 (binA Tryz.prog .lss 9) x28 x30) fun x31 =>
 CM.go 225282 [t1, x2, x31, t7, t8, t9]) (
 CM.go 225282 [t1, x2, (.bool false), t7, t8, t9])))
theorem g55_1_ok : EqD (Rl H) g55_1 (fun xs m => goR (EH H) Mk 225281 xs m) := sE fun _ => sE fun _ => sE fun _ => sE fun _ => zE fun _ => goR_eq 400 (by kernel_rfl)
noncomputable def g55_2 : List AV → CM := apS fun t1 => apS fun t4 => apS fun t5 => apS fun t7 => apS fun t8 => apS fun t9 => ap0 <|
 CM.pu (p1 (unA .not) t5) fun x0 =>
 CM.ifv x0 (
 CM.ret (.bool false)) (
 CM.rm (q1 (loadA Tryz.prog 48) t1 ) fun x1 =>
 CM.pu (p1 (fun a => fieldAddrA Tryz.prog 96 a 0) t4) fun x2 =>
 CM.rm (q1 (loadA Tryz.prog 9) x2 ) fun x3 =>
 CM.call 98 [x1, x3] fun x4 =>
 CM.pu (p1 (unA .not) x4) fun x5 =>
 CM.ifv x5 (
 CM.ret (.bool false)) (
 CM.rm (q1 (loadA Tryz.prog 48) t1 ) fun x6 =>
 CM.pu (p1 (fun a => fieldAddrA Tryz.prog 96 a 1) t4) fun x7 =>
 CM.rm (q1 (loadA Tryz.prog 9) x7 ) fun x8 =>
 CM.call 98 [x6, x8] fun x9 =>
 CM.pu (p1 (unA .not) x9) fun x10 =>
 CM.ifv x10 (
 CM.ret (.bool false)) (
 CM.pu (p1 (fun a => fieldAddrA Tryz.prog 96 a 0) t4) fun x11 =>
 CM.rm (q1 (loadA Tryz.prog 9) x11 ) fun x12 =>
 CM.pu (p1 (fun a => fieldAddrA Tryz.prog 96 a 1) t4) fun x13 =>
 CM.rm (q1 (loadA Tryz.prog 9) x13 ) fun x14 =>
 CM.pu (p2 (binA Tryz.prog .eql 9) x12 x14) fun x15 =>
 CM.ifv x15 (
 CM.ret (.bool false)) (
 CM.pu (p1 (fun a => fieldAddrA Tryz.prog 96 a 2) t4) fun x16 =>
 CM.rm (q1 (loadA Tryz.prog 35) x16 ) fun x17 =>
 CM.call 51 [x17] fun x18 =>
 CM.pu (p2 (binA Tryz.prog .neq 23) x18 (.int .i64 0)) fun x19 =>
 CM.ifv x19 (
 CM.ret (.bool false)) (
 CM.pu (p1 (fun a => fieldAddrA Tryz.prog 96 a 3) t4) fun x20 =>
 CM.rm (q1 (loadA Tryz.prog 33) x20 ) fun x21 =>
 CM.call 90 [x21] fun x22 =>
 CM.pu (p2 (binA Tryz.prog .lss 3) x22 (.int .i64 0)) fun x23 =>
 CM.ifv x23 (
 CM.ret (.bool false)) (
 CM.pu (p1 (fun a => fieldAddrA Tryz.prog 96 a 4) t4) fun x24 =>
 CM.rm (q1 (loadA Tryz.prog 33) x24 ) fun x25 =>
 CM.call 90 [x25] fun x26 =>
 CM.pu (p2 (binA Tryz.prog .gtr 3) x26 (.int .i64 0)) fun x27 =>
 CM.cond x27 (
 CM.ret (.bool false)) (
 CM.go 225283 [t1, t7, t8, t9])))))))
theorem g55_2_ok : EqD (Rl H) g55_2 (fun xs m => goR (EH H) Mk 225282 xs m) := sE fun _ => sE fun _ => sE fun _ => sE fun _ => sE fun _ => sE fun _ => zE fun _ => goR_eq 400 (by kernel_rfl)
noncomputable def g55_3 : List AV → CM := apS fun t1 => apS fun t7 => apS fun t8 => apS fun t9 => ap0 <|
 CM.pu (p2 (binA Tryz.prog .add 3) t9 (.int .i64 1)) fun x0 =>
 CM.go 225280 [t1, t7, t8, x0]
theorem g55_3_ok : EqD (Rl H) g55_3 (fun xs m => goR (EH H) Mk 225283 xs m) := sE fun _ => sE fun _ => sE fun _ => sE fun _ => zE fun _ => goR_eq 400 (by kernel_rfl)
noncomputable def g55_4 : List AV → CM := ap0 <|
 CM.ret (.bool true)
theorem g55_4_ok : EqD (Rl H) g55_4 (fun xs m => goR (EH H) Mk 225284 xs m) := zE fun _ => goR_eq 400 (by kernel_rfl)
noncomputable def f55 : List AV → CM := apS fun a0 => ap0 <|
 CM.al (boxA a0) fun x0 =>
 CM.pu (p1 (fun a => fieldAddrA Tryz.prog 48 a 1) x0) fun x1 =>
 CM.rm (q1 (loadA Tryz.prog 45) x1 ) fun x2 =>
 CM.pu (p1 (lenT Tryz.prog 45) x2) fun x3 =>
 CM.go 225280 [x0, x2, x3, (.int .i64 0)]
theorem f55_ok (h : H 55 = none) : EqD (Rl H) f55 (fun xs m => run (EH H) (.fn 55) xs m) := sE fun _ => zE fun _ => run_eq 400 h (by kernel_rfl) (by kernel_rfl)
noncomputable def g56_0 : List AV → CM := apS fun t1 => apS fun t3 => apS fun t7 => apS fun t8 => apS fun t9 => ap0 <|
 CM.pu (p2 (binA Tryz.prog .lss 3) t9 t8) fun x0 =>
 CM.cond x0 (
 CM.go 229377 [t1, t3, t7, t8, t9]) (
 CM.go 229380 [t1])
theorem g56_0_ok : EqD (Rl H) g56_0 (fun xs m => goR (EH H) Mk 229376 xs m) := sE fun _ => sE fun _ => sE fun _ => sE fun _ => sE fun _ => zE fun _ => goR_eq 400 (by kernel_rfl)
noncomputable def g56_1 : List AV → CM := apS fun t1 => apS fun t3 => apS fun t7 => apS fun t8 => apS fun t9 => ap0 <|
 CM.pu (p2 (indexAddrA Tryz.prog 46) t7 t9) fun x0 =>
 CM.rm (q1 (loadA Tryz.prog 100) x0 ) fun x1 =>
 CM.al (some (.cells [(.int .u64 0), (.str []), (.int .i64 0), (.int .u64 0)] false, pB)) fun x2 =>
 CM.st (fun m => stV m x2 x1 4) <|
 CM.pu (p1 (fun a => fieldAddrA Tryz.prog 100 a 0) x2) fun x4 =>
 CM.rm (q1 (loadA Tryz.prog 28) x4 ) fun x5 =>
 CM.pu (p2 (binA Tryz.prog .leq 28) x5 t3) fun x6 =>
 CM.ifv x6 (
 CM.ret (.bool false)) (
 CM.pu (p1 (fun a => fieldAddrA Tryz.prog 100 a 0) x2) fun x7 =>
 CM.rm (q1 (loadA Tryz.prog 28) x7 ) fun x8 =>
 CM.pu (p1 (fun a => fieldAddrA Tryz.prog 48 a 3) t1) fun x9 =>
 CM.rm (q1 (loadA Tryz.prog 28) x9 ) fun x10 =>
 CM.pu (p2 (binA Tryz.prog .gtr 28) x8 x10) fun x11 =>
 CM.ifv x11 (
 CM.ret (.bool false)) (
 CM.rm (q1 (loadA Tryz.prog 48) t1 ) fun x12 =>
 CM.pu (p1 (fun a => fieldAddrA Tryz.prog 100 a 1) x2) fun x13 =>
 CM.rm (q1 (loadA Tryz.prog 9) x13 ) fun x14 =>
 CM.call 98 [x12, x14] fun x15 =>
 CM.pu (p1 (unA .not) x15) fun x16 =>
 CM.ifv x16 (
 CM.ret (.bool false)) (
 CM.pu (p1 (fun a => fieldAddrA Tryz.prog 100 a 2) x2) fun x17 =>
 CM.rm (q1 (loadA Tryz.prog 33) x17 ) fun x18 =>
 CM.call 90 [x18] fun x19 =>
 CM.pu (p2 (binA Tryz.prog .lss 3) x19 (.int .i64 0)) fun x20 =>
 CM.cond x20 (
 CM.ret (.bool false)) (
 CM.go 229378 [t1, x2, t7, t8, t9]))))
theorem g56_1_ok : EqD (Rl H) g56_1 (fun xs m => goR (EH H) Mk 229377 xs m) := sE fun _ => sE fun _ => sE fun _ => sE fun _ => sE fun _ => zE fun _ => goR_eq 400 (by kernel_rfl)
noncomputable def g56_2 : List AV → CM := apS fun t1 => apS fun t5 => apS fun t7 => apS fun t8 => apS fun t9 => ap0 <|
 CM.pu (p1 (fun a => fieldAddrA Tryz.prog 100 a 0) t5) fun x0 =>
 CM.rm (q1 (loadA Tryz.prog 28) x0 ) fun x1 =>
 CM.go 229379 [t1, x1, t7, t8, t9]
theorem g56_2_ok : EqD (Rl H) g56_2 (fun xs m => goR (EH H) Mk 229378 xs m) := sE fun _ => sE fun _ => sE fun _ => sE fun _ => sE fun _ => zE fun _ => goR_eq 400 (by kernel_rfl)
noncomputable def g56_3 : List AV → CM := apS fun t1 => apS fun t3 => apS fun t7 => apS fun t8 => apS fun t9 => ap0 <|
 CM.pu (p2 (binA Tryz.prog .add 3) t9 (.int .i64 1)) fun x0 =>
 CM.go 229376 [t1, t3, t7, t8, x0]
theorem g56_3_ok : EqD (Rl H) g56_3 (fun xs m => goR (EH H) Mk 229379 xs m) := sE fun _ => sE fun _ => sE fun _ => sE fun _ => sE fun _ => zE fun _ => goR_eq 400 (by kernel_rfl)
noncomputable def g56_4 : List AV → CM := apS fun t1 => ap0 <|
 CM.pu (p1 (fun a => fieldAddrA Tryz.prog 48 a 3) t1) fun x0 =>
 CM.rm (q1 (loadA Tryz.prog 28) x0 ) fun x1 =>
 CM.pu (p2 (binA Tryz.prog .leq 28) x1 (.int .u64 72057594037927935)) fun x2 =>
 CM.ret x2
theorem g56_4_ok : EqD (Rl H) g56_4 (fun xs m => goR (EH H) Mk 229380 xs m) := sE fun _ => zE fun _ => goR_eq 400 (by kernel_rfl)
noncomputable def f56 : List AV → CM := apS fun a0 => ap0 <|
 CM.al (boxA a0) fun x0 =>
 CM.pu (p1 (fun a => fieldAddrA Tryz.prog 48 a 2) x0) fun x1 =>
 CM.rm (q1 (loadA Tryz.prog 46) x1 ) fun x2 =>
 CM.pu (p1 (lenT Tryz.prog 46) x2) fun x3 =>
 CM.go 229376 [x0, (.int .u64 0), x2, x3, (.int .i64 0)]
theorem f56_ok (h : H 56 = none) : EqD (Rl H) f56 (fun xs m => run (EH H) (.fn 56) xs m) := sE fun _ => zE fun _ => run_eq 400 h (by kernel_rfl) (by kernel_rfl)
noncomputable def g57_0 : List AV → CM := apS fun t2 => apS fun t3 => apS fun t5 => apS fun t14 => apS fun t15 => apS fun t16 => ap0 <|
 CM.pu (p2 (binA Tryz.prog .lss 3) t16 t15) fun x0 =>
 CM.cond x0 (
 CM.go 233473 [t2, t3, t5, t14, t15, t16]) (
 CM.go 233475 [t2, t3, t5])
theorem g57_0_ok : EqD (Rl H) g57_0 (fun xs m => goR (EH H) Mk 233472 xs m) := sE fun _ => sE fun _ => sE fun _ => sE fun _ => sE fun _ => sE fun _ => zE fun _ => goR_eq 400 (by kernel_rfl)
noncomputable def g57_1 : List AV → CM := apS fun t2 => apS fun t3 => apS fun t5 => apS fun t14 => apS fun t15 => apS fun t16 => ap0 <|
 CM.pu (p2 (indexAddrA Tryz.prog 46) t14 t16) fun x0 =>
 CM.rm (q1 (loadA Tryz.prog 100) x0 ) fun x1 =>
 CM.al (some (.cells [(.int .u64 0), (.str []), (.int .i64 0), (.int .u64 0)] false, pB)) fun x2 =>
 CM.st (fun m => stV m x2 x1 4) <|
 CM.pu (p1 (fun a => fieldAddrA Tryz.prog 100 a 1) x2) fun x4 =>
 CM.rm (q1 (loadA Tryz.prog 9) x4 ) fun x5 =>
 CM.pu (p1 (fun a => fieldAddrA Tryz.prog 92 a 0) t3) fun x6 =>
 CM.rm (q1 (loadA Tryz.prog 9) x6 ) fun x7 =>
 CM.pu (p2 (binA Tryz.prog .eql 9) x5 x7) fun x8 =>
 CM.cond x8 (
 CM.pu (p1 (fun a => fieldAddrA Tryz.prog 100 a 2) x2) fun x9 =>
 CM.rm (q1 (loadA Tryz.prog 33) x9 ) fun x10 =>
 CM.call 99 [t5, x10] fun _ =>
 CM.go 233474 [t2, t3, t5, t14, t15, t16]) (
 CM.go 233474 [t2, t3, t5, t14, t15, t16])
theorem g57_1_ok : EqD (Rl H) g57_1 (fun xs m => goR (EH H) Mk 233473 xs m) := sE fun _ => sE fun _ => sE fun _ => sE fun _ => sE fun _ => sE fun _ => zE fun _ => goR_eq 400 (by kernel_rfl)
noncomputable def g57_2 : List AV → CM := apS fun t2 => apS fun t3 => apS fun t5 => apS fun t14 => apS fun t15 => apS fun t16 => ap0 <|
 CM.pu (p2 (binA Tryz.prog .add 3) t16 (.int .i64 1)) fun x0 =>
 CM.go 233472 [t2, t3, t5, t14, t15, x0]
theorem g57_2_ok : EqD (Rl H) g57_2 (fun xs m => goR (EH H) Mk 233474 xs m) := sE fun _ => sE fun _ => sE fun _ => sE fun _ => sE fun _ => sE fun _ => zE fun _ => goR_eq 400 (by kernel_rfl)
noncomputable def g57_3 : List AV → CM := apS fun t2 => apS fun t3 => apS fun t5 => ap0 <|
 CM.pu (p1 (fun a => fieldAddrA Tryz.prog 48 a 1) t2) fun x0 =>
 CM.rm (q1 (loadA Tryz.prog 45) x0 ) fun x1 =>
 CM.pu (p1 (lenT Tryz.prog 45) x1) fun x2 =>
 CM.go 233476 [t3, t5, x1, x2, (.int .i64 0)]
theorem g57_3_ok : EqD (Rl H) g57_3 (fun xs m => goR (EH H) Mk 233475 xs m) := sE fun _ => sE fun _ => sE fun _ => zE fun _ => goR_eq 400 (by kernel_rfl)
noncomputable def g57_4 : List AV → CM := apS fun t3 => apS fun t5 => apS fun t30 => apS fun t31 => apS fun t32 => ap0 <|
 CM.pu (p2 (binA Tryz.prog .lss 3) t32 t31) fun x0 =>
 CM.cond x0 (
 CM.go 233477 [t3, t5, t30, t31, t32]) (
 CM.go 233480 [t5])
theorem g57_4_ok : EqD (Rl H) g57_4 (fun xs m => goR (EH H) Mk 233476 xs m) := sE fun _ => sE fun _ => sE fun _ => sE fun _ => sE fun _ => zE fun _ => goR_eq 400 (by kernel_rfl)
noncomputable def g57_5 : List AV → CM := apS fun t3 => apS fun t5 => apS fun t30 => apS fun t31 => apS fun t32 => ap0 <|
 CM.pu (p2 (indexAddrA Tryz.prog 45) t30 t32) fun x0 =>
 CM.rm (q1 (loadA Tryz.prog 96) x0 ) fun x1 =>
 CM.al (some (.cells [(.str []), (.str []), (.int .i64 0), (.int .u64 0), (.int .i64 0), (.int .i64 0), (.int .u64 0), (.int .i64 0), (.int .u64 0)] false, pB)) fun x2 =>
 CM.st (fun m => stV m x2 x1 9) <|
 CM.pu (p1 (fun a => fieldAddrA Tryz.prog 96 a 0) x2) fun x4 =>
 CM.rm (q1 (loadA Tryz.prog 9) x4 ) fun x5 =>
 CM.pu (p1 (fun a => fieldAddrA Tryz.prog 92 a 0) t3) fun x6 =>
 CM.rm (q1 (loadA Tryz.prog 9) x6 ) fun x7 =>
 CM.pu (p2 (binA Tryz.prog .eql 9) x5 x7) fun x8 =>
 CM.cond x8 (
 CM.pu (p1 (fun a => fieldAddrA Tryz.prog 96 a 3) x2) fun x9 =>
 CM.rm (q1 (loadA Tryz.prog 33) x9 ) fun x10 =>
 CM.call 99 [t5, x10] fun _ =>
 CM.go 233478 [t3, t5, x2, t30, t31, t32]) (
 CM.go 233478 [t3, t5, x2, t30, t31, t32])
theorem g57_5_ok : EqD (Rl H) g57_5 (fun xs m => goR (EH H) Mk 233477 xs m) := sE fun _ => sE fun _ => sE fun _ => sE fun _ => sE fun _ => zE fun _ => goR_eq 400 (by kernel_rfl)
noncomputable def g57_6 : List AV → CM := apS fun t3 => apS fun t5 => apS fun t9 => apS fun t30 => apS fun t31 => apS fun t32 => ap0 <|
 CM.pu (p1 (fun a => fieldAddrA Tryz.prog 96 a 1) t9) fun x0 =>
 CM.rm (q1 (loadA Tryz.prog 9) x0 ) fun x1 =>
 CM.pu (p1 (fun a => fieldAddrA Tryz.prog 92 a 0) t3) fun x2 =>
 CM.rm (q1 (loadA Tryz.prog 9) x2 ) fun x3 =>
 CM.pu (p2 (binA Tryz.prog .eql 9) x1 x3) fun x4 =>
 CM.cond x4 (
 CM.pu (p1 (fun a => fieldAddrA Tryz.prog 96 a 4) t9) fun x5 =>
 CM.rm (q1 (loadA Tryz.prog 33) x5 ) fun x6 =>
 CM.call 99 [t5, x6] fun _ =>
 CM.go 233479 [t3, t5, t30, t31, t32]) (
 CM.go 233479 [t3, t5, t30, t31, t32])
theorem g57_6_ok : EqD (Rl H) g57_6 (fun xs m => goR (EH H) Mk 233478 xs m) := sE fun _ => sE fun _ => sE fun _ => sE fun _ => sE fun _ => sE fun _ => zE fun _ => goR_eq 400 (by kernel_rfl)
noncomputable def g57_7 : List AV → CM := apS fun t3 => apS fun t5 => apS fun t30 => apS fun t31 => apS fun t32 => ap0 <|
 CM.pu (p2 (binA Tryz.prog .add 3) t32 (.int .i64 1)) fun x0 =>
 CM.go 233476 [t3, t5, t30, t31, x0]
theorem g57_7_ok : EqD (Rl H) g57_7 (fun xs m => goR (EH H) Mk 233479 xs m) := sE fun _ => sE fun _ => sE fun _ => sE fun _ => sE fun _ => zE fun _ => goR_eq 400 (by kernel_rfl)
noncomputable def g57_8 : List AV → CM := apS fun t5 => ap0 <|
 CM.call 100 [t5] fun x0 =>
 CM.ret x0
theorem g57_8_ok : EqD (Rl H) g57_8 (fun xs m => goR (EH H) Mk 233480 xs m) := sE fun _ => zE fun _ => goR_eq 400 (by kernel_rfl)
noncomputable def f57 : List AV → CM := apS fun a0 => apS fun a1 => ap0 <|
 CM.al (boxA a0) fun x0 =>
 CM.al (boxA a1) fun x1 =>
 CM.al (some (.cells [(.int .i64 0), (.int .u64 0), (.int .u64 0)] false, pB)) fun x2 =>
 CM.pu (p1 (fun a => fieldAddrA Tryz.prog 92 a 2) x1) fun x3 =>
 CM.rm (q1 (loadA Tryz.prog 33) x3 ) fun x4 =>
 CM.call 99 [x2, x4] fun _ =>
 CM.pu (p1 (fun a => fieldAddrA Tryz.prog 48 a 2) x0) fun x6 =>
 CM.rm (q1 (loadA Tryz.prog 46) x6 ) fun x7 =>
 CM.pu (p1 (lenT Tryz.prog 46) x7) fun x8 =>
 CM.go 233472 [x0, x1, x2, x7, x8, (.int .i64 0)]
theorem f57_ok (h : H 57 = none) : EqD (Rl H) f57 (fun xs m => run (EH H) (.fn 57) xs m) := sE fun _ => sE fun _ => zE fun _ => run_eq 400 h (by kernel_rfl) (by kernel_rfl)
noncomputable def f58 : List AV → CM := apS fun a0 => ap0 <|
 CM.al (boxA a0) fun x0 =>
 CM.ret (.fn (.func 101) [] [x0])
theorem f58_ok (h : H 58 = none) : EqD (Rl H) f58 (fun xs m => run (EH H) (.fn 58) xs m) := sE fun _ => zE fun _ => run_eq 400 h (by kernel_rfl) (by kernel_rfl)
noncomputable def f59 : List AV → CM := apS fun a0 => ap0 <|
 CM.al (boxA a0) fun x0 =>
 CM.ret (.fn (.func 105) [] [x0])
theorem f59_ok (h : H 59 = none) : EqD (Rl H) f59 (fun xs m => run (EH H) (.fn 59) xs m) := sE fun _ => zE fun _ => run_eq 400 h (by kernel_rfl) (by kernel_rfl)
noncomputable def f60 : List AV → CM := apS fun a0 => ap0 <|
 CM.al (boxA a0) fun x0 =>
 CM.ret (.fn (.func 109) [] [x0])
theorem f60_ok (h : H 60 = none) : EqD (Rl H) f60 (fun xs m => run (EH H) (.fn 60) xs m) := sE fun _ => zE fun _ => run_eq 400 h (by kernel_rfl) (by kernel_rfl)
noncomputable def g61_0 : List AV → CM := apS fun t1 => apS fun t3 => ap0 <|
 CM.pu (p1 (fun a => fieldAddrA Tryz.prog 54 a 5) t1) fun x0 =>
 CM.rm (q1 (loadA Tryz.prog 3) x0 ) fun x1 =>
 CM.call 113 [x1, (.int .i64 4), (.int .i64 1024)] fun x2 =>
 CM.ifv x2 (
 CM.pu (p1 (fun a => fieldAddrA Tryz.prog 54 a 6) t1) fun x3 =>
 CM.rm (q1 (loadA Tryz.prog 3) x3 ) fun x4 =>
 CM.call 113 [x4, (.int .i64 64), (.int .i64 16384)] fun x5 =>
 CM.ifv x5 (
 CM.pu (p1 (fun a => fieldAddrA Tryz.prog 54 a 7) t1) fun x6 =>
 CM.rm (q1 (loadA Tryz.prog 3) x6 ) fun x7 =>
 CM.call 113 [x7, (.int .i64 0), (.int .i64 1048576)] fun x8 =>
 CM.ifv x8 (
 CM.pu (p1 (fun a => fieldAddrA Tryz.prog 54 a 8) t1) fun x9 =>
 CM.rm (q1 (loadA Tryz.prog 3) x9 ) fun x10 =>
 CM.call 113 [x10, (.int .i64 1), (.int .i64 256)] fun x11 =>
 CM.ifv x11 (
 CM.pu (p1 (fun a => fieldAddrA Tryz.prog 54 a 9) t1) fun x12 =>
 CM.rm (q1 (loadA Tryz.prog 3) x12 ) fun x13 =>
 CM.call 113 [x13, (.int .i64 1), (.int .i64 32)] fun x14 =>
 CM.go 249857 [t1, t3, x14]) (
 CM.go 249857 [t1, t3, (.bool false)])) (
 CM.go 249857 [t1, t3, (.bool false)])) (
 CM.go 249857 [t1, t3, (.bool false)])) (
 CM.go 249857 [t1, t3, (.bool false)])
theorem g61_0_ok : EqD (Rl H) g61_0 (fun xs m => goR (EH H) Mk 249856 xs m) := sE fun _ => sE fun _ => zE fun _ => goR_eq 400 (by kernel_rfl)
noncomputable def g61_1 : List AV → CM := apS fun t1 => apS fun t3 => apS fun t4 => ap0 <|
 CM.ifv t3 (
 CM.ifv t4 (
 CM.pu (p1 (fun a => fieldAddrA Tryz.prog 54 a 10) t1) fun x0 =>
 CM.rm (q1 (loadA Tryz.prog 3) x0 ) fun x1 =>
 CM.call 113 [x1, (.int .i64 1), (.int .i64 64)] fun x2 =>
 CM.ifv x2 (
 CM.pu (p1 (fun a => fieldAddrA Tryz.prog 54 a 11) t1) fun x3 =>
 CM.rm (q1 (loadA Tryz.prog 3) x3 ) fun x4 =>
 CM.call 113 [x4, (.int .i64 1), (.int .i64 16)] fun x5 =>
 CM.ifv x5 (
 CM.pu (p1 (fun a => fieldAddrA Tryz.prog 54 a 12) t1) fun x6 =>
 CM.rm (q1 (loadA Tryz.prog 28) x6 ) fun x7 =>
 CM.pu (p2 (binA Tryz.prog .geq 28) x7 (.int .u64 1)) fun x8 =>
 CM.ifv x8 (
 CM.pu (p1 (fun a => fieldAddrA Tryz.prog 54 a 12) t1) fun x9 =>
 CM.rm (q1 (loadA Tryz.prog 28) x9 ) fun x10 =>
 CM.pu (p2 (binA Tryz.prog .leq 28) x10 (.int .u64 72057594037927935)) fun x11 =>
 CM.ret x11) (
 CM.ret (.bool false))) (
 CM.ret (.bool false))) (
 CM.ret (.bool false))) (
 CM.ret (.bool false))) (
 CM.ret (.bool false))
theorem g61_1_ok : EqD (Rl H) g61_1 (fun xs m => goR (EH H) Mk 249857 xs m) := sE fun _ => sE fun _ => sE fun _ => zE fun _ => goR_eq 400 (by kernel_rfl)
noncomputable def f61 : List AV → CM := apS fun a0 => ap0 <|
 CM.al (boxA a0) fun x0 =>
 CM.pu (p1 (fun a => fieldAddrA Tryz.prog 54 a 0) x0) fun x1 =>
 CM.rm (q1 (loadA Tryz.prog 3) x1 ) fun x2 =>
 CM.call 113 [x2, (.int .i64 1), (.int .i64 7)] fun x4 =>
 CM.ifv x4 (
 CM.pu (p1 (fun a => fieldAddrA Tryz.prog 54 a 1) x0) fun x6 =>
 CM.rm (q1 (loadA Tryz.prog 3) x6 ) fun x7 =>
 CM.pu (p2 (binA Tryz.prog .gtr 3) x7 (.int .i64 0)) fun x8 =>
 CM.ifv x8 (
 CM.pu (p1 (fun a => fieldAddrA Tryz.prog 54 a 1) x0) fun x9 =>
 CM.rm (q1 (loadA Tryz.prog 3) x9 ) fun x10 =>
 CM.pu (p2 (binA Tryz.prog .and 3) x10 (.int .i64 1)) fun x11 =>
 CM.pu (p2 (binA Tryz.prog .eql 3) x11 (.int .i64 0)) fun x12 =>
 CM.ifv x12 (
 CM.pu (p1 (fun a => fieldAddrA Tryz.prog 54 a 1) x0) fun x13 =>
 CM.rm (q1 (loadA Tryz.prog 3) x13 ) fun x14 =>
 CM.pu (p1 (fun a => fieldAddrA Tryz.prog 54 a 0) x0) fun x15 =>
 CM.rm (q1 (loadA Tryz.prog 3) x15 ) fun x16 =>
 CM.pu (p2 (binA Tryz.prog .shl 3) (.int .i64 2) x16) fun x17 =>
 CM.pu (p2 (binA Tryz.prog .lss 3) x14 x17) fun x18 =>
 CM.ifv x18 (
 CM.pu (p1 (fun a => fieldAddrA Tryz.prog 54 a 2) x0) fun x19 =>
 CM.rm (q1 (loadA Tryz.prog 3) x19 ) fun x20 =>
 CM.call 113 [x20, (.int .i64 2), (.int .i64 1000)] fun x22 =>
 CM.ifv x22 (
 CM.pu (p1 (fun a => fieldAddrA Tryz.prog 54 a 3) x0) fun x24 =>
 CM.rm (q1 (loadA Tryz.prog 3) x24 ) fun x25 =>
 CM.pu (p1 (fun a => fieldAddrA Tryz.prog 54 a 2) x0) fun x26 =>
 CM.rm (q1 (loadA Tryz.prog 3) x26 ) fun x27 =>
 CM.call 113 [x25, x27, (.int .i64 2000)] fun x29 =>
 CM.ifv x29 (
 CM.pu (p1 (fun a => fieldAddrA Tryz.prog 54 a 4) x0) fun x31 =>
 CM.rm (q1 (loadA Tryz.prog 3) x31 ) fun x32 =>
 CM.pu (p1 (fun a => fieldAddrA Tryz.prog 54 a 2) x0) fun x33 =>
 CM.rm (q1 (loadA Tryz.prog 3) x33 ) fun x34 =>
 CM.pu (p2 (binA Tryz.prog .sub 3) x34 (.int .i64 1)) fun x35 =>
 CM.call 113 [x32, (.int .i64 1), x35] fun x37 =>
 CM.go 249856 [x0, x37]) (
 CM.go 249856 [x0, (.bool false)])) (
 CM.go 249856 [x0, (.bool false)])) (
 CM.go 249856 [x0, (.bool false)])) (
 CM.go 249856 [x0, (.bool false)])) (
 CM.go 249856 [x0, (.bool false)])) (
 CM.go 249856 [x0, (.bool false)])
theorem f61_ok (h : H 61 = none) : EqD (Rl H) f61 (fun xs m => run (EH H) (.fn 61) xs m) := sE fun _ => zE fun _ => run_eq 400 h (by kernel_rfl) (by kernel_rfl)
noncomputable def g62_0 : List AV → CM := apS fun t0 => apS fun t1 => ap0 <|
 CM.call 115 [t0] fun x0 =>
 CM.pu (p1 (fun a => extractA a 0) x0) fun x1 =>
 CM.pu (p1 (fun a => extractA a 1) x0) fun _ =>
 CM.pu (p1 (buildA Tryz.prog 212) [(0, t1), (1, x1), (2, t0)]) fun x3 =>
 CM.al (boxA x3) fun x4 =>
 CM.ret (.tup [x4, (.int .i64 0)])
theorem g62_0_ok : EqD (Rl H) g62_0 (fun xs m => goR (EH H) Mk 253952 xs m) := sE fun _ => sE fun _ => zE fun _ => goR_eq 400 (by kernel_rfl)
noncomputable def f62 : List AV → CM := apS fun a0 => apS fun a1 => ap0 <|
 CM.pu (p2 (binA Tryz.prog .lss 3) a0 (.int .i64 1)) fun x0 =>
 CM.ifv x0 (
 CM.ret (.tup [(.ptr none), (.int .i64 1)])) (
 CM.pu (p2 (binA Tryz.prog .gtr 3) a0 (.int .i64 16)) fun x1 =>
 CM.ifv x1 (
 CM.ret (.tup [(.ptr none), (.int .i64 1)])) (
 CM.call 114 [a1] fun x2 =>
 CM.pu (p1 (unA .not) x2) fun x3 =>
 CM.cond x3 (
 CM.ret (.tup [(.ptr none), (.int .i64 1)])) (
 CM.go 253952 [a0, a1])))
theorem f62_ok (h : H 62 = none) : EqD (Rl H) f62 (fun xs m => run (EH H) (.fn 62) xs m) := sE fun _ => sE fun _ => zE fun _ => run_eq 400 h (by kernel_rfl) (by kernel_rfl)
noncomputable def f63 : List AV → CM := apS fun a0 => ap0 <|
 CM.pu (p1 nnA a0) fun x0 =>
 CM.pu (p1 (fun a => fieldAddrA Tryz.prog 137 a 3) x0) fun x1 =>
 CM.rm (q1 (loadA Tryz.prog 28) x1 ) fun x2 =>
 CM.ret x2
theorem f63_ok (h : H 63 = none) : EqD (Rl H) f63 (fun xs m => run (EH H) (.fn 63) xs m) := sE fun _ => zE fun _ => run_eq 400 h (by kernel_rfl) (by kernel_rfl)
noncomputable def g64_0 : List AV → CM := apS fun t2 => apS fun t3 => apS fun t5 => apS fun t6 => apS fun t7 => apS fun t12 => apS fun t13 => apS fun t14 => ap0 <|
 CM.rng (.fn (rsOf (EH fun _ => none) 64)) t12 (loopOf (EH fun _ => none) 64 0 ([.undef, .undef, t2, t3, .undef, t5, t6, t7, .undef, .undef, .undef, .undef, t12, t13, t14] ++ List.replicate 26 .undef)) 262144 [t2, t3, t5, t6, t7, t12, t13, t14]
theorem g64_0_ok : EqD (Rl H) g64_0 (fun xs m => goR (EH H) Mk 262144 xs m) := sE fun _ => sE fun _ => sE fun _ => sE fun _ => sE fun _ => sE fun _ => sE fun _ => sE fun _ => zE fun _ => goR_eq 400 (by kernel_rfl)
noncomputable def g64_2 : List AV → CM := apS fun t5 => ap0 <|
 CM.rm (q1 (loadA Tryz.prog 139) t5 ) fun x0 =>
 CM.ret x0
theorem g64_2_ok : EqD (Rl H) g64_2 (fun xs m => goR (EH H) Mk 262146 xs m) := sE fun _ => zE fun _ => goR_eq 400 (by kernel_rfl)
noncomputable def l64_0_none : List AV → CM := apS fun _ => apS fun _ => apS fun t5 => apS fun _ => apS fun _ => apS fun _ => apS fun _ => apS fun _ => ap0 <|
 CM.go 262146 [t5]
theorem l64_0_none_ok : EqD (Rl H) l64_0_none (fun xs m => afR (EH H) Nk 262144 none xs m) := sE fun _ => sE fun _ => sE fun _ => sE fun _ => sE fun _ => sE fun _ => sE fun _ => sE fun _ => zE fun _ => afR_eq 400 (by kernel_rfl)
noncomputable def f64 : List AV → CM := apS fun a0 => apS fun a1 => ap0 <|
 CM.al (boxA a0) fun x0 =>
 CM.al (boxA a1) fun x1 =>
 CM.al (some (.cells [(.sl none 0 0 0 true)] false, pB)) fun x2 =>
 CM.rm (q1 (loadA Tryz.prog 133) x0 ) fun x3 =>
 CM.pu (p1 nnA x3) fun x4 =>
 CM.pu (p1 (fun a => fieldAddrA Tryz.prog 212 a 1) x4) fun x5 =>
 CM.rm (q1 (loadA Tryz.prog 205) x5 ) fun x6 =>
 CM.call 116 [x6] fun x7 =>
 CM.go 262144 [x0, x1, x2, .undef, .undef, x7, .undef, .undef]
theorem f64_ok (h : H 64 = none) : EqD (Rl H) f64 (fun xs m => run (EH H) (.fn 64) xs m) := sE fun _ => sE fun _ => zE fun _ => run_eq 400 h (by kernel_rfl) (by kernel_rfl)
noncomputable def g65_0 : List AV → CM := apS fun t0 => apS fun t2 => ap0 <|
 CM.call 118 [t0] fun x0 =>
 CM.al (some (.cells [(.int .i64 0), (.int .u64 0), (.int .u64 0), (.int .u64 0), (.int .u64 0), (.int .i64 0), (.int .u64 0), (.int .i64 0), (.str []), (.str [])] false, pB)) fun x1 =>
 CM.call 119 [x0, (.int .u8 11)] fun x2 =>
 CM.pu (p1 (convA Tryz.prog 5 3) x2) fun x3 =>
 CM.pu (p1 (fun a => fieldAddrA Tryz.prog 65 a 0) x1) fun x4 =>
 CM.st (fun m => stV m x4 x3 1) <|
 CM.pu (p1 (fun a => fieldAddrA Tryz.prog 65 a 0) x1) fun x6 =>
 CM.rm (q1 (loadA Tryz.prog 3) x6 ) fun x7 =>
 CM.call 120 [x7] fun x8 =>
 CM.go 266241 [t2, x0, x1, x8, (.int .i64 1)]
theorem g65_0_ok : EqD (Rl H) g65_0 (fun xs m => goR (EH H) Mk 266240 xs m) := sE fun _ => sE fun _ => zE fun _ => goR_eq 400 (by kernel_rfl)
noncomputable def g65_1 : List AV → CM := apS fun t2 => apS fun t4 => apS fun t5 => apS fun t6 => apS fun t7 => ap0 <|
 CM.pu (p2 (binA Tryz.prog .lss 3) t7 (.int .i64 128)) fun x0 =>
 CM.cond x0 (
 CM.go 266242 [t2, t4, t5, t6, t7]) (
 CM.go 266244 [t2, t4, t5])
theorem g65_1_ok : EqD (Rl H) g65_1 (fun xs m => goR (EH H) Mk 266241 xs m) := sE fun _ => sE fun _ => sE fun _ => sE fun _ => sE fun _ => zE fun _ => goR_eq 400 (by kernel_rfl)
noncomputable def g65_2 : List AV → CM := apS fun t2 => apS fun t4 => apS fun t5 => apS fun t6 => apS fun t7 => ap0 <|
 CM.pu (p2 (binA Tryz.prog .and 3) t6 t7) fun x0 =>
 CM.pu (p2 (binA Tryz.prog .neq 3) x0 (.int .i64 0)) fun x1 =>
 CM.cond x1 (
 CM.call 121 [t4, t5, t7] fun _ =>
 CM.go 266243 [t2, t4, t5, t6, t7]) (
 CM.go 266243 [t2, t4, t5, t6, t7])
theorem g65_2_ok : EqD (Rl H) g65_2 (fun xs m => goR (EH H) Mk 266242 xs m) := sE fun _ => sE fun _ => sE fun _ => sE fun _ => sE fun _ => zE fun _ => goR_eq 400 (by kernel_rfl)
noncomputable def g65_3 : List AV → CM := apS fun t2 => apS fun t4 => apS fun t5 => apS fun t6 => apS fun t7 => ap0 <|
 CM.pu (p2 (binA Tryz.prog .shl 3) t7 (.int .u64 1)) fun x0 =>
 CM.go 266241 [t2, t4, t5, t6, x0]
theorem g65_3_ok : EqD (Rl H) g65_3 (fun xs m => goR (EH H) Mk 266243 xs m) := sE fun _ => sE fun _ => sE fun _ => sE fun _ => sE fun _ => zE fun _ => goR_eq 400 (by kernel_rfl)
noncomputable def g65_4 : List AV → CM := apS fun t2 => apS fun t4 => apS fun t5 => ap0 <|
 CM.call 122 [t4] fun x0 =>
 CM.pu (p2 (binA Tryz.prog .eql 23) x0 (.int .i64 0)) fun x1 =>
 CM.ifv x1 (
 CM.rm (q1 (loadA Tryz.prog 65) t5 ) fun x2 =>
 CM.call 123 [x2] fun x3 =>
 CM.pu (p1 (unA .not) x3) fun x4 =>
 CM.cond x4 (
 CM.go 266245 [t2, t5, (.int .i64 11)]) (
 CM.go 266245 [t2, t5, x0])) (
 CM.go 266245 [t2, t5, x0])
theorem g65_4_ok : EqD (Rl H) g65_4 (fun xs m => goR (EH H) Mk 266244 xs m) := sE fun _ => sE fun _ => sE fun _ => zE fun _ => goR_eq 400 (by kernel_rfl)
noncomputable def g65_5 : List AV → CM := apS fun t2 => apS fun t5 => apS fun t8 => ap0 <|
 CM.pu (p2 (binA Tryz.prog .neq 23) t8 (.int .i64 0)) fun x0 =>
 CM.cond x0 (
 CM.pu (p1 (buildA Tryz.prog 65) []) fun x1 =>
 CM.st (fun m => stV m t2 x1 10) <|
 CM.resC Tryz.prog [ResultVar.cell 0 65, ResultVar.tmp 1] [t2, t8]) (
 CM.go 266246 [t2, t5])
theorem g65_5_ok : EqD (Rl H) g65_5 (fun xs m => goR (EH H) Mk 266245 xs m) := sE fun _ => sE fun _ => sE fun _ => zE fun _ => goR_eq 400 (by kernel_rfl)
noncomputable def g65_6 : List AV → CM := apS fun t2 => apS fun t5 => ap0 <|
 CM.rm (q1 (loadA Tryz.prog 65) t5 ) fun x0 =>
 CM.st (fun m => stV m t2 x0 10) <|
 CM.resC Tryz.prog [ResultVar.cell 0 65, ResultVar.tmp 1] [t2, (.int .i64 0)]
theorem g65_6_ok : EqD (Rl H) g65_6 (fun xs m => goR (EH H) Mk 266246 xs m) := sE fun _ => sE fun _ => zE fun _ => goR_eq 400 (by kernel_rfl)
noncomputable def f65 : List AV → CM := apS fun a0 => ap0 <|
 CM.al (some (.cells [(.int .i64 0), (.int .u64 0), (.int .u64 0), (.int .u64 0), (.int .u64 0), (.int .i64 0), (.int .u64 0), (.int .i64 0), (.str []), (.str [])] false, pB)) fun x0 =>
 CM.pu (p1 (lenT Tryz.prog 60) a0) fun x1 =>
 CM.pu (p2 (binA Tryz.prog .gtr 3) x1 (.int .i64 128)) fun x2 =>
 CM.cond x2 (
 CM.pu (p1 (buildA Tryz.prog 65) []) fun x3 =>
 CM.st (fun m => stV m x0 x3 10) <|
 CM.resC Tryz.prog [ResultVar.cell 0 65, ResultVar.tmp 1] [x0, (.int .i64 12)]) (
 CM.go 266240 [a0, x0])
theorem f65_ok (h : H 65 = none) : EqD (Rl H) f65 (fun xs m => run (EH H) (.fn 65) xs m) := sE fun _ => zE fun _ => run_eq 400 h (by kernel_rfl) (by kernel_rfl)
noncomputable def g66_0 : List AV → CM := apS fun t0 => apS fun t1 => apS fun t2 => ap0 <|
 CM.pu (p1 nnA t0) fun x0 =>
 CM.pu (p1 (fun a => fieldAddrA Tryz.prog 212 a 1) x0) fun x1 =>
 CM.rm (q1 (loadA Tryz.prog 205) x1 ) fun x2 =>
 CM.call 124 [x2, t1] fun x3 =>
 CM.pu (p1 (fun a => extractA a 0) x3) fun x4 =>
 CM.pu (p1 (fun a => extractA a 1) x3) fun x5 =>
 CM.al (some (.cells [(.int .u64 0), (.int .u64 0), (.int .u64 0), (.sl none 0 0 0 true)] false, pB)) fun x6 =>
 CM.st (fun m => stV m x6 x4 4) <|
 CM.pu (p1 (unA .not) x5) fun x8 =>
 CM.ifv x8 (
 CM.pu (p1 nnA t0) fun x9 =>
 CM.pu (p1 (fun a => fieldAddrA Tryz.prog 212 a 1) x9) fun x10 =>
 CM.rm (q1 (loadA Tryz.prog 205) x10 ) fun x11 =>
 CM.memo fun m12 =>
 CM.call 125 [x11] fun x13 =>
 CM.pu (p1 nnA t0) fun x15 =>
 CM.pu (p1 (fun a => fieldAddrA Tryz.prog 212 a 2) x15) fun x16 =>
 CM.rm (q1 (loadA Tryz.prog 3) x16 ) fun x17 =>
 CM.chk (q1 (loadA Tryz.prog 3) x16 m12) x17 <|
 CM.pu (p2 (binA Tryz.prog .geq 3) x13 x17) fun x18 =>
 CM.cond x18 (
 CM.pu (p1 nnA t0) fun x19 =>
 CM.pu (p1 (fun a => fieldAddrA Tryz.prog 212 a 1) x19) fun x20 =>
 CM.rm (q1 (loadA Tryz.prog 205) x20 ) fun x21 =>
 CM.call 126 [t0] fun x23 =>
 CM.memo fun m24 =>
 CM.chk (q1 (loadA Tryz.prog 205) x20 m24) x21 <|
 CM.call 117 [x21, x23] fun _ =>
 CM.go 270337 [t0, t1, t2, x6]) (
 CM.go 270337 [t0, t1, t2, x6])) (
 CM.go 270337 [t0, t1, t2, x6])
theorem g66_0_ok : EqD (Rl H) g66_0 (fun xs m => goR (EH H) Mk 270336 xs m) := sE fun _ => sE fun _ => sE fun _ => zE fun _ => goR_eq 400 (by kernel_rfl)
noncomputable def g66_1 : List AV → CM := apS fun t0 => apS fun t1 => apS fun t2 => apS fun t7 => ap0 <|
 CM.pu (p1 (fun a => fieldAddrA Tryz.prog 210 a 0) t7) fun x0 =>
 CM.st (fun m => stV m x0 t1 1) <|
 CM.pu (p1 (fun a => fieldAddrA Tryz.prog 210 a 2) t7) fun x2 =>
 CM.st (fun m => stV m x2 t2 1) <|
 CM.pu (p1 nnA t0) fun x4 =>
 CM.pu (p1 (fun a => fieldAddrA Tryz.prog 212 a 1) x4) fun x5 =>
 CM.rm (q1 (loadA Tryz.prog 205) x5 ) fun x6 =>
 CM.rm (q1 (loadA Tryz.prog 210) t7 ) fun x7 =>
 CM.call 127 [x6, t1, x7] fun _ =>
 CM.ret (.int .i64 0)
theorem g66_1_ok : EqD (Rl H) g66_1 (fun xs m => goR (EH H) Mk 270337 xs m) := sE fun _ => sE fun _ => sE fun _ => sE fun _ => zE fun _ => goR_eq 400 (by kernel_rfl)
noncomputable def f66 : List AV → CM := apS fun a0 => apS fun a1 => apS fun a2 => ap0 <|
 CM.call 114 [a1] fun x0 =>
 CM.pu (p1 (unA .not) x0) fun x1 =>
 CM.cond x1 (
 CM.ret (.int .i64 1)) (
 CM.go 270336 [a0, a1, a2])
theorem f66_ok (h : H 66 = none) : EqD (Rl H) f66 (fun xs m => run (EH H) (.fn 66) xs m) := sE fun _ => sE fun _ => sE fun _ => zE fun _ => run_eq 400 h (by kernel_rfl) (by kernel_rfl)
noncomputable def g67_0 : List AV → CM := apS fun t0 => apS fun t1 => apS fun t2 => apS fun t3 => apS fun t8 => apS fun t11 => ap0 <|
 CM.pu (p1 (fun a => fieldAddrA Tryz.prog 210 a 2) t11) fun x0 =>
 CM.st (fun m => stV m x0 t3 1) <|
 CM.pu (p1 nnA t0) fun x2 =>
 CM.pu (p1 (fun a => fieldAddrA Tryz.prog 212 a 1) x2) fun x3 =>
 CM.rm (q1 (loadA Tryz.prog 205) x3 ) fun x4 =>
 CM.rm (q1 (loadA Tryz.prog 210) t11 ) fun x5 =>
 CM.call 127 [x4, t1, x5] fun _ =>
 CM.pu (p1 (fun a => fieldAddrA Tryz.prog 210 a 1) t11) fun x9 =>
 CM.rm (q1 (loadA Tryz.prog 28) x9 ) fun x10 =>
 CM.pu (p2 (binA Tryz.prog .add 28) x10 (.int .u64 1)) fun x11 =>
 CM.pu (p2 (binA Tryz.prog .eql 28) t2 x11) fun x12 =>
 CM.cond x12 (
 CM.pu (p1 (buildA Tryz.prog 57) []) fun x13 =>
 CM.st (fun m => stV m t8 x13 5) <|
 CM.resC Tryz.prog [ResultVar.cell 0 57, ResultVar.tmp 1, ResultVar.tmp 2] [t8, (.bool false), (.int .i64 0)]) (
 CM.pu (p1 (fun a => fieldAddrA Tryz.prog 210 a 1) t11) fun x15 =>
 CM.rm (q1 (loadA Tryz.prog 28) x15 ) fun x16 =>
 CM.pu (p2 (binA Tryz.prog .gtr 28) t2 x16) fun x17 =>
 CM.cond x17 (
 CM.pu (p1 (buildA Tryz.prog 57) []) fun x18 =>
 CM.st (fun m => stV m t8 x18 5) <|
 CM.resC Tryz.prog [ResultVar.cell 0 57, ResultVar.tmp 1, ResultVar.tmp 2] [t8, (.bool false), (.int .i64 52)]) (
 CM.go 274433 [t2, t8, t11]))
theorem g67_0_ok : EqD (Rl H) g67_0 (fun xs m => goR (EH H) Mk 274432 xs m) := sE fun _ => sE fun _ => sE fun _ => sE fun _ => sE fun _ => sE fun _ => zE fun _ => goR_eq 400 (by kernel_rfl)
noncomputable def g67_1 : List AV → CM := apS fun t2 => apS fun t8 => apS fun t11 => ap0 <|
 CM.pu (p1 (fun a => fieldAddrA Tryz.prog 210 a 3) t11) fun x0 =>
 CM.rm (q1 (loadA Tryz.prog 208) x0 ) fun x1 =>
 CM.pu (p1 (lenT Tryz.prog 208) x1) fun x2 =>
 CM.go 274434 [t2, t8, x1, x2, (.int .i64 0)]
theorem g67_1_ok : EqD (Rl H) g67_1 (fun xs m => goR (EH H) Mk 274433 xs m) := sE fun _ => sE fun _ => sE fun _ => zE fun _ => goR_eq 400 (by kernel_rfl)
noncomputable def g67_2 : List AV → CM := apS fun t2 => apS fun t8 => apS fun t50 => apS fun t51 => apS fun t52 => ap0 <|
 CM.pu (p2 (binA Tryz.prog .lss 3) t52 t51) fun x0 =>
 CM.cond x0 (
 CM.go 274435 [t2, t8, t50, t51, t52]) (
 CM.go 274437 [t8])
theorem g67_2_ok : EqD (Rl H) g67_2 (fun xs m => goR (EH H) Mk 274434 xs m) := sE fun _ => sE fun _ => sE fun _ => sE fun _ => sE fun _ => zE fun _ => goR_eq 400 (by kernel_rfl)
noncomputable def g67_3 : List AV → CM := apS fun t2 => apS fun t8 => apS fun t50 => apS fun t51 => apS fun t52 => ap0 <|
 CM.pu (p2 (indexAddrA Tryz.prog 208) t50 t52) fun x0 =>
 CM.rm (q1 (loadA Tryz.prog 228) x0 ) fun x1 =>
 CM.al (some (.cells [(.int .u64 0), (.int .i64 0), (.int .u64 0), (.int .i64 0), (.int .u64 0), (.int .i64 0)] false, pB)) fun x2 =>
 CM.st (fun m => stV m x2 x1 6) <|
 CM.pu (p1 (fun a => fieldAddrA Tryz.prog 228 a 0) x2) fun x4 =>
 CM.rm (q1 (loadA Tryz.prog 28) x4 ) fun x5 =>
 CM.pu (p2 (binA Tryz.prog .eql 28) x5 t2) fun x6 =>
 CM.cond x6 (
 CM.pu (p1 (fun a => fieldAddrA Tryz.prog 228 a 1) x2) fun x7 =>
 CM.rm (q1 (loadA Tryz.prog 57) x7 ) fun x8 =>
 CM.st (fun m => stV m t8 x8 5) <|
 CM.resC Tryz.prog [ResultVar.cell 0 57, ResultVar.tmp 1, ResultVar.tmp 2] [t8, (.bool true), (.int .i64 0)]) (
 CM.go 274436 [t2, t8, t50, t51, t52])
theorem g67_3_ok : EqD (Rl H) g67_3 (fun xs m => goR (EH H) Mk 274435 xs m) := sE fun _ => sE fun _ => sE fun _ => sE fun _ => sE fun _ => zE fun _ => goR_eq 400 (by kernel_rfl)
noncomputable def g67_4 : List AV → CM := apS fun t2 => apS fun t8 => apS fun t50 => apS fun t51 => apS fun t52 => ap0 <|
 CM.pu (p2 (binA Tryz.prog .add 3) t52 (.int .i64 1)) fun x0 =>
 CM.go 274434 [t2, t8, t50, t51, x0]
theorem g67_4_ok : EqD (Rl H) g67_4 (fun xs m => goR (EH H) Mk 274436 xs m) := sE fun _ => sE fun _ => sE fun _ => sE fun _ => sE fun _ => zE fun _ => goR_eq 400 (by kernel_rfl)
noncomputable def g67_5 : List AV → CM := apS fun t8 => ap0 <|
 CM.pu (p1 (buildA Tryz.prog 57) []) fun x0 =>
 CM.st (fun m => stV m t8 x0 5) <|
 CM.resC Tryz.prog [ResultVar.cell 0 57, ResultVar.tmp 1, ResultVar.tmp 2] [t8, (.bool false), (.int .i64 51)]
theorem g67_5_ok : EqD (Rl H) g67_5 (fun xs m => goR (EH H) Mk 274437 xs m) := sE fun _ => zE fun _ => goR_eq 400 (by kernel_rfl)
noncomputable def f67 : List AV → CM := apS fun a0 => apS fun a1 => apS fun a2 => apS fun a3 => ap0 <|
 CM.al (some (.cells [(.int .i64 0), (.int .u64 0), (.int .i64 0), (.int .u64 0), (.int .i64 0)] false, pB)) fun x0 =>
 CM.pu (p1 nnA a0) fun x1 =>
 CM.pu (p1 (fun a => fieldAddrA Tryz.prog 212 a 1) x1) fun x2 =>
 CM.rm (q1 (loadA Tryz.prog 205) x2 ) fun x3 =>
 CM.call 124 [x3, a1] fun x4 =>
 CM.pu (p1 (fun a => extractA a 0) x4) fun x5 =>
 CM.pu (p1 (fun a => extractA a 1) x4) fun x6 =>
 CM.al (some (.cells [(.int .u64 0), (.int .u64 0), (.int .u64 0), (.sl none 0 0 0 true)] false, pB)) fun x7 =>
 CM.st (fun m => stV m x7 x5 4) <|
 CM.pu (p1 (unA .not) x6) fun x9 =>
 CM.cond x9 (
 CM.pu (p1 (buildA Tryz.prog 57) []) fun x10 =>
 CM.st (fun m => stV m x0 x10 5) <|
 CM.resC Tryz.prog [ResultVar.cell 0 57, ResultVar.tmp 1, ResultVar.tmp 2] [x0, (.bool false), (.int .i64 50)]) (
 CM.go 274432 [a0, a1, a2, a3, x0, x7])
theorem f67_ok (h : H 67 = none) : EqD (Rl H) f67 (fun xs m => run (EH H) (.fn 67) xs m) := sE fun _ => sE fun _ => sE fun _ => sE fun _ => zE fun _ => run_eq 400 h (by kernel_rfl) (by kernel_rfl)
noncomputable def g68_0 : List AV → CM := apS fun t4 => apS fun t5 => ap0 <|
 CM.rm (q1 (loadA Tryz.prog 57) t5 ) fun x0 =>
 CM.st (fun m => stV m t4 x0 5) <|
 CM.resC Tryz.prog [ResultVar.cell 0 57] [t4]
theorem g68_0_ok : EqD (Rl H) g68_0 (fun xs m => goR (EH H) Mk 278528 xs m) := sE fun _ => sE fun _ => zE fun _ => goR_eq 400 (by kernel_rfl)
noncomputable def f68 : List AV → CM := apS fun a0 => apS fun a1 => ap0 <|
 CM.al (boxA a1) fun x0 =>
 CM.al (some (.cells [(.int .i64 0), (.int .u64 0), (.int .i64 0), (.int .u64 0), (.int .i64 0)] false, pB)) fun x1 =>
 CM.al (some (.cells [(.int .i64 0), (.int .u64 0), (.int .i64 0), (.int .u64 0), (.int .i64 0)] false, pB)) fun x2 =>
 CM.pu (p1 (fun a => fieldAddrA Tryz.prog 65 a 0) x0) fun x3 =>
 CM.rm (q1 (loadA Tryz.prog 3) x3 ) fun x4 =>
 CM.pu (p2 (binA Tryz.prog .eql 3) x4 (.int .i64 2)) fun x5 =>
 CM.cond x5 (
 CM.pu (p1 nnA a0) fun x6 =>
 CM.pu (p1 (fun a => fieldAddrA Tryz.prog 137 a 1) x6) fun x7 =>
 CM.rm (q1 (loadA Tryz.prog 22) x7 ) fun x8 =>
 CM.pu (p1 (fun a => fieldAddrA Tryz.prog 65 a 6) x0) fun x9 =>
 CM.rm (q1 (loadA Tryz.prog 9) x9 ) fun x10 =>
 CM.pu (p1 (fun a => fieldAddrA Tryz.prog 65 a 3) x0) fun x11 =>
 CM.rm (q1 (loadA Tryz.prog 28) x11 ) fun x12 =>
 CM.call 8 [x8, x10, x12] fun x14 =>
 CM.pu (p1 (fun a => fieldAddrA Tryz.prog 57 a 0) x2) fun x16 =>
 CM.st (fun m => stV m x16 x14 1) <|
 CM.go 278528 [x1, x2]) (
 CM.pu (p2 (binA Tryz.prog .eql 3) x4 (.int .i64 3)) fun x20 =>
 CM.cond x20 (
 CM.pu (p1 nnA a0) fun x21 =>
 CM.pu (p1 (fun a => fieldAddrA Tryz.prog 137 a 1) x21) fun x22 =>
 CM.rm (q1 (loadA Tryz.prog 22) x22 ) fun x23 =>
 CM.pu (p1 (fun a => fieldAddrA Tryz.prog 65 a 6) x0) fun x24 =>
 CM.rm (q1 (loadA Tryz.prog 9) x24 ) fun x25 =>
 CM.call 9 [x23, x25] fun x27 =>
 CM.pu (p1 (fun a => extractA a 0) x27) fun x29 =>
 CM.pu (p1 (fun a => extractA a 1) x27) fun x30 =>
 CM.pu (p1 (fun a => fieldAddrA Tryz.prog 57 a 1) x2) fun x31 =>
 CM.st (fun m => stV m x31 x29 1) <|
 CM.pu (p1 (fun a => fieldAddrA Tryz.prog 57 a 0) x2) fun x35 =>
 CM.st (fun m => stV m x35 x30 1) <|
 CM.go 278528 [x1, x2]) (
 CM.pu (p2 (binA Tryz.prog .eql 3) x4 (.int .i64 4)) fun x39 =>
 CM.cond x39 (
 CM.pu (p1 nnA a0) fun x40 =>
 CM.pu (p1 (fun a => fieldAddrA Tryz.prog 137 a 1) x40) fun x41 =>
 CM.rm (q1 (loadA Tryz.prog 22) x41 ) fun x42 =>
 CM.pu (p1 (fun a => fieldAddrA Tryz.prog 65 a 3) x0) fun x43 =>
 CM.rm (q1 (loadA Tryz.prog 28) x43 ) fun x44 =>
 CM.pu (p1 (fun a => fieldAddrA Tryz.prog 65 a 5) x0) fun x45 =>
 CM.rm (q1 (loadA Tryz.prog 35) x45 ) fun x46 =>
 CM.call 10 [x42, x44, x46] fun x48 =>
 CM.pu (p1 (fun a => fieldAddrA Tryz.prog 57 a 0) x2) fun x50 =>
 CM.st (fun m => stV m x50 x48 1) <|
 CM.go 278528 [x1, x2]) (
 CM.pu (p2 (binA Tryz.prog .eql 3) x4 (.int .i64 5)) fun x54 =>
 CM.cond x54 (
 CM.pu (p1 nnA a0) fun x55 =>
 CM.pu (p1 (fun a => fieldAddrA Tryz.prog 137 a 1) x55) fun x56 =>
 CM.rm (q1 (loadA Tryz.prog 22) x56 ) fun x57 =>
 CM.pu (p1 (fun a => fieldAddrA Tryz.prog 65 a 3) x0) fun x58 =>
 CM.rm (q1 (loadA Tryz.prog 28) x58 ) fun x59 =>
 CM.pu (p1 (fun a => fieldAddrA Tryz.prog 65 a 5) x0) fun x60 =>
 CM.rm (q1 (loadA Tryz.prog 35) x60 ) fun x61 =>
 CM.call 12 [x57, x59, x61] fun x63 =>
 CM.pu (p1 (fun a => fieldAddrA Tryz.prog 57 a 0) x2) fun x65 =>
 CM.st (fun m => stV m x65 x63 1) <|
 CM.go 278528 [x1, x2]) (
 CM.pu (p2 (binA Tryz.prog .eql 3) x4 (.int .i64 6)) fun x69 =>
 CM.cond x69 (
 CM.pu (p1 nnA a0) fun x70 =>
 CM.pu (p1 (fun a => fieldAddrA Tryz.prog 137 a 1) x70) fun x71 =>
 CM.rm (q1 (loadA Tryz.prog 22) x71 ) fun x72 =>
 CM.pu (p1 (fun a => fieldAddrA Tryz.prog 65 a 3) x0) fun x73 =>
 CM.rm (q1 (loadA Tryz.prog 28) x73 ) fun x74 =>
 CM.pu (p1 (fun a => fieldAddrA Tryz.prog 65 a 4) x0) fun x75 =>
 CM.rm (q1 (loadA Tryz.prog 28) x75 ) fun x76 =>
 CM.pu (p1 (fun a => fieldAddrA Tryz.prog 65 a 5) x0) fun x77 =>
 CM.rm (q1 (loadA Tryz.prog 35) x77 ) fun x78 =>
 CM.call 17 [x72, x74, x76, x78] fun x80 =>
 CM.pu (p1 (fun a => fieldAddrA Tryz.prog 57 a 0) x2) fun x82 =>
 CM.st (fun m => stV m x82 x80 1) <|
 CM.go 278528 [x1, x2]) (
 CM.pu (p2 (binA Tryz.prog .eql 3) x4 (.int .i64 7)) fun x86 =>
 CM.cond x86 (
 CM.pu (p1 nnA a0) fun x87 =>
 CM.pu (p1 (fun a => fieldAddrA Tryz.prog 137 a 1) x87) fun x88 =>
 CM.rm (q1 (loadA Tryz.prog 22) x88 ) fun x89 =>
 CM.pu (p1 (fun a => fieldAddrA Tryz.prog 65 a 6) x0) fun x90 =>
 CM.rm (q1 (loadA Tryz.prog 9) x90 ) fun x91 =>
 CM.pu (p1 (fun a => fieldAddrA Tryz.prog 65 a 7) x0) fun x92 =>
 CM.rm (q1 (loadA Tryz.prog 9) x92 ) fun x93 =>
 CM.pu (p1 (fun a => fieldAddrA Tryz.prog 65 a 5) x0) fun x94 =>
 CM.rm (q1 (loadA Tryz.prog 35) x94 ) fun x95 =>
 CM.call 13 [x89, x91, x93, x95] fun x97 =>
 CM.pu (p1 (fun a => fieldAddrA Tryz.prog 57 a 0) x2) fun x99 =>
 CM.st (fun m => stV m x99 x97 1) <|
 CM.go 278528 [x1, x2]) (
 CM.pu (p2 (binA Tryz.prog .eql 3) x4 (.int .i64 8)) fun x103 =>
 CM.cond x103 (
 CM.pu (p1 nnA a0) fun x104 =>
 CM.pu (p1 (fun a => fieldAddrA Tryz.prog 137 a 1) x104) fun x105 =>
 CM.rm (q1 (loadA Tryz.prog 22) x105 ) fun x106 =>
 CM.pu (p1 (fun a => fieldAddrA Tryz.prog 65 a 3) x0) fun x107 =>
 CM.rm (q1 (loadA Tryz.prog 28) x107 ) fun x108 =>
 CM.pu (p1 (fun a => fieldAddrA Tryz.prog 65 a 4) x0) fun x109 =>
 CM.rm (q1 (loadA Tryz.prog 28) x109 ) fun x110 =>
 CM.pu (p1 (fun a => fieldAddrA Tryz.prog 65 a 5) x0) fun x111 =>
 CM.rm (q1 (loadA Tryz.prog 35) x111 ) fun x112 =>
 CM.call 14 [x106, x108, x110, x112] fun x114 =>
 CM.pu (p1 (fun a => extractA a 0) x114) fun x116 =>
 CM.pu (p1 (fun a => extractA a 1) x114) fun x117 =>
 CM.pu (p1 (fun a => fieldAddrA Tryz.prog 57 a 2) x2) fun x118 =>
 CM.st (fun m => stV m x118 x116 3) <|
 CM.pu (p1 (fun a => fieldAddrA Tryz.prog 57 a 0) x2) fun x122 =>
 CM.st (fun m => stV m x122 x117 1) <|
 CM.go 278528 [x1, x2]) (
 CM.pu (p2 (binA Tryz.prog .eql 3) x4 (.int .i64 9)) fun x126 =>
 CM.cond x126 (
 CM.pu (p1 nnA a0) fun x127 =>
 CM.pu (p1 (fun a => fieldAddrA Tryz.prog 137 a 1) x127) fun x128 =>
 CM.rm (q1 (loadA Tryz.prog 22) x128 ) fun x129 =>
 CM.pu (p1 (fun a => fieldAddrA Tryz.prog 65 a 3) x0) fun x130 =>
 CM.rm (q1 (loadA Tryz.prog 28) x130 ) fun x131 =>
 CM.call 15 [x129, x131] fun x133 =>
 CM.pu (p1 (fun a => extractA a 0) x133) fun x135 =>
 CM.pu (p1 (fun a => extractA a 1) x133) fun x136 =>
 CM.pu (p1 (fun a => fieldAddrA Tryz.prog 57 a 2) x2) fun x137 =>
 CM.st (fun m => stV m x137 x135 3) <|
 CM.pu (p1 (fun a => fieldAddrA Tryz.prog 57 a 0) x2) fun x141 =>
 CM.st (fun m => stV m x141 x136 1) <|
 CM.go 278528 [x1, x2]) (
 CM.pu (p2 (binA Tryz.prog .eql 3) x4 (.int .i64 10)) fun x145 =>
 CM.cond x145 (
 CM.pu (p1 nnA a0) fun x146 =>
 CM.pu (p1 (fun a => fieldAddrA Tryz.prog 137 a 1) x146) fun x147 =>
 CM.rm (q1 (loadA Tryz.prog 22) x147 ) fun x148 =>
 CM.pu (p1 (fun a => fieldAddrA Tryz.prog 65 a 6) x0) fun x149 =>
 CM.rm (q1 (loadA Tryz.prog 9) x149 ) fun x150 =>
 CM.call 39 [x148, x150] fun x152 =>
 CM.pu (p1 (fun a => extractA a 0) x152) fun x154 =>
 CM.pu (p1 (fun a => extractA a 1) x152) fun x155 =>
 CM.pu (p1 (fun a => fieldAddrA Tryz.prog 57 a 2) x2) fun x156 =>
 CM.st (fun m => stV m x156 x154 3) <|
 CM.pu (p1 (fun a => fieldAddrA Tryz.prog 57 a 0) x2) fun x160 =>
 CM.st (fun m => stV m x160 x155 1) <|
 CM.go 278528 [x1, x2]) (
 CM.pu (p2 (binA Tryz.prog .eql 3) x4 (.int .i64 11)) fun x164 =>
 CM.cond x164 (
 CM.pu (p1 nnA a0) fun x165 =>
 CM.pu (p1 (fun a => fieldAddrA Tryz.prog 137 a 1) x165) fun x166 =>
 CM.rm (q1 (loadA Tryz.prog 22) x166 ) fun x167 =>
 CM.pu (p1 (fun a => fieldAddrA Tryz.prog 65 a 6) x0) fun x168 =>
 CM.rm (q1 (loadA Tryz.prog 9) x168 ) fun x169 =>
 CM.pu (p1 (fun a => fieldAddrA Tryz.prog 65 a 7) x0) fun x170 =>
 CM.rm (q1 (loadA Tryz.prog 9) x170 ) fun x171 =>
 CM.call 16 [x167, x169, x171] fun x173 =>
 CM.pu (p1 (fun a => extractA a 0) x173) fun x175 =>
 CM.pu (p1 (fun a => extractA a 1) x173) fun x176 =>
 CM.pu (p1 (fun a => fieldAddrA Tryz.prog 57 a 2) x2) fun x177 =>
 CM.st (fun m => stV m x177 x175 3) <|
 CM.pu (p1 (fun a => fieldAddrA Tryz.prog 57 a 0) x2) fun x181 =>
 CM.st (fun m => stV m x181 x176 1) <|
 CM.go 278528 [x1, x2]) (
 CM.go 278528 [x1, x2]))))))))))
theorem f68_ok (h : H 68 = none) : EqD (Rl H) f68 (fun xs m => run (EH H) (.fn 68) xs m) := sE fun _ => sE fun _ => zE fun _ => run_eq 400 h (by kernel_rfl) (by kernel_rfl)
noncomputable def g69_0 : List AV → CM := apS fun t0 => apS fun t1 => apS fun t2 => apS fun t7 => apS fun t9 => ap0 <|
 CM.pu (p1 (fun a => fieldAddrA Tryz.prog 210 a 1) t9) fun x0 =>
 CM.st (fun m => stV m x0 t2 1) <|
 CM.al (some (.cells [] false, sB 6 0)) fun x2 =>
 CM.pu (p1 (fun a => fieldAddrA Tryz.prog 210 a 3) t9) fun x3 =>
 CM.rm (q1 (loadA Tryz.prog 208) x3 ) fun x4 =>
 CM.ef (apE 6 48 x2 x4) fun x5 =>
 CM.rm (q1 (loadA Tryz.prog 57) t7 ) fun x6 =>
 CM.pu (p1 (buildA Tryz.prog 228) [(0, t2), (1, x6)]) fun x7 =>
 CM.al (bsA 6 1 [(.int .u64 0), (.int .i64 0), (.int .u64 0), (.int .i64 0), (.int .u64 0), (.int .i64 0)] [(0, x7)]) fun x8 =>
 CM.ef (apE 6 48 x5 x8) fun x9 =>
 CM.pu (p1 (lenT Tryz.prog 208) x9) fun x10 =>
 CM.pu (p2 (binA Tryz.prog .sub 3) x10 (.int .i64 4)) fun x11 =>
 CM.pu (p2 maxA (.int .i64 0) x11) fun x12 =>
 CM.pu (p2 (fun a l => sliceA Tryz.prog 208 a (some l) none) x9 x12) fun x13 =>
 CM.pu (p1 (fun a => fieldAddrA Tryz.prog 210 a 3) t9) fun x14 =>
 CM.st (fun m => stV m x14 x13 1) <|
 CM.pu (p1 nnA t0) fun x16 =>
 CM.pu (p1 (fun a => fieldAddrA Tryz.prog 212 a 1) x16) fun x17 =>
 CM.rm (q1 (loadA Tryz.prog 205) x17 ) fun x18 =>
 CM.rm (q1 (loadA Tryz.prog 210) t9 ) fun x19 =>
 CM.call 127 [x18, t1, x19] fun _ =>
 CM.ret (.bool true)
theorem g69_0_ok : EqD (Rl H) g69_0 (fun xs m => goR (EH H) Mk 282624 xs m) := sE fun _ => sE fun _ => sE fun _ => sE fun _ => sE fun _ => zE fun _ => goR_eq 400 (by kernel_rfl)
noncomputable def f69 : List AV → CM := apS fun a0 => apS fun a1 => apS fun a2 => apS fun a3 => ap0 <|
 CM.al (boxA a3) fun x0 =>
 CM.pu (p1 nnA a0) fun x1 =>
 CM.pu (p1 (fun a => fieldAddrA Tryz.prog 212 a 1) x1) fun x2 =>
 CM.rm (q1 (loadA Tryz.prog 205) x2 ) fun x3 =>
 CM.call 124 [x3, a1] fun x4 =>
 CM.pu (p1 (fun a => extractA a 0) x4) fun x5 =>
 CM.pu (p1 (fun a => extractA a 1) x4) fun x6 =>
 CM.al (some (.cells [(.int .u64 0), (.int .u64 0), (.int .u64 0), (.sl none 0 0 0 true)] false, pB)) fun x7 =>
 CM.st (fun m => stV m x7 x5 4) <|
 CM.pu (p1 (unA .not) x6) fun x9 =>
 CM.ifv x9 (
 CM.ret (.bool false)) (
 CM.pu (p1 (fun a => fieldAddrA Tryz.prog 210 a 1) x7) fun x10 =>
 CM.rm (q1 (loadA Tryz.prog 28) x10 ) fun x11 =>
 CM.pu (p2 (binA Tryz.prog .add 28) x11 (.int .u64 1)) fun x12 =>
 CM.pu (p2 (binA Tryz.prog .neq 28) a2 x12) fun x13 =>
 CM.cond x13 (
 CM.ret (.bool false)) (
 CM.go 282624 [a0, a1, a2, x0, x7]))
theorem f69_ok (h : H 69 = none) : EqD (Rl H) f69 (fun xs m => run (EH H) (.fn 69) xs m) := sE fun _ => sE fun _ => sE fun _ => sE fun _ => zE fun _ => run_eq 400 h (by kernel_rfl) (by kernel_rfl)
noncomputable def g70_0 : List AV → CM := apS fun t0 => apS fun t2 => ap0 <|
 CM.call 118 [t0] fun x0 =>
 CM.pu (p1 (buildA Tryz.prog 231) [(0, x0)]) fun x1 =>
 CM.al (boxA x1) fun x2 =>
 CM.call 128 [x2] fun x3 =>
 CM.al (some (.cells [(.sl none 0 0 0 true), (.sl none 0 0 0 true), (.sl none 0 0 0 true), (.int .u64 0)] false, pB)) fun x4 =>
 CM.st (fun m => stV m x4 x3 4) <|
 CM.call 129 [x2] fun x6 =>
 CM.pu (p1 nnA x2) fun x7 =>
 CM.pu (p1 (fun a => fieldAddrA Tryz.prog 231 a 1) x7) fun x8 =>
 CM.rm (q1 (loadA Tryz.prog 23) x8 ) fun x9 =>
 CM.pu (p2 (binA Tryz.prog .eql 23) x9 (.int .i64 0)) fun x10 =>
 CM.cond x10 (
 CM.pu (p1 nnA x2) fun x11 =>
 CM.pu (p1 (fun a => fieldAddrA Tryz.prog 231 a 0) x11) fun x12 =>
 CM.rm (q1 (loadA Tryz.prog 216) x12 ) fun x13 =>
 CM.call 122 [x13] fun x14 =>
 CM.go 286721 [t2, x4, x6, x14]) (
 CM.go 286721 [t2, x4, x6, x9])
theorem g70_0_ok : EqD (Rl H) g70_0 (fun xs m => goR (EH H) Mk 286720 xs m) := sE fun _ => sE fun _ => zE fun _ => goR_eq 400 (by kernel_rfl)
noncomputable def g70_1 : List AV → CM := apS fun t2 => apS fun t6 => apS fun t7 => apS fun t8 => ap0 <|
 CM.pu (p2 (binA Tryz.prog .eql 23) t8 (.int .i64 0)) fun x0 =>
 CM.ifv x0 (
 CM.rm (q1 (loadA Tryz.prog 48) t6 ) fun x1 =>
 CM.call 18 [x1, (.int .i64 64)] fun x2 =>
 CM.pu (p1 (unA .not) x2) fun x3 =>
 CM.ifv x3 (
 CM.go 286722 [t2, t6, t7, (.int .i64 11)]) (
 CM.call 130 [t7, (.int .i64 16)] fun x4 =>
 CM.pu (p1 (unA .not) x4) fun x5 =>
 CM.cond x5 (
 CM.go 286722 [t2, t6, t7, (.int .i64 11)]) (
 CM.go 286722 [t2, t6, t7, t8]))) (
 CM.go 286722 [t2, t6, t7, t8])
theorem g70_1_ok : EqD (Rl H) g70_1 (fun xs m => goR (EH H) Mk 286721 xs m) := sE fun _ => sE fun _ => sE fun _ => sE fun _ => zE fun _ => goR_eq 400 (by kernel_rfl)
noncomputable def g70_2 : List AV → CM := apS fun t2 => apS fun t6 => apS fun t7 => apS fun t8 => ap0 <|
 CM.pu (p2 (binA Tryz.prog .neq 23) t8 (.int .i64 0)) fun x0 =>
 CM.cond x0 (
 CM.pu (p1 (buildA Tryz.prog 48) []) fun x1 =>
 CM.st (fun m => stV m t2 x1 4) <|
 CM.resC Tryz.prog [ResultVar.cell 0 48, ResultVar.tmp 1, ResultVar.tmp 2] [t2, (.sl none 0 0 0 true), t8]) (
 CM.go 286723 [t2, t6, t7])
theorem g70_2_ok : EqD (Rl H) g70_2 (fun xs m => goR (EH H) Mk 286722 xs m) := sE fun _ => sE fun _ => sE fun _ => sE fun _ => zE fun _ => goR_eq 400 (by kernel_rfl)
noncomputable def g70_3 : List AV → CM := apS fun t2 => apS fun t6 => apS fun t7 => ap0 <|
 CM.rm (q1 (loadA Tryz.prog 48) t6 ) fun x0 =>
 CM.st (fun m => stV m t2 x0 4) <|
 CM.resC Tryz.prog [ResultVar.cell 0 48, ResultVar.tmp 1, ResultVar.tmp 2] [t2, t7, (.int .i64 0)]
theorem g70_3_ok : EqD (Rl H) g70_3 (fun xs m => goR (EH H) Mk 286723 xs m) := sE fun _ => sE fun _ => sE fun _ => zE fun _ => goR_eq 400 (by kernel_rfl)
noncomputable def f70 : List AV → CM := apS fun a0 => ap0 <|
 CM.al (some (.cells [(.sl none 0 0 0 true), (.sl none 0 0 0 true), (.sl none 0 0 0 true), (.int .u64 0)] false, pB)) fun x0 =>
 CM.pu (p1 (lenT Tryz.prog 60) a0) fun x1 =>
 CM.pu (p2 (binA Tryz.prog .gtr 3) x1 (.int .i64 32768)) fun x2 =>
 CM.cond x2 (
 CM.pu (p1 (buildA Tryz.prog 48) []) fun x3 =>
 CM.st (fun m => stV m x0 x3 4) <|
 CM.resC Tryz.prog [ResultVar.cell 0 48, ResultVar.tmp 1, ResultVar.tmp 2] [x0, (.sl none 0 0 0 true), (.int .i64 12)]) (
 CM.go 286720 [a0, x0])
theorem f70_ok (h : H 70 = none) : EqD (Rl H) f70 (fun xs m => run (EH H) (.fn 70) xs m) := sE fun _ => zE fun _ => run_eq 400 h (by kernel_rfl) (by kernel_rfl)
end Go.Proofs.YtpoafkipnjfioaaGreat.T
