/- Functions as trees, printed by our own program (wip/tools/gen3.lean). -/
import Derived.Test.YtpoafkipnjfioaaGreatT0
namespace Go.Proofs.YtpoafkipnjfioaaGreat.T
open Go Go.Abs Go.Proofs.YtpoafkipnjfioaaGreat
set_option maxRecDepth 10000
variable {H : FuncId → Option (List AV → Mem → R)}
noncomputable def g213_0 : List AV → CM := apS fun t8 => ap0 <|
 CM.rm (q1 (loadA Tryz.prog 33) t8 ) fun x0 =>
 CM.call 90 [x0] fun x1 =>
 CM.ret x1
theorem g213_0_ok : EqD (Rl H) g213_0 (fun xs m => goR (EH H) Mk 872448 xs m) := sE fun _ => zE fun _ => goR_eq 400 (by kernel_rfl)
noncomputable def f213 : List AV → CM := apS fun a0 => apS fun a1 => ap0 <|
 CM.al (boxA a0) fun x0 =>
 CM.al (boxA a1) fun x1 =>
 CM.pu (p1 (fun a => fieldAddrA Tryz.prog 35 a 1) x0) fun x2 =>
 CM.rm (q1 (loadA Tryz.prog 3) x2 ) fun x3 =>
 CM.pu (p1 (fun a => fieldAddrA Tryz.prog 35 a 1) x1) fun x4 =>
 CM.rm (q1 (loadA Tryz.prog 3) x4 ) fun x5 =>
 CM.pu (p2 (binA Tryz.prog .sub 3) x3 x5) fun x6 =>
 CM.call 219 [x6] fun x7 =>
 CM.pu (p1 (fun a => extractA a 0) x7) fun x8 =>
 CM.pu (p1 (fun a => extractA a 1) x7) fun _ =>
 CM.al (some (.cells [(.int .i64 0), (.int .u64 0)] false, pB)) fun x10 =>
 CM.st (fun m => stV m x10 x8 2) <|
 CM.pu (p1 (fun a => fieldAddrA Tryz.prog 35 a 0) x0) fun x12 =>
 CM.rm (q1 (loadA Tryz.prog 33) x12 ) fun x13 =>
 CM.rm (q1 (loadA Tryz.prog 33) x10 ) fun x14 =>
 CM.call 234 [x13, x14] fun x15 =>
 CM.pu (p1 (fun a => extractA a 0) x15) fun x16 =>
 CM.pu (p1 (fun a => extractA a 1) x15) fun x17 =>
 CM.pu (p1 (fun a => extractA a 2) x15) fun _ =>
 CM.al (some (.cells [(.int .i64 0), (.int .u64 0)] false, pB)) fun x19 =>
 CM.al (some (.cells [(.int .i64 0), (.int .u64 0)] false, pB)) fun x20 =>
 CM.st (fun m => stV m x19 x16 2) <|
 CM.st (fun m => stV m x20 x17 2) <|
 CM.rm (q1 (loadA Tryz.prog 33) x19 ) fun x23 =>
 CM.pu (p1 (fun a => fieldAddrA Tryz.prog 35 a 0) x1) fun x24 =>
 CM.rm (q1 (loadA Tryz.prog 33) x24 ) fun x25 =>
 CM.call 93 [x23, x25] fun x26 =>
 CM.pu (p2 (binA Tryz.prog .neq 3) x26 (.int .i64 0)) fun x27 =>
 CM.cond x27 (
 CM.ret x26) (
 CM.go 872448 [x20])
theorem f213_ok (h : H 213 = none) : EqD (Rl H) f213 (fun xs m => run (EH H) (.fn 213) xs m) := sE fun _ => sE fun _ => zE fun _ => run_eq 400 h (by kernel_rfl) (by kernel_rfl)
noncomputable def f214 : List AV → CM := apS fun a0 => apS fun a1 => ap0 <|
 CM.pu (p2 (fun a h => sliceA Tryz.prog 45 a none (some h)) a0 a1) fun x0 =>
 CM.call 235 [x0] fun _ =>
 CM.pu (p2 (fun a l => sliceA Tryz.prog 45 a (some l) none) a0 a1) fun x2 =>
 CM.call 235 [x2] fun _ =>
 CM.call 235 [a0] fun _ =>
 CM.ret .undef
theorem f214_ok (h : H 214 = none) : EqD (Rl H) f214 (fun xs m => run (EH H) (.fn 214) xs m) := sE fun _ => sE fun _ => zE fun _ => run_eq 400 h (by kernel_rfl) (by kernel_rfl)
noncomputable def g215_0 : List AV → CM := apS fun t1 => apS fun t2 => apS fun t4 => apS fun t6 => apS fun t7 => ap0 <|
 CM.pu (p2 (binA Tryz.prog .geq 3) t7 (.int .i64 0)) fun x0 =>
 CM.cond x0 (
 CM.go 880641 [t1, t2, t4, t6, t7]) (
 CM.go 880643 [t2, t4, t6])
theorem g215_0_ok : EqD (Rl H) g215_0 (fun xs m => goR (EH H) Mk 880640 xs m) := sE fun _ => sE fun _ => sE fun _ => sE fun _ => sE fun _ => zE fun _ => goR_eq 400 (by kernel_rfl)
noncomputable def g215_1 : List AV → CM := apS fun t1 => apS fun t2 => apS fun t4 => apS fun t6 => apS fun t7 => ap0 <|
 CM.pu (p2 (indexAddrA Tryz.prog 297) t2 t7) fun x0 =>
 CM.rm (q1 (loadA Tryz.prog 28) x0 ) fun x1 =>
 CM.call 236 [t6, x1, t1] fun x2 =>
 CM.pu (p1 (fun a => extractA a 0) x2) fun x3 =>
 CM.pu (p1 (fun a => extractA a 1) x2) fun x4 =>
 CM.pu (p2 (indexAddrA Tryz.prog 297) t2 t7) fun x5 =>
 CM.st (fun m => stV m x5 x3 1) <|
 CM.go 880642 [t1, t2, t4, x4, t7]
theorem g215_1_ok : EqD (Rl H) g215_1 (fun xs m => goR (EH H) Mk 880641 xs m) := sE fun _ => sE fun _ => sE fun _ => sE fun _ => sE fun _ => zE fun _ => goR_eq 400 (by kernel_rfl)
noncomputable def g215_2 : List AV → CM := apS fun t1 => apS fun t2 => apS fun t4 => apS fun t6 => apS fun t7 => ap0 <|
 CM.pu (p2 (binA Tryz.prog .sub 3) t7 (.int .i64 1)) fun x0 =>
 CM.go 880640 [t1, t2, t4, t6, x0]
theorem g215_2_ok : EqD (Rl H) g215_2 (fun xs m => goR (EH H) Mk 880642 xs m) := sE fun _ => sE fun _ => sE fun _ => sE fun _ => sE fun _ => zE fun _ => goR_eq 400 (by kernel_rfl)
noncomputable def g215_3 : List AV → CM := apS fun t2 => apS fun t4 => apS fun t6 => ap0 <|
 CM.rm (q1 (loadA Tryz.prog 297) t2 ) fun x0 =>
 CM.st (fun m => stV m t4 x0 4) <|
 CM.resC Tryz.prog [ResultVar.cell 0 297, ResultVar.tmp 1] [t4, t6]
theorem g215_3_ok : EqD (Rl H) g215_3 (fun xs m => goR (EH H) Mk 880643 xs m) := sE fun _ => sE fun _ => sE fun _ => zE fun _ => goR_eq 400 (by kernel_rfl)
noncomputable def f215 : List AV → CM := apS fun a0 => apS fun a1 => ap0 <|
 CM.al (boxA a0) fun x0 =>
 CM.al (some (.cells [(.int .u64 0), (.int .u64 0), (.int .u64 0), (.int .u64 0)] false, pB)) fun x1 =>
 CM.go 880640 [a1, x0, x1, (.int .u64 0), (.int .i64 3)]
theorem f215_ok (h : H 215 = none) : EqD (Rl H) f215 (fun xs m => run (EH H) (.fn 215) xs m) := sE fun _ => sE fun _ => zE fun _ => run_eq 400 h (by kernel_rfl) (by kernel_rfl)
noncomputable def f216 : List AV → CM := apS fun a0 => apS fun a1 => ap0 <|
 CM.al (boxA a0) fun x0 =>
 CM.al (boxA a1) fun x1 =>
 CM.al (some (.cells [(.int .u64 0), (.int .u64 0), (.int .u64 0), (.int .u64 0)] false, pB)) fun x2 =>
 CM.rm (q1 (loadA Tryz.prog 33) x0 ) fun x3 =>
 CM.call 237 [x3] fun x4 =>
 CM.pu (p1 (fun a => extractA a 0) x4) fun x5 =>
 CM.pu (p1 (fun a => extractA a 1) x4) fun x6 =>
 CM.rm (q1 (loadA Tryz.prog 33) x1 ) fun x7 =>
 CM.call 237 [x7] fun x8 =>
 CM.pu (p1 (fun a => extractA a 0) x8) fun x9 =>
 CM.pu (p1 (fun a => extractA a 1) x8) fun x10 =>
 CM.al (some (.cells [(.int .u64 0), (.int .u64 0), (.int .u64 0), (.int .u64 0)] false, pB)) fun x11 =>
 CM.call 238 [x6, x10] fun x12 =>
 CM.pu (p1 (fun a => extractA a 0) x12) fun x13 =>
 CM.pu (p1 (fun a => extractA a 1) x12) fun x14 =>
 CM.pu (p2 (indexAddrA Tryz.prog 297) x11 (.int .i64 1)) fun x15 =>
 CM.st (fun m => stV m x15 x13 1) <|
 CM.pu (p2 (indexAddrA Tryz.prog 297) x11 (.int .i64 0)) fun x17 =>
 CM.st (fun m => stV m x17 x14 1) <|
 CM.callv (.fn (.func 239) [] [x11]) [x6, x9, (.int .i64 1)] fun _ =>
 CM.callv (.fn (.func 239) [] [x11]) [x5, x10, (.int .i64 1)] fun _ =>
 CM.callv (.fn (.func 239) [] [x11]) [x5, x9, (.int .i64 2)] fun _ =>
 CM.rm (q1 (loadA Tryz.prog 297) x11 ) fun x22 =>
 CM.st (fun m => stV m x2 x22 4) <|
 CM.resC Tryz.prog [ResultVar.cell 0 297] [x2]
theorem f216_ok (h : H 216 = none) : EqD (Rl H) f216 (fun xs m => run (EH H) (.fn 216) xs m) := sE fun _ => sE fun _ => zE fun _ => run_eq 400 h (by kernel_rfl) (by kernel_rfl)
noncomputable def g217_0 : List AV → CM := apS fun t0 => apS fun t3 => ap0 <|
 CM.pu (p2 (binA Tryz.prog .gtr 3) t0 (.int .i64 0)) fun x0 =>
 CM.cond x0 (
 CM.go 888833 [t0, t3]) (
 CM.go 888835 [t3])
theorem g217_0_ok : EqD (Rl H) g217_0 (fun xs m => goR (EH H) Mk 888832 xs m) := sE fun _ => sE fun _ => zE fun _ => goR_eq 400 (by kernel_rfl)
noncomputable def g217_1 : List AV → CM := apS fun t0 => apS fun t3 => ap0 <|
 CM.pu (p2 (binA Tryz.prog .mul 28) t3 (.int .u64 10)) fun x0 =>
 CM.go 888834 [t0, x0]
theorem g217_1_ok : EqD (Rl H) g217_1 (fun xs m => goR (EH H) Mk 888833 xs m) := sE fun _ => sE fun _ => zE fun _ => goR_eq 400 (by kernel_rfl)
noncomputable def g217_2 : List AV → CM := apS fun t0 => apS fun t3 => ap0 <|
 CM.pu (p2 (binA Tryz.prog .sub 3) t0 (.int .i64 1)) fun x0 =>
 CM.go 888832 [x0, t3]
theorem g217_2_ok : EqD (Rl H) g217_2 (fun xs m => goR (EH H) Mk 888834 xs m) := sE fun _ => sE fun _ => zE fun _ => goR_eq 400 (by kernel_rfl)
noncomputable def g217_3 : List AV → CM := apS fun t3 => ap0 <|
 CM.ret t3
theorem g217_3_ok : EqD (Rl H) g217_3 (fun xs m => goR (EH H) Mk 888835 xs m) := sE fun _ => zE fun _ => goR_eq 400 (by kernel_rfl)
noncomputable def f217 : List AV → CM := apS fun a0 => ap0 <|
 CM.go 888832 [a0, (.int .u64 1)]
theorem f217_ok (h : H 217 = none) : EqD (Rl H) f217 (fun xs m => run (EH H) (.fn 217) xs m) := sE fun _ => zE fun _ => run_eq 400 h (by kernel_rfl) (by kernel_rfl)
noncomputable def g218_0 : List AV → CM := apS fun t0 => apS fun t3 => apS fun t4 => ap0 <|
 CM.pu (p2 (indexAddrA Tryz.prog 297) t3 (.int .i64 1)) fun x0 =>
 CM.rm (q1 (loadA Tryz.prog 28) x0 ) fun x1 =>
 CM.pu (p2 (indexAddrA Tryz.prog 297) t3 (.int .i64 0)) fun x2 =>
 CM.rm (q1 (loadA Tryz.prog 28) x2 ) fun x3 =>
 CM.call 240 [t0, x1, x3] fun x4 =>
 CM.pu (p1 (fun a => extractA a 0) x4) fun x5 =>
 CM.pu (p1 (fun a => extractA a 1) x4) fun x6 =>
 CM.st (fun m => stV m t4 x5 2) <|
 CM.resC Tryz.prog [ResultVar.cell 0 33, ResultVar.tmp 1] [t4, x6]
theorem g218_0_ok : EqD (Rl H) g218_0 (fun xs m => goR (EH H) Mk 892928 xs m) := sE fun _ => sE fun _ => sE fun _ => zE fun _ => goR_eq 400 (by kernel_rfl)
noncomputable def f218 : List AV → CM := apS fun a0 => apS fun a1 => ap0 <|
 CM.al (boxA a1) fun x0 =>
 CM.al (some (.cells [(.int .i64 0), (.int .u64 0)] false, pB)) fun x1 =>
 CM.pu (p2 (indexAddrA Tryz.prog 297) x0 (.int .i64 3)) fun x2 =>
 CM.rm (q1 (loadA Tryz.prog 28) x2 ) fun x3 =>
 CM.pu (p2 (binA Tryz.prog .neq 28) x3 (.int .u64 0)) fun x4 =>
 CM.ifv x4 (
 CM.pu (p1 (buildA Tryz.prog 33) []) fun x5 =>
 CM.st (fun m => stV m x1 x5 2) <|
 CM.resC Tryz.prog [ResultVar.cell 0 33, ResultVar.tmp 1] [x1, (.int .i64 20)]) (
 CM.pu (p2 (indexAddrA Tryz.prog 297) x0 (.int .i64 2)) fun x7 =>
 CM.rm (q1 (loadA Tryz.prog 28) x7 ) fun x8 =>
 CM.pu (p2 (binA Tryz.prog .neq 28) x8 (.int .u64 0)) fun x9 =>
 CM.cond x9 (
 CM.pu (p1 (buildA Tryz.prog 33) []) fun x10 =>
 CM.st (fun m => stV m x1 x10 2) <|
 CM.resC Tryz.prog [ResultVar.cell 0 33, ResultVar.tmp 1] [x1, (.int .i64 20)]) (
 CM.go 892928 [a0, x0, x1]))
theorem f218_ok (h : H 218 = none) : EqD (Rl H) f218 (fun xs m => run (EH H) (.fn 218) xs m) := sE fun _ => sE fun _ => zE fun _ => run_eq 400 h (by kernel_rfl) (by kernel_rfl)
noncomputable def g219_0 : List AV → CM := apS fun t0 => apS fun t2 => ap0 <|
 CM.pu (p1 (buildA Tryz.prog 33) [(1, (.int .u64 1))]) fun x0 =>
 CM.al (some (.cells [(.int .i64 0), (.int .u64 0)] false, pB)) fun x1 =>
 CM.st (fun m => stV m x1 x0 2) <|
 CM.go 897025 [t0, t2, x1]
theorem g219_0_ok : EqD (Rl H) g219_0 (fun xs m => goR (EH H) Mk 897024 xs m) := sE fun _ => sE fun _ => zE fun _ => goR_eq 400 (by kernel_rfl)
noncomputable def g219_1 : List AV → CM := apS fun t0 => apS fun t2 => apS fun t4 => ap0 <|
 CM.pu (p2 (binA Tryz.prog .gtr 3) t0 (.int .i64 0)) fun x0 =>
 CM.cond x0 (
 CM.go 897026 [t0, t2, t4]) (
 CM.go 897028 [t2, t4])
theorem g219_1_ok : EqD (Rl H) g219_1 (fun xs m => goR (EH H) Mk 897025 xs m) := sE fun _ => sE fun _ => sE fun _ => zE fun _ => goR_eq 400 (by kernel_rfl)
noncomputable def g219_2 : List AV → CM := apS fun t0 => apS fun t2 => apS fun t4 => ap0 <|
 CM.rm (q1 (loadA Tryz.prog 33) t4 ) fun x0 =>
 CM.pu (p1 (buildA Tryz.prog 33) [(1, (.int .u64 10))]) fun x1 =>
 CM.call 161 [x0, x1] fun x2 =>
 CM.pu (p1 (fun a => extractA a 0) x2) fun x3 =>
 CM.pu (p1 (fun a => extractA a 1) x2) fun _ =>
 CM.st (fun m => stV m t4 x3 2) <|
 CM.go 897027 [t0, t2, t4]
theorem g219_2_ok : EqD (Rl H) g219_2 (fun xs m => goR (EH H) Mk 897026 xs m) := sE fun _ => sE fun _ => sE fun _ => zE fun _ => goR_eq 400 (by kernel_rfl)
noncomputable def g219_3 : List AV → CM := apS fun t0 => apS fun t2 => apS fun t4 => ap0 <|
 CM.pu (p2 (binA Tryz.prog .sub 3) t0 (.int .i64 1)) fun x0 =>
 CM.go 897025 [x0, t2, t4]
theorem g219_3_ok : EqD (Rl H) g219_3 (fun xs m => goR (EH H) Mk 897027 xs m) := sE fun _ => sE fun _ => sE fun _ => zE fun _ => goR_eq 400 (by kernel_rfl)
noncomputable def g219_4 : List AV → CM := apS fun t2 => apS fun t4 => ap0 <|
 CM.rm (q1 (loadA Tryz.prog 33) t4 ) fun x0 =>
 CM.st (fun m => stV m t2 x0 2) <|
 CM.resC Tryz.prog [ResultVar.cell 0 33, ResultVar.tmp 1] [t2, (.int .i64 0)]
theorem g219_4_ok : EqD (Rl H) g219_4 (fun xs m => goR (EH H) Mk 897028 xs m) := sE fun _ => sE fun _ => zE fun _ => goR_eq 400 (by kernel_rfl)
noncomputable def f219 : List AV → CM := apS fun a0 => ap0 <|
 CM.al (some (.cells [(.int .i64 0), (.int .u64 0)] false, pB)) fun x0 =>
 CM.pu (p2 (binA Tryz.prog .lss 3) a0 (.int .i64 0)) fun x1 =>
 CM.ifv x1 (
 CM.pu (p1 (buildA Tryz.prog 33) []) fun x2 =>
 CM.st (fun m => stV m x0 x2 2) <|
 CM.resC Tryz.prog [ResultVar.cell 0 33, ResultVar.tmp 1] [x0, (.int .i64 1)]) (
 CM.pu (p2 (binA Tryz.prog .gtr 3) a0 (.int .i64 38)) fun x4 =>
 CM.cond x4 (
 CM.pu (p1 (buildA Tryz.prog 33) []) fun x5 =>
 CM.st (fun m => stV m x0 x5 2) <|
 CM.resC Tryz.prog [ResultVar.cell 0 33, ResultVar.tmp 1] [x0, (.int .i64 1)]) (
 CM.go 897024 [a0, x0]))
theorem f219_ok (h : H 219 = none) : EqD (Rl H) f219 (fun xs m => run (EH H) (.fn 219) xs m) := sE fun _ => zE fun _ => run_eq 400 h (by kernel_rfl) (by kernel_rfl)
noncomputable def g220_0 : List AV → CM := apS fun t0 => apS fun t1 => apS fun t7 => apS fun t8 => ap0 <|
 CM.pu (p2 (binA Tryz.prog .add 3) t1 t8) fun x0 =>
 CM.pu (p1 (lenT Tryz.prog 60) t0) fun x1 =>
 CM.pu (p2 (binA Tryz.prog .geq 3) x0 x1) fun x2 =>
 CM.cond x2 (
 CM.ret (.tup [(.int .u64 0), (.int .i64 10), (.int .i64 0)])) (
 CM.go 901121 [t0, t1, t7, t8])
theorem g220_0_ok : EqD (Rl H) g220_0 (fun xs m => goR (EH H) Mk 901120 xs m) := sE fun _ => sE fun _ => sE fun _ => sE fun _ => zE fun _ => goR_eq 400 (by kernel_rfl)
noncomputable def g220_1 : List AV → CM := apS fun t0 => apS fun t1 => apS fun t7 => apS fun t8 => ap0 <|
 CM.pu (p2 (binA Tryz.prog .add 3) t1 t8) fun x0 =>
 CM.pu (p2 (indexAddrA Tryz.prog 60) t0 x0) fun x1 =>
 CM.rm (q1 (loadA Tryz.prog 5) x1 ) fun x2 =>
 CM.pu (p2 (binA Tryz.prog .eql 3) t8 (.int .i64 9)) fun x3 =>
 CM.ifv x3 (
 CM.pu (p2 (binA Tryz.prog .gtr 5) x2 (.int .u8 1)) fun x4 =>
 CM.cond x4 (
 CM.ret (.tup [(.int .u64 0), (.int .i64 11), (.int .i64 0)])) (
 CM.go 901122 [t0, t1, t7, t8, x2])) (
 CM.go 901122 [t0, t1, t7, t8, x2])
theorem g220_1_ok : EqD (Rl H) g220_1 (fun xs m => goR (EH H) Mk 901121 xs m) := sE fun _ => sE fun _ => sE fun _ => sE fun _ => zE fun _ => goR_eq 400 (by kernel_rfl)
noncomputable def g220_2 : List AV → CM := apS fun t0 => apS fun t1 => apS fun t7 => apS fun t8 => apS fun t9 => ap0 <|
 CM.pu (p2 (binA Tryz.prog .and 5) t9 (.int .u8 127)) fun x0 =>
 CM.pu (p1 (convA Tryz.prog 5 28) x0) fun x1 =>
 CM.pu (p2 (binA Tryz.prog .mul 3) (.int .i64 7) t8) fun x2 =>
 CM.pu (p1 (convA Tryz.prog 3 160) x2) fun x3 =>
 CM.pu (p2 (binA Tryz.prog .shl 28) x1 x3) fun x4 =>
 CM.pu (p2 (binA Tryz.prog .or 28) t7 x4) fun x5 =>
 CM.pu (p2 (binA Tryz.prog .geq 5) t9 (.int .u8 128)) fun x6 =>
 CM.cond x6 (
 CM.go 901125 [t0, t1, x5, t8]) (
 CM.go 901123 [t1, x5, t8, t9])
theorem g220_2_ok : EqD (Rl H) g220_2 (fun xs m => goR (EH H) Mk 901122 xs m) := sE fun _ => sE fun _ => sE fun _ => sE fun _ => sE fun _ => zE fun _ => goR_eq 400 (by kernel_rfl)
noncomputable def g220_3 : List AV → CM := apS fun t1 => apS fun t7 => apS fun t8 => apS fun t9 => ap0 <|
 CM.pu (p2 (binA Tryz.prog .eql 5) t9 (.int .u8 0)) fun x0 =>
 CM.ifv x0 (
 CM.pu (p2 (binA Tryz.prog .gtr 3) t8 (.int .i64 0)) fun x1 =>
 CM.cond x1 (
 CM.ret (.tup [(.int .u64 0), (.int .i64 11), (.int .i64 0)])) (
 CM.go 901124 [t1, t7, t8])) (
 CM.go 901124 [t1, t7, t8])
theorem g220_3_ok : EqD (Rl H) g220_3 (fun xs m => goR (EH H) Mk 901123 xs m) := sE fun _ => sE fun _ => sE fun _ => sE fun _ => zE fun _ => goR_eq 400 (by kernel_rfl)
noncomputable def g220_4 : List AV → CM := apS fun t1 => apS fun t7 => apS fun t8 => ap0 <|
 CM.pu (p2 (binA Tryz.prog .add 3) t1 t8) fun x0 =>
 CM.pu (p2 (binA Tryz.prog .add 3) x0 (.int .i64 1)) fun x1 =>
 CM.ret (.tup [t7, (.int .i64 0), x1])
theorem g220_4_ok : EqD (Rl H) g220_4 (fun xs m => goR (EH H) Mk 901124 xs m) := sE fun _ => sE fun _ => sE fun _ => zE fun _ => goR_eq 400 (by kernel_rfl)
noncomputable def g220_5 : List AV → CM := apS fun t0 => apS fun t1 => apS fun t7 => apS fun t8 => ap0 <|
 CM.pu (p2 (binA Tryz.prog .add 3) t8 (.int .i64 1)) fun x0 =>
 CM.go 901120 [t0, t1, t7, x0]
theorem g220_5_ok : EqD (Rl H) g220_5 (fun xs m => goR (EH H) Mk 901125 xs m) := sE fun _ => sE fun _ => sE fun _ => sE fun _ => zE fun _ => goR_eq 400 (by kernel_rfl)
noncomputable def f220 : List AV → CM := apS fun a0 => apS fun a1 => ap0 <|
 CM.go 901120 [a0, a1, (.int .u64 0), (.int .i64 0)]
theorem f220_ok (h : H 220 = none) : EqD (Rl H) f220 (fun xs m => run (EH H) (.fn 220) xs m) := sE fun _ => sE fun _ => zE fun _ => run_eq 400 h (by kernel_rfl) (by kernel_rfl)
noncomputable def f221 : List AV → CM := apS fun a0 => ap0 <|
 CM.call 170 [a0, (.int .u64 18446744073709551615)] fun x0 =>
 CM.pu (p2 (binA Tryz.prog .shr 28) x0 (.int .u64 1)) fun x1 =>
 CM.pu (p1 (convA Tryz.prog 28 2) x1) fun x2 =>
 CM.pu (p2 (binA Tryz.prog .and 28) x0 (.int .u64 1)) fun x3 =>
 CM.pu (p1 (convA Tryz.prog 28 2) x3) fun x4 =>
 CM.pu (p1 (unA .neg) x4) fun x5 =>
 CM.pu (p2 (binA Tryz.prog .xor 2) x2 x5) fun x6 =>
 CM.ret x6
theorem f221_ok (h : H 221 = none) : EqD (Rl H) f221 (fun xs m => run (EH H) (.fn 221) xs m) := sE fun _ => zE fun _ => run_eq 400 h (by kernel_rfl) (by kernel_rfl)
noncomputable def f222 : List AV → CM := apS fun a0 => ap0 <|
 CM.pu (p2 (binA Tryz.prog .geq 28) a0 (.int .u64 1)) fun x0 =>
 CM.ifv x0 (
 CM.pu (p2 (binA Tryz.prog .leq 28) a0 (.int .u64 72057594037927935)) fun x1 =>
 CM.ret x1) (
 CM.ret (.bool false))
theorem f222_ok (h : H 222 = none) : EqD (Rl H) f222 (fun xs m => run (EH H) (.fn 222) xs m) := sE fun _ => zE fun _ => run_eq 400 h (by kernel_rfl) (by kernel_rfl)
noncomputable def f224 : List AV → CM := apS fun a0 => apS fun a1 => ap0 <|
 CM.pu (p1 (lenT Tryz.prog 67) a0) fun x0 =>
 CM.pu (p2 (binA Tryz.prog .sub 3) x0 a1) fun x1 =>
 CM.call 241 [a0, x1] fun _ =>
 CM.ret .undef
theorem f224_ok (h : H 224 = none) : EqD (Rl H) f224 (fun xs m => run (EH H) (.fn 224) xs m) := sE fun _ => sE fun _ => zE fun _ => run_eq 400 h (by kernel_rfl) (by kernel_rfl)
noncomputable def g225_0 : List AV → CM := apS fun t0 => apS fun t5 => apS fun t6 => ap0 <|
 CM.pu (p1 nnA t0) fun x0 =>
 CM.pu (p1 (fun a => fieldAddrA Tryz.prog 265 a 0) x0) fun x1 =>
 CM.rm (q1 (loadA Tryz.prog 60) x1 ) fun x2 =>
 CM.pu (p1 (lenT Tryz.prog 60) x2) fun x3 =>
 CM.pu (p1 nnA t0) fun x4 =>
 CM.pu (p1 (fun a => fieldAddrA Tryz.prog 265 a 1) x4) fun x5 =>
 CM.rm (q1 (loadA Tryz.prog 3) x5 ) fun x6 =>
 CM.pu (p2 (binA Tryz.prog .sub 3) x3 x6) fun x7 =>
 CM.pu (p1 (convA Tryz.prog 3 28) x7) fun x8 =>
 CM.pu (p2 (binA Tryz.prog .lss 28) x8 t6) fun x9 =>
 CM.cond x9 (
 CM.pu (p1 nnA t0) fun x10 =>
 CM.pu (p1 (fun a => fieldAddrA Tryz.prog 265 a 1) x10) fun x11 =>
 CM.st (fun m => stV m x11 t5 1) <|
 CM.call 169 [t0, (.int .i64 10)] fun _ =>
 CM.ret (.sl none 0 0 0 true)) (
 CM.go 921601 [t0, t6])
theorem g225_0_ok : EqD (Rl H) g225_0 (fun xs m => goR (EH H) Mk 921600 xs m) := sE fun _ => sE fun _ => sE fun _ => zE fun _ => goR_eq 400 (by kernel_rfl)
noncomputable def g225_1 : List AV → CM := apS fun t0 => apS fun t6 => ap0 <|
 CM.pu (p1 nnA t0) fun x0 =>
 CM.pu (p1 (fun a => fieldAddrA Tryz.prog 265 a 1) x0) fun x1 =>
 CM.rm (q1 (loadA Tryz.prog 3) x1 ) fun x2 =>
 CM.pu (p1 (convA Tryz.prog 28 3) t6) fun x3 =>
 CM.pu (p2 (binA Tryz.prog .add 3) x2 x3) fun x4 =>
 CM.pu (p1 nnA t0) fun x5 =>
 CM.pu (p1 (fun a => fieldAddrA Tryz.prog 265 a 1) x5) fun x6 =>
 CM.st (fun m => stV m x6 x4 1) <|
 CM.al (some (.cells [] false, sB 1 0)) fun x8 =>
 CM.pu (p1 nnA t0) fun x9 =>
 CM.pu (p1 (fun a => fieldAddrA Tryz.prog 265 a 0) x9) fun x10 =>
 CM.rm (q1 (loadA Tryz.prog 60) x10 ) fun x11 =>
 CM.pu (p1 nnA t0) fun x12 =>
 CM.pu (p1 (fun a => fieldAddrA Tryz.prog 265 a 1) x12) fun x13 =>
 CM.rm (q1 (loadA Tryz.prog 3) x13 ) fun x14 =>
 CM.pu (p1 (convA Tryz.prog 28 3) t6) fun x15 =>
 CM.pu (p2 (binA Tryz.prog .sub 3) x14 x15) fun x16 =>
 CM.pu (p1 nnA t0) fun x17 =>
 CM.pu (p1 (fun a => fieldAddrA Tryz.prog 265 a 1) x17) fun x18 =>
 CM.rm (q1 (loadA Tryz.prog 3) x18 ) fun x19 =>
 CM.pu (p3 (fun a l h => sliceA Tryz.prog 60 a (some l) (some h)) x11 x16 x19) fun x20 =>
 CM.ef (apE 1 1 x8 x20) fun x22 =>
 CM.ret x22
theorem g225_1_ok : EqD (Rl H) g225_1 (fun xs m => goR (EH H) Mk 921601 xs m) := sE fun _ => sE fun _ => zE fun _ => goR_eq 400 (by kernel_rfl)
noncomputable def f225 : List AV → CM := apS fun a0 => apS fun a1 => ap0 <|
 CM.pu (p1 nnA a0) fun x0 =>
 CM.pu (p1 (fun a => fieldAddrA Tryz.prog 265 a 1) x0) fun x1 =>
 CM.rm (q1 (loadA Tryz.prog 3) x1 ) fun x2 =>
 CM.pu (p2 maxA a1 (.int .i64 0)) fun x3 =>
 CM.pu (p1 (convA Tryz.prog 3 28) x3) fun x4 =>
 CM.call 170 [a0, x4] fun x5 =>
 CM.pu (p1 nnA a0) fun x6 =>
 CM.pu (p1 (fun a => fieldAddrA Tryz.prog 265 a 2) x6) fun x7 =>
 CM.rm (q1 (loadA Tryz.prog 23) x7 ) fun x8 =>
 CM.pu (p2 (binA Tryz.prog .neq 23) x8 (.int .i64 0)) fun x9 =>
 CM.cond x9 (
 CM.ret (.sl none 0 0 0 true)) (
 CM.go 921600 [a0, x2, x5])
theorem f225_ok (h : H 225 = none) : EqD (Rl H) f225 (fun xs m => run (EH H) (.fn 225) xs m) := sE fun _ => sE fun _ => zE fun _ => run_eq 400 h (by kernel_rfl) (by kernel_rfl)
noncomputable def g226_0 : List AV → CM := apS fun t3 => apS fun t4 => ap0 <|
 CM.pu (p2 (binA Tryz.prog .lss 3) t4 (.int .i64 32768)) fun x0 =>
 CM.ifv x0 (
 CM.call 122 [t3] fun x1 =>
 CM.pu (p2 (binA Tryz.prog .eql 23) x1 (.int .i64 11)) fun x2 =>
 CM.cond x2 (
 CM.go 925697 [t3, t4]) (
 CM.go 925699 [t3])) (
 CM.go 925699 [t3])
theorem g226_0_ok : EqD (Rl H) g226_0 (fun xs m => goR (EH H) Mk 925696 xs m) := sE fun _ => sE fun _ => zE fun _ => goR_eq 400 (by kernel_rfl)
noncomputable def g226_1 : List AV → CM := apS fun t3 => apS fun t4 => ap0 <|
 CM.call 119 [t3, (.int .u8 255)] fun _ =>
 CM.go 925698 [t3, t4]
theorem g226_1_ok : EqD (Rl H) g226_1 (fun xs m => goR (EH H) Mk 925697 xs m) := sE fun _ => sE fun _ => zE fun _ => goR_eq 400 (by kernel_rfl)
noncomputable def g226_2 : List AV → CM := apS fun t3 => apS fun t4 => ap0 <|
 CM.pu (p2 (binA Tryz.prog .add 3) t4 (.int .i64 1)) fun x0 =>
 CM.go 925696 [t3, x0]
theorem g226_2_ok : EqD (Rl H) g226_2 (fun xs m => goR (EH H) Mk 925698 xs m) := sE fun _ => sE fun _ => zE fun _ => goR_eq 400 (by kernel_rfl)
noncomputable def g226_3 : List AV → CM := apS fun t3 => ap0 <|
 CM.call 122 [t3] fun x0 =>
 CM.ret x0
theorem g226_3_ok : EqD (Rl H) g226_3 (fun xs m => goR (EH H) Mk 925699 xs m) := sE fun _ => zE fun _ => goR_eq 400 (by kernel_rfl)
noncomputable def f226 : List AV → CM := apS fun a0 => ap0 <|
 CM.pu (p1 nnA a0) fun x0 =>
 CM.pu (p1 (fun a => fieldAddrA Tryz.prog 231 a 0) x0) fun x1 =>
 CM.rm (q1 (loadA Tryz.prog 216) x1 ) fun x2 =>
 CM.pu (p1 nnA x2) fun x3 =>
 CM.rm (q1 (loadA Tryz.prog 265) x3 ) fun x4 =>
 CM.al (some (.cells [(.sl none 0 0 0 true), (.int .i64 0), (.int .i64 0)] false, pB)) fun x5 =>
 CM.st (fun m => stV m x5 x4 3) <|
 CM.go 925696 [x5, (.int .i64 0)]
theorem f226_ok (h : H 226 = none) : EqD (Rl H) f226 (fun xs m => run (EH H) (.fn 226) xs m) := sE fun _ => zE fun _ => run_eq 400 h (by kernel_rfl) (by kernel_rfl)
noncomputable def g227_0 : List AV → CM := apS fun t2 => apS fun t5 => ap0 <|
 CM.rm (q1 (loadA Tryz.prog 57) t5 ) fun x0 =>
 CM.st (fun m => stV m t2 x0 5) <|
 CM.resC Tryz.prog [ResultVar.cell 0 57, ResultVar.tmp 1] [t2, (.int .i64 0)]
theorem g227_0_ok : EqD (Rl H) g227_0 (fun xs m => goR (EH H) Mk 929792 xs m) := sE fun _ => sE fun _ => zE fun _ => goR_eq 400 (by kernel_rfl)
noncomputable def f227 : List AV → CM := apS fun a0 => ap0 <|
 CM.al (some (.cells [(.int .i64 0), (.int .u64 0), (.int .i64 0), (.int .u64 0), (.int .i64 0)] false, pB)) fun x0 =>
 CM.call 118 [a0] fun x1 =>
 CM.al (some (.cells [(.int .i64 0), (.int .u64 0), (.int .i64 0), (.int .u64 0), (.int .i64 0)] false, pB)) fun x2 =>
 CM.call 119 [x1, (.int .u8 99)] fun x3 =>
 CM.pu (p1 (convA Tryz.prog 5 23) x3) fun x4 =>
 CM.pu (p1 (fun a => fieldAddrA Tryz.prog 57 a 0) x2) fun x5 =>
 CM.st (fun m => stV m x5 x4 1) <|
 CM.call 170 [x1, (.int .u64 18446744073709551615)] fun x7 =>
 CM.pu (p1 (fun a => fieldAddrA Tryz.prog 57 a 1) x2) fun x8 =>
 CM.st (fun m => stV m x8 x7 1) <|
 CM.call 171 [x1] fun x10 =>
 CM.pu (p1 (fun a => fieldAddrA Tryz.prog 57 a 2) x2) fun x11 =>
 CM.st (fun m => stV m x11 x10 3) <|
 CM.call 122 [x1] fun x13 =>
 CM.pu (p2 (binA Tryz.prog .neq 23) x13 (.int .i64 0)) fun x14 =>
 CM.cond x14 (
 CM.pu (p1 (buildA Tryz.prog 57) []) fun x15 =>
 CM.st (fun m => stV m x0 x15 5) <|
 CM.resC Tryz.prog [ResultVar.cell 0 57, ResultVar.tmp 1] [x0, x13]) (
 CM.go 929792 [x0, x2])
theorem f227_ok (h : H 227 = none) : EqD (Rl H) f227 (fun xs m => run (EH H) (.fn 227) xs m) := sE fun _ => zE fun _ => run_eq 400 h (by kernel_rfl) (by kernel_rfl)
noncomputable def f228 : List AV → CM := apS fun a0 => apS fun a1 => ap0 <|
 CM.al (boxA a1) fun x0 =>
 CM.pu (p1 (fun a => fieldAddrA Tryz.prog 35 a 1) x0) fun x1 =>
 CM.rm (q1 (loadA Tryz.prog 3) x1 ) fun x2 =>
 CM.pu (p1 (convA Tryz.prog 3 5) x2) fun x3 =>
 CM.call 193 [a0, x3] fun _ =>
 CM.pu (p1 (fun a => fieldAddrA Tryz.prog 35 a 0) x0) fun x5 =>
 CM.pu (p1 (fun a => fieldAddrA Tryz.prog 33 a 0) x5) fun x6 =>
 CM.rm (q1 (loadA Tryz.prog 2) x6 ) fun x7 =>
 CM.call 188 [a0, x7] fun _ =>
 CM.pu (p1 (fun a => fieldAddrA Tryz.prog 35 a 0) x0) fun x9 =>
 CM.pu (p1 (fun a => fieldAddrA Tryz.prog 33 a 1) x9) fun x10 =>
 CM.rm (q1 (loadA Tryz.prog 28) x10 ) fun x11 =>
 CM.call 189 [a0, x11] fun _ =>
 CM.ret .undef
theorem f228_ok (h : H 228 = none) : EqD (Rl H) f228 (fun xs m => run (EH H) (.fn 228) xs m) := sE fun _ => sE fun _ => zE fun _ => run_eq 400 h (by kernel_rfl) (by kernel_rfl)
noncomputable def g229_0 : List AV → CM := apS fun t0 => ap0 <|
 CM.go 937985 [t0, (.int .i64 0)]
theorem g229_0_ok : EqD (Rl H) g229_0 (fun xs m => goR (EH H) Mk 937984 xs m) := sE fun _ => zE fun _ => goR_eq 400 (by kernel_rfl)
noncomputable def g229_1 : List AV → CM := apS fun t0 => apS fun t3 => ap0 <|
 CM.pu (p2 (binA Tryz.prog .lss 3) t3 (.int .i64 3)) fun x0 =>
 CM.cond x0 (
 CM.go 937986 [t0, t3]) (
 CM.go 937988 [])
theorem g229_1_ok : EqD (Rl H) g229_1 (fun xs m => goR (EH H) Mk 937985 xs m) := sE fun _ => sE fun _ => zE fun _ => goR_eq 400 (by kernel_rfl)
noncomputable def g229_2 : List AV → CM := apS fun t0 => apS fun t3 => ap0 <|
 CM.pu (p2 (indexA Tryz.prog 9) t0 t3) fun x0 =>
 CM.pu (p2 (binA Tryz.prog .lss 5) x0 (.int .u8 65)) fun x1 =>
 CM.ifv x1 (
 CM.ret (.bool false)) (
 CM.pu (p2 (indexA Tryz.prog 9) t0 t3) fun x2 =>
 CM.pu (p2 (binA Tryz.prog .gtr 5) x2 (.int .u8 90)) fun x3 =>
 CM.cond x3 (
 CM.ret (.bool false)) (
 CM.go 937987 [t0, t3]))
theorem g229_2_ok : EqD (Rl H) g229_2 (fun xs m => goR (EH H) Mk 937986 xs m) := sE fun _ => sE fun _ => zE fun _ => goR_eq 400 (by kernel_rfl)
noncomputable def g229_3 : List AV → CM := apS fun t0 => apS fun t3 => ap0 <|
 CM.pu (p2 (binA Tryz.prog .add 3) t3 (.int .i64 1)) fun x0 =>
 CM.go 937985 [t0, x0]
theorem g229_3_ok : EqD (Rl H) g229_3 (fun xs m => goR (EH H) Mk 937987 xs m) := sE fun _ => sE fun _ => zE fun _ => goR_eq 400 (by kernel_rfl)
noncomputable def g229_4 : List AV → CM := ap0 <|
 CM.ret (.bool true)
theorem g229_4_ok : EqD (Rl H) g229_4 (fun xs m => goR (EH H) Mk 937988 xs m) := zE fun _ => goR_eq 400 (by kernel_rfl)
noncomputable def f229 : List AV → CM := apS fun a0 => ap0 <|
 CM.pu (p1 (lenT Tryz.prog 9) a0) fun x0 =>
 CM.pu (p2 (binA Tryz.prog .neq 3) x0 (.int .i64 3)) fun x1 =>
 CM.cond x1 (
 CM.ret (.bool false)) (
 CM.go 937984 [a0])
theorem f229_ok (h : H 229 = none) : EqD (Rl H) f229 (fun xs m => run (EH H) (.fn 229) xs m) := sE fun _ => zE fun _ => run_eq 400 h (by kernel_rfl) (by kernel_rfl)
noncomputable def g230_0 : List AV → CM := apS fun t0 => apS fun t2 => apS fun t3 => ap0 <|
 CM.pu (p2 (binA Tryz.prog .lss 3) t2 t3) fun x0 =>
 CM.cond x0 (
 CM.go 942081 [t0, t2, t3]) (
 CM.ret .undef)
theorem g230_0_ok : EqD (Rl H) g230_0 (fun xs m => goR (EH H) Mk 942080 xs m) := sE fun _ => sE fun _ => sE fun _ => zE fun _ => goR_eq 400 (by kernel_rfl)
noncomputable def g230_1 : List AV → CM := apS fun t0 => apS fun t2 => apS fun t3 => ap0 <|
 CM.pu (p2 (indexAddrA Tryz.prog 169) t0 t3) fun x0 =>
 CM.rm (q1 (loadA Tryz.prog 9) x0 ) fun x1 =>
 CM.pu (p2 (indexAddrA Tryz.prog 169) t0 t2) fun x2 =>
 CM.rm (q1 (loadA Tryz.prog 9) x2 ) fun x3 =>
 CM.pu (p2 (indexAddrA Tryz.prog 169) t0 t2) fun x4 =>
 CM.st (fun m => stV m x4 x1 1) <|
 CM.pu (p2 (indexAddrA Tryz.prog 169) t0 t3) fun x8 =>
 CM.st (fun m => stV m x8 x3 1) <|
 CM.go 942082 [t0, t2, t3]
theorem g230_1_ok : EqD (Rl H) g230_1 (fun xs m => goR (EH H) Mk 942081 xs m) := sE fun _ => sE fun _ => sE fun _ => zE fun _ => goR_eq 400 (by kernel_rfl)
noncomputable def g230_2 : List AV → CM := apS fun t0 => apS fun t2 => apS fun t3 => ap0 <|
 CM.pu (p2 (binA Tryz.prog .add 3) t2 (.int .i64 1)) fun x0 =>
 CM.pu (p2 (binA Tryz.prog .sub 3) t3 (.int .i64 1)) fun x1 =>
 CM.go 942080 [t0, x0, x1]
theorem g230_2_ok : EqD (Rl H) g230_2 (fun xs m => goR (EH H) Mk 942082 xs m) := sE fun _ => sE fun _ => sE fun _ => zE fun _ => goR_eq 400 (by kernel_rfl)
noncomputable def f230 : List AV → CM := apS fun a0 => ap0 <|
 CM.pu (p1 (lenT Tryz.prog 169) a0) fun x0 =>
 CM.pu (p2 (binA Tryz.prog .sub 3) x0 (.int .i64 1)) fun x1 =>
 CM.go 942080 [a0, (.int .i64 0), x1]
theorem f230_ok (h : H 230 = none) : EqD (Rl H) f230 (fun xs m => run (EH H) (.fn 230) xs m) := sE fun _ => zE fun _ => run_eq 400 h (by kernel_rfl) (by kernel_rfl)
noncomputable def g231_0 : List AV → CM := apS fun t0 => apS fun t2 => apS fun t3 => ap0 <|
 CM.pu (p2 (binA Tryz.prog .lss 3) t2 t3) fun x0 =>
 CM.cond x0 (
 CM.go 946177 [t0, t2, t3]) (
 CM.ret .undef)
theorem g231_0_ok : EqD (Rl H) g231_0 (fun xs m => goR (EH H) Mk 946176 xs m) := sE fun _ => sE fun _ => sE fun _ => zE fun _ => goR_eq 400 (by kernel_rfl)
noncomputable def g231_1 : List AV → CM := apS fun t0 => apS fun t2 => apS fun t3 => ap0 <|
 CM.pu (p2 (indexAddrA Tryz.prog 44) t0 t3) fun x0 =>
 CM.rm (q1 (loadA Tryz.prog 92) x0 ) fun x1 =>
 CM.pu (p2 (indexAddrA Tryz.prog 44) t0 t2) fun x2 =>
 CM.rm (q1 (loadA Tryz.prog 92) x2 ) fun x3 =>
 CM.pu (p2 (indexAddrA Tryz.prog 44) t0 t2) fun x4 =>
 CM.st (fun m => stV m x4 x1 4) <|
 CM.pu (p2 (indexAddrA Tryz.prog 44) t0 t3) fun x8 =>
 CM.st (fun m => stV m x8 x3 4) <|
 CM.go 946178 [t0, t2, t3]
theorem g231_1_ok : EqD (Rl H) g231_1 (fun xs m => goR (EH H) Mk 946177 xs m) := sE fun _ => sE fun _ => sE fun _ => zE fun _ => goR_eq 400 (by kernel_rfl)
noncomputable def g231_2 : List AV → CM := apS fun t0 => apS fun t2 => apS fun t3 => ap0 <|
 CM.pu (p2 (binA Tryz.prog .add 3) t2 (.int .i64 1)) fun x0 =>
 CM.pu (p2 (binA Tryz.prog .sub 3) t3 (.int .i64 1)) fun x1 =>
 CM.go 946176 [t0, x0, x1]
theorem g231_2_ok : EqD (Rl H) g231_2 (fun xs m => goR (EH H) Mk 946178 xs m) := sE fun _ => sE fun _ => sE fun _ => zE fun _ => goR_eq 400 (by kernel_rfl)
noncomputable def f231 : List AV → CM := apS fun a0 => ap0 <|
 CM.pu (p1 (lenT Tryz.prog 44) a0) fun x0 =>
 CM.pu (p2 (binA Tryz.prog .sub 3) x0 (.int .i64 1)) fun x1 =>
 CM.go 946176 [a0, (.int .i64 0), x1]
theorem f231_ok (h : H 231 = none) : EqD (Rl H) f231 (fun xs m => run (EH H) (.fn 231) xs m) := sE fun _ => zE fun _ => run_eq 400 h (by kernel_rfl) (by kernel_rfl)
noncomputable def g232_0 : List AV → CM := apS fun t0 => apS fun t2 => apS fun t3 => ap0 <|
 CM.pu (p2 (binA Tryz.prog .lss 3) t2 t3) fun x0 =>
 CM.cond x0 (
 CM.go 950273 [t0, t2, t3]) (
 CM.ret .undef)
theorem g232_0_ok : EqD (Rl H) g232_0 (fun xs m => goR (EH H) Mk 950272 xs m) := sE fun _ => sE fun _ => sE fun _ => zE fun _ => goR_eq 400 (by kernel_rfl)
noncomputable def g232_1 : List AV → CM := apS fun t0 => apS fun t2 => apS fun t3 => ap0 <|
 CM.pu (p2 (indexAddrA Tryz.prog 139) t0 t3) fun x0 =>
 CM.rm (q1 (loadA Tryz.prog 28) x0 ) fun x1 =>
 CM.pu (p2 (indexAddrA Tryz.prog 139) t0 t2) fun x2 =>
 CM.rm (q1 (loadA Tryz.prog 28) x2 ) fun x3 =>
 CM.pu (p2 (indexAddrA Tryz.prog 139) t0 t2) fun x4 =>
 CM.st (fun m => stV m x4 x1 1) <|
 CM.pu (p2 (indexAddrA Tryz.prog 139) t0 t3) fun x8 =>
 CM.st (fun m => stV m x8 x3 1) <|
 CM.go 950274 [t0, t2, t3]
theorem g232_1_ok : EqD (Rl H) g232_1 (fun xs m => goR (EH H) Mk 950273 xs m) := sE fun _ => sE fun _ => sE fun _ => zE fun _ => goR_eq 400 (by kernel_rfl)
noncomputable def g232_2 : List AV → CM := apS fun t0 => apS fun t2 => apS fun t3 => ap0 <|
 CM.pu (p2 (binA Tryz.prog .add 3) t2 (.int .i64 1)) fun x0 =>
 CM.pu (p2 (binA Tryz.prog .sub 3) t3 (.int .i64 1)) fun x1 =>
 CM.go 950272 [t0, x0, x1]
theorem g232_2_ok : EqD (Rl H) g232_2 (fun xs m => goR (EH H) Mk 950274 xs m) := sE fun _ => sE fun _ => sE fun _ => zE fun _ => goR_eq 400 (by kernel_rfl)
noncomputable def f232 : List AV → CM := apS fun a0 => ap0 <|
 CM.pu (p1 (lenT Tryz.prog 139) a0) fun x0 =>
 CM.pu (p2 (binA Tryz.prog .sub 3) x0 (.int .i64 1)) fun x1 =>
 CM.go 950272 [a0, (.int .i64 0), x1]
theorem f232_ok (h : H 232 = none) : EqD (Rl H) f232 (fun xs m => run (EH H) (.fn 232) xs m) := sE fun _ => zE fun _ => run_eq 400 h (by kernel_rfl) (by kernel_rfl)
noncomputable def g233_0 : List AV → CM := apS fun t0 => apS fun t2 => apS fun t3 => ap0 <|
 CM.pu (p2 (binA Tryz.prog .lss 3) t2 t3) fun x0 =>
 CM.cond x0 (
 CM.go 954369 [t0, t2, t3]) (
 CM.ret .undef)
theorem g233_0_ok : EqD (Rl H) g233_0 (fun xs m => goR (EH H) Mk 954368 xs m) := sE fun _ => sE fun _ => sE fun _ => zE fun _ => goR_eq 400 (by kernel_rfl)
noncomputable def g233_1 : List AV → CM := apS fun t0 => apS fun t2 => apS fun t3 => ap0 <|
 CM.pu (p2 (indexAddrA Tryz.prog 46) t0 t3) fun x0 =>
 CM.rm (q1 (loadA Tryz.prog 100) x0 ) fun x1 =>
 CM.pu (p2 (indexAddrA Tryz.prog 46) t0 t2) fun x2 =>
 CM.rm (q1 (loadA Tryz.prog 100) x2 ) fun x3 =>
 CM.pu (p2 (indexAddrA Tryz.prog 46) t0 t2) fun x4 =>
 CM.st (fun m => stV m x4 x1 4) <|
 CM.pu (p2 (indexAddrA Tryz.prog 46) t0 t3) fun x8 =>
 CM.st (fun m => stV m x8 x3 4) <|
 CM.go 954370 [t0, t2, t3]
theorem g233_1_ok : EqD (Rl H) g233_1 (fun xs m => goR (EH H) Mk 954369 xs m) := sE fun _ => sE fun _ => sE fun _ => zE fun _ => goR_eq 400 (by kernel_rfl)
noncomputable def g233_2 : List AV → CM := apS fun t0 => apS fun t2 => apS fun t3 => ap0 <|
 CM.pu (p2 (binA Tryz.prog .add 3) t2 (.int .i64 1)) fun x0 =>
 CM.pu (p2 (binA Tryz.prog .sub 3) t3 (.int .i64 1)) fun x1 =>
 CM.go 954368 [t0, x0, x1]
theorem g233_2_ok : EqD (Rl H) g233_2 (fun xs m => goR (EH H) Mk 954370 xs m) := sE fun _ => sE fun _ => sE fun _ => zE fun _ => goR_eq 400 (by kernel_rfl)
noncomputable def f233 : List AV → CM := apS fun a0 => ap0 <|
 CM.pu (p1 (lenT Tryz.prog 46) a0) fun x0 =>
 CM.pu (p2 (binA Tryz.prog .sub 3) x0 (.int .i64 1)) fun x1 =>
 CM.go 954368 [a0, (.int .i64 0), x1]
theorem f233_ok (h : H 233 = none) : EqD (Rl H) f233 (fun xs m => run (EH H) (.fn 233) xs m) := sE fun _ => zE fun _ => run_eq 400 h (by kernel_rfl) (by kernel_rfl)
noncomputable def g234_0 : List AV → CM := apS fun t2 => apS fun t3 => apS fun t4 => apS fun t5 => ap0 <|
 CM.rm (q1 (loadA Tryz.prog 33) t2 ) fun x0 =>
 CM.call 237 [x0] fun x1 =>
 CM.pu (p1 (fun a => extractA a 0) x1) fun x2 =>
 CM.pu (p1 (fun a => extractA a 1) x1) fun x3 =>
 CM.rm (q1 (loadA Tryz.prog 33) t3 ) fun x4 =>
 CM.call 237 [x4] fun x5 =>
 CM.pu (p1 (fun a => extractA a 0) x5) fun x6 =>
 CM.pu (p1 (fun a => extractA a 1) x5) fun x7 =>
 CM.pu (p2 (binA Tryz.prog .eql 28) x6 (.int .u64 0)) fun x8 =>
 CM.cond x8 (
 CM.pu (p2 (binA Tryz.prog .quo 28) x2 x7) fun x9 =>
 CM.pu (p2 (binA Tryz.prog .rem 28) x2 x7) fun x10 =>
 CM.call 236 [x10, x3, x7] fun x11 =>
 CM.pu (p1 (fun a => extractA a 0) x11) fun x12 =>
 CM.pu (p1 (fun a => extractA a 1) x11) fun x13 =>
 CM.go 958468 [t2, t3, t4, t5, x9, x12, (.int .u64 0), x13]) (
 CM.call 242 [x6] fun x14 =>
 CM.go 958465 [t2, t3, t4, t5, x6, x7, (.int .u64 0), (.int .u64 0), x2, x3, x14])
theorem g234_0_ok : EqD (Rl H) g234_0 (fun xs m => goR (EH H) Mk 958464 xs m) := sE fun _ => sE fun _ => sE fun _ => sE fun _ => zE fun _ => goR_eq 400 (by kernel_rfl)
noncomputable def g234_1 : List AV → CM := apS fun t2 => apS fun t3 => apS fun t4 => apS fun t5 => apS fun t9 => apS fun t10 => apS fun t11 => apS fun t12 => apS fun t13 => apS fun t14 => apS fun t15 => ap0 <|
 CM.pu (p2 (binA Tryz.prog .geq 3) t15 (.int .i64 0)) fun x0 =>
 CM.cond x0 (
 CM.go 958466 [t2, t3, t4, t5, t9, t10, t11, t12, t13, t14, t15]) (
 CM.go 958468 [t2, t3, t4, t5, t11, t12, t13, t14])
theorem g234_1_ok : EqD (Rl H) g234_1 (fun xs m => goR (EH H) Mk 958465 xs m) := sE fun _ => sE fun _ => sE fun _ => sE fun _ => sE fun _ => sE fun _ => sE fun _ => sE fun _ => sE fun _ => sE fun _ => sE fun _ => zE fun _ => goR_eq 400 (by kernel_rfl)
noncomputable def g234_2 : List AV → CM := apS fun t2 => apS fun t3 => apS fun t4 => apS fun t5 => apS fun t9 => apS fun t10 => apS fun t11 => apS fun t12 => apS fun t13 => apS fun t14 => apS fun t15 => ap0 <|
 CM.pu (p2 (binA Tryz.prog .shl 28) t9 t15) fun x0 =>
 CM.pu (p2 (binA Tryz.prog .shr 28) t10 (.int .u64 1)) fun x1 =>
 CM.pu (p2 (binA Tryz.prog .sub 3) (.int .i64 63) t15) fun x2 =>
 CM.pu (p2 (binA Tryz.prog .shr 28) x1 x2) fun x3 =>
 CM.pu (p2 (binA Tryz.prog .or 28) x0 x3) fun x4 =>
 CM.pu (p2 (binA Tryz.prog .shl 28) t10 t15) fun x5 =>
 CM.pu (p2 (binA Tryz.prog .gtr 28) t13 x4) fun x6 =>
 CM.ifv x6 (
 CM.call 154 [t14, x5, (.int .u64 0)] fun x7 =>
 CM.pu (p1 (fun a => extractA a 0) x7) fun x8 =>
 CM.pu (p1 (fun a => extractA a 1) x7) fun x9 =>
 CM.call 154 [t13, x4, x9] fun x10 =>
 CM.pu (p1 (fun a => extractA a 0) x10) fun x11 =>
 CM.pu (p1 (fun a => extractA a 1) x10) fun _ =>
 CM.pu (p2 (binA Tryz.prog .shl 28) (.int .u64 1) t15) fun x13 =>
 CM.pu (p2 (binA Tryz.prog .or 28) t12 x13) fun x14 =>
 CM.go 958467 [t2, t3, t4, t5, t9, t10, t11, x14, x11, x8, t15]) (
 CM.pu (p2 (binA Tryz.prog .eql 28) t13 x4) fun x15 =>
 CM.ifv x15 (
 CM.pu (p2 (binA Tryz.prog .geq 28) t14 x5) fun x16 =>
 CM.cond x16 (
 CM.call 154 [t14, x5, (.int .u64 0)] fun x17 =>
 CM.pu (p1 (fun a => extractA a 0) x17) fun x18 =>
 CM.pu (p1 (fun a => extractA a 1) x17) fun x19 =>
 CM.call 154 [t13, x4, x19] fun x20 =>
 CM.pu (p1 (fun a => extractA a 0) x20) fun x21 =>
 CM.pu (p1 (fun a => extractA a 1) x20) fun _ =>
 CM.pu (p2 (binA Tryz.prog .shl 28) (.int .u64 1) t15) fun x23 =>
 CM.pu (p2 (binA Tryz.prog .or 28) t12 x23) fun x24 =>
 CM.go 958467 [t2, t3, t4, t5, t9, t10, t11, x24, x21, x18, t15]) (
 CM.go 958467 [t2, t3, t4, t5, t9, t10, t11, t12, t13, t14, t15])) (
 CM.go 958467 [t2, t3, t4, t5, t9, t10, t11, t12, t13, t14, t15]))
theorem g234_2_ok : EqD (Rl H) g234_2 (fun xs m => goR (EH H) Mk 958466 xs m) := sE fun _ => sE fun _ => sE fun _ => sE fun _ => sE fun _ => sE fun _ => sE fun _ => sE fun _ => sE fun _ => sE fun _ => sE fun _ => zE fun _ => goR_eq 400 (by kernel_rfl)
noncomputable def g234_3 : List AV → CM := apS fun t2 => apS fun t3 => apS fun t4 => apS fun t5 => apS fun t9 => apS fun t10 => apS fun t11 => apS fun t12 => apS fun t13 => apS fun t14 => apS fun t15 => ap0 <|
 CM.pu (p2 (binA Tryz.prog .sub 3) t15 (.int .i64 1)) fun x0 =>
 CM.go 958465 [t2, t3, t4, t5, t9, t10, t11, t12, t13, t14, x0]
theorem g234_3_ok : EqD (Rl H) g234_3 (fun xs m => goR (EH H) Mk 958467 xs m) := sE fun _ => sE fun _ => sE fun _ => sE fun _ => sE fun _ => sE fun _ => sE fun _ => sE fun _ => sE fun _ => sE fun _ => sE fun _ => zE fun _ => goR_eq 400 (by kernel_rfl)
noncomputable def g234_4 : List AV → CM := apS fun t2 => apS fun t3 => apS fun t4 => apS fun t5 => apS fun t11 => apS fun t12 => apS fun t13 => apS fun t14 => ap0 <|
 CM.pu (p1 (fun a => fieldAddrA Tryz.prog 33 a 0) t2) fun x0 =>
 CM.rm (q1 (loadA Tryz.prog 2) x0 ) fun x1 =>
 CM.pu (p2 (binA Tryz.prog .lss 2) x1 (.int .i64 0)) fun x2 =>
 CM.pu (p1 (fun a => fieldAddrA Tryz.prog 33 a 0) t3) fun x3 =>
 CM.rm (q1 (loadA Tryz.prog 2) x3 ) fun x4 =>
 CM.pu (p2 (binA Tryz.prog .lss 2) x4 (.int .i64 0)) fun x5 =>
 CM.pu (p2 (binA Tryz.prog .neq 4) x2 x5) fun x6 =>
 CM.call 240 [x6, t11, t12] fun x7 =>
 CM.pu (p1 (fun a => extractA a 0) x7) fun x8 =>
 CM.pu (p1 (fun a => extractA a 1) x7) fun x9 =>
 CM.st (fun m => stV m t4 x8 2) <|
 CM.pu (p2 (binA Tryz.prog .neq 23) x9 (.int .i64 0)) fun x11 =>
 CM.cond x11 (
 CM.pu (p1 (buildA Tryz.prog 33) []) fun x12 =>
 CM.pu (p1 (buildA Tryz.prog 33) []) fun x13 =>
 CM.st (fun m => stV m t4 x12 2) <|
 CM.st (fun m => stV m t5 x13 2) <|
 CM.resC Tryz.prog [ResultVar.cell 0 33, ResultVar.cell 1 33, ResultVar.tmp 2] [t4, t5, x9]) (
 CM.go 958469 [t2, t4, t5, t13, t14])
theorem g234_4_ok : EqD (Rl H) g234_4 (fun xs m => goR (EH H) Mk 958468 xs m) := sE fun _ => sE fun _ => sE fun _ => sE fun _ => sE fun _ => sE fun _ => sE fun _ => sE fun _ => zE fun _ => goR_eq 400 (by kernel_rfl)
noncomputable def g234_5 : List AV → CM := apS fun t2 => apS fun t4 => apS fun t5 => apS fun t13 => apS fun t14 => ap0 <|
 CM.pu (p1 (fun a => fieldAddrA Tryz.prog 33 a 0) t2) fun x0 =>
 CM.rm (q1 (loadA Tryz.prog 2) x0 ) fun x1 =>
 CM.pu (p2 (binA Tryz.prog .lss 2) x1 (.int .i64 0)) fun x2 =>
 CM.call 240 [x2, t13, t14] fun x3 =>
 CM.pu (p1 (fun a => extractA a 0) x3) fun x4 =>
 CM.pu (p1 (fun a => extractA a 1) x3) fun _ =>
 CM.st (fun m => stV m t5 x4 2) <|
 CM.rm (q1 (loadA Tryz.prog 33) t4 ) fun x7 =>
 CM.rm (q1 (loadA Tryz.prog 33) t5 ) fun x8 =>
 CM.st (fun m => stV m t4 x7 2) <|
 CM.memo fun m11 =>
 CM.chk (q1 (loadA Tryz.prog 33) t5 m11) x8 <|
 CM.st (fun m => stV m t5 x8 2) <|
 CM.resC Tryz.prog [ResultVar.cell 0 33, ResultVar.cell 1 33, ResultVar.tmp 2] [t4, t5, (.int .i64 0)]
theorem g234_5_ok : EqD (Rl H) g234_5 (fun xs m => goR (EH H) Mk 958469 xs m) := sE fun _ => sE fun _ => sE fun _ => sE fun _ => sE fun _ => zE fun _ => goR_eq 400 (by kernel_rfl)
noncomputable def f234 : List AV → CM := apS fun a0 => apS fun a1 => ap0 <|
 CM.al (boxA a0) fun x0 =>
 CM.al (boxA a1) fun x1 =>
 CM.al (some (.cells [(.int .i64 0), (.int .u64 0)] false, pB)) fun x2 =>
 CM.al (some (.cells [(.int .i64 0), (.int .u64 0)] false, pB)) fun x3 =>
 CM.rm (q1 (loadA Tryz.prog 33) x1 ) fun x4 =>
 CM.pu (p1 (buildA Tryz.prog 33) []) fun x5 =>
 CM.pu (p2 (binA Tryz.prog .eql 33) x4 x5) fun x6 =>
 CM.cond x6 (
 CM.rm (q1 (loadA Tryz.prog 33) x2 ) fun x7 =>
 CM.rm (q1 (loadA Tryz.prog 33) x3 ) fun x8 =>
 CM.st (fun m => stV m x2 x7 2) <|
 CM.memo fun m11 =>
 CM.chk (q1 (loadA Tryz.prog 33) x3 m11) x8 <|
 CM.st (fun m => stV m x3 x8 2) <|
 CM.resC Tryz.prog [ResultVar.cell 0 33, ResultVar.cell 1 33, ResultVar.tmp 2] [x2, x3, (.int .i64 22)]) (
 CM.go 958464 [x0, x1, x2, x3])
theorem f234_ok (h : H 234 = none) : EqD (Rl H) f234 (fun xs m => run (EH H) (.fn 234) xs m) := sE fun _ => sE fun _ => zE fun _ => run_eq 400 h (by kernel_rfl) (by kernel_rfl)
noncomputable def g235_0 : List AV → CM := apS fun t0 => apS fun t2 => apS fun t3 => ap0 <|
 CM.pu (p2 (binA Tryz.prog .lss 3) t2 t3) fun x0 =>
 CM.cond x0 (
 CM.go 962561 [t0, t2, t3]) (
 CM.ret .undef)
theorem g235_0_ok : EqD (Rl H) g235_0 (fun xs m => goR (EH H) Mk 962560 xs m) := sE fun _ => sE fun _ => sE fun _ => zE fun _ => goR_eq 400 (by kernel_rfl)
noncomputable def g235_1 : List AV → CM := apS fun t0 => apS fun t2 => apS fun t3 => ap0 <|
 CM.pu (p2 (indexAddrA Tryz.prog 45) t0 t3) fun x0 =>
 CM.rm (q1 (loadA Tryz.prog 96) x0 ) fun x1 =>
 CM.pu (p2 (indexAddrA Tryz.prog 45) t0 t2) fun x2 =>
 CM.rm (q1 (loadA Tryz.prog 96) x2 ) fun x3 =>
 CM.pu (p2 (indexAddrA Tryz.prog 45) t0 t2) fun x4 =>
 CM.st (fun m => stV m x4 x1 9) <|
 CM.pu (p2 (indexAddrA Tryz.prog 45) t0 t3) fun x8 =>
 CM.st (fun m => stV m x8 x3 9) <|
 CM.go 962562 [t0, t2, t3]
theorem g235_1_ok : EqD (Rl H) g235_1 (fun xs m => goR (EH H) Mk 962561 xs m) := sE fun _ => sE fun _ => sE fun _ => zE fun _ => goR_eq 400 (by kernel_rfl)
noncomputable def g235_2 : List AV → CM := apS fun t0 => apS fun t2 => apS fun t3 => ap0 <|
 CM.pu (p2 (binA Tryz.prog .add 3) t2 (.int .i64 1)) fun x0 =>
 CM.pu (p2 (binA Tryz.prog .sub 3) t3 (.int .i64 1)) fun x1 =>
 CM.go 962560 [t0, x0, x1]
theorem g235_2_ok : EqD (Rl H) g235_2 (fun xs m => goR (EH H) Mk 962562 xs m) := sE fun _ => sE fun _ => sE fun _ => zE fun _ => goR_eq 400 (by kernel_rfl)
noncomputable def f235 : List AV → CM := apS fun a0 => ap0 <|
 CM.pu (p1 (lenT Tryz.prog 45) a0) fun x0 =>
 CM.pu (p2 (binA Tryz.prog .sub 3) x0 (.int .i64 1)) fun x1 =>
 CM.go 962560 [a0, (.int .i64 0), x1]
theorem f235_ok (h : H 235 = none) : EqD (Rl H) f235 (fun xs m => run (EH H) (.fn 235) xs m) := sE fun _ => zE fun _ => run_eq 400 h (by kernel_rfl) (by kernel_rfl)
noncomputable def g236_0 : List AV → CM := apS fun t0 => apS fun t1 => apS fun t2 => ap0 <|
 CM.pu (p2 (binA Tryz.prog .leq 28) t2 t0) fun x0 =>
 CM.cond x0 (
 CM.rm (q1 (loadA Tryz.prog 328) (.ptr (some ⟨1, 0⟩)) ) fun _ =>
 CM.fail) (
 CM.go 966657 [t0, t1, t2])
theorem g236_0_ok : EqD (Rl H) g236_0 (fun xs m => goR (EH H) Mk 966656 xs m) := sE fun _ => sE fun _ => sE fun _ => zE fun _ => goR_eq 400 (by kernel_rfl)
noncomputable def g236_1 : List AV → CM := apS fun t0 => apS fun t1 => apS fun t2 => ap0 <|
 CM.pu (p2 (binA Tryz.prog .eql 28) t0 (.int .u64 0)) fun x0 =>
 CM.cond x0 (
 CM.pu (p2 (binA Tryz.prog .quo 28) t1 t2) fun x1 =>
 CM.pu (p2 (binA Tryz.prog .rem 28) t1 t2) fun x2 =>
 CM.ret (.tup [x1, x2])) (
 CM.go 966658 [t0, t1, t2])
theorem g236_1_ok : EqD (Rl H) g236_1 (fun xs m => goR (EH H) Mk 966657 xs m) := sE fun _ => sE fun _ => sE fun _ => zE fun _ => goR_eq 400 (by kernel_rfl)
noncomputable def g236_2 : List AV → CM := apS fun t0 => apS fun t1 => apS fun t2 => ap0 <|
 CM.call 242 [t2] fun x0 =>
 CM.pu (p1 (convA Tryz.prog 3 160) x0) fun x1 =>
 CM.pu (p2 (binA Tryz.prog .shl 28) t2 x1) fun x2 =>
 CM.pu (p2 (binA Tryz.prog .shr 28) x2 (.int .u64 32)) fun x3 =>
 CM.pu (p2 (binA Tryz.prog .and 28) x2 (.int .u64 4294967295)) fun x4 =>
 CM.pu (p2 (binA Tryz.prog .shl 28) t0 x1) fun x5 =>
 CM.pu (p2 (binA Tryz.prog .sub 160) (.int .u64 64) x1) fun x6 =>
 CM.pu (p2 (binA Tryz.prog .shr 28) t1 x6) fun x7 =>
 CM.pu (p2 (binA Tryz.prog .or 28) x5 x7) fun x8 =>
 CM.pu (p2 (binA Tryz.prog .shl 28) t1 x1) fun x9 =>
 CM.pu (p2 (binA Tryz.prog .shr 28) x9 (.int .u64 32)) fun x10 =>
 CM.pu (p2 (binA Tryz.prog .and 28) x9 (.int .u64 4294967295)) fun x11 =>
 CM.pu (p2 (binA Tryz.prog .quo 28) x8 x3) fun x12 =>
 CM.pu (p2 (binA Tryz.prog .mul 28) x12 x3) fun x13 =>
 CM.pu (p2 (binA Tryz.prog .sub 28) x8 x13) fun x14 =>
 CM.go 966659 [x2, x1, x3, x4, x8, x10, x11, x12, x14]
theorem g236_2_ok : EqD (Rl H) g236_2 (fun xs m => goR (EH H) Mk 966658 xs m) := sE fun _ => sE fun _ => sE fun _ => zE fun _ => goR_eq 400 (by kernel_rfl)
noncomputable def g236_3 : List AV → CM := apS fun t2 => apS fun t8 => apS fun t9 => apS fun t10 => apS fun t11 => apS fun t13 => apS fun t14 => apS fun t15 => apS fun t16 => ap0 <|
 CM.pu (p2 (binA Tryz.prog .geq 28) t15 (.int .u64 4294967296)) fun x0 =>
 CM.ifv x0 (
 CM.go 966660 [t2, t8, t9, t10, t11, t13, t14, t15, t16]) (
 CM.pu (p2 (binA Tryz.prog .mul 28) t15 t10) fun x1 =>
 CM.pu (p2 (binA Tryz.prog .mul 28) (.int .u64 4294967296) t16) fun x2 =>
 CM.pu (p2 (binA Tryz.prog .add 28) x2 t13) fun x3 =>
 CM.pu (p2 (binA Tryz.prog .gtr 28) x1 x3) fun x4 =>
 CM.cond x4 (
 CM.go 966660 [t2, t8, t9, t10, t11, t13, t14, t15, t16]) (
 CM.go 966661 [t2, t8, t9, t10, t11, t13, t14, t15]))
theorem g236_3_ok : EqD (Rl H) g236_3 (fun xs m => goR (EH H) Mk 966659 xs m) := sE fun _ => sE fun _ => sE fun _ => sE fun _ => sE fun _ => sE fun _ => sE fun _ => sE fun _ => sE fun _ => zE fun _ => goR_eq 400 (by kernel_rfl)
noncomputable def g236_4 : List AV → CM := apS fun t2 => apS fun t8 => apS fun t9 => apS fun t10 => apS fun t11 => apS fun t13 => apS fun t14 => apS fun t15 => apS fun t16 => ap0 <|
 CM.pu (p2 (binA Tryz.prog .sub 28) t15 (.int .u64 1)) fun x0 =>
 CM.pu (p2 (binA Tryz.prog .add 28) t16 t9) fun x1 =>
 CM.pu (p2 (binA Tryz.prog .geq 28) x1 (.int .u64 4294967296)) fun x2 =>
 CM.cond x2 (
 CM.go 966661 [t2, t8, t9, t10, t11, t13, t14, x0]) (
 CM.go 966659 [t2, t8, t9, t10, t11, t13, t14, x0, x1])
theorem g236_4_ok : EqD (Rl H) g236_4 (fun xs m => goR (EH H) Mk 966660 xs m) := sE fun _ => sE fun _ => sE fun _ => sE fun _ => sE fun _ => sE fun _ => sE fun _ => sE fun _ => sE fun _ => zE fun _ => goR_eq 400 (by kernel_rfl)
noncomputable def g236_5 : List AV → CM := apS fun t2 => apS fun t8 => apS fun t9 => apS fun t10 => apS fun t11 => apS fun t13 => apS fun t14 => apS fun t15 => ap0 <|
 CM.pu (p2 (binA Tryz.prog .mul 28) t11 (.int .u64 4294967296)) fun x0 =>
 CM.pu (p2 (binA Tryz.prog .add 28) x0 t13) fun x1 =>
 CM.pu (p2 (binA Tryz.prog .mul 28) t15 t2) fun x2 =>
 CM.pu (p2 (binA Tryz.prog .sub 28) x1 x2) fun x3 =>
 CM.pu (p2 (binA Tryz.prog .quo 28) x3 t9) fun x4 =>
 CM.pu (p2 (binA Tryz.prog .mul 28) x4 t9) fun x5 =>
 CM.pu (p2 (binA Tryz.prog .sub 28) x3 x5) fun x6 =>
 CM.go 966662 [t2, t8, t9, t10, t14, t15, x6, x3, x4]
theorem g236_5_ok : EqD (Rl H) g236_5 (fun xs m => goR (EH H) Mk 966661 xs m) := sE fun _ => sE fun _ => sE fun _ => sE fun _ => sE fun _ => sE fun _ => sE fun _ => sE fun _ => zE fun _ => goR_eq 400 (by kernel_rfl)
noncomputable def g236_6 : List AV → CM := apS fun t2 => apS fun t8 => apS fun t9 => apS fun t10 => apS fun t14 => apS fun t15 => apS fun t16 => apS fun t17 => apS fun t18 => ap0 <|
 CM.pu (p2 (binA Tryz.prog .geq 28) t18 (.int .u64 4294967296)) fun x0 =>
 CM.ifv x0 (
 CM.go 966663 [t2, t8, t9, t10, t14, t15, t16, t17, t18]) (
 CM.pu (p2 (binA Tryz.prog .mul 28) t18 t10) fun x1 =>
 CM.pu (p2 (binA Tryz.prog .mul 28) (.int .u64 4294967296) t16) fun x2 =>
 CM.pu (p2 (binA Tryz.prog .add 28) x2 t14) fun x3 =>
 CM.pu (p2 (binA Tryz.prog .gtr 28) x1 x3) fun x4 =>
 CM.cond x4 (
 CM.go 966663 [t2, t8, t9, t10, t14, t15, t16, t17, t18]) (
 CM.go 966664 [t2, t8, t14, t15, t17, t18]))
theorem g236_6_ok : EqD (Rl H) g236_6 (fun xs m => goR (EH H) Mk 966662 xs m) := sE fun _ => sE fun _ => sE fun _ => sE fun _ => sE fun _ => sE fun _ => sE fun _ => sE fun _ => sE fun _ => zE fun _ => goR_eq 400 (by kernel_rfl)
noncomputable def g236_7 : List AV → CM := apS fun t2 => apS fun t8 => apS fun t9 => apS fun t10 => apS fun t14 => apS fun t15 => apS fun t16 => apS fun t17 => apS fun t18 => ap0 <|
 CM.pu (p2 (binA Tryz.prog .sub 28) t18 (.int .u64 1)) fun x0 =>
 CM.pu (p2 (binA Tryz.prog .add 28) t16 t9) fun x1 =>
 CM.pu (p2 (binA Tryz.prog .geq 28) x1 (.int .u64 4294967296)) fun x2 =>
 CM.cond x2 (
 CM.go 966664 [t2, t8, t14, t15, t17, x0]) (
 CM.go 966662 [t2, t8, t9, t10, t14, t15, x1, t17, x0])
theorem g236_7_ok : EqD (Rl H) g236_7 (fun xs m => goR (EH H) Mk 966663 xs m) := sE fun _ => sE fun _ => sE fun _ => sE fun _ => sE fun _ => sE fun _ => sE fun _ => sE fun _ => sE fun _ => zE fun _ => goR_eq 400 (by kernel_rfl)
noncomputable def g236_8 : List AV → CM := apS fun t2 => apS fun t8 => apS fun t14 => apS fun t15 => apS fun t17 => apS fun t18 => ap0 <|
 CM.pu (p2 (binA Tryz.prog .mul 28) t15 (.int .u64 4294967296)) fun x0 =>
 CM.pu (p2 (binA Tryz.prog .add 28) x0 t18) fun x1 =>
 CM.pu (p2 (binA Tryz.prog .mul 28) t17 (.int .u64 4294967296)) fun x2 =>
 CM.pu (p2 (binA Tryz.prog .add 28) x2 t14) fun x3 =>
 CM.pu (p2 (binA Tryz.prog .mul 28) t18 t2) fun x4 =>
 CM.pu (p2 (binA Tryz.prog .sub 28) x3 x4) fun x5 =>
 CM.pu (p2 (binA Tryz.prog .shr 28) x5 t8) fun x6 =>
 CM.ret (.tup [x1, x6])
theorem g236_8_ok : EqD (Rl H) g236_8 (fun xs m => goR (EH H) Mk 966664 xs m) := sE fun _ => sE fun _ => sE fun _ => sE fun _ => sE fun _ => sE fun _ => zE fun _ => goR_eq 400 (by kernel_rfl)
noncomputable def f236 : List AV → CM := apS fun a0 => apS fun a1 => apS fun a2 => ap0 <|
 CM.pu (p2 (binA Tryz.prog .eql 28) a2 (.int .u64 0)) fun x0 =>
 CM.cond x0 (
 CM.rm (q1 (loadA Tryz.prog 328) (.ptr (some ⟨0, 0⟩)) ) fun _ =>
 CM.fail) (
 CM.go 966656 [a0, a1, a2])
theorem f236_ok (h : H 236 = none) : EqD (Rl H) f236 (fun xs m => run (EH H) (.fn 236) xs m) := sE fun _ => sE fun _ => sE fun _ => zE fun _ => run_eq 400 h (by kernel_rfl) (by kernel_rfl)
noncomputable def g237_0 : List AV → CM := apS fun t1 => ap0 <|
 CM.pu (p1 (fun a => fieldAddrA Tryz.prog 33 a 1) t1) fun x0 =>
 CM.rm (q1 (loadA Tryz.prog 28) x0 ) fun x1 =>
 CM.call 154 [(.int .u64 0), x1, (.int .u64 0)] fun x2 =>
 CM.pu (p1 (fun a => extractA a 0) x2) fun x3 =>
 CM.pu (p1 (fun a => extractA a 1) x2) fun x4 =>
 CM.pu (p1 (fun a => fieldAddrA Tryz.prog 33 a 0) t1) fun x5 =>
 CM.rm (q1 (loadA Tryz.prog 2) x5 ) fun x6 =>
 CM.pu (p1 (convA Tryz.prog 2 28) x6) fun x7 =>
 CM.call 154 [(.int .u64 0), x7, x4] fun x8 =>
 CM.pu (p1 (fun a => extractA a 0) x8) fun x9 =>
 CM.pu (p1 (fun a => extractA a 1) x8) fun _ =>
 CM.ret (.tup [x9, x3])
theorem g237_0_ok : EqD (Rl H) g237_0 (fun xs m => goR (EH H) Mk 970752 xs m) := sE fun _ => zE fun _ => goR_eq 400 (by kernel_rfl)
noncomputable def f237 : List AV → CM := apS fun a0 => ap0 <|
 CM.al (boxA a0) fun x0 =>
 CM.pu (p1 (fun a => fieldAddrA Tryz.prog 33 a 0) x0) fun x1 =>
 CM.rm (q1 (loadA Tryz.prog 2) x1 ) fun x2 =>
 CM.pu (p2 (binA Tryz.prog .geq 2) x2 (.int .i64 0)) fun x3 =>
 CM.cond x3 (
 CM.pu (p1 (fun a => fieldAddrA Tryz.prog 33 a 0) x0) fun x4 =>
 CM.rm (q1 (loadA Tryz.prog 2) x4 ) fun x5 =>
 CM.pu (p1 (convA Tryz.prog 2 28) x5) fun x6 =>
 CM.pu (p1 (fun a => fieldAddrA Tryz.prog 33 a 1) x0) fun x7 =>
 CM.rm (q1 (loadA Tryz.prog 28) x7 ) fun x8 =>
 CM.ret (.tup [x6, x8])) (
 CM.go 970752 [x0])
theorem f237_ok (h : H 237 = none) : EqD (Rl H) f237 (fun xs m => run (EH H) (.fn 237) xs m) := sE fun _ => zE fun _ => run_eq 400 h (by kernel_rfl) (by kernel_rfl)
noncomputable def f238 : List AV → CM := apS fun a0 => apS fun a1 => ap0 <|
 CM.pu (p2 (binA Tryz.prog .and 28) a0 (.int .u64 4294967295)) fun x0 =>
 CM.pu (p2 (binA Tryz.prog .shr 28) a0 (.int .u64 32)) fun x1 =>
 CM.pu (p2 (binA Tryz.prog .and 28) a1 (.int .u64 4294967295)) fun x2 =>
 CM.pu (p2 (binA Tryz.prog .shr 28) a1 (.int .u64 32)) fun x3 =>
 CM.pu (p2 (binA Tryz.prog .mul 28) x0 x2) fun x4 =>
 CM.pu (p2 (binA Tryz.prog .mul 28) x1 x2) fun x5 =>
 CM.pu (p2 (binA Tryz.prog .shr 28) x4 (.int .u64 32)) fun x6 =>
 CM.pu (p2 (binA Tryz.prog .add 28) x5 x6) fun x7 =>
 CM.pu (p2 (binA Tryz.prog .and 28) x7 (.int .u64 4294967295)) fun x8 =>
 CM.pu (p2 (binA Tryz.prog .shr 28) x7 (.int .u64 32)) fun x9 =>
 CM.pu (p2 (binA Tryz.prog .mul 28) x0 x3) fun x10 =>
 CM.pu (p2 (binA Tryz.prog .add 28) x8 x10) fun x11 =>
 CM.pu (p2 (binA Tryz.prog .mul 28) x1 x3) fun x12 =>
 CM.pu (p2 (binA Tryz.prog .add 28) x12 x9) fun x13 =>
 CM.pu (p2 (binA Tryz.prog .shr 28) x11 (.int .u64 32)) fun x14 =>
 CM.pu (p2 (binA Tryz.prog .add 28) x13 x14) fun x15 =>
 CM.pu (p2 (binA Tryz.prog .mul 28) a0 a1) fun x16 =>
 CM.ret (.tup [x15, x16])
theorem f238_ok (h : H 238 = none) : EqD (Rl H) f238 (fun xs m => run (EH H) (.fn 238) xs m) := sE fun _ => sE fun _ => zE fun _ => run_eq 400 h (by kernel_rfl) (by kernel_rfl)
noncomputable def f239 : List AV → CM := apS fun a0 => apS fun a1 => apS fun a2 => apS fun a3 => ap0 <|
 CM.call 238 [a0, a1] fun x0 =>
 CM.pu (p1 (fun a => extractA a 0) x0) fun x1 =>
 CM.pu (p1 (fun a => extractA a 1) x0) fun x2 =>
 CM.pu (p2 (indexAddrA Tryz.prog 297) a3 a2) fun x3 =>
 CM.rm (q1 (loadA Tryz.prog 28) x3 ) fun x4 =>
 CM.call 155 [x4, x2, (.int .u64 0)] fun x5 =>
 CM.pu (p1 (fun a => extractA a 0) x5) fun x6 =>
 CM.pu (p1 (fun a => extractA a 1) x5) fun x7 =>
 CM.pu (p2 (indexAddrA Tryz.prog 297) a3 a2) fun x8 =>
 CM.st (fun m => stV m x8 x6 1) <|
 CM.pu (p2 (binA Tryz.prog .add 3) a2 (.int .i64 1)) fun x10 =>
 CM.pu (p2 (binA Tryz.prog .add 3) a2 (.int .i64 1)) fun x11 =>
 CM.pu (p2 (indexAddrA Tryz.prog 297) a3 x11) fun x12 =>
 CM.rm (q1 (loadA Tryz.prog 28) x12 ) fun x13 =>
 CM.call 155 [x13, x1, x7] fun x14 =>
 CM.pu (p1 (fun a => extractA a 0) x14) fun x15 =>
 CM.pu (p1 (fun a => extractA a 1) x14) fun x16 =>
 CM.pu (p2 (indexAddrA Tryz.prog 297) a3 x10) fun x17 =>
 CM.st (fun m => stV m x17 x15 1) <|
 CM.pu (p2 (binA Tryz.prog .add 3) a2 (.int .i64 2)) fun x19 =>
 CM.pu (p2 (binA Tryz.prog .lss 3) x19 (.int .i64 4)) fun x20 =>
 CM.cond x20 (
 CM.pu (p2 (binA Tryz.prog .add 3) a2 (.int .i64 2)) fun x21 =>
 CM.pu (p2 (indexAddrA Tryz.prog 297) a3 x21) fun x22 =>
 CM.rm (q1 (loadA Tryz.prog 28) x22 ) fun x23 =>
 CM.pu (p2 (binA Tryz.prog .add 28) x23 x16) fun x24 =>
 CM.pu (p2 (indexAddrA Tryz.prog 297) a3 x21) fun x25 =>
 CM.st (fun m => stV m x25 x24 1) <|
 CM.ret .undef) (
 CM.ret .undef)
theorem f239_ok (h : H 239 = none) : EqD (Rl H) f239 (fun xs m => run (EH H) (.fn 239) xs m) := sE fun _ => sE fun _ => sE fun _ => sE fun _ => zE fun _ => run_eq 400 h (by kernel_rfl) (by kernel_rfl)
noncomputable def g240_0 : List AV → CM := apS fun t1 => apS fun t2 => apS fun t6 => ap0 <|
 CM.pu (p1 (convA Tryz.prog 28 2) t1) fun x0 =>
 CM.pu (p1 (buildA Tryz.prog 33) [(0, x0), (1, t2)]) fun x1 =>
 CM.st (fun m => stV m t6 x1 2) <|
 CM.resC Tryz.prog [ResultVar.cell 0 33, ResultVar.tmp 1] [t6, (.int .i64 0)]
theorem g240_0_ok : EqD (Rl H) g240_0 (fun xs m => goR (EH H) Mk 983040 xs m) := sE fun _ => sE fun _ => sE fun _ => zE fun _ => goR_eq 400 (by kernel_rfl)
noncomputable def g240_1 : List AV → CM := apS fun t1 => apS fun t2 => apS fun t6 => ap0 <|
 CM.pu (p2 (binA Tryz.prog .gtr 28) t1 (.int .u64 9223372036854775808)) fun x0 =>
 CM.ifv x0 (
 CM.pu (p1 (buildA Tryz.prog 33) []) fun x1 =>
 CM.st (fun m => stV m t6 x1 2) <|
 CM.resC Tryz.prog [ResultVar.cell 0 33, ResultVar.tmp 1] [t6, (.int .i64 20)]) (
 CM.pu (p2 (binA Tryz.prog .eql 28) t1 (.int .u64 9223372036854775808)) fun x3 =>
 CM.ifv x3 (
 CM.pu (p2 (binA Tryz.prog .gtr 28) t2 (.int .u64 0)) fun x4 =>
 CM.cond x4 (
 CM.pu (p1 (buildA Tryz.prog 33) []) fun x5 =>
 CM.st (fun m => stV m t6 x5 2) <|
 CM.resC Tryz.prog [ResultVar.cell 0 33, ResultVar.tmp 1] [t6, (.int .i64 20)]) (
 CM.go 983042 [t1, t2, t6])) (
 CM.go 983042 [t1, t2, t6]))
theorem g240_1_ok : EqD (Rl H) g240_1 (fun xs m => goR (EH H) Mk 983041 xs m) := sE fun _ => sE fun _ => sE fun _ => zE fun _ => goR_eq 400 (by kernel_rfl)
noncomputable def g240_2 : List AV → CM := apS fun t1 => apS fun t2 => apS fun t6 => ap0 <|
 CM.call 154 [(.int .u64 0), t2, (.int .u64 0)] fun x0 =>
 CM.pu (p1 (fun a => extractA a 0) x0) fun x1 =>
 CM.pu (p1 (fun a => extractA a 1) x0) fun x2 =>
 CM.call 154 [(.int .u64 0), t1, x2] fun x3 =>
 CM.pu (p1 (fun a => extractA a 0) x3) fun x4 =>
 CM.pu (p1 (fun a => extractA a 1) x3) fun _ =>
 CM.pu (p1 (convA Tryz.prog 28 2) x4) fun x6 =>
 CM.pu (p1 (buildA Tryz.prog 33) [(0, x6), (1, x1)]) fun x7 =>
 CM.st (fun m => stV m t6 x7 2) <|
 CM.resC Tryz.prog [ResultVar.cell 0 33, ResultVar.tmp 1] [t6, (.int .i64 0)]
theorem g240_2_ok : EqD (Rl H) g240_2 (fun xs m => goR (EH H) Mk 983042 xs m) := sE fun _ => sE fun _ => sE fun _ => zE fun _ => goR_eq 400 (by kernel_rfl)
noncomputable def f240 : List AV → CM := apS fun a0 => apS fun a1 => apS fun a2 => ap0 <|
 CM.al (some (.cells [(.int .i64 0), (.int .u64 0)] false, pB)) fun x0 =>
 CM.pu (p1 (unA .not) a0) fun x1 =>
 CM.cond x1 (
 CM.pu (p2 (binA Tryz.prog .geq 28) a1 (.int .u64 9223372036854775808)) fun x2 =>
 CM.cond x2 (
 CM.pu (p1 (buildA Tryz.prog 33) []) fun x3 =>
 CM.st (fun m => stV m x0 x3 2) <|
 CM.resC Tryz.prog [ResultVar.cell 0 33, ResultVar.tmp 1] [x0, (.int .i64 20)]) (
 CM.go 983040 [a1, a2, x0])) (
 CM.go 983041 [a1, a2, x0])
theorem f240_ok (h : H 240 = none) : EqD (Rl H) f240 (fun xs m => run (EH H) (.fn 240) xs m) := sE fun _ => sE fun _ => sE fun _ => zE fun _ => run_eq 400 h (by kernel_rfl) (by kernel_rfl)
noncomputable def f241 : List AV → CM := apS fun a0 => apS fun a1 => ap0 <|
 CM.pu (p2 (fun a h => sliceA Tryz.prog 67 a none (some h)) a0 a1) fun x0 =>
 CM.call 243 [x0] fun _ =>
 CM.pu (p2 (fun a l => sliceA Tryz.prog 67 a (some l) none) a0 a1) fun x2 =>
 CM.call 243 [x2] fun _ =>
 CM.call 243 [a0] fun _ =>
 CM.ret .undef
theorem f241_ok (h : H 241 = none) : EqD (Rl H) f241 (fun xs m => run (EH H) (.fn 241) xs m) := sE fun _ => sE fun _ => zE fun _ => run_eq 400 h (by kernel_rfl) (by kernel_rfl)
noncomputable def f242 : List AV → CM := apS fun a0 => ap0 <|
 CM.call 244 [a0] fun x0 =>
 CM.pu (p2 (binA Tryz.prog .sub 3) (.int .i64 64) x0) fun x1 =>
 CM.ret x1
theorem f242_ok (h : H 242 = none) : EqD (Rl H) f242 (fun xs m => run (EH H) (.fn 242) xs m) := sE fun _ => zE fun _ => run_eq 400 h (by kernel_rfl) (by kernel_rfl)
noncomputable def g243_0 : List AV → CM := apS fun t0 => apS fun t2 => apS fun t3 => ap0 <|
 CM.pu (p2 (binA Tryz.prog .lss 3) t2 t3) fun x0 =>
 CM.cond x0 (
 CM.go 995329 [t0, t2, t3]) (
 CM.ret .undef)
theorem g243_0_ok : EqD (Rl H) g243_0 (fun xs m => goR (EH H) Mk 995328 xs m) := sE fun _ => sE fun _ => sE fun _ => zE fun _ => goR_eq 400 (by kernel_rfl)
noncomputable def g243_1 : List AV → CM := apS fun t0 => apS fun t2 => apS fun t3 => ap0 <|
 CM.pu (p2 (indexAddrA Tryz.prog 67) t0 t3) fun x0 =>
 CM.rm (q1 (loadA Tryz.prog 210) x0 ) fun x1 =>
 CM.pu (p2 (indexAddrA Tryz.prog 67) t0 t2) fun x2 =>
 CM.rm (q1 (loadA Tryz.prog 210) x2 ) fun x3 =>
 CM.pu (p2 (indexAddrA Tryz.prog 67) t0 t2) fun x4 =>
 CM.st (fun m => stV m x4 x1 4) <|
 CM.pu (p2 (indexAddrA Tryz.prog 67) t0 t3) fun x8 =>
 CM.st (fun m => stV m x8 x3 4) <|
 CM.go 995330 [t0, t2, t3]
theorem g243_1_ok : EqD (Rl H) g243_1 (fun xs m => goR (EH H) Mk 995329 xs m) := sE fun _ => sE fun _ => sE fun _ => zE fun _ => goR_eq 400 (by kernel_rfl)
noncomputable def g243_2 : List AV → CM := apS fun t0 => apS fun t2 => apS fun t3 => ap0 <|
 CM.pu (p2 (binA Tryz.prog .add 3) t2 (.int .i64 1)) fun x0 =>
 CM.pu (p2 (binA Tryz.prog .sub 3) t3 (.int .i64 1)) fun x1 =>
 CM.go 995328 [t0, x0, x1]
theorem g243_2_ok : EqD (Rl H) g243_2 (fun xs m => goR (EH H) Mk 995330 xs m) := sE fun _ => sE fun _ => sE fun _ => zE fun _ => goR_eq 400 (by kernel_rfl)
noncomputable def f243 : List AV → CM := apS fun a0 => ap0 <|
 CM.pu (p1 (lenT Tryz.prog 67) a0) fun x0 =>
 CM.pu (p2 (binA Tryz.prog .sub 3) x0 (.int .i64 1)) fun x1 =>
 CM.go 995328 [a0, (.int .i64 0), x1]
theorem f243_ok (h : H 243 = none) : EqD (Rl H) f243 (fun xs m => run (EH H) (.fn 243) xs m) := sE fun _ => zE fun _ => run_eq 400 h (by kernel_rfl) (by kernel_rfl)
end Go.Proofs.YtpoafkipnjfioaaGreat.T
