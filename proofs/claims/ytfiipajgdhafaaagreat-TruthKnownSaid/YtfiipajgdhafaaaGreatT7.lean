/- Functions as trees, printed by our own program (wip/tools/gen3.lean). -/
import Derived.Test.YtfiipajgdhafaaaGreatT0
namespace Go.Proofs.YtfiipajgdhafaaaGreat.T
open Go Go.Abs Go.Proofs.YtfiipajgdhafaaaGreat
set_option maxRecDepth 10000
noncomputable def g216_0 : List AV → CM := apS fun t2 => apS fun t4 => apS fun t6 => ap0 <|
CM.rm (q1 (loadA Tryz.prog 36) t2 ) fun x0 =>
CM.rm (q1 (loadA Tryz.prog 36) t6 ) fun x1 =>
CM.call 215 [x0, x1] fun x2 =>
CM.pu (p1 (fun a => extractA a 0) x2) fun x3 =>
CM.pu (p1 (fun a => extractA a 1) x2) fun x4 =>
CM.st (fun m => stV m t4 x3 2) <|
CM.resC Tryz.prog [ResultVar.cell 0 36, ResultVar.tmp 1] [t4, x4]
theorem g216_0_ok : LeD (real E Mk Nk) g216_0 (fun ts m => goR E Mk 884736 ts m) := apS_le fun _ => apS_le fun _ => apS_le fun _ => ap0_le fun _ => goR_eq 400 (by kernel_rfl)
noncomputable def f216 : List AV → CM := apS fun a0 => apS fun a1 => ap0 <|
CM.al (boxA a0) fun x0 =>
CM.al (some (.cells [(.int .i64 0), (.int .u64 0)] false, pB)) fun x1 =>
CM.call 228 [a1] fun x2 =>
CM.pu (p1 (fun a => extractA a 0) x2) fun x3 =>
CM.pu (p1 (fun a => extractA a 1) x2) fun x4 =>
CM.al (some (.cells [(.int .i64 0), (.int .u64 0)] false, pB)) fun x5 =>
CM.st (fun m => stV m x5 x3 2) <|
CM.pu (p2 (binA Tryz.prog .neq 23) x4 (.int .i64 0)) fun x7 =>
CM.cond x7 (
CM.pu (p1 (buildA Tryz.prog 36) []) fun x8 =>
CM.st (fun m => stV m x1 x8 2) <|
CM.resC Tryz.prog [ResultVar.cell 0 36, ResultVar.tmp 1] [x1, x4]) (
CM.go 884736 [x0, x1, x5])
theorem f216_ok : LeD (real E Mk Nk) f216 (fun xs m => run E (.fn 216) xs m) := apS_le fun _ => apS_le fun _ => ap0_le fun _ => run_eq 400 rfl (by kernel_rfl) (by kernel_rfl)
noncomputable def g217_0 : List AV → CM := apS fun t0 => apS fun t2 => apS fun t3 => ap0 <|
CM.pu (p2 (binA Tryz.prog .lss 3) t2 t3) fun x0 =>
CM.cond x0 (
CM.go 888833 [t0, t2, t3]) (
CM.ret .undef)
theorem g217_0_ok : LeD (real E Mk Nk) g217_0 (fun ts m => goR E Mk 888832 ts m) := apS_le fun _ => apS_le fun _ => apS_le fun _ => ap0_le fun _ => goR_eq 400 (by kernel_rfl)
noncomputable def g217_1 : List AV → CM := apS fun t0 => apS fun t2 => apS fun t3 => ap0 <|
CM.pu (p2 (indexAddrA Tryz.prog 206) t0 t3) fun x0 =>
CM.rm (q1 (loadA Tryz.prog 9) x0 ) fun x1 =>
CM.pu (p2 (indexAddrA Tryz.prog 206) t0 t2) fun x2 =>
CM.rm (q1 (loadA Tryz.prog 9) x2 ) fun x3 =>
CM.pu (p2 (indexAddrA Tryz.prog 206) t0 t2) fun x4 =>
CM.st (fun m => stV m x4 x1 1) <|
CM.pu (p2 (indexAddrA Tryz.prog 206) t0 t3) fun x8 =>
CM.st (fun m => stV m x8 x3 1) <|
CM.go 888834 [t0, t2, t3]
theorem g217_1_ok : LeD (real E Mk Nk) g217_1 (fun ts m => goR E Mk 888833 ts m) := apS_le fun _ => apS_le fun _ => apS_le fun _ => ap0_le fun _ => goR_eq 400 (by kernel_rfl)
noncomputable def g217_2 : List AV → CM := apS fun t0 => apS fun t2 => apS fun t3 => ap0 <|
CM.pu (p2 (binA Tryz.prog .add 3) t2 (.int .i64 1)) fun x0 =>
CM.pu (p2 (binA Tryz.prog .sub 3) t3 (.int .i64 1)) fun x1 =>
CM.go 888832 [t0, x0, x1]
theorem g217_2_ok : LeD (real E Mk Nk) g217_2 (fun ts m => goR E Mk 888834 ts m) := apS_le fun _ => apS_le fun _ => apS_le fun _ => ap0_le fun _ => goR_eq 400 (by kernel_rfl)
noncomputable def f217 : List AV → CM := apS fun a0 => ap0 <|
CM.pu (p1 (lenT Tryz.prog 206) a0) fun x0 =>
CM.pu (p2 (binA Tryz.prog .sub 3) x0 (.int .i64 1)) fun x1 =>
CM.go 888832 [a0, (.int .i64 0), x1]
theorem f217_ok : LeD (real E Mk Nk) f217 (fun xs m => run E (.fn 217) xs m) := apS_le fun _ => ap0_le fun _ => run_eq 400 rfl (by kernel_rfl) (by kernel_rfl)
noncomputable def g218_0 : List AV → CM := apS fun t0 => apS fun t2 => apS fun t3 => ap0 <|
CM.pu (p2 (binA Tryz.prog .lss 3) t2 t3) fun x0 =>
CM.cond x0 (
CM.go 892929 [t0, t2, t3]) (
CM.ret .undef)
theorem g218_0_ok : LeD (real E Mk Nk) g218_0 (fun ts m => goR E Mk 892928 ts m) := apS_le fun _ => apS_le fun _ => apS_le fun _ => ap0_le fun _ => goR_eq 400 (by kernel_rfl)
noncomputable def g218_1 : List AV → CM := apS fun t0 => apS fun t2 => apS fun t3 => ap0 <|
CM.pu (p2 (indexAddrA Tryz.prog 89) t0 t3) fun x0 =>
CM.rm (q1 (loadA Tryz.prog 132) x0 ) fun x1 =>
CM.pu (p2 (indexAddrA Tryz.prog 89) t0 t2) fun x2 =>
CM.rm (q1 (loadA Tryz.prog 132) x2 ) fun x3 =>
CM.pu (p2 (indexAddrA Tryz.prog 89) t0 t2) fun x4 =>
CM.st (fun m => stV m x4 x1 4) <|
CM.pu (p2 (indexAddrA Tryz.prog 89) t0 t3) fun x8 =>
CM.st (fun m => stV m x8 x3 4) <|
CM.go 892930 [t0, t2, t3]
theorem g218_1_ok : LeD (real E Mk Nk) g218_1 (fun ts m => goR E Mk 892929 ts m) := apS_le fun _ => apS_le fun _ => apS_le fun _ => ap0_le fun _ => goR_eq 400 (by kernel_rfl)
noncomputable def g218_2 : List AV → CM := apS fun t0 => apS fun t2 => apS fun t3 => ap0 <|
CM.pu (p2 (binA Tryz.prog .add 3) t2 (.int .i64 1)) fun x0 =>
CM.pu (p2 (binA Tryz.prog .sub 3) t3 (.int .i64 1)) fun x1 =>
CM.go 892928 [t0, x0, x1]
theorem g218_2_ok : LeD (real E Mk Nk) g218_2 (fun ts m => goR E Mk 892930 ts m) := apS_le fun _ => apS_le fun _ => apS_le fun _ => ap0_le fun _ => goR_eq 400 (by kernel_rfl)
noncomputable def f218 : List AV → CM := apS fun a0 => ap0 <|
CM.pu (p1 (lenT Tryz.prog 89) a0) fun x0 =>
CM.pu (p2 (binA Tryz.prog .sub 3) x0 (.int .i64 1)) fun x1 =>
CM.go 892928 [a0, (.int .i64 0), x1]
theorem f218_ok : LeD (real E Mk Nk) f218 (fun xs m => run E (.fn 218) xs m) := apS_le fun _ => ap0_le fun _ => run_eq 400 rfl (by kernel_rfl) (by kernel_rfl)
noncomputable def g219_0 : List AV → CM := apS fun t0 => apS fun t2 => apS fun t3 => ap0 <|
CM.pu (p2 (binA Tryz.prog .lss 3) t2 t3) fun x0 =>
CM.cond x0 (
CM.go 897025 [t0, t2, t3]) (
CM.ret .undef)
theorem g219_0_ok : LeD (real E Mk Nk) g219_0 (fun ts m => goR E Mk 897024 ts m) := apS_le fun _ => apS_le fun _ => apS_le fun _ => ap0_le fun _ => goR_eq 400 (by kernel_rfl)
noncomputable def g219_1 : List AV → CM := apS fun t0 => apS fun t2 => apS fun t3 => ap0 <|
CM.pu (p2 (indexAddrA Tryz.prog 90) t0 t3) fun x0 =>
CM.rm (q1 (loadA Tryz.prog 136) x0 ) fun x1 =>
CM.pu (p2 (indexAddrA Tryz.prog 90) t0 t2) fun x2 =>
CM.rm (q1 (loadA Tryz.prog 136) x2 ) fun x3 =>
CM.pu (p2 (indexAddrA Tryz.prog 90) t0 t2) fun x4 =>
CM.st (fun m => stV m x4 x1 9) <|
CM.pu (p2 (indexAddrA Tryz.prog 90) t0 t3) fun x8 =>
CM.st (fun m => stV m x8 x3 9) <|
CM.go 897026 [t0, t2, t3]
theorem g219_1_ok : LeD (real E Mk Nk) g219_1 (fun ts m => goR E Mk 897025 ts m) := apS_le fun _ => apS_le fun _ => apS_le fun _ => ap0_le fun _ => goR_eq 400 (by kernel_rfl)
noncomputable def g219_2 : List AV → CM := apS fun t0 => apS fun t2 => apS fun t3 => ap0 <|
CM.pu (p2 (binA Tryz.prog .add 3) t2 (.int .i64 1)) fun x0 =>
CM.pu (p2 (binA Tryz.prog .sub 3) t3 (.int .i64 1)) fun x1 =>
CM.go 897024 [t0, x0, x1]
theorem g219_2_ok : LeD (real E Mk Nk) g219_2 (fun ts m => goR E Mk 897026 ts m) := apS_le fun _ => apS_le fun _ => apS_le fun _ => ap0_le fun _ => goR_eq 400 (by kernel_rfl)
noncomputable def f219 : List AV → CM := apS fun a0 => ap0 <|
CM.pu (p1 (lenT Tryz.prog 90) a0) fun x0 =>
CM.pu (p2 (binA Tryz.prog .sub 3) x0 (.int .i64 1)) fun x1 =>
CM.go 897024 [a0, (.int .i64 0), x1]
theorem f219_ok : LeD (real E Mk Nk) f219 (fun xs m => run E (.fn 219) xs m) := apS_le fun _ => ap0_le fun _ => run_eq 400 rfl (by kernel_rfl) (by kernel_rfl)
noncomputable def g220_0 : List AV → CM := apS fun t0 => apS fun t2 => apS fun t3 => ap0 <|
CM.pu (p2 (binA Tryz.prog .lss 3) t2 t3) fun x0 =>
CM.cond x0 (
CM.go 901121 [t0, t2, t3]) (
CM.ret .undef)
theorem g220_0_ok : LeD (real E Mk Nk) g220_0 (fun ts m => goR E Mk 901120 ts m) := apS_le fun _ => apS_le fun _ => apS_le fun _ => ap0_le fun _ => goR_eq 400 (by kernel_rfl)
noncomputable def g220_1 : List AV → CM := apS fun t0 => apS fun t2 => apS fun t3 => ap0 <|
CM.pu (p2 (indexAddrA Tryz.prog 116) t0 t3) fun x0 =>
CM.rm (q1 (loadA Tryz.prog 26) x0 ) fun x1 =>
CM.pu (p2 (indexAddrA Tryz.prog 116) t0 t2) fun x2 =>
CM.rm (q1 (loadA Tryz.prog 26) x2 ) fun x3 =>
CM.pu (p2 (indexAddrA Tryz.prog 116) t0 t2) fun x4 =>
CM.st (fun m => stV m x4 x1 1) <|
CM.pu (p2 (indexAddrA Tryz.prog 116) t0 t3) fun x8 =>
CM.st (fun m => stV m x8 x3 1) <|
CM.go 901122 [t0, t2, t3]
theorem g220_1_ok : LeD (real E Mk Nk) g220_1 (fun ts m => goR E Mk 901121 ts m) := apS_le fun _ => apS_le fun _ => apS_le fun _ => ap0_le fun _ => goR_eq 400 (by kernel_rfl)
noncomputable def g220_2 : List AV → CM := apS fun t0 => apS fun t2 => apS fun t3 => ap0 <|
CM.pu (p2 (binA Tryz.prog .add 3) t2 (.int .i64 1)) fun x0 =>
CM.pu (p2 (binA Tryz.prog .sub 3) t3 (.int .i64 1)) fun x1 =>
CM.go 901120 [t0, x0, x1]
theorem g220_2_ok : LeD (real E Mk Nk) g220_2 (fun ts m => goR E Mk 901122 ts m) := apS_le fun _ => apS_le fun _ => apS_le fun _ => ap0_le fun _ => goR_eq 400 (by kernel_rfl)
noncomputable def f220 : List AV → CM := apS fun a0 => ap0 <|
CM.pu (p1 (lenT Tryz.prog 116) a0) fun x0 =>
CM.pu (p2 (binA Tryz.prog .sub 3) x0 (.int .i64 1)) fun x1 =>
CM.go 901120 [a0, (.int .i64 0), x1]
theorem f220_ok : LeD (real E Mk Nk) f220 (fun xs m => run E (.fn 220) xs m) := apS_le fun _ => ap0_le fun _ => run_eq 400 rfl (by kernel_rfl) (by kernel_rfl)
noncomputable def g221_0 : List AV → CM := apS fun t0 => apS fun t2 => apS fun t3 => ap0 <|
CM.pu (p2 (binA Tryz.prog .lss 3) t2 t3) fun x0 =>
CM.cond x0 (
CM.go 905217 [t0, t2, t3]) (
CM.ret .undef)
theorem g221_0_ok : LeD (real E Mk Nk) g221_0 (fun ts m => goR E Mk 905216 ts m) := apS_le fun _ => apS_le fun _ => apS_le fun _ => ap0_le fun _ => goR_eq 400 (by kernel_rfl)
noncomputable def g221_1 : List AV → CM := apS fun t0 => apS fun t2 => apS fun t3 => ap0 <|
CM.pu (p2 (indexAddrA Tryz.prog 91) t0 t3) fun x0 =>
CM.rm (q1 (loadA Tryz.prog 140) x0 ) fun x1 =>
CM.pu (p2 (indexAddrA Tryz.prog 91) t0 t2) fun x2 =>
CM.rm (q1 (loadA Tryz.prog 140) x2 ) fun x3 =>
CM.pu (p2 (indexAddrA Tryz.prog 91) t0 t2) fun x4 =>
CM.st (fun m => stV m x4 x1 4) <|
CM.pu (p2 (indexAddrA Tryz.prog 91) t0 t3) fun x8 =>
CM.st (fun m => stV m x8 x3 4) <|
CM.go 905218 [t0, t2, t3]
theorem g221_1_ok : LeD (real E Mk Nk) g221_1 (fun ts m => goR E Mk 905217 ts m) := apS_le fun _ => apS_le fun _ => apS_le fun _ => ap0_le fun _ => goR_eq 400 (by kernel_rfl)
noncomputable def g221_2 : List AV → CM := apS fun t0 => apS fun t2 => apS fun t3 => ap0 <|
CM.pu (p2 (binA Tryz.prog .add 3) t2 (.int .i64 1)) fun x0 =>
CM.pu (p2 (binA Tryz.prog .sub 3) t3 (.int .i64 1)) fun x1 =>
CM.go 905216 [t0, x0, x1]
theorem g221_2_ok : LeD (real E Mk Nk) g221_2 (fun ts m => goR E Mk 905218 ts m) := apS_le fun _ => apS_le fun _ => apS_le fun _ => ap0_le fun _ => goR_eq 400 (by kernel_rfl)
noncomputable def f221 : List AV → CM := apS fun a0 => ap0 <|
CM.pu (p1 (lenT Tryz.prog 91) a0) fun x0 =>
CM.pu (p2 (binA Tryz.prog .sub 3) x0 (.int .i64 1)) fun x1 =>
CM.go 905216 [a0, (.int .i64 0), x1]
theorem f221_ok : LeD (real E Mk Nk) f221 (fun xs m => run E (.fn 221) xs m) := apS_le fun _ => ap0_le fun _ => run_eq 400 rfl (by kernel_rfl) (by kernel_rfl)
noncomputable def g222_0 : List AV → CM := apS fun t0 => apS fun t2 => apS fun t3 => ap0 <|
CM.pu (p2 (binA Tryz.prog .lss 3) t2 t3) fun x0 =>
CM.cond x0 (
CM.go 909313 [t0, t2, t3]) (
CM.ret .undef)
theorem g222_0_ok : LeD (real E Mk Nk) g222_0 (fun ts m => goR E Mk 909312 ts m) := apS_le fun _ => apS_le fun _ => apS_le fun _ => ap0_le fun _ => goR_eq 400 (by kernel_rfl)
noncomputable def g222_1 : List AV → CM := apS fun t0 => apS fun t2 => apS fun t3 => ap0 <|
CM.pu (p2 (indexAddrA Tryz.prog 95) t0 t3) fun x0 =>
CM.rm (q1 (loadA Tryz.prog 146) x0 ) fun x1 =>
CM.pu (p2 (indexAddrA Tryz.prog 95) t0 t2) fun x2 =>
CM.rm (q1 (loadA Tryz.prog 146) x2 ) fun x3 =>
CM.pu (p2 (indexAddrA Tryz.prog 95) t0 t2) fun x4 =>
CM.st (fun m => stV m x4 x1 4) <|
CM.pu (p2 (indexAddrA Tryz.prog 95) t0 t3) fun x8 =>
CM.st (fun m => stV m x8 x3 4) <|
CM.go 909314 [t0, t2, t3]
theorem g222_1_ok : LeD (real E Mk Nk) g222_1 (fun ts m => goR E Mk 909313 ts m) := apS_le fun _ => apS_le fun _ => apS_le fun _ => ap0_le fun _ => goR_eq 400 (by kernel_rfl)
noncomputable def g222_2 : List AV → CM := apS fun t0 => apS fun t2 => apS fun t3 => ap0 <|
CM.pu (p2 (binA Tryz.prog .add 3) t2 (.int .i64 1)) fun x0 =>
CM.pu (p2 (binA Tryz.prog .sub 3) t3 (.int .i64 1)) fun x1 =>
CM.go 909312 [t0, x0, x1]
theorem g222_2_ok : LeD (real E Mk Nk) g222_2 (fun ts m => goR E Mk 909314 ts m) := apS_le fun _ => apS_le fun _ => apS_le fun _ => ap0_le fun _ => goR_eq 400 (by kernel_rfl)
noncomputable def f222 : List AV → CM := apS fun a0 => ap0 <|
CM.pu (p1 (lenT Tryz.prog 95) a0) fun x0 =>
CM.pu (p2 (binA Tryz.prog .sub 3) x0 (.int .i64 1)) fun x1 =>
CM.go 909312 [a0, (.int .i64 0), x1]
theorem f222_ok : LeD (real E Mk Nk) f222 (fun xs m => run E (.fn 222) xs m) := apS_le fun _ => ap0_le fun _ => run_eq 400 rfl (by kernel_rfl) (by kernel_rfl)
noncomputable def g223_0 : List AV → CM := apS fun t8 => ap0 <|
CM.rm (q1 (loadA Tryz.prog 36) t8 ) fun x0 =>
CM.call 161 [x0] fun x1 =>
CM.ret x1
theorem g223_0_ok : LeD (real E Mk Nk) g223_0 (fun ts m => goR E Mk 913408 ts m) := apS_le fun _ => ap0_le fun _ => goR_eq 400 (by kernel_rfl)
noncomputable def f223 : List AV → CM := apS fun a0 => apS fun a1 => ap0 <|
CM.al (boxA a0) fun x0 =>
CM.al (boxA a1) fun x1 =>
CM.pu (p1 (fun a => fieldAddrA Tryz.prog 38 a 1) x0) fun x2 =>
CM.rm (q1 (loadA Tryz.prog 3) x2 ) fun x3 =>
CM.pu (p1 (fun a => fieldAddrA Tryz.prog 38 a 1) x1) fun x4 =>
CM.rm (q1 (loadA Tryz.prog 3) x4 ) fun x5 =>
CM.pu (p2 (binA Tryz.prog .sub 3) x3 x5) fun x6 =>
CM.call 228 [x6] fun x7 =>
CM.pu (p1 (fun a => extractA a 0) x7) fun x8 =>
CM.pu (p1 (fun a => extractA a 1) x7) fun _ =>
CM.al (some (.cells [(.int .i64 0), (.int .u64 0)] false, pB)) fun x10 =>
CM.st (fun m => stV m x10 x8 2) <|
CM.pu (p1 (fun a => fieldAddrA Tryz.prog 38 a 0) x0) fun x12 =>
CM.rm (q1 (loadA Tryz.prog 36) x12 ) fun x13 =>
CM.rm (q1 (loadA Tryz.prog 36) x10 ) fun x14 =>
CM.call 229 [x13, x14] fun x15 =>
CM.pu (p1 (fun a => extractA a 0) x15) fun x16 =>
CM.pu (p1 (fun a => extractA a 1) x15) fun x17 =>
CM.pu (p1 (fun a => extractA a 2) x15) fun _ =>
CM.al (some (.cells [(.int .i64 0), (.int .u64 0)] false, pB)) fun x19 =>
CM.al (some (.cells [(.int .i64 0), (.int .u64 0)] false, pB)) fun x20 =>
CM.st (fun m => stV m x19 x16 2) <|
CM.st (fun m => stV m x20 x17 2) <|
CM.rm (q1 (loadA Tryz.prog 36) x19 ) fun x23 =>
CM.pu (p1 (fun a => fieldAddrA Tryz.prog 38 a 0) x1) fun x24 =>
CM.rm (q1 (loadA Tryz.prog 36) x24 ) fun x25 =>
CM.call 199 [x23, x25] fun x26 =>
CM.pu (p2 (binA Tryz.prog .neq 3) x26 (.int .i64 0)) fun x27 =>
CM.cond x27 (
CM.ret x26) (
CM.go 913408 [x20])
theorem f223_ok : LeD (real E Mk Nk) f223 (fun xs m => run E (.fn 223) xs m) := apS_le fun _ => apS_le fun _ => ap0_le fun _ => run_eq 400 rfl (by kernel_rfl) (by kernel_rfl)
noncomputable def g224_0 : List AV → CM := apS fun t1 => apS fun t2 => apS fun t4 => apS fun t6 => apS fun t7 => ap0 <|
CM.pu (p2 (binA Tryz.prog .geq 3) t7 (.int .i64 0)) fun x0 =>
CM.cond x0 (
CM.go 917505 [t1, t2, t4, t6, t7]) (
CM.go 917507 [t2, t4, t6])
theorem g224_0_ok : LeD (real E Mk Nk) g224_0 (fun ts m => goR E Mk 917504 ts m) := apS_le fun _ => apS_le fun _ => apS_le fun _ => apS_le fun _ => apS_le fun _ => ap0_le fun _ => goR_eq 400 (by kernel_rfl)
noncomputable def g224_1 : List AV → CM := apS fun t1 => apS fun t2 => apS fun t4 => apS fun t6 => apS fun t7 => ap0 <|
CM.pu (p2 (indexAddrA Tryz.prog 311) t2 t7) fun x0 =>
CM.rm (q1 (loadA Tryz.prog 26) x0 ) fun x1 =>
CM.call 230 [t6, x1, t1] fun x2 =>
CM.pu (p1 (fun a => extractA a 0) x2) fun x3 =>
CM.pu (p1 (fun a => extractA a 1) x2) fun x4 =>
CM.pu (p2 (indexAddrA Tryz.prog 311) t2 t7) fun x5 =>
CM.st (fun m => stV m x5 x3 1) <|
CM.go 917506 [t1, t2, t4, x4, t7]
theorem g224_1_ok : LeD (real E Mk Nk) g224_1 (fun ts m => goR E Mk 917505 ts m) := apS_le fun _ => apS_le fun _ => apS_le fun _ => apS_le fun _ => apS_le fun _ => ap0_le fun _ => goR_eq 400 (by kernel_rfl)
noncomputable def g224_2 : List AV → CM := apS fun t1 => apS fun t2 => apS fun t4 => apS fun t6 => apS fun t7 => ap0 <|
CM.pu (p2 (binA Tryz.prog .sub 3) t7 (.int .i64 1)) fun x0 =>
CM.go 917504 [t1, t2, t4, t6, x0]
theorem g224_2_ok : LeD (real E Mk Nk) g224_2 (fun ts m => goR E Mk 917506 ts m) := apS_le fun _ => apS_le fun _ => apS_le fun _ => apS_le fun _ => apS_le fun _ => ap0_le fun _ => goR_eq 400 (by kernel_rfl)
noncomputable def g224_3 : List AV → CM := apS fun t2 => apS fun t4 => apS fun t6 => ap0 <|
CM.rm (q1 (loadA Tryz.prog 311) t2 ) fun x0 =>
CM.st (fun m => stV m t4 x0 4) <|
CM.resC Tryz.prog [ResultVar.cell 0 311, ResultVar.tmp 1] [t4, t6]
theorem g224_3_ok : LeD (real E Mk Nk) g224_3 (fun ts m => goR E Mk 917507 ts m) := apS_le fun _ => apS_le fun _ => apS_le fun _ => ap0_le fun _ => goR_eq 400 (by kernel_rfl)
noncomputable def f224 : List AV → CM := apS fun a0 => apS fun a1 => ap0 <|
CM.al (boxA a0) fun x0 =>
CM.al (some (.cells [(.int .u64 0), (.int .u64 0), (.int .u64 0), (.int .u64 0)] false, pB)) fun x1 =>
CM.go 917504 [a1, x0, x1, (.int .u64 0), (.int .i64 3)]
theorem f224_ok : LeD (real E Mk Nk) f224 (fun xs m => run E (.fn 224) xs m) := apS_le fun _ => apS_le fun _ => ap0_le fun _ => run_eq 400 rfl (by kernel_rfl) (by kernel_rfl)
noncomputable def f225 : List AV → CM := apS fun a0 => apS fun a1 => ap0 <|
CM.al (boxA a0) fun x0 =>
CM.al (boxA a1) fun x1 =>
CM.al (some (.cells [(.int .u64 0), (.int .u64 0), (.int .u64 0), (.int .u64 0)] false, pB)) fun x2 =>
CM.rm (q1 (loadA Tryz.prog 36) x0 ) fun x3 =>
CM.call 231 [x3] fun x4 =>
CM.pu (p1 (fun a => extractA a 0) x4) fun x5 =>
CM.pu (p1 (fun a => extractA a 1) x4) fun x6 =>
CM.rm (q1 (loadA Tryz.prog 36) x1 ) fun x7 =>
CM.call 231 [x7] fun x8 =>
CM.pu (p1 (fun a => extractA a 0) x8) fun x9 =>
CM.pu (p1 (fun a => extractA a 1) x8) fun x10 =>
CM.al (some (.cells [(.int .u64 0), (.int .u64 0), (.int .u64 0), (.int .u64 0)] false, pB)) fun x11 =>
CM.call 232 [x6, x10] fun x12 =>
CM.pu (p1 (fun a => extractA a 0) x12) fun x13 =>
CM.pu (p1 (fun a => extractA a 1) x12) fun x14 =>
CM.pu (p2 (indexAddrA Tryz.prog 311) x11 (.int .i64 1)) fun x15 =>
CM.st (fun m => stV m x15 x13 1) <|
CM.pu (p2 (indexAddrA Tryz.prog 311) x11 (.int .i64 0)) fun x17 =>
CM.st (fun m => stV m x17 x14 1) <|
CM.callv (.fn (.func 233) [] [x11]) [x6, x9, (.int .i64 1)] fun _ =>
CM.callv (.fn (.func 233) [] [x11]) [x5, x10, (.int .i64 1)] fun _ =>
CM.callv (.fn (.func 233) [] [x11]) [x5, x9, (.int .i64 2)] fun _ =>
CM.rm (q1 (loadA Tryz.prog 311) x11 ) fun x22 =>
CM.st (fun m => stV m x2 x22 4) <|
CM.resC Tryz.prog [ResultVar.cell 0 311] [x2]
theorem f225_ok : LeD (real E Mk Nk) f225 (fun xs m => run E (.fn 225) xs m) := apS_le fun _ => apS_le fun _ => ap0_le fun _ => run_eq 400 rfl (by kernel_rfl) (by kernel_rfl)
noncomputable def g226_0 : List AV → CM := apS fun t0 => apS fun t3 => ap0 <|
CM.pu (p2 (binA Tryz.prog .gtr 3) t0 (.int .i64 0)) fun x0 =>
CM.cond x0 (
CM.go 925697 [t0, t3]) (
CM.go 925699 [t3])
theorem g226_0_ok : LeD (real E Mk Nk) g226_0 (fun ts m => goR E Mk 925696 ts m) := apS_le fun _ => apS_le fun _ => ap0_le fun _ => goR_eq 400 (by kernel_rfl)
noncomputable def g226_1 : List AV → CM := apS fun t0 => apS fun t3 => ap0 <|
CM.pu (p2 (binA Tryz.prog .mul 26) t3 (.int .u64 10)) fun x0 =>
CM.go 925698 [t0, x0]
theorem g226_1_ok : LeD (real E Mk Nk) g226_1 (fun ts m => goR E Mk 925697 ts m) := apS_le fun _ => apS_le fun _ => ap0_le fun _ => goR_eq 400 (by kernel_rfl)
noncomputable def g226_2 : List AV → CM := apS fun t0 => apS fun t3 => ap0 <|
CM.pu (p2 (binA Tryz.prog .sub 3) t0 (.int .i64 1)) fun x0 =>
CM.go 925696 [x0, t3]
theorem g226_2_ok : LeD (real E Mk Nk) g226_2 (fun ts m => goR E Mk 925698 ts m) := apS_le fun _ => apS_le fun _ => ap0_le fun _ => goR_eq 400 (by kernel_rfl)
noncomputable def g226_3 : List AV → CM := apS fun t3 => ap0 <|
CM.ret t3
theorem g226_3_ok : LeD (real E Mk Nk) g226_3 (fun ts m => goR E Mk 925699 ts m) := apS_le fun _ => ap0_le fun _ => goR_eq 400 (by kernel_rfl)
noncomputable def f226 : List AV → CM := apS fun a0 => ap0 <|
CM.go 925696 [a0, (.int .u64 1)]
theorem f226_ok : LeD (real E Mk Nk) f226 (fun xs m => run E (.fn 226) xs m) := apS_le fun _ => ap0_le fun _ => run_eq 400 rfl (by kernel_rfl) (by kernel_rfl)
noncomputable def g227_0 : List AV → CM := apS fun t0 => apS fun t3 => apS fun t4 => ap0 <|
CM.pu (p2 (indexAddrA Tryz.prog 311) t3 (.int .i64 1)) fun x0 =>
CM.rm (q1 (loadA Tryz.prog 26) x0 ) fun x1 =>
CM.pu (p2 (indexAddrA Tryz.prog 311) t3 (.int .i64 0)) fun x2 =>
CM.rm (q1 (loadA Tryz.prog 26) x2 ) fun x3 =>
CM.call 234 [t0, x1, x3] fun x4 =>
CM.pu (p1 (fun a => extractA a 0) x4) fun x5 =>
CM.pu (p1 (fun a => extractA a 1) x4) fun x6 =>
CM.st (fun m => stV m t4 x5 2) <|
CM.resC Tryz.prog [ResultVar.cell 0 36, ResultVar.tmp 1] [t4, x6]
theorem g227_0_ok : LeD (real E Mk Nk) g227_0 (fun ts m => goR E Mk 929792 ts m) := apS_le fun _ => apS_le fun _ => apS_le fun _ => ap0_le fun _ => goR_eq 400 (by kernel_rfl)
noncomputable def f227 : List AV → CM := apS fun a0 => apS fun a1 => ap0 <|
CM.al (boxA a1) fun x0 =>
CM.al (some (.cells [(.int .i64 0), (.int .u64 0)] false, pB)) fun x1 =>
CM.pu (p2 (indexAddrA Tryz.prog 311) x0 (.int .i64 3)) fun x2 =>
CM.rm (q1 (loadA Tryz.prog 26) x2 ) fun x3 =>
CM.pu (p2 (binA Tryz.prog .neq 26) x3 (.int .u64 0)) fun x4 =>
CM.ifv x4 (
CM.pu (p1 (buildA Tryz.prog 36) []) fun x5 =>
CM.st (fun m => stV m x1 x5 2) <|
CM.resC Tryz.prog [ResultVar.cell 0 36, ResultVar.tmp 1] [x1, (.int .i64 20)]) (
CM.pu (p2 (indexAddrA Tryz.prog 311) x0 (.int .i64 2)) fun x7 =>
CM.rm (q1 (loadA Tryz.prog 26) x7 ) fun x8 =>
CM.pu (p2 (binA Tryz.prog .neq 26) x8 (.int .u64 0)) fun x9 =>
CM.cond x9 (
CM.pu (p1 (buildA Tryz.prog 36) []) fun x10 =>
CM.st (fun m => stV m x1 x10 2) <|
CM.resC Tryz.prog [ResultVar.cell 0 36, ResultVar.tmp 1] [x1, (.int .i64 20)]) (
CM.go 929792 [a0, x0, x1]))
theorem f227_ok : LeD (real E Mk Nk) f227 (fun xs m => run E (.fn 227) xs m) := apS_le fun _ => apS_le fun _ => ap0_le fun _ => run_eq 400 rfl (by kernel_rfl) (by kernel_rfl)
noncomputable def g228_0 : List AV → CM := apS fun t0 => apS fun t2 => ap0 <|
CM.pu (p1 (buildA Tryz.prog 36) [(1, (.int .u64 1))]) fun x0 =>
CM.al (some (.cells [(.int .i64 0), (.int .u64 0)] false, pB)) fun x1 =>
CM.st (fun m => stV m x1 x0 2) <|
CM.go 933889 [t0, t2, x1]
theorem g228_0_ok : LeD (real E Mk Nk) g228_0 (fun ts m => goR E Mk 933888 ts m) := apS_le fun _ => apS_le fun _ => ap0_le fun _ => goR_eq 400 (by kernel_rfl)
noncomputable def g228_1 : List AV → CM := apS fun t0 => apS fun t2 => apS fun t4 => ap0 <|
CM.pu (p2 (binA Tryz.prog .gtr 3) t0 (.int .i64 0)) fun x0 =>
CM.cond x0 (
CM.go 933890 [t0, t2, t4]) (
CM.go 933892 [t2, t4])
theorem g228_1_ok : LeD (real E Mk Nk) g228_1 (fun ts m => goR E Mk 933889 ts m) := apS_le fun _ => apS_le fun _ => apS_le fun _ => ap0_le fun _ => goR_eq 400 (by kernel_rfl)
noncomputable def g228_2 : List AV → CM := apS fun t0 => apS fun t2 => apS fun t4 => ap0 <|
CM.rm (q1 (loadA Tryz.prog 36) t4 ) fun x0 =>
CM.pu (p1 (buildA Tryz.prog 36) [(1, (.int .u64 10))]) fun x1 =>
CM.call 215 [x0, x1] fun x2 =>
CM.pu (p1 (fun a => extractA a 0) x2) fun x3 =>
CM.pu (p1 (fun a => extractA a 1) x2) fun _ =>
CM.st (fun m => stV m t4 x3 2) <|
CM.go 933891 [t0, t2, t4]
theorem g228_2_ok : LeD (real E Mk Nk) g228_2 (fun ts m => goR E Mk 933890 ts m) := apS_le fun _ => apS_le fun _ => apS_le fun _ => ap0_le fun _ => goR_eq 400 (by kernel_rfl)
noncomputable def g228_3 : List AV → CM := apS fun t0 => apS fun t2 => apS fun t4 => ap0 <|
CM.pu (p2 (binA Tryz.prog .sub 3) t0 (.int .i64 1)) fun x0 =>
CM.go 933889 [x0, t2, t4]
theorem g228_3_ok : LeD (real E Mk Nk) g228_3 (fun ts m => goR E Mk 933891 ts m) := apS_le fun _ => apS_le fun _ => apS_le fun _ => ap0_le fun _ => goR_eq 400 (by kernel_rfl)
noncomputable def g228_4 : List AV → CM := apS fun t2 => apS fun t4 => ap0 <|
CM.rm (q1 (loadA Tryz.prog 36) t4 ) fun x0 =>
CM.st (fun m => stV m t2 x0 2) <|
CM.resC Tryz.prog [ResultVar.cell 0 36, ResultVar.tmp 1] [t2, (.int .i64 0)]
theorem g228_4_ok : LeD (real E Mk Nk) g228_4 (fun ts m => goR E Mk 933892 ts m) := apS_le fun _ => apS_le fun _ => ap0_le fun _ => goR_eq 400 (by kernel_rfl)
noncomputable def f228 : List AV → CM := apS fun a0 => ap0 <|
CM.al (some (.cells [(.int .i64 0), (.int .u64 0)] false, pB)) fun x0 =>
CM.pu (p2 (binA Tryz.prog .lss 3) a0 (.int .i64 0)) fun x1 =>
CM.ifv x1 (
CM.pu (p1 (buildA Tryz.prog 36) []) fun x2 =>
CM.st (fun m => stV m x0 x2 2) <|
CM.resC Tryz.prog [ResultVar.cell 0 36, ResultVar.tmp 1] [x0, (.int .i64 1)]) (
CM.pu (p2 (binA Tryz.prog .gtr 3) a0 (.int .i64 38)) fun x4 =>
CM.cond x4 (
CM.pu (p1 (buildA Tryz.prog 36) []) fun x5 =>
CM.st (fun m => stV m x0 x5 2) <|
CM.resC Tryz.prog [ResultVar.cell 0 36, ResultVar.tmp 1] [x0, (.int .i64 1)]) (
CM.go 933888 [a0, x0]))
theorem f228_ok : LeD (real E Mk Nk) f228 (fun xs m => run E (.fn 228) xs m) := apS_le fun _ => ap0_le fun _ => run_eq 400 rfl (by kernel_rfl) (by kernel_rfl)
noncomputable def g229_0 : List AV → CM := apS fun t2 => apS fun t3 => apS fun t4 => apS fun t5 => ap0 <|
CM.rm (q1 (loadA Tryz.prog 36) t2 ) fun x0 =>
CM.call 231 [x0] fun x1 =>
CM.pu (p1 (fun a => extractA a 0) x1) fun x2 =>
CM.pu (p1 (fun a => extractA a 1) x1) fun x3 =>
CM.rm (q1 (loadA Tryz.prog 36) t3 ) fun x4 =>
CM.call 231 [x4] fun x5 =>
CM.pu (p1 (fun a => extractA a 0) x5) fun x6 =>
CM.pu (p1 (fun a => extractA a 1) x5) fun x7 =>
CM.pu (p2 (binA Tryz.prog .eql 26) x6 (.int .u64 0)) fun x8 =>
CM.cond x8 (
CM.pu (p2 (binA Tryz.prog .quo 26) x2 x7) fun x9 =>
CM.pu (p2 (binA Tryz.prog .rem 26) x2 x7) fun x10 =>
CM.call 230 [x10, x3, x7] fun x11 =>
CM.pu (p1 (fun a => extractA a 0) x11) fun x12 =>
CM.pu (p1 (fun a => extractA a 1) x11) fun x13 =>
CM.go 937988 [t2, t3, t4, t5, x9, x12, (.int .u64 0), x13]) (
CM.call 235 [x6] fun x14 =>
CM.go 937985 [t2, t3, t4, t5, x6, x7, (.int .u64 0), (.int .u64 0), x2, x3, x14])
theorem g229_0_ok : LeD (real E Mk Nk) g229_0 (fun ts m => goR E Mk 937984 ts m) := apS_le fun _ => apS_le fun _ => apS_le fun _ => apS_le fun _ => ap0_le fun _ => goR_eq 400 (by kernel_rfl)
noncomputable def g229_1 : List AV → CM := apS fun t2 => apS fun t3 => apS fun t4 => apS fun t5 => apS fun t9 => apS fun t10 => apS fun t11 => apS fun t12 => apS fun t13 => apS fun t14 => apS fun t15 => ap0 <|
CM.pu (p2 (binA Tryz.prog .geq 3) t15 (.int .i64 0)) fun x0 =>
CM.cond x0 (
CM.go 937986 [t2, t3, t4, t5, t9, t10, t11, t12, t13, t14, t15]) (
CM.go 937988 [t2, t3, t4, t5, t11, t12, t13, t14])
theorem g229_1_ok : LeD (real E Mk Nk) g229_1 (fun ts m => goR E Mk 937985 ts m) := apS_le fun _ => apS_le fun _ => apS_le fun _ => apS_le fun _ => apS_le fun _ => apS_le fun _ => apS_le fun _ => apS_le fun _ => apS_le fun _ => apS_le fun _ => apS_le fun _ => ap0_le fun _ => goR_eq 400 (by kernel_rfl)
noncomputable def g229_2 : List AV → CM := apS fun t2 => apS fun t3 => apS fun t4 => apS fun t5 => apS fun t9 => apS fun t10 => apS fun t11 => apS fun t12 => apS fun t13 => apS fun t14 => apS fun t15 => ap0 <|
CM.pu (p2 (binA Tryz.prog .shl 26) t9 t15) fun x0 =>
CM.pu (p2 (binA Tryz.prog .shr 26) t10 (.int .u64 1)) fun x1 =>
CM.pu (p2 (binA Tryz.prog .sub 3) (.int .i64 63) t15) fun x2 =>
CM.pu (p2 (binA Tryz.prog .shr 26) x1 x2) fun x3 =>
CM.pu (p2 (binA Tryz.prog .or 26) x0 x3) fun x4 =>
CM.pu (p2 (binA Tryz.prog .shl 26) t10 t15) fun x5 =>
CM.pu (p2 (binA Tryz.prog .gtr 26) t13 x4) fun x6 =>
CM.ifv x6 (
CM.call 211 [t14, x5, (.int .u64 0)] fun x7 =>
CM.pu (p1 (fun a => extractA a 0) x7) fun x8 =>
CM.pu (p1 (fun a => extractA a 1) x7) fun x9 =>
CM.call 211 [t13, x4, x9] fun x10 =>
CM.pu (p1 (fun a => extractA a 0) x10) fun x11 =>
CM.pu (p1 (fun a => extractA a 1) x10) fun _ =>
CM.pu (p2 (binA Tryz.prog .shl 26) (.int .u64 1) t15) fun x13 =>
CM.pu (p2 (binA Tryz.prog .or 26) t12 x13) fun x14 =>
CM.go 937987 [t2, t3, t4, t5, t9, t10, t11, x14, x11, x8, t15]) (
CM.pu (p2 (binA Tryz.prog .eql 26) t13 x4) fun x15 =>
CM.ifv x15 (
CM.pu (p2 (binA Tryz.prog .geq 26) t14 x5) fun x16 =>
CM.cond x16 (
CM.call 211 [t14, x5, (.int .u64 0)] fun x17 =>
CM.pu (p1 (fun a => extractA a 0) x17) fun x18 =>
CM.pu (p1 (fun a => extractA a 1) x17) fun x19 =>
CM.call 211 [t13, x4, x19] fun x20 =>
CM.pu (p1 (fun a => extractA a 0) x20) fun x21 =>
CM.pu (p1 (fun a => extractA a 1) x20) fun _ =>
CM.pu (p2 (binA Tryz.prog .shl 26) (.int .u64 1) t15) fun x23 =>
CM.pu (p2 (binA Tryz.prog .or 26) t12 x23) fun x24 =>
CM.go 937987 [t2, t3, t4, t5, t9, t10, t11, x24, x21, x18, t15]) (
CM.go 937987 [t2, t3, t4, t5, t9, t10, t11, t12, t13, t14, t15])) (
CM.go 937987 [t2, t3, t4, t5, t9, t10, t11, t12, t13, t14, t15]))
theorem g229_2_ok : LeD (real E Mk Nk) g229_2 (fun ts m => goR E Mk 937986 ts m) := apS_le fun _ => apS_le fun _ => apS_le fun _ => apS_le fun _ => apS_le fun _ => apS_le fun _ => apS_le fun _ => apS_le fun _ => apS_le fun _ => apS_le fun _ => apS_le fun _ => ap0_le fun _ => goR_eq 400 (by kernel_rfl)
noncomputable def g229_3 : List AV → CM := apS fun t2 => apS fun t3 => apS fun t4 => apS fun t5 => apS fun t9 => apS fun t10 => apS fun t11 => apS fun t12 => apS fun t13 => apS fun t14 => apS fun t15 => ap0 <|
CM.pu (p2 (binA Tryz.prog .sub 3) t15 (.int .i64 1)) fun x0 =>
CM.go 937985 [t2, t3, t4, t5, t9, t10, t11, t12, t13, t14, x0]
theorem g229_3_ok : LeD (real E Mk Nk) g229_3 (fun ts m => goR E Mk 937987 ts m) := apS_le fun _ => apS_le fun _ => apS_le fun _ => apS_le fun _ => apS_le fun _ => apS_le fun _ => apS_le fun _ => apS_le fun _ => apS_le fun _ => apS_le fun _ => apS_le fun _ => ap0_le fun _ => goR_eq 400 (by kernel_rfl)
noncomputable def g229_4 : List AV → CM := apS fun t2 => apS fun t3 => apS fun t4 => apS fun t5 => apS fun t11 => apS fun t12 => apS fun t13 => apS fun t14 => ap0 <|
CM.pu (p1 (fun a => fieldAddrA Tryz.prog 36 a 0) t2) fun x0 =>
CM.rm (q1 (loadA Tryz.prog 2) x0 ) fun x1 =>
CM.pu (p2 (binA Tryz.prog .lss 2) x1 (.int .i64 0)) fun x2 =>
CM.pu (p1 (fun a => fieldAddrA Tryz.prog 36 a 0) t3) fun x3 =>
CM.rm (q1 (loadA Tryz.prog 2) x3 ) fun x4 =>
CM.pu (p2 (binA Tryz.prog .lss 2) x4 (.int .i64 0)) fun x5 =>
CM.pu (p2 (binA Tryz.prog .neq 4) x2 x5) fun x6 =>
CM.call 234 [x6, t11, t12] fun x7 =>
CM.pu (p1 (fun a => extractA a 0) x7) fun x8 =>
CM.pu (p1 (fun a => extractA a 1) x7) fun x9 =>
CM.st (fun m => stV m t4 x8 2) <|
CM.pu (p2 (binA Tryz.prog .neq 23) x9 (.int .i64 0)) fun x11 =>
CM.cond x11 (
CM.pu (p1 (buildA Tryz.prog 36) []) fun x12 =>
CM.pu (p1 (buildA Tryz.prog 36) []) fun x13 =>
CM.st (fun m => stV m t4 x12 2) <|
CM.st (fun m => stV m t5 x13 2) <|
CM.resC Tryz.prog [ResultVar.cell 0 36, ResultVar.cell 1 36, ResultVar.tmp 2] [t4, t5, x9]) (
CM.go 937989 [t2, t4, t5, t13, t14])
theorem g229_4_ok : LeD (real E Mk Nk) g229_4 (fun ts m => goR E Mk 937988 ts m) := apS_le fun _ => apS_le fun _ => apS_le fun _ => apS_le fun _ => apS_le fun _ => apS_le fun _ => apS_le fun _ => apS_le fun _ => ap0_le fun _ => goR_eq 400 (by kernel_rfl)
noncomputable def g229_5 : List AV → CM := apS fun t2 => apS fun t4 => apS fun t5 => apS fun t13 => apS fun t14 => ap0 <|
CM.pu (p1 (fun a => fieldAddrA Tryz.prog 36 a 0) t2) fun x0 =>
CM.rm (q1 (loadA Tryz.prog 2) x0 ) fun x1 =>
CM.pu (p2 (binA Tryz.prog .lss 2) x1 (.int .i64 0)) fun x2 =>
CM.call 234 [x2, t13, t14] fun x3 =>
CM.pu (p1 (fun a => extractA a 0) x3) fun x4 =>
CM.pu (p1 (fun a => extractA a 1) x3) fun _ =>
CM.st (fun m => stV m t5 x4 2) <|
CM.rm (q1 (loadA Tryz.prog 36) t4 ) fun x7 =>
CM.rm (q1 (loadA Tryz.prog 36) t5 ) fun x8 =>
CM.st (fun m => stV m t4 x7 2) <|
CM.memo fun m11 =>
CM.chk (q1 (loadA Tryz.prog 36) t5 m11) x8 <|
CM.st (fun m => stV m t5 x8 2) <|
CM.resC Tryz.prog [ResultVar.cell 0 36, ResultVar.cell 1 36, ResultVar.tmp 2] [t4, t5, (.int .i64 0)]
theorem g229_5_ok : LeD (real E Mk Nk) g229_5 (fun ts m => goR E Mk 937989 ts m) := apS_le fun _ => apS_le fun _ => apS_le fun _ => apS_le fun _ => apS_le fun _ => ap0_le fun _ => goR_eq 400 (by kernel_rfl)
noncomputable def f229 : List AV → CM := apS fun a0 => apS fun a1 => ap0 <|
CM.al (boxA a0) fun x0 =>
CM.al (boxA a1) fun x1 =>
CM.al (some (.cells [(.int .i64 0), (.int .u64 0)] false, pB)) fun x2 =>
CM.al (some (.cells [(.int .i64 0), (.int .u64 0)] false, pB)) fun x3 =>
CM.rm (q1 (loadA Tryz.prog 36) x1 ) fun x4 =>
CM.pu (p1 (buildA Tryz.prog 36) []) fun x5 =>
CM.pu (p2 (binA Tryz.prog .eql 36) x4 x5) fun x6 =>
CM.cond x6 (
CM.rm (q1 (loadA Tryz.prog 36) x2 ) fun x7 =>
CM.rm (q1 (loadA Tryz.prog 36) x3 ) fun x8 =>
CM.st (fun m => stV m x2 x7 2) <|
CM.memo fun m11 =>
CM.chk (q1 (loadA Tryz.prog 36) x3 m11) x8 <|
CM.st (fun m => stV m x3 x8 2) <|
CM.resC Tryz.prog [ResultVar.cell 0 36, ResultVar.cell 1 36, ResultVar.tmp 2] [x2, x3, (.int .i64 22)]) (
CM.go 937984 [x0, x1, x2, x3])
theorem f229_ok : LeD (real E Mk Nk) f229 (fun xs m => run E (.fn 229) xs m) := apS_le fun _ => apS_le fun _ => ap0_le fun _ => run_eq 400 rfl (by kernel_rfl) (by kernel_rfl)
noncomputable def g230_0 : List AV → CM := apS fun t0 => apS fun t1 => apS fun t2 => ap0 <|
CM.pu (p2 (binA Tryz.prog .leq 26) t2 t0) fun x0 =>
CM.cond x0 (
CM.rm (q1 (loadA Tryz.prog 326) (.ptr (some ⟨1, 0⟩)) ) fun _ =>
CM.fail) (
CM.go 942081 [t0, t1, t2])
theorem g230_0_ok : LeD (real E Mk Nk) g230_0 (fun ts m => goR E Mk 942080 ts m) := apS_le fun _ => apS_le fun _ => apS_le fun _ => ap0_le fun _ => goR_eq 400 (by kernel_rfl)
noncomputable def g230_1 : List AV → CM := apS fun t0 => apS fun t1 => apS fun t2 => ap0 <|
CM.pu (p2 (binA Tryz.prog .eql 26) t0 (.int .u64 0)) fun x0 =>
CM.cond x0 (
CM.pu (p2 (binA Tryz.prog .quo 26) t1 t2) fun x1 =>
CM.pu (p2 (binA Tryz.prog .rem 26) t1 t2) fun x2 =>
CM.ret (.tup [x1, x2])) (
CM.go 942082 [t0, t1, t2])
theorem g230_1_ok : LeD (real E Mk Nk) g230_1 (fun ts m => goR E Mk 942081 ts m) := apS_le fun _ => apS_le fun _ => apS_le fun _ => ap0_le fun _ => goR_eq 400 (by kernel_rfl)
noncomputable def g230_2 : List AV → CM := apS fun t0 => apS fun t1 => apS fun t2 => ap0 <|
CM.call 235 [t2] fun x0 =>
CM.pu (p1 (convA Tryz.prog 3 66) x0) fun x1 =>
CM.pu (p2 (binA Tryz.prog .shl 26) t2 x1) fun x2 =>
CM.pu (p2 (binA Tryz.prog .shr 26) x2 (.int .u64 32)) fun x3 =>
CM.pu (p2 (binA Tryz.prog .and 26) x2 (.int .u64 4294967295)) fun x4 =>
CM.pu (p2 (binA Tryz.prog .shl 26) t0 x1) fun x5 =>
CM.pu (p2 (binA Tryz.prog .sub 66) (.int .u64 64) x1) fun x6 =>
CM.pu (p2 (binA Tryz.prog .shr 26) t1 x6) fun x7 =>
CM.pu (p2 (binA Tryz.prog .or 26) x5 x7) fun x8 =>
CM.pu (p2 (binA Tryz.prog .shl 26) t1 x1) fun x9 =>
CM.pu (p2 (binA Tryz.prog .shr 26) x9 (.int .u64 32)) fun x10 =>
CM.pu (p2 (binA Tryz.prog .and 26) x9 (.int .u64 4294967295)) fun x11 =>
CM.pu (p2 (binA Tryz.prog .quo 26) x8 x3) fun x12 =>
CM.pu (p2 (binA Tryz.prog .mul 26) x12 x3) fun x13 =>
CM.pu (p2 (binA Tryz.prog .sub 26) x8 x13) fun x14 =>
CM.go 942083 [x2, x1, x3, x4, x8, x10, x11, x12, x14]
theorem g230_2_ok : LeD (real E Mk Nk) g230_2 (fun ts m => goR E Mk 942082 ts m) := apS_le fun _ => apS_le fun _ => apS_le fun _ => ap0_le fun _ => goR_eq 400 (by kernel_rfl)
noncomputable def g230_3 : List AV → CM := apS fun t2 => apS fun t8 => apS fun t9 => apS fun t10 => apS fun t11 => apS fun t13 => apS fun t14 => apS fun t15 => apS fun t16 => ap0 <|
CM.pu (p2 (binA Tryz.prog .geq 26) t15 (.int .u64 4294967296)) fun x0 =>
CM.ifv x0 (
CM.go 942084 [t2, t8, t9, t10, t11, t13, t14, t15, t16]) (
CM.pu (p2 (binA Tryz.prog .mul 26) t15 t10) fun x1 =>
CM.pu (p2 (binA Tryz.prog .mul 26) (.int .u64 4294967296) t16) fun x2 =>
CM.pu (p2 (binA Tryz.prog .add 26) x2 t13) fun x3 =>
CM.pu (p2 (binA Tryz.prog .gtr 26) x1 x3) fun x4 =>
CM.cond x4 (
CM.go 942084 [t2, t8, t9, t10, t11, t13, t14, t15, t16]) (
CM.go 942085 [t2, t8, t9, t10, t11, t13, t14, t15]))
theorem g230_3_ok : LeD (real E Mk Nk) g230_3 (fun ts m => goR E Mk 942083 ts m) := apS_le fun _ => apS_le fun _ => apS_le fun _ => apS_le fun _ => apS_le fun _ => apS_le fun _ => apS_le fun _ => apS_le fun _ => apS_le fun _ => ap0_le fun _ => goR_eq 400 (by kernel_rfl)
noncomputable def g230_4 : List AV → CM := apS fun t2 => apS fun t8 => apS fun t9 => apS fun t10 => apS fun t11 => apS fun t13 => apS fun t14 => apS fun t15 => apS fun t16 => ap0 <|
CM.pu (p2 (binA Tryz.prog .sub 26) t15 (.int .u64 1)) fun x0 =>
CM.pu (p2 (binA Tryz.prog .add 26) t16 t9) fun x1 =>
CM.pu (p2 (binA Tryz.prog .geq 26) x1 (.int .u64 4294967296)) fun x2 =>
CM.cond x2 (
CM.go 942085 [t2, t8, t9, t10, t11, t13, t14, x0]) (
CM.go 942083 [t2, t8, t9, t10, t11, t13, t14, x0, x1])
theorem g230_4_ok : LeD (real E Mk Nk) g230_4 (fun ts m => goR E Mk 942084 ts m) := apS_le fun _ => apS_le fun _ => apS_le fun _ => apS_le fun _ => apS_le fun _ => apS_le fun _ => apS_le fun _ => apS_le fun _ => apS_le fun _ => ap0_le fun _ => goR_eq 400 (by kernel_rfl)
noncomputable def g230_5 : List AV → CM := apS fun t2 => apS fun t8 => apS fun t9 => apS fun t10 => apS fun t11 => apS fun t13 => apS fun t14 => apS fun t15 => ap0 <|
CM.pu (p2 (binA Tryz.prog .mul 26) t11 (.int .u64 4294967296)) fun x0 =>
CM.pu (p2 (binA Tryz.prog .add 26) x0 t13) fun x1 =>
CM.pu (p2 (binA Tryz.prog .mul 26) t15 t2) fun x2 =>
CM.pu (p2 (binA Tryz.prog .sub 26) x1 x2) fun x3 =>
CM.pu (p2 (binA Tryz.prog .quo 26) x3 t9) fun x4 =>
CM.pu (p2 (binA Tryz.prog .mul 26) x4 t9) fun x5 =>
CM.pu (p2 (binA Tryz.prog .sub 26) x3 x5) fun x6 =>
CM.go 942086 [t2, t8, t9, t10, t14, t15, x6, x3, x4]
theorem g230_5_ok : LeD (real E Mk Nk) g230_5 (fun ts m => goR E Mk 942085 ts m) := apS_le fun _ => apS_le fun _ => apS_le fun _ => apS_le fun _ => apS_le fun _ => apS_le fun _ => apS_le fun _ => apS_le fun _ => ap0_le fun _ => goR_eq 400 (by kernel_rfl)
noncomputable def g230_6 : List AV → CM := apS fun t2 => apS fun t8 => apS fun t9 => apS fun t10 => apS fun t14 => apS fun t15 => apS fun t16 => apS fun t17 => apS fun t18 => ap0 <|
CM.pu (p2 (binA Tryz.prog .geq 26) t18 (.int .u64 4294967296)) fun x0 =>
CM.ifv x0 (
CM.go 942087 [t2, t8, t9, t10, t14, t15, t16, t17, t18]) (
CM.pu (p2 (binA Tryz.prog .mul 26) t18 t10) fun x1 =>
CM.pu (p2 (binA Tryz.prog .mul 26) (.int .u64 4294967296) t16) fun x2 =>
CM.pu (p2 (binA Tryz.prog .add 26) x2 t14) fun x3 =>
CM.pu (p2 (binA Tryz.prog .gtr 26) x1 x3) fun x4 =>
CM.cond x4 (
CM.go 942087 [t2, t8, t9, t10, t14, t15, t16, t17, t18]) (
CM.go 942088 [t2, t8, t14, t15, t17, t18]))
theorem g230_6_ok : LeD (real E Mk Nk) g230_6 (fun ts m => goR E Mk 942086 ts m) := apS_le fun _ => apS_le fun _ => apS_le fun _ => apS_le fun _ => apS_le fun _ => apS_le fun _ => apS_le fun _ => apS_le fun _ => apS_le fun _ => ap0_le fun _ => goR_eq 400 (by kernel_rfl)
noncomputable def g230_7 : List AV → CM := apS fun t2 => apS fun t8 => apS fun t9 => apS fun t10 => apS fun t14 => apS fun t15 => apS fun t16 => apS fun t17 => apS fun t18 => ap0 <|
CM.pu (p2 (binA Tryz.prog .sub 26) t18 (.int .u64 1)) fun x0 =>
CM.pu (p2 (binA Tryz.prog .add 26) t16 t9) fun x1 =>
CM.pu (p2 (binA Tryz.prog .geq 26) x1 (.int .u64 4294967296)) fun x2 =>
CM.cond x2 (
CM.go 942088 [t2, t8, t14, t15, t17, x0]) (
CM.go 942086 [t2, t8, t9, t10, t14, t15, x1, t17, x0])
theorem g230_7_ok : LeD (real E Mk Nk) g230_7 (fun ts m => goR E Mk 942087 ts m) := apS_le fun _ => apS_le fun _ => apS_le fun _ => apS_le fun _ => apS_le fun _ => apS_le fun _ => apS_le fun _ => apS_le fun _ => apS_le fun _ => ap0_le fun _ => goR_eq 400 (by kernel_rfl)
noncomputable def g230_8 : List AV → CM := apS fun t2 => apS fun t8 => apS fun t14 => apS fun t15 => apS fun t17 => apS fun t18 => ap0 <|
CM.pu (p2 (binA Tryz.prog .mul 26) t15 (.int .u64 4294967296)) fun x0 =>
CM.pu (p2 (binA Tryz.prog .add 26) x0 t18) fun x1 =>
CM.pu (p2 (binA Tryz.prog .mul 26) t17 (.int .u64 4294967296)) fun x2 =>
CM.pu (p2 (binA Tryz.prog .add 26) x2 t14) fun x3 =>
CM.pu (p2 (binA Tryz.prog .mul 26) t18 t2) fun x4 =>
CM.pu (p2 (binA Tryz.prog .sub 26) x3 x4) fun x5 =>
CM.pu (p2 (binA Tryz.prog .shr 26) x5 t8) fun x6 =>
CM.ret (.tup [x1, x6])
theorem g230_8_ok : LeD (real E Mk Nk) g230_8 (fun ts m => goR E Mk 942088 ts m) := apS_le fun _ => apS_le fun _ => apS_le fun _ => apS_le fun _ => apS_le fun _ => apS_le fun _ => ap0_le fun _ => goR_eq 400 (by kernel_rfl)
noncomputable def f230 : List AV → CM := apS fun a0 => apS fun a1 => apS fun a2 => ap0 <|
CM.pu (p2 (binA Tryz.prog .eql 26) a2 (.int .u64 0)) fun x0 =>
CM.cond x0 (
CM.rm (q1 (loadA Tryz.prog 326) (.ptr (some ⟨0, 0⟩)) ) fun _ =>
CM.fail) (
CM.go 942080 [a0, a1, a2])
theorem f230_ok : LeD (real E Mk Nk) f230 (fun xs m => run E (.fn 230) xs m) := apS_le fun _ => apS_le fun _ => apS_le fun _ => ap0_le fun _ => run_eq 400 rfl (by kernel_rfl) (by kernel_rfl)
noncomputable def g231_0 : List AV → CM := apS fun t1 => ap0 <|
CM.pu (p1 (fun a => fieldAddrA Tryz.prog 36 a 1) t1) fun x0 =>
CM.rm (q1 (loadA Tryz.prog 26) x0 ) fun x1 =>
CM.call 211 [(.int .u64 0), x1, (.int .u64 0)] fun x2 =>
CM.pu (p1 (fun a => extractA a 0) x2) fun x3 =>
CM.pu (p1 (fun a => extractA a 1) x2) fun x4 =>
CM.pu (p1 (fun a => fieldAddrA Tryz.prog 36 a 0) t1) fun x5 =>
CM.rm (q1 (loadA Tryz.prog 2) x5 ) fun x6 =>
CM.pu (p1 (convA Tryz.prog 2 26) x6) fun x7 =>
CM.call 211 [(.int .u64 0), x7, x4] fun x8 =>
CM.pu (p1 (fun a => extractA a 0) x8) fun x9 =>
CM.pu (p1 (fun a => extractA a 1) x8) fun _ =>
CM.ret (.tup [x9, x3])
theorem g231_0_ok : LeD (real E Mk Nk) g231_0 (fun ts m => goR E Mk 946176 ts m) := apS_le fun _ => ap0_le fun _ => goR_eq 400 (by kernel_rfl)
noncomputable def f231 : List AV → CM := apS fun a0 => ap0 <|
CM.al (boxA a0) fun x0 =>
CM.pu (p1 (fun a => fieldAddrA Tryz.prog 36 a 0) x0) fun x1 =>
CM.rm (q1 (loadA Tryz.prog 2) x1 ) fun x2 =>
CM.pu (p2 (binA Tryz.prog .geq 2) x2 (.int .i64 0)) fun x3 =>
CM.cond x3 (
CM.pu (p1 (fun a => fieldAddrA Tryz.prog 36 a 0) x0) fun x4 =>
CM.rm (q1 (loadA Tryz.prog 2) x4 ) fun x5 =>
CM.pu (p1 (convA Tryz.prog 2 26) x5) fun x6 =>
CM.pu (p1 (fun a => fieldAddrA Tryz.prog 36 a 1) x0) fun x7 =>
CM.rm (q1 (loadA Tryz.prog 26) x7 ) fun x8 =>
CM.ret (.tup [x6, x8])) (
CM.go 946176 [x0])
theorem f231_ok : LeD (real E Mk Nk) f231 (fun xs m => run E (.fn 231) xs m) := apS_le fun _ => ap0_le fun _ => run_eq 400 rfl (by kernel_rfl) (by kernel_rfl)
noncomputable def f232 : List AV → CM := apS fun a0 => apS fun a1 => ap0 <|
CM.pu (p2 (binA Tryz.prog .and 26) a0 (.int .u64 4294967295)) fun x0 =>
CM.pu (p2 (binA Tryz.prog .shr 26) a0 (.int .u64 32)) fun x1 =>
CM.pu (p2 (binA Tryz.prog .and 26) a1 (.int .u64 4294967295)) fun x2 =>
CM.pu (p2 (binA Tryz.prog .shr 26) a1 (.int .u64 32)) fun x3 =>
CM.pu (p2 (binA Tryz.prog .mul 26) x0 x2) fun x4 =>
CM.pu (p2 (binA Tryz.prog .mul 26) x1 x2) fun x5 =>
CM.pu (p2 (binA Tryz.prog .shr 26) x4 (.int .u64 32)) fun x6 =>
CM.pu (p2 (binA Tryz.prog .add 26) x5 x6) fun x7 =>
CM.pu (p2 (binA Tryz.prog .and 26) x7 (.int .u64 4294967295)) fun x8 =>
CM.pu (p2 (binA Tryz.prog .shr 26) x7 (.int .u64 32)) fun x9 =>
CM.pu (p2 (binA Tryz.prog .mul 26) x0 x3) fun x10 =>
CM.pu (p2 (binA Tryz.prog .add 26) x8 x10) fun x11 =>
CM.pu (p2 (binA Tryz.prog .mul 26) x1 x3) fun x12 =>
CM.pu (p2 (binA Tryz.prog .add 26) x12 x9) fun x13 =>
CM.pu (p2 (binA Tryz.prog .shr 26) x11 (.int .u64 32)) fun x14 =>
CM.pu (p2 (binA Tryz.prog .add 26) x13 x14) fun x15 =>
CM.pu (p2 (binA Tryz.prog .mul 26) a0 a1) fun x16 =>
CM.ret (.tup [x15, x16])
theorem f232_ok : LeD (real E Mk Nk) f232 (fun xs m => run E (.fn 232) xs m) := apS_le fun _ => apS_le fun _ => ap0_le fun _ => run_eq 400 rfl (by kernel_rfl) (by kernel_rfl)
noncomputable def f233 : List AV → CM := apS fun a0 => apS fun a1 => apS fun a2 => apS fun a3 => ap0 <|
CM.call 232 [a0, a1] fun x0 =>
CM.pu (p1 (fun a => extractA a 0) x0) fun x1 =>
CM.pu (p1 (fun a => extractA a 1) x0) fun x2 =>
CM.pu (p2 (indexAddrA Tryz.prog 311) a3 a2) fun x3 =>
CM.rm (q1 (loadA Tryz.prog 26) x3 ) fun x4 =>
CM.call 212 [x4, x2, (.int .u64 0)] fun x5 =>
CM.pu (p1 (fun a => extractA a 0) x5) fun x6 =>
CM.pu (p1 (fun a => extractA a 1) x5) fun x7 =>
CM.pu (p2 (indexAddrA Tryz.prog 311) a3 a2) fun x8 =>
CM.st (fun m => stV m x8 x6 1) <|
CM.pu (p2 (binA Tryz.prog .add 3) a2 (.int .i64 1)) fun x10 =>
CM.pu (p2 (binA Tryz.prog .add 3) a2 (.int .i64 1)) fun x11 =>
CM.pu (p2 (indexAddrA Tryz.prog 311) a3 x11) fun x12 =>
CM.rm (q1 (loadA Tryz.prog 26) x12 ) fun x13 =>
CM.call 212 [x13, x1, x7] fun x14 =>
CM.pu (p1 (fun a => extractA a 0) x14) fun x15 =>
CM.pu (p1 (fun a => extractA a 1) x14) fun x16 =>
CM.pu (p2 (indexAddrA Tryz.prog 311) a3 x10) fun x17 =>
CM.st (fun m => stV m x17 x15 1) <|
CM.pu (p2 (binA Tryz.prog .add 3) a2 (.int .i64 2)) fun x19 =>
CM.pu (p2 (binA Tryz.prog .lss 3) x19 (.int .i64 4)) fun x20 =>
CM.cond x20 (
CM.pu (p2 (binA Tryz.prog .add 3) a2 (.int .i64 2)) fun x21 =>
CM.pu (p2 (indexAddrA Tryz.prog 311) a3 x21) fun x22 =>
CM.rm (q1 (loadA Tryz.prog 26) x22 ) fun x23 =>
CM.pu (p2 (binA Tryz.prog .add 26) x23 x16) fun x24 =>
CM.pu (p2 (indexAddrA Tryz.prog 311) a3 x21) fun x25 =>
CM.st (fun m => stV m x25 x24 1) <|
CM.ret .undef) (
CM.ret .undef)
theorem f233_ok : LeD (real E Mk Nk) f233 (fun xs m => run E (.fn 233) xs m) := apS_le fun _ => apS_le fun _ => apS_le fun _ => apS_le fun _ => ap0_le fun _ => run_eq 400 rfl (by kernel_rfl) (by kernel_rfl)
noncomputable def g234_0 : List AV → CM := apS fun t1 => apS fun t2 => apS fun t6 => ap0 <|
CM.pu (p1 (convA Tryz.prog 26 2) t1) fun x0 =>
CM.pu (p1 (buildA Tryz.prog 36) [(0, x0), (1, t2)]) fun x1 =>
CM.st (fun m => stV m t6 x1 2) <|
CM.resC Tryz.prog [ResultVar.cell 0 36, ResultVar.tmp 1] [t6, (.int .i64 0)]
theorem g234_0_ok : LeD (real E Mk Nk) g234_0 (fun ts m => goR E Mk 958464 ts m) := apS_le fun _ => apS_le fun _ => apS_le fun _ => ap0_le fun _ => goR_eq 400 (by kernel_rfl)
noncomputable def g234_1 : List AV → CM := apS fun t1 => apS fun t2 => apS fun t6 => ap0 <|
CM.pu (p2 (binA Tryz.prog .gtr 26) t1 (.int .u64 9223372036854775808)) fun x0 =>
CM.ifv x0 (
CM.pu (p1 (buildA Tryz.prog 36) []) fun x1 =>
CM.st (fun m => stV m t6 x1 2) <|
CM.resC Tryz.prog [ResultVar.cell 0 36, ResultVar.tmp 1] [t6, (.int .i64 20)]) (
CM.pu (p2 (binA Tryz.prog .eql 26) t1 (.int .u64 9223372036854775808)) fun x3 =>
CM.ifv x3 (
CM.pu (p2 (binA Tryz.prog .gtr 26) t2 (.int .u64 0)) fun x4 =>
CM.cond x4 (
CM.pu (p1 (buildA Tryz.prog 36) []) fun x5 =>
CM.st (fun m => stV m t6 x5 2) <|
CM.resC Tryz.prog [ResultVar.cell 0 36, ResultVar.tmp 1] [t6, (.int .i64 20)]) (
CM.go 958466 [t1, t2, t6])) (
CM.go 958466 [t1, t2, t6]))
theorem g234_1_ok : LeD (real E Mk Nk) g234_1 (fun ts m => goR E Mk 958465 ts m) := apS_le fun _ => apS_le fun _ => apS_le fun _ => ap0_le fun _ => goR_eq 400 (by kernel_rfl)
noncomputable def g234_2 : List AV → CM := apS fun t1 => apS fun t2 => apS fun t6 => ap0 <|
CM.call 211 [(.int .u64 0), t2, (.int .u64 0)] fun x0 =>
CM.pu (p1 (fun a => extractA a 0) x0) fun x1 =>
CM.pu (p1 (fun a => extractA a 1) x0) fun x2 =>
CM.call 211 [(.int .u64 0), t1, x2] fun x3 =>
CM.pu (p1 (fun a => extractA a 0) x3) fun x4 =>
CM.pu (p1 (fun a => extractA a 1) x3) fun _ =>
CM.pu (p1 (convA Tryz.prog 26 2) x4) fun x6 =>
CM.pu (p1 (buildA Tryz.prog 36) [(0, x6), (1, x1)]) fun x7 =>
CM.st (fun m => stV m t6 x7 2) <|
CM.resC Tryz.prog [ResultVar.cell 0 36, ResultVar.tmp 1] [t6, (.int .i64 0)]
theorem g234_2_ok : LeD (real E Mk Nk) g234_2 (fun ts m => goR E Mk 958466 ts m) := apS_le fun _ => apS_le fun _ => apS_le fun _ => ap0_le fun _ => goR_eq 400 (by kernel_rfl)
noncomputable def f234 : List AV → CM := apS fun a0 => apS fun a1 => apS fun a2 => ap0 <|
CM.al (some (.cells [(.int .i64 0), (.int .u64 0)] false, pB)) fun x0 =>
CM.pu (p1 (unA .not) a0) fun x1 =>
CM.cond x1 (
CM.pu (p2 (binA Tryz.prog .geq 26) a1 (.int .u64 9223372036854775808)) fun x2 =>
CM.cond x2 (
CM.pu (p1 (buildA Tryz.prog 36) []) fun x3 =>
CM.st (fun m => stV m x0 x3 2) <|
CM.resC Tryz.prog [ResultVar.cell 0 36, ResultVar.tmp 1] [x0, (.int .i64 20)]) (
CM.go 958464 [a1, a2, x0])) (
CM.go 958465 [a1, a2, x0])
theorem f234_ok : LeD (real E Mk Nk) f234 (fun xs m => run E (.fn 234) xs m) := apS_le fun _ => apS_le fun _ => apS_le fun _ => ap0_le fun _ => run_eq 400 rfl (by kernel_rfl) (by kernel_rfl)
noncomputable def f235 : List AV → CM := apS fun a0 => ap0 <|
CM.call 236 [a0] fun x0 =>
CM.pu (p2 (binA Tryz.prog .sub 3) (.int .i64 64) x0) fun x1 =>
CM.ret x1
theorem f235_ok : LeD (real E Mk Nk) f235 (fun xs m => run E (.fn 235) xs m) := apS_le fun _ => ap0_le fun _ => run_eq 400 rfl (by kernel_rfl) (by kernel_rfl)
noncomputable def g236_0 : List AV → CM := apS fun t0 => apS fun t2 => ap0 <|
CM.pu (p2 (binA Tryz.prog .geq 26) t0 (.int .u64 65536)) fun x0 =>
CM.cond x0 (
CM.pu (p2 (binA Tryz.prog .shr 26) t0 (.int .u64 16)) fun x1 =>
CM.pu (p2 (binA Tryz.prog .add 3) t2 (.int .i64 16)) fun x2 =>
CM.go 966657 [x1, x2]) (
CM.go 966657 [t0, t2])
theorem g236_0_ok : LeD (real E Mk Nk) g236_0 (fun ts m => goR E Mk 966656 ts m) := apS_le fun _ => apS_le fun _ => ap0_le fun _ => goR_eq 400 (by kernel_rfl)
noncomputable def g236_1 : List AV → CM := apS fun t0 => apS fun t2 => ap0 <|
CM.pu (p2 (binA Tryz.prog .geq 26) t0 (.int .u64 256)) fun x0 =>
CM.cond x0 (
CM.pu (p2 (binA Tryz.prog .shr 26) t0 (.int .u64 8)) fun x1 =>
CM.pu (p2 (binA Tryz.prog .add 3) t2 (.int .i64 8)) fun x2 =>
CM.go 966658 [x1, x2]) (
CM.go 966658 [t0, t2])
theorem g236_1_ok : LeD (real E Mk Nk) g236_1 (fun ts m => goR E Mk 966657 ts m) := apS_le fun _ => apS_le fun _ => ap0_le fun _ => goR_eq 400 (by kernel_rfl)
noncomputable def g236_2 : List AV → CM := apS fun t0 => apS fun t2 => ap0 <|
CM.pu (p1 (convA Tryz.prog 26 5) t0) fun x0 =>
CM.pu (p2 (indexA Tryz.prog 9) (.str [0, 1, 2, 2, 3, 3, 3, 3, 4, 4, 4, 4, 4, 4, 4, 4, 5, 5, 5, 5, 5, 5, 5, 5, 5, 5, 5, 5, 5, 5, 5, 5, 6, 6, 6, 6, 6, 6, 6, 6, 6, 6, 6, 6, 6, 6, 6, 6, 6, 6, 6, 6, 6, 6, 6, 6, 6, 6, 6, 6, 6, 6, 6, 6, 7, 7, 7, 7, 7, 7, 7, 7, 7, 7, 7, 7, 7, 7, 7, 7, 7, 7, 7, 7, 7, 7, 7, 7, 7, 7, 7, 7, 7, 7, 7, 7, 7, 7, 7, 7, 7, 7, 7, 7, 7, 7, 7, 7, 7, 7, 7, 7, 7, 7, 7, 7, 7, 7, 7, 7, 7, 7, 7, 7, 7, 7, 7, 7, 8, 8, 8, 8, 8, 8, 8, 8, 8, 8, 8, 8, 8, 8, 8, 8, 8, 8, 8, 8, 8, 8, 8, 8, 8, 8, 8, 8, 8, 8, 8, 8, 8, 8, 8, 8, 8, 8, 8, 8, 8, 8, 8, 8, 8, 8, 8, 8, 8, 8, 8, 8, 8, 8, 8, 8, 8, 8, 8, 8, 8, 8, 8, 8, 8, 8, 8, 8, 8, 8, 8, 8, 8, 8, 8, 8, 8, 8, 8, 8, 8, 8, 8, 8, 8, 8, 8, 8, 8, 8, 8, 8, 8, 8, 8, 8, 8, 8, 8, 8, 8, 8, 8, 8, 8, 8, 8, 8, 8, 8, 8, 8, 8, 8, 8, 8, 8, 8, 8, 8, 8, 8, 8, 8, 8, 8, 8, 8]) x0) fun x1 =>
CM.pu (p1 (convA Tryz.prog 5 3) x1) fun x2 =>
CM.pu (p2 (binA Tryz.prog .add 3) t2 x2) fun x3 =>
CM.ret x3
theorem g236_2_ok : LeD (real E Mk Nk) g236_2 (fun ts m => goR E Mk 966658 ts m) := apS_le fun _ => apS_le fun _ => ap0_le fun _ => goR_eq 400 (by kernel_rfl)
noncomputable def f236 : List AV → CM := apS fun a0 => ap0 <|
CM.pu (p2 (binA Tryz.prog .geq 26) a0 (.int .u64 4294967296)) fun x0 =>
CM.cond x0 (
CM.pu (p2 (binA Tryz.prog .shr 26) a0 (.int .u64 32)) fun x1 =>
CM.go 966656 [x1, (.int .i64 32)]) (
CM.go 966656 [a0, (.int .i64 0)])
theorem f236_ok : LeD (real E Mk Nk) f236 (fun xs m => run E (.fn 236) xs m) := apS_le fun _ => ap0_le fun _ => run_eq 400 rfl (by kernel_rfl) (by kernel_rfl)
end Go.Proofs.YtfiipajgdhafaaaGreat.T
