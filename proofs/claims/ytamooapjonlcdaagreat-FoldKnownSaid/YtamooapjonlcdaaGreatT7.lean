/- Functions as trees, printed by our own program (wip/tools/gen3.lean). -/
import Derived.Test.YtamooapjonlcdaaGreatT0
namespace Go.Proofs.YtamooapjonlcdaaGreat.T
open Go Go.Abs Go.Proofs.YtamooapjonlcdaaGreat
set_option maxRecDepth 10000
noncomputable def g194_0 : List AV → CM := apS fun t0 => apS fun t2 => ap0 <|
CM.pu (p1 (buildA Tryz.prog 35) [(1, (.int .u64 1))]) fun x0 =>
CM.al (some (.cells [(.int .i64 0), (.int .u64 0)] false, pB)) fun x1 =>
CM.st (fun m => stV m x1 x0 2) <|
CM.go 794625 [t0, t2, x1]
theorem g194_0_ok : LeD (real E Mk Nk) g194_0 (fun ts m => goR E Mk 794624 ts m) := apS_le fun _ => apS_le fun _ => ap0_le fun _ => goR_eq 400 (by kernel_rfl)
noncomputable def g194_1 : List AV → CM := apS fun t0 => apS fun t2 => apS fun t4 => ap0 <|
CM.pu (p2 (binA Tryz.prog .gtr 3) t0 (.int .i64 0)) fun x0 =>
CM.cond x0 (
CM.go 794626 [t0, t2, t4]) (
CM.go 794628 [t2, t4])
theorem g194_1_ok : LeD (real E Mk Nk) g194_1 (fun ts m => goR E Mk 794625 ts m) := apS_le fun _ => apS_le fun _ => apS_le fun _ => ap0_le fun _ => goR_eq 400 (by kernel_rfl)
noncomputable def g194_2 : List AV → CM := apS fun t0 => apS fun t2 => apS fun t4 => ap0 <|
CM.rm (q1 (loadA Tryz.prog 35) t4 ) fun x0 =>
CM.pu (p1 (buildA Tryz.prog 35) [(1, (.int .u64 10))]) fun x1 =>
CM.call 151 [x0, x1] fun x2 =>
CM.pu (p1 (fun a => extractA a 0) x2) fun x3 =>
CM.pu (p1 (fun a => extractA a 1) x2) fun _ =>
CM.st (fun m => stV m t4 x3 2) <|
CM.go 794627 [t0, t2, t4]
theorem g194_2_ok : LeD (real E Mk Nk) g194_2 (fun ts m => goR E Mk 794626 ts m) := apS_le fun _ => apS_le fun _ => apS_le fun _ => ap0_le fun _ => goR_eq 400 (by kernel_rfl)
noncomputable def g194_3 : List AV → CM := apS fun t0 => apS fun t2 => apS fun t4 => ap0 <|
CM.pu (p2 (binA Tryz.prog .sub 3) t0 (.int .i64 1)) fun x0 =>
CM.go 794625 [x0, t2, t4]
theorem g194_3_ok : LeD (real E Mk Nk) g194_3 (fun ts m => goR E Mk 794627 ts m) := apS_le fun _ => apS_le fun _ => apS_le fun _ => ap0_le fun _ => goR_eq 400 (by kernel_rfl)
noncomputable def g194_4 : List AV → CM := apS fun t2 => apS fun t4 => ap0 <|
CM.rm (q1 (loadA Tryz.prog 35) t4 ) fun x0 =>
CM.st (fun m => stV m t2 x0 2) <|
CM.resC Tryz.prog [ResultVar.cell 0 35, ResultVar.tmp 1] [t2, (.int .i64 0)]
theorem g194_4_ok : LeD (real E Mk Nk) g194_4 (fun ts m => goR E Mk 794628 ts m) := apS_le fun _ => apS_le fun _ => ap0_le fun _ => goR_eq 400 (by kernel_rfl)
noncomputable def f194 : List AV → CM := apS fun a0 => ap0 <|
CM.al (some (.cells [(.int .i64 0), (.int .u64 0)] false, pB)) fun x0 =>
CM.pu (p2 (binA Tryz.prog .lss 3) a0 (.int .i64 0)) fun x1 =>
CM.ifv x1 (
CM.pu (p1 (buildA Tryz.prog 35) []) fun x2 =>
CM.st (fun m => stV m x0 x2 2) <|
CM.resC Tryz.prog [ResultVar.cell 0 35, ResultVar.tmp 1] [x0, (.int .i64 1)]) (
CM.pu (p2 (binA Tryz.prog .gtr 3) a0 (.int .i64 38)) fun x4 =>
CM.cond x4 (
CM.pu (p1 (buildA Tryz.prog 35) []) fun x5 =>
CM.st (fun m => stV m x0 x5 2) <|
CM.resC Tryz.prog [ResultVar.cell 0 35, ResultVar.tmp 1] [x0, (.int .i64 1)]) (
CM.go 794624 [a0, x0]))
theorem f194_ok : LeD (real E Mk Nk) f194 (fun xs m => run E (.fn 194) xs m) := apS_le fun _ => ap0_le fun _ => run_eq 400 rfl (by kernel_rfl) (by kernel_rfl)
noncomputable def g195_0 : List AV → CM := apS fun t0 => apS fun t1 => apS fun t7 => apS fun t8 => ap0 <|
CM.pu (p2 (binA Tryz.prog .add 3) t1 t8) fun x0 =>
CM.pu (p1 (lenT Tryz.prog 68) t0) fun x1 =>
CM.pu (p2 (binA Tryz.prog .geq 3) x0 x1) fun x2 =>
CM.cond x2 (
CM.ret (.tup [(.int .u64 0), (.int .i64 10), (.int .i64 0)])) (
CM.go 798721 [t0, t1, t7, t8])
theorem g195_0_ok : LeD (real E Mk Nk) g195_0 (fun ts m => goR E Mk 798720 ts m) := apS_le fun _ => apS_le fun _ => apS_le fun _ => apS_le fun _ => ap0_le fun _ => goR_eq 400 (by kernel_rfl)
noncomputable def g195_1 : List AV → CM := apS fun t0 => apS fun t1 => apS fun t7 => apS fun t8 => ap0 <|
CM.pu (p2 (binA Tryz.prog .add 3) t1 t8) fun x0 =>
CM.pu (p2 (indexAddrA Tryz.prog 68) t0 x0) fun x1 =>
CM.rm (q1 (loadA Tryz.prog 5) x1 ) fun x2 =>
CM.pu (p2 (binA Tryz.prog .eql 3) t8 (.int .i64 9)) fun x3 =>
CM.ifv x3 (
CM.pu (p2 (binA Tryz.prog .gtr 5) x2 (.int .u8 1)) fun x4 =>
CM.cond x4 (
CM.ret (.tup [(.int .u64 0), (.int .i64 11), (.int .i64 0)])) (
CM.go 798722 [t0, t1, t7, t8, x2])) (
CM.go 798722 [t0, t1, t7, t8, x2])
theorem g195_1_ok : LeD (real E Mk Nk) g195_1 (fun ts m => goR E Mk 798721 ts m) := apS_le fun _ => apS_le fun _ => apS_le fun _ => apS_le fun _ => ap0_le fun _ => goR_eq 400 (by kernel_rfl)
noncomputable def g195_2 : List AV → CM := apS fun t0 => apS fun t1 => apS fun t7 => apS fun t8 => apS fun t9 => ap0 <|
CM.pu (p2 (binA Tryz.prog .and 5) t9 (.int .u8 127)) fun x0 =>
CM.pu (p1 (convA Tryz.prog 5 30) x0) fun x1 =>
CM.pu (p2 (binA Tryz.prog .mul 3) (.int .i64 7) t8) fun x2 =>
CM.pu (p1 (convA Tryz.prog 3 173) x2) fun x3 =>
CM.pu (p2 (binA Tryz.prog .shl 30) x1 x3) fun x4 =>
CM.pu (p2 (binA Tryz.prog .or 30) t7 x4) fun x5 =>
CM.pu (p2 (binA Tryz.prog .geq 5) t9 (.int .u8 128)) fun x6 =>
CM.cond x6 (
CM.go 798725 [t0, t1, x5, t8]) (
CM.go 798723 [t1, x5, t8, t9])
theorem g195_2_ok : LeD (real E Mk Nk) g195_2 (fun ts m => goR E Mk 798722 ts m) := apS_le fun _ => apS_le fun _ => apS_le fun _ => apS_le fun _ => apS_le fun _ => ap0_le fun _ => goR_eq 400 (by kernel_rfl)
noncomputable def g195_3 : List AV → CM := apS fun t1 => apS fun t7 => apS fun t8 => apS fun t9 => ap0 <|
CM.pu (p2 (binA Tryz.prog .eql 5) t9 (.int .u8 0)) fun x0 =>
CM.ifv x0 (
CM.pu (p2 (binA Tryz.prog .gtr 3) t8 (.int .i64 0)) fun x1 =>
CM.cond x1 (
CM.ret (.tup [(.int .u64 0), (.int .i64 11), (.int .i64 0)])) (
CM.go 798724 [t1, t7, t8])) (
CM.go 798724 [t1, t7, t8])
theorem g195_3_ok : LeD (real E Mk Nk) g195_3 (fun ts m => goR E Mk 798723 ts m) := apS_le fun _ => apS_le fun _ => apS_le fun _ => apS_le fun _ => ap0_le fun _ => goR_eq 400 (by kernel_rfl)
noncomputable def g195_4 : List AV → CM := apS fun t1 => apS fun t7 => apS fun t8 => ap0 <|
CM.pu (p2 (binA Tryz.prog .add 3) t1 t8) fun x0 =>
CM.pu (p2 (binA Tryz.prog .add 3) x0 (.int .i64 1)) fun x1 =>
CM.ret (.tup [t7, (.int .i64 0), x1])
theorem g195_4_ok : LeD (real E Mk Nk) g195_4 (fun ts m => goR E Mk 798724 ts m) := apS_le fun _ => apS_le fun _ => apS_le fun _ => ap0_le fun _ => goR_eq 400 (by kernel_rfl)
noncomputable def g195_5 : List AV → CM := apS fun t0 => apS fun t1 => apS fun t7 => apS fun t8 => ap0 <|
CM.pu (p2 (binA Tryz.prog .add 3) t8 (.int .i64 1)) fun x0 =>
CM.go 798720 [t0, t1, t7, x0]
theorem g195_5_ok : LeD (real E Mk Nk) g195_5 (fun ts m => goR E Mk 798725 ts m) := apS_le fun _ => apS_le fun _ => apS_le fun _ => apS_le fun _ => ap0_le fun _ => goR_eq 400 (by kernel_rfl)
noncomputable def f195 : List AV → CM := apS fun a0 => apS fun a1 => ap0 <|
CM.go 798720 [a0, a1, (.int .u64 0), (.int .i64 0)]
theorem f195_ok : LeD (real E Mk Nk) f195 (fun xs m => run E (.fn 195) xs m) := apS_le fun _ => apS_le fun _ => ap0_le fun _ => run_eq 400 rfl (by kernel_rfl) (by kernel_rfl)
noncomputable def f196 : List AV → CM := apS fun a0 => ap0 <|
CM.call 161 [a0, (.int .u64 18446744073709551615)] fun x0 =>
CM.pu (p2 (binA Tryz.prog .shr 30) x0 (.int .u64 1)) fun x1 =>
CM.pu (p1 (convA Tryz.prog 30 2) x1) fun x2 =>
CM.pu (p2 (binA Tryz.prog .and 30) x0 (.int .u64 1)) fun x3 =>
CM.pu (p1 (convA Tryz.prog 30 2) x3) fun x4 =>
CM.pu (p1 (unA .neg) x4) fun x5 =>
CM.pu (p2 (binA Tryz.prog .xor 2) x2 x5) fun x6 =>
CM.ret x6
theorem f196_ok : LeD (real E Mk Nk) f196 (fun xs m => run E (.fn 196) xs m) := apS_le fun _ => ap0_le fun _ => run_eq 400 rfl (by kernel_rfl) (by kernel_rfl)
noncomputable def f197 : List AV → CM := apS fun a0 => ap0 <|
CM.pu (p2 (binA Tryz.prog .geq 30) a0 (.int .u64 1)) fun x0 =>
CM.ifv x0 (
CM.pu (p2 (binA Tryz.prog .leq 30) a0 (.int .u64 72057594037927935)) fun x1 =>
CM.ret x1) (
CM.ret (.bool false))
theorem f197_ok : LeD (real E Mk Nk) f197 (fun xs m => run E (.fn 197) xs m) := apS_le fun _ => ap0_le fun _ => run_eq 400 rfl (by kernel_rfl) (by kernel_rfl)
noncomputable def f199 : List AV → CM := apS fun a0 => apS fun a1 => ap0 <|
CM.pu (p1 (lenT Tryz.prog 75) a0) fun x0 =>
CM.pu (p2 (binA Tryz.prog .sub 3) x0 a1) fun x1 =>
CM.call 217 [a0, x1] fun _ =>
CM.ret .undef
theorem f199_ok : LeD (real E Mk Nk) f199 (fun xs m => run E (.fn 199) xs m) := apS_le fun _ => apS_le fun _ => ap0_le fun _ => run_eq 400 rfl (by kernel_rfl) (by kernel_rfl)
noncomputable def g200_0 : List AV → CM := apS fun t1 => ap0 <|
CM.pu (p2 (binA Tryz.prog .geq 30) t1 (.int .u64 1)) fun x0 =>
CM.ifv x0 (
CM.pu (p2 (binA Tryz.prog .leq 30) t1 (.int .u64 72057594037927935)) fun x1 =>
CM.ret x1) (
CM.ret (.bool false))
theorem g200_0_ok : LeD (real E Mk Nk) g200_0 (fun ts m => goR E Mk 819200 ts m) := apS_le fun _ => ap0_le fun _ => goR_eq 400 (by kernel_rfl)
noncomputable def f200 : List AV → CM := apS fun a0 => apS fun a1 => ap0 <|
CM.pu (p1 (unA .not) a0) fun x0 =>
CM.cond x0 (
CM.pu (p2 (binA Tryz.prog .eql 30) a1 (.int .u64 0)) fun x1 =>
CM.ret x1) (
CM.go 819200 [a1])
theorem f200_ok : LeD (real E Mk Nk) f200 (fun xs m => run E (.fn 200) xs m) := apS_le fun _ => apS_le fun _ => ap0_le fun _ => run_eq 400 rfl (by kernel_rfl) (by kernel_rfl)
noncomputable def g201_0 : List AV → CM := apS fun t1 => ap0 <|
CM.call 218 [t1] fun x0 =>
CM.ret x0
theorem g201_0_ok : LeD (real E Mk Nk) g201_0 (fun ts m => goR E Mk 823296 ts m) := apS_le fun _ => ap0_le fun _ => goR_eq 400 (by kernel_rfl)
noncomputable def f201 : List AV → CM := apS fun a0 => apS fun a1 => ap0 <|
CM.pu (p1 (unA .not) a0) fun x0 =>
CM.cond x0 (
CM.pu (p2 (binA Tryz.prog .eql 9) a1 (.str [])) fun x1 =>
CM.ret x1) (
CM.go 823296 [a1])
theorem f201_ok : LeD (real E Mk Nk) f201 (fun xs m => run E (.fn 201) xs m) := apS_le fun _ => apS_le fun _ => ap0_le fun _ => run_eq 400 rfl (by kernel_rfl) (by kernel_rfl)
noncomputable def g202_0 : List AV → CM := apS fun t0 => ap0 <|
CM.pu (p1 (convA Tryz.prog 2 30) t0) fun x0 =>
CM.pu (p2 (binA Tryz.prog .mul 30) x0 (.int .u64 2)) fun x1 =>
CM.call 169 [x1] fun x2 =>
CM.ret x2
theorem g202_0_ok : LeD (real E Mk Nk) g202_0 (fun ts m => goR E Mk 827392 ts m) := apS_le fun _ => ap0_le fun _ => goR_eq 400 (by kernel_rfl)
noncomputable def f202 : List AV → CM := apS fun a0 => ap0 <|
CM.pu (p2 (binA Tryz.prog .lss 2) a0 (.int .i64 0)) fun x0 =>
CM.cond x0 (
CM.pu (p2 (binA Tryz.prog .add 2) a0 (.int .i64 1)) fun x1 =>
CM.pu (p1 (unA .neg) x1) fun x2 =>
CM.pu (p1 (convA Tryz.prog 2 30) x2) fun x3 =>
CM.pu (p2 (binA Tryz.prog .mul 30) x3 (.int .u64 2)) fun x4 =>
CM.pu (p2 (binA Tryz.prog .add 30) x4 (.int .u64 1)) fun x5 =>
CM.call 169 [x5] fun x6 =>
CM.ret x6) (
CM.go 827392 [a0])
theorem f202_ok : LeD (real E Mk Nk) f202 (fun xs m => run E (.fn 202) xs m) := apS_le fun _ => ap0_le fun _ => run_eq 400 rfl (by kernel_rfl) (by kernel_rfl)
noncomputable def g203_0 : List AV → CM := apS fun t0 => apS fun t5 => apS fun t6 => ap0 <|
CM.pu (p1 nnA t0) fun x0 =>
CM.pu (p1 (fun a => fieldAddrA Tryz.prog 255 a 0) x0) fun x1 =>
CM.rm (q1 (loadA Tryz.prog 68) x1 ) fun x2 =>
CM.pu (p1 (lenT Tryz.prog 68) x2) fun x3 =>
CM.pu (p1 nnA t0) fun x4 =>
CM.pu (p1 (fun a => fieldAddrA Tryz.prog 255 a 1) x4) fun x5 =>
CM.rm (q1 (loadA Tryz.prog 3) x5 ) fun x6 =>
CM.pu (p2 (binA Tryz.prog .sub 3) x3 x6) fun x7 =>
CM.pu (p1 (convA Tryz.prog 3 30) x7) fun x8 =>
CM.pu (p2 (binA Tryz.prog .lss 30) x8 t6) fun x9 =>
CM.cond x9 (
CM.pu (p1 nnA t0) fun x10 =>
CM.pu (p1 (fun a => fieldAddrA Tryz.prog 255 a 1) x10) fun x11 =>
CM.st (fun m => stV m x11 t5 1) <|
CM.call 160 [t0, (.int .i64 10)] fun _ =>
CM.ret (.sl none 0 0 0 true)) (
CM.go 831489 [t0, t6])
theorem g203_0_ok : LeD (real E Mk Nk) g203_0 (fun ts m => goR E Mk 831488 ts m) := apS_le fun _ => apS_le fun _ => apS_le fun _ => ap0_le fun _ => goR_eq 400 (by kernel_rfl)
noncomputable def g203_1 : List AV → CM := apS fun t0 => apS fun t6 => ap0 <|
CM.pu (p1 nnA t0) fun x0 =>
CM.pu (p1 (fun a => fieldAddrA Tryz.prog 255 a 1) x0) fun x1 =>
CM.rm (q1 (loadA Tryz.prog 3) x1 ) fun x2 =>
CM.pu (p1 (convA Tryz.prog 30 3) t6) fun x3 =>
CM.pu (p2 (binA Tryz.prog .add 3) x2 x3) fun x4 =>
CM.pu (p1 nnA t0) fun x5 =>
CM.pu (p1 (fun a => fieldAddrA Tryz.prog 255 a 1) x5) fun x6 =>
CM.st (fun m => stV m x6 x4 1) <|
CM.al (some (.cells [] false, sB 1 0)) fun x8 =>
CM.pu (p1 nnA t0) fun x9 =>
CM.pu (p1 (fun a => fieldAddrA Tryz.prog 255 a 0) x9) fun x10 =>
CM.rm (q1 (loadA Tryz.prog 68) x10 ) fun x11 =>
CM.pu (p1 nnA t0) fun x12 =>
CM.pu (p1 (fun a => fieldAddrA Tryz.prog 255 a 1) x12) fun x13 =>
CM.rm (q1 (loadA Tryz.prog 3) x13 ) fun x14 =>
CM.pu (p1 (convA Tryz.prog 30 3) t6) fun x15 =>
CM.pu (p2 (binA Tryz.prog .sub 3) x14 x15) fun x16 =>
CM.pu (p1 nnA t0) fun x17 =>
CM.pu (p1 (fun a => fieldAddrA Tryz.prog 255 a 1) x17) fun x18 =>
CM.rm (q1 (loadA Tryz.prog 3) x18 ) fun x19 =>
CM.pu (p3 (fun a l h => sliceA Tryz.prog 68 a (some l) (some h)) x11 x16 x19) fun x20 =>
CM.ef (apE 1 1 x8 x20) fun x22 =>
CM.ret x22
theorem g203_1_ok : LeD (real E Mk Nk) g203_1 (fun ts m => goR E Mk 831489 ts m) := apS_le fun _ => apS_le fun _ => ap0_le fun _ => goR_eq 400 (by kernel_rfl)
noncomputable def f203 : List AV → CM := apS fun a0 => apS fun a1 => ap0 <|
CM.pu (p1 nnA a0) fun x0 =>
CM.pu (p1 (fun a => fieldAddrA Tryz.prog 255 a 1) x0) fun x1 =>
CM.rm (q1 (loadA Tryz.prog 3) x1 ) fun x2 =>
CM.pu (p2 maxA a1 (.int .i64 0)) fun x3 =>
CM.pu (p1 (convA Tryz.prog 3 30) x3) fun x4 =>
CM.call 161 [a0, x4] fun x5 =>
CM.pu (p1 nnA a0) fun x6 =>
CM.pu (p1 (fun a => fieldAddrA Tryz.prog 255 a 2) x6) fun x7 =>
CM.rm (q1 (loadA Tryz.prog 25) x7 ) fun x8 =>
CM.pu (p2 (binA Tryz.prog .neq 25) x8 (.int .i64 0)) fun x9 =>
CM.cond x9 (
CM.ret (.sl none 0 0 0 true)) (
CM.go 831488 [a0, x2, x5])
theorem f203_ok : LeD (real E Mk Nk) f203 (fun xs m => run E (.fn 203) xs m) := apS_le fun _ => apS_le fun _ => ap0_le fun _ => run_eq 400 rfl (by kernel_rfl) (by kernel_rfl)
noncomputable def g204_0 : List AV → CM := apS fun t3 => apS fun t4 => ap0 <|
CM.pu (p2 (binA Tryz.prog .lss 3) t4 (.int .i64 32768)) fun x0 =>
CM.ifv x0 (
CM.call 122 [t3] fun x1 =>
CM.pu (p2 (binA Tryz.prog .eql 25) x1 (.int .i64 11)) fun x2 =>
CM.cond x2 (
CM.go 835585 [t3, t4]) (
CM.go 835587 [t3])) (
CM.go 835587 [t3])
theorem g204_0_ok : LeD (real E Mk Nk) g204_0 (fun ts m => goR E Mk 835584 ts m) := apS_le fun _ => apS_le fun _ => ap0_le fun _ => goR_eq 400 (by kernel_rfl)
noncomputable def g204_1 : List AV → CM := apS fun t3 => apS fun t4 => ap0 <|
CM.call 119 [t3, (.int .u8 255)] fun _ =>
CM.go 835586 [t3, t4]
theorem g204_1_ok : LeD (real E Mk Nk) g204_1 (fun ts m => goR E Mk 835585 ts m) := apS_le fun _ => apS_le fun _ => ap0_le fun _ => goR_eq 400 (by kernel_rfl)
noncomputable def g204_2 : List AV → CM := apS fun t3 => apS fun t4 => ap0 <|
CM.pu (p2 (binA Tryz.prog .add 3) t4 (.int .i64 1)) fun x0 =>
CM.go 835584 [t3, x0]
theorem g204_2_ok : LeD (real E Mk Nk) g204_2 (fun ts m => goR E Mk 835586 ts m) := apS_le fun _ => apS_le fun _ => ap0_le fun _ => goR_eq 400 (by kernel_rfl)
noncomputable def g204_3 : List AV → CM := apS fun t3 => ap0 <|
CM.call 122 [t3] fun x0 =>
CM.ret x0
theorem g204_3_ok : LeD (real E Mk Nk) g204_3 (fun ts m => goR E Mk 835587 ts m) := apS_le fun _ => ap0_le fun _ => goR_eq 400 (by kernel_rfl)
noncomputable def f204 : List AV → CM := apS fun a0 => ap0 <|
CM.pu (p1 nnA a0) fun x0 =>
CM.pu (p1 (fun a => fieldAddrA Tryz.prog 228 a 0) x0) fun x1 =>
CM.rm (q1 (loadA Tryz.prog 211) x1 ) fun x2 =>
CM.pu (p1 nnA x2) fun x3 =>
CM.rm (q1 (loadA Tryz.prog 255) x3 ) fun x4 =>
CM.al (some (.cells [(.sl none 0 0 0 true), (.int .i64 0), (.int .i64 0)] false, pB)) fun x5 =>
CM.st (fun m => stV m x5 x4 3) <|
CM.go 835584 [x5, (.int .i64 0)]
theorem f204_ok : LeD (real E Mk Nk) f204 (fun xs m => run E (.fn 204) xs m) := apS_le fun _ => ap0_le fun _ => run_eq 400 rfl (by kernel_rfl) (by kernel_rfl)
noncomputable def g205_0 : List AV → CM := apS fun t2 => apS fun t5 => ap0 <|
CM.rm (q1 (loadA Tryz.prog 65) t5 ) fun x0 =>
CM.st (fun m => stV m t2 x0 5) <|
CM.resC Tryz.prog [ResultVar.cell 0 65, ResultVar.tmp 1] [t2, (.int .i64 0)]
theorem g205_0_ok : LeD (real E Mk Nk) g205_0 (fun ts m => goR E Mk 839680 ts m) := apS_le fun _ => apS_le fun _ => ap0_le fun _ => goR_eq 400 (by kernel_rfl)
noncomputable def f205 : List AV → CM := apS fun a0 => ap0 <|
CM.al (some (.cells [(.int .i64 0), (.int .u64 0), (.int .i64 0), (.int .u64 0), (.int .i64 0)] false, pB)) fun x0 =>
CM.call 118 [a0] fun x1 =>
CM.al (some (.cells [(.int .i64 0), (.int .u64 0), (.int .i64 0), (.int .u64 0), (.int .i64 0)] false, pB)) fun x2 =>
CM.call 119 [x1, (.int .u8 99)] fun x3 =>
CM.pu (p1 (convA Tryz.prog 5 25) x3) fun x4 =>
CM.pu (p1 (fun a => fieldAddrA Tryz.prog 65 a 0) x2) fun x5 =>
CM.st (fun m => stV m x5 x4 1) <|
CM.call 161 [x1, (.int .u64 18446744073709551615)] fun x7 =>
CM.pu (p1 (fun a => fieldAddrA Tryz.prog 65 a 1) x2) fun x8 =>
CM.st (fun m => stV m x8 x7 1) <|
CM.call 162 [x1] fun x10 =>
CM.pu (p1 (fun a => fieldAddrA Tryz.prog 65 a 2) x2) fun x11 =>
CM.st (fun m => stV m x11 x10 3) <|
CM.call 122 [x1] fun x13 =>
CM.pu (p2 (binA Tryz.prog .neq 25) x13 (.int .i64 0)) fun x14 =>
CM.cond x14 (
CM.pu (p1 (buildA Tryz.prog 65) []) fun x15 =>
CM.st (fun m => stV m x0 x15 5) <|
CM.resC Tryz.prog [ResultVar.cell 0 65, ResultVar.tmp 1] [x0, x13]) (
CM.go 839680 [x0, x2])
theorem f205_ok : LeD (real E Mk Nk) f205 (fun xs m => run E (.fn 205) xs m) := apS_le fun _ => ap0_le fun _ => run_eq 400 rfl (by kernel_rfl) (by kernel_rfl)
noncomputable def g206_0 : List AV → CM := apS fun t0 => apS fun t2 => apS fun t3 => ap0 <|
CM.pu (p2 (binA Tryz.prog .lss 3) t2 t3) fun x0 =>
CM.cond x0 (
CM.go 843777 [t0, t2, t3]) (
CM.ret .undef)
theorem g206_0_ok : LeD (real E Mk Nk) g206_0 (fun ts m => goR E Mk 843776 ts m) := apS_le fun _ => apS_le fun _ => apS_le fun _ => ap0_le fun _ => goR_eq 400 (by kernel_rfl)
noncomputable def g206_1 : List AV → CM := apS fun t0 => apS fun t2 => apS fun t3 => ap0 <|
CM.pu (p2 (indexAddrA Tryz.prog 156) t0 t3) fun x0 =>
CM.rm (q1 (loadA Tryz.prog 9) x0 ) fun x1 =>
CM.pu (p2 (indexAddrA Tryz.prog 156) t0 t2) fun x2 =>
CM.rm (q1 (loadA Tryz.prog 9) x2 ) fun x3 =>
CM.pu (p2 (indexAddrA Tryz.prog 156) t0 t2) fun x4 =>
CM.st (fun m => stV m x4 x1 1) <|
CM.pu (p2 (indexAddrA Tryz.prog 156) t0 t3) fun x8 =>
CM.st (fun m => stV m x8 x3 1) <|
CM.go 843778 [t0, t2, t3]
theorem g206_1_ok : LeD (real E Mk Nk) g206_1 (fun ts m => goR E Mk 843777 ts m) := apS_le fun _ => apS_le fun _ => apS_le fun _ => ap0_le fun _ => goR_eq 400 (by kernel_rfl)
noncomputable def g206_2 : List AV → CM := apS fun t0 => apS fun t2 => apS fun t3 => ap0 <|
CM.pu (p2 (binA Tryz.prog .add 3) t2 (.int .i64 1)) fun x0 =>
CM.pu (p2 (binA Tryz.prog .sub 3) t3 (.int .i64 1)) fun x1 =>
CM.go 843776 [t0, x0, x1]
theorem g206_2_ok : LeD (real E Mk Nk) g206_2 (fun ts m => goR E Mk 843778 ts m) := apS_le fun _ => apS_le fun _ => apS_le fun _ => ap0_le fun _ => goR_eq 400 (by kernel_rfl)
noncomputable def f206 : List AV → CM := apS fun a0 => ap0 <|
CM.pu (p1 (lenT Tryz.prog 156) a0) fun x0 =>
CM.pu (p2 (binA Tryz.prog .sub 3) x0 (.int .i64 1)) fun x1 =>
CM.go 843776 [a0, (.int .i64 0), x1]
theorem f206_ok : LeD (real E Mk Nk) f206 (fun xs m => run E (.fn 206) xs m) := apS_le fun _ => ap0_le fun _ => run_eq 400 rfl (by kernel_rfl) (by kernel_rfl)
noncomputable def g207_0 : List AV → CM := apS fun t0 => apS fun t2 => apS fun t3 => ap0 <|
CM.pu (p2 (binA Tryz.prog .lss 3) t2 t3) fun x0 =>
CM.cond x0 (
CM.go 847873 [t0, t2, t3]) (
CM.ret .undef)
theorem g207_0_ok : LeD (real E Mk Nk) g207_0 (fun ts m => goR E Mk 847872 ts m) := apS_le fun _ => apS_le fun _ => apS_le fun _ => ap0_le fun _ => goR_eq 400 (by kernel_rfl)
noncomputable def g207_1 : List AV → CM := apS fun t0 => apS fun t2 => apS fun t3 => ap0 <|
CM.pu (p2 (indexAddrA Tryz.prog 45) t0 t3) fun x0 =>
CM.rm (q1 (loadA Tryz.prog 85) x0 ) fun x1 =>
CM.pu (p2 (indexAddrA Tryz.prog 45) t0 t2) fun x2 =>
CM.rm (q1 (loadA Tryz.prog 85) x2 ) fun x3 =>
CM.pu (p2 (indexAddrA Tryz.prog 45) t0 t2) fun x4 =>
CM.st (fun m => stV m x4 x1 4) <|
CM.pu (p2 (indexAddrA Tryz.prog 45) t0 t3) fun x8 =>
CM.st (fun m => stV m x8 x3 4) <|
CM.go 847874 [t0, t2, t3]
theorem g207_1_ok : LeD (real E Mk Nk) g207_1 (fun ts m => goR E Mk 847873 ts m) := apS_le fun _ => apS_le fun _ => apS_le fun _ => ap0_le fun _ => goR_eq 400 (by kernel_rfl)
noncomputable def g207_2 : List AV → CM := apS fun t0 => apS fun t2 => apS fun t3 => ap0 <|
CM.pu (p2 (binA Tryz.prog .add 3) t2 (.int .i64 1)) fun x0 =>
CM.pu (p2 (binA Tryz.prog .sub 3) t3 (.int .i64 1)) fun x1 =>
CM.go 847872 [t0, x0, x1]
theorem g207_2_ok : LeD (real E Mk Nk) g207_2 (fun ts m => goR E Mk 847874 ts m) := apS_le fun _ => apS_le fun _ => apS_le fun _ => ap0_le fun _ => goR_eq 400 (by kernel_rfl)
noncomputable def f207 : List AV → CM := apS fun a0 => ap0 <|
CM.pu (p1 (lenT Tryz.prog 45) a0) fun x0 =>
CM.pu (p2 (binA Tryz.prog .sub 3) x0 (.int .i64 1)) fun x1 =>
CM.go 847872 [a0, (.int .i64 0), x1]
theorem f207_ok : LeD (real E Mk Nk) f207 (fun xs m => run E (.fn 207) xs m) := apS_le fun _ => ap0_le fun _ => run_eq 400 rfl (by kernel_rfl) (by kernel_rfl)
noncomputable def g208_0 : List AV → CM := apS fun t0 => apS fun t2 => apS fun t3 => ap0 <|
CM.pu (p2 (binA Tryz.prog .lss 3) t2 t3) fun x0 =>
CM.cond x0 (
CM.go 851969 [t0, t2, t3]) (
CM.ret .undef)
theorem g208_0_ok : LeD (real E Mk Nk) g208_0 (fun ts m => goR E Mk 851968 ts m) := apS_le fun _ => apS_le fun _ => apS_le fun _ => ap0_le fun _ => goR_eq 400 (by kernel_rfl)
noncomputable def g208_1 : List AV → CM := apS fun t0 => apS fun t2 => apS fun t3 => ap0 <|
CM.pu (p2 (indexAddrA Tryz.prog 142) t0 t3) fun x0 =>
CM.rm (q1 (loadA Tryz.prog 30) x0 ) fun x1 =>
CM.pu (p2 (indexAddrA Tryz.prog 142) t0 t2) fun x2 =>
CM.rm (q1 (loadA Tryz.prog 30) x2 ) fun x3 =>
CM.pu (p2 (indexAddrA Tryz.prog 142) t0 t2) fun x4 =>
CM.st (fun m => stV m x4 x1 1) <|
CM.pu (p2 (indexAddrA Tryz.prog 142) t0 t3) fun x8 =>
CM.st (fun m => stV m x8 x3 1) <|
CM.go 851970 [t0, t2, t3]
theorem g208_1_ok : LeD (real E Mk Nk) g208_1 (fun ts m => goR E Mk 851969 ts m) := apS_le fun _ => apS_le fun _ => apS_le fun _ => ap0_le fun _ => goR_eq 400 (by kernel_rfl)
noncomputable def g208_2 : List AV → CM := apS fun t0 => apS fun t2 => apS fun t3 => ap0 <|
CM.pu (p2 (binA Tryz.prog .add 3) t2 (.int .i64 1)) fun x0 =>
CM.pu (p2 (binA Tryz.prog .sub 3) t3 (.int .i64 1)) fun x1 =>
CM.go 851968 [t0, x0, x1]
theorem g208_2_ok : LeD (real E Mk Nk) g208_2 (fun ts m => goR E Mk 851970 ts m) := apS_le fun _ => apS_le fun _ => apS_le fun _ => ap0_le fun _ => goR_eq 400 (by kernel_rfl)
noncomputable def f208 : List AV → CM := apS fun a0 => ap0 <|
CM.pu (p1 (lenT Tryz.prog 142) a0) fun x0 =>
CM.pu (p2 (binA Tryz.prog .sub 3) x0 (.int .i64 1)) fun x1 =>
CM.go 851968 [a0, (.int .i64 0), x1]
theorem f208_ok : LeD (real E Mk Nk) f208 (fun xs m => run E (.fn 208) xs m) := apS_le fun _ => ap0_le fun _ => run_eq 400 rfl (by kernel_rfl) (by kernel_rfl)
noncomputable def g209_0 : List AV → CM := apS fun t0 => apS fun t2 => apS fun t3 => ap0 <|
CM.pu (p2 (binA Tryz.prog .lss 3) t2 t3) fun x0 =>
CM.cond x0 (
CM.go 856065 [t0, t2, t3]) (
CM.ret .undef)
theorem g209_0_ok : LeD (real E Mk Nk) g209_0 (fun ts m => goR E Mk 856064 ts m) := apS_le fun _ => apS_le fun _ => apS_le fun _ => ap0_le fun _ => goR_eq 400 (by kernel_rfl)
noncomputable def g209_1 : List AV → CM := apS fun t0 => apS fun t2 => apS fun t3 => ap0 <|
CM.pu (p2 (indexAddrA Tryz.prog 47) t0 t3) fun x0 =>
CM.rm (q1 (loadA Tryz.prog 91) x0 ) fun x1 =>
CM.pu (p2 (indexAddrA Tryz.prog 47) t0 t2) fun x2 =>
CM.rm (q1 (loadA Tryz.prog 91) x2 ) fun x3 =>
CM.pu (p2 (indexAddrA Tryz.prog 47) t0 t2) fun x4 =>
CM.st (fun m => stV m x4 x1 4) <|
CM.pu (p2 (indexAddrA Tryz.prog 47) t0 t3) fun x8 =>
CM.st (fun m => stV m x8 x3 4) <|
CM.go 856066 [t0, t2, t3]
theorem g209_1_ok : LeD (real E Mk Nk) g209_1 (fun ts m => goR E Mk 856065 ts m) := apS_le fun _ => apS_le fun _ => apS_le fun _ => ap0_le fun _ => goR_eq 400 (by kernel_rfl)
noncomputable def g209_2 : List AV → CM := apS fun t0 => apS fun t2 => apS fun t3 => ap0 <|
CM.pu (p2 (binA Tryz.prog .add 3) t2 (.int .i64 1)) fun x0 =>
CM.pu (p2 (binA Tryz.prog .sub 3) t3 (.int .i64 1)) fun x1 =>
CM.go 856064 [t0, x0, x1]
theorem g209_2_ok : LeD (real E Mk Nk) g209_2 (fun ts m => goR E Mk 856066 ts m) := apS_le fun _ => apS_le fun _ => apS_le fun _ => ap0_le fun _ => goR_eq 400 (by kernel_rfl)
noncomputable def f209 : List AV → CM := apS fun a0 => ap0 <|
CM.pu (p1 (lenT Tryz.prog 47) a0) fun x0 =>
CM.pu (p2 (binA Tryz.prog .sub 3) x0 (.int .i64 1)) fun x1 =>
CM.go 856064 [a0, (.int .i64 0), x1]
theorem f209_ok : LeD (real E Mk Nk) f209 (fun xs m => run E (.fn 209) xs m) := apS_le fun _ => ap0_le fun _ => run_eq 400 rfl (by kernel_rfl) (by kernel_rfl)
noncomputable def g210_0 : List AV → CM := apS fun t2 => apS fun t3 => apS fun t4 => apS fun t5 => ap0 <|
CM.rm (q1 (loadA Tryz.prog 35) t2 ) fun x0 =>
CM.call 213 [x0] fun x1 =>
CM.pu (p1 (fun a => extractA a 0) x1) fun x2 =>
CM.pu (p1 (fun a => extractA a 1) x1) fun x3 =>
CM.rm (q1 (loadA Tryz.prog 35) t3 ) fun x4 =>
CM.call 213 [x4] fun x5 =>
CM.pu (p1 (fun a => extractA a 0) x5) fun x6 =>
CM.pu (p1 (fun a => extractA a 1) x5) fun x7 =>
CM.pu (p2 (binA Tryz.prog .eql 30) x6 (.int .u64 0)) fun x8 =>
CM.cond x8 (
CM.pu (p2 (binA Tryz.prog .quo 30) x2 x7) fun x9 =>
CM.pu (p2 (binA Tryz.prog .rem 30) x2 x7) fun x10 =>
CM.call 212 [x10, x3, x7] fun x11 =>
CM.pu (p1 (fun a => extractA a 0) x11) fun x12 =>
CM.pu (p1 (fun a => extractA a 1) x11) fun x13 =>
CM.go 860164 [t2, t3, t4, t5, x9, x12, (.int .u64 0), x13]) (
CM.call 219 [x6] fun x14 =>
CM.go 860161 [t2, t3, t4, t5, x6, x7, (.int .u64 0), (.int .u64 0), x2, x3, x14])
theorem g210_0_ok : LeD (real E Mk Nk) g210_0 (fun ts m => goR E Mk 860160 ts m) := apS_le fun _ => apS_le fun _ => apS_le fun _ => apS_le fun _ => ap0_le fun _ => goR_eq 400 (by kernel_rfl)
noncomputable def g210_1 : List AV → CM := apS fun t2 => apS fun t3 => apS fun t4 => apS fun t5 => apS fun t9 => apS fun t10 => apS fun t11 => apS fun t12 => apS fun t13 => apS fun t14 => apS fun t15 => ap0 <|
CM.pu (p2 (binA Tryz.prog .geq 3) t15 (.int .i64 0)) fun x0 =>
CM.cond x0 (
CM.go 860162 [t2, t3, t4, t5, t9, t10, t11, t12, t13, t14, t15]) (
CM.go 860164 [t2, t3, t4, t5, t11, t12, t13, t14])
theorem g210_1_ok : LeD (real E Mk Nk) g210_1 (fun ts m => goR E Mk 860161 ts m) := apS_le fun _ => apS_le fun _ => apS_le fun _ => apS_le fun _ => apS_le fun _ => apS_le fun _ => apS_le fun _ => apS_le fun _ => apS_le fun _ => apS_le fun _ => apS_le fun _ => ap0_le fun _ => goR_eq 400 (by kernel_rfl)
noncomputable def g210_2 : List AV → CM := apS fun t2 => apS fun t3 => apS fun t4 => apS fun t5 => apS fun t9 => apS fun t10 => apS fun t11 => apS fun t12 => apS fun t13 => apS fun t14 => apS fun t15 => ap0 <|
CM.pu (p2 (binA Tryz.prog .shl 30) t9 t15) fun x0 =>
CM.pu (p2 (binA Tryz.prog .shr 30) t10 (.int .u64 1)) fun x1 =>
CM.pu (p2 (binA Tryz.prog .sub 3) (.int .i64 63) t15) fun x2 =>
CM.pu (p2 (binA Tryz.prog .shr 30) x1 x2) fun x3 =>
CM.pu (p2 (binA Tryz.prog .or 30) x0 x3) fun x4 =>
CM.pu (p2 (binA Tryz.prog .shl 30) t10 t15) fun x5 =>
CM.pu (p2 (binA Tryz.prog .gtr 30) t13 x4) fun x6 =>
CM.ifv x6 (
CM.call 109 [t14, x5, (.int .u64 0)] fun x7 =>
CM.pu (p1 (fun a => extractA a 0) x7) fun x8 =>
CM.pu (p1 (fun a => extractA a 1) x7) fun x9 =>
CM.call 109 [t13, x4, x9] fun x10 =>
CM.pu (p1 (fun a => extractA a 0) x10) fun x11 =>
CM.pu (p1 (fun a => extractA a 1) x10) fun _ =>
CM.pu (p2 (binA Tryz.prog .shl 30) (.int .u64 1) t15) fun x13 =>
CM.pu (p2 (binA Tryz.prog .or 30) t12 x13) fun x14 =>
CM.go 860163 [t2, t3, t4, t5, t9, t10, t11, x14, x11, x8, t15]) (
CM.pu (p2 (binA Tryz.prog .eql 30) t13 x4) fun x15 =>
CM.ifv x15 (
CM.pu (p2 (binA Tryz.prog .geq 30) t14 x5) fun x16 =>
CM.cond x16 (
CM.call 109 [t14, x5, (.int .u64 0)] fun x17 =>
CM.pu (p1 (fun a => extractA a 0) x17) fun x18 =>
CM.pu (p1 (fun a => extractA a 1) x17) fun x19 =>
CM.call 109 [t13, x4, x19] fun x20 =>
CM.pu (p1 (fun a => extractA a 0) x20) fun x21 =>
CM.pu (p1 (fun a => extractA a 1) x20) fun _ =>
CM.pu (p2 (binA Tryz.prog .shl 30) (.int .u64 1) t15) fun x23 =>
CM.pu (p2 (binA Tryz.prog .or 30) t12 x23) fun x24 =>
CM.go 860163 [t2, t3, t4, t5, t9, t10, t11, x24, x21, x18, t15]) (
CM.go 860163 [t2, t3, t4, t5, t9, t10, t11, t12, t13, t14, t15])) (
CM.go 860163 [t2, t3, t4, t5, t9, t10, t11, t12, t13, t14, t15]))
theorem g210_2_ok : LeD (real E Mk Nk) g210_2 (fun ts m => goR E Mk 860162 ts m) := apS_le fun _ => apS_le fun _ => apS_le fun _ => apS_le fun _ => apS_le fun _ => apS_le fun _ => apS_le fun _ => apS_le fun _ => apS_le fun _ => apS_le fun _ => apS_le fun _ => ap0_le fun _ => goR_eq 400 (by kernel_rfl)
noncomputable def g210_3 : List AV → CM := apS fun t2 => apS fun t3 => apS fun t4 => apS fun t5 => apS fun t9 => apS fun t10 => apS fun t11 => apS fun t12 => apS fun t13 => apS fun t14 => apS fun t15 => ap0 <|
CM.pu (p2 (binA Tryz.prog .sub 3) t15 (.int .i64 1)) fun x0 =>
CM.go 860161 [t2, t3, t4, t5, t9, t10, t11, t12, t13, t14, x0]
theorem g210_3_ok : LeD (real E Mk Nk) g210_3 (fun ts m => goR E Mk 860163 ts m) := apS_le fun _ => apS_le fun _ => apS_le fun _ => apS_le fun _ => apS_le fun _ => apS_le fun _ => apS_le fun _ => apS_le fun _ => apS_le fun _ => apS_le fun _ => apS_le fun _ => ap0_le fun _ => goR_eq 400 (by kernel_rfl)
noncomputable def g210_4 : List AV → CM := apS fun t2 => apS fun t3 => apS fun t4 => apS fun t5 => apS fun t11 => apS fun t12 => apS fun t13 => apS fun t14 => ap0 <|
CM.pu (p1 (fun a => fieldAddrA Tryz.prog 35 a 0) t2) fun x0 =>
CM.rm (q1 (loadA Tryz.prog 2) x0 ) fun x1 =>
CM.pu (p2 (binA Tryz.prog .lss 2) x1 (.int .i64 0)) fun x2 =>
CM.pu (p1 (fun a => fieldAddrA Tryz.prog 35 a 0) t3) fun x3 =>
CM.rm (q1 (loadA Tryz.prog 2) x3 ) fun x4 =>
CM.pu (p2 (binA Tryz.prog .lss 2) x4 (.int .i64 0)) fun x5 =>
CM.pu (p2 (binA Tryz.prog .neq 4) x2 x5) fun x6 =>
CM.call 216 [x6, t11, t12] fun x7 =>
CM.pu (p1 (fun a => extractA a 0) x7) fun x8 =>
CM.pu (p1 (fun a => extractA a 1) x7) fun x9 =>
CM.st (fun m => stV m t4 x8 2) <|
CM.pu (p2 (binA Tryz.prog .neq 25) x9 (.int .i64 0)) fun x11 =>
CM.cond x11 (
CM.pu (p1 (buildA Tryz.prog 35) []) fun x12 =>
CM.pu (p1 (buildA Tryz.prog 35) []) fun x13 =>
CM.st (fun m => stV m t4 x12 2) <|
CM.st (fun m => stV m t5 x13 2) <|
CM.resC Tryz.prog [ResultVar.cell 0 35, ResultVar.cell 1 35, ResultVar.tmp 2] [t4, t5, x9]) (
CM.go 860165 [t2, t4, t5, t13, t14])
theorem g210_4_ok : LeD (real E Mk Nk) g210_4 (fun ts m => goR E Mk 860164 ts m) := apS_le fun _ => apS_le fun _ => apS_le fun _ => apS_le fun _ => apS_le fun _ => apS_le fun _ => apS_le fun _ => apS_le fun _ => ap0_le fun _ => goR_eq 400 (by kernel_rfl)
noncomputable def g210_5 : List AV → CM := apS fun t2 => apS fun t4 => apS fun t5 => apS fun t13 => apS fun t14 => ap0 <|
CM.pu (p1 (fun a => fieldAddrA Tryz.prog 35 a 0) t2) fun x0 =>
CM.rm (q1 (loadA Tryz.prog 2) x0 ) fun x1 =>
CM.pu (p2 (binA Tryz.prog .lss 2) x1 (.int .i64 0)) fun x2 =>
CM.call 216 [x2, t13, t14] fun x3 =>
CM.pu (p1 (fun a => extractA a 0) x3) fun x4 =>
CM.pu (p1 (fun a => extractA a 1) x3) fun _ =>
CM.st (fun m => stV m t5 x4 2) <|
CM.rm (q1 (loadA Tryz.prog 35) t4 ) fun x7 =>
CM.rm (q1 (loadA Tryz.prog 35) t5 ) fun x8 =>
CM.st (fun m => stV m t4 x7 2) <|
CM.memo fun m11 =>
CM.chk (q1 (loadA Tryz.prog 35) t5 m11) x8 <|
CM.st (fun m => stV m t5 x8 2) <|
CM.resC Tryz.prog [ResultVar.cell 0 35, ResultVar.cell 1 35, ResultVar.tmp 2] [t4, t5, (.int .i64 0)]
theorem g210_5_ok : LeD (real E Mk Nk) g210_5 (fun ts m => goR E Mk 860165 ts m) := apS_le fun _ => apS_le fun _ => apS_le fun _ => apS_le fun _ => apS_le fun _ => ap0_le fun _ => goR_eq 400 (by kernel_rfl)
noncomputable def f210 : List AV → CM := apS fun a0 => apS fun a1 => ap0 <|
CM.al (boxA a0) fun x0 =>
CM.al (boxA a1) fun x1 =>
CM.al (some (.cells [(.int .i64 0), (.int .u64 0)] false, pB)) fun x2 =>
CM.al (some (.cells [(.int .i64 0), (.int .u64 0)] false, pB)) fun x3 =>
CM.rm (q1 (loadA Tryz.prog 35) x1 ) fun x4 =>
CM.pu (p1 (buildA Tryz.prog 35) []) fun x5 =>
CM.pu (p2 (binA Tryz.prog .eql 35) x4 x5) fun x6 =>
CM.cond x6 (
CM.rm (q1 (loadA Tryz.prog 35) x2 ) fun x7 =>
CM.rm (q1 (loadA Tryz.prog 35) x3 ) fun x8 =>
CM.st (fun m => stV m x2 x7 2) <|
CM.memo fun m11 =>
CM.chk (q1 (loadA Tryz.prog 35) x3 m11) x8 <|
CM.st (fun m => stV m x3 x8 2) <|
CM.resC Tryz.prog [ResultVar.cell 0 35, ResultVar.cell 1 35, ResultVar.tmp 2] [x2, x3, (.int .i64 22)]) (
CM.go 860160 [x0, x1, x2, x3])
theorem f210_ok : LeD (real E Mk Nk) f210 (fun xs m => run E (.fn 210) xs m) := apS_le fun _ => apS_le fun _ => ap0_le fun _ => run_eq 400 rfl (by kernel_rfl) (by kernel_rfl)
noncomputable def g211_0 : List AV → CM := apS fun t0 => apS fun t2 => apS fun t3 => ap0 <|
CM.pu (p2 (binA Tryz.prog .lss 3) t2 t3) fun x0 =>
CM.cond x0 (
CM.go 864257 [t0, t2, t3]) (
CM.ret .undef)
theorem g211_0_ok : LeD (real E Mk Nk) g211_0 (fun ts m => goR E Mk 864256 ts m) := apS_le fun _ => apS_le fun _ => apS_le fun _ => ap0_le fun _ => goR_eq 400 (by kernel_rfl)
noncomputable def g211_1 : List AV → CM := apS fun t0 => apS fun t2 => apS fun t3 => ap0 <|
CM.pu (p2 (indexAddrA Tryz.prog 46) t0 t3) fun x0 =>
CM.rm (q1 (loadA Tryz.prog 54) x0 ) fun x1 =>
CM.pu (p2 (indexAddrA Tryz.prog 46) t0 t2) fun x2 =>
CM.rm (q1 (loadA Tryz.prog 54) x2 ) fun x3 =>
CM.pu (p2 (indexAddrA Tryz.prog 46) t0 t2) fun x4 =>
CM.st (fun m => stV m x4 x1 9) <|
CM.pu (p2 (indexAddrA Tryz.prog 46) t0 t3) fun x8 =>
CM.st (fun m => stV m x8 x3 9) <|
CM.go 864258 [t0, t2, t3]
theorem g211_1_ok : LeD (real E Mk Nk) g211_1 (fun ts m => goR E Mk 864257 ts m) := apS_le fun _ => apS_le fun _ => apS_le fun _ => ap0_le fun _ => goR_eq 400 (by kernel_rfl)
noncomputable def g211_2 : List AV → CM := apS fun t0 => apS fun t2 => apS fun t3 => ap0 <|
CM.pu (p2 (binA Tryz.prog .add 3) t2 (.int .i64 1)) fun x0 =>
CM.pu (p2 (binA Tryz.prog .sub 3) t3 (.int .i64 1)) fun x1 =>
CM.go 864256 [t0, x0, x1]
theorem g211_2_ok : LeD (real E Mk Nk) g211_2 (fun ts m => goR E Mk 864258 ts m) := apS_le fun _ => apS_le fun _ => apS_le fun _ => ap0_le fun _ => goR_eq 400 (by kernel_rfl)
noncomputable def f211 : List AV → CM := apS fun a0 => ap0 <|
CM.pu (p1 (lenT Tryz.prog 46) a0) fun x0 =>
CM.pu (p2 (binA Tryz.prog .sub 3) x0 (.int .i64 1)) fun x1 =>
CM.go 864256 [a0, (.int .i64 0), x1]
theorem f211_ok : LeD (real E Mk Nk) f211 (fun xs m => run E (.fn 211) xs m) := apS_le fun _ => ap0_le fun _ => run_eq 400 rfl (by kernel_rfl) (by kernel_rfl)
noncomputable def g212_0 : List AV → CM := apS fun t0 => apS fun t1 => apS fun t2 => ap0 <|
CM.pu (p2 (binA Tryz.prog .leq 30) t2 t0) fun x0 =>
CM.cond x0 (
CM.rm (q1 (loadA Tryz.prog 303) (.ptr (some ⟨1, 0⟩)) ) fun _ =>
CM.fail) (
CM.go 868353 [t0, t1, t2])
theorem g212_0_ok : LeD (real E Mk Nk) g212_0 (fun ts m => goR E Mk 868352 ts m) := apS_le fun _ => apS_le fun _ => apS_le fun _ => ap0_le fun _ => goR_eq 400 (by kernel_rfl)
noncomputable def g212_1 : List AV → CM := apS fun t0 => apS fun t1 => apS fun t2 => ap0 <|
CM.pu (p2 (binA Tryz.prog .eql 30) t0 (.int .u64 0)) fun x0 =>
CM.cond x0 (
CM.pu (p2 (binA Tryz.prog .quo 30) t1 t2) fun x1 =>
CM.pu (p2 (binA Tryz.prog .rem 30) t1 t2) fun x2 =>
CM.ret (.tup [x1, x2])) (
CM.go 868354 [t0, t1, t2])
theorem g212_1_ok : LeD (real E Mk Nk) g212_1 (fun ts m => goR E Mk 868353 ts m) := apS_le fun _ => apS_le fun _ => apS_le fun _ => ap0_le fun _ => goR_eq 400 (by kernel_rfl)
noncomputable def g212_2 : List AV → CM := apS fun t0 => apS fun t1 => apS fun t2 => ap0 <|
CM.call 219 [t2] fun x0 =>
CM.pu (p1 (convA Tryz.prog 3 173) x0) fun x1 =>
CM.pu (p2 (binA Tryz.prog .shl 30) t2 x1) fun x2 =>
CM.pu (p2 (binA Tryz.prog .shr 30) x2 (.int .u64 32)) fun x3 =>
CM.pu (p2 (binA Tryz.prog .and 30) x2 (.int .u64 4294967295)) fun x4 =>
CM.pu (p2 (binA Tryz.prog .shl 30) t0 x1) fun x5 =>
CM.pu (p2 (binA Tryz.prog .sub 173) (.int .u64 64) x1) fun x6 =>
CM.pu (p2 (binA Tryz.prog .shr 30) t1 x6) fun x7 =>
CM.pu (p2 (binA Tryz.prog .or 30) x5 x7) fun x8 =>
CM.pu (p2 (binA Tryz.prog .shl 30) t1 x1) fun x9 =>
CM.pu (p2 (binA Tryz.prog .shr 30) x9 (.int .u64 32)) fun x10 =>
CM.pu (p2 (binA Tryz.prog .and 30) x9 (.int .u64 4294967295)) fun x11 =>
CM.pu (p2 (binA Tryz.prog .quo 30) x8 x3) fun x12 =>
CM.pu (p2 (binA Tryz.prog .mul 30) x12 x3) fun x13 =>
CM.pu (p2 (binA Tryz.prog .sub 30) x8 x13) fun x14 =>
CM.go 868355 [x2, x1, x3, x4, x8, x10, x11, x12, x14]
theorem g212_2_ok : LeD (real E Mk Nk) g212_2 (fun ts m => goR E Mk 868354 ts m) := apS_le fun _ => apS_le fun _ => apS_le fun _ => ap0_le fun _ => goR_eq 400 (by kernel_rfl)
noncomputable def g212_3 : List AV → CM := apS fun t2 => apS fun t8 => apS fun t9 => apS fun t10 => apS fun t11 => apS fun t13 => apS fun t14 => apS fun t15 => apS fun t16 => ap0 <|
CM.pu (p2 (binA Tryz.prog .geq 30) t15 (.int .u64 4294967296)) fun x0 =>
CM.ifv x0 (
CM.go 868356 [t2, t8, t9, t10, t11, t13, t14, t15, t16]) (
CM.pu (p2 (binA Tryz.prog .mul 30) t15 t10) fun x1 =>
CM.pu (p2 (binA Tryz.prog .mul 30) (.int .u64 4294967296) t16) fun x2 =>
CM.pu (p2 (binA Tryz.prog .add 30) x2 t13) fun x3 =>
CM.pu (p2 (binA Tryz.prog .gtr 30) x1 x3) fun x4 =>
CM.cond x4 (
CM.go 868356 [t2, t8, t9, t10, t11, t13, t14, t15, t16]) (
CM.go 868357 [t2, t8, t9, t10, t11, t13, t14, t15]))
theorem g212_3_ok : LeD (real E Mk Nk) g212_3 (fun ts m => goR E Mk 868355 ts m) := apS_le fun _ => apS_le fun _ => apS_le fun _ => apS_le fun _ => apS_le fun _ => apS_le fun _ => apS_le fun _ => apS_le fun _ => apS_le fun _ => ap0_le fun _ => goR_eq 400 (by kernel_rfl)
noncomputable def g212_4 : List AV → CM := apS fun t2 => apS fun t8 => apS fun t9 => apS fun t10 => apS fun t11 => apS fun t13 => apS fun t14 => apS fun t15 => apS fun t16 => ap0 <|
CM.pu (p2 (binA Tryz.prog .sub 30) t15 (.int .u64 1)) fun x0 =>
CM.pu (p2 (binA Tryz.prog .add 30) t16 t9) fun x1 =>
CM.pu (p2 (binA Tryz.prog .geq 30) x1 (.int .u64 4294967296)) fun x2 =>
CM.cond x2 (
CM.go 868357 [t2, t8, t9, t10, t11, t13, t14, x0]) (
CM.go 868355 [t2, t8, t9, t10, t11, t13, t14, x0, x1])
theorem g212_4_ok : LeD (real E Mk Nk) g212_4 (fun ts m => goR E Mk 868356 ts m) := apS_le fun _ => apS_le fun _ => apS_le fun _ => apS_le fun _ => apS_le fun _ => apS_le fun _ => apS_le fun _ => apS_le fun _ => apS_le fun _ => ap0_le fun _ => goR_eq 400 (by kernel_rfl)
noncomputable def g212_5 : List AV → CM := apS fun t2 => apS fun t8 => apS fun t9 => apS fun t10 => apS fun t11 => apS fun t13 => apS fun t14 => apS fun t15 => ap0 <|
CM.pu (p2 (binA Tryz.prog .mul 30) t11 (.int .u64 4294967296)) fun x0 =>
CM.pu (p2 (binA Tryz.prog .add 30) x0 t13) fun x1 =>
CM.pu (p2 (binA Tryz.prog .mul 30) t15 t2) fun x2 =>
CM.pu (p2 (binA Tryz.prog .sub 30) x1 x2) fun x3 =>
CM.pu (p2 (binA Tryz.prog .quo 30) x3 t9) fun x4 =>
CM.pu (p2 (binA Tryz.prog .mul 30) x4 t9) fun x5 =>
CM.pu (p2 (binA Tryz.prog .sub 30) x3 x5) fun x6 =>
CM.go 868358 [t2, t8, t9, t10, t14, t15, x6, x3, x4]
theorem g212_5_ok : LeD (real E Mk Nk) g212_5 (fun ts m => goR E Mk 868357 ts m) := apS_le fun _ => apS_le fun _ => apS_le fun _ => apS_le fun _ => apS_le fun _ => apS_le fun _ => apS_le fun _ => apS_le fun _ => ap0_le fun _ => goR_eq 400 (by kernel_rfl)
noncomputable def g212_6 : List AV → CM := apS fun t2 => apS fun t8 => apS fun t9 => apS fun t10 => apS fun t14 => apS fun t15 => apS fun t16 => apS fun t17 => apS fun t18 => ap0 <|
CM.pu (p2 (binA Tryz.prog .geq 30) t18 (.int .u64 4294967296)) fun x0 =>
CM.ifv x0 (
CM.go 868359 [t2, t8, t9, t10, t14, t15, t16, t17, t18]) (
CM.pu (p2 (binA Tryz.prog .mul 30) t18 t10) fun x1 =>
CM.pu (p2 (binA Tryz.prog .mul 30) (.int .u64 4294967296) t16) fun x2 =>
CM.pu (p2 (binA Tryz.prog .add 30) x2 t14) fun x3 =>
CM.pu (p2 (binA Tryz.prog .gtr 30) x1 x3) fun x4 =>
CM.cond x4 (
CM.go 868359 [t2, t8, t9, t10, t14, t15, t16, t17, t18]) (
CM.go 868360 [t2, t8, t14, t15, t17, t18]))
theorem g212_6_ok : LeD (real E Mk Nk) g212_6 (fun ts m => goR E Mk 868358 ts m) := apS_le fun _ => apS_le fun _ => apS_le fun _ => apS_le fun _ => apS_le fun _ => apS_le fun _ => apS_le fun _ => apS_le fun _ => apS_le fun _ => ap0_le fun _ => goR_eq 400 (by kernel_rfl)
noncomputable def g212_7 : List AV → CM := apS fun t2 => apS fun t8 => apS fun t9 => apS fun t10 => apS fun t14 => apS fun t15 => apS fun t16 => apS fun t17 => apS fun t18 => ap0 <|
CM.pu (p2 (binA Tryz.prog .sub 30) t18 (.int .u64 1)) fun x0 =>
CM.pu (p2 (binA Tryz.prog .add 30) t16 t9) fun x1 =>
CM.pu (p2 (binA Tryz.prog .geq 30) x1 (.int .u64 4294967296)) fun x2 =>
CM.cond x2 (
CM.go 868360 [t2, t8, t14, t15, t17, x0]) (
CM.go 868358 [t2, t8, t9, t10, t14, t15, x1, t17, x0])
theorem g212_7_ok : LeD (real E Mk Nk) g212_7 (fun ts m => goR E Mk 868359 ts m) := apS_le fun _ => apS_le fun _ => apS_le fun _ => apS_le fun _ => apS_le fun _ => apS_le fun _ => apS_le fun _ => apS_le fun _ => apS_le fun _ => ap0_le fun _ => goR_eq 400 (by kernel_rfl)
noncomputable def g212_8 : List AV → CM := apS fun t2 => apS fun t8 => apS fun t14 => apS fun t15 => apS fun t17 => apS fun t18 => ap0 <|
CM.pu (p2 (binA Tryz.prog .mul 30) t15 (.int .u64 4294967296)) fun x0 =>
CM.pu (p2 (binA Tryz.prog .add 30) x0 t18) fun x1 =>
CM.pu (p2 (binA Tryz.prog .mul 30) t17 (.int .u64 4294967296)) fun x2 =>
CM.pu (p2 (binA Tryz.prog .add 30) x2 t14) fun x3 =>
CM.pu (p2 (binA Tryz.prog .mul 30) t18 t2) fun x4 =>
CM.pu (p2 (binA Tryz.prog .sub 30) x3 x4) fun x5 =>
CM.pu (p2 (binA Tryz.prog .shr 30) x5 t8) fun x6 =>
CM.ret (.tup [x1, x6])
theorem g212_8_ok : LeD (real E Mk Nk) g212_8 (fun ts m => goR E Mk 868360 ts m) := apS_le fun _ => apS_le fun _ => apS_le fun _ => apS_le fun _ => apS_le fun _ => apS_le fun _ => ap0_le fun _ => goR_eq 400 (by kernel_rfl)
noncomputable def f212 : List AV → CM := apS fun a0 => apS fun a1 => apS fun a2 => ap0 <|
CM.pu (p2 (binA Tryz.prog .eql 30) a2 (.int .u64 0)) fun x0 =>
CM.cond x0 (
CM.rm (q1 (loadA Tryz.prog 303) (.ptr (some ⟨0, 0⟩)) ) fun _ =>
CM.fail) (
CM.go 868352 [a0, a1, a2])
theorem f212_ok : LeD (real E Mk Nk) f212 (fun xs m => run E (.fn 212) xs m) := apS_le fun _ => apS_le fun _ => apS_le fun _ => ap0_le fun _ => run_eq 400 rfl (by kernel_rfl) (by kernel_rfl)
noncomputable def g213_0 : List AV → CM := apS fun t1 => ap0 <|
CM.pu (p1 (fun a => fieldAddrA Tryz.prog 35 a 1) t1) fun x0 =>
CM.rm (q1 (loadA Tryz.prog 30) x0 ) fun x1 =>
CM.call 109 [(.int .u64 0), x1, (.int .u64 0)] fun x2 =>
CM.pu (p1 (fun a => extractA a 0) x2) fun x3 =>
CM.pu (p1 (fun a => extractA a 1) x2) fun x4 =>
CM.pu (p1 (fun a => fieldAddrA Tryz.prog 35 a 0) t1) fun x5 =>
CM.rm (q1 (loadA Tryz.prog 2) x5 ) fun x6 =>
CM.pu (p1 (convA Tryz.prog 2 30) x6) fun x7 =>
CM.call 109 [(.int .u64 0), x7, x4] fun x8 =>
CM.pu (p1 (fun a => extractA a 0) x8) fun x9 =>
CM.pu (p1 (fun a => extractA a 1) x8) fun _ =>
CM.ret (.tup [x9, x3])
theorem g213_0_ok : LeD (real E Mk Nk) g213_0 (fun ts m => goR E Mk 872448 ts m) := apS_le fun _ => ap0_le fun _ => goR_eq 400 (by kernel_rfl)
noncomputable def f213 : List AV → CM := apS fun a0 => ap0 <|
CM.al (boxA a0) fun x0 =>
CM.pu (p1 (fun a => fieldAddrA Tryz.prog 35 a 0) x0) fun x1 =>
CM.rm (q1 (loadA Tryz.prog 2) x1 ) fun x2 =>
CM.pu (p2 (binA Tryz.prog .geq 2) x2 (.int .i64 0)) fun x3 =>
CM.cond x3 (
CM.pu (p1 (fun a => fieldAddrA Tryz.prog 35 a 0) x0) fun x4 =>
CM.rm (q1 (loadA Tryz.prog 2) x4 ) fun x5 =>
CM.pu (p1 (convA Tryz.prog 2 30) x5) fun x6 =>
CM.pu (p1 (fun a => fieldAddrA Tryz.prog 35 a 1) x0) fun x7 =>
CM.rm (q1 (loadA Tryz.prog 30) x7 ) fun x8 =>
CM.ret (.tup [x6, x8])) (
CM.go 872448 [x0])
theorem f213_ok : LeD (real E Mk Nk) f213 (fun xs m => run E (.fn 213) xs m) := apS_le fun _ => ap0_le fun _ => run_eq 400 rfl (by kernel_rfl) (by kernel_rfl)
noncomputable def f214 : List AV → CM := apS fun a0 => apS fun a1 => ap0 <|
CM.pu (p2 (binA Tryz.prog .and 30) a0 (.int .u64 4294967295)) fun x0 =>
CM.pu (p2 (binA Tryz.prog .shr 30) a0 (.int .u64 32)) fun x1 =>
CM.pu (p2 (binA Tryz.prog .and 30) a1 (.int .u64 4294967295)) fun x2 =>
CM.pu (p2 (binA Tryz.prog .shr 30) a1 (.int .u64 32)) fun x3 =>
CM.pu (p2 (binA Tryz.prog .mul 30) x0 x2) fun x4 =>
CM.pu (p2 (binA Tryz.prog .mul 30) x1 x2) fun x5 =>
CM.pu (p2 (binA Tryz.prog .shr 30) x4 (.int .u64 32)) fun x6 =>
CM.pu (p2 (binA Tryz.prog .add 30) x5 x6) fun x7 =>
CM.pu (p2 (binA Tryz.prog .and 30) x7 (.int .u64 4294967295)) fun x8 =>
CM.pu (p2 (binA Tryz.prog .shr 30) x7 (.int .u64 32)) fun x9 =>
CM.pu (p2 (binA Tryz.prog .mul 30) x0 x3) fun x10 =>
CM.pu (p2 (binA Tryz.prog .add 30) x8 x10) fun x11 =>
CM.pu (p2 (binA Tryz.prog .mul 30) x1 x3) fun x12 =>
CM.pu (p2 (binA Tryz.prog .add 30) x12 x9) fun x13 =>
CM.pu (p2 (binA Tryz.prog .shr 30) x11 (.int .u64 32)) fun x14 =>
CM.pu (p2 (binA Tryz.prog .add 30) x13 x14) fun x15 =>
CM.pu (p2 (binA Tryz.prog .mul 30) a0 a1) fun x16 =>
CM.ret (.tup [x15, x16])
theorem f214_ok : LeD (real E Mk Nk) f214 (fun xs m => run E (.fn 214) xs m) := apS_le fun _ => apS_le fun _ => ap0_le fun _ => run_eq 400 rfl (by kernel_rfl) (by kernel_rfl)
noncomputable def f215 : List AV → CM := apS fun a0 => apS fun a1 => apS fun a2 => apS fun a3 => ap0 <|
CM.call 214 [a0, a1] fun x0 =>
CM.pu (p1 (fun a => extractA a 0) x0) fun x1 =>
CM.pu (p1 (fun a => extractA a 1) x0) fun x2 =>
CM.pu (p2 (indexAddrA Tryz.prog 271) a3 a2) fun x3 =>
CM.rm (q1 (loadA Tryz.prog 30) x3 ) fun x4 =>
CM.call 145 [x4, x2, (.int .u64 0)] fun x5 =>
CM.pu (p1 (fun a => extractA a 0) x5) fun x6 =>
CM.pu (p1 (fun a => extractA a 1) x5) fun x7 =>
CM.pu (p2 (indexAddrA Tryz.prog 271) a3 a2) fun x8 =>
CM.st (fun m => stV m x8 x6 1) <|
CM.pu (p2 (binA Tryz.prog .add 3) a2 (.int .i64 1)) fun x10 =>
CM.pu (p2 (binA Tryz.prog .add 3) a2 (.int .i64 1)) fun x11 =>
CM.pu (p2 (indexAddrA Tryz.prog 271) a3 x11) fun x12 =>
CM.rm (q1 (loadA Tryz.prog 30) x12 ) fun x13 =>
CM.call 145 [x13, x1, x7] fun x14 =>
CM.pu (p1 (fun a => extractA a 0) x14) fun x15 =>
CM.pu (p1 (fun a => extractA a 1) x14) fun x16 =>
CM.pu (p2 (indexAddrA Tryz.prog 271) a3 x10) fun x17 =>
CM.st (fun m => stV m x17 x15 1) <|
CM.pu (p2 (binA Tryz.prog .add 3) a2 (.int .i64 2)) fun x19 =>
CM.pu (p2 (binA Tryz.prog .lss 3) x19 (.int .i64 4)) fun x20 =>
CM.cond x20 (
CM.pu (p2 (binA Tryz.prog .add 3) a2 (.int .i64 2)) fun x21 =>
CM.pu (p2 (indexAddrA Tryz.prog 271) a3 x21) fun x22 =>
CM.rm (q1 (loadA Tryz.prog 30) x22 ) fun x23 =>
CM.pu (p2 (binA Tryz.prog .add 30) x23 x16) fun x24 =>
CM.pu (p2 (indexAddrA Tryz.prog 271) a3 x21) fun x25 =>
CM.st (fun m => stV m x25 x24 1) <|
CM.ret .undef) (
CM.ret .undef)
theorem f215_ok : LeD (real E Mk Nk) f215 (fun xs m => run E (.fn 215) xs m) := apS_le fun _ => apS_le fun _ => apS_le fun _ => apS_le fun _ => ap0_le fun _ => run_eq 400 rfl (by kernel_rfl) (by kernel_rfl)
noncomputable def g216_0 : List AV → CM := apS fun t1 => apS fun t2 => apS fun t6 => ap0 <|
CM.pu (p1 (convA Tryz.prog 30 2) t1) fun x0 =>
CM.pu (p1 (buildA Tryz.prog 35) [(0, x0), (1, t2)]) fun x1 =>
CM.st (fun m => stV m t6 x1 2) <|
CM.resC Tryz.prog [ResultVar.cell 0 35, ResultVar.tmp 1] [t6, (.int .i64 0)]
theorem g216_0_ok : LeD (real E Mk Nk) g216_0 (fun ts m => goR E Mk 884736 ts m) := apS_le fun _ => apS_le fun _ => apS_le fun _ => ap0_le fun _ => goR_eq 400 (by kernel_rfl)
noncomputable def g216_1 : List AV → CM := apS fun t1 => apS fun t2 => apS fun t6 => ap0 <|
CM.pu (p2 (binA Tryz.prog .gtr 30) t1 (.int .u64 9223372036854775808)) fun x0 =>
CM.ifv x0 (
CM.pu (p1 (buildA Tryz.prog 35) []) fun x1 =>
CM.st (fun m => stV m t6 x1 2) <|
CM.resC Tryz.prog [ResultVar.cell 0 35, ResultVar.tmp 1] [t6, (.int .i64 20)]) (
CM.pu (p2 (binA Tryz.prog .eql 30) t1 (.int .u64 9223372036854775808)) fun x3 =>
CM.ifv x3 (
CM.pu (p2 (binA Tryz.prog .gtr 30) t2 (.int .u64 0)) fun x4 =>
CM.cond x4 (
CM.pu (p1 (buildA Tryz.prog 35) []) fun x5 =>
CM.st (fun m => stV m t6 x5 2) <|
CM.resC Tryz.prog [ResultVar.cell 0 35, ResultVar.tmp 1] [t6, (.int .i64 20)]) (
CM.go 884738 [t1, t2, t6])) (
CM.go 884738 [t1, t2, t6]))
theorem g216_1_ok : LeD (real E Mk Nk) g216_1 (fun ts m => goR E Mk 884737 ts m) := apS_le fun _ => apS_le fun _ => apS_le fun _ => ap0_le fun _ => goR_eq 400 (by kernel_rfl)
noncomputable def g216_2 : List AV → CM := apS fun t1 => apS fun t2 => apS fun t6 => ap0 <|
CM.call 109 [(.int .u64 0), t2, (.int .u64 0)] fun x0 =>
CM.pu (p1 (fun a => extractA a 0) x0) fun x1 =>
CM.pu (p1 (fun a => extractA a 1) x0) fun x2 =>
CM.call 109 [(.int .u64 0), t1, x2] fun x3 =>
CM.pu (p1 (fun a => extractA a 0) x3) fun x4 =>
CM.pu (p1 (fun a => extractA a 1) x3) fun _ =>
CM.pu (p1 (convA Tryz.prog 30 2) x4) fun x6 =>
CM.pu (p1 (buildA Tryz.prog 35) [(0, x6), (1, x1)]) fun x7 =>
CM.st (fun m => stV m t6 x7 2) <|
CM.resC Tryz.prog [ResultVar.cell 0 35, ResultVar.tmp 1] [t6, (.int .i64 0)]
theorem g216_2_ok : LeD (real E Mk Nk) g216_2 (fun ts m => goR E Mk 884738 ts m) := apS_le fun _ => apS_le fun _ => apS_le fun _ => ap0_le fun _ => goR_eq 400 (by kernel_rfl)
noncomputable def f216 : List AV → CM := apS fun a0 => apS fun a1 => apS fun a2 => ap0 <|
CM.al (some (.cells [(.int .i64 0), (.int .u64 0)] false, pB)) fun x0 =>
CM.pu (p1 (unA .not) a0) fun x1 =>
CM.cond x1 (
CM.pu (p2 (binA Tryz.prog .geq 30) a1 (.int .u64 9223372036854775808)) fun x2 =>
CM.cond x2 (
CM.pu (p1 (buildA Tryz.prog 35) []) fun x3 =>
CM.st (fun m => stV m x0 x3 2) <|
CM.resC Tryz.prog [ResultVar.cell 0 35, ResultVar.tmp 1] [x0, (.int .i64 20)]) (
CM.go 884736 [a1, a2, x0])) (
CM.go 884737 [a1, a2, x0])
theorem f216_ok : LeD (real E Mk Nk) f216 (fun xs m => run E (.fn 216) xs m) := apS_le fun _ => apS_le fun _ => apS_le fun _ => ap0_le fun _ => run_eq 400 rfl (by kernel_rfl) (by kernel_rfl)
noncomputable def f217 : List AV → CM := apS fun a0 => apS fun a1 => ap0 <|
CM.pu (p2 (fun a h => sliceA Tryz.prog 75 a none (some h)) a0 a1) fun x0 =>
CM.call 220 [x0] fun _ =>
CM.pu (p2 (fun a l => sliceA Tryz.prog 75 a (some l) none) a0 a1) fun x2 =>
CM.call 220 [x2] fun _ =>
CM.call 220 [a0] fun _ =>
CM.ret .undef
theorem f217_ok : LeD (real E Mk Nk) f217 (fun xs m => run E (.fn 217) xs m) := apS_le fun _ => apS_le fun _ => ap0_le fun _ => run_eq 400 rfl (by kernel_rfl) (by kernel_rfl)
noncomputable def g218_0 : List AV → CM := apS fun t0 => ap0 <|
CM.go 892929 [t0, (.int .i64 0)]
theorem g218_0_ok : LeD (real E Mk Nk) g218_0 (fun ts m => goR E Mk 892928 ts m) := apS_le fun _ => ap0_le fun _ => goR_eq 400 (by kernel_rfl)
noncomputable def g218_1 : List AV → CM := apS fun t0 => apS fun t3 => ap0 <|
CM.pu (p2 (binA Tryz.prog .lss 3) t3 (.int .i64 3)) fun x0 =>
CM.cond x0 (
CM.go 892930 [t0, t3]) (
CM.go 892932 [])
theorem g218_1_ok : LeD (real E Mk Nk) g218_1 (fun ts m => goR E Mk 892929 ts m) := apS_le fun _ => apS_le fun _ => ap0_le fun _ => goR_eq 400 (by kernel_rfl)
noncomputable def g218_2 : List AV → CM := apS fun t0 => apS fun t3 => ap0 <|
CM.pu (p2 (indexA Tryz.prog 9) t0 t3) fun x0 =>
CM.pu (p2 (binA Tryz.prog .lss 5) x0 (.int .u8 65)) fun x1 =>
CM.ifv x1 (
CM.ret (.bool false)) (
CM.pu (p2 (indexA Tryz.prog 9) t0 t3) fun x2 =>
CM.pu (p2 (binA Tryz.prog .gtr 5) x2 (.int .u8 90)) fun x3 =>
CM.cond x3 (
CM.ret (.bool false)) (
CM.go 892931 [t0, t3]))
theorem g218_2_ok : LeD (real E Mk Nk) g218_2 (fun ts m => goR E Mk 892930 ts m) := apS_le fun _ => apS_le fun _ => ap0_le fun _ => goR_eq 400 (by kernel_rfl)
noncomputable def g218_3 : List AV → CM := apS fun t0 => apS fun t3 => ap0 <|
CM.pu (p2 (binA Tryz.prog .add 3) t3 (.int .i64 1)) fun x0 =>
CM.go 892929 [t0, x0]
theorem g218_3_ok : LeD (real E Mk Nk) g218_3 (fun ts m => goR E Mk 892931 ts m) := apS_le fun _ => apS_le fun _ => ap0_le fun _ => goR_eq 400 (by kernel_rfl)
noncomputable def g218_4 : List AV → CM := ap0 <|
CM.ret (.bool true)
theorem g218_4_ok : LeD (real E Mk Nk) g218_4 (fun ts m => goR E Mk 892932 ts m) := ap0_le fun _ => goR_eq 400 (by kernel_rfl)
noncomputable def f218 : List AV → CM := apS fun a0 => ap0 <|
CM.pu (p1 (lenT Tryz.prog 9) a0) fun x0 =>
CM.pu (p2 (binA Tryz.prog .neq 3) x0 (.int .i64 3)) fun x1 =>
CM.cond x1 (
CM.ret (.bool false)) (
CM.go 892928 [a0])
theorem f218_ok : LeD (real E Mk Nk) f218 (fun xs m => run E (.fn 218) xs m) := apS_le fun _ => ap0_le fun _ => run_eq 400 rfl (by kernel_rfl) (by kernel_rfl)
noncomputable def f219 : List AV → CM := apS fun a0 => ap0 <|
CM.call 221 [a0] fun x0 =>
CM.pu (p2 (binA Tryz.prog .sub 3) (.int .i64 64) x0) fun x1 =>
CM.ret x1
theorem f219_ok : LeD (real E Mk Nk) f219 (fun xs m => run E (.fn 219) xs m) := apS_le fun _ => ap0_le fun _ => run_eq 400 rfl (by kernel_rfl) (by kernel_rfl)
noncomputable def g220_0 : List AV → CM := apS fun t0 => apS fun t2 => apS fun t3 => ap0 <|
CM.pu (p2 (binA Tryz.prog .lss 3) t2 t3) fun x0 =>
CM.cond x0 (
CM.go 901121 [t0, t2, t3]) (
CM.ret .undef)
theorem g220_0_ok : LeD (real E Mk Nk) g220_0 (fun ts m => goR E Mk 901120 ts m) := apS_le fun _ => apS_le fun _ => apS_le fun _ => ap0_le fun _ => goR_eq 400 (by kernel_rfl)
noncomputable def g220_1 : List AV → CM := apS fun t0 => apS fun t2 => apS fun t3 => ap0 <|
CM.pu (p2 (indexAddrA Tryz.prog 75) t0 t3) fun x0 =>
CM.rm (q1 (loadA Tryz.prog 205) x0 ) fun x1 =>
CM.pu (p2 (indexAddrA Tryz.prog 75) t0 t2) fun x2 =>
CM.rm (q1 (loadA Tryz.prog 205) x2 ) fun x3 =>
CM.pu (p2 (indexAddrA Tryz.prog 75) t0 t2) fun x4 =>
CM.st (fun m => stV m x4 x1 4) <|
CM.pu (p2 (indexAddrA Tryz.prog 75) t0 t3) fun x8 =>
CM.st (fun m => stV m x8 x3 4) <|
CM.go 901122 [t0, t2, t3]
theorem g220_1_ok : LeD (real E Mk Nk) g220_1 (fun ts m => goR E Mk 901121 ts m) := apS_le fun _ => apS_le fun _ => apS_le fun _ => ap0_le fun _ => goR_eq 400 (by kernel_rfl)
noncomputable def g220_2 : List AV → CM := apS fun t0 => apS fun t2 => apS fun t3 => ap0 <|
CM.pu (p2 (binA Tryz.prog .add 3) t2 (.int .i64 1)) fun x0 =>
CM.pu (p2 (binA Tryz.prog .sub 3) t3 (.int .i64 1)) fun x1 =>
CM.go 901120 [t0, x0, x1]
theorem g220_2_ok : LeD (real E Mk Nk) g220_2 (fun ts m => goR E Mk 901122 ts m) := apS_le fun _ => apS_le fun _ => apS_le fun _ => ap0_le fun _ => goR_eq 400 (by kernel_rfl)
noncomputable def f220 : List AV → CM := apS fun a0 => ap0 <|
CM.pu (p1 (lenT Tryz.prog 75) a0) fun x0 =>
CM.pu (p2 (binA Tryz.prog .sub 3) x0 (.int .i64 1)) fun x1 =>
CM.go 901120 [a0, (.int .i64 0), x1]
theorem f220_ok : LeD (real E Mk Nk) f220 (fun xs m => run E (.fn 220) xs m) := apS_le fun _ => ap0_le fun _ => run_eq 400 rfl (by kernel_rfl) (by kernel_rfl)
noncomputable def g221_0 : List AV → CM := apS fun t0 => apS fun t2 => ap0 <|
CM.pu (p2 (binA Tryz.prog .geq 30) t0 (.int .u64 65536)) fun x0 =>
CM.cond x0 (
CM.pu (p2 (binA Tryz.prog .shr 30) t0 (.int .u64 16)) fun x1 =>
CM.pu (p2 (binA Tryz.prog .add 3) t2 (.int .i64 16)) fun x2 =>
CM.go 905217 [x1, x2]) (
CM.go 905217 [t0, t2])
theorem g221_0_ok : LeD (real E Mk Nk) g221_0 (fun ts m => goR E Mk 905216 ts m) := apS_le fun _ => apS_le fun _ => ap0_le fun _ => goR_eq 400 (by kernel_rfl)
noncomputable def g221_1 : List AV → CM := apS fun t0 => apS fun t2 => ap0 <|
CM.pu (p2 (binA Tryz.prog .geq 30) t0 (.int .u64 256)) fun x0 =>
CM.cond x0 (
CM.pu (p2 (binA Tryz.prog .shr 30) t0 (.int .u64 8)) fun x1 =>
CM.pu (p2 (binA Tryz.prog .add 3) t2 (.int .i64 8)) fun x2 =>
CM.go 905218 [x1, x2]) (
CM.go 905218 [t0, t2])
theorem g221_1_ok : LeD (real E Mk Nk) g221_1 (fun ts m => goR E Mk 905217 ts m) := apS_le fun _ => apS_le fun _ => ap0_le fun _ => goR_eq 400 (by kernel_rfl)
noncomputable def g221_2 : List AV → CM := apS fun t0 => apS fun t2 => ap0 <|
CM.pu (p1 (convA Tryz.prog 30 5) t0) fun x0 =>
CM.pu (p2 (indexA Tryz.prog 9) (.str [0, 1, 2, 2, 3, 3, 3, 3, 4, 4, 4, 4, 4, 4, 4, 4, 5, 5, 5, 5, 5, 5, 5, 5, 5, 5, 5, 5, 5, 5, 5, 5, 6, 6, 6, 6, 6, 6, 6, 6, 6, 6, 6, 6, 6, 6, 6, 6, 6, 6, 6, 6, 6, 6, 6, 6, 6, 6, 6, 6, 6, 6, 6, 6, 7, 7, 7, 7, 7, 7, 7, 7, 7, 7, 7, 7, 7, 7, 7, 7, 7, 7, 7, 7, 7, 7, 7, 7, 7, 7, 7, 7, 7, 7, 7, 7, 7, 7, 7, 7, 7, 7, 7, 7, 7, 7, 7, 7, 7, 7, 7, 7, 7, 7, 7, 7, 7, 7, 7, 7, 7, 7, 7, 7, 7, 7, 7, 7, 8, 8, 8, 8, 8, 8, 8, 8, 8, 8, 8, 8, 8, 8, 8, 8, 8, 8, 8, 8, 8, 8, 8, 8, 8, 8, 8, 8, 8, 8, 8, 8, 8, 8, 8, 8, 8, 8, 8, 8, 8, 8, 8, 8, 8, 8, 8, 8, 8, 8, 8, 8, 8, 8, 8, 8, 8, 8, 8, 8, 8, 8, 8, 8, 8, 8, 8, 8, 8, 8, 8, 8, 8, 8, 8, 8, 8, 8, 8, 8, 8, 8, 8, 8, 8, 8, 8, 8, 8, 8, 8, 8, 8, 8, 8, 8, 8, 8, 8, 8, 8, 8, 8, 8, 8, 8, 8, 8, 8, 8, 8, 8, 8, 8, 8, 8, 8, 8, 8, 8, 8, 8, 8, 8, 8, 8, 8, 8]) x0) fun x1 =>
CM.pu (p1 (convA Tryz.prog 5 3) x1) fun x2 =>
CM.pu (p2 (binA Tryz.prog .add 3) t2 x2) fun x3 =>
CM.ret x3
theorem g221_2_ok : LeD (real E Mk Nk) g221_2 (fun ts m => goR E Mk 905218 ts m) := apS_le fun _ => apS_le fun _ => ap0_le fun _ => goR_eq 400 (by kernel_rfl)
noncomputable def f221 : List AV → CM := apS fun a0 => ap0 <|
CM.pu (p2 (binA Tryz.prog .geq 30) a0 (.int .u64 4294967296)) fun x0 =>
CM.cond x0 (
CM.pu (p2 (binA Tryz.prog .shr 30) a0 (.int .u64 32)) fun x1 =>
CM.go 905216 [x1, (.int .i64 32)]) (
CM.go 905216 [a0, (.int .i64 0)])
theorem f221_ok : LeD (real E Mk Nk) f221 (fun xs m => run E (.fn 221) xs m) := apS_le fun _ => ap0_le fun _ => run_eq 400 rfl (by kernel_rfl) (by kernel_rfl)
end Go.Proofs.YtamooapjonlcdaaGreat.T
