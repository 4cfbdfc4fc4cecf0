/- Functions as trees, printed by our own program (wip/tools/gen3.lean). -/
import Derived.Test.YtamooapjonlcdaaGreatT0
namespace Go.Proofs.YtamooapjonlcdaaGreat.T
open Go Go.Abs Go.Proofs.YtamooapjonlcdaaGreat
set_option maxRecDepth 10000
noncomputable def f151 : List AV → CM := apS fun a0 => apS fun a1 => ap0 <|
CM.al (boxA a0) fun x0 =>
CM.al (boxA a1) fun x1 =>
CM.al (some (.cells [(.int .i64 0), (.int .u64 0)] false, pB)) fun x2 =>
CM.pu (p1 (fun a => fieldAddrA Tryz.prog 35 a 0) x0) fun x3 =>
CM.rm (q1 (loadA Tryz.prog 2) x3 ) fun x4 =>
CM.pu (p2 (binA Tryz.prog .lss 2) x4 (.int .i64 0)) fun x5 =>
CM.pu (p1 (fun a => fieldAddrA Tryz.prog 35 a 0) x1) fun x6 =>
CM.rm (q1 (loadA Tryz.prog 2) x6 ) fun x7 =>
CM.pu (p2 (binA Tryz.prog .lss 2) x7 (.int .i64 0)) fun x8 =>
CM.pu (p2 (binA Tryz.prog .neq 4) x5 x8) fun x9 =>
CM.rm (q1 (loadA Tryz.prog 35) x0 ) fun x10 =>
CM.rm (q1 (loadA Tryz.prog 35) x1 ) fun x11 =>
CM.call 191 [x10, x11] fun x13 =>
CM.memo fun m14 =>
CM.chk (q1 (loadA Tryz.prog 2) x6 m14) x7 <|
CM.chk (q1 (loadA Tryz.prog 2) x3 m14) x4 <|
CM.call 193 [x9, x13] fun x16 =>
CM.pu (p1 (fun a => extractA a 0) x16) fun x18 =>
CM.pu (p1 (fun a => extractA a 1) x16) fun x19 =>
CM.st (fun m => stV m x2 x18 2) <|
CM.resC Tryz.prog [ResultVar.cell 0 35, ResultVar.tmp 1] [x2, x19]
theorem f151_ok : LeD (real E Mk Nk) f151 (fun xs m => run E (.fn 151) xs m) := apS_le fun _ => apS_le fun _ => ap0_le fun _ => run_eq 400 rfl (by kernel_rfl) (by kernel_rfl)
noncomputable def g152_0 : List AV → CM := apS fun t2 => apS fun t4 => apS fun t6 => ap0 <|
CM.rm (q1 (loadA Tryz.prog 35) t2 ) fun x0 =>
CM.rm (q1 (loadA Tryz.prog 35) t6 ) fun x1 =>
CM.call 151 [x0, x1] fun x2 =>
CM.pu (p1 (fun a => extractA a 0) x2) fun x3 =>
CM.pu (p1 (fun a => extractA a 1) x2) fun x4 =>
CM.st (fun m => stV m t4 x3 2) <|
CM.resC Tryz.prog [ResultVar.cell 0 35, ResultVar.tmp 1] [t4, x4]
theorem g152_0_ok : LeD (real E Mk Nk) g152_0 (fun ts m => goR E Mk 622592 ts m) := apS_le fun _ => apS_le fun _ => apS_le fun _ => ap0_le fun _ => goR_eq 400 (by kernel_rfl)
noncomputable def f152 : List AV → CM := apS fun a0 => apS fun a1 => ap0 <|
CM.al (boxA a0) fun x0 =>
CM.al (some (.cells [(.int .i64 0), (.int .u64 0)] false, pB)) fun x1 =>
CM.call 194 [a1] fun x2 =>
CM.pu (p1 (fun a => extractA a 0) x2) fun x3 =>
CM.pu (p1 (fun a => extractA a 1) x2) fun x4 =>
CM.al (some (.cells [(.int .i64 0), (.int .u64 0)] false, pB)) fun x5 =>
CM.st (fun m => stV m x5 x3 2) <|
CM.pu (p2 (binA Tryz.prog .neq 25) x4 (.int .i64 0)) fun x7 =>
CM.cond x7 (
CM.pu (p1 (buildA Tryz.prog 35) []) fun x8 =>
CM.st (fun m => stV m x1 x8 2) <|
CM.resC Tryz.prog [ResultVar.cell 0 35, ResultVar.tmp 1] [x1, x4]) (
CM.go 622592 [x0, x1, x5])
theorem f152_ok : LeD (real E Mk Nk) f152 (fun xs m => run E (.fn 152) xs m) := apS_le fun _ => apS_le fun _ => ap0_le fun _ => run_eq 400 rfl (by kernel_rfl) (by kernel_rfl)
noncomputable def g153_0 : List AV → CM := apS fun t2 => apS fun t3 => apS fun t4 => apS fun t5 => apS fun t6 => apS fun t7 => ap0 <|
CM.pu (p2 (binA Tryz.prog .lss 3) t7 (.int .i64 16)) fun x0 =>
CM.cond x0 (
CM.go 626689 [t2, t3, t4, t5, t6, t7]) (
CM.go 626691 [t4, t5])
theorem g153_0_ok : LeD (real E Mk Nk) g153_0 (fun ts m => goR E Mk 626688 ts m) := apS_le fun _ => apS_le fun _ => apS_le fun _ => apS_le fun _ => apS_le fun _ => apS_le fun _ => ap0_le fun _ => goR_eq 400 (by kernel_rfl)
noncomputable def g153_1 : List AV → CM := apS fun t2 => apS fun t3 => apS fun t4 => apS fun t5 => apS fun t6 => apS fun t7 => ap0 <|
CM.pu (p2 (indexAddrA Tryz.prog 114) t2 t7) fun x0 =>
CM.rm (q1 (loadA Tryz.prog 30) x0 ) fun x1 =>
CM.pu (p2 (binA Tryz.prog .add 30) x1 (.int .u64 4294967296)) fun x2 =>
CM.pu (p2 (indexAddrA Tryz.prog 114) t3 t7) fun x3 =>
CM.rm (q1 (loadA Tryz.prog 30) x3 ) fun x4 =>
CM.pu (p2 (binA Tryz.prog .sub 30) x2 x4) fun x5 =>
CM.pu (p2 (binA Tryz.prog .sub 30) x5 t6) fun x6 =>
CM.pu (p2 (binA Tryz.prog .rem 30) x6 (.int .u64 4294967296)) fun x7 =>
CM.pu (p2 (indexAddrA Tryz.prog 114) t5 t7) fun x8 =>
CM.st (fun m => stV m x8 x7 1) <|
CM.pu (p2 (binA Tryz.prog .quo 30) x6 (.int .u64 4294967296)) fun x10 =>
CM.pu (p2 (binA Tryz.prog .sub 30) (.int .u64 1) x10) fun x11 =>
CM.go 626690 [t2, t3, t4, t5, x11, t7]
theorem g153_1_ok : LeD (real E Mk Nk) g153_1 (fun ts m => goR E Mk 626689 ts m) := apS_le fun _ => apS_le fun _ => apS_le fun _ => apS_le fun _ => apS_le fun _ => apS_le fun _ => ap0_le fun _ => goR_eq 400 (by kernel_rfl)
noncomputable def g153_2 : List AV → CM := apS fun t2 => apS fun t3 => apS fun t4 => apS fun t5 => apS fun t6 => apS fun t7 => ap0 <|
CM.pu (p2 (binA Tryz.prog .add 3) t7 (.int .i64 1)) fun x0 =>
CM.go 626688 [t2, t3, t4, t5, t6, x0]
theorem g153_2_ok : LeD (real E Mk Nk) g153_2 (fun ts m => goR E Mk 626690 ts m) := apS_le fun _ => apS_le fun _ => apS_le fun _ => apS_le fun _ => apS_le fun _ => apS_le fun _ => ap0_le fun _ => goR_eq 400 (by kernel_rfl)
noncomputable def g153_3 : List AV → CM := apS fun t4 => apS fun t5 => ap0 <|
CM.rm (q1 (loadA Tryz.prog 114) t5 ) fun x0 =>
CM.st (fun m => stV m t4 x0 16) <|
CM.resC Tryz.prog [ResultVar.cell 0 114] [t4]
theorem g153_3_ok : LeD (real E Mk Nk) g153_3 (fun ts m => goR E Mk 626691 ts m) := apS_le fun _ => apS_le fun _ => ap0_le fun _ => goR_eq 400 (by kernel_rfl)
noncomputable def f153 : List AV → CM := apS fun a0 => apS fun a1 => ap0 <|
CM.al (boxA a0) fun x0 =>
CM.al (boxA a1) fun x1 =>
CM.al (some (.cells [(.int .u64 0), (.int .u64 0), (.int .u64 0), (.int .u64 0), (.int .u64 0), (.int .u64 0), (.int .u64 0), (.int .u64 0), (.int .u64 0), (.int .u64 0), (.int .u64 0), (.int .u64 0), (.int .u64 0), (.int .u64 0), (.int .u64 0), (.int .u64 0)] false, pB)) fun x2 =>
CM.al (some (.cells [(.int .u64 0), (.int .u64 0), (.int .u64 0), (.int .u64 0), (.int .u64 0), (.int .u64 0), (.int .u64 0), (.int .u64 0), (.int .u64 0), (.int .u64 0), (.int .u64 0), (.int .u64 0), (.int .u64 0), (.int .u64 0), (.int .u64 0), (.int .u64 0)] false, pB)) fun x3 =>
CM.go 626688 [x0, x1, x2, x3, (.int .u64 0), (.int .i64 0)]
theorem f153_ok : LeD (real E Mk Nk) f153 (fun xs m => run E (.fn 153) xs m) := apS_le fun _ => apS_le fun _ => ap0_le fun _ => run_eq 400 rfl (by kernel_rfl) (by kernel_rfl)
noncomputable def f154 : List AV → CM := apS fun a0 => apS fun a1 => ap0 <|
CM.rm (q1 (loadA Tryz.prog 200) a1 ) fun x0 =>
CM.memo fun m1 =>
CM.call 156 [x0] fun x2 =>
CM.rm (q1 (loadA Tryz.prog 200) a1 ) fun x4 =>
CM.chk (q1 (loadA Tryz.prog 200) a1 m1) x4 <|
CM.call 157 [x4] fun x6 =>
CM.call 155 [x2, x6, a0] fun _ =>
CM.ret .undef
theorem f154_ok : LeD (real E Mk Nk) f154 (fun xs m => run E (.fn 154) xs m) := apS_le fun _ => apS_le fun _ => ap0_le fun _ => run_eq 400 rfl (by kernel_rfl) (by kernel_rfl)
noncomputable def g155_0 : List AV → CM := apS fun t1 => apS fun t2 => apS fun t8 => apS fun t9 => apS fun t10 => ap0 <|
CM.pu (p2 (binA Tryz.prog .lss 3) t10 t9) fun x0 =>
CM.cond x0 (
CM.go 634881 [t1, t2, t8, t9, t10]) (
CM.ret .undef)
theorem g155_0_ok : LeD (real E Mk Nk) g155_0 (fun ts m => goR E Mk 634880 ts m) := apS_le fun _ => apS_le fun _ => apS_le fun _ => apS_le fun _ => apS_le fun _ => ap0_le fun _ => goR_eq 400 (by kernel_rfl)
noncomputable def g155_1 : List AV → CM := apS fun t1 => apS fun t2 => apS fun t8 => apS fun t9 => apS fun t10 => ap0 <|
CM.pu (p2 (indexAddrA Tryz.prog 142) t8 t10) fun x0 =>
CM.rm (q1 (loadA Tryz.prog 30) x0 ) fun x1 =>
CM.pu (p2 (indexAddrA Tryz.prog 75) t1 t10) fun x2 =>
CM.rm (q1 (loadA Tryz.prog 205) x2 ) fun x3 =>
CM.callv t2 [x1, x3] fun x4 =>
CM.pu (p1 (unA .not) x4) fun x5 =>
CM.cond x5 (
CM.ret .undef) (
CM.go 634882 [t1, t2, t8, t9, t10])
theorem g155_1_ok : LeD (real E Mk Nk) g155_1 (fun ts m => goR E Mk 634881 ts m) := apS_le fun _ => apS_le fun _ => apS_le fun _ => apS_le fun _ => apS_le fun _ => ap0_le fun _ => goR_eq 400 (by kernel_rfl)
noncomputable def g155_2 : List AV → CM := apS fun t1 => apS fun t2 => apS fun t8 => apS fun t9 => apS fun t10 => ap0 <|
CM.pu (p2 (binA Tryz.prog .add 3) t10 (.int .i64 1)) fun x0 =>
CM.go 634880 [t1, t2, t8, t9, x0]
theorem g155_2_ok : LeD (real E Mk Nk) g155_2 (fun ts m => goR E Mk 634882 ts m) := apS_le fun _ => apS_le fun _ => apS_le fun _ => apS_le fun _ => apS_le fun _ => ap0_le fun _ => goR_eq 400 (by kernel_rfl)
noncomputable def f155 : List AV → CM := apS fun a0 => apS fun a1 => apS fun a2 => ap0 <|
CM.pu (p1 (lenT Tryz.prog 142) a0) fun x0 =>
CM.go 634880 [a1, a2, a0, x0, (.int .i64 0)]
theorem f155_ok : LeD (real E Mk Nk) f155 (fun xs m => run E (.fn 155) xs m) := apS_le fun _ => apS_le fun _ => apS_le fun _ => ap0_le fun _ => run_eq 400 rfl (by kernel_rfl) (by kernel_rfl)
noncomputable def f156 : List AV → CM := apS fun a0 => ap0 <|
CM.al (some (.cells [] false, sB 1 0)) fun x0 =>
CM.pu (p1 nnA a0) fun x1 =>
CM.pu (p1 (fun a => fieldAddrA Tryz.prog 250 a 0) x1) fun x2 =>
CM.rm (q1 (loadA Tryz.prog 142) x2 ) fun x3 =>
CM.ef (apE 1 8 x0 x3) fun x4 =>
CM.ret x4
theorem f156_ok : LeD (real E Mk Nk) f156 (fun xs m => run E (.fn 156) xs m) := apS_le fun _ => ap0_le fun _ => run_eq 400 rfl (by kernel_rfl) (by kernel_rfl)
noncomputable def f157 : List AV → CM := apS fun a0 => ap0 <|
CM.al (some (.cells [] false, sB 4 0)) fun x0 =>
CM.pu (p1 nnA a0) fun x1 =>
CM.pu (p1 (fun a => fieldAddrA Tryz.prog 250 a 1) x1) fun x2 =>
CM.rm (q1 (loadA Tryz.prog 75) x2 ) fun x3 =>
CM.ef (apE 4 48 x0 x3) fun x4 =>
CM.ret x4
theorem f157_ok : LeD (real E Mk Nk) f157 (fun xs m => run E (.fn 157) xs m) := apS_le fun _ => ap0_le fun _ => run_eq 400 rfl (by kernel_rfl) (by kernel_rfl)
noncomputable def g158_0 : List AV → CM := apS fun t0 => apS fun t1 => apS fun t2 => ap0 <|
CM.pu (p1 (lenT Tryz.prog 142) t0) fun x0 =>
CM.pu (p2 (fun a h => sliceA Tryz.prog 142 a none (some h)) t0 t1) fun x1 =>
CM.pu (p2 (fun a l => sliceA Tryz.prog 142 a (some l) none) t0 t2) fun x2 =>
CM.ef (apE 1 8 x1 x2) fun x4 =>
CM.pu (p1 (lenT Tryz.prog 142) x4) fun x6 =>
CM.pu (p3 (fun a l h => sliceA Tryz.prog 142 a (some l) (some h)) x4 x6 x0) fun x7 =>
CM.st (clearA Tryz.prog 142 x7) <|
CM.ret x4
theorem g158_0_ok : LeD (real E Mk Nk) g158_0 (fun ts m => goR E Mk 647168 ts m) := apS_le fun _ => apS_le fun _ => apS_le fun _ => ap0_le fun _ => goR_eq 400 (by kernel_rfl)
noncomputable def f158 : List AV → CM := apS fun a0 => apS fun a1 => apS fun a2 => ap0 <|
CM.pu (p1 (lenT Tryz.prog 142) a0) fun x0 =>
CM.pu (slice3A Tryz.prog 142 a0 (some a1) a2 x0) fun _ =>
CM.pu (p2 (binA Tryz.prog .eql 3) a1 a2) fun x2 =>
CM.cond x2 (
CM.ret a0) (
CM.go 647168 [a0, a1, a2])
theorem f158_ok : LeD (real E Mk Nk) f158 (fun xs m => run E (.fn 158) xs m) := apS_le fun _ => apS_le fun _ => apS_le fun _ => ap0_le fun _ => run_eq 400 rfl (by kernel_rfl) (by kernel_rfl)
noncomputable def g159_0 : List AV → CM := apS fun t0 => apS fun t1 => apS fun t2 => ap0 <|
CM.pu (p1 (lenT Tryz.prog 75) t0) fun x0 =>
CM.pu (p2 (fun a h => sliceA Tryz.prog 75 a none (some h)) t0 t1) fun x1 =>
CM.pu (p2 (fun a l => sliceA Tryz.prog 75 a (some l) none) t0 t2) fun x2 =>
CM.ef (apE 4 48 x1 x2) fun x4 =>
CM.pu (p1 (lenT Tryz.prog 75) x4) fun x6 =>
CM.pu (p3 (fun a l h => sliceA Tryz.prog 75 a (some l) (some h)) x4 x6 x0) fun x7 =>
CM.st (clearA Tryz.prog 75 x7) <|
CM.ret x4
theorem g159_0_ok : LeD (real E Mk Nk) g159_0 (fun ts m => goR E Mk 651264 ts m) := apS_le fun _ => apS_le fun _ => apS_le fun _ => ap0_le fun _ => goR_eq 400 (by kernel_rfl)
noncomputable def f159 : List AV → CM := apS fun a0 => apS fun a1 => apS fun a2 => ap0 <|
CM.pu (p1 (lenT Tryz.prog 75) a0) fun x0 =>
CM.pu (slice3A Tryz.prog 75 a0 (some a1) a2 x0) fun _ =>
CM.pu (p2 (binA Tryz.prog .eql 3) a1 a2) fun x2 =>
CM.cond x2 (
CM.ret a0) (
CM.go 651264 [a0, a1, a2])
theorem f159_ok : LeD (real E Mk Nk) f159 (fun xs m => run E (.fn 159) xs m) := apS_le fun _ => apS_le fun _ => apS_le fun _ => ap0_le fun _ => run_eq 400 rfl (by kernel_rfl) (by kernel_rfl)
noncomputable def f160 : List AV → CM := apS fun a0 => apS fun a1 => ap0 <|
CM.pu (p1 nnA a0) fun x0 =>
CM.pu (p1 (fun a => fieldAddrA Tryz.prog 255 a 2) x0) fun x1 =>
CM.rm (q1 (loadA Tryz.prog 25) x1 ) fun x2 =>
CM.pu (p2 (binA Tryz.prog .eql 25) x2 (.int .i64 0)) fun x3 =>
CM.cond x3 (
CM.pu (p1 nnA a0) fun x4 =>
CM.pu (p1 (fun a => fieldAddrA Tryz.prog 255 a 2) x4) fun x5 =>
CM.st (fun m => stV m x5 a1 1) <|
CM.ret .undef) (
CM.ret .undef)
theorem f160_ok : LeD (real E Mk Nk) f160 (fun xs m => run E (.fn 160) xs m) := apS_le fun _ => apS_le fun _ => ap0_le fun _ => run_eq 400 rfl (by kernel_rfl) (by kernel_rfl)
noncomputable def g161_0 : List AV → CM := apS fun t0 => apS fun t1 => ap0 <|
CM.pu (p1 nnA t0) fun x0 =>
CM.pu (p1 (fun a => fieldAddrA Tryz.prog 255 a 0) x0) fun x1 =>
CM.rm (q1 (loadA Tryz.prog 68) x1 ) fun x2 =>
CM.pu (p1 nnA t0) fun x3 =>
CM.pu (p1 (fun a => fieldAddrA Tryz.prog 255 a 1) x3) fun x4 =>
CM.rm (q1 (loadA Tryz.prog 3) x4 ) fun x5 =>
CM.call 195 [x2, x5] fun x7 =>
CM.pu (p1 (fun a => extractA a 0) x7) fun x9 =>
CM.pu (p1 (fun a => extractA a 1) x7) fun x10 =>
CM.pu (p1 (fun a => extractA a 2) x7) fun x11 =>
CM.pu (p2 (binA Tryz.prog .eql 25) x10 (.int .i64 0)) fun x12 =>
CM.ifv x12 (
CM.pu (p2 (binA Tryz.prog .gtr 30) x9 t1) fun x13 =>
CM.cond x13 (
CM.go 659457 [t0, x9, (.int .i64 12), x11]) (
CM.go 659457 [t0, x9, x10, x11])) (
CM.go 659457 [t0, x9, x10, x11])
theorem g161_0_ok : LeD (real E Mk Nk) g161_0 (fun ts m => goR E Mk 659456 ts m) := apS_le fun _ => apS_le fun _ => ap0_le fun _ => goR_eq 400 (by kernel_rfl)
noncomputable def g161_1 : List AV → CM := apS fun t0 => apS fun t5 => apS fun t6 => apS fun t7 => ap0 <|
CM.pu (p2 (binA Tryz.prog .neq 25) t6 (.int .i64 0)) fun x0 =>
CM.cond x0 (
CM.call 160 [t0, t6] fun _ =>
CM.ret (.int .u64 0)) (
CM.go 659458 [t0, t5, t7])
theorem g161_1_ok : LeD (real E Mk Nk) g161_1 (fun ts m => goR E Mk 659457 ts m) := apS_le fun _ => apS_le fun _ => apS_le fun _ => apS_le fun _ => ap0_le fun _ => goR_eq 400 (by kernel_rfl)
noncomputable def g161_2 : List AV → CM := apS fun t0 => apS fun t5 => apS fun t7 => ap0 <|
CM.pu (p1 nnA t0) fun x0 =>
CM.pu (p1 (fun a => fieldAddrA Tryz.prog 255 a 1) x0) fun x1 =>
CM.st (fun m => stV m x1 t7 1) <|
CM.ret t5
theorem g161_2_ok : LeD (real E Mk Nk) g161_2 (fun ts m => goR E Mk 659458 ts m) := apS_le fun _ => apS_le fun _ => apS_le fun _ => ap0_le fun _ => goR_eq 400 (by kernel_rfl)
noncomputable def f161 : List AV → CM := apS fun a0 => apS fun a1 => ap0 <|
CM.pu (p1 nnA a0) fun x0 =>
CM.pu (p1 (fun a => fieldAddrA Tryz.prog 255 a 2) x0) fun x1 =>
CM.rm (q1 (loadA Tryz.prog 25) x1 ) fun x2 =>
CM.pu (p2 (binA Tryz.prog .neq 25) x2 (.int .i64 0)) fun x3 =>
CM.cond x3 (
CM.ret (.int .u64 0)) (
CM.go 659456 [a0, a1])
theorem f161_ok : LeD (real E Mk Nk) f161 (fun xs m => run E (.fn 161) xs m) := apS_le fun _ => apS_le fun _ => ap0_le fun _ => run_eq 400 rfl (by kernel_rfl) (by kernel_rfl)
noncomputable def f162 : List AV → CM := apS fun a0 => ap0 <|
CM.al (some (.cells [(.int .i64 0), (.int .u64 0), (.int .i64 0)] false, pB)) fun x0 =>
CM.al (some (.cells [(.int .i64 0), (.int .u64 0), (.int .i64 0)] false, pB)) fun x1 =>
CM.call 119 [a0, (.int .u8 18)] fun x2 =>
CM.pu (p1 (convA Tryz.prog 5 3) x2) fun x3 =>
CM.pu (p1 (fun a => fieldAddrA Tryz.prog 37 a 1) x1) fun x4 =>
CM.st (fun m => stV m x4 x3 1) <|
CM.call 196 [a0] fun x6 =>
CM.pu (p1 (fun a => fieldAddrA Tryz.prog 37 a 0) x1) fun x7 =>
CM.pu (p1 (fun a => fieldAddrA Tryz.prog 35 a 0) x7) fun x8 =>
CM.st (fun m => stV m x8 x6 1) <|
CM.call 161 [a0, (.int .u64 18446744073709551615)] fun x10 =>
CM.pu (p1 (fun a => fieldAddrA Tryz.prog 37 a 0) x1) fun x11 =>
CM.pu (p1 (fun a => fieldAddrA Tryz.prog 35 a 1) x11) fun x12 =>
CM.st (fun m => stV m x12 x10 1) <|
CM.rm (q1 (loadA Tryz.prog 37) x1 ) fun x14 =>
CM.st (fun m => stV m x0 x14 3) <|
CM.resC Tryz.prog [ResultVar.cell 0 37] [x0]
theorem f162_ok : LeD (real E Mk Nk) f162 (fun xs m => run E (.fn 162) xs m) := apS_le fun _ => ap0_le fun _ => run_eq 400 rfl (by kernel_rfl) (by kernel_rfl)
noncomputable def f163 : List AV → CM := apS fun a0 => ap0 <|
CM.call 119 [a0, (.int .u8 90)] fun x0 =>
CM.call 119 [a0, (.int .u8 90)] fun x1 =>
CM.call 119 [a0, (.int .u8 90)] fun x2 =>
CM.al (bsA 1 3 [(.int .u8 0)] [(0, x0), (1, x1), (2, x2)]) fun x3 =>
CM.rm (q1 (toStrA Tryz.prog 68) x3 ) fun x4 =>
CM.ret x4
theorem f163_ok : LeD (real E Mk Nk) f163 (fun xs m => run E (.fn 163) xs m) := apS_le fun _ => ap0_le fun _ => run_eq 400 rfl (by kernel_rfl) (by kernel_rfl)
noncomputable def g164_0 : List AV → CM := ap0 <|
CM.ret (.bool true)
theorem g164_0_ok : LeD (real E Mk Nk) g164_0 (fun ts m => goR E Mk 671744 ts m) := ap0_le fun _ => goR_eq 400 (by kernel_rfl)
noncomputable def f164 : List AV → CM := apS fun a0 => apS fun a1 => ap0 <|
CM.al (boxA a0) fun x0 =>
CM.pu (p2 (binA Tryz.prog .eql 3) a1 (.int .i64 1)) fun x1 =>
CM.cond x1 (
CM.pu (p1 (fun a => fieldAddrA Tryz.prog 73 a 1) x0) fun x2 =>
CM.rm (q1 (loadA Tryz.prog 30) x2 ) fun x3 =>
CM.call 197 [x3] fun x4 =>
CM.ret x4) (
CM.pu (p2 (binA Tryz.prog .eql 3) a1 (.int .i64 2)) fun x5 =>
CM.cond x5 (
CM.pu (p1 (fun a => fieldAddrA Tryz.prog 73 a 2) x0) fun x6 =>
CM.rm (q1 (loadA Tryz.prog 30) x6 ) fun x7 =>
CM.call 197 [x7] fun x8 =>
CM.ret x8) (
CM.pu (p2 (binA Tryz.prog .eql 3) a1 (.int .i64 16)) fun x9 =>
CM.cond x9 (
CM.pu (p1 (fun a => fieldAddrA Tryz.prog 73 a 5) x0) fun x10 =>
CM.rm (q1 (loadA Tryz.prog 37) x10 ) fun x11 =>
CM.call 85 [x11] fun x12 =>
CM.ret x12) (
CM.pu (p2 (binA Tryz.prog .eql 3) a1 (.int .i64 32)) fun x13 =>
CM.cond x13 (
CM.pu (p1 (fun a => fieldAddrA Tryz.prog 73 a 6) x0) fun x14 =>
CM.rm (q1 (loadA Tryz.prog 9) x14 ) fun x15 =>
CM.call 35 [x15] fun x16 =>
CM.ret x16) (
CM.pu (p2 (binA Tryz.prog .eql 3) a1 (.int .i64 64)) fun x17 =>
CM.cond x17 (
CM.pu (p1 (fun a => fieldAddrA Tryz.prog 73 a 7) x0) fun x18 =>
CM.rm (q1 (loadA Tryz.prog 9) x18 ) fun x19 =>
CM.call 35 [x19] fun x20 =>
CM.ret x20) (
CM.go 671744 [])))))
theorem f164_ok : LeD (real E Mk Nk) f164 (fun xs m => run E (.fn 164) xs m) := apS_le fun _ => apS_le fun _ => ap0_le fun _ => run_eq 400 rfl (by kernel_rfl) (by kernel_rfl)
noncomputable def g165_0 : List AV → CM := apS fun t2 => ap0 <|
CM.pu (p1 (fun a => fieldAddrA Tryz.prog 73 a 7) t2) fun x0 =>
CM.rm (q1 (loadA Tryz.prog 9) x0 ) fun x1 =>
CM.pu (p2 (binA Tryz.prog .eql 9) x1 (.str [])) fun x2 =>
CM.ret x2
theorem g165_0_ok : LeD (real E Mk Nk) g165_0 (fun ts m => goR E Mk 675840 ts m) := apS_le fun _ => ap0_le fun _ => goR_eq 400 (by kernel_rfl)
noncomputable def f165 : List AV → CM := apS fun a0 => apS fun a1 => ap0 <|
CM.al (boxA a0) fun x0 =>
CM.pu (p2 (binA Tryz.prog .eql 3) a1 (.int .i64 1)) fun x1 =>
CM.cond x1 (
CM.pu (p1 (fun a => fieldAddrA Tryz.prog 73 a 1) x0) fun x2 =>
CM.rm (q1 (loadA Tryz.prog 30) x2 ) fun x3 =>
CM.pu (p2 (binA Tryz.prog .eql 30) x3 (.int .u64 0)) fun x4 =>
CM.ret x4) (
CM.pu (p2 (binA Tryz.prog .eql 3) a1 (.int .i64 2)) fun x5 =>
CM.cond x5 (
CM.pu (p1 (fun a => fieldAddrA Tryz.prog 73 a 2) x0) fun x6 =>
CM.rm (q1 (loadA Tryz.prog 30) x6 ) fun x7 =>
CM.pu (p2 (binA Tryz.prog .eql 30) x7 (.int .u64 0)) fun x8 =>
CM.ret x8) (
CM.pu (p2 (binA Tryz.prog .eql 3) a1 (.int .i64 4)) fun x9 =>
CM.cond x9 (
CM.pu (p1 (fun a => fieldAddrA Tryz.prog 73 a 3) x0) fun x10 =>
CM.rm (q1 (loadA Tryz.prog 30) x10 ) fun x11 =>
CM.pu (p2 (binA Tryz.prog .eql 30) x11 (.int .u64 0)) fun x12 =>
CM.ret x12) (
CM.pu (p2 (binA Tryz.prog .eql 3) a1 (.int .i64 8)) fun x13 =>
CM.cond x13 (
CM.pu (p1 (fun a => fieldAddrA Tryz.prog 73 a 4) x0) fun x14 =>
CM.rm (q1 (loadA Tryz.prog 30) x14 ) fun x15 =>
CM.pu (p2 (binA Tryz.prog .eql 30) x15 (.int .u64 0)) fun x16 =>
CM.ret x16) (
CM.pu (p2 (binA Tryz.prog .eql 3) a1 (.int .i64 16)) fun x17 =>
CM.cond x17 (
CM.pu (p1 (fun a => fieldAddrA Tryz.prog 73 a 5) x0) fun x18 =>
CM.rm (q1 (loadA Tryz.prog 37) x18 ) fun x19 =>
CM.pu (p1 (buildA Tryz.prog 37) []) fun x20 =>
CM.pu (p2 (binA Tryz.prog .eql 37) x19 x20) fun x21 =>
CM.ret x21) (
CM.pu (p2 (binA Tryz.prog .eql 3) a1 (.int .i64 32)) fun x22 =>
CM.cond x22 (
CM.pu (p1 (fun a => fieldAddrA Tryz.prog 73 a 6) x0) fun x23 =>
CM.rm (q1 (loadA Tryz.prog 9) x23 ) fun x24 =>
CM.pu (p2 (binA Tryz.prog .eql 9) x24 (.str [])) fun x25 =>
CM.ret x25) (
CM.go 675840 [x0]))))))
theorem f165_ok : LeD (real E Mk Nk) f165 (fun xs m => run E (.fn 165) xs m) := apS_le fun _ => apS_le fun _ => ap0_le fun _ => run_eq 400 rfl (by kernel_rfl) (by kernel_rfl)
noncomputable def g167_0 : List AV → CM := apS fun t1 => apS fun t3 => ap0 <|
CM.call 170 [t3, (.str [97])] fun x0 =>
CM.pu (p1 (unA .not) x0) fun x1 =>
CM.ifv x1 (
CM.pu (p1 (fun a => fieldAddrA Tryz.prog 73 a 3) t1) fun x2 =>
CM.rm (q1 (loadA Tryz.prog 30) x2 ) fun x3 =>
CM.pu (p2 (binA Tryz.prog .neq 30) x3 (.int .u64 0)) fun x4 =>
CM.ifv x4 (
CM.ret (.bool false)) (
CM.call 170 [t3, (.str [98])] fun x5 =>
CM.pu (p1 (unA .not) x5) fun x6 =>
CM.ifv x6 (
CM.pu (p1 (fun a => fieldAddrA Tryz.prog 73 a 4) t1) fun x7 =>
CM.rm (q1 (loadA Tryz.prog 30) x7 ) fun x8 =>
CM.pu (p2 (binA Tryz.prog .neq 30) x8 (.int .u64 0)) fun x9 =>
CM.cond x9 (
CM.ret (.bool false)) (
CM.go 684033 [t1, t3])) (
CM.go 684033 [t1, t3]))) (
CM.call 170 [t3, (.str [98])] fun x10 =>
CM.pu (p1 (unA .not) x10) fun x11 =>
CM.ifv x11 (
CM.pu (p1 (fun a => fieldAddrA Tryz.prog 73 a 4) t1) fun x12 =>
CM.rm (q1 (loadA Tryz.prog 30) x12 ) fun x13 =>
CM.pu (p2 (binA Tryz.prog .neq 30) x13 (.int .u64 0)) fun x14 =>
CM.cond x14 (
CM.ret (.bool false)) (
CM.go 684033 [t1, t3])) (
CM.go 684033 [t1, t3]))
theorem g167_0_ok : LeD (real E Mk Nk) g167_0 (fun ts m => goR E Mk 684032 ts m) := apS_le fun _ => apS_le fun _ => ap0_le fun _ => goR_eq 400 (by kernel_rfl)
noncomputable def g167_1 : List AV → CM := apS fun t1 => apS fun t3 => ap0 <|
CM.call 170 [t3, (.str [97, 109, 111, 117, 110, 116])] fun x0 =>
CM.pu (p1 (unA .not) x0) fun x1 =>
CM.cond x1 (
CM.pu (p1 (fun a => fieldAddrA Tryz.prog 73 a 5) t1) fun x2 =>
CM.rm (q1 (loadA Tryz.prog 37) x2 ) fun x3 =>
CM.pu (p1 (buildA Tryz.prog 37) []) fun x4 =>
CM.pu (p2 (binA Tryz.prog .eql 37) x3 x4) fun x5 =>
CM.ret x5) (
CM.go 684034 [t1])
theorem g167_1_ok : LeD (real E Mk Nk) g167_1 (fun ts m => goR E Mk 684033 ts m) := apS_le fun _ => apS_le fun _ => ap0_le fun _ => goR_eq 400 (by kernel_rfl)
noncomputable def g167_2 : List AV → CM := apS fun t1 => ap0 <|
CM.pu (p1 (fun a => fieldAddrA Tryz.prog 73 a 5) t1) fun x0 =>
CM.pu (p1 (fun a => fieldAddrA Tryz.prog 37 a 1) x0) fun x1 =>
CM.rm (q1 (loadA Tryz.prog 3) x1 ) fun x2 =>
CM.pu (p2 (binA Tryz.prog .geq 3) x2 (.int .i64 0)) fun x3 =>
CM.ifv x3 (
CM.pu (p1 (fun a => fieldAddrA Tryz.prog 73 a 5) t1) fun x4 =>
CM.pu (p1 (fun a => fieldAddrA Tryz.prog 37 a 1) x4) fun x5 =>
CM.rm (q1 (loadA Tryz.prog 3) x5 ) fun x6 =>
CM.pu (p2 (binA Tryz.prog .leq 3) x6 (.int .i64 18)) fun x7 =>
CM.ret x7) (
CM.ret (.bool false))
theorem g167_2_ok : LeD (real E Mk Nk) g167_2 (fun ts m => goR E Mk 684034 ts m) := apS_le fun _ => ap0_le fun _ => goR_eq 400 (by kernel_rfl)
noncomputable def f167 : List AV → CM := apS fun a0 => ap0 <|
CM.al (boxA a0) fun x0 =>
CM.pu (p1 (fun a => fieldAddrA Tryz.prog 73 a 0) x0) fun x1 =>
CM.rm (q1 (loadA Tryz.prog 3) x1 ) fun x2 =>
CM.call 168 [x2] fun x3 =>
CM.pu (p2 (binA Tryz.prog .eql 9) x3 (.str [])) fun x4 =>
CM.ifv x4 (
CM.ret (.bool false)) (
CM.pu (p1 (fun a => fieldAddrA Tryz.prog 73 a 1) x0) fun x5 =>
CM.rm (q1 (loadA Tryz.prog 30) x5 ) fun x6 =>
CM.call 200 [(.bool true), x6] fun x8 =>
CM.pu (p1 (unA .not) x8) fun x10 =>
CM.ifv x10 (
CM.ret (.bool false)) (
CM.memo fun m11 =>
CM.call 170 [x3, (.str [115, 101, 113])] fun x12 =>
CM.pu (p1 (fun a => fieldAddrA Tryz.prog 73 a 2) x0) fun x14 =>
CM.rm (q1 (loadA Tryz.prog 30) x14 ) fun x15 =>
CM.chk (q1 (loadA Tryz.prog 30) x14 m11) x15 <|
CM.call 200 [x12, x15] fun x17 =>
CM.pu (p1 (unA .not) x17) fun x19 =>
CM.ifv x19 (
CM.ret (.bool false)) (
CM.memo fun m20 =>
CM.call 170 [x3, (.str [120])] fun x21 =>
CM.pu (p1 (fun a => fieldAddrA Tryz.prog 73 a 6) x0) fun x23 =>
CM.rm (q1 (loadA Tryz.prog 9) x23 ) fun x24 =>
CM.chk (q1 (loadA Tryz.prog 9) x23 m20) x24 <|
CM.call 201 [x21, x24] fun x26 =>
CM.pu (p1 (unA .not) x26) fun x28 =>
CM.ifv x28 (
CM.ret (.bool false)) (
CM.memo fun m29 =>
CM.call 170 [x3, (.str [121])] fun x30 =>
CM.pu (p1 (fun a => fieldAddrA Tryz.prog 73 a 7) x0) fun x32 =>
CM.rm (q1 (loadA Tryz.prog 9) x32 ) fun x33 =>
CM.chk (q1 (loadA Tryz.prog 9) x32 m29) x33 <|
CM.call 201 [x30, x33] fun x35 =>
CM.pu (p1 (unA .not) x35) fun x37 =>
CM.cond x37 (
CM.ret (.bool false)) (
CM.go 684032 [x0, x3])))))
theorem f167_ok : LeD (real E Mk Nk) f167 (fun xs m => run E (.fn 167) xs m) := apS_le fun _ => ap0_le fun _ => run_eq 400 rfl (by kernel_rfl) (by kernel_rfl)
noncomputable def g168_0 : List AV → CM := apS fun t0 => apS fun t3 => ap0 <|
CM.pu (p2 (indexAddrA Tryz.prog 285) t3 t0) fun x0 =>
CM.rm (q1 (loadA Tryz.prog 9) x0 ) fun x1 =>
CM.ret x1
theorem g168_0_ok : LeD (real E Mk Nk) g168_0 (fun ts m => goR E Mk 688128 ts m) := apS_le fun _ => apS_le fun _ => ap0_le fun _ => goR_eq 400 (by kernel_rfl)
noncomputable def f168 : List AV → CM := apS fun a0 => ap0 <|
CM.pu (p1 (buildA Tryz.prog 285) [(0, (.str [])), (1, (.str [115, 101, 115, 115, 105, 111, 110])), (2, (.str [115, 101, 115, 115, 105, 111, 110, 32, 115, 101, 113, 32, 97, 32, 120])), (3, (.str [115, 101, 115, 115, 105, 111, 110, 32, 115, 101, 113, 32, 120])), (4, (.str [115, 101, 115, 115, 105, 111, 110, 32, 115, 101, 113, 32, 97, 32, 97, 109, 111, 117, 110, 116])), (5, (.str [115, 101, 115, 115, 105, 111, 110, 32, 115, 101, 113, 32, 97, 32, 97, 109, 111, 117, 110, 116])), (6, (.str [115, 101, 115, 115, 105, 111, 110, 32, 115, 101, 113, 32, 97, 32, 98, 32, 97, 109, 111, 117, 110, 116])), (7, (.str [115, 101, 115, 115, 105, 111, 110, 32, 115, 101, 113, 32, 97, 109, 111, 117, 110, 116, 32, 120, 32, 121])), (8, (.str [115, 101, 115, 115, 105, 111, 110, 32, 115, 101, 113, 32, 97, 32, 98, 32, 97, 109, 111, 117, 110, 116])), (9, (.str [115, 101, 115, 115, 105, 111, 110, 32, 115, 101, 113, 32, 97])), (10, (.str [115, 101, 115, 115, 105, 111, 110, 32, 115, 101, 113, 32, 120])), (11, (.str [115, 101, 115, 115, 105, 111, 110, 32, 115, 101, 113, 32, 120, 32, 121]))]) fun x0 =>
CM.al (some (.cells [(.str []), (.str []), (.str []), (.str []), (.str []), (.str []), (.str []), (.str []), (.str []), (.str []), (.str []), (.str [])] false, pB)) fun x1 =>
CM.st (fun m => stV m x1 x0 12) <|
CM.pu (p2 (binA Tryz.prog .lss 3) a0 (.int .i64 1)) fun x3 =>
CM.ifv x3 (
CM.ret (.str [])) (
CM.pu (p2 (binA Tryz.prog .gtr 3) a0 (.int .i64 11)) fun x4 =>
CM.cond x4 (
CM.ret (.str [])) (
CM.go 688128 [a0, x1]))
theorem f168_ok : LeD (real E Mk Nk) f168 (fun xs m => run E (.fn 168) xs m) := apS_le fun _ => ap0_le fun _ => run_eq 400 rfl (by kernel_rfl) (by kernel_rfl)
noncomputable def g169_0 : List AV → CM := apS fun t0 => apS fun t3 => ap0 <|
CM.pu (p2 (binA Tryz.prog .geq 30) t0 (.int .u64 128)) fun x0 =>
CM.cond x0 (
CM.go 692225 [t0, t3]) (
CM.go 692226 [t0, t3])
theorem g169_0_ok : LeD (real E Mk Nk) g169_0 (fun ts m => goR E Mk 692224 ts m) := apS_le fun _ => apS_le fun _ => ap0_le fun _ => goR_eq 400 (by kernel_rfl)
noncomputable def g169_1 : List AV → CM := apS fun t0 => apS fun t3 => ap0 <|
CM.pu (p2 (binA Tryz.prog .rem 30) t0 (.int .u64 128)) fun x0 =>
CM.pu (p2 (binA Tryz.prog .add 30) x0 (.int .u64 128)) fun x1 =>
CM.pu (p1 (convA Tryz.prog 30 5) x1) fun x2 =>
CM.al (bsA 1 1 [(.int .u8 0)] [(0, x2)]) fun x3 =>
CM.ef (apE 1 1 t3 x3) fun x4 =>
CM.pu (p2 (binA Tryz.prog .quo 30) t0 (.int .u64 128)) fun x5 =>
CM.go 692224 [x5, x4]
theorem g169_1_ok : LeD (real E Mk Nk) g169_1 (fun ts m => goR E Mk 692225 ts m) := apS_le fun _ => apS_le fun _ => ap0_le fun _ => goR_eq 400 (by kernel_rfl)
noncomputable def g169_2 : List AV → CM := apS fun t0 => apS fun t3 => ap0 <|
CM.pu (p1 (convA Tryz.prog 30 5) t0) fun x0 =>
CM.al (bsA 1 1 [(.int .u8 0)] [(0, x0)]) fun x1 =>
CM.ef (apE 1 1 t3 x1) fun x2 =>
CM.ret x2
theorem g169_2_ok : LeD (real E Mk Nk) g169_2 (fun ts m => goR E Mk 692226 ts m) := apS_le fun _ => apS_le fun _ => ap0_le fun _ => goR_eq 400 (by kernel_rfl)
noncomputable def f169 : List AV → CM := apS fun a0 => ap0 <|
CM.go 692224 [a0, (.sl none 0 0 0 true)]
theorem f169_ok : LeD (real E Mk Nk) f169 (fun xs m => run E (.fn 169) xs m) := apS_le fun _ => ap0_le fun _ => run_eq 400 rfl (by kernel_rfl) (by kernel_rfl)
noncomputable def g170_0 : List AV → CM := apS fun t0 => apS fun t1 => apS fun t5 => apS fun t6 => ap0 <|
CM.pu (p1 (lenT Tryz.prog 9) t0) fun x0 =>
CM.pu (p2 (binA Tryz.prog .leq 3) t6 x0) fun x1 =>
CM.cond x1 (
CM.go 696321 [t0, t1, t5, t6]) (
CM.go 696324 [])
theorem g170_0_ok : LeD (real E Mk Nk) g170_0 (fun ts m => goR E Mk 696320 ts m) := apS_le fun _ => apS_le fun _ => apS_le fun _ => apS_le fun _ => ap0_le fun _ => goR_eq 400 (by kernel_rfl)
noncomputable def g170_1 : List AV → CM := apS fun t0 => apS fun t1 => apS fun t5 => apS fun t6 => ap0 <|
CM.pu (p1 (lenT Tryz.prog 9) t0) fun x0 =>
CM.pu (p2 (binA Tryz.prog .eql 3) t6 x0) fun x1 =>
CM.ifv x1 (
CM.pu (p3 (fun a l h => sliceA Tryz.prog 9 a (some l) (some h)) t0 t5 t6) fun x2 =>
CM.pu (p2 (binA Tryz.prog .eql 9) x2 t1) fun x3 =>
CM.cond x3 (
CM.ret (.bool true)) (
CM.go 696322 [t0, t1, t6])) (
CM.pu (p2 (indexA Tryz.prog 9) t0 t6) fun x4 =>
CM.pu (p2 (binA Tryz.prog .eql 5) x4 (.int .u8 32)) fun x5 =>
CM.cond x5 (
CM.pu (p3 (fun a l h => sliceA Tryz.prog 9 a (some l) (some h)) t0 t5 t6) fun x6 =>
CM.pu (p2 (binA Tryz.prog .eql 9) x6 t1) fun x7 =>
CM.cond x7 (
CM.ret (.bool true)) (
CM.go 696322 [t0, t1, t6])) (
CM.go 696323 [t0, t1, t5, t6]))
theorem g170_1_ok : LeD (real E Mk Nk) g170_1 (fun ts m => goR E Mk 696321 ts m) := apS_le fun _ => apS_le fun _ => apS_le fun _ => apS_le fun _ => ap0_le fun _ => goR_eq 400 (by kernel_rfl)
noncomputable def g170_2 : List AV → CM := apS fun t0 => apS fun t1 => apS fun t6 => ap0 <|
CM.pu (p2 (binA Tryz.prog .add 3) t6 (.int .i64 1)) fun x0 =>
CM.go 696323 [t0, t1, x0, t6]
theorem g170_2_ok : LeD (real E Mk Nk) g170_2 (fun ts m => goR E Mk 696322 ts m) := apS_le fun _ => apS_le fun _ => apS_le fun _ => ap0_le fun _ => goR_eq 400 (by kernel_rfl)
noncomputable def g170_3 : List AV → CM := apS fun t0 => apS fun t1 => apS fun t5 => apS fun t6 => ap0 <|
CM.pu (p2 (binA Tryz.prog .add 3) t6 (.int .i64 1)) fun x0 =>
CM.go 696320 [t0, t1, t5, x0]
theorem g170_3_ok : LeD (real E Mk Nk) g170_3 (fun ts m => goR E Mk 696323 ts m) := apS_le fun _ => apS_le fun _ => apS_le fun _ => apS_le fun _ => ap0_le fun _ => goR_eq 400 (by kernel_rfl)
noncomputable def g170_4 : List AV → CM := ap0 <|
CM.ret (.bool false)
theorem g170_4_ok : LeD (real E Mk Nk) g170_4 (fun ts m => goR E Mk 696324 ts m) := ap0_le fun _ => goR_eq 400 (by kernel_rfl)
noncomputable def f170 : List AV → CM := apS fun a0 => apS fun a1 => ap0 <|
CM.go 696320 [a0, a1, (.int .i64 0), (.int .i64 0)]
theorem f170_ok : LeD (real E Mk Nk) f170 (fun xs m => run E (.fn 170) xs m) := apS_le fun _ => apS_le fun _ => ap0_le fun _ => run_eq 400 rfl (by kernel_rfl) (by kernel_rfl)
noncomputable def f171 : List AV → CM := apS fun a0 => ap0 <|
CM.al (boxA a0) fun x0 =>
CM.pu (p1 (fun a => fieldAddrA Tryz.prog 37 a 1) x0) fun x1 =>
CM.rm (q1 (loadA Tryz.prog 3) x1 ) fun x2 =>
CM.pu (p1 (convA Tryz.prog 3 5) x2) fun x3 =>
CM.al (bsA 1 1 [(.int .u8 0)] [(0, x3)]) fun x4 =>
CM.pu (p1 (fun a => fieldAddrA Tryz.prog 37 a 0) x0) fun x5 =>
CM.pu (p1 (fun a => fieldAddrA Tryz.prog 35 a 0) x5) fun x6 =>
CM.rm (q1 (loadA Tryz.prog 2) x6 ) fun x7 =>
CM.memo fun m8 =>
CM.call 202 [x7] fun x9 =>
CM.memo fun m10 =>
CM.chk (q1 (loadA Tryz.prog 3) x1 m10) x2 <|
CM.memo fun m11 =>
CM.ef (apE 1 1 x4 x9) fun x12 =>
CM.pu (p1 (fun a => fieldAddrA Tryz.prog 37 a 0) x0) fun x14 =>
CM.pu (p1 (fun a => fieldAddrA Tryz.prog 35 a 1) x14) fun x15 =>
CM.rm (q1 (loadA Tryz.prog 30) x15 ) fun x16 =>
CM.chk (q1 (loadA Tryz.prog 30) x15 m11) x16 <|
CM.chk (q1 (loadA Tryz.prog 30) x15 m8) x16 <|
CM.call 169 [x16] fun x18 =>
CM.ef (apE 1 1 x12 x18) fun x21 =>
CM.ret x21
theorem f171_ok : LeD (real E Mk Nk) f171 (fun xs m => run E (.fn 171) xs m) := apS_le fun _ => ap0_le fun _ => run_eq 400 rfl (by kernel_rfl) (by kernel_rfl)
noncomputable def g172_0 : List AV → CM := apS fun t0 => apS fun t2 => apS fun t6 => ap0 <|
CM.pu (p2 (binA Tryz.prog .gtr 30) t6 (.int .u64 0)) fun x0 =>
CM.ifv x0 (
CM.pu (p1 nnA t0) fun x1 =>
CM.pu (p1 (fun a => fieldAddrA Tryz.prog 228 a 1) x1) fun x2 =>
CM.rm (q1 (loadA Tryz.prog 25) x2 ) fun x3 =>
CM.pu (p2 (binA Tryz.prog .eql 25) x3 (.int .i64 0)) fun x4 =>
CM.cond x4 (
CM.go 704513 [t0, t2, t6]) (
CM.ret .undef)) (
CM.ret .undef)
theorem g172_0_ok : LeD (real E Mk Nk) g172_0 (fun ts m => goR E Mk 704512 ts m) := apS_le fun _ => apS_le fun _ => apS_le fun _ => ap0_le fun _ => goR_eq 400 (by kernel_rfl)
noncomputable def g172_1 : List AV → CM := apS fun t0 => apS fun t2 => apS fun t6 => ap0 <|
CM.callv t2 [] fun _ =>
CM.go 704514 [t0, t2, t6]
theorem g172_1_ok : LeD (real E Mk Nk) g172_1 (fun ts m => goR E Mk 704513 ts m) := apS_le fun _ => apS_le fun _ => apS_le fun _ => ap0_le fun _ => goR_eq 400 (by kernel_rfl)
noncomputable def g172_2 : List AV → CM := apS fun t0 => apS fun t2 => apS fun t6 => ap0 <|
CM.pu (p2 (binA Tryz.prog .sub 30) t6 (.int .u64 1)) fun x0 =>
CM.go 704512 [t0, t2, x0]
theorem g172_2_ok : LeD (real E Mk Nk) g172_2 (fun ts m => goR E Mk 704514 ts m) := apS_le fun _ => apS_le fun _ => apS_le fun _ => ap0_le fun _ => goR_eq 400 (by kernel_rfl)
noncomputable def f172 : List AV → CM := apS fun a0 => apS fun a1 => apS fun a2 => ap0 <|
CM.pu (p1 nnA a0) fun x0 =>
CM.pu (p1 (fun a => fieldAddrA Tryz.prog 228 a 0) x0) fun x1 =>
CM.rm (q1 (loadA Tryz.prog 211) x1 ) fun x2 =>
CM.call 161 [x2, a1] fun x3 =>
CM.go 704512 [a0, a2, x3]
theorem f172_ok : LeD (real E Mk Nk) f172 (fun xs m => run E (.fn 172) xs m) := apS_le fun _ => apS_le fun _ => apS_le fun _ => ap0_le fun _ => run_eq 400 rfl (by kernel_rfl) (by kernel_rfl)
noncomputable def f173 : List AV → CM := apS fun a0 => apS fun a1 => ap0 <|
CM.rm (q1 (loadA Tryz.prog 226) a0 ) fun x0 =>
CM.call 174 [x0] fun x1 =>
CM.pu (p1 (buildA Tryz.prog 85) [(0, x1)]) fun x2 =>
CM.al (some (.cells [(.str []), (.int .i64 0), (.int .i64 0), (.int .u64 0)] false, pB)) fun x3 =>
CM.st (fun m => stV m x3 x2 4) <|
CM.rm (q1 (loadA Tryz.prog 226) a0 ) fun x5 =>
CM.pu (p1 nnA x5) fun x6 =>
CM.pu (p1 (fun a => fieldAddrA Tryz.prog 228 a 0) x6) fun x7 =>
CM.rm (q1 (loadA Tryz.prog 211) x7 ) fun x8 =>
CM.call 119 [x8, (.int .u8 18)] fun x9 =>
CM.pu (p1 (convA Tryz.prog 5 3) x9) fun x10 =>
CM.pu (p1 (fun a => fieldAddrA Tryz.prog 85 a 1) x3) fun x11 =>
CM.st (fun m => stV m x11 x10 1) <|
CM.rm (q1 (loadA Tryz.prog 226) a0 ) fun x13 =>
CM.call 175 [x13] fun x14 =>
CM.pu (p1 (fun a => fieldAddrA Tryz.prog 85 a 2) x3) fun x15 =>
CM.st (fun m => stV m x15 x14 2) <|
CM.pu (p1 (fun a => fieldAddrA Tryz.prog 49 a 0) a1) fun x17 =>
CM.rm (q1 (loadA Tryz.prog 45) x17 ) fun x18 =>
CM.rm (q1 (loadA Tryz.prog 85) x3 ) fun x19 =>
CM.al (bsA 4 1 [(.str []), (.int .i64 0), (.int .i64 0), (.int .u64 0)] [(0, x19)]) fun x20 =>
CM.ef (apE 4 40 x18 x20) fun x21 =>
CM.pu (p1 (fun a => fieldAddrA Tryz.prog 49 a 0) a1) fun x22 =>
CM.st (fun m => stV m x22 x21 1) <|
CM.ret .undef
theorem f173_ok : LeD (real E Mk Nk) f173 (fun xs m => run E (.fn 173) xs m) := apS_le fun _ => apS_le fun _ => ap0_le fun _ => run_eq 400 rfl (by kernel_rfl) (by kernel_rfl)
noncomputable def f174 : List AV → CM := apS fun a0 => ap0 <|
CM.pu (p1 nnA a0) fun x0 =>
CM.pu (p1 (fun a => fieldAddrA Tryz.prog 228 a 0) x0) fun x1 =>
CM.rm (q1 (loadA Tryz.prog 211) x1 ) fun x2 =>
CM.call 203 [x2, (.int .i64 3)] fun x3 =>
CM.rm (q1 (toStrA Tryz.prog 68) x3 ) fun x4 =>
CM.ret x4
theorem f174_ok : LeD (real E Mk Nk) f174 (fun xs m => run E (.fn 174) xs m) := apS_le fun _ => ap0_le fun _ => run_eq 400 rfl (by kernel_rfl) (by kernel_rfl)
noncomputable def f175 : List AV → CM := apS fun a0 => ap0 <|
CM.al (some (.cells [(.int .i64 0), (.int .u64 0)] false, pB)) fun x0 =>
CM.pu (p1 nnA a0) fun x1 =>
CM.pu (p1 (fun a => fieldAddrA Tryz.prog 228 a 0) x1) fun x2 =>
CM.rm (q1 (loadA Tryz.prog 211) x2 ) fun x3 =>
CM.call 196 [x3] fun x4 =>
CM.pu (p1 nnA a0) fun x5 =>
CM.pu (p1 (fun a => fieldAddrA Tryz.prog 228 a 0) x5) fun x6 =>
CM.rm (q1 (loadA Tryz.prog 211) x6 ) fun x7 =>
CM.call 161 [x7, (.int .u64 18446744073709551615)] fun x8 =>
CM.pu (p1 (buildA Tryz.prog 35) [(0, x4), (1, x8)]) fun x9 =>
CM.st (fun m => stV m x0 x9 2) <|
CM.resC Tryz.prog [ResultVar.cell 0 35] [x0]
theorem f175_ok : LeD (real E Mk Nk) f175 (fun xs m => run E (.fn 175) xs m) := apS_le fun _ => ap0_le fun _ => run_eq 400 rfl (by kernel_rfl) (by kernel_rfl)
noncomputable def f176 : List AV → CM := apS fun a0 => apS fun a1 => ap0 <|
CM.rm (q1 (loadA Tryz.prog 226) a0 ) fun x0 =>
CM.call 174 [x0] fun x1 =>
CM.pu (p1 (buildA Tryz.prog 54) [(0, x1)]) fun x2 =>
CM.al (some (.cells [(.str []), (.str []), (.int .i64 0), (.int .u64 0), (.int .i64 0), (.int .i64 0), (.int .u64 0), (.int .i64 0), (.int .u64 0)] false, pB)) fun x3 =>
CM.st (fun m => stV m x3 x2 9) <|
CM.rm (q1 (loadA Tryz.prog 226) a0 ) fun x5 =>
CM.call 174 [x5] fun x6 =>
CM.pu (p1 (fun a => fieldAddrA Tryz.prog 54 a 1) x3) fun x7 =>
CM.st (fun m => stV m x7 x6 1) <|
CM.rm (q1 (loadA Tryz.prog 226) a0 ) fun x9 =>
CM.pu (p1 nnA x9) fun x10 =>
CM.pu (p1 (fun a => fieldAddrA Tryz.prog 228 a 0) x10) fun x11 =>
CM.rm (q1 (loadA Tryz.prog 211) x11 ) fun x12 =>
CM.call 119 [x12, (.int .u8 18)] fun x13 =>
CM.pu (p1 (convA Tryz.prog 5 3) x13) fun x14 =>
CM.pu (p1 (fun a => fieldAddrA Tryz.prog 54 a 2) x3) fun x15 =>
CM.pu (p1 (fun a => fieldAddrA Tryz.prog 37 a 1) x15) fun x16 =>
CM.st (fun m => stV m x16 x14 1) <|
CM.rm (q1 (loadA Tryz.prog 226) a0 ) fun x18 =>
CM.call 175 [x18] fun x19 =>
CM.pu (p1 (fun a => fieldAddrA Tryz.prog 54 a 2) x3) fun x20 =>
CM.pu (p1 (fun a => fieldAddrA Tryz.prog 37 a 0) x20) fun x21 =>
CM.st (fun m => stV m x21 x19 2) <|
CM.rm (q1 (loadA Tryz.prog 226) a0 ) fun x23 =>
CM.call 175 [x23] fun x24 =>
CM.pu (p1 (fun a => fieldAddrA Tryz.prog 54 a 3) x3) fun x25 =>
CM.st (fun m => stV m x25 x24 2) <|
CM.rm (q1 (loadA Tryz.prog 226) a0 ) fun x27 =>
CM.call 175 [x27] fun x28 =>
CM.pu (p1 (fun a => fieldAddrA Tryz.prog 54 a 4) x3) fun x29 =>
CM.st (fun m => stV m x29 x28 2) <|
CM.pu (p1 (fun a => fieldAddrA Tryz.prog 49 a 1) a1) fun x31 =>
CM.rm (q1 (loadA Tryz.prog 46) x31 ) fun x32 =>
CM.rm (q1 (loadA Tryz.prog 54) x3 ) fun x33 =>
CM.al (bsA 9 1 [(.str []), (.str []), (.int .i64 0), (.int .u64 0), (.int .i64 0), (.int .i64 0), (.int .u64 0), (.int .i64 0), (.int .u64 0)] [(0, x33)]) fun x34 =>
CM.ef (apE 9 88 x32 x34) fun x35 =>
CM.pu (p1 (fun a => fieldAddrA Tryz.prog 49 a 1) a1) fun x36 =>
CM.st (fun m => stV m x36 x35 1) <|
CM.ret .undef
theorem f176_ok : LeD (real E Mk Nk) f176 (fun xs m => run E (.fn 176) xs m) := apS_le fun _ => apS_le fun _ => ap0_le fun _ => run_eq 400 rfl (by kernel_rfl) (by kernel_rfl)
noncomputable def f177 : List AV → CM := apS fun a0 => apS fun a1 => ap0 <|
CM.rm (q1 (loadA Tryz.prog 226) a0 ) fun x0 =>
CM.pu (p1 nnA x0) fun x1 =>
CM.pu (p1 (fun a => fieldAddrA Tryz.prog 228 a 0) x1) fun x2 =>
CM.rm (q1 (loadA Tryz.prog 211) x2 ) fun x3 =>
CM.call 161 [x3, (.int .u64 18446744073709551615)] fun x4 =>
CM.pu (p1 (buildA Tryz.prog 91) [(0, x4)]) fun x5 =>
CM.al (some (.cells [(.int .u64 0), (.str []), (.int .i64 0), (.int .u64 0)] false, pB)) fun x6 =>
CM.st (fun m => stV m x6 x5 4) <|
CM.rm (q1 (loadA Tryz.prog 226) a0 ) fun x8 =>
CM.call 174 [x8] fun x9 =>
CM.pu (p1 (fun a => fieldAddrA Tryz.prog 91 a 1) x6) fun x10 =>
CM.st (fun m => stV m x10 x9 1) <|
CM.rm (q1 (loadA Tryz.prog 226) a0 ) fun x12 =>
CM.call 175 [x12] fun x13 =>
CM.pu (p1 (fun a => fieldAddrA Tryz.prog 91 a 2) x6) fun x14 =>
CM.st (fun m => stV m x14 x13 2) <|
CM.pu (p1 (fun a => fieldAddrA Tryz.prog 49 a 2) a1) fun x16 =>
CM.rm (q1 (loadA Tryz.prog 47) x16 ) fun x17 =>
CM.rm (q1 (loadA Tryz.prog 91) x6 ) fun x18 =>
CM.al (bsA 4 1 [(.int .u64 0), (.str []), (.int .i64 0), (.int .u64 0)] [(0, x18)]) fun x19 =>
CM.ef (apE 4 40 x17 x19) fun x20 =>
CM.pu (p1 (fun a => fieldAddrA Tryz.prog 49 a 2) a1) fun x21 =>
CM.st (fun m => stV m x21 x20 1) <|
CM.ret .undef
theorem f177_ok : LeD (real E Mk Nk) f177 (fun xs m => run E (.fn 177) xs m) := apS_le fun _ => apS_le fun _ => ap0_le fun _ => run_eq 400 rfl (by kernel_rfl) (by kernel_rfl)
noncomputable def f178 : List AV → CM := apS fun a0 => apS fun a1 => ap0 <|
CM.rm (q1 (loadA Tryz.prog 226) a0 ) fun x0 =>
CM.pu (p1 nnA x0) fun x1 =>
CM.pu (p1 (fun a => fieldAddrA Tryz.prog 228 a 0) x1) fun x2 =>
CM.rm (q1 (loadA Tryz.prog 211) x2 ) fun x3 =>
CM.call 161 [x3, (.int .u64 18446744073709551615)] fun x4 =>
CM.pu (p1 (buildA Tryz.prog 205) [(0, x4)]) fun x5 =>
CM.al (some (.cells [(.int .u64 0), (.int .u64 0), (.int .u64 0), (.sl none 0 0 0 true)] false, pB)) fun x6 =>
CM.st (fun m => stV m x6 x5 4) <|
CM.rm (q1 (loadA Tryz.prog 226) a0 ) fun x8 =>
CM.pu (p1 nnA x8) fun x9 =>
CM.pu (p1 (fun a => fieldAddrA Tryz.prog 228 a 0) x9) fun x10 =>
CM.rm (q1 (loadA Tryz.prog 211) x10 ) fun x11 =>
CM.call 161 [x11, (.int .u64 18446744073709551615)] fun x12 =>
CM.pu (p1 (fun a => fieldAddrA Tryz.prog 205 a 1) x6) fun x13 =>
CM.st (fun m => stV m x13 x12 1) <|
CM.rm (q1 (loadA Tryz.prog 226) a0 ) fun x15 =>
CM.pu (p1 nnA x15) fun x16 =>
CM.pu (p1 (fun a => fieldAddrA Tryz.prog 228 a 0) x16) fun x17 =>
CM.rm (q1 (loadA Tryz.prog 211) x17 ) fun x18 =>
CM.call 161 [x18, (.int .u64 18446744073709551615)] fun x19 =>
CM.pu (p1 (fun a => fieldAddrA Tryz.prog 205 a 2) x6) fun x20 =>
CM.st (fun m => stV m x20 x19 1) <|
CM.rm (q1 (loadA Tryz.prog 226) a0 ) fun x22 =>
CM.call 172 [x22, (.int .u64 4), (.fn (.func 179) [] [x6, a0])] fun _ =>
CM.rm (q1 (loadA Tryz.prog 75) a1 ) fun x24 =>
CM.rm (q1 (loadA Tryz.prog 205) x6 ) fun x25 =>
CM.al (bsA 4 1 [(.int .u64 0), (.int .u64 0), (.int .u64 0), (.sl none 0 0 0 true)] [(0, x25)]) fun x26 =>
CM.ef (apE 4 48 x24 x26) fun x27 =>
CM.st (fun m => stV m a1 x27 1) <|
CM.ret .undef
theorem f178_ok : LeD (real E Mk Nk) f178 (fun xs m => run E (.fn 178) xs m) := apS_le fun _ => apS_le fun _ => ap0_le fun _ => run_eq 400 rfl (by kernel_rfl) (by kernel_rfl)
noncomputable def f179 : List AV → CM := apS fun a0 => apS fun a1 => ap0 <|
CM.pu (p1 (fun a => fieldAddrA Tryz.prog 205 a 3) a0) fun x0 =>
CM.rm (q1 (loadA Tryz.prog 203) x0 ) fun x1 =>
CM.rm (q1 (loadA Tryz.prog 226) a1 ) fun x2 =>
CM.call 180 [x2] fun x4 =>
CM.memo fun m5 =>
CM.chk (q1 (loadA Tryz.prog 203) x0 m5) x1 <|
CM.al (bsA 6 1 [(.int .u64 0), (.int .i64 0), (.int .u64 0), (.int .i64 0), (.int .u64 0), (.int .i64 0)] [(0, x4)]) fun x6 =>
CM.ef (apE 6 48 x1 x6) fun x8 =>
CM.pu (p1 (fun a => fieldAddrA Tryz.prog 205 a 3) a0) fun x10 =>
CM.st (fun m => stV m x10 x8 1) <|
CM.ret .undef
theorem f179_ok : LeD (real E Mk Nk) f179 (fun xs m => run E (.fn 179) xs m) := apS_le fun _ => apS_le fun _ => ap0_le fun _ => run_eq 400 rfl (by kernel_rfl) (by kernel_rfl)
noncomputable def g180_0 : List AV → CM := apS fun t0 => apS fun t2 => apS fun t3 => apS fun t4 => ap0 <|
CM.call 205 [t4] fun x0 =>
CM.pu (p1 (fun a => extractA a 0) x0) fun x1 =>
CM.pu (p1 (fun a => extractA a 1) x0) fun x2 =>
CM.pu (p1 (fun a => fieldAddrA Tryz.prog 223 a 1) t3) fun x3 =>
CM.st (fun m => stV m x3 x1 5) <|
CM.pu (p1 nnA t0) fun x5 =>
CM.pu (p1 (fun a => fieldAddrA Tryz.prog 228 a 1) x5) fun x6 =>
CM.st (fun m => stV m x6 x2 1) <|
CM.rm (q1 (loadA Tryz.prog 223) t3 ) fun x8 =>
CM.st (fun m => stV m t2 x8 6) <|
CM.resC Tryz.prog [ResultVar.cell 0 223] [t2]
theorem g180_0_ok : LeD (real E Mk Nk) g180_0 (fun ts m => goR E Mk 737280 ts m) := apS_le fun _ => apS_le fun _ => apS_le fun _ => apS_le fun _ => ap0_le fun _ => goR_eq 400 (by kernel_rfl)
noncomputable def f180 : List AV → CM := apS fun a0 => ap0 <|
CM.al (some (.cells [(.int .u64 0), (.int .i64 0), (.int .u64 0), (.int .i64 0), (.int .u64 0), (.int .i64 0)] false, pB)) fun x0 =>
CM.pu (p1 nnA a0) fun x1 =>
CM.pu (p1 (fun a => fieldAddrA Tryz.prog 228 a 0) x1) fun x2 =>
CM.rm (q1 (loadA Tryz.prog 211) x2 ) fun x3 =>
CM.call 161 [x3, (.int .u64 18446744073709551615)] fun x4 =>
CM.pu (p1 (buildA Tryz.prog 223) [(0, x4)]) fun x5 =>
CM.al (some (.cells [(.int .u64 0), (.int .i64 0), (.int .u64 0), (.int .i64 0), (.int .u64 0), (.int .i64 0)] false, pB)) fun x6 =>
CM.st (fun m => stV m x6 x5 6) <|
CM.pu (p1 nnA a0) fun x8 =>
CM.pu (p1 (fun a => fieldAddrA Tryz.prog 228 a 0) x8) fun x9 =>
CM.rm (q1 (loadA Tryz.prog 211) x9 ) fun x10 =>
CM.call 203 [x10, (.int .i64 64)] fun x11 =>
CM.pu (p1 (lenT Tryz.prog 68) x11) fun x12 =>
CM.pu (p2 (binA Tryz.prog .eql 3) x12 (.int .i64 0)) fun x13 =>
CM.ifv x13 (
CM.call 204 [a0] fun x14 =>
CM.pu (p2 (binA Tryz.prog .neq 25) x14 (.int .i64 0)) fun x15 =>
CM.cond x15 (
CM.rm (q1 (loadA Tryz.prog 223) x6 ) fun x16 =>
CM.st (fun m => stV m x0 x16 6) <|
CM.resC Tryz.prog [ResultVar.cell 0 223] [x0]) (
CM.go 737280 [a0, x0, x6, x11])) (
CM.go 737280 [a0, x0, x6, x11])
theorem f180_ok : LeD (real E Mk Nk) f180 (fun xs m => run E (.fn 180) xs m) := apS_le fun _ => ap0_le fun _ => run_eq 400 rfl (by kernel_rfl) (by kernel_rfl)
noncomputable def g181_0 : List AV → CM := apS fun t1 => apS fun t3 => ap0 <|
CM.pu (p1 (fun a => fieldAddrA Tryz.prog 205 a 3) t1) fun x0 =>
CM.rm (q1 (loadA Tryz.prog 203) x0 ) fun x1 =>
CM.pu (p1 (lenT Tryz.prog 203) x1) fun x2 =>
CM.go 741377 [t1, t3, x1, x2, (.int .i64 0)]
theorem g181_0_ok : LeD (real E Mk Nk) g181_0 (fun ts m => goR E Mk 741376 ts m) := apS_le fun _ => apS_le fun _ => ap0_le fun _ => goR_eq 400 (by kernel_rfl)
noncomputable def g181_1 : List AV → CM := apS fun t1 => apS fun t3 => apS fun t18 => apS fun t19 => apS fun t20 => ap0 <|
CM.pu (p2 (binA Tryz.prog .lss 3) t20 t19) fun x0 =>
CM.cond x0 (
CM.go 741378 [t1, t3, t18, t19, t20]) (
CM.go 741380 [])
theorem g181_1_ok : LeD (real E Mk Nk) g181_1 (fun ts m => goR E Mk 741377 ts m) := apS_le fun _ => apS_le fun _ => apS_le fun _ => apS_le fun _ => apS_le fun _ => ap0_le fun _ => goR_eq 400 (by kernel_rfl)
noncomputable def g181_2 : List AV → CM := apS fun t1 => apS fun t3 => apS fun t18 => apS fun t19 => apS fun t20 => ap0 <|
CM.pu (p2 (indexAddrA Tryz.prog 203) t18 t20) fun x0 =>
CM.rm (q1 (loadA Tryz.prog 223) x0 ) fun x1 =>
CM.al (some (.cells [(.int .u64 0), (.int .i64 0), (.int .u64 0), (.int .i64 0), (.int .u64 0), (.int .i64 0)] false, pB)) fun x2 =>
CM.st (fun m => stV m x2 x1 6) <|
CM.pu (p1 (fun a => fieldAddrA Tryz.prog 223 a 1) x2) fun x4 =>
CM.pu (p1 (fun a => fieldAddrA Tryz.prog 65 a 0) x4) fun x5 =>
CM.rm (q1 (loadA Tryz.prog 25) x5 ) fun x6 =>
CM.pu (p1 (fun a => fieldAddrA Tryz.prog 223 a 1) x2) fun x7 =>
CM.pu (p1 (fun a => fieldAddrA Tryz.prog 65 a 2) x7) fun x8 =>
CM.pu (p1 (fun a => fieldAddrA Tryz.prog 37 a 1) x8) fun x9 =>
CM.rm (q1 (loadA Tryz.prog 3) x9 ) fun x10 =>
CM.pu (p1 (fun a => fieldAddrA Tryz.prog 223 a 0) x2) fun x11 =>
CM.rm (q1 (loadA Tryz.prog 30) x11 ) fun x12 =>
CM.pu (p1 (fun a => fieldAddrA Tryz.prog 205 a 1) t1) fun x13 =>
CM.rm (q1 (loadA Tryz.prog 30) x13 ) fun x14 =>
CM.pu (p2 (binA Tryz.prog .sub 30) x14 t3) fun x15 =>
CM.pu (p1 (convA Tryz.prog 3 30) t20) fun x16 =>
CM.pu (p2 (binA Tryz.prog .add 30) x15 x16) fun x17 =>
CM.pu (p2 (binA Tryz.prog .add 30) x17 (.int .u64 1)) fun x18 =>
CM.pu (p2 (binA Tryz.prog .neq 30) x12 x18) fun x19 =>
CM.ifv x19 (
CM.ret (.bool false)) (
CM.pu (p2 (binA Tryz.prog .lss 25) x6 (.int .i64 0)) fun x20 =>
CM.ifv x20 (
CM.ret (.bool false)) (
CM.pu (p2 (binA Tryz.prog .gtr 25) x6 (.int .i64 99)) fun x21 =>
CM.ifv x21 (
CM.ret (.bool false)) (
CM.pu (p2 (binA Tryz.prog .lss 3) x10 (.int .i64 0)) fun x22 =>
CM.ifv x22 (
CM.ret (.bool false)) (
CM.pu (p2 (binA Tryz.prog .gtr 3) x10 (.int .i64 18)) fun x23 =>
CM.cond x23 (
CM.ret (.bool false)) (
CM.go 741379 [t1, t3, t18, t19, t20])))))
theorem g181_2_ok : LeD (real E Mk Nk) g181_2 (fun ts m => goR E Mk 741378 ts m) := apS_le fun _ => apS_le fun _ => apS_le fun _ => apS_le fun _ => apS_le fun _ => ap0_le fun _ => goR_eq 400 (by kernel_rfl)
noncomputable def g181_3 : List AV → CM := apS fun t1 => apS fun t3 => apS fun t18 => apS fun t19 => apS fun t20 => ap0 <|
CM.pu (p2 (binA Tryz.prog .add 3) t20 (.int .i64 1)) fun x0 =>
CM.go 741377 [t1, t3, t18, t19, x0]
theorem g181_3_ok : LeD (real E Mk Nk) g181_3 (fun ts m => goR E Mk 741379 ts m) := apS_le fun _ => apS_le fun _ => apS_le fun _ => apS_le fun _ => apS_le fun _ => ap0_le fun _ => goR_eq 400 (by kernel_rfl)
noncomputable def g181_4 : List AV → CM := ap0 <|
CM.ret (.bool true)
theorem g181_4_ok : LeD (real E Mk Nk) g181_4 (fun ts m => goR E Mk 741380 ts m) := ap0_le fun _ => goR_eq 400 (by kernel_rfl)
noncomputable def f181 : List AV → CM := apS fun a0 => ap0 <|
CM.al (boxA a0) fun x0 =>
CM.pu (p1 (fun a => fieldAddrA Tryz.prog 205 a 1) x0) fun x1 =>
CM.rm (q1 (loadA Tryz.prog 30) x1 ) fun x2 =>
CM.pu (p2 minA x2 (.int .u64 4)) fun x3 =>
CM.pu (p1 (fun a => fieldAddrA Tryz.prog 205 a 3) x0) fun x4 =>
CM.rm (q1 (loadA Tryz.prog 203) x4 ) fun x5 =>
CM.pu (p1 (lenT Tryz.prog 203) x5) fun x6 =>
CM.pu (p1 (convA Tryz.prog 3 30) x6) fun x7 =>
CM.pu (p2 (binA Tryz.prog .neq 30) x7 x3) fun x8 =>
CM.cond x8 (
CM.ret (.bool false)) (
CM.go 741376 [x0, x3])
theorem f181_ok : LeD (real E Mk Nk) f181 (fun xs m => run E (.fn 181) xs m) := apS_le fun _ => ap0_le fun _ => run_eq 400 rfl (by kernel_rfl) (by kernel_rfl)
noncomputable def f182 : List AV → CM := apS fun a0 => ap0 <|
CM.pu (p2 (binA Tryz.prog .neq 9) a0 a0) fun x0 =>
CM.ret x0
theorem f182_ok : LeD (real E Mk Nk) f182 (fun xs m => run E (.fn 182) xs m) := apS_le fun _ => ap0_le fun _ => run_eq 400 rfl (by kernel_rfl) (by kernel_rfl)
noncomputable def f183 : List AV → CM := apS fun a0 => apS fun a1 => ap0 <|
CM.pu (p2 (fun a h => sliceA Tryz.prog 156 a none (some h)) a0 a1) fun x0 =>
CM.call 206 [x0] fun _ =>
CM.pu (p2 (fun a l => sliceA Tryz.prog 156 a (some l) none) a0 a1) fun x2 =>
CM.call 206 [x2] fun _ =>
CM.call 206 [a0] fun _ =>
CM.ret .undef
theorem f183_ok : LeD (real E Mk Nk) f183 (fun xs m => run E (.fn 183) xs m) := apS_le fun _ => apS_le fun _ => ap0_le fun _ => run_eq 400 rfl (by kernel_rfl) (by kernel_rfl)
noncomputable def f184 : List AV → CM := apS fun a0 => apS fun a1 => ap0 <|
CM.pu (p2 (fun a h => sliceA Tryz.prog 45 a none (some h)) a0 a1) fun x0 =>
CM.call 207 [x0] fun _ =>
CM.pu (p2 (fun a l => sliceA Tryz.prog 45 a (some l) none) a0 a1) fun x2 =>
CM.call 207 [x2] fun _ =>
CM.call 207 [a0] fun _ =>
CM.ret .undef
theorem f184_ok : LeD (real E Mk Nk) f184 (fun xs m => run E (.fn 184) xs m) := apS_le fun _ => apS_le fun _ => ap0_le fun _ => run_eq 400 rfl (by kernel_rfl) (by kernel_rfl)
noncomputable def f185 : List AV → CM := apS fun a0 => ap0 <|
CM.pu (p2 (binA Tryz.prog .neq 30) a0 a0) fun x0 =>
CM.ret x0
theorem f185_ok : LeD (real E Mk Nk) f185 (fun xs m => run E (.fn 185) xs m) := apS_le fun _ => ap0_le fun _ => run_eq 400 rfl (by kernel_rfl) (by kernel_rfl)
noncomputable def f186 : List AV → CM := apS fun a0 => apS fun a1 => ap0 <|
CM.pu (p2 (fun a h => sliceA Tryz.prog 142 a none (some h)) a0 a1) fun x0 =>
CM.call 208 [x0] fun _ =>
CM.pu (p2 (fun a l => sliceA Tryz.prog 142 a (some l) none) a0 a1) fun x2 =>
CM.call 208 [x2] fun _ =>
CM.call 208 [a0] fun _ =>
CM.ret .undef
theorem f186_ok : LeD (real E Mk Nk) f186 (fun xs m => run E (.fn 186) xs m) := apS_le fun _ => apS_le fun _ => ap0_le fun _ => run_eq 400 rfl (by kernel_rfl) (by kernel_rfl)
noncomputable def f187 : List AV → CM := apS fun a0 => apS fun a1 => ap0 <|
CM.pu (p2 (fun a h => sliceA Tryz.prog 47 a none (some h)) a0 a1) fun x0 =>
CM.call 209 [x0] fun _ =>
CM.pu (p2 (fun a l => sliceA Tryz.prog 47 a (some l) none) a0 a1) fun x2 =>
CM.call 209 [x2] fun _ =>
CM.call 209 [a0] fun _ =>
CM.ret .undef
theorem f187_ok : LeD (real E Mk Nk) f187 (fun xs m => run E (.fn 187) xs m) := apS_le fun _ => apS_le fun _ => ap0_le fun _ => run_eq 400 rfl (by kernel_rfl) (by kernel_rfl)
noncomputable def g188_0 : List AV → CM := apS fun t8 => ap0 <|
CM.rm (q1 (loadA Tryz.prog 35) t8 ) fun x0 =>
CM.call 83 [x0] fun x1 =>
CM.ret x1
theorem g188_0_ok : LeD (real E Mk Nk) g188_0 (fun ts m => goR E Mk 770048 ts m) := apS_le fun _ => ap0_le fun _ => goR_eq 400 (by kernel_rfl)
noncomputable def f188 : List AV → CM := apS fun a0 => apS fun a1 => ap0 <|
CM.al (boxA a0) fun x0 =>
CM.al (boxA a1) fun x1 =>
CM.pu (p1 (fun a => fieldAddrA Tryz.prog 37 a 1) x0) fun x2 =>
CM.rm (q1 (loadA Tryz.prog 3) x2 ) fun x3 =>
CM.pu (p1 (fun a => fieldAddrA Tryz.prog 37 a 1) x1) fun x4 =>
CM.rm (q1 (loadA Tryz.prog 3) x4 ) fun x5 =>
CM.pu (p2 (binA Tryz.prog .sub 3) x3 x5) fun x6 =>
CM.call 194 [x6] fun x7 =>
CM.pu (p1 (fun a => extractA a 0) x7) fun x8 =>
CM.pu (p1 (fun a => extractA a 1) x7) fun _ =>
CM.al (some (.cells [(.int .i64 0), (.int .u64 0)] false, pB)) fun x10 =>
CM.st (fun m => stV m x10 x8 2) <|
CM.pu (p1 (fun a => fieldAddrA Tryz.prog 37 a 0) x0) fun x12 =>
CM.rm (q1 (loadA Tryz.prog 35) x12 ) fun x13 =>
CM.rm (q1 (loadA Tryz.prog 35) x10 ) fun x14 =>
CM.call 210 [x13, x14] fun x15 =>
CM.pu (p1 (fun a => extractA a 0) x15) fun x16 =>
CM.pu (p1 (fun a => extractA a 1) x15) fun x17 =>
CM.pu (p1 (fun a => extractA a 2) x15) fun _ =>
CM.al (some (.cells [(.int .i64 0), (.int .u64 0)] false, pB)) fun x19 =>
CM.al (some (.cells [(.int .i64 0), (.int .u64 0)] false, pB)) fun x20 =>
CM.st (fun m => stV m x19 x16 2) <|
CM.st (fun m => stV m x20 x17 2) <|
CM.rm (q1 (loadA Tryz.prog 35) x19 ) fun x23 =>
CM.pu (p1 (fun a => fieldAddrA Tryz.prog 37 a 0) x1) fun x24 =>
CM.rm (q1 (loadA Tryz.prog 35) x24 ) fun x25 =>
CM.call 88 [x23, x25] fun x26 =>
CM.pu (p2 (binA Tryz.prog .neq 3) x26 (.int .i64 0)) fun x27 =>
CM.cond x27 (
CM.ret x26) (
CM.go 770048 [x20])
theorem f188_ok : LeD (real E Mk Nk) f188 (fun xs m => run E (.fn 188) xs m) := apS_le fun _ => apS_le fun _ => ap0_le fun _ => run_eq 400 rfl (by kernel_rfl) (by kernel_rfl)
noncomputable def f189 : List AV → CM := apS fun a0 => apS fun a1 => ap0 <|
CM.pu (p2 (fun a h => sliceA Tryz.prog 46 a none (some h)) a0 a1) fun x0 =>
CM.call 211 [x0] fun _ =>
CM.pu (p2 (fun a l => sliceA Tryz.prog 46 a (some l) none) a0 a1) fun x2 =>
CM.call 211 [x2] fun _ =>
CM.call 211 [a0] fun _ =>
CM.ret .undef
theorem f189_ok : LeD (real E Mk Nk) f189 (fun xs m => run E (.fn 189) xs m) := apS_le fun _ => apS_le fun _ => ap0_le fun _ => run_eq 400 rfl (by kernel_rfl) (by kernel_rfl)
noncomputable def g190_0 : List AV → CM := apS fun t1 => apS fun t2 => apS fun t4 => apS fun t6 => apS fun t7 => ap0 <|
CM.pu (p2 (binA Tryz.prog .geq 3) t7 (.int .i64 0)) fun x0 =>
CM.cond x0 (
CM.go 778241 [t1, t2, t4, t6, t7]) (
CM.go 778243 [t2, t4, t6])
theorem g190_0_ok : LeD (real E Mk Nk) g190_0 (fun ts m => goR E Mk 778240 ts m) := apS_le fun _ => apS_le fun _ => apS_le fun _ => apS_le fun _ => apS_le fun _ => ap0_le fun _ => goR_eq 400 (by kernel_rfl)
noncomputable def g190_1 : List AV → CM := apS fun t1 => apS fun t2 => apS fun t4 => apS fun t6 => apS fun t7 => ap0 <|
CM.pu (p2 (indexAddrA Tryz.prog 271) t2 t7) fun x0 =>
CM.rm (q1 (loadA Tryz.prog 30) x0 ) fun x1 =>
CM.call 212 [t6, x1, t1] fun x2 =>
CM.pu (p1 (fun a => extractA a 0) x2) fun x3 =>
CM.pu (p1 (fun a => extractA a 1) x2) fun x4 =>
CM.pu (p2 (indexAddrA Tryz.prog 271) t2 t7) fun x5 =>
CM.st (fun m => stV m x5 x3 1) <|
CM.go 778242 [t1, t2, t4, x4, t7]
theorem g190_1_ok : LeD (real E Mk Nk) g190_1 (fun ts m => goR E Mk 778241 ts m) := apS_le fun _ => apS_le fun _ => apS_le fun _ => apS_le fun _ => apS_le fun _ => ap0_le fun _ => goR_eq 400 (by kernel_rfl)
noncomputable def g190_2 : List AV → CM := apS fun t1 => apS fun t2 => apS fun t4 => apS fun t6 => apS fun t7 => ap0 <|
CM.pu (p2 (binA Tryz.prog .sub 3) t7 (.int .i64 1)) fun x0 =>
CM.go 778240 [t1, t2, t4, t6, x0]
theorem g190_2_ok : LeD (real E Mk Nk) g190_2 (fun ts m => goR E Mk 778242 ts m) := apS_le fun _ => apS_le fun _ => apS_le fun _ => apS_le fun _ => apS_le fun _ => ap0_le fun _ => goR_eq 400 (by kernel_rfl)
noncomputable def g190_3 : List AV → CM := apS fun t2 => apS fun t4 => apS fun t6 => ap0 <|
CM.rm (q1 (loadA Tryz.prog 271) t2 ) fun x0 =>
CM.st (fun m => stV m t4 x0 4) <|
CM.resC Tryz.prog [ResultVar.cell 0 271, ResultVar.tmp 1] [t4, t6]
theorem g190_3_ok : LeD (real E Mk Nk) g190_3 (fun ts m => goR E Mk 778243 ts m) := apS_le fun _ => apS_le fun _ => apS_le fun _ => ap0_le fun _ => goR_eq 400 (by kernel_rfl)
noncomputable def f190 : List AV → CM := apS fun a0 => apS fun a1 => ap0 <|
CM.al (boxA a0) fun x0 =>
CM.al (some (.cells [(.int .u64 0), (.int .u64 0), (.int .u64 0), (.int .u64 0)] false, pB)) fun x1 =>
CM.go 778240 [a1, x0, x1, (.int .u64 0), (.int .i64 3)]
theorem f190_ok : LeD (real E Mk Nk) f190 (fun xs m => run E (.fn 190) xs m) := apS_le fun _ => apS_le fun _ => ap0_le fun _ => run_eq 400 rfl (by kernel_rfl) (by kernel_rfl)
noncomputable def f191 : List AV → CM := apS fun a0 => apS fun a1 => ap0 <|
CM.al (boxA a0) fun x0 =>
CM.al (boxA a1) fun x1 =>
CM.al (some (.cells [(.int .u64 0), (.int .u64 0), (.int .u64 0), (.int .u64 0)] false, pB)) fun x2 =>
CM.rm (q1 (loadA Tryz.prog 35) x0 ) fun x3 =>
CM.call 213 [x3] fun x4 =>
CM.pu (p1 (fun a => extractA a 0) x4) fun x5 =>
CM.pu (p1 (fun a => extractA a 1) x4) fun x6 =>
CM.rm (q1 (loadA Tryz.prog 35) x1 ) fun x7 =>
CM.call 213 [x7] fun x8 =>
CM.pu (p1 (fun a => extractA a 0) x8) fun x9 =>
CM.pu (p1 (fun a => extractA a 1) x8) fun x10 =>
CM.al (some (.cells [(.int .u64 0), (.int .u64 0), (.int .u64 0), (.int .u64 0)] false, pB)) fun x11 =>
CM.call 214 [x6, x10] fun x12 =>
CM.pu (p1 (fun a => extractA a 0) x12) fun x13 =>
CM.pu (p1 (fun a => extractA a 1) x12) fun x14 =>
CM.pu (p2 (indexAddrA Tryz.prog 271) x11 (.int .i64 1)) fun x15 =>
CM.st (fun m => stV m x15 x13 1) <|
CM.pu (p2 (indexAddrA Tryz.prog 271) x11 (.int .i64 0)) fun x17 =>
CM.st (fun m => stV m x17 x14 1) <|
CM.callv (.fn (.func 215) [] [x11]) [x6, x9, (.int .i64 1)] fun _ =>
CM.callv (.fn (.func 215) [] [x11]) [x5, x10, (.int .i64 1)] fun _ =>
CM.callv (.fn (.func 215) [] [x11]) [x5, x9, (.int .i64 2)] fun _ =>
CM.rm (q1 (loadA Tryz.prog 271) x11 ) fun x22 =>
CM.st (fun m => stV m x2 x22 4) <|
CM.resC Tryz.prog [ResultVar.cell 0 271] [x2]
theorem f191_ok : LeD (real E Mk Nk) f191 (fun xs m => run E (.fn 191) xs m) := apS_le fun _ => apS_le fun _ => ap0_le fun _ => run_eq 400 rfl (by kernel_rfl) (by kernel_rfl)
noncomputable def g192_0 : List AV → CM := apS fun t0 => apS fun t3 => ap0 <|
CM.pu (p2 (binA Tryz.prog .gtr 3) t0 (.int .i64 0)) fun x0 =>
CM.cond x0 (
CM.go 786433 [t0, t3]) (
CM.go 786435 [t3])
theorem g192_0_ok : LeD (real E Mk Nk) g192_0 (fun ts m => goR E Mk 786432 ts m) := apS_le fun _ => apS_le fun _ => ap0_le fun _ => goR_eq 400 (by kernel_rfl)
noncomputable def g192_1 : List AV → CM := apS fun t0 => apS fun t3 => ap0 <|
CM.pu (p2 (binA Tryz.prog .mul 30) t3 (.int .u64 10)) fun x0 =>
CM.go 786434 [t0, x0]
theorem g192_1_ok : LeD (real E Mk Nk) g192_1 (fun ts m => goR E Mk 786433 ts m) := apS_le fun _ => apS_le fun _ => ap0_le fun _ => goR_eq 400 (by kernel_rfl)
noncomputable def g192_2 : List AV → CM := apS fun t0 => apS fun t3 => ap0 <|
CM.pu (p2 (binA Tryz.prog .sub 3) t0 (.int .i64 1)) fun x0 =>
CM.go 786432 [x0, t3]
theorem g192_2_ok : LeD (real E Mk Nk) g192_2 (fun ts m => goR E Mk 786434 ts m) := apS_le fun _ => apS_le fun _ => ap0_le fun _ => goR_eq 400 (by kernel_rfl)
noncomputable def g192_3 : List AV → CM := apS fun t3 => ap0 <|
CM.ret t3
theorem g192_3_ok : LeD (real E Mk Nk) g192_3 (fun ts m => goR E Mk 786435 ts m) := apS_le fun _ => ap0_le fun _ => goR_eq 400 (by kernel_rfl)
noncomputable def f192 : List AV → CM := apS fun a0 => ap0 <|
CM.go 786432 [a0, (.int .u64 1)]
theorem f192_ok : LeD (real E Mk Nk) f192 (fun xs m => run E (.fn 192) xs m) := apS_le fun _ => ap0_le fun _ => run_eq 400 rfl (by kernel_rfl) (by kernel_rfl)
noncomputable def g193_0 : List AV → CM := apS fun t0 => apS fun t3 => apS fun t4 => ap0 <|
CM.pu (p2 (indexAddrA Tryz.prog 271) t3 (.int .i64 1)) fun x0 =>
CM.rm (q1 (loadA Tryz.prog 30) x0 ) fun x1 =>
CM.pu (p2 (indexAddrA Tryz.prog 271) t3 (.int .i64 0)) fun x2 =>
CM.rm (q1 (loadA Tryz.prog 30) x2 ) fun x3 =>
CM.call 216 [t0, x1, x3] fun x4 =>
CM.pu (p1 (fun a => extractA a 0) x4) fun x5 =>
CM.pu (p1 (fun a => extractA a 1) x4) fun x6 =>
CM.st (fun m => stV m t4 x5 2) <|
CM.resC Tryz.prog [ResultVar.cell 0 35, ResultVar.tmp 1] [t4, x6]
theorem g193_0_ok : LeD (real E Mk Nk) g193_0 (fun ts m => goR E Mk 790528 ts m) := apS_le fun _ => apS_le fun _ => apS_le fun _ => ap0_le fun _ => goR_eq 400 (by kernel_rfl)
noncomputable def f193 : List AV → CM := apS fun a0 => apS fun a1 => ap0 <|
CM.al (boxA a1) fun x0 =>
CM.al (some (.cells [(.int .i64 0), (.int .u64 0)] false, pB)) fun x1 =>
CM.pu (p2 (indexAddrA Tryz.prog 271) x0 (.int .i64 3)) fun x2 =>
CM.rm (q1 (loadA Tryz.prog 30) x2 ) fun x3 =>
CM.pu (p2 (binA Tryz.prog .neq 30) x3 (.int .u64 0)) fun x4 =>
CM.ifv x4 (
CM.pu (p1 (buildA Tryz.prog 35) []) fun x5 =>
CM.st (fun m => stV m x1 x5 2) <|
CM.resC Tryz.prog [ResultVar.cell 0 35, ResultVar.tmp 1] [x1, (.int .i64 20)]) (
CM.pu (p2 (indexAddrA Tryz.prog 271) x0 (.int .i64 2)) fun x7 =>
CM.rm (q1 (loadA Tryz.prog 30) x7 ) fun x8 =>
CM.pu (p2 (binA Tryz.prog .neq 30) x8 (.int .u64 0)) fun x9 =>
CM.cond x9 (
CM.pu (p1 (buildA Tryz.prog 35) []) fun x10 =>
CM.st (fun m => stV m x1 x10 2) <|
CM.resC Tryz.prog [ResultVar.cell 0 35, ResultVar.tmp 1] [x1, (.int .i64 20)]) (
CM.go 790528 [a0, x0, x1]))
theorem f193_ok : LeD (real E Mk Nk) f193 (fun xs m => run E (.fn 193) xs m) := apS_le fun _ => apS_le fun _ => ap0_le fun _ => run_eq 400 rfl (by kernel_rfl) (by kernel_rfl)
end Go.Proofs.YtamooapjonlcdaaGreat.T
