/- Functions as trees, printed by our own program (wip/tools/gen3.lean). -/
import Derived.Test.YtfiipajgdhafaaaGreatT0
namespace Go.Proofs.YtfiipajgdhafaaaGreat.T
open Go Go.Abs Go.Proofs.YtfiipajgdhafaaaGreat
set_option maxRecDepth 10000
noncomputable def f155 : List AV → CM := apS fun a0 => apS fun a1 => ap0 <|
CM.al (boxA a1) fun x0 =>
CM.pu (p1 nnA a0) fun x1 =>
CM.pu (p1 (fun a => fieldAddrA Tryz.prog 128 a 3) x1) fun x2 =>
CM.rm (q1 (loadA Tryz.prog 126) x2 ) fun x3 =>
CM.pu (p1 (fun a => fieldAddrA Tryz.prog 140 a 0) x0) fun x4 =>
CM.rm (q1 (loadA Tryz.prog 26) x4 ) fun x5 =>
CM.rm (q1 (loadA Tryz.prog 140) x0 ) fun x6 =>
CM.call 86 [x3, x5, x6] fun _ =>
CM.ret .undef
theorem f155_ok : LeD (real E Mk Nk) f155 (fun xs m => run E (.fn 155) xs m) := apS_le fun _ => apS_le fun _ => ap0_le fun _ => run_eq 400 rfl (by kernel_rfl) (by kernel_rfl)
noncomputable def f156 : List AV → CM := apS fun a0 => apS fun a1 => ap0 <|
CM.al (boxA a0) fun x0 =>
CM.al (boxA a1) fun x1 =>
CM.pu (p1 (fun a => fieldAddrA Tryz.prog 140 a 2) x0) fun x2 =>
CM.rm (q1 (loadA Tryz.prog 36) x2 ) fun x3 =>
CM.pu (p1 (fun a => fieldAddrA Tryz.prog 38 a 0) x1) fun x4 =>
CM.rm (q1 (loadA Tryz.prog 36) x4 ) fun x5 =>
CM.call 199 [x3, x5] fun x6 =>
CM.pu (p2 (binA Tryz.prog .lss 3) x6 (.int .i64 0)) fun x7 =>
CM.ret x7
theorem f156_ok : LeD (real E Mk Nk) f156 (fun xs m => run E (.fn 156) xs m) := apS_le fun _ => apS_le fun _ => ap0_le fun _ => run_eq 400 rfl (by kernel_rfl) (by kernel_rfl)
noncomputable def g157_0 : List AV → CM := ap0 <|
CM.ret (.int .i64 0)
theorem g157_0_ok : LeD (real E Mk Nk) g157_0 (fun ts m => goR E Mk 643072 ts m) := ap0_le fun _ => goR_eq 400 (by kernel_rfl)
noncomputable def f157 : List AV → CM := apS fun a0 => ap0 <|
CM.al (boxA a0) fun x0 =>
CM.rm (q1 (loadA Tryz.prog 38) x0 ) fun x1 =>
CM.call 118 [x1] fun x2 =>
CM.pu (p1 (unA .not) x2) fun x3 =>
CM.cond x3 (
CM.ret (.int .i64 21)) (
CM.rm (q1 (loadA Tryz.prog 38) x0 ) fun x4 =>
CM.call 200 [x4] fun x5 =>
CM.pu (p1 (unA .not) x5) fun x6 =>
CM.cond x6 (
CM.ret (.int .i64 44)) (
CM.go 643072 []))
theorem f157_ok : LeD (real E Mk Nk) f157 (fun xs m => run E (.fn 157) xs m) := apS_le fun _ => ap0_le fun _ => run_eq 400 rfl (by kernel_rfl) (by kernel_rfl)
noncomputable def g158_0 : List AV → CM := apS fun t0 => apS fun t4 => apS fun t6 => ap0 <|
CM.pu (p1 nnA t0) fun x0 =>
CM.pu (p1 (fun a => fieldAddrA Tryz.prog 210 a 1) x0) fun x1 =>
CM.rm (q1 (loadA Tryz.prog 90) x1 ) fun x2 =>
CM.pu (p2 (indexAddrA Tryz.prog 90) x2 t6) fun x3 =>
CM.rm (q1 (loadA Tryz.prog 136) x3 ) fun x4 =>
CM.st (fun m => stV m t4 x4 9) <|
CM.resC Tryz.prog [ResultVar.cell 0 136, ResultVar.tmp 1] [t4, (.bool true)]
theorem g158_0_ok : LeD (real E Mk Nk) g158_0 (fun ts m => goR E Mk 647168 ts m) := apS_le fun _ => apS_le fun _ => apS_le fun _ => ap0_le fun _ => goR_eq 400 (by kernel_rfl)
noncomputable def f158 : List AV → CM := apS fun a0 => apS fun a1 => ap0 <|
CM.al (some (.cells [(.str []), (.str []), (.int .i64 0), (.int .u64 0), (.int .i64 0), (.int .i64 0), (.int .u64 0), (.int .i64 0), (.int .u64 0)] false, pB)) fun x0 =>
CM.pu (p1 nnA a0) fun x1 =>
CM.pu (p1 (fun a => fieldAddrA Tryz.prog 210 a 0) x1) fun x2 =>
CM.rm (q1 (loadA Tryz.prog 206) x2 ) fun x3 =>
CM.call 132 [x3, a1] fun x4 =>
CM.pu (p1 (fun a => extractA a 0) x4) fun x5 =>
CM.pu (p1 (fun a => extractA a 1) x4) fun x6 =>
CM.pu (p1 (unA .not) x6) fun x7 =>
CM.cond x7 (
CM.al (some (.cells [(.str []), (.str []), (.int .i64 0), (.int .u64 0), (.int .i64 0), (.int .i64 0), (.int .u64 0), (.int .i64 0), (.int .u64 0)] false, pB)) fun x8 =>
CM.rm (q1 (loadA Tryz.prog 136) x8 ) fun x9 =>
CM.st (fun m => stV m x0 x9 9) <|
CM.resC Tryz.prog [ResultVar.cell 0 136, ResultVar.tmp 1] [x0, (.bool false)]) (
CM.go 647168 [a0, x0, x5])
theorem f158_ok : LeD (real E Mk Nk) f158 (fun xs m => run E (.fn 158) xs m) := apS_le fun _ => apS_le fun _ => ap0_le fun _ => run_eq 400 rfl (by kernel_rfl) (by kernel_rfl)
noncomputable def g159_0 : List AV → CM := apS fun t2 => apS fun t3 => apS fun t4 => apS fun t6 => ap0 <|
CM.rm (q1 (loadA Tryz.prog 38) t4 ) fun x0 =>
CM.call 157 [x0] fun x1 =>
CM.pu (p2 (binA Tryz.prog .neq 23) x1 (.int .i64 0)) fun x2 =>
CM.cond x2 (
CM.pu (p1 (buildA Tryz.prog 38) []) fun x3 =>
CM.st (fun m => stV m t6 x3 3) <|
CM.resC Tryz.prog [ResultVar.cell 0 38, ResultVar.tmp 1] [t6, x1]) (
CM.go 651265 [t2, t3, t4, t6])
theorem g159_0_ok : LeD (real E Mk Nk) g159_0 (fun ts m => goR E Mk 651264 ts m) := apS_le fun _ => apS_le fun _ => apS_le fun _ => apS_le fun _ => ap0_le fun _ => goR_eq 400 (by kernel_rfl)
noncomputable def g159_1 : List AV → CM := apS fun t2 => apS fun t3 => apS fun t4 => apS fun t6 => ap0 <|
CM.rm (q1 (loadA Tryz.prog 38) t3 ) fun x0 =>
CM.rm (q1 (loadA Tryz.prog 38) t4 ) fun x1 =>
CM.call 201 [x0, x1, t2] fun x2 =>
CM.pu (p1 (fun a => extractA a 0) x2) fun x3 =>
CM.pu (p1 (fun a => extractA a 1) x2) fun x4 =>
CM.st (fun m => stV m t6 x3 3) <|
CM.resC Tryz.prog [ResultVar.cell 0 38, ResultVar.tmp 1] [t6, x4]
theorem g159_1_ok : LeD (real E Mk Nk) g159_1 (fun ts m => goR E Mk 651265 ts m) := apS_le fun _ => apS_le fun _ => apS_le fun _ => apS_le fun _ => ap0_le fun _ => goR_eq 400 (by kernel_rfl)
noncomputable def f159 : List AV → CM := apS fun a0 => apS fun a1 => apS fun a2 => ap0 <|
CM.al (boxA a0) fun x0 =>
CM.al (boxA a1) fun x1 =>
CM.al (some (.cells [(.int .i64 0), (.int .u64 0), (.int .i64 0)] false, pB)) fun x2 =>
CM.rm (q1 (loadA Tryz.prog 38) x0 ) fun x3 =>
CM.call 118 [x3] fun x4 =>
CM.pu (p1 (unA .not) x4) fun x5 =>
CM.ifv x5 (
CM.pu (p1 (buildA Tryz.prog 38) []) fun x6 =>
CM.st (fun m => stV m x2 x6 3) <|
CM.resC Tryz.prog [ResultVar.cell 0 38, ResultVar.tmp 1] [x2, (.int .i64 21)]) (
CM.pu (p2 (binA Tryz.prog .lss 3) a2 (.int .i64 0)) fun x8 =>
CM.ifv x8 (
CM.pu (p1 (buildA Tryz.prog 38) []) fun x9 =>
CM.st (fun m => stV m x2 x9 3) <|
CM.resC Tryz.prog [ResultVar.cell 0 38, ResultVar.tmp 1] [x2, (.int .i64 21)]) (
CM.pu (p2 (binA Tryz.prog .gtr 3) a2 (.int .i64 18)) fun x11 =>
CM.cond x11 (
CM.pu (p1 (buildA Tryz.prog 38) []) fun x12 =>
CM.st (fun m => stV m x2 x12 3) <|
CM.resC Tryz.prog [ResultVar.cell 0 38, ResultVar.tmp 1] [x2, (.int .i64 21)]) (
CM.rm (q1 (loadA Tryz.prog 38) x0 ) fun x14 =>
CM.call 200 [x14] fun x15 =>
CM.pu (p1 (unA .not) x15) fun x16 =>
CM.cond x16 (
CM.pu (p1 (buildA Tryz.prog 38) []) fun x17 =>
CM.st (fun m => stV m x2 x17 3) <|
CM.resC Tryz.prog [ResultVar.cell 0 38, ResultVar.tmp 1] [x2, (.int .i64 43)]) (
CM.go 651264 [a2, x0, x1, x2]))))
theorem f159_ok : LeD (real E Mk Nk) f159 (fun xs m => run E (.fn 159) xs m) := apS_le fun _ => apS_le fun _ => apS_le fun _ => ap0_le fun _ => run_eq 400 rfl (by kernel_rfl) (by kernel_rfl)
noncomputable def g160_0 : List AV → CM := apS fun t1 => apS fun t8 => apS fun t9 => apS fun t10 => ap0 <|
CM.pu (p2 (binA Tryz.prog .lss 3) t10 t9) fun x0 =>
CM.cond x0 (
CM.go 655361 [t1, t8, t9, t10]) (
CM.go 655363 [])
theorem g160_0_ok : LeD (real E Mk Nk) g160_0 (fun ts m => goR E Mk 655360 ts m) := apS_le fun _ => apS_le fun _ => apS_le fun _ => apS_le fun _ => ap0_le fun _ => goR_eq 400 (by kernel_rfl)
noncomputable def g160_1 : List AV → CM := apS fun t1 => apS fun t8 => apS fun t9 => apS fun t10 => ap0 <|
CM.pu (p2 (indexAddrA Tryz.prog 89) t8 t10) fun x0 =>
CM.rm (q1 (loadA Tryz.prog 132) x0 ) fun x1 =>
CM.al (some (.cells [(.str []), (.int .i64 0), (.int .i64 0), (.int .u64 0)] false, pB)) fun x2 =>
CM.st (fun m => stV m x2 x1 4) <|
CM.pu (p1 (fun a => fieldAddrA Tryz.prog 132 a 0) x2) fun x4 =>
CM.rm (q1 (loadA Tryz.prog 9) x4 ) fun x5 =>
CM.pu (p2 (binA Tryz.prog .eql 9) x5 t1) fun x6 =>
CM.cond x6 (
CM.ret (.bool true)) (
CM.go 655362 [t1, t8, t9, t10])
theorem g160_1_ok : LeD (real E Mk Nk) g160_1 (fun ts m => goR E Mk 655361 ts m) := apS_le fun _ => apS_le fun _ => apS_le fun _ => apS_le fun _ => ap0_le fun _ => goR_eq 400 (by kernel_rfl)
noncomputable def g160_2 : List AV → CM := apS fun t1 => apS fun t8 => apS fun t9 => apS fun t10 => ap0 <|
CM.pu (p2 (binA Tryz.prog .add 3) t10 (.int .i64 1)) fun x0 =>
CM.go 655360 [t1, t8, t9, x0]
theorem g160_2_ok : LeD (real E Mk Nk) g160_2 (fun ts m => goR E Mk 655362 ts m) := apS_le fun _ => apS_le fun _ => apS_le fun _ => apS_le fun _ => ap0_le fun _ => goR_eq 400 (by kernel_rfl)
noncomputable def g160_3 : List AV → CM := ap0 <|
CM.ret (.bool false)
theorem g160_3_ok : LeD (real E Mk Nk) g160_3 (fun ts m => goR E Mk 655363 ts m) := ap0_le fun _ => goR_eq 400 (by kernel_rfl)
noncomputable def f160 : List AV → CM := apS fun a0 => apS fun a1 => ap0 <|
CM.al (boxA a0) fun x0 =>
CM.pu (p1 (fun a => fieldAddrA Tryz.prog 93 a 0) x0) fun x1 =>
CM.rm (q1 (loadA Tryz.prog 89) x1 ) fun x2 =>
CM.pu (p1 (lenT Tryz.prog 89) x2) fun x3 =>
CM.go 655360 [a1, x2, x3, (.int .i64 0)]
theorem f160_ok : LeD (real E Mk Nk) f160 (fun xs m => run E (.fn 160) xs m) := apS_le fun _ => apS_le fun _ => ap0_le fun _ => run_eq 400 rfl (by kernel_rfl) (by kernel_rfl)
noncomputable def g161_0 : List AV → CM := ap0 <|
CM.ret (.int .i64 1)
theorem g161_0_ok : LeD (real E Mk Nk) g161_0 (fun ts m => goR E Mk 659456 ts m) := ap0_le fun _ => goR_eq 400 (by kernel_rfl)
noncomputable def f161 : List AV → CM := apS fun a0 => ap0 <|
CM.al (boxA a0) fun x0 =>
CM.pu (p1 (fun a => fieldAddrA Tryz.prog 36 a 0) x0) fun x1 =>
CM.rm (q1 (loadA Tryz.prog 2) x1 ) fun x2 =>
CM.pu (p2 (binA Tryz.prog .lss 2) x2 (.int .i64 0)) fun x3 =>
CM.cond x3 (
CM.ret (.int .i64 (-1))) (
CM.pu (p1 (fun a => fieldAddrA Tryz.prog 36 a 0) x0) fun x4 =>
CM.rm (q1 (loadA Tryz.prog 2) x4 ) fun x5 =>
CM.pu (p2 (binA Tryz.prog .eql 2) x5 (.int .i64 0)) fun x6 =>
CM.ifv x6 (
CM.pu (p1 (fun a => fieldAddrA Tryz.prog 36 a 1) x0) fun x7 =>
CM.rm (q1 (loadA Tryz.prog 26) x7 ) fun x8 =>
CM.pu (p2 (binA Tryz.prog .eql 26) x8 (.int .u64 0)) fun x9 =>
CM.cond x9 (
CM.ret (.int .i64 0)) (
CM.go 659456 [])) (
CM.go 659456 []))
theorem f161_ok : LeD (real E Mk Nk) f161 (fun xs m => run E (.fn 161) xs m) := apS_le fun _ => ap0_le fun _ => run_eq 400 rfl (by kernel_rfl) (by kernel_rfl)
noncomputable def g162_0 : List AV → CM := apS fun t0 => apS fun t3 => ap0 <|
CM.pu (p1 nnA t0) fun x0 =>
CM.pu (p1 (fun a => fieldAddrA Tryz.prog 267 a 0) x0) fun x1 =>
CM.rm (q1 (loadA Tryz.prog 36) x1 ) fun x2 =>
CM.pu (p1 (fun a => fieldAddrA Tryz.prog 36 a 0) t3) fun x3 =>
CM.rm (q1 (loadA Tryz.prog 2) x3 ) fun x4 =>
CM.call 202 [x4] fun x6 =>
CM.memo fun m7 =>
CM.chk (q1 (loadA Tryz.prog 36) x1 m7) x2 <|
CM.call 198 [x2, x6] fun x9 =>
CM.pu (p1 (fun a => extractA a 0) x9) fun x11 =>
CM.pu (p1 (fun a => extractA a 1) x9) fun _ =>
CM.pu (p1 nnA t0) fun x13 =>
CM.pu (p1 (fun a => fieldAddrA Tryz.prog 267 a 0) x13) fun x14 =>
CM.st (fun m => stV m x14 x11 2) <|
CM.ret .undef
theorem g162_0_ok : LeD (real E Mk Nk) g162_0 (fun ts m => goR E Mk 663552 ts m) := apS_le fun _ => apS_le fun _ => ap0_le fun _ => goR_eq 400 (by kernel_rfl)
noncomputable def f162 : List AV → CM := apS fun a0 => apS fun a1 => ap0 <|
CM.al (boxA a1) fun x0 =>
CM.pu (p1 nnA a0) fun x1 =>
CM.pu (p1 (fun a => fieldAddrA Tryz.prog 267 a 1) x1) fun x2 =>
CM.rm (q1 (loadA Tryz.prog 26) x2 ) fun x3 =>
CM.pu (p1 (fun a => fieldAddrA Tryz.prog 36 a 1) x0) fun x4 =>
CM.rm (q1 (loadA Tryz.prog 26) x4 ) fun x5 =>
CM.pu (p2 (binA Tryz.prog .add 26) x3 x5) fun x6 =>
CM.pu (p1 nnA a0) fun x7 =>
CM.pu (p1 (fun a => fieldAddrA Tryz.prog 267 a 1) x7) fun x8 =>
CM.st (fun m => stV m x8 x6 1) <|
CM.pu (p1 nnA a0) fun x12 =>
CM.pu (p1 (fun a => fieldAddrA Tryz.prog 267 a 1) x12) fun x13 =>
CM.rm (q1 (loadA Tryz.prog 26) x13 ) fun x14 =>
CM.pu (p1 (fun a => fieldAddrA Tryz.prog 36 a 1) x0) fun x15 =>
CM.rm (q1 (loadA Tryz.prog 26) x15 ) fun x16 =>
CM.pu (p2 (binA Tryz.prog .lss 26) x14 x16) fun x17 =>
CM.cond x17 (
CM.pu (p1 nnA a0) fun x18 =>
CM.pu (p1 (fun a => fieldAddrA Tryz.prog 267 a 0) x18) fun x19 =>
CM.rm (q1 (loadA Tryz.prog 36) x19 ) fun x20 =>
CM.call 202 [(.int .i64 1)] fun x22 =>
CM.memo fun m23 =>
CM.chk (q1 (loadA Tryz.prog 36) x19 m23) x20 <|
CM.call 198 [x20, x22] fun x25 =>
CM.pu (p1 (fun a => extractA a 0) x25) fun x27 =>
CM.pu (p1 (fun a => extractA a 1) x25) fun _ =>
CM.pu (p1 nnA a0) fun x29 =>
CM.pu (p1 (fun a => fieldAddrA Tryz.prog 267 a 0) x29) fun x30 =>
CM.st (fun m => stV m x30 x27 2) <|
CM.go 663552 [a0, x0]) (
CM.go 663552 [a0, x0])
theorem f162_ok : LeD (real E Mk Nk) f162 (fun xs m => run E (.fn 162) xs m) := apS_le fun _ => apS_le fun _ => ap0_le fun _ => run_eq 400 rfl (by kernel_rfl) (by kernel_rfl)
noncomputable def f163 : List AV → CM := apS fun a0 => ap0 <|
CM.pu (p1 nnA a0) fun x0 =>
CM.pu (p1 (fun a => fieldAddrA Tryz.prog 267 a 1) x0) fun x1 =>
CM.rm (q1 (loadA Tryz.prog 26) x1 ) fun x2 =>
CM.pu (p2 (binA Tryz.prog .eql 26) x2 (.int .u64 0)) fun x3 =>
CM.ifv x3 (
CM.pu (p1 nnA a0) fun x4 =>
CM.pu (p1 (fun a => fieldAddrA Tryz.prog 267 a 0) x4) fun x5 =>
CM.rm (q1 (loadA Tryz.prog 36) x5 ) fun x6 =>
CM.call 161 [x6] fun x7 =>
CM.pu (p2 (binA Tryz.prog .eql 3) x7 (.int .i64 0)) fun x8 =>
CM.ret x8) (
CM.ret (.bool false))
theorem f163_ok : LeD (real E Mk Nk) f163 (fun xs m => run E (.fn 163) xs m) := apS_le fun _ => ap0_le fun _ => run_eq 400 rfl (by kernel_rfl) (by kernel_rfl)
noncomputable def f164 : List AV → CM := apS fun a0 => ap0 <|
CM.pu (p2 (binA Tryz.prog .geq 3) a0 (.int .i64 0)) fun x0 =>
CM.ifv x0 (
CM.pu (p2 (binA Tryz.prog .leq 3) a0 (.int .i64 18)) fun x1 =>
CM.ret x1) (
CM.ret (.bool false))
theorem f164_ok : LeD (real E Mk Nk) f164 (fun xs m => run E (.fn 164) xs m) := apS_le fun _ => ap0_le fun _ => run_eq 400 rfl (by kernel_rfl) (by kernel_rfl)
noncomputable def f165 : List AV → CM := apS fun a0 => apS fun a1 => ap0 <|
CM.rm (q1 (loadA Tryz.prog 124) a1 ) fun x0 =>
CM.memo fun m1 =>
CM.call 167 [x0] fun x2 =>
CM.rm (q1 (loadA Tryz.prog 124) a1 ) fun x4 =>
CM.chk (q1 (loadA Tryz.prog 124) a1 m1) x4 <|
CM.call 168 [x4] fun x6 =>
CM.call 166 [x2, x6, a0] fun _ =>
CM.ret .undef
theorem f165_ok : LeD (real E Mk Nk) f165 (fun xs m => run E (.fn 165) xs m) := apS_le fun _ => apS_le fun _ => ap0_le fun _ => run_eq 400 rfl (by kernel_rfl) (by kernel_rfl)
noncomputable def g166_0 : List AV → CM := apS fun t1 => apS fun t2 => apS fun t8 => apS fun t9 => apS fun t10 => ap0 <|
CM.pu (p2 (binA Tryz.prog .lss 3) t10 t9) fun x0 =>
CM.cond x0 (
CM.go 679937 [t1, t2, t8, t9, t10]) (
CM.ret .undef)
theorem g166_0_ok : LeD (real E Mk Nk) g166_0 (fun ts m => goR E Mk 679936 ts m) := apS_le fun _ => apS_le fun _ => apS_le fun _ => apS_le fun _ => apS_le fun _ => ap0_le fun _ => goR_eq 400 (by kernel_rfl)
noncomputable def g166_1 : List AV → CM := apS fun t1 => apS fun t2 => apS fun t8 => apS fun t9 => apS fun t10 => ap0 <|
CM.pu (p2 (indexAddrA Tryz.prog 206) t8 t10) fun x0 =>
CM.rm (q1 (loadA Tryz.prog 9) x0 ) fun x1 =>
CM.pu (p2 (indexAddrA Tryz.prog 89) t1 t10) fun x2 =>
CM.rm (q1 (loadA Tryz.prog 132) x2 ) fun x3 =>
CM.callv t2 [x1, x3] fun x4 =>
CM.pu (p1 (unA .not) x4) fun x5 =>
CM.cond x5 (
CM.ret .undef) (
CM.go 679938 [t1, t2, t8, t9, t10])
theorem g166_1_ok : LeD (real E Mk Nk) g166_1 (fun ts m => goR E Mk 679937 ts m) := apS_le fun _ => apS_le fun _ => apS_le fun _ => apS_le fun _ => apS_le fun _ => ap0_le fun _ => goR_eq 400 (by kernel_rfl)
noncomputable def g166_2 : List AV → CM := apS fun t1 => apS fun t2 => apS fun t8 => apS fun t9 => apS fun t10 => ap0 <|
CM.pu (p2 (binA Tryz.prog .add 3) t10 (.int .i64 1)) fun x0 =>
CM.go 679936 [t1, t2, t8, t9, x0]
theorem g166_2_ok : LeD (real E Mk Nk) g166_2 (fun ts m => goR E Mk 679938 ts m) := apS_le fun _ => apS_le fun _ => apS_le fun _ => apS_le fun _ => apS_le fun _ => ap0_le fun _ => goR_eq 400 (by kernel_rfl)
noncomputable def f166 : List AV → CM := apS fun a0 => apS fun a1 => apS fun a2 => ap0 <|
CM.pu (p1 (lenT Tryz.prog 206) a0) fun x0 =>
CM.go 679936 [a1, a2, a0, x0, (.int .i64 0)]
theorem f166_ok : LeD (real E Mk Nk) f166 (fun xs m => run E (.fn 166) xs m) := apS_le fun _ => apS_le fun _ => apS_le fun _ => ap0_le fun _ => run_eq 400 rfl (by kernel_rfl) (by kernel_rfl)
noncomputable def f167 : List AV → CM := apS fun a0 => ap0 <|
CM.al (some (.cells [] false, sB 1 0)) fun x0 =>
CM.pu (p1 nnA a0) fun x1 =>
CM.pu (p1 (fun a => fieldAddrA Tryz.prog 208 a 0) x1) fun x2 =>
CM.rm (q1 (loadA Tryz.prog 206) x2 ) fun x3 =>
CM.ef (apE 1 16 x0 x3) fun x4 =>
CM.ret x4
theorem f167_ok : LeD (real E Mk Nk) f167 (fun xs m => run E (.fn 167) xs m) := apS_le fun _ => ap0_le fun _ => run_eq 400 rfl (by kernel_rfl) (by kernel_rfl)
noncomputable def f168 : List AV → CM := apS fun a0 => ap0 <|
CM.al (some (.cells [] false, sB 4 0)) fun x0 =>
CM.pu (p1 nnA a0) fun x1 =>
CM.pu (p1 (fun a => fieldAddrA Tryz.prog 208 a 1) x1) fun x2 =>
CM.rm (q1 (loadA Tryz.prog 89) x2 ) fun x3 =>
CM.ef (apE 4 40 x0 x3) fun x4 =>
CM.ret x4
theorem f168_ok : LeD (real E Mk Nk) f168 (fun xs m => run E (.fn 168) xs m) := apS_le fun _ => ap0_le fun _ => run_eq 400 rfl (by kernel_rfl) (by kernel_rfl)
noncomputable def f169 : List AV → CM := apS fun a0 => apS fun a1 => ap0 <|
CM.rm (q1 (loadA Tryz.prog 125) a1 ) fun x0 =>
CM.memo fun m1 =>
CM.call 171 [x0] fun x2 =>
CM.rm (q1 (loadA Tryz.prog 125) a1 ) fun x4 =>
CM.chk (q1 (loadA Tryz.prog 125) a1 m1) x4 <|
CM.call 172 [x4] fun x6 =>
CM.call 170 [x2, x6, a0] fun _ =>
CM.ret .undef
theorem f169_ok : LeD (real E Mk Nk) f169 (fun xs m => run E (.fn 169) xs m) := apS_le fun _ => apS_le fun _ => ap0_le fun _ => run_eq 400 rfl (by kernel_rfl) (by kernel_rfl)
noncomputable def g170_0 : List AV → CM := apS fun t1 => apS fun t2 => apS fun t8 => apS fun t9 => apS fun t10 => ap0 <|
CM.pu (p2 (binA Tryz.prog .lss 3) t10 t9) fun x0 =>
CM.cond x0 (
CM.go 696321 [t1, t2, t8, t9, t10]) (
CM.ret .undef)
theorem g170_0_ok : LeD (real E Mk Nk) g170_0 (fun ts m => goR E Mk 696320 ts m) := apS_le fun _ => apS_le fun _ => apS_le fun _ => apS_le fun _ => apS_le fun _ => ap0_le fun _ => goR_eq 400 (by kernel_rfl)
noncomputable def g170_1 : List AV → CM := apS fun t1 => apS fun t2 => apS fun t8 => apS fun t9 => apS fun t10 => ap0 <|
CM.pu (p2 (indexAddrA Tryz.prog 206) t8 t10) fun x0 =>
CM.rm (q1 (loadA Tryz.prog 9) x0 ) fun x1 =>
CM.pu (p2 (indexAddrA Tryz.prog 90) t1 t10) fun x2 =>
CM.rm (q1 (loadA Tryz.prog 136) x2 ) fun x3 =>
CM.callv t2 [x1, x3] fun x4 =>
CM.pu (p1 (unA .not) x4) fun x5 =>
CM.cond x5 (
CM.ret .undef) (
CM.go 696322 [t1, t2, t8, t9, t10])
theorem g170_1_ok : LeD (real E Mk Nk) g170_1 (fun ts m => goR E Mk 696321 ts m) := apS_le fun _ => apS_le fun _ => apS_le fun _ => apS_le fun _ => apS_le fun _ => ap0_le fun _ => goR_eq 400 (by kernel_rfl)
noncomputable def g170_2 : List AV → CM := apS fun t1 => apS fun t2 => apS fun t8 => apS fun t9 => apS fun t10 => ap0 <|
CM.pu (p2 (binA Tryz.prog .add 3) t10 (.int .i64 1)) fun x0 =>
CM.go 696320 [t1, t2, t8, t9, x0]
theorem g170_2_ok : LeD (real E Mk Nk) g170_2 (fun ts m => goR E Mk 696322 ts m) := apS_le fun _ => apS_le fun _ => apS_le fun _ => apS_le fun _ => apS_le fun _ => ap0_le fun _ => goR_eq 400 (by kernel_rfl)
noncomputable def f170 : List AV → CM := apS fun a0 => apS fun a1 => apS fun a2 => ap0 <|
CM.pu (p1 (lenT Tryz.prog 206) a0) fun x0 =>
CM.go 696320 [a1, a2, a0, x0, (.int .i64 0)]
theorem f170_ok : LeD (real E Mk Nk) f170 (fun xs m => run E (.fn 170) xs m) := apS_le fun _ => apS_le fun _ => apS_le fun _ => ap0_le fun _ => run_eq 400 rfl (by kernel_rfl) (by kernel_rfl)
noncomputable def f171 : List AV → CM := apS fun a0 => ap0 <|
CM.al (some (.cells [] false, sB 1 0)) fun x0 =>
CM.pu (p1 nnA a0) fun x1 =>
CM.pu (p1 (fun a => fieldAddrA Tryz.prog 210 a 0) x1) fun x2 =>
CM.rm (q1 (loadA Tryz.prog 206) x2 ) fun x3 =>
CM.ef (apE 1 16 x0 x3) fun x4 =>
CM.ret x4
theorem f171_ok : LeD (real E Mk Nk) f171 (fun xs m => run E (.fn 171) xs m) := apS_le fun _ => ap0_le fun _ => run_eq 400 rfl (by kernel_rfl) (by kernel_rfl)
noncomputable def f172 : List AV → CM := apS fun a0 => ap0 <|
CM.al (some (.cells [] false, sB 9 0)) fun x0 =>
CM.pu (p1 nnA a0) fun x1 =>
CM.pu (p1 (fun a => fieldAddrA Tryz.prog 210 a 1) x1) fun x2 =>
CM.rm (q1 (loadA Tryz.prog 90) x2 ) fun x3 =>
CM.ef (apE 9 88 x0 x3) fun x4 =>
CM.ret x4
theorem f172_ok : LeD (real E Mk Nk) f172 (fun xs m => run E (.fn 172) xs m) := apS_le fun _ => ap0_le fun _ => run_eq 400 rfl (by kernel_rfl) (by kernel_rfl)
noncomputable def f173 : List AV → CM := apS fun a0 => apS fun a1 => ap0 <|
CM.rm (q1 (loadA Tryz.prog 126) a1 ) fun x0 =>
CM.memo fun m1 =>
CM.call 175 [x0] fun x2 =>
CM.rm (q1 (loadA Tryz.prog 126) a1 ) fun x4 =>
CM.chk (q1 (loadA Tryz.prog 126) a1 m1) x4 <|
CM.call 176 [x4] fun x6 =>
CM.call 174 [x2, x6, a0] fun _ =>
CM.ret .undef
theorem f173_ok : LeD (real E Mk Nk) f173 (fun xs m => run E (.fn 173) xs m) := apS_le fun _ => apS_le fun _ => ap0_le fun _ => run_eq 400 rfl (by kernel_rfl) (by kernel_rfl)
noncomputable def g174_0 : List AV → CM := apS fun t1 => apS fun t2 => apS fun t8 => apS fun t9 => apS fun t10 => ap0 <|
CM.pu (p2 (binA Tryz.prog .lss 3) t10 t9) fun x0 =>
CM.cond x0 (
CM.go 712705 [t1, t2, t8, t9, t10]) (
CM.ret .undef)
theorem g174_0_ok : LeD (real E Mk Nk) g174_0 (fun ts m => goR E Mk 712704 ts m) := apS_le fun _ => apS_le fun _ => apS_le fun _ => apS_le fun _ => apS_le fun _ => ap0_le fun _ => goR_eq 400 (by kernel_rfl)
noncomputable def g174_1 : List AV → CM := apS fun t1 => apS fun t2 => apS fun t8 => apS fun t9 => apS fun t10 => ap0 <|
CM.pu (p2 (indexAddrA Tryz.prog 116) t8 t10) fun x0 =>
CM.rm (q1 (loadA Tryz.prog 26) x0 ) fun x1 =>
CM.pu (p2 (indexAddrA Tryz.prog 91) t1 t10) fun x2 =>
CM.rm (q1 (loadA Tryz.prog 140) x2 ) fun x3 =>
CM.callv t2 [x1, x3] fun x4 =>
CM.pu (p1 (unA .not) x4) fun x5 =>
CM.cond x5 (
CM.ret .undef) (
CM.go 712706 [t1, t2, t8, t9, t10])
theorem g174_1_ok : LeD (real E Mk Nk) g174_1 (fun ts m => goR E Mk 712705 ts m) := apS_le fun _ => apS_le fun _ => apS_le fun _ => apS_le fun _ => apS_le fun _ => ap0_le fun _ => goR_eq 400 (by kernel_rfl)
noncomputable def g174_2 : List AV → CM := apS fun t1 => apS fun t2 => apS fun t8 => apS fun t9 => apS fun t10 => ap0 <|
CM.pu (p2 (binA Tryz.prog .add 3) t10 (.int .i64 1)) fun x0 =>
CM.go 712704 [t1, t2, t8, t9, x0]
theorem g174_2_ok : LeD (real E Mk Nk) g174_2 (fun ts m => goR E Mk 712706 ts m) := apS_le fun _ => apS_le fun _ => apS_le fun _ => apS_le fun _ => apS_le fun _ => ap0_le fun _ => goR_eq 400 (by kernel_rfl)
noncomputable def f174 : List AV → CM := apS fun a0 => apS fun a1 => apS fun a2 => ap0 <|
CM.pu (p1 (lenT Tryz.prog 116) a0) fun x0 =>
CM.go 712704 [a1, a2, a0, x0, (.int .i64 0)]
theorem f174_ok : LeD (real E Mk Nk) f174 (fun xs m => run E (.fn 174) xs m) := apS_le fun _ => apS_le fun _ => apS_le fun _ => ap0_le fun _ => run_eq 400 rfl (by kernel_rfl) (by kernel_rfl)
noncomputable def f175 : List AV → CM := apS fun a0 => ap0 <|
CM.al (some (.cells [] false, sB 1 0)) fun x0 =>
CM.pu (p1 nnA a0) fun x1 =>
CM.pu (p1 (fun a => fieldAddrA Tryz.prog 212 a 0) x1) fun x2 =>
CM.rm (q1 (loadA Tryz.prog 116) x2 ) fun x3 =>
CM.ef (apE 1 8 x0 x3) fun x4 =>
CM.ret x4
theorem f175_ok : LeD (real E Mk Nk) f175 (fun xs m => run E (.fn 175) xs m) := apS_le fun _ => ap0_le fun _ => run_eq 400 rfl (by kernel_rfl) (by kernel_rfl)
noncomputable def f176 : List AV → CM := apS fun a0 => ap0 <|
CM.al (some (.cells [] false, sB 4 0)) fun x0 =>
CM.pu (p1 nnA a0) fun x1 =>
CM.pu (p1 (fun a => fieldAddrA Tryz.prog 212 a 1) x1) fun x2 =>
CM.rm (q1 (loadA Tryz.prog 91) x2 ) fun x3 =>
CM.ef (apE 4 40 x0 x3) fun x4 =>
CM.ret x4
theorem f176_ok : LeD (real E Mk Nk) f176 (fun xs m => run E (.fn 176) xs m) := apS_le fun _ => ap0_le fun _ => run_eq 400 rfl (by kernel_rfl) (by kernel_rfl)
noncomputable def g177_0 : List AV → CM := apS fun t0 => apS fun t5 => apS fun t6 => ap0 <|
CM.pu (p1 nnA t0) fun x0 =>
CM.pu (p1 (fun a => fieldAddrA Tryz.prog 183 a 0) x0) fun x1 =>
CM.rm (q1 (loadA Tryz.prog 33) x1 ) fun x2 =>
CM.pu (p1 (lenT Tryz.prog 33) x2) fun x3 =>
CM.pu (p1 nnA t0) fun x4 =>
CM.pu (p1 (fun a => fieldAddrA Tryz.prog 183 a 1) x4) fun x5 =>
CM.rm (q1 (loadA Tryz.prog 3) x5 ) fun x6 =>
CM.pu (p2 (binA Tryz.prog .sub 3) x3 x6) fun x7 =>
CM.pu (p1 (convA Tryz.prog 3 26) x7) fun x8 =>
CM.pu (p2 (binA Tryz.prog .lss 26) x8 t6) fun x9 =>
CM.cond x9 (
CM.pu (p1 nnA t0) fun x10 =>
CM.pu (p1 (fun a => fieldAddrA Tryz.prog 183 a 1) x10) fun x11 =>
CM.st (fun m => stV m x11 t5 1) <|
CM.call 92 [t0, (.int .i64 10)] fun _ =>
CM.ret (.sl none 0 0 0 true)) (
CM.go 724993 [t0, t6])
theorem g177_0_ok : LeD (real E Mk Nk) g177_0 (fun ts m => goR E Mk 724992 ts m) := apS_le fun _ => apS_le fun _ => apS_le fun _ => ap0_le fun _ => goR_eq 400 (by kernel_rfl)
noncomputable def g177_1 : List AV → CM := apS fun t0 => apS fun t6 => ap0 <|
CM.pu (p1 nnA t0) fun x0 =>
CM.pu (p1 (fun a => fieldAddrA Tryz.prog 183 a 1) x0) fun x1 =>
CM.rm (q1 (loadA Tryz.prog 3) x1 ) fun x2 =>
CM.pu (p1 (convA Tryz.prog 26 3) t6) fun x3 =>
CM.pu (p2 (binA Tryz.prog .add 3) x2 x3) fun x4 =>
CM.pu (p1 nnA t0) fun x5 =>
CM.pu (p1 (fun a => fieldAddrA Tryz.prog 183 a 1) x5) fun x6 =>
CM.st (fun m => stV m x6 x4 1) <|
CM.al (some (.cells [] false, sB 1 0)) fun x8 =>
CM.pu (p1 nnA t0) fun x9 =>
CM.pu (p1 (fun a => fieldAddrA Tryz.prog 183 a 0) x9) fun x10 =>
CM.rm (q1 (loadA Tryz.prog 33) x10 ) fun x11 =>
CM.pu (p1 nnA t0) fun x12 =>
CM.pu (p1 (fun a => fieldAddrA Tryz.prog 183 a 1) x12) fun x13 =>
CM.rm (q1 (loadA Tryz.prog 3) x13 ) fun x14 =>
CM.pu (p1 (convA Tryz.prog 26 3) t6) fun x15 =>
CM.pu (p2 (binA Tryz.prog .sub 3) x14 x15) fun x16 =>
CM.pu (p1 nnA t0) fun x17 =>
CM.pu (p1 (fun a => fieldAddrA Tryz.prog 183 a 1) x17) fun x18 =>
CM.rm (q1 (loadA Tryz.prog 3) x18 ) fun x19 =>
CM.pu (p3 (fun a l h => sliceA Tryz.prog 33 a (some l) (some h)) x11 x16 x19) fun x20 =>
CM.ef (apE 1 1 x8 x20) fun x22 =>
CM.ret x22
theorem g177_1_ok : LeD (real E Mk Nk) g177_1 (fun ts m => goR E Mk 724993 ts m) := apS_le fun _ => apS_le fun _ => ap0_le fun _ => goR_eq 400 (by kernel_rfl)
noncomputable def f177 : List AV → CM := apS fun a0 => apS fun a1 => ap0 <|
CM.pu (p1 nnA a0) fun x0 =>
CM.pu (p1 (fun a => fieldAddrA Tryz.prog 183 a 1) x0) fun x1 =>
CM.rm (q1 (loadA Tryz.prog 3) x1 ) fun x2 =>
CM.pu (p2 maxA a1 (.int .i64 0)) fun x3 =>
CM.pu (p1 (convA Tryz.prog 3 26) x3) fun x4 =>
CM.call 93 [a0, x4] fun x5 =>
CM.pu (p1 nnA a0) fun x6 =>
CM.pu (p1 (fun a => fieldAddrA Tryz.prog 183 a 2) x6) fun x7 =>
CM.rm (q1 (loadA Tryz.prog 23) x7 ) fun x8 =>
CM.pu (p2 (binA Tryz.prog .neq 23) x8 (.int .i64 0)) fun x9 =>
CM.cond x9 (
CM.ret (.sl none 0 0 0 true)) (
CM.go 724992 [a0, x2, x5])
theorem f177_ok : LeD (real E Mk Nk) f177 (fun xs m => run E (.fn 177) xs m) := apS_le fun _ => apS_le fun _ => ap0_le fun _ => run_eq 400 rfl (by kernel_rfl) (by kernel_rfl)
noncomputable def g178_0 : List AV → CM := apS fun t3 => apS fun t4 => ap0 <|
CM.pu (p2 (binA Tryz.prog .lss 3) t4 (.int .i64 32768)) fun x0 =>
CM.ifv x0 (
CM.call 44 [t3] fun x1 =>
CM.pu (p2 (binA Tryz.prog .eql 23) x1 (.int .i64 11)) fun x2 =>
CM.cond x2 (
CM.go 729089 [t3, t4]) (
CM.go 729091 [t3])) (
CM.go 729091 [t3])
theorem g178_0_ok : LeD (real E Mk Nk) g178_0 (fun ts m => goR E Mk 729088 ts m) := apS_le fun _ => apS_le fun _ => ap0_le fun _ => goR_eq 400 (by kernel_rfl)
noncomputable def g178_1 : List AV → CM := apS fun t3 => apS fun t4 => ap0 <|
CM.call 41 [t3, (.int .u8 255)] fun _ =>
CM.go 729090 [t3, t4]
theorem g178_1_ok : LeD (real E Mk Nk) g178_1 (fun ts m => goR E Mk 729089 ts m) := apS_le fun _ => apS_le fun _ => ap0_le fun _ => goR_eq 400 (by kernel_rfl)
noncomputable def g178_2 : List AV → CM := apS fun t3 => apS fun t4 => ap0 <|
CM.pu (p2 (binA Tryz.prog .add 3) t4 (.int .i64 1)) fun x0 =>
CM.go 729088 [t3, x0]
theorem g178_2_ok : LeD (real E Mk Nk) g178_2 (fun ts m => goR E Mk 729090 ts m) := apS_le fun _ => apS_le fun _ => ap0_le fun _ => goR_eq 400 (by kernel_rfl)
noncomputable def g178_3 : List AV → CM := apS fun t3 => ap0 <|
CM.call 44 [t3] fun x0 =>
CM.ret x0
theorem g178_3_ok : LeD (real E Mk Nk) g178_3 (fun ts m => goR E Mk 729091 ts m) := apS_le fun _ => ap0_le fun _ => goR_eq 400 (by kernel_rfl)
noncomputable def f178 : List AV → CM := apS fun a0 => ap0 <|
CM.pu (p1 nnA a0) fun x0 =>
CM.pu (p1 (fun a => fieldAddrA Tryz.prog 172 a 0) x0) fun x1 =>
CM.rm (q1 (loadA Tryz.prog 106) x1 ) fun x2 =>
CM.pu (p1 nnA x2) fun x3 =>
CM.rm (q1 (loadA Tryz.prog 183) x3 ) fun x4 =>
CM.al (some (.cells [(.sl none 0 0 0 true), (.int .i64 0), (.int .i64 0)] false, pB)) fun x5 =>
CM.st (fun m => stV m x5 x4 3) <|
CM.go 729088 [x5, (.int .i64 0)]
theorem f178_ok : LeD (real E Mk Nk) f178 (fun xs m => run E (.fn 178) xs m) := apS_le fun _ => ap0_le fun _ => run_eq 400 rfl (by kernel_rfl) (by kernel_rfl)
noncomputable def g179_0 : List AV → CM := apS fun t2 => apS fun t5 => ap0 <|
CM.rm (q1 (loadA Tryz.prog 46) t5 ) fun x0 =>
CM.st (fun m => stV m t2 x0 5) <|
CM.resC Tryz.prog [ResultVar.cell 0 46, ResultVar.tmp 1] [t2, (.int .i64 0)]
theorem g179_0_ok : LeD (real E Mk Nk) g179_0 (fun ts m => goR E Mk 733184 ts m) := apS_le fun _ => apS_le fun _ => ap0_le fun _ => goR_eq 400 (by kernel_rfl)
noncomputable def f179 : List AV → CM := apS fun a0 => ap0 <|
CM.al (some (.cells [(.int .i64 0), (.int .u64 0), (.int .i64 0), (.int .u64 0), (.int .i64 0)] false, pB)) fun x0 =>
CM.call 40 [a0] fun x1 =>
CM.al (some (.cells [(.int .i64 0), (.int .u64 0), (.int .i64 0), (.int .u64 0), (.int .i64 0)] false, pB)) fun x2 =>
CM.call 41 [x1, (.int .u8 99)] fun x3 =>
CM.pu (p1 (convA Tryz.prog 5 23) x3) fun x4 =>
CM.pu (p1 (fun a => fieldAddrA Tryz.prog 46 a 0) x2) fun x5 =>
CM.st (fun m => stV m x5 x4 1) <|
CM.call 93 [x1, (.int .u64 18446744073709551615)] fun x7 =>
CM.pu (p1 (fun a => fieldAddrA Tryz.prog 46 a 1) x2) fun x8 =>
CM.st (fun m => stV m x8 x7 1) <|
CM.call 94 [x1] fun x10 =>
CM.pu (p1 (fun a => fieldAddrA Tryz.prog 46 a 2) x2) fun x11 =>
CM.st (fun m => stV m x11 x10 3) <|
CM.call 44 [x1] fun x13 =>
CM.pu (p2 (binA Tryz.prog .neq 23) x13 (.int .i64 0)) fun x14 =>
CM.cond x14 (
CM.pu (p1 (buildA Tryz.prog 46) []) fun x15 =>
CM.st (fun m => stV m x0 x15 5) <|
CM.resC Tryz.prog [ResultVar.cell 0 46, ResultVar.tmp 1] [x0, x13]) (
CM.go 733184 [x0, x2])
theorem f179_ok : LeD (real E Mk Nk) f179 (fun xs m => run E (.fn 179) xs m) := apS_le fun _ => ap0_le fun _ => run_eq 400 rfl (by kernel_rfl) (by kernel_rfl)
noncomputable def f180 : List AV → CM := apS fun a0 => apS fun a1 => ap0 <|
CM.call 203 [a0] fun x0 =>
CM.ifv x0 (
CM.call 203 [a1] fun x1 =>
CM.pu (p1 (unA .not) x1) fun x2 =>
CM.ifv x2 (
CM.ret (.bool true)) (
CM.pu (p2 (binA Tryz.prog .lss 9) a0 a1) fun x3 =>
CM.ret x3)) (
CM.pu (p2 (binA Tryz.prog .lss 9) a0 a1) fun x4 =>
CM.ret x4)
theorem f180_ok : LeD (real E Mk Nk) f180 (fun xs m => run E (.fn 180) xs m) := apS_le fun _ => apS_le fun _ => ap0_le fun _ => run_eq 400 rfl (by kernel_rfl) (by kernel_rfl)
noncomputable def f181 : List AV → CM := apS fun a0 => ap0 <|
CM.pu (p2 (binA Tryz.prog .neq 9) a0 a0) fun x0 =>
CM.ret x0
theorem f181_ok : LeD (real E Mk Nk) f181 (fun xs m => run E (.fn 181) xs m) := apS_le fun _ => ap0_le fun _ => run_eq 400 rfl (by kernel_rfl) (by kernel_rfl)
noncomputable def f183 : List AV → CM := apS fun a0 => apS fun a1 => ap0 <|
CM.pu (p1 (lenT Tryz.prog 206) a0) fun x0 =>
CM.pu (p2 (binA Tryz.prog .sub 3) x0 a1) fun x1 =>
CM.call 204 [a0, x1] fun _ =>
CM.ret .undef
theorem f183_ok : LeD (real E Mk Nk) f183 (fun xs m => run E (.fn 183) xs m) := apS_le fun _ => apS_le fun _ => ap0_le fun _ => run_eq 400 rfl (by kernel_rfl) (by kernel_rfl)
noncomputable def f185 : List AV → CM := apS fun a0 => apS fun a1 => ap0 <|
CM.pu (p1 (lenT Tryz.prog 89) a0) fun x0 =>
CM.pu (p2 (binA Tryz.prog .sub 3) x0 a1) fun x1 =>
CM.call 205 [a0, x1] fun _ =>
CM.ret .undef
theorem f185_ok : LeD (real E Mk Nk) f185 (fun xs m => run E (.fn 185) xs m) := apS_le fun _ => apS_le fun _ => ap0_le fun _ => run_eq 400 rfl (by kernel_rfl) (by kernel_rfl)
noncomputable def f187 : List AV → CM := apS fun a0 => apS fun a1 => ap0 <|
CM.pu (p1 (lenT Tryz.prog 90) a0) fun x0 =>
CM.pu (p2 (binA Tryz.prog .sub 3) x0 a1) fun x1 =>
CM.call 206 [a0, x1] fun _ =>
CM.ret .undef
theorem f187_ok : LeD (real E Mk Nk) f187 (fun xs m => run E (.fn 187) xs m) := apS_le fun _ => apS_le fun _ => ap0_le fun _ => run_eq 400 rfl (by kernel_rfl) (by kernel_rfl)
noncomputable def f188 : List AV → CM := apS fun a0 => apS fun a1 => ap0 <|
CM.call 207 [a0] fun x0 =>
CM.ifv x0 (
CM.call 207 [a1] fun x1 =>
CM.pu (p1 (unA .not) x1) fun x2 =>
CM.ifv x2 (
CM.ret (.bool true)) (
CM.pu (p2 (binA Tryz.prog .lss 26) a0 a1) fun x3 =>
CM.ret x3)) (
CM.pu (p2 (binA Tryz.prog .lss 26) a0 a1) fun x4 =>
CM.ret x4)
theorem f188_ok : LeD (real E Mk Nk) f188 (fun xs m => run E (.fn 188) xs m) := apS_le fun _ => apS_le fun _ => ap0_le fun _ => run_eq 400 rfl (by kernel_rfl) (by kernel_rfl)
noncomputable def f189 : List AV → CM := apS fun a0 => ap0 <|
CM.pu (p2 (binA Tryz.prog .neq 26) a0 a0) fun x0 =>
CM.ret x0
theorem f189_ok : LeD (real E Mk Nk) f189 (fun xs m => run E (.fn 189) xs m) := apS_le fun _ => ap0_le fun _ => run_eq 400 rfl (by kernel_rfl) (by kernel_rfl)
noncomputable def f191 : List AV → CM := apS fun a0 => apS fun a1 => ap0 <|
CM.pu (p1 (lenT Tryz.prog 116) a0) fun x0 =>
CM.pu (p2 (binA Tryz.prog .sub 3) x0 a1) fun x1 =>
CM.call 208 [a0, x1] fun _ =>
CM.ret .undef
theorem f191_ok : LeD (real E Mk Nk) f191 (fun xs m => run E (.fn 191) xs m) := apS_le fun _ => apS_le fun _ => ap0_le fun _ => run_eq 400 rfl (by kernel_rfl) (by kernel_rfl)
noncomputable def f193 : List AV → CM := apS fun a0 => apS fun a1 => ap0 <|
CM.pu (p1 (lenT Tryz.prog 91) a0) fun x0 =>
CM.pu (p2 (binA Tryz.prog .sub 3) x0 a1) fun x1 =>
CM.call 209 [a0, x1] fun _ =>
CM.ret .undef
theorem f193_ok : LeD (real E Mk Nk) f193 (fun xs m => run E (.fn 193) xs m) := apS_le fun _ => apS_le fun _ => ap0_le fun _ => run_eq 400 rfl (by kernel_rfl) (by kernel_rfl)
noncomputable def f195 : List AV → CM := apS fun a0 => apS fun a1 => ap0 <|
CM.pu (p1 (lenT Tryz.prog 95) a0) fun x0 =>
CM.pu (p2 (binA Tryz.prog .sub 3) x0 a1) fun x1 =>
CM.call 210 [a0, x1] fun _ =>
CM.ret .undef
theorem f195_ok : LeD (real E Mk Nk) f195 (fun xs m => run E (.fn 195) xs m) := apS_le fun _ => apS_le fun _ => ap0_le fun _ => run_eq 400 rfl (by kernel_rfl) (by kernel_rfl)
noncomputable def g196_0 : List AV → CM := apS fun t0 => apS fun t4 => apS fun t6 => ap0 <|
CM.pu (p1 nnA t0) fun x0 =>
CM.pu (p1 (fun a => fieldAddrA Tryz.prog 212 a 1) x0) fun x1 =>
CM.rm (q1 (loadA Tryz.prog 91) x1 ) fun x2 =>
CM.pu (p2 (indexAddrA Tryz.prog 91) x2 t6) fun x3 =>
CM.rm (q1 (loadA Tryz.prog 140) x3 ) fun x4 =>
CM.st (fun m => stV m t4 x4 4) <|
CM.resC Tryz.prog [ResultVar.cell 0 140, ResultVar.tmp 1] [t4, (.bool true)]
theorem g196_0_ok : LeD (real E Mk Nk) g196_0 (fun ts m => goR E Mk 802816 ts m) := apS_le fun _ => apS_le fun _ => apS_le fun _ => ap0_le fun _ => goR_eq 400 (by kernel_rfl)
noncomputable def f196 : List AV → CM := apS fun a0 => apS fun a1 => ap0 <|
CM.al (some (.cells [(.int .u64 0), (.str []), (.int .i64 0), (.int .u64 0)] false, pB)) fun x0 =>
CM.pu (p1 nnA a0) fun x1 =>
CM.pu (p1 (fun a => fieldAddrA Tryz.prog 212 a 0) x1) fun x2 =>
CM.rm (q1 (loadA Tryz.prog 116) x2 ) fun x3 =>
CM.call 136 [x3, a1] fun x4 =>
CM.pu (p1 (fun a => extractA a 0) x4) fun x5 =>
CM.pu (p1 (fun a => extractA a 1) x4) fun x6 =>
CM.pu (p1 (unA .not) x6) fun x7 =>
CM.cond x7 (
CM.al (some (.cells [(.int .u64 0), (.str []), (.int .i64 0), (.int .u64 0)] false, pB)) fun x8 =>
CM.rm (q1 (loadA Tryz.prog 140) x8 ) fun x9 =>
CM.st (fun m => stV m x0 x9 4) <|
CM.resC Tryz.prog [ResultVar.cell 0 140, ResultVar.tmp 1] [x0, (.bool false)]) (
CM.go 802816 [a0, x0, x5])
theorem f196_ok : LeD (real E Mk Nk) f196 (fun xs m => run E (.fn 196) xs m) := apS_le fun _ => apS_le fun _ => ap0_le fun _ => run_eq 400 rfl (by kernel_rfl) (by kernel_rfl)
noncomputable def g197_0 : List AV → CM := apS fun t4 => apS fun t6 => apS fun t8 => ap0 <|
CM.pu (p1 (convA Tryz.prog 26 2) t8) fun x0 =>
CM.pu (p1 (buildA Tryz.prog 36) [(0, x0), (1, t6)]) fun x1 =>
CM.st (fun m => stV m t4 x1 2) <|
CM.resC Tryz.prog [ResultVar.cell 0 36, ResultVar.tmp 1] [t4, (.int .i64 0)]
theorem g197_0_ok : LeD (real E Mk Nk) g197_0 (fun ts m => goR E Mk 806912 ts m) := apS_le fun _ => apS_le fun _ => apS_le fun _ => ap0_le fun _ => goR_eq 400 (by kernel_rfl)
noncomputable def f197 : List AV → CM := apS fun a0 => apS fun a1 => ap0 <|
CM.al (boxA a0) fun x0 =>
CM.al (boxA a1) fun x1 =>
CM.al (some (.cells [(.int .i64 0), (.int .u64 0)] false, pB)) fun x2 =>
CM.pu (p1 (fun a => fieldAddrA Tryz.prog 36 a 1) x0) fun x3 =>
CM.rm (q1 (loadA Tryz.prog 26) x3 ) fun x4 =>
CM.pu (p1 (fun a => fieldAddrA Tryz.prog 36 a 1) x1) fun x5 =>
CM.rm (q1 (loadA Tryz.prog 26) x5 ) fun x6 =>
CM.call 211 [x4, x6, (.int .u64 0)] fun x7 =>
CM.pu (p1 (fun a => extractA a 0) x7) fun x8 =>
CM.pu (p1 (fun a => extractA a 1) x7) fun x9 =>
CM.pu (p1 (fun a => fieldAddrA Tryz.prog 36 a 0) x0) fun x10 =>
CM.rm (q1 (loadA Tryz.prog 2) x10 ) fun x11 =>
CM.pu (p1 (convA Tryz.prog 2 26) x11) fun x12 =>
CM.pu (p1 (fun a => fieldAddrA Tryz.prog 36 a 0) x1) fun x13 =>
CM.rm (q1 (loadA Tryz.prog 2) x13 ) fun x14 =>
CM.pu (p1 (convA Tryz.prog 2 26) x14) fun x15 =>
CM.call 211 [x12, x15, x9] fun x16 =>
CM.pu (p1 (fun a => extractA a 0) x16) fun x17 =>
CM.pu (p1 (fun a => extractA a 1) x16) fun _ =>
CM.pu (p1 (fun a => fieldAddrA Tryz.prog 36 a 0) x0) fun x19 =>
CM.rm (q1 (loadA Tryz.prog 2) x19 ) fun x20 =>
CM.pu (p2 (binA Tryz.prog .lss 2) x20 (.int .i64 0)) fun x21 =>
CM.pu (p1 (fun a => fieldAddrA Tryz.prog 36 a 0) x1) fun x22 =>
CM.rm (q1 (loadA Tryz.prog 2) x22 ) fun x23 =>
CM.pu (p2 (binA Tryz.prog .lss 2) x23 (.int .i64 0)) fun x24 =>
CM.pu (p2 (binA Tryz.prog .neq 4) x21 x24) fun x25 =>
CM.ifv x25 (
CM.pu (p1 (convA Tryz.prog 26 2) x17) fun x26 =>
CM.pu (p2 (binA Tryz.prog .lss 2) x26 (.int .i64 0)) fun x27 =>
CM.pu (p1 (fun a => fieldAddrA Tryz.prog 36 a 0) x0) fun x28 =>
CM.rm (q1 (loadA Tryz.prog 2) x28 ) fun x29 =>
CM.pu (p2 (binA Tryz.prog .lss 2) x29 (.int .i64 0)) fun x30 =>
CM.pu (p2 (binA Tryz.prog .neq 4) x27 x30) fun x31 =>
CM.cond x31 (
CM.pu (p1 (buildA Tryz.prog 36) []) fun x32 =>
CM.st (fun m => stV m x2 x32 2) <|
CM.resC Tryz.prog [ResultVar.cell 0 36, ResultVar.tmp 1] [x2, (.int .i64 20)]) (
CM.go 806912 [x2, x8, x17])) (
CM.go 806912 [x2, x8, x17])
theorem f197_ok : LeD (real E Mk Nk) f197 (fun xs m => run E (.fn 197) xs m) := apS_le fun _ => apS_le fun _ => ap0_le fun _ => run_eq 400 rfl (by kernel_rfl) (by kernel_rfl)
noncomputable def g198_0 : List AV → CM := apS fun t4 => apS fun t6 => apS fun t8 => ap0 <|
CM.pu (p1 (convA Tryz.prog 26 2) t8) fun x0 =>
CM.pu (p1 (buildA Tryz.prog 36) [(0, x0), (1, t6)]) fun x1 =>
CM.st (fun m => stV m t4 x1 2) <|
CM.resC Tryz.prog [ResultVar.cell 0 36, ResultVar.tmp 1] [t4, (.int .i64 0)]
theorem g198_0_ok : LeD (real E Mk Nk) g198_0 (fun ts m => goR E Mk 811008 ts m) := apS_le fun _ => apS_le fun _ => apS_le fun _ => ap0_le fun _ => goR_eq 400 (by kernel_rfl)
noncomputable def f198 : List AV → CM := apS fun a0 => apS fun a1 => ap0 <|
CM.al (boxA a0) fun x0 =>
CM.al (boxA a1) fun x1 =>
CM.al (some (.cells [(.int .i64 0), (.int .u64 0)] false, pB)) fun x2 =>
CM.pu (p1 (fun a => fieldAddrA Tryz.prog 36 a 1) x0) fun x3 =>
CM.rm (q1 (loadA Tryz.prog 26) x3 ) fun x4 =>
CM.pu (p1 (fun a => fieldAddrA Tryz.prog 36 a 1) x1) fun x5 =>
CM.rm (q1 (loadA Tryz.prog 26) x5 ) fun x6 =>
CM.call 212 [x4, x6, (.int .u64 0)] fun x7 =>
CM.pu (p1 (fun a => extractA a 0) x7) fun x8 =>
CM.pu (p1 (fun a => extractA a 1) x7) fun x9 =>
CM.pu (p1 (fun a => fieldAddrA Tryz.prog 36 a 0) x0) fun x10 =>
CM.rm (q1 (loadA Tryz.prog 2) x10 ) fun x11 =>
CM.pu (p1 (convA Tryz.prog 2 26) x11) fun x12 =>
CM.pu (p1 (fun a => fieldAddrA Tryz.prog 36 a 0) x1) fun x13 =>
CM.rm (q1 (loadA Tryz.prog 2) x13 ) fun x14 =>
CM.pu (p1 (convA Tryz.prog 2 26) x14) fun x15 =>
CM.call 212 [x12, x15, x9] fun x16 =>
CM.pu (p1 (fun a => extractA a 0) x16) fun x17 =>
CM.pu (p1 (fun a => extractA a 1) x16) fun _ =>
CM.pu (p1 (fun a => fieldAddrA Tryz.prog 36 a 0) x0) fun x19 =>
CM.rm (q1 (loadA Tryz.prog 2) x19 ) fun x20 =>
CM.pu (p2 (binA Tryz.prog .lss 2) x20 (.int .i64 0)) fun x21 =>
CM.pu (p1 (fun a => fieldAddrA Tryz.prog 36 a 0) x1) fun x22 =>
CM.rm (q1 (loadA Tryz.prog 2) x22 ) fun x23 =>
CM.pu (p2 (binA Tryz.prog .lss 2) x23 (.int .i64 0)) fun x24 =>
CM.pu (p2 (binA Tryz.prog .eql 4) x21 x24) fun x25 =>
CM.ifv x25 (
CM.pu (p1 (convA Tryz.prog 26 2) x17) fun x26 =>
CM.pu (p2 (binA Tryz.prog .lss 2) x26 (.int .i64 0)) fun x27 =>
CM.pu (p1 (fun a => fieldAddrA Tryz.prog 36 a 0) x0) fun x28 =>
CM.rm (q1 (loadA Tryz.prog 2) x28 ) fun x29 =>
CM.pu (p2 (binA Tryz.prog .lss 2) x29 (.int .i64 0)) fun x30 =>
CM.pu (p2 (binA Tryz.prog .neq 4) x27 x30) fun x31 =>
CM.cond x31 (
CM.pu (p1 (buildA Tryz.prog 36) []) fun x32 =>
CM.st (fun m => stV m x2 x32 2) <|
CM.resC Tryz.prog [ResultVar.cell 0 36, ResultVar.tmp 1] [x2, (.int .i64 20)]) (
CM.go 811008 [x2, x8, x17])) (
CM.go 811008 [x2, x8, x17])
theorem f198_ok : LeD (real E Mk Nk) f198 (fun xs m => run E (.fn 198) xs m) := apS_le fun _ => apS_le fun _ => ap0_le fun _ => run_eq 400 rfl (by kernel_rfl) (by kernel_rfl)
noncomputable def g199_0 : List AV → CM := ap0 <|
CM.ret (.int .i64 1)
theorem g199_0_ok : LeD (real E Mk Nk) g199_0 (fun ts m => goR E Mk 815104 ts m) := ap0_le fun _ => goR_eq 400 (by kernel_rfl)
noncomputable def f199 : List AV → CM := apS fun a0 => apS fun a1 => ap0 <|
CM.al (boxA a0) fun x0 =>
CM.al (boxA a1) fun x1 =>
CM.pu (p1 (fun a => fieldAddrA Tryz.prog 36 a 0) x0) fun x2 =>
CM.rm (q1 (loadA Tryz.prog 2) x2 ) fun x3 =>
CM.pu (p1 (fun a => fieldAddrA Tryz.prog 36 a 0) x1) fun x4 =>
CM.rm (q1 (loadA Tryz.prog 2) x4 ) fun x5 =>
CM.pu (p2 (binA Tryz.prog .lss 2) x3 x5) fun x6 =>
CM.ifv x6 (
CM.ret (.int .i64 (-1))) (
CM.pu (p1 (fun a => fieldAddrA Tryz.prog 36 a 0) x0) fun x7 =>
CM.rm (q1 (loadA Tryz.prog 2) x7 ) fun x8 =>
CM.pu (p1 (fun a => fieldAddrA Tryz.prog 36 a 0) x1) fun x9 =>
CM.rm (q1 (loadA Tryz.prog 2) x9 ) fun x10 =>
CM.pu (p2 (binA Tryz.prog .eql 2) x8 x10) fun x11 =>
CM.ifv x11 (
CM.pu (p1 (fun a => fieldAddrA Tryz.prog 36 a 1) x0) fun x12 =>
CM.rm (q1 (loadA Tryz.prog 26) x12 ) fun x13 =>
CM.pu (p1 (fun a => fieldAddrA Tryz.prog 36 a 1) x1) fun x14 =>
CM.rm (q1 (loadA Tryz.prog 26) x14 ) fun x15 =>
CM.pu (p2 (binA Tryz.prog .lss 26) x13 x15) fun x16 =>
CM.cond x16 (
CM.ret (.int .i64 (-1))) (
CM.rm (q1 (loadA Tryz.prog 36) x0 ) fun x17 =>
CM.rm (q1 (loadA Tryz.prog 36) x1 ) fun x18 =>
CM.pu (p2 (binA Tryz.prog .eql 36) x17 x18) fun x19 =>
CM.cond x19 (
CM.ret (.int .i64 0)) (
CM.go 815104 []))) (
CM.rm (q1 (loadA Tryz.prog 36) x0 ) fun x20 =>
CM.rm (q1 (loadA Tryz.prog 36) x1 ) fun x21 =>
CM.pu (p2 (binA Tryz.prog .eql 36) x20 x21) fun x22 =>
CM.cond x22 (
CM.ret (.int .i64 0)) (
CM.go 815104 [])))
theorem f199_ok : LeD (real E Mk Nk) f199 (fun xs m => run E (.fn 199) xs m) := apS_le fun _ => apS_le fun _ => ap0_le fun _ => run_eq 400 rfl (by kernel_rfl) (by kernel_rfl)
noncomputable def f200 : List AV → CM := apS fun a0 => ap0 <|
CM.al (boxA a0) fun x0 =>
CM.rm (q1 (loadA Tryz.prog 38) x0 ) fun x1 =>
CM.pu (p1 (buildA Tryz.prog 38) []) fun x2 =>
CM.call 213 [x1, x2] fun x3 =>
CM.pu (p1 (fun a => extractA a 0) x3) fun x4 =>
CM.pu (p1 (fun a => extractA a 1) x3) fun x5 =>
CM.pu (p2 (binA Tryz.prog .eql 23) x5 (.int .i64 0)) fun x6 =>
CM.ifv x6 (
CM.pu (p2 (binA Tryz.prog .gtr 3) x4 (.int .i64 0)) fun x7 =>
CM.ret x7) (
CM.ret (.bool false))
theorem f200_ok : LeD (real E Mk Nk) f200 (fun xs m => run E (.fn 200) xs m) := apS_le fun _ => ap0_le fun _ => run_eq 400 rfl (by kernel_rfl) (by kernel_rfl)
noncomputable def g201_0 : List AV → CM := apS fun t2 => apS fun t3 => apS fun t4 => apS fun t6 => ap0 <|
CM.pu (p1 (fun a => fieldAddrA Tryz.prog 38 a 1) t3) fun x0 =>
CM.rm (q1 (loadA Tryz.prog 3) x0 ) fun x1 =>
CM.pu (p1 (fun a => fieldAddrA Tryz.prog 38 a 1) t4) fun x2 =>
CM.rm (q1 (loadA Tryz.prog 3) x2 ) fun x3 =>
CM.pu (p2 (binA Tryz.prog .add 3) x1 x3) fun x4 =>
CM.pu (p2 (binA Tryz.prog .sub 3) x4 t2) fun x5 =>
CM.al (some (.cells [(.int .i64 0), (.int .u64 0)] false, pB)) fun x6 =>
CM.pu (p2 (binA Tryz.prog .geq 3) x5 (.int .i64 0)) fun x7 =>
CM.cond x7 (
CM.pu (p1 (fun a => fieldAddrA Tryz.prog 38 a 0) t3) fun x8 =>
CM.rm (q1 (loadA Tryz.prog 36) x8 ) fun x9 =>
CM.pu (p1 (fun a => fieldAddrA Tryz.prog 38 a 0) t4) fun x10 =>
CM.rm (q1 (loadA Tryz.prog 36) x10 ) fun x11 =>
CM.call 214 [x9, x11, x5] fun x12 =>
CM.pu (p1 (fun a => extractA a 0) x12) fun x13 =>
CM.pu (p1 (fun a => extractA a 1) x12) fun x14 =>
CM.st (fun m => stV m x6 x13 2) <|
CM.go 823297 [t2, t6, x6, x14]) (
CM.pu (p1 (fun a => fieldAddrA Tryz.prog 38 a 0) t3) fun x16 =>
CM.rm (q1 (loadA Tryz.prog 36) x16 ) fun x17 =>
CM.pu (p1 (fun a => fieldAddrA Tryz.prog 38 a 0) t4) fun x18 =>
CM.rm (q1 (loadA Tryz.prog 36) x18 ) fun x19 =>
CM.call 215 [x17, x19] fun x20 =>
CM.pu (p1 (fun a => extractA a 0) x20) fun x21 =>
CM.pu (p1 (fun a => extractA a 1) x20) fun x22 =>
CM.st (fun m => stV m x6 x21 2) <|
CM.pu (p2 (binA Tryz.prog .eql 23) x22 (.int .i64 0)) fun x24 =>
CM.cond x24 (
CM.rm (q1 (loadA Tryz.prog 36) x6 ) fun x25 =>
CM.pu (p1 (unA .neg) x5) fun x26 =>
CM.call 216 [x25, x26] fun x27 =>
CM.pu (p1 (fun a => extractA a 0) x27) fun x28 =>
CM.pu (p1 (fun a => extractA a 1) x27) fun x29 =>
CM.st (fun m => stV m x6 x28 2) <|
CM.go 823297 [t2, t6, x6, x29]) (
CM.go 823297 [t2, t6, x6, x22]))
theorem g201_0_ok : LeD (real E Mk Nk) g201_0 (fun ts m => goR E Mk 823296 ts m) := apS_le fun _ => apS_le fun _ => apS_le fun _ => apS_le fun _ => ap0_le fun _ => goR_eq 400 (by kernel_rfl)
noncomputable def g201_1 : List AV → CM := apS fun t2 => apS fun t6 => apS fun t9 => apS fun t10 => ap0 <|
CM.pu (p2 (binA Tryz.prog .neq 23) t10 (.int .i64 0)) fun x0 =>
CM.cond x0 (
CM.pu (p1 (buildA Tryz.prog 38) []) fun x1 =>
CM.st (fun m => stV m t6 x1 3) <|
CM.resC Tryz.prog [ResultVar.cell 0 38, ResultVar.tmp 1] [t6, t10]) (
CM.go 823298 [t2, t6, t9])
theorem g201_1_ok : LeD (real E Mk Nk) g201_1 (fun ts m => goR E Mk 823297 ts m) := apS_le fun _ => apS_le fun _ => apS_le fun _ => apS_le fun _ => ap0_le fun _ => goR_eq 400 (by kernel_rfl)
noncomputable def g201_2 : List AV → CM := apS fun t2 => apS fun t6 => apS fun t9 => ap0 <|
CM.rm (q1 (loadA Tryz.prog 36) t9 ) fun x0 =>
CM.pu (p1 (buildA Tryz.prog 38) [(0, x0), (1, t2)]) fun x1 =>
CM.st (fun m => stV m t6 x1 3) <|
CM.resC Tryz.prog [ResultVar.cell 0 38, ResultVar.tmp 1] [t6, (.int .i64 0)]
theorem g201_2_ok : LeD (real E Mk Nk) g201_2 (fun ts m => goR E Mk 823298 ts m) := apS_le fun _ => apS_le fun _ => apS_le fun _ => ap0_le fun _ => goR_eq 400 (by kernel_rfl)
noncomputable def f201 : List AV → CM := apS fun a0 => apS fun a1 => apS fun a2 => ap0 <|
CM.al (boxA a0) fun x0 =>
CM.al (boxA a1) fun x1 =>
CM.al (some (.cells [(.int .i64 0), (.int .u64 0), (.int .i64 0)] false, pB)) fun x2 =>
CM.rm (q1 (loadA Tryz.prog 38) x0 ) fun x3 =>
CM.call 118 [x3] fun x4 =>
CM.pu (p1 (unA .not) x4) fun x5 =>
CM.ifv x5 (
CM.pu (p1 (buildA Tryz.prog 38) []) fun x6 =>
CM.st (fun m => stV m x2 x6 3) <|
CM.resC Tryz.prog [ResultVar.cell 0 38, ResultVar.tmp 1] [x2, (.int .i64 21)]) (
CM.rm (q1 (loadA Tryz.prog 38) x1 ) fun x8 =>
CM.call 118 [x8] fun x9 =>
CM.pu (p1 (unA .not) x9) fun x10 =>
CM.ifv x10 (
CM.pu (p1 (buildA Tryz.prog 38) []) fun x11 =>
CM.st (fun m => stV m x2 x11 3) <|
CM.resC Tryz.prog [ResultVar.cell 0 38, ResultVar.tmp 1] [x2, (.int .i64 21)]) (
CM.call 164 [a2] fun x13 =>
CM.pu (p1 (unA .not) x13) fun x14 =>
CM.cond x14 (
CM.pu (p1 (buildA Tryz.prog 38) []) fun x15 =>
CM.st (fun m => stV m x2 x15 3) <|
CM.resC Tryz.prog [ResultVar.cell 0 38, ResultVar.tmp 1] [x2, (.int .i64 21)]) (
CM.go 823296 [a2, x0, x1, x2])))
theorem f201_ok : LeD (real E Mk Nk) f201 (fun xs m => run E (.fn 201) xs m) := apS_le fun _ => apS_le fun _ => apS_le fun _ => ap0_le fun _ => run_eq 400 rfl (by kernel_rfl) (by kernel_rfl)
noncomputable def f202 : List AV → CM := apS fun a0 => ap0 <|
CM.al (some (.cells [(.int .i64 0), (.int .u64 0)] false, pB)) fun x0 =>
CM.pu (p2 (binA Tryz.prog .shr 2) a0 (.int .u64 63)) fun x1 =>
CM.pu (p1 (convA Tryz.prog 2 26) a0) fun x2 =>
CM.pu (p1 (buildA Tryz.prog 36) [(0, x1), (1, x2)]) fun x3 =>
CM.st (fun m => stV m x0 x3 2) <|
CM.resC Tryz.prog [ResultVar.cell 0 36] [x0]
theorem f202_ok : LeD (real E Mk Nk) f202 (fun xs m => run E (.fn 202) xs m) := apS_le fun _ => ap0_le fun _ => run_eq 400 rfl (by kernel_rfl) (by kernel_rfl)
noncomputable def f203 : List AV → CM := apS fun a0 => ap0 <|
CM.pu (p2 (binA Tryz.prog .neq 9) a0 a0) fun x0 =>
CM.ret x0
theorem f203_ok : LeD (real E Mk Nk) f203 (fun xs m => run E (.fn 203) xs m) := apS_le fun _ => ap0_le fun _ => run_eq 400 rfl (by kernel_rfl) (by kernel_rfl)
noncomputable def f204 : List AV → CM := apS fun a0 => apS fun a1 => ap0 <|
CM.pu (p2 (fun a h => sliceA Tryz.prog 206 a none (some h)) a0 a1) fun x0 =>
CM.call 217 [x0] fun _ =>
CM.pu (p2 (fun a l => sliceA Tryz.prog 206 a (some l) none) a0 a1) fun x2 =>
CM.call 217 [x2] fun _ =>
CM.call 217 [a0] fun _ =>
CM.ret .undef
theorem f204_ok : LeD (real E Mk Nk) f204 (fun xs m => run E (.fn 204) xs m) := apS_le fun _ => apS_le fun _ => ap0_le fun _ => run_eq 400 rfl (by kernel_rfl) (by kernel_rfl)
noncomputable def f205 : List AV → CM := apS fun a0 => apS fun a1 => ap0 <|
CM.pu (p2 (fun a h => sliceA Tryz.prog 89 a none (some h)) a0 a1) fun x0 =>
CM.call 218 [x0] fun _ =>
CM.pu (p2 (fun a l => sliceA Tryz.prog 89 a (some l) none) a0 a1) fun x2 =>
CM.call 218 [x2] fun _ =>
CM.call 218 [a0] fun _ =>
CM.ret .undef
theorem f205_ok : LeD (real E Mk Nk) f205 (fun xs m => run E (.fn 205) xs m) := apS_le fun _ => apS_le fun _ => ap0_le fun _ => run_eq 400 rfl (by kernel_rfl) (by kernel_rfl)
noncomputable def f206 : List AV → CM := apS fun a0 => apS fun a1 => ap0 <|
CM.pu (p2 (fun a h => sliceA Tryz.prog 90 a none (some h)) a0 a1) fun x0 =>
CM.call 219 [x0] fun _ =>
CM.pu (p2 (fun a l => sliceA Tryz.prog 90 a (some l) none) a0 a1) fun x2 =>
CM.call 219 [x2] fun _ =>
CM.call 219 [a0] fun _ =>
CM.ret .undef
theorem f206_ok : LeD (real E Mk Nk) f206 (fun xs m => run E (.fn 206) xs m) := apS_le fun _ => apS_le fun _ => ap0_le fun _ => run_eq 400 rfl (by kernel_rfl) (by kernel_rfl)
noncomputable def f207 : List AV → CM := apS fun a0 => ap0 <|
CM.pu (p2 (binA Tryz.prog .neq 26) a0 a0) fun x0 =>
CM.ret x0
theorem f207_ok : LeD (real E Mk Nk) f207 (fun xs m => run E (.fn 207) xs m) := apS_le fun _ => ap0_le fun _ => run_eq 400 rfl (by kernel_rfl) (by kernel_rfl)
noncomputable def f208 : List AV → CM := apS fun a0 => apS fun a1 => ap0 <|
CM.pu (p2 (fun a h => sliceA Tryz.prog 116 a none (some h)) a0 a1) fun x0 =>
CM.call 220 [x0] fun _ =>
CM.pu (p2 (fun a l => sliceA Tryz.prog 116 a (some l) none) a0 a1) fun x2 =>
CM.call 220 [x2] fun _ =>
CM.call 220 [a0] fun _ =>
CM.ret .undef
theorem f208_ok : LeD (real E Mk Nk) f208 (fun xs m => run E (.fn 208) xs m) := apS_le fun _ => apS_le fun _ => ap0_le fun _ => run_eq 400 rfl (by kernel_rfl) (by kernel_rfl)
noncomputable def f209 : List AV → CM := apS fun a0 => apS fun a1 => ap0 <|
CM.pu (p2 (fun a h => sliceA Tryz.prog 91 a none (some h)) a0 a1) fun x0 =>
CM.call 221 [x0] fun _ =>
CM.pu (p2 (fun a l => sliceA Tryz.prog 91 a (some l) none) a0 a1) fun x2 =>
CM.call 221 [x2] fun _ =>
CM.call 221 [a0] fun _ =>
CM.ret .undef
theorem f209_ok : LeD (real E Mk Nk) f209 (fun xs m => run E (.fn 209) xs m) := apS_le fun _ => apS_le fun _ => ap0_le fun _ => run_eq 400 rfl (by kernel_rfl) (by kernel_rfl)
noncomputable def f210 : List AV → CM := apS fun a0 => apS fun a1 => ap0 <|
CM.pu (p2 (fun a h => sliceA Tryz.prog 95 a none (some h)) a0 a1) fun x0 =>
CM.call 222 [x0] fun _ =>
CM.pu (p2 (fun a l => sliceA Tryz.prog 95 a (some l) none) a0 a1) fun x2 =>
CM.call 222 [x2] fun _ =>
CM.call 222 [a0] fun _ =>
CM.ret .undef
theorem f210_ok : LeD (real E Mk Nk) f210 (fun xs m => run E (.fn 210) xs m) := apS_le fun _ => apS_le fun _ => ap0_le fun _ => run_eq 400 rfl (by kernel_rfl) (by kernel_rfl)
noncomputable def g213_0 : List AV → CM := apS fun t2 => apS fun t3 => ap0 <|
CM.pu (p1 (fun a => fieldAddrA Tryz.prog 38 a 1) t2) fun x0 =>
CM.rm (q1 (loadA Tryz.prog 3) x0 ) fun x1 =>
CM.pu (p1 (fun a => fieldAddrA Tryz.prog 38 a 1) t3) fun x2 =>
CM.rm (q1 (loadA Tryz.prog 3) x2 ) fun x3 =>
CM.pu (p2 (binA Tryz.prog .lss 3) x1 x3) fun x4 =>
CM.cond x4 (
CM.rm (q1 (loadA Tryz.prog 38) t3 ) fun x5 =>
CM.rm (q1 (loadA Tryz.prog 38) t2 ) fun x6 =>
CM.call 223 [x5, x6] fun x7 =>
CM.pu (p1 (unA .neg) x7) fun x8 =>
CM.ret (.tup [x8, (.int .i64 0)])) (
CM.go 872449 [t2, t3])
theorem g213_0_ok : LeD (real E Mk Nk) g213_0 (fun ts m => goR E Mk 872448 ts m) := apS_le fun _ => apS_le fun _ => ap0_le fun _ => goR_eq 400 (by kernel_rfl)
noncomputable def g213_1 : List AV → CM := apS fun t2 => apS fun t3 => ap0 <|
CM.rm (q1 (loadA Tryz.prog 38) t2 ) fun x0 =>
CM.rm (q1 (loadA Tryz.prog 38) t3 ) fun x1 =>
CM.call 223 [x0, x1] fun x2 =>
CM.ret (.tup [x2, (.int .i64 0)])
theorem g213_1_ok : LeD (real E Mk Nk) g213_1 (fun ts m => goR E Mk 872449 ts m) := apS_le fun _ => apS_le fun _ => ap0_le fun _ => goR_eq 400 (by kernel_rfl)
noncomputable def f213 : List AV → CM := apS fun a0 => apS fun a1 => ap0 <|
CM.al (boxA a0) fun x0 =>
CM.al (boxA a1) fun x1 =>
CM.rm (q1 (loadA Tryz.prog 38) x0 ) fun x2 =>
CM.call 118 [x2] fun x3 =>
CM.pu (p1 (unA .not) x3) fun x4 =>
CM.ifv x4 (
CM.ret (.tup [(.int .i64 0), (.int .i64 21)])) (
CM.rm (q1 (loadA Tryz.prog 38) x1 ) fun x5 =>
CM.call 118 [x5] fun x6 =>
CM.pu (p1 (unA .not) x6) fun x7 =>
CM.cond x7 (
CM.ret (.tup [(.int .i64 0), (.int .i64 21)])) (
CM.go 872448 [x0, x1]))
theorem f213_ok : LeD (real E Mk Nk) f213 (fun xs m => run E (.fn 213) xs m) := apS_le fun _ => apS_le fun _ => ap0_le fun _ => run_eq 400 rfl (by kernel_rfl) (by kernel_rfl)
noncomputable def g214_0 : List AV → CM := apS fun t2 => apS fun t3 => apS fun t4 => apS fun t6 => ap0 <|
CM.pu (p2 minA t2 (.int .i64 18)) fun x0 =>
CM.rm (q1 (loadA Tryz.prog 36) t3 ) fun x1 =>
CM.rm (q1 (loadA Tryz.prog 36) t4 ) fun x2 =>
CM.call 225 [x1, x2] fun x3 =>
CM.call 226 [x0] fun x4 =>
CM.call 224 [x3, x4] fun x5 =>
CM.pu (p1 (fun a => extractA a 0) x5) fun x6 =>
CM.pu (p1 (fun a => extractA a 1) x5) fun x7 =>
CM.al (some (.cells [(.int .u64 0), (.int .u64 0), (.int .u64 0), (.int .u64 0)] false, pB)) fun x8 =>
CM.st (fun m => stV m x8 x6 4) <|
CM.rm (q1 (loadA Tryz.prog 311) x8 ) fun x10 =>
CM.pu (p2 (binA Tryz.prog .sub 3) t2 x0) fun x11 =>
CM.call 226 [x11] fun x13 =>
CM.memo fun m14 =>
CM.chk (q1 (loadA Tryz.prog 311) x8 m14) x10 <|
CM.call 224 [x10, x13] fun x16 =>
CM.pu (p1 (fun a => extractA a 0) x16) fun x18 =>
CM.pu (p1 (fun a => extractA a 1) x16) fun x19 =>
CM.st (fun m => stV m x8 x18 4) <|
CM.pu (p2 (binA Tryz.prog .eql 3) t2 (.int .i64 0)) fun x23 =>
CM.cond x23 (
CM.go 876545 [t3, t4, t6, x8, (.bool false)]) (
CM.pu (p2 (binA Tryz.prog .eql 3) t2 x0) fun x24 =>
CM.cond x24 (
CM.call 226 [x0] fun x25 =>
CM.pu (p2 (binA Tryz.prog .quo 26) x25 (.int .u64 2)) fun x26 =>
CM.pu (p2 (binA Tryz.prog .gtr 26) x7 x26) fun x27 =>
CM.ifv x27 (
CM.go 876545 [t3, t4, t6, x8, (.bool true)]) (
CM.call 226 [x0] fun x28 =>
CM.pu (p2 (binA Tryz.prog .quo 26) x28 (.int .u64 2)) fun x29 =>
CM.pu (p2 (binA Tryz.prog .eql 26) x7 x29) fun x30 =>
CM.ifv x30 (
CM.pu (p2 (indexAddrA Tryz.prog 311) x8 (.int .i64 0)) fun x31 =>
CM.rm (q1 (loadA Tryz.prog 26) x31 ) fun x32 =>
CM.pu (p2 (binA Tryz.prog .and 26) x32 (.int .u64 1)) fun x33 =>
CM.pu (p2 (binA Tryz.prog .eql 26) x33 (.int .u64 1)) fun x34 =>
CM.go 876545 [t3, t4, t6, x8, x34]) (
CM.go 876545 [t3, t4, t6, x8, (.bool false)]))) (
CM.pu (p2 (binA Tryz.prog .sub 3) t2 x0) fun x35 =>
CM.call 226 [x35] fun x36 =>
CM.pu (p2 (binA Tryz.prog .quo 26) x36 (.int .u64 2)) fun x37 =>
CM.pu (p2 (binA Tryz.prog .gtr 26) x19 x37) fun x38 =>
CM.ifv x38 (
CM.go 876545 [t3, t4, t6, x8, (.bool true)]) (
CM.pu (p2 (binA Tryz.prog .eql 26) x19 x37) fun x39 =>
CM.ifv x39 (
CM.pu (p2 (binA Tryz.prog .gtr 26) x7 (.int .u64 0)) fun x40 =>
CM.ifv x40 (
CM.go 876545 [t3, t4, t6, x8, (.bool true)]) (
CM.pu (p2 (indexAddrA Tryz.prog 311) x8 (.int .i64 0)) fun x41 =>
CM.rm (q1 (loadA Tryz.prog 26) x41 ) fun x42 =>
CM.pu (p2 (binA Tryz.prog .and 26) x42 (.int .u64 1)) fun x43 =>
CM.pu (p2 (binA Tryz.prog .eql 26) x43 (.int .u64 1)) fun x44 =>
CM.go 876545 [t3, t4, t6, x8, x44])) (
CM.go 876545 [t3, t4, t6, x8, (.bool false)]))))
theorem g214_0_ok : LeD (real E Mk Nk) g214_0 (fun ts m => goR E Mk 876544 ts m) := apS_le fun _ => apS_le fun _ => apS_le fun _ => apS_le fun _ => ap0_le fun _ => goR_eq 400 (by kernel_rfl)
noncomputable def g214_1 : List AV → CM := apS fun t3 => apS fun t4 => apS fun t6 => apS fun t9 => apS fun t12 => ap0 <|
CM.go 876546 [t3, t4, t6, t9, t12, (.int .i64 0)]
theorem g214_1_ok : LeD (real E Mk Nk) g214_1 (fun ts m => goR E Mk 876545 ts m) := apS_le fun _ => apS_le fun _ => apS_le fun _ => apS_le fun _ => apS_le fun _ => ap0_le fun _ => goR_eq 400 (by kernel_rfl)
noncomputable def g214_2 : List AV → CM := apS fun t3 => apS fun t4 => apS fun t6 => apS fun t9 => apS fun t12 => apS fun t14 => ap0 <|
CM.pu (p2 (binA Tryz.prog .lss 3) t14 (.int .i64 4)) fun x0 =>
CM.ifv x0 (
CM.cond t12 (
CM.go 876547 [t3, t4, t6, t9, t14]) (
CM.go 876549 [t3, t4, t6, t9])) (
CM.go 876549 [t3, t4, t6, t9])
theorem g214_2_ok : LeD (real E Mk Nk) g214_2 (fun ts m => goR E Mk 876546 ts m) := apS_le fun _ => apS_le fun _ => apS_le fun _ => apS_le fun _ => apS_le fun _ => apS_le fun _ => ap0_le fun _ => goR_eq 400 (by kernel_rfl)
noncomputable def g214_3 : List AV → CM := apS fun t3 => apS fun t4 => apS fun t6 => apS fun t9 => apS fun t14 => ap0 <|
CM.pu (p2 (indexAddrA Tryz.prog 311) t9 t14) fun x0 =>
CM.rm (q1 (loadA Tryz.prog 26) x0 ) fun x1 =>
CM.pu (p2 (binA Tryz.prog .add 26) x1 (.int .u64 1)) fun x2 =>
CM.pu (p2 (indexAddrA Tryz.prog 311) t9 t14) fun x3 =>
CM.st (fun m => stV m x3 x2 1) <|
CM.pu (p2 (indexAddrA Tryz.prog 311) t9 t14) fun x5 =>
CM.rm (q1 (loadA Tryz.prog 26) x5 ) fun x6 =>
CM.pu (p2 (binA Tryz.prog .eql 26) x6 (.int .u64 0)) fun x7 =>
CM.go 876548 [t3, t4, t6, t9, x7, t14]
theorem g214_3_ok : LeD (real E Mk Nk) g214_3 (fun ts m => goR E Mk 876547 ts m) := apS_le fun _ => apS_le fun _ => apS_le fun _ => apS_le fun _ => apS_le fun _ => ap0_le fun _ => goR_eq 400 (by kernel_rfl)
noncomputable def g214_4 : List AV → CM := apS fun t3 => apS fun t4 => apS fun t6 => apS fun t9 => apS fun t12 => apS fun t14 => ap0 <|
CM.pu (p2 (binA Tryz.prog .add 3) t14 (.int .i64 1)) fun x0 =>
CM.go 876546 [t3, t4, t6, t9, t12, x0]
theorem g214_4_ok : LeD (real E Mk Nk) g214_4 (fun ts m => goR E Mk 876548 ts m) := apS_le fun _ => apS_le fun _ => apS_le fun _ => apS_le fun _ => apS_le fun _ => apS_le fun _ => ap0_le fun _ => goR_eq 400 (by kernel_rfl)
noncomputable def g214_5 : List AV → CM := apS fun t3 => apS fun t4 => apS fun t6 => apS fun t9 => ap0 <|
CM.pu (p1 (fun a => fieldAddrA Tryz.prog 36 a 0) t3) fun x0 =>
CM.rm (q1 (loadA Tryz.prog 2) x0 ) fun x1 =>
CM.pu (p2 (binA Tryz.prog .lss 2) x1 (.int .i64 0)) fun x2 =>
CM.pu (p1 (fun a => fieldAddrA Tryz.prog 36 a 0) t4) fun x3 =>
CM.rm (q1 (loadA Tryz.prog 2) x3 ) fun x4 =>
CM.pu (p2 (binA Tryz.prog .lss 2) x4 (.int .i64 0)) fun x5 =>
CM.pu (p2 (binA Tryz.prog .neq 4) x2 x5) fun x6 =>
CM.rm (q1 (loadA Tryz.prog 311) t9 ) fun x7 =>
CM.call 227 [x6, x7] fun x8 =>
CM.pu (p1 (fun a => extractA a 0) x8) fun x9 =>
CM.pu (p1 (fun a => extractA a 1) x8) fun x10 =>
CM.st (fun m => stV m t6 x9 2) <|
CM.resC Tryz.prog [ResultVar.cell 0 36, ResultVar.tmp 1] [t6, x10]
theorem g214_5_ok : LeD (real E Mk Nk) g214_5 (fun ts m => goR E Mk 876549 ts m) := apS_le fun _ => apS_le fun _ => apS_le fun _ => apS_le fun _ => ap0_le fun _ => goR_eq 400 (by kernel_rfl)
noncomputable def f214 : List AV → CM := apS fun a0 => apS fun a1 => apS fun a2 => ap0 <|
CM.al (boxA a0) fun x0 =>
CM.al (boxA a1) fun x1 =>
CM.al (some (.cells [(.int .i64 0), (.int .u64 0)] false, pB)) fun x2 =>
CM.pu (p2 (binA Tryz.prog .lss 3) a2 (.int .i64 0)) fun x3 =>
CM.ifv x3 (
CM.pu (p1 (buildA Tryz.prog 36) []) fun x4 =>
CM.st (fun m => stV m x2 x4 2) <|
CM.resC Tryz.prog [ResultVar.cell 0 36, ResultVar.tmp 1] [x2, (.int .i64 1)]) (
CM.pu (p2 (binA Tryz.prog .gtr 3) a2 (.int .i64 36)) fun x6 =>
CM.cond x6 (
CM.pu (p1 (buildA Tryz.prog 36) []) fun x7 =>
CM.st (fun m => stV m x2 x7 2) <|
CM.resC Tryz.prog [ResultVar.cell 0 36, ResultVar.tmp 1] [x2, (.int .i64 1)]) (
CM.go 876544 [a2, x0, x1, x2]))
theorem f214_ok : LeD (real E Mk Nk) f214 (fun xs m => run E (.fn 214) xs m) := apS_le fun _ => apS_le fun _ => apS_le fun _ => ap0_le fun _ => run_eq 400 rfl (by kernel_rfl) (by kernel_rfl)
noncomputable def f215 : List AV → CM := apS fun a0 => apS fun a1 => ap0 <|
CM.al (boxA a0) fun x0 =>
CM.al (boxA a1) fun x1 =>
CM.al (some (.cells [(.int .i64 0), (.int .u64 0)] false, pB)) fun x2 =>
CM.pu (p1 (fun a => fieldAddrA Tryz.prog 36 a 0) x0) fun x3 =>
CM.rm (q1 (loadA Tryz.prog 2) x3 ) fun x4 =>
CM.pu (p2 (binA Tryz.prog .lss 2) x4 (.int .i64 0)) fun x5 =>
CM.pu (p1 (fun a => fieldAddrA Tryz.prog 36 a 0) x1) fun x6 =>
CM.rm (q1 (loadA Tryz.prog 2) x6 ) fun x7 =>
CM.pu (p2 (binA Tryz.prog .lss 2) x7 (.int .i64 0)) fun x8 =>
CM.pu (p2 (binA Tryz.prog .neq 4) x5 x8) fun x9 =>
CM.rm (q1 (loadA Tryz.prog 36) x0 ) fun x10 =>
CM.rm (q1 (loadA Tryz.prog 36) x1 ) fun x11 =>
CM.call 225 [x10, x11] fun x13 =>
CM.memo fun m14 =>
CM.chk (q1 (loadA Tryz.prog 2) x6 m14) x7 <|
CM.chk (q1 (loadA Tryz.prog 2) x3 m14) x4 <|
CM.call 227 [x9, x13] fun x16 =>
CM.pu (p1 (fun a => extractA a 0) x16) fun x18 =>
CM.pu (p1 (fun a => extractA a 1) x16) fun x19 =>
CM.st (fun m => stV m x2 x18 2) <|
CM.resC Tryz.prog [ResultVar.cell 0 36, ResultVar.tmp 1] [x2, x19]
theorem f215_ok : LeD (real E Mk Nk) f215 (fun xs m => run E (.fn 215) xs m) := apS_le fun _ => apS_le fun _ => ap0_le fun _ => run_eq 400 rfl (by kernel_rfl) (by kernel_rfl)
end Go.Proofs.YtfiipajgdhafaaaGreat.T
