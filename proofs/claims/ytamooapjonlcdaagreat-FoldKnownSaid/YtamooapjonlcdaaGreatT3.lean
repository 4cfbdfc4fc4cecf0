/- Functions as trees, printed by our own program (wip/tools/gen3.lean). -/
import Derived.Test.YtamooapjonlcdaaGreatT0
namespace Go.Proofs.YtamooapjonlcdaaGreat.T
open Go Go.Abs Go.Proofs.YtamooapjonlcdaaGreat
set_option maxRecDepth 10000
noncomputable def f52 : List AV → CM := apS fun a0 => apS fun a1 => ap0 <|
CM.al (boxA a0) fun x0 =>
CM.al (boxA a1) fun x1 =>
CM.al (some (.cells [(.bool false), (.int .u64 0), (.int .u64 0), (.int .u64 0), (.int .u64 0), (.int .u64 0), (.int .u64 0), (.int .u64 0), (.int .u64 0), (.int .u64 0), (.int .u64 0), (.int .u64 0), (.int .u64 0), (.int .u64 0), (.int .u64 0), (.int .u64 0), (.int .u64 0)] false, pB)) fun x2 =>
CM.pu (p1 (fun a => fieldAddrA Tryz.prog 116 a 1) x0) fun x3 =>
CM.rm (q1 (loadA Tryz.prog 114) x3 ) fun x4 =>
CM.pu (p1 (fun a => fieldAddrA Tryz.prog 116 a 1) x1) fun x5 =>
CM.rm (q1 (loadA Tryz.prog 114) x5 ) fun x6 =>
CM.call 96 [x4, x6] fun x7 =>
CM.al (some (.cells [(.int .u64 0), (.int .u64 0), (.int .u64 0), (.int .u64 0), (.int .u64 0), (.int .u64 0), (.int .u64 0), (.int .u64 0), (.int .u64 0), (.int .u64 0), (.int .u64 0), (.int .u64 0), (.int .u64 0), (.int .u64 0), (.int .u64 0), (.int .u64 0)] false, pB)) fun x8 =>
CM.st (fun m => stV m x8 x7 16) <|
CM.pu (p1 (fun a => fieldAddrA Tryz.prog 116 a 0) x0) fun x10 =>
CM.rm (q1 (loadA Tryz.prog 4) x10 ) fun x11 =>
CM.pu (p1 (fun a => fieldAddrA Tryz.prog 116 a 0) x1) fun x12 =>
CM.rm (q1 (loadA Tryz.prog 4) x12 ) fun x13 =>
CM.pu (p2 (binA Tryz.prog .neq 4) x11 x13) fun x14 =>
CM.ifv x14 (
CM.rm (q1 (loadA Tryz.prog 114) x8 ) fun x15 =>
CM.memo fun m16 =>
CM.call 95 [x15] fun x17 =>
CM.pu (p1 (unA .not) x17) fun x19 =>
CM.rm (q1 (loadA Tryz.prog 114) x8 ) fun x20 =>
CM.chk (q1 (loadA Tryz.prog 114) x8 m16) x20 <|
CM.pu (p1 (buildA Tryz.prog 116) [(0, x19), (1, x20)]) fun x21 =>
CM.st (fun m => stV m x2 x21 17) <|
CM.resC Tryz.prog [ResultVar.cell 0 116] [x2]) (
CM.rm (q1 (loadA Tryz.prog 114) x8 ) fun x25 =>
CM.pu (p1 (buildA Tryz.prog 116) [(0, (.bool false)), (1, x25)]) fun x26 =>
CM.st (fun m => stV m x2 x26 17) <|
CM.resC Tryz.prog [ResultVar.cell 0 116] [x2])
theorem f52_ok : LeD (real E Mk Nk) f52 (fun xs m => run E (.fn 52) xs m) := apS_le fun _ => apS_le fun _ => ap0_le fun _ => run_eq 400 rfl (by kernel_rfl) (by kernel_rfl)
noncomputable def g53_0 : List AV → CM := apS fun t2 => apS fun t3 => apS fun t4 => apS fun t5 => ap0 <|
CM.pu (p1 (buildA Tryz.prog 116) [(0, t5)]) fun x0 =>
CM.al (some (.cells [(.bool false), (.int .u64 0), (.int .u64 0), (.int .u64 0), (.int .u64 0), (.int .u64 0), (.int .u64 0), (.int .u64 0), (.int .u64 0), (.int .u64 0), (.int .u64 0), (.int .u64 0), (.int .u64 0), (.int .u64 0), (.int .u64 0), (.int .u64 0), (.int .u64 0)] false, pB)) fun x1 =>
CM.st (fun m => stV m x1 x0 17) <|
CM.pu (p2 (binA Tryz.prog .rem 30) t4 (.int .u64 4294967296)) fun x3 =>
CM.pu (p1 (fun a => fieldAddrA Tryz.prog 116 a 1) x1) fun x4 =>
CM.pu (p2 (indexAddrA Tryz.prog 114) x4 (.int .i64 0)) fun x5 =>
CM.st (fun m => stV m x5 x3 1) <|
CM.pu (p2 (binA Tryz.prog .quo 30) t4 (.int .u64 4294967296)) fun x7 =>
CM.pu (p1 (fun a => fieldAddrA Tryz.prog 116 a 1) x1) fun x8 =>
CM.pu (p2 (indexAddrA Tryz.prog 114) x8 (.int .i64 1)) fun x9 =>
CM.st (fun m => stV m x9 x7 1) <|
CM.pu (p2 (binA Tryz.prog .rem 30) t3 (.int .u64 4294967296)) fun x11 =>
CM.pu (p1 (fun a => fieldAddrA Tryz.prog 116 a 1) x1) fun x12 =>
CM.pu (p2 (indexAddrA Tryz.prog 114) x12 (.int .i64 2)) fun x13 =>
CM.st (fun m => stV m x13 x11 1) <|
CM.pu (p2 (binA Tryz.prog .quo 30) t3 (.int .u64 4294967296)) fun x15 =>
CM.pu (p1 (fun a => fieldAddrA Tryz.prog 116 a 1) x1) fun x16 =>
CM.pu (p2 (indexAddrA Tryz.prog 114) x16 (.int .i64 3)) fun x17 =>
CM.st (fun m => stV m x17 x15 1) <|
CM.rm (q1 (loadA Tryz.prog 116) x1 ) fun x19 =>
CM.st (fun m => stV m t2 x19 17) <|
CM.resC Tryz.prog [ResultVar.cell 0 116] [t2]
theorem g53_0_ok : LeD (real E Mk Nk) g53_0 (fun ts m => goR E Mk 217088 ts m) := apS_le fun _ => apS_le fun _ => apS_le fun _ => apS_le fun _ => ap0_le fun _ => goR_eq 400 (by kernel_rfl)
noncomputable def f53 : List AV → CM := apS fun a0 => ap0 <|
CM.al (boxA a0) fun x0 =>
CM.al (some (.cells [(.bool false), (.int .u64 0), (.int .u64 0), (.int .u64 0), (.int .u64 0), (.int .u64 0), (.int .u64 0), (.int .u64 0), (.int .u64 0), (.int .u64 0), (.int .u64 0), (.int .u64 0), (.int .u64 0), (.int .u64 0), (.int .u64 0), (.int .u64 0), (.int .u64 0)] false, pB)) fun x1 =>
CM.pu (p1 (fun a => fieldAddrA Tryz.prog 35 a 0) x0) fun x2 =>
CM.rm (q1 (loadA Tryz.prog 2) x2 ) fun x3 =>
CM.pu (p1 (convA Tryz.prog 2 30) x3) fun x4 =>
CM.pu (p1 (fun a => fieldAddrA Tryz.prog 35 a 1) x0) fun x5 =>
CM.rm (q1 (loadA Tryz.prog 30) x5 ) fun x6 =>
CM.pu (p1 (fun a => fieldAddrA Tryz.prog 35 a 0) x0) fun x7 =>
CM.rm (q1 (loadA Tryz.prog 2) x7 ) fun x8 =>
CM.pu (p2 (binA Tryz.prog .lss 2) x8 (.int .i64 0)) fun x9 =>
CM.cond x9 (
CM.pu (p1 (unA .xor) x4) fun x10 =>
CM.pu (p1 (unA .xor) x6) fun x11 =>
CM.pu (p2 (binA Tryz.prog .add 30) x11 (.int .u64 1)) fun x12 =>
CM.pu (p2 (binA Tryz.prog .eql 30) x12 (.int .u64 0)) fun x13 =>
CM.cond x13 (
CM.pu (p2 (binA Tryz.prog .add 30) x10 (.int .u64 1)) fun x14 =>
CM.go 217088 [x1, x14, x12, x9]) (
CM.go 217088 [x1, x10, x12, x9])) (
CM.go 217088 [x1, x4, x6, x9])
theorem f53_ok : LeD (real E Mk Nk) f53 (fun xs m => run E (.fn 53) xs m) := apS_le fun _ => ap0_le fun _ => run_eq 400 rfl (by kernel_rfl) (by kernel_rfl)
noncomputable def f54 : List AV → CM := apS fun a0 => ap0 <|
CM.al (boxA a0) fun x0 =>
CM.ret (.fn (.func 97) [] [x0])
theorem f54_ok : LeD (real E Mk Nk) f54 (fun xs m => run E (.fn 54) xs m) := apS_le fun _ => ap0_le fun _ => run_eq 400 rfl (by kernel_rfl) (by kernel_rfl)
noncomputable def f55 : List AV → CM := apS fun a0 => ap0 <|
CM.al (boxA a0) fun x0 =>
CM.ret (.fn (.func 101) [] [x0])
theorem f55_ok : LeD (real E Mk Nk) f55 (fun xs m => run E (.fn 55) xs m) := apS_le fun _ => ap0_le fun _ => run_eq 400 rfl (by kernel_rfl) (by kernel_rfl)
noncomputable def f56 : List AV → CM := apS fun a0 => ap0 <|
CM.al (boxA a0) fun x0 =>
CM.ret (.fn (.func 105) [] [x0])
theorem f56_ok : LeD (real E Mk Nk) f56 (fun xs m => run E (.fn 56) xs m) := apS_le fun _ => ap0_le fun _ => run_eq 400 rfl (by kernel_rfl) (by kernel_rfl)
noncomputable def g57_0 : List AV → CM := apS fun t4 => apS fun t6 => apS fun t8 => ap0 <|
CM.pu (p1 (convA Tryz.prog 30 2) t8) fun x0 =>
CM.pu (p1 (buildA Tryz.prog 35) [(0, x0), (1, t6)]) fun x1 =>
CM.st (fun m => stV m t4 x1 2) <|
CM.resC Tryz.prog [ResultVar.cell 0 35, ResultVar.tmp 1] [t4, (.int .i64 0)]
theorem g57_0_ok : LeD (real E Mk Nk) g57_0 (fun ts m => goR E Mk 233472 ts m) := apS_le fun _ => apS_le fun _ => apS_le fun _ => ap0_le fun _ => goR_eq 400 (by kernel_rfl)
noncomputable def f57 : List AV → CM := apS fun a0 => apS fun a1 => ap0 <|
CM.al (boxA a0) fun x0 =>
CM.al (boxA a1) fun x1 =>
CM.al (some (.cells [(.int .i64 0), (.int .u64 0)] false, pB)) fun x2 =>
CM.pu (p1 (fun a => fieldAddrA Tryz.prog 35 a 1) x0) fun x3 =>
CM.rm (q1 (loadA Tryz.prog 30) x3 ) fun x4 =>
CM.pu (p1 (fun a => fieldAddrA Tryz.prog 35 a 1) x1) fun x5 =>
CM.rm (q1 (loadA Tryz.prog 30) x5 ) fun x6 =>
CM.call 109 [x4, x6, (.int .u64 0)] fun x7 =>
CM.pu (p1 (fun a => extractA a 0) x7) fun x8 =>
CM.pu (p1 (fun a => extractA a 1) x7) fun x9 =>
CM.pu (p1 (fun a => fieldAddrA Tryz.prog 35 a 0) x0) fun x10 =>
CM.rm (q1 (loadA Tryz.prog 2) x10 ) fun x11 =>
CM.pu (p1 (convA Tryz.prog 2 30) x11) fun x12 =>
CM.pu (p1 (fun a => fieldAddrA Tryz.prog 35 a 0) x1) fun x13 =>
CM.rm (q1 (loadA Tryz.prog 2) x13 ) fun x14 =>
CM.pu (p1 (convA Tryz.prog 2 30) x14) fun x15 =>
CM.call 109 [x12, x15, x9] fun x16 =>
CM.pu (p1 (fun a => extractA a 0) x16) fun x17 =>
CM.pu (p1 (fun a => extractA a 1) x16) fun _ =>
CM.pu (p1 (fun a => fieldAddrA Tryz.prog 35 a 0) x0) fun x19 =>
CM.rm (q1 (loadA Tryz.prog 2) x19 ) fun x20 =>
CM.pu (p2 (binA Tryz.prog .lss 2) x20 (.int .i64 0)) fun x21 =>
CM.pu (p1 (fun a => fieldAddrA Tryz.prog 35 a 0) x1) fun x22 =>
CM.rm (q1 (loadA Tryz.prog 2) x22 ) fun x23 =>
CM.pu (p2 (binA Tryz.prog .lss 2) x23 (.int .i64 0)) fun x24 =>
CM.pu (p2 (binA Tryz.prog .neq 4) x21 x24) fun x25 =>
CM.ifv x25 (
CM.pu (p1 (convA Tryz.prog 30 2) x17) fun x26 =>
CM.pu (p2 (binA Tryz.prog .lss 2) x26 (.int .i64 0)) fun x27 =>
CM.pu (p1 (fun a => fieldAddrA Tryz.prog 35 a 0) x0) fun x28 =>
CM.rm (q1 (loadA Tryz.prog 2) x28 ) fun x29 =>
CM.pu (p2 (binA Tryz.prog .lss 2) x29 (.int .i64 0)) fun x30 =>
CM.pu (p2 (binA Tryz.prog .neq 4) x27 x30) fun x31 =>
CM.cond x31 (
CM.pu (p1 (buildA Tryz.prog 35) []) fun x32 =>
CM.st (fun m => stV m x2 x32 2) <|
CM.resC Tryz.prog [ResultVar.cell 0 35, ResultVar.tmp 1] [x2, (.int .i64 20)]) (
CM.go 233472 [x2, x8, x17])) (
CM.go 233472 [x2, x8, x17])
theorem f57_ok : LeD (real E Mk Nk) f57 (fun xs m => run E (.fn 57) xs m) := apS_le fun _ => apS_le fun _ => ap0_le fun _ => run_eq 400 rfl (by kernel_rfl) (by kernel_rfl)
noncomputable def g58_0 : List AV → CM := apS fun t1 => apS fun t7 => apS fun t8 => apS fun t9 => ap0 <|
CM.pu (p2 (binA Tryz.prog .lss 3) t9 t8) fun x0 =>
CM.cond x0 (
CM.go 237569 [t1, t7, t8, t9]) (
CM.go 237572 [])
theorem g58_0_ok : LeD (real E Mk Nk) g58_0 (fun ts m => goR E Mk 237568 ts m) := apS_le fun _ => apS_le fun _ => apS_le fun _ => apS_le fun _ => ap0_le fun _ => goR_eq 400 (by kernel_rfl)
noncomputable def g58_1 : List AV → CM := apS fun t1 => apS fun t7 => apS fun t8 => apS fun t9 => ap0 <|
CM.pu (p2 (indexAddrA Tryz.prog 46) t7 t9) fun x0 =>
CM.rm (q1 (loadA Tryz.prog 54) x0 ) fun x1 =>
CM.al (some (.cells [(.str []), (.str []), (.int .i64 0), (.int .u64 0), (.int .i64 0), (.int .i64 0), (.int .u64 0), (.int .i64 0), (.int .u64 0)] false, pB)) fun x2 =>
CM.st (fun m => stV m x2 x1 9) <|
CM.pu (p2 (binA Tryz.prog .eql 3) t9 (.int .i64 0)) fun x4 =>
CM.ifv x4 (
CM.go 237570 [t1, x2, (.bool true), t7, t8, t9]) (
CM.pu (p1 (fun a => fieldAddrA Tryz.prog 49 a 1) t1) fun x5 =>
CM.rm (q1 (loadA Tryz.prog 46) x5 ) fun x6 =>
CM.pu (p2 (binA Tryz.prog .sub 3) t9 (.int .i64 1)) fun x7 =>
CM.pu (p2 (indexAddrA Tryz.prog 46) x6 x7) fun x8 =>
CM.pu (p1 (fun a => fieldAddrA Tryz.prog 54 a 0) x8) fun x9 =>
CM.rm (q1 (loadA Tryz.prog 9) x9 ) fun x10 =>
CM.pu (p1 (fun a => fieldAddrA Tryz.prog 54 a 0) x2) fun x11 =>
CM.rm (q1 (loadA Tryz.prog 9) x11 ) fun x12 =>
CM.pu (p2 (binA Tryz.prog .lss 9) x10 x12) fun x13 =>
CM.ifv x13 (
CM.go 237570 [t1, x2, (.bool true), t7, t8, t9]) (
CM.pu (p1 (fun a => fieldAddrA Tryz.prog 49 a 1) t1) fun x14 =>
CM.rm (q1 (loadA Tryz.prog 46) x14 ) fun x15 =>
CM.pu (p2 (binA Tryz.prog .sub 3) t9 (.int .i64 1)) fun x16 =>
CM.pu (p2 (indexAddrA Tryz.prog 46) x15 x16) fun x17 =>
CM.pu (p1 (fun a => fieldAddrA Tryz.prog 54 a 0) x17) fun x18 =>
CM.rm (q1 (loadA Tryz.prog 9) x18 ) fun x19 =>
CM.pu (p1 (fun a => fieldAddrA Tryz.prog 54 a 0) x2) fun x20 =>
CM.rm (q1 (loadA Tryz.prog 9) x20 ) fun x21 =>
CM.pu (p2 (binA Tryz.prog .eql 9) x19 x21) fun x22 =>
CM.ifv x22 (
CM.pu (p1 (fun a => fieldAddrA Tryz.prog 49 a 1) t1) fun x23 =>
CM.rm (q1 (loadA Tryz.prog 46) x23 ) fun x24 =>
CM.pu (p2 (binA Tryz.prog .sub 3) t9 (.int .i64 1)) fun x25 =>
CM.pu (p2 (indexAddrA Tryz.prog 46) x24 x25) fun x26 =>
CM.pu (p1 (fun a => fieldAddrA Tryz.prog 54 a 1) x26) fun x27 =>
CM.rm (q1 (loadA Tryz.prog 9) x27 ) fun x28 =>
CM.pu (p1 (fun a => fieldAddrA Tryz.prog 54 a 1) x2) fun x29 =>
CM.rm (q1 (loadA Tryz.prog 9) x29 ) fun x30 =>
CM.pu (p2 (binA Tryz.prog .lss 9) x28 x30) fun x31 =>
CM.go 237570 [t1, x2, x31, t7, t8, t9]) (
CM.go 237570 [t1, x2, (.bool false), t7, t8, t9])))
theorem g58_1_ok : LeD (real E Mk Nk) g58_1 (fun ts m => goR E Mk 237569 ts m) := apS_le fun _ => apS_le fun _ => apS_le fun _ => apS_le fun _ => ap0_le fun _ => goR_eq 400 (by kernel_rfl)
noncomputable def g58_2 : List AV → CM := apS fun t1 => apS fun t4 => apS fun t5 => apS fun t7 => apS fun t8 => apS fun t9 => ap0 <|
CM.pu (p1 (unA .not) t5) fun x0 =>
CM.ifv x0 (
CM.ret (.bool false)) (
CM.rm (q1 (loadA Tryz.prog 49) t1 ) fun x1 =>
CM.pu (p1 (fun a => fieldAddrA Tryz.prog 54 a 0) t4) fun x2 =>
CM.rm (q1 (loadA Tryz.prog 9) x2 ) fun x3 =>
CM.call 110 [x1, x3] fun x4 =>
CM.pu (p1 (unA .not) x4) fun x5 =>
CM.ifv x5 (
CM.ret (.bool false)) (
CM.rm (q1 (loadA Tryz.prog 49) t1 ) fun x6 =>
CM.pu (p1 (fun a => fieldAddrA Tryz.prog 54 a 1) t4) fun x7 =>
CM.rm (q1 (loadA Tryz.prog 9) x7 ) fun x8 =>
CM.call 110 [x6, x8] fun x9 =>
CM.pu (p1 (unA .not) x9) fun x10 =>
CM.ifv x10 (
CM.ret (.bool false)) (
CM.pu (p1 (fun a => fieldAddrA Tryz.prog 54 a 0) t4) fun x11 =>
CM.rm (q1 (loadA Tryz.prog 9) x11 ) fun x12 =>
CM.pu (p1 (fun a => fieldAddrA Tryz.prog 54 a 1) t4) fun x13 =>
CM.rm (q1 (loadA Tryz.prog 9) x13 ) fun x14 =>
CM.pu (p2 (binA Tryz.prog .eql 9) x12 x14) fun x15 =>
CM.ifv x15 (
CM.ret (.bool false)) (
CM.pu (p1 (fun a => fieldAddrA Tryz.prog 54 a 2) t4) fun x16 =>
CM.rm (q1 (loadA Tryz.prog 37) x16 ) fun x17 =>
CM.call 44 [x17] fun x18 =>
CM.pu (p2 (binA Tryz.prog .neq 25) x18 (.int .i64 0)) fun x19 =>
CM.ifv x19 (
CM.ret (.bool false)) (
CM.pu (p1 (fun a => fieldAddrA Tryz.prog 54 a 3) t4) fun x20 =>
CM.rm (q1 (loadA Tryz.prog 35) x20 ) fun x21 =>
CM.call 83 [x21] fun x22 =>
CM.pu (p2 (binA Tryz.prog .lss 3) x22 (.int .i64 0)) fun x23 =>
CM.ifv x23 (
CM.ret (.bool false)) (
CM.pu (p1 (fun a => fieldAddrA Tryz.prog 54 a 4) t4) fun x24 =>
CM.rm (q1 (loadA Tryz.prog 35) x24 ) fun x25 =>
CM.call 83 [x25] fun x26 =>
CM.pu (p2 (binA Tryz.prog .gtr 3) x26 (.int .i64 0)) fun x27 =>
CM.cond x27 (
CM.ret (.bool false)) (
CM.go 237571 [t1, t7, t8, t9])))))))
theorem g58_2_ok : LeD (real E Mk Nk) g58_2 (fun ts m => goR E Mk 237570 ts m) := apS_le fun _ => apS_le fun _ => apS_le fun _ => apS_le fun _ => apS_le fun _ => apS_le fun _ => ap0_le fun _ => goR_eq 400 (by kernel_rfl)
noncomputable def g58_3 : List AV → CM := apS fun t1 => apS fun t7 => apS fun t8 => apS fun t9 => ap0 <|
CM.pu (p2 (binA Tryz.prog .add 3) t9 (.int .i64 1)) fun x0 =>
CM.go 237568 [t1, t7, t8, x0]
theorem g58_3_ok : LeD (real E Mk Nk) g58_3 (fun ts m => goR E Mk 237571 ts m) := apS_le fun _ => apS_le fun _ => apS_le fun _ => apS_le fun _ => ap0_le fun _ => goR_eq 400 (by kernel_rfl)
noncomputable def g58_4 : List AV → CM := ap0 <|
CM.ret (.bool true)
theorem g58_4_ok : LeD (real E Mk Nk) g58_4 (fun ts m => goR E Mk 237572 ts m) := ap0_le fun _ => goR_eq 400 (by kernel_rfl)
noncomputable def f58 : List AV → CM := apS fun a0 => ap0 <|
CM.al (boxA a0) fun x0 =>
CM.pu (p1 (fun a => fieldAddrA Tryz.prog 49 a 1) x0) fun x1 =>
CM.rm (q1 (loadA Tryz.prog 46) x1 ) fun x2 =>
CM.pu (p1 (lenT Tryz.prog 46) x2) fun x3 =>
CM.go 237568 [x0, x2, x3, (.int .i64 0)]
theorem f58_ok : LeD (real E Mk Nk) f58 (fun xs m => run E (.fn 58) xs m) := apS_le fun _ => ap0_le fun _ => run_eq 400 rfl (by kernel_rfl) (by kernel_rfl)
noncomputable def g59_0 : List AV → CM := apS fun t1 => apS fun t3 => apS fun t7 => apS fun t8 => apS fun t9 => ap0 <|
CM.pu (p2 (binA Tryz.prog .lss 3) t9 t8) fun x0 =>
CM.cond x0 (
CM.go 241665 [t1, t3, t7, t8, t9]) (
CM.go 241668 [t1])
theorem g59_0_ok : LeD (real E Mk Nk) g59_0 (fun ts m => goR E Mk 241664 ts m) := apS_le fun _ => apS_le fun _ => apS_le fun _ => apS_le fun _ => apS_le fun _ => ap0_le fun _ => goR_eq 400 (by kernel_rfl)
noncomputable def g59_1 : List AV → CM := apS fun t1 => apS fun t3 => apS fun t7 => apS fun t8 => apS fun t9 => ap0 <|
CM.pu (p2 (indexAddrA Tryz.prog 47) t7 t9) fun x0 =>
CM.rm (q1 (loadA Tryz.prog 91) x0 ) fun x1 =>
CM.al (some (.cells [(.int .u64 0), (.str []), (.int .i64 0), (.int .u64 0)] false, pB)) fun x2 =>
CM.st (fun m => stV m x2 x1 4) <|
CM.pu (p1 (fun a => fieldAddrA Tryz.prog 91 a 0) x2) fun x4 =>
CM.rm (q1 (loadA Tryz.prog 30) x4 ) fun x5 =>
CM.pu (p2 (binA Tryz.prog .leq 30) x5 t3) fun x6 =>
CM.ifv x6 (
CM.ret (.bool false)) (
CM.pu (p1 (fun a => fieldAddrA Tryz.prog 91 a 0) x2) fun x7 =>
CM.rm (q1 (loadA Tryz.prog 30) x7 ) fun x8 =>
CM.pu (p1 (fun a => fieldAddrA Tryz.prog 49 a 3) t1) fun x9 =>
CM.rm (q1 (loadA Tryz.prog 30) x9 ) fun x10 =>
CM.pu (p2 (binA Tryz.prog .gtr 30) x8 x10) fun x11 =>
CM.ifv x11 (
CM.ret (.bool false)) (
CM.rm (q1 (loadA Tryz.prog 49) t1 ) fun x12 =>
CM.pu (p1 (fun a => fieldAddrA Tryz.prog 91 a 1) x2) fun x13 =>
CM.rm (q1 (loadA Tryz.prog 9) x13 ) fun x14 =>
CM.call 110 [x12, x14] fun x15 =>
CM.pu (p1 (unA .not) x15) fun x16 =>
CM.ifv x16 (
CM.ret (.bool false)) (
CM.pu (p1 (fun a => fieldAddrA Tryz.prog 91 a 2) x2) fun x17 =>
CM.rm (q1 (loadA Tryz.prog 35) x17 ) fun x18 =>
CM.call 83 [x18] fun x19 =>
CM.pu (p2 (binA Tryz.prog .lss 3) x19 (.int .i64 0)) fun x20 =>
CM.cond x20 (
CM.ret (.bool false)) (
CM.go 241666 [t1, x2, t7, t8, t9]))))
theorem g59_1_ok : LeD (real E Mk Nk) g59_1 (fun ts m => goR E Mk 241665 ts m) := apS_le fun _ => apS_le fun _ => apS_le fun _ => apS_le fun _ => apS_le fun _ => ap0_le fun _ => goR_eq 400 (by kernel_rfl)
noncomputable def g59_2 : List AV → CM := apS fun t1 => apS fun t5 => apS fun t7 => apS fun t8 => apS fun t9 => ap0 <|
CM.pu (p1 (fun a => fieldAddrA Tryz.prog 91 a 0) t5) fun x0 =>
CM.rm (q1 (loadA Tryz.prog 30) x0 ) fun x1 =>
CM.go 241667 [t1, x1, t7, t8, t9]
theorem g59_2_ok : LeD (real E Mk Nk) g59_2 (fun ts m => goR E Mk 241666 ts m) := apS_le fun _ => apS_le fun _ => apS_le fun _ => apS_le fun _ => apS_le fun _ => ap0_le fun _ => goR_eq 400 (by kernel_rfl)
noncomputable def g59_3 : List AV → CM := apS fun t1 => apS fun t3 => apS fun t7 => apS fun t8 => apS fun t9 => ap0 <|
CM.pu (p2 (binA Tryz.prog .add 3) t9 (.int .i64 1)) fun x0 =>
CM.go 241664 [t1, t3, t7, t8, x0]
theorem g59_3_ok : LeD (real E Mk Nk) g59_3 (fun ts m => goR E Mk 241667 ts m) := apS_le fun _ => apS_le fun _ => apS_le fun _ => apS_le fun _ => apS_le fun _ => ap0_le fun _ => goR_eq 400 (by kernel_rfl)
noncomputable def g59_4 : List AV → CM := apS fun t1 => ap0 <|
CM.pu (p1 (fun a => fieldAddrA Tryz.prog 49 a 3) t1) fun x0 =>
CM.rm (q1 (loadA Tryz.prog 30) x0 ) fun x1 =>
CM.pu (p2 (binA Tryz.prog .leq 30) x1 (.int .u64 72057594037927935)) fun x2 =>
CM.ret x2
theorem g59_4_ok : LeD (real E Mk Nk) g59_4 (fun ts m => goR E Mk 241668 ts m) := apS_le fun _ => ap0_le fun _ => goR_eq 400 (by kernel_rfl)
noncomputable def f59 : List AV → CM := apS fun a0 => ap0 <|
CM.al (boxA a0) fun x0 =>
CM.pu (p1 (fun a => fieldAddrA Tryz.prog 49 a 2) x0) fun x1 =>
CM.rm (q1 (loadA Tryz.prog 47) x1 ) fun x2 =>
CM.pu (p1 (lenT Tryz.prog 47) x2) fun x3 =>
CM.go 241664 [x0, (.int .u64 0), x2, x3, (.int .i64 0)]
theorem f59_ok : LeD (real E Mk Nk) f59 (fun xs m => run E (.fn 59) xs m) := apS_le fun _ => ap0_le fun _ => run_eq 400 rfl (by kernel_rfl) (by kernel_rfl)
noncomputable def g60_0 : List AV → CM := apS fun t2 => apS fun t3 => apS fun t5 => apS fun t14 => apS fun t15 => apS fun t16 => ap0 <|
CM.pu (p2 (binA Tryz.prog .lss 3) t16 t15) fun x0 =>
CM.cond x0 (
CM.go 245761 [t2, t3, t5, t14, t15, t16]) (
CM.go 245763 [t2, t3, t5])
theorem g60_0_ok : LeD (real E Mk Nk) g60_0 (fun ts m => goR E Mk 245760 ts m) := apS_le fun _ => apS_le fun _ => apS_le fun _ => apS_le fun _ => apS_le fun _ => apS_le fun _ => ap0_le fun _ => goR_eq 400 (by kernel_rfl)
noncomputable def g60_1 : List AV → CM := apS fun t2 => apS fun t3 => apS fun t5 => apS fun t14 => apS fun t15 => apS fun t16 => ap0 <|
CM.pu (p2 (indexAddrA Tryz.prog 47) t14 t16) fun x0 =>
CM.rm (q1 (loadA Tryz.prog 91) x0 ) fun x1 =>
CM.al (some (.cells [(.int .u64 0), (.str []), (.int .i64 0), (.int .u64 0)] false, pB)) fun x2 =>
CM.st (fun m => stV m x2 x1 4) <|
CM.pu (p1 (fun a => fieldAddrA Tryz.prog 91 a 1) x2) fun x4 =>
CM.rm (q1 (loadA Tryz.prog 9) x4 ) fun x5 =>
CM.pu (p1 (fun a => fieldAddrA Tryz.prog 85 a 0) t3) fun x6 =>
CM.rm (q1 (loadA Tryz.prog 9) x6 ) fun x7 =>
CM.pu (p2 (binA Tryz.prog .eql 9) x5 x7) fun x8 =>
CM.cond x8 (
CM.pu (p1 (fun a => fieldAddrA Tryz.prog 91 a 2) x2) fun x9 =>
CM.rm (q1 (loadA Tryz.prog 35) x9 ) fun x10 =>
CM.call 111 [t5, x10] fun _ =>
CM.go 245762 [t2, t3, t5, t14, t15, t16]) (
CM.go 245762 [t2, t3, t5, t14, t15, t16])
theorem g60_1_ok : LeD (real E Mk Nk) g60_1 (fun ts m => goR E Mk 245761 ts m) := apS_le fun _ => apS_le fun _ => apS_le fun _ => apS_le fun _ => apS_le fun _ => apS_le fun _ => ap0_le fun _ => goR_eq 400 (by kernel_rfl)
noncomputable def g60_2 : List AV → CM := apS fun t2 => apS fun t3 => apS fun t5 => apS fun t14 => apS fun t15 => apS fun t16 => ap0 <|
CM.pu (p2 (binA Tryz.prog .add 3) t16 (.int .i64 1)) fun x0 =>
CM.go 245760 [t2, t3, t5, t14, t15, x0]
theorem g60_2_ok : LeD (real E Mk Nk) g60_2 (fun ts m => goR E Mk 245762 ts m) := apS_le fun _ => apS_le fun _ => apS_le fun _ => apS_le fun _ => apS_le fun _ => apS_le fun _ => ap0_le fun _ => goR_eq 400 (by kernel_rfl)
noncomputable def g60_3 : List AV → CM := apS fun t2 => apS fun t3 => apS fun t5 => ap0 <|
CM.pu (p1 (fun a => fieldAddrA Tryz.prog 49 a 1) t2) fun x0 =>
CM.rm (q1 (loadA Tryz.prog 46) x0 ) fun x1 =>
CM.pu (p1 (lenT Tryz.prog 46) x1) fun x2 =>
CM.go 245764 [t3, t5, x1, x2, (.int .i64 0)]
theorem g60_3_ok : LeD (real E Mk Nk) g60_3 (fun ts m => goR E Mk 245763 ts m) := apS_le fun _ => apS_le fun _ => apS_le fun _ => ap0_le fun _ => goR_eq 400 (by kernel_rfl)
noncomputable def g60_4 : List AV → CM := apS fun t3 => apS fun t5 => apS fun t30 => apS fun t31 => apS fun t32 => ap0 <|
CM.pu (p2 (binA Tryz.prog .lss 3) t32 t31) fun x0 =>
CM.cond x0 (
CM.go 245765 [t3, t5, t30, t31, t32]) (
CM.go 245768 [t5])
theorem g60_4_ok : LeD (real E Mk Nk) g60_4 (fun ts m => goR E Mk 245764 ts m) := apS_le fun _ => apS_le fun _ => apS_le fun _ => apS_le fun _ => apS_le fun _ => ap0_le fun _ => goR_eq 400 (by kernel_rfl)
noncomputable def g60_5 : List AV → CM := apS fun t3 => apS fun t5 => apS fun t30 => apS fun t31 => apS fun t32 => ap0 <|
CM.pu (p2 (indexAddrA Tryz.prog 46) t30 t32) fun x0 =>
CM.rm (q1 (loadA Tryz.prog 54) x0 ) fun x1 =>
CM.al (some (.cells [(.str []), (.str []), (.int .i64 0), (.int .u64 0), (.int .i64 0), (.int .i64 0), (.int .u64 0), (.int .i64 0), (.int .u64 0)] false, pB)) fun x2 =>
CM.st (fun m => stV m x2 x1 9) <|
CM.pu (p1 (fun a => fieldAddrA Tryz.prog 54 a 0) x2) fun x4 =>
CM.rm (q1 (loadA Tryz.prog 9) x4 ) fun x5 =>
CM.pu (p1 (fun a => fieldAddrA Tryz.prog 85 a 0) t3) fun x6 =>
CM.rm (q1 (loadA Tryz.prog 9) x6 ) fun x7 =>
CM.pu (p2 (binA Tryz.prog .eql 9) x5 x7) fun x8 =>
CM.cond x8 (
CM.pu (p1 (fun a => fieldAddrA Tryz.prog 54 a 3) x2) fun x9 =>
CM.rm (q1 (loadA Tryz.prog 35) x9 ) fun x10 =>
CM.call 111 [t5, x10] fun _ =>
CM.go 245766 [t3, t5, x2, t30, t31, t32]) (
CM.go 245766 [t3, t5, x2, t30, t31, t32])
theorem g60_5_ok : LeD (real E Mk Nk) g60_5 (fun ts m => goR E Mk 245765 ts m) := apS_le fun _ => apS_le fun _ => apS_le fun _ => apS_le fun _ => apS_le fun _ => ap0_le fun _ => goR_eq 400 (by kernel_rfl)
noncomputable def g60_6 : List AV → CM := apS fun t3 => apS fun t5 => apS fun t9 => apS fun t30 => apS fun t31 => apS fun t32 => ap0 <|
CM.pu (p1 (fun a => fieldAddrA Tryz.prog 54 a 1) t9) fun x0 =>
CM.rm (q1 (loadA Tryz.prog 9) x0 ) fun x1 =>
CM.pu (p1 (fun a => fieldAddrA Tryz.prog 85 a 0) t3) fun x2 =>
CM.rm (q1 (loadA Tryz.prog 9) x2 ) fun x3 =>
CM.pu (p2 (binA Tryz.prog .eql 9) x1 x3) fun x4 =>
CM.cond x4 (
CM.pu (p1 (fun a => fieldAddrA Tryz.prog 54 a 4) t9) fun x5 =>
CM.rm (q1 (loadA Tryz.prog 35) x5 ) fun x6 =>
CM.call 111 [t5, x6] fun _ =>
CM.go 245767 [t3, t5, t30, t31, t32]) (
CM.go 245767 [t3, t5, t30, t31, t32])
theorem g60_6_ok : LeD (real E Mk Nk) g60_6 (fun ts m => goR E Mk 245766 ts m) := apS_le fun _ => apS_le fun _ => apS_le fun _ => apS_le fun _ => apS_le fun _ => apS_le fun _ => ap0_le fun _ => goR_eq 400 (by kernel_rfl)
noncomputable def g60_7 : List AV → CM := apS fun t3 => apS fun t5 => apS fun t30 => apS fun t31 => apS fun t32 => ap0 <|
CM.pu (p2 (binA Tryz.prog .add 3) t32 (.int .i64 1)) fun x0 =>
CM.go 245764 [t3, t5, t30, t31, x0]
theorem g60_7_ok : LeD (real E Mk Nk) g60_7 (fun ts m => goR E Mk 245767 ts m) := apS_le fun _ => apS_le fun _ => apS_le fun _ => apS_le fun _ => apS_le fun _ => ap0_le fun _ => goR_eq 400 (by kernel_rfl)
noncomputable def g60_8 : List AV → CM := apS fun t5 => ap0 <|
CM.call 112 [t5] fun x0 =>
CM.ret x0
theorem g60_8_ok : LeD (real E Mk Nk) g60_8 (fun ts m => goR E Mk 245768 ts m) := apS_le fun _ => ap0_le fun _ => goR_eq 400 (by kernel_rfl)
noncomputable def f60 : List AV → CM := apS fun a0 => apS fun a1 => ap0 <|
CM.al (boxA a0) fun x0 =>
CM.al (boxA a1) fun x1 =>
CM.al (some (.cells [(.int .i64 0), (.int .u64 0), (.int .u64 0)] false, pB)) fun x2 =>
CM.pu (p1 (fun a => fieldAddrA Tryz.prog 85 a 2) x1) fun x3 =>
CM.rm (q1 (loadA Tryz.prog 35) x3 ) fun x4 =>
CM.call 111 [x2, x4] fun _ =>
CM.pu (p1 (fun a => fieldAddrA Tryz.prog 49 a 2) x0) fun x6 =>
CM.rm (q1 (loadA Tryz.prog 47) x6 ) fun x7 =>
CM.pu (p1 (lenT Tryz.prog 47) x7) fun x8 =>
CM.go 245760 [x0, x1, x2, x7, x8, (.int .i64 0)]
theorem f60_ok : LeD (real E Mk Nk) f60 (fun xs m => run E (.fn 60) xs m) := apS_le fun _ => apS_le fun _ => ap0_le fun _ => run_eq 400 rfl (by kernel_rfl) (by kernel_rfl)
noncomputable def g61_0 : List AV → CM := apS fun t1 => apS fun t3 => ap0 <|
CM.pu (p1 (fun a => fieldAddrA Tryz.prog 62 a 5) t1) fun x0 =>
CM.rm (q1 (loadA Tryz.prog 3) x0 ) fun x1 =>
CM.call 113 [x1, (.int .i64 4), (.int .i64 1024)] fun x2 =>
CM.ifv x2 (
CM.pu (p1 (fun a => fieldAddrA Tryz.prog 62 a 6) t1) fun x3 =>
CM.rm (q1 (loadA Tryz.prog 3) x3 ) fun x4 =>
CM.call 113 [x4, (.int .i64 64), (.int .i64 16384)] fun x5 =>
CM.ifv x5 (
CM.pu (p1 (fun a => fieldAddrA Tryz.prog 62 a 7) t1) fun x6 =>
CM.rm (q1 (loadA Tryz.prog 3) x6 ) fun x7 =>
CM.call 113 [x7, (.int .i64 0), (.int .i64 1048576)] fun x8 =>
CM.ifv x8 (
CM.pu (p1 (fun a => fieldAddrA Tryz.prog 62 a 8) t1) fun x9 =>
CM.rm (q1 (loadA Tryz.prog 3) x9 ) fun x10 =>
CM.call 113 [x10, (.int .i64 1), (.int .i64 256)] fun x11 =>
CM.ifv x11 (
CM.pu (p1 (fun a => fieldAddrA Tryz.prog 62 a 9) t1) fun x12 =>
CM.rm (q1 (loadA Tryz.prog 3) x12 ) fun x13 =>
CM.call 113 [x13, (.int .i64 1), (.int .i64 32)] fun x14 =>
CM.go 249857 [t1, t3, x14]) (
CM.go 249857 [t1, t3, (.bool false)])) (
CM.go 249857 [t1, t3, (.bool false)])) (
CM.go 249857 [t1, t3, (.bool false)])) (
CM.go 249857 [t1, t3, (.bool false)])
theorem g61_0_ok : LeD (real E Mk Nk) g61_0 (fun ts m => goR E Mk 249856 ts m) := apS_le fun _ => apS_le fun _ => ap0_le fun _ => goR_eq 400 (by kernel_rfl)
noncomputable def g61_1 : List AV → CM := apS fun t1 => apS fun t3 => apS fun t4 => ap0 <|
CM.ifv t3 (
CM.ifv t4 (
CM.pu (p1 (fun a => fieldAddrA Tryz.prog 62 a 10) t1) fun x0 =>
CM.rm (q1 (loadA Tryz.prog 3) x0 ) fun x1 =>
CM.call 113 [x1, (.int .i64 1), (.int .i64 64)] fun x2 =>
CM.ifv x2 (
CM.pu (p1 (fun a => fieldAddrA Tryz.prog 62 a 11) t1) fun x3 =>
CM.rm (q1 (loadA Tryz.prog 3) x3 ) fun x4 =>
CM.call 113 [x4, (.int .i64 1), (.int .i64 16)] fun x5 =>
CM.ifv x5 (
CM.pu (p1 (fun a => fieldAddrA Tryz.prog 62 a 12) t1) fun x6 =>
CM.rm (q1 (loadA Tryz.prog 30) x6 ) fun x7 =>
CM.pu (p2 (binA Tryz.prog .geq 30) x7 (.int .u64 1)) fun x8 =>
CM.ifv x8 (
CM.pu (p1 (fun a => fieldAddrA Tryz.prog 62 a 12) t1) fun x9 =>
CM.rm (q1 (loadA Tryz.prog 30) x9 ) fun x10 =>
CM.pu (p2 (binA Tryz.prog .leq 30) x10 (.int .u64 72057594037927935)) fun x11 =>
CM.ret x11) (
CM.ret (.bool false))) (
CM.ret (.bool false))) (
CM.ret (.bool false))) (
CM.ret (.bool false))) (
CM.ret (.bool false))
theorem g61_1_ok : LeD (real E Mk Nk) g61_1 (fun ts m => goR E Mk 249857 ts m) := apS_le fun _ => apS_le fun _ => apS_le fun _ => ap0_le fun _ => goR_eq 400 (by kernel_rfl)
noncomputable def f61 : List AV → CM := apS fun a0 => ap0 <|
CM.al (boxA a0) fun x0 =>
CM.pu (p1 (fun a => fieldAddrA Tryz.prog 62 a 0) x0) fun x1 =>
CM.rm (q1 (loadA Tryz.prog 3) x1 ) fun x2 =>
CM.call 113 [x2, (.int .i64 1), (.int .i64 7)] fun x4 =>
CM.ifv x4 (
CM.pu (p1 (fun a => fieldAddrA Tryz.prog 62 a 1) x0) fun x6 =>
CM.rm (q1 (loadA Tryz.prog 3) x6 ) fun x7 =>
CM.pu (p2 (binA Tryz.prog .gtr 3) x7 (.int .i64 0)) fun x8 =>
CM.ifv x8 (
CM.pu (p1 (fun a => fieldAddrA Tryz.prog 62 a 1) x0) fun x9 =>
CM.rm (q1 (loadA Tryz.prog 3) x9 ) fun x10 =>
CM.pu (p2 (binA Tryz.prog .and 3) x10 (.int .i64 1)) fun x11 =>
CM.pu (p2 (binA Tryz.prog .eql 3) x11 (.int .i64 0)) fun x12 =>
CM.ifv x12 (
CM.pu (p1 (fun a => fieldAddrA Tryz.prog 62 a 1) x0) fun x13 =>
CM.rm (q1 (loadA Tryz.prog 3) x13 ) fun x14 =>
CM.pu (p1 (fun a => fieldAddrA Tryz.prog 62 a 0) x0) fun x15 =>
CM.rm (q1 (loadA Tryz.prog 3) x15 ) fun x16 =>
CM.pu (p2 (binA Tryz.prog .shl 3) (.int .i64 2) x16) fun x17 =>
CM.pu (p2 (binA Tryz.prog .lss 3) x14 x17) fun x18 =>
CM.ifv x18 (
CM.pu (p1 (fun a => fieldAddrA Tryz.prog 62 a 2) x0) fun x19 =>
CM.rm (q1 (loadA Tryz.prog 3) x19 ) fun x20 =>
CM.call 113 [x20, (.int .i64 2), (.int .i64 1000)] fun x22 =>
CM.ifv x22 (
CM.pu (p1 (fun a => fieldAddrA Tryz.prog 62 a 3) x0) fun x24 =>
CM.rm (q1 (loadA Tryz.prog 3) x24 ) fun x25 =>
CM.pu (p1 (fun a => fieldAddrA Tryz.prog 62 a 2) x0) fun x26 =>
CM.rm (q1 (loadA Tryz.prog 3) x26 ) fun x27 =>
CM.call 113 [x25, x27, (.int .i64 2000)] fun x29 =>
CM.ifv x29 (
CM.pu (p1 (fun a => fieldAddrA Tryz.prog 62 a 4) x0) fun x31 =>
CM.rm (q1 (loadA Tryz.prog 3) x31 ) fun x32 =>
CM.pu (p1 (fun a => fieldAddrA Tryz.prog 62 a 2) x0) fun x33 =>
CM.rm (q1 (loadA Tryz.prog 3) x33 ) fun x34 =>
CM.pu (p2 (binA Tryz.prog .sub 3) x34 (.int .i64 1)) fun x35 =>
CM.call 113 [x32, (.int .i64 1), x35] fun x37 =>
CM.go 249856 [x0, x37]) (
CM.go 249856 [x0, (.bool false)])) (
CM.go 249856 [x0, (.bool false)])) (
CM.go 249856 [x0, (.bool false)])) (
CM.go 249856 [x0, (.bool false)])) (
CM.go 249856 [x0, (.bool false)])) (
CM.go 249856 [x0, (.bool false)])
theorem f61_ok : LeD (real E Mk Nk) f61 (fun xs m => run E (.fn 61) xs m) := apS_le fun _ => ap0_le fun _ => run_eq 400 rfl (by kernel_rfl) (by kernel_rfl)
noncomputable def g62_0 : List AV → CM := apS fun t0 => apS fun t1 => ap0 <|
CM.call 115 [t0] fun x0 =>
CM.pu (p1 (fun a => extractA a 0) x0) fun x1 =>
CM.pu (p1 (fun a => extractA a 1) x0) fun _ =>
CM.pu (p1 (buildA Tryz.prog 207) [(0, t1), (1, x1), (2, t0)]) fun x3 =>
CM.al (boxA x3) fun x4 =>
CM.ret (.tup [x4, (.int .i64 0)])
theorem g62_0_ok : LeD (real E Mk Nk) g62_0 (fun ts m => goR E Mk 253952 ts m) := apS_le fun _ => apS_le fun _ => ap0_le fun _ => goR_eq 400 (by kernel_rfl)
noncomputable def f62 : List AV → CM := apS fun a0 => apS fun a1 => ap0 <|
CM.pu (p2 (binA Tryz.prog .lss 3) a0 (.int .i64 1)) fun x0 =>
CM.ifv x0 (
CM.ret (.tup [(.ptr none), (.int .i64 1)])) (
CM.pu (p2 (binA Tryz.prog .gtr 3) a0 (.int .i64 16)) fun x1 =>
CM.ifv x1 (
CM.ret (.tup [(.ptr none), (.int .i64 1)])) (
CM.call 114 [a1] fun x2 =>
CM.pu (p1 (unA .not) x2) fun x3 =>
CM.cond x3 (
CM.ret (.tup [(.ptr none), (.int .i64 1)])) (
CM.go 253952 [a0, a1])))
theorem f62_ok : LeD (real E Mk Nk) f62 (fun xs m => run E (.fn 62) xs m) := apS_le fun _ => apS_le fun _ => ap0_le fun _ => run_eq 400 rfl (by kernel_rfl) (by kernel_rfl)
noncomputable def g63_0 : List AV → CM := apS fun t1 => apS fun t2 => apS fun t3 => ap0 <|
CM.pu (p1 (fun a => fieldAddrA Tryz.prog 140 a 8) t1) fun x0 =>
CM.rm (q1 (loadA Tryz.prog 3) x0 ) fun x1 =>
CM.call 6 [x1, (.int .i64 80)] fun x2 =>
CM.pu (p2 (binA Tryz.prog .add 3) (.int .i64 8) x2) fun x3 =>
CM.pu (p1 (fun a => fieldAddrA Tryz.prog 62 a 8) t3) fun x4 =>
CM.st (fun m => stV m x4 x3 1) <|
CM.pu (p1 (fun a => fieldAddrA Tryz.prog 140 a 9) t1) fun x6 =>
CM.rm (q1 (loadA Tryz.prog 3) x6 ) fun x7 =>
CM.call 6 [x7, (.int .i64 8)] fun x8 =>
CM.pu (p2 (binA Tryz.prog .add 3) (.int .i64 1) x8) fun x9 =>
CM.pu (p1 (fun a => fieldAddrA Tryz.prog 62 a 9) t3) fun x10 =>
CM.st (fun m => stV m x10 x9 1) <|
CM.pu (p1 (fun a => fieldAddrA Tryz.prog 140 a 10) t1) fun x12 =>
CM.rm (q1 (loadA Tryz.prog 3) x12 ) fun x13 =>
CM.call 6 [x13, (.int .i64 8)] fun x14 =>
CM.pu (p2 (binA Tryz.prog .add 3) (.int .i64 1) x14) fun x15 =>
CM.pu (p1 (fun a => fieldAddrA Tryz.prog 62 a 10) t3) fun x16 =>
CM.st (fun m => stV m x16 x15 1) <|
CM.pu (p1 (fun a => fieldAddrA Tryz.prog 140 a 11) t1) fun x18 =>
CM.rm (q1 (loadA Tryz.prog 3) x18 ) fun x19 =>
CM.call 6 [x19, (.int .i64 4)] fun x20 =>
CM.pu (p2 (binA Tryz.prog .add 3) (.int .i64 1) x20) fun x21 =>
CM.pu (p1 (fun a => fieldAddrA Tryz.prog 62 a 11) t3) fun x22 =>
CM.st (fun m => stV m x22 x21 1) <|
CM.pu (p1 (fun a => fieldAddrA Tryz.prog 140 a 12) t1) fun x24 =>
CM.rm (q1 (loadA Tryz.prog 3) x24 ) fun x25 =>
CM.call 6 [x25, (.int .i64 60)] fun x26 =>
CM.pu (p2 (binA Tryz.prog .add 3) (.int .i64 1) x26) fun x27 =>
CM.pu (p1 (convA Tryz.prog 3 30) x27) fun x28 =>
CM.pu (p1 (fun a => fieldAddrA Tryz.prog 62 a 12) t3) fun x29 =>
CM.st (fun m => stV m x29 x28 1) <|
CM.rm (q1 (loadA Tryz.prog 62) t3 ) fun x31 =>
CM.st (fun m => stV m t2 x31 13) <|
CM.resC Tryz.prog [ResultVar.cell 0 62] [t2]
theorem g63_0_ok : LeD (real E Mk Nk) g63_0 (fun ts m => goR E Mk 258048 ts m) := apS_le fun _ => apS_le fun _ => apS_le fun _ => ap0_le fun _ => goR_eq 400 (by kernel_rfl)
noncomputable def f63 : List AV → CM := apS fun a0 => ap0 <|
CM.al (boxA a0) fun x0 =>
CM.al (some (.cells [(.int .i64 0), (.int .i64 0), (.int .i64 0), (.int .i64 0), (.int .i64 0), (.int .i64 0), (.int .i64 0), (.int .i64 0), (.int .i64 0), (.int .i64 0), (.int .i64 0), (.int .i64 0), (.int .u64 0)] false, pB)) fun x1 =>
CM.pu (p1 (fun a => fieldAddrA Tryz.prog 140 a 0) x0) fun x2 =>
CM.rm (q1 (loadA Tryz.prog 3) x2 ) fun x3 =>
CM.memo fun m4 =>
CM.call 6 [x3, (.int .i64 5)] fun x5 =>
CM.pu (p2 (binA Tryz.prog .add 3) (.int .i64 1) x5) fun x7 =>
CM.pu (p1 (fun a => fieldAddrA Tryz.prog 140 a 2) x0) fun x8 =>
CM.rm (q1 (loadA Tryz.prog 3) x8 ) fun x9 =>
CM.chk (q1 (loadA Tryz.prog 3) x8 m4) x9 <|
CM.call 6 [x9, (.int .i64 8)] fun x11 =>
CM.pu (p2 (binA Tryz.prog .add 3) (.int .i64 4) x11) fun x13 =>
CM.pu (p1 (buildA Tryz.prog 62) [(0, x7), (2, x13)]) fun x14 =>
CM.al (some (.cells [(.int .i64 0), (.int .i64 0), (.int .i64 0), (.int .i64 0), (.int .i64 0), (.int .i64 0), (.int .i64 0), (.int .i64 0), (.int .i64 0), (.int .i64 0), (.int .i64 0), (.int .i64 0), (.int .u64 0)] false, pB)) fun x15 =>
CM.st (fun m => stV m x15 x14 13) <|
CM.pu (p1 (fun a => fieldAddrA Tryz.prog 140 a 1) x0) fun x19 =>
CM.rm (q1 (loadA Tryz.prog 3) x19 ) fun x20 =>
CM.pu (p1 (fun a => fieldAddrA Tryz.prog 62 a 0) x15) fun x21 =>
CM.rm (q1 (loadA Tryz.prog 3) x21 ) fun x22 =>
CM.pu (p1 (convA Tryz.prog 3 173) x22) fun x23 =>
CM.pu (p2 (binA Tryz.prog .shl 3) (.int .i64 1) x23) fun x24 =>
CM.pu (p2 (binA Tryz.prog .sub 3) x24 (.int .i64 1)) fun x25 =>
CM.call 6 [x20, x25] fun x26 =>
CM.pu (p2 (binA Tryz.prog .add 3) (.int .i64 1) x26) fun x27 =>
CM.pu (p2 (binA Tryz.prog .mul 3) (.int .i64 2) x27) fun x28 =>
CM.pu (p1 (fun a => fieldAddrA Tryz.prog 62 a 1) x15) fun x29 =>
CM.st (fun m => stV m x29 x28 1) <|
CM.pu (p1 (fun a => fieldAddrA Tryz.prog 62 a 2) x15) fun x31 =>
CM.rm (q1 (loadA Tryz.prog 3) x31 ) fun x32 =>
CM.pu (p1 (fun a => fieldAddrA Tryz.prog 140 a 3) x0) fun x33 =>
CM.rm (q1 (loadA Tryz.prog 3) x33 ) fun x34 =>
CM.call 6 [x34, (.int .i64 30)] fun x36 =>
CM.memo fun m37 =>
CM.chk (q1 (loadA Tryz.prog 3) x31 m37) x32 <|
CM.pu (p2 (binA Tryz.prog .add 3) x32 x36) fun x38 =>
CM.pu (p1 (fun a => fieldAddrA Tryz.prog 62 a 3) x15) fun x39 =>
CM.st (fun m => stV m x39 x38 1) <|
CM.pu (p1 (fun a => fieldAddrA Tryz.prog 140 a 4) x0) fun x43 =>
CM.rm (q1 (loadA Tryz.prog 3) x43 ) fun x44 =>
CM.call 6 [x44, (.int .i64 2)] fun x45 =>
CM.pu (p2 (binA Tryz.prog .add 3) (.int .i64 1) x45) fun x46 =>
CM.pu (p1 (fun a => fieldAddrA Tryz.prog 62 a 4) x15) fun x47 =>
CM.st (fun m => stV m x47 x46 1) <|
CM.pu (p1 (fun a => fieldAddrA Tryz.prog 140 a 5) x0) fun x49 =>
CM.rm (q1 (loadA Tryz.prog 3) x49 ) fun x50 =>
CM.call 6 [x50, (.int .i64 60)] fun x51 =>
CM.pu (p2 (binA Tryz.prog .add 3) (.int .i64 6) x51) fun x52 =>
CM.pu (p1 (fun a => fieldAddrA Tryz.prog 62 a 5) x15) fun x53 =>
CM.st (fun m => stV m x53 x52 1) <|
CM.pu (p1 (fun a => fieldAddrA Tryz.prog 140 a 6) x0) fun x55 =>
CM.rm (q1 (loadA Tryz.prog 3) x55 ) fun x56 =>
CM.call 6 [x56, (.int .i64 600)] fun x57 =>
CM.pu (p2 (binA Tryz.prog .add 3) (.int .i64 64) x57) fun x58 =>
CM.pu (p1 (fun a => fieldAddrA Tryz.prog 62 a 6) x15) fun x59 =>
CM.st (fun m => stV m x59 x58 1) <|
CM.pu (p1 (fun a => fieldAddrA Tryz.prog 62 a 7) x15) fun x61 =>
CM.st (fun m => stV m x61 (.int .i64 1048576) 1) <|
CM.pu (p1 (fun a => fieldAddrA Tryz.prog 140 a 7) x0) fun x63 =>
CM.rm (q1 (loadA Tryz.prog 3) x63 ) fun x64 =>
CM.pu (p2 (binA Tryz.prog .rem 3) x64 (.int .i64 4)) fun x65 =>
CM.pu (p2 (binA Tryz.prog .eql 3) x65 (.int .i64 3)) fun x66 =>
CM.cond x66 (
CM.pu (p1 (fun a => fieldAddrA Tryz.prog 140 a 7) x0) fun x67 =>
CM.rm (q1 (loadA Tryz.prog 3) x67 ) fun x68 =>
CM.call 6 [x68, (.int .i64 3000)] fun x69 =>
CM.pu (p1 (fun a => fieldAddrA Tryz.prog 62 a 7) x15) fun x70 =>
CM.st (fun m => stV m x70 x69 1) <|
CM.go 258048 [x0, x1, x15]) (
CM.go 258048 [x0, x1, x15])
theorem f63_ok : LeD (real E Mk Nk) f63 (fun xs m => run E (.fn 63) xs m) := apS_le fun _ => ap0_le fun _ => run_eq 400 rfl (by kernel_rfl) (by kernel_rfl)
noncomputable def f64 : List AV → CM := apS fun a0 => ap0 <|
CM.pu (p1 nnA a0) fun x0 =>
CM.pu (p1 (fun a => fieldAddrA Tryz.prog 137 a 3) x0) fun x1 =>
CM.rm (q1 (loadA Tryz.prog 30) x1 ) fun x2 =>
CM.ret x2
theorem f64_ok : LeD (real E Mk Nk) f64 (fun xs m => run E (.fn 64) xs m) := apS_le fun _ => ap0_le fun _ => run_eq 400 rfl (by kernel_rfl) (by kernel_rfl)
noncomputable def g65_0 : List AV → CM := apS fun t2 => apS fun t3 => apS fun t5 => apS fun t6 => apS fun t7 => apS fun t12 => apS fun t13 => apS fun t14 => ap0 <|
CM.rng (.fn (rsOf E 65)) t12 (loopOf E 65 0 ([.undef, .undef, t2, t3, .undef, t5, t6, t7, .undef, .undef, .undef, .undef, t12, t13, t14] ++ List.replicate 26 .undef)) 266240 [t2, t3, t5, t6, t7, t12, t13, t14]
theorem g65_0_ok : LeD (real E Mk Nk) g65_0 (fun ts m => goR E Mk 266240 ts m) := apS_le fun _ => apS_le fun _ => apS_le fun _ => apS_le fun _ => apS_le fun _ => apS_le fun _ => apS_le fun _ => apS_le fun _ => ap0_le fun _ => goR_eq 400 (by kernel_rfl)
noncomputable def g65_2 : List AV → CM := apS fun t5 => ap0 <|
CM.rm (q1 (loadA Tryz.prog 142) t5 ) fun x0 =>
CM.ret x0
theorem g65_2_ok : LeD (real E Mk Nk) g65_2 (fun ts m => goR E Mk 266242 ts m) := apS_le fun _ => ap0_le fun _ => goR_eq 400 (by kernel_rfl)
noncomputable def l65_0_none : List AV → CM := apS fun _ => apS fun _ => apS fun t5 => apS fun _ => apS fun _ => apS fun _ => apS fun _ => apS fun _ => ap0 <|
CM.go 266242 [t5]
theorem l65_0_none_ok : LeD (real E Mk Nk) l65_0_none (fun ts m => afR E Nk 266240 none ts m) := apS_le fun _ => apS_le fun _ => apS_le fun _ => apS_le fun _ => apS_le fun _ => apS_le fun _ => apS_le fun _ => apS_le fun _ => ap0_le fun _ => afR_eq 400 (by kernel_rfl)
noncomputable def f65 : List AV → CM := apS fun a0 => apS fun a1 => ap0 <|
CM.al (boxA a0) fun x0 =>
CM.al (boxA a1) fun x1 =>
CM.al (some (.cells [(.sl none 0 0 0 true)] false, pB)) fun x2 =>
CM.rm (q1 (loadA Tryz.prog 133) x0 ) fun x3 =>
CM.pu (p1 nnA x3) fun x4 =>
CM.pu (p1 (fun a => fieldAddrA Tryz.prog 207 a 1) x4) fun x5 =>
CM.rm (q1 (loadA Tryz.prog 200) x5 ) fun x6 =>
CM.call 116 [x6] fun x7 =>
CM.go 266240 [x0, x1, x2, .undef, .undef, x7, .undef, .undef]
theorem f65_ok : LeD (real E Mk Nk) f65 (fun xs m => run E (.fn 65) xs m) := apS_le fun _ => apS_le fun _ => ap0_le fun _ => run_eq 400 rfl (by kernel_rfl) (by kernel_rfl)
noncomputable def g66_0 : List AV → CM := apS fun t0 => apS fun t2 => ap0 <|
CM.call 118 [t0] fun x0 =>
CM.al (some (.cells [(.int .i64 0), (.int .u64 0), (.int .u64 0), (.int .u64 0), (.int .u64 0), (.int .i64 0), (.int .u64 0), (.int .i64 0), (.str []), (.str [])] false, pB)) fun x1 =>
CM.call 119 [x0, (.int .u8 11)] fun x2 =>
CM.pu (p1 (convA Tryz.prog 5 3) x2) fun x3 =>
CM.pu (p1 (fun a => fieldAddrA Tryz.prog 73 a 0) x1) fun x4 =>
CM.st (fun m => stV m x4 x3 1) <|
CM.pu (p1 (fun a => fieldAddrA Tryz.prog 73 a 0) x1) fun x6 =>
CM.rm (q1 (loadA Tryz.prog 3) x6 ) fun x7 =>
CM.call 120 [x7] fun x8 =>
CM.go 270337 [t2, x0, x1, x8, (.int .i64 1)]
theorem g66_0_ok : LeD (real E Mk Nk) g66_0 (fun ts m => goR E Mk 270336 ts m) := apS_le fun _ => apS_le fun _ => ap0_le fun _ => goR_eq 400 (by kernel_rfl)
noncomputable def g66_1 : List AV → CM := apS fun t2 => apS fun t4 => apS fun t5 => apS fun t6 => apS fun t7 => ap0 <|
CM.pu (p2 (binA Tryz.prog .lss 3) t7 (.int .i64 128)) fun x0 =>
CM.cond x0 (
CM.go 270338 [t2, t4, t5, t6, t7]) (
CM.go 270340 [t2, t4, t5])
theorem g66_1_ok : LeD (real E Mk Nk) g66_1 (fun ts m => goR E Mk 270337 ts m) := apS_le fun _ => apS_le fun _ => apS_le fun _ => apS_le fun _ => apS_le fun _ => ap0_le fun _ => goR_eq 400 (by kernel_rfl)
noncomputable def g66_2 : List AV → CM := apS fun t2 => apS fun t4 => apS fun t5 => apS fun t6 => apS fun t7 => ap0 <|
CM.pu (p2 (binA Tryz.prog .and 3) t6 t7) fun x0 =>
CM.pu (p2 (binA Tryz.prog .neq 3) x0 (.int .i64 0)) fun x1 =>
CM.cond x1 (
CM.call 121 [t4, t5, t7] fun _ =>
CM.go 270339 [t2, t4, t5, t6, t7]) (
CM.go 270339 [t2, t4, t5, t6, t7])
theorem g66_2_ok : LeD (real E Mk Nk) g66_2 (fun ts m => goR E Mk 270338 ts m) := apS_le fun _ => apS_le fun _ => apS_le fun _ => apS_le fun _ => apS_le fun _ => ap0_le fun _ => goR_eq 400 (by kernel_rfl)
noncomputable def g66_3 : List AV → CM := apS fun t2 => apS fun t4 => apS fun t5 => apS fun t6 => apS fun t7 => ap0 <|
CM.pu (p2 (binA Tryz.prog .shl 3) t7 (.int .u64 1)) fun x0 =>
CM.go 270337 [t2, t4, t5, t6, x0]
theorem g66_3_ok : LeD (real E Mk Nk) g66_3 (fun ts m => goR E Mk 270339 ts m) := apS_le fun _ => apS_le fun _ => apS_le fun _ => apS_le fun _ => apS_le fun _ => ap0_le fun _ => goR_eq 400 (by kernel_rfl)
noncomputable def g66_4 : List AV → CM := apS fun t2 => apS fun t4 => apS fun t5 => ap0 <|
CM.call 122 [t4] fun x0 =>
CM.pu (p2 (binA Tryz.prog .eql 25) x0 (.int .i64 0)) fun x1 =>
CM.ifv x1 (
CM.rm (q1 (loadA Tryz.prog 73) t5 ) fun x2 =>
CM.call 123 [x2] fun x3 =>
CM.pu (p1 (unA .not) x3) fun x4 =>
CM.cond x4 (
CM.go 270341 [t2, t5, (.int .i64 11)]) (
CM.go 270341 [t2, t5, x0])) (
CM.go 270341 [t2, t5, x0])
theorem g66_4_ok : LeD (real E Mk Nk) g66_4 (fun ts m => goR E Mk 270340 ts m) := apS_le fun _ => apS_le fun _ => apS_le fun _ => ap0_le fun _ => goR_eq 400 (by kernel_rfl)
noncomputable def g66_5 : List AV → CM := apS fun t2 => apS fun t5 => apS fun t8 => ap0 <|
CM.pu (p2 (binA Tryz.prog .neq 25) t8 (.int .i64 0)) fun x0 =>
CM.cond x0 (
CM.pu (p1 (buildA Tryz.prog 73) []) fun x1 =>
CM.st (fun m => stV m t2 x1 10) <|
CM.resC Tryz.prog [ResultVar.cell 0 73, ResultVar.tmp 1] [t2, t8]) (
CM.go 270342 [t2, t5])
theorem g66_5_ok : LeD (real E Mk Nk) g66_5 (fun ts m => goR E Mk 270341 ts m) := apS_le fun _ => apS_le fun _ => apS_le fun _ => ap0_le fun _ => goR_eq 400 (by kernel_rfl)
noncomputable def g66_6 : List AV → CM := apS fun t2 => apS fun t5 => ap0 <|
CM.rm (q1 (loadA Tryz.prog 73) t5 ) fun x0 =>
CM.st (fun m => stV m t2 x0 10) <|
CM.resC Tryz.prog [ResultVar.cell 0 73, ResultVar.tmp 1] [t2, (.int .i64 0)]
theorem g66_6_ok : LeD (real E Mk Nk) g66_6 (fun ts m => goR E Mk 270342 ts m) := apS_le fun _ => apS_le fun _ => ap0_le fun _ => goR_eq 400 (by kernel_rfl)
noncomputable def f66 : List AV → CM := apS fun a0 => ap0 <|
CM.al (some (.cells [(.int .i64 0), (.int .u64 0), (.int .u64 0), (.int .u64 0), (.int .u64 0), (.int .i64 0), (.int .u64 0), (.int .i64 0), (.str []), (.str [])] false, pB)) fun x0 =>
CM.pu (p1 (lenT Tryz.prog 68) a0) fun x1 =>
CM.pu (p2 (binA Tryz.prog .gtr 3) x1 (.int .i64 128)) fun x2 =>
CM.cond x2 (
CM.pu (p1 (buildA Tryz.prog 73) []) fun x3 =>
CM.st (fun m => stV m x0 x3 10) <|
CM.resC Tryz.prog [ResultVar.cell 0 73, ResultVar.tmp 1] [x0, (.int .i64 12)]) (
CM.go 270336 [a0, x0])
theorem f66_ok : LeD (real E Mk Nk) f66 (fun xs m => run E (.fn 66) xs m) := apS_le fun _ => ap0_le fun _ => run_eq 400 rfl (by kernel_rfl) (by kernel_rfl)
noncomputable def g67_0 : List AV → CM := apS fun t0 => apS fun t1 => apS fun t2 => ap0 <|
CM.pu (p1 nnA t0) fun x0 =>
CM.pu (p1 (fun a => fieldAddrA Tryz.prog 207 a 1) x0) fun x1 =>
CM.rm (q1 (loadA Tryz.prog 200) x1 ) fun x2 =>
CM.call 124 [x2, t1] fun x3 =>
CM.pu (p1 (fun a => extractA a 0) x3) fun x4 =>
CM.pu (p1 (fun a => extractA a 1) x3) fun x5 =>
CM.al (some (.cells [(.int .u64 0), (.int .u64 0), (.int .u64 0), (.sl none 0 0 0 true)] false, pB)) fun x6 =>
CM.st (fun m => stV m x6 x4 4) <|
CM.pu (p1 (unA .not) x5) fun x8 =>
CM.ifv x8 (
CM.pu (p1 nnA t0) fun x9 =>
CM.pu (p1 (fun a => fieldAddrA Tryz.prog 207 a 1) x9) fun x10 =>
CM.rm (q1 (loadA Tryz.prog 200) x10 ) fun x11 =>
CM.memo fun m12 =>
CM.call 125 [x11] fun x13 =>
CM.pu (p1 nnA t0) fun x15 =>
CM.pu (p1 (fun a => fieldAddrA Tryz.prog 207 a 2) x15) fun x16 =>
CM.rm (q1 (loadA Tryz.prog 3) x16 ) fun x17 =>
CM.chk (q1 (loadA Tryz.prog 3) x16 m12) x17 <|
CM.pu (p2 (binA Tryz.prog .geq 3) x13 x17) fun x18 =>
CM.cond x18 (
CM.pu (p1 nnA t0) fun x19 =>
CM.pu (p1 (fun a => fieldAddrA Tryz.prog 207 a 1) x19) fun x20 =>
CM.rm (q1 (loadA Tryz.prog 200) x20 ) fun x21 =>
CM.call 126 [t0] fun x23 =>
CM.memo fun m24 =>
CM.chk (q1 (loadA Tryz.prog 200) x20 m24) x21 <|
CM.call 117 [x21, x23] fun _ =>
CM.go 274433 [t0, t1, t2, x6]) (
CM.go 274433 [t0, t1, t2, x6])) (
CM.go 274433 [t0, t1, t2, x6])
theorem g67_0_ok : LeD (real E Mk Nk) g67_0 (fun ts m => goR E Mk 274432 ts m) := apS_le fun _ => apS_le fun _ => apS_le fun _ => ap0_le fun _ => goR_eq 400 (by kernel_rfl)
noncomputable def g67_1 : List AV → CM := apS fun t0 => apS fun t1 => apS fun t2 => apS fun t7 => ap0 <|
CM.pu (p1 (fun a => fieldAddrA Tryz.prog 205 a 0) t7) fun x0 =>
CM.st (fun m => stV m x0 t1 1) <|
CM.pu (p1 (fun a => fieldAddrA Tryz.prog 205 a 2) t7) fun x2 =>
CM.st (fun m => stV m x2 t2 1) <|
CM.pu (p1 nnA t0) fun x4 =>
CM.pu (p1 (fun a => fieldAddrA Tryz.prog 207 a 1) x4) fun x5 =>
CM.rm (q1 (loadA Tryz.prog 200) x5 ) fun x6 =>
CM.rm (q1 (loadA Tryz.prog 205) t7 ) fun x7 =>
CM.call 127 [x6, t1, x7] fun _ =>
CM.ret (.int .i64 0)
theorem g67_1_ok : LeD (real E Mk Nk) g67_1 (fun ts m => goR E Mk 274433 ts m) := apS_le fun _ => apS_le fun _ => apS_le fun _ => apS_le fun _ => ap0_le fun _ => goR_eq 400 (by kernel_rfl)
noncomputable def f67 : List AV → CM := apS fun a0 => apS fun a1 => apS fun a2 => ap0 <|
CM.call 114 [a1] fun x0 =>
CM.pu (p1 (unA .not) x0) fun x1 =>
CM.cond x1 (
CM.ret (.int .i64 1)) (
CM.go 274432 [a0, a1, a2])
theorem f67_ok : LeD (real E Mk Nk) f67 (fun xs m => run E (.fn 67) xs m) := apS_le fun _ => apS_le fun _ => apS_le fun _ => ap0_le fun _ => run_eq 400 rfl (by kernel_rfl) (by kernel_rfl)
noncomputable def g68_0 : List AV → CM := apS fun t0 => apS fun t1 => apS fun t2 => apS fun t3 => apS fun t8 => apS fun t11 => ap0 <|
CM.pu (p1 (fun a => fieldAddrA Tryz.prog 205 a 2) t11) fun x0 =>
CM.st (fun m => stV m x0 t3 1) <|
CM.pu (p1 nnA t0) fun x2 =>
CM.pu (p1 (fun a => fieldAddrA Tryz.prog 207 a 1) x2) fun x3 =>
CM.rm (q1 (loadA Tryz.prog 200) x3 ) fun x4 =>
CM.rm (q1 (loadA Tryz.prog 205) t11 ) fun x5 =>
CM.call 127 [x4, t1, x5] fun _ =>
CM.pu (p1 (fun a => fieldAddrA Tryz.prog 205 a 1) t11) fun x9 =>
CM.rm (q1 (loadA Tryz.prog 30) x9 ) fun x10 =>
CM.pu (p2 (binA Tryz.prog .add 30) x10 (.int .u64 1)) fun x11 =>
CM.pu (p2 (binA Tryz.prog .eql 30) t2 x11) fun x12 =>
CM.cond x12 (
CM.pu (p1 (buildA Tryz.prog 65) []) fun x13 =>
CM.st (fun m => stV m t8 x13 5) <|
CM.resC Tryz.prog [ResultVar.cell 0 65, ResultVar.tmp 1, ResultVar.tmp 2] [t8, (.bool false), (.int .i64 0)]) (
CM.pu (p1 (fun a => fieldAddrA Tryz.prog 205 a 1) t11) fun x15 =>
CM.rm (q1 (loadA Tryz.prog 30) x15 ) fun x16 =>
CM.pu (p2 (binA Tryz.prog .gtr 30) t2 x16) fun x17 =>
CM.cond x17 (
CM.pu (p1 (buildA Tryz.prog 65) []) fun x18 =>
CM.st (fun m => stV m t8 x18 5) <|
CM.resC Tryz.prog [ResultVar.cell 0 65, ResultVar.tmp 1, ResultVar.tmp 2] [t8, (.bool false), (.int .i64 52)]) (
CM.go 278529 [t2, t8, t11]))
theorem g68_0_ok : LeD (real E Mk Nk) g68_0 (fun ts m => goR E Mk 278528 ts m) := apS_le fun _ => apS_le fun _ => apS_le fun _ => apS_le fun _ => apS_le fun _ => apS_le fun _ => ap0_le fun _ => goR_eq 400 (by kernel_rfl)
noncomputable def g68_1 : List AV → CM := apS fun t2 => apS fun t8 => apS fun t11 => ap0 <|
CM.pu (p1 (fun a => fieldAddrA Tryz.prog 205 a 3) t11) fun x0 =>
CM.rm (q1 (loadA Tryz.prog 203) x0 ) fun x1 =>
CM.pu (p1 (lenT Tryz.prog 203) x1) fun x2 =>
CM.go 278530 [t2, t8, x1, x2, (.int .i64 0)]
theorem g68_1_ok : LeD (real E Mk Nk) g68_1 (fun ts m => goR E Mk 278529 ts m) := apS_le fun _ => apS_le fun _ => apS_le fun _ => ap0_le fun _ => goR_eq 400 (by kernel_rfl)
noncomputable def g68_2 : List AV → CM := apS fun t2 => apS fun t8 => apS fun t50 => apS fun t51 => apS fun t52 => ap0 <|
CM.pu (p2 (binA Tryz.prog .lss 3) t52 t51) fun x0 =>
CM.cond x0 (
CM.go 278531 [t2, t8, t50, t51, t52]) (
CM.go 278533 [t8])
theorem g68_2_ok : LeD (real E Mk Nk) g68_2 (fun ts m => goR E Mk 278530 ts m) := apS_le fun _ => apS_le fun _ => apS_le fun _ => apS_le fun _ => apS_le fun _ => ap0_le fun _ => goR_eq 400 (by kernel_rfl)
noncomputable def g68_3 : List AV → CM := apS fun t2 => apS fun t8 => apS fun t50 => apS fun t51 => apS fun t52 => ap0 <|
CM.pu (p2 (indexAddrA Tryz.prog 203) t50 t52) fun x0 =>
CM.rm (q1 (loadA Tryz.prog 223) x0 ) fun x1 =>
CM.al (some (.cells [(.int .u64 0), (.int .i64 0), (.int .u64 0), (.int .i64 0), (.int .u64 0), (.int .i64 0)] false, pB)) fun x2 =>
CM.st (fun m => stV m x2 x1 6) <|
CM.pu (p1 (fun a => fieldAddrA Tryz.prog 223 a 0) x2) fun x4 =>
CM.rm (q1 (loadA Tryz.prog 30) x4 ) fun x5 =>
CM.pu (p2 (binA Tryz.prog .eql 30) x5 t2) fun x6 =>
CM.cond x6 (
CM.pu (p1 (fun a => fieldAddrA Tryz.prog 223 a 1) x2) fun x7 =>
CM.rm (q1 (loadA Tryz.prog 65) x7 ) fun x8 =>
CM.st (fun m => stV m t8 x8 5) <|
CM.resC Tryz.prog [ResultVar.cell 0 65, ResultVar.tmp 1, ResultVar.tmp 2] [t8, (.bool true), (.int .i64 0)]) (
CM.go 278532 [t2, t8, t50, t51, t52])
theorem g68_3_ok : LeD (real E Mk Nk) g68_3 (fun ts m => goR E Mk 278531 ts m) := apS_le fun _ => apS_le fun _ => apS_le fun _ => apS_le fun _ => apS_le fun _ => ap0_le fun _ => goR_eq 400 (by kernel_rfl)
noncomputable def g68_4 : List AV → CM := apS fun t2 => apS fun t8 => apS fun t50 => apS fun t51 => apS fun t52 => ap0 <|
CM.pu (p2 (binA Tryz.prog .add 3) t52 (.int .i64 1)) fun x0 =>
CM.go 278530 [t2, t8, t50, t51, x0]
theorem g68_4_ok : LeD (real E Mk Nk) g68_4 (fun ts m => goR E Mk 278532 ts m) := apS_le fun _ => apS_le fun _ => apS_le fun _ => apS_le fun _ => apS_le fun _ => ap0_le fun _ => goR_eq 400 (by kernel_rfl)
noncomputable def g68_5 : List AV → CM := apS fun t8 => ap0 <|
CM.pu (p1 (buildA Tryz.prog 65) []) fun x0 =>
CM.st (fun m => stV m t8 x0 5) <|
CM.resC Tryz.prog [ResultVar.cell 0 65, ResultVar.tmp 1, ResultVar.tmp 2] [t8, (.bool false), (.int .i64 51)]
theorem g68_5_ok : LeD (real E Mk Nk) g68_5 (fun ts m => goR E Mk 278533 ts m) := apS_le fun _ => ap0_le fun _ => goR_eq 400 (by kernel_rfl)
noncomputable def f68 : List AV → CM := apS fun a0 => apS fun a1 => apS fun a2 => apS fun a3 => ap0 <|
CM.al (some (.cells [(.int .i64 0), (.int .u64 0), (.int .i64 0), (.int .u64 0), (.int .i64 0)] false, pB)) fun x0 =>
CM.pu (p1 nnA a0) fun x1 =>
CM.pu (p1 (fun a => fieldAddrA Tryz.prog 207 a 1) x1) fun x2 =>
CM.rm (q1 (loadA Tryz.prog 200) x2 ) fun x3 =>
CM.call 124 [x3, a1] fun x4 =>
CM.pu (p1 (fun a => extractA a 0) x4) fun x5 =>
CM.pu (p1 (fun a => extractA a 1) x4) fun x6 =>
CM.al (some (.cells [(.int .u64 0), (.int .u64 0), (.int .u64 0), (.sl none 0 0 0 true)] false, pB)) fun x7 =>
CM.st (fun m => stV m x7 x5 4) <|
CM.pu (p1 (unA .not) x6) fun x9 =>
CM.cond x9 (
CM.pu (p1 (buildA Tryz.prog 65) []) fun x10 =>
CM.st (fun m => stV m x0 x10 5) <|
CM.resC Tryz.prog [ResultVar.cell 0 65, ResultVar.tmp 1, ResultVar.tmp 2] [x0, (.bool false), (.int .i64 50)]) (
CM.go 278528 [a0, a1, a2, a3, x0, x7])
theorem f68_ok : LeD (real E Mk Nk) f68 (fun xs m => run E (.fn 68) xs m) := apS_le fun _ => apS_le fun _ => apS_le fun _ => apS_le fun _ => ap0_le fun _ => run_eq 400 rfl (by kernel_rfl) (by kernel_rfl)
noncomputable def g69_0 : List AV → CM := apS fun t4 => apS fun t5 => ap0 <|
CM.rm (q1 (loadA Tryz.prog 65) t5 ) fun x0 =>
CM.st (fun m => stV m t4 x0 5) <|
CM.resC Tryz.prog [ResultVar.cell 0 65] [t4]
theorem g69_0_ok : LeD (real E Mk Nk) g69_0 (fun ts m => goR E Mk 282624 ts m) := apS_le fun _ => apS_le fun _ => ap0_le fun _ => goR_eq 400 (by kernel_rfl)
noncomputable def f69 : List AV → CM := apS fun a0 => apS fun a1 => ap0 <|
CM.al (boxA a1) fun x0 =>
CM.al (some (.cells [(.int .i64 0), (.int .u64 0), (.int .i64 0), (.int .u64 0), (.int .i64 0)] false, pB)) fun x1 =>
CM.al (some (.cells [(.int .i64 0), (.int .u64 0), (.int .i64 0), (.int .u64 0), (.int .i64 0)] false, pB)) fun x2 =>
CM.pu (p1 (fun a => fieldAddrA Tryz.prog 73 a 0) x0) fun x3 =>
CM.rm (q1 (loadA Tryz.prog 3) x3 ) fun x4 =>
CM.pu (p2 (binA Tryz.prog .eql 3) x4 (.int .i64 2)) fun x5 =>
CM.cond x5 (
CM.pu (p1 nnA a0) fun x6 =>
CM.pu (p1 (fun a => fieldAddrA Tryz.prog 137 a 1) x6) fun x7 =>
CM.rm (q1 (loadA Tryz.prog 24) x7 ) fun x8 =>
CM.pu (p1 (fun a => fieldAddrA Tryz.prog 73 a 6) x0) fun x9 =>
CM.rm (q1 (loadA Tryz.prog 9) x9 ) fun x10 =>
CM.pu (p1 (fun a => fieldAddrA Tryz.prog 73 a 3) x0) fun x11 =>
CM.rm (q1 (loadA Tryz.prog 30) x11 ) fun x12 =>
CM.call 9 [x8, x10, x12] fun x14 =>
CM.pu (p1 (fun a => fieldAddrA Tryz.prog 65 a 0) x2) fun x16 =>
CM.st (fun m => stV m x16 x14 1) <|
CM.go 282624 [x1, x2]) (
CM.pu (p2 (binA Tryz.prog .eql 3) x4 (.int .i64 3)) fun x20 =>
CM.cond x20 (
CM.pu (p1 nnA a0) fun x21 =>
CM.pu (p1 (fun a => fieldAddrA Tryz.prog 137 a 1) x21) fun x22 =>
CM.rm (q1 (loadA Tryz.prog 24) x22 ) fun x23 =>
CM.pu (p1 (fun a => fieldAddrA Tryz.prog 73 a 6) x0) fun x24 =>
CM.rm (q1 (loadA Tryz.prog 9) x24 ) fun x25 =>
CM.call 10 [x23, x25] fun x27 =>
CM.pu (p1 (fun a => extractA a 0) x27) fun x29 =>
CM.pu (p1 (fun a => extractA a 1) x27) fun x30 =>
CM.pu (p1 (fun a => fieldAddrA Tryz.prog 65 a 1) x2) fun x31 =>
CM.st (fun m => stV m x31 x29 1) <|
CM.pu (p1 (fun a => fieldAddrA Tryz.prog 65 a 0) x2) fun x35 =>
CM.st (fun m => stV m x35 x30 1) <|
CM.go 282624 [x1, x2]) (
CM.pu (p2 (binA Tryz.prog .eql 3) x4 (.int .i64 4)) fun x39 =>
CM.cond x39 (
CM.pu (p1 nnA a0) fun x40 =>
CM.pu (p1 (fun a => fieldAddrA Tryz.prog 137 a 1) x40) fun x41 =>
CM.rm (q1 (loadA Tryz.prog 24) x41 ) fun x42 =>
CM.pu (p1 (fun a => fieldAddrA Tryz.prog 73 a 3) x0) fun x43 =>
CM.rm (q1 (loadA Tryz.prog 30) x43 ) fun x44 =>
CM.pu (p1 (fun a => fieldAddrA Tryz.prog 73 a 5) x0) fun x45 =>
CM.rm (q1 (loadA Tryz.prog 37) x45 ) fun x46 =>
CM.call 11 [x42, x44, x46] fun x48 =>
CM.pu (p1 (fun a => fieldAddrA Tryz.prog 65 a 0) x2) fun x50 =>
CM.st (fun m => stV m x50 x48 1) <|
CM.go 282624 [x1, x2]) (
CM.pu (p2 (binA Tryz.prog .eql 3) x4 (.int .i64 5)) fun x54 =>
CM.cond x54 (
CM.pu (p1 nnA a0) fun x55 =>
CM.pu (p1 (fun a => fieldAddrA Tryz.prog 137 a 1) x55) fun x56 =>
CM.rm (q1 (loadA Tryz.prog 24) x56 ) fun x57 =>
CM.pu (p1 (fun a => fieldAddrA Tryz.prog 73 a 3) x0) fun x58 =>
CM.rm (q1 (loadA Tryz.prog 30) x58 ) fun x59 =>
CM.pu (p1 (fun a => fieldAddrA Tryz.prog 73 a 5) x0) fun x60 =>
CM.rm (q1 (loadA Tryz.prog 37) x60 ) fun x61 =>
CM.call 20 [x57, x59, x61] fun x63 =>
CM.pu (p1 (fun a => fieldAddrA Tryz.prog 65 a 0) x2) fun x65 =>
CM.st (fun m => stV m x65 x63 1) <|
CM.go 282624 [x1, x2]) (
CM.pu (p2 (binA Tryz.prog .eql 3) x4 (.int .i64 6)) fun x69 =>
CM.cond x69 (
CM.pu (p1 nnA a0) fun x70 =>
CM.pu (p1 (fun a => fieldAddrA Tryz.prog 137 a 1) x70) fun x71 =>
CM.rm (q1 (loadA Tryz.prog 24) x71 ) fun x72 =>
CM.pu (p1 (fun a => fieldAddrA Tryz.prog 73 a 3) x0) fun x73 =>
CM.rm (q1 (loadA Tryz.prog 30) x73 ) fun x74 =>
CM.pu (p1 (fun a => fieldAddrA Tryz.prog 73 a 4) x0) fun x75 =>
CM.rm (q1 (loadA Tryz.prog 30) x75 ) fun x76 =>
CM.pu (p1 (fun a => fieldAddrA Tryz.prog 73 a 5) x0) fun x77 =>
CM.rm (q1 (loadA Tryz.prog 37) x77 ) fun x78 =>
CM.call 21 [x72, x74, x76, x78] fun x80 =>
CM.pu (p1 (fun a => fieldAddrA Tryz.prog 65 a 0) x2) fun x82 =>
CM.st (fun m => stV m x82 x80 1) <|
CM.go 282624 [x1, x2]) (
CM.pu (p2 (binA Tryz.prog .eql 3) x4 (.int .i64 7)) fun x86 =>
CM.cond x86 (
CM.pu (p1 nnA a0) fun x87 =>
CM.pu (p1 (fun a => fieldAddrA Tryz.prog 137 a 1) x87) fun x88 =>
CM.rm (q1 (loadA Tryz.prog 24) x88 ) fun x89 =>
CM.pu (p1 (fun a => fieldAddrA Tryz.prog 73 a 6) x0) fun x90 =>
CM.rm (q1 (loadA Tryz.prog 9) x90 ) fun x91 =>
CM.pu (p1 (fun a => fieldAddrA Tryz.prog 73 a 7) x0) fun x92 =>
CM.rm (q1 (loadA Tryz.prog 9) x92 ) fun x93 =>
CM.pu (p1 (fun a => fieldAddrA Tryz.prog 73 a 5) x0) fun x94 =>
CM.rm (q1 (loadA Tryz.prog 37) x94 ) fun x95 =>
CM.call 13 [x89, x91, x93, x95] fun x97 =>
CM.pu (p1 (fun a => fieldAddrA Tryz.prog 65 a 0) x2) fun x99 =>
CM.st (fun m => stV m x99 x97 1) <|
CM.go 282624 [x1, x2]) (
CM.pu (p2 (binA Tryz.prog .eql 3) x4 (.int .i64 8)) fun x103 =>
CM.cond x103 (
CM.pu (p1 nnA a0) fun x104 =>
CM.pu (p1 (fun a => fieldAddrA Tryz.prog 137 a 1) x104) fun x105 =>
CM.rm (q1 (loadA Tryz.prog 24) x105 ) fun x106 =>
CM.pu (p1 (fun a => fieldAddrA Tryz.prog 73 a 3) x0) fun x107 =>
CM.rm (q1 (loadA Tryz.prog 30) x107 ) fun x108 =>
CM.pu (p1 (fun a => fieldAddrA Tryz.prog 73 a 4) x0) fun x109 =>
CM.rm (q1 (loadA Tryz.prog 30) x109 ) fun x110 =>
CM.pu (p1 (fun a => fieldAddrA Tryz.prog 73 a 5) x0) fun x111 =>
CM.rm (q1 (loadA Tryz.prog 37) x111 ) fun x112 =>
CM.call 14 [x106, x108, x110, x112] fun x114 =>
CM.pu (p1 (fun a => extractA a 0) x114) fun x116 =>
CM.pu (p1 (fun a => extractA a 1) x114) fun x117 =>
CM.pu (p1 (fun a => fieldAddrA Tryz.prog 65 a 2) x2) fun x118 =>
CM.st (fun m => stV m x118 x116 3) <|
CM.pu (p1 (fun a => fieldAddrA Tryz.prog 65 a 0) x2) fun x122 =>
CM.st (fun m => stV m x122 x117 1) <|
CM.go 282624 [x1, x2]) (
CM.pu (p2 (binA Tryz.prog .eql 3) x4 (.int .i64 9)) fun x126 =>
CM.cond x126 (
CM.pu (p1 nnA a0) fun x127 =>
CM.pu (p1 (fun a => fieldAddrA Tryz.prog 137 a 1) x127) fun x128 =>
CM.rm (q1 (loadA Tryz.prog 24) x128 ) fun x129 =>
CM.pu (p1 (fun a => fieldAddrA Tryz.prog 73 a 3) x0) fun x130 =>
CM.rm (q1 (loadA Tryz.prog 30) x130 ) fun x131 =>
CM.call 16 [x129, x131] fun x133 =>
CM.pu (p1 (fun a => extractA a 0) x133) fun x135 =>
CM.pu (p1 (fun a => extractA a 1) x133) fun x136 =>
CM.pu (p1 (fun a => fieldAddrA Tryz.prog 65 a 2) x2) fun x137 =>
CM.st (fun m => stV m x137 x135 3) <|
CM.pu (p1 (fun a => fieldAddrA Tryz.prog 65 a 0) x2) fun x141 =>
CM.st (fun m => stV m x141 x136 1) <|
CM.go 282624 [x1, x2]) (
CM.pu (p2 (binA Tryz.prog .eql 3) x4 (.int .i64 10)) fun x145 =>
CM.cond x145 (
CM.pu (p1 nnA a0) fun x146 =>
CM.pu (p1 (fun a => fieldAddrA Tryz.prog 137 a 1) x146) fun x147 =>
CM.rm (q1 (loadA Tryz.prog 24) x147 ) fun x148 =>
CM.pu (p1 (fun a => fieldAddrA Tryz.prog 73 a 6) x0) fun x149 =>
CM.rm (q1 (loadA Tryz.prog 9) x149 ) fun x150 =>
CM.call 33 [x148, x150] fun x152 =>
CM.pu (p1 (fun a => extractA a 0) x152) fun x154 =>
CM.pu (p1 (fun a => extractA a 1) x152) fun x155 =>
CM.pu (p1 (fun a => fieldAddrA Tryz.prog 65 a 2) x2) fun x156 =>
CM.st (fun m => stV m x156 x154 3) <|
CM.pu (p1 (fun a => fieldAddrA Tryz.prog 65 a 0) x2) fun x160 =>
CM.st (fun m => stV m x160 x155 1) <|
CM.go 282624 [x1, x2]) (
CM.pu (p2 (binA Tryz.prog .eql 3) x4 (.int .i64 11)) fun x164 =>
CM.cond x164 (
CM.pu (p1 nnA a0) fun x165 =>
CM.pu (p1 (fun a => fieldAddrA Tryz.prog 137 a 1) x165) fun x166 =>
CM.rm (q1 (loadA Tryz.prog 24) x166 ) fun x167 =>
CM.pu (p1 (fun a => fieldAddrA Tryz.prog 73 a 6) x0) fun x168 =>
CM.rm (q1 (loadA Tryz.prog 9) x168 ) fun x169 =>
CM.pu (p1 (fun a => fieldAddrA Tryz.prog 73 a 7) x0) fun x170 =>
CM.rm (q1 (loadA Tryz.prog 9) x170 ) fun x171 =>
CM.call 17 [x167, x169, x171] fun x173 =>
CM.pu (p1 (fun a => extractA a 0) x173) fun x175 =>
CM.pu (p1 (fun a => extractA a 1) x173) fun x176 =>
CM.pu (p1 (fun a => fieldAddrA Tryz.prog 65 a 2) x2) fun x177 =>
CM.st (fun m => stV m x177 x175 3) <|
CM.pu (p1 (fun a => fieldAddrA Tryz.prog 65 a 0) x2) fun x181 =>
CM.st (fun m => stV m x181 x176 1) <|
CM.go 282624 [x1, x2]) (
CM.go 282624 [x1, x2]))))))))))
theorem f69_ok : LeD (real E Mk Nk) f69 (fun xs m => run E (.fn 69) xs m) := apS_le fun _ => apS_le fun _ => ap0_le fun _ => run_eq 400 rfl (by kernel_rfl) (by kernel_rfl)
noncomputable def g70_0 : List AV → CM := apS fun t0 => apS fun t1 => apS fun t2 => apS fun t7 => apS fun t9 => ap0 <|
CM.pu (p1 (fun a => fieldAddrA Tryz.prog 205 a 1) t9) fun x0 =>
CM.st (fun m => stV m x0 t2 1) <|
CM.al (some (.cells [] false, sB 6 0)) fun x2 =>
CM.pu (p1 (fun a => fieldAddrA Tryz.prog 205 a 3) t9) fun x3 =>
CM.rm (q1 (loadA Tryz.prog 203) x3 ) fun x4 =>
CM.ef (apE 6 48 x2 x4) fun x5 =>
CM.rm (q1 (loadA Tryz.prog 65) t7 ) fun x6 =>
CM.pu (p1 (buildA Tryz.prog 223) [(0, t2), (1, x6)]) fun x7 =>
CM.al (bsA 6 1 [(.int .u64 0), (.int .i64 0), (.int .u64 0), (.int .i64 0), (.int .u64 0), (.int .i64 0)] [(0, x7)]) fun x8 =>
CM.ef (apE 6 48 x5 x8) fun x9 =>
CM.pu (p1 (lenT Tryz.prog 203) x9) fun x10 =>
CM.pu (p2 (binA Tryz.prog .sub 3) x10 (.int .i64 4)) fun x11 =>
CM.pu (p2 maxA (.int .i64 0) x11) fun x12 =>
CM.pu (p2 (fun a l => sliceA Tryz.prog 203 a (some l) none) x9 x12) fun x13 =>
CM.pu (p1 (fun a => fieldAddrA Tryz.prog 205 a 3) t9) fun x14 =>
CM.st (fun m => stV m x14 x13 1) <|
CM.pu (p1 nnA t0) fun x16 =>
CM.pu (p1 (fun a => fieldAddrA Tryz.prog 207 a 1) x16) fun x17 =>
CM.rm (q1 (loadA Tryz.prog 200) x17 ) fun x18 =>
CM.rm (q1 (loadA Tryz.prog 205) t9 ) fun x19 =>
CM.call 127 [x18, t1, x19] fun _ =>
CM.ret (.bool true)
theorem g70_0_ok : LeD (real E Mk Nk) g70_0 (fun ts m => goR E Mk 286720 ts m) := apS_le fun _ => apS_le fun _ => apS_le fun _ => apS_le fun _ => apS_le fun _ => ap0_le fun _ => goR_eq 400 (by kernel_rfl)
noncomputable def f70 : List AV → CM := apS fun a0 => apS fun a1 => apS fun a2 => apS fun a3 => ap0 <|
CM.al (boxA a3) fun x0 =>
CM.pu (p1 nnA a0) fun x1 =>
CM.pu (p1 (fun a => fieldAddrA Tryz.prog 207 a 1) x1) fun x2 =>
CM.rm (q1 (loadA Tryz.prog 200) x2 ) fun x3 =>
CM.call 124 [x3, a1] fun x4 =>
CM.pu (p1 (fun a => extractA a 0) x4) fun x5 =>
CM.pu (p1 (fun a => extractA a 1) x4) fun x6 =>
CM.al (some (.cells [(.int .u64 0), (.int .u64 0), (.int .u64 0), (.sl none 0 0 0 true)] false, pB)) fun x7 =>
CM.st (fun m => stV m x7 x5 4) <|
CM.pu (p1 (unA .not) x6) fun x9 =>
CM.ifv x9 (
CM.ret (.bool false)) (
CM.pu (p1 (fun a => fieldAddrA Tryz.prog 205 a 1) x7) fun x10 =>
CM.rm (q1 (loadA Tryz.prog 30) x10 ) fun x11 =>
CM.pu (p2 (binA Tryz.prog .add 30) x11 (.int .u64 1)) fun x12 =>
CM.pu (p2 (binA Tryz.prog .neq 30) a2 x12) fun x13 =>
CM.cond x13 (
CM.ret (.bool false)) (
CM.go 286720 [a0, a1, a2, x0, x7]))
theorem f70_ok : LeD (real E Mk Nk) f70 (fun xs m => run E (.fn 70) xs m) := apS_le fun _ => apS_le fun _ => apS_le fun _ => apS_le fun _ => ap0_le fun _ => run_eq 400 rfl (by kernel_rfl) (by kernel_rfl)
end Go.Proofs.YtamooapjonlcdaaGreat.T
