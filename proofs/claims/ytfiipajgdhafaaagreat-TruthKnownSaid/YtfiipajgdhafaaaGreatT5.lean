/- Functions as trees, printed by our own program (wip/tools/gen3.lean). -/
import Derived.Test.YtfiipajgdhafaaaGreatT0
namespace Go.Proofs.YtfiipajgdhafaaaGreat.T
open Go Go.Abs Go.Proofs.YtfiipajgdhafaaaGreat
set_option maxRecDepth 10000
noncomputable def g113_0 : List AV → CM := apS fun t0 => apS fun t3 => ap0 <|
CM.pu (p1 (lenT Tryz.prog 9) t0) fun x0 =>
CM.pu (p2 (binA Tryz.prog .lss 3) t3 x0) fun x1 =>
CM.cond x1 (
CM.go 462849 [t0, t3]) (
CM.go 462851 [t0])
theorem g113_0_ok : LeD (real E Mk Nk) g113_0 (fun ts m => goR E Mk 462848 ts m) := apS_le fun _ => apS_le fun _ => ap0_le fun _ => goR_eq 400 (by kernel_rfl)
noncomputable def g113_1 : List AV → CM := apS fun t0 => apS fun t3 => ap0 <|
CM.pu (p2 (indexA Tryz.prog 9) t0 t3) fun x0 =>
CM.pu (p2 (binA Tryz.prog .lss 5) x0 (.int .u8 65)) fun x1 =>
CM.ifv x1 (
CM.ret (.bool false)) (
CM.pu (p2 (indexA Tryz.prog 9) t0 t3) fun x2 =>
CM.pu (p2 (binA Tryz.prog .gtr 5) x2 (.int .u8 90)) fun x3 =>
CM.cond x3 (
CM.ret (.bool false)) (
CM.go 462850 [t0, t3]))
theorem g113_1_ok : LeD (real E Mk Nk) g113_1 (fun ts m => goR E Mk 462849 ts m) := apS_le fun _ => apS_le fun _ => ap0_le fun _ => goR_eq 400 (by kernel_rfl)
noncomputable def g113_2 : List AV → CM := apS fun t0 => apS fun t3 => ap0 <|
CM.pu (p2 (binA Tryz.prog .add 3) t3 (.int .i64 1)) fun x0 =>
CM.go 462848 [t0, x0]
theorem g113_2_ok : LeD (real E Mk Nk) g113_2 (fun ts m => goR E Mk 462850 ts m) := apS_le fun _ => apS_le fun _ => ap0_le fun _ => goR_eq 400 (by kernel_rfl)
noncomputable def g113_3 : List AV → CM := apS fun t0 => ap0 <|
CM.pu (p1 (lenT Tryz.prog 9) t0) fun x0 =>
CM.pu (p2 (binA Tryz.prog .eql 3) x0 (.int .i64 3)) fun x1 =>
CM.ret x1
theorem g113_3_ok : LeD (real E Mk Nk) g113_3 (fun ts m => goR E Mk 462851 ts m) := apS_le fun _ => ap0_le fun _ => goR_eq 400 (by kernel_rfl)
noncomputable def f113 : List AV → CM := apS fun a0 => ap0 <|
CM.go 462848 [a0, (.int .i64 0)]
theorem f113_ok : LeD (real E Mk Nk) f113 (fun xs m => run E (.fn 113) xs m) := apS_le fun _ => ap0_le fun _ => run_eq 400 rfl (by kernel_rfl) (by kernel_rfl)
noncomputable def g114_0 : List AV → CM := apS fun t1 => apS fun t7 => apS fun t8 => apS fun t9 => ap0 <|
CM.pu (p2 (binA Tryz.prog .lss 3) t9 t8) fun x0 =>
CM.cond x0 (
CM.go 466945 [t1, t7, t8, t9]) (
CM.go 466948 [])
theorem g114_0_ok : LeD (real E Mk Nk) g114_0 (fun ts m => goR E Mk 466944 ts m) := apS_le fun _ => apS_le fun _ => apS_le fun _ => apS_le fun _ => ap0_le fun _ => goR_eq 400 (by kernel_rfl)
noncomputable def g114_1 : List AV → CM := apS fun t1 => apS fun t7 => apS fun t8 => apS fun t9 => ap0 <|
CM.pu (p2 (indexAddrA Tryz.prog 90) t7 t9) fun x0 =>
CM.rm (q1 (loadA Tryz.prog 136) x0 ) fun x1 =>
CM.al (some (.cells [(.str []), (.str []), (.int .i64 0), (.int .u64 0), (.int .i64 0), (.int .i64 0), (.int .u64 0), (.int .i64 0), (.int .u64 0)] false, pB)) fun x2 =>
CM.st (fun m => stV m x2 x1 9) <|
CM.pu (p2 (binA Tryz.prog .eql 3) t9 (.int .i64 0)) fun x4 =>
CM.ifv x4 (
CM.go 466946 [t1, x2, (.bool true), t7, t8, t9]) (
CM.pu (p1 (fun a => fieldAddrA Tryz.prog 93 a 1) t1) fun x5 =>
CM.rm (q1 (loadA Tryz.prog 90) x5 ) fun x6 =>
CM.pu (p2 (binA Tryz.prog .sub 3) t9 (.int .i64 1)) fun x7 =>
CM.pu (p2 (indexAddrA Tryz.prog 90) x6 x7) fun x8 =>
CM.pu (p1 (fun a => fieldAddrA Tryz.prog 136 a 0) x8) fun x9 =>
CM.rm (q1 (loadA Tryz.prog 9) x9 ) fun x10 =>
CM.pu (p1 (fun a => fieldAddrA Tryz.prog 136 a 0) x2) fun x11 =>
CM.rm (q1 (loadA Tryz.prog 9) x11 ) fun x12 =>
CM.pu (p2 (binA Tryz.prog .lss 9) x10 x12) fun x13 =>
CM.ifv x13 (
CM.go 466946 [t1, x2, (.bool true), t7, t8, t9]) (
CM.pu (p1 (fun a => fieldAddrA Tryz.prog 93 a 1) t1) fun x14 =>
CM.rm (q1 (loadA Tryz.prog 90) x14 ) fun x15 =>
CM.pu (p2 (binA Tryz.prog .sub 3) t9 (.int .i64 1)) fun x16 =>
CM.pu (p2 (indexAddrA Tryz.prog 90) x15 x16) fun x17 =>
CM.pu (p1 (fun a => fieldAddrA Tryz.prog 136 a 0) x17) fun x18 =>
CM.rm (q1 (loadA Tryz.prog 9) x18 ) fun x19 =>
CM.pu (p1 (fun a => fieldAddrA Tryz.prog 136 a 0) x2) fun x20 =>
CM.rm (q1 (loadA Tryz.prog 9) x20 ) fun x21 =>
CM.pu (p2 (binA Tryz.prog .eql 9) x19 x21) fun x22 =>
CM.ifv x22 (
CM.pu (p1 (fun a => fieldAddrA Tryz.prog 93 a 1) t1) fun x23 =>
CM.rm (q1 (loadA Tryz.prog 90) x23 ) fun x24 =>
CM.pu (p2 (binA Tryz.prog .sub 3) t9 (.int .i64 1)) fun x25 =>
CM.pu (p2 (indexAddrA Tryz.prog 90) x24 x25) fun x26 =>
CM.pu (p1 (fun a => fieldAddrA Tryz.prog 136 a 1) x26) fun x27 =>
CM.rm (q1 (loadA Tryz.prog 9) x27 ) fun x28 =>
CM.pu (p1 (fun a => fieldAddrA Tryz.prog 136 a 1) x2) fun x29 =>
CM.rm (q1 (loadA Tryz.prog 9) x29 ) fun x30 =>
CM.pu (p2 (binA Tryz.prog .lss 9) x28 x30) fun x31 =>
CM.go 466946 [t1, x2, x31, t7, t8, t9]) (
CM.go 466946 [t1, x2, (.bool false), t7, t8, t9])))
theorem g114_1_ok : LeD (real E Mk Nk) g114_1 (fun ts m => goR E Mk 466945 ts m) := apS_le fun _ => apS_le fun _ => apS_le fun _ => apS_le fun _ => ap0_le fun _ => goR_eq 400 (by kernel_rfl)
noncomputable def g114_2 : List AV → CM := apS fun t1 => apS fun t4 => apS fun t5 => apS fun t7 => apS fun t8 => apS fun t9 => ap0 <|
CM.pu (p1 (unA .not) t5) fun x0 =>
CM.ifv x0 (
CM.ret (.bool false)) (
CM.rm (q1 (loadA Tryz.prog 93) t1 ) fun x1 =>
CM.pu (p1 (fun a => fieldAddrA Tryz.prog 136 a 0) t4) fun x2 =>
CM.rm (q1 (loadA Tryz.prog 9) x2 ) fun x3 =>
CM.call 160 [x1, x3] fun x4 =>
CM.pu (p1 (unA .not) x4) fun x5 =>
CM.ifv x5 (
CM.ret (.bool false)) (
CM.rm (q1 (loadA Tryz.prog 93) t1 ) fun x6 =>
CM.pu (p1 (fun a => fieldAddrA Tryz.prog 136 a 1) t4) fun x7 =>
CM.rm (q1 (loadA Tryz.prog 9) x7 ) fun x8 =>
CM.call 160 [x6, x8] fun x9 =>
CM.pu (p1 (unA .not) x9) fun x10 =>
CM.ifv x10 (
CM.ret (.bool false)) (
CM.pu (p1 (fun a => fieldAddrA Tryz.prog 136 a 0) t4) fun x11 =>
CM.rm (q1 (loadA Tryz.prog 9) x11 ) fun x12 =>
CM.pu (p1 (fun a => fieldAddrA Tryz.prog 136 a 1) t4) fun x13 =>
CM.rm (q1 (loadA Tryz.prog 9) x13 ) fun x14 =>
CM.pu (p2 (binA Tryz.prog .eql 9) x12 x14) fun x15 =>
CM.ifv x15 (
CM.ret (.bool false)) (
CM.pu (p1 (fun a => fieldAddrA Tryz.prog 136 a 2) t4) fun x16 =>
CM.rm (q1 (loadA Tryz.prog 38) x16 ) fun x17 =>
CM.call 157 [x17] fun x18 =>
CM.pu (p2 (binA Tryz.prog .neq 23) x18 (.int .i64 0)) fun x19 =>
CM.ifv x19 (
CM.ret (.bool false)) (
CM.pu (p1 (fun a => fieldAddrA Tryz.prog 136 a 3) t4) fun x20 =>
CM.rm (q1 (loadA Tryz.prog 36) x20 ) fun x21 =>
CM.call 161 [x21] fun x22 =>
CM.pu (p2 (binA Tryz.prog .lss 3) x22 (.int .i64 0)) fun x23 =>
CM.ifv x23 (
CM.ret (.bool false)) (
CM.pu (p1 (fun a => fieldAddrA Tryz.prog 136 a 4) t4) fun x24 =>
CM.rm (q1 (loadA Tryz.prog 36) x24 ) fun x25 =>
CM.call 161 [x25] fun x26 =>
CM.pu (p2 (binA Tryz.prog .gtr 3) x26 (.int .i64 0)) fun x27 =>
CM.cond x27 (
CM.ret (.bool false)) (
CM.go 466947 [t1, t7, t8, t9])))))))
theorem g114_2_ok : LeD (real E Mk Nk) g114_2 (fun ts m => goR E Mk 466946 ts m) := apS_le fun _ => apS_le fun _ => apS_le fun _ => apS_le fun _ => apS_le fun _ => apS_le fun _ => ap0_le fun _ => goR_eq 400 (by kernel_rfl)
noncomputable def g114_3 : List AV → CM := apS fun t1 => apS fun t7 => apS fun t8 => apS fun t9 => ap0 <|
CM.pu (p2 (binA Tryz.prog .add 3) t9 (.int .i64 1)) fun x0 =>
CM.go 466944 [t1, t7, t8, x0]
theorem g114_3_ok : LeD (real E Mk Nk) g114_3 (fun ts m => goR E Mk 466947 ts m) := apS_le fun _ => apS_le fun _ => apS_le fun _ => apS_le fun _ => ap0_le fun _ => goR_eq 400 (by kernel_rfl)
noncomputable def g114_4 : List AV → CM := ap0 <|
CM.ret (.bool true)
theorem g114_4_ok : LeD (real E Mk Nk) g114_4 (fun ts m => goR E Mk 466948 ts m) := ap0_le fun _ => goR_eq 400 (by kernel_rfl)
noncomputable def f114 : List AV → CM := apS fun a0 => ap0 <|
CM.al (boxA a0) fun x0 =>
CM.pu (p1 (fun a => fieldAddrA Tryz.prog 93 a 1) x0) fun x1 =>
CM.rm (q1 (loadA Tryz.prog 90) x1 ) fun x2 =>
CM.pu (p1 (lenT Tryz.prog 90) x2) fun x3 =>
CM.go 466944 [x0, x2, x3, (.int .i64 0)]
theorem f114_ok : LeD (real E Mk Nk) f114 (fun xs m => run E (.fn 114) xs m) := apS_le fun _ => ap0_le fun _ => run_eq 400 rfl (by kernel_rfl) (by kernel_rfl)
noncomputable def g115_0 : List AV → CM := apS fun t1 => apS fun t3 => apS fun t7 => apS fun t8 => apS fun t9 => ap0 <|
CM.pu (p2 (binA Tryz.prog .lss 3) t9 t8) fun x0 =>
CM.cond x0 (
CM.go 471041 [t1, t3, t7, t8, t9]) (
CM.go 471044 [t1])
theorem g115_0_ok : LeD (real E Mk Nk) g115_0 (fun ts m => goR E Mk 471040 ts m) := apS_le fun _ => apS_le fun _ => apS_le fun _ => apS_le fun _ => apS_le fun _ => ap0_le fun _ => goR_eq 400 (by kernel_rfl)
noncomputable def g115_1 : List AV → CM := apS fun t1 => apS fun t3 => apS fun t7 => apS fun t8 => apS fun t9 => ap0 <|
CM.pu (p2 (indexAddrA Tryz.prog 91) t7 t9) fun x0 =>
CM.rm (q1 (loadA Tryz.prog 140) x0 ) fun x1 =>
CM.al (some (.cells [(.int .u64 0), (.str []), (.int .i64 0), (.int .u64 0)] false, pB)) fun x2 =>
CM.st (fun m => stV m x2 x1 4) <|
CM.pu (p1 (fun a => fieldAddrA Tryz.prog 140 a 0) x2) fun x4 =>
CM.rm (q1 (loadA Tryz.prog 26) x4 ) fun x5 =>
CM.pu (p2 (binA Tryz.prog .leq 26) x5 t3) fun x6 =>
CM.ifv x6 (
CM.ret (.bool false)) (
CM.pu (p1 (fun a => fieldAddrA Tryz.prog 140 a 0) x2) fun x7 =>
CM.rm (q1 (loadA Tryz.prog 26) x7 ) fun x8 =>
CM.pu (p1 (fun a => fieldAddrA Tryz.prog 93 a 3) t1) fun x9 =>
CM.rm (q1 (loadA Tryz.prog 26) x9 ) fun x10 =>
CM.pu (p2 (binA Tryz.prog .gtr 26) x8 x10) fun x11 =>
CM.ifv x11 (
CM.ret (.bool false)) (
CM.rm (q1 (loadA Tryz.prog 93) t1 ) fun x12 =>
CM.pu (p1 (fun a => fieldAddrA Tryz.prog 140 a 1) x2) fun x13 =>
CM.rm (q1 (loadA Tryz.prog 9) x13 ) fun x14 =>
CM.call 160 [x12, x14] fun x15 =>
CM.pu (p1 (unA .not) x15) fun x16 =>
CM.ifv x16 (
CM.ret (.bool false)) (
CM.pu (p1 (fun a => fieldAddrA Tryz.prog 140 a 2) x2) fun x17 =>
CM.rm (q1 (loadA Tryz.prog 36) x17 ) fun x18 =>
CM.call 161 [x18] fun x19 =>
CM.pu (p2 (binA Tryz.prog .lss 3) x19 (.int .i64 0)) fun x20 =>
CM.cond x20 (
CM.ret (.bool false)) (
CM.go 471042 [t1, x2, t7, t8, t9]))))
theorem g115_1_ok : LeD (real E Mk Nk) g115_1 (fun ts m => goR E Mk 471041 ts m) := apS_le fun _ => apS_le fun _ => apS_le fun _ => apS_le fun _ => apS_le fun _ => ap0_le fun _ => goR_eq 400 (by kernel_rfl)
noncomputable def g115_2 : List AV → CM := apS fun t1 => apS fun t5 => apS fun t7 => apS fun t8 => apS fun t9 => ap0 <|
CM.pu (p1 (fun a => fieldAddrA Tryz.prog 140 a 0) t5) fun x0 =>
CM.rm (q1 (loadA Tryz.prog 26) x0 ) fun x1 =>
CM.go 471043 [t1, x1, t7, t8, t9]
theorem g115_2_ok : LeD (real E Mk Nk) g115_2 (fun ts m => goR E Mk 471042 ts m) := apS_le fun _ => apS_le fun _ => apS_le fun _ => apS_le fun _ => apS_le fun _ => ap0_le fun _ => goR_eq 400 (by kernel_rfl)
noncomputable def g115_3 : List AV → CM := apS fun t1 => apS fun t3 => apS fun t7 => apS fun t8 => apS fun t9 => ap0 <|
CM.pu (p2 (binA Tryz.prog .add 3) t9 (.int .i64 1)) fun x0 =>
CM.go 471040 [t1, t3, t7, t8, x0]
theorem g115_3_ok : LeD (real E Mk Nk) g115_3 (fun ts m => goR E Mk 471043 ts m) := apS_le fun _ => apS_le fun _ => apS_le fun _ => apS_le fun _ => apS_le fun _ => ap0_le fun _ => goR_eq 400 (by kernel_rfl)
noncomputable def g115_4 : List AV → CM := apS fun t1 => ap0 <|
CM.pu (p1 (fun a => fieldAddrA Tryz.prog 93 a 3) t1) fun x0 =>
CM.rm (q1 (loadA Tryz.prog 26) x0 ) fun x1 =>
CM.pu (p2 (binA Tryz.prog .leq 26) x1 (.int .u64 72057594037927935)) fun x2 =>
CM.ret x2
theorem g115_4_ok : LeD (real E Mk Nk) g115_4 (fun ts m => goR E Mk 471044 ts m) := apS_le fun _ => ap0_le fun _ => goR_eq 400 (by kernel_rfl)
noncomputable def f115 : List AV → CM := apS fun a0 => ap0 <|
CM.al (boxA a0) fun x0 =>
CM.pu (p1 (fun a => fieldAddrA Tryz.prog 93 a 2) x0) fun x1 =>
CM.rm (q1 (loadA Tryz.prog 91) x1 ) fun x2 =>
CM.pu (p1 (lenT Tryz.prog 91) x2) fun x3 =>
CM.go 471040 [x0, (.int .u64 0), x2, x3, (.int .i64 0)]
theorem f115_ok : LeD (real E Mk Nk) f115 (fun xs m => run E (.fn 115) xs m) := apS_le fun _ => ap0_le fun _ => run_eq 400 rfl (by kernel_rfl) (by kernel_rfl)
noncomputable def g116_0 : List AV → CM := apS fun t2 => apS fun t3 => apS fun t5 => apS fun t14 => apS fun t15 => apS fun t16 => ap0 <|
CM.pu (p2 (binA Tryz.prog .lss 3) t16 t15) fun x0 =>
CM.cond x0 (
CM.go 475137 [t2, t3, t5, t14, t15, t16]) (
CM.go 475139 [t2, t3, t5])
theorem g116_0_ok : LeD (real E Mk Nk) g116_0 (fun ts m => goR E Mk 475136 ts m) := apS_le fun _ => apS_le fun _ => apS_le fun _ => apS_le fun _ => apS_le fun _ => apS_le fun _ => ap0_le fun _ => goR_eq 400 (by kernel_rfl)
noncomputable def g116_1 : List AV → CM := apS fun t2 => apS fun t3 => apS fun t5 => apS fun t14 => apS fun t15 => apS fun t16 => ap0 <|
CM.pu (p2 (indexAddrA Tryz.prog 91) t14 t16) fun x0 =>
CM.rm (q1 (loadA Tryz.prog 140) x0 ) fun x1 =>
CM.al (some (.cells [(.int .u64 0), (.str []), (.int .i64 0), (.int .u64 0)] false, pB)) fun x2 =>
CM.st (fun m => stV m x2 x1 4) <|
CM.pu (p1 (fun a => fieldAddrA Tryz.prog 140 a 1) x2) fun x4 =>
CM.rm (q1 (loadA Tryz.prog 9) x4 ) fun x5 =>
CM.pu (p1 (fun a => fieldAddrA Tryz.prog 132 a 0) t3) fun x6 =>
CM.rm (q1 (loadA Tryz.prog 9) x6 ) fun x7 =>
CM.pu (p2 (binA Tryz.prog .eql 9) x5 x7) fun x8 =>
CM.cond x8 (
CM.pu (p1 (fun a => fieldAddrA Tryz.prog 140 a 2) x2) fun x9 =>
CM.rm (q1 (loadA Tryz.prog 36) x9 ) fun x10 =>
CM.call 162 [t5, x10] fun _ =>
CM.go 475138 [t2, t3, t5, t14, t15, t16]) (
CM.go 475138 [t2, t3, t5, t14, t15, t16])
theorem g116_1_ok : LeD (real E Mk Nk) g116_1 (fun ts m => goR E Mk 475137 ts m) := apS_le fun _ => apS_le fun _ => apS_le fun _ => apS_le fun _ => apS_le fun _ => apS_le fun _ => ap0_le fun _ => goR_eq 400 (by kernel_rfl)
noncomputable def g116_2 : List AV → CM := apS fun t2 => apS fun t3 => apS fun t5 => apS fun t14 => apS fun t15 => apS fun t16 => ap0 <|
CM.pu (p2 (binA Tryz.prog .add 3) t16 (.int .i64 1)) fun x0 =>
CM.go 475136 [t2, t3, t5, t14, t15, x0]
theorem g116_2_ok : LeD (real E Mk Nk) g116_2 (fun ts m => goR E Mk 475138 ts m) := apS_le fun _ => apS_le fun _ => apS_le fun _ => apS_le fun _ => apS_le fun _ => apS_le fun _ => ap0_le fun _ => goR_eq 400 (by kernel_rfl)
noncomputable def g116_3 : List AV → CM := apS fun t2 => apS fun t3 => apS fun t5 => ap0 <|
CM.pu (p1 (fun a => fieldAddrA Tryz.prog 93 a 1) t2) fun x0 =>
CM.rm (q1 (loadA Tryz.prog 90) x0 ) fun x1 =>
CM.pu (p1 (lenT Tryz.prog 90) x1) fun x2 =>
CM.go 475140 [t3, t5, x1, x2, (.int .i64 0)]
theorem g116_3_ok : LeD (real E Mk Nk) g116_3 (fun ts m => goR E Mk 475139 ts m) := apS_le fun _ => apS_le fun _ => apS_le fun _ => ap0_le fun _ => goR_eq 400 (by kernel_rfl)
noncomputable def g116_4 : List AV → CM := apS fun t3 => apS fun t5 => apS fun t30 => apS fun t31 => apS fun t32 => ap0 <|
CM.pu (p2 (binA Tryz.prog .lss 3) t32 t31) fun x0 =>
CM.cond x0 (
CM.go 475141 [t3, t5, t30, t31, t32]) (
CM.go 475144 [t5])
theorem g116_4_ok : LeD (real E Mk Nk) g116_4 (fun ts m => goR E Mk 475140 ts m) := apS_le fun _ => apS_le fun _ => apS_le fun _ => apS_le fun _ => apS_le fun _ => ap0_le fun _ => goR_eq 400 (by kernel_rfl)
noncomputable def g116_5 : List AV → CM := apS fun t3 => apS fun t5 => apS fun t30 => apS fun t31 => apS fun t32 => ap0 <|
CM.pu (p2 (indexAddrA Tryz.prog 90) t30 t32) fun x0 =>
CM.rm (q1 (loadA Tryz.prog 136) x0 ) fun x1 =>
CM.al (some (.cells [(.str []), (.str []), (.int .i64 0), (.int .u64 0), (.int .i64 0), (.int .i64 0), (.int .u64 0), (.int .i64 0), (.int .u64 0)] false, pB)) fun x2 =>
CM.st (fun m => stV m x2 x1 9) <|
CM.pu (p1 (fun a => fieldAddrA Tryz.prog 136 a 0) x2) fun x4 =>
CM.rm (q1 (loadA Tryz.prog 9) x4 ) fun x5 =>
CM.pu (p1 (fun a => fieldAddrA Tryz.prog 132 a 0) t3) fun x6 =>
CM.rm (q1 (loadA Tryz.prog 9) x6 ) fun x7 =>
CM.pu (p2 (binA Tryz.prog .eql 9) x5 x7) fun x8 =>
CM.cond x8 (
CM.pu (p1 (fun a => fieldAddrA Tryz.prog 136 a 3) x2) fun x9 =>
CM.rm (q1 (loadA Tryz.prog 36) x9 ) fun x10 =>
CM.call 162 [t5, x10] fun _ =>
CM.go 475142 [t3, t5, x2, t30, t31, t32]) (
CM.go 475142 [t3, t5, x2, t30, t31, t32])
theorem g116_5_ok : LeD (real E Mk Nk) g116_5 (fun ts m => goR E Mk 475141 ts m) := apS_le fun _ => apS_le fun _ => apS_le fun _ => apS_le fun _ => apS_le fun _ => ap0_le fun _ => goR_eq 400 (by kernel_rfl)
noncomputable def g116_6 : List AV → CM := apS fun t3 => apS fun t5 => apS fun t9 => apS fun t30 => apS fun t31 => apS fun t32 => ap0 <|
CM.pu (p1 (fun a => fieldAddrA Tryz.prog 136 a 1) t9) fun x0 =>
CM.rm (q1 (loadA Tryz.prog 9) x0 ) fun x1 =>
CM.pu (p1 (fun a => fieldAddrA Tryz.prog 132 a 0) t3) fun x2 =>
CM.rm (q1 (loadA Tryz.prog 9) x2 ) fun x3 =>
CM.pu (p2 (binA Tryz.prog .eql 9) x1 x3) fun x4 =>
CM.cond x4 (
CM.pu (p1 (fun a => fieldAddrA Tryz.prog 136 a 4) t9) fun x5 =>
CM.rm (q1 (loadA Tryz.prog 36) x5 ) fun x6 =>
CM.call 162 [t5, x6] fun _ =>
CM.go 475143 [t3, t5, t30, t31, t32]) (
CM.go 475143 [t3, t5, t30, t31, t32])
theorem g116_6_ok : LeD (real E Mk Nk) g116_6 (fun ts m => goR E Mk 475142 ts m) := apS_le fun _ => apS_le fun _ => apS_le fun _ => apS_le fun _ => apS_le fun _ => apS_le fun _ => ap0_le fun _ => goR_eq 400 (by kernel_rfl)
noncomputable def g116_7 : List AV → CM := apS fun t3 => apS fun t5 => apS fun t30 => apS fun t31 => apS fun t32 => ap0 <|
CM.pu (p2 (binA Tryz.prog .add 3) t32 (.int .i64 1)) fun x0 =>
CM.go 475140 [t3, t5, t30, t31, x0]
theorem g116_7_ok : LeD (real E Mk Nk) g116_7 (fun ts m => goR E Mk 475143 ts m) := apS_le fun _ => apS_le fun _ => apS_le fun _ => apS_le fun _ => apS_le fun _ => ap0_le fun _ => goR_eq 400 (by kernel_rfl)
noncomputable def g116_8 : List AV → CM := apS fun t5 => ap0 <|
CM.call 163 [t5] fun x0 =>
CM.ret x0
theorem g116_8_ok : LeD (real E Mk Nk) g116_8 (fun ts m => goR E Mk 475144 ts m) := apS_le fun _ => ap0_le fun _ => goR_eq 400 (by kernel_rfl)
noncomputable def f116 : List AV → CM := apS fun a0 => apS fun a1 => ap0 <|
CM.al (boxA a0) fun x0 =>
CM.al (boxA a1) fun x1 =>
CM.al (some (.cells [(.int .i64 0), (.int .u64 0), (.int .u64 0)] false, pB)) fun x2 =>
CM.pu (p1 (fun a => fieldAddrA Tryz.prog 132 a 2) x1) fun x3 =>
CM.rm (q1 (loadA Tryz.prog 36) x3 ) fun x4 =>
CM.call 162 [x2, x4] fun _ =>
CM.pu (p1 (fun a => fieldAddrA Tryz.prog 93 a 2) x0) fun x6 =>
CM.rm (q1 (loadA Tryz.prog 91) x6 ) fun x7 =>
CM.pu (p1 (lenT Tryz.prog 91) x7) fun x8 =>
CM.go 475136 [x0, x1, x2, x7, x8, (.int .i64 0)]
theorem f116_ok : LeD (real E Mk Nk) f116 (fun xs m => run E (.fn 116) xs m) := apS_le fun _ => apS_le fun _ => ap0_le fun _ => run_eq 400 rfl (by kernel_rfl) (by kernel_rfl)
noncomputable def g117_0 : List AV → CM := apS fun t1 => apS fun t3 => ap0 <|
CM.pu (p1 (fun a => fieldAddrA Tryz.prog 146 a 3) t1) fun x0 =>
CM.rm (q1 (loadA Tryz.prog 144) x0 ) fun x1 =>
CM.pu (p1 (lenT Tryz.prog 144) x1) fun x2 =>
CM.go 479233 [t1, t3, x1, x2, (.int .i64 0)]
theorem g117_0_ok : LeD (real E Mk Nk) g117_0 (fun ts m => goR E Mk 479232 ts m) := apS_le fun _ => apS_le fun _ => ap0_le fun _ => goR_eq 400 (by kernel_rfl)
noncomputable def g117_1 : List AV → CM := apS fun t1 => apS fun t3 => apS fun t18 => apS fun t19 => apS fun t20 => ap0 <|
CM.pu (p2 (binA Tryz.prog .lss 3) t20 t19) fun x0 =>
CM.cond x0 (
CM.go 479234 [t1, t3, t18, t19, t20]) (
CM.go 479236 [])
theorem g117_1_ok : LeD (real E Mk Nk) g117_1 (fun ts m => goR E Mk 479233 ts m) := apS_le fun _ => apS_le fun _ => apS_le fun _ => apS_le fun _ => apS_le fun _ => ap0_le fun _ => goR_eq 400 (by kernel_rfl)
noncomputable def g117_2 : List AV → CM := apS fun t1 => apS fun t3 => apS fun t18 => apS fun t19 => apS fun t20 => ap0 <|
CM.pu (p2 (indexAddrA Tryz.prog 144) t18 t20) fun x0 =>
CM.rm (q1 (loadA Tryz.prog 166) x0 ) fun x1 =>
CM.al (some (.cells [(.int .u64 0), (.int .i64 0), (.int .u64 0), (.int .i64 0), (.int .u64 0), (.int .i64 0)] false, pB)) fun x2 =>
CM.st (fun m => stV m x2 x1 6) <|
CM.pu (p1 (fun a => fieldAddrA Tryz.prog 166 a 1) x2) fun x4 =>
CM.pu (p1 (fun a => fieldAddrA Tryz.prog 46 a 0) x4) fun x5 =>
CM.rm (q1 (loadA Tryz.prog 23) x5 ) fun x6 =>
CM.pu (p1 (fun a => fieldAddrA Tryz.prog 166 a 1) x2) fun x7 =>
CM.pu (p1 (fun a => fieldAddrA Tryz.prog 46 a 2) x7) fun x8 =>
CM.pu (p1 (fun a => fieldAddrA Tryz.prog 38 a 1) x8) fun x9 =>
CM.rm (q1 (loadA Tryz.prog 3) x9 ) fun x10 =>
CM.pu (p1 (fun a => fieldAddrA Tryz.prog 166 a 0) x2) fun x11 =>
CM.rm (q1 (loadA Tryz.prog 26) x11 ) fun x12 =>
CM.pu (p1 (fun a => fieldAddrA Tryz.prog 146 a 1) t1) fun x13 =>
CM.rm (q1 (loadA Tryz.prog 26) x13 ) fun x14 =>
CM.pu (p2 (binA Tryz.prog .sub 26) x14 t3) fun x15 =>
CM.pu (p1 (convA Tryz.prog 3 26) t20) fun x16 =>
CM.pu (p2 (binA Tryz.prog .add 26) x15 x16) fun x17 =>
CM.pu (p2 (binA Tryz.prog .add 26) x17 (.int .u64 1)) fun x18 =>
CM.pu (p2 (binA Tryz.prog .neq 26) x12 x18) fun x19 =>
CM.ifv x19 (
CM.ret (.bool false)) (
CM.pu (p2 (binA Tryz.prog .lss 23) x6 (.int .i64 0)) fun x20 =>
CM.ifv x20 (
CM.ret (.bool false)) (
CM.pu (p2 (binA Tryz.prog .gtr 23) x6 (.int .i64 99)) fun x21 =>
CM.ifv x21 (
CM.ret (.bool false)) (
CM.pu (p2 (binA Tryz.prog .lss 3) x10 (.int .i64 0)) fun x22 =>
CM.ifv x22 (
CM.ret (.bool false)) (
CM.pu (p2 (binA Tryz.prog .gtr 3) x10 (.int .i64 18)) fun x23 =>
CM.cond x23 (
CM.ret (.bool false)) (
CM.go 479235 [t1, t3, t18, t19, t20])))))
theorem g117_2_ok : LeD (real E Mk Nk) g117_2 (fun ts m => goR E Mk 479234 ts m) := apS_le fun _ => apS_le fun _ => apS_le fun _ => apS_le fun _ => apS_le fun _ => ap0_le fun _ => goR_eq 400 (by kernel_rfl)
noncomputable def g117_3 : List AV → CM := apS fun t1 => apS fun t3 => apS fun t18 => apS fun t19 => apS fun t20 => ap0 <|
CM.pu (p2 (binA Tryz.prog .add 3) t20 (.int .i64 1)) fun x0 =>
CM.go 479233 [t1, t3, t18, t19, x0]
theorem g117_3_ok : LeD (real E Mk Nk) g117_3 (fun ts m => goR E Mk 479235 ts m) := apS_le fun _ => apS_le fun _ => apS_le fun _ => apS_le fun _ => apS_le fun _ => ap0_le fun _ => goR_eq 400 (by kernel_rfl)
noncomputable def g117_4 : List AV → CM := ap0 <|
CM.ret (.bool true)
theorem g117_4_ok : LeD (real E Mk Nk) g117_4 (fun ts m => goR E Mk 479236 ts m) := ap0_le fun _ => goR_eq 400 (by kernel_rfl)
noncomputable def f117 : List AV → CM := apS fun a0 => ap0 <|
CM.al (boxA a0) fun x0 =>
CM.pu (p1 (fun a => fieldAddrA Tryz.prog 146 a 1) x0) fun x1 =>
CM.rm (q1 (loadA Tryz.prog 26) x1 ) fun x2 =>
CM.pu (p2 minA x2 (.int .u64 4)) fun x3 =>
CM.pu (p1 (fun a => fieldAddrA Tryz.prog 146 a 3) x0) fun x4 =>
CM.rm (q1 (loadA Tryz.prog 144) x4 ) fun x5 =>
CM.pu (p1 (lenT Tryz.prog 144) x5) fun x6 =>
CM.pu (p1 (convA Tryz.prog 3 26) x6) fun x7 =>
CM.pu (p2 (binA Tryz.prog .neq 26) x7 x3) fun x8 =>
CM.cond x8 (
CM.ret (.bool false)) (
CM.go 479232 [x0, x3])
theorem f117_ok : LeD (real E Mk Nk) f117 (fun xs m => run E (.fn 117) xs m) := apS_le fun _ => ap0_le fun _ => run_eq 400 rfl (by kernel_rfl) (by kernel_rfl)
noncomputable def f118 : List AV → CM := apS fun a0 => ap0 <|
CM.al (boxA a0) fun x0 =>
CM.pu (p1 (fun a => fieldAddrA Tryz.prog 38 a 1) x0) fun x1 =>
CM.rm (q1 (loadA Tryz.prog 3) x1 ) fun x2 =>
CM.call 164 [x2] fun x3 =>
CM.ret x3
theorem f118_ok : LeD (real E Mk Nk) f118 (fun xs m => run E (.fn 118) xs m) := apS_le fun _ => ap0_le fun _ => run_eq 400 rfl (by kernel_rfl) (by kernel_rfl)
noncomputable def f119 : List AV → CM := apS fun a0 => apS fun a1 => ap0 <|
CM.al (boxA a1) fun x0 =>
CM.pu (p1 (fun a => fieldAddrA Tryz.prog 38 a 1) x0) fun x1 =>
CM.rm (q1 (loadA Tryz.prog 3) x1 ) fun x2 =>
CM.pu (p1 (convA Tryz.prog 3 5) x2) fun x3 =>
CM.call 69 [a0, x3] fun _ =>
CM.pu (p1 (fun a => fieldAddrA Tryz.prog 38 a 0) x0) fun x5 =>
CM.pu (p1 (fun a => fieldAddrA Tryz.prog 36 a 0) x5) fun x6 =>
CM.rm (q1 (loadA Tryz.prog 2) x6 ) fun x7 =>
CM.call 64 [a0, x7] fun _ =>
CM.pu (p1 (fun a => fieldAddrA Tryz.prog 38 a 0) x0) fun x9 =>
CM.pu (p1 (fun a => fieldAddrA Tryz.prog 36 a 1) x9) fun x10 =>
CM.rm (q1 (loadA Tryz.prog 26) x10 ) fun x11 =>
CM.call 65 [a0, x11] fun _ =>
CM.ret .undef
theorem f119_ok : LeD (real E Mk Nk) f119 (fun xs m => run E (.fn 119) xs m) := apS_le fun _ => apS_le fun _ => ap0_le fun _ => run_eq 400 rfl (by kernel_rfl) (by kernel_rfl)
noncomputable def f120 : List AV → CM := apS fun a0 => ap0 <|
CM.al (boxA a0) fun x0 =>
CM.ret (.fn (.func 165) [] [x0])
theorem f120_ok : LeD (real E Mk Nk) f120 (fun xs m => run E (.fn 120) xs m) := apS_le fun _ => ap0_le fun _ => run_eq 400 rfl (by kernel_rfl) (by kernel_rfl)
noncomputable def f121 : List AV → CM := apS fun a0 => ap0 <|
CM.al (boxA a0) fun x0 =>
CM.ret (.fn (.func 169) [] [x0])
theorem f121_ok : LeD (real E Mk Nk) f121 (fun xs m => run E (.fn 121) xs m) := apS_le fun _ => ap0_le fun _ => run_eq 400 rfl (by kernel_rfl) (by kernel_rfl)
noncomputable def f122 : List AV → CM := apS fun a0 => ap0 <|
CM.al (boxA a0) fun x0 =>
CM.ret (.fn (.func 173) [] [x0])
theorem f122_ok : LeD (real E Mk Nk) f122 (fun xs m => run E (.fn 122) xs m) := apS_le fun _ => ap0_le fun _ => run_eq 400 rfl (by kernel_rfl) (by kernel_rfl)
noncomputable def g123_0 : List AV → CM := apS fun t0 => apS fun t2 => apS fun t6 => ap0 <|
CM.pu (p2 (binA Tryz.prog .gtr 26) t6 (.int .u64 0)) fun x0 =>
CM.ifv x0 (
CM.pu (p1 nnA t0) fun x1 =>
CM.pu (p1 (fun a => fieldAddrA Tryz.prog 172 a 1) x1) fun x2 =>
CM.rm (q1 (loadA Tryz.prog 23) x2 ) fun x3 =>
CM.pu (p2 (binA Tryz.prog .eql 23) x3 (.int .i64 0)) fun x4 =>
CM.cond x4 (
CM.go 503809 [t0, t2, t6]) (
CM.ret .undef)) (
CM.ret .undef)
theorem g123_0_ok : LeD (real E Mk Nk) g123_0 (fun ts m => goR E Mk 503808 ts m) := apS_le fun _ => apS_le fun _ => apS_le fun _ => ap0_le fun _ => goR_eq 400 (by kernel_rfl)
noncomputable def g123_1 : List AV → CM := apS fun t0 => apS fun t2 => apS fun t6 => ap0 <|
CM.callv t2 [] fun _ =>
CM.go 503810 [t0, t2, t6]
theorem g123_1_ok : LeD (real E Mk Nk) g123_1 (fun ts m => goR E Mk 503809 ts m) := apS_le fun _ => apS_le fun _ => apS_le fun _ => ap0_le fun _ => goR_eq 400 (by kernel_rfl)
noncomputable def g123_2 : List AV → CM := apS fun t0 => apS fun t2 => apS fun t6 => ap0 <|
CM.pu (p2 (binA Tryz.prog .sub 26) t6 (.int .u64 1)) fun x0 =>
CM.go 503808 [t0, t2, x0]
theorem g123_2_ok : LeD (real E Mk Nk) g123_2 (fun ts m => goR E Mk 503810 ts m) := apS_le fun _ => apS_le fun _ => apS_le fun _ => ap0_le fun _ => goR_eq 400 (by kernel_rfl)
noncomputable def f123 : List AV → CM := apS fun a0 => apS fun a1 => apS fun a2 => ap0 <|
CM.pu (p1 nnA a0) fun x0 =>
CM.pu (p1 (fun a => fieldAddrA Tryz.prog 172 a 0) x0) fun x1 =>
CM.rm (q1 (loadA Tryz.prog 106) x1 ) fun x2 =>
CM.call 93 [x2, a1] fun x3 =>
CM.go 503808 [a0, a2, x3]
theorem f123_ok : LeD (real E Mk Nk) f123 (fun xs m => run E (.fn 123) xs m) := apS_le fun _ => apS_le fun _ => apS_le fun _ => ap0_le fun _ => run_eq 400 rfl (by kernel_rfl) (by kernel_rfl)
noncomputable def f124 : List AV → CM := apS fun a0 => apS fun a1 => ap0 <|
CM.rm (q1 (loadA Tryz.prog 170) a0 ) fun x0 =>
CM.call 125 [x0] fun x1 =>
CM.pu (p1 (buildA Tryz.prog 132) [(0, x1)]) fun x2 =>
CM.al (some (.cells [(.str []), (.int .i64 0), (.int .i64 0), (.int .u64 0)] false, pB)) fun x3 =>
CM.st (fun m => stV m x3 x2 4) <|
CM.rm (q1 (loadA Tryz.prog 170) a0 ) fun x5 =>
CM.pu (p1 nnA x5) fun x6 =>
CM.pu (p1 (fun a => fieldAddrA Tryz.prog 172 a 0) x6) fun x7 =>
CM.rm (q1 (loadA Tryz.prog 106) x7 ) fun x8 =>
CM.call 41 [x8, (.int .u8 18)] fun x9 =>
CM.pu (p1 (convA Tryz.prog 5 3) x9) fun x10 =>
CM.pu (p1 (fun a => fieldAddrA Tryz.prog 132 a 1) x3) fun x11 =>
CM.st (fun m => stV m x11 x10 1) <|
CM.rm (q1 (loadA Tryz.prog 170) a0 ) fun x13 =>
CM.call 126 [x13] fun x14 =>
CM.pu (p1 (fun a => fieldAddrA Tryz.prog 132 a 2) x3) fun x15 =>
CM.st (fun m => stV m x15 x14 2) <|
CM.pu (p1 (fun a => fieldAddrA Tryz.prog 93 a 0) a1) fun x17 =>
CM.rm (q1 (loadA Tryz.prog 89) x17 ) fun x18 =>
CM.rm (q1 (loadA Tryz.prog 132) x3 ) fun x19 =>
CM.al (bsA 4 1 [(.str []), (.int .i64 0), (.int .i64 0), (.int .u64 0)] [(0, x19)]) fun x20 =>
CM.ef (apE 4 40 x18 x20) fun x21 =>
CM.pu (p1 (fun a => fieldAddrA Tryz.prog 93 a 0) a1) fun x22 =>
CM.st (fun m => stV m x22 x21 1) <|
CM.ret .undef
theorem f124_ok : LeD (real E Mk Nk) f124 (fun xs m => run E (.fn 124) xs m) := apS_le fun _ => apS_le fun _ => ap0_le fun _ => run_eq 400 rfl (by kernel_rfl) (by kernel_rfl)
noncomputable def f125 : List AV → CM := apS fun a0 => ap0 <|
CM.pu (p1 nnA a0) fun x0 =>
CM.pu (p1 (fun a => fieldAddrA Tryz.prog 172 a 0) x0) fun x1 =>
CM.rm (q1 (loadA Tryz.prog 106) x1 ) fun x2 =>
CM.call 177 [x2, (.int .i64 3)] fun x3 =>
CM.rm (q1 (toStrA Tryz.prog 33) x3 ) fun x4 =>
CM.ret x4
theorem f125_ok : LeD (real E Mk Nk) f125 (fun xs m => run E (.fn 125) xs m) := apS_le fun _ => ap0_le fun _ => run_eq 400 rfl (by kernel_rfl) (by kernel_rfl)
noncomputable def f126 : List AV → CM := apS fun a0 => ap0 <|
CM.al (some (.cells [(.int .i64 0), (.int .u64 0)] false, pB)) fun x0 =>
CM.pu (p1 nnA a0) fun x1 =>
CM.pu (p1 (fun a => fieldAddrA Tryz.prog 172 a 0) x1) fun x2 =>
CM.rm (q1 (loadA Tryz.prog 106) x2 ) fun x3 =>
CM.call 142 [x3] fun x4 =>
CM.pu (p1 nnA a0) fun x5 =>
CM.pu (p1 (fun a => fieldAddrA Tryz.prog 172 a 0) x5) fun x6 =>
CM.rm (q1 (loadA Tryz.prog 106) x6 ) fun x7 =>
CM.call 93 [x7, (.int .u64 18446744073709551615)] fun x8 =>
CM.pu (p1 (buildA Tryz.prog 36) [(0, x4), (1, x8)]) fun x9 =>
CM.st (fun m => stV m x0 x9 2) <|
CM.resC Tryz.prog [ResultVar.cell 0 36] [x0]
theorem f126_ok : LeD (real E Mk Nk) f126 (fun xs m => run E (.fn 126) xs m) := apS_le fun _ => ap0_le fun _ => run_eq 400 rfl (by kernel_rfl) (by kernel_rfl)
noncomputable def f127 : List AV → CM := apS fun a0 => apS fun a1 => ap0 <|
CM.rm (q1 (loadA Tryz.prog 170) a0 ) fun x0 =>
CM.call 125 [x0] fun x1 =>
CM.pu (p1 (buildA Tryz.prog 136) [(0, x1)]) fun x2 =>
CM.al (some (.cells [(.str []), (.str []), (.int .i64 0), (.int .u64 0), (.int .i64 0), (.int .i64 0), (.int .u64 0), (.int .i64 0), (.int .u64 0)] false, pB)) fun x3 =>
CM.st (fun m => stV m x3 x2 9) <|
CM.rm (q1 (loadA Tryz.prog 170) a0 ) fun x5 =>
CM.call 125 [x5] fun x6 =>
CM.pu (p1 (fun a => fieldAddrA Tryz.prog 136 a 1) x3) fun x7 =>
CM.st (fun m => stV m x7 x6 1) <|
CM.rm (q1 (loadA Tryz.prog 170) a0 ) fun x9 =>
CM.pu (p1 nnA x9) fun x10 =>
CM.pu (p1 (fun a => fieldAddrA Tryz.prog 172 a 0) x10) fun x11 =>
CM.rm (q1 (loadA Tryz.prog 106) x11 ) fun x12 =>
CM.call 41 [x12, (.int .u8 18)] fun x13 =>
CM.pu (p1 (convA Tryz.prog 5 3) x13) fun x14 =>
CM.pu (p1 (fun a => fieldAddrA Tryz.prog 136 a 2) x3) fun x15 =>
CM.pu (p1 (fun a => fieldAddrA Tryz.prog 38 a 1) x15) fun x16 =>
CM.st (fun m => stV m x16 x14 1) <|
CM.rm (q1 (loadA Tryz.prog 170) a0 ) fun x18 =>
CM.call 126 [x18] fun x19 =>
CM.pu (p1 (fun a => fieldAddrA Tryz.prog 136 a 2) x3) fun x20 =>
CM.pu (p1 (fun a => fieldAddrA Tryz.prog 38 a 0) x20) fun x21 =>
CM.st (fun m => stV m x21 x19 2) <|
CM.rm (q1 (loadA Tryz.prog 170) a0 ) fun x23 =>
CM.call 126 [x23] fun x24 =>
CM.pu (p1 (fun a => fieldAddrA Tryz.prog 136 a 3) x3) fun x25 =>
CM.st (fun m => stV m x25 x24 2) <|
CM.rm (q1 (loadA Tryz.prog 170) a0 ) fun x27 =>
CM.call 126 [x27] fun x28 =>
CM.pu (p1 (fun a => fieldAddrA Tryz.prog 136 a 4) x3) fun x29 =>
CM.st (fun m => stV m x29 x28 2) <|
CM.pu (p1 (fun a => fieldAddrA Tryz.prog 93 a 1) a1) fun x31 =>
CM.rm (q1 (loadA Tryz.prog 90) x31 ) fun x32 =>
CM.rm (q1 (loadA Tryz.prog 136) x3 ) fun x33 =>
CM.al (bsA 9 1 [(.str []), (.str []), (.int .i64 0), (.int .u64 0), (.int .i64 0), (.int .i64 0), (.int .u64 0), (.int .i64 0), (.int .u64 0)] [(0, x33)]) fun x34 =>
CM.ef (apE 9 88 x32 x34) fun x35 =>
CM.pu (p1 (fun a => fieldAddrA Tryz.prog 93 a 1) a1) fun x36 =>
CM.st (fun m => stV m x36 x35 1) <|
CM.ret .undef
theorem f127_ok : LeD (real E Mk Nk) f127 (fun xs m => run E (.fn 127) xs m) := apS_le fun _ => apS_le fun _ => ap0_le fun _ => run_eq 400 rfl (by kernel_rfl) (by kernel_rfl)
noncomputable def f128 : List AV → CM := apS fun a0 => apS fun a1 => ap0 <|
CM.rm (q1 (loadA Tryz.prog 170) a0 ) fun x0 =>
CM.pu (p1 nnA x0) fun x1 =>
CM.pu (p1 (fun a => fieldAddrA Tryz.prog 172 a 0) x1) fun x2 =>
CM.rm (q1 (loadA Tryz.prog 106) x2 ) fun x3 =>
CM.call 93 [x3, (.int .u64 18446744073709551615)] fun x4 =>
CM.pu (p1 (buildA Tryz.prog 140) [(0, x4)]) fun x5 =>
CM.al (some (.cells [(.int .u64 0), (.str []), (.int .i64 0), (.int .u64 0)] false, pB)) fun x6 =>
CM.st (fun m => stV m x6 x5 4) <|
CM.rm (q1 (loadA Tryz.prog 170) a0 ) fun x8 =>
CM.call 125 [x8] fun x9 =>
CM.pu (p1 (fun a => fieldAddrA Tryz.prog 140 a 1) x6) fun x10 =>
CM.st (fun m => stV m x10 x9 1) <|
CM.rm (q1 (loadA Tryz.prog 170) a0 ) fun x12 =>
CM.call 126 [x12] fun x13 =>
CM.pu (p1 (fun a => fieldAddrA Tryz.prog 140 a 2) x6) fun x14 =>
CM.st (fun m => stV m x14 x13 2) <|
CM.pu (p1 (fun a => fieldAddrA Tryz.prog 93 a 2) a1) fun x16 =>
CM.rm (q1 (loadA Tryz.prog 91) x16 ) fun x17 =>
CM.rm (q1 (loadA Tryz.prog 140) x6 ) fun x18 =>
CM.al (bsA 4 1 [(.int .u64 0), (.str []), (.int .i64 0), (.int .u64 0)] [(0, x18)]) fun x19 =>
CM.ef (apE 4 40 x17 x19) fun x20 =>
CM.pu (p1 (fun a => fieldAddrA Tryz.prog 93 a 2) a1) fun x21 =>
CM.st (fun m => stV m x21 x20 1) <|
CM.ret .undef
theorem f128_ok : LeD (real E Mk Nk) f128 (fun xs m => run E (.fn 128) xs m) := apS_le fun _ => apS_le fun _ => ap0_le fun _ => run_eq 400 rfl (by kernel_rfl) (by kernel_rfl)
noncomputable def f129 : List AV → CM := apS fun a0 => apS fun a1 => ap0 <|
CM.rm (q1 (loadA Tryz.prog 170) a0 ) fun x0 =>
CM.pu (p1 nnA x0) fun x1 =>
CM.pu (p1 (fun a => fieldAddrA Tryz.prog 172 a 0) x1) fun x2 =>
CM.rm (q1 (loadA Tryz.prog 106) x2 ) fun x3 =>
CM.call 93 [x3, (.int .u64 18446744073709551615)] fun x4 =>
CM.pu (p1 (buildA Tryz.prog 146) [(0, x4)]) fun x5 =>
CM.al (some (.cells [(.int .u64 0), (.int .u64 0), (.int .u64 0), (.sl none 0 0 0 true)] false, pB)) fun x6 =>
CM.st (fun m => stV m x6 x5 4) <|
CM.rm (q1 (loadA Tryz.prog 170) a0 ) fun x8 =>
CM.pu (p1 nnA x8) fun x9 =>
CM.pu (p1 (fun a => fieldAddrA Tryz.prog 172 a 0) x9) fun x10 =>
CM.rm (q1 (loadA Tryz.prog 106) x10 ) fun x11 =>
CM.call 93 [x11, (.int .u64 18446744073709551615)] fun x12 =>
CM.pu (p1 (fun a => fieldAddrA Tryz.prog 146 a 1) x6) fun x13 =>
CM.st (fun m => stV m x13 x12 1) <|
CM.rm (q1 (loadA Tryz.prog 170) a0 ) fun x15 =>
CM.pu (p1 nnA x15) fun x16 =>
CM.pu (p1 (fun a => fieldAddrA Tryz.prog 172 a 0) x16) fun x17 =>
CM.rm (q1 (loadA Tryz.prog 106) x17 ) fun x18 =>
CM.call 93 [x18, (.int .u64 18446744073709551615)] fun x19 =>
CM.pu (p1 (fun a => fieldAddrA Tryz.prog 146 a 2) x6) fun x20 =>
CM.st (fun m => stV m x20 x19 1) <|
CM.rm (q1 (loadA Tryz.prog 170) a0 ) fun x22 =>
CM.call 123 [x22, (.int .u64 4), (.fn (.func 130) [] [x6, a0])] fun _ =>
CM.rm (q1 (loadA Tryz.prog 95) a1 ) fun x24 =>
CM.rm (q1 (loadA Tryz.prog 146) x6 ) fun x25 =>
CM.al (bsA 4 1 [(.int .u64 0), (.int .u64 0), (.int .u64 0), (.sl none 0 0 0 true)] [(0, x25)]) fun x26 =>
CM.ef (apE 4 48 x24 x26) fun x27 =>
CM.st (fun m => stV m a1 x27 1) <|
CM.ret .undef
theorem f129_ok : LeD (real E Mk Nk) f129 (fun xs m => run E (.fn 129) xs m) := apS_le fun _ => apS_le fun _ => ap0_le fun _ => run_eq 400 rfl (by kernel_rfl) (by kernel_rfl)
noncomputable def f130 : List AV → CM := apS fun a0 => apS fun a1 => ap0 <|
CM.pu (p1 (fun a => fieldAddrA Tryz.prog 146 a 3) a0) fun x0 =>
CM.rm (q1 (loadA Tryz.prog 144) x0 ) fun x1 =>
CM.rm (q1 (loadA Tryz.prog 170) a1 ) fun x2 =>
CM.call 131 [x2] fun x4 =>
CM.memo fun m5 =>
CM.chk (q1 (loadA Tryz.prog 144) x0 m5) x1 <|
CM.al (bsA 6 1 [(.int .u64 0), (.int .i64 0), (.int .u64 0), (.int .i64 0), (.int .u64 0), (.int .i64 0)] [(0, x4)]) fun x6 =>
CM.ef (apE 6 48 x1 x6) fun x8 =>
CM.pu (p1 (fun a => fieldAddrA Tryz.prog 146 a 3) a0) fun x10 =>
CM.st (fun m => stV m x10 x8 1) <|
CM.ret .undef
theorem f130_ok : LeD (real E Mk Nk) f130 (fun xs m => run E (.fn 130) xs m) := apS_le fun _ => apS_le fun _ => ap0_le fun _ => run_eq 400 rfl (by kernel_rfl) (by kernel_rfl)
noncomputable def g131_0 : List AV → CM := apS fun t0 => apS fun t2 => apS fun t3 => apS fun t4 => ap0 <|
CM.call 179 [t4] fun x0 =>
CM.pu (p1 (fun a => extractA a 0) x0) fun x1 =>
CM.pu (p1 (fun a => extractA a 1) x0) fun x2 =>
CM.pu (p1 (fun a => fieldAddrA Tryz.prog 166 a 1) t3) fun x3 =>
CM.st (fun m => stV m x3 x1 5) <|
CM.pu (p1 nnA t0) fun x5 =>
CM.pu (p1 (fun a => fieldAddrA Tryz.prog 172 a 1) x5) fun x6 =>
CM.st (fun m => stV m x6 x2 1) <|
CM.rm (q1 (loadA Tryz.prog 166) t3 ) fun x8 =>
CM.st (fun m => stV m t2 x8 6) <|
CM.resC Tryz.prog [ResultVar.cell 0 166] [t2]
theorem g131_0_ok : LeD (real E Mk Nk) g131_0 (fun ts m => goR E Mk 536576 ts m) := apS_le fun _ => apS_le fun _ => apS_le fun _ => apS_le fun _ => ap0_le fun _ => goR_eq 400 (by kernel_rfl)
noncomputable def f131 : List AV → CM := apS fun a0 => ap0 <|
CM.al (some (.cells [(.int .u64 0), (.int .i64 0), (.int .u64 0), (.int .i64 0), (.int .u64 0), (.int .i64 0)] false, pB)) fun x0 =>
CM.pu (p1 nnA a0) fun x1 =>
CM.pu (p1 (fun a => fieldAddrA Tryz.prog 172 a 0) x1) fun x2 =>
CM.rm (q1 (loadA Tryz.prog 106) x2 ) fun x3 =>
CM.call 93 [x3, (.int .u64 18446744073709551615)] fun x4 =>
CM.pu (p1 (buildA Tryz.prog 166) [(0, x4)]) fun x5 =>
CM.al (some (.cells [(.int .u64 0), (.int .i64 0), (.int .u64 0), (.int .i64 0), (.int .u64 0), (.int .i64 0)] false, pB)) fun x6 =>
CM.st (fun m => stV m x6 x5 6) <|
CM.pu (p1 nnA a0) fun x8 =>
CM.pu (p1 (fun a => fieldAddrA Tryz.prog 172 a 0) x8) fun x9 =>
CM.rm (q1 (loadA Tryz.prog 106) x9 ) fun x10 =>
CM.call 177 [x10, (.int .i64 64)] fun x11 =>
CM.pu (p1 (lenT Tryz.prog 33) x11) fun x12 =>
CM.pu (p2 (binA Tryz.prog .eql 3) x12 (.int .i64 0)) fun x13 =>
CM.ifv x13 (
CM.call 178 [a0] fun x14 =>
CM.pu (p2 (binA Tryz.prog .neq 23) x14 (.int .i64 0)) fun x15 =>
CM.cond x15 (
CM.rm (q1 (loadA Tryz.prog 166) x6 ) fun x16 =>
CM.st (fun m => stV m x0 x16 6) <|
CM.resC Tryz.prog [ResultVar.cell 0 166] [x0]) (
CM.go 536576 [a0, x0, x6, x11])) (
CM.go 536576 [a0, x0, x6, x11])
theorem f131_ok : LeD (real E Mk Nk) f131 (fun xs m => run E (.fn 131) xs m) := apS_le fun _ => ap0_le fun _ => run_eq 400 rfl (by kernel_rfl) (by kernel_rfl)
noncomputable def g132_0 : List AV → CM := apS fun t0 => apS fun t1 => apS fun t6 => apS fun t7 => apS fun t8 => ap0 <|
CM.pu (p2 (binA Tryz.prog .lss 3) t7 t8) fun x0 =>
CM.cond x0 (
CM.go 540673 [t0, t1, t6, t7, t8]) (
CM.go 540674 [t0, t1, t6, t7])
theorem g132_0_ok : LeD (real E Mk Nk) g132_0 (fun ts m => goR E Mk 540672 ts m) := apS_le fun _ => apS_le fun _ => apS_le fun _ => apS_le fun _ => apS_le fun _ => ap0_le fun _ => goR_eq 400 (by kernel_rfl)
noncomputable def g132_1 : List AV → CM := apS fun t0 => apS fun t1 => apS fun t6 => apS fun t7 => apS fun t8 => ap0 <|
CM.pu (p2 (binA Tryz.prog .add 3) t7 t8) fun x0 =>
CM.pu (p1 (convA Tryz.prog 3 66) x0) fun x1 =>
CM.pu (p2 (binA Tryz.prog .shr 66) x1 (.int .u64 1)) fun x2 =>
CM.pu (p1 (convA Tryz.prog 66 3) x2) fun x3 =>
CM.pu (p2 (indexAddrA Tryz.prog 206) t0 x3) fun x4 =>
CM.rm (q1 (loadA Tryz.prog 9) x4 ) fun x5 =>
CM.call 180 [x5, t1] fun x6 =>
CM.cond x6 (
CM.pu (p2 (binA Tryz.prog .add 3) x3 (.int .i64 1)) fun x7 =>
CM.go 540672 [t0, t1, t6, x7, t8]) (
CM.go 540672 [t0, t1, t6, t7, x3])
theorem g132_1_ok : LeD (real E Mk Nk) g132_1 (fun ts m => goR E Mk 540673 ts m) := apS_le fun _ => apS_le fun _ => apS_le fun _ => apS_le fun _ => apS_le fun _ => ap0_le fun _ => goR_eq 400 (by kernel_rfl)
noncomputable def g132_2 : List AV → CM := apS fun t0 => apS fun t1 => apS fun t6 => apS fun t7 => ap0 <|
CM.pu (p2 (binA Tryz.prog .lss 3) t7 t6) fun x0 =>
CM.ifv x0 (
CM.pu (p2 (indexAddrA Tryz.prog 206) t0 t7) fun x1 =>
CM.rm (q1 (loadA Tryz.prog 9) x1 ) fun x2 =>
CM.pu (p2 (binA Tryz.prog .eql 9) x2 t1) fun x3 =>
CM.ifv x3 (
CM.ret (.tup [t7, (.bool true)])) (
CM.pu (p2 (indexAddrA Tryz.prog 206) t0 t7) fun x4 =>
CM.rm (q1 (loadA Tryz.prog 9) x4 ) fun x5 =>
CM.call 181 [x5] fun x6 =>
CM.ifv x6 (
CM.call 181 [t1] fun x7 =>
CM.ret (.tup [t7, x7])) (
CM.ret (.tup [t7, (.bool false)])))) (
CM.ret (.tup [t7, (.bool false)]))
theorem g132_2_ok : LeD (real E Mk Nk) g132_2 (fun ts m => goR E Mk 540674 ts m) := apS_le fun _ => apS_le fun _ => apS_le fun _ => apS_le fun _ => ap0_le fun _ => goR_eq 400 (by kernel_rfl)
noncomputable def f132 : List AV → CM := apS fun a0 => apS fun a1 => ap0 <|
CM.pu (p1 (lenT Tryz.prog 206) a0) fun x0 =>
CM.go 540672 [a0, a1, x0, (.int .i64 0), x0]
theorem f132_ok : LeD (real E Mk Nk) f132 (fun xs m => run E (.fn 132) xs m) := apS_le fun _ => apS_le fun _ => ap0_le fun _ => run_eq 400 rfl (by kernel_rfl) (by kernel_rfl)
noncomputable def g136_0 : List AV → CM := apS fun t0 => apS fun t1 => apS fun t6 => apS fun t7 => apS fun t8 => ap0 <|
CM.pu (p2 (binA Tryz.prog .lss 3) t7 t8) fun x0 =>
CM.cond x0 (
CM.go 557057 [t0, t1, t6, t7, t8]) (
CM.go 557058 [t0, t1, t6, t7])
theorem g136_0_ok : LeD (real E Mk Nk) g136_0 (fun ts m => goR E Mk 557056 ts m) := apS_le fun _ => apS_le fun _ => apS_le fun _ => apS_le fun _ => apS_le fun _ => ap0_le fun _ => goR_eq 400 (by kernel_rfl)
noncomputable def g136_1 : List AV → CM := apS fun t0 => apS fun t1 => apS fun t6 => apS fun t7 => apS fun t8 => ap0 <|
CM.pu (p2 (binA Tryz.prog .add 3) t7 t8) fun x0 =>
CM.pu (p1 (convA Tryz.prog 3 66) x0) fun x1 =>
CM.pu (p2 (binA Tryz.prog .shr 66) x1 (.int .u64 1)) fun x2 =>
CM.pu (p1 (convA Tryz.prog 66 3) x2) fun x3 =>
CM.pu (p2 (indexAddrA Tryz.prog 116) t0 x3) fun x4 =>
CM.rm (q1 (loadA Tryz.prog 26) x4 ) fun x5 =>
CM.call 188 [x5, t1] fun x6 =>
CM.cond x6 (
CM.pu (p2 (binA Tryz.prog .add 3) x3 (.int .i64 1)) fun x7 =>
CM.go 557056 [t0, t1, t6, x7, t8]) (
CM.go 557056 [t0, t1, t6, t7, x3])
theorem g136_1_ok : LeD (real E Mk Nk) g136_1 (fun ts m => goR E Mk 557057 ts m) := apS_le fun _ => apS_le fun _ => apS_le fun _ => apS_le fun _ => apS_le fun _ => ap0_le fun _ => goR_eq 400 (by kernel_rfl)
noncomputable def g136_2 : List AV → CM := apS fun t0 => apS fun t1 => apS fun t6 => apS fun t7 => ap0 <|
CM.pu (p2 (binA Tryz.prog .lss 3) t7 t6) fun x0 =>
CM.ifv x0 (
CM.pu (p2 (indexAddrA Tryz.prog 116) t0 t7) fun x1 =>
CM.rm (q1 (loadA Tryz.prog 26) x1 ) fun x2 =>
CM.pu (p2 (binA Tryz.prog .eql 26) x2 t1) fun x3 =>
CM.ifv x3 (
CM.ret (.tup [t7, (.bool true)])) (
CM.pu (p2 (indexAddrA Tryz.prog 116) t0 t7) fun x4 =>
CM.rm (q1 (loadA Tryz.prog 26) x4 ) fun x5 =>
CM.call 189 [x5] fun x6 =>
CM.ifv x6 (
CM.call 189 [t1] fun x7 =>
CM.ret (.tup [t7, x7])) (
CM.ret (.tup [t7, (.bool false)])))) (
CM.ret (.tup [t7, (.bool false)]))
theorem g136_2_ok : LeD (real E Mk Nk) g136_2 (fun ts m => goR E Mk 557058 ts m) := apS_le fun _ => apS_le fun _ => apS_le fun _ => apS_le fun _ => ap0_le fun _ => goR_eq 400 (by kernel_rfl)
noncomputable def f136 : List AV → CM := apS fun a0 => apS fun a1 => ap0 <|
CM.pu (p1 (lenT Tryz.prog 116) a0) fun x0 =>
CM.go 557056 [a0, a1, x0, (.int .i64 0), x0]
theorem f136_ok : LeD (real E Mk Nk) f136 (fun xs m => run E (.fn 136) xs m) := apS_le fun _ => apS_le fun _ => ap0_le fun _ => run_eq 400 rfl (by kernel_rfl) (by kernel_rfl)
noncomputable def g140_0 : List AV → CM := apS fun t0 => ap0 <|
CM.go 573441 [t0, (.int .i64 0)]
theorem g140_0_ok : LeD (real E Mk Nk) g140_0 (fun ts m => goR E Mk 573440 ts m) := apS_le fun _ => ap0_le fun _ => goR_eq 400 (by kernel_rfl)
noncomputable def g140_1 : List AV → CM := apS fun t0 => apS fun t3 => ap0 <|
CM.pu (p2 (binA Tryz.prog .lss 3) t3 (.int .i64 3)) fun x0 =>
CM.cond x0 (
CM.go 573442 [t0, t3]) (
CM.go 573444 [])
theorem g140_1_ok : LeD (real E Mk Nk) g140_1 (fun ts m => goR E Mk 573441 ts m) := apS_le fun _ => apS_le fun _ => ap0_le fun _ => goR_eq 400 (by kernel_rfl)
noncomputable def g140_2 : List AV → CM := apS fun t0 => apS fun t3 => ap0 <|
CM.pu (p2 (indexA Tryz.prog 9) t0 t3) fun x0 =>
CM.pu (p2 (binA Tryz.prog .lss 5) x0 (.int .u8 65)) fun x1 =>
CM.ifv x1 (
CM.ret (.bool false)) (
CM.pu (p2 (indexA Tryz.prog 9) t0 t3) fun x2 =>
CM.pu (p2 (binA Tryz.prog .gtr 5) x2 (.int .u8 90)) fun x3 =>
CM.cond x3 (
CM.ret (.bool false)) (
CM.go 573443 [t0, t3]))
theorem g140_2_ok : LeD (real E Mk Nk) g140_2 (fun ts m => goR E Mk 573442 ts m) := apS_le fun _ => apS_le fun _ => ap0_le fun _ => goR_eq 400 (by kernel_rfl)
noncomputable def g140_3 : List AV → CM := apS fun t0 => apS fun t3 => ap0 <|
CM.pu (p2 (binA Tryz.prog .add 3) t3 (.int .i64 1)) fun x0 =>
CM.go 573441 [t0, x0]
theorem g140_3_ok : LeD (real E Mk Nk) g140_3 (fun ts m => goR E Mk 573443 ts m) := apS_le fun _ => apS_le fun _ => ap0_le fun _ => goR_eq 400 (by kernel_rfl)
noncomputable def g140_4 : List AV → CM := ap0 <|
CM.ret (.bool true)
theorem g140_4_ok : LeD (real E Mk Nk) g140_4 (fun ts m => goR E Mk 573444 ts m) := ap0_le fun _ => goR_eq 400 (by kernel_rfl)
noncomputable def f140 : List AV → CM := apS fun a0 => ap0 <|
CM.pu (p1 (lenT Tryz.prog 9) a0) fun x0 =>
CM.pu (p2 (binA Tryz.prog .neq 3) x0 (.int .i64 3)) fun x1 =>
CM.cond x1 (
CM.ret (.bool false)) (
CM.go 573440 [a0])
theorem f140_ok : LeD (real E Mk Nk) f140 (fun xs m => run E (.fn 140) xs m) := apS_le fun _ => ap0_le fun _ => run_eq 400 rfl (by kernel_rfl) (by kernel_rfl)
noncomputable def g141_0 : List AV → CM := apS fun t0 => apS fun t1 => apS fun t7 => apS fun t8 => ap0 <|
CM.pu (p2 (binA Tryz.prog .add 3) t1 t8) fun x0 =>
CM.pu (p1 (lenT Tryz.prog 33) t0) fun x1 =>
CM.pu (p2 (binA Tryz.prog .geq 3) x0 x1) fun x2 =>
CM.cond x2 (
CM.ret (.tup [(.int .u64 0), (.int .i64 10), (.int .i64 0)])) (
CM.go 577537 [t0, t1, t7, t8])
theorem g141_0_ok : LeD (real E Mk Nk) g141_0 (fun ts m => goR E Mk 577536 ts m) := apS_le fun _ => apS_le fun _ => apS_le fun _ => apS_le fun _ => ap0_le fun _ => goR_eq 400 (by kernel_rfl)
noncomputable def g141_1 : List AV → CM := apS fun t0 => apS fun t1 => apS fun t7 => apS fun t8 => ap0 <|
CM.pu (p2 (binA Tryz.prog .add 3) t1 t8) fun x0 =>
CM.pu (p2 (indexAddrA Tryz.prog 33) t0 x0) fun x1 =>
CM.rm (q1 (loadA Tryz.prog 5) x1 ) fun x2 =>
CM.pu (p2 (binA Tryz.prog .eql 3) t8 (.int .i64 9)) fun x3 =>
CM.ifv x3 (
CM.pu (p2 (binA Tryz.prog .gtr 5) x2 (.int .u8 1)) fun x4 =>
CM.cond x4 (
CM.ret (.tup [(.int .u64 0), (.int .i64 11), (.int .i64 0)])) (
CM.go 577538 [t0, t1, t7, t8, x2])) (
CM.go 577538 [t0, t1, t7, t8, x2])
theorem g141_1_ok : LeD (real E Mk Nk) g141_1 (fun ts m => goR E Mk 577537 ts m) := apS_le fun _ => apS_le fun _ => apS_le fun _ => apS_le fun _ => ap0_le fun _ => goR_eq 400 (by kernel_rfl)
noncomputable def g141_2 : List AV → CM := apS fun t0 => apS fun t1 => apS fun t7 => apS fun t8 => apS fun t9 => ap0 <|
CM.pu (p2 (binA Tryz.prog .and 5) t9 (.int .u8 127)) fun x0 =>
CM.pu (p1 (convA Tryz.prog 5 26) x0) fun x1 =>
CM.pu (p2 (binA Tryz.prog .mul 3) (.int .i64 7) t8) fun x2 =>
CM.pu (p1 (convA Tryz.prog 3 66) x2) fun x3 =>
CM.pu (p2 (binA Tryz.prog .shl 26) x1 x3) fun x4 =>
CM.pu (p2 (binA Tryz.prog .or 26) t7 x4) fun x5 =>
CM.pu (p2 (binA Tryz.prog .geq 5) t9 (.int .u8 128)) fun x6 =>
CM.cond x6 (
CM.go 577541 [t0, t1, x5, t8]) (
CM.go 577539 [t1, x5, t8, t9])
theorem g141_2_ok : LeD (real E Mk Nk) g141_2 (fun ts m => goR E Mk 577538 ts m) := apS_le fun _ => apS_le fun _ => apS_le fun _ => apS_le fun _ => apS_le fun _ => ap0_le fun _ => goR_eq 400 (by kernel_rfl)
noncomputable def g141_3 : List AV → CM := apS fun t1 => apS fun t7 => apS fun t8 => apS fun t9 => ap0 <|
CM.pu (p2 (binA Tryz.prog .eql 5) t9 (.int .u8 0)) fun x0 =>
CM.ifv x0 (
CM.pu (p2 (binA Tryz.prog .gtr 3) t8 (.int .i64 0)) fun x1 =>
CM.cond x1 (
CM.ret (.tup [(.int .u64 0), (.int .i64 11), (.int .i64 0)])) (
CM.go 577540 [t1, t7, t8])) (
CM.go 577540 [t1, t7, t8])
theorem g141_3_ok : LeD (real E Mk Nk) g141_3 (fun ts m => goR E Mk 577539 ts m) := apS_le fun _ => apS_le fun _ => apS_le fun _ => apS_le fun _ => ap0_le fun _ => goR_eq 400 (by kernel_rfl)
noncomputable def g141_4 : List AV → CM := apS fun t1 => apS fun t7 => apS fun t8 => ap0 <|
CM.pu (p2 (binA Tryz.prog .add 3) t1 t8) fun x0 =>
CM.pu (p2 (binA Tryz.prog .add 3) x0 (.int .i64 1)) fun x1 =>
CM.ret (.tup [t7, (.int .i64 0), x1])
theorem g141_4_ok : LeD (real E Mk Nk) g141_4 (fun ts m => goR E Mk 577540 ts m) := apS_le fun _ => apS_le fun _ => apS_le fun _ => ap0_le fun _ => goR_eq 400 (by kernel_rfl)
noncomputable def g141_5 : List AV → CM := apS fun t0 => apS fun t1 => apS fun t7 => apS fun t8 => ap0 <|
CM.pu (p2 (binA Tryz.prog .add 3) t8 (.int .i64 1)) fun x0 =>
CM.go 577536 [t0, t1, t7, x0]
theorem g141_5_ok : LeD (real E Mk Nk) g141_5 (fun ts m => goR E Mk 577541 ts m) := apS_le fun _ => apS_le fun _ => apS_le fun _ => apS_le fun _ => ap0_le fun _ => goR_eq 400 (by kernel_rfl)
noncomputable def f141 : List AV → CM := apS fun a0 => apS fun a1 => ap0 <|
CM.go 577536 [a0, a1, (.int .u64 0), (.int .i64 0)]
theorem f141_ok : LeD (real E Mk Nk) f141 (fun xs m => run E (.fn 141) xs m) := apS_le fun _ => apS_le fun _ => ap0_le fun _ => run_eq 400 rfl (by kernel_rfl) (by kernel_rfl)
noncomputable def f142 : List AV → CM := apS fun a0 => ap0 <|
CM.call 93 [a0, (.int .u64 18446744073709551615)] fun x0 =>
CM.pu (p2 (binA Tryz.prog .shr 26) x0 (.int .u64 1)) fun x1 =>
CM.pu (p1 (convA Tryz.prog 26 2) x1) fun x2 =>
CM.pu (p2 (binA Tryz.prog .and 26) x0 (.int .u64 1)) fun x3 =>
CM.pu (p1 (convA Tryz.prog 26 2) x3) fun x4 =>
CM.pu (p1 (unA .neg) x4) fun x5 =>
CM.pu (p2 (binA Tryz.prog .xor 2) x2 x5) fun x6 =>
CM.ret x6
theorem f142_ok : LeD (real E Mk Nk) f142 (fun xs m => run E (.fn 142) xs m) := apS_le fun _ => ap0_le fun _ => run_eq 400 rfl (by kernel_rfl) (by kernel_rfl)
noncomputable def f143 : List AV → CM := apS fun a0 => ap0 <|
CM.pu (p2 (binA Tryz.prog .geq 26) a0 (.int .u64 1)) fun x0 =>
CM.ifv x0 (
CM.pu (p2 (binA Tryz.prog .leq 26) a0 (.int .u64 72057594037927935)) fun x1 =>
CM.ret x1) (
CM.ret (.bool false))
theorem f143_ok : LeD (real E Mk Nk) f143 (fun xs m => run E (.fn 143) xs m) := apS_le fun _ => ap0_le fun _ => run_eq 400 rfl (by kernel_rfl) (by kernel_rfl)
noncomputable def f144 : List AV → CM := apS fun a0 => apS fun a1 => ap0 <|
CM.rm (q1 (loadA Tryz.prog 141) a1 ) fun x0 =>
CM.memo fun m1 =>
CM.call 146 [x0] fun x2 =>
CM.rm (q1 (loadA Tryz.prog 141) a1 ) fun x4 =>
CM.chk (q1 (loadA Tryz.prog 141) a1 m1) x4 <|
CM.call 147 [x4] fun x6 =>
CM.call 145 [x2, x6, a0] fun _ =>
CM.ret .undef
theorem f144_ok : LeD (real E Mk Nk) f144 (fun xs m => run E (.fn 144) xs m) := apS_le fun _ => apS_le fun _ => ap0_le fun _ => run_eq 400 rfl (by kernel_rfl) (by kernel_rfl)
noncomputable def g145_0 : List AV → CM := apS fun t1 => apS fun t2 => apS fun t8 => apS fun t9 => apS fun t10 => ap0 <|
CM.pu (p2 (binA Tryz.prog .lss 3) t10 t9) fun x0 =>
CM.cond x0 (
CM.go 593921 [t1, t2, t8, t9, t10]) (
CM.ret .undef)
theorem g145_0_ok : LeD (real E Mk Nk) g145_0 (fun ts m => goR E Mk 593920 ts m) := apS_le fun _ => apS_le fun _ => apS_le fun _ => apS_le fun _ => apS_le fun _ => ap0_le fun _ => goR_eq 400 (by kernel_rfl)
noncomputable def g145_1 : List AV → CM := apS fun t1 => apS fun t2 => apS fun t8 => apS fun t9 => apS fun t10 => ap0 <|
CM.pu (p2 (indexAddrA Tryz.prog 116) t8 t10) fun x0 =>
CM.rm (q1 (loadA Tryz.prog 26) x0 ) fun x1 =>
CM.pu (p2 (indexAddrA Tryz.prog 95) t1 t10) fun x2 =>
CM.rm (q1 (loadA Tryz.prog 146) x2 ) fun x3 =>
CM.callv t2 [x1, x3] fun x4 =>
CM.pu (p1 (unA .not) x4) fun x5 =>
CM.cond x5 (
CM.ret .undef) (
CM.go 593922 [t1, t2, t8, t9, t10])
theorem g145_1_ok : LeD (real E Mk Nk) g145_1 (fun ts m => goR E Mk 593921 ts m) := apS_le fun _ => apS_le fun _ => apS_le fun _ => apS_le fun _ => apS_le fun _ => ap0_le fun _ => goR_eq 400 (by kernel_rfl)
noncomputable def g145_2 : List AV → CM := apS fun t1 => apS fun t2 => apS fun t8 => apS fun t9 => apS fun t10 => ap0 <|
CM.pu (p2 (binA Tryz.prog .add 3) t10 (.int .i64 1)) fun x0 =>
CM.go 593920 [t1, t2, t8, t9, x0]
theorem g145_2_ok : LeD (real E Mk Nk) g145_2 (fun ts m => goR E Mk 593922 ts m) := apS_le fun _ => apS_le fun _ => apS_le fun _ => apS_le fun _ => apS_le fun _ => ap0_le fun _ => goR_eq 400 (by kernel_rfl)
noncomputable def f145 : List AV → CM := apS fun a0 => apS fun a1 => apS fun a2 => ap0 <|
CM.pu (p1 (lenT Tryz.prog 116) a0) fun x0 =>
CM.go 593920 [a1, a2, a0, x0, (.int .i64 0)]
theorem f145_ok : LeD (real E Mk Nk) f145 (fun xs m => run E (.fn 145) xs m) := apS_le fun _ => apS_le fun _ => apS_le fun _ => ap0_le fun _ => run_eq 400 rfl (by kernel_rfl) (by kernel_rfl)
noncomputable def f146 : List AV → CM := apS fun a0 => ap0 <|
CM.al (some (.cells [] false, sB 1 0)) fun x0 =>
CM.pu (p1 nnA a0) fun x1 =>
CM.pu (p1 (fun a => fieldAddrA Tryz.prog 214 a 0) x1) fun x2 =>
CM.rm (q1 (loadA Tryz.prog 116) x2 ) fun x3 =>
CM.ef (apE 1 8 x0 x3) fun x4 =>
CM.ret x4
theorem f146_ok : LeD (real E Mk Nk) f146 (fun xs m => run E (.fn 146) xs m) := apS_le fun _ => ap0_le fun _ => run_eq 400 rfl (by kernel_rfl) (by kernel_rfl)
noncomputable def f147 : List AV → CM := apS fun a0 => ap0 <|
CM.al (some (.cells [] false, sB 4 0)) fun x0 =>
CM.pu (p1 nnA a0) fun x1 =>
CM.pu (p1 (fun a => fieldAddrA Tryz.prog 214 a 1) x1) fun x2 =>
CM.rm (q1 (loadA Tryz.prog 95) x2 ) fun x3 =>
CM.ef (apE 4 48 x0 x3) fun x4 =>
CM.ret x4
theorem f147_ok : LeD (real E Mk Nk) f147 (fun xs m => run E (.fn 147) xs m) := apS_le fun _ => ap0_le fun _ => run_eq 400 rfl (by kernel_rfl) (by kernel_rfl)
noncomputable def g148_0 : List AV → CM := apS fun t0 => apS fun t1 => apS fun t2 => ap0 <|
CM.pu (p1 (lenT Tryz.prog 116) t0) fun x0 =>
CM.pu (p2 (fun a h => sliceA Tryz.prog 116 a none (some h)) t0 t1) fun x1 =>
CM.pu (p2 (fun a l => sliceA Tryz.prog 116 a (some l) none) t0 t2) fun x2 =>
CM.ef (apE 1 8 x1 x2) fun x4 =>
CM.pu (p1 (lenT Tryz.prog 116) x4) fun x6 =>
CM.pu (p3 (fun a l h => sliceA Tryz.prog 116 a (some l) (some h)) x4 x6 x0) fun x7 =>
CM.st (clearA Tryz.prog 116 x7) <|
CM.ret x4
theorem g148_0_ok : LeD (real E Mk Nk) g148_0 (fun ts m => goR E Mk 606208 ts m) := apS_le fun _ => apS_le fun _ => apS_le fun _ => ap0_le fun _ => goR_eq 400 (by kernel_rfl)
noncomputable def f148 : List AV → CM := apS fun a0 => apS fun a1 => apS fun a2 => ap0 <|
CM.pu (p1 (lenT Tryz.prog 116) a0) fun x0 =>
CM.pu (slice3A Tryz.prog 116 a0 (some a1) a2 x0) fun _ =>
CM.pu (p2 (binA Tryz.prog .eql 3) a1 a2) fun x2 =>
CM.cond x2 (
CM.ret a0) (
CM.go 606208 [a0, a1, a2])
theorem f148_ok : LeD (real E Mk Nk) f148 (fun xs m => run E (.fn 148) xs m) := apS_le fun _ => apS_le fun _ => apS_le fun _ => ap0_le fun _ => run_eq 400 rfl (by kernel_rfl) (by kernel_rfl)
noncomputable def g149_0 : List AV → CM := apS fun t0 => apS fun t1 => apS fun t2 => ap0 <|
CM.pu (p1 (lenT Tryz.prog 95) t0) fun x0 =>
CM.pu (p2 (fun a h => sliceA Tryz.prog 95 a none (some h)) t0 t1) fun x1 =>
CM.pu (p2 (fun a l => sliceA Tryz.prog 95 a (some l) none) t0 t2) fun x2 =>
CM.ef (apE 4 48 x1 x2) fun x4 =>
CM.pu (p1 (lenT Tryz.prog 95) x4) fun x6 =>
CM.pu (p3 (fun a l h => sliceA Tryz.prog 95 a (some l) (some h)) x4 x6 x0) fun x7 =>
CM.st (clearA Tryz.prog 95 x7) <|
CM.ret x4
theorem g149_0_ok : LeD (real E Mk Nk) g149_0 (fun ts m => goR E Mk 610304 ts m) := apS_le fun _ => apS_le fun _ => apS_le fun _ => ap0_le fun _ => goR_eq 400 (by kernel_rfl)
noncomputable def f149 : List AV → CM := apS fun a0 => apS fun a1 => apS fun a2 => ap0 <|
CM.pu (p1 (lenT Tryz.prog 95) a0) fun x0 =>
CM.pu (slice3A Tryz.prog 95 a0 (some a1) a2 x0) fun _ =>
CM.pu (p2 (binA Tryz.prog .eql 3) a1 a2) fun x2 =>
CM.cond x2 (
CM.ret a0) (
CM.go 610304 [a0, a1, a2])
theorem f149_ok : LeD (real E Mk Nk) f149 (fun xs m => run E (.fn 149) xs m) := apS_le fun _ => apS_le fun _ => apS_le fun _ => ap0_le fun _ => run_eq 400 rfl (by kernel_rfl) (by kernel_rfl)
noncomputable def g150_0 : List AV → CM := apS fun t0 => apS fun t4 => apS fun t6 => ap0 <|
CM.pu (p1 nnA t0) fun x0 =>
CM.pu (p1 (fun a => fieldAddrA Tryz.prog 208 a 1) x0) fun x1 =>
CM.rm (q1 (loadA Tryz.prog 89) x1 ) fun x2 =>
CM.pu (p2 (indexAddrA Tryz.prog 89) x2 t6) fun x3 =>
CM.rm (q1 (loadA Tryz.prog 132) x3 ) fun x4 =>
CM.st (fun m => stV m t4 x4 4) <|
CM.resC Tryz.prog [ResultVar.cell 0 132, ResultVar.tmp 1] [t4, (.bool true)]
theorem g150_0_ok : LeD (real E Mk Nk) g150_0 (fun ts m => goR E Mk 614400 ts m) := apS_le fun _ => apS_le fun _ => apS_le fun _ => ap0_le fun _ => goR_eq 400 (by kernel_rfl)
noncomputable def f150 : List AV → CM := apS fun a0 => apS fun a1 => ap0 <|
CM.al (some (.cells [(.str []), (.int .i64 0), (.int .i64 0), (.int .u64 0)] false, pB)) fun x0 =>
CM.pu (p1 nnA a0) fun x1 =>
CM.pu (p1 (fun a => fieldAddrA Tryz.prog 208 a 0) x1) fun x2 =>
CM.rm (q1 (loadA Tryz.prog 206) x2 ) fun x3 =>
CM.call 132 [x3, a1] fun x4 =>
CM.pu (p1 (fun a => extractA a 0) x4) fun x5 =>
CM.pu (p1 (fun a => extractA a 1) x4) fun x6 =>
CM.pu (p1 (unA .not) x6) fun x7 =>
CM.cond x7 (
CM.al (some (.cells [(.str []), (.int .i64 0), (.int .i64 0), (.int .u64 0)] false, pB)) fun x8 =>
CM.rm (q1 (loadA Tryz.prog 132) x8 ) fun x9 =>
CM.st (fun m => stV m x0 x9 4) <|
CM.resC Tryz.prog [ResultVar.cell 0 132, ResultVar.tmp 1] [x0, (.bool false)]) (
CM.go 614400 [a0, x0, x5])
theorem f150_ok : LeD (real E Mk Nk) f150 (fun xs m => run E (.fn 150) xs m) := apS_le fun _ => apS_le fun _ => ap0_le fun _ => run_eq 400 rfl (by kernel_rfl) (by kernel_rfl)
noncomputable def f151 : List AV → CM := apS fun a0 => ap0 <|
CM.pu (p1 nnA a0) fun x0 =>
CM.pu (p1 (fun a => fieldAddrA Tryz.prog 212 a 0) x0) fun x1 =>
CM.rm (q1 (loadA Tryz.prog 116) x1 ) fun x2 =>
CM.pu (p1 (lenT Tryz.prog 116) x2) fun x3 =>
CM.ret x3
theorem f151_ok : LeD (real E Mk Nk) f151 (fun xs m => run E (.fn 151) xs m) := apS_le fun _ => ap0_le fun _ => run_eq 400 rfl (by kernel_rfl) (by kernel_rfl)
noncomputable def g152_0 : List AV → CM := apS fun t0 => apS fun t4 => apS fun t5 => apS fun t7 => ap0 <|
CM.pu (p1 nnA t0) fun x0 =>
CM.pu (p1 (fun a => fieldAddrA Tryz.prog 128 a 1) x0) fun x1 =>
CM.rm (q1 (loadA Tryz.prog 124) x1 ) fun x2 =>
CM.pu (p1 (fun a => fieldAddrA Tryz.prog 140 a 1) t7) fun x3 =>
CM.rm (q1 (loadA Tryz.prog 9) x3 ) fun x4 =>
CM.call 150 [x2, x4] fun x6 =>
CM.pu (p1 (fun a => extractA a 0) x6) fun x8 =>
CM.pu (p1 (fun a => extractA a 1) x6) fun _ =>
CM.al (some (.cells [(.str []), (.int .i64 0), (.int .i64 0), (.int .u64 0)] false, pB)) fun x10 =>
CM.st (fun m => stV m x10 x8 4) <|
CM.rm (q1 (loadA Tryz.prog 140) t7 ) fun x14 =>
CM.rm (q1 (loadA Tryz.prog 132) x10 ) fun x15 =>
CM.st (fun m => stV m t4 x14 4) <|
CM.memo fun m18 =>
CM.chk (q1 (loadA Tryz.prog 132) x10 m18) x15 <|
CM.st (fun m => stV m t5 x15 4) <|
CM.resC Tryz.prog [ResultVar.cell 0 140, ResultVar.cell 1 132, ResultVar.tmp 2] [t4, t5, (.int .i64 0)]
theorem g152_0_ok : LeD (real E Mk Nk) g152_0 (fun ts m => goR E Mk 622592 ts m) := apS_le fun _ => apS_le fun _ => apS_le fun _ => apS_le fun _ => ap0_le fun _ => goR_eq 400 (by kernel_rfl)
noncomputable def f152 : List AV → CM := apS fun a0 => apS fun a1 => ap0 <|
CM.al (some (.cells [(.int .u64 0), (.str []), (.int .i64 0), (.int .u64 0)] false, pB)) fun x0 =>
CM.al (some (.cells [(.str []), (.int .i64 0), (.int .i64 0), (.int .u64 0)] false, pB)) fun x1 =>
CM.pu (p1 nnA a0) fun x2 =>
CM.pu (p1 (fun a => fieldAddrA Tryz.prog 128 a 3) x2) fun x3 =>
CM.rm (q1 (loadA Tryz.prog 126) x3 ) fun x4 =>
CM.call 196 [x4, a1] fun x5 =>
CM.pu (p1 (fun a => extractA a 0) x5) fun x6 =>
CM.pu (p1 (fun a => extractA a 1) x5) fun x7 =>
CM.al (some (.cells [(.int .u64 0), (.str []), (.int .i64 0), (.int .u64 0)] false, pB)) fun x8 =>
CM.st (fun m => stV m x8 x6 4) <|
CM.pu (p1 (unA .not) x7) fun x10 =>
CM.cond x10 (
CM.rm (q1 (loadA Tryz.prog 140) x8 ) fun x11 =>
CM.pu (p1 (buildA Tryz.prog 132) []) fun x12 =>
CM.st (fun m => stV m x0 x11 4) <|
CM.st (fun m => stV m x1 x12 4) <|
CM.resC Tryz.prog [ResultVar.cell 0 140, ResultVar.cell 1 132, ResultVar.tmp 2] [x0, x1, (.int .i64 40)]) (
CM.go 622592 [a0, x0, x1, x8])
theorem f152_ok : LeD (real E Mk Nk) f152 (fun xs m => run E (.fn 152) xs m) := apS_le fun _ => apS_le fun _ => ap0_le fun _ => run_eq 400 rfl (by kernel_rfl) (by kernel_rfl)
noncomputable def g153_0 : List AV → CM := ap0 <|
CM.ret (.int .i64 0)
theorem g153_0_ok : LeD (real E Mk Nk) g153_0 (fun ts m => goR E Mk 626688 ts m) := ap0_le fun _ => goR_eq 400 (by kernel_rfl)
noncomputable def f153 : List AV → CM := apS fun a0 => apS fun a1 => ap0 <|
CM.al (boxA a0) fun x0 =>
CM.al (boxA a1) fun x1 =>
CM.pu (p1 (fun a => fieldAddrA Tryz.prog 38 a 1) x1) fun x2 =>
CM.rm (q1 (loadA Tryz.prog 3) x2 ) fun x3 =>
CM.pu (p1 (fun a => fieldAddrA Tryz.prog 132 a 1) x0) fun x4 =>
CM.rm (q1 (loadA Tryz.prog 3) x4 ) fun x5 =>
CM.pu (p2 (binA Tryz.prog .neq 3) x3 x5) fun x6 =>
CM.cond x6 (
CM.ret (.int .i64 21)) (
CM.pu (p1 (fun a => fieldAddrA Tryz.prog 38 a 0) x1) fun x7 =>
CM.rm (q1 (loadA Tryz.prog 36) x7 ) fun x8 =>
CM.call 161 [x8] fun x9 =>
CM.pu (p2 (binA Tryz.prog .leq 3) x9 (.int .i64 0)) fun x10 =>
CM.cond x10 (
CM.ret (.int .i64 43)) (
CM.go 626688 []))
theorem f153_ok : LeD (real E Mk Nk) f153 (fun xs m => run E (.fn 153) xs m) := apS_le fun _ => apS_le fun _ => ap0_le fun _ => run_eq 400 rfl (by kernel_rfl) (by kernel_rfl)
noncomputable def g154_0 : List AV → CM := apS fun t0 => apS fun t1 => apS fun t7 => apS fun t9 => ap0 <|
CM.rm (q1 (loadA Tryz.prog 36) t7 ) fun x0 =>
CM.rm (q1 (loadA Tryz.prog 36) t9 ) fun x1 =>
CM.pu (p1 nnA t0) fun x2 =>
CM.st (fun m => stV m x2 x0 2) <|
CM.memo fun m5 =>
CM.chk (q1 (loadA Tryz.prog 36) t9 m5) x1 <|
CM.pu (p1 nnA t1) fun x6 =>
CM.st (fun m => stV m x6 x1 2) <|
CM.ret (.int .i64 0)
theorem g154_0_ok : LeD (real E Mk Nk) g154_0 (fun ts m => goR E Mk 630784 ts m) := apS_le fun _ => apS_le fun _ => apS_le fun _ => apS_le fun _ => ap0_le fun _ => goR_eq 400 (by kernel_rfl)
noncomputable def f154 : List AV → CM := apS fun a0 => apS fun a1 => apS fun a2 => ap0 <|
CM.al (boxA a2) fun x0 =>
CM.pu (p1 nnA a0) fun x1 =>
CM.rm (q1 (loadA Tryz.prog 36) x1 ) fun x2 =>
CM.rm (q1 (loadA Tryz.prog 36) x0 ) fun x3 =>
CM.call 197 [x2, x3] fun x5 =>
CM.pu (p1 (fun a => extractA a 0) x5) fun x7 =>
CM.pu (p1 (fun a => extractA a 1) x5) fun x8 =>
CM.al (some (.cells [(.int .i64 0), (.int .u64 0)] false, pB)) fun x9 =>
CM.st (fun m => stV m x9 x7 2) <|
CM.pu (p1 nnA a1) fun x13 =>
CM.rm (q1 (loadA Tryz.prog 36) x13 ) fun x14 =>
CM.rm (q1 (loadA Tryz.prog 36) x0 ) fun x15 =>
CM.call 198 [x14, x15] fun x17 =>
CM.pu (p1 (fun a => extractA a 0) x17) fun x19 =>
CM.pu (p1 (fun a => extractA a 1) x17) fun x20 =>
CM.al (some (.cells [(.int .i64 0), (.int .u64 0)] false, pB)) fun x21 =>
CM.st (fun m => stV m x21 x19 2) <|
CM.pu (p2 (binA Tryz.prog .neq 23) x8 (.int .i64 0)) fun x25 =>
CM.ifv x25 (
CM.ret (.int .i64 20)) (
CM.pu (p2 (binA Tryz.prog .neq 23) x20 (.int .i64 0)) fun x26 =>
CM.cond x26 (
CM.ret (.int .i64 20)) (
CM.go 630784 [a0, a1, x9, x21]))
theorem f154_ok : LeD (real E Mk Nk) f154 (fun xs m => run E (.fn 154) xs m) := apS_le fun _ => apS_le fun _ => apS_le fun _ => ap0_le fun _ => run_eq 400 rfl (by kernel_rfl) (by kernel_rfl)
end Go.Proofs.YtfiipajgdhafaaaGreat.T
