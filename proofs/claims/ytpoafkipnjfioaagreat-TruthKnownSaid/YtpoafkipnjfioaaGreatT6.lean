/- Functions as trees, printed by our own program (wip/tools/gen3.lean). -/
import Derived.Test.YtpoafkipnjfioaaGreatT0
namespace Go.Proofs.YtpoafkipnjfioaaGreat.T
open Go Go.Abs Go.Proofs.YtpoafkipnjfioaaGreat
set_option maxRecDepth 10000
variable {H : FuncId → Option (List AV → Mem → R)}
noncomputable def f161 : List AV → CM := apS fun a0 => apS fun a1 => ap0 <|
 CM.al (boxA a0) fun x0 =>
 CM.al (boxA a1) fun x1 =>
 CM.al (some (.cells [(.int .i64 0), (.int .u64 0)] false, pB)) fun x2 =>
 CM.pu (p1 (fun a => fieldAddrA Tryz.prog 33 a 0) x0) fun x3 =>
 CM.rm (q1 (loadA Tryz.prog 2) x3 ) fun x4 =>
 CM.pu (p2 (binA Tryz.prog .lss 2) x4 (.int .i64 0)) fun x5 =>
 CM.pu (p1 (fun a => fieldAddrA Tryz.prog 33 a 0) x1) fun x6 =>
 CM.rm (q1 (loadA Tryz.prog 2) x6 ) fun x7 =>
 CM.pu (p2 (binA Tryz.prog .lss 2) x7 (.int .i64 0)) fun x8 =>
 CM.pu (p2 (binA Tryz.prog .neq 4) x5 x8) fun x9 =>
 CM.rm (q1 (loadA Tryz.prog 33) x0 ) fun x10 =>
 CM.rm (q1 (loadA Tryz.prog 33) x1 ) fun x11 =>
 CM.call 216 [x10, x11] fun x13 =>
 CM.memo fun m14 =>
 CM.chk (q1 (loadA Tryz.prog 2) x6 m14) x7 <|
 CM.chk (q1 (loadA Tryz.prog 2) x3 m14) x4 <|
 CM.call 218 [x9, x13] fun x16 =>
 CM.pu (p1 (fun a => extractA a 0) x16) fun x18 =>
 CM.pu (p1 (fun a => extractA a 1) x16) fun x19 =>
 CM.st (fun m => stV m x2 x18 2) <|
 CM.resC Tryz.prog [ResultVar.cell 0 33, ResultVar.tmp 1] [x2, x19]
theorem f161_ok (h : H 161 = none) : EqD (Rl H) f161 (fun xs m => run (EH H) (.fn 161) xs m) := sE fun _ => sE fun _ => zE fun _ => run_eq 400 h (by kernel_rfl) (by kernel_rfl)
noncomputable def g162_0 : List AV → CM := apS fun t2 => apS fun t4 => apS fun t6 => ap0 <|
 CM.rm (q1 (loadA Tryz.prog 33) t2 ) fun x0 =>
 CM.rm (q1 (loadA Tryz.prog 33) t6 ) fun x1 =>
 CM.call 161 [x0, x1] fun x2 =>
 CM.pu (p1 (fun a => extractA a 0) x2) fun x3 =>
 CM.pu (p1 (fun a => extractA a 1) x2) fun x4 =>
 CM.st (fun m => stV m t4 x3 2) <|
 CM.resC Tryz.prog [ResultVar.cell 0 33, ResultVar.tmp 1] [t4, x4]
theorem g162_0_ok : EqD (Rl H) g162_0 (fun xs m => goR (EH H) Mk 663552 xs m) := sE fun _ => sE fun _ => sE fun _ => zE fun _ => goR_eq 400 (by kernel_rfl)
noncomputable def f162 : List AV → CM := apS fun a0 => apS fun a1 => ap0 <|
 CM.al (boxA a0) fun x0 =>
 CM.al (some (.cells [(.int .i64 0), (.int .u64 0)] false, pB)) fun x1 =>
 CM.call 219 [a1] fun x2 =>
 CM.pu (p1 (fun a => extractA a 0) x2) fun x3 =>
 CM.pu (p1 (fun a => extractA a 1) x2) fun x4 =>
 CM.al (some (.cells [(.int .i64 0), (.int .u64 0)] false, pB)) fun x5 =>
 CM.st (fun m => stV m x5 x3 2) <|
 CM.pu (p2 (binA Tryz.prog .neq 23) x4 (.int .i64 0)) fun x7 =>
 CM.cond x7 (
 CM.pu (p1 (buildA Tryz.prog 33) []) fun x8 =>
 CM.st (fun m => stV m x1 x8 2) <|
 CM.resC Tryz.prog [ResultVar.cell 0 33, ResultVar.tmp 1] [x1, x4]) (
 CM.go 663552 [x0, x1, x5])
theorem f162_ok (h : H 162 = none) : EqD (Rl H) f162 (fun xs m => run (EH H) (.fn 162) xs m) := sE fun _ => sE fun _ => zE fun _ => run_eq 400 h (by kernel_rfl) (by kernel_rfl)
noncomputable def f163 : List AV → CM := apS fun a0 => apS fun a1 => ap0 <|
 CM.rm (q1 (loadA Tryz.prog 205) a1 ) fun x0 =>
 CM.memo fun m1 =>
 CM.call 165 [x0] fun x2 =>
 CM.rm (q1 (loadA Tryz.prog 205) a1 ) fun x4 =>
 CM.chk (q1 (loadA Tryz.prog 205) a1 m1) x4 <|
 CM.call 166 [x4] fun x6 =>
 CM.call 164 [x2, x6, a0] fun _ =>
 CM.ret .undef
theorem f163_ok (h : H 163 = none) : EqD (Rl H) f163 (fun xs m => run (EH H) (.fn 163) xs m) := sE fun _ => sE fun _ => zE fun _ => run_eq 400 h (by kernel_rfl) (by kernel_rfl)
noncomputable def g164_0 : List AV → CM := apS fun t1 => apS fun t2 => apS fun t8 => apS fun t9 => apS fun t10 => ap0 <|
 CM.pu (p2 (binA Tryz.prog .lss 3) t10 t9) fun x0 =>
 CM.cond x0 (
 CM.go 671745 [t1, t2, t8, t9, t10]) (
 CM.ret .undef)
theorem g164_0_ok : EqD (Rl H) g164_0 (fun xs m => goR (EH H) Mk 671744 xs m) := sE fun _ => sE fun _ => sE fun _ => sE fun _ => sE fun _ => zE fun _ => goR_eq 400 (by kernel_rfl)
noncomputable def g164_1 : List AV → CM := apS fun t1 => apS fun t2 => apS fun t8 => apS fun t9 => apS fun t10 => ap0 <|
 CM.pu (p2 (indexAddrA Tryz.prog 139) t8 t10) fun x0 =>
 CM.rm (q1 (loadA Tryz.prog 28) x0 ) fun x1 =>
 CM.pu (p2 (indexAddrA Tryz.prog 67) t1 t10) fun x2 =>
 CM.rm (q1 (loadA Tryz.prog 210) x2 ) fun x3 =>
 CM.callv t2 [x1, x3] fun x4 =>
 CM.pu (p1 (unA .not) x4) fun x5 =>
 CM.cond x5 (
 CM.ret .undef) (
 CM.go 671746 [t1, t2, t8, t9, t10])
theorem g164_1_ok : EqD (Rl H) g164_1 (fun xs m => goR (EH H) Mk 671745 xs m) := sE fun _ => sE fun _ => sE fun _ => sE fun _ => sE fun _ => zE fun _ => goR_eq 400 (by kernel_rfl)
noncomputable def g164_2 : List AV → CM := apS fun t1 => apS fun t2 => apS fun t8 => apS fun t9 => apS fun t10 => ap0 <|
 CM.pu (p2 (binA Tryz.prog .add 3) t10 (.int .i64 1)) fun x0 =>
 CM.go 671744 [t1, t2, t8, t9, x0]
theorem g164_2_ok : EqD (Rl H) g164_2 (fun xs m => goR (EH H) Mk 671746 xs m) := sE fun _ => sE fun _ => sE fun _ => sE fun _ => sE fun _ => zE fun _ => goR_eq 400 (by kernel_rfl)
noncomputable def f164 : List AV → CM := apS fun a0 => apS fun a1 => apS fun a2 => ap0 <|
 CM.pu (p1 (lenT Tryz.prog 139) a0) fun x0 =>
 CM.go 671744 [a1, a2, a0, x0, (.int .i64 0)]
theorem f164_ok (h : H 164 = none) : EqD (Rl H) f164 (fun xs m => run (EH H) (.fn 164) xs m) := sE fun _ => sE fun _ => sE fun _ => zE fun _ => run_eq 400 h (by kernel_rfl) (by kernel_rfl)
noncomputable def f165 : List AV → CM := apS fun a0 => ap0 <|
 CM.al (some (.cells [] false, sB 1 0)) fun x0 =>
 CM.pu (p1 nnA a0) fun x1 =>
 CM.pu (p1 (fun a => fieldAddrA Tryz.prog 260 a 0) x1) fun x2 =>
 CM.rm (q1 (loadA Tryz.prog 139) x2 ) fun x3 =>
 CM.ef (apE 1 8 x0 x3) fun x4 =>
 CM.ret x4
theorem f165_ok (h : H 165 = none) : EqD (Rl H) f165 (fun xs m => run (EH H) (.fn 165) xs m) := sE fun _ => zE fun _ => run_eq 400 h (by kernel_rfl) (by kernel_rfl)
noncomputable def f166 : List AV → CM := apS fun a0 => ap0 <|
 CM.al (some (.cells [] false, sB 4 0)) fun x0 =>
 CM.pu (p1 nnA a0) fun x1 =>
 CM.pu (p1 (fun a => fieldAddrA Tryz.prog 260 a 1) x1) fun x2 =>
 CM.rm (q1 (loadA Tryz.prog 67) x2 ) fun x3 =>
 CM.ef (apE 4 48 x0 x3) fun x4 =>
 CM.ret x4
theorem f166_ok (h : H 166 = none) : EqD (Rl H) f166 (fun xs m => run (EH H) (.fn 166) xs m) := sE fun _ => zE fun _ => run_eq 400 h (by kernel_rfl) (by kernel_rfl)
noncomputable def g167_0 : List AV → CM := apS fun t0 => apS fun t1 => apS fun t2 => ap0 <|
 CM.pu (p1 (lenT Tryz.prog 139) t0) fun x0 =>
 CM.pu (p2 (fun a h => sliceA Tryz.prog 139 a none (some h)) t0 t1) fun x1 =>
 CM.pu (p2 (fun a l => sliceA Tryz.prog 139 a (some l) none) t0 t2) fun x2 =>
 CM.ef (apE 1 8 x1 x2) fun x4 =>
 CM.pu (p1 (lenT Tryz.prog 139) x4) fun x6 =>
 CM.pu (p3 (fun a l h => sliceA Tryz.prog 139 a (some l) (some h)) x4 x6 x0) fun x7 =>
 CM.st (clearA Tryz.prog 139 x7) <|
 CM.ret x4
theorem g167_0_ok : EqD (Rl H) g167_0 (fun xs m => goR (EH H) Mk 684032 xs m) := sE fun _ => sE fun _ => sE fun _ => zE fun _ => goR_eq 400 (by kernel_rfl)
noncomputable def f167 : List AV → CM := apS fun a0 => apS fun a1 => apS fun a2 => ap0 <|
 CM.pu (p1 (lenT Tryz.prog 139) a0) fun x0 =>
 CM.pu (slice3A Tryz.prog 139 a0 (some a1) a2 x0) fun _ =>
 CM.pu (p2 (binA Tryz.prog .eql 3) a1 a2) fun x2 =>
 CM.cond x2 (
 CM.ret a0) (
 CM.go 684032 [a0, a1, a2])
theorem f167_ok (h : H 167 = none) : EqD (Rl H) f167 (fun xs m => run (EH H) (.fn 167) xs m) := sE fun _ => sE fun _ => sE fun _ => zE fun _ => run_eq 400 h (by kernel_rfl) (by kernel_rfl)
noncomputable def g168_0 : List AV → CM := apS fun t0 => apS fun t1 => apS fun t2 => ap0 <|
 CM.pu (p1 (lenT Tryz.prog 67) t0) fun x0 =>
 CM.pu (p2 (fun a h => sliceA Tryz.prog 67 a none (some h)) t0 t1) fun x1 =>
 CM.pu (p2 (fun a l => sliceA Tryz.prog 67 a (some l) none) t0 t2) fun x2 =>
 CM.ef (apE 4 48 x1 x2) fun x4 =>
 CM.pu (p1 (lenT Tryz.prog 67) x4) fun x6 =>
 CM.pu (p3 (fun a l h => sliceA Tryz.prog 67 a (some l) (some h)) x4 x6 x0) fun x7 =>
 CM.st (clearA Tryz.prog 67 x7) <|
 CM.ret x4
theorem g168_0_ok : EqD (Rl H) g168_0 (fun xs m => goR (EH H) Mk 688128 xs m) := sE fun _ => sE fun _ => sE fun _ => zE fun _ => goR_eq 400 (by kernel_rfl)
noncomputable def f168 : List AV → CM := apS fun a0 => apS fun a1 => apS fun a2 => ap0 <|
 CM.pu (p1 (lenT Tryz.prog 67) a0) fun x0 =>
 CM.pu (slice3A Tryz.prog 67 a0 (some a1) a2 x0) fun _ =>
 CM.pu (p2 (binA Tryz.prog .eql 3) a1 a2) fun x2 =>
 CM.cond x2 (
 CM.ret a0) (
 CM.go 688128 [a0, a1, a2])
theorem f168_ok (h : H 168 = none) : EqD (Rl H) f168 (fun xs m => run (EH H) (.fn 168) xs m) := sE fun _ => sE fun _ => sE fun _ => zE fun _ => run_eq 400 h (by kernel_rfl) (by kernel_rfl)
noncomputable def f169 : List AV → CM := apS fun a0 => apS fun a1 => ap0 <|
 CM.pu (p1 nnA a0) fun x0 =>
 CM.pu (p1 (fun a => fieldAddrA Tryz.prog 265 a 2) x0) fun x1 =>
 CM.rm (q1 (loadA Tryz.prog 23) x1 ) fun x2 =>
 CM.pu (p2 (binA Tryz.prog .eql 23) x2 (.int .i64 0)) fun x3 =>
 CM.cond x3 (
 CM.pu (p1 nnA a0) fun x4 =>
 CM.pu (p1 (fun a => fieldAddrA Tryz.prog 265 a 2) x4) fun x5 =>
 CM.st (fun m => stV m x5 a1 1) <|
 CM.ret .undef) (
 CM.ret .undef)
theorem f169_ok (h : H 169 = none) : EqD (Rl H) f169 (fun xs m => run (EH H) (.fn 169) xs m) := sE fun _ => sE fun _ => zE fun _ => run_eq 400 h (by kernel_rfl) (by kernel_rfl)
noncomputable def g170_0 : List AV → CM := apS fun t0 => apS fun t1 => ap0 <|
 CM.pu (p1 nnA t0) fun x0 =>
 CM.pu (p1 (fun a => fieldAddrA Tryz.prog 265 a 0) x0) fun x1 =>
 CM.rm (q1 (loadA Tryz.prog 60) x1 ) fun x2 =>
 CM.pu (p1 nnA t0) fun x3 =>
 CM.pu (p1 (fun a => fieldAddrA Tryz.prog 265 a 1) x3) fun x4 =>
 CM.rm (q1 (loadA Tryz.prog 3) x4 ) fun x5 =>
 CM.call 220 [x2, x5] fun x7 =>
 CM.pu (p1 (fun a => extractA a 0) x7) fun x9 =>
 CM.pu (p1 (fun a => extractA a 1) x7) fun x10 =>
 CM.pu (p1 (fun a => extractA a 2) x7) fun x11 =>
 CM.pu (p2 (binA Tryz.prog .eql 23) x10 (.int .i64 0)) fun x12 =>
 CM.ifv x12 (
 CM.pu (p2 (binA Tryz.prog .gtr 28) x9 t1) fun x13 =>
 CM.cond x13 (
 CM.go 696321 [t0, x9, (.int .i64 12), x11]) (
 CM.go 696321 [t0, x9, x10, x11])) (
 CM.go 696321 [t0, x9, x10, x11])
theorem g170_0_ok : EqD (Rl H) g170_0 (fun xs m => goR (EH H) Mk 696320 xs m) := sE fun _ => sE fun _ => zE fun _ => goR_eq 400 (by kernel_rfl)
noncomputable def g170_1 : List AV → CM := apS fun t0 => apS fun t5 => apS fun t6 => apS fun t7 => ap0 <|
 CM.pu (p2 (binA Tryz.prog .neq 23) t6 (.int .i64 0)) fun x0 =>
 CM.cond x0 (
 CM.call 169 [t0, t6] fun _ =>
 CM.ret (.int .u64 0)) (
 CM.go 696322 [t0, t5, t7])
theorem g170_1_ok : EqD (Rl H) g170_1 (fun xs m => goR (EH H) Mk 696321 xs m) := sE fun _ => sE fun _ => sE fun _ => sE fun _ => zE fun _ => goR_eq 400 (by kernel_rfl)
noncomputable def g170_2 : List AV → CM := apS fun t0 => apS fun t5 => apS fun t7 => ap0 <|
 CM.pu (p1 nnA t0) fun x0 =>
 CM.pu (p1 (fun a => fieldAddrA Tryz.prog 265 a 1) x0) fun x1 =>
 CM.st (fun m => stV m x1 t7 1) <|
 CM.ret t5
theorem g170_2_ok : EqD (Rl H) g170_2 (fun xs m => goR (EH H) Mk 696322 xs m) := sE fun _ => sE fun _ => sE fun _ => zE fun _ => goR_eq 400 (by kernel_rfl)
noncomputable def f170 : List AV → CM := apS fun a0 => apS fun a1 => ap0 <|
 CM.pu (p1 nnA a0) fun x0 =>
 CM.pu (p1 (fun a => fieldAddrA Tryz.prog 265 a 2) x0) fun x1 =>
 CM.rm (q1 (loadA Tryz.prog 23) x1 ) fun x2 =>
 CM.pu (p2 (binA Tryz.prog .neq 23) x2 (.int .i64 0)) fun x3 =>
 CM.cond x3 (
 CM.ret (.int .u64 0)) (
 CM.go 696320 [a0, a1])
theorem f170_ok (h : H 170 = none) : EqD (Rl H) f170 (fun xs m => run (EH H) (.fn 170) xs m) := sE fun _ => sE fun _ => zE fun _ => run_eq 400 h (by kernel_rfl) (by kernel_rfl)
noncomputable def f171 : List AV → CM := apS fun a0 => ap0 <|
 CM.al (some (.cells [(.int .i64 0), (.int .u64 0), (.int .i64 0)] false, pB)) fun x0 =>
 CM.al (some (.cells [(.int .i64 0), (.int .u64 0), (.int .i64 0)] false, pB)) fun x1 =>
 CM.call 119 [a0, (.int .u8 18)] fun x2 =>
 CM.pu (p1 (convA Tryz.prog 5 3) x2) fun x3 =>
 CM.pu (p1 (fun a => fieldAddrA Tryz.prog 35 a 1) x1) fun x4 =>
 CM.st (fun m => stV m x4 x3 1) <|
 CM.call 221 [a0] fun x6 =>
 CM.pu (p1 (fun a => fieldAddrA Tryz.prog 35 a 0) x1) fun x7 =>
 CM.pu (p1 (fun a => fieldAddrA Tryz.prog 33 a 0) x7) fun x8 =>
 CM.st (fun m => stV m x8 x6 1) <|
 CM.call 170 [a0, (.int .u64 18446744073709551615)] fun x10 =>
 CM.pu (p1 (fun a => fieldAddrA Tryz.prog 35 a 0) x1) fun x11 =>
 CM.pu (p1 (fun a => fieldAddrA Tryz.prog 33 a 1) x11) fun x12 =>
 CM.st (fun m => stV m x12 x10 1) <|
 CM.rm (q1 (loadA Tryz.prog 35) x1 ) fun x14 =>
 CM.st (fun m => stV m x0 x14 3) <|
 CM.resC Tryz.prog [ResultVar.cell 0 35] [x0]
theorem f171_ok (h : H 171 = none) : EqD (Rl H) f171 (fun xs m => run (EH H) (.fn 171) xs m) := sE fun _ => zE fun _ => run_eq 400 h (by kernel_rfl) (by kernel_rfl)
noncomputable def f172 : List AV → CM := apS fun a0 => ap0 <|
 CM.call 119 [a0, (.int .u8 90)] fun x0 =>
 CM.call 119 [a0, (.int .u8 90)] fun x1 =>
 CM.call 119 [a0, (.int .u8 90)] fun x2 =>
 CM.al (bsA 1 3 [(.int .u8 0)] [(0, x0), (1, x1), (2, x2)]) fun x3 =>
 CM.rm (q1 (toStrA Tryz.prog 60) x3 ) fun x4 =>
 CM.ret x4
theorem f172_ok (h : H 172 = none) : EqD (Rl H) f172 (fun xs m => run (EH H) (.fn 172) xs m) := sE fun _ => zE fun _ => run_eq 400 h (by kernel_rfl) (by kernel_rfl)
noncomputable def g173_0 : List AV → CM := ap0 <|
 CM.ret (.bool true)
theorem g173_0_ok : EqD (Rl H) g173_0 (fun xs m => goR (EH H) Mk 708608 xs m) := zE fun _ => goR_eq 400 (by kernel_rfl)
noncomputable def f173 : List AV → CM := apS fun a0 => apS fun a1 => ap0 <|
 CM.al (boxA a0) fun x0 =>
 CM.pu (p2 (binA Tryz.prog .eql 3) a1 (.int .i64 1)) fun x1 =>
 CM.cond x1 (
 CM.pu (p1 (fun a => fieldAddrA Tryz.prog 65 a 1) x0) fun x2 =>
 CM.rm (q1 (loadA Tryz.prog 28) x2 ) fun x3 =>
 CM.call 222 [x3] fun x4 =>
 CM.ret x4) (
 CM.pu (p2 (binA Tryz.prog .eql 3) a1 (.int .i64 2)) fun x5 =>
 CM.cond x5 (
 CM.pu (p1 (fun a => fieldAddrA Tryz.prog 65 a 2) x0) fun x6 =>
 CM.rm (q1 (loadA Tryz.prog 28) x6 ) fun x7 =>
 CM.call 222 [x7] fun x8 =>
 CM.ret x8) (
 CM.pu (p2 (binA Tryz.prog .eql 3) a1 (.int .i64 16)) fun x9 =>
 CM.cond x9 (
 CM.pu (p1 (fun a => fieldAddrA Tryz.prog 65 a 5) x0) fun x10 =>
 CM.rm (q1 (loadA Tryz.prog 35) x10 ) fun x11 =>
 CM.call 94 [x11] fun x12 =>
 CM.ret x12) (
 CM.pu (p2 (binA Tryz.prog .eql 3) a1 (.int .i64 32)) fun x13 =>
 CM.cond x13 (
 CM.pu (p1 (fun a => fieldAddrA Tryz.prog 65 a 6) x0) fun x14 =>
 CM.rm (q1 (loadA Tryz.prog 9) x14 ) fun x15 =>
 CM.call 41 [x15] fun x16 =>
 CM.ret x16) (
 CM.pu (p2 (binA Tryz.prog .eql 3) a1 (.int .i64 64)) fun x17 =>
 CM.cond x17 (
 CM.pu (p1 (fun a => fieldAddrA Tryz.prog 65 a 7) x0) fun x18 =>
 CM.rm (q1 (loadA Tryz.prog 9) x18 ) fun x19 =>
 CM.call 41 [x19] fun x20 =>
 CM.ret x20) (
 CM.go 708608 [])))))
theorem f173_ok (h : H 173 = none) : EqD (Rl H) f173 (fun xs m => run (EH H) (.fn 173) xs m) := sE fun _ => sE fun _ => zE fun _ => run_eq 400 h (by kernel_rfl) (by kernel_rfl)
noncomputable def g174_0 : List AV → CM := apS fun t2 => ap0 <|
 CM.pu (p1 (fun a => fieldAddrA Tryz.prog 65 a 7) t2) fun x0 =>
 CM.rm (q1 (loadA Tryz.prog 9) x0 ) fun x1 =>
 CM.pu (p2 (binA Tryz.prog .eql 9) x1 (.str [])) fun x2 =>
 CM.ret x2
theorem g174_0_ok : EqD (Rl H) g174_0 (fun xs m => goR (EH H) Mk 712704 xs m) := sE fun _ => zE fun _ => goR_eq 400 (by kernel_rfl)
noncomputable def f174 : List AV → CM := apS fun a0 => apS fun a1 => ap0 <|
 CM.al (boxA a0) fun x0 =>
 CM.pu (p2 (binA Tryz.prog .eql 3) a1 (.int .i64 1)) fun x1 =>
 CM.cond x1 (
 CM.pu (p1 (fun a => fieldAddrA Tryz.prog 65 a 1) x0) fun x2 =>
 CM.rm (q1 (loadA Tryz.prog 28) x2 ) fun x3 =>
 CM.pu (p2 (binA Tryz.prog .eql 28) x3 (.int .u64 0)) fun x4 =>
 CM.ret x4) (
 CM.pu (p2 (binA Tryz.prog .eql 3) a1 (.int .i64 2)) fun x5 =>
 CM.cond x5 (
 CM.pu (p1 (fun a => fieldAddrA Tryz.prog 65 a 2) x0) fun x6 =>
 CM.rm (q1 (loadA Tryz.prog 28) x6 ) fun x7 =>
 CM.pu (p2 (binA Tryz.prog .eql 28) x7 (.int .u64 0)) fun x8 =>
 CM.ret x8) (
 CM.pu (p2 (binA Tryz.prog .eql 3) a1 (.int .i64 4)) fun x9 =>
 CM.cond x9 (
 CM.pu (p1 (fun a => fieldAddrA Tryz.prog 65 a 3) x0) fun x10 =>
 CM.rm (q1 (loadA Tryz.prog 28) x10 ) fun x11 =>
 CM.pu (p2 (binA Tryz.prog .eql 28) x11 (.int .u64 0)) fun x12 =>
 CM.ret x12) (
 CM.pu (p2 (binA Tryz.prog .eql 3) a1 (.int .i64 8)) fun x13 =>
 CM.cond x13 (
 CM.pu (p1 (fun a => fieldAddrA Tryz.prog 65 a 4) x0) fun x14 =>
 CM.rm (q1 (loadA Tryz.prog 28) x14 ) fun x15 =>
 CM.pu (p2 (binA Tryz.prog .eql 28) x15 (.int .u64 0)) fun x16 =>
 CM.ret x16) (
 CM.pu (p2 (binA Tryz.prog .eql 3) a1 (.int .i64 16)) fun x17 =>
 CM.cond x17 (
 CM.pu (p1 (fun a => fieldAddrA Tryz.prog 65 a 5) x0) fun x18 =>
 CM.rm (q1 (loadA Tryz.prog 35) x18 ) fun x19 =>
 CM.pu (p1 (buildA Tryz.prog 35) []) fun x20 =>
 CM.pu (p2 (binA Tryz.prog .eql 35) x19 x20) fun x21 =>
 CM.ret x21) (
 CM.pu (p2 (binA Tryz.prog .eql 3) a1 (.int .i64 32)) fun x22 =>
 CM.cond x22 (
 CM.pu (p1 (fun a => fieldAddrA Tryz.prog 65 a 6) x0) fun x23 =>
 CM.rm (q1 (loadA Tryz.prog 9) x23 ) fun x24 =>
 CM.pu (p2 (binA Tryz.prog .eql 9) x24 (.str [])) fun x25 =>
 CM.ret x25) (
 CM.go 712704 [x0]))))))
theorem f174_ok (h : H 174 = none) : EqD (Rl H) f174 (fun xs m => run (EH H) (.fn 174) xs m) := sE fun _ => sE fun _ => zE fun _ => run_eq 400 h (by kernel_rfl) (by kernel_rfl)
noncomputable def g176_0 : List AV → CM := apS fun t0 => apS fun t2 => apS fun t6 => ap0 <|
 CM.pu (p2 (binA Tryz.prog .gtr 28) t6 (.int .u64 0)) fun x0 =>
 CM.ifv x0 (
 CM.pu (p1 nnA t0) fun x1 =>
 CM.pu (p1 (fun a => fieldAddrA Tryz.prog 231 a 1) x1) fun x2 =>
 CM.rm (q1 (loadA Tryz.prog 23) x2 ) fun x3 =>
 CM.pu (p2 (binA Tryz.prog .eql 23) x3 (.int .i64 0)) fun x4 =>
 CM.cond x4 (
 CM.go 720897 [t0, t2, t6]) (
 CM.ret .undef)) (
 CM.ret .undef)
theorem g176_0_ok : EqD (Rl H) g176_0 (fun xs m => goR (EH H) Mk 720896 xs m) := sE fun _ => sE fun _ => sE fun _ => zE fun _ => goR_eq 400 (by kernel_rfl)
noncomputable def g176_1 : List AV → CM := apS fun t0 => apS fun t2 => apS fun t6 => ap0 <|
 CM.callv t2 [] fun _ =>
 CM.go 720898 [t0, t2, t6]
theorem g176_1_ok : EqD (Rl H) g176_1 (fun xs m => goR (EH H) Mk 720897 xs m) := sE fun _ => sE fun _ => sE fun _ => zE fun _ => goR_eq 400 (by kernel_rfl)
noncomputable def g176_2 : List AV → CM := apS fun t0 => apS fun t2 => apS fun t6 => ap0 <|
 CM.pu (p2 (binA Tryz.prog .sub 28) t6 (.int .u64 1)) fun x0 =>
 CM.go 720896 [t0, t2, x0]
theorem g176_2_ok : EqD (Rl H) g176_2 (fun xs m => goR (EH H) Mk 720898 xs m) := sE fun _ => sE fun _ => sE fun _ => zE fun _ => goR_eq 400 (by kernel_rfl)
noncomputable def f176 : List AV → CM := apS fun a0 => apS fun a1 => apS fun a2 => ap0 <|
 CM.pu (p1 nnA a0) fun x0 =>
 CM.pu (p1 (fun a => fieldAddrA Tryz.prog 231 a 0) x0) fun x1 =>
 CM.rm (q1 (loadA Tryz.prog 216) x1 ) fun x2 =>
 CM.call 170 [x2, a1] fun x3 =>
 CM.go 720896 [a0, a2, x3]
theorem f176_ok (h : H 176 = none) : EqD (Rl H) f176 (fun xs m => run (EH H) (.fn 176) xs m) := sE fun _ => sE fun _ => sE fun _ => zE fun _ => run_eq 400 h (by kernel_rfl) (by kernel_rfl)
noncomputable def f177 : List AV → CM := apS fun a0 => apS fun a1 => ap0 <|
 CM.rm (q1 (loadA Tryz.prog 229) a0 ) fun x0 =>
 CM.call 178 [x0] fun x1 =>
 CM.pu (p1 (buildA Tryz.prog 92) [(0, x1)]) fun x2 =>
 CM.al (some (.cells [(.str []), (.int .i64 0), (.int .i64 0), (.int .u64 0)] false, pB)) fun x3 =>
 CM.st (fun m => stV m x3 x2 4) <|
 CM.rm (q1 (loadA Tryz.prog 229) a0 ) fun x5 =>
 CM.pu (p1 nnA x5) fun x6 =>
 CM.pu (p1 (fun a => fieldAddrA Tryz.prog 231 a 0) x6) fun x7 =>
 CM.rm (q1 (loadA Tryz.prog 216) x7 ) fun x8 =>
 CM.call 119 [x8, (.int .u8 18)] fun x9 =>
 CM.pu (p1 (convA Tryz.prog 5 3) x9) fun x10 =>
 CM.pu (p1 (fun a => fieldAddrA Tryz.prog 92 a 1) x3) fun x11 =>
 CM.st (fun m => stV m x11 x10 1) <|
 CM.rm (q1 (loadA Tryz.prog 229) a0 ) fun x13 =>
 CM.call 179 [x13] fun x14 =>
 CM.pu (p1 (fun a => fieldAddrA Tryz.prog 92 a 2) x3) fun x15 =>
 CM.st (fun m => stV m x15 x14 2) <|
 CM.pu (p1 (fun a => fieldAddrA Tryz.prog 48 a 0) a1) fun x17 =>
 CM.rm (q1 (loadA Tryz.prog 44) x17 ) fun x18 =>
 CM.rm (q1 (loadA Tryz.prog 92) x3 ) fun x19 =>
 CM.al (bsA 4 1 [(.str []), (.int .i64 0), (.int .i64 0), (.int .u64 0)] [(0, x19)]) fun x20 =>
 CM.ef (apE 4 40 x18 x20) fun x21 =>
 CM.pu (p1 (fun a => fieldAddrA Tryz.prog 48 a 0) a1) fun x22 =>
 CM.st (fun m => stV m x22 x21 1) <|
 CM.ret .undef
theorem f177_ok (h : H 177 = none) : EqD (Rl H) f177 (fun xs m => run (EH H) (.fn 177) xs m) := sE fun _ => sE fun _ => zE fun _ => run_eq 400 h (by kernel_rfl) (by kernel_rfl)
noncomputable def f178 : List AV → CM := apS fun a0 => ap0 <|
 CM.pu (p1 nnA a0) fun x0 =>
 CM.pu (p1 (fun a => fieldAddrA Tryz.prog 231 a 0) x0) fun x1 =>
 CM.rm (q1 (loadA Tryz.prog 216) x1 ) fun x2 =>
 CM.call 225 [x2, (.int .i64 3)] fun x3 =>
 CM.rm (q1 (toStrA Tryz.prog 60) x3 ) fun x4 =>
 CM.ret x4
theorem f178_ok (h : H 178 = none) : EqD (Rl H) f178 (fun xs m => run (EH H) (.fn 178) xs m) := sE fun _ => zE fun _ => run_eq 400 h (by kernel_rfl) (by kernel_rfl)
noncomputable def f179 : List AV → CM := apS fun a0 => ap0 <|
 CM.al (some (.cells [(.int .i64 0), (.int .u64 0)] false, pB)) fun x0 =>
 CM.pu (p1 nnA a0) fun x1 =>
 CM.pu (p1 (fun a => fieldAddrA Tryz.prog 231 a 0) x1) fun x2 =>
 CM.rm (q1 (loadA Tryz.prog 216) x2 ) fun x3 =>
 CM.call 221 [x3] fun x4 =>
 CM.pu (p1 nnA a0) fun x5 =>
 CM.pu (p1 (fun a => fieldAddrA Tryz.prog 231 a 0) x5) fun x6 =>
 CM.rm (q1 (loadA Tryz.prog 216) x6 ) fun x7 =>
 CM.call 170 [x7, (.int .u64 18446744073709551615)] fun x8 =>
 CM.pu (p1 (buildA Tryz.prog 33) [(0, x4), (1, x8)]) fun x9 =>
 CM.st (fun m => stV m x0 x9 2) <|
 CM.resC Tryz.prog [ResultVar.cell 0 33] [x0]
theorem f179_ok (h : H 179 = none) : EqD (Rl H) f179 (fun xs m => run (EH H) (.fn 179) xs m) := sE fun _ => zE fun _ => run_eq 400 h (by kernel_rfl) (by kernel_rfl)
noncomputable def f180 : List AV → CM := apS fun a0 => apS fun a1 => ap0 <|
 CM.rm (q1 (loadA Tryz.prog 229) a0 ) fun x0 =>
 CM.call 178 [x0] fun x1 =>
 CM.pu (p1 (buildA Tryz.prog 96) [(0, x1)]) fun x2 =>
 CM.al (some (.cells [(.str []), (.str []), (.int .i64 0), (.int .u64 0), (.int .i64 0), (.int .i64 0), (.int .u64 0), (.int .i64 0), (.int .u64 0)] false, pB)) fun x3 =>
 CM.st (fun m => stV m x3 x2 9) <|
 CM.rm (q1 (loadA Tryz.prog 229) a0 ) fun x5 =>
 CM.call 178 [x5] fun x6 =>
 CM.pu (p1 (fun a => fieldAddrA Tryz.prog 96 a 1) x3) fun x7 =>
 CM.st (fun m => stV m x7 x6 1) <|
 CM.rm (q1 (loadA Tryz.prog 229) a0 ) fun x9 =>
 CM.pu (p1 nnA x9) fun x10 =>
 CM.pu (p1 (fun a => fieldAddrA Tryz.prog 231 a 0) x10) fun x11 =>
 CM.rm (q1 (loadA Tryz.prog 216) x11 ) fun x12 =>
 CM.call 119 [x12, (.int .u8 18)] fun x13 =>
 CM.pu (p1 (convA Tryz.prog 5 3) x13) fun x14 =>
 CM.pu (p1 (fun a => fieldAddrA Tryz.prog 96 a 2) x3) fun x15 =>
 CM.pu (p1 (fun a => fieldAddrA Tryz.prog 35 a 1) x15) fun x16 =>
 CM.st (fun m => stV m x16 x14 1) <|
 CM.rm (q1 (loadA Tryz.prog 229) a0 ) fun x18 =>
 CM.call 179 [x18] fun x19 =>
 CM.pu (p1 (fun a => fieldAddrA Tryz.prog 96 a 2) x3) fun x20 =>
 CM.pu (p1 (fun a => fieldAddrA Tryz.prog 35 a 0) x20) fun x21 =>
 CM.st (fun m => stV m x21 x19 2) <|
 CM.rm (q1 (loadA Tryz.prog 229) a0 ) fun x23 =>
 CM.call 179 [x23] fun x24 =>
 CM.pu (p1 (fun a => fieldAddrA Tryz.prog 96 a 3) x3) fun x25 =>
 CM.st (fun m => stV m x25 x24 2) <|
 CM.rm (q1 (loadA Tryz.prog 229) a0 ) fun x27 =>
 CM.call 179 [x27] fun x28 =>
 CM.pu (p1 (fun a => fieldAddrA Tryz.prog 96 a 4) x3) fun x29 =>
 CM.st (fun m => stV m x29 x28 2) <|
 CM.pu (p1 (fun a => fieldAddrA Tryz.prog 48 a 1) a1) fun x31 =>
 CM.rm (q1 (loadA Tryz.prog 45) x31 ) fun x32 =>
 CM.rm (q1 (loadA Tryz.prog 96) x3 ) fun x33 =>
 CM.al (bsA 9 1 [(.str []), (.str []), (.int .i64 0), (.int .u64 0), (.int .i64 0), (.int .i64 0), (.int .u64 0), (.int .i64 0), (.int .u64 0)] [(0, x33)]) fun x34 =>
 CM.ef (apE 9 88 x32 x34) fun x35 =>
 CM.pu (p1 (fun a => fieldAddrA Tryz.prog 48 a 1) a1) fun x36 =>
 CM.st (fun m => stV m x36 x35 1) <|
 CM.ret .undef
theorem f180_ok (h : H 180 = none) : EqD (Rl H) f180 (fun xs m => run (EH H) (.fn 180) xs m) := sE fun _ => sE fun _ => zE fun _ => run_eq 400 h (by kernel_rfl) (by kernel_rfl)
noncomputable def f181 : List AV → CM := apS fun a0 => apS fun a1 => ap0 <|
 CM.rm (q1 (loadA Tryz.prog 229) a0 ) fun x0 =>
 CM.pu (p1 nnA x0) fun x1 =>
 CM.pu (p1 (fun a => fieldAddrA Tryz.prog 231 a 0) x1) fun x2 =>
 CM.rm (q1 (loadA Tryz.prog 216) x2 ) fun x3 =>
 CM.call 170 [x3, (.int .u64 18446744073709551615)] fun x4 =>
 CM.pu (p1 (buildA Tryz.prog 100) [(0, x4)]) fun x5 =>
 CM.al (some (.cells [(.int .u64 0), (.str []), (.int .i64 0), (.int .u64 0)] false, pB)) fun x6 =>
 CM.st (fun m => stV m x6 x5 4) <|
 CM.rm (q1 (loadA Tryz.prog 229) a0 ) fun x8 =>
 CM.call 178 [x8] fun x9 =>
 CM.pu (p1 (fun a => fieldAddrA Tryz.prog 100 a 1) x6) fun x10 =>
 CM.st (fun m => stV m x10 x9 1) <|
 CM.rm (q1 (loadA Tryz.prog 229) a0 ) fun x12 =>
 CM.call 179 [x12] fun x13 =>
 CM.pu (p1 (fun a => fieldAddrA Tryz.prog 100 a 2) x6) fun x14 =>
 CM.st (fun m => stV m x14 x13 2) <|
 CM.pu (p1 (fun a => fieldAddrA Tryz.prog 48 a 2) a1) fun x16 =>
 CM.rm (q1 (loadA Tryz.prog 46) x16 ) fun x17 =>
 CM.rm (q1 (loadA Tryz.prog 100) x6 ) fun x18 =>
 CM.al (bsA 4 1 [(.int .u64 0), (.str []), (.int .i64 0), (.int .u64 0)] [(0, x18)]) fun x19 =>
 CM.ef (apE 4 40 x17 x19) fun x20 =>
 CM.pu (p1 (fun a => fieldAddrA Tryz.prog 48 a 2) a1) fun x21 =>
 CM.st (fun m => stV m x21 x20 1) <|
 CM.ret .undef
theorem f181_ok (h : H 181 = none) : EqD (Rl H) f181 (fun xs m => run (EH H) (.fn 181) xs m) := sE fun _ => sE fun _ => zE fun _ => run_eq 400 h (by kernel_rfl) (by kernel_rfl)
noncomputable def f182 : List AV → CM := apS fun a0 => apS fun a1 => ap0 <|
 CM.rm (q1 (loadA Tryz.prog 229) a0 ) fun x0 =>
 CM.pu (p1 nnA x0) fun x1 =>
 CM.pu (p1 (fun a => fieldAddrA Tryz.prog 231 a 0) x1) fun x2 =>
 CM.rm (q1 (loadA Tryz.prog 216) x2 ) fun x3 =>
 CM.call 170 [x3, (.int .u64 18446744073709551615)] fun x4 =>
 CM.pu (p1 (buildA Tryz.prog 210) [(0, x4)]) fun x5 =>
 CM.al (some (.cells [(.int .u64 0), (.int .u64 0), (.int .u64 0), (.sl none 0 0 0 true)] false, pB)) fun x6 =>
 CM.st (fun m => stV m x6 x5 4) <|
 CM.rm (q1 (loadA Tryz.prog 229) a0 ) fun x8 =>
 CM.pu (p1 nnA x8) fun x9 =>
 CM.pu (p1 (fun a => fieldAddrA Tryz.prog 231 a 0) x9) fun x10 =>
 CM.rm (q1 (loadA Tryz.prog 216) x10 ) fun x11 =>
 CM.call 170 [x11, (.int .u64 18446744073709551615)] fun x12 =>
 CM.pu (p1 (fun a => fieldAddrA Tryz.prog 210 a 1) x6) fun x13 =>
 CM.st (fun m => stV m x13 x12 1) <|
 CM.rm (q1 (loadA Tryz.prog 229) a0 ) fun x15 =>
 CM.pu (p1 nnA x15) fun x16 =>
 CM.pu (p1 (fun a => fieldAddrA Tryz.prog 231 a 0) x16) fun x17 =>
 CM.rm (q1 (loadA Tryz.prog 216) x17 ) fun x18 =>
 CM.call 170 [x18, (.int .u64 18446744073709551615)] fun x19 =>
 CM.pu (p1 (fun a => fieldAddrA Tryz.prog 210 a 2) x6) fun x20 =>
 CM.st (fun m => stV m x20 x19 1) <|
 CM.rm (q1 (loadA Tryz.prog 229) a0 ) fun x22 =>
 CM.call 176 [x22, (.int .u64 4), (.fn (.func 183) [] [x6, a0])] fun _ =>
 CM.rm (q1 (loadA Tryz.prog 67) a1 ) fun x24 =>
 CM.rm (q1 (loadA Tryz.prog 210) x6 ) fun x25 =>
 CM.al (bsA 4 1 [(.int .u64 0), (.int .u64 0), (.int .u64 0), (.sl none 0 0 0 true)] [(0, x25)]) fun x26 =>
 CM.ef (apE 4 48 x24 x26) fun x27 =>
 CM.st (fun m => stV m a1 x27 1) <|
 CM.ret .undef
theorem f182_ok (h : H 182 = none) : EqD (Rl H) f182 (fun xs m => run (EH H) (.fn 182) xs m) := sE fun _ => sE fun _ => zE fun _ => run_eq 400 h (by kernel_rfl) (by kernel_rfl)
noncomputable def f183 : List AV → CM := apS fun a0 => apS fun a1 => ap0 <|
 CM.pu (p1 (fun a => fieldAddrA Tryz.prog 210 a 3) a0) fun x0 =>
 CM.rm (q1 (loadA Tryz.prog 208) x0 ) fun x1 =>
 CM.rm (q1 (loadA Tryz.prog 229) a1 ) fun x2 =>
 CM.call 184 [x2] fun x4 =>
 CM.memo fun m5 =>
 CM.chk (q1 (loadA Tryz.prog 208) x0 m5) x1 <|
 CM.al (bsA 6 1 [(.int .u64 0), (.int .i64 0), (.int .u64 0), (.int .i64 0), (.int .u64 0), (.int .i64 0)] [(0, x4)]) fun x6 =>
 CM.ef (apE 6 48 x1 x6) fun x8 =>
 CM.pu (p1 (fun a => fieldAddrA Tryz.prog 210 a 3) a0) fun x10 =>
 CM.st (fun m => stV m x10 x8 1) <|
 CM.ret .undef
theorem f183_ok (h : H 183 = none) : EqD (Rl H) f183 (fun xs m => run (EH H) (.fn 183) xs m) := sE fun _ => sE fun _ => zE fun _ => run_eq 400 h (by kernel_rfl) (by kernel_rfl)
noncomputable def g184_0 : List AV → CM := apS fun t0 => apS fun t2 => apS fun t3 => apS fun t4 => ap0 <|
 CM.call 227 [t4] fun x0 =>
 CM.pu (p1 (fun a => extractA a 0) x0) fun x1 =>
 CM.pu (p1 (fun a => extractA a 1) x0) fun x2 =>
 CM.pu (p1 (fun a => fieldAddrA Tryz.prog 228 a 1) t3) fun x3 =>
 CM.st (fun m => stV m x3 x1 5) <|
 CM.pu (p1 nnA t0) fun x5 =>
 CM.pu (p1 (fun a => fieldAddrA Tryz.prog 231 a 1) x5) fun x6 =>
 CM.st (fun m => stV m x6 x2 1) <|
 CM.rm (q1 (loadA Tryz.prog 228) t3 ) fun x8 =>
 CM.st (fun m => stV m t2 x8 6) <|
 CM.resC Tryz.prog [ResultVar.cell 0 228] [t2]
theorem g184_0_ok : EqD (Rl H) g184_0 (fun xs m => goR (EH H) Mk 753664 xs m) := sE fun _ => sE fun _ => sE fun _ => sE fun _ => zE fun _ => goR_eq 400 (by kernel_rfl)
noncomputable def f184 : List AV → CM := apS fun a0 => ap0 <|
 CM.al (some (.cells [(.int .u64 0), (.int .i64 0), (.int .u64 0), (.int .i64 0), (.int .u64 0), (.int .i64 0)] false, pB)) fun x0 =>
 CM.pu (p1 nnA a0) fun x1 =>
 CM.pu (p1 (fun a => fieldAddrA Tryz.prog 231 a 0) x1) fun x2 =>
 CM.rm (q1 (loadA Tryz.prog 216) x2 ) fun x3 =>
 CM.call 170 [x3, (.int .u64 18446744073709551615)] fun x4 =>
 CM.pu (p1 (buildA Tryz.prog 228) [(0, x4)]) fun x5 =>
 CM.al (some (.cells [(.int .u64 0), (.int .i64 0), (.int .u64 0), (.int .i64 0), (.int .u64 0), (.int .i64 0)] false, pB)) fun x6 =>
 CM.st (fun m => stV m x6 x5 6) <|
 CM.pu (p1 nnA a0) fun x8 =>
 CM.pu (p1 (fun a => fieldAddrA Tryz.prog 231 a 0) x8) fun x9 =>
 CM.rm (q1 (loadA Tryz.prog 216) x9 ) fun x10 =>
 CM.call 225 [x10, (.int .i64 64)] fun x11 =>
 CM.pu (p1 (lenT Tryz.prog 60) x11) fun x12 =>
 CM.pu (p2 (binA Tryz.prog .eql 3) x12 (.int .i64 0)) fun x13 =>
 CM.ifv x13 (
 CM.call 226 [a0] fun x14 =>
 CM.pu (p2 (binA Tryz.prog .neq 23) x14 (.int .i64 0)) fun x15 =>
 CM.cond x15 (
 CM.rm (q1 (loadA Tryz.prog 228) x6 ) fun x16 =>
 CM.st (fun m => stV m x0 x16 6) <|
 CM.resC Tryz.prog [ResultVar.cell 0 228] [x0]) (
 CM.go 753664 [a0, x0, x6, x11])) (
 CM.go 753664 [a0, x0, x6, x11])
theorem f184_ok (h : H 184 = none) : EqD (Rl H) f184 (fun xs m => run (EH H) (.fn 184) xs m) := sE fun _ => zE fun _ => run_eq 400 h (by kernel_rfl) (by kernel_rfl)
noncomputable def g185_0 : List AV → CM := apS fun t1 => apS fun t3 => ap0 <|
 CM.pu (p1 (fun a => fieldAddrA Tryz.prog 210 a 3) t1) fun x0 =>
 CM.rm (q1 (loadA Tryz.prog 208) x0 ) fun x1 =>
 CM.pu (p1 (lenT Tryz.prog 208) x1) fun x2 =>
 CM.go 757761 [t1, t3, x1, x2, (.int .i64 0)]
theorem g185_0_ok : EqD (Rl H) g185_0 (fun xs m => goR (EH H) Mk 757760 xs m) := sE fun _ => sE fun _ => zE fun _ => goR_eq 400 (by kernel_rfl)
noncomputable def g185_1 : List AV → CM := apS fun t1 => apS fun t3 => apS fun t18 => apS fun t19 => apS fun t20 => ap0 <|
 CM.pu (p2 (binA Tryz.prog .lss 3) t20 t19) fun x0 =>
 CM.cond x0 (
 CM.go 757762 [t1, t3, t18, t19, t20]) (
 CM.go 757764 [])
theorem g185_1_ok : EqD (Rl H) g185_1 (fun xs m => goR (EH H) Mk 757761 xs m) := sE fun _ => sE fun _ => sE fun _ => sE fun _ => sE fun _ => zE fun _ => goR_eq 400 (by kernel_rfl)
noncomputable def g185_2 : List AV → CM := apS fun t1 => apS fun t3 => apS fun t18 => apS fun t19 => apS fun t20 => ap0 <|
 CM.pu (p2 (indexAddrA Tryz.prog 208) t18 t20) fun x0 =>
 CM.rm (q1 (loadA Tryz.prog 228) x0 ) fun x1 =>
 CM.al (some (.cells [(.int .u64 0), (.int .i64 0), (.int .u64 0), (.int .i64 0), (.int .u64 0), (.int .i64 0)] false, pB)) fun x2 =>
 CM.st (fun m => stV m x2 x1 6) <|
 CM.pu (p1 (fun a => fieldAddrA Tryz.prog 228 a 1) x2) fun x4 =>
 CM.pu (p1 (fun a => fieldAddrA Tryz.prog 57 a 0) x4) fun x5 =>
 CM.rm (q1 (loadA Tryz.prog 23) x5 ) fun x6 =>
 CM.pu (p1 (fun a => fieldAddrA Tryz.prog 228 a 1) x2) fun x7 =>
 CM.pu (p1 (fun a => fieldAddrA Tryz.prog 57 a 2) x7) fun x8 =>
 CM.pu (p1 (fun a => fieldAddrA Tryz.prog 35 a 1) x8) fun x9 =>
 CM.rm (q1 (loadA Tryz.prog 3) x9 ) fun x10 =>
 CM.pu (p1 (fun a => fieldAddrA Tryz.prog 228 a 0) x2) fun x11 =>
 CM.rm (q1 (loadA Tryz.prog 28) x11 ) fun x12 =>
 CM.pu (p1 (fun a => fieldAddrA Tryz.prog 210 a 1) t1) fun x13 =>
 CM.rm (q1 (loadA Tryz.prog 28) x13 ) fun x14 =>
 CM.pu (p2 (binA Tryz.prog .sub 28) x14 t3) fun x15 =>
 CM.pu (p1 (convA Tryz.prog 3 28) t20) fun x16 =>
 CM.pu (p2 (binA Tryz.prog .add 28) x15 x16) fun x17 =>
 CM.pu (p2 (binA Tryz.prog .add 28) x17 (.int .u64 1)) fun x18 =>
 CM.pu (p2 (binA Tryz.prog .neq 28) x12 x18) fun x19 =>
 CM.ifv x19 (
 CM.ret (.bool false)) (
 CM.pu (p2 (binA Tryz.prog .lss 23) x6 (.int .i64 0)) fun x20 =>
 CM.ifv x20 (
 CM.ret (.bool false)) (
 CM.pu (p2 (binA Tryz.prog .gtr 23) x6 (.int .i64 99)) fun x21 =>
 CM.ifv x21 (
 CM.ret (.bool false)) (
 CM.pu (p2 (binA Tryz.prog .lss 3) x10 (.int .i64 0)) fun x22 =>
 CM.ifv x22 (
 CM.ret (.bool false)) (
 CM.pu (p2 (binA Tryz.prog .gtr 3) x10 (.int .i64 18)) fun x23 =>
 CM.cond x23 (
 CM.ret (.bool false)) (
 CM.go 757763 [t1, t3, t18, t19, t20])))))
theorem g185_2_ok : EqD (Rl H) g185_2 (fun xs m => goR (EH H) Mk 757762 xs m) := sE fun _ => sE fun _ => sE fun _ => sE fun _ => sE fun _ => zE fun _ => goR_eq 400 (by kernel_rfl)
noncomputable def g185_3 : List AV → CM := apS fun t1 => apS fun t3 => apS fun t18 => apS fun t19 => apS fun t20 => ap0 <|
 CM.pu (p2 (binA Tryz.prog .add 3) t20 (.int .i64 1)) fun x0 =>
 CM.go 757761 [t1, t3, t18, t19, x0]
theorem g185_3_ok : EqD (Rl H) g185_3 (fun xs m => goR (EH H) Mk 757763 xs m) := sE fun _ => sE fun _ => sE fun _ => sE fun _ => sE fun _ => zE fun _ => goR_eq 400 (by kernel_rfl)
noncomputable def g185_4 : List AV → CM := ap0 <|
 CM.ret (.bool true)
theorem g185_4_ok : EqD (Rl H) g185_4 (fun xs m => goR (EH H) Mk 757764 xs m) := zE fun _ => goR_eq 400 (by kernel_rfl)
noncomputable def f185 : List AV → CM := apS fun a0 => ap0 <|
 CM.al (boxA a0) fun x0 =>
 CM.pu (p1 (fun a => fieldAddrA Tryz.prog 210 a 1) x0) fun x1 =>
 CM.rm (q1 (loadA Tryz.prog 28) x1 ) fun x2 =>
 CM.pu (p2 minA x2 (.int .u64 4)) fun x3 =>
 CM.pu (p1 (fun a => fieldAddrA Tryz.prog 210 a 3) x0) fun x4 =>
 CM.rm (q1 (loadA Tryz.prog 208) x4 ) fun x5 =>
 CM.pu (p1 (lenT Tryz.prog 208) x5) fun x6 =>
 CM.pu (p1 (convA Tryz.prog 3 28) x6) fun x7 =>
 CM.pu (p2 (binA Tryz.prog .neq 28) x7 x3) fun x8 =>
 CM.cond x8 (
 CM.ret (.bool false)) (
 CM.go 757760 [x0, x3])
theorem f185_ok (h : H 185 = none) : EqD (Rl H) f185 (fun xs m => run (EH H) (.fn 185) xs m) := sE fun _ => zE fun _ => run_eq 400 h (by kernel_rfl) (by kernel_rfl)
noncomputable def f186 : List AV → CM := ap0 <|
 CM.pu (p1 (buildA Tryz.prog 313) []) fun x0 =>
 CM.al (boxA x0) fun x1 =>
 CM.ret x1
theorem f186_ok (h : H 186 = none) : EqD (Rl H) f186 (fun xs m => run (EH H) (.fn 186) xs m) := zE fun _ => run_eq 400 h (by kernel_rfl) (by kernel_rfl)
noncomputable def f187 : List AV → CM := apS fun a0 => apS fun a1 => ap0 <|
 CM.al (boxA a0) fun x0 =>
 CM.rm (q1 (loadA Tryz.prog 277) a1 ) fun x1 =>
 CM.pu (p1 (fun a => fieldAddrA Tryz.prog 33 a 0) x0) fun x2 =>
 CM.rm (q1 (loadA Tryz.prog 2) x2 ) fun x3 =>
 CM.call 188 [x1, x3] fun _ =>
 CM.rm (q1 (loadA Tryz.prog 277) a1 ) fun x5 =>
 CM.pu (p1 (fun a => fieldAddrA Tryz.prog 33 a 1) x0) fun x6 =>
 CM.rm (q1 (loadA Tryz.prog 28) x6 ) fun x7 =>
 CM.call 189 [x5, x7] fun _ =>
 CM.ret .undef
theorem f187_ok (h : H 187 = none) : EqD (Rl H) f187 (fun xs m => run (EH H) (.fn 187) xs m) := sE fun _ => sE fun _ => zE fun _ => run_eq 400 h (by kernel_rfl) (by kernel_rfl)
noncomputable def f188 : List AV → CM := apS fun a0 => apS fun a1 => ap0 <|
 CM.pu (p1 (convA Tryz.prog 2 28) a1) fun x0 =>
 CM.pu (p2 (binA Tryz.prog .shl 28) x0 (.int .u64 1)) fun x1 =>
 CM.pu (p2 (binA Tryz.prog .shr 2) a1 (.int .u64 63)) fun x2 =>
 CM.pu (p1 (convA Tryz.prog 2 28) x2) fun x3 =>
 CM.pu (p2 (binA Tryz.prog .xor 28) x1 x3) fun x4 =>
 CM.call 189 [a0, x4] fun _ =>
 CM.ret .undef
theorem f188_ok (h : H 188 = none) : EqD (Rl H) f188 (fun xs m => run (EH H) (.fn 188) xs m) := sE fun _ => sE fun _ => zE fun _ => run_eq 400 h (by kernel_rfl) (by kernel_rfl)
noncomputable def g189_0 : List AV → CM := apS fun t0 => apS fun t1 => ap0 <|
 CM.pu (p2 (binA Tryz.prog .geq 28) t1 (.int .u64 128)) fun x0 =>
 CM.cond x0 (
 CM.go 774145 [t0, t1]) (
 CM.go 774146 [t0, t1])
theorem g189_0_ok : EqD (Rl H) g189_0 (fun xs m => goR (EH H) Mk 774144 xs m) := sE fun _ => sE fun _ => zE fun _ => goR_eq 400 (by kernel_rfl)
noncomputable def g189_1 : List AV → CM := apS fun t0 => apS fun t1 => ap0 <|
 CM.pu (p1 nnA t0) fun x0 =>
 CM.pu (p1 (fun a => fieldAddrA Tryz.prog 313 a 0) x0) fun x1 =>
 CM.rm (q1 (loadA Tryz.prog 60) x1 ) fun x2 =>
 CM.pu (p1 (convA Tryz.prog 28 5) t1) fun x3 =>
 CM.pu (p2 (binA Tryz.prog .or 5) x3 (.int .u8 128)) fun x4 =>
 CM.al (bsA 1 1 [(.int .u8 0)] [(0, x4)]) fun x5 =>
 CM.ef (apE 1 1 x2 x5) fun x6 =>
 CM.pu (p1 nnA t0) fun x7 =>
 CM.pu (p1 (fun a => fieldAddrA Tryz.prog 313 a 0) x7) fun x8 =>
 CM.st (fun m => stV m x8 x6 1) <|
 CM.pu (p2 (binA Tryz.prog .shr 28) t1 (.int .u64 7)) fun x10 =>
 CM.go 774144 [t0, x10]
theorem g189_1_ok : EqD (Rl H) g189_1 (fun xs m => goR (EH H) Mk 774145 xs m) := sE fun _ => sE fun _ => zE fun _ => goR_eq 400 (by kernel_rfl)
noncomputable def g189_2 : List AV → CM := apS fun t0 => apS fun t1 => ap0 <|
 CM.pu (p1 nnA t0) fun x0 =>
 CM.pu (p1 (fun a => fieldAddrA Tryz.prog 313 a 0) x0) fun x1 =>
 CM.rm (q1 (loadA Tryz.prog 60) x1 ) fun x2 =>
 CM.pu (p1 (convA Tryz.prog 28 5) t1) fun x3 =>
 CM.al (bsA 1 1 [(.int .u8 0)] [(0, x3)]) fun x4 =>
 CM.ef (apE 1 1 x2 x4) fun x5 =>
 CM.pu (p1 nnA t0) fun x6 =>
 CM.pu (p1 (fun a => fieldAddrA Tryz.prog 313 a 0) x6) fun x7 =>
 CM.st (fun m => stV m x7 x5 1) <|
 CM.ret .undef
theorem g189_2_ok : EqD (Rl H) g189_2 (fun xs m => goR (EH H) Mk 774146 xs m) := sE fun _ => sE fun _ => zE fun _ => goR_eq 400 (by kernel_rfl)
noncomputable def f189 : List AV → CM := apS fun a0 => apS fun a1 => ap0 <|
 CM.go 774144 [a0, a1]
theorem f189_ok (h : H 189 = none) : EqD (Rl H) f189 (fun xs m => run (EH H) (.fn 189) xs m) := sE fun _ => sE fun _ => zE fun _ => run_eq 400 h (by kernel_rfl) (by kernel_rfl)
noncomputable def g190_0 : List AV → CM := apS fun t2 => apS fun t13 => apS fun t14 => apS fun t15 => ap0 <|
 CM.pu (p2 (binA Tryz.prog .lss 3) t15 t14) fun x0 =>
 CM.cond x0 (
 CM.go 778241 [t2, t13, t14, t15]) (
 CM.ret .undef)
theorem g190_0_ok : EqD (Rl H) g190_0 (fun xs m => goR (EH H) Mk 778240 xs m) := sE fun _ => sE fun _ => sE fun _ => sE fun _ => zE fun _ => goR_eq 400 (by kernel_rfl)
noncomputable def g190_1 : List AV → CM := apS fun t2 => apS fun t13 => apS fun t14 => apS fun t15 => ap0 <|
 CM.pu (p2 (indexAddrA Tryz.prog 44) t13 t15) fun x0 =>
 CM.rm (q1 (loadA Tryz.prog 92) x0 ) fun x1 =>
 CM.al (some (.cells [(.str []), (.int .i64 0), (.int .i64 0), (.int .u64 0)] false, pB)) fun x2 =>
 CM.st (fun m => stV m x2 x1 4) <|
 CM.rm (q1 (loadA Tryz.prog 92) x2 ) fun x4 =>
 CM.callv t2 [x4] fun _ =>
 CM.go 778242 [t2, t13, t14, t15]
theorem g190_1_ok : EqD (Rl H) g190_1 (fun xs m => goR (EH H) Mk 778241 xs m) := sE fun _ => sE fun _ => sE fun _ => sE fun _ => zE fun _ => goR_eq 400 (by kernel_rfl)
noncomputable def g190_2 : List AV → CM := apS fun t2 => apS fun t13 => apS fun t14 => apS fun t15 => ap0 <|
 CM.pu (p2 (binA Tryz.prog .add 3) t15 (.int .i64 1)) fun x0 =>
 CM.go 778240 [t2, t13, t14, x0]
theorem g190_2_ok : EqD (Rl H) g190_2 (fun xs m => goR (EH H) Mk 778242 xs m) := sE fun _ => sE fun _ => sE fun _ => sE fun _ => zE fun _ => goR_eq 400 (by kernel_rfl)
noncomputable def f190 : List AV → CM := apS fun a0 => apS fun a1 => apS fun a2 => ap0 <|
 CM.pu (p1 (lenT Tryz.prog 44) a1) fun x0 =>
 CM.pu (p1 (convA Tryz.prog 3 28) x0) fun x1 =>
 CM.call 189 [a0, x1] fun _ =>
 CM.pu (p1 (lenT Tryz.prog 44) a1) fun x3 =>
 CM.go 778240 [a2, a1, x3, (.int .i64 0)]
theorem f190_ok (h : H 190 = none) : EqD (Rl H) f190 (fun xs m => run (EH H) (.fn 190) xs m) := sE fun _ => sE fun _ => sE fun _ => zE fun _ => run_eq 400 h (by kernel_rfl) (by kernel_rfl)
noncomputable def f191 : List AV → CM := apS fun a0 => apS fun a1 => apS fun a2 => ap0 <|
 CM.al (boxA a0) fun x0 =>
 CM.rm (q1 (loadA Tryz.prog 277) a1 ) fun x1 =>
 CM.pu (p1 (fun a => fieldAddrA Tryz.prog 92 a 0) x0) fun x2 =>
 CM.rm (q1 (loadA Tryz.prog 9) x2 ) fun x3 =>
 CM.al (s2bA x3) fun x4 =>
 CM.call 192 [x1, x4] fun _ =>
 CM.rm (q1 (loadA Tryz.prog 277) a1 ) fun x6 =>
 CM.pu (p1 (fun a => fieldAddrA Tryz.prog 92 a 1) x0) fun x7 =>
 CM.rm (q1 (loadA Tryz.prog 3) x7 ) fun x8 =>
 CM.pu (p1 (convA Tryz.prog 3 5) x8) fun x9 =>
 CM.call 193 [x6, x9] fun _ =>
 CM.rm (q1 (loadA Tryz.prog 194) a2 ) fun x11 =>
 CM.pu (p1 (fun a => fieldAddrA Tryz.prog 92 a 2) x0) fun x12 =>
 CM.rm (q1 (loadA Tryz.prog 33) x12 ) fun x13 =>
 CM.callv x11 [x13] fun _ =>
 CM.ret .undef
theorem f191_ok (h : H 191 = none) : EqD (Rl H) f191 (fun xs m => run (EH H) (.fn 191) xs m) := sE fun _ => sE fun _ => sE fun _ => zE fun _ => run_eq 400 h (by kernel_rfl) (by kernel_rfl)
noncomputable def f192 : List AV → CM := apS fun a0 => apS fun a1 => ap0 <|
 CM.pu (p1 (lenT Tryz.prog 60) a1) fun x0 =>
 CM.pu (p1 (convA Tryz.prog 3 28) x0) fun x1 =>
 CM.call 189 [a0, x1] fun _ =>
 CM.pu (p1 nnA a0) fun x3 =>
 CM.pu (p1 (fun a => fieldAddrA Tryz.prog 313 a 0) x3) fun x4 =>
 CM.rm (q1 (loadA Tryz.prog 60) x4 ) fun x5 =>
 CM.ef (apE 1 1 x5 a1) fun x6 =>
 CM.pu (p1 nnA a0) fun x7 =>
 CM.pu (p1 (fun a => fieldAddrA Tryz.prog 313 a 0) x7) fun x8 =>
 CM.st (fun m => stV m x8 x6 1) <|
 CM.ret .undef
theorem f192_ok (h : H 192 = none) : EqD (Rl H) f192 (fun xs m => run (EH H) (.fn 192) xs m) := sE fun _ => sE fun _ => zE fun _ => run_eq 400 h (by kernel_rfl) (by kernel_rfl)
noncomputable def f193 : List AV → CM := apS fun a0 => apS fun a1 => ap0 <|
 CM.pu (p1 nnA a0) fun x0 =>
 CM.pu (p1 (fun a => fieldAddrA Tryz.prog 313 a 0) x0) fun x1 =>
 CM.rm (q1 (loadA Tryz.prog 60) x1 ) fun x2 =>
 CM.al (bsA 1 1 [(.int .u8 0)] [(0, a1)]) fun x3 =>
 CM.ef (apE 1 1 x2 x3) fun x4 =>
 CM.pu (p1 nnA a0) fun x5 =>
 CM.pu (p1 (fun a => fieldAddrA Tryz.prog 313 a 0) x5) fun x6 =>
 CM.st (fun m => stV m x6 x4 1) <|
 CM.ret .undef
theorem f193_ok (h : H 193 = none) : EqD (Rl H) f193 (fun xs m => run (EH H) (.fn 193) xs m) := sE fun _ => sE fun _ => zE fun _ => run_eq 400 h (by kernel_rfl) (by kernel_rfl)
noncomputable def g194_0 : List AV → CM := apS fun t2 => apS fun t13 => apS fun t14 => apS fun t15 => ap0 <|
 CM.pu (p2 (binA Tryz.prog .lss 3) t15 t14) fun x0 =>
 CM.cond x0 (
 CM.go 794625 [t2, t13, t14, t15]) (
 CM.ret .undef)
theorem g194_0_ok : EqD (Rl H) g194_0 (fun xs m => goR (EH H) Mk 794624 xs m) := sE fun _ => sE fun _ => sE fun _ => sE fun _ => zE fun _ => goR_eq 400 (by kernel_rfl)
noncomputable def g194_1 : List AV → CM := apS fun t2 => apS fun t13 => apS fun t14 => apS fun t15 => ap0 <|
 CM.pu (p2 (indexAddrA Tryz.prog 45) t13 t15) fun x0 =>
 CM.rm (q1 (loadA Tryz.prog 96) x0 ) fun x1 =>
 CM.al (some (.cells [(.str []), (.str []), (.int .i64 0), (.int .u64 0), (.int .i64 0), (.int .i64 0), (.int .u64 0), (.int .i64 0), (.int .u64 0)] false, pB)) fun x2 =>
 CM.st (fun m => stV m x2 x1 9) <|
 CM.rm (q1 (loadA Tryz.prog 96) x2 ) fun x4 =>
 CM.callv t2 [x4] fun _ =>
 CM.go 794626 [t2, t13, t14, t15]
theorem g194_1_ok : EqD (Rl H) g194_1 (fun xs m => goR (EH H) Mk 794625 xs m) := sE fun _ => sE fun _ => sE fun _ => sE fun _ => zE fun _ => goR_eq 400 (by kernel_rfl)
noncomputable def g194_2 : List AV → CM := apS fun t2 => apS fun t13 => apS fun t14 => apS fun t15 => ap0 <|
 CM.pu (p2 (binA Tryz.prog .add 3) t15 (.int .i64 1)) fun x0 =>
 CM.go 794624 [t2, t13, t14, x0]
theorem g194_2_ok : EqD (Rl H) g194_2 (fun xs m => goR (EH H) Mk 794626 xs m) := sE fun _ => sE fun _ => sE fun _ => sE fun _ => zE fun _ => goR_eq 400 (by kernel_rfl)
noncomputable def f194 : List AV → CM := apS fun a0 => apS fun a1 => apS fun a2 => ap0 <|
 CM.pu (p1 (lenT Tryz.prog 45) a1) fun x0 =>
 CM.pu (p1 (convA Tryz.prog 3 28) x0) fun x1 =>
 CM.call 189 [a0, x1] fun _ =>
 CM.pu (p1 (lenT Tryz.prog 45) a1) fun x3 =>
 CM.go 794624 [a2, a1, x3, (.int .i64 0)]
theorem f194_ok (h : H 194 = none) : EqD (Rl H) f194 (fun xs m => run (EH H) (.fn 194) xs m) := sE fun _ => sE fun _ => sE fun _ => zE fun _ => run_eq 400 h (by kernel_rfl) (by kernel_rfl)
noncomputable def f195 : List AV → CM := apS fun a0 => apS fun a1 => apS fun a2 => ap0 <|
 CM.al (boxA a0) fun x0 =>
 CM.rm (q1 (loadA Tryz.prog 277) a1 ) fun x1 =>
 CM.pu (p1 (fun a => fieldAddrA Tryz.prog 96 a 0) x0) fun x2 =>
 CM.rm (q1 (loadA Tryz.prog 9) x2 ) fun x3 =>
 CM.al (s2bA x3) fun x4 =>
 CM.call 192 [x1, x4] fun _ =>
 CM.rm (q1 (loadA Tryz.prog 277) a1 ) fun x6 =>
 CM.pu (p1 (fun a => fieldAddrA Tryz.prog 96 a 1) x0) fun x7 =>
 CM.rm (q1 (loadA Tryz.prog 9) x7 ) fun x8 =>
 CM.al (s2bA x8) fun x9 =>
 CM.call 192 [x6, x9] fun _ =>
 CM.rm (q1 (loadA Tryz.prog 277) a1 ) fun x11 =>
 CM.pu (p1 (fun a => fieldAddrA Tryz.prog 96 a 2) x0) fun x12 =>
 CM.pu (p1 (fun a => fieldAddrA Tryz.prog 35 a 1) x12) fun x13 =>
 CM.rm (q1 (loadA Tryz.prog 3) x13 ) fun x14 =>
 CM.pu (p1 (convA Tryz.prog 3 5) x14) fun x15 =>
 CM.call 193 [x11, x15] fun _ =>
 CM.rm (q1 (loadA Tryz.prog 194) a2 ) fun x17 =>
 CM.pu (p1 (fun a => fieldAddrA Tryz.prog 96 a 2) x0) fun x18 =>
 CM.pu (p1 (fun a => fieldAddrA Tryz.prog 35 a 0) x18) fun x19 =>
 CM.rm (q1 (loadA Tryz.prog 33) x19 ) fun x20 =>
 CM.callv x17 [x20] fun _ =>
 CM.rm (q1 (loadA Tryz.prog 194) a2 ) fun x22 =>
 CM.pu (p1 (fun a => fieldAddrA Tryz.prog 96 a 3) x0) fun x23 =>
 CM.rm (q1 (loadA Tryz.prog 33) x23 ) fun x24 =>
 CM.callv x22 [x24] fun _ =>
 CM.rm (q1 (loadA Tryz.prog 194) a2 ) fun x26 =>
 CM.pu (p1 (fun a => fieldAddrA Tryz.prog 96 a 4) x0) fun x27 =>
 CM.rm (q1 (loadA Tryz.prog 33) x27 ) fun x28 =>
 CM.callv x26 [x28] fun _ =>
 CM.ret .undef
theorem f195_ok (h : H 195 = none) : EqD (Rl H) f195 (fun xs m => run (EH H) (.fn 195) xs m) := sE fun _ => sE fun _ => sE fun _ => zE fun _ => run_eq 400 h (by kernel_rfl) (by kernel_rfl)
noncomputable def g196_0 : List AV → CM := apS fun t2 => apS fun t13 => apS fun t14 => apS fun t15 => ap0 <|
 CM.pu (p2 (binA Tryz.prog .lss 3) t15 t14) fun x0 =>
 CM.cond x0 (
 CM.go 802817 [t2, t13, t14, t15]) (
 CM.ret .undef)
theorem g196_0_ok : EqD (Rl H) g196_0 (fun xs m => goR (EH H) Mk 802816 xs m) := sE fun _ => sE fun _ => sE fun _ => sE fun _ => zE fun _ => goR_eq 400 (by kernel_rfl)
noncomputable def g196_1 : List AV → CM := apS fun t2 => apS fun t13 => apS fun t14 => apS fun t15 => ap0 <|
 CM.pu (p2 (indexAddrA Tryz.prog 46) t13 t15) fun x0 =>
 CM.rm (q1 (loadA Tryz.prog 100) x0 ) fun x1 =>
 CM.al (some (.cells [(.int .u64 0), (.str []), (.int .i64 0), (.int .u64 0)] false, pB)) fun x2 =>
 CM.st (fun m => stV m x2 x1 4) <|
 CM.rm (q1 (loadA Tryz.prog 100) x2 ) fun x4 =>
 CM.callv t2 [x4] fun _ =>
 CM.go 802818 [t2, t13, t14, t15]
theorem g196_1_ok : EqD (Rl H) g196_1 (fun xs m => goR (EH H) Mk 802817 xs m) := sE fun _ => sE fun _ => sE fun _ => sE fun _ => zE fun _ => goR_eq 400 (by kernel_rfl)
noncomputable def g196_2 : List AV → CM := apS fun t2 => apS fun t13 => apS fun t14 => apS fun t15 => ap0 <|
 CM.pu (p2 (binA Tryz.prog .add 3) t15 (.int .i64 1)) fun x0 =>
 CM.go 802816 [t2, t13, t14, x0]
theorem g196_2_ok : EqD (Rl H) g196_2 (fun xs m => goR (EH H) Mk 802818 xs m) := sE fun _ => sE fun _ => sE fun _ => sE fun _ => zE fun _ => goR_eq 400 (by kernel_rfl)
noncomputable def f196 : List AV → CM := apS fun a0 => apS fun a1 => apS fun a2 => ap0 <|
 CM.pu (p1 (lenT Tryz.prog 46) a1) fun x0 =>
 CM.pu (p1 (convA Tryz.prog 3 28) x0) fun x1 =>
 CM.call 189 [a0, x1] fun _ =>
 CM.pu (p1 (lenT Tryz.prog 46) a1) fun x3 =>
 CM.go 802816 [a2, a1, x3, (.int .i64 0)]
theorem f196_ok (h : H 196 = none) : EqD (Rl H) f196 (fun xs m => run (EH H) (.fn 196) xs m) := sE fun _ => sE fun _ => sE fun _ => zE fun _ => run_eq 400 h (by kernel_rfl) (by kernel_rfl)
noncomputable def f197 : List AV → CM := apS fun a0 => apS fun a1 => apS fun a2 => ap0 <|
 CM.al (boxA a0) fun x0 =>
 CM.rm (q1 (loadA Tryz.prog 277) a1 ) fun x1 =>
 CM.pu (p1 (fun a => fieldAddrA Tryz.prog 100 a 0) x0) fun x2 =>
 CM.rm (q1 (loadA Tryz.prog 28) x2 ) fun x3 =>
 CM.call 189 [x1, x3] fun _ =>
 CM.rm (q1 (loadA Tryz.prog 277) a1 ) fun x5 =>
 CM.pu (p1 (fun a => fieldAddrA Tryz.prog 100 a 1) x0) fun x6 =>
 CM.rm (q1 (loadA Tryz.prog 9) x6 ) fun x7 =>
 CM.al (s2bA x7) fun x8 =>
 CM.call 192 [x5, x8] fun _ =>
 CM.rm (q1 (loadA Tryz.prog 194) a2 ) fun x10 =>
 CM.pu (p1 (fun a => fieldAddrA Tryz.prog 100 a 2) x0) fun x11 =>
 CM.rm (q1 (loadA Tryz.prog 33) x11 ) fun x12 =>
 CM.callv x10 [x12] fun _ =>
 CM.ret .undef
theorem f197_ok (h : H 197 = none) : EqD (Rl H) f197 (fun xs m => run (EH H) (.fn 197) xs m) := sE fun _ => sE fun _ => sE fun _ => zE fun _ => run_eq 400 h (by kernel_rfl) (by kernel_rfl)
noncomputable def g198_0 : List AV → CM := apS fun t2 => apS fun t13 => apS fun t14 => apS fun t15 => ap0 <|
 CM.pu (p2 (binA Tryz.prog .lss 3) t15 t14) fun x0 =>
 CM.cond x0 (
 CM.go 811009 [t2, t13, t14, t15]) (
 CM.ret .undef)
theorem g198_0_ok : EqD (Rl H) g198_0 (fun xs m => goR (EH H) Mk 811008 xs m) := sE fun _ => sE fun _ => sE fun _ => sE fun _ => zE fun _ => goR_eq 400 (by kernel_rfl)
noncomputable def g198_1 : List AV → CM := apS fun t2 => apS fun t13 => apS fun t14 => apS fun t15 => ap0 <|
 CM.pu (p2 (indexAddrA Tryz.prog 67) t13 t15) fun x0 =>
 CM.rm (q1 (loadA Tryz.prog 210) x0 ) fun x1 =>
 CM.al (some (.cells [(.int .u64 0), (.int .u64 0), (.int .u64 0), (.sl none 0 0 0 true)] false, pB)) fun x2 =>
 CM.st (fun m => stV m x2 x1 4) <|
 CM.rm (q1 (loadA Tryz.prog 210) x2 ) fun x4 =>
 CM.callv t2 [x4] fun _ =>
 CM.go 811010 [t2, t13, t14, t15]
theorem g198_1_ok : EqD (Rl H) g198_1 (fun xs m => goR (EH H) Mk 811009 xs m) := sE fun _ => sE fun _ => sE fun _ => sE fun _ => zE fun _ => goR_eq 400 (by kernel_rfl)
noncomputable def g198_2 : List AV → CM := apS fun t2 => apS fun t13 => apS fun t14 => apS fun t15 => ap0 <|
 CM.pu (p2 (binA Tryz.prog .add 3) t15 (.int .i64 1)) fun x0 =>
 CM.go 811008 [t2, t13, t14, x0]
theorem g198_2_ok : EqD (Rl H) g198_2 (fun xs m => goR (EH H) Mk 811010 xs m) := sE fun _ => sE fun _ => sE fun _ => sE fun _ => zE fun _ => goR_eq 400 (by kernel_rfl)
noncomputable def f198 : List AV → CM := apS fun a0 => apS fun a1 => apS fun a2 => ap0 <|
 CM.pu (p1 (lenT Tryz.prog 67) a1) fun x0 =>
 CM.pu (p1 (convA Tryz.prog 3 28) x0) fun x1 =>
 CM.call 189 [a0, x1] fun _ =>
 CM.pu (p1 (lenT Tryz.prog 67) a1) fun x3 =>
 CM.go 811008 [a2, a1, x3, (.int .i64 0)]
theorem f198_ok (h : H 198 = none) : EqD (Rl H) f198 (fun xs m => run (EH H) (.fn 198) xs m) := sE fun _ => sE fun _ => sE fun _ => zE fun _ => run_eq 400 h (by kernel_rfl) (by kernel_rfl)
noncomputable def f199 : List AV → CM := apS fun a0 => apS fun a1 => ap0 <|
 CM.al (boxA a0) fun x0 =>
 CM.rm (q1 (loadA Tryz.prog 277) a1 ) fun x1 =>
 CM.pu (p1 (fun a => fieldAddrA Tryz.prog 210 a 0) x0) fun x2 =>
 CM.rm (q1 (loadA Tryz.prog 28) x2 ) fun x3 =>
 CM.call 189 [x1, x3] fun _ =>
 CM.rm (q1 (loadA Tryz.prog 277) a1 ) fun x5 =>
 CM.pu (p1 (fun a => fieldAddrA Tryz.prog 210 a 1) x0) fun x6 =>
 CM.rm (q1 (loadA Tryz.prog 28) x6 ) fun x7 =>
 CM.call 189 [x5, x7] fun _ =>
 CM.rm (q1 (loadA Tryz.prog 277) a1 ) fun x9 =>
 CM.pu (p1 (fun a => fieldAddrA Tryz.prog 210 a 2) x0) fun x10 =>
 CM.rm (q1 (loadA Tryz.prog 28) x10 ) fun x11 =>
 CM.call 189 [x9, x11] fun _ =>
 CM.rm (q1 (loadA Tryz.prog 277) a1 ) fun x13 =>
 CM.pu (p1 (fun a => fieldAddrA Tryz.prog 210 a 3) x0) fun x14 =>
 CM.rm (q1 (loadA Tryz.prog 208) x14 ) fun x15 =>
 CM.call 200 [x13, x15, (.fn (.func 201) [] [a1])] fun _ =>
 CM.ret .undef
theorem f199_ok (h : H 199 = none) : EqD (Rl H) f199 (fun xs m => run (EH H) (.fn 199) xs m) := sE fun _ => sE fun _ => zE fun _ => run_eq 400 h (by kernel_rfl) (by kernel_rfl)
noncomputable def g200_0 : List AV → CM := apS fun t2 => apS fun t13 => apS fun t14 => apS fun t15 => ap0 <|
 CM.pu (p2 (binA Tryz.prog .lss 3) t15 t14) fun x0 =>
 CM.cond x0 (
 CM.go 819201 [t2, t13, t14, t15]) (
 CM.ret .undef)
theorem g200_0_ok : EqD (Rl H) g200_0 (fun xs m => goR (EH H) Mk 819200 xs m) := sE fun _ => sE fun _ => sE fun _ => sE fun _ => zE fun _ => goR_eq 400 (by kernel_rfl)
noncomputable def g200_1 : List AV → CM := apS fun t2 => apS fun t13 => apS fun t14 => apS fun t15 => ap0 <|
 CM.pu (p2 (indexAddrA Tryz.prog 208) t13 t15) fun x0 =>
 CM.rm (q1 (loadA Tryz.prog 228) x0 ) fun x1 =>
 CM.al (some (.cells [(.int .u64 0), (.int .i64 0), (.int .u64 0), (.int .i64 0), (.int .u64 0), (.int .i64 0)] false, pB)) fun x2 =>
 CM.st (fun m => stV m x2 x1 6) <|
 CM.rm (q1 (loadA Tryz.prog 228) x2 ) fun x4 =>
 CM.callv t2 [x4] fun _ =>
 CM.go 819202 [t2, t13, t14, t15]
theorem g200_1_ok : EqD (Rl H) g200_1 (fun xs m => goR (EH H) Mk 819201 xs m) := sE fun _ => sE fun _ => sE fun _ => sE fun _ => zE fun _ => goR_eq 400 (by kernel_rfl)
noncomputable def g200_2 : List AV → CM := apS fun t2 => apS fun t13 => apS fun t14 => apS fun t15 => ap0 <|
 CM.pu (p2 (binA Tryz.prog .add 3) t15 (.int .i64 1)) fun x0 =>
 CM.go 819200 [t2, t13, t14, x0]
theorem g200_2_ok : EqD (Rl H) g200_2 (fun xs m => goR (EH H) Mk 819202 xs m) := sE fun _ => sE fun _ => sE fun _ => sE fun _ => zE fun _ => goR_eq 400 (by kernel_rfl)
noncomputable def f200 : List AV → CM := apS fun a0 => apS fun a1 => apS fun a2 => ap0 <|
 CM.pu (p1 (lenT Tryz.prog 208) a1) fun x0 =>
 CM.pu (p1 (convA Tryz.prog 3 28) x0) fun x1 =>
 CM.call 189 [a0, x1] fun _ =>
 CM.pu (p1 (lenT Tryz.prog 208) a1) fun x3 =>
 CM.go 819200 [a2, a1, x3, (.int .i64 0)]
theorem f200_ok (h : H 200 = none) : EqD (Rl H) f200 (fun xs m => run (EH H) (.fn 200) xs m) := sE fun _ => sE fun _ => sE fun _ => zE fun _ => run_eq 400 h (by kernel_rfl) (by kernel_rfl)
noncomputable def f201 : List AV → CM := apS fun a0 => apS fun a1 => ap0 <|
 CM.al (boxA a0) fun x0 =>
 CM.rm (q1 (loadA Tryz.prog 277) a1 ) fun x1 =>
 CM.pu (p1 (fun a => fieldAddrA Tryz.prog 228 a 0) x0) fun x2 =>
 CM.rm (q1 (loadA Tryz.prog 28) x2 ) fun x3 =>
 CM.call 189 [x1, x3] fun _ =>
 CM.pu (p1 (fun a => fieldAddrA Tryz.prog 228 a 1) x0) fun x5 =>
 CM.rm (q1 (loadA Tryz.prog 57) x5 ) fun x6 =>
 CM.call 202 [x6] fun x7 =>
 CM.pu (p1 (fun a => extractA a 0) x7) fun x8 =>
 CM.pu (p1 (fun a => extractA a 1) x7) fun _ =>
 CM.rm (q1 (loadA Tryz.prog 277) a1 ) fun x10 =>
 CM.call 192 [x10, x8] fun _ =>
 CM.ret .undef
theorem f201_ok (h : H 201 = none) : EqD (Rl H) f201 (fun xs m => run (EH H) (.fn 201) xs m) := sE fun _ => sE fun _ => zE fun _ => run_eq 400 h (by kernel_rfl) (by kernel_rfl)
noncomputable def g202_0 : List AV → CM := apS fun t1 => ap0 <|
 CM.call 186 [] fun x0 =>
 CM.pu (p1 (fun a => fieldAddrA Tryz.prog 57 a 0) t1) fun x1 =>
 CM.rm (q1 (loadA Tryz.prog 23) x1 ) fun x2 =>
 CM.pu (p1 (convA Tryz.prog 23 5) x2) fun x3 =>
 CM.call 193 [x0, x3] fun _ =>
 CM.pu (p1 (fun a => fieldAddrA Tryz.prog 57 a 1) t1) fun x5 =>
 CM.rm (q1 (loadA Tryz.prog 28) x5 ) fun x6 =>
 CM.call 189 [x0, x6] fun _ =>
 CM.pu (p1 (fun a => fieldAddrA Tryz.prog 57 a 2) t1) fun x8 =>
 CM.rm (q1 (loadA Tryz.prog 35) x8 ) fun x9 =>
 CM.call 228 [x0, x9] fun _ =>
 CM.call 203 [x0] fun x11 =>
 CM.ret (.tup [x11, (.int .i64 0)])
theorem g202_0_ok : EqD (Rl H) g202_0 (fun xs m => goR (EH H) Mk 827392 xs m) := sE fun _ => zE fun _ => goR_eq 400 (by kernel_rfl)
noncomputable def f202 : List AV → CM := apS fun a0 => ap0 <|
 CM.al (boxA a0) fun x0 =>
 CM.pu (p1 (fun a => fieldAddrA Tryz.prog 57 a 0) x0) fun x1 =>
 CM.rm (q1 (loadA Tryz.prog 23) x1 ) fun x2 =>
 CM.pu (p2 (binA Tryz.prog .lss 23) x2 (.int .i64 0)) fun x3 =>
 CM.ifv x3 (
 CM.ret (.tup [(.sl none 0 0 0 true), (.int .i64 1)])) (
 CM.pu (p1 (fun a => fieldAddrA Tryz.prog 57 a 0) x0) fun x4 =>
 CM.rm (q1 (loadA Tryz.prog 23) x4 ) fun x5 =>
 CM.pu (p2 (binA Tryz.prog .gtr 23) x5 (.int .i64 99)) fun x6 =>
 CM.ifv x6 (
 CM.ret (.tup [(.sl none 0 0 0 true), (.int .i64 1)])) (
 CM.pu (p1 (fun a => fieldAddrA Tryz.prog 57 a 2) x0) fun x7 =>
 CM.rm (q1 (loadA Tryz.prog 35) x7 ) fun x8 =>
 CM.call 94 [x8] fun x9 =>
 CM.pu (p1 (unA .not) x9) fun x10 =>
 CM.cond x10 (
 CM.ret (.tup [(.sl none 0 0 0 true), (.int .i64 1)])) (
 CM.go 827392 [x0])))
theorem f202_ok (h : H 202 = none) : EqD (Rl H) f202 (fun xs m => run (EH H) (.fn 202) xs m) := sE fun _ => zE fun _ => run_eq 400 h (by kernel_rfl) (by kernel_rfl)
noncomputable def f203 : List AV → CM := apS fun a0 => ap0 <|
 CM.al (some (.cells [] false, sB 1 0)) fun x0 =>
 CM.pu (p1 nnA a0) fun x1 =>
 CM.pu (p1 (fun a => fieldAddrA Tryz.prog 313 a 0) x1) fun x2 =>
 CM.rm (q1 (loadA Tryz.prog 60) x2 ) fun x3 =>
 CM.ef (apE 1 1 x0 x3) fun x4 =>
 CM.ret x4
theorem f203_ok (h : H 203 = none) : EqD (Rl H) f203 (fun xs m => run (EH H) (.fn 203) xs m) := sE fun _ => zE fun _ => run_eq 400 h (by kernel_rfl) (by kernel_rfl)
noncomputable def g204_0 : List AV → CM := apS fun t1 => ap0 <|
 CM.pu (p2 (binA Tryz.prog .geq 28) t1 (.int .u64 1)) fun x0 =>
 CM.ifv x0 (
 CM.pu (p2 (binA Tryz.prog .leq 28) t1 (.int .u64 72057594037927935)) fun x1 =>
 CM.ret x1) (
 CM.ret (.bool false))
theorem g204_0_ok : EqD (Rl H) g204_0 (fun xs m => goR (EH H) Mk 835584 xs m) := sE fun _ => zE fun _ => goR_eq 400 (by kernel_rfl)
noncomputable def f204 : List AV → CM := apS fun a0 => apS fun a1 => ap0 <|
 CM.pu (p1 (unA .not) a0) fun x0 =>
 CM.cond x0 (
 CM.pu (p2 (binA Tryz.prog .eql 28) a1 (.int .u64 0)) fun x1 =>
 CM.ret x1) (
 CM.go 835584 [a1])
theorem f204_ok (h : H 204 = none) : EqD (Rl H) f204 (fun xs m => run (EH H) (.fn 204) xs m) := sE fun _ => sE fun _ => zE fun _ => run_eq 400 h (by kernel_rfl) (by kernel_rfl)
noncomputable def g205_0 : List AV → CM := apS fun t1 => ap0 <|
 CM.call 229 [t1] fun x0 =>
 CM.ret x0
theorem g205_0_ok : EqD (Rl H) g205_0 (fun xs m => goR (EH H) Mk 839680 xs m) := sE fun _ => zE fun _ => goR_eq 400 (by kernel_rfl)
noncomputable def f205 : List AV → CM := apS fun a0 => apS fun a1 => ap0 <|
 CM.pu (p1 (unA .not) a0) fun x0 =>
 CM.cond x0 (
 CM.pu (p2 (binA Tryz.prog .eql 9) a1 (.str [])) fun x1 =>
 CM.ret x1) (
 CM.go 839680 [a1])
theorem f205_ok (h : H 205 = none) : EqD (Rl H) f205 (fun xs m => run (EH H) (.fn 205) xs m) := sE fun _ => sE fun _ => zE fun _ => run_eq 400 h (by kernel_rfl) (by kernel_rfl)
noncomputable def g206_0 : List AV → CM := apS fun t0 => ap0 <|
 CM.pu (p1 (convA Tryz.prog 2 28) t0) fun x0 =>
 CM.pu (p2 (binA Tryz.prog .mul 28) x0 (.int .u64 2)) fun x1 =>
 CM.call 136 [x1] fun x2 =>
 CM.ret x2
theorem g206_0_ok : EqD (Rl H) g206_0 (fun xs m => goR (EH H) Mk 843776 xs m) := sE fun _ => zE fun _ => goR_eq 400 (by kernel_rfl)
noncomputable def f206 : List AV → CM := apS fun a0 => ap0 <|
 CM.pu (p2 (binA Tryz.prog .lss 2) a0 (.int .i64 0)) fun x0 =>
 CM.cond x0 (
 CM.pu (p2 (binA Tryz.prog .add 2) a0 (.int .i64 1)) fun x1 =>
 CM.pu (p1 (unA .neg) x1) fun x2 =>
 CM.pu (p1 (convA Tryz.prog 2 28) x2) fun x3 =>
 CM.pu (p2 (binA Tryz.prog .mul 28) x3 (.int .u64 2)) fun x4 =>
 CM.pu (p2 (binA Tryz.prog .add 28) x4 (.int .u64 1)) fun x5 =>
 CM.call 136 [x5] fun x6 =>
 CM.ret x6) (
 CM.go 843776 [a0])
theorem f206_ok (h : H 206 = none) : EqD (Rl H) f206 (fun xs m => run (EH H) (.fn 206) xs m) := sE fun _ => zE fun _ => run_eq 400 h (by kernel_rfl) (by kernel_rfl)
noncomputable def f207 : List AV → CM := apS fun a0 => ap0 <|
 CM.pu (p2 (binA Tryz.prog .neq 9) a0 a0) fun x0 =>
 CM.ret x0
theorem f207_ok (h : H 207 = none) : EqD (Rl H) f207 (fun xs m => run (EH H) (.fn 207) xs m) := sE fun _ => zE fun _ => run_eq 400 h (by kernel_rfl) (by kernel_rfl)
noncomputable def f208 : List AV → CM := apS fun a0 => apS fun a1 => ap0 <|
 CM.pu (p2 (fun a h => sliceA Tryz.prog 169 a none (some h)) a0 a1) fun x0 =>
 CM.call 230 [x0] fun _ =>
 CM.pu (p2 (fun a l => sliceA Tryz.prog 169 a (some l) none) a0 a1) fun x2 =>
 CM.call 230 [x2] fun _ =>
 CM.call 230 [a0] fun _ =>
 CM.ret .undef
theorem f208_ok (h : H 208 = none) : EqD (Rl H) f208 (fun xs m => run (EH H) (.fn 208) xs m) := sE fun _ => sE fun _ => zE fun _ => run_eq 400 h (by kernel_rfl) (by kernel_rfl)
noncomputable def f209 : List AV → CM := apS fun a0 => apS fun a1 => ap0 <|
 CM.pu (p2 (fun a h => sliceA Tryz.prog 44 a none (some h)) a0 a1) fun x0 =>
 CM.call 231 [x0] fun _ =>
 CM.pu (p2 (fun a l => sliceA Tryz.prog 44 a (some l) none) a0 a1) fun x2 =>
 CM.call 231 [x2] fun _ =>
 CM.call 231 [a0] fun _ =>
 CM.ret .undef
theorem f209_ok (h : H 209 = none) : EqD (Rl H) f209 (fun xs m => run (EH H) (.fn 209) xs m) := sE fun _ => sE fun _ => zE fun _ => run_eq 400 h (by kernel_rfl) (by kernel_rfl)
noncomputable def f210 : List AV → CM := apS fun a0 => ap0 <|
 CM.pu (p2 (binA Tryz.prog .neq 28) a0 a0) fun x0 =>
 CM.ret x0
theorem f210_ok (h : H 210 = none) : EqD (Rl H) f210 (fun xs m => run (EH H) (.fn 210) xs m) := sE fun _ => zE fun _ => run_eq 400 h (by kernel_rfl) (by kernel_rfl)
noncomputable def f211 : List AV → CM := apS fun a0 => apS fun a1 => ap0 <|
 CM.pu (p2 (fun a h => sliceA Tryz.prog 139 a none (some h)) a0 a1) fun x0 =>
 CM.call 232 [x0] fun _ =>
 CM.pu (p2 (fun a l => sliceA Tryz.prog 139 a (some l) none) a0 a1) fun x2 =>
 CM.call 232 [x2] fun _ =>
 CM.call 232 [a0] fun _ =>
 CM.ret .undef
theorem f211_ok (h : H 211 = none) : EqD (Rl H) f211 (fun xs m => run (EH H) (.fn 211) xs m) := sE fun _ => sE fun _ => zE fun _ => run_eq 400 h (by kernel_rfl) (by kernel_rfl)
noncomputable def f212 : List AV → CM := apS fun a0 => apS fun a1 => ap0 <|
 CM.pu (p2 (fun a h => sliceA Tryz.prog 46 a none (some h)) a0 a1) fun x0 =>
 CM.call 233 [x0] fun _ =>
 CM.pu (p2 (fun a l => sliceA Tryz.prog 46 a (some l) none) a0 a1) fun x2 =>
 CM.call 233 [x2] fun _ =>
 CM.call 233 [a0] fun _ =>
 CM.ret .undef
theorem f212_ok (h : H 212 = none) : EqD (Rl H) f212 (fun xs m => run (EH H) (.fn 212) xs m) := sE fun _ => sE fun _ => zE fun _ => run_eq 400 h (by kernel_rfl) (by kernel_rfl)
end Go.Proofs.YtpoafkipnjfioaaGreat.T
