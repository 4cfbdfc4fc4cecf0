/- Functions as trees, printed by our own program (wip/tools/gen3.lean). -/
import Derived.Test.YtfiipajgdhafaaaGreatT0
namespace Go.Proofs.YtfiipajgdhafaaaGreat.T
open Go Go.Abs Go.Proofs.YtfiipajgdhafaaaGreat
set_option maxRecDepth 10000
noncomputable def g51_0 : List AV → CM := apS fun t0 => apS fun t1 => apS fun t2 => apS fun t3 => apS fun t8 => apS fun t11 => ap0 <|
CM.pu (p1 (fun a => fieldAddrA Tryz.prog 146 a 2) t11) fun x0 =>
CM.st (fun m => stV m x0 t3 1) <|
CM.pu (p1 nnA t0) fun x2 =>
CM.pu (p1 (fun a => fieldAddrA Tryz.prog 148 a 1) x2) fun x3 =>
CM.rm (q1 (loadA Tryz.prog 141) x3 ) fun x4 =>
CM.rm (q1 (loadA Tryz.prog 146) t11 ) fun x5 =>
CM.call 87 [x4, t1, x5] fun _ =>
CM.pu (p1 (fun a => fieldAddrA Tryz.prog 146 a 1) t11) fun x9 =>
CM.rm (q1 (loadA Tryz.prog 26) x9 ) fun x10 =>
CM.pu (p2 (binA Tryz.prog .add 26) x10 (.int .u64 1)) fun x11 =>
CM.pu (p2 (binA Tryz.prog .eql 26) t2 x11) fun x12 =>
CM.cond x12 (
CM.pu (p1 (buildA Tryz.prog 46) []) fun x13 =>
CM.st (fun m => stV m t8 x13 5) <|
CM.resC Tryz.prog [ResultVar.cell 0 46, ResultVar.tmp 1, ResultVar.tmp 2] [t8, (.bool false), (.int .i64 0)]) (
CM.pu (p1 (fun a => fieldAddrA Tryz.prog 146 a 1) t11) fun x15 =>
CM.rm (q1 (loadA Tryz.prog 26) x15 ) fun x16 =>
CM.pu (p2 (binA Tryz.prog .gtr 26) t2 x16) fun x17 =>
CM.cond x17 (
CM.pu (p1 (buildA Tryz.prog 46) []) fun x18 =>
CM.st (fun m => stV m t8 x18 5) <|
CM.resC Tryz.prog [ResultVar.cell 0 46, ResultVar.tmp 1, ResultVar.tmp 2] [t8, (.bool false), (.int .i64 52)]) (
CM.go 208897 [t2, t8, t11]))
theorem g51_0_ok : LeD (real E Mk Nk) g51_0 (fun ts m => goR E Mk 208896 ts m) := apS_le fun _ => apS_le fun _ => apS_le fun _ => apS_le fun _ => apS_le fun _ => apS_le fun _ => ap0_le fun _ => goR_eq 400 (by kernel_rfl)
noncomputable def g51_1 : List AV → CM := apS fun t2 => apS fun t8 => apS fun t11 => ap0 <|
CM.pu (p1 (fun a => fieldAddrA Tryz.prog 146 a 3) t11) fun x0 =>
CM.rm (q1 (loadA Tryz.prog 144) x0 ) fun x1 =>
CM.pu (p1 (lenT Tryz.prog 144) x1) fun x2 =>
CM.go 208898 [t2, t8, x1, x2, (.int .i64 0)]
theorem g51_1_ok : LeD (real E Mk Nk) g51_1 (fun ts m => goR E Mk 208897 ts m) := apS_le fun _ => apS_le fun _ => apS_le fun _ => ap0_le fun _ => goR_eq 400 (by kernel_rfl)
noncomputable def g51_2 : List AV → CM := apS fun t2 => apS fun t8 => apS fun t50 => apS fun t51 => apS fun t52 => ap0 <|
CM.pu (p2 (binA Tryz.prog .lss 3) t52 t51) fun x0 =>
CM.cond x0 (
CM.go 208899 [t2, t8, t50, t51, t52]) (
CM.go 208901 [t8])
theorem g51_2_ok : LeD (real E Mk Nk) g51_2 (fun ts m => goR E Mk 208898 ts m) := apS_le fun _ => apS_le fun _ => apS_le fun _ => apS_le fun _ => apS_le fun _ => ap0_le fun _ => goR_eq 400 (by kernel_rfl)
noncomputable def g51_3 : List AV → CM := apS fun t2 => apS fun t8 => apS fun t50 => apS fun t51 => apS fun t52 => ap0 <|
CM.pu (p2 (indexAddrA Tryz.prog 144) t50 t52) fun x0 =>
CM.rm (q1 (loadA Tryz.prog 166) x0 ) fun x1 =>
CM.al (some (.cells [(.int .u64 0), (.int .i64 0), (.int .u64 0), (.int .i64 0), (.int .u64 0), (.int .i64 0)] false, pB)) fun x2 =>
CM.st (fun m => stV m x2 x1 6) <|
CM.pu (p1 (fun a => fieldAddrA Tryz.prog 166 a 0) x2) fun x4 =>
CM.rm (q1 (loadA Tryz.prog 26) x4 ) fun x5 =>
CM.pu (p2 (binA Tryz.prog .eql 26) x5 t2) fun x6 =>
CM.cond x6 (
CM.pu (p1 (fun a => fieldAddrA Tryz.prog 166 a 1) x2) fun x7 =>
CM.rm (q1 (loadA Tryz.prog 46) x7 ) fun x8 =>
CM.st (fun m => stV m t8 x8 5) <|
CM.resC Tryz.prog [ResultVar.cell 0 46, ResultVar.tmp 1, ResultVar.tmp 2] [t8, (.bool true), (.int .i64 0)]) (
CM.go 208900 [t2, t8, t50, t51, t52])
theorem g51_3_ok : LeD (real E Mk Nk) g51_3 (fun ts m => goR E Mk 208899 ts m) := apS_le fun _ => apS_le fun _ => apS_le fun _ => apS_le fun _ => apS_le fun _ => ap0_le fun _ => goR_eq 400 (by kernel_rfl)
noncomputable def g51_4 : List AV → CM := apS fun t2 => apS fun t8 => apS fun t50 => apS fun t51 => apS fun t52 => ap0 <|
CM.pu (p2 (binA Tryz.prog .add 3) t52 (.int .i64 1)) fun x0 =>
CM.go 208898 [t2, t8, t50, t51, x0]
theorem g51_4_ok : LeD (real E Mk Nk) g51_4 (fun ts m => goR E Mk 208900 ts m) := apS_le fun _ => apS_le fun _ => apS_le fun _ => apS_le fun _ => apS_le fun _ => ap0_le fun _ => goR_eq 400 (by kernel_rfl)
noncomputable def g51_5 : List AV → CM := apS fun t8 => ap0 <|
CM.pu (p1 (buildA Tryz.prog 46) []) fun x0 =>
CM.st (fun m => stV m t8 x0 5) <|
CM.resC Tryz.prog [ResultVar.cell 0 46, ResultVar.tmp 1, ResultVar.tmp 2] [t8, (.bool false), (.int .i64 51)]
theorem g51_5_ok : LeD (real E Mk Nk) g51_5 (fun ts m => goR E Mk 208901 ts m) := apS_le fun _ => ap0_le fun _ => goR_eq 400 (by kernel_rfl)
noncomputable def f51 : List AV → CM := apS fun a0 => apS fun a1 => apS fun a2 => apS fun a3 => ap0 <|
CM.al (some (.cells [(.int .i64 0), (.int .u64 0), (.int .i64 0), (.int .u64 0), (.int .i64 0)] false, pB)) fun x0 =>
CM.pu (p1 nnA a0) fun x1 =>
CM.pu (p1 (fun a => fieldAddrA Tryz.prog 148 a 1) x1) fun x2 =>
CM.rm (q1 (loadA Tryz.prog 141) x2 ) fun x3 =>
CM.call 100 [x3, a1] fun x4 =>
CM.pu (p1 (fun a => extractA a 0) x4) fun x5 =>
CM.pu (p1 (fun a => extractA a 1) x4) fun x6 =>
CM.al (some (.cells [(.int .u64 0), (.int .u64 0), (.int .u64 0), (.sl none 0 0 0 true)] false, pB)) fun x7 =>
CM.st (fun m => stV m x7 x5 4) <|
CM.pu (p1 (unA .not) x6) fun x9 =>
CM.cond x9 (
CM.pu (p1 (buildA Tryz.prog 46) []) fun x10 =>
CM.st (fun m => stV m x0 x10 5) <|
CM.resC Tryz.prog [ResultVar.cell 0 46, ResultVar.tmp 1, ResultVar.tmp 2] [x0, (.bool false), (.int .i64 50)]) (
CM.go 208896 [a0, a1, a2, a3, x0, x7])
theorem f51_ok : LeD (real E Mk Nk) f51 (fun xs m => run E (.fn 51) xs m) := apS_le fun _ => apS_le fun _ => apS_le fun _ => apS_le fun _ => ap0_le fun _ => run_eq 400 rfl (by kernel_rfl) (by kernel_rfl)
noncomputable def g52_0 : List AV → CM := apS fun t4 => apS fun t5 => ap0 <|
CM.rm (q1 (loadA Tryz.prog 46) t5 ) fun x0 =>
CM.st (fun m => stV m t4 x0 5) <|
CM.resC Tryz.prog [ResultVar.cell 0 46] [t4]
theorem g52_0_ok : LeD (real E Mk Nk) g52_0 (fun ts m => goR E Mk 212992 ts m) := apS_le fun _ => apS_le fun _ => ap0_le fun _ => goR_eq 400 (by kernel_rfl)
noncomputable def f52 : List AV → CM := apS fun a0 => apS fun a1 => ap0 <|
CM.al (boxA a1) fun x0 =>
CM.al (some (.cells [(.int .i64 0), (.int .u64 0), (.int .i64 0), (.int .u64 0), (.int .i64 0)] false, pB)) fun x1 =>
CM.al (some (.cells [(.int .i64 0), (.int .u64 0), (.int .i64 0), (.int .u64 0), (.int .i64 0)] false, pB)) fun x2 =>
CM.pu (p1 (fun a => fieldAddrA Tryz.prog 40 a 0) x0) fun x3 =>
CM.rm (q1 (loadA Tryz.prog 3) x3 ) fun x4 =>
CM.pu (p2 (binA Tryz.prog .eql 3) x4 (.int .i64 2)) fun x5 =>
CM.cond x5 (
CM.pu (p1 nnA a0) fun x6 =>
CM.pu (p1 (fun a => fieldAddrA Tryz.prog 87 a 1) x6) fun x7 =>
CM.rm (q1 (loadA Tryz.prog 80) x7 ) fun x8 =>
CM.pu (p1 (fun a => fieldAddrA Tryz.prog 40 a 6) x0) fun x9 =>
CM.rm (q1 (loadA Tryz.prog 9) x9 ) fun x10 =>
CM.pu (p1 (fun a => fieldAddrA Tryz.prog 40 a 3) x0) fun x11 =>
CM.rm (q1 (loadA Tryz.prog 26) x11 ) fun x12 =>
CM.call 103 [x8, x10, x12] fun x14 =>
CM.pu (p1 (fun a => fieldAddrA Tryz.prog 46 a 0) x2) fun x16 =>
CM.st (fun m => stV m x16 x14 1) <|
CM.go 212992 [x1, x2]) (
CM.pu (p2 (binA Tryz.prog .eql 3) x4 (.int .i64 3)) fun x20 =>
CM.cond x20 (
CM.pu (p1 nnA a0) fun x21 =>
CM.pu (p1 (fun a => fieldAddrA Tryz.prog 87 a 1) x21) fun x22 =>
CM.rm (q1 (loadA Tryz.prog 80) x22 ) fun x23 =>
CM.pu (p1 (fun a => fieldAddrA Tryz.prog 40 a 6) x0) fun x24 =>
CM.rm (q1 (loadA Tryz.prog 9) x24 ) fun x25 =>
CM.call 104 [x23, x25] fun x27 =>
CM.pu (p1 (fun a => extractA a 0) x27) fun x29 =>
CM.pu (p1 (fun a => extractA a 1) x27) fun x30 =>
CM.pu (p1 (fun a => fieldAddrA Tryz.prog 46 a 1) x2) fun x31 =>
CM.st (fun m => stV m x31 x29 1) <|
CM.pu (p1 (fun a => fieldAddrA Tryz.prog 46 a 0) x2) fun x35 =>
CM.st (fun m => stV m x35 x30 1) <|
CM.go 212992 [x1, x2]) (
CM.pu (p2 (binA Tryz.prog .eql 3) x4 (.int .i64 4)) fun x39 =>
CM.cond x39 (
CM.pu (p1 nnA a0) fun x40 =>
CM.pu (p1 (fun a => fieldAddrA Tryz.prog 87 a 1) x40) fun x41 =>
CM.rm (q1 (loadA Tryz.prog 80) x41 ) fun x42 =>
CM.pu (p1 (fun a => fieldAddrA Tryz.prog 40 a 3) x0) fun x43 =>
CM.rm (q1 (loadA Tryz.prog 26) x43 ) fun x44 =>
CM.pu (p1 (fun a => fieldAddrA Tryz.prog 40 a 5) x0) fun x45 =>
CM.rm (q1 (loadA Tryz.prog 38) x45 ) fun x46 =>
CM.call 105 [x42, x44, x46] fun x48 =>
CM.pu (p1 (fun a => fieldAddrA Tryz.prog 46 a 0) x2) fun x50 =>
CM.st (fun m => stV m x50 x48 1) <|
CM.go 212992 [x1, x2]) (
CM.pu (p2 (binA Tryz.prog .eql 3) x4 (.int .i64 5)) fun x54 =>
CM.cond x54 (
CM.pu (p1 nnA a0) fun x55 =>
CM.pu (p1 (fun a => fieldAddrA Tryz.prog 87 a 1) x55) fun x56 =>
CM.rm (q1 (loadA Tryz.prog 80) x56 ) fun x57 =>
CM.pu (p1 (fun a => fieldAddrA Tryz.prog 40 a 3) x0) fun x58 =>
CM.rm (q1 (loadA Tryz.prog 26) x58 ) fun x59 =>
CM.pu (p1 (fun a => fieldAddrA Tryz.prog 40 a 5) x0) fun x60 =>
CM.rm (q1 (loadA Tryz.prog 38) x60 ) fun x61 =>
CM.call 106 [x57, x59, x61] fun x63 =>
CM.pu (p1 (fun a => fieldAddrA Tryz.prog 46 a 0) x2) fun x65 =>
CM.st (fun m => stV m x65 x63 1) <|
CM.go 212992 [x1, x2]) (
CM.pu (p2 (binA Tryz.prog .eql 3) x4 (.int .i64 6)) fun x69 =>
CM.cond x69 (
CM.pu (p1 nnA a0) fun x70 =>
CM.pu (p1 (fun a => fieldAddrA Tryz.prog 87 a 1) x70) fun x71 =>
CM.rm (q1 (loadA Tryz.prog 80) x71 ) fun x72 =>
CM.pu (p1 (fun a => fieldAddrA Tryz.prog 40 a 3) x0) fun x73 =>
CM.rm (q1 (loadA Tryz.prog 26) x73 ) fun x74 =>
CM.pu (p1 (fun a => fieldAddrA Tryz.prog 40 a 4) x0) fun x75 =>
CM.rm (q1 (loadA Tryz.prog 26) x75 ) fun x76 =>
CM.pu (p1 (fun a => fieldAddrA Tryz.prog 40 a 5) x0) fun x77 =>
CM.rm (q1 (loadA Tryz.prog 38) x77 ) fun x78 =>
CM.call 107 [x72, x74, x76, x78] fun x80 =>
CM.pu (p1 (fun a => fieldAddrA Tryz.prog 46 a 0) x2) fun x82 =>
CM.st (fun m => stV m x82 x80 1) <|
CM.go 212992 [x1, x2]) (
CM.pu (p2 (binA Tryz.prog .eql 3) x4 (.int .i64 7)) fun x86 =>
CM.cond x86 (
CM.pu (p1 nnA a0) fun x87 =>
CM.pu (p1 (fun a => fieldAddrA Tryz.prog 87 a 1) x87) fun x88 =>
CM.rm (q1 (loadA Tryz.prog 80) x88 ) fun x89 =>
CM.pu (p1 (fun a => fieldAddrA Tryz.prog 40 a 6) x0) fun x90 =>
CM.rm (q1 (loadA Tryz.prog 9) x90 ) fun x91 =>
CM.pu (p1 (fun a => fieldAddrA Tryz.prog 40 a 7) x0) fun x92 =>
CM.rm (q1 (loadA Tryz.prog 9) x92 ) fun x93 =>
CM.pu (p1 (fun a => fieldAddrA Tryz.prog 40 a 5) x0) fun x94 =>
CM.rm (q1 (loadA Tryz.prog 38) x94 ) fun x95 =>
CM.call 108 [x89, x91, x93, x95] fun x97 =>
CM.pu (p1 (fun a => fieldAddrA Tryz.prog 46 a 0) x2) fun x99 =>
CM.st (fun m => stV m x99 x97 1) <|
CM.go 212992 [x1, x2]) (
CM.pu (p2 (binA Tryz.prog .eql 3) x4 (.int .i64 8)) fun x103 =>
CM.cond x103 (
CM.pu (p1 nnA a0) fun x104 =>
CM.pu (p1 (fun a => fieldAddrA Tryz.prog 87 a 1) x104) fun x105 =>
CM.rm (q1 (loadA Tryz.prog 80) x105 ) fun x106 =>
CM.pu (p1 (fun a => fieldAddrA Tryz.prog 40 a 3) x0) fun x107 =>
CM.rm (q1 (loadA Tryz.prog 26) x107 ) fun x108 =>
CM.pu (p1 (fun a => fieldAddrA Tryz.prog 40 a 4) x0) fun x109 =>
CM.rm (q1 (loadA Tryz.prog 26) x109 ) fun x110 =>
CM.pu (p1 (fun a => fieldAddrA Tryz.prog 40 a 5) x0) fun x111 =>
CM.rm (q1 (loadA Tryz.prog 38) x111 ) fun x112 =>
CM.call 109 [x106, x108, x110, x112] fun x114 =>
CM.pu (p1 (fun a => extractA a 0) x114) fun x116 =>
CM.pu (p1 (fun a => extractA a 1) x114) fun x117 =>
CM.pu (p1 (fun a => fieldAddrA Tryz.prog 46 a 2) x2) fun x118 =>
CM.st (fun m => stV m x118 x116 3) <|
CM.pu (p1 (fun a => fieldAddrA Tryz.prog 46 a 0) x2) fun x122 =>
CM.st (fun m => stV m x122 x117 1) <|
CM.go 212992 [x1, x2]) (
CM.pu (p2 (binA Tryz.prog .eql 3) x4 (.int .i64 9)) fun x126 =>
CM.cond x126 (
CM.pu (p1 nnA a0) fun x127 =>
CM.pu (p1 (fun a => fieldAddrA Tryz.prog 87 a 1) x127) fun x128 =>
CM.rm (q1 (loadA Tryz.prog 80) x128 ) fun x129 =>
CM.pu (p1 (fun a => fieldAddrA Tryz.prog 40 a 3) x0) fun x130 =>
CM.rm (q1 (loadA Tryz.prog 26) x130 ) fun x131 =>
CM.call 110 [x129, x131] fun x133 =>
CM.pu (p1 (fun a => extractA a 0) x133) fun x135 =>
CM.pu (p1 (fun a => extractA a 1) x133) fun x136 =>
CM.pu (p1 (fun a => fieldAddrA Tryz.prog 46 a 2) x2) fun x137 =>
CM.st (fun m => stV m x137 x135 3) <|
CM.pu (p1 (fun a => fieldAddrA Tryz.prog 46 a 0) x2) fun x141 =>
CM.st (fun m => stV m x141 x136 1) <|
CM.go 212992 [x1, x2]) (
CM.pu (p2 (binA Tryz.prog .eql 3) x4 (.int .i64 10)) fun x145 =>
CM.cond x145 (
CM.pu (p1 nnA a0) fun x146 =>
CM.pu (p1 (fun a => fieldAddrA Tryz.prog 87 a 1) x146) fun x147 =>
CM.rm (q1 (loadA Tryz.prog 80) x147 ) fun x148 =>
CM.pu (p1 (fun a => fieldAddrA Tryz.prog 40 a 6) x0) fun x149 =>
CM.rm (q1 (loadA Tryz.prog 9) x149 ) fun x150 =>
CM.call 111 [x148, x150] fun x152 =>
CM.pu (p1 (fun a => extractA a 0) x152) fun x154 =>
CM.pu (p1 (fun a => extractA a 1) x152) fun x155 =>
CM.pu (p1 (fun a => fieldAddrA Tryz.prog 46 a 2) x2) fun x156 =>
CM.st (fun m => stV m x156 x154 3) <|
CM.pu (p1 (fun a => fieldAddrA Tryz.prog 46 a 0) x2) fun x160 =>
CM.st (fun m => stV m x160 x155 1) <|
CM.go 212992 [x1, x2]) (
CM.pu (p2 (binA Tryz.prog .eql 3) x4 (.int .i64 11)) fun x164 =>
CM.cond x164 (
CM.pu (p1 nnA a0) fun x165 =>
CM.pu (p1 (fun a => fieldAddrA Tryz.prog 87 a 1) x165) fun x166 =>
CM.rm (q1 (loadA Tryz.prog 80) x166 ) fun x167 =>
CM.pu (p1 (fun a => fieldAddrA Tryz.prog 40 a 6) x0) fun x168 =>
CM.rm (q1 (loadA Tryz.prog 9) x168 ) fun x169 =>
CM.pu (p1 (fun a => fieldAddrA Tryz.prog 40 a 7) x0) fun x170 =>
CM.rm (q1 (loadA Tryz.prog 9) x170 ) fun x171 =>
CM.call 112 [x167, x169, x171] fun x173 =>
CM.pu (p1 (fun a => extractA a 0) x173) fun x175 =>
CM.pu (p1 (fun a => extractA a 1) x173) fun x176 =>
CM.pu (p1 (fun a => fieldAddrA Tryz.prog 46 a 2) x2) fun x177 =>
CM.st (fun m => stV m x177 x175 3) <|
CM.pu (p1 (fun a => fieldAddrA Tryz.prog 46 a 0) x2) fun x181 =>
CM.st (fun m => stV m x181 x176 1) <|
CM.go 212992 [x1, x2]) (
CM.go 212992 [x1, x2]))))))))))
theorem f52_ok : LeD (real E Mk Nk) f52 (fun xs m => run E (.fn 52) xs m) := apS_le fun _ => apS_le fun _ => ap0_le fun _ => run_eq 400 rfl (by kernel_rfl) (by kernel_rfl)
noncomputable def g53_0 : List AV → CM := apS fun t0 => apS fun t1 => apS fun t2 => apS fun t7 => apS fun t9 => ap0 <|
CM.pu (p1 (fun a => fieldAddrA Tryz.prog 146 a 1) t9) fun x0 =>
CM.st (fun m => stV m x0 t2 1) <|
CM.al (some (.cells [] false, sB 6 0)) fun x2 =>
CM.pu (p1 (fun a => fieldAddrA Tryz.prog 146 a 3) t9) fun x3 =>
CM.rm (q1 (loadA Tryz.prog 144) x3 ) fun x4 =>
CM.ef (apE 6 48 x2 x4) fun x5 =>
CM.rm (q1 (loadA Tryz.prog 46) t7 ) fun x6 =>
CM.pu (p1 (buildA Tryz.prog 166) [(0, t2), (1, x6)]) fun x7 =>
CM.al (bsA 6 1 [(.int .u64 0), (.int .i64 0), (.int .u64 0), (.int .i64 0), (.int .u64 0), (.int .i64 0)] [(0, x7)]) fun x8 =>
CM.ef (apE 6 48 x5 x8) fun x9 =>
CM.pu (p1 (lenT Tryz.prog 144) x9) fun x10 =>
CM.pu (p2 (binA Tryz.prog .sub 3) x10 (.int .i64 4)) fun x11 =>
CM.pu (p2 maxA (.int .i64 0) x11) fun x12 =>
CM.pu (p2 (fun a l => sliceA Tryz.prog 144 a (some l) none) x9 x12) fun x13 =>
CM.pu (p1 (fun a => fieldAddrA Tryz.prog 146 a 3) t9) fun x14 =>
CM.st (fun m => stV m x14 x13 1) <|
CM.pu (p1 nnA t0) fun x16 =>
CM.pu (p1 (fun a => fieldAddrA Tryz.prog 148 a 1) x16) fun x17 =>
CM.rm (q1 (loadA Tryz.prog 141) x17 ) fun x18 =>
CM.rm (q1 (loadA Tryz.prog 146) t9 ) fun x19 =>
CM.call 87 [x18, t1, x19] fun _ =>
CM.ret (.bool true)
theorem g53_0_ok : LeD (real E Mk Nk) g53_0 (fun ts m => goR E Mk 217088 ts m) := apS_le fun _ => apS_le fun _ => apS_le fun _ => apS_le fun _ => apS_le fun _ => ap0_le fun _ => goR_eq 400 (by kernel_rfl)
noncomputable def f53 : List AV → CM := apS fun a0 => apS fun a1 => apS fun a2 => apS fun a3 => ap0 <|
CM.al (boxA a3) fun x0 =>
CM.pu (p1 nnA a0) fun x1 =>
CM.pu (p1 (fun a => fieldAddrA Tryz.prog 148 a 1) x1) fun x2 =>
CM.rm (q1 (loadA Tryz.prog 141) x2 ) fun x3 =>
CM.call 100 [x3, a1] fun x4 =>
CM.pu (p1 (fun a => extractA a 0) x4) fun x5 =>
CM.pu (p1 (fun a => extractA a 1) x4) fun x6 =>
CM.al (some (.cells [(.int .u64 0), (.int .u64 0), (.int .u64 0), (.sl none 0 0 0 true)] false, pB)) fun x7 =>
CM.st (fun m => stV m x7 x5 4) <|
CM.pu (p1 (unA .not) x6) fun x9 =>
CM.ifv x9 (
CM.ret (.bool false)) (
CM.pu (p1 (fun a => fieldAddrA Tryz.prog 146 a 1) x7) fun x10 =>
CM.rm (q1 (loadA Tryz.prog 26) x10 ) fun x11 =>
CM.pu (p2 (binA Tryz.prog .add 26) x11 (.int .u64 1)) fun x12 =>
CM.pu (p2 (binA Tryz.prog .neq 26) a2 x12) fun x13 =>
CM.cond x13 (
CM.ret (.bool false)) (
CM.go 217088 [a0, a1, a2, x0, x7]))
theorem f53_ok : LeD (real E Mk Nk) f53 (fun xs m => run E (.fn 53) xs m) := apS_le fun _ => apS_le fun _ => apS_le fun _ => apS_le fun _ => ap0_le fun _ => run_eq 400 rfl (by kernel_rfl) (by kernel_rfl)
noncomputable def f54 : List AV → CM := apS fun a0 => apS fun a1 => apS fun a2 => ap0 <|
CM.pu (p2 (binA Tryz.prog .geq 3) a0 a1) fun x0 =>
CM.ifv x0 (
CM.pu (p2 (binA Tryz.prog .leq 3) a0 a2) fun x1 =>
CM.ret x1) (
CM.ret (.bool false))
theorem f54_ok : LeD (real E Mk Nk) f54 (fun xs m => run E (.fn 54) xs m) := apS_le fun _ => apS_le fun _ => apS_le fun _ => ap0_le fun _ => run_eq 400 rfl (by kernel_rfl) (by kernel_rfl)
noncomputable def g55_0 : List AV → CM := apS fun t0 => ap0 <|
CM.pu (p1 (buildA Tryz.prog 208) [(2, t0)]) fun x0 =>
CM.al (boxA x0) fun x1 =>
CM.ret (.tup [x1, (.int .i64 0)])
theorem g55_0_ok : LeD (real E Mk Nk) g55_0 (fun ts m => goR E Mk 225280 ts m) := apS_le fun _ => ap0_le fun _ => goR_eq 400 (by kernel_rfl)
noncomputable def f55 : List AV → CM := apS fun a0 => ap0 <|
CM.pu (p2 (binA Tryz.prog .lss 3) a0 (.int .i64 1)) fun x0 =>
CM.ifv x0 (
CM.ret (.tup [(.ptr none), (.int .i64 1)])) (
CM.pu (p2 (binA Tryz.prog .gtr 3) a0 (.int .i64 4096)) fun x1 =>
CM.cond x1 (
CM.ret (.tup [(.ptr none), (.int .i64 1)])) (
CM.go 225280 [a0]))
theorem f55_ok : LeD (real E Mk Nk) f55 (fun xs m => run E (.fn 55) xs m) := apS_le fun _ => ap0_le fun _ => run_eq 400 rfl (by kernel_rfl) (by kernel_rfl)
noncomputable def g56_0 : List AV → CM := apS fun t0 => ap0 <|
CM.pu (p1 (buildA Tryz.prog 210) [(2, t0)]) fun x0 =>
CM.al (boxA x0) fun x1 =>
CM.ret (.tup [x1, (.int .i64 0)])
theorem g56_0_ok : LeD (real E Mk Nk) g56_0 (fun ts m => goR E Mk 229376 ts m) := apS_le fun _ => ap0_le fun _ => goR_eq 400 (by kernel_rfl)
noncomputable def f56 : List AV → CM := apS fun a0 => ap0 <|
CM.pu (p2 (binA Tryz.prog .lss 3) a0 (.int .i64 1)) fun x0 =>
CM.ifv x0 (
CM.ret (.tup [(.ptr none), (.int .i64 1)])) (
CM.pu (p2 (binA Tryz.prog .gtr 3) a0 (.int .i64 4096)) fun x1 =>
CM.cond x1 (
CM.ret (.tup [(.ptr none), (.int .i64 1)])) (
CM.go 229376 [a0]))
theorem f56_ok : LeD (real E Mk Nk) f56 (fun xs m => run E (.fn 56) xs m) := apS_le fun _ => ap0_le fun _ => run_eq 400 rfl (by kernel_rfl) (by kernel_rfl)
noncomputable def g57_0 : List AV → CM := apS fun t0 => ap0 <|
CM.pu (p1 (buildA Tryz.prog 212) [(2, t0)]) fun x0 =>
CM.al (boxA x0) fun x1 =>
CM.ret (.tup [x1, (.int .i64 0)])
theorem g57_0_ok : LeD (real E Mk Nk) g57_0 (fun ts m => goR E Mk 233472 ts m) := apS_le fun _ => ap0_le fun _ => goR_eq 400 (by kernel_rfl)
noncomputable def f57 : List AV → CM := apS fun a0 => ap0 <|
CM.pu (p2 (binA Tryz.prog .lss 3) a0 (.int .i64 1)) fun x0 =>
CM.ifv x0 (
CM.ret (.tup [(.ptr none), (.int .i64 1)])) (
CM.pu (p2 (binA Tryz.prog .gtr 3) a0 (.int .i64 4096)) fun x1 =>
CM.cond x1 (
CM.ret (.tup [(.ptr none), (.int .i64 1)])) (
CM.go 233472 [a0]))
theorem f57_ok : LeD (real E Mk Nk) f57 (fun xs m => run E (.fn 57) xs m) := apS_le fun _ => ap0_le fun _ => run_eq 400 rfl (by kernel_rfl) (by kernel_rfl)
noncomputable def f58 : List AV → CM := apS fun a0 => ap0 <|
CM.pu (p2 (binA Tryz.prog .geq 26) a0 (.int .u64 1)) fun x0 =>
CM.ifv x0 (
CM.pu (p2 (binA Tryz.prog .leq 26) a0 (.int .u64 72057594037927935)) fun x1 =>
CM.ret x1) (
CM.ret (.bool false))
theorem f58_ok : LeD (real E Mk Nk) f58 (fun xs m => run E (.fn 58) xs m) := apS_le fun _ => ap0_le fun _ => run_eq 400 rfl (by kernel_rfl) (by kernel_rfl)
noncomputable def g59_0 : List AV → CM := apS fun t0 => ap0 <|
CM.pu (p1 (buildA Tryz.prog 214) [(2, t0)]) fun x0 =>
CM.al (boxA x0) fun x1 =>
CM.ret (.tup [x1, (.int .i64 0)])
theorem g59_0_ok : LeD (real E Mk Nk) g59_0 (fun ts m => goR E Mk 241664 ts m) := apS_le fun _ => ap0_le fun _ => goR_eq 400 (by kernel_rfl)
noncomputable def f59 : List AV → CM := apS fun a0 => ap0 <|
CM.pu (p2 (binA Tryz.prog .lss 3) a0 (.int .i64 1)) fun x0 =>
CM.ifv x0 (
CM.ret (.tup [(.ptr none), (.int .i64 1)])) (
CM.pu (p2 (binA Tryz.prog .gtr 3) a0 (.int .i64 4096)) fun x1 =>
CM.cond x1 (
CM.ret (.tup [(.ptr none), (.int .i64 1)])) (
CM.go 241664 [a0]))
theorem f59_ok : LeD (real E Mk Nk) f59 (fun xs m => run E (.fn 59) xs m) := apS_le fun _ => ap0_le fun _ => run_eq 400 rfl (by kernel_rfl) (by kernel_rfl)
noncomputable def g60_0 : List AV → CM := apS fun t2 => ap0 <|
CM.pu (p1 (fun a => fieldAddrA Tryz.prog 93 a 0) t2) fun x0 =>
CM.rm (q1 (loadA Tryz.prog 89) x0 ) fun x1 =>
CM.pu (p1 (lenT Tryz.prog 89) x1) fun x2 =>
CM.go 245761 [t2, x1, x2, (.int .i64 0)]
theorem g60_0_ok : LeD (real E Mk Nk) g60_0 (fun ts m => goR E Mk 245760 ts m) := apS_le fun _ => ap0_le fun _ => goR_eq 400 (by kernel_rfl)
noncomputable def g60_1 : List AV → CM := apS fun t2 => apS fun t29 => apS fun t30 => apS fun t31 => ap0 <|
CM.pu (p2 (binA Tryz.prog .lss 3) t31 t30) fun x0 =>
CM.cond x0 (
CM.go 245762 [t2, t29, t30, t31]) (
CM.go 245764 [t2])
theorem g60_1_ok : LeD (real E Mk Nk) g60_1 (fun ts m => goR E Mk 245761 ts m) := apS_le fun _ => apS_le fun _ => apS_le fun _ => apS_le fun _ => ap0_le fun _ => goR_eq 400 (by kernel_rfl)
noncomputable def g60_2 : List AV → CM := apS fun t2 => apS fun t29 => apS fun t30 => apS fun t31 => ap0 <|
CM.pu (p2 (indexAddrA Tryz.prog 89) t29 t31) fun x0 =>
CM.rm (q1 (loadA Tryz.prog 132) x0 ) fun x1 =>
CM.al (some (.cells [(.str []), (.int .i64 0), (.int .i64 0), (.int .u64 0)] false, pB)) fun x2 =>
CM.st (fun m => stV m x2 x1 4) <|
CM.pu (p1 (fun a => fieldAddrA Tryz.prog 132 a 0) x2) fun x4 =>
CM.rm (q1 (loadA Tryz.prog 9) x4 ) fun x5 =>
CM.call 113 [x5] fun x7 =>
CM.pu (p1 (unA .not) x7) fun x9 =>
CM.ifv x9 (
CM.ret (.bool false)) (
CM.pu (p2 (binA Tryz.prog .gtr 3) t31 (.int .i64 0)) fun x10 =>
CM.ifv x10 (
CM.pu (p1 (fun a => fieldAddrA Tryz.prog 93 a 0) t2) fun x11 =>
CM.rm (q1 (loadA Tryz.prog 89) x11 ) fun x12 =>
CM.pu (p2 (binA Tryz.prog .sub 3) t31 (.int .i64 1)) fun x13 =>
CM.pu (p2 (indexAddrA Tryz.prog 89) x12 x13) fun x14 =>
CM.pu (p1 (fun a => fieldAddrA Tryz.prog 132 a 0) x14) fun x15 =>
CM.rm (q1 (loadA Tryz.prog 9) x15 ) fun x16 =>
CM.pu (p1 (fun a => fieldAddrA Tryz.prog 132 a 0) x2) fun x17 =>
CM.rm (q1 (loadA Tryz.prog 9) x17 ) fun x18 =>
CM.pu (p2 (binA Tryz.prog .geq 9) x16 x18) fun x19 =>
CM.ifv x19 (
CM.ret (.bool false)) (
CM.pu (p1 (fun a => fieldAddrA Tryz.prog 132 a 1) x2) fun x20 =>
CM.rm (q1 (loadA Tryz.prog 3) x20 ) fun x21 =>
CM.pu (p2 (binA Tryz.prog .lss 3) x21 (.int .i64 0)) fun x22 =>
CM.ifv x22 (
CM.ret (.bool false)) (
CM.pu (p1 (fun a => fieldAddrA Tryz.prog 132 a 1) x2) fun x23 =>
CM.rm (q1 (loadA Tryz.prog 3) x23 ) fun x24 =>
CM.pu (p2 (binA Tryz.prog .gtr 3) x24 (.int .i64 18)) fun x25 =>
CM.cond x25 (
CM.ret (.bool false)) (
CM.go 245763 [t2, t29, t30, t31])))) (
CM.pu (p1 (fun a => fieldAddrA Tryz.prog 132 a 1) x2) fun x26 =>
CM.rm (q1 (loadA Tryz.prog 3) x26 ) fun x27 =>
CM.pu (p2 (binA Tryz.prog .lss 3) x27 (.int .i64 0)) fun x28 =>
CM.ifv x28 (
CM.ret (.bool false)) (
CM.pu (p1 (fun a => fieldAddrA Tryz.prog 132 a 1) x2) fun x29 =>
CM.rm (q1 (loadA Tryz.prog 3) x29 ) fun x30 =>
CM.pu (p2 (binA Tryz.prog .gtr 3) x30 (.int .i64 18)) fun x31 =>
CM.cond x31 (
CM.ret (.bool false)) (
CM.go 245763 [t2, t29, t30, t31]))))
theorem g60_2_ok : LeD (real E Mk Nk) g60_2 (fun ts m => goR E Mk 245762 ts m) := apS_le fun _ => apS_le fun _ => apS_le fun _ => apS_le fun _ => ap0_le fun _ => goR_eq 400 (by kernel_rfl)
noncomputable def g60_3 : List AV → CM := apS fun t2 => apS fun t29 => apS fun t30 => apS fun t31 => ap0 <|
CM.pu (p2 (binA Tryz.prog .add 3) t31 (.int .i64 1)) fun x0 =>
CM.go 245761 [t2, t29, t30, x0]
theorem g60_3_ok : LeD (real E Mk Nk) g60_3 (fun ts m => goR E Mk 245763 ts m) := apS_le fun _ => apS_le fun _ => apS_le fun _ => apS_le fun _ => ap0_le fun _ => goR_eq 400 (by kernel_rfl)
noncomputable def g60_4 : List AV → CM := apS fun t2 => ap0 <|
CM.rm (q1 (loadA Tryz.prog 93) t2 ) fun x0 =>
CM.call 114 [x0] fun x1 =>
CM.pu (p1 (unA .not) x1) fun x2 =>
CM.ifv x2 (
CM.ret (.bool false)) (
CM.rm (q1 (loadA Tryz.prog 93) t2 ) fun x3 =>
CM.call 115 [x3] fun x4 =>
CM.pu (p1 (unA .not) x4) fun x5 =>
CM.cond x5 (
CM.ret (.bool false)) (
CM.go 245765 [t2]))
theorem g60_4_ok : LeD (real E Mk Nk) g60_4 (fun ts m => goR E Mk 245764 ts m) := apS_le fun _ => ap0_le fun _ => goR_eq 400 (by kernel_rfl)
noncomputable def g60_5 : List AV → CM := apS fun t2 => ap0 <|
CM.pu (p1 (fun a => fieldAddrA Tryz.prog 93 a 0) t2) fun x0 =>
CM.rm (q1 (loadA Tryz.prog 89) x0 ) fun x1 =>
CM.pu (p1 (lenT Tryz.prog 89) x1) fun x2 =>
CM.go 245766 [t2, x1, x2, (.int .i64 0)]
theorem g60_5_ok : LeD (real E Mk Nk) g60_5 (fun ts m => goR E Mk 245765 ts m) := apS_le fun _ => ap0_le fun _ => goR_eq 400 (by kernel_rfl)
noncomputable def g60_6 : List AV → CM := apS fun t2 => apS fun t76 => apS fun t77 => apS fun t78 => ap0 <|
CM.pu (p2 (binA Tryz.prog .lss 3) t78 t77) fun x0 =>
CM.cond x0 (
CM.go 245767 [t2, t76, t77, t78]) (
CM.go 245769 [])
theorem g60_6_ok : LeD (real E Mk Nk) g60_6 (fun ts m => goR E Mk 245766 ts m) := apS_le fun _ => apS_le fun _ => apS_le fun _ => apS_le fun _ => ap0_le fun _ => goR_eq 400 (by kernel_rfl)
noncomputable def g60_7 : List AV → CM := apS fun t2 => apS fun t76 => apS fun t77 => apS fun t78 => ap0 <|
CM.pu (p2 (indexAddrA Tryz.prog 89) t76 t78) fun x0 =>
CM.rm (q1 (loadA Tryz.prog 132) x0 ) fun x1 =>
CM.al (some (.cells [(.str []), (.int .i64 0), (.int .i64 0), (.int .u64 0)] false, pB)) fun x2 =>
CM.st (fun m => stV m x2 x1 4) <|
CM.rm (q1 (loadA Tryz.prog 93) t2 ) fun x4 =>
CM.rm (q1 (loadA Tryz.prog 132) x2 ) fun x5 =>
CM.call 116 [x4, x5] fun x6 =>
CM.pu (p1 (unA .not) x6) fun x7 =>
CM.cond x7 (
CM.ret (.bool false)) (
CM.go 245768 [t2, t76, t77, t78])
theorem g60_7_ok : LeD (real E Mk Nk) g60_7 (fun ts m => goR E Mk 245767 ts m) := apS_le fun _ => apS_le fun _ => apS_le fun _ => apS_le fun _ => ap0_le fun _ => goR_eq 400 (by kernel_rfl)
noncomputable def g60_8 : List AV → CM := apS fun t2 => apS fun t76 => apS fun t77 => apS fun t78 => ap0 <|
CM.pu (p2 (binA Tryz.prog .add 3) t78 (.int .i64 1)) fun x0 =>
CM.go 245766 [t2, t76, t77, x0]
theorem g60_8_ok : LeD (real E Mk Nk) g60_8 (fun ts m => goR E Mk 245768 ts m) := apS_le fun _ => apS_le fun _ => apS_le fun _ => apS_le fun _ => ap0_le fun _ => goR_eq 400 (by kernel_rfl)
noncomputable def g60_9 : List AV → CM := ap0 <|
CM.ret (.bool true)
theorem g60_9_ok : LeD (real E Mk Nk) g60_9 (fun ts m => goR E Mk 245769 ts m) := ap0_le fun _ => goR_eq 400 (by kernel_rfl)
noncomputable def f60 : List AV → CM := apS fun a0 => apS fun a1 => ap0 <|
CM.al (boxA a0) fun x0 =>
CM.pu (p2 (binA Tryz.prog .lss 3) a1 (.int .i64 1)) fun x1 =>
CM.ifv x1 (
CM.ret (.bool false)) (
CM.pu (p2 (binA Tryz.prog .gtr 3) a1 (.int .i64 64)) fun x2 =>
CM.ifv x2 (
CM.ret (.bool false)) (
CM.pu (p1 (fun a => fieldAddrA Tryz.prog 93 a 0) x0) fun x3 =>
CM.rm (q1 (loadA Tryz.prog 89) x3 ) fun x4 =>
CM.pu (p1 (lenT Tryz.prog 89) x4) fun x5 =>
CM.pu (p2 (binA Tryz.prog .gtr 3) x5 (.int .i64 8)) fun x6 =>
CM.ifv x6 (
CM.ret (.bool false)) (
CM.pu (p1 (fun a => fieldAddrA Tryz.prog 93 a 2) x0) fun x7 =>
CM.rm (q1 (loadA Tryz.prog 91) x7 ) fun x8 =>
CM.pu (p1 (lenT Tryz.prog 91) x8) fun x9 =>
CM.pu (p2 (binA Tryz.prog .gtr 3) x9 a1) fun x10 =>
CM.cond x10 (
CM.ret (.bool false)) (
CM.go 245760 [x0]))))
theorem f60_ok : LeD (real E Mk Nk) f60 (fun xs m => run E (.fn 60) xs m) := apS_le fun _ => apS_le fun _ => ap0_le fun _ => run_eq 400 rfl (by kernel_rfl) (by kernel_rfl)
noncomputable def g61_0 : List AV → CM := apS fun t0 => ap0 <|
CM.pu (p1 (lenT Tryz.prog 95) t0) fun x0 =>
CM.go 249857 [(.int .u64 0), t0, x0, (.int .i64 0)]
theorem g61_0_ok : LeD (real E Mk Nk) g61_0 (fun ts m => goR E Mk 249856 ts m) := apS_le fun _ => ap0_le fun _ => goR_eq 400 (by kernel_rfl)
noncomputable def g61_1 : List AV → CM := apS fun t5 => apS fun t20 => apS fun t21 => apS fun t22 => ap0 <|
CM.pu (p2 (binA Tryz.prog .lss 3) t22 t21) fun x0 =>
CM.cond x0 (
CM.go 249858 [t5, t20, t21, t22]) (
CM.go 249861 [])
theorem g61_1_ok : LeD (real E Mk Nk) g61_1 (fun ts m => goR E Mk 249857 ts m) := apS_le fun _ => apS_le fun _ => apS_le fun _ => apS_le fun _ => ap0_le fun _ => goR_eq 400 (by kernel_rfl)
noncomputable def g61_2 : List AV → CM := apS fun t5 => apS fun t20 => apS fun t21 => apS fun t22 => ap0 <|
CM.pu (p2 (indexAddrA Tryz.prog 95) t20 t22) fun x0 =>
CM.rm (q1 (loadA Tryz.prog 146) x0 ) fun x1 =>
CM.al (some (.cells [(.int .u64 0), (.int .u64 0), (.int .u64 0), (.sl none 0 0 0 true)] false, pB)) fun x2 =>
CM.st (fun m => stV m x2 x1 4) <|
CM.pu (p1 (fun a => fieldAddrA Tryz.prog 146 a 0) x2) fun x4 =>
CM.rm (q1 (loadA Tryz.prog 26) x4 ) fun x5 =>
CM.pu (p2 (binA Tryz.prog .leq 26) x5 t5) fun x6 =>
CM.ifv x6 (
CM.ret (.bool false)) (
CM.pu (p1 (fun a => fieldAddrA Tryz.prog 146 a 0) x2) fun x7 =>
CM.rm (q1 (loadA Tryz.prog 26) x7 ) fun x8 =>
CM.pu (p2 (binA Tryz.prog .gtr 26) x8 (.int .u64 72057594037927935)) fun x9 =>
CM.ifv x9 (
CM.ret (.bool false)) (
CM.pu (p1 (fun a => fieldAddrA Tryz.prog 146 a 1) x2) fun x10 =>
CM.rm (q1 (loadA Tryz.prog 26) x10 ) fun x11 =>
CM.pu (p2 (binA Tryz.prog .gtr 26) x11 (.int .u64 72057594037927935)) fun x12 =>
CM.ifv x12 (
CM.ret (.bool false)) (
CM.pu (p1 (fun a => fieldAddrA Tryz.prog 146 a 2) x2) fun x13 =>
CM.rm (q1 (loadA Tryz.prog 26) x13 ) fun x14 =>
CM.pu (p2 (binA Tryz.prog .gtr 26) x14 (.int .u64 72057594037927935)) fun x15 =>
CM.ifv x15 (
CM.ret (.bool false)) (
CM.rm (q1 (loadA Tryz.prog 146) x2 ) fun x16 =>
CM.call 117 [x16] fun x17 =>
CM.pu (p1 (unA .not) x17) fun x18 =>
CM.cond x18 (
CM.ret (.bool false)) (
CM.go 249859 [x2, t20, t21, t22])))))
theorem g61_2_ok : LeD (real E Mk Nk) g61_2 (fun ts m => goR E Mk 249858 ts m) := apS_le fun _ => apS_le fun _ => apS_le fun _ => apS_le fun _ => ap0_le fun _ => goR_eq 400 (by kernel_rfl)
noncomputable def g61_3 : List AV → CM := apS fun t7 => apS fun t20 => apS fun t21 => apS fun t22 => ap0 <|
CM.pu (p1 (fun a => fieldAddrA Tryz.prog 146 a 0) t7) fun x0 =>
CM.rm (q1 (loadA Tryz.prog 26) x0 ) fun x1 =>
CM.go 249860 [x1, t20, t21, t22]
theorem g61_3_ok : LeD (real E Mk Nk) g61_3 (fun ts m => goR E Mk 249859 ts m) := apS_le fun _ => apS_le fun _ => apS_le fun _ => apS_le fun _ => ap0_le fun _ => goR_eq 400 (by kernel_rfl)
noncomputable def g61_4 : List AV → CM := apS fun t5 => apS fun t20 => apS fun t21 => apS fun t22 => ap0 <|
CM.pu (p2 (binA Tryz.prog .add 3) t22 (.int .i64 1)) fun x0 =>
CM.go 249857 [t5, t20, t21, x0]
theorem g61_4_ok : LeD (real E Mk Nk) g61_4 (fun ts m => goR E Mk 249860 ts m) := apS_le fun _ => apS_le fun _ => apS_le fun _ => apS_le fun _ => ap0_le fun _ => goR_eq 400 (by kernel_rfl)
noncomputable def g61_5 : List AV → CM := ap0 <|
CM.ret (.bool true)
theorem g61_5_ok : LeD (real E Mk Nk) g61_5 (fun ts m => goR E Mk 249861 ts m) := ap0_le fun _ => goR_eq 400 (by kernel_rfl)
noncomputable def f61 : List AV → CM := apS fun a0 => apS fun a1 => ap0 <|
CM.pu (p2 (binA Tryz.prog .lss 3) a1 (.int .i64 1)) fun x0 =>
CM.ifv x0 (
CM.ret (.bool false)) (
CM.pu (p2 (binA Tryz.prog .gtr 3) a1 (.int .i64 16)) fun x1 =>
CM.ifv x1 (
CM.ret (.bool false)) (
CM.pu (p1 (lenT Tryz.prog 95) a0) fun x2 =>
CM.pu (p2 (binA Tryz.prog .gtr 3) x2 a1) fun x3 =>
CM.cond x3 (
CM.ret (.bool false)) (
CM.go 249856 [a0])))
theorem f61_ok : LeD (real E Mk Nk) f61 (fun xs m => run E (.fn 61) xs m) := apS_le fun _ => apS_le fun _ => ap0_le fun _ => run_eq 400 rfl (by kernel_rfl) (by kernel_rfl)
noncomputable def f62 : List AV → CM := ap0 <|
CM.pu (p1 (buildA Tryz.prog 220) []) fun x0 =>
CM.al (boxA x0) fun x1 =>
CM.ret x1
theorem f62_ok : LeD (real E Mk Nk) f62 (fun xs m => run E (.fn 62) xs m) := ap0_le fun _ => run_eq 400 rfl (by kernel_rfl) (by kernel_rfl)
noncomputable def f63 : List AV → CM := apS fun a0 => apS fun a1 => ap0 <|
CM.al (boxA a0) fun x0 =>
CM.rm (q1 (loadA Tryz.prog 151) a1 ) fun x1 =>
CM.pu (p1 (fun a => fieldAddrA Tryz.prog 36 a 0) x0) fun x2 =>
CM.rm (q1 (loadA Tryz.prog 2) x2 ) fun x3 =>
CM.call 64 [x1, x3] fun _ =>
CM.rm (q1 (loadA Tryz.prog 151) a1 ) fun x5 =>
CM.pu (p1 (fun a => fieldAddrA Tryz.prog 36 a 1) x0) fun x6 =>
CM.rm (q1 (loadA Tryz.prog 26) x6 ) fun x7 =>
CM.call 65 [x5, x7] fun _ =>
CM.ret .undef
theorem f63_ok : LeD (real E Mk Nk) f63 (fun xs m => run E (.fn 63) xs m) := apS_le fun _ => apS_le fun _ => ap0_le fun _ => run_eq 400 rfl (by kernel_rfl) (by kernel_rfl)
noncomputable def f64 : List AV → CM := apS fun a0 => apS fun a1 => ap0 <|
CM.pu (p1 (convA Tryz.prog 2 26) a1) fun x0 =>
CM.pu (p2 (binA Tryz.prog .shl 26) x0 (.int .u64 1)) fun x1 =>
CM.pu (p2 (binA Tryz.prog .shr 2) a1 (.int .u64 63)) fun x2 =>
CM.pu (p1 (convA Tryz.prog 2 26) x2) fun x3 =>
CM.pu (p2 (binA Tryz.prog .xor 26) x1 x3) fun x4 =>
CM.call 65 [a0, x4] fun _ =>
CM.ret .undef
theorem f64_ok : LeD (real E Mk Nk) f64 (fun xs m => run E (.fn 64) xs m) := apS_le fun _ => apS_le fun _ => ap0_le fun _ => run_eq 400 rfl (by kernel_rfl) (by kernel_rfl)
noncomputable def g65_0 : List AV → CM := apS fun t0 => apS fun t1 => ap0 <|
CM.pu (p2 (binA Tryz.prog .geq 26) t1 (.int .u64 128)) fun x0 =>
CM.cond x0 (
CM.go 266241 [t0, t1]) (
CM.go 266242 [t0, t1])
theorem g65_0_ok : LeD (real E Mk Nk) g65_0 (fun ts m => goR E Mk 266240 ts m) := apS_le fun _ => apS_le fun _ => ap0_le fun _ => goR_eq 400 (by kernel_rfl)
noncomputable def g65_1 : List AV → CM := apS fun t0 => apS fun t1 => ap0 <|
CM.pu (p1 nnA t0) fun x0 =>
CM.pu (p1 (fun a => fieldAddrA Tryz.prog 220 a 0) x0) fun x1 =>
CM.rm (q1 (loadA Tryz.prog 33) x1 ) fun x2 =>
CM.pu (p1 (convA Tryz.prog 26 5) t1) fun x3 =>
CM.pu (p2 (binA Tryz.prog .or 5) x3 (.int .u8 128)) fun x4 =>
CM.al (bsA 1 1 [(.int .u8 0)] [(0, x4)]) fun x5 =>
CM.ef (apE 1 1 x2 x5) fun x6 =>
CM.pu (p1 nnA t0) fun x7 =>
CM.pu (p1 (fun a => fieldAddrA Tryz.prog 220 a 0) x7) fun x8 =>
CM.st (fun m => stV m x8 x6 1) <|
CM.pu (p2 (binA Tryz.prog .shr 26) t1 (.int .u64 7)) fun x10 =>
CM.go 266240 [t0, x10]
theorem g65_1_ok : LeD (real E Mk Nk) g65_1 (fun ts m => goR E Mk 266241 ts m) := apS_le fun _ => apS_le fun _ => ap0_le fun _ => goR_eq 400 (by kernel_rfl)
noncomputable def g65_2 : List AV → CM := apS fun t0 => apS fun t1 => ap0 <|
CM.pu (p1 nnA t0) fun x0 =>
CM.pu (p1 (fun a => fieldAddrA Tryz.prog 220 a 0) x0) fun x1 =>
CM.rm (q1 (loadA Tryz.prog 33) x1 ) fun x2 =>
CM.pu (p1 (convA Tryz.prog 26 5) t1) fun x3 =>
CM.al (bsA 1 1 [(.int .u8 0)] [(0, x3)]) fun x4 =>
CM.ef (apE 1 1 x2 x4) fun x5 =>
CM.pu (p1 nnA t0) fun x6 =>
CM.pu (p1 (fun a => fieldAddrA Tryz.prog 220 a 0) x6) fun x7 =>
CM.st (fun m => stV m x7 x5 1) <|
CM.ret .undef
theorem g65_2_ok : LeD (real E Mk Nk) g65_2 (fun ts m => goR E Mk 266242 ts m) := apS_le fun _ => apS_le fun _ => ap0_le fun _ => goR_eq 400 (by kernel_rfl)
noncomputable def f65 : List AV → CM := apS fun a0 => apS fun a1 => ap0 <|
CM.go 266240 [a0, a1]
theorem f65_ok : LeD (real E Mk Nk) f65 (fun xs m => run E (.fn 65) xs m) := apS_le fun _ => apS_le fun _ => ap0_le fun _ => run_eq 400 rfl (by kernel_rfl) (by kernel_rfl)
noncomputable def g66_0 : List AV → CM := apS fun t2 => apS fun t13 => apS fun t14 => apS fun t15 => ap0 <|
CM.pu (p2 (binA Tryz.prog .lss 3) t15 t14) fun x0 =>
CM.cond x0 (
CM.go 270337 [t2, t13, t14, t15]) (
CM.ret .undef)
theorem g66_0_ok : LeD (real E Mk Nk) g66_0 (fun ts m => goR E Mk 270336 ts m) := apS_le fun _ => apS_le fun _ => apS_le fun _ => apS_le fun _ => ap0_le fun _ => goR_eq 400 (by kernel_rfl)
noncomputable def g66_1 : List AV → CM := apS fun t2 => apS fun t13 => apS fun t14 => apS fun t15 => ap0 <|
CM.pu (p2 (indexAddrA Tryz.prog 89) t13 t15) fun x0 =>
CM.rm (q1 (loadA Tryz.prog 132) x0 ) fun x1 =>
CM.al (some (.cells [(.str []), (.int .i64 0), (.int .i64 0), (.int .u64 0)] false, pB)) fun x2 =>
CM.st (fun m => stV m x2 x1 4) <|
CM.rm (q1 (loadA Tryz.prog 132) x2 ) fun x4 =>
CM.callv t2 [x4] fun _ =>
CM.go 270338 [t2, t13, t14, t15]
theorem g66_1_ok : LeD (real E Mk Nk) g66_1 (fun ts m => goR E Mk 270337 ts m) := apS_le fun _ => apS_le fun _ => apS_le fun _ => apS_le fun _ => ap0_le fun _ => goR_eq 400 (by kernel_rfl)
noncomputable def g66_2 : List AV → CM := apS fun t2 => apS fun t13 => apS fun t14 => apS fun t15 => ap0 <|
CM.pu (p2 (binA Tryz.prog .add 3) t15 (.int .i64 1)) fun x0 =>
CM.go 270336 [t2, t13, t14, x0]
theorem g66_2_ok : LeD (real E Mk Nk) g66_2 (fun ts m => goR E Mk 270338 ts m) := apS_le fun _ => apS_le fun _ => apS_le fun _ => apS_le fun _ => ap0_le fun _ => goR_eq 400 (by kernel_rfl)
noncomputable def f66 : List AV → CM := apS fun a0 => apS fun a1 => apS fun a2 => ap0 <|
CM.pu (p1 (lenT Tryz.prog 89) a1) fun x0 =>
CM.pu (p1 (convA Tryz.prog 3 26) x0) fun x1 =>
CM.call 65 [a0, x1] fun _ =>
CM.pu (p1 (lenT Tryz.prog 89) a1) fun x3 =>
CM.go 270336 [a2, a1, x3, (.int .i64 0)]
theorem f66_ok : LeD (real E Mk Nk) f66 (fun xs m => run E (.fn 66) xs m) := apS_le fun _ => apS_le fun _ => apS_le fun _ => ap0_le fun _ => run_eq 400 rfl (by kernel_rfl) (by kernel_rfl)
noncomputable def f67 : List AV → CM := apS fun a0 => apS fun a1 => apS fun a2 => ap0 <|
CM.al (boxA a0) fun x0 =>
CM.rm (q1 (loadA Tryz.prog 151) a1 ) fun x1 =>
CM.pu (p1 (fun a => fieldAddrA Tryz.prog 132 a 0) x0) fun x2 =>
CM.rm (q1 (loadA Tryz.prog 9) x2 ) fun x3 =>
CM.al (s2bA x3) fun x4 =>
CM.call 68 [x1, x4] fun _ =>
CM.rm (q1 (loadA Tryz.prog 151) a1 ) fun x6 =>
CM.pu (p1 (fun a => fieldAddrA Tryz.prog 132 a 1) x0) fun x7 =>
CM.rm (q1 (loadA Tryz.prog 3) x7 ) fun x8 =>
CM.pu (p1 (convA Tryz.prog 3 5) x8) fun x9 =>
CM.call 69 [x6, x9] fun _ =>
CM.rm (q1 (loadA Tryz.prog 155) a2 ) fun x11 =>
CM.pu (p1 (fun a => fieldAddrA Tryz.prog 132 a 2) x0) fun x12 =>
CM.rm (q1 (loadA Tryz.prog 36) x12 ) fun x13 =>
CM.callv x11 [x13] fun _ =>
CM.ret .undef
theorem f67_ok : LeD (real E Mk Nk) f67 (fun xs m => run E (.fn 67) xs m) := apS_le fun _ => apS_le fun _ => apS_le fun _ => ap0_le fun _ => run_eq 400 rfl (by kernel_rfl) (by kernel_rfl)
noncomputable def f68 : List AV → CM := apS fun a0 => apS fun a1 => ap0 <|
CM.pu (p1 (lenT Tryz.prog 33) a1) fun x0 =>
CM.pu (p1 (convA Tryz.prog 3 26) x0) fun x1 =>
CM.call 65 [a0, x1] fun _ =>
CM.pu (p1 nnA a0) fun x3 =>
CM.pu (p1 (fun a => fieldAddrA Tryz.prog 220 a 0) x3) fun x4 =>
CM.rm (q1 (loadA Tryz.prog 33) x4 ) fun x5 =>
CM.ef (apE 1 1 x5 a1) fun x6 =>
CM.pu (p1 nnA a0) fun x7 =>
CM.pu (p1 (fun a => fieldAddrA Tryz.prog 220 a 0) x7) fun x8 =>
CM.st (fun m => stV m x8 x6 1) <|
CM.ret .undef
theorem f68_ok : LeD (real E Mk Nk) f68 (fun xs m => run E (.fn 68) xs m) := apS_le fun _ => apS_le fun _ => ap0_le fun _ => run_eq 400 rfl (by kernel_rfl) (by kernel_rfl)
noncomputable def f69 : List AV → CM := apS fun a0 => apS fun a1 => ap0 <|
CM.pu (p1 nnA a0) fun x0 =>
CM.pu (p1 (fun a => fieldAddrA Tryz.prog 220 a 0) x0) fun x1 =>
CM.rm (q1 (loadA Tryz.prog 33) x1 ) fun x2 =>
CM.al (bsA 1 1 [(.int .u8 0)] [(0, a1)]) fun x3 =>
CM.ef (apE 1 1 x2 x3) fun x4 =>
CM.pu (p1 nnA a0) fun x5 =>
CM.pu (p1 (fun a => fieldAddrA Tryz.prog 220 a 0) x5) fun x6 =>
CM.st (fun m => stV m x6 x4 1) <|
CM.ret .undef
theorem f69_ok : LeD (real E Mk Nk) f69 (fun xs m => run E (.fn 69) xs m) := apS_le fun _ => apS_le fun _ => ap0_le fun _ => run_eq 400 rfl (by kernel_rfl) (by kernel_rfl)
noncomputable def g70_0 : List AV → CM := apS fun t2 => apS fun t13 => apS fun t14 => apS fun t15 => ap0 <|
CM.pu (p2 (binA Tryz.prog .lss 3) t15 t14) fun x0 =>
CM.cond x0 (
CM.go 286721 [t2, t13, t14, t15]) (
CM.ret .undef)
theorem g70_0_ok : LeD (real E Mk Nk) g70_0 (fun ts m => goR E Mk 286720 ts m) := apS_le fun _ => apS_le fun _ => apS_le fun _ => apS_le fun _ => ap0_le fun _ => goR_eq 400 (by kernel_rfl)
noncomputable def g70_1 : List AV → CM := apS fun t2 => apS fun t13 => apS fun t14 => apS fun t15 => ap0 <|
CM.pu (p2 (indexAddrA Tryz.prog 90) t13 t15) fun x0 =>
CM.rm (q1 (loadA Tryz.prog 136) x0 ) fun x1 =>
CM.al (some (.cells [(.str []), (.str []), (.int .i64 0), (.int .u64 0), (.int .i64 0), (.int .i64 0), (.int .u64 0), (.int .i64 0), (.int .u64 0)] false, pB)) fun x2 =>
CM.st (fun m => stV m x2 x1 9) <|
CM.rm (q1 (loadA Tryz.prog 136) x2 ) fun x4 =>
CM.callv t2 [x4] fun _ =>
CM.go 286722 [t2, t13, t14, t15]
theorem g70_1_ok : LeD (real E Mk Nk) g70_1 (fun ts m => goR E Mk 286721 ts m) := apS_le fun _ => apS_le fun _ => apS_le fun _ => apS_le fun _ => ap0_le fun _ => goR_eq 400 (by kernel_rfl)
noncomputable def g70_2 : List AV → CM := apS fun t2 => apS fun t13 => apS fun t14 => apS fun t15 => ap0 <|
CM.pu (p2 (binA Tryz.prog .add 3) t15 (.int .i64 1)) fun x0 =>
CM.go 286720 [t2, t13, t14, x0]
theorem g70_2_ok : LeD (real E Mk Nk) g70_2 (fun ts m => goR E Mk 286722 ts m) := apS_le fun _ => apS_le fun _ => apS_le fun _ => apS_le fun _ => ap0_le fun _ => goR_eq 400 (by kernel_rfl)
noncomputable def f70 : List AV → CM := apS fun a0 => apS fun a1 => apS fun a2 => ap0 <|
CM.pu (p1 (lenT Tryz.prog 90) a1) fun x0 =>
CM.pu (p1 (convA Tryz.prog 3 26) x0) fun x1 =>
CM.call 65 [a0, x1] fun _ =>
CM.pu (p1 (lenT Tryz.prog 90) a1) fun x3 =>
CM.go 286720 [a2, a1, x3, (.int .i64 0)]
theorem f70_ok : LeD (real E Mk Nk) f70 (fun xs m => run E (.fn 70) xs m) := apS_le fun _ => apS_le fun _ => apS_le fun _ => ap0_le fun _ => run_eq 400 rfl (by kernel_rfl) (by kernel_rfl)
noncomputable def f71 : List AV → CM := apS fun a0 => apS fun a1 => apS fun a2 => ap0 <|
CM.al (boxA a0) fun x0 =>
CM.rm (q1 (loadA Tryz.prog 151) a1 ) fun x1 =>
CM.pu (p1 (fun a => fieldAddrA Tryz.prog 136 a 0) x0) fun x2 =>
CM.rm (q1 (loadA Tryz.prog 9) x2 ) fun x3 =>
CM.al (s2bA x3) fun x4 =>
CM.call 68 [x1, x4] fun _ =>
CM.rm (q1 (loadA Tryz.prog 151) a1 ) fun x6 =>
CM.pu (p1 (fun a => fieldAddrA Tryz.prog 136 a 1) x0) fun x7 =>
CM.rm (q1 (loadA Tryz.prog 9) x7 ) fun x8 =>
CM.al (s2bA x8) fun x9 =>
CM.call 68 [x6, x9] fun _ =>
CM.rm (q1 (loadA Tryz.prog 151) a1 ) fun x11 =>
CM.pu (p1 (fun a => fieldAddrA Tryz.prog 136 a 2) x0) fun x12 =>
CM.pu (p1 (fun a => fieldAddrA Tryz.prog 38 a 1) x12) fun x13 =>
CM.rm (q1 (loadA Tryz.prog 3) x13 ) fun x14 =>
CM.pu (p1 (convA Tryz.prog 3 5) x14) fun x15 =>
CM.call 69 [x11, x15] fun _ =>
CM.rm (q1 (loadA Tryz.prog 155) a2 ) fun x17 =>
CM.pu (p1 (fun a => fieldAddrA Tryz.prog 136 a 2) x0) fun x18 =>
CM.pu (p1 (fun a => fieldAddrA Tryz.prog 38 a 0) x18) fun x19 =>
CM.rm (q1 (loadA Tryz.prog 36) x19 ) fun x20 =>
CM.callv x17 [x20] fun _ =>
CM.rm (q1 (loadA Tryz.prog 155) a2 ) fun x22 =>
CM.pu (p1 (fun a => fieldAddrA Tryz.prog 136 a 3) x0) fun x23 =>
CM.rm (q1 (loadA Tryz.prog 36) x23 ) fun x24 =>
CM.callv x22 [x24] fun _ =>
CM.rm (q1 (loadA Tryz.prog 155) a2 ) fun x26 =>
CM.pu (p1 (fun a => fieldAddrA Tryz.prog 136 a 4) x0) fun x27 =>
CM.rm (q1 (loadA Tryz.prog 36) x27 ) fun x28 =>
CM.callv x26 [x28] fun _ =>
CM.ret .undef
theorem f71_ok : LeD (real E Mk Nk) f71 (fun xs m => run E (.fn 71) xs m) := apS_le fun _ => apS_le fun _ => apS_le fun _ => ap0_le fun _ => run_eq 400 rfl (by kernel_rfl) (by kernel_rfl)
noncomputable def g72_0 : List AV → CM := apS fun t2 => apS fun t13 => apS fun t14 => apS fun t15 => ap0 <|
CM.pu (p2 (binA Tryz.prog .lss 3) t15 t14) fun x0 =>
CM.cond x0 (
CM.go 294913 [t2, t13, t14, t15]) (
CM.ret .undef)
theorem g72_0_ok : LeD (real E Mk Nk) g72_0 (fun ts m => goR E Mk 294912 ts m) := apS_le fun _ => apS_le fun _ => apS_le fun _ => apS_le fun _ => ap0_le fun _ => goR_eq 400 (by kernel_rfl)
noncomputable def g72_1 : List AV → CM := apS fun t2 => apS fun t13 => apS fun t14 => apS fun t15 => ap0 <|
CM.pu (p2 (indexAddrA Tryz.prog 91) t13 t15) fun x0 =>
CM.rm (q1 (loadA Tryz.prog 140) x0 ) fun x1 =>
CM.al (some (.cells [(.int .u64 0), (.str []), (.int .i64 0), (.int .u64 0)] false, pB)) fun x2 =>
CM.st (fun m => stV m x2 x1 4) <|
CM.rm (q1 (loadA Tryz.prog 140) x2 ) fun x4 =>
CM.callv t2 [x4] fun _ =>
CM.go 294914 [t2, t13, t14, t15]
theorem g72_1_ok : LeD (real E Mk Nk) g72_1 (fun ts m => goR E Mk 294913 ts m) := apS_le fun _ => apS_le fun _ => apS_le fun _ => apS_le fun _ => ap0_le fun _ => goR_eq 400 (by kernel_rfl)
noncomputable def g72_2 : List AV → CM := apS fun t2 => apS fun t13 => apS fun t14 => apS fun t15 => ap0 <|
CM.pu (p2 (binA Tryz.prog .add 3) t15 (.int .i64 1)) fun x0 =>
CM.go 294912 [t2, t13, t14, x0]
theorem g72_2_ok : LeD (real E Mk Nk) g72_2 (fun ts m => goR E Mk 294914 ts m) := apS_le fun _ => apS_le fun _ => apS_le fun _ => apS_le fun _ => ap0_le fun _ => goR_eq 400 (by kernel_rfl)
noncomputable def f72 : List AV → CM := apS fun a0 => apS fun a1 => apS fun a2 => ap0 <|
CM.pu (p1 (lenT Tryz.prog 91) a1) fun x0 =>
CM.pu (p1 (convA Tryz.prog 3 26) x0) fun x1 =>
CM.call 65 [a0, x1] fun _ =>
CM.pu (p1 (lenT Tryz.prog 91) a1) fun x3 =>
CM.go 294912 [a2, a1, x3, (.int .i64 0)]
theorem f72_ok : LeD (real E Mk Nk) f72 (fun xs m => run E (.fn 72) xs m) := apS_le fun _ => apS_le fun _ => apS_le fun _ => ap0_le fun _ => run_eq 400 rfl (by kernel_rfl) (by kernel_rfl)
noncomputable def f73 : List AV → CM := apS fun a0 => apS fun a1 => apS fun a2 => ap0 <|
CM.al (boxA a0) fun x0 =>
CM.rm (q1 (loadA Tryz.prog 151) a1 ) fun x1 =>
CM.pu (p1 (fun a => fieldAddrA Tryz.prog 140 a 0) x0) fun x2 =>
CM.rm (q1 (loadA Tryz.prog 26) x2 ) fun x3 =>
CM.call 65 [x1, x3] fun _ =>
CM.rm (q1 (loadA Tryz.prog 151) a1 ) fun x5 =>
CM.pu (p1 (fun a => fieldAddrA Tryz.prog 140 a 1) x0) fun x6 =>
CM.rm (q1 (loadA Tryz.prog 9) x6 ) fun x7 =>
CM.al (s2bA x7) fun x8 =>
CM.call 68 [x5, x8] fun _ =>
CM.rm (q1 (loadA Tryz.prog 155) a2 ) fun x10 =>
CM.pu (p1 (fun a => fieldAddrA Tryz.prog 140 a 2) x0) fun x11 =>
CM.rm (q1 (loadA Tryz.prog 36) x11 ) fun x12 =>
CM.callv x10 [x12] fun _ =>
CM.ret .undef
theorem f73_ok : LeD (real E Mk Nk) f73 (fun xs m => run E (.fn 73) xs m) := apS_le fun _ => apS_le fun _ => apS_le fun _ => ap0_le fun _ => run_eq 400 rfl (by kernel_rfl) (by kernel_rfl)
noncomputable def g74_0 : List AV → CM := apS fun t2 => apS fun t13 => apS fun t14 => apS fun t15 => ap0 <|
CM.pu (p2 (binA Tryz.prog .lss 3) t15 t14) fun x0 =>
CM.cond x0 (
CM.go 303105 [t2, t13, t14, t15]) (
CM.ret .undef)
theorem g74_0_ok : LeD (real E Mk Nk) g74_0 (fun ts m => goR E Mk 303104 ts m) := apS_le fun _ => apS_le fun _ => apS_le fun _ => apS_le fun _ => ap0_le fun _ => goR_eq 400 (by kernel_rfl)
noncomputable def g74_1 : List AV → CM := apS fun t2 => apS fun t13 => apS fun t14 => apS fun t15 => ap0 <|
CM.pu (p2 (indexAddrA Tryz.prog 95) t13 t15) fun x0 =>
CM.rm (q1 (loadA Tryz.prog 146) x0 ) fun x1 =>
CM.al (some (.cells [(.int .u64 0), (.int .u64 0), (.int .u64 0), (.sl none 0 0 0 true)] false, pB)) fun x2 =>
CM.st (fun m => stV m x2 x1 4) <|
CM.rm (q1 (loadA Tryz.prog 146) x2 ) fun x4 =>
CM.callv t2 [x4] fun _ =>
CM.go 303106 [t2, t13, t14, t15]
theorem g74_1_ok : LeD (real E Mk Nk) g74_1 (fun ts m => goR E Mk 303105 ts m) := apS_le fun _ => apS_le fun _ => apS_le fun _ => apS_le fun _ => ap0_le fun _ => goR_eq 400 (by kernel_rfl)
noncomputable def g74_2 : List AV → CM := apS fun t2 => apS fun t13 => apS fun t14 => apS fun t15 => ap0 <|
CM.pu (p2 (binA Tryz.prog .add 3) t15 (.int .i64 1)) fun x0 =>
CM.go 303104 [t2, t13, t14, x0]
theorem g74_2_ok : LeD (real E Mk Nk) g74_2 (fun ts m => goR E Mk 303106 ts m) := apS_le fun _ => apS_le fun _ => apS_le fun _ => apS_le fun _ => ap0_le fun _ => goR_eq 400 (by kernel_rfl)
noncomputable def f74 : List AV → CM := apS fun a0 => apS fun a1 => apS fun a2 => ap0 <|
CM.pu (p1 (lenT Tryz.prog 95) a1) fun x0 =>
CM.pu (p1 (convA Tryz.prog 3 26) x0) fun x1 =>
CM.call 65 [a0, x1] fun _ =>
CM.pu (p1 (lenT Tryz.prog 95) a1) fun x3 =>
CM.go 303104 [a2, a1, x3, (.int .i64 0)]
theorem f74_ok : LeD (real E Mk Nk) f74 (fun xs m => run E (.fn 74) xs m) := apS_le fun _ => apS_le fun _ => apS_le fun _ => ap0_le fun _ => run_eq 400 rfl (by kernel_rfl) (by kernel_rfl)
noncomputable def f75 : List AV → CM := apS fun a0 => apS fun a1 => ap0 <|
CM.al (boxA a0) fun x0 =>
CM.rm (q1 (loadA Tryz.prog 151) a1 ) fun x1 =>
CM.pu (p1 (fun a => fieldAddrA Tryz.prog 146 a 0) x0) fun x2 =>
CM.rm (q1 (loadA Tryz.prog 26) x2 ) fun x3 =>
CM.call 65 [x1, x3] fun _ =>
CM.rm (q1 (loadA Tryz.prog 151) a1 ) fun x5 =>
CM.pu (p1 (fun a => fieldAddrA Tryz.prog 146 a 1) x0) fun x6 =>
CM.rm (q1 (loadA Tryz.prog 26) x6 ) fun x7 =>
CM.call 65 [x5, x7] fun _ =>
CM.rm (q1 (loadA Tryz.prog 151) a1 ) fun x9 =>
CM.pu (p1 (fun a => fieldAddrA Tryz.prog 146 a 2) x0) fun x10 =>
CM.rm (q1 (loadA Tryz.prog 26) x10 ) fun x11 =>
CM.call 65 [x9, x11] fun _ =>
CM.rm (q1 (loadA Tryz.prog 151) a1 ) fun x13 =>
CM.pu (p1 (fun a => fieldAddrA Tryz.prog 146 a 3) x0) fun x14 =>
CM.rm (q1 (loadA Tryz.prog 144) x14 ) fun x15 =>
CM.call 76 [x13, x15, (.fn (.func 77) [] [a1])] fun _ =>
CM.ret .undef
theorem f75_ok : LeD (real E Mk Nk) f75 (fun xs m => run E (.fn 75) xs m) := apS_le fun _ => apS_le fun _ => ap0_le fun _ => run_eq 400 rfl (by kernel_rfl) (by kernel_rfl)
noncomputable def g76_0 : List AV → CM := apS fun t2 => apS fun t13 => apS fun t14 => apS fun t15 => ap0 <|
CM.pu (p2 (binA Tryz.prog .lss 3) t15 t14) fun x0 =>
CM.cond x0 (
CM.go 311297 [t2, t13, t14, t15]) (
CM.ret .undef)
theorem g76_0_ok : LeD (real E Mk Nk) g76_0 (fun ts m => goR E Mk 311296 ts m) := apS_le fun _ => apS_le fun _ => apS_le fun _ => apS_le fun _ => ap0_le fun _ => goR_eq 400 (by kernel_rfl)
noncomputable def g76_1 : List AV → CM := apS fun t2 => apS fun t13 => apS fun t14 => apS fun t15 => ap0 <|
CM.pu (p2 (indexAddrA Tryz.prog 144) t13 t15) fun x0 =>
CM.rm (q1 (loadA Tryz.prog 166) x0 ) fun x1 =>
CM.al (some (.cells [(.int .u64 0), (.int .i64 0), (.int .u64 0), (.int .i64 0), (.int .u64 0), (.int .i64 0)] false, pB)) fun x2 =>
CM.st (fun m => stV m x2 x1 6) <|
CM.rm (q1 (loadA Tryz.prog 166) x2 ) fun x4 =>
CM.callv t2 [x4] fun _ =>
CM.go 311298 [t2, t13, t14, t15]
theorem g76_1_ok : LeD (real E Mk Nk) g76_1 (fun ts m => goR E Mk 311297 ts m) := apS_le fun _ => apS_le fun _ => apS_le fun _ => apS_le fun _ => ap0_le fun _ => goR_eq 400 (by kernel_rfl)
noncomputable def g76_2 : List AV → CM := apS fun t2 => apS fun t13 => apS fun t14 => apS fun t15 => ap0 <|
CM.pu (p2 (binA Tryz.prog .add 3) t15 (.int .i64 1)) fun x0 =>
CM.go 311296 [t2, t13, t14, x0]
theorem g76_2_ok : LeD (real E Mk Nk) g76_2 (fun ts m => goR E Mk 311298 ts m) := apS_le fun _ => apS_le fun _ => apS_le fun _ => apS_le fun _ => ap0_le fun _ => goR_eq 400 (by kernel_rfl)
noncomputable def f76 : List AV → CM := apS fun a0 => apS fun a1 => apS fun a2 => ap0 <|
CM.pu (p1 (lenT Tryz.prog 144) a1) fun x0 =>
CM.pu (p1 (convA Tryz.prog 3 26) x0) fun x1 =>
CM.call 65 [a0, x1] fun _ =>
CM.pu (p1 (lenT Tryz.prog 144) a1) fun x3 =>
CM.go 311296 [a2, a1, x3, (.int .i64 0)]
theorem f76_ok : LeD (real E Mk Nk) f76 (fun xs m => run E (.fn 76) xs m) := apS_le fun _ => apS_le fun _ => apS_le fun _ => ap0_le fun _ => run_eq 400 rfl (by kernel_rfl) (by kernel_rfl)
noncomputable def f77 : List AV → CM := apS fun a0 => apS fun a1 => ap0 <|
CM.al (boxA a0) fun x0 =>
CM.rm (q1 (loadA Tryz.prog 151) a1 ) fun x1 =>
CM.pu (p1 (fun a => fieldAddrA Tryz.prog 166 a 0) x0) fun x2 =>
CM.rm (q1 (loadA Tryz.prog 26) x2 ) fun x3 =>
CM.call 65 [x1, x3] fun _ =>
CM.pu (p1 (fun a => fieldAddrA Tryz.prog 166 a 1) x0) fun x5 =>
CM.rm (q1 (loadA Tryz.prog 46) x5 ) fun x6 =>
CM.call 78 [x6] fun x7 =>
CM.pu (p1 (fun a => extractA a 0) x7) fun x8 =>
CM.pu (p1 (fun a => extractA a 1) x7) fun _ =>
CM.rm (q1 (loadA Tryz.prog 151) a1 ) fun x10 =>
CM.call 68 [x10, x8] fun _ =>
CM.ret .undef
theorem f77_ok : LeD (real E Mk Nk) f77 (fun xs m => run E (.fn 77) xs m) := apS_le fun _ => apS_le fun _ => ap0_le fun _ => run_eq 400 rfl (by kernel_rfl) (by kernel_rfl)
noncomputable def g78_0 : List AV → CM := apS fun t1 => ap0 <|
CM.call 62 [] fun x0 =>
CM.pu (p1 (fun a => fieldAddrA Tryz.prog 46 a 0) t1) fun x1 =>
CM.rm (q1 (loadA Tryz.prog 23) x1 ) fun x2 =>
CM.pu (p1 (convA Tryz.prog 23 5) x2) fun x3 =>
CM.call 69 [x0, x3] fun _ =>
CM.pu (p1 (fun a => fieldAddrA Tryz.prog 46 a 1) t1) fun x5 =>
CM.rm (q1 (loadA Tryz.prog 26) x5 ) fun x6 =>
CM.call 65 [x0, x6] fun _ =>
CM.pu (p1 (fun a => fieldAddrA Tryz.prog 46 a 2) t1) fun x8 =>
CM.rm (q1 (loadA Tryz.prog 38) x8 ) fun x9 =>
CM.call 119 [x0, x9] fun _ =>
CM.call 79 [x0] fun x11 =>
CM.ret (.tup [x11, (.int .i64 0)])
theorem g78_0_ok : LeD (real E Mk Nk) g78_0 (fun ts m => goR E Mk 319488 ts m) := apS_le fun _ => ap0_le fun _ => goR_eq 400 (by kernel_rfl)
noncomputable def f78 : List AV → CM := apS fun a0 => ap0 <|
CM.al (boxA a0) fun x0 =>
CM.pu (p1 (fun a => fieldAddrA Tryz.prog 46 a 0) x0) fun x1 =>
CM.rm (q1 (loadA Tryz.prog 23) x1 ) fun x2 =>
CM.pu (p2 (binA Tryz.prog .lss 23) x2 (.int .i64 0)) fun x3 =>
CM.ifv x3 (
CM.ret (.tup [(.sl none 0 0 0 true), (.int .i64 1)])) (
CM.pu (p1 (fun a => fieldAddrA Tryz.prog 46 a 0) x0) fun x4 =>
CM.rm (q1 (loadA Tryz.prog 23) x4 ) fun x5 =>
CM.pu (p2 (binA Tryz.prog .gtr 23) x5 (.int .i64 99)) fun x6 =>
CM.ifv x6 (
CM.ret (.tup [(.sl none 0 0 0 true), (.int .i64 1)])) (
CM.pu (p1 (fun a => fieldAddrA Tryz.prog 46 a 2) x0) fun x7 =>
CM.rm (q1 (loadA Tryz.prog 38) x7 ) fun x8 =>
CM.call 118 [x8] fun x9 =>
CM.pu (p1 (unA .not) x9) fun x10 =>
CM.cond x10 (
CM.ret (.tup [(.sl none 0 0 0 true), (.int .i64 1)])) (
CM.go 319488 [x0])))
theorem f78_ok : LeD (real E Mk Nk) f78 (fun xs m => run E (.fn 78) xs m) := apS_le fun _ => ap0_le fun _ => run_eq 400 rfl (by kernel_rfl) (by kernel_rfl)
noncomputable def f79 : List AV → CM := apS fun a0 => ap0 <|
CM.al (some (.cells [] false, sB 1 0)) fun x0 =>
CM.pu (p1 nnA a0) fun x1 =>
CM.pu (p1 (fun a => fieldAddrA Tryz.prog 220 a 0) x1) fun x2 =>
CM.rm (q1 (loadA Tryz.prog 33) x2 ) fun x3 =>
CM.ef (apE 1 1 x0 x3) fun x4 =>
CM.ret x4
theorem f79_ok : LeD (real E Mk Nk) f79 (fun xs m => run E (.fn 79) xs m) := apS_le fun _ => ap0_le fun _ => run_eq 400 rfl (by kernel_rfl) (by kernel_rfl)
noncomputable def g80_0 : List AV → CM := apS fun t0 => apS fun t2 => apS fun t3 => apS fun t5 => apS fun t7 => apS fun t9 => apS fun t19 => apS fun t21 => apS fun t34 => apS fun t47 => ap0 <|
CM.rng (.fn (rsOf E 80)) t19 (loopOf E 80 0 ([t0, .undef, t2, t3, .undef, t5, .undef, t7, .undef, t9, .undef, .undef, .undef, .undef, .undef, .undef, .undef, .undef, .undef, t19, .undef, t21, .undef, .undef, .undef, .undef, .undef, .undef, .undef, .undef, .undef, .undef, .undef, .undef, t34, .undef, .undef, .undef, .undef, .undef, .undef, .undef, .undef, .undef, .undef, .undef, .undef, t47] ++ List.replicate 7 .undef)) 327680 [t0, t2, t3, t5, t7, t9, t19, t21, t34, t47]
theorem g80_0_ok : LeD (real E Mk Nk) g80_0 (fun ts m => goR E Mk 327680 ts m) := apS_le fun _ => apS_le fun _ => apS_le fun _ => apS_le fun _ => apS_le fun _ => apS_le fun _ => apS_le fun _ => apS_le fun _ => apS_le fun _ => apS_le fun _ => ap0_le fun _ => goR_eq 400 (by kernel_rfl)
noncomputable def g80_2 : List AV → CM := apS fun t0 => apS fun t2 => apS fun t3 => apS fun t7 => apS fun t9 => apS fun t34 => apS fun t47 => ap0 <|
CM.pu (p1 nnA t0) fun x0 =>
CM.pu (p1 (fun a => fieldAddrA Tryz.prog 128 a 2) x0) fun x1 =>
CM.rm (q1 (loadA Tryz.prog 125) x1 ) fun x2 =>
CM.call 121 [x2] fun x3 =>
CM.go 327683 [t0, t2, t3, t7, t9, x3, t34, t47]
theorem g80_2_ok : LeD (real E Mk Nk) g80_2 (fun ts m => goR E Mk 327682 ts m) := apS_le fun _ => apS_le fun _ => apS_le fun _ => apS_le fun _ => apS_le fun _ => apS_le fun _ => apS_le fun _ => ap0_le fun _ => goR_eq 400 (by kernel_rfl)
noncomputable def g80_3 : List AV → CM := apS fun t0 => apS fun t2 => apS fun t3 => apS fun t7 => apS fun t9 => apS fun t32 => apS fun t34 => apS fun t47 => ap0 <|
CM.rng (.fn (rsOf E 80)) t32 (loopOf E 80 1 ([t0, .undef, t2, t3, .undef, .undef, .undef, t7, .undef, t9, .undef, .undef, .undef, .undef, .undef, .undef, .undef, .undef, .undef, .undef, .undef, .undef, .undef, .undef, .undef, .undef, .undef, .undef, .undef, .undef, .undef, .undef, t32, .undef, t34, .undef, .undef, .undef, .undef, .undef, .undef, .undef, .undef, .undef, .undef, .undef, .undef, t47] ++ List.replicate 7 .undef)) 327681 [t0, t2, t3, t7, t9, t32, t34, t47]
theorem g80_3_ok : LeD (real E Mk Nk) g80_3 (fun ts m => goR E Mk 327683 ts m) := apS_le fun _ => apS_le fun _ => apS_le fun _ => apS_le fun _ => apS_le fun _ => apS_le fun _ => apS_le fun _ => apS_le fun _ => ap0_le fun _ => goR_eq 400 (by kernel_rfl)
noncomputable def g80_5 : List AV → CM := apS fun t0 => apS fun t2 => apS fun t3 => apS fun t9 => apS fun t47 => ap0 <|
CM.pu (p1 nnA t0) fun x0 =>
CM.pu (p1 (fun a => fieldAddrA Tryz.prog 128 a 3) x0) fun x1 =>
CM.rm (q1 (loadA Tryz.prog 126) x1 ) fun x2 =>
CM.call 122 [x2] fun x3 =>
CM.go 327686 [t2, t3, t9, x3, t47]
theorem g80_5_ok : LeD (real E Mk Nk) g80_5 (fun ts m => goR E Mk 327685 ts m) := apS_le fun _ => apS_le fun _ => apS_le fun _ => apS_le fun _ => apS_le fun _ => ap0_le fun _ => goR_eq 400 (by kernel_rfl)
noncomputable def g80_6 : List AV → CM := apS fun t2 => apS fun t3 => apS fun t9 => apS fun t45 => apS fun t47 => ap0 <|
CM.rng (.fn (rsOf E 80)) t45 (loopOf E 80 2 ([.undef, .undef, t2, t3, .undef, .undef, .undef, .undef, .undef, t9, .undef, .undef, .undef, .undef, .undef, .undef, .undef, .undef, .undef, .undef, .undef, .undef, .undef, .undef, .undef, .undef, .undef, .undef, .undef, .undef, .undef, .undef, .undef, .undef, .undef, .undef, .undef, .undef, .undef, .undef, .undef, .undef, .undef, .undef, .undef, t45, .undef, t47] ++ List.replicate 7 .undef)) 327682 [t2, t3, t9, t45, t47]
theorem g80_6_ok : LeD (real E Mk Nk) g80_6 (fun ts m => goR E Mk 327686 ts m) := apS_le fun _ => apS_le fun _ => apS_le fun _ => apS_le fun _ => apS_le fun _ => ap0_le fun _ => goR_eq 400 (by kernel_rfl)
noncomputable def g80_8 : List AV → CM := apS fun t2 => apS fun t3 => ap0 <|
CM.rm (q1 (loadA Tryz.prog 93) t3 ) fun x0 =>
CM.st (fun m => stV m t2 x0 4) <|
CM.resC Tryz.prog [ResultVar.cell 0 93] [t2]
theorem g80_8_ok : LeD (real E Mk Nk) g80_8 (fun ts m => goR E Mk 327688 ts m) := apS_le fun _ => apS_le fun _ => ap0_le fun _ => goR_eq 400 (by kernel_rfl)
noncomputable def l80_0_none : List AV → CM := apS fun t0 => apS fun t2 => apS fun t3 => apS fun _ => apS fun t7 => apS fun t9 => apS fun _ => apS fun _ => apS fun t34 => apS fun t47 => ap0 <|
CM.go 327682 [t0, t2, t3, t7, t9, t34, t47]
theorem l80_0_none_ok : LeD (real E Mk Nk) l80_0_none (fun ts m => afR E Nk 327680 none ts m) := apS_le fun _ => apS_le fun _ => apS_le fun _ => apS_le fun _ => apS_le fun _ => apS_le fun _ => apS_le fun _ => apS_le fun _ => apS_le fun _ => apS_le fun _ => ap0_le fun _ => afR_eq 400 (by kernel_rfl)
noncomputable def l80_1_none : List AV → CM := apS fun t0 => apS fun t2 => apS fun t3 => apS fun _ => apS fun t9 => apS fun _ => apS fun _ => apS fun t47 => ap0 <|
CM.go 327685 [t0, t2, t3, t9, t47]
theorem l80_1_none_ok : LeD (real E Mk Nk) l80_1_none (fun ts m => afR E Nk 327681 none ts m) := apS_le fun _ => apS_le fun _ => apS_le fun _ => apS_le fun _ => apS_le fun _ => apS_le fun _ => apS_le fun _ => apS_le fun _ => ap0_le fun _ => afR_eq 400 (by kernel_rfl)
noncomputable def l80_2_none : List AV → CM := apS fun t2 => apS fun t3 => apS fun _ => apS fun _ => apS fun _ => ap0 <|
CM.go 327688 [t2, t3]
theorem l80_2_none_ok : LeD (real E Mk Nk) l80_2_none (fun ts m => afR E Nk 327682 none ts m) := apS_le fun _ => apS_le fun _ => apS_le fun _ => apS_le fun _ => apS_le fun _ => ap0_le fun _ => afR_eq 400 (by kernel_rfl)
noncomputable def f80 : List AV → CM := apS fun a0 => ap0 <|
CM.al (some (.cells [(.sl none 0 0 0 true), (.sl none 0 0 0 true), (.sl none 0 0 0 true), (.int .u64 0)] false, pB)) fun x0 =>
CM.pu (p1 nnA a0) fun x1 =>
CM.pu (p1 (fun a => fieldAddrA Tryz.prog 128 a 4) x1) fun x2 =>
CM.rm (q1 (loadA Tryz.prog 26) x2 ) fun x3 =>
CM.pu (p1 (buildA Tryz.prog 93) [(3, x3)]) fun x4 =>
CM.al (some (.cells [(.sl none 0 0 0 true), (.sl none 0 0 0 true), (.sl none 0 0 0 true), (.int .u64 0)] false, pB)) fun x5 =>
CM.st (fun m => stV m x5 x4 4) <|
CM.pu (p1 nnA a0) fun x7 =>
CM.pu (p1 (fun a => fieldAddrA Tryz.prog 128 a 1) x7) fun x8 =>
CM.rm (q1 (loadA Tryz.prog 124) x8 ) fun x9 =>
CM.call 120 [x9] fun x10 =>
CM.go 327680 [a0, x0, x5, .undef, .undef, .undef, x10, .undef, .undef, .undef]
theorem f80_ok : LeD (real E Mk Nk) f80 (fun xs m => run E (.fn 80) xs m) := apS_le fun _ => ap0_le fun _ => run_eq 400 rfl (by kernel_rfl) (by kernel_rfl)
noncomputable def g81_0 : List AV → CM := apS fun t3 => apS fun t5 => apS fun t10 => apS fun t12 => ap0 <|
CM.rng (.fn (rsOf E 81)) t10 (loopOf E 81 0 ([.undef, .undef, .undef, t3, .undef, t5, .undef, .undef, .undef, .undef, t10, .undef, t12] ++ List.replicate 6 .undef)) 331776 [t3, t5, t10, t12]
theorem g81_0_ok : LeD (real E Mk Nk) g81_0 (fun ts m => goR E Mk 331776 ts m) := apS_le fun _ => apS_le fun _ => apS_le fun _ => apS_le fun _ => ap0_le fun _ => goR_eq 400 (by kernel_rfl)
noncomputable def g81_2 : List AV → CM := apS fun t3 => ap0 <|
CM.rm (q1 (loadA Tryz.prog 95) t3 ) fun x0 =>
CM.ret x0
theorem g81_2_ok : LeD (real E Mk Nk) g81_2 (fun ts m => goR E Mk 331778 ts m) := apS_le fun _ => ap0_le fun _ => goR_eq 400 (by kernel_rfl)
noncomputable def l81_0_none : List AV → CM := apS fun t3 => apS fun _ => apS fun _ => apS fun _ => ap0 <|
CM.go 331778 [t3]
theorem l81_0_none_ok : LeD (real E Mk Nk) l81_0_none (fun ts m => afR E Nk 331776 none ts m) := apS_le fun _ => apS_le fun _ => apS_le fun _ => apS_le fun _ => ap0_le fun _ => afR_eq 400 (by kernel_rfl)
noncomputable def f81 : List AV → CM := apS fun a0 => ap0 <|
CM.al (some (.cells [(.sl none 0 0 0 true)] false, pB)) fun x0 =>
CM.pu (p1 nnA a0) fun x1 =>
CM.pu (p1 (fun a => fieldAddrA Tryz.prog 148 a 1) x1) fun x2 =>
CM.rm (q1 (loadA Tryz.prog 141) x2 ) fun x3 =>
CM.call 98 [x3] fun x4 =>
CM.go 331776 [x0, .undef, x4, .undef]
theorem f81_ok : LeD (real E Mk Nk) f81 (fun xs m => run E (.fn 81) xs m) := apS_le fun _ => ap0_le fun _ => run_eq 400 rfl (by kernel_rfl) (by kernel_rfl)
end Go.Proofs.YtfiipajgdhafaaaGreat.T
