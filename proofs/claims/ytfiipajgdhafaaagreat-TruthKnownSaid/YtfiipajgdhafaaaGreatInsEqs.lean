/- Equations of functions between marks, printed by our own program (wip/tools/gen2.lean). -/
import Derived.Test.YtfiipajgdhafaaaGreatEnv0
import Derived.Test.YtfiipajgdhafaaaGreatAbs21
namespace Go.Proofs.YtfiipajgdhafaaaGreat
open Go Go.Abs
set_option maxRecDepth 4000
noncomputable def g133_0 (t0 t1 t2 t7 : AV) (m : Mem) : R := goAt E0 133 0 ([t0, t1, t2, .undef, .undef, .undef, .undef, t7] ++ List.replicate 87 .undef) m
noncomputable def g133_1 (t0 t1 t2 t7 t8 : AV) (m : Mem) : R := goAt E0 133 1 ([t0, t1, t2, .undef, .undef, .undef, .undef, t7, t8] ++ List.replicate 86 .undef) m
noncomputable def g133_2 (t0 t1 t2 t7 t8 : AV) (m : Mem) : R := goAt E0 133 2 ([t0, t1, t2, .undef, .undef, .undef, .undef, t7, t8] ++ List.replicate 86 .undef) m
noncomputable def g133_3 (t0 t1 t2 t7 t8 : AV) (m : Mem) : R := goAt E0 133 3 ([t0, t1, t2, .undef, .undef, .undef, .undef, t7, t8] ++ List.replicate 86 .undef) m
theorem g133_0_eq (t0 t1 t2 t7 : AV) (m : Mem) : g133_0 t0 t1 t2 t7 m =
  Option.bind (lenT Tryz.prog 206 t0) fun x0 =>
  Option.bind (binA Tryz.prog .eql 3 t1 x0) fun x1 =>
  condA x1 (
   Option.bind (appendA 1 16 t0 t2 m) fun r2 =>
   some (r2.1, r2.2)) (
   g133_1 t0 t1 t2 t7 x0 m) :=
  goAt_eq 400 (by kernel_rfl)
theorem g133_1_eq (t0 t1 t2 t7 t8 : AV) (m : Mem) : g133_1 t0 t1 t2 t7 t8 m =
  Option.bind (binA Tryz.prog .add 3 t8 t7) fun x0 =>
  Option.bind (capT Tryz.prog 206 t0) fun x1 =>
  Option.bind (binA Tryz.prog .gtr 3 x0 x1) fun x2 =>
  condA x2 (
   Option.bind (sliceA Tryz.prog 206 t0 none (some t1)) fun x3 =>
   Option.bind (binA Tryz.prog .add 3 t8 t7) fun x4 =>
   Option.bind (binA Tryz.prog .sub 3 x4 t1) fun x5 =>
   Option.bind (appendZ Tryz.prog 206 x3 x5 m) fun r6 =>
   Option.bind (sliceA Tryz.prog 206 r6.1 (some t1) none) fun x7 =>
   Option.bind (copyA 1 x7 t2 r6.2) fun r8 =>
   Option.bind (binA Tryz.prog .add 3 t1 t7) fun x9 =>
   Option.bind (sliceA Tryz.prog 206 r6.1 (some x9) none) fun x10 =>
   Option.bind (sliceA Tryz.prog 206 t0 (some t1) none) fun x11 =>
   Option.bind (copyA 1 x10 x11 r8.2) fun r12 =>
   some (r6.1, r12.2)) (
   g133_2 t0 t1 t2 t7 t8 m) :=
  goAt_eq 400 (by kernel_rfl)
theorem g133_2_eq (t0 t1 t2 t7 t8 : AV) (m : Mem) : g133_2 t0 t1 t2 t7 t8 m =
  Option.bind (binA Tryz.prog .add 3 t8 t7) fun x0 =>
  Option.bind (sliceA Tryz.prog 206 t0 none (some x0)) fun x1 =>
  Option.bind (binA Tryz.prog .add 3 t1 t7) fun x2 =>
  Option.bind (sliceA Tryz.prog 206 x1 (some x2) none) fun x3 =>
  Option.bind (run E0 (.fn 182) [t2, x3] m) fun r4 =>
  Option.bind (unA .not r4.1) fun x5 =>
  condA x5 (
   Option.bind (binA Tryz.prog .add 3 t1 t7) fun x6 =>
   Option.bind (sliceA Tryz.prog 206 x1 (some x6) none) fun x7 =>
   Option.bind (sliceA Tryz.prog 206 x1 (some t1) none) fun x8 =>
   Option.bind (copyA 1 x7 x8 r4.2) fun r9 =>
   Option.bind (sliceA Tryz.prog 206 x1 (some t1) none) fun x10 =>
   Option.bind (copyA 1 x10 t2 r9.2) fun r11 =>
   some (x1, r11.2)) (
   g133_3 x1 t1 t2 t7 t8 r4.2) :=
  goAt_eq 400 (by kernel_rfl)
theorem g133_3_eq (t0 t1 t2 t7 t8 : AV) (m : Mem) : g133_3 t0 t1 t2 t7 t8 m =
  Option.bind (sliceA Tryz.prog 206 t0 (some t8) none) fun x0 =>
  Option.bind (copyA 1 x0 t2 m) fun r1 =>
  Option.bind (sliceA Tryz.prog 206 t0 (some t1) none) fun x2 =>
  Option.bind (run E0 (.fn 183) [x2, t7] r1.2) fun r3 =>
  some (t0, r3.2) :=
  goAt_eq 400 (by kernel_rfl)
theorem f133_eq (a0 a1 a2 : AV) (m : Mem) : run E0 (.fn 133) [a0, a1, a2] m =
  Option.bind (sliceA Tryz.prog 206 a0 (some a1) none) fun _ =>
  Option.bind (lenT Tryz.prog 206 a2) fun x1 =>
  Option.bind (binA Tryz.prog .eql 3 x1 (.int .i64 0)) fun x2 =>
  condA x2 (
   some (a0, m)) (
   g133_0 a0 a1 a2 x1 m) :=
  run_eq 400 rfl (by kernel_rfl) (by kernel_rfl)
noncomputable def g134_0 (t0 t1 t2 t7 : AV) (m : Mem) : R := goAt E0 134 0 ([t0, t1, t2, .undef, .undef, .undef, .undef, t7] ++ List.replicate 87 .undef) m
noncomputable def g134_1 (t0 t1 t2 t7 t8 : AV) (m : Mem) : R := goAt E0 134 1 ([t0, t1, t2, .undef, .undef, .undef, .undef, t7, t8] ++ List.replicate 86 .undef) m
noncomputable def g134_2 (t0 t1 t2 t7 t8 : AV) (m : Mem) : R := goAt E0 134 2 ([t0, t1, t2, .undef, .undef, .undef, .undef, t7, t8] ++ List.replicate 86 .undef) m
noncomputable def g134_3 (t0 t1 t2 t7 t8 : AV) (m : Mem) : R := goAt E0 134 3 ([t0, t1, t2, .undef, .undef, .undef, .undef, t7, t8] ++ List.replicate 86 .undef) m
theorem g134_0_eq (t0 t1 t2 t7 : AV) (m : Mem) : g134_0 t0 t1 t2 t7 m =
  Option.bind (lenT Tryz.prog 89 t0) fun x0 =>
  Option.bind (binA Tryz.prog .eql 3 t1 x0) fun x1 =>
  condA x1 (
   Option.bind (appendA 4 40 t0 t2 m) fun r2 =>
   some (r2.1, r2.2)) (
   g134_1 t0 t1 t2 t7 x0 m) :=
  goAt_eq 400 (by kernel_rfl)
theorem g134_1_eq (t0 t1 t2 t7 t8 : AV) (m : Mem) : g134_1 t0 t1 t2 t7 t8 m =
  Option.bind (binA Tryz.prog .add 3 t8 t7) fun x0 =>
  Option.bind (capT Tryz.prog 89 t0) fun x1 =>
  Option.bind (binA Tryz.prog .gtr 3 x0 x1) fun x2 =>
  condA x2 (
   Option.bind (sliceA Tryz.prog 89 t0 none (some t1)) fun x3 =>
   Option.bind (binA Tryz.prog .add 3 t8 t7) fun x4 =>
   Option.bind (binA Tryz.prog .sub 3 x4 t1) fun x5 =>
   Option.bind (appendZ Tryz.prog 89 x3 x5 m) fun r6 =>
   Option.bind (sliceA Tryz.prog 89 r6.1 (some t1) none) fun x7 =>
   Option.bind (copyA 4 x7 t2 r6.2) fun r8 =>
   Option.bind (binA Tryz.prog .add 3 t1 t7) fun x9 =>
   Option.bind (sliceA Tryz.prog 89 r6.1 (some x9) none) fun x10 =>
   Option.bind (sliceA Tryz.prog 89 t0 (some t1) none) fun x11 =>
   Option.bind (copyA 4 x10 x11 r8.2) fun r12 =>
   some (r6.1, r12.2)) (
   g134_2 t0 t1 t2 t7 t8 m) :=
  goAt_eq 400 (by kernel_rfl)
theorem g134_2_eq (t0 t1 t2 t7 t8 : AV) (m : Mem) : g134_2 t0 t1 t2 t7 t8 m =
  Option.bind (binA Tryz.prog .add 3 t8 t7) fun x0 =>
  Option.bind (sliceA Tryz.prog 89 t0 none (some x0)) fun x1 =>
  Option.bind (binA Tryz.prog .add 3 t1 t7) fun x2 =>
  Option.bind (sliceA Tryz.prog 89 x1 (some x2) none) fun x3 =>
  Option.bind (run E0 (.fn 184) [t2, x3] m) fun r4 =>
  Option.bind (unA .not r4.1) fun x5 =>
  condA x5 (
   Option.bind (binA Tryz.prog .add 3 t1 t7) fun x6 =>
   Option.bind (sliceA Tryz.prog 89 x1 (some x6) none) fun x7 =>
   Option.bind (sliceA Tryz.prog 89 x1 (some t1) none) fun x8 =>
   Option.bind (copyA 4 x7 x8 r4.2) fun r9 =>
   Option.bind (sliceA Tryz.prog 89 x1 (some t1) none) fun x10 =>
   Option.bind (copyA 4 x10 t2 r9.2) fun r11 =>
   some (x1, r11.2)) (
   g134_3 x1 t1 t2 t7 t8 r4.2) :=
  goAt_eq 400 (by kernel_rfl)
theorem g134_3_eq (t0 t1 t2 t7 t8 : AV) (m : Mem) : g134_3 t0 t1 t2 t7 t8 m =
  Option.bind (sliceA Tryz.prog 89 t0 (some t8) none) fun x0 =>
  Option.bind (copyA 4 x0 t2 m) fun r1 =>
  Option.bind (sliceA Tryz.prog 89 t0 (some t1) none) fun x2 =>
  Option.bind (run E0 (.fn 185) [x2, t7] r1.2) fun r3 =>
  some (t0, r3.2) :=
  goAt_eq 400 (by kernel_rfl)
theorem f134_eq (a0 a1 a2 : AV) (m : Mem) : run E0 (.fn 134) [a0, a1, a2] m =
  Option.bind (sliceA Tryz.prog 89 a0 (some a1) none) fun _ =>
  Option.bind (lenT Tryz.prog 89 a2) fun x1 =>
  Option.bind (binA Tryz.prog .eql 3 x1 (.int .i64 0)) fun x2 =>
  condA x2 (
   some (a0, m)) (
   g134_0 a0 a1 a2 x1 m) :=
  run_eq 400 rfl (by kernel_rfl) (by kernel_rfl)
noncomputable def g135_0 (t0 t1 t2 t7 : AV) (m : Mem) : R := goAt E0 135 0 ([t0, t1, t2, .undef, .undef, .undef, .undef, t7] ++ List.replicate 87 .undef) m
noncomputable def g135_1 (t0 t1 t2 t7 t8 : AV) (m : Mem) : R := goAt E0 135 1 ([t0, t1, t2, .undef, .undef, .undef, .undef, t7, t8] ++ List.replicate 86 .undef) m
noncomputable def g135_2 (t0 t1 t2 t7 t8 : AV) (m : Mem) : R := goAt E0 135 2 ([t0, t1, t2, .undef, .undef, .undef, .undef, t7, t8] ++ List.replicate 86 .undef) m
noncomputable def g135_3 (t0 t1 t2 t7 t8 : AV) (m : Mem) : R := goAt E0 135 3 ([t0, t1, t2, .undef, .undef, .undef, .undef, t7, t8] ++ List.replicate 86 .undef) m
theorem g135_0_eq (t0 t1 t2 t7 : AV) (m : Mem) : g135_0 t0 t1 t2 t7 m =
  Option.bind (lenT Tryz.prog 90 t0) fun x0 =>
  Option.bind (binA Tryz.prog .eql 3 t1 x0) fun x1 =>
  condA x1 (
   Option.bind (appendA 9 88 t0 t2 m) fun r2 =>
   some (r2.1, r2.2)) (
   g135_1 t0 t1 t2 t7 x0 m) :=
  goAt_eq 400 (by kernel_rfl)
theorem g135_1_eq (t0 t1 t2 t7 t8 : AV) (m : Mem) : g135_1 t0 t1 t2 t7 t8 m =
  Option.bind (binA Tryz.prog .add 3 t8 t7) fun x0 =>
  Option.bind (capT Tryz.prog 90 t0) fun x1 =>
  Option.bind (binA Tryz.prog .gtr 3 x0 x1) fun x2 =>
  condA x2 (
   Option.bind (sliceA Tryz.prog 90 t0 none (some t1)) fun x3 =>
   Option.bind (binA Tryz.prog .add 3 t8 t7) fun x4 =>
   Option.bind (binA Tryz.prog .sub 3 x4 t1) fun x5 =>
   Option.bind (appendZ Tryz.prog 90 x3 x5 m) fun r6 =>
   Option.bind (sliceA Tryz.prog 90 r6.1 (some t1) none) fun x7 =>
   Option.bind (copyA 9 x7 t2 r6.2) fun r8 =>
   Option.bind (binA Tryz.prog .add 3 t1 t7) fun x9 =>
   Option.bind (sliceA Tryz.prog 90 r6.1 (some x9) none) fun x10 =>
   Option.bind (sliceA Tryz.prog 90 t0 (some t1) none) fun x11 =>
   Option.bind (copyA 9 x10 x11 r8.2) fun r12 =>
   some (r6.1, r12.2)) (
   g135_2 t0 t1 t2 t7 t8 m) :=
  goAt_eq 400 (by kernel_rfl)
theorem g135_2_eq (t0 t1 t2 t7 t8 : AV) (m : Mem) : g135_2 t0 t1 t2 t7 t8 m =
  Option.bind (binA Tryz.prog .add 3 t8 t7) fun x0 =>
  Option.bind (sliceA Tryz.prog 90 t0 none (some x0)) fun x1 =>
  Option.bind (binA Tryz.prog .add 3 t1 t7) fun x2 =>
  Option.bind (sliceA Tryz.prog 90 x1 (some x2) none) fun x3 =>
  Option.bind (run E0 (.fn 186) [t2, x3] m) fun r4 =>
  Option.bind (unA .not r4.1) fun x5 =>
  condA x5 (
   Option.bind (binA Tryz.prog .add 3 t1 t7) fun x6 =>
   Option.bind (sliceA Tryz.prog 90 x1 (some x6) none) fun x7 =>
   Option.bind (sliceA Tryz.prog 90 x1 (some t1) none) fun x8 =>
   Option.bind (copyA 9 x7 x8 r4.2) fun r9 =>
   Option.bind (sliceA Tryz.prog 90 x1 (some t1) none) fun x10 =>
   Option.bind (copyA 9 x10 t2 r9.2) fun r11 =>
   some (x1, r11.2)) (
   g135_3 x1 t1 t2 t7 t8 r4.2) :=
  goAt_eq 400 (by kernel_rfl)
theorem g135_3_eq (t0 t1 t2 t7 t8 : AV) (m : Mem) : g135_3 t0 t1 t2 t7 t8 m =
  Option.bind (sliceA Tryz.prog 90 t0 (some t8) none) fun x0 =>
  Option.bind (copyA 9 x0 t2 m) fun r1 =>
  Option.bind (sliceA Tryz.prog 90 t0 (some t1) none) fun x2 =>
  Option.bind (run E0 (.fn 187) [x2, t7] r1.2) fun r3 =>
  some (t0, r3.2) :=
  goAt_eq 400 (by kernel_rfl)
theorem f135_eq (a0 a1 a2 : AV) (m : Mem) : run E0 (.fn 135) [a0, a1, a2] m =
  Option.bind (sliceA Tryz.prog 90 a0 (some a1) none) fun _ =>
  Option.bind (lenT Tryz.prog 90 a2) fun x1 =>
  Option.bind (binA Tryz.prog .eql 3 x1 (.int .i64 0)) fun x2 =>
  condA x2 (
   some (a0, m)) (
   g135_0 a0 a1 a2 x1 m) :=
  run_eq 400 rfl (by kernel_rfl) (by kernel_rfl)
noncomputable def g137_0 (t0 t1 t2 t7 : AV) (m : Mem) : R := goAt E0 137 0 ([t0, t1, t2, .undef, .undef, .undef, .undef, t7] ++ List.replicate 87 .undef) m
noncomputable def g137_1 (t0 t1 t2 t7 t8 : AV) (m : Mem) : R := goAt E0 137 1 ([t0, t1, t2, .undef, .undef, .undef, .undef, t7, t8] ++ List.replicate 86 .undef) m
noncomputable def g137_2 (t0 t1 t2 t7 t8 : AV) (m : Mem) : R := goAt E0 137 2 ([t0, t1, t2, .undef, .undef, .undef, .undef, t7, t8] ++ List.replicate 86 .undef) m
noncomputable def g137_3 (t0 t1 t2 t7 t8 : AV) (m : Mem) : R := goAt E0 137 3 ([t0, t1, t2, .undef, .undef, .undef, .undef, t7, t8] ++ List.replicate 86 .undef) m
theorem g137_0_eq (t0 t1 t2 t7 : AV) (m : Mem) : g137_0 t0 t1 t2 t7 m =
  Option.bind (lenT Tryz.prog 116 t0) fun x0 =>
  Option.bind (binA Tryz.prog .eql 3 t1 x0) fun x1 =>
  condA x1 (
   Option.bind (appendA 1 8 t0 t2 m) fun r2 =>
   some (r2.1, r2.2)) (
   g137_1 t0 t1 t2 t7 x0 m) :=
  goAt_eq 400 (by kernel_rfl)
theorem g137_1_eq (t0 t1 t2 t7 t8 : AV) (m : Mem) : g137_1 t0 t1 t2 t7 t8 m =
  Option.bind (binA Tryz.prog .add 3 t8 t7) fun x0 =>
  Option.bind (capT Tryz.prog 116 t0) fun x1 =>
  Option.bind (binA Tryz.prog .gtr 3 x0 x1) fun x2 =>
  condA x2 (
   Option.bind (sliceA Tryz.prog 116 t0 none (some t1)) fun x3 =>
   Option.bind (binA Tryz.prog .add 3 t8 t7) fun x4 =>
   Option.bind (binA Tryz.prog .sub 3 x4 t1) fun x5 =>
   Option.bind (appendZ Tryz.prog 116 x3 x5 m) fun r6 =>
   Option.bind (sliceA Tryz.prog 116 r6.1 (some t1) none) fun x7 =>
   Option.bind (copyA 1 x7 t2 r6.2) fun r8 =>
   Option.bind (binA Tryz.prog .add 3 t1 t7) fun x9 =>
   Option.bind (sliceA Tryz.prog 116 r6.1 (some x9) none) fun x10 =>
   Option.bind (sliceA Tryz.prog 116 t0 (some t1) none) fun x11 =>
   Option.bind (copyA 1 x10 x11 r8.2) fun r12 =>
   some (r6.1, r12.2)) (
   g137_2 t0 t1 t2 t7 t8 m) :=
  goAt_eq 400 (by kernel_rfl)
theorem g137_2_eq (t0 t1 t2 t7 t8 : AV) (m : Mem) : g137_2 t0 t1 t2 t7 t8 m =
  Option.bind (binA Tryz.prog .add 3 t8 t7) fun x0 =>
  Option.bind (sliceA Tryz.prog 116 t0 none (some x0)) fun x1 =>
  Option.bind (binA Tryz.prog .add 3 t1 t7) fun x2 =>
  Option.bind (sliceA Tryz.prog 116 x1 (some x2) none) fun x3 =>
  Option.bind (run E0 (.fn 190) [t2, x3] m) fun r4 =>
  Option.bind (unA .not r4.1) fun x5 =>
  condA x5 (
   Option.bind (binA Tryz.prog .add 3 t1 t7) fun x6 =>
   Option.bind (sliceA Tryz.prog 116 x1 (some x6) none) fun x7 =>
   Option.bind (sliceA Tryz.prog 116 x1 (some t1) none) fun x8 =>
   Option.bind (copyA 1 x7 x8 r4.2) fun r9 =>
   Option.bind (sliceA Tryz.prog 116 x1 (some t1) none) fun x10 =>
   Option.bind (copyA 1 x10 t2 r9.2) fun r11 =>
   some (x1, r11.2)) (
   g137_3 x1 t1 t2 t7 t8 r4.2) :=
  goAt_eq 400 (by kernel_rfl)
theorem g137_3_eq (t0 t1 t2 t7 t8 : AV) (m : Mem) : g137_3 t0 t1 t2 t7 t8 m =
  Option.bind (sliceA Tryz.prog 116 t0 (some t8) none) fun x0 =>
  Option.bind (copyA 1 x0 t2 m) fun r1 =>
  Option.bind (sliceA Tryz.prog 116 t0 (some t1) none) fun x2 =>
  Option.bind (run E0 (.fn 191) [x2, t7] r1.2) fun r3 =>
  some (t0, r3.2) :=
  goAt_eq 400 (by kernel_rfl)
theorem f137_eq (a0 a1 a2 : AV) (m : Mem) : run E0 (.fn 137) [a0, a1, a2] m =
  Option.bind (sliceA Tryz.prog 116 a0 (some a1) none) fun _ =>
  Option.bind (lenT Tryz.prog 116 a2) fun x1 =>
  Option.bind (binA Tryz.prog .eql 3 x1 (.int .i64 0)) fun x2 =>
  condA x2 (
   some (a0, m)) (
   g137_0 a0 a1 a2 x1 m) :=
  run_eq 400 rfl (by kernel_rfl) (by kernel_rfl)
noncomputable def g138_0 (t0 t1 t2 t7 : AV) (m : Mem) : R := goAt E0 138 0 ([t0, t1, t2, .undef, .undef, .undef, .undef, t7] ++ List.replicate 87 .undef) m
noncomputable def g138_1 (t0 t1 t2 t7 t8 : AV) (m : Mem) : R := goAt E0 138 1 ([t0, t1, t2, .undef, .undef, .undef, .undef, t7, t8] ++ List.replicate 86 .undef) m
noncomputable def g138_2 (t0 t1 t2 t7 t8 : AV) (m : Mem) : R := goAt E0 138 2 ([t0, t1, t2, .undef, .undef, .undef, .undef, t7, t8] ++ List.replicate 86 .undef) m
noncomputable def g138_3 (t0 t1 t2 t7 t8 : AV) (m : Mem) : R := goAt E0 138 3 ([t0, t1, t2, .undef, .undef, .undef, .undef, t7, t8] ++ List.replicate 86 .undef) m
theorem g138_0_eq (t0 t1 t2 t7 : AV) (m : Mem) : g138_0 t0 t1 t2 t7 m =
  Option.bind (lenT Tryz.prog 91 t0) fun x0 =>
  Option.bind (binA Tryz.prog .eql 3 t1 x0) fun x1 =>
  condA x1 (
   Option.bind (appendA 4 40 t0 t2 m) fun r2 =>
   some (r2.1, r2.2)) (
   g138_1 t0 t1 t2 t7 x0 m) :=
  goAt_eq 400 (by kernel_rfl)
theorem g138_1_eq (t0 t1 t2 t7 t8 : AV) (m : Mem) : g138_1 t0 t1 t2 t7 t8 m =
  Option.bind (binA Tryz.prog .add 3 t8 t7) fun x0 =>
  Option.bind (capT Tryz.prog 91 t0) fun x1 =>
  Option.bind (binA Tryz.prog .gtr 3 x0 x1) fun x2 =>
  condA x2 (
   Option.bind (sliceA Tryz.prog 91 t0 none (some t1)) fun x3 =>
   Option.bind (binA Tryz.prog .add 3 t8 t7) fun x4 =>
   Option.bind (binA Tryz.prog .sub 3 x4 t1) fun x5 =>
   Option.bind (appendZ Tryz.prog 91 x3 x5 m) fun r6 =>
   Option.bind (sliceA Tryz.prog 91 r6.1 (some t1) none) fun x7 =>
   Option.bind (copyA 4 x7 t2 r6.2) fun r8 =>
   Option.bind (binA Tryz.prog .add 3 t1 t7) fun x9 =>
   Option.bind (sliceA Tryz.prog 91 r6.1 (some x9) none) fun x10 =>
   Option.bind (sliceA Tryz.prog 91 t0 (some t1) none) fun x11 =>
   Option.bind (copyA 4 x10 x11 r8.2) fun r12 =>
   some (r6.1, r12.2)) (
   g138_2 t0 t1 t2 t7 t8 m) :=
  goAt_eq 400 (by kernel_rfl)
theorem g138_2_eq (t0 t1 t2 t7 t8 : AV) (m : Mem) : g138_2 t0 t1 t2 t7 t8 m =
  Option.bind (binA Tryz.prog .add 3 t8 t7) fun x0 =>
  Option.bind (sliceA Tryz.prog 91 t0 none (some x0)) fun x1 =>
  Option.bind (binA Tryz.prog .add 3 t1 t7) fun x2 =>
  Option.bind (sliceA Tryz.prog 91 x1 (some x2) none) fun x3 =>
  Option.bind (run E0 (.fn 192) [t2, x3] m) fun r4 =>
  Option.bind (unA .not r4.1) fun x5 =>
  condA x5 (
   Option.bind (binA Tryz.prog .add 3 t1 t7) fun x6 =>
   Option.bind (sliceA Tryz.prog 91 x1 (some x6) none) fun x7 =>
   Option.bind (sliceA Tryz.prog 91 x1 (some t1) none) fun x8 =>
   Option.bind (copyA 4 x7 x8 r4.2) fun r9 =>
   Option.bind (sliceA Tryz.prog 91 x1 (some t1) none) fun x10 =>
   Option.bind (copyA 4 x10 t2 r9.2) fun r11 =>
   some (x1, r11.2)) (
   g138_3 x1 t1 t2 t7 t8 r4.2) :=
  goAt_eq 400 (by kernel_rfl)
theorem g138_3_eq (t0 t1 t2 t7 t8 : AV) (m : Mem) : g138_3 t0 t1 t2 t7 t8 m =
  Option.bind (sliceA Tryz.prog 91 t0 (some t8) none) fun x0 =>
  Option.bind (copyA 4 x0 t2 m) fun r1 =>
  Option.bind (sliceA Tryz.prog 91 t0 (some t1) none) fun x2 =>
  Option.bind (run E0 (.fn 193) [x2, t7] r1.2) fun r3 =>
  some (t0, r3.2) :=
  goAt_eq 400 (by kernel_rfl)
theorem f138_eq (a0 a1 a2 : AV) (m : Mem) : run E0 (.fn 138) [a0, a1, a2] m =
  Option.bind (sliceA Tryz.prog 91 a0 (some a1) none) fun _ =>
  Option.bind (lenT Tryz.prog 91 a2) fun x1 =>
  Option.bind (binA Tryz.prog .eql 3 x1 (.int .i64 0)) fun x2 =>
  condA x2 (
   some (a0, m)) (
   g138_0 a0 a1 a2 x1 m) :=
  run_eq 400 rfl (by kernel_rfl) (by kernel_rfl)
noncomputable def g139_0 (t0 t1 t2 t7 : AV) (m : Mem) : R := goAt E0 139 0 ([t0, t1, t2, .undef, .undef, .undef, .undef, t7] ++ List.replicate 87 .undef) m
noncomputable def g139_1 (t0 t1 t2 t7 t8 : AV) (m : Mem) : R := goAt E0 139 1 ([t0, t1, t2, .undef, .undef, .undef, .undef, t7, t8] ++ List.replicate 86 .undef) m
noncomputable def g139_2 (t0 t1 t2 t7 t8 : AV) (m : Mem) : R := goAt E0 139 2 ([t0, t1, t2, .undef, .undef, .undef, .undef, t7, t8] ++ List.replicate 86 .undef) m
noncomputable def g139_3 (t0 t1 t2 t7 t8 : AV) (m : Mem) : R := goAt E0 139 3 ([t0, t1, t2, .undef, .undef, .undef, .undef, t7, t8] ++ List.replicate 86 .undef) m
theorem g139_0_eq (t0 t1 t2 t7 : AV) (m : Mem) : g139_0 t0 t1 t2 t7 m =
  Option.bind (lenT Tryz.prog 95 t0) fun x0 =>
  Option.bind (binA Tryz.prog .eql 3 t1 x0) fun x1 =>
  condA x1 (
   Option.bind (appendA 4 48 t0 t2 m) fun r2 =>
   some (r2.1, r2.2)) (
   g139_1 t0 t1 t2 t7 x0 m) :=
  goAt_eq 400 (by kernel_rfl)
theorem g139_1_eq (t0 t1 t2 t7 t8 : AV) (m : Mem) : g139_1 t0 t1 t2 t7 t8 m =
  Option.bind (binA Tryz.prog .add 3 t8 t7) fun x0 =>
  Option.bind (capT Tryz.prog 95 t0) fun x1 =>
  Option.bind (binA Tryz.prog .gtr 3 x0 x1) fun x2 =>
  condA x2 (
   Option.bind (sliceA Tryz.prog 95 t0 none (some t1)) fun x3 =>
   Option.bind (binA Tryz.prog .add 3 t8 t7) fun x4 =>
   Option.bind (binA Tryz.prog .sub 3 x4 t1) fun x5 =>
   Option.bind (appendZ Tryz.prog 95 x3 x5 m) fun r6 =>
   Option.bind (sliceA Tryz.prog 95 r6.1 (some t1) none) fun x7 =>
   Option.bind (copyA 4 x7 t2 r6.2) fun r8 =>
   Option.bind (binA Tryz.prog .add 3 t1 t7) fun x9 =>
   Option.bind (sliceA Tryz.prog 95 r6.1 (some x9) none) fun x10 =>
   Option.bind (sliceA Tryz.prog 95 t0 (some t1) none) fun x11 =>
   Option.bind (copyA 4 x10 x11 r8.2) fun r12 =>
   some (r6.1, r12.2)) (
   g139_2 t0 t1 t2 t7 t8 m) :=
  goAt_eq 400 (by kernel_rfl)
theorem g139_2_eq (t0 t1 t2 t7 t8 : AV) (m : Mem) : g139_2 t0 t1 t2 t7 t8 m =
  Option.bind (binA Tryz.prog .add 3 t8 t7) fun x0 =>
  Option.bind (sliceA Tryz.prog 95 t0 none (some x0)) fun x1 =>
  Option.bind (binA Tryz.prog .add 3 t1 t7) fun x2 =>
  Option.bind (sliceA Tryz.prog 95 x1 (some x2) none) fun x3 =>
  Option.bind (run E0 (.fn 194) [t2, x3] m) fun r4 =>
  Option.bind (unA .not r4.1) fun x5 =>
  condA x5 (
   Option.bind (binA Tryz.prog .add 3 t1 t7) fun x6 =>
   Option.bind (sliceA Tryz.prog 95 x1 (some x6) none) fun x7 =>
   Option.bind (sliceA Tryz.prog 95 x1 (some t1) none) fun x8 =>
   Option.bind (copyA 4 x7 x8 r4.2) fun r9 =>
   Option.bind (sliceA Tryz.prog 95 x1 (some t1) none) fun x10 =>
   Option.bind (copyA 4 x10 t2 r9.2) fun r11 =>
   some (x1, r11.2)) (
   g139_3 x1 t1 t2 t7 t8 r4.2) :=
  goAt_eq 400 (by kernel_rfl)
theorem g139_3_eq (t0 t1 t2 t7 t8 : AV) (m : Mem) : g139_3 t0 t1 t2 t7 t8 m =
  Option.bind (sliceA Tryz.prog 95 t0 (some t8) none) fun x0 =>
  Option.bind (copyA 4 x0 t2 m) fun r1 =>
  Option.bind (sliceA Tryz.prog 95 t0 (some t1) none) fun x2 =>
  Option.bind (run E0 (.fn 195) [x2, t7] r1.2) fun r3 =>
  some (t0, r3.2) :=
  goAt_eq 400 (by kernel_rfl)
theorem f139_eq (a0 a1 a2 : AV) (m : Mem) : run E0 (.fn 139) [a0, a1, a2] m =
  Option.bind (sliceA Tryz.prog 95 a0 (some a1) none) fun _ =>
  Option.bind (lenT Tryz.prog 95 a2) fun x1 =>
  Option.bind (binA Tryz.prog .eql 3 x1 (.int .i64 0)) fun x2 =>
  condA x2 (
   some (a0, m)) (
   g139_0 a0 a1 a2 x1 m) :=
  run_eq 400 rfl (by kernel_rfl) (by kernel_rfl)
end Go.Proofs.YtfiipajgdhafaaaGreat
