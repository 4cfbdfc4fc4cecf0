/- Equations of functions between marks, printed by our own program (wip/tools/gen2.lean). -/
import Derived.Test.YtamooapjonlcdaaGreatEnv0
import Derived.Test.YtamooapjonlcdaaGreatAbs21
namespace Go.Proofs.YtamooapjonlcdaaGreat
open Go Go.Abs
set_option maxRecDepth 4000
noncomputable def g77_0 (t0 t1 t2 t7 : AV) (m : Mem) : R := goAt E0 77 0 ([t0, t1, t2, .undef, .undef, .undef, .undef, t7] ++ List.replicate 87 .undef) m
noncomputable def g77_1 (t0 t1 t2 t7 t8 : AV) (m : Mem) : R := goAt E0 77 1 ([t0, t1, t2, .undef, .undef, .undef, .undef, t7, t8] ++ List.replicate 86 .undef) m
noncomputable def g77_2 (t0 t1 t2 t7 t8 : AV) (m : Mem) : R := goAt E0 77 2 ([t0, t1, t2, .undef, .undef, .undef, .undef, t7, t8] ++ List.replicate 86 .undef) m
noncomputable def g77_3 (t0 t1 t2 t7 t8 : AV) (m : Mem) : R := goAt E0 77 3 ([t0, t1, t2, .undef, .undef, .undef, .undef, t7, t8] ++ List.replicate 86 .undef) m
theorem g77_0_eq (t0 t1 t2 t7 : AV) (m : Mem) : g77_0 t0 t1 t2 t7 m =
  Option.bind (lenT Tryz.prog 156 t0) fun x0 =>
  Option.bind (binA Tryz.prog .eql 3 t1 x0) fun x1 =>
  condA x1 (
   Option.bind (appendA 1 16 t0 t2 m) fun r2 =>
   some (r2.1, r2.2)) (
   g77_1 t0 t1 t2 t7 x0 m) :=
  goAt_eq 400 (by kernel_rfl)
theorem g77_1_eq (t0 t1 t2 t7 t8 : AV) (m : Mem) : g77_1 t0 t1 t2 t7 t8 m =
  Option.bind (binA Tryz.prog .add 3 t8 t7) fun x0 =>
  Option.bind (capT Tryz.prog 156 t0) fun x1 =>
  Option.bind (binA Tryz.prog .gtr 3 x0 x1) fun x2 =>
  condA x2 (
   Option.bind (sliceA Tryz.prog 156 t0 none (some t1)) fun x3 =>
   Option.bind (binA Tryz.prog .add 3 t8 t7) fun x4 =>
   Option.bind (binA Tryz.prog .sub 3 x4 t1) fun x5 =>
   Option.bind (appendZ Tryz.prog 156 x3 x5 m) fun r6 =>
   Option.bind (sliceA Tryz.prog 156 r6.1 (some t1) none) fun x7 =>
   Option.bind (copyA 1 x7 t2 r6.2) fun r8 =>
   Option.bind (binA Tryz.prog .add 3 t1 t7) fun x9 =>
   Option.bind (sliceA Tryz.prog 156 r6.1 (some x9) none) fun x10 =>
   Option.bind (sliceA Tryz.prog 156 t0 (some t1) none) fun x11 =>
   Option.bind (copyA 1 x10 x11 r8.2) fun r12 =>
   some (r6.1, r12.2)) (
   g77_2 t0 t1 t2 t7 t8 m) :=
  goAt_eq 400 (by kernel_rfl)
theorem g77_2_eq (t0 t1 t2 t7 t8 : AV) (m : Mem) : g77_2 t0 t1 t2 t7 t8 m =
  Option.bind (binA Tryz.prog .add 3 t8 t7) fun x0 =>
  Option.bind (sliceA Tryz.prog 156 t0 none (some x0)) fun x1 =>
  Option.bind (binA Tryz.prog .add 3 t1 t7) fun x2 =>
  Option.bind (sliceA Tryz.prog 156 x1 (some x2) none) fun x3 =>
  Option.bind (run E0 (.fn 135) [t2, x3] m) fun r4 =>
  Option.bind (unA .not r4.1) fun x5 =>
  condA x5 (
   Option.bind (binA Tryz.prog .add 3 t1 t7) fun x6 =>
   Option.bind (sliceA Tryz.prog 156 x1 (some x6) none) fun x7 =>
   Option.bind (sliceA Tryz.prog 156 x1 (some t1) none) fun x8 =>
   Option.bind (copyA 1 x7 x8 r4.2) fun r9 =>
   Option.bind (sliceA Tryz.prog 156 x1 (some t1) none) fun x10 =>
   Option.bind (copyA 1 x10 t2 r9.2) fun r11 =>
   some (x1, r11.2)) (
   g77_3 x1 t1 t2 t7 t8 r4.2) :=
  goAt_eq 400 (by kernel_rfl)
theorem g77_3_eq (t0 t1 t2 t7 t8 : AV) (m : Mem) : g77_3 t0 t1 t2 t7 t8 m =
  Option.bind (sliceA Tryz.prog 156 t0 (some t8) none) fun x0 =>
  Option.bind (copyA 1 x0 t2 m) fun r1 =>
  Option.bind (sliceA Tryz.prog 156 t0 (some t1) none) fun x2 =>
  Option.bind (run E0 (.fn 136) [x2, t7] r1.2) fun r3 =>
  some (t0, r3.2) :=
  goAt_eq 400 (by kernel_rfl)
theorem f77_eq (a0 a1 a2 : AV) (m : Mem) : run E0 (.fn 77) [a0, a1, a2] m =
  Option.bind (sliceA Tryz.prog 156 a0 (some a1) none) fun _ =>
  Option.bind (lenT Tryz.prog 156 a2) fun x1 =>
  Option.bind (binA Tryz.prog .eql 3 x1 (.int .i64 0)) fun x2 =>
  condA x2 (
   some (a0, m)) (
   g77_0 a0 a1 a2 x1 m) :=
  run_eq 400 rfl (by kernel_rfl) (by kernel_rfl)
noncomputable def g78_0 (t0 t1 t2 t7 : AV) (m : Mem) : R := goAt E0 78 0 ([t0, t1, t2, .undef, .undef, .undef, .undef, t7] ++ List.replicate 87 .undef) m
noncomputable def g78_1 (t0 t1 t2 t7 t8 : AV) (m : Mem) : R := goAt E0 78 1 ([t0, t1, t2, .undef, .undef, .undef, .undef, t7, t8] ++ List.replicate 86 .undef) m
noncomputable def g78_2 (t0 t1 t2 t7 t8 : AV) (m : Mem) : R := goAt E0 78 2 ([t0, t1, t2, .undef, .undef, .undef, .undef, t7, t8] ++ List.replicate 86 .undef) m
noncomputable def g78_3 (t0 t1 t2 t7 t8 : AV) (m : Mem) : R := goAt E0 78 3 ([t0, t1, t2, .undef, .undef, .undef, .undef, t7, t8] ++ List.replicate 86 .undef) m
theorem g78_0_eq (t0 t1 t2 t7 : AV) (m : Mem) : g78_0 t0 t1 t2 t7 m =
  Option.bind (lenT Tryz.prog 45 t0) fun x0 =>
  Option.bind (binA Tryz.prog .eql 3 t1 x0) fun x1 =>
  condA x1 (
   Option.bind (appendA 4 40 t0 t2 m) fun r2 =>
   some (r2.1, r2.2)) (
   g78_1 t0 t1 t2 t7 x0 m) :=
  goAt_eq 400 (by kernel_rfl)
theorem g78_1_eq (t0 t1 t2 t7 t8 : AV) (m : Mem) : g78_1 t0 t1 t2 t7 t8 m =
  Option.bind (binA Tryz.prog .add 3 t8 t7) fun x0 =>
  Option.bind (capT Tryz.prog 45 t0) fun x1 =>
  Option.bind (binA Tryz.prog .gtr 3 x0 x1) fun x2 =>
  condA x2 (
   Option.bind (sliceA Tryz.prog 45 t0 none (some t1)) fun x3 =>
   Option.bind (binA Tryz.prog .add 3 t8 t7) fun x4 =>
   Option.bind (binA Tryz.prog .sub 3 x4 t1) fun x5 =>
   Option.bind (appendZ Tryz.prog 45 x3 x5 m) fun r6 =>
   Option.bind (sliceA Tryz.prog 45 r6.1 (some t1) none) fun x7 =>
   Option.bind (copyA 4 x7 t2 r6.2) fun r8 =>
   Option.bind (binA Tryz.prog .add 3 t1 t7) fun x9 =>
   Option.bind (sliceA Tryz.prog 45 r6.1 (some x9) none) fun x10 =>
   Option.bind (sliceA Tryz.prog 45 t0 (some t1) none) fun x11 =>
   Option.bind (copyA 4 x10 x11 r8.2) fun r12 =>
   some (r6.1, r12.2)) (
   g78_2 t0 t1 t2 t7 t8 m) :=
  goAt_eq 400 (by kernel_rfl)
theorem g78_2_eq (t0 t1 t2 t7 t8 : AV) (m : Mem) : g78_2 t0 t1 t2 t7 t8 m =
  Option.bind (binA Tryz.prog .add 3 t8 t7) fun x0 =>
  Option.bind (sliceA Tryz.prog 45 t0 none (some x0)) fun x1 =>
  Option.bind (binA Tryz.prog .add 3 t1 t7) fun x2 =>
  Option.bind (sliceA Tryz.prog 45 x1 (some x2) none) fun x3 =>
  Option.bind (run E0 (.fn 137) [t2, x3] m) fun r4 =>
  Option.bind (unA .not r4.1) fun x5 =>
  condA x5 (
   Option.bind (binA Tryz.prog .add 3 t1 t7) fun x6 =>
   Option.bind (sliceA Tryz.prog 45 x1 (some x6) none) fun x7 =>
   Option.bind (sliceA Tryz.prog 45 x1 (some t1) none) fun x8 =>
   Option.bind (copyA 4 x7 x8 r4.2) fun r9 =>
   Option.bind (sliceA Tryz.prog 45 x1 (some t1) none) fun x10 =>
   Option.bind (copyA 4 x10 t2 r9.2) fun r11 =>
   some (x1, r11.2)) (
   g78_3 x1 t1 t2 t7 t8 r4.2) :=
  goAt_eq 400 (by kernel_rfl)
theorem g78_3_eq (t0 t1 t2 t7 t8 : AV) (m : Mem) : g78_3 t0 t1 t2 t7 t8 m =
  Option.bind (sliceA Tryz.prog 45 t0 (some t8) none) fun x0 =>
  Option.bind (copyA 4 x0 t2 m) fun r1 =>
  Option.bind (sliceA Tryz.prog 45 t0 (some t1) none) fun x2 =>
  Option.bind (run E0 (.fn 138) [x2, t7] r1.2) fun r3 =>
  some (t0, r3.2) :=
  goAt_eq 400 (by kernel_rfl)
theorem f78_eq (a0 a1 a2 : AV) (m : Mem) : run E0 (.fn 78) [a0, a1, a2] m =
  Option.bind (sliceA Tryz.prog 45 a0 (some a1) none) fun _ =>
  Option.bind (lenT Tryz.prog 45 a2) fun x1 =>
  Option.bind (binA Tryz.prog .eql 3 x1 (.int .i64 0)) fun x2 =>
  condA x2 (
   some (a0, m)) (
   g78_0 a0 a1 a2 x1 m) :=
  run_eq 400 rfl (by kernel_rfl) (by kernel_rfl)
noncomputable def g80_0 (t0 t1 t2 t7 : AV) (m : Mem) : R := goAt E0 80 0 ([t0, t1, t2, .undef, .undef, .undef, .undef, t7] ++ List.replicate 87 .undef) m
noncomputable def g80_1 (t0 t1 t2 t7 t8 : AV) (m : Mem) : R := goAt E0 80 1 ([t0, t1, t2, .undef, .undef, .undef, .undef, t7, t8] ++ List.replicate 86 .undef) m
noncomputable def g80_2 (t0 t1 t2 t7 t8 : AV) (m : Mem) : R := goAt E0 80 2 ([t0, t1, t2, .undef, .undef, .undef, .undef, t7, t8] ++ List.replicate 86 .undef) m
noncomputable def g80_3 (t0 t1 t2 t7 t8 : AV) (m : Mem) : R := goAt E0 80 3 ([t0, t1, t2, .undef, .undef, .undef, .undef, t7, t8] ++ List.replicate 86 .undef) m
theorem g80_0_eq (t0 t1 t2 t7 : AV) (m : Mem) : g80_0 t0 t1 t2 t7 m =
  Option.bind (lenT Tryz.prog 142 t0) fun x0 =>
  Option.bind (binA Tryz.prog .eql 3 t1 x0) fun x1 =>
  condA x1 (
   Option.bind (appendA 1 8 t0 t2 m) fun r2 =>
   some (r2.1, r2.2)) (
   g80_1 t0 t1 t2 t7 x0 m) :=
  goAt_eq 400 (by kernel_rfl)
theorem g80_1_eq (t0 t1 t2 t7 t8 : AV) (m : Mem) : g80_1 t0 t1 t2 t7 t8 m =
  Option.bind (binA Tryz.prog .add 3 t8 t7) fun x0 =>
  Option.bind (capT Tryz.prog 142 t0) fun x1 =>
  Option.bind (binA Tryz.prog .gtr 3 x0 x1) fun x2 =>
  condA x2 (
   Option.bind (sliceA Tryz.prog 142 t0 none (some t1)) fun x3 =>
   Option.bind (binA Tryz.prog .add 3 t8 t7) fun x4 =>
   Option.bind (binA Tryz.prog .sub 3 x4 t1) fun x5 =>
   Option.bind (appendZ Tryz.prog 142 x3 x5 m) fun r6 =>
   Option.bind (sliceA Tryz.prog 142 r6.1 (some t1) none) fun x7 =>
   Option.bind (copyA 1 x7 t2 r6.2) fun r8 =>
   Option.bind (binA Tryz.prog .add 3 t1 t7) fun x9 =>
   Option.bind (sliceA Tryz.prog 142 r6.1 (some x9) none) fun x10 =>
   Option.bind (sliceA Tryz.prog 142 t0 (some t1) none) fun x11 =>
   Option.bind (copyA 1 x10 x11 r8.2) fun r12 =>
   some (r6.1, r12.2)) (
   g80_2 t0 t1 t2 t7 t8 m) :=
  goAt_eq 400 (by kernel_rfl)
theorem g80_2_eq (t0 t1 t2 t7 t8 : AV) (m : Mem) : g80_2 t0 t1 t2 t7 t8 m =
  Option.bind (binA Tryz.prog .add 3 t8 t7) fun x0 =>
  Option.bind (sliceA Tryz.prog 142 t0 none (some x0)) fun x1 =>
  Option.bind (binA Tryz.prog .add 3 t1 t7) fun x2 =>
  Option.bind (sliceA Tryz.prog 142 x1 (some x2) none) fun x3 =>
  Option.bind (run E0 (.fn 141) [t2, x3] m) fun r4 =>
  Option.bind (unA .not r4.1) fun x5 =>
  condA x5 (
   Option.bind (binA Tryz.prog .add 3 t1 t7) fun x6 =>
   Option.bind (sliceA Tryz.prog 142 x1 (some x6) none) fun x7 =>
   Option.bind (sliceA Tryz.prog 142 x1 (some t1) none) fun x8 =>
   Option.bind (copyA 1 x7 x8 r4.2) fun r9 =>
   Option.bind (sliceA Tryz.prog 142 x1 (some t1) none) fun x10 =>
   Option.bind (copyA 1 x10 t2 r9.2) fun r11 =>
   some (x1, r11.2)) (
   g80_3 x1 t1 t2 t7 t8 r4.2) :=
  goAt_eq 400 (by kernel_rfl)
theorem g80_3_eq (t0 t1 t2 t7 t8 : AV) (m : Mem) : g80_3 t0 t1 t2 t7 t8 m =
  Option.bind (sliceA Tryz.prog 142 t0 (some t8) none) fun x0 =>
  Option.bind (copyA 1 x0 t2 m) fun r1 =>
  Option.bind (sliceA Tryz.prog 142 t0 (some t1) none) fun x2 =>
  Option.bind (run E0 (.fn 142) [x2, t7] r1.2) fun r3 =>
  some (t0, r3.2) :=
  goAt_eq 400 (by kernel_rfl)
theorem f80_eq (a0 a1 a2 : AV) (m : Mem) : run E0 (.fn 80) [a0, a1, a2] m =
  Option.bind (sliceA Tryz.prog 142 a0 (some a1) none) fun _ =>
  Option.bind (lenT Tryz.prog 142 a2) fun x1 =>
  Option.bind (binA Tryz.prog .eql 3 x1 (.int .i64 0)) fun x2 =>
  condA x2 (
   some (a0, m)) (
   g80_0 a0 a1 a2 x1 m) :=
  run_eq 400 rfl (by kernel_rfl) (by kernel_rfl)
noncomputable def g81_0 (t0 t1 t2 t7 : AV) (m : Mem) : R := goAt E0 81 0 ([t0, t1, t2, .undef, .undef, .undef, .undef, t7] ++ List.replicate 87 .undef) m
noncomputable def g81_1 (t0 t1 t2 t7 t8 : AV) (m : Mem) : R := goAt E0 81 1 ([t0, t1, t2, .undef, .undef, .undef, .undef, t7, t8] ++ List.replicate 86 .undef) m
noncomputable def g81_2 (t0 t1 t2 t7 t8 : AV) (m : Mem) : R := goAt E0 81 2 ([t0, t1, t2, .undef, .undef, .undef, .undef, t7, t8] ++ List.replicate 86 .undef) m
noncomputable def g81_3 (t0 t1 t2 t7 t8 : AV) (m : Mem) : R := goAt E0 81 3 ([t0, t1, t2, .undef, .undef, .undef, .undef, t7, t8] ++ List.replicate 86 .undef) m
theorem g81_0_eq (t0 t1 t2 t7 : AV) (m : Mem) : g81_0 t0 t1 t2 t7 m =
  Option.bind (lenT Tryz.prog 47 t0) fun x0 =>
  Option.bind (binA Tryz.prog .eql 3 t1 x0) fun x1 =>
  condA x1 (
   Option.bind (appendA 4 40 t0 t2 m) fun r2 =>
   some (r2.1, r2.2)) (
   g81_1 t0 t1 t2 t7 x0 m) :=
  goAt_eq 400 (by kernel_rfl)
theorem g81_1_eq (t0 t1 t2 t7 t8 : AV) (m : Mem) : g81_1 t0 t1 t2 t7 t8 m =
  Option.bind (binA Tryz.prog .add 3 t8 t7) fun x0 =>
  Option.bind (capT Tryz.prog 47 t0) fun x1 =>
  Option.bind (binA Tryz.prog .gtr 3 x0 x1) fun x2 =>
  condA x2 (
   Option.bind (sliceA Tryz.prog 47 t0 none (some t1)) fun x3 =>
   Option.bind (binA Tryz.prog .add 3 t8 t7) fun x4 =>
   Option.bind (binA Tryz.prog .sub 3 x4 t1) fun x5 =>
   Option.bind (appendZ Tryz.prog 47 x3 x5 m) fun r6 =>
   Option.bind (sliceA Tryz.prog 47 r6.1 (some t1) none) fun x7 =>
   Option.bind (copyA 4 x7 t2 r6.2) fun r8 =>
   Option.bind (binA Tryz.prog .add 3 t1 t7) fun x9 =>
   Option.bind (sliceA Tryz.prog 47 r6.1 (some x9) none) fun x10 =>
   Option.bind (sliceA Tryz.prog 47 t0 (some t1) none) fun x11 =>
   Option.bind (copyA 4 x10 x11 r8.2) fun r12 =>
   some (r6.1, r12.2)) (
   g81_2 t0 t1 t2 t7 t8 m) :=
  goAt_eq 400 (by kernel_rfl)
theorem g81_2_eq (t0 t1 t2 t7 t8 : AV) (m : Mem) : g81_2 t0 t1 t2 t7 t8 m =
  Option.bind (binA Tryz.prog .add 3 t8 t7) fun x0 =>
  Option.bind (sliceA Tryz.prog 47 t0 none (some x0)) fun x1 =>
  Option.bind (binA Tryz.prog .add 3 t1 t7) fun x2 =>
  Option.bind (sliceA Tryz.prog 47 x1 (some x2) none) fun x3 =>
  Option.bind (run E0 (.fn 143) [t2, x3] m) fun r4 =>
  Option.bind (unA .not r4.1) fun x5 =>
  condA x5 (
   Option.bind (binA Tryz.prog .add 3 t1 t7) fun x6 =>
   Option.bind (sliceA Tryz.prog 47 x1 (some x6) none) fun x7 =>
   Option.bind (sliceA Tryz.prog 47 x1 (some t1) none) fun x8 =>
   Option.bind (copyA 4 x7 x8 r4.2) fun r9 =>
   Option.bind (sliceA Tryz.prog 47 x1 (some t1) none) fun x10 =>
   Option.bind (copyA 4 x10 t2 r9.2) fun r11 =>
   some (x1, r11.2)) (
   g81_3 x1 t1 t2 t7 t8 r4.2) :=
  goAt_eq 400 (by kernel_rfl)
theorem g81_3_eq (t0 t1 t2 t7 t8 : AV) (m : Mem) : g81_3 t0 t1 t2 t7 t8 m =
  Option.bind (sliceA Tryz.prog 47 t0 (some t8) none) fun x0 =>
  Option.bind (copyA 4 x0 t2 m) fun r1 =>
  Option.bind (sliceA Tryz.prog 47 t0 (some t1) none) fun x2 =>
  Option.bind (run E0 (.fn 144) [x2, t7] r1.2) fun r3 =>
  some (t0, r3.2) :=
  goAt_eq 400 (by kernel_rfl)
theorem f81_eq (a0 a1 a2 : AV) (m : Mem) : run E0 (.fn 81) [a0, a1, a2] m =
  Option.bind (sliceA Tryz.prog 47 a0 (some a1) none) fun _ =>
  Option.bind (lenT Tryz.prog 47 a2) fun x1 =>
  Option.bind (binA Tryz.prog .eql 3 x1 (.int .i64 0)) fun x2 =>
  condA x2 (
   some (a0, m)) (
   g81_0 a0 a1 a2 x1 m) :=
  run_eq 400 rfl (by kernel_rfl) (by kernel_rfl)
noncomputable def g87_0 (t0 t1 t2 t7 : AV) (m : Mem) : R := goAt E0 87 0 ([t0, t1, t2, .undef, .undef, .undef, .undef, t7] ++ List.replicate 87 .undef) m
noncomputable def g87_1 (t0 t1 t2 t7 t8 : AV) (m : Mem) : R := goAt E0 87 1 ([t0, t1, t2, .undef, .undef, .undef, .undef, t7, t8] ++ List.replicate 86 .undef) m
noncomputable def g87_2 (t0 t1 t2 t7 t8 : AV) (m : Mem) : R := goAt E0 87 2 ([t0, t1, t2, .undef, .undef, .undef, .undef, t7, t8] ++ List.replicate 86 .undef) m
noncomputable def g87_3 (t0 t1 t2 t7 t8 : AV) (m : Mem) : R := goAt E0 87 3 ([t0, t1, t2, .undef, .undef, .undef, .undef, t7, t8] ++ List.replicate 86 .undef) m
theorem g87_0_eq (t0 t1 t2 t7 : AV) (m : Mem) : g87_0 t0 t1 t2 t7 m =
  Option.bind (lenT Tryz.prog 46 t0) fun x0 =>
  Option.bind (binA Tryz.prog .eql 3 t1 x0) fun x1 =>
  condA x1 (
   Option.bind (appendA 9 88 t0 t2 m) fun r2 =>
   some (r2.1, r2.2)) (
   g87_1 t0 t1 t2 t7 x0 m) :=
  goAt_eq 400 (by kernel_rfl)
theorem g87_1_eq (t0 t1 t2 t7 t8 : AV) (m : Mem) : g87_1 t0 t1 t2 t7 t8 m =
  Option.bind (binA Tryz.prog .add 3 t8 t7) fun x0 =>
  Option.bind (capT Tryz.prog 46 t0) fun x1 =>
  Option.bind (binA Tryz.prog .gtr 3 x0 x1) fun x2 =>
  condA x2 (
   Option.bind (sliceA Tryz.prog 46 t0 none (some t1)) fun x3 =>
   Option.bind (binA Tryz.prog .add 3 t8 t7) fun x4 =>
   Option.bind (binA Tryz.prog .sub 3 x4 t1) fun x5 =>
   Option.bind (appendZ Tryz.prog 46 x3 x5 m) fun r6 =>
   Option.bind (sliceA Tryz.prog 46 r6.1 (some t1) none) fun x7 =>
   Option.bind (copyA 9 x7 t2 r6.2) fun r8 =>
   Option.bind (binA Tryz.prog .add 3 t1 t7) fun x9 =>
   Option.bind (sliceA Tryz.prog 46 r6.1 (some x9) none) fun x10 =>
   Option.bind (sliceA Tryz.prog 46 t0 (some t1) none) fun x11 =>
   Option.bind (copyA 9 x10 x11 r8.2) fun r12 =>
   some (r6.1, r12.2)) (
   g87_2 t0 t1 t2 t7 t8 m) :=
  goAt_eq 400 (by kernel_rfl)
theorem g87_2_eq (t0 t1 t2 t7 t8 : AV) (m : Mem) : g87_2 t0 t1 t2 t7 t8 m =
  Option.bind (binA Tryz.prog .add 3 t8 t7) fun x0 =>
  Option.bind (sliceA Tryz.prog 46 t0 none (some x0)) fun x1 =>
  Option.bind (binA Tryz.prog .add 3 t1 t7) fun x2 =>
  Option.bind (sliceA Tryz.prog 46 x1 (some x2) none) fun x3 =>
  Option.bind (run E0 (.fn 148) [t2, x3] m) fun r4 =>
  Option.bind (unA .not r4.1) fun x5 =>
  condA x5 (
   Option.bind (binA Tryz.prog .add 3 t1 t7) fun x6 =>
   Option.bind (sliceA Tryz.prog 46 x1 (some x6) none) fun x7 =>
   Option.bind (sliceA Tryz.prog 46 x1 (some t1) none) fun x8 =>
   Option.bind (copyA 9 x7 x8 r4.2) fun r9 =>
   Option.bind (sliceA Tryz.prog 46 x1 (some t1) none) fun x10 =>
   Option.bind (copyA 9 x10 t2 r9.2) fun r11 =>
   some (x1, r11.2)) (
   g87_3 x1 t1 t2 t7 t8 r4.2) :=
  goAt_eq 400 (by kernel_rfl)
theorem g87_3_eq (t0 t1 t2 t7 t8 : AV) (m : Mem) : g87_3 t0 t1 t2 t7 t8 m =
  Option.bind (sliceA Tryz.prog 46 t0 (some t8) none) fun x0 =>
  Option.bind (copyA 9 x0 t2 m) fun r1 =>
  Option.bind (sliceA Tryz.prog 46 t0 (some t1) none) fun x2 =>
  Option.bind (run E0 (.fn 149) [x2, t7] r1.2) fun r3 =>
  some (t0, r3.2) :=
  goAt_eq 400 (by kernel_rfl)
theorem f87_eq (a0 a1 a2 : AV) (m : Mem) : run E0 (.fn 87) [a0, a1, a2] m =
  Option.bind (sliceA Tryz.prog 46 a0 (some a1) none) fun _ =>
  Option.bind (lenT Tryz.prog 46 a2) fun x1 =>
  Option.bind (binA Tryz.prog .eql 3 x1 (.int .i64 0)) fun x2 =>
  condA x2 (
   some (a0, m)) (
   g87_0 a0 a1 a2 x1 m) :=
  run_eq 400 rfl (by kernel_rfl) (by kernel_rfl)
noncomputable def g166_0 (t0 t1 t2 t7 : AV) (m : Mem) : R := goAt E0 166 0 ([t0, t1, t2, .undef, .undef, .undef, .undef, t7] ++ List.replicate 87 .undef) m
noncomputable def g166_1 (t0 t1 t2 t7 t8 : AV) (m : Mem) : R := goAt E0 166 1 ([t0, t1, t2, .undef, .undef, .undef, .undef, t7, t8] ++ List.replicate 86 .undef) m
noncomputable def g166_2 (t0 t1 t2 t7 t8 : AV) (m : Mem) : R := goAt E0 166 2 ([t0, t1, t2, .undef, .undef, .undef, .undef, t7, t8] ++ List.replicate 86 .undef) m
noncomputable def g166_3 (t0 t1 t2 t7 t8 : AV) (m : Mem) : R := goAt E0 166 3 ([t0, t1, t2, .undef, .undef, .undef, .undef, t7, t8] ++ List.replicate 86 .undef) m
theorem g166_0_eq (t0 t1 t2 t7 : AV) (m : Mem) : g166_0 t0 t1 t2 t7 m =
  Option.bind (lenT Tryz.prog 75 t0) fun x0 =>
  Option.bind (binA Tryz.prog .eql 3 t1 x0) fun x1 =>
  condA x1 (
   Option.bind (appendA 4 48 t0 t2 m) fun r2 =>
   some (r2.1, r2.2)) (
   g166_1 t0 t1 t2 t7 x0 m) :=
  goAt_eq 400 (by kernel_rfl)
theorem g166_1_eq (t0 t1 t2 t7 t8 : AV) (m : Mem) : g166_1 t0 t1 t2 t7 t8 m =
  Option.bind (binA Tryz.prog .add 3 t8 t7) fun x0 =>
  Option.bind (capT Tryz.prog 75 t0) fun x1 =>
  Option.bind (binA Tryz.prog .gtr 3 x0 x1) fun x2 =>
  condA x2 (
   Option.bind (sliceA Tryz.prog 75 t0 none (some t1)) fun x3 =>
   Option.bind (binA Tryz.prog .add 3 t8 t7) fun x4 =>
   Option.bind (binA Tryz.prog .sub 3 x4 t1) fun x5 =>
   Option.bind (appendZ Tryz.prog 75 x3 x5 m) fun r6 =>
   Option.bind (sliceA Tryz.prog 75 r6.1 (some t1) none) fun x7 =>
   Option.bind (copyA 4 x7 t2 r6.2) fun r8 =>
   Option.bind (binA Tryz.prog .add 3 t1 t7) fun x9 =>
   Option.bind (sliceA Tryz.prog 75 r6.1 (some x9) none) fun x10 =>
   Option.bind (sliceA Tryz.prog 75 t0 (some t1) none) fun x11 =>
   Option.bind (copyA 4 x10 x11 r8.2) fun r12 =>
   some (r6.1, r12.2)) (
   g166_2 t0 t1 t2 t7 t8 m) :=
  goAt_eq 400 (by kernel_rfl)
theorem g166_2_eq (t0 t1 t2 t7 t8 : AV) (m : Mem) : g166_2 t0 t1 t2 t7 t8 m =
  Option.bind (binA Tryz.prog .add 3 t8 t7) fun x0 =>
  Option.bind (sliceA Tryz.prog 75 t0 none (some x0)) fun x1 =>
  Option.bind (binA Tryz.prog .add 3 t1 t7) fun x2 =>
  Option.bind (sliceA Tryz.prog 75 x1 (some x2) none) fun x3 =>
  Option.bind (run E0 (.fn 198) [t2, x3] m) fun r4 =>
  Option.bind (unA .not r4.1) fun x5 =>
  condA x5 (
   Option.bind (binA Tryz.prog .add 3 t1 t7) fun x6 =>
   Option.bind (sliceA Tryz.prog 75 x1 (some x6) none) fun x7 =>
   Option.bind (sliceA Tryz.prog 75 x1 (some t1) none) fun x8 =>
   Option.bind (copyA 4 x7 x8 r4.2) fun r9 =>
   Option.bind (sliceA Tryz.prog 75 x1 (some t1) none) fun x10 =>
   Option.bind (copyA 4 x10 t2 r9.2) fun r11 =>
   some (x1, r11.2)) (
   g166_3 x1 t1 t2 t7 t8 r4.2) :=
  goAt_eq 400 (by kernel_rfl)
theorem g166_3_eq (t0 t1 t2 t7 t8 : AV) (m : Mem) : g166_3 t0 t1 t2 t7 t8 m =
  Option.bind (sliceA Tryz.prog 75 t0 (some t8) none) fun x0 =>
  Option.bind (copyA 4 x0 t2 m) fun r1 =>
  Option.bind (sliceA Tryz.prog 75 t0 (some t1) none) fun x2 =>
  Option.bind (run E0 (.fn 199) [x2, t7] r1.2) fun r3 =>
  some (t0, r3.2) :=
  goAt_eq 400 (by kernel_rfl)
theorem f166_eq (a0 a1 a2 : AV) (m : Mem) : run E0 (.fn 166) [a0, a1, a2] m =
  Option.bind (sliceA Tryz.prog 75 a0 (some a1) none) fun _ =>
  Option.bind (lenT Tryz.prog 75 a2) fun x1 =>
  Option.bind (binA Tryz.prog .eql 3 x1 (.int .i64 0)) fun x2 =>
  condA x2 (
   some (a0, m)) (
   g166_0 a0 a1 a2 x1 m) :=
  run_eq 400 rfl (by kernel_rfl) (by kernel_rfl)
end Go.Proofs.YtamooapjonlcdaaGreat
