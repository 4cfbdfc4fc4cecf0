/- Texts of one claim, put together. -/
import Derived.Test.YtlginbmjiecglaaGreatK6
section
namespace Go.Proofs.YtlginbmjiecglaaGreat
open Go Go.Abs
set_option maxRecDepth 4000
noncomputable def g47_0 (t0 t1 t2 t7 : AV) (m : Mem) : R := goAt E0 47 0 ([t0, t1, t2, .undef, .undef, .undef, .undef, t7] ++ List.replicate 87 .undef) m
noncomputable def g47_1 (t0 t1 t2 t7 t8 : AV) (m : Mem) : R := goAt E0 47 1 ([t0, t1, t2, .undef, .undef, .undef, .undef, t7, t8] ++ List.replicate 86 .undef) m
noncomputable def g47_2 (t0 t1 t2 t7 t8 : AV) (m : Mem) : R := goAt E0 47 2 ([t0, t1, t2, .undef, .undef, .undef, .undef, t7, t8] ++ List.replicate 86 .undef) m
noncomputable def g47_3 (t0 t1 t2 t7 t8 : AV) (m : Mem) : R := goAt E0 47 3 ([t0, t1, t2, .undef, .undef, .undef, .undef, t7, t8] ++ List.replicate 86 .undef) m
theorem g47_0_eq (t0 t1 t2 t7 : AV) (m : Mem) : g47_0 t0 t1 t2 t7 m =
  Option.bind (lenT Tryz.prog 109 t0) fun x0 =>
  Option.bind (binA Tryz.prog .eql 3 t1 x0) fun x1 =>
  condA x1 (
   Option.bind (appendA 1 16 t0 t2 m) fun r2 =>
   some (r2.1, r2.2)) (
   g47_1 t0 t1 t2 t7 x0 m) :=
  goAt_eq 400 (by kernel_rfl)
theorem g47_1_eq (t0 t1 t2 t7 t8 : AV) (m : Mem) : g47_1 t0 t1 t2 t7 t8 m =
  Option.bind (binA Tryz.prog .add 3 t8 t7) fun x0 =>
  Option.bind (capT Tryz.prog 109 t0) fun x1 =>
  Option.bind (binA Tryz.prog .gtr 3 x0 x1) fun x2 =>
  condA x2 (
   Option.bind (sliceA Tryz.prog 109 t0 none (some t1)) fun x3 =>
   Option.bind (binA Tryz.prog .add 3 t8 t7) fun x4 =>
   Option.bind (binA Tryz.prog .sub 3 x4 t1) fun x5 =>
   Option.bind (appendZ Tryz.prog 109 x3 x5 m) fun r6 =>
   Option.bind (sliceA Tryz.prog 109 r6.1 (some t1) none) fun x7 =>
   Option.bind (copyA 1 x7 t2 r6.2) fun r8 =>
   Option.bind (binA Tryz.prog .add 3 t1 t7) fun x9 =>
   Option.bind (sliceA Tryz.prog 109 r6.1 (some x9) none) fun x10 =>
   Option.bind (sliceA Tryz.prog 109 t0 (some t1) none) fun x11 =>
   Option.bind (copyA 1 x10 x11 r8.2) fun r12 =>
   some (r6.1, r12.2)) (
   g47_2 t0 t1 t2 t7 t8 m) :=
  goAt_eq 400 (by kernel_rfl)
theorem g47_2_eq (t0 t1 t2 t7 t8 : AV) (m : Mem) : g47_2 t0 t1 t2 t7 t8 m =
  Option.bind (binA Tryz.prog .add 3 t8 t7) fun x0 =>
  Option.bind (sliceA Tryz.prog 109 t0 none (some x0)) fun x1 =>
  Option.bind (binA Tryz.prog .add 3 t1 t7) fun x2 =>
  Option.bind (sliceA Tryz.prog 109 x1 (some x2) none) fun x3 =>
  Option.bind (run E0 (.fn 82) [t2, x3] m) fun r4 =>
  Option.bind (unA .not r4.1) fun x5 =>
  condA x5 (
   Option.bind (binA Tryz.prog .add 3 t1 t7) fun x6 =>
   Option.bind (sliceA Tryz.prog 109 x1 (some x6) none) fun x7 =>
   Option.bind (sliceA Tryz.prog 109 x1 (some t1) none) fun x8 =>
   Option.bind (copyA 1 x7 x8 r4.2) fun r9 =>
   Option.bind (sliceA Tryz.prog 109 x1 (some t1) none) fun x10 =>
   Option.bind (copyA 1 x10 t2 r9.2) fun r11 =>
   some (x1, r11.2)) (
   g47_3 x1 t1 t2 t7 t8 r4.2) :=
  goAt_eq 400 (by kernel_rfl)
theorem g47_3_eq (t0 t1 t2 t7 t8 : AV) (m : Mem) : g47_3 t0 t1 t2 t7 t8 m =
  Option.bind (sliceA Tryz.prog 109 t0 (some t8) none) fun x0 =>
  Option.bind (copyA 1 x0 t2 m) fun r1 =>
  Option.bind (sliceA Tryz.prog 109 t0 (some t1) none) fun x2 =>
  Option.bind (run E0 (.fn 83) [x2, t7] r1.2) fun r3 =>
  some (t0, r3.2) :=
  goAt_eq 400 (by kernel_rfl)
theorem f47_eq (a0 a1 a2 : AV) (m : Mem) : run E0 (.fn 47) [a0, a1, a2] m =
  Option.bind (sliceA Tryz.prog 109 a0 (some a1) none) fun _ =>
  Option.bind (lenT Tryz.prog 109 a2) fun x1 =>
  Option.bind (binA Tryz.prog .eql 3 x1 (.int .i64 0)) fun x2 =>
  condA x2 (
   some (a0, m)) (
   g47_0 a0 a1 a2 x1 m) :=
  run_eq 400 rfl (by kernel_rfl) (by kernel_rfl)
noncomputable def g48_0 (t0 t1 t2 t7 : AV) (m : Mem) : R := goAt E0 48 0 ([t0, t1, t2, .undef, .undef, .undef, .undef, t7] ++ List.replicate 87 .undef) m
noncomputable def g48_1 (t0 t1 t2 t7 t8 : AV) (m : Mem) : R := goAt E0 48 1 ([t0, t1, t2, .undef, .undef, .undef, .undef, t7, t8] ++ List.replicate 86 .undef) m
noncomputable def g48_2 (t0 t1 t2 t7 t8 : AV) (m : Mem) : R := goAt E0 48 2 ([t0, t1, t2, .undef, .undef, .undef, .undef, t7, t8] ++ List.replicate 86 .undef) m
noncomputable def g48_3 (t0 t1 t2 t7 t8 : AV) (m : Mem) : R := goAt E0 48 3 ([t0, t1, t2, .undef, .undef, .undef, .undef, t7, t8] ++ List.replicate 86 .undef) m
theorem g48_0_eq (t0 t1 t2 t7 : AV) (m : Mem) : g48_0 t0 t1 t2 t7 m =
  Option.bind (lenT Tryz.prog 45 t0) fun x0 =>
  Option.bind (binA Tryz.prog .eql 3 t1 x0) fun x1 =>
  condA x1 (
   Option.bind (appendA 4 40 t0 t2 m) fun r2 =>
   some (r2.1, r2.2)) (
   g48_1 t0 t1 t2 t7 x0 m) :=
  goAt_eq 400 (by kernel_rfl)
theorem g48_1_eq (t0 t1 t2 t7 t8 : AV) (m : Mem) : g48_1 t0 t1 t2 t7 t8 m =
  Option.bind (binA Tryz.prog .add 3 t8 t7) fun x0 =>
  Option.bind (capT Tryz.prog 45 t0) fun x1 =>
  Option.bind (binA Tryz.prog .gtr 3 x0 x1) fun x2 =>
  condA x2 (
   Option.bind (sliceA Tryz.prog 45 t0 none (some t1)) fun x3 =>
   Option.bind (binA Tryz.prog .add 3 t8 t7) fun x4 =>
   Option.bind (binA Tryz.prog .sub 3 x4 t1) fun x5 =>
   Option.bind (appendZ Tryz.prog 45 x3 x5 m) fun r6 =>
   Option.bind (sliceA Tryz.prog 45 r6.1 (some t1) none) fun x7 =>
   Option.bind (copyA 4 x7 t2 r6.2) fun r8 =>
   Option.bind (binA Tryz.prog .add 3 t1 t7) fun x9 =>
   Option.bind (sliceA Tryz.prog 45 r6.1 (some x9) none) fun x10 =>
   Option.bind (sliceA Tryz.prog 45 t0 (some t1) none) fun x11 =>
   Option.bind (copyA 4 x10 x11 r8.2) fun r12 =>
   some (r6.1, r12.2)) (
   g48_2 t0 t1 t2 t7 t8 m) :=
  goAt_eq 400 (by kernel_rfl)
theorem g48_2_eq (t0 t1 t2 t7 t8 : AV) (m : Mem) : g48_2 t0 t1 t2 t7 t8 m =
  Option.bind (binA Tryz.prog .add 3 t8 t7) fun x0 =>
  Option.bind (sliceA Tryz.prog 45 t0 none (some x0)) fun x1 =>
  Option.bind (binA Tryz.prog .add 3 t1 t7) fun x2 =>
  Option.bind (sliceA Tryz.prog 45 x1 (some x2) none) fun x3 =>
  Option.bind (run E0 (.fn 84) [t2, x3] m) fun r4 =>
  Option.bind (unA .not r4.1) fun x5 =>
  condA x5 (
   Option.bind (binA Tryz.prog .add 3 t1 t7) fun x6 =>
   Option.bind (sliceA Tryz.prog 45 x1 (some x6) none) fun x7 =>
   Option.bind (sliceA Tryz.prog 45 x1 (some t1) none) fun x8 =>
   Option.bind (copyA 4 x7 x8 r4.2) fun r9 =>
   Option.bind (sliceA Tryz.prog 45 x1 (some t1) none) fun x10 =>
   Option.bind (copyA 4 x10 t2 r9.2) fun r11 =>
   some (x1, r11.2)) (
   g48_3 x1 t1 t2 t7 t8 r4.2) :=
  goAt_eq 400 (by kernel_rfl)
theorem g48_3_eq (t0 t1 t2 t7 t8 : AV) (m : Mem) : g48_3 t0 t1 t2 t7 t8 m =
  Option.bind (sliceA Tryz.prog 45 t0 (some t8) none) fun x0 =>
  Option.bind (copyA 4 x0 t2 m) fun r1 =>
  Option.bind (sliceA Tryz.prog 45 t0 (some t1) none) fun x2 =>
  Option.bind (run E0 (.fn 85) [x2, t7] r1.2) fun r3 =>
  some (t0, r3.2) :=
  goAt_eq 400 (by kernel_rfl)
theorem f48_eq (a0 a1 a2 : AV) (m : Mem) : run E0 (.fn 48) [a0, a1, a2] m =
  Option.bind (sliceA Tryz.prog 45 a0 (some a1) none) fun _ =>
  Option.bind (lenT Tryz.prog 45 a2) fun x1 =>
  Option.bind (binA Tryz.prog .eql 3 x1 (.int .i64 0)) fun x2 =>
  condA x2 (
   some (a0, m)) (
   g48_0 a0 a1 a2 x1 m) :=
  run_eq 400 rfl (by kernel_rfl) (by kernel_rfl)
noncomputable def g50_0 (t0 t1 t2 t7 : AV) (m : Mem) : R := goAt E0 50 0 ([t0, t1, t2, .undef, .undef, .undef, .undef, t7] ++ List.replicate 87 .undef) m
noncomputable def g50_1 (t0 t1 t2 t7 t8 : AV) (m : Mem) : R := goAt E0 50 1 ([t0, t1, t2, .undef, .undef, .undef, .undef, t7, t8] ++ List.replicate 86 .undef) m
noncomputable def g50_2 (t0 t1 t2 t7 t8 : AV) (m : Mem) : R := goAt E0 50 2 ([t0, t1, t2, .undef, .undef, .undef, .undef, t7, t8] ++ List.replicate 86 .undef) m
noncomputable def g50_3 (t0 t1 t2 t7 t8 : AV) (m : Mem) : R := goAt E0 50 3 ([t0, t1, t2, .undef, .undef, .undef, .undef, t7, t8] ++ List.replicate 86 .undef) m
theorem g50_0_eq (t0 t1 t2 t7 : AV) (m : Mem) : g50_0 t0 t1 t2 t7 m =
  Option.bind (lenT Tryz.prog 114 t0) fun x0 =>
  Option.bind (binA Tryz.prog .eql 3 t1 x0) fun x1 =>
  condA x1 (
   Option.bind (appendA 1 8 t0 t2 m) fun r2 =>
   some (r2.1, r2.2)) (
   g50_1 t0 t1 t2 t7 x0 m) :=
  goAt_eq 400 (by kernel_rfl)
theorem g50_1_eq (t0 t1 t2 t7 t8 : AV) (m : Mem) : g50_1 t0 t1 t2 t7 t8 m =
  Option.bind (binA Tryz.prog .add 3 t8 t7) fun x0 =>
  Option.bind (capT Tryz.prog 114 t0) fun x1 =>
  Option.bind (binA Tryz.prog .gtr 3 x0 x1) fun x2 =>
  condA x2 (
   Option.bind (sliceA Tryz.prog 114 t0 none (some t1)) fun x3 =>
   Option.bind (binA Tryz.prog .add 3 t8 t7) fun x4 =>
   Option.bind (binA Tryz.prog .sub 3 x4 t1) fun x5 =>
   Option.bind (appendZ Tryz.prog 114 x3 x5 m) fun r6 =>
   Option.bind (sliceA Tryz.prog 114 r6.1 (some t1) none) fun x7 =>
   Option.bind (copyA 1 x7 t2 r6.2) fun r8 =>
   Option.bind (binA Tryz.prog .add 3 t1 t7) fun x9 =>
   Option.bind (sliceA Tryz.prog 114 r6.1 (some x9) none) fun x10 =>
   Option.bind (sliceA Tryz.prog 114 t0 (some t1) none) fun x11 =>
   Option.bind (copyA 1 x10 x11 r8.2) fun r12 =>
   some (r6.1, r12.2)) (
   g50_2 t0 t1 t2 t7 t8 m) :=
  goAt_eq 400 (by kernel_rfl)
theorem g50_2_eq (t0 t1 t2 t7 t8 : AV) (m : Mem) : g50_2 t0 t1 t2 t7 t8 m =
  Option.bind (binA Tryz.prog .add 3 t8 t7) fun x0 =>
  Option.bind (sliceA Tryz.prog 114 t0 none (some x0)) fun x1 =>
  Option.bind (binA Tryz.prog .add 3 t1 t7) fun x2 =>
  Option.bind (sliceA Tryz.prog 114 x1 (some x2) none) fun x3 =>
  Option.bind (run E0 (.fn 88) [t2, x3] m) fun r4 =>
  Option.bind (unA .not r4.1) fun x5 =>
  condA x5 (
   Option.bind (binA Tryz.prog .add 3 t1 t7) fun x6 =>
   Option.bind (sliceA Tryz.prog 114 x1 (some x6) none) fun x7 =>
   Option.bind (sliceA Tryz.prog 114 x1 (some t1) none) fun x8 =>
   Option.bind (copyA 1 x7 x8 r4.2) fun r9 =>
   Option.bind (sliceA Tryz.prog 114 x1 (some t1) none) fun x10 =>
   Option.bind (copyA 1 x10 t2 r9.2) fun r11 =>
   some (x1, r11.2)) (
   g50_3 x1 t1 t2 t7 t8 r4.2) :=
  goAt_eq 400 (by kernel_rfl)
theorem g50_3_eq (t0 t1 t2 t7 t8 : AV) (m : Mem) : g50_3 t0 t1 t2 t7 t8 m =
  Option.bind (sliceA Tryz.prog 114 t0 (some t8) none) fun x0 =>
  Option.bind (copyA 1 x0 t2 m) fun r1 =>
  Option.bind (sliceA Tryz.prog 114 t0 (some t1) none) fun x2 =>
  Option.bind (run E0 (.fn 89) [x2, t7] r1.2) fun r3 =>
  some (t0, r3.2) :=
  goAt_eq 400 (by kernel_rfl)
theorem f50_eq (a0 a1 a2 : AV) (m : Mem) : run E0 (.fn 50) [a0, a1, a2] m =
  Option.bind (sliceA Tryz.prog 114 a0 (some a1) none) fun _ =>
  Option.bind (lenT Tryz.prog 114 a2) fun x1 =>
  Option.bind (binA Tryz.prog .eql 3 x1 (.int .i64 0)) fun x2 =>
  condA x2 (
   some (a0, m)) (
   g50_0 a0 a1 a2 x1 m) :=
  run_eq 400 rfl (by kernel_rfl) (by kernel_rfl)
noncomputable def g51_0 (t0 t1 t2 t7 : AV) (m : Mem) : R := goAt E0 51 0 ([t0, t1, t2, .undef, .undef, .undef, .undef, t7] ++ List.replicate 87 .undef) m
noncomputable def g51_1 (t0 t1 t2 t7 t8 : AV) (m : Mem) : R := goAt E0 51 1 ([t0, t1, t2, .undef, .undef, .undef, .undef, t7, t8] ++ List.replicate 86 .undef) m
noncomputable def g51_2 (t0 t1 t2 t7 t8 : AV) (m : Mem) : R := goAt E0 51 2 ([t0, t1, t2, .undef, .undef, .undef, .undef, t7, t8] ++ List.replicate 86 .undef) m
noncomputable def g51_3 (t0 t1 t2 t7 t8 : AV) (m : Mem) : R := goAt E0 51 3 ([t0, t1, t2, .undef, .undef, .undef, .undef, t7, t8] ++ List.replicate 86 .undef) m
theorem g51_0_eq (t0 t1 t2 t7 : AV) (m : Mem) : g51_0 t0 t1 t2 t7 m =
  Option.bind (lenT Tryz.prog 47 t0) fun x0 =>
  Option.bind (binA Tryz.prog .eql 3 t1 x0) fun x1 =>
  condA x1 (
   Option.bind (appendA 4 40 t0 t2 m) fun r2 =>
   some (r2.1, r2.2)) (
   g51_1 t0 t1 t2 t7 x0 m) :=
  goAt_eq 400 (by kernel_rfl)
theorem g51_1_eq (t0 t1 t2 t7 t8 : AV) (m : Mem) : g51_1 t0 t1 t2 t7 t8 m =
  Option.bind (binA Tryz.prog .add 3 t8 t7) fun x0 =>
  Option.bind (capT Tryz.prog 47 t0) fun x1 =>
  Option.bind (binA Tryz.prog .gtr 3 x0 x1) fun x2 =>
  condA x2 (
   Option.bind (sliceA Tryz.prog 47 t0 none (some t1)) fun x3 =>
   Option.bind (binA Tryz.prog .add 3 t8 t7) fun x4 =>
   Option.bind (binA Tryz.prog .sub 3 x4 t1) fun x5 =>
   Option.bind (appendZ Tryz.prog 47 x3 x5 m) fun r6 =>
   Option.bind (sliceA Tryz.prog 47 r6.1 (some t1) none) fun x7 =>
   Option.bind (copyA 4 x7 t2 r6.2) fun r8 =>
   Option.bind (binA Tryz.prog .add 3 t1 t7) fun x9 =>
   Option.bind (sliceA Tryz.prog 47 r6.1 (some x9) none) fun x10 =>
   Option.bind (sliceA Tryz.prog 47 t0 (some t1) none) fun x11 =>
   Option.bind (copyA 4 x10 x11 r8.2) fun r12 =>
   some (r6.1, r12.2)) (
   g51_2 t0 t1 t2 t7 t8 m) :=
  goAt_eq 400 (by kernel_rfl)
theorem g51_2_eq (t0 t1 t2 t7 t8 : AV) (m : Mem) : g51_2 t0 t1 t2 t7 t8 m =
  Option.bind (binA Tryz.prog .add 3 t8 t7) fun x0 =>
  Option.bind (sliceA Tryz.prog 47 t0 none (some x0)) fun x1 =>
  Option.bind (binA Tryz.prog .add 3 t1 t7) fun x2 =>
  Option.bind (sliceA Tryz.prog 47 x1 (some x2) none) fun x3 =>
  Option.bind (run E0 (.fn 90) [t2, x3] m) fun r4 =>
  Option.bind (unA .not r4.1) fun x5 =>
  condA x5 (
   Option.bind (binA Tryz.prog .add 3 t1 t7) fun x6 =>
   Option.bind (sliceA Tryz.prog 47 x1 (some x6) none) fun x7 =>
   Option.bind (sliceA Tryz.prog 47 x1 (some t1) none) fun x8 =>
   Option.bind (copyA 4 x7 x8 r4.2) fun r9 =>
   Option.bind (sliceA Tryz.prog 47 x1 (some t1) none) fun x10 =>
   Option.bind (copyA 4 x10 t2 r9.2) fun r11 =>
   some (x1, r11.2)) (
   g51_3 x1 t1 t2 t7 t8 r4.2) :=
  goAt_eq 400 (by kernel_rfl)
theorem g51_3_eq (t0 t1 t2 t7 t8 : AV) (m : Mem) : g51_3 t0 t1 t2 t7 t8 m =
  Option.bind (sliceA Tryz.prog 47 t0 (some t8) none) fun x0 =>
  Option.bind (copyA 4 x0 t2 m) fun r1 =>
  Option.bind (sliceA Tryz.prog 47 t0 (some t1) none) fun x2 =>
  Option.bind (run E0 (.fn 91) [x2, t7] r1.2) fun r3 =>
  some (t0, r3.2) :=
  goAt_eq 400 (by kernel_rfl)
theorem f51_eq (a0 a1 a2 : AV) (m : Mem) : run E0 (.fn 51) [a0, a1, a2] m =
  Option.bind (sliceA Tryz.prog 47 a0 (some a1) none) fun _ =>
  Option.bind (lenT Tryz.prog 47 a2) fun x1 =>
  Option.bind (binA Tryz.prog .eql 3 x1 (.int .i64 0)) fun x2 =>
  condA x2 (
   some (a0, m)) (
   g51_0 a0 a1 a2 x1 m) :=
  run_eq 400 rfl (by kernel_rfl) (by kernel_rfl)
noncomputable def g57_0 (t0 t1 t2 t7 : AV) (m : Mem) : R := goAt E0 57 0 ([t0, t1, t2, .undef, .undef, .undef, .undef, t7] ++ List.replicate 87 .undef) m
noncomputable def g57_1 (t0 t1 t2 t7 t8 : AV) (m : Mem) : R := goAt E0 57 1 ([t0, t1, t2, .undef, .undef, .undef, .undef, t7, t8] ++ List.replicate 86 .undef) m
noncomputable def g57_2 (t0 t1 t2 t7 t8 : AV) (m : Mem) : R := goAt E0 57 2 ([t0, t1, t2, .undef, .undef, .undef, .undef, t7, t8] ++ List.replicate 86 .undef) m
noncomputable def g57_3 (t0 t1 t2 t7 t8 : AV) (m : Mem) : R := goAt E0 57 3 ([t0, t1, t2, .undef, .undef, .undef, .undef, t7, t8] ++ List.replicate 86 .undef) m
theorem g57_0_eq (t0 t1 t2 t7 : AV) (m : Mem) : g57_0 t0 t1 t2 t7 m =
  Option.bind (lenT Tryz.prog 46 t0) fun x0 =>
  Option.bind (binA Tryz.prog .eql 3 t1 x0) fun x1 =>
  condA x1 (
   Option.bind (appendA 9 88 t0 t2 m) fun r2 =>
   some (r2.1, r2.2)) (
   g57_1 t0 t1 t2 t7 x0 m) :=
  goAt_eq 400 (by kernel_rfl)
theorem g57_1_eq (t0 t1 t2 t7 t8 : AV) (m : Mem) : g57_1 t0 t1 t2 t7 t8 m =
  Option.bind (binA Tryz.prog .add 3 t8 t7) fun x0 =>
  Option.bind (capT Tryz.prog 46 t0) fun x1 =>
  Option.bind (binA Tryz.prog .gtr 3 x0 x1) fun x2 =>
  condA x2 (
   Option.bind (sliceA Tryz.prog 46 t0 none (some t1)) fun x3 =>
   Option.bind (binA Tryz.prog .add 3 t8 t7) fun x4 =>
   Option.bind (binA Tryz.prog .sub 3 x4 t1) fun x5 =>
   Option.bind (appendZ Tryz.prog 46 x3 x5 m) fun r6 =>
   Option.bind (sliceA Tryz.prog 46 r6.1 (some t1) none) fun x7 =>
   Option.bind (copyA 9 x7 t2 r6.2) fun r8 =>
   Option.bind (binA Tryz.prog .add 3 t1 t7) fun x9 =>
   Option.bind (sliceA Tryz.prog 46 r6.1 (some x9) none) fun x10 =>
   Option.bind (sliceA Tryz.prog 46 t0 (some t1) none) fun x11 =>
   Option.bind (copyA 9 x10 x11 r8.2) fun r12 =>
   some (r6.1, r12.2)) (
   g57_2 t0 t1 t2 t7 t8 m) :=
  goAt_eq 400 (by kernel_rfl)
theorem g57_2_eq (t0 t1 t2 t7 t8 : AV) (m : Mem) : g57_2 t0 t1 t2 t7 t8 m =
  Option.bind (binA Tryz.prog .add 3 t8 t7) fun x0 =>
  Option.bind (sliceA Tryz.prog 46 t0 none (some x0)) fun x1 =>
  Option.bind (binA Tryz.prog .add 3 t1 t7) fun x2 =>
  Option.bind (sliceA Tryz.prog 46 x1 (some x2) none) fun x3 =>
  Option.bind (run E0 (.fn 95) [t2, x3] m) fun r4 =>
  Option.bind (unA .not r4.1) fun x5 =>
  condA x5 (
   Option.bind (binA Tryz.prog .add 3 t1 t7) fun x6 =>
   Option.bind (sliceA Tryz.prog 46 x1 (some x6) none) fun x7 =>
   Option.bind (sliceA Tryz.prog 46 x1 (some t1) none) fun x8 =>
   Option.bind (copyA 9 x7 x8 r4.2) fun r9 =>
   Option.bind (sliceA Tryz.prog 46 x1 (some t1) none) fun x10 =>
   Option.bind (copyA 9 x10 t2 r9.2) fun r11 =>
   some (x1, r11.2)) (
   g57_3 x1 t1 t2 t7 t8 r4.2) :=
  goAt_eq 400 (by kernel_rfl)
theorem g57_3_eq (t0 t1 t2 t7 t8 : AV) (m : Mem) : g57_3 t0 t1 t2 t7 t8 m =
  Option.bind (sliceA Tryz.prog 46 t0 (some t8) none) fun x0 =>
  Option.bind (copyA 9 x0 t2 m) fun r1 =>
  Option.bind (sliceA Tryz.prog 46 t0 (some t1) none) fun x2 =>
  Option.bind (run E0 (.fn 96) [x2, t7] r1.2) fun r3 =>
  some (t0, r3.2) :=
  goAt_eq 400 (by kernel_rfl)
theorem f57_eq (a0 a1 a2 : AV) (m : Mem) : run E0 (.fn 57) [a0, a1, a2] m =
  Option.bind (sliceA Tryz.prog 46 a0 (some a1) none) fun _ =>
  Option.bind (lenT Tryz.prog 46 a2) fun x1 =>
  Option.bind (binA Tryz.prog .eql 3 x1 (.int .i64 0)) fun x2 =>
  condA x2 (
   some (a0, m)) (
   g57_0 a0 a1 a2 x1 m) :=
  run_eq 400 rfl (by kernel_rfl) (by kernel_rfl)
end Go.Proofs.YtlginbmjiecglaaGreat
end
