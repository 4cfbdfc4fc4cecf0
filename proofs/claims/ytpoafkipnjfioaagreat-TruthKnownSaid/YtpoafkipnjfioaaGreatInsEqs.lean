/- Equations of functions between marks, printed by our own program (wip/tools/gen2.lean). -/
import Derived.Test.YtpoafkipnjfioaaGreatEnv0
import Derived.Test.YtpoafkipnjfioaaGreatAbs21
namespace Go.Proofs.YtpoafkipnjfioaaGreat
open Go Go.Abs
set_option maxRecDepth 4000
noncomputable def g84_0 (t0 t1 t2 t7 : AV) (m : Mem) : R := goAt E0 84 0 ([t0, t1, t2, .undef, .undef, .undef, .undef, t7] ++ List.replicate 87 .undef) m
noncomputable def g84_1 (t0 t1 t2 t7 t8 : AV) (m : Mem) : R := goAt E0 84 1 ([t0, t1, t2, .undef, .undef, .undef, .undef, t7, t8] ++ List.replicate 86 .undef) m
noncomputable def g84_2 (t0 t1 t2 t7 t8 : AV) (m : Mem) : R := goAt E0 84 2 ([t0, t1, t2, .undef, .undef, .undef, .undef, t7, t8] ++ List.replicate 86 .undef) m
noncomputable def g84_3 (t0 t1 t2 t7 t8 : AV) (m : Mem) : R := goAt E0 84 3 ([t0, t1, t2, .undef, .undef, .undef, .undef, t7, t8] ++ List.replicate 86 .undef) m
theorem g84_0_eq (t0 t1 t2 t7 : AV) (m : Mem) : g84_0 t0 t1 t2 t7 m =
  Option.bind (lenT Tryz.prog 169 t0) fun x0 =>
  Option.bind (binA Tryz.prog .eql 3 t1 x0) fun x1 =>
  condA x1 (
   Option.bind (appendA 1 16 t0 t2 m) fun r2 =>
   some (r2.1, r2.2)) (
   g84_1 t0 t1 t2 t7 x0 m) :=
  goAt_eq 400 (by kernel_rfl)
theorem g84_1_eq (t0 t1 t2 t7 t8 : AV) (m : Mem) : g84_1 t0 t1 t2 t7 t8 m =
  Option.bind (binA Tryz.prog .add 3 t8 t7) fun x0 =>
  Option.bind (capT Tryz.prog 169 t0) fun x1 =>
  Option.bind (binA Tryz.prog .gtr 3 x0 x1) fun x2 =>
  condA x2 (
   Option.bind (sliceA Tryz.prog 169 t0 none (some t1)) fun x3 =>
   Option.bind (binA Tryz.prog .add 3 t8 t7) fun x4 =>
   Option.bind (binA Tryz.prog .sub 3 x4 t1) fun x5 =>
   Option.bind (appendZ Tryz.prog 169 x3 x5 m) fun r6 =>
   Option.bind (sliceA Tryz.prog 169 r6.1 (some t1) none) fun x7 =>
   Option.bind (copyA 1 x7 t2 r6.2) fun r8 =>
   Option.bind (binA Tryz.prog .add 3 t1 t7) fun x9 =>
   Option.bind (sliceA Tryz.prog 169 r6.1 (some x9) none) fun x10 =>
   Option.bind (sliceA Tryz.prog 169 t0 (some t1) none) fun x11 =>
   Option.bind (copyA 1 x10 x11 r8.2) fun r12 =>
   some (r6.1, r12.2)) (
   g84_2 t0 t1 t2 t7 t8 m) :=
  goAt_eq 400 (by kernel_rfl)
theorem g84_2_eq (t0 t1 t2 t7 t8 : AV) (m : Mem) : g84_2 t0 t1 t2 t7 t8 m =
  Option.bind (binA Tryz.prog .add 3 t8 t7) fun x0 =>
  Option.bind (sliceA Tryz.prog 169 t0 none (some x0)) fun x1 =>
  Option.bind (binA Tryz.prog .add 3 t1 t7) fun x2 =>
  Option.bind (sliceA Tryz.prog 169 x1 (some x2) none) fun x3 =>
  Option.bind (run E0 (.fn 144) [t2, x3] m) fun r4 =>
  Option.bind (unA .not r4.1) fun x5 =>
  condA x5 (
   Option.bind (binA Tryz.prog .add 3 t1 t7) fun x6 =>
   Option.bind (sliceA Tryz.prog 169 x1 (some x6) none) fun x7 =>
   Option.bind (sliceA Tryz.prog 169 x1 (some t1) none) fun x8 =>
   Option.bind (copyA 1 x7 x8 r4.2) fun r9 =>
   Option.bind (sliceA Tryz.prog 169 x1 (some t1) none) fun x10 =>
   Option.bind (copyA 1 x10 t2 r9.2) fun r11 =>
   some (x1, r11.2)) (
   g84_3 x1 t1 t2 t7 t8 r4.2) :=
  goAt_eq 400 (by kernel_rfl)
theorem g84_3_eq (t0 t1 t2 t7 t8 : AV) (m : Mem) : g84_3 t0 t1 t2 t7 t8 m =
  Option.bind (sliceA Tryz.prog 169 t0 (some t8) none) fun x0 =>
  Option.bind (copyA 1 x0 t2 m) fun r1 =>
  Option.bind (sliceA Tryz.prog 169 t0 (some t1) none) fun x2 =>
  Option.bind (run E0 (.fn 145) [x2, t7] r1.2) fun r3 =>
  some (t0, r3.2) :=
  goAt_eq 400 (by kernel_rfl)
theorem f84_eq (a0 a1 a2 : AV) (m : Mem) : run E0 (.fn 84) [a0, a1, a2] m =
  Option.bind (sliceA Tryz.prog 169 a0 (some a1) none) fun _ =>
  Option.bind (lenT Tryz.prog 169 a2) fun x1 =>
  Option.bind (binA Tryz.prog .eql 3 x1 (.int .i64 0)) fun x2 =>
  condA x2 (
   some (a0, m)) (
   g84_0 a0 a1 a2 x1 m) :=
  run_eq 400 rfl (by kernel_rfl) (by kernel_rfl)
noncomputable def g85_0 (t0 t1 t2 t7 : AV) (m : Mem) : R := goAt E0 85 0 ([t0, t1, t2, .undef, .undef, .undef, .undef, t7] ++ List.replicate 87 .undef) m
noncomputable def g85_1 (t0 t1 t2 t7 t8 : AV) (m : Mem) : R := goAt E0 85 1 ([t0, t1, t2, .undef, .undef, .undef, .undef, t7, t8] ++ List.replicate 86 .undef) m
noncomputable def g85_2 (t0 t1 t2 t7 t8 : AV) (m : Mem) : R := goAt E0 85 2 ([t0, t1, t2, .undef, .undef, .undef, .undef, t7, t8] ++ List.replicate 86 .undef) m
noncomputable def g85_3 (t0 t1 t2 t7 t8 : AV) (m : Mem) : R := goAt E0 85 3 ([t0, t1, t2, .undef, .undef, .undef, .undef, t7, t8] ++ List.replicate 86 .undef) m
theorem g85_0_eq (t0 t1 t2 t7 : AV) (m : Mem) : g85_0 t0 t1 t2 t7 m =
  Option.bind (lenT Tryz.prog 44 t0) fun x0 =>
  Option.bind (binA Tryz.prog .eql 3 t1 x0) fun x1 =>
  condA x1 (
   Option.bind (appendA 4 40 t0 t2 m) fun r2 =>
   some (r2.1, r2.2)) (
   g85_1 t0 t1 t2 t7 x0 m) :=
  goAt_eq 400 (by kernel_rfl)
theorem g85_1_eq (t0 t1 t2 t7 t8 : AV) (m : Mem) : g85_1 t0 t1 t2 t7 t8 m =
  Option.bind (binA Tryz.prog .add 3 t8 t7) fun x0 =>
  Option.bind (capT Tryz.prog 44 t0) fun x1 =>
  Option.bind (binA Tryz.prog .gtr 3 x0 x1) fun x2 =>
  condA x2 (
   Option.bind (sliceA Tryz.prog 44 t0 none (some t1)) fun x3 =>
   Option.bind (binA Tryz.prog .add 3 t8 t7) fun x4 =>
   Option.bind (binA Tryz.prog .sub 3 x4 t1) fun x5 =>
   Option.bind (appendZ Tryz.prog 44 x3 x5 m) fun r6 =>
   Option.bind (sliceA Tryz.prog 44 r6.1 (some t1) none) fun x7 =>
   Option.bind (copyA 4 x7 t2 r6.2) fun r8 =>
   Option.bind (binA Tryz.prog .add 3 t1 t7) fun x9 =>
   Option.bind (sliceA Tryz.prog 44 r6.1 (some x9) none) fun x10 =>
   Option.bind (sliceA Tryz.prog 44 t0 (some t1) none) fun x11 =>
   Option.bind (copyA 4 x10 x11 r8.2) fun r12 =>
   some (r6.1, r12.2)) (
   g85_2 t0 t1 t2 t7 t8 m) :=
  goAt_eq 400 (by kernel_rfl)
theorem g85_2_eq (t0 t1 t2 t7 t8 : AV) (m : Mem) : g85_2 t0 t1 t2 t7 t8 m =
  Option.bind (binA Tryz.prog .add 3 t8 t7) fun x0 =>
  Option.bind (sliceA Tryz.prog 44 t0 none (some x0)) fun x1 =>
  Option.bind (binA Tryz.prog .add 3 t1 t7) fun x2 =>
  Option.bind (sliceA Tryz.prog 44 x1 (some x2) none) fun x3 =>
  Option.bind (run E0 (.fn 146) [t2, x3] m) fun r4 =>
  Option.bind (unA .not r4.1) fun x5 =>
  condA x5 (
   Option.bind (binA Tryz.prog .add 3 t1 t7) fun x6 =>
   Option.bind (sliceA Tryz.prog 44 x1 (some x6) none) fun x7 =>
   Option.bind (sliceA Tryz.prog 44 x1 (some t1) none) fun x8 =>
   Option.bind (copyA 4 x7 x8 r4.2) fun r9 =>
   Option.bind (sliceA Tryz.prog 44 x1 (some t1) none) fun x10 =>
   Option.bind (copyA 4 x10 t2 r9.2) fun r11 =>
   some (x1, r11.2)) (
   g85_3 x1 t1 t2 t7 t8 r4.2) :=
  goAt_eq 400 (by kernel_rfl)
theorem g85_3_eq (t0 t1 t2 t7 t8 : AV) (m : Mem) : g85_3 t0 t1 t2 t7 t8 m =
  Option.bind (sliceA Tryz.prog 44 t0 (some t8) none) fun x0 =>
  Option.bind (copyA 4 x0 t2 m) fun r1 =>
  Option.bind (sliceA Tryz.prog 44 t0 (some t1) none) fun x2 =>
  Option.bind (run E0 (.fn 147) [x2, t7] r1.2) fun r3 =>
  some (t0, r3.2) :=
  goAt_eq 400 (by kernel_rfl)
theorem f85_eq (a0 a1 a2 : AV) (m : Mem) : run E0 (.fn 85) [a0, a1, a2] m =
  Option.bind (sliceA Tryz.prog 44 a0 (some a1) none) fun _ =>
  Option.bind (lenT Tryz.prog 44 a2) fun x1 =>
  Option.bind (binA Tryz.prog .eql 3 x1 (.int .i64 0)) fun x2 =>
  condA x2 (
   some (a0, m)) (
   g85_0 a0 a1 a2 x1 m) :=
  run_eq 400 rfl (by kernel_rfl) (by kernel_rfl)
noncomputable def g87_0 (t0 t1 t2 t7 : AV) (m : Mem) : R := goAt E0 87 0 ([t0, t1, t2, .undef, .undef, .undef, .undef, t7] ++ List.replicate 87 .undef) m
noncomputable def g87_1 (t0 t1 t2 t7 t8 : AV) (m : Mem) : R := goAt E0 87 1 ([t0, t1, t2, .undef, .undef, .undef, .undef, t7, t8] ++ List.replicate 86 .undef) m
noncomputable def g87_2 (t0 t1 t2 t7 t8 : AV) (m : Mem) : R := goAt E0 87 2 ([t0, t1, t2, .undef, .undef, .undef, .undef, t7, t8] ++ List.replicate 86 .undef) m
noncomputable def g87_3 (t0 t1 t2 t7 t8 : AV) (m : Mem) : R := goAt E0 87 3 ([t0, t1, t2, .undef, .undef, .undef, .undef, t7, t8] ++ List.replicate 86 .undef) m
theorem g87_0_eq (t0 t1 t2 t7 : AV) (m : Mem) : g87_0 t0 t1 t2 t7 m =
  Option.bind (lenT Tryz.prog 139 t0) fun x0 =>
  Option.bind (binA Tryz.prog .eql 3 t1 x0) fun x1 =>
  condA x1 (
   Option.bind (appendA 1 8 t0 t2 m) fun r2 =>
   some (r2.1, r2.2)) (
   g87_1 t0 t1 t2 t7 x0 m) :=
  goAt_eq 400 (by kernel_rfl)
theorem g87_1_eq (t0 t1 t2 t7 t8 : AV) (m : Mem) : g87_1 t0 t1 t2 t7 t8 m =
  Option.bind (binA Tryz.prog .add 3 t8 t7) fun x0 =>
  Option.bind (capT Tryz.prog 139 t0) fun x1 =>
  Option.bind (binA Tryz.prog .gtr 3 x0 x1) fun x2 =>
  condA x2 (
   Option.bind (sliceA Tryz.prog 139 t0 none (some t1)) fun x3 =>
   Option.bind (binA Tryz.prog .add 3 t8 t7) fun x4 =>
   Option.bind (binA Tryz.prog .sub 3 x4 t1) fun x5 =>
   Option.bind (appendZ Tryz.prog 139 x3 x5 m) fun r6 =>
   Option.bind (sliceA Tryz.prog 139 r6.1 (some t1) none) fun x7 =>
   Option.bind (copyA 1 x7 t2 r6.2) fun r8 =>
   Option.bind (binA Tryz.prog .add 3 t1 t7) fun x9 =>
   Option.bind (sliceA Tryz.prog 139 r6.1 (some x9) none) fun x10 =>
   Option.bind (sliceA Tryz.prog 139 t0 (some t1) none) fun x11 =>
   Option.bind (copyA 1 x10 x11 r8.2) fun r12 =>
   some (r6.1, r12.2)) (
   g87_2 t0 t1 t2 t7 t8 m) :=
  goAt_eq 400 (by kernel_rfl)
theorem g87_2_eq (t0 t1 t2 t7 t8 : AV) (m : Mem) : g87_2 t0 t1 t2 t7 t8 m =
  Option.bind (binA Tryz.prog .add 3 t8 t7) fun x0 =>
  Option.bind (sliceA Tryz.prog 139 t0 none (some x0)) fun x1 =>
  Option.bind (binA Tryz.prog .add 3 t1 t7) fun x2 =>
  Option.bind (sliceA Tryz.prog 139 x1 (some x2) none) fun x3 =>
  Option.bind (run E0 (.fn 150) [t2, x3] m) fun r4 =>
  Option.bind (unA .not r4.1) fun x5 =>
  condA x5 (
   Option.bind (binA Tryz.prog .add 3 t1 t7) fun x6 =>
   Option.bind (sliceA Tryz.prog 139 x1 (some x6) none) fun x7 =>
   Option.bind (sliceA Tryz.prog 139 x1 (some t1) none) fun x8 =>
   Option.bind (copyA 1 x7 x8 r4.2) fun r9 =>
   Option.bind (sliceA Tryz.prog 139 x1 (some t1) none) fun x10 =>
   Option.bind (copyA 1 x10 t2 r9.2) fun r11 =>
   some (x1, r11.2)) (
   g87_3 x1 t1 t2 t7 t8 r4.2) :=
  goAt_eq 400 (by kernel_rfl)
theorem g87_3_eq (t0 t1 t2 t7 t8 : AV) (m : Mem) : g87_3 t0 t1 t2 t7 t8 m =
  Option.bind (sliceA Tryz.prog 139 t0 (some t8) none) fun x0 =>
  Option.bind (copyA 1 x0 t2 m) fun r1 =>
  Option.bind (sliceA Tryz.prog 139 t0 (some t1) none) fun x2 =>
  Option.bind (run E0 (.fn 151) [x2, t7] r1.2) fun r3 =>
  some (t0, r3.2) :=
  goAt_eq 400 (by kernel_rfl)
theorem f87_eq (a0 a1 a2 : AV) (m : Mem) : run E0 (.fn 87) [a0, a1, a2] m =
  Option.bind (sliceA Tryz.prog 139 a0 (some a1) none) fun _ =>
  Option.bind (lenT Tryz.prog 139 a2) fun x1 =>
  Option.bind (binA Tryz.prog .eql 3 x1 (.int .i64 0)) fun x2 =>
  condA x2 (
   some (a0, m)) (
   g87_0 a0 a1 a2 x1 m) :=
  run_eq 400 rfl (by kernel_rfl) (by kernel_rfl)
noncomputable def g88_0 (t0 t1 t2 t7 : AV) (m : Mem) : R := goAt E0 88 0 ([t0, t1, t2, .undef, .undef, .undef, .undef, t7] ++ List.replicate 87 .undef) m
noncomputable def g88_1 (t0 t1 t2 t7 t8 : AV) (m : Mem) : R := goAt E0 88 1 ([t0, t1, t2, .undef, .undef, .undef, .undef, t7, t8] ++ List.replicate 86 .undef) m
noncomputable def g88_2 (t0 t1 t2 t7 t8 : AV) (m : Mem) : R := goAt E0 88 2 ([t0, t1, t2, .undef, .undef, .undef, .undef, t7, t8] ++ List.replicate 86 .undef) m
noncomputable def g88_3 (t0 t1 t2 t7 t8 : AV) (m : Mem) : R := goAt E0 88 3 ([t0, t1, t2, .undef, .undef, .undef, .undef, t7, t8] ++ List.replicate 86 .undef) m
theorem g88_0_eq (t0 t1 t2 t7 : AV) (m : Mem) : g88_0 t0 t1 t2 t7 m =
  Option.bind (lenT Tryz.prog 46 t0) fun x0 =>
  Option.bind (binA Tryz.prog .eql 3 t1 x0) fun x1 =>
  condA x1 (
   Option.bind (appendA 4 40 t0 t2 m) fun r2 =>
   some (r2.1, r2.2)) (
   g88_1 t0 t1 t2 t7 x0 m) :=
  goAt_eq 400 (by kernel_rfl)
theorem g88_1_eq (t0 t1 t2 t7 t8 : AV) (m : Mem) : g88_1 t0 t1 t2 t7 t8 m =
  Option.bind (binA Tryz.prog .add 3 t8 t7) fun x0 =>
  Option.bind (capT Tryz.prog 46 t0) fun x1 =>
  Option.bind (binA Tryz.prog .gtr 3 x0 x1) fun x2 =>
  condA x2 (
   Option.bind (sliceA Tryz.prog 46 t0 none (some t1)) fun x3 =>
   Option.bind (binA Tryz.prog .add 3 t8 t7) fun x4 =>
   Option.bind (binA Tryz.prog .sub 3 x4 t1) fun x5 =>
   Option.bind (appendZ Tryz.prog 46 x3 x5 m) fun r6 =>
   Option.bind (sliceA Tryz.prog 46 r6.1 (some t1) none) fun x7 =>
   Option.bind (copyA 4 x7 t2 r6.2) fun r8 =>
   Option.bind (binA Tryz.prog .add 3 t1 t7) fun x9 =>
   Option.bind (sliceA Tryz.prog 46 r6.1 (some x9) none) fun x10 =>
   Option.bind (sliceA Tryz.prog 46 t0 (some t1) none) fun x11 =>
   Option.bind (copyA 4 x10 x11 r8.2) fun r12 =>
   some (r6.1, r12.2)) (
   g88_2 t0 t1 t2 t7 t8 m) :=
  goAt_eq 400 (by kernel_rfl)
theorem g88_2_eq (t0 t1 t2 t7 t8 : AV) (m : Mem) : g88_2 t0 t1 t2 t7 t8 m =
  Option.bind (binA Tryz.prog .add 3 t8 t7) fun x0 =>
  Option.bind (sliceA Tryz.prog 46 t0 none (some x0)) fun x1 =>
  Option.bind (binA Tryz.prog .add 3 t1 t7) fun x2 =>
  Option.bind (sliceA Tryz.prog 46 x1 (some x2) none) fun x3 =>
  Option.bind (run E0 (.fn 152) [t2, x3] m) fun r4 =>
  Option.bind (unA .not r4.1) fun x5 =>
  condA x5 (
   Option.bind (binA Tryz.prog .add 3 t1 t7) fun x6 =>
   Option.bind (sliceA Tryz.prog 46 x1 (some x6) none) fun x7 =>
   Option.bind (sliceA Tryz.prog 46 x1 (some t1) none) fun x8 =>
   Option.bind (copyA 4 x7 x8 r4.2) fun r9 =>
   Option.bind (sliceA Tryz.prog 46 x1 (some t1) none) fun x10 =>
   Option.bind (copyA 4 x10 t2 r9.2) fun r11 =>
   some (x1, r11.2)) (
   g88_3 x1 t1 t2 t7 t8 r4.2) :=
  goAt_eq 400 (by kernel_rfl)
theorem g88_3_eq (t0 t1 t2 t7 t8 : AV) (m : Mem) : g88_3 t0 t1 t2 t7 t8 m =
  Option.bind (sliceA Tryz.prog 46 t0 (some t8) none) fun x0 =>
  Option.bind (copyA 4 x0 t2 m) fun r1 =>
  Option.bind (sliceA Tryz.prog 46 t0 (some t1) none) fun x2 =>
  Option.bind (run E0 (.fn 153) [x2, t7] r1.2) fun r3 =>
  some (t0, r3.2) :=
  goAt_eq 400 (by kernel_rfl)
theorem f88_eq (a0 a1 a2 : AV) (m : Mem) : run E0 (.fn 88) [a0, a1, a2] m =
  Option.bind (sliceA Tryz.prog 46 a0 (some a1) none) fun _ =>
  Option.bind (lenT Tryz.prog 46 a2) fun x1 =>
  Option.bind (binA Tryz.prog .eql 3 x1 (.int .i64 0)) fun x2 =>
  condA x2 (
   some (a0, m)) (
   g88_0 a0 a1 a2 x1 m) :=
  run_eq 400 rfl (by kernel_rfl) (by kernel_rfl)
noncomputable def g96_0 (t0 t1 t2 t7 : AV) (m : Mem) : R := goAt E0 96 0 ([t0, t1, t2, .undef, .undef, .undef, .undef, t7] ++ List.replicate 87 .undef) m
noncomputable def g96_1 (t0 t1 t2 t7 t8 : AV) (m : Mem) : R := goAt E0 96 1 ([t0, t1, t2, .undef, .undef, .undef, .undef, t7, t8] ++ List.replicate 86 .undef) m
noncomputable def g96_2 (t0 t1 t2 t7 t8 : AV) (m : Mem) : R := goAt E0 96 2 ([t0, t1, t2, .undef, .undef, .undef, .undef, t7, t8] ++ List.replicate 86 .undef) m
noncomputable def g96_3 (t0 t1 t2 t7 t8 : AV) (m : Mem) : R := goAt E0 96 3 ([t0, t1, t2, .undef, .undef, .undef, .undef, t7, t8] ++ List.replicate 86 .undef) m
theorem g96_0_eq (t0 t1 t2 t7 : AV) (m : Mem) : g96_0 t0 t1 t2 t7 m =
  Option.bind (lenT Tryz.prog 45 t0) fun x0 =>
  Option.bind (binA Tryz.prog .eql 3 t1 x0) fun x1 =>
  condA x1 (
   Option.bind (appendA 9 88 t0 t2 m) fun r2 =>
   some (r2.1, r2.2)) (
   g96_1 t0 t1 t2 t7 x0 m) :=
  goAt_eq 400 (by kernel_rfl)
theorem g96_1_eq (t0 t1 t2 t7 t8 : AV) (m : Mem) : g96_1 t0 t1 t2 t7 t8 m =
  Option.bind (binA Tryz.prog .add 3 t8 t7) fun x0 =>
  Option.bind (capT Tryz.prog 45 t0) fun x1 =>
  Option.bind (binA Tryz.prog .gtr 3 x0 x1) fun x2 =>
  condA x2 (
   Option.bind (sliceA Tryz.prog 45 t0 none (some t1)) fun x3 =>
   Option.bind (binA Tryz.prog .add 3 t8 t7) fun x4 =>
   Option.bind (binA Tryz.prog .sub 3 x4 t1) fun x5 =>
   Option.bind (appendZ Tryz.prog 45 x3 x5 m) fun r6 =>
   Option.bind (sliceA Tryz.prog 45 r6.1 (some t1) none) fun x7 =>
   Option.bind (copyA 9 x7 t2 r6.2) fun r8 =>
   Option.bind (binA Tryz.prog .add 3 t1 t7) fun x9 =>
   Option.bind (sliceA Tryz.prog 45 r6.1 (some x9) none) fun x10 =>
   Option.bind (sliceA Tryz.prog 45 t0 (some t1) none) fun x11 =>
   Option.bind (copyA 9 x10 x11 r8.2) fun r12 =>
   some (r6.1, r12.2)) (
   g96_2 t0 t1 t2 t7 t8 m) :=
  goAt_eq 400 (by kernel_rfl)
theorem g96_2_eq (t0 t1 t2 t7 t8 : AV) (m : Mem) : g96_2 t0 t1 t2 t7 t8 m =
  Option.bind (binA Tryz.prog .add 3 t8 t7) fun x0 =>
  Option.bind (sliceA Tryz.prog 45 t0 none (some x0)) fun x1 =>
  Option.bind (binA Tryz.prog .add 3 t1 t7) fun x2 =>
  Option.bind (sliceA Tryz.prog 45 x1 (some x2) none) fun x3 =>
  Option.bind (run E0 (.fn 158) [t2, x3] m) fun r4 =>
  Option.bind (unA .not r4.1) fun x5 =>
  condA x5 (
   Option.bind (binA Tryz.prog .add 3 t1 t7) fun x6 =>
   Option.bind (sliceA Tryz.prog 45 x1 (some x6) none) fun x7 =>
   Option.bind (sliceA Tryz.prog 45 x1 (some t1) none) fun x8 =>
   Option.bind (copyA 9 x7 x8 r4.2) fun r9 =>
   Option.bind (sliceA Tryz.prog 45 x1 (some t1) none) fun x10 =>
   Option.bind (copyA 9 x10 t2 r9.2) fun r11 =>
   some (x1, r11.2)) (
   g96_3 x1 t1 t2 t7 t8 r4.2) :=
  goAt_eq 400 (by kernel_rfl)
theorem g96_3_eq (t0 t1 t2 t7 t8 : AV) (m : Mem) : g96_3 t0 t1 t2 t7 t8 m =
  Option.bind (sliceA Tryz.prog 45 t0 (some t8) none) fun x0 =>
  Option.bind (copyA 9 x0 t2 m) fun r1 =>
  Option.bind (sliceA Tryz.prog 45 t0 (some t1) none) fun x2 =>
  Option.bind (run E0 (.fn 159) [x2, t7] r1.2) fun r3 =>
  some (t0, r3.2) :=
  goAt_eq 400 (by kernel_rfl)
theorem f96_eq (a0 a1 a2 : AV) (m : Mem) : run E0 (.fn 96) [a0, a1, a2] m =
  Option.bind (sliceA Tryz.prog 45 a0 (some a1) none) fun _ =>
  Option.bind (lenT Tryz.prog 45 a2) fun x1 =>
  Option.bind (binA Tryz.prog .eql 3 x1 (.int .i64 0)) fun x2 =>
  condA x2 (
   some (a0, m)) (
   g96_0 a0 a1 a2 x1 m) :=
  run_eq 400 rfl (by kernel_rfl) (by kernel_rfl)
noncomputable def g175_0 (t0 t1 t2 t7 : AV) (m : Mem) : R := goAt E0 175 0 ([t0, t1, t2, .undef, .undef, .undef, .undef, t7] ++ List.replicate 87 .undef) m
noncomputable def g175_1 (t0 t1 t2 t7 t8 : AV) (m : Mem) : R := goAt E0 175 1 ([t0, t1, t2, .undef, .undef, .undef, .undef, t7, t8] ++ List.replicate 86 .undef) m
noncomputable def g175_2 (t0 t1 t2 t7 t8 : AV) (m : Mem) : R := goAt E0 175 2 ([t0, t1, t2, .undef, .undef, .undef, .undef, t7, t8] ++ List.replicate 86 .undef) m
noncomputable def g175_3 (t0 t1 t2 t7 t8 : AV) (m : Mem) : R := goAt E0 175 3 ([t0, t1, t2, .undef, .undef, .undef, .undef, t7, t8] ++ List.replicate 86 .undef) m
theorem g175_0_eq (t0 t1 t2 t7 : AV) (m : Mem) : g175_0 t0 t1 t2 t7 m =
  Option.bind (lenT Tryz.prog 67 t0) fun x0 =>
  Option.bind (binA Tryz.prog .eql 3 t1 x0) fun x1 =>
  condA x1 (
   Option.bind (appendA 4 48 t0 t2 m) fun r2 =>
   some (r2.1, r2.2)) (
   g175_1 t0 t1 t2 t7 x0 m) :=
  goAt_eq 400 (by kernel_rfl)
theorem g175_1_eq (t0 t1 t2 t7 t8 : AV) (m : Mem) : g175_1 t0 t1 t2 t7 t8 m =
  Option.bind (binA Tryz.prog .add 3 t8 t7) fun x0 =>
  Option.bind (capT Tryz.prog 67 t0) fun x1 =>
  Option.bind (binA Tryz.prog .gtr 3 x0 x1) fun x2 =>
  condA x2 (
   Option.bind (sliceA Tryz.prog 67 t0 none (some t1)) fun x3 =>
   Option.bind (binA Tryz.prog .add 3 t8 t7) fun x4 =>
   Option.bind (binA Tryz.prog .sub 3 x4 t1) fun x5 =>
   Option.bind (appendZ Tryz.prog 67 x3 x5 m) fun r6 =>
   Option.bind (sliceA Tryz.prog 67 r6.1 (some t1) none) fun x7 =>
   Option.bind (copyA 4 x7 t2 r6.2) fun r8 =>
   Option.bind (binA Tryz.prog .add 3 t1 t7) fun x9 =>
   Option.bind (sliceA Tryz.prog 67 r6.1 (some x9) none) fun x10 =>
   Option.bind (sliceA Tryz.prog 67 t0 (some t1) none) fun x11 =>
   Option.bind (copyA 4 x10 x11 r8.2) fun r12 =>
   some (r6.1, r12.2)) (
   g175_2 t0 t1 t2 t7 t8 m) :=
  goAt_eq 400 (by kernel_rfl)
theorem g175_2_eq (t0 t1 t2 t7 t8 : AV) (m : Mem) : g175_2 t0 t1 t2 t7 t8 m =
  Option.bind (binA Tryz.prog .add 3 t8 t7) fun x0 =>
  Option.bind (sliceA Tryz.prog 67 t0 none (some x0)) fun x1 =>
  Option.bind (binA Tryz.prog .add 3 t1 t7) fun x2 =>
  Option.bind (sliceA Tryz.prog 67 x1 (some x2) none) fun x3 =>
  Option.bind (run E0 (.fn 223) [t2, x3] m) fun r4 =>
  Option.bind (unA .not r4.1) fun x5 =>
  condA x5 (
   Option.bind (binA Tryz.prog .add 3 t1 t7) fun x6 =>
   Option.bind (sliceA Tryz.prog 67 x1 (some x6) none) fun x7 =>
   Option.bind (sliceA Tryz.prog 67 x1 (some t1) none) fun x8 =>
   Option.bind (copyA 4 x7 x8 r4.2) fun r9 =>
   Option.bind (sliceA Tryz.prog 67 x1 (some t1) none) fun x10 =>
   Option.bind (copyA 4 x10 t2 r9.2) fun r11 =>
   some (x1, r11.2)) (
   g175_3 x1 t1 t2 t7 t8 r4.2) :=
  goAt_eq 400 (by kernel_rfl)
theorem g175_3_eq (t0 t1 t2 t7 t8 : AV) (m : Mem) : g175_3 t0 t1 t2 t7 t8 m =
  Option.bind (sliceA Tryz.prog 67 t0 (some t8) none) fun x0 =>
  Option.bind (copyA 4 x0 t2 m) fun r1 =>
  Option.bind (sliceA Tryz.prog 67 t0 (some t1) none) fun x2 =>
  Option.bind (run E0 (.fn 224) [x2, t7] r1.2) fun r3 =>
  some (t0, r3.2) :=
  goAt_eq 400 (by kernel_rfl)
theorem f175_eq (a0 a1 a2 : AV) (m : Mem) : run E0 (.fn 175) [a0, a1, a2] m =
  Option.bind (sliceA Tryz.prog 67 a0 (some a1) none) fun _ =>
  Option.bind (lenT Tryz.prog 67 a2) fun x1 =>
  Option.bind (binA Tryz.prog .eql 3 x1 (.int .i64 0)) fun x2 =>
  condA x2 (
   some (a0, m)) (
   g175_0 a0 a1 a2 x1 m) :=
  run_eq 400 rfl (by kernel_rfl) (by kernel_rfl)
end Go.Proofs.YtpoafkipnjfioaaGreat
