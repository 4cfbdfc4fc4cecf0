/- Equations of functions between marks, printed by our own program (wip/tools/gen2.lean). -/
import Derived.Test.YtlginbmjiecglaaEnv0
import Derived.Test.YtlginbmjiecglaaAbs21
namespace Go.Proofs.Ytlginbmjiecglaa
open Go Go.Abs
set_option maxRecDepth 4000
noncomputable def g26_0 (t0 t1 t2 t7 : AV) (m : Mem) : R := goAt E0 26 0 ([t0, t1, t2, .undef, .undef, .undef, .undef, t7] ++ List.replicate 87 .undef) m
noncomputable def g26_1 (t0 t1 t2 t7 t8 : AV) (m : Mem) : R := goAt E0 26 1 ([t0, t1, t2, .undef, .undef, .undef, .undef, t7, t8] ++ List.replicate 86 .undef) m
noncomputable def g26_2 (t0 t1 t2 t7 t8 : AV) (m : Mem) : R := goAt E0 26 2 ([t0, t1, t2, .undef, .undef, .undef, .undef, t7, t8] ++ List.replicate 86 .undef) m
noncomputable def g26_3 (t0 t1 t2 t7 t8 : AV) (m : Mem) : R := goAt E0 26 3 ([t0, t1, t2, .undef, .undef, .undef, .undef, t7, t8] ++ List.replicate 86 .undef) m
theorem g26_0_eq (t0 t1 t2 t7 : AV) (m : Mem) : g26_0 t0 t1 t2 t7 m =
  Option.bind (lenT Try.prog 65 t0) fun x0 =>
  Option.bind (binA Try.prog .eql 3 t1 x0) fun x1 =>
  condA x1 (
   Option.bind (appendA 1 16 t0 t2 m) fun r2 =>
   some (r2.1, r2.2)) (
   g26_1 t0 t1 t2 t7 x0 m) :=
  goAt_eq 400 (by kernel_rfl)
theorem g26_1_eq (t0 t1 t2 t7 t8 : AV) (m : Mem) : g26_1 t0 t1 t2 t7 t8 m =
  Option.bind (binA Try.prog .add 3 t8 t7) fun x0 =>
  Option.bind (capT Try.prog 65 t0) fun x1 =>
  Option.bind (binA Try.prog .gtr 3 x0 x1) fun x2 =>
  condA x2 (
   Option.bind (sliceA Try.prog 65 t0 none (some t1)) fun x3 =>
   Option.bind (binA Try.prog .add 3 t8 t7) fun x4 =>
   Option.bind (binA Try.prog .sub 3 x4 t1) fun x5 =>
   Option.bind (appendZ Try.prog 65 x3 x5 m) fun r6 =>
   Option.bind (sliceA Try.prog 65 r6.1 (some t1) none) fun x7 =>
   Option.bind (copyA 1 x7 t2 r6.2) fun r8 =>
   Option.bind (binA Try.prog .add 3 t1 t7) fun x9 =>
   Option.bind (sliceA Try.prog 65 r6.1 (some x9) none) fun x10 =>
   Option.bind (sliceA Try.prog 65 t0 (some t1) none) fun x11 =>
   Option.bind (copyA 1 x10 x11 r8.2) fun r12 =>
   some (r6.1, r12.2)) (
   g26_2 t0 t1 t2 t7 t8 m) :=
  goAt_eq 400 (by kernel_rfl)
theorem g26_2_eq (t0 t1 t2 t7 t8 : AV) (m : Mem) : g26_2 t0 t1 t2 t7 t8 m =
  Option.bind (binA Try.prog .add 3 t8 t7) fun x0 =>
  Option.bind (sliceA Try.prog 65 t0 none (some x0)) fun x1 =>
  Option.bind (binA Try.prog .add 3 t1 t7) fun x2 =>
  Option.bind (sliceA Try.prog 65 x1 (some x2) none) fun x3 =>
  Option.bind (run E0 (.fn 37) [t2, x3] m) fun r4 =>
  Option.bind (unA .not r4.1) fun x5 =>
  condA x5 (
   Option.bind (binA Try.prog .add 3 t1 t7) fun x6 =>
   Option.bind (sliceA Try.prog 65 x1 (some x6) none) fun x7 =>
   Option.bind (sliceA Try.prog 65 x1 (some t1) none) fun x8 =>
   Option.bind (copyA 1 x7 x8 r4.2) fun r9 =>
   Option.bind (sliceA Try.prog 65 x1 (some t1) none) fun x10 =>
   Option.bind (copyA 1 x10 t2 r9.2) fun r11 =>
   some (x1, r11.2)) (
   g26_3 x1 t1 t2 t7 t8 r4.2) :=
  goAt_eq 400 (by kernel_rfl)
theorem g26_3_eq (t0 t1 t2 t7 t8 : AV) (m : Mem) : g26_3 t0 t1 t2 t7 t8 m =
  Option.bind (sliceA Try.prog 65 t0 (some t8) none) fun x0 =>
  Option.bind (copyA 1 x0 t2 m) fun r1 =>
  Option.bind (sliceA Try.prog 65 t0 (some t1) none) fun x2 =>
  Option.bind (run E0 (.fn 38) [x2, t7] r1.2) fun r3 =>
  some (t0, r3.2) :=
  goAt_eq 400 (by kernel_rfl)
theorem f26_eq (a0 a1 a2 : AV) (m : Mem) : run E0 (.fn 26) [a0, a1, a2] m =
  Option.bind (sliceA Try.prog 65 a0 (some a1) none) fun _ =>
  Option.bind (lenT Try.prog 65 a2) fun x1 =>
  Option.bind (binA Try.prog .eql 3 x1 (.int .i64 0)) fun x2 =>
  condA x2 (
   some (a0, m)) (
   g26_0 a0 a1 a2 x1 m) :=
  run_eq 400 rfl (by kernel_rfl) (by kernel_rfl)
noncomputable def g27_0 (t0 t1 t2 t7 : AV) (m : Mem) : R := goAt E0 27 0 ([t0, t1, t2, .undef, .undef, .undef, .undef, t7] ++ List.replicate 87 .undef) m
noncomputable def g27_1 (t0 t1 t2 t7 t8 : AV) (m : Mem) : R := goAt E0 27 1 ([t0, t1, t2, .undef, .undef, .undef, .undef, t7, t8] ++ List.replicate 86 .undef) m
noncomputable def g27_2 (t0 t1 t2 t7 t8 : AV) (m : Mem) : R := goAt E0 27 2 ([t0, t1, t2, .undef, .undef, .undef, .undef, t7, t8] ++ List.replicate 86 .undef) m
noncomputable def g27_3 (t0 t1 t2 t7 t8 : AV) (m : Mem) : R := goAt E0 27 3 ([t0, t1, t2, .undef, .undef, .undef, .undef, t7, t8] ++ List.replicate 86 .undef) m
theorem g27_0_eq (t0 t1 t2 t7 : AV) (m : Mem) : g27_0 t0 t1 t2 t7 m =
  Option.bind (lenT Try.prog 66 t0) fun x0 =>
  Option.bind (binA Try.prog .eql 3 t1 x0) fun x1 =>
  condA x1 (
   Option.bind (appendA 4 40 t0 t2 m) fun r2 =>
   some (r2.1, r2.2)) (
   g27_1 t0 t1 t2 t7 x0 m) :=
  goAt_eq 400 (by kernel_rfl)
theorem g27_1_eq (t0 t1 t2 t7 t8 : AV) (m : Mem) : g27_1 t0 t1 t2 t7 t8 m =
  Option.bind (binA Try.prog .add 3 t8 t7) fun x0 =>
  Option.bind (capT Try.prog 66 t0) fun x1 =>
  Option.bind (binA Try.prog .gtr 3 x0 x1) fun x2 =>
  condA x2 (
   Option.bind (sliceA Try.prog 66 t0 none (some t1)) fun x3 =>
   Option.bind (binA Try.prog .add 3 t8 t7) fun x4 =>
   Option.bind (binA Try.prog .sub 3 x4 t1) fun x5 =>
   Option.bind (appendZ Try.prog 66 x3 x5 m) fun r6 =>
   Option.bind (sliceA Try.prog 66 r6.1 (some t1) none) fun x7 =>
   Option.bind (copyA 4 x7 t2 r6.2) fun r8 =>
   Option.bind (binA Try.prog .add 3 t1 t7) fun x9 =>
   Option.bind (sliceA Try.prog 66 r6.1 (some x9) none) fun x10 =>
   Option.bind (sliceA Try.prog 66 t0 (some t1) none) fun x11 =>
   Option.bind (copyA 4 x10 x11 r8.2) fun r12 =>
   some (r6.1, r12.2)) (
   g27_2 t0 t1 t2 t7 t8 m) :=
  goAt_eq 400 (by kernel_rfl)
theorem g27_2_eq (t0 t1 t2 t7 t8 : AV) (m : Mem) : g27_2 t0 t1 t2 t7 t8 m =
  Option.bind (binA Try.prog .add 3 t8 t7) fun x0 =>
  Option.bind (sliceA Try.prog 66 t0 none (some x0)) fun x1 =>
  Option.bind (binA Try.prog .add 3 t1 t7) fun x2 =>
  Option.bind (sliceA Try.prog 66 x1 (some x2) none) fun x3 =>
  Option.bind (run E0 (.fn 39) [t2, x3] m) fun r4 =>
  Option.bind (unA .not r4.1) fun x5 =>
  condA x5 (
   Option.bind (binA Try.prog .add 3 t1 t7) fun x6 =>
   Option.bind (sliceA Try.prog 66 x1 (some x6) none) fun x7 =>
   Option.bind (sliceA Try.prog 66 x1 (some t1) none) fun x8 =>
   Option.bind (copyA 4 x7 x8 r4.2) fun r9 =>
   Option.bind (sliceA Try.prog 66 x1 (some t1) none) fun x10 =>
   Option.bind (copyA 4 x10 t2 r9.2) fun r11 =>
   some (x1, r11.2)) (
   g27_3 x1 t1 t2 t7 t8 r4.2) :=
  goAt_eq 400 (by kernel_rfl)
theorem g27_3_eq (t0 t1 t2 t7 t8 : AV) (m : Mem) : g27_3 t0 t1 t2 t7 t8 m =
  Option.bind (sliceA Try.prog 66 t0 (some t8) none) fun x0 =>
  Option.bind (copyA 4 x0 t2 m) fun r1 =>
  Option.bind (sliceA Try.prog 66 t0 (some t1) none) fun x2 =>
  Option.bind (run E0 (.fn 40) [x2, t7] r1.2) fun r3 =>
  some (t0, r3.2) :=
  goAt_eq 400 (by kernel_rfl)
theorem f27_eq (a0 a1 a2 : AV) (m : Mem) : run E0 (.fn 27) [a0, a1, a2] m =
  Option.bind (sliceA Try.prog 66 a0 (some a1) none) fun _ =>
  Option.bind (lenT Try.prog 66 a2) fun x1 =>
  Option.bind (binA Try.prog .eql 3 x1 (.int .i64 0)) fun x2 =>
  condA x2 (
   some (a0, m)) (
   g27_0 a0 a1 a2 x1 m) :=
  run_eq 400 rfl (by kernel_rfl) (by kernel_rfl)
noncomputable def g29_0 (t0 t1 t2 t7 : AV) (m : Mem) : R := goAt E0 29 0 ([t0, t1, t2, .undef, .undef, .undef, .undef, t7] ++ List.replicate 87 .undef) m
noncomputable def g29_1 (t0 t1 t2 t7 t8 : AV) (m : Mem) : R := goAt E0 29 1 ([t0, t1, t2, .undef, .undef, .undef, .undef, t7, t8] ++ List.replicate 86 .undef) m
noncomputable def g29_2 (t0 t1 t2 t7 t8 : AV) (m : Mem) : R := goAt E0 29 2 ([t0, t1, t2, .undef, .undef, .undef, .undef, t7, t8] ++ List.replicate 86 .undef) m
noncomputable def g29_3 (t0 t1 t2 t7 t8 : AV) (m : Mem) : R := goAt E0 29 3 ([t0, t1, t2, .undef, .undef, .undef, .undef, t7, t8] ++ List.replicate 86 .undef) m
theorem g29_0_eq (t0 t1 t2 t7 : AV) (m : Mem) : g29_0 t0 t1 t2 t7 m =
  Option.bind (lenT Try.prog 72 t0) fun x0 =>
  Option.bind (binA Try.prog .eql 3 t1 x0) fun x1 =>
  condA x1 (
   Option.bind (appendA 1 8 t0 t2 m) fun r2 =>
   some (r2.1, r2.2)) (
   g29_1 t0 t1 t2 t7 x0 m) :=
  goAt_eq 400 (by kernel_rfl)
theorem g29_1_eq (t0 t1 t2 t7 t8 : AV) (m : Mem) : g29_1 t0 t1 t2 t7 t8 m =
  Option.bind (binA Try.prog .add 3 t8 t7) fun x0 =>
  Option.bind (capT Try.prog 72 t0) fun x1 =>
  Option.bind (binA Try.prog .gtr 3 x0 x1) fun x2 =>
  condA x2 (
   Option.bind (sliceA Try.prog 72 t0 none (some t1)) fun x3 =>
   Option.bind (binA Try.prog .add 3 t8 t7) fun x4 =>
   Option.bind (binA Try.prog .sub 3 x4 t1) fun x5 =>
   Option.bind (appendZ Try.prog 72 x3 x5 m) fun r6 =>
   Option.bind (sliceA Try.prog 72 r6.1 (some t1) none) fun x7 =>
   Option.bind (copyA 1 x7 t2 r6.2) fun r8 =>
   Option.bind (binA Try.prog .add 3 t1 t7) fun x9 =>
   Option.bind (sliceA Try.prog 72 r6.1 (some x9) none) fun x10 =>
   Option.bind (sliceA Try.prog 72 t0 (some t1) none) fun x11 =>
   Option.bind (copyA 1 x10 x11 r8.2) fun r12 =>
   some (r6.1, r12.2)) (
   g29_2 t0 t1 t2 t7 t8 m) :=
  goAt_eq 400 (by kernel_rfl)
theorem g29_2_eq (t0 t1 t2 t7 t8 : AV) (m : Mem) : g29_2 t0 t1 t2 t7 t8 m =
  Option.bind (binA Try.prog .add 3 t8 t7) fun x0 =>
  Option.bind (sliceA Try.prog 72 t0 none (some x0)) fun x1 =>
  Option.bind (binA Try.prog .add 3 t1 t7) fun x2 =>
  Option.bind (sliceA Try.prog 72 x1 (some x2) none) fun x3 =>
  Option.bind (run E0 (.fn 43) [t2, x3] m) fun r4 =>
  Option.bind (unA .not r4.1) fun x5 =>
  condA x5 (
   Option.bind (binA Try.prog .add 3 t1 t7) fun x6 =>
   Option.bind (sliceA Try.prog 72 x1 (some x6) none) fun x7 =>
   Option.bind (sliceA Try.prog 72 x1 (some t1) none) fun x8 =>
   Option.bind (copyA 1 x7 x8 r4.2) fun r9 =>
   Option.bind (sliceA Try.prog 72 x1 (some t1) none) fun x10 =>
   Option.bind (copyA 1 x10 t2 r9.2) fun r11 =>
   some (x1, r11.2)) (
   g29_3 x1 t1 t2 t7 t8 r4.2) :=
  goAt_eq 400 (by kernel_rfl)
theorem g29_3_eq (t0 t1 t2 t7 t8 : AV) (m : Mem) : g29_3 t0 t1 t2 t7 t8 m =
  Option.bind (sliceA Try.prog 72 t0 (some t8) none) fun x0 =>
  Option.bind (copyA 1 x0 t2 m) fun r1 =>
  Option.bind (sliceA Try.prog 72 t0 (some t1) none) fun x2 =>
  Option.bind (run E0 (.fn 44) [x2, t7] r1.2) fun r3 =>
  some (t0, r3.2) :=
  goAt_eq 400 (by kernel_rfl)
theorem f29_eq (a0 a1 a2 : AV) (m : Mem) : run E0 (.fn 29) [a0, a1, a2] m =
  Option.bind (sliceA Try.prog 72 a0 (some a1) none) fun _ =>
  Option.bind (lenT Try.prog 72 a2) fun x1 =>
  Option.bind (binA Try.prog .eql 3 x1 (.int .i64 0)) fun x2 =>
  condA x2 (
   some (a0, m)) (
   g29_0 a0 a1 a2 x1 m) :=
  run_eq 400 rfl (by kernel_rfl) (by kernel_rfl)
noncomputable def g30_0 (t0 t1 t2 t7 : AV) (m : Mem) : R := goAt E0 30 0 ([t0, t1, t2, .undef, .undef, .undef, .undef, t7] ++ List.replicate 87 .undef) m
noncomputable def g30_1 (t0 t1 t2 t7 t8 : AV) (m : Mem) : R := goAt E0 30 1 ([t0, t1, t2, .undef, .undef, .undef, .undef, t7, t8] ++ List.replicate 86 .undef) m
noncomputable def g30_2 (t0 t1 t2 t7 t8 : AV) (m : Mem) : R := goAt E0 30 2 ([t0, t1, t2, .undef, .undef, .undef, .undef, t7, t8] ++ List.replicate 86 .undef) m
noncomputable def g30_3 (t0 t1 t2 t7 t8 : AV) (m : Mem) : R := goAt E0 30 3 ([t0, t1, t2, .undef, .undef, .undef, .undef, t7, t8] ++ List.replicate 86 .undef) m
theorem g30_0_eq (t0 t1 t2 t7 : AV) (m : Mem) : g30_0 t0 t1 t2 t7 m =
  Option.bind (lenT Try.prog 73 t0) fun x0 =>
  Option.bind (binA Try.prog .eql 3 t1 x0) fun x1 =>
  condA x1 (
   Option.bind (appendA 4 40 t0 t2 m) fun r2 =>
   some (r2.1, r2.2)) (
   g30_1 t0 t1 t2 t7 x0 m) :=
  goAt_eq 400 (by kernel_rfl)
theorem g30_1_eq (t0 t1 t2 t7 t8 : AV) (m : Mem) : g30_1 t0 t1 t2 t7 t8 m =
  Option.bind (binA Try.prog .add 3 t8 t7) fun x0 =>
  Option.bind (capT Try.prog 73 t0) fun x1 =>
  Option.bind (binA Try.prog .gtr 3 x0 x1) fun x2 =>
  condA x2 (
   Option.bind (sliceA Try.prog 73 t0 none (some t1)) fun x3 =>
   Option.bind (binA Try.prog .add 3 t8 t7) fun x4 =>
   Option.bind (binA Try.prog .sub 3 x4 t1) fun x5 =>
   Option.bind (appendZ Try.prog 73 x3 x5 m) fun r6 =>
   Option.bind (sliceA Try.prog 73 r6.1 (some t1) none) fun x7 =>
   Option.bind (copyA 4 x7 t2 r6.2) fun r8 =>
   Option.bind (binA Try.prog .add 3 t1 t7) fun x9 =>
   Option.bind (sliceA Try.prog 73 r6.1 (some x9) none) fun x10 =>
   Option.bind (sliceA Try.prog 73 t0 (some t1) none) fun x11 =>
   Option.bind (copyA 4 x10 x11 r8.2) fun r12 =>
   some (r6.1, r12.2)) (
   g30_2 t0 t1 t2 t7 t8 m) :=
  goAt_eq 400 (by kernel_rfl)
theorem g30_2_eq (t0 t1 t2 t7 t8 : AV) (m : Mem) : g30_2 t0 t1 t2 t7 t8 m =
  Option.bind (binA Try.prog .add 3 t8 t7) fun x0 =>
  Option.bind (sliceA Try.prog 73 t0 none (some x0)) fun x1 =>
  Option.bind (binA Try.prog .add 3 t1 t7) fun x2 =>
  Option.bind (sliceA Try.prog 73 x1 (some x2) none) fun x3 =>
  Option.bind (run E0 (.fn 45) [t2, x3] m) fun r4 =>
  Option.bind (unA .not r4.1) fun x5 =>
  condA x5 (
   Option.bind (binA Try.prog .add 3 t1 t7) fun x6 =>
   Option.bind (sliceA Try.prog 73 x1 (some x6) none) fun x7 =>
   Option.bind (sliceA Try.prog 73 x1 (some t1) none) fun x8 =>
   Option.bind (copyA 4 x7 x8 r4.2) fun r9 =>
   Option.bind (sliceA Try.prog 73 x1 (some t1) none) fun x10 =>
   Option.bind (copyA 4 x10 t2 r9.2) fun r11 =>
   some (x1, r11.2)) (
   g30_3 x1 t1 t2 t7 t8 r4.2) :=
  goAt_eq 400 (by kernel_rfl)
theorem g30_3_eq (t0 t1 t2 t7 t8 : AV) (m : Mem) : g30_3 t0 t1 t2 t7 t8 m =
  Option.bind (sliceA Try.prog 73 t0 (some t8) none) fun x0 =>
  Option.bind (copyA 4 x0 t2 m) fun r1 =>
  Option.bind (sliceA Try.prog 73 t0 (some t1) none) fun x2 =>
  Option.bind (run E0 (.fn 46) [x2, t7] r1.2) fun r3 =>
  some (t0, r3.2) :=
  goAt_eq 400 (by kernel_rfl)
theorem f30_eq (a0 a1 a2 : AV) (m : Mem) : run E0 (.fn 30) [a0, a1, a2] m =
  Option.bind (sliceA Try.prog 73 a0 (some a1) none) fun _ =>
  Option.bind (lenT Try.prog 73 a2) fun x1 =>
  Option.bind (binA Try.prog .eql 3 x1 (.int .i64 0)) fun x2 =>
  condA x2 (
   some (a0, m)) (
   g30_0 a0 a1 a2 x1 m) :=
  run_eq 400 rfl (by kernel_rfl) (by kernel_rfl)
end Go.Proofs.Ytlginbmjiecglaa
