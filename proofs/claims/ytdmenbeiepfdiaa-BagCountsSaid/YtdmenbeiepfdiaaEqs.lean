/- Equations of functions between marks, printed by our own program (wip/tools/gen2.lean). -/
import Derived.Test.YtdmenbeiepfdiaaEnv
import Derived.Test.YtdmenbeiepfdiaaAbs21
namespace Go.Proofs.Ytdmenbeiepfdiaa
open Go Go.Abs
set_option maxRecDepth 4000
theorem f2_eq (m : Mem) : run E 2 [] m =
  Option.bind (run E 1 [] m) fun r0 =>
  some (.undef, r0.2) :=
  run_eq 400 rfl (by kernel_rfl) (by kernel_rfl)
noncomputable def g3_0 (t0 t1 t5 : AV) (m : Mem) : R := goAt E 3 0 [t0, t1, .undef, .undef, .undef, t5, .undef, .undef, .undef, .undef, .undef, .undef, .undef, .undef, .undef, .undef, .undef, .undef, .undef, .undef, .undef, .undef, .undef, .undef, .undef, .undef, .undef, .undef, .undef, .undef, .undef, .undef, .undef, .undef, .undef, .undef, .undef, .undef, .undef, .undef, .undef, .undef, .undef, .undef, .undef, .undef, .undef, .undef, .undef, .undef, .undef, .undef, .undef, .undef, .undef, .undef, .undef, .undef, .undef, .undef, .undef, .undef, .undef, .undef, .undef, .undef, .undef, .undef, .undef, .undef, .undef, .undef, .undef, .undef, .undef, .undef, .undef, .undef, .undef, .undef, .undef, .undef, .undef, .undef, .undef, .undef, .undef, .undef, .undef, .undef] m
noncomputable def g3_1 (t0 t1 t5 t7 : AV) (m : Mem) : R := goAt E 3 1 [t0, t1, .undef, .undef, .undef, t5, .undef, t7, .undef, .undef, .undef, .undef, .undef, .undef, .undef, .undef, .undef, .undef, .undef, .undef, .undef, .undef, .undef, .undef, .undef, .undef, .undef, .undef, .undef, .undef, .undef, .undef, .undef, .undef, .undef, .undef, .undef, .undef, .undef, .undef, .undef, .undef, .undef, .undef, .undef, .undef, .undef, .undef, .undef, .undef, .undef, .undef, .undef, .undef, .undef, .undef, .undef, .undef, .undef, .undef, .undef, .undef, .undef, .undef, .undef, .undef, .undef, .undef, .undef, .undef, .undef, .undef, .undef, .undef, .undef, .undef, .undef, .undef, .undef, .undef, .undef, .undef, .undef, .undef, .undef, .undef, .undef, .undef, .undef, .undef] m
noncomputable def g3_2 (t0 t1 t5 t7 : AV) (m : Mem) : R := goAt E 3 2 [t0, t1, .undef, .undef, .undef, t5, .undef, t7, .undef, .undef, .undef, .undef, .undef, .undef, .undef, .undef, .undef, .undef, .undef, .undef, .undef, .undef, .undef, .undef, .undef, .undef, .undef, .undef, .undef, .undef, .undef, .undef, .undef, .undef, .undef, .undef, .undef, .undef, .undef, .undef, .undef, .undef, .undef, .undef, .undef, .undef, .undef, .undef, .undef, .undef, .undef, .undef, .undef, .undef, .undef, .undef, .undef, .undef, .undef, .undef, .undef, .undef, .undef, .undef, .undef, .undef, .undef, .undef, .undef, .undef, .undef, .undef, .undef, .undef, .undef, .undef, .undef, .undef, .undef, .undef, .undef, .undef, .undef, .undef, .undef, .undef, .undef, .undef, .undef, .undef] m
noncomputable def g3_3 (t0 t1 t5 t7 : AV) (m : Mem) : R := goAt E 3 3 [t0, t1, .undef, .undef, .undef, t5, .undef, t7, .undef, .undef, .undef, .undef, .undef, .undef, .undef, .undef, .undef, .undef, .undef, .undef, .undef, .undef, .undef, .undef, .undef, .undef, .undef, .undef, .undef, .undef, .undef, .undef, .undef, .undef, .undef, .undef, .undef, .undef, .undef, .undef, .undef, .undef, .undef, .undef, .undef, .undef, .undef, .undef, .undef, .undef, .undef, .undef, .undef, .undef, .undef, .undef, .undef, .undef, .undef, .undef, .undef, .undef, .undef, .undef, .undef, .undef, .undef, .undef, .undef, .undef, .undef, .undef, .undef, .undef, .undef, .undef, .undef, .undef, .undef, .undef, .undef, .undef, .undef, .undef, .undef, .undef, .undef, .undef, .undef, .undef] m
noncomputable def g3_4 (t0 t1 t5 : AV) (m : Mem) : R := goAt E 3 4 [t0, t1, .undef, .undef, .undef, t5, .undef, .undef, .undef, .undef, .undef, .undef, .undef, .undef, .undef, .undef, .undef, .undef, .undef, .undef, .undef, .undef, .undef, .undef, .undef, .undef, .undef, .undef, .undef, .undef, .undef, .undef, .undef, .undef, .undef, .undef, .undef, .undef, .undef, .undef, .undef, .undef, .undef, .undef, .undef, .undef, .undef, .undef, .undef, .undef, .undef, .undef, .undef, .undef, .undef, .undef, .undef, .undef, .undef, .undef, .undef, .undef, .undef, .undef, .undef, .undef, .undef, .undef, .undef, .undef, .undef, .undef, .undef, .undef, .undef, .undef, .undef, .undef, .undef, .undef, .undef, .undef, .undef, .undef, .undef, .undef, .undef, .undef, .undef, .undef] m
noncomputable def g3_5 (t0 t1 t5 : AV) (m : Mem) : R := goAt E 3 5 [t0, t1, .undef, .undef, .undef, t5, .undef, .undef, .undef, .undef, .undef, .undef, .undef, .undef, .undef, .undef, .undef, .undef, .undef, .undef, .undef, .undef, .undef, .undef, .undef, .undef, .undef, .undef, .undef, .undef, .undef, .undef, .undef, .undef, .undef, .undef, .undef, .undef, .undef, .undef, .undef, .undef, .undef, .undef, .undef, .undef, .undef, .undef, .undef, .undef, .undef, .undef, .undef, .undef, .undef, .undef, .undef, .undef, .undef, .undef, .undef, .undef, .undef, .undef, .undef, .undef, .undef, .undef, .undef, .undef, .undef, .undef, .undef, .undef, .undef, .undef, .undef, .undef, .undef, .undef, .undef, .undef, .undef, .undef, .undef, .undef, .undef, .undef, .undef, .undef] m
theorem g3_0_eq (t0 t1 t5 : AV) (m : Mem) : g3_0 t0 t1 t5 m =
  Option.bind (lenT Try.prog 22 t0) fun x0 =>
  Option.bind (minA x0 (.int .i64 256)) fun x1 =>
  Option.bind (sliceA Try.prog 22 t0 none (some x1)) fun x2 =>
  g3_1 x2 t1 t5 (.int .i64 0) m :=
  goAt_eq 400 (by kernel_rfl)
theorem g3_1_eq (t0 t1 t5 t7 : AV) (m : Mem) : g3_1 t0 t1 t5 t7 m =
  Option.bind (lenT Try.prog 22 t0) fun x0 =>
  Option.bind (binA Try.prog .lss 3 t7 x0) fun x1 =>
  condA x1 (
   g3_2 t0 t1 t5 t7 m) (
   g3_4 t0 t1 t5 m) :=
  goAt_eq 400 (by kernel_rfl)
theorem g3_2_eq (t0 t1 t5 t7 : AV) (m : Mem) : g3_2 t0 t1 t5 t7 m =
  Option.bind (indexAddrA Try.prog 22 t0 t7) fun x0 =>
  Option.bind (loadA Try.prog 3 x0 m) fun x1 =>
  Option.bind (run E 9 [t5, x1] m) fun r2 =>
  g3_3 t0 t1 t5 t7 r2.2 :=
  goAt_eq 400 (by kernel_rfl)
theorem g3_3_eq (t0 t1 t5 t7 : AV) (m : Mem) : g3_3 t0 t1 t5 t7 m =
  Option.bind (binA Try.prog .add 3 t7 (.int .i64 1)) fun x0 =>
  g3_1 t0 t1 t5 x0 m :=
  goAt_eq 400 (by kernel_rfl)
theorem g3_4_eq (t0 t1 t5 : AV) (m : Mem) : g3_4 t0 t1 t5 m =
  Option.bind (lenT Try.prog 22 t0) fun x0 =>
  Option.bind (binA Try.prog .eql 3 x0 (.int .i64 0)) fun x1 =>
  condA x1 (
   Option.bind (run E 10 [t5, t1] m) fun r2 =>
   Option.bind (extractA r2.1 0) fun x3 =>
   Option.bind (extractA r2.1 1) fun x4 =>
   Option.bind (unA .not x4) fun x5 =>
   some (x5, r2.2)) (
   g3_5 t0 t1 t5 m) :=
  goAt_eq 400 (by kernel_rfl)
theorem g3_5_eq (t0 t1 t5 : AV) (m : Mem) : g3_5 t0 t1 t5 m =
  Option.bind (lenT Try.prog 22 t0) fun x0 =>
  Option.bind (run E 11 [t1, x0] m) fun r1 =>
  Option.bind (run E 10 [t5, r1.1] r1.2) fun r2 =>
  Option.bind (extractA r2.1 0) fun x3 =>
  Option.bind (extractA r2.1 1) fun x4 =>
  let m5 := Mem.alloc r2.2 []
  Option.bind (sliceA Try.prog 22 t0 none (some r1.1)) fun x6 =>
  Option.bind (appendA 1 8 (.sl (some ⟨(r2.2).next, 0⟩) 1 0 0 true) x6 m5) fun r7 =>
  Option.bind (binA Try.prog .add 3 r1.1 (.int .i64 1)) fun x8 =>
  Option.bind (sliceA Try.prog 22 t0 (some x8) none) fun x9 =>
  Option.bind (appendA 1 8 r7.1 x9 r7.2) fun r10 =>
  ifV x4 (
  Option.bind (indexAddrA Try.prog 22 t0 r1.1) fun x11 =>
  Option.bind (loadA Try.prog 3 x11 r10.2) fun x12 =>
  Option.bind (binA Try.prog .eql 3 x3 x12) fun x13 =>
  ifV x13 (
  Option.bind (run E 13 [t5] r10.2) fun r14 =>
  Option.bind (run E 12 [r14.1, r10.1] r14.2) fun r15 =>
  some (r15.1, r15.2)) (
  some ((.bool false), r10.2))) (
  some ((.bool false), r10.2)) :=
  goAt_eq 400 (by kernel_rfl)
theorem f3_eq (a0 a1 : AV) (m : Mem) : run E 3 [a0, a1] m =
  Option.bind (run E 7 [(.int .i64 256)] m) fun r0 =>
  Option.bind (extractA r0.1 0) fun x1 =>
  Option.bind (extractA r0.1 1) fun x2 =>
  Option.bind (run E 8 [] r0.2) fun r3 =>
  Option.bind (unA .not r3.1) fun x4 =>
  ifV x4 (
  some ((.bool false), r3.2)) (
  Option.bind (binA Try.prog .neq 24 x2 (.int .i64 0)) fun x5 =>
  ifV x5 (
  some ((.bool false), r3.2)) (
  Option.bind (binA Try.prog .eql 23 x1 (.ptr none)) fun x6 =>
  condA x6 (
   some ((.bool false), r3.2)) (
   g3_0 a0 a1 x1 r3.2))) :=
  run_eq 400 rfl (by kernel_rfl) (by kernel_rfl)
noncomputable def g4_0 (t5 : AV) (m : Mem) : R := goAt E 4 0 [.undef, .undef, .undef, .undef, .undef, t5, .undef, .undef, .undef, .undef, .undef, .undef, .undef, .undef, .undef, .undef, .undef, .undef, .undef, .undef, .undef, .undef, .undef, .undef, .undef, .undef, .undef, .undef, .undef, .undef, .undef, .undef, .undef, .undef, .undef, .undef, .undef, .undef, .undef, .undef, .undef, .undef, .undef, .undef, .undef, .undef, .undef, .undef, .undef, .undef, .undef, .undef, .undef, .undef, .undef, .undef, .undef, .undef, .undef, .undef, .undef, .undef, .undef, .undef, .undef, .undef, .undef, .undef, .undef, .undef, .undef, .undef, .undef, .undef, .undef, .undef, .undef, .undef, .undef, .undef, .undef, .undef, .undef, .undef, .undef, .undef, .undef] m
theorem g4_0_eq (t5 : AV) (m : Mem) : g4_0 t5 m =
  Option.bind (run E 15 [t5, (.int .i64 0)] m) fun r0 =>
  Option.bind (extractA r0.1 0) fun x1 =>
  Option.bind (extractA r0.1 1) fun x2 =>
  Option.bind (run E 16 [t5, (.str [97])] r0.2) fun r3 =>
  Option.bind (run E 17 [t5, (.int .i64 0)] r3.2) fun r4 =>
  Option.bind (extractA r4.1 0) fun x5 =>
  Option.bind (extractA r4.1 1) fun x6 =>
  Option.bind (run E 17 [t5, (.int .i64 (-1))] r4.2) fun r7 =>
  Option.bind (extractA r7.1 0) fun x8 =>
  Option.bind (extractA r7.1 1) fun x9 =>
  Option.bind (binA Try.prog .eql 9 x1 (.str [])) fun x10 =>
  ifV x10 (
  Option.bind (unA .not x2) fun x11 =>
  ifV x11 (
  Option.bind (binA Try.prog .eql 9 x5 (.str [97])) fun x12 =>
  ifV x12 (
  ifV x6 (
  Option.bind (unA .not x9) fun x13 =>
  ifV x13 (
  Option.bind (run E 18 [t5, (.int .i64 0)] r7.2) fun r14 =>
  Option.bind (unA .not r14.1) fun x15 =>
  ifV x15 (
  Option.bind (run E 19 [t5] r14.2) fun r16 =>
  Option.bind (binA Try.prog .eql 3 r16.1 (.int .i64 1)) fun x17 =>
  some (x17, r16.2)) (
  some ((.bool false), r14.2))) (
  some ((.bool false), r7.2))) (
  some ((.bool false), r7.2))) (
  some ((.bool false), r7.2))) (
  some ((.bool false), r7.2))) (
  some ((.bool false), r7.2)) :=
  goAt_eq 400 (by kernel_rfl)
theorem f4_eq (m : Mem) : run E 4 [] m =
  Option.bind (run E 7 [(.int .i64 0)] m) fun r0 =>
  Option.bind (extractA r0.1 0) fun x1 =>
  Option.bind (extractA r0.1 1) fun x2 =>
  Option.bind (run E 14 [(.int .i64 257)] r0.2) fun r3 =>
  Option.bind (extractA r3.1 0) fun x4 =>
  Option.bind (extractA r3.1 1) fun x5 =>
  Option.bind (run E 14 [(.int .i64 1)] r3.2) fun r6 =>
  Option.bind (extractA r6.1 0) fun x7 =>
  Option.bind (extractA r6.1 1) fun x8 =>
  Option.bind (run E 8 [] r6.2) fun r9 =>
  Option.bind (unA .not r9.1) fun x10 =>
  ifV x10 (
  some ((.bool false), r9.2)) (
  Option.bind (binA Try.prog .neq 24 x2 (.int .i64 1)) fun x11 =>
  ifV x11 (
  some ((.bool false), r9.2)) (
  Option.bind (binA Try.prog .neq 24 x5 (.int .i64 1)) fun x12 =>
  ifV x12 (
  some ((.bool false), r9.2)) (
  Option.bind (binA Try.prog .neq 24 x8 (.int .i64 0)) fun x13 =>
  ifV x13 (
  some ((.bool false), r9.2)) (
  Option.bind (binA Try.prog .eql 35 x7 (.ptr none)) fun x14 =>
  condA x14 (
   some ((.bool false), r9.2)) (
   g4_0 x7 r9.2))))) :=
  run_eq 400 rfl (by kernel_rfl) (by kernel_rfl)
noncomputable def g5_0 (t0 t1 t5 t6 : AV) (m : Mem) : R := goAt E 5 0 [t0, t1, .undef, .undef, .undef, t5, t6, .undef, .undef, .undef, .undef, .undef, .undef, .undef, .undef, .undef, .undef, .undef, .undef, .undef, .undef, .undef, .undef, .undef, .undef, .undef, .undef, .undef, .undef, .undef, .undef, .undef, .undef, .undef, .undef, .undef, .undef, .undef, .undef, .undef, .undef, .undef, .undef, .undef, .undef, .undef, .undef, .undef, .undef, .undef, .undef, .undef, .undef, .undef, .undef, .undef, .undef, .undef, .undef, .undef, .undef, .undef, .undef, .undef, .undef, .undef, .undef, .undef, .undef, .undef, .undef, .undef, .undef, .undef, .undef, .undef, .undef, .undef, .undef, .undef, .undef, .undef, .undef, .undef, .undef, .undef, .undef, .undef, .undef, .undef, .undef, .undef, .undef, .undef, .undef, .undef, .undef, .undef, .undef, .undef, .undef, .undef, .undef, .undef, .undef, .undef, .undef, .undef, .undef, .undef, .undef, .undef, .undef, .undef, .undef, .undef, .undef, .undef, .undef, .undef, .undef, .undef, .undef, .undef, .undef, .undef, .undef, .undef, .undef, .undef, .undef, .undef, .undef, .undef, .undef, .undef, .undef, .undef, .undef, .undef, .undef, .undef, .undef, .undef, .undef, .undef, .undef, .undef, .undef, .undef, .undef, .undef, .undef, .undef, .undef, .undef, .undef, .undef, .undef, .undef, .undef, .undef, .undef, .undef, .undef, .undef, .undef, .undef, .undef, .undef, .undef, .undef, .undef, .undef, .undef, .undef, .undef, .undef, .undef, .undef, .undef, .undef, .undef, .undef, .undef, .undef, .undef, .undef, .undef, .undef, .undef, .undef, .undef, .undef, .undef, .undef, .undef, .undef, .undef, .undef] m
noncomputable def g5_1 (t0 t1 t5 t6 : AV) (m : Mem) : R := goAt E 5 1 [t0, t1, .undef, .undef, .undef, t5, t6, .undef, .undef, .undef, .undef, .undef, .undef, .undef, .undef, .undef, .undef, .undef, .undef, .undef, .undef, .undef, .undef, .undef, .undef, .undef, .undef, .undef, .undef, .undef, .undef, .undef, .undef, .undef, .undef, .undef, .undef, .undef, .undef, .undef, .undef, .undef, .undef, .undef, .undef, .undef, .undef, .undef, .undef, .undef, .undef, .undef, .undef, .undef, .undef, .undef, .undef, .undef, .undef, .undef, .undef, .undef, .undef, .undef, .undef, .undef, .undef, .undef, .undef, .undef, .undef, .undef, .undef, .undef, .undef, .undef, .undef, .undef, .undef, .undef, .undef, .undef, .undef, .undef, .undef, .undef, .undef, .undef, .undef, .undef, .undef, .undef, .undef, .undef, .undef, .undef, .undef, .undef, .undef, .undef, .undef, .undef, .undef, .undef, .undef, .undef, .undef, .undef, .undef, .undef, .undef, .undef, .undef, .undef, .undef, .undef, .undef, .undef, .undef, .undef, .undef, .undef, .undef, .undef, .undef, .undef, .undef, .undef, .undef, .undef, .undef, .undef, .undef, .undef, .undef, .undef, .undef, .undef, .undef, .undef, .undef, .undef, .undef, .undef, .undef, .undef, .undef, .undef, .undef, .undef, .undef, .undef, .undef, .undef, .undef, .undef, .undef, .undef, .undef, .undef, .undef, .undef, .undef, .undef, .undef, .undef, .undef, .undef, .undef, .undef, .undef, .undef, .undef, .undef, .undef, .undef, .undef, .undef, .undef, .undef, .undef, .undef, .undef, .undef, .undef, .undef, .undef, .undef, .undef, .undef, .undef, .undef, .undef, .undef, .undef, .undef, .undef, .undef, .undef, .undef] m
noncomputable def g5_2 (t0 t1 t5 : AV) (m : Mem) : R := goAt E 5 2 [t0, t1, .undef, .undef, .undef, t5, .undef, .undef, .undef, .undef, .undef, .undef, .undef, .undef, .undef, .undef, .undef, .undef, .undef, .undef, .undef, .undef, .undef, .undef, .undef, .undef, .undef, .undef, .undef, .undef, .undef, .undef, .undef, .undef, .undef, .undef, .undef, .undef, .undef, .undef, .undef, .undef, .undef, .undef, .undef, .undef, .undef, .undef, .undef, .undef, .undef, .undef, .undef, .undef, .undef, .undef, .undef, .undef, .undef, .undef, .undef, .undef, .undef, .undef, .undef, .undef, .undef, .undef, .undef, .undef, .undef, .undef, .undef, .undef, .undef, .undef, .undef, .undef, .undef, .undef, .undef, .undef, .undef, .undef, .undef, .undef, .undef, .undef, .undef, .undef, .undef, .undef, .undef, .undef, .undef, .undef, .undef, .undef, .undef, .undef, .undef, .undef, .undef, .undef, .undef, .undef, .undef, .undef, .undef, .undef, .undef, .undef, .undef, .undef, .undef, .undef, .undef, .undef, .undef, .undef, .undef, .undef, .undef, .undef, .undef, .undef, .undef, .undef, .undef, .undef, .undef, .undef, .undef, .undef, .undef, .undef, .undef, .undef, .undef, .undef, .undef, .undef, .undef, .undef, .undef, .undef, .undef, .undef, .undef, .undef, .undef, .undef, .undef, .undef, .undef, .undef, .undef, .undef, .undef, .undef, .undef, .undef, .undef, .undef, .undef, .undef, .undef, .undef, .undef, .undef, .undef, .undef, .undef, .undef, .undef, .undef, .undef, .undef, .undef, .undef, .undef, .undef, .undef, .undef, .undef, .undef, .undef, .undef, .undef, .undef, .undef, .undef, .undef, .undef, .undef, .undef, .undef, .undef, .undef, .undef] m
noncomputable def g5_3 (t1 t5 t7 t8 : AV) (m : Mem) : R := goAt E 5 3 [.undef, t1, .undef, .undef, .undef, t5, .undef, t7, t8, .undef, .undef, .undef, .undef, .undef, .undef, .undef, .undef, .undef, .undef, .undef, .undef, .undef, .undef, .undef, .undef, .undef, .undef, .undef, .undef, .undef, .undef, .undef, .undef, .undef, .undef, .undef, .undef, .undef, .undef, .undef, .undef, .undef, .undef, .undef, .undef, .undef, .undef, .undef, .undef, .undef, .undef, .undef, .undef, .undef, .undef, .undef, .undef, .undef, .undef, .undef, .undef, .undef, .undef, .undef, .undef, .undef, .undef, .undef, .undef, .undef, .undef, .undef, .undef, .undef, .undef, .undef, .undef, .undef, .undef, .undef, .undef, .undef, .undef, .undef, .undef, .undef, .undef, .undef, .undef, .undef, .undef, .undef, .undef, .undef, .undef, .undef, .undef, .undef, .undef, .undef, .undef, .undef, .undef, .undef, .undef, .undef, .undef, .undef, .undef, .undef, .undef, .undef, .undef, .undef, .undef, .undef, .undef, .undef, .undef, .undef, .undef, .undef, .undef, .undef, .undef, .undef, .undef, .undef, .undef, .undef, .undef, .undef, .undef, .undef, .undef, .undef, .undef, .undef, .undef, .undef, .undef, .undef, .undef, .undef, .undef, .undef, .undef, .undef, .undef, .undef, .undef, .undef, .undef, .undef, .undef, .undef, .undef, .undef, .undef, .undef, .undef, .undef, .undef, .undef, .undef, .undef, .undef, .undef, .undef, .undef, .undef, .undef, .undef, .undef, .undef, .undef, .undef, .undef, .undef, .undef, .undef, .undef, .undef, .undef, .undef, .undef, .undef, .undef, .undef, .undef, .undef, .undef, .undef, .undef, .undef, .undef, .undef, .undef, .undef, .undef] m
noncomputable def g5_4 (t1 t5 t7 t8 : AV) (m : Mem) : R := goAt E 5 4 [.undef, t1, .undef, .undef, .undef, t5, .undef, t7, t8, .undef, .undef, .undef, .undef, .undef, .undef, .undef, .undef, .undef, .undef, .undef, .undef, .undef, .undef, .undef, .undef, .undef, .undef, .undef, .undef, .undef, .undef, .undef, .undef, .undef, .undef, .undef, .undef, .undef, .undef, .undef, .undef, .undef, .undef, .undef, .undef, .undef, .undef, .undef, .undef, .undef, .undef, .undef, .undef, .undef, .undef, .undef, .undef, .undef, .undef, .undef, .undef, .undef, .undef, .undef, .undef, .undef, .undef, .undef, .undef, .undef, .undef, .undef, .undef, .undef, .undef, .undef, .undef, .undef, .undef, .undef, .undef, .undef, .undef, .undef, .undef, .undef, .undef, .undef, .undef, .undef, .undef, .undef, .undef, .undef, .undef, .undef, .undef, .undef, .undef, .undef, .undef, .undef, .undef, .undef, .undef, .undef, .undef, .undef, .undef, .undef, .undef, .undef, .undef, .undef, .undef, .undef, .undef, .undef, .undef, .undef, .undef, .undef, .undef, .undef, .undef, .undef, .undef, .undef, .undef, .undef, .undef, .undef, .undef, .undef, .undef, .undef, .undef, .undef, .undef, .undef, .undef, .undef, .undef, .undef, .undef, .undef, .undef, .undef, .undef, .undef, .undef, .undef, .undef, .undef, .undef, .undef, .undef, .undef, .undef, .undef, .undef, .undef, .undef, .undef, .undef, .undef, .undef, .undef, .undef, .undef, .undef, .undef, .undef, .undef, .undef, .undef, .undef, .undef, .undef, .undef, .undef, .undef, .undef, .undef, .undef, .undef, .undef, .undef, .undef, .undef, .undef, .undef, .undef, .undef, .undef, .undef, .undef, .undef, .undef, .undef] m
noncomputable def g5_5 (t1 t5 t7 t8 t9 : AV) (m : Mem) : R := goAt E 5 5 [.undef, t1, .undef, .undef, .undef, t5, .undef, t7, t8, t9, .undef, .undef, .undef, .undef, .undef, .undef, .undef, .undef, .undef, .undef, .undef, .undef, .undef, .undef, .undef, .undef, .undef, .undef, .undef, .undef, .undef, .undef, .undef, .undef, .undef, .undef, .undef, .undef, .undef, .undef, .undef, .undef, .undef, .undef, .undef, .undef, .undef, .undef, .undef, .undef, .undef, .undef, .undef, .undef, .undef, .undef, .undef, .undef, .undef, .undef, .undef, .undef, .undef, .undef, .undef, .undef, .undef, .undef, .undef, .undef, .undef, .undef, .undef, .undef, .undef, .undef, .undef, .undef, .undef, .undef, .undef, .undef, .undef, .undef, .undef, .undef, .undef, .undef, .undef, .undef, .undef, .undef, .undef, .undef, .undef, .undef, .undef, .undef, .undef, .undef, .undef, .undef, .undef, .undef, .undef, .undef, .undef, .undef, .undef, .undef, .undef, .undef, .undef, .undef, .undef, .undef, .undef, .undef, .undef, .undef, .undef, .undef, .undef, .undef, .undef, .undef, .undef, .undef, .undef, .undef, .undef, .undef, .undef, .undef, .undef, .undef, .undef, .undef, .undef, .undef, .undef, .undef, .undef, .undef, .undef, .undef, .undef, .undef, .undef, .undef, .undef, .undef, .undef, .undef, .undef, .undef, .undef, .undef, .undef, .undef, .undef, .undef, .undef, .undef, .undef, .undef, .undef, .undef, .undef, .undef, .undef, .undef, .undef, .undef, .undef, .undef, .undef, .undef, .undef, .undef, .undef, .undef, .undef, .undef, .undef, .undef, .undef, .undef, .undef, .undef, .undef, .undef, .undef, .undef, .undef, .undef, .undef, .undef, .undef, .undef] m
noncomputable def g5_6 (t1 t5 t7 t8 t10 : AV) (m : Mem) : R := goAt E 5 6 [.undef, t1, .undef, .undef, .undef, t5, .undef, t7, t8, .undef, t10, .undef, .undef, .undef, .undef, .undef, .undef, .undef, .undef, .undef, .undef, .undef, .undef, .undef, .undef, .undef, .undef, .undef, .undef, .undef, .undef, .undef, .undef, .undef, .undef, .undef, .undef, .undef, .undef, .undef, .undef, .undef, .undef, .undef, .undef, .undef, .undef, .undef, .undef, .undef, .undef, .undef, .undef, .undef, .undef, .undef, .undef, .undef, .undef, .undef, .undef, .undef, .undef, .undef, .undef, .undef, .undef, .undef, .undef, .undef, .undef, .undef, .undef, .undef, .undef, .undef, .undef, .undef, .undef, .undef, .undef, .undef, .undef, .undef, .undef, .undef, .undef, .undef, .undef, .undef, .undef, .undef, .undef, .undef, .undef, .undef, .undef, .undef, .undef, .undef, .undef, .undef, .undef, .undef, .undef, .undef, .undef, .undef, .undef, .undef, .undef, .undef, .undef, .undef, .undef, .undef, .undef, .undef, .undef, .undef, .undef, .undef, .undef, .undef, .undef, .undef, .undef, .undef, .undef, .undef, .undef, .undef, .undef, .undef, .undef, .undef, .undef, .undef, .undef, .undef, .undef, .undef, .undef, .undef, .undef, .undef, .undef, .undef, .undef, .undef, .undef, .undef, .undef, .undef, .undef, .undef, .undef, .undef, .undef, .undef, .undef, .undef, .undef, .undef, .undef, .undef, .undef, .undef, .undef, .undef, .undef, .undef, .undef, .undef, .undef, .undef, .undef, .undef, .undef, .undef, .undef, .undef, .undef, .undef, .undef, .undef, .undef, .undef, .undef, .undef, .undef, .undef, .undef, .undef, .undef, .undef, .undef, .undef, .undef, .undef] m
noncomputable def g5_7 (t1 t5 t7 t8 : AV) (m : Mem) : R := goAt E 5 7 [.undef, t1, .undef, .undef, .undef, t5, .undef, t7, t8, .undef, .undef, .undef, .undef, .undef, .undef, .undef, .undef, .undef, .undef, .undef, .undef, .undef, .undef, .undef, .undef, .undef, .undef, .undef, .undef, .undef, .undef, .undef, .undef, .undef, .undef, .undef, .undef, .undef, .undef, .undef, .undef, .undef, .undef, .undef, .undef, .undef, .undef, .undef, .undef, .undef, .undef, .undef, .undef, .undef, .undef, .undef, .undef, .undef, .undef, .undef, .undef, .undef, .undef, .undef, .undef, .undef, .undef, .undef, .undef, .undef, .undef, .undef, .undef, .undef, .undef, .undef, .undef, .undef, .undef, .undef, .undef, .undef, .undef, .undef, .undef, .undef, .undef, .undef, .undef, .undef, .undef, .undef, .undef, .undef, .undef, .undef, .undef, .undef, .undef, .undef, .undef, .undef, .undef, .undef, .undef, .undef, .undef, .undef, .undef, .undef, .undef, .undef, .undef, .undef, .undef, .undef, .undef, .undef, .undef, .undef, .undef, .undef, .undef, .undef, .undef, .undef, .undef, .undef, .undef, .undef, .undef, .undef, .undef, .undef, .undef, .undef, .undef, .undef, .undef, .undef, .undef, .undef, .undef, .undef, .undef, .undef, .undef, .undef, .undef, .undef, .undef, .undef, .undef, .undef, .undef, .undef, .undef, .undef, .undef, .undef, .undef, .undef, .undef, .undef, .undef, .undef, .undef, .undef, .undef, .undef, .undef, .undef, .undef, .undef, .undef, .undef, .undef, .undef, .undef, .undef, .undef, .undef, .undef, .undef, .undef, .undef, .undef, .undef, .undef, .undef, .undef, .undef, .undef, .undef, .undef, .undef, .undef, .undef, .undef, .undef] m
noncomputable def g5_8 (t5 t7 : AV) (m : Mem) : R := goAt E 5 8 [.undef, .undef, .undef, .undef, .undef, t5, .undef, t7, .undef, .undef, .undef, .undef, .undef, .undef, .undef, .undef, .undef, .undef, .undef, .undef, .undef, .undef, .undef, .undef, .undef, .undef, .undef, .undef, .undef, .undef, .undef, .undef, .undef, .undef, .undef, .undef, .undef, .undef, .undef, .undef, .undef, .undef, .undef, .undef, .undef, .undef, .undef, .undef, .undef, .undef, .undef, .undef, .undef, .undef, .undef, .undef, .undef, .undef, .undef, .undef, .undef, .undef, .undef, .undef, .undef, .undef, .undef, .undef, .undef, .undef, .undef, .undef, .undef, .undef, .undef, .undef, .undef, .undef, .undef, .undef, .undef, .undef, .undef, .undef, .undef, .undef, .undef, .undef, .undef, .undef, .undef, .undef, .undef, .undef, .undef, .undef, .undef, .undef, .undef, .undef, .undef, .undef, .undef, .undef, .undef, .undef, .undef, .undef, .undef, .undef, .undef, .undef, .undef, .undef, .undef, .undef, .undef, .undef, .undef, .undef, .undef, .undef, .undef, .undef, .undef, .undef, .undef, .undef, .undef, .undef, .undef, .undef, .undef, .undef, .undef, .undef, .undef, .undef, .undef, .undef, .undef, .undef, .undef, .undef, .undef, .undef, .undef, .undef, .undef, .undef, .undef, .undef, .undef, .undef, .undef, .undef, .undef, .undef, .undef, .undef, .undef, .undef, .undef, .undef, .undef, .undef, .undef, .undef, .undef, .undef, .undef, .undef, .undef, .undef, .undef, .undef, .undef, .undef, .undef, .undef, .undef, .undef, .undef, .undef, .undef, .undef, .undef, .undef, .undef, .undef, .undef, .undef, .undef, .undef, .undef, .undef, .undef, .undef, .undef, .undef] m
noncomputable def g5_9 (t5 t7 t19 t20 t21 : AV) (m : Mem) : R := goAt E 5 9 [.undef, .undef, .undef, .undef, .undef, t5, .undef, t7, .undef, .undef, .undef, .undef, .undef, .undef, .undef, .undef, .undef, .undef, .undef, t19, t20, t21, .undef, .undef, .undef, .undef, .undef, .undef, .undef, .undef, .undef, .undef, .undef, .undef, .undef, .undef, .undef, .undef, .undef, .undef, .undef, .undef, .undef, .undef, .undef, .undef, .undef, .undef, .undef, .undef, .undef, .undef, .undef, .undef, .undef, .undef, .undef, .undef, .undef, .undef, .undef, .undef, .undef, .undef, .undef, .undef, .undef, .undef, .undef, .undef, .undef, .undef, .undef, .undef, .undef, .undef, .undef, .undef, .undef, .undef, .undef, .undef, .undef, .undef, .undef, .undef, .undef, .undef, .undef, .undef, .undef, .undef, .undef, .undef, .undef, .undef, .undef, .undef, .undef, .undef, .undef, .undef, .undef, .undef, .undef, .undef, .undef, .undef, .undef, .undef, .undef, .undef, .undef, .undef, .undef, .undef, .undef, .undef, .undef, .undef, .undef, .undef, .undef, .undef, .undef, .undef, .undef, .undef, .undef, .undef, .undef, .undef, .undef, .undef, .undef, .undef, .undef, .undef, .undef, .undef, .undef, .undef, .undef, .undef, .undef, .undef, .undef, .undef, .undef, .undef, .undef, .undef, .undef, .undef, .undef, .undef, .undef, .undef, .undef, .undef, .undef, .undef, .undef, .undef, .undef, .undef, .undef, .undef, .undef, .undef, .undef, .undef, .undef, .undef, .undef, .undef, .undef, .undef, .undef, .undef, .undef, .undef, .undef, .undef, .undef, .undef, .undef, .undef, .undef, .undef, .undef, .undef, .undef, .undef, .undef, .undef, .undef, .undef, .undef, .undef] m
noncomputable def g5_10 (t5 t7 t19 t20 t21 : AV) (m : Mem) : R := goAt E 5 10 [.undef, .undef, .undef, .undef, .undef, t5, .undef, t7, .undef, .undef, .undef, .undef, .undef, .undef, .undef, .undef, .undef, .undef, .undef, t19, t20, t21, .undef, .undef, .undef, .undef, .undef, .undef, .undef, .undef, .undef, .undef, .undef, .undef, .undef, .undef, .undef, .undef, .undef, .undef, .undef, .undef, .undef, .undef, .undef, .undef, .undef, .undef, .undef, .undef, .undef, .undef, .undef, .undef, .undef, .undef, .undef, .undef, .undef, .undef, .undef, .undef, .undef, .undef, .undef, .undef, .undef, .undef, .undef, .undef, .undef, .undef, .undef, .undef, .undef, .undef, .undef, .undef, .undef, .undef, .undef, .undef, .undef, .undef, .undef, .undef, .undef, .undef, .undef, .undef, .undef, .undef, .undef, .undef, .undef, .undef, .undef, .undef, .undef, .undef, .undef, .undef, .undef, .undef, .undef, .undef, .undef, .undef, .undef, .undef, .undef, .undef, .undef, .undef, .undef, .undef, .undef, .undef, .undef, .undef, .undef, .undef, .undef, .undef, .undef, .undef, .undef, .undef, .undef, .undef, .undef, .undef, .undef, .undef, .undef, .undef, .undef, .undef, .undef, .undef, .undef, .undef, .undef, .undef, .undef, .undef, .undef, .undef, .undef, .undef, .undef, .undef, .undef, .undef, .undef, .undef, .undef, .undef, .undef, .undef, .undef, .undef, .undef, .undef, .undef, .undef, .undef, .undef, .undef, .undef, .undef, .undef, .undef, .undef, .undef, .undef, .undef, .undef, .undef, .undef, .undef, .undef, .undef, .undef, .undef, .undef, .undef, .undef, .undef, .undef, .undef, .undef, .undef, .undef, .undef, .undef, .undef, .undef, .undef, .undef] m
noncomputable def g5_11 (t5 t7 t19 t20 t21 : AV) (m : Mem) : R := goAt E 5 11 [.undef, .undef, .undef, .undef, .undef, t5, .undef, t7, .undef, .undef, .undef, .undef, .undef, .undef, .undef, .undef, .undef, .undef, .undef, t19, t20, t21, .undef, .undef, .undef, .undef, .undef, .undef, .undef, .undef, .undef, .undef, .undef, .undef, .undef, .undef, .undef, .undef, .undef, .undef, .undef, .undef, .undef, .undef, .undef, .undef, .undef, .undef, .undef, .undef, .undef, .undef, .undef, .undef, .undef, .undef, .undef, .undef, .undef, .undef, .undef, .undef, .undef, .undef, .undef, .undef, .undef, .undef, .undef, .undef, .undef, .undef, .undef, .undef, .undef, .undef, .undef, .undef, .undef, .undef, .undef, .undef, .undef, .undef, .undef, .undef, .undef, .undef, .undef, .undef, .undef, .undef, .undef, .undef, .undef, .undef, .undef, .undef, .undef, .undef, .undef, .undef, .undef, .undef, .undef, .undef, .undef, .undef, .undef, .undef, .undef, .undef, .undef, .undef, .undef, .undef, .undef, .undef, .undef, .undef, .undef, .undef, .undef, .undef, .undef, .undef, .undef, .undef, .undef, .undef, .undef, .undef, .undef, .undef, .undef, .undef, .undef, .undef, .undef, .undef, .undef, .undef, .undef, .undef, .undef, .undef, .undef, .undef, .undef, .undef, .undef, .undef, .undef, .undef, .undef, .undef, .undef, .undef, .undef, .undef, .undef, .undef, .undef, .undef, .undef, .undef, .undef, .undef, .undef, .undef, .undef, .undef, .undef, .undef, .undef, .undef, .undef, .undef, .undef, .undef, .undef, .undef, .undef, .undef, .undef, .undef, .undef, .undef, .undef, .undef, .undef, .undef, .undef, .undef, .undef, .undef, .undef, .undef, .undef, .undef] m
noncomputable def g5_12 (t5 t7 t20 : AV) (m : Mem) : R := goAt E 5 12 [.undef, .undef, .undef, .undef, .undef, t5, .undef, t7, .undef, .undef, .undef, .undef, .undef, .undef, .undef, .undef, .undef, .undef, .undef, .undef, t20, .undef, .undef, .undef, .undef, .undef, .undef, .undef, .undef, .undef, .undef, .undef, .undef, .undef, .undef, .undef, .undef, .undef, .undef, .undef, .undef, .undef, .undef, .undef, .undef, .undef, .undef, .undef, .undef, .undef, .undef, .undef, .undef, .undef, .undef, .undef, .undef, .undef, .undef, .undef, .undef, .undef, .undef, .undef, .undef, .undef, .undef, .undef, .undef, .undef, .undef, .undef, .undef, .undef, .undef, .undef, .undef, .undef, .undef, .undef, .undef, .undef, .undef, .undef, .undef, .undef, .undef, .undef, .undef, .undef, .undef, .undef, .undef, .undef, .undef, .undef, .undef, .undef, .undef, .undef, .undef, .undef, .undef, .undef, .undef, .undef, .undef, .undef, .undef, .undef, .undef, .undef, .undef, .undef, .undef, .undef, .undef, .undef, .undef, .undef, .undef, .undef, .undef, .undef, .undef, .undef, .undef, .undef, .undef, .undef, .undef, .undef, .undef, .undef, .undef, .undef, .undef, .undef, .undef, .undef, .undef, .undef, .undef, .undef, .undef, .undef, .undef, .undef, .undef, .undef, .undef, .undef, .undef, .undef, .undef, .undef, .undef, .undef, .undef, .undef, .undef, .undef, .undef, .undef, .undef, .undef, .undef, .undef, .undef, .undef, .undef, .undef, .undef, .undef, .undef, .undef, .undef, .undef, .undef, .undef, .undef, .undef, .undef, .undef, .undef, .undef, .undef, .undef, .undef, .undef, .undef, .undef, .undef, .undef, .undef, .undef, .undef, .undef, .undef, .undef] m
theorem g5_0_eq (t0 t1 t5 t6 : AV) (m : Mem) : g5_0 t0 t1 t5 t6 m =
  Option.bind (binA Try.prog .lss 3 t0 (.int .i64 1)) fun x0 =>
  ifV x0 (
  Option.bind (binA Try.prog .eql 24 t6 (.int .i64 1)) fun x1 =>
  ifV x1 (
  Option.bind (binA Try.prog .eql 23 t5 (.ptr none)) fun x2 =>
  some (x2, m)) (
  some ((.bool false), m))) (
  Option.bind (binA Try.prog .gtr 3 t0 (.int .i64 256)) fun x3 =>
  condA x3 (
   Option.bind (binA Try.prog .eql 24 t6 (.int .i64 1)) fun x4 =>
   ifV x4 (
   Option.bind (binA Try.prog .eql 23 t5 (.ptr none)) fun x5 =>
   some (x5, m)) (
   some ((.bool false), m))) (
   g5_1 t0 t1 t5 t6 m)) :=
  goAt_eq 400 (by kernel_rfl)
theorem g5_1_eq (t0 t1 t5 t6 : AV) (m : Mem) : g5_1 t0 t1 t5 t6 m =
  Option.bind (binA Try.prog .neq 24 t6 (.int .i64 0)) fun x0 =>
  ifV x0 (
  some ((.bool false), m)) (
  Option.bind (binA Try.prog .eql 23 t5 (.ptr none)) fun x1 =>
  condA x1 (
   some ((.bool false), m)) (
   g5_2 t0 t1 t5 m)) :=
  goAt_eq 400 (by kernel_rfl)
theorem g5_2_eq (t0 t1 t5 : AV) (m : Mem) : g5_2 t0 t1 t5 m =
  Option.bind (buildA Try.prog 45 [(0, t0)]) fun x0 =>
  Option.bind (boxA x0) fun c1 =>
  let m1 := Mem.alloc m c1.1
  g5_3 t1 t5 (c1.2 (m).next) (.int .i64 0) m1 :=
  goAt_eq 400 (by kernel_rfl)
theorem g5_3_eq (t1 t5 t7 t8 : AV) (m : Mem) : g5_3 t1 t5 t7 t8 m =
  Option.bind (lenT Try.prog 42 t1) fun x0 =>
  Option.bind (binA Try.prog .lss 3 t8 x0) fun x1 =>
  ifV x1 (
  Option.bind (binA Try.prog .lss 3 t8 (.int .i64 800)) fun x2 =>
  condA x2 (
   g5_4 t1 t5 t7 t8 m) (
   g5_8 t5 t7 m)) (
  g5_8 t5 t7 m) :=
  goAt_eq 400 (by kernel_rfl)
theorem g5_4_eq (t1 t5 t7 t8 : AV) (m : Mem) : g5_4 t1 t5 t7 t8 m =
  Option.bind (indexAddrA Try.prog 42 t1 t8) fun x0 =>
  Option.bind (fieldAddrA Try.prog 47 x0 1) fun x1 =>
  Option.bind (loadA Try.prog 3 x1 m) fun x2 =>
  Option.bind (indexAddrA Try.prog 42 t1 t8) fun x3 =>
  Option.bind (fieldAddrA Try.prog 47 x3 2) fun x4 =>
  Option.bind (loadA Try.prog 4 x4 m) fun x5 =>
  condA x5 (
   Option.bind (nnA t7) fun x6 =>
   Option.bind (fieldAddrA Try.prog 45 x6 2) fun x7 =>
   Option.bind (loadA Try.prog 22 x7 m) fun x8 =>
   Option.bind (lenT Try.prog 22 x8) fun x9 =>
   Option.bind (binA Try.prog .add 3 x9 (.int .i64 1)) fun x10 =>
   Option.bind (run E 11 [x2, x10] m) fun r11 =>
   g5_5 t1 t5 t7 t8 r11.1 r11.2) (
   g5_5 t1 t5 t7 t8 x2 m) :=
  goAt_eq 400 (by kernel_rfl)
theorem g5_5_eq (t1 t5 t7 t8 t9 : AV) (m : Mem) : g5_5 t1 t5 t7 t8 t9 m =
  Option.bind (indexAddrA Try.prog 42 t1 t8) fun x0 =>
  Option.bind (fieldAddrA Try.prog 47 x0 0) fun x1 =>
  Option.bind (loadA Try.prog 3 x1 m) fun x2 =>
  Option.bind (run E 11 [x2, (.int .i64 5)] m) fun r3 =>
  Option.bind (binA Try.prog .eql 3 r3.1 (.int .i64 2)) fun x4 =>
  condA x4 (
   Option.bind (run E 10 [t5, t9] r3.2) fun r5 =>
   Option.bind (extractA r5.1 0) fun x6 =>
   Option.bind (extractA r5.1 1) fun x7 =>
   Option.bind (run E 20 [t7, t9] r5.2) fun r8 =>
   Option.bind (extractA r8.1 0) fun x9 =>
   Option.bind (extractA r8.1 1) fun x10 =>
   Option.bind (binA Try.prog .eql 3 x6 x9) fun x11 =>
   ifV x11 (
   Option.bind (binA Try.prog .eql 4 x7 x10) fun x12 =>
   g5_6 t1 t5 t7 t8 x12 r8.2) (
   g5_6 t1 t5 t7 t8 (.bool false) r8.2)) (
   Option.bind (binA Try.prog .eql 3 r3.1 (.int .i64 3)) fun x13 =>
   condA x13 (
    Option.bind (run E 21 [t5, t9] r3.2) fun r14 =>
    Option.bind (run E 22 [t7, t9] r14.2) fun r15 =>
    Option.bind (binA Try.prog .eql 4 r14.1 r15.1) fun x16 =>
    g5_6 t1 t5 t7 t8 x16 r15.2) (
    Option.bind (binA Try.prog .eql 3 r3.1 (.int .i64 4)) fun x17 =>
    condA x17 (
     Option.bind (run E 23 [t5, t9] r3.2) fun r18 =>
     Option.bind (extractA r18.1 0) fun x19 =>
     Option.bind (extractA r18.1 1) fun x20 =>
     Option.bind (run E 24 [t7, t9] r18.2) fun r21 =>
     Option.bind (extractA r21.1 0) fun x22 =>
     Option.bind (extractA r21.1 1) fun x23 =>
     Option.bind (binA Try.prog .eql 3 x19 x22) fun x24 =>
     ifV x24 (
     Option.bind (binA Try.prog .eql 4 x20 x23) fun x25 =>
     g5_6 t1 t5 t7 t8 x25 r21.2) (
     g5_6 t1 t5 t7 t8 (.bool false) r21.2)) (
     Option.bind (indexAddrA Try.prog 42 t1 t8) fun x26 =>
     Option.bind (fieldAddrA Try.prog 47 x26 1) fun x27 =>
     Option.bind (loadA Try.prog 3 x27 r3.2) fun x28 =>
     Option.bind (run E 9 [t5, x28] r3.2) fun r29 =>
     Option.bind (indexAddrA Try.prog 42 t1 t8) fun x30 =>
     Option.bind (fieldAddrA Try.prog 47 x30 1) fun x31 =>
     Option.bind (loadA Try.prog 3 x31 r29.2) fun x32 =>
     ite (loadA Try.prog 3 x31 r3.2 = some x32) (
     Option.bind (run E 25 [t7, x32] r29.2) fun r33 =>
     Option.bind (binA Try.prog .eql 4 r29.1 r33.1) fun x34 =>
     g5_6 t1 t5 t7 t8 x34 r33.2) none))) :=
  goAt_eq 400 (by kernel_rfl)
theorem g5_6_eq (t1 t5 t7 t8 t10 : AV) (m : Mem) : g5_6 t1 t5 t7 t8 t10 m =
  Option.bind (unA .not t10) fun x0 =>
  ifV x0 (
  some ((.bool false), m)) (
  Option.bind (run E 26 [t5] m) fun r1 =>
  Option.bind (nnA t7) fun x2 =>
  Option.bind (fieldAddrA Try.prog 45 x2 2) fun x3 =>
  Option.bind (loadA Try.prog 22 x3 r1.2) fun x4 =>
  ite (loadA Try.prog 22 x3 m = some x4) (
  Option.bind (lenT Try.prog 22 x4) fun x5 =>
  Option.bind (binA Try.prog .neq 3 r1.1 x5) fun x6 =>
  ifV x6 (
  some ((.bool false), r1.2)) (
  Option.bind (run E 27 [t5] r1.2) fun r7 =>
  Option.bind (nnA t7) fun x8 =>
  Option.bind (fieldAddrA Try.prog 45 x8 1) fun x9 =>
  Option.bind (loadA Try.prog 3 x9 r7.2) fun x10 =>
  ite (loadA Try.prog 3 x9 r1.2 = some x10) (
  Option.bind (binA Try.prog .neq 3 r7.1 x10) fun x11 =>
  condA x11 (
   some ((.bool false), r7.2)) (
   g5_7 t1 t5 t7 t8 r7.2)) none)) none) :=
  goAt_eq 400 (by kernel_rfl)
theorem g5_7_eq (t1 t5 t7 t8 : AV) (m : Mem) : g5_7 t1 t5 t7 t8 m =
  Option.bind (binA Try.prog .add 3 t8 (.int .i64 1)) fun x0 =>
  g5_3 t1 t5 t7 x0 m :=
  goAt_eq 400 (by kernel_rfl)
theorem g5_8_eq (t5 t7 : AV) (m : Mem) : g5_8 t5 t7 m =
  Option.bind (run E 13 [t5] m) fun r0 =>
  Option.bind (nnA t7) fun x1 =>
  Option.bind (fieldAddrA Try.prog 45 x1 2) fun x2 =>
  Option.bind (loadA Try.prog 22 x2 r0.2) fun x3 =>
  Option.bind (run E 12 [r0.1, x3] r0.2) fun r4 =>
  g5_9 t5 t7 r0.1 r4.1 (.int .i64 0) r4.2 :=
  goAt_eq 400 (by kernel_rfl)
theorem g5_9_eq (t5 t7 t19 t20 t21 : AV) (m : Mem) : g5_9 t5 t7 t19 t20 t21 m =
  Option.bind (lenT Try.prog 22 t19) fun x0 =>
  Option.bind (binA Try.prog .lss 3 t21 x0) fun x1 =>
  condA x1 (
   g5_10 t5 t7 t19 t20 t21 m) (
   g5_12 t5 t7 t20 m) :=
  goAt_eq 400 (by kernel_rfl)
theorem g5_10_eq (t5 t7 t19 t20 t21 : AV) (m : Mem) : g5_10 t5 t7 t19 t20 t21 m =
  Option.bind (indexAddrA Try.prog 22 t19 t21) fun x0 =>
  Option.bind (stV m x0 (.int .i64 (-77)) 1) fun m1 =>
  g5_11 t5 t7 t19 t20 t21 m1 :=
  goAt_eq 400 (by kernel_rfl)
theorem g5_11_eq (t5 t7 t19 t20 t21 : AV) (m : Mem) : g5_11 t5 t7 t19 t20 t21 m =
  Option.bind (binA Try.prog .add 3 t21 (.int .i64 1)) fun x0 =>
  g5_9 t5 t7 t19 t20 x0 m :=
  goAt_eq 400 (by kernel_rfl)
theorem g5_12_eq (t5 t7 t20 : AV) (m : Mem) : g5_12 t5 t7 t20 m =
  ifV t20 (
  Option.bind (run E 13 [t5] m) fun r0 =>
  Option.bind (nnA t7) fun x1 =>
  Option.bind (fieldAddrA Try.prog 45 x1 2) fun x2 =>
  Option.bind (loadA Try.prog 22 x2 r0.2) fun x3 =>
  ite (loadA Try.prog 22 x2 m = some x3) (
  Option.bind (run E 12 [r0.1, x3] r0.2) fun r4 =>
  some (r4.1, r4.2)) none) (
  some ((.bool false), m)) :=
  goAt_eq 400 (by kernel_rfl)
theorem f5_eq (a0 a1 : AV) (m : Mem) : run E 5 [a0, a1] m =
  Option.bind (run E 7 [a0] m) fun r0 =>
  Option.bind (extractA r0.1 0) fun x1 =>
  Option.bind (extractA r0.1 1) fun x2 =>
  Option.bind (run E 8 [] r0.2) fun r3 =>
  Option.bind (unA .not r3.1) fun x4 =>
  condA x4 (
   some ((.bool false), r3.2)) (
   g5_0 a0 a1 x1 x2 r3.2) :=
  run_eq 400 rfl (by kernel_rfl) (by kernel_rfl)
noncomputable def g6_0 (t0 t1 t5 : AV) (m : Mem) : R := goAt E 6 0 [t0, t1, .undef, .undef, .undef, t5, .undef, .undef, .undef, .undef, .undef, .undef, .undef, .undef, .undef, .undef, .undef, .undef, .undef, .undef, .undef, .undef, .undef, .undef, .undef, .undef, .undef, .undef, .undef, .undef, .undef, .undef, .undef, .undef, .undef, .undef, .undef, .undef, .undef, .undef, .undef, .undef, .undef, .undef, .undef, .undef, .undef, .undef, .undef, .undef, .undef, .undef, .undef, .undef, .undef, .undef, .undef, .undef, .undef, .undef, .undef, .undef, .undef, .undef, .undef, .undef, .undef, .undef, .undef, .undef, .undef, .undef, .undef, .undef, .undef, .undef, .undef, .undef, .undef, .undef, .undef, .undef, .undef, .undef, .undef, .undef, .undef, .undef, .undef, .undef, .undef, .undef, .undef, .undef, .undef, .undef, .undef, .undef, .undef, .undef, .undef, .undef, .undef, .undef, .undef, .undef, .undef, .undef, .undef, .undef, .undef, .undef, .undef, .undef] m
noncomputable def g6_1 (t0 t1 t5 t7 t8 t9 t10 : AV) (m : Mem) : R := goAt E 6 1 [t0, t1, .undef, .undef, .undef, t5, .undef, t7, t8, t9, t10, .undef, .undef, .undef, .undef, .undef, .undef, .undef, .undef, .undef, .undef, .undef, .undef, .undef, .undef, .undef, .undef, .undef, .undef, .undef, .undef, .undef, .undef, .undef, .undef, .undef, .undef, .undef, .undef, .undef, .undef, .undef, .undef, .undef, .undef, .undef, .undef, .undef, .undef, .undef, .undef, .undef, .undef, .undef, .undef, .undef, .undef, .undef, .undef, .undef, .undef, .undef, .undef, .undef, .undef, .undef, .undef, .undef, .undef, .undef, .undef, .undef, .undef, .undef, .undef, .undef, .undef, .undef, .undef, .undef, .undef, .undef, .undef, .undef, .undef, .undef, .undef, .undef, .undef, .undef, .undef, .undef, .undef, .undef, .undef, .undef, .undef, .undef, .undef, .undef, .undef, .undef, .undef, .undef, .undef, .undef, .undef, .undef, .undef, .undef, .undef, .undef, .undef, .undef] m
noncomputable def g6_2 (t0 t1 t5 t7 t8 t9 t10 : AV) (m : Mem) : R := goAt E 6 2 [t0, t1, .undef, .undef, .undef, t5, .undef, t7, t8, t9, t10, .undef, .undef, .undef, .undef, .undef, .undef, .undef, .undef, .undef, .undef, .undef, .undef, .undef, .undef, .undef, .undef, .undef, .undef, .undef, .undef, .undef, .undef, .undef, .undef, .undef, .undef, .undef, .undef, .undef, .undef, .undef, .undef, .undef, .undef, .undef, .undef, .undef, .undef, .undef, .undef, .undef, .undef, .undef, .undef, .undef, .undef, .undef, .undef, .undef, .undef, .undef, .undef, .undef, .undef, .undef, .undef, .undef, .undef, .undef, .undef, .undef, .undef, .undef, .undef, .undef, .undef, .undef, .undef, .undef, .undef, .undef, .undef, .undef, .undef, .undef, .undef, .undef, .undef, .undef, .undef, .undef, .undef, .undef, .undef, .undef, .undef, .undef, .undef, .undef, .undef, .undef, .undef, .undef, .undef, .undef, .undef, .undef, .undef, .undef, .undef, .undef, .undef, .undef] m
noncomputable def g6_3 (t0 t1 t5 t7 t8 t9 t10 : AV) (m : Mem) : R := goAt E 6 3 [t0, t1, .undef, .undef, .undef, t5, .undef, t7, t8, t9, t10, .undef, .undef, .undef, .undef, .undef, .undef, .undef, .undef, .undef, .undef, .undef, .undef, .undef, .undef, .undef, .undef, .undef, .undef, .undef, .undef, .undef, .undef, .undef, .undef, .undef, .undef, .undef, .undef, .undef, .undef, .undef, .undef, .undef, .undef, .undef, .undef, .undef, .undef, .undef, .undef, .undef, .undef, .undef, .undef, .undef, .undef, .undef, .undef, .undef, .undef, .undef, .undef, .undef, .undef, .undef, .undef, .undef, .undef, .undef, .undef, .undef, .undef, .undef, .undef, .undef, .undef, .undef, .undef, .undef, .undef, .undef, .undef, .undef, .undef, .undef, .undef, .undef, .undef, .undef, .undef, .undef, .undef, .undef, .undef, .undef, .undef, .undef, .undef, .undef, .undef, .undef, .undef, .undef, .undef, .undef, .undef, .undef, .undef, .undef, .undef, .undef, .undef, .undef] m
noncomputable def g6_4 (t0 t1 t5 t7 t8 t9 t10 : AV) (m : Mem) : R := goAt E 6 4 [t0, t1, .undef, .undef, .undef, t5, .undef, t7, t8, t9, t10, .undef, .undef, .undef, .undef, .undef, .undef, .undef, .undef, .undef, .undef, .undef, .undef, .undef, .undef, .undef, .undef, .undef, .undef, .undef, .undef, .undef, .undef, .undef, .undef, .undef, .undef, .undef, .undef, .undef, .undef, .undef, .undef, .undef, .undef, .undef, .undef, .undef, .undef, .undef, .undef, .undef, .undef, .undef, .undef, .undef, .undef, .undef, .undef, .undef, .undef, .undef, .undef, .undef, .undef, .undef, .undef, .undef, .undef, .undef, .undef, .undef, .undef, .undef, .undef, .undef, .undef, .undef, .undef, .undef, .undef, .undef, .undef, .undef, .undef, .undef, .undef, .undef, .undef, .undef, .undef, .undef, .undef, .undef, .undef, .undef, .undef, .undef, .undef, .undef, .undef, .undef, .undef, .undef, .undef, .undef, .undef, .undef, .undef, .undef, .undef, .undef, .undef, .undef] m
noncomputable def g6_5 (m : Mem) : R := goAt E 6 5 [.undef, .undef, .undef, .undef, .undef, .undef, .undef, .undef, .undef, .undef, .undef, .undef, .undef, .undef, .undef, .undef, .undef, .undef, .undef, .undef, .undef, .undef, .undef, .undef, .undef, .undef, .undef, .undef, .undef, .undef, .undef, .undef, .undef, .undef, .undef, .undef, .undef, .undef, .undef, .undef, .undef, .undef, .undef, .undef, .undef, .undef, .undef, .undef, .undef, .undef, .undef, .undef, .undef, .undef, .undef, .undef, .undef, .undef, .undef, .undef, .undef, .undef, .undef, .undef, .undef, .undef, .undef, .undef, .undef, .undef, .undef, .undef, .undef, .undef, .undef, .undef, .undef, .undef, .undef, .undef, .undef, .undef, .undef, .undef, .undef, .undef, .undef, .undef, .undef, .undef, .undef, .undef, .undef, .undef, .undef, .undef, .undef, .undef, .undef, .undef, .undef, .undef, .undef, .undef, .undef, .undef, .undef, .undef, .undef, .undef, .undef, .undef, .undef, .undef] m
theorem g6_0_eq (t0 t1 t5 : AV) (m : Mem) : g6_0 t0 t1 t5 m =
  g6_1 t0 t1 t5 (.int .i64 0) (.int .i64 0) (.int .i64 0) (.int .i64 0) m :=
  goAt_eq 400 (by kernel_rfl)
theorem g6_1_eq (t0 t1 t5 t7 t8 t9 t10 : AV) (m : Mem) : g6_1 t0 t1 t5 t7 t8 t9 t10 m =
  Option.bind (lenT Try.prog 42 t1) fun x0 =>
  Option.bind (binA Try.prog .lss 3 t10 x0) fun x1 =>
  ifV x1 (
  Option.bind (binA Try.prog .lss 3 t10 (.int .i64 1000)) fun x2 =>
  condA x2 (
   g6_2 t0 t1 t5 t7 t8 t9 t10 m) (
   g6_5  m)) (
  g6_5  m) :=
  goAt_eq 400 (by kernel_rfl)
theorem g6_2_eq (t0 t1 t5 t7 t8 t9 t10 : AV) (m : Mem) : g6_2 t0 t1 t5 t7 t8 t9 t10 m =
  Option.bind (indexAddrA Try.prog 42 t1 t10) fun x0 =>
  Option.bind (fieldAddrA Try.prog 47 x0 0) fun x1 =>
  Option.bind (loadA Try.prog 3 x1 m) fun x2 =>
  Option.bind (run E 11 [x2, (.int .i64 5)] m) fun r3 =>
  Option.bind (binA Try.prog .eql 3 r3.1 (.int .i64 2)) fun x4 =>
  condA x4 (
   Option.bind (indexAddrA Try.prog 42 t1 t10) fun x5 =>
   Option.bind (fieldAddrA Try.prog 47 x5 1) fun x6 =>
   Option.bind (loadA Try.prog 3 x6 r3.2) fun x7 =>
   Option.bind (run E 15 [t5, x7] r3.2) fun r8 =>
   Option.bind (extractA r8.1 0) fun x9 =>
   Option.bind (extractA r8.1 1) fun x10 =>
   condA x10 (
    Option.bind (binA Try.prog .sub 3 t7 (.int .i64 1)) fun x11 =>
    g6_3 t0 t1 t5 x11 t8 t9 t10 r8.2) (
    g6_3 t0 t1 t5 t7 t8 t9 t10 r8.2)) (
   Option.bind (binA Try.prog .eql 3 r3.1 (.int .i64 3)) fun x12 =>
   condA x12 (
    Option.bind (indexAddrA Try.prog 42 t1 t10) fun x13 =>
    Option.bind (fieldAddrA Try.prog 47 x13 1) fun x14 =>
    Option.bind (loadA Try.prog 3 x14 r3.2) fun x15 =>
    Option.bind (run E 18 [t5, x15] r3.2) fun r16 =>
    condA r16.1 (
     Option.bind (binA Try.prog .add 3 t7 (.int .i64 1)) fun x17 =>
     g6_3 t0 t1 t5 x17 t8 t9 t10 r16.2) (
     g6_3 t0 t1 t5 t7 t8 t9 t10 r16.2)) (
    Option.bind (binA Try.prog .eql 3 r3.1 (.int .i64 4)) fun x18 =>
    condA x18 (
     Option.bind (indexAddrA Try.prog 42 t1 t10) fun x19 =>
     Option.bind (fieldAddrA Try.prog 47 x19 1) fun x20 =>
     Option.bind (loadA Try.prog 3 x20 r3.2) fun x21 =>
     Option.bind (run E 17 [t5, x21] r3.2) fun r22 =>
     g6_3 t0 t1 t5 t7 t8 t9 t10 r22.2) (
     Option.bind (binA Try.prog .add 3 t8 (.int .i64 1)) fun x23 =>
     Option.bind (run E 16 [t5, (.str [120])] r3.2) fun r24 =>
     condA r24.1 (
      Option.bind (binA Try.prog .add 3 t7 (.int .i64 1)) fun x25 =>
      Option.bind (binA Try.prog .add 3 t9 (.int .i64 1)) fun x26 =>
      g6_3 t0 t1 t5 x25 x23 x26 t10 r24.2) (
      g6_3 t0 t1 t5 t7 x23 t9 t10 r24.2)))) :=
  goAt_eq 400 (by kernel_rfl)
theorem g6_3_eq (t0 t1 t5 t7 t8 t9 t10 : AV) (m : Mem) : g6_3 t0 t1 t5 t7 t8 t9 t10 m =
  Option.bind (run E 19 [t5] m) fun r0 =>
  Option.bind (binA Try.prog .neq 3 r0.1 t7) fun x1 =>
  ifV x1 (
  some ((.bool false), r0.2)) (
  Option.bind (run E 28 [t5] r0.2) fun r2 =>
  Option.bind (lenT Try.prog 49 r2.1) fun x3 =>
  Option.bind (binA Try.prog .neq 3 x3 t7) fun x4 =>
  ifV x4 (
  some ((.bool false), r2.2)) (
  Option.bind (binA Try.prog .gtr 3 t7 t0) fun x5 =>
  ifV x5 (
  some ((.bool false), r2.2)) (
  Option.bind (run E 29 [t5] r2.2) fun r6 =>
  Option.bind (binA Try.prog .sub 3 t8 t9) fun x7 =>
  Option.bind (binA Try.prog .neq 3 r6.1 x7) fun x8 =>
  condA x8 (
   some ((.bool false), r6.2)) (
   g6_4 t0 t1 t5 t7 t8 t9 t10 r6.2)))) :=
  goAt_eq 400 (by kernel_rfl)
theorem g6_4_eq (t0 t1 t5 t7 t8 t9 t10 : AV) (m : Mem) : g6_4 t0 t1 t5 t7 t8 t9 t10 m =
  Option.bind (binA Try.prog .add 3 t10 (.int .i64 1)) fun x0 =>
  g6_1 t0 t1 t5 t7 t8 t9 x0 m :=
  goAt_eq 400 (by kernel_rfl)
theorem g6_5_eq (m : Mem) : g6_5  m =
  some ((.bool true), m) :=
  goAt_eq 400 (by kernel_rfl)
theorem f6_eq (a0 a1 : AV) (m : Mem) : run E 6 [a0, a1] m =
  Option.bind (run E 11 [a0, (.int .i64 256)] m) fun r0 =>
  Option.bind (binA Try.prog .add 3 (.int .i64 1) r0.1) fun x1 =>
  Option.bind (run E 14 [x1] r0.2) fun r2 =>
  Option.bind (extractA r2.1 0) fun x3 =>
  Option.bind (extractA r2.1 1) fun x4 =>
  Option.bind (run E 8 [] r2.2) fun r5 =>
  Option.bind (unA .not r5.1) fun x6 =>
  ifV x6 (
  some ((.bool false), r5.2)) (
  Option.bind (binA Try.prog .neq 24 x4 (.int .i64 0)) fun x7 =>
  ifV x7 (
  some ((.bool false), r5.2)) (
  Option.bind (binA Try.prog .eql 35 x3 (.ptr none)) fun x8 =>
  condA x8 (
   some ((.bool false), r5.2)) (
   g6_0 x1 a1 x3 r5.2))) :=
  run_eq 400 rfl (by kernel_rfl) (by kernel_rfl)
noncomputable def g7_0 (t0 : AV) (m : Mem) : R := goAt E 7 0 [t0, .undef, .undef, .undef, .undef, .undef, .undef, .undef, .undef, .undef, .undef, .undef, .undef] m
theorem g7_0_eq (t0 : AV) (m : Mem) : g7_0 t0 m =
  Option.bind (buildA Try.prog 52 [(1, t0)]) fun x0 =>
  Option.bind (boxA x0) fun c1 =>
  let m1 := Mem.alloc m c1.1
  some ((.tup [(c1.2 (m).next), (.int .i64 0)]), m1) :=
  goAt_eq 400 (by kernel_rfl)
theorem f7_eq (a0 : AV) (m : Mem) : run E 7 [a0] m =
  Option.bind (binA Try.prog .lss 3 a0 (.int .i64 1)) fun x0 =>
  ifV x0 (
  some ((.tup [(.ptr none), (.int .i64 1)]), m)) (
  Option.bind (binA Try.prog .gtr 3 a0 (.int .i64 256)) fun x1 =>
  condA x1 (
   some ((.tup [(.ptr none), (.int .i64 1)]), m)) (
   g7_0 a0 m)) :=
  run_eq 400 rfl (by kernel_rfl) (by kernel_rfl)
noncomputable def g8_0 (t1 : AV) (m : Mem) : R := goAt E 8 0 [.undef, t1, .undef, .undef, .undef, .undef, .undef, .undef, .undef, .undef, .undef, .undef, .undef, .undef, .undef, .undef, .undef, .undef, .undef, .undef, .undef, .undef, .undef, .undef, .undef, .undef, .undef, .undef, .undef, .undef, .undef, .undef, .undef, .undef, .undef, .undef, .undef, .undef, .undef, .undef, .undef, .undef, .undef, .undef, .undef, .undef, .undef, .undef, .undef, .undef, .undef, .undef, .undef, .undef, .undef, .undef, .undef, .undef, .undef, .undef, .undef, .undef, .undef, .undef, .undef, .undef, .undef, .undef, .undef, .undef, .undef, .undef, .undef, .undef, .undef] m
theorem g8_0_eq (t1 : AV) (m : Mem) : g8_0 t1 m =
  Option.bind (run E 9 [t1, (.int .i64 5)] m) fun r0 =>
  Option.bind (run E 9 [t1, (.int .i64 6)] r0.2) fun r1 =>
  Option.bind (run E 9 [t1, (.int .i64 7)] r1.2) fun r2 =>
  Option.bind (run E 10 [t1, (.int .i64 0)] r2.2) fun r3 =>
  Option.bind (extractA r3.1 0) fun x4 =>
  Option.bind (extractA r3.1 1) fun x5 =>
  Option.bind (run E 21 [t1, (.int .i64 0)] r3.2) fun r6 =>
  Option.bind (run E 13 [t1] r6.2) fun r7 =>
  ifV r0.1 (
  ifV r1.1 (
  Option.bind (unA .not r2.1) fun x8 =>
  ifV x8 (
  Option.bind (run E 27 [t1] r7.2) fun r9 =>
  Option.bind (binA Try.prog .eql 3 r9.1 (.int .i64 1)) fun x10 =>
  ifV x10 (
  Option.bind (binA Try.prog .eql 3 x4 (.int .i64 5)) fun x11 =>
  ifV x11 (
  ifV x5 (
  ifV r6.1 (
  Option.bind (lenT Try.prog 22 r7.1) fun x12 =>
  Option.bind (binA Try.prog .eql 3 x12 (.int .i64 2)) fun x13 =>
  ifV x13 (
  Option.bind (indexAddrA Try.prog 22 r7.1 (.int .i64 0)) fun x14 =>
  Option.bind (loadA Try.prog 3 x14 r9.2) fun x15 =>
  Option.bind (binA Try.prog .eql 3 x15 (.int .i64 6)) fun x16 =>
  ifV x16 (
  Option.bind (indexAddrA Try.prog 22 r7.1 (.int .i64 1)) fun x17 =>
  Option.bind (loadA Try.prog 3 x17 r9.2) fun x18 =>
  Option.bind (binA Try.prog .eql 3 x18 (.int .i64 6)) fun x19 =>
  some (x19, r9.2)) (
  some ((.bool false), r9.2))) (
  some ((.bool false), r9.2))) (
  some ((.bool false), r9.2))) (
  some ((.bool false), r9.2))) (
  some ((.bool false), r9.2))) (
  some ((.bool false), r9.2))) (
  some ((.bool false), r7.2))) (
  some ((.bool false), r7.2))) (
  some ((.bool false), r7.2)) :=
  goAt_eq 400 (by kernel_rfl)
theorem f8_eq (m : Mem) : run E 8 [] m =
  Option.bind (run E 7 [(.int .i64 2)] m) fun r0 =>
  Option.bind (extractA r0.1 0) fun x1 =>
  Option.bind (extractA r0.1 1) fun x2 =>
  Option.bind (binA Try.prog .neq 24 x2 (.int .i64 0)) fun x3 =>
  ifV x3 (
  some ((.bool false), r0.2)) (
  Option.bind (binA Try.prog .eql 23 x1 (.ptr none)) fun x4 =>
  condA x4 (
   some ((.bool false), r0.2)) (
   g8_0 x1 r0.2)) :=
  run_eq 400 rfl (by kernel_rfl) (by kernel_rfl)
noncomputable def g9_0 (t0 t1 : AV) (m : Mem) : R := goAt E 9 0 [t0, t1, .undef, .undef, .undef, .undef, .undef, .undef, .undef, .undef, .undef, .undef, .undef, .undef, .undef, .undef, .undef, .undef, .undef, .undef, .undef, .undef, .undef, .undef, .undef, .undef, .undef, .undef, .undef, .undef, .undef, .undef] m
theorem g9_0_eq (t0 t1 : AV) (m : Mem) : g9_0 t0 t1 m =
  Option.bind (nnA t0) fun x0 =>
  Option.bind (fieldAddrA Try.prog 52 x0 0) fun x1 =>
  Option.bind (loadA Try.prog 22 x1 m) fun x2 =>
  Option.bind (bsA 1 1 [(.int .i64 0)] [(0, t1)]) fun c3 =>
  let m3 := Mem.alloc m c3.1
  Option.bind (appendA 1 8 x2 (c3.2 (m).next) m3) fun r4 =>
  Option.bind (nnA t0) fun x5 =>
  Option.bind (fieldAddrA Try.prog 52 x5 0) fun x6 =>
  Option.bind (stV r4.2 x6 r4.1 1) fun m7 =>
  some ((.bool true), m7) :=
  goAt_eq 400 (by kernel_rfl)
theorem f9_eq (a0 a1 : AV) (m : Mem) : run E 9 [a0, a1] m =
  Option.bind (nnA a0) fun x0 =>
  Option.bind (fieldAddrA Try.prog 52 x0 0) fun x1 =>
  Option.bind (loadA Try.prog 22 x1 m) fun x2 =>
  Option.bind (lenT Try.prog 22 x2) fun x3 =>
  Option.bind (nnA a0) fun x4 =>
  Option.bind (fieldAddrA Try.prog 52 x4 1) fun x5 =>
  Option.bind (loadA Try.prog 3 x5 m) fun x6 =>
  Option.bind (binA Try.prog .geq 3 x3 x6) fun x7 =>
  condA x7 (
   Option.bind (nnA a0) fun x8 =>
   Option.bind (fieldAddrA Try.prog 52 x8 2) fun x9 =>
   Option.bind (loadA Try.prog 3 x9 m) fun x10 =>
   Option.bind (binA Try.prog .add 3 x10 (.int .i64 1)) fun x11 =>
   Option.bind (nnA a0) fun x12 =>
   Option.bind (fieldAddrA Try.prog 52 x12 2) fun x13 =>
   Option.bind (stV m x13 x11 1) fun m14 =>
   some ((.bool false), m14)) (
   g9_0 a0 a1 m) :=
  run_eq 400 rfl (by kernel_rfl) (by kernel_rfl)
noncomputable def g10_0 (t6 t7 : AV) (m : Mem) : R := goAt E 10 0 [.undef, .undef, .undef, .undef, .undef, .undef, t6, t7, .undef, .undef, .undef, .undef, .undef, .undef, .undef, .undef, .undef, .undef, .undef, .undef, .undef, .undef, .undef, .undef, .undef, .undef, .undef, .undef, .undef, .undef, .undef, .undef, .undef, .undef] m
theorem g10_0_eq (t6 t7 : AV) (m : Mem) : g10_0 t6 t7 m =
  some ((.tup [t6, t7]), m) :=
  goAt_eq 400 (by kernel_rfl)
theorem f10_eq (a0 a1 : AV) (m : Mem) : run E 10 [a0, a1] m =
  Option.bind (run E 23 [a0, a1] m) fun r0 =>
  Option.bind (extractA r0.1 0) fun x1 =>
  Option.bind (extractA r0.1 1) fun x2 =>
  condA x2 (
   Option.bind (nnA a0) fun x3 =>
   Option.bind (fieldAddrA Try.prog 52 x3 0) fun x4 =>
   Option.bind (loadA Try.prog 22 x4 r0.2) fun x5 =>
   Option.bind (sliceA Try.prog 22 x5 none (some a1)) fun x6 =>
   Option.bind (nnA a0) fun x7 =>
   Option.bind (fieldAddrA Try.prog 52 x7 0) fun x8 =>
   Option.bind (loadA Try.prog 22 x8 r0.2) fun x9 =>
   Option.bind (binA Try.prog .add 3 a1 (.int .i64 1)) fun x10 =>
   Option.bind (sliceA Try.prog 22 x9 (some x10) none) fun x11 =>
   Option.bind (appendA 1 8 x6 x11 r0.2) fun r12 =>
   Option.bind (nnA a0) fun x13 =>
   Option.bind (fieldAddrA Try.prog 52 x13 0) fun x14 =>
   Option.bind (stV r12.2 x14 r12.1 1) fun m15 =>
   g10_0 x1 x2 m15) (
   g10_0 x1 x2 r0.2) :=
  run_eq 400 rfl (by kernel_rfl) (by kernel_rfl)
noncomputable def g11_0 (t0 : AV) (m : Mem) : R := goAt E 11 0 [t0, .undef, .undef, .undef, .undef, .undef, .undef, .undef, .undef, .undef, .undef, .undef, .undef, .undef] m
theorem g11_0_eq (t0 : AV) (m : Mem) : g11_0 t0 m =
  some (t0, m) :=
  goAt_eq 400 (by kernel_rfl)
theorem f11_eq (a0 a1 : AV) (m : Mem) : run E 11 [a0, a1] m =
  Option.bind (binA Try.prog .rem 3 a0 a1) fun x0 =>
  Option.bind (binA Try.prog .lss 3 x0 (.int .i64 0)) fun x1 =>
  condA x1 (
   Option.bind (binA Try.prog .add 3 x0 a1) fun x2 =>
   g11_0 x2 m) (
   g11_0 x0 m) :=
  run_eq 400 rfl (by kernel_rfl) (by kernel_rfl)
noncomputable def g12_0 (t0 t1 : AV) (m : Mem) : R := goAt E 12 0 [t0, t1, .undef, .undef, .undef, .undef, .undef, .undef, .undef, .undef, .undef, .undef, .undef, .undef, .undef, .undef, .undef, .undef, .undef, .undef, .undef, .undef, .undef, .undef, .undef, .undef] m
noncomputable def g12_1 (t0 t1 t5 : AV) (m : Mem) : R := goAt E 12 1 [t0, t1, .undef, .undef, .undef, t5, .undef, .undef, .undef, .undef, .undef, .undef, .undef, .undef, .undef, .undef, .undef, .undef, .undef, .undef, .undef, .undef, .undef, .undef, .undef, .undef] m
noncomputable def g12_2 (t0 t1 t5 : AV) (m : Mem) : R := goAt E 12 2 [t0, t1, .undef, .undef, .undef, t5, .undef, .undef, .undef, .undef, .undef, .undef, .undef, .undef, .undef, .undef, .undef, .undef, .undef, .undef, .undef, .undef, .undef, .undef, .undef, .undef] m
noncomputable def g12_3 (t0 t1 t5 : AV) (m : Mem) : R := goAt E 12 3 [t0, t1, .undef, .undef, .undef, t5, .undef, .undef, .undef, .undef, .undef, .undef, .undef, .undef, .undef, .undef, .undef, .undef, .undef, .undef, .undef, .undef, .undef, .undef, .undef, .undef] m
noncomputable def g12_4 (m : Mem) : R := goAt E 12 4 [.undef, .undef, .undef, .undef, .undef, .undef, .undef, .undef, .undef, .undef, .undef, .undef, .undef, .undef, .undef, .undef, .undef, .undef, .undef, .undef, .undef, .undef, .undef, .undef, .undef, .undef] m
theorem g12_0_eq (t0 t1 : AV) (m : Mem) : g12_0 t0 t1 m =
  g12_1 t0 t1 (.int .i64 0) m :=
  goAt_eq 400 (by kernel_rfl)
theorem g12_1_eq (t0 t1 t5 : AV) (m : Mem) : g12_1 t0 t1 t5 m =
  Option.bind (lenT Try.prog 22 t0) fun x0 =>
  Option.bind (binA Try.prog .lss 3 t5 x0) fun x1 =>
  condA x1 (
   g12_2 t0 t1 t5 m) (
   g12_4  m) :=
  goAt_eq 400 (by kernel_rfl)
theorem g12_2_eq (t0 t1 t5 : AV) (m : Mem) : g12_2 t0 t1 t5 m =
  Option.bind (indexAddrA Try.prog 22 t0 t5) fun x0 =>
  Option.bind (loadA Try.prog 3 x0 m) fun x1 =>
  Option.bind (indexAddrA Try.prog 22 t1 t5) fun x2 =>
  Option.bind (loadA Try.prog 3 x2 m) fun x3 =>
  Option.bind (binA Try.prog .neq 3 x1 x3) fun x4 =>
  condA x4 (
   some ((.bool false), m)) (
   g12_3 t0 t1 t5 m) :=
  goAt_eq 400 (by kernel_rfl)
theorem g12_3_eq (t0 t1 t5 : AV) (m : Mem) : g12_3 t0 t1 t5 m =
  Option.bind (binA Try.prog .add 3 t5 (.int .i64 1)) fun x0 =>
  g12_1 t0 t1 x0 m :=
  goAt_eq 400 (by kernel_rfl)
theorem g12_4_eq (m : Mem) : g12_4  m =
  some ((.bool true), m) :=
  goAt_eq 400 (by kernel_rfl)
theorem f12_eq (a0 a1 : AV) (m : Mem) : run E 12 [a0, a1] m =
  Option.bind (lenT Try.prog 22 a0) fun x0 =>
  Option.bind (lenT Try.prog 22 a1) fun x1 =>
  Option.bind (binA Try.prog .neq 3 x0 x1) fun x2 =>
  condA x2 (
   some ((.bool false), m)) (
   g12_0 a0 a1 m) :=
  run_eq 400 rfl (by kernel_rfl) (by kernel_rfl)
theorem f13_eq (a0 : AV) (m : Mem) : run E 13 [a0] m =
  let m0 := Mem.alloc m []
  Option.bind (nnA a0) fun x1 =>
  Option.bind (fieldAddrA Try.prog 52 x1 0) fun x2 =>
  Option.bind (loadA Try.prog 22 x2 m0) fun x3 =>
  Option.bind (appendA 1 8 (.sl (some ⟨(m).next, 0⟩) 1 0 0 true) x3 m0) fun r4 =>
  some (r4.1, r4.2) :=
  run_eq 400 rfl (by kernel_rfl) (by kernel_rfl)
noncomputable def g14_0 (t0 : AV) (m : Mem) : R := goAt E 14 0 [t0, .undef, .undef, .undef, .undef, .undef, .undef, .undef, .undef, .undef, .undef, .undef, .undef] m
theorem g14_0_eq (t0 : AV) (m : Mem) : g14_0 t0 m =
  Option.bind (buildA Try.prog 54 [(1, t0)]) fun x0 =>
  Option.bind (boxA x0) fun c1 =>
  let m1 := Mem.alloc m c1.1
  some ((.tup [(c1.2 (m).next), (.int .i64 0)]), m1) :=
  goAt_eq 400 (by kernel_rfl)
theorem f14_eq (a0 : AV) (m : Mem) : run E 14 [a0] m =
  Option.bind (binA Try.prog .lss 3 a0 (.int .i64 1)) fun x0 =>
  ifV x0 (
  some ((.tup [(.ptr none), (.int .i64 1)]), m)) (
  Option.bind (binA Try.prog .gtr 3 a0 (.int .i64 256)) fun x1 =>
  condA x1 (
   some ((.tup [(.ptr none), (.int .i64 1)]), m)) (
   g14_0 a0 m)) :=
  run_eq 400 rfl (by kernel_rfl) (by kernel_rfl)
noncomputable def g15_0 (t6 t7 : AV) (m : Mem) : R := goAt E 15 0 [.undef, .undef, .undef, .undef, .undef, .undef, t6, t7, .undef, .undef, .undef, .undef, .undef, .undef, .undef, .undef, .undef, .undef, .undef, .undef, .undef, .undef, .undef, .undef, .undef, .undef, .undef, .undef, .undef, .undef, .undef, .undef, .undef, .undef] m
theorem g15_0_eq (t6 t7 : AV) (m : Mem) : g15_0 t6 t7 m =
  some ((.tup [t6, t7]), m) :=
  goAt_eq 400 (by kernel_rfl)
theorem f15_eq (a0 a1 : AV) (m : Mem) : run E 15 [a0, a1] m =
  Option.bind (run E 17 [a0, a1] m) fun r0 =>
  Option.bind (extractA r0.1 0) fun x1 =>
  Option.bind (extractA r0.1 1) fun x2 =>
  condA x2 (
   Option.bind (nnA a0) fun x3 =>
   Option.bind (fieldAddrA Try.prog 54 x3 0) fun x4 =>
   Option.bind (loadA Try.prog 49 x4 r0.2) fun x5 =>
   Option.bind (sliceA Try.prog 49 x5 none (some a1)) fun x6 =>
   Option.bind (nnA a0) fun x7 =>
   Option.bind (fieldAddrA Try.prog 54 x7 0) fun x8 =>
   Option.bind (loadA Try.prog 49 x8 r0.2) fun x9 =>
   Option.bind (binA Try.prog .add 3 a1 (.int .i64 1)) fun x10 =>
   Option.bind (sliceA Try.prog 49 x9 (some x10) none) fun x11 =>
   Option.bind (appendA 1 16 x6 x11 r0.2) fun r12 =>
   Option.bind (nnA a0) fun x13 =>
   Option.bind (fieldAddrA Try.prog 54 x13 0) fun x14 =>
   Option.bind (stV r12.2 x14 r12.1 1) fun m15 =>
   g15_0 x1 x2 m15) (
   g15_0 x1 x2 r0.2) :=
  run_eq 400 rfl (by kernel_rfl) (by kernel_rfl)
noncomputable def g16_0 (t0 t1 : AV) (m : Mem) : R := goAt E 16 0 [t0, t1, .undef, .undef, .undef, .undef, .undef, .undef, .undef, .undef, .undef, .undef, .undef, .undef, .undef, .undef, .undef, .undef, .undef, .undef, .undef, .undef, .undef, .undef, .undef, .undef, .undef, .undef, .undef, .undef, .undef, .undef] m
theorem g16_0_eq (t0 t1 : AV) (m : Mem) : g16_0 t0 t1 m =
  Option.bind (nnA t0) fun x0 =>
  Option.bind (fieldAddrA Try.prog 54 x0 0) fun x1 =>
  Option.bind (loadA Try.prog 49 x1 m) fun x2 =>
  Option.bind (bsA 1 1 [(.str [])] [(0, t1)]) fun c3 =>
  let m3 := Mem.alloc m c3.1
  Option.bind (appendA 1 16 x2 (c3.2 (m).next) m3) fun r4 =>
  Option.bind (nnA t0) fun x5 =>
  Option.bind (fieldAddrA Try.prog 54 x5 0) fun x6 =>
  Option.bind (stV r4.2 x6 r4.1 1) fun m7 =>
  some ((.bool true), m7) :=
  goAt_eq 400 (by kernel_rfl)
theorem f16_eq (a0 a1 : AV) (m : Mem) : run E 16 [a0, a1] m =
  Option.bind (nnA a0) fun x0 =>
  Option.bind (fieldAddrA Try.prog 54 x0 0) fun x1 =>
  Option.bind (loadA Try.prog 49 x1 m) fun x2 =>
  Option.bind (lenT Try.prog 49 x2) fun x3 =>
  Option.bind (nnA a0) fun x4 =>
  Option.bind (fieldAddrA Try.prog 54 x4 1) fun x5 =>
  Option.bind (loadA Try.prog 3 x5 m) fun x6 =>
  Option.bind (binA Try.prog .geq 3 x3 x6) fun x7 =>
  condA x7 (
   Option.bind (nnA a0) fun x8 =>
   Option.bind (fieldAddrA Try.prog 54 x8 2) fun x9 =>
   Option.bind (loadA Try.prog 3 x9 m) fun x10 =>
   Option.bind (binA Try.prog .add 3 x10 (.int .i64 1)) fun x11 =>
   Option.bind (nnA a0) fun x12 =>
   Option.bind (fieldAddrA Try.prog 54 x12 2) fun x13 =>
   Option.bind (stV m x13 x11 1) fun m14 =>
   some ((.bool false), m14)) (
   g16_0 a0 a1 m) :=
  run_eq 400 rfl (by kernel_rfl) (by kernel_rfl)
noncomputable def g17_0 (t0 t1 : AV) (m : Mem) : R := goAt E 17 0 [t0, t1, .undef, .undef, .undef, .undef, .undef, .undef, .undef, .undef, .undef, .undef, .undef, .undef, .undef, .undef, .undef, .undef, .undef, .undef, .undef, .undef, .undef, .undef, .undef, .undef] m
theorem g17_0_eq (t0 t1 : AV) (m : Mem) : g17_0 t0 t1 m =
  Option.bind (nnA t0) fun x0 =>
  Option.bind (fieldAddrA Try.prog 54 x0 0) fun x1 =>
  Option.bind (loadA Try.prog 49 x1 m) fun x2 =>
  Option.bind (indexAddrA Try.prog 49 x2 t1) fun x3 =>
  Option.bind (loadA Try.prog 9 x3 m) fun x4 =>
  some ((.tup [x4, (.bool true)]), m) :=
  goAt_eq 400 (by kernel_rfl)
theorem f17_eq (a0 a1 : AV) (m : Mem) : run E 17 [a0, a1] m =
  Option.bind (binA Try.prog .lss 3 a1 (.int .i64 0)) fun x0 =>
  ifV x0 (
  some ((.tup [(.str []), (.bool false)]), m)) (
  Option.bind (nnA a0) fun x1 =>
  Option.bind (fieldAddrA Try.prog 54 x1 0) fun x2 =>
  Option.bind (loadA Try.prog 49 x2 m) fun x3 =>
  Option.bind (lenT Try.prog 49 x3) fun x4 =>
  Option.bind (binA Try.prog .geq 3 a1 x4) fun x5 =>
  condA x5 (
   some ((.tup [(.str []), (.bool false)]), m)) (
   g17_0 a0 a1 m)) :=
  run_eq 400 rfl (by kernel_rfl) (by kernel_rfl)
noncomputable def g18_0 (t0 t5 : AV) (m : Mem) : R := goAt E 18 0 [t0, .undef, .undef, .undef, .undef, t5, .undef, .undef, .undef, .undef, .undef, .undef, .undef, .undef, .undef, .undef, .undef, .undef, .undef, .undef, .undef, .undef, .undef, .undef, .undef, .undef, .undef, .undef, .undef, .undef, .undef, .undef, .undef, .undef, .undef, .undef, .undef] m
theorem g18_0_eq (t0 t5 : AV) (m : Mem) : g18_0 t0 t5 m =
  Option.bind (nnA t0) fun x0 =>
  Option.bind (fieldAddrA Try.prog 54 x0 0) fun x1 =>
  Option.bind (loadA Try.prog 49 x1 m) fun x2 =>
  Option.bind (bsA 1 1 [(.str [])] [(0, t5)]) fun c3 =>
  let m3 := Mem.alloc m c3.1
  Option.bind (appendA 1 16 x2 (c3.2 (m).next) m3) fun r4 =>
  Option.bind (nnA t0) fun x5 =>
  Option.bind (fieldAddrA Try.prog 54 x5 0) fun x6 =>
  Option.bind (stV r4.2 x6 r4.1 1) fun m7 =>
  some ((.bool true), m7) :=
  goAt_eq 400 (by kernel_rfl)
theorem f18_eq (a0 a1 : AV) (m : Mem) : run E 18 [a0, a1] m =
  Option.bind (run E 17 [a0, a1] m) fun r0 =>
  Option.bind (extractA r0.1 0) fun x1 =>
  Option.bind (extractA r0.1 1) fun x2 =>
  Option.bind (unA .not x2) fun x3 =>
  ifV x3 (
  some ((.bool false), r0.2)) (
  Option.bind (nnA a0) fun x4 =>
  Option.bind (fieldAddrA Try.prog 54 x4 0) fun x5 =>
  Option.bind (loadA Try.prog 49 x5 r0.2) fun x6 =>
  Option.bind (lenT Try.prog 49 x6) fun x7 =>
  Option.bind (nnA a0) fun x8 =>
  Option.bind (fieldAddrA Try.prog 54 x8 1) fun x9 =>
  Option.bind (loadA Try.prog 3 x9 r0.2) fun x10 =>
  Option.bind (binA Try.prog .geq 3 x7 x10) fun x11 =>
  condA x11 (
   some ((.bool false), r0.2)) (
   g18_0 a0 x1 r0.2)) :=
  run_eq 400 rfl (by kernel_rfl) (by kernel_rfl)
theorem f19_eq (a0 : AV) (m : Mem) : run E 19 [a0] m =
  Option.bind (nnA a0) fun x0 =>
  Option.bind (fieldAddrA Try.prog 54 x0 0) fun x1 =>
  Option.bind (loadA Try.prog 49 x1 m) fun x2 =>
  Option.bind (lenT Try.prog 49 x2) fun x3 =>
  some (x3, m) :=
  run_eq 400 rfl (by kernel_rfl) (by kernel_rfl)
noncomputable def g20_0 (t6 t7 : AV) (m : Mem) : R := goAt E 20 0 [.undef, .undef, .undef, .undef, .undef, .undef, t6, t7, .undef, .undef, .undef, .undef, .undef, .undef, .undef, .undef, .undef, .undef, .undef, .undef, .undef, .undef, .undef, .undef, .undef, .undef, .undef, .undef, .undef, .undef, .undef, .undef, .undef, .undef, .undef, .undef] m
theorem g20_0_eq (t6 t7 : AV) (m : Mem) : g20_0 t6 t7 m =
  some ((.tup [t6, t7]), m) :=
  goAt_eq 400 (by kernel_rfl)
theorem f20_eq (a0 a1 : AV) (m : Mem) : run E 20 [a0, a1] m =
  Option.bind (run E 24 [a0, a1] m) fun r0 =>
  Option.bind (extractA r0.1 0) fun x1 =>
  Option.bind (extractA r0.1 1) fun x2 =>
  condA x2 (
   let m3 := Mem.alloc r0.2 []
   Option.bind (nnA a0) fun x4 =>
   Option.bind (fieldAddrA Try.prog 45 x4 2) fun x5 =>
   Option.bind (loadA Try.prog 22 x5 m3) fun x6 =>
   Option.bind (sliceA Try.prog 22 x6 none (some a1)) fun x7 =>
   Option.bind (appendA 1 8 (.sl (some ⟨(r0.2).next, 0⟩) 1 0 0 true) x7 m3) fun r8 =>
   Option.bind (nnA a0) fun x9 =>
   Option.bind (fieldAddrA Try.prog 45 x9 2) fun x10 =>
   Option.bind (loadA Try.prog 22 x10 r8.2) fun x11 =>
   ite (loadA Try.prog 22 x10 m3 = some x11) (
   Option.bind (binA Try.prog .add 3 a1 (.int .i64 1)) fun x12 =>
   Option.bind (sliceA Try.prog 22 x11 (some x12) none) fun x13 =>
   Option.bind (appendA 1 8 r8.1 x13 r8.2) fun r14 =>
   Option.bind (nnA a0) fun x15 =>
   Option.bind (fieldAddrA Try.prog 45 x15 2) fun x16 =>
   Option.bind (stV r14.2 x16 r14.1 1) fun m17 =>
   g20_0 x1 x2 m17) none) (
   g20_0 x1 x2 r0.2) :=
  run_eq 400 rfl (by kernel_rfl) (by kernel_rfl)
noncomputable def g21_0 (t0 t5 : AV) (m : Mem) : R := goAt E 21 0 [t0, .undef, .undef, .undef, .undef, t5, .undef, .undef, .undef, .undef, .undef, .undef, .undef, .undef, .undef, .undef, .undef, .undef, .undef, .undef, .undef, .undef, .undef, .undef, .undef, .undef, .undef, .undef, .undef, .undef, .undef, .undef, .undef, .undef, .undef, .undef, .undef] m
theorem g21_0_eq (t0 t5 : AV) (m : Mem) : g21_0 t0 t5 m =
  Option.bind (nnA t0) fun x0 =>
  Option.bind (fieldAddrA Try.prog 52 x0 0) fun x1 =>
  Option.bind (loadA Try.prog 22 x1 m) fun x2 =>
  Option.bind (bsA 1 1 [(.int .i64 0)] [(0, t5)]) fun c3 =>
  let m3 := Mem.alloc m c3.1
  Option.bind (appendA 1 8 x2 (c3.2 (m).next) m3) fun r4 =>
  Option.bind (nnA t0) fun x5 =>
  Option.bind (fieldAddrA Try.prog 52 x5 0) fun x6 =>
  Option.bind (stV r4.2 x6 r4.1 1) fun m7 =>
  some ((.bool true), m7) :=
  goAt_eq 400 (by kernel_rfl)
theorem f21_eq (a0 a1 : AV) (m : Mem) : run E 21 [a0, a1] m =
  Option.bind (run E 23 [a0, a1] m) fun r0 =>
  Option.bind (extractA r0.1 0) fun x1 =>
  Option.bind (extractA r0.1 1) fun x2 =>
  Option.bind (unA .not x2) fun x3 =>
  ifV x3 (
  some ((.bool false), r0.2)) (
  Option.bind (nnA a0) fun x4 =>
  Option.bind (fieldAddrA Try.prog 52 x4 0) fun x5 =>
  Option.bind (loadA Try.prog 22 x5 r0.2) fun x6 =>
  Option.bind (lenT Try.prog 22 x6) fun x7 =>
  Option.bind (nnA a0) fun x8 =>
  Option.bind (fieldAddrA Try.prog 52 x8 1) fun x9 =>
  Option.bind (loadA Try.prog 3 x9 r0.2) fun x10 =>
  Option.bind (binA Try.prog .geq 3 x7 x10) fun x11 =>
  condA x11 (
   some ((.bool false), r0.2)) (
   g21_0 a0 x1 r0.2)) :=
  run_eq 400 rfl (by kernel_rfl) (by kernel_rfl)
noncomputable def g22_0 (t0 t5 : AV) (m : Mem) : R := goAt E 22 0 [t0, .undef, .undef, .undef, .undef, t5, .undef, .undef, .undef, .undef, .undef, .undef, .undef, .undef, .undef, .undef, .undef, .undef, .undef, .undef, .undef, .undef, .undef, .undef, .undef, .undef, .undef, .undef, .undef, .undef, .undef, .undef, .undef, .undef, .undef, .undef, .undef, .undef, .undef] m
theorem g22_0_eq (t0 t5 : AV) (m : Mem) : g22_0 t0 t5 m =
  let m0 := Mem.alloc m []
  Option.bind (nnA t0) fun x1 =>
  Option.bind (fieldAddrA Try.prog 45 x1 2) fun x2 =>
  Option.bind (loadA Try.prog 22 x2 m0) fun x3 =>
  Option.bind (appendA 1 8 (.sl (some ⟨(m).next, 0⟩) 1 0 0 true) x3 m0) fun r4 =>
  Option.bind (bsA 1 1 [(.int .i64 0)] [(0, t5)]) fun c5 =>
  let m5 := Mem.alloc r4.2 c5.1
  Option.bind (appendA 1 8 r4.1 (c5.2 (r4.2).next) m5) fun r6 =>
  Option.bind (nnA t0) fun x7 =>
  Option.bind (fieldAddrA Try.prog 45 x7 2) fun x8 =>
  Option.bind (stV r6.2 x8 r6.1 1) fun m9 =>
  some ((.bool true), m9) :=
  goAt_eq 400 (by kernel_rfl)
theorem f22_eq (a0 a1 : AV) (m : Mem) : run E 22 [a0, a1] m =
  Option.bind (run E 24 [a0, a1] m) fun r0 =>
  Option.bind (extractA r0.1 0) fun x1 =>
  Option.bind (extractA r0.1 1) fun x2 =>
  Option.bind (unA .not x2) fun x3 =>
  ifV x3 (
  some ((.bool false), r0.2)) (
  Option.bind (nnA a0) fun x4 =>
  Option.bind (fieldAddrA Try.prog 45 x4 2) fun x5 =>
  Option.bind (loadA Try.prog 22 x5 r0.2) fun x6 =>
  Option.bind (lenT Try.prog 22 x6) fun x7 =>
  Option.bind (nnA a0) fun x8 =>
  Option.bind (fieldAddrA Try.prog 45 x8 0) fun x9 =>
  Option.bind (loadA Try.prog 3 x9 r0.2) fun x10 =>
  Option.bind (binA Try.prog .geq 3 x7 x10) fun x11 =>
  condA x11 (
   some ((.bool false), r0.2)) (
   g22_0 a0 x1 r0.2)) :=
  run_eq 400 rfl (by kernel_rfl) (by kernel_rfl)
noncomputable def g23_0 (t0 t1 : AV) (m : Mem) : R := goAt E 23 0 [t0, t1, .undef, .undef, .undef, .undef, .undef, .undef, .undef, .undef, .undef, .undef, .undef, .undef, .undef, .undef, .undef, .undef, .undef, .undef, .undef, .undef, .undef, .undef, .undef, .undef] m
theorem g23_0_eq (t0 t1 : AV) (m : Mem) : g23_0 t0 t1 m =
  Option.bind (nnA t0) fun x0 =>
  Option.bind (fieldAddrA Try.prog 52 x0 0) fun x1 =>
  Option.bind (loadA Try.prog 22 x1 m) fun x2 =>
  Option.bind (indexAddrA Try.prog 22 x2 t1) fun x3 =>
  Option.bind (loadA Try.prog 3 x3 m) fun x4 =>
  some ((.tup [x4, (.bool true)]), m) :=
  goAt_eq 400 (by kernel_rfl)
theorem f23_eq (a0 a1 : AV) (m : Mem) : run E 23 [a0, a1] m =
  Option.bind (binA Try.prog .lss 3 a1 (.int .i64 0)) fun x0 =>
  ifV x0 (
  some ((.tup [(.int .i64 0), (.bool false)]), m)) (
  Option.bind (nnA a0) fun x1 =>
  Option.bind (fieldAddrA Try.prog 52 x1 0) fun x2 =>
  Option.bind (loadA Try.prog 22 x2 m) fun x3 =>
  Option.bind (lenT Try.prog 22 x3) fun x4 =>
  Option.bind (binA Try.prog .geq 3 a1 x4) fun x5 =>
  condA x5 (
   some ((.tup [(.int .i64 0), (.bool false)]), m)) (
   g23_0 a0 a1 m)) :=
  run_eq 400 rfl (by kernel_rfl) (by kernel_rfl)
noncomputable def g24_0 (t0 t1 : AV) (m : Mem) : R := goAt E 24 0 [t0, t1, .undef, .undef, .undef, .undef, .undef, .undef, .undef, .undef, .undef, .undef, .undef, .undef, .undef, .undef, .undef, .undef, .undef, .undef, .undef, .undef, .undef, .undef, .undef] m
theorem g24_0_eq (t0 t1 : AV) (m : Mem) : g24_0 t0 t1 m =
  Option.bind (nnA t0) fun x0 =>
  Option.bind (fieldAddrA Try.prog 45 x0 2) fun x1 =>
  Option.bind (loadA Try.prog 22 x1 m) fun x2 =>
  Option.bind (indexAddrA Try.prog 22 x2 t1) fun x3 =>
  Option.bind (loadA Try.prog 3 x3 m) fun x4 =>
  some ((.tup [x4, (.bool true)]), m) :=
  goAt_eq 400 (by kernel_rfl)
theorem f24_eq (a0 a1 : AV) (m : Mem) : run E 24 [a0, a1] m =
  Option.bind (binA Try.prog .lss 3 a1 (.int .i64 0)) fun x0 =>
  ifV x0 (
  some ((.tup [(.int .i64 0), (.bool false)]), m)) (
  Option.bind (nnA a0) fun x1 =>
  Option.bind (fieldAddrA Try.prog 45 x1 2) fun x2 =>
  Option.bind (loadA Try.prog 22 x2 m) fun x3 =>
  Option.bind (lenT Try.prog 22 x3) fun x4 =>
  Option.bind (binA Try.prog .geq 3 a1 x4) fun x5 =>
  condA x5 (
   some ((.tup [(.int .i64 0), (.bool false)]), m)) (
   g24_0 a0 a1 m)) :=
  run_eq 400 rfl (by kernel_rfl) (by kernel_rfl)
noncomputable def g25_0 (t0 t1 : AV) (m : Mem) : R := goAt E 25 0 [t0, t1, .undef, .undef, .undef, .undef, .undef, .undef, .undef, .undef, .undef, .undef, .undef, .undef, .undef, .undef, .undef, .undef, .undef, .undef, .undef, .undef, .undef, .undef, .undef, .undef, .undef, .undef, .undef, .undef, .undef, .undef, .undef, .undef] m
theorem g25_0_eq (t0 t1 : AV) (m : Mem) : g25_0 t0 t1 m =
  let m0 := Mem.alloc m []
  Option.bind (nnA t0) fun x1 =>
  Option.bind (fieldAddrA Try.prog 45 x1 2) fun x2 =>
  Option.bind (loadA Try.prog 22 x2 m0) fun x3 =>
  Option.bind (appendA 1 8 (.sl (some ⟨(m).next, 0⟩) 1 0 0 true) x3 m0) fun r4 =>
  Option.bind (bsA 1 1 [(.int .i64 0)] [(0, t1)]) fun c5 =>
  let m5 := Mem.alloc r4.2 c5.1
  Option.bind (appendA 1 8 r4.1 (c5.2 (r4.2).next) m5) fun r6 =>
  Option.bind (nnA t0) fun x7 =>
  Option.bind (fieldAddrA Try.prog 45 x7 2) fun x8 =>
  Option.bind (stV r6.2 x8 r6.1 1) fun m9 =>
  some ((.bool true), m9) :=
  goAt_eq 400 (by kernel_rfl)
theorem f25_eq (a0 a1 : AV) (m : Mem) : run E 25 [a0, a1] m =
  Option.bind (nnA a0) fun x0 =>
  Option.bind (fieldAddrA Try.prog 45 x0 2) fun x1 =>
  Option.bind (loadA Try.prog 22 x1 m) fun x2 =>
  Option.bind (lenT Try.prog 22 x2) fun x3 =>
  Option.bind (nnA a0) fun x4 =>
  Option.bind (fieldAddrA Try.prog 45 x4 0) fun x5 =>
  Option.bind (loadA Try.prog 3 x5 m) fun x6 =>
  Option.bind (binA Try.prog .geq 3 x3 x6) fun x7 =>
  condA x7 (
   Option.bind (nnA a0) fun x8 =>
   Option.bind (fieldAddrA Try.prog 45 x8 1) fun x9 =>
   Option.bind (loadA Try.prog 3 x9 m) fun x10 =>
   Option.bind (binA Try.prog .add 3 x10 (.int .i64 1)) fun x11 =>
   Option.bind (nnA a0) fun x12 =>
   Option.bind (fieldAddrA Try.prog 45 x12 1) fun x13 =>
   Option.bind (stV m x13 x11 1) fun m14 =>
   some ((.bool false), m14)) (
   g25_0 a0 a1 m) :=
  run_eq 400 rfl (by kernel_rfl) (by kernel_rfl)
theorem f26_eq (a0 : AV) (m : Mem) : run E 26 [a0] m =
  Option.bind (nnA a0) fun x0 =>
  Option.bind (fieldAddrA Try.prog 52 x0 0) fun x1 =>
  Option.bind (loadA Try.prog 22 x1 m) fun x2 =>
  Option.bind (lenT Try.prog 22 x2) fun x3 =>
  some (x3, m) :=
  run_eq 400 rfl (by kernel_rfl) (by kernel_rfl)
theorem f27_eq (a0 : AV) (m : Mem) : run E 27 [a0] m =
  Option.bind (nnA a0) fun x0 =>
  Option.bind (fieldAddrA Try.prog 52 x0 2) fun x1 =>
  Option.bind (loadA Try.prog 3 x1 m) fun x2 =>
  some (x2, m) :=
  run_eq 400 rfl (by kernel_rfl) (by kernel_rfl)
theorem f28_eq (a0 : AV) (m : Mem) : run E 28 [a0] m =
  let m0 := Mem.alloc m []
  Option.bind (nnA a0) fun x1 =>
  Option.bind (fieldAddrA Try.prog 54 x1 0) fun x2 =>
  Option.bind (loadA Try.prog 49 x2 m0) fun x3 =>
  Option.bind (appendA 1 16 (.sl (some ⟨(m).next, 0⟩) 1 0 0 true) x3 m0) fun r4 =>
  some (r4.1, r4.2) :=
  run_eq 400 rfl (by kernel_rfl) (by kernel_rfl)
theorem f29_eq (a0 : AV) (m : Mem) : run E 29 [a0] m =
  Option.bind (nnA a0) fun x0 =>
  Option.bind (fieldAddrA Try.prog 54 x0 2) fun x1 =>
  Option.bind (loadA Try.prog 3 x1 m) fun x2 =>
  some (x2, m) :=
  run_eq 400 rfl (by kernel_rfl) (by kernel_rfl)
end Go.Proofs.Ytdmenbeiepfdiaa
