/- Texts of one claim, put together. -/
import Derived.Test.YtlginbmjiecglaaGreatDoorK0
import Derived.Test.YtlginbmjiecglaaGreatDoorK10
namespace Go.Proofs.YtlginbmjiecglaaGreatDoor
section
open Go Go.Abs
set_option maxRecDepth 4000
noncomputable def g83_0 (t0 t1 t2 t7:AV) (m:Mem):R:=z3w E0 83 0 ([t0,t1,t2,.undef,.undef,.undef,.undef,t7]++List.replicate 87 .undef) m
noncomputable def g83_1 (t0 t1 t2 t7 t8:AV) (m:Mem):R:=z3w E0 83 1 ([t0,t1,t2,.undef,.undef,.undef,.undef,t7,t8]++List.replicate 86 .undef) m
noncomputable def g83_2 (t0 t1 t2 t7 t8:AV) (m:Mem):R:=z3w E0 83 2 ([t0,t1,t2,.undef,.undef,.undef,.undef,t7,t8]++List.replicate 86 .undef) m
noncomputable def g83_3 (t0 t1 t2 t7 t8:AV) (m:Mem):R:=z3w E0 83 3 ([t0,t1,t2,.undef,.undef,.undef,.undef,t7,t8]++List.replicate 86 .undef) m
theorem g83_0_eq (t0 t1 t2 t7:AV) (m:Mem):g83_0 t0 t1 t2 t7 m =
 Option.bind (q4n Tryz.prog 140 t0) fun x0=>
 Option.bind (q1e Tryz.prog .eql 3 t1 x0) fun x1=>
 q0a x1 (
  Option.bind (q1q 1 16 t0 t2 m) fun r2=>
  some (r2.1,r2.2)) (
  g83_1 t0 t1 t2 t7 x0 m):=
 q2j 400 (by kernel_rfl)
theorem g83_1_eq (t0 t1 t2 t7 t8:AV) (m:Mem):g83_1 t0 t1 t2 t7 t8 m =
 Option.bind (q1e Tryz.prog .add 3 t8 t7) fun x0=>
 Option.bind (capT Tryz.prog 140 t0) fun x1=>
 Option.bind (q1e Tryz.prog .gtr 3 x0 x1) fun x2=>
 q0a x2 (
  Option.bind (q0q Tryz.prog 140 t0 none (some t1)) fun x3=>
  Option.bind (q1e Tryz.prog .add 3 t8 t7) fun x4=>
  Option.bind (q1e Tryz.prog .sub 3 x4 t1) fun x5=>
  Option.bind (q33 Tryz.prog 140 x3 x5 m) fun r6=>
  Option.bind (q0q Tryz.prog 140 r6.1 (some t1) none) fun x7=>
  Option.bind (q2t 1 x7 t2 r6.2) fun r8=>
  Option.bind (q1e Tryz.prog .add 3 t1 t7) fun x9=>
  Option.bind (q0q Tryz.prog 140 r6.1 (some x9) none) fun x10=>
  Option.bind (q0q Tryz.prog 140 t0 (some t1) none) fun x11=>
  Option.bind (q2t 1 x10 x11 r8.2) fun r12=>
  some (r6.1,r12.2)) (
  g83_2 t0 t1 t2 t7 t8 m):=
 q2j 400 (by kernel_rfl)
theorem g83_2_eq (t0 t1 t2 t7 t8:AV) (m:Mem):g83_2 t0 t1 t2 t7 t8 m =
 Option.bind (q1e Tryz.prog .add 3 t8 t7) fun x0=>
 Option.bind (q0q Tryz.prog 140 t0 none (some x0)) fun x1=>
 Option.bind (q1e Tryz.prog .add 3 t1 t7) fun x2=>
 Option.bind (q0q Tryz.prog 140 x1 (some x2) none) fun x3=>
 Option.bind (run E0 (.fn 120) [t2,x3] m) fun r4=>
 Option.bind (unA .not r4.1) fun x5=>
 q0a x5 (
  Option.bind (q1e Tryz.prog .add 3 t1 t7) fun x6=>
  Option.bind (q0q Tryz.prog 140 x1 (some x6) none) fun x7=>
  Option.bind (q0q Tryz.prog 140 x1 (some t1) none) fun x8=>
  Option.bind (q2t 1 x7 x8 r4.2) fun r9=>
  Option.bind (q0q Tryz.prog 140 x1 (some t1) none) fun x10=>
  Option.bind (q2t 1 x10 t2 r9.2) fun r11=>
  some (x1,r11.2)) (
  g83_3 x1 t1 t2 t7 t8 r4.2):=
 q2j 400 (by kernel_rfl)
theorem g83_3_eq (t0 t1 t2 t7 t8:AV) (m:Mem):g83_3 t0 t1 t2 t7 t8 m =
 Option.bind (q0q Tryz.prog 140 t0 (some t8) none) fun x0=>
 Option.bind (q2t 1 x0 t2 m) fun r1=>
 Option.bind (q0q Tryz.prog 140 t0 (some t1) none) fun x2=>
 Option.bind (run E0 (.fn 121) [x2,t7] r1.2) fun r3=>
 some (t0,r3.2):=
 q2j 400 (by kernel_rfl)
theorem f83_eq (a0 a1 a2:AV) (m:Mem):run E0 (.fn 83) [a0,a1,a2] m =
 Option.bind (q0q Tryz.prog 140 a0 (some a1) none) fun _=>
 Option.bind (q4n Tryz.prog 140 a2) fun x1=>
 Option.bind (q1e Tryz.prog .eql 3 x1 (.int .i64 0)) fun x2=>
 q0a x2 (
  some (a0,m)) (
  g83_0 a0 a1 a2 x1 m):=
 run_eq 400 rfl (by kernel_rfl) (by kernel_rfl)
noncomputable def g84_0 (t0 t1 t2 t7:AV) (m:Mem):R:=z3w E0 84 0 ([t0,t1,t2,.undef,.undef,.undef,.undef,t7]++List.replicate 87 .undef) m
noncomputable def g84_1 (t0 t1 t2 t7 t8:AV) (m:Mem):R:=z3w E0 84 1 ([t0,t1,t2,.undef,.undef,.undef,.undef,t7,t8]++List.replicate 86 .undef) m
noncomputable def g84_2 (t0 t1 t2 t7 t8:AV) (m:Mem):R:=z3w E0 84 2 ([t0,t1,t2,.undef,.undef,.undef,.undef,t7,t8]++List.replicate 86 .undef) m
noncomputable def g84_3 (t0 t1 t2 t7 t8:AV) (m:Mem):R:=z3w E0 84 3 ([t0,t1,t2,.undef,.undef,.undef,.undef,t7,t8]++List.replicate 86 .undef) m
theorem g84_0_eq (t0 t1 t2 t7:AV) (m:Mem):g84_0 t0 t1 t2 t7 m =
 Option.bind (q4n Tryz.prog 23 t0) fun x0=>
 Option.bind (q1e Tryz.prog .eql 3 t1 x0) fun x1=>
 q0a x1 (
  Option.bind (q1q 4 40 t0 t2 m) fun r2=>
  some (r2.1,r2.2)) (
  g84_1 t0 t1 t2 t7 x0 m):=
 q2j 400 (by kernel_rfl)
theorem g84_1_eq (t0 t1 t2 t7 t8:AV) (m:Mem):g84_1 t0 t1 t2 t7 t8 m =
 Option.bind (q1e Tryz.prog .add 3 t8 t7) fun x0=>
 Option.bind (capT Tryz.prog 23 t0) fun x1=>
 Option.bind (q1e Tryz.prog .gtr 3 x0 x1) fun x2=>
 q0a x2 (
  Option.bind (q0q Tryz.prog 23 t0 none (some t1)) fun x3=>
  Option.bind (q1e Tryz.prog .add 3 t8 t7) fun x4=>
  Option.bind (q1e Tryz.prog .sub 3 x4 t1) fun x5=>
  Option.bind (q33 Tryz.prog 23 x3 x5 m) fun r6=>
  Option.bind (q0q Tryz.prog 23 r6.1 (some t1) none) fun x7=>
  Option.bind (q2t 4 x7 t2 r6.2) fun r8=>
  Option.bind (q1e Tryz.prog .add 3 t1 t7) fun x9=>
  Option.bind (q0q Tryz.prog 23 r6.1 (some x9) none) fun x10=>
  Option.bind (q0q Tryz.prog 23 t0 (some t1) none) fun x11=>
  Option.bind (q2t 4 x10 x11 r8.2) fun r12=>
  some (r6.1,r12.2)) (
  g84_2 t0 t1 t2 t7 t8 m):=
 q2j 400 (by kernel_rfl)
theorem g84_2_eq (t0 t1 t2 t7 t8:AV) (m:Mem):g84_2 t0 t1 t2 t7 t8 m =
 Option.bind (q1e Tryz.prog .add 3 t8 t7) fun x0=>
 Option.bind (q0q Tryz.prog 23 t0 none (some x0)) fun x1=>
 Option.bind (q1e Tryz.prog .add 3 t1 t7) fun x2=>
 Option.bind (q0q Tryz.prog 23 x1 (some x2) none) fun x3=>
 Option.bind (run E0 (.fn 122) [t2,x3] m) fun r4=>
 Option.bind (unA .not r4.1) fun x5=>
 q0a x5 (
  Option.bind (q1e Tryz.prog .add 3 t1 t7) fun x6=>
  Option.bind (q0q Tryz.prog 23 x1 (some x6) none) fun x7=>
  Option.bind (q0q Tryz.prog 23 x1 (some t1) none) fun x8=>
  Option.bind (q2t 4 x7 x8 r4.2) fun r9=>
  Option.bind (q0q Tryz.prog 23 x1 (some t1) none) fun x10=>
  Option.bind (q2t 4 x10 t2 r9.2) fun r11=>
  some (x1,r11.2)) (
  g84_3 x1 t1 t2 t7 t8 r4.2):=
 q2j 400 (by kernel_rfl)
theorem g84_3_eq (t0 t1 t2 t7 t8:AV) (m:Mem):g84_3 t0 t1 t2 t7 t8 m =
 Option.bind (q0q Tryz.prog 23 t0 (some t8) none) fun x0=>
 Option.bind (q2t 4 x0 t2 m) fun r1=>
 Option.bind (q0q Tryz.prog 23 t0 (some t1) none) fun x2=>
 Option.bind (run E0 (.fn 123) [x2,t7] r1.2) fun r3=>
 some (t0,r3.2):=
 q2j 400 (by kernel_rfl)
theorem f84_eq (a0 a1 a2:AV) (m:Mem):run E0 (.fn 84) [a0,a1,a2] m =
 Option.bind (q0q Tryz.prog 23 a0 (some a1) none) fun _=>
 Option.bind (q4n Tryz.prog 23 a2) fun x1=>
 Option.bind (q1e Tryz.prog .eql 3 x1 (.int .i64 0)) fun x2=>
 q0a x2 (
  some (a0,m)) (
  g84_0 a0 a1 a2 x1 m):=
 run_eq 400 rfl (by kernel_rfl) (by kernel_rfl)
noncomputable def g85_0 (t0 t1 t2 t7:AV) (m:Mem):R:=z3w E0 85 0 ([t0,t1,t2,.undef,.undef,.undef,.undef,t7]++List.replicate 87 .undef) m
noncomputable def g85_1 (t0 t1 t2 t7 t8:AV) (m:Mem):R:=z3w E0 85 1 ([t0,t1,t2,.undef,.undef,.undef,.undef,t7,t8]++List.replicate 86 .undef) m
noncomputable def g85_2 (t0 t1 t2 t7 t8:AV) (m:Mem):R:=z3w E0 85 2 ([t0,t1,t2,.undef,.undef,.undef,.undef,t7,t8]++List.replicate 86 .undef) m
noncomputable def g85_3 (t0 t1 t2 t7 t8:AV) (m:Mem):R:=z3w E0 85 3 ([t0,t1,t2,.undef,.undef,.undef,.undef,t7,t8]++List.replicate 86 .undef) m
theorem g85_0_eq (t0 t1 t2 t7:AV) (m:Mem):g85_0 t0 t1 t2 t7 m =
 Option.bind (q4n Tryz.prog 24 t0) fun x0=>
 Option.bind (q1e Tryz.prog .eql 3 t1 x0) fun x1=>
 q0a x1 (
  Option.bind (q1q 9 88 t0 t2 m) fun r2=>
  some (r2.1,r2.2)) (
  g85_1 t0 t1 t2 t7 x0 m):=
 q2j 400 (by kernel_rfl)
theorem g85_1_eq (t0 t1 t2 t7 t8:AV) (m:Mem):g85_1 t0 t1 t2 t7 t8 m =
 Option.bind (q1e Tryz.prog .add 3 t8 t7) fun x0=>
 Option.bind (capT Tryz.prog 24 t0) fun x1=>
 Option.bind (q1e Tryz.prog .gtr 3 x0 x1) fun x2=>
 q0a x2 (
  Option.bind (q0q Tryz.prog 24 t0 none (some t1)) fun x3=>
  Option.bind (q1e Tryz.prog .add 3 t8 t7) fun x4=>
  Option.bind (q1e Tryz.prog .sub 3 x4 t1) fun x5=>
  Option.bind (q33 Tryz.prog 24 x3 x5 m) fun r6=>
  Option.bind (q0q Tryz.prog 24 r6.1 (some t1) none) fun x7=>
  Option.bind (q2t 9 x7 t2 r6.2) fun r8=>
  Option.bind (q1e Tryz.prog .add 3 t1 t7) fun x9=>
  Option.bind (q0q Tryz.prog 24 r6.1 (some x9) none) fun x10=>
  Option.bind (q0q Tryz.prog 24 t0 (some t1) none) fun x11=>
  Option.bind (q2t 9 x10 x11 r8.2) fun r12=>
  some (r6.1,r12.2)) (
  g85_2 t0 t1 t2 t7 t8 m):=
 q2j 400 (by kernel_rfl)
theorem g85_2_eq (t0 t1 t2 t7 t8:AV) (m:Mem):g85_2 t0 t1 t2 t7 t8 m =
 Option.bind (q1e Tryz.prog .add 3 t8 t7) fun x0=>
 Option.bind (q0q Tryz.prog 24 t0 none (some x0)) fun x1=>
 Option.bind (q1e Tryz.prog .add 3 t1 t7) fun x2=>
 Option.bind (q0q Tryz.prog 24 x1 (some x2) none) fun x3=>
 Option.bind (run E0 (.fn 124) [t2,x3] m) fun r4=>
 Option.bind (unA .not r4.1) fun x5=>
 q0a x5 (
  Option.bind (q1e Tryz.prog .add 3 t1 t7) fun x6=>
  Option.bind (q0q Tryz.prog 24 x1 (some x6) none) fun x7=>
  Option.bind (q0q Tryz.prog 24 x1 (some t1) none) fun x8=>
  Option.bind (q2t 9 x7 x8 r4.2) fun r9=>
  Option.bind (q0q Tryz.prog 24 x1 (some t1) none) fun x10=>
  Option.bind (q2t 9 x10 t2 r9.2) fun r11=>
  some (x1,r11.2)) (
  g85_3 x1 t1 t2 t7 t8 r4.2):=
 q2j 400 (by kernel_rfl)
theorem g85_3_eq (t0 t1 t2 t7 t8:AV) (m:Mem):g85_3 t0 t1 t2 t7 t8 m =
 Option.bind (q0q Tryz.prog 24 t0 (some t8) none) fun x0=>
 Option.bind (q2t 9 x0 t2 m) fun r1=>
 Option.bind (q0q Tryz.prog 24 t0 (some t1) none) fun x2=>
 Option.bind (run E0 (.fn 125) [x2,t7] r1.2) fun r3=>
 some (t0,r3.2):=
 q2j 400 (by kernel_rfl)
theorem f85_eq (a0 a1 a2:AV) (m:Mem):run E0 (.fn 85) [a0,a1,a2] m =
 Option.bind (q0q Tryz.prog 24 a0 (some a1) none) fun _=>
 Option.bind (q4n Tryz.prog 24 a2) fun x1=>
 Option.bind (q1e Tryz.prog .eql 3 x1 (.int .i64 0)) fun x2=>
 q0a x2 (
  some (a0,m)) (
  g85_0 a0 a1 a2 x1 m):=
 run_eq 400 rfl (by kernel_rfl) (by kernel_rfl)
noncomputable def g87_0 (t0 t1 t2 t7:AV) (m:Mem):R:=z3w E0 87 0 ([t0,t1,t2,.undef,.undef,.undef,.undef,t7]++List.replicate 87 .undef) m
noncomputable def g87_1 (t0 t1 t2 t7 t8:AV) (m:Mem):R:=z3w E0 87 1 ([t0,t1,t2,.undef,.undef,.undef,.undef,t7,t8]++List.replicate 86 .undef) m
noncomputable def g87_2 (t0 t1 t2 t7 t8:AV) (m:Mem):R:=z3w E0 87 2 ([t0,t1,t2,.undef,.undef,.undef,.undef,t7,t8]++List.replicate 86 .undef) m
noncomputable def g87_3 (t0 t1 t2 t7 t8:AV) (m:Mem):R:=z3w E0 87 3 ([t0,t1,t2,.undef,.undef,.undef,.undef,t7,t8]++List.replicate 86 .undef) m
theorem g87_0_eq (t0 t1 t2 t7:AV) (m:Mem):g87_0 t0 t1 t2 t7 m =
 Option.bind (q4n Tryz.prog 149 t0) fun x0=>
 Option.bind (q1e Tryz.prog .eql 3 t1 x0) fun x1=>
 q0a x1 (
  Option.bind (q1q 1 8 t0 t2 m) fun r2=>
  some (r2.1,r2.2)) (
  g87_1 t0 t1 t2 t7 x0 m):=
 q2j 400 (by kernel_rfl)
theorem g87_1_eq (t0 t1 t2 t7 t8:AV) (m:Mem):g87_1 t0 t1 t2 t7 t8 m =
 Option.bind (q1e Tryz.prog .add 3 t8 t7) fun x0=>
 Option.bind (capT Tryz.prog 149 t0) fun x1=>
 Option.bind (q1e Tryz.prog .gtr 3 x0 x1) fun x2=>
 q0a x2 (
  Option.bind (q0q Tryz.prog 149 t0 none (some t1)) fun x3=>
  Option.bind (q1e Tryz.prog .add 3 t8 t7) fun x4=>
  Option.bind (q1e Tryz.prog .sub 3 x4 t1) fun x5=>
  Option.bind (q33 Tryz.prog 149 x3 x5 m) fun r6=>
  Option.bind (q0q Tryz.prog 149 r6.1 (some t1) none) fun x7=>
  Option.bind (q2t 1 x7 t2 r6.2) fun r8=>
  Option.bind (q1e Tryz.prog .add 3 t1 t7) fun x9=>
  Option.bind (q0q Tryz.prog 149 r6.1 (some x9) none) fun x10=>
  Option.bind (q0q Tryz.prog 149 t0 (some t1) none) fun x11=>
  Option.bind (q2t 1 x10 x11 r8.2) fun r12=>
  some (r6.1,r12.2)) (
  g87_2 t0 t1 t2 t7 t8 m):=
 q2j 400 (by kernel_rfl)
theorem g87_2_eq (t0 t1 t2 t7 t8:AV) (m:Mem):g87_2 t0 t1 t2 t7 t8 m =
 Option.bind (q1e Tryz.prog .add 3 t8 t7) fun x0=>
 Option.bind (q0q Tryz.prog 149 t0 none (some x0)) fun x1=>
 Option.bind (q1e Tryz.prog .add 3 t1 t7) fun x2=>
 Option.bind (q0q Tryz.prog 149 x1 (some x2) none) fun x3=>
 Option.bind (run E0 (.fn 128) [t2,x3] m) fun r4=>
 Option.bind (unA .not r4.1) fun x5=>
 q0a x5 (
  Option.bind (q1e Tryz.prog .add 3 t1 t7) fun x6=>
  Option.bind (q0q Tryz.prog 149 x1 (some x6) none) fun x7=>
  Option.bind (q0q Tryz.prog 149 x1 (some t1) none) fun x8=>
  Option.bind (q2t 1 x7 x8 r4.2) fun r9=>
  Option.bind (q0q Tryz.prog 149 x1 (some t1) none) fun x10=>
  Option.bind (q2t 1 x10 t2 r9.2) fun r11=>
  some (x1,r11.2)) (
  g87_3 x1 t1 t2 t7 t8 r4.2):=
 q2j 400 (by kernel_rfl)
theorem g87_3_eq (t0 t1 t2 t7 t8:AV) (m:Mem):g87_3 t0 t1 t2 t7 t8 m =
 Option.bind (q0q Tryz.prog 149 t0 (some t8) none) fun x0=>
 Option.bind (q2t 1 x0 t2 m) fun r1=>
 Option.bind (q0q Tryz.prog 149 t0 (some t1) none) fun x2=>
 Option.bind (run E0 (.fn 129) [x2,t7] r1.2) fun r3=>
 some (t0,r3.2):=
 q2j 400 (by kernel_rfl)
theorem f87_eq (a0 a1 a2:AV) (m:Mem):run E0 (.fn 87) [a0,a1,a2] m =
 Option.bind (q0q Tryz.prog 149 a0 (some a1) none) fun _=>
 Option.bind (q4n Tryz.prog 149 a2) fun x1=>
 Option.bind (q1e Tryz.prog .eql 3 x1 (.int .i64 0)) fun x2=>
 q0a x2 (
  some (a0,m)) (
  g87_0 a0 a1 a2 x1 m):=
 run_eq 400 rfl (by kernel_rfl) (by kernel_rfl)
noncomputable def g88_0 (t0 t1 t2 t7:AV) (m:Mem):R:=z3w E0 88 0 ([t0,t1,t2,.undef,.undef,.undef,.undef,t7]++List.replicate 87 .undef) m
noncomputable def g88_1 (t0 t1 t2 t7 t8:AV) (m:Mem):R:=z3w E0 88 1 ([t0,t1,t2,.undef,.undef,.undef,.undef,t7,t8]++List.replicate 86 .undef) m
noncomputable def g88_2 (t0 t1 t2 t7 t8:AV) (m:Mem):R:=z3w E0 88 2 ([t0,t1,t2,.undef,.undef,.undef,.undef,t7,t8]++List.replicate 86 .undef) m
noncomputable def g88_3 (t0 t1 t2 t7 t8:AV) (m:Mem):R:=z3w E0 88 3 ([t0,t1,t2,.undef,.undef,.undef,.undef,t7,t8]++List.replicate 86 .undef) m
theorem g88_0_eq (t0 t1 t2 t7:AV) (m:Mem):g88_0 t0 t1 t2 t7 m =
 Option.bind (q4n Tryz.prog 25 t0) fun x0=>
 Option.bind (q1e Tryz.prog .eql 3 t1 x0) fun x1=>
 q0a x1 (
  Option.bind (q1q 4 40 t0 t2 m) fun r2=>
  some (r2.1,r2.2)) (
  g88_1 t0 t1 t2 t7 x0 m):=
 q2j 400 (by kernel_rfl)
theorem g88_1_eq (t0 t1 t2 t7 t8:AV) (m:Mem):g88_1 t0 t1 t2 t7 t8 m =
 Option.bind (q1e Tryz.prog .add 3 t8 t7) fun x0=>
 Option.bind (capT Tryz.prog 25 t0) fun x1=>
 Option.bind (q1e Tryz.prog .gtr 3 x0 x1) fun x2=>
 q0a x2 (
  Option.bind (q0q Tryz.prog 25 t0 none (some t1)) fun x3=>
  Option.bind (q1e Tryz.prog .add 3 t8 t7) fun x4=>
  Option.bind (q1e Tryz.prog .sub 3 x4 t1) fun x5=>
  Option.bind (q33 Tryz.prog 25 x3 x5 m) fun r6=>
  Option.bind (q0q Tryz.prog 25 r6.1 (some t1) none) fun x7=>
  Option.bind (q2t 4 x7 t2 r6.2) fun r8=>
  Option.bind (q1e Tryz.prog .add 3 t1 t7) fun x9=>
  Option.bind (q0q Tryz.prog 25 r6.1 (some x9) none) fun x10=>
  Option.bind (q0q Tryz.prog 25 t0 (some t1) none) fun x11=>
  Option.bind (q2t 4 x10 x11 r8.2) fun r12=>
  some (r6.1,r12.2)) (
  g88_2 t0 t1 t2 t7 t8 m):=
 q2j 400 (by kernel_rfl)
theorem g88_2_eq (t0 t1 t2 t7 t8:AV) (m:Mem):g88_2 t0 t1 t2 t7 t8 m =
 Option.bind (q1e Tryz.prog .add 3 t8 t7) fun x0=>
 Option.bind (q0q Tryz.prog 25 t0 none (some x0)) fun x1=>
 Option.bind (q1e Tryz.prog .add 3 t1 t7) fun x2=>
 Option.bind (q0q Tryz.prog 25 x1 (some x2) none) fun x3=>
 Option.bind (run E0 (.fn 130) [t2,x3] m) fun r4=>
 Option.bind (unA .not r4.1) fun x5=>
 q0a x5 (
  Option.bind (q1e Tryz.prog .add 3 t1 t7) fun x6=>
  Option.bind (q0q Tryz.prog 25 x1 (some x6) none) fun x7=>
  Option.bind (q0q Tryz.prog 25 x1 (some t1) none) fun x8=>
  Option.bind (q2t 4 x7 x8 r4.2) fun r9=>
  Option.bind (q0q Tryz.prog 25 x1 (some t1) none) fun x10=>
  Option.bind (q2t 4 x10 t2 r9.2) fun r11=>
  some (x1,r11.2)) (
  g88_3 x1 t1 t2 t7 t8 r4.2):=
 q2j 400 (by kernel_rfl)
theorem g88_3_eq (t0 t1 t2 t7 t8:AV) (m:Mem):g88_3 t0 t1 t2 t7 t8 m =
 Option.bind (q0q Tryz.prog 25 t0 (some t8) none) fun x0=>
 Option.bind (q2t 4 x0 t2 m) fun r1=>
 Option.bind (q0q Tryz.prog 25 t0 (some t1) none) fun x2=>
 Option.bind (run E0 (.fn 131) [x2,t7] r1.2) fun r3=>
 some (t0,r3.2):=
 q2j 400 (by kernel_rfl)
theorem f88_eq (a0 a1 a2:AV) (m:Mem):run E0 (.fn 88) [a0,a1,a2] m =
 Option.bind (q0q Tryz.prog 25 a0 (some a1) none) fun _=>
 Option.bind (q4n Tryz.prog 25 a2) fun x1=>
 Option.bind (q1e Tryz.prog .eql 3 x1 (.int .i64 0)) fun x2=>
 q0a x2 (
  some (a0,m)) (
  g88_0 a0 a1 a2 x1 m):=
 run_eq 400 rfl (by kernel_rfl) (by kernel_rfl)
end
end Go.Proofs.YtlginbmjiecglaaGreatDoor
namespace Go.Abs
section
open Go
section ops
variable {P:Program} {t e:TypeId} {sz:Nat}
theorem j1f (ht:P.underlying t=some (.slice e)) (a:Option AA) (s l c:Nat) (ex:Bool):q4n P t (.sl a s l c ex)=some (.int .i64 l):=by simp[q4n,ht]
theorem cap_sl (ht:P.underlying t=some (.slice e)) (a:Option AA) (s l c:Nat):capT P t (.sl a s l c true)=some (.int .i64 c):=by simp[capT,ht]
theorem q6d (ht:P.underlying t=some (.slice e)) (hs:szT P e=some sz) {a:AA} {s l c i:Nat} {ex:Bool} {k:IntKind} (hx:sz=s∨ex=true) (hi:i≤l) :
  q0q P t (.sl (some a) s l c ex) (some (.int k (i:Int))) none=some (.sl (some ⟨a.b,a.o+i*sz⟩) sz (l-i) (c-i) ex):=by
 simp[q0q,ht,hs,hiA,loA,hi,hx]
theorem j8b (ht:P.underlying t=some (.slice e)) (hs:szT P e=some sz) {a:AA} {s l c h:Nat} {ex:Bool} {k:IntKind} (hx:sz=s∨ex=true) (hh:h≤c) :
  q0q P t (.sl (some a) s l c ex) none (some (.int k (h:Int)))=some (.sl (some a) sz h c ex):=by
 simp[q0q,ht,hs,hiA,loA,hh,hx]
theorem j2g (ht:P.underlying t=some (.slice e)) (hs:szT P e=some sz) {s:Nat} {ex:Bool} {k:IntKind}:q0q P t (.sl none s 0 0 ex) (some (.int k 0)) none=some (.sl none sz 0 0 true):=by
 simp[q0q,ht,hs,hiA,loA]
theorem z5s {ti:TypeId} {x y z:Int} (hz:z=x+y) (h0:-9223372036854775808≤z) (h1:z<9223372036854775808):q1e P .add ti (.int .i64 x) (.int .i64 y)=some (.int .i64 z):=by
 subst hz;simp[q1e,z2s,wrap_i64 h0 h1]
theorem sub_i64 {ti:TypeId} {x y z:Int} (hz:z=x-y) (h0:-9223372036854775808≤z) (h1:z<9223372036854775808):q1e P .sub ti (.int .i64 x) (.int .i64 y)=some (.int .i64 z):=by
 subst hz;simp[q1e,z2s,wrap_i64 h0 h1]
theorem j3f {ti:TypeId} {k:IntKind} {x y:Int}:q1e P .eql ti (.int k x) (.int k y)=some (.bool (decide (x=y))):=by simp[q1e,z2s];rfl
theorem gtr_int {ti:TypeId} {k:IntKind} {x y:Int}:q1e P .gtr ti (.int k x) (.int k y)=some (.bool (decide (y<x))):=by simp[q1e,z2s]
theorem z6e {a:AA} {s l c n j:Nat} {ex:Bool} {x:AV} {m m':Mem} {cs ds:List AV} (hx:s=sz∨ex=true) (hsrc:q68 sz x m=some (n,cs)) (hj:min n l=j) (h0:0<j) (hd:cs.take (j*sz)=ds) (h1:ds.all AV.one=true) (hst:q2p m a ds=some m') :
  q2t sz (.sl (some a) s l c ex) x m=some (.int .i64 j,m'):=by
 subst hj hd
 unfold q2t
 simp only[hsrc]
 rw[if_neg (by omega)]
 simp[hx,h1,hst]
theorem j8e {m:Mem} {a:AA} {cs vs:List AV} (h:m.get a.b=some (.cells cs false)) (hl:a.o+vs.length≤cs.length):q2p m a vs=some (m.put a.b (some (.cells (cs.take a.o++vs++cs.drop (a.o+vs.length)) false))):=by
 simp[q2p,h,hl]
end ops
noncomputable def z7l (P:Program) (st ti sz w:Nat) (ov rot:AV→AV→Mem→R) (a0 a1 a2:AV) (m:Mem):R:=
 Option.bind (q0q P st a0 (some a1) none) fun _=>
 Option.bind (q4n P st a2) fun x1=>
 Option.bind (q1e P .eql ti x1 (.int .i64 0)) fun x2=>
 q0a x2 (some (a0,m)) (
  Option.bind (q4n P st a0) fun y0=>
  Option.bind (q1e P .eql ti a1 y0) fun y1=>
  q0a y1 (Option.bind (q1q sz w a0 a2 m) fun r2=>some (r2.1,r2.2)) (
  Option.bind (q1e P .add ti y0 x1) fun z0=>
  Option.bind (capT P st a0) fun z1=>
  Option.bind (q1e P .gtr ti z0 z1) fun z2=>
  q0a z2 (
   Option.bind (q0q P st a0 none (some a1)) fun x3=>
   Option.bind (q1e P .add ti y0 x1) fun x4=>
   Option.bind (q1e P .sub ti x4 a1) fun x5=>
   Option.bind (q33 P st x3 x5 m) fun r6=>
   Option.bind (q0q P st r6.1 (some a1) none) fun x7=>
   Option.bind (q2t sz x7 a2 r6.2) fun r8=>
   Option.bind (q1e P .add ti a1 x1) fun x9=>
   Option.bind (q0q P st r6.1 (some x9) none) fun x10=>
   Option.bind (q0q P st a0 (some a1) none) fun x11=>
   Option.bind (q2t sz x10 x11 r8.2) fun r12=>
   some (r6.1,r12.2)) (
   Option.bind (q1e P .add ti y0 x1) fun u0=>
   Option.bind (q0q P st a0 none (some u0)) fun u1=>
   Option.bind (q1e P .add ti a1 x1) fun u2=>
   Option.bind (q0q P st u1 (some u2) none) fun u3=>
   Option.bind (ov a2 u3 m) fun r4=>
   Option.bind (unA .not r4.1) fun u5=>
   q0a u5 (
   Option.bind (q1e P .add ti a1 x1) fun u6=>
   Option.bind (q0q P st u1 (some u6) none) fun u7=>
   Option.bind (q0q P st u1 (some a1) none) fun u8=>
   Option.bind (q2t sz u7 u8 r4.2) fun r9=>
   Option.bind (q0q P st u1 (some a1) none) fun u10=>
   Option.bind (q2t sz u10 a2 r9.2) fun r11=>
   some (u1,r11.2)) (
   Option.bind (q0q P st u1 (some y0) none) fun v0=>
   Option.bind (q2t sz v0 a2 r4.2) fun s1=>
   Option.bind (q0q P st u1 (some a1) none) fun v2=>
   Option.bind (rot v2 x1 s1.2) fun s3=>
   some (u1,s3.2)))))
theorem z5l {sz:Nat} {a:AA} {s l c:Nat} {ex:Bool} {m:Mem} {cs:List AV} {ro:Bool} (hx:s=sz∨ex=true) (h:m.get a.b=some (.cells cs ro)) (hl:a.o+l*sz≤cs.length) :
  q68 sz (.sl (some a) s l c ex) m=some (l,(cs.drop a.o).take (l*sz)):=by
 have hld:q07 m a (l*sz)=some ((cs.drop a.o).take (l*sz)):=by simp[q07,h,hl]
 unfold q68
 split
 ·simp_all
 ·rename_i a' s' l' c' ex' e
  cases e
  simp[hx,hld]
 ·simp_all
 ·rename_i h1 h2 h3
  exact absurd rfl (h2 a s l c ex)
theorem j2i {sz k:Nat} {a:AA} {s l c:Nat} {ex:Bool} {m:Mem} {new:List AV} (h:q68 sz (.sl (some a) s l c ex) m=some (k,new)):new.length=k*sz:=by
 have hk:=j8c h
 subst hk
 unfold q68 at h
 simp only at h
 split at h
 ·obtain⟨cs,h1,e⟩:=Option.map_eq_some_iff.1 h
  cases e
  obtain⟨ds,ro,_,h2,rfl⟩:=q3i h1
  simp;omega
 ·cases h
theorem q9a {E:Env} {f st ti sz w e:Nat} {ov rot:AV→AV→Mem→R} {zs:List AV} (ht:E.P.underlying st=some (.slice e)) (hs:szT E.P e=some sz) (hw:q71 E.P e=some w) (hz:q6i E.P e=some zs)
  (hov:∀(v s:AV) (m:Mem),ov v s m=q1a [v,s] m) (heq:∀a0 a1 a2 m,run E (.fn f) [a0,a1,a2] m=z7l E.P st ti sz w ov rot a0 a1 a2 m):InsText E f st sz w zs where
 fin:=by
  intro s x n k new sa sz0 len cap ex xa sx cx exx m r hsE hxE hsrc hk hn1 hcase happ
  subst hsE hxE
  rw[heq]
  unfold z7l
  have e0:∃y,q0q E.P st (.sl sa sz0 len cap ex) (some (.int .i64 len)) none=some y:=by
   rcases hcase with ⟨a,rfl,hx⟩|⟨rfl,rfl,rfl⟩
   ·exact⟨_,q6d ht hs (hx.imp Eq.symm id) (Nat.le_refl _)⟩
   ·exact⟨_,by simpa using j2g (s:=sz0) (ex:=ex) (k:=.i64) ht hs⟩
  obtain⟨y,e0⟩:=e0
  simp only[e0,Option.bind_some,j1f ht,j3f,df (show ¬(k:Int)=0 by omega),q0a,decide_true,happ]
 room:=by
  intro a len cap i k xa sx cx exx cs old new m ha hfit hold hone hx hne hsrc hn1 hk hsz hw0 hzs hil hby hroom
  have hb:len+k≤140737488355328:=Nat.le_trans (Nat.le_mul_of_pos_right _ hw0) hby
  have hnl:=j2i hsrc
  have hmul:∀x y:Nat,x≤y→x*sz≤y*sz:=fun x y h=>Nat.mul_le_mul_right _ h
  have hlc:=hmul len cap (by omega)
  have hlk:=hmul (len+k) cap hroom
  have hil2:=hmul i len (by omega)
  have hadd:∀x y:Nat,(x+y)*sz=x*sz+y*sz:=fun x y=>Nat.add_mul _ _ _
  have hsub:(len-i)*sz=len*sz-i*sz:=Nat.mul_sub_right_distrib _ _ _
  have hik:=hadd i k
  have hlks:=hadd len k
  have hol:old.length=len*sz:=by rw[←hold,List.length_take,List.length_drop];omega
  have hiksz:0<k*sz:=Nat.mul_pos hk hsz
  rw[heq]
  unfold z7l
  have e1:=q6d (a:=a) (s:=sz) (c:=cap) (ex:=true) (k:=.i64) ht hs (.inl rfl) (show i≤len by omega)
  have e2:=j8b (a:=a) (s:=sz) (l:=len) (ex:=true) (k:=.i64) ht hs (.inl rfl) hroom
  have e3:=q6d (a:=a) (s:=sz) (c:=cap) (ex:=true) (k:=.i64) ht hs (.inl rfl) (show i+k≤len+k by omega)
  have e4:=q6d (a:=a) (s:=sz) (c:=cap) (ex:=true) (k:=.i64) ht hs (.inl rfl) (show i≤len+k by omega)
  have a1:q1e E.P .add ti (.int .i64 (len:Int)) (.int .i64 (k:Int))=some (.int .i64 ((len+k:Nat):Int)):=z5s (by simp) (by omega) (by omega)
  have a2:q1e E.P .add ti (.int .i64 (i:Int)) (.int .i64 (k:Int))=some (.int .i64 ((i+k:Nat):Int)):=z5s (by simp) (by omega) (by omega)
  obtain⟨ds,hx⟩:=hx
  have hcne:cs≠[]:=by rintro rfl;simp at hfit;omega
  have hovr:ov (.sl (some xa) sx k cx exx) (.sl (some ⟨a.b,a.o+(i+k)*sz⟩) sz (len+k-(i+k)) (cap-(i+k)) true) m=some (.bool false,m):=by
   rw[hov]
   obtain⟨c0,cs0,rfl⟩:=List.exists_cons_of_ne_nil hcne
   simp only[q1a,if_neg hne,hx,ha]
  have hsr1:=z5l (a:=⟨a.b,a.o+i*sz⟩) (s:=sz) (l:=len+k-i) (c:=cap-i) (ex:=true) (.inl rfl) ha (by
   have:=hadd i (len+k-i)
   rw[show i+(len+k-i)=len+k by omega]at this
   simp only;omega)
  have hmove:((cs.drop (a.o+i*sz)).take ((len+k-i)*sz)).take ((len-i)*sz)=old.drop (i*sz):=by
   rw[List.take_take,Nat.min_eq_left (hmul _ _ (by omega)),←hold,List.drop_take,List.drop_drop,hsub]
  have hst1:=j8e (a:=⟨a.b,a.o+(i+k)*sz⟩) (vs:=old.drop (i*sz)) ha (by simp only[List.length_drop,hol];omega)
  have hc1:=z6e (a:=⟨a.b,a.o+(i+k)*sz⟩) (s:=sz) (l:=len+k-(i+k)) (c:=cap-(i+k)) (ex:=true) (.inl rfl) hsr1 (j:=len-i) (by omega) (by omega) hmove (by
   rw[List.all_eq_true]at hone⊢
   exact fun v hv=>hone v (List.mem_of_mem_drop hv)) hst1
  generalize hm1:m.put a.b (some (.cells (cs.take (a.o+(i+k)*sz)++old.drop (i*sz)++cs.drop (a.o+(i+k)*sz+(old.drop (i*sz)).length)) false))=m1 at hc1
  generalize hcs1:cs.take (a.o+(i+k)*sz)++old.drop (i*sz)++cs.drop (a.o+(i+k)*sz+(old.drop (i*sz)).length)=cs1 at hm1
  have hal:=Mem.q0w ha
  have ha1:m1.get a.b=some (.cells cs1 false):=by rw[←hm1,Mem.get_put,if_pos ⟨rfl,hal⟩]
  have hl1:cs1.length=cs.length:=by rw[←hcs1];simp only[List.length_append,List.length_take,List.length_drop,hol];omega
  have hsr2:q68 sz (.sl (some xa) sx k cx exx) m1=some (k,new):=by rw[←hm1,j8d hne];exact hsrc
  have hst2:=j8e (a:=⟨a.b,a.o+i*sz⟩) (vs:=new) ha1 (by simp only[hnl,hl1];omega)
  have hc2:=z6e (a:=⟨a.b,a.o+i*sz⟩) (s:=sz) (l:=len+k-i) (c:=cap-i) (ex:=true) (.inl rfl) hsr2 (j:=k) (by omega) hk (List.take_of_length_le (by omega)) hn1 hst2
  simp only[e1,Option.bind_some,j1f ht,cap_sl ht,j3f,gtr_int,df (show ¬(k:Int)=0 by omega),df (show ¬(i:Int)=(len:Int) by omega),q0a,a1,a2,df (show ¬(cap:Int)<((len+k:Nat):Int) by omega),e2,e3,e4,hovr,unA,Bool.not_false,hc1,hc2]
  refine⟨_,rfl,by rw[←hm1];rfl,fun b hb=>?_,?_⟩
  ·rw[Mem.get_put,if_neg (fun h=>hb h.1),←hm1,Mem.get_put,if_neg (fun h=>hb h.1)]
  ·rw[Mem.get_put,if_pos ⟨rfl,by rw[←hm1];exact hal⟩]
   congr 2
   have p1:cs1.take (a.o+i*sz)=cs.take (a.o+i*sz):=by
    rw[←hcs1,List.append_assoc,List.take_append_of_le_length (by simp;omega),List.take_take,Nat.min_eq_left (by omega)]
   have p2:cs1.drop (a.o+i*sz+new.length)=old.drop (i*sz)++cs.drop (a.o+(len+k)*sz):=by
    rw[←hcs1,hnl,List.append_assoc,List.drop_append]
    have hlen:(cs.take (a.o+(i+k)*sz)).length=a.o+(i+k)*sz:=by simp;omega
    rw[List.drop_eq_nil_of_le (by rw[hlen];omega),List.nil_append,hlen,show a.o+i*sz+k*sz-(a.o+(i+k)*sz)=0 by omega,List.drop_zero]
    congr 2
    simp only[List.length_drop,hol];omega
   rw[p1,p2];simp only[List.append_assoc]
 grow:=by
  intro a len cap i k xa sx cx exx cs old new m ha hfit hold hone hx hne hsrc hn1 hk hsz hw0 hzs hil hby hlcap hroom
  have hb:len+k≤140737488355328:=Nat.le_trans (Nat.le_mul_of_pos_right _ hw0) hby
  have hnl:=j2i hsrc
  have hmul:∀x y:Nat,x≤y→x*sz≤y*sz:=fun x y h=>Nat.mul_le_mul_right _ h
  have hlc:=hmul len cap (by omega)
  have hil2:=hmul i len (by omega)
  have hadd:∀x y:Nat,(x+y)*sz=x*sz+y*sz:=fun x y=>Nat.add_mul _ _ _
  have hik:=hadd i k
  have hlks:=hadd len k
  have hsub:(len-i)*sz=len*sz-i*sz:=Nat.mul_sub_right_distrib _ _ _
  have hsub2:(len+k-i)*sz=(len+k)*sz-i*sz:=Nat.mul_sub_right_distrib _ _ _
  have hol:old.length=len*sz:=by rw[←hold,List.length_take,List.length_drop];omega
  have hiksz:0<k*sz:=Nat.mul_pos hk hsz
  rw[heq]
  unfold z7l
  have e1:=q6d (a:=a) (s:=sz) (c:=cap) (ex:=true) (k:=.i64) ht hs (.inl rfl) (show i≤len by omega)
  have e2:=j8b (a:=a) (s:=sz) (l:=len) (ex:=true) (k:=.i64) ht hs (.inl rfl) (show i≤cap by omega)
  have a1:q1e E.P .add ti (.int .i64 (len:Int)) (.int .i64 (k:Int))=some (.int .i64 ((len+k:Nat):Int)):=z5s (by simp) (by omega) (by omega)
  have a2:q1e E.P .add ti (.int .i64 (i:Int)) (.int .i64 (k:Int))=some (.int .i64 ((i+k:Nat):Int)):=z5s (by simp) (by omega) (by omega)
  have a3:q1e E.P .sub ti (.int .i64 ((len+k:Nat):Int)) (.int .i64 (i:Int))=some (.int .i64 ((len+k-i:Nat):Int)):=sub_i64 (by omega) (by omega) (by omega)
  have hal:=Mem.q0w ha
  have hold2:(cs.drop a.o).take (i*sz)=old.take (i*sz):=by rw[←hold,List.take_take,Nat.min_eq_left hil2]
  have hz1:q33 E.P st (.sl (some a) sz i cap true) (.int .i64 ((len+k-i:Nat):Int)) m=some (.sl (some ⟨m.next,0⟩) sz (len+k) (len+k) false,m.alloc (old.take (i*sz)++(List.replicate (len+k-i) zs).flatten)):=by
   simp only[q33,ht,hz,hs,hw,Option.bind_some,Int.toNat_natCast]
   rw[if_pos ⟨by omega,hzs,hsz,hw0,by omega,by omega,by omega,by rw[show i+(len+k-i)=len+k by omega];exact hby⟩]
   simp only[q07,ha]
   rw[if_pos (by omega),hold2]
   simp only[Option.map_some]
   rw[show i+(len+k-i)=len+k by omega]
  generalize hrow:old.take (i*sz)++(List.replicate (len+k-i) zs).flatten=row at hz1
  have hto:(old.take (i*sz)).length=i*sz:=by rw[List.length_take];omega
  have hrl:row.length=(len+k)*sz:=by rw[←hrow];simp only[List.length_append,List.length_flatten,List.map_replicate,List.sum_replicate_nat,hzs,hto];omega
  have hr0:(m.alloc row).get m.next=some (.cells row false):=by rw[Mem.q42,if_pos rfl]
  have e5:=q6d (a:=⟨m.next,0⟩) (s:=sz) (c:=len+k) (ex:=false) (k:=.i64) ht hs (.inl rfl) (show i≤len+k by omega)
  have e6:=q6d (a:=⟨m.next,0⟩) (s:=sz) (c:=len+k) (ex:=false) (k:=.i64) ht hs (.inl rfl) (show i+k≤len+k by omega)
  simp only[Nat.zero_add]at e5 e6
  obtain⟨ds,hx⟩:=hx
  have hxl:=Mem.q0w hx
  have hsr1:q68 sz (.sl (some xa) sx k cx exx) (m.alloc row)=some (k,new):=by
   rw[←hsrc];unfold q68 q07
   simp only[Mem.q42,if_neg (show ¬xa.b=m.next by omega)]
  have hst1:=j8e (a:=⟨m.next,i*sz⟩) (vs:=new) hr0 (by simp only[hnl,hrl];omega)
  have hc1:=z6e (a:=⟨m.next,i*sz⟩) (s:=sz) (l:=len+k-i) (c:=len+k-i) (ex:=false) (.inl rfl) hsr1 (j:=k) (by omega) hk (List.take_of_length_le (by omega)) hn1 hst1
  generalize hcs1:row.take (i*sz)++new++row.drop (i*sz+new.length)=row1 at hc1
  generalize hm1:(m.alloc row).put m.next (some (.cells row1 false))=m1 at hc1
  have hm1n:m1.next=m.next+1:=by rw[←hm1];rfl
  have hr1:m1.get m.next=some (.cells row1 false):=by rw[←hm1,Mem.get_put,if_pos ⟨rfl,by simp⟩]
  have hoth:∀b,b≠m.next→m1.get b=m.get b:=fun b hb=>by rw[←hm1,Mem.get_put,if_neg (fun h=>hb h.1),Mem.q42,if_neg hb]
  have ha1:m1.get a.b=some (.cells cs false):=by rw[hoth _ (by omega)];exact ha
  have hl1:row1.length=(len+k)*sz:=by rw[←hcs1];simp only[List.length_append,List.length_take,List.length_drop,hrl,hnl];omega
  have hsr2:=z5l (a:=⟨a.b,a.o+i*sz⟩) (s:=sz) (l:=len-i) (c:=cap-i) (ex:=true) (.inl rfl) ha1 (by simp only[hsub];omega)
  have hmove:((cs.drop (a.o+i*sz)).take ((len-i)*sz)).take ((len-i)*sz)=old.drop (i*sz):=by
   rw[List.take_take,Nat.min_self,←hold,List.drop_take,List.drop_drop,hsub]
  have hst2:=j8e (a:=⟨m.next,(i+k)*sz⟩) (vs:=old.drop (i*sz)) hr1 (by simp only[List.length_drop,hol,hl1];omega)
  have hc2:=z6e (a:=⟨m.next,(i+k)*sz⟩) (s:=sz) (l:=len+k-(i+k)) (c:=len+k-(i+k)) (ex:=false) (.inl rfl) hsr2 (j:=len-i) (by omega) (by omega) hmove (by
   rw[List.all_eq_true]at hone⊢
   exact fun v hv=>hone v (List.mem_of_mem_drop hv)) hst2
  simp only[e1,Option.bind_some,j1f ht,cap_sl ht,j3f,gtr_int,df (show ¬(k:Int)=0 by omega),df (show ¬(i:Int)=(len:Int) by omega),q0a,a1,a2,a3,dt (show (cap:Int)<((len+k:Nat):Int) by omega),e2,hz1,e5,e6,hc1,hc2]
  refine⟨_,rfl,by simp[hm1n],fun b hb=>?_,?_⟩
  ·rw[Mem.get_put,if_neg (fun h=>hb h.1)];exact hoth b hb
  ·rw[Mem.get_put,if_pos ⟨rfl,by omega⟩]
   congr 2
   have hri:row.take (i*sz)=old.take (i*sz):=by rw[←hrow,List.take_append_of_le_length (by omega),List.take_take,Nat.min_self]
   have p1:row1.take ((i+k)*sz)=old.take (i*sz)++new:=by
    rw[←hcs1,hri,List.take_append_of_le_length (by simp only[List.length_append,hto,hnl];omega),List.take_of_length_le (by simp only[List.length_append,hto,hnl];omega)]
   have p3:row1.drop ((i+k)*sz+(old.drop (i*sz)).length)=[]:=List.drop_eq_nil_of_le (by simp only[List.length_drop,hol,hl1];omega)
   rw[p1,p3,List.append_nil]
end
end Go.Abs
namespace Go.Proofs.YtlginbmjiecglaaGreatDoor
section
open Go Go.Abs
set_option maxRecDepth 4000
theorem ins83:InsText E0 83 140 1 16 ((q6i Tryz.prog 9).getD []):=
 q9a (E:=E0) (ti:=3) (e:=9) (ov:=fun v s m=>run E0 (.fn 120) [v,s] m) (rot:=fun v k m=>run E0 (.fn 121) [v,k] m) (by kernel_rfl) (by kernel_rfl) (by kernel_rfl) (by kernel_rfl)
  (fun v s m=>q1t (E:=E0) (h:=q1a) rfl [v,s] m) (fun a0 a1 a2 m=>by
   simp only[f83_eq,g83_0_eq,g83_1_eq,g83_2_eq,g83_3_eq]
   rfl)
theorem ins84:InsText E0 84 23 4 40 ((q6i Tryz.prog 56).getD []):=
 q9a (E:=E0) (ti:=3) (e:=56) (ov:=fun v s m=>run E0 (.fn 122) [v,s] m) (rot:=fun v k m=>run E0 (.fn 123) [v,k] m) (by kernel_rfl) (by kernel_rfl) (by kernel_rfl) (by kernel_rfl)
  (fun v s m=>q1t (E:=E0) (h:=q1a) rfl [v,s] m) (fun a0 a1 a2 m=>by
   simp only[f84_eq,g84_0_eq,g84_1_eq,g84_2_eq,g84_3_eq]
   rfl)
theorem ins85:InsText E0 85 24 9 88 ((q6i Tryz.prog 74).getD []):=
 q9a (E:=E0) (ti:=3) (e:=74) (ov:=fun v s m=>run E0 (.fn 124) [v,s] m) (rot:=fun v k m=>run E0 (.fn 125) [v,k] m) (by kernel_rfl) (by kernel_rfl) (by kernel_rfl) (by kernel_rfl)
  (fun v s m=>q1t (E:=E0) (h:=q1a) rfl [v,s] m) (fun a0 a1 a2 m=>by
   simp only[f85_eq,g85_0_eq,g85_1_eq,g85_2_eq,g85_3_eq]
   rfl)
theorem ins87:InsText E0 87 149 1 8 ((q6i Tryz.prog 26).getD []):=
 q9a (E:=E0) (ti:=3) (e:=26) (ov:=fun v s m=>run E0 (.fn 128) [v,s] m) (rot:=fun v k m=>run E0 (.fn 129) [v,k] m) (by kernel_rfl) (by kernel_rfl) (by kernel_rfl) (by kernel_rfl)
  (fun v s m=>q1t (E:=E0) (h:=q1a) rfl [v,s] m) (fun a0 a1 a2 m=>by
   simp only[f87_eq,g87_0_eq,g87_1_eq,g87_2_eq,g87_3_eq]
   rfl)
theorem ins88:InsText E0 88 25 4 40 ((q6i Tryz.prog 54).getD []):=
 q9a (E:=E0) (ti:=3) (e:=54) (ov:=fun v s m=>run E0 (.fn 130) [v,s] m) (rot:=fun v k m=>run E0 (.fn 131) [v,k] m) (by kernel_rfl) (by kernel_rfl) (by kernel_rfl) (by kernel_rfl)
  (fun v s m=>q1t (E:=E0) (h:=q1a) rfl [v,s] m) (fun a0 a1 a2 m=>by
   simp only[f88_eq,g88_0_eq,g88_1_eq,g88_2_eq,g88_3_eq]
   rfl)
end
section
open Go Go.Abs
set_option maxRecDepth 4000
noncomputable def H (f:FuncId):Option (List AV→Mem→R):=
 match f with
 | 59=>some q70
 | 60=>some z3m
 | 120=>some q1a
 | 122=>some q1a
 | 124=>some q1a
 | 128=>some q1a
 | 130=>some q1a
 | 83=>some (z3x Tryz.prog 140)
 | 84=>some (z3x Tryz.prog 23)
 | 85=>some (z3x Tryz.prog 24)
 | 87=>some (z3x Tryz.prog 149)
 | 88=>some (z3x Tryz.prog 25)
 | _=>none
noncomputable def E:Env:=j9m Tryz.prog hints H
theorem E_ok:EnvOk E:=z6i (by kernel_rfl) 196 (fun f h=>by
  unfold hints;rw[List.getElem?_eq_none (by show 196≤f;exact h)];rfl) (fun f h=>List.all_eq_true.1 looks f (List.mem_range.2 h)) (fun f h e=>by
  unfold H at e
  split at e
  ·have e1:=Option.some.inj e;subst e1;exact z5r (P:=Tryz.prog) (fn:=Tryz.f59) Tryz.func59 (by kernel_rfl) (by kernel_rfl) (by kernel_rfl) (by kernel_rfl)
  ·have e1:=Option.some.inj e;subst e1;exact z8o (P:=Tryz.prog) (fn:=Tryz.f60) Tryz.func60 (by kernel_rfl) (by kernel_rfl) (by kernel_rfl) (by kernel_rfl)
  ·have e1:=Option.some.inj e;subst e1;exact q1l (P:=Tryz.prog) (fn:=Tryz.f120) (st:=140) (tr:=4) (e:=9) (sz:=1) Tryz.func120 (by kernel_rfl) (by kernel_rfl) (by kernel_rfl) (by kernel_rfl) (by kernel_rfl) (by kernel_rfl)
  ·have e1:=Option.some.inj e;subst e1;exact q1l (P:=Tryz.prog) (fn:=Tryz.f122) (st:=23) (tr:=4) (e:=56) (sz:=4) Tryz.func122 (by kernel_rfl) (by kernel_rfl) (by kernel_rfl) (by kernel_rfl) (by kernel_rfl) (by kernel_rfl)
  ·have e1:=Option.some.inj e;subst e1;exact q1l (P:=Tryz.prog) (fn:=Tryz.f124) (st:=24) (tr:=4) (e:=74) (sz:=9) Tryz.func124 (by kernel_rfl) (by kernel_rfl) (by kernel_rfl) (by kernel_rfl) (by kernel_rfl) (by kernel_rfl)
  ·have e1:=Option.some.inj e;subst e1;exact q1l (P:=Tryz.prog) (fn:=Tryz.f128) (st:=149) (tr:=4) (e:=26) (sz:=1) Tryz.func128 (by kernel_rfl) (by kernel_rfl) (by kernel_rfl) (by kernel_rfl) (by kernel_rfl) (by kernel_rfl)
  ·have e1:=Option.some.inj e;subst e1;exact q1l (P:=Tryz.prog) (fn:=Tryz.f130) (st:=25) (tr:=4) (e:=54) (sz:=4) Tryz.func130 (by kernel_rfl) (by kernel_rfl) (by kernel_rfl) (by kernel_rfl) (by kernel_rfl) (by kernel_rfl)
  ·have e1:=Option.some.inj e;subst e1;exact q3d (E:=E0) z3y (st:=140) (e:=9) (by kernel_rfl) (by kernel_rfl) (by kernel_rfl) (by kernel_rfl) ⟨Tryz.f83,Tryz.func83,by kernel_rfl,by decide +kernel⟩ ins83
  ·have e1:=Option.some.inj e;subst e1;exact q3d (E:=E0) z3y (st:=23) (e:=56) (by kernel_rfl) (by kernel_rfl) (by kernel_rfl) (by kernel_rfl) ⟨Tryz.f84,Tryz.func84,by kernel_rfl,by decide +kernel⟩ ins84
  ·have e1:=Option.some.inj e;subst e1;exact q3d (E:=E0) z3y (st:=24) (e:=74) (by kernel_rfl) (by kernel_rfl) (by kernel_rfl) (by kernel_rfl) ⟨Tryz.f85,Tryz.func85,by kernel_rfl,by decide +kernel⟩ ins85
  ·have e1:=Option.some.inj e;subst e1;exact q3d (E:=E0) z3y (st:=149) (e:=26) (by kernel_rfl) (by kernel_rfl) (by kernel_rfl) (by kernel_rfl) ⟨Tryz.f87,Tryz.func87,by kernel_rfl,by decide +kernel⟩ ins87
  ·have e1:=Option.some.inj e;subst e1;exact q3d (E:=E0) z3y (st:=25) (e:=54) (by kernel_rfl) (by kernel_rfl) (by kernel_rfl) (by kernel_rfl) ⟨Tryz.f88,Tryz.func88,by kernel_rfl,by decide +kernel⟩ ins88
  ·cases e)
end
end Go.Proofs.YtlginbmjiecglaaGreatDoor
