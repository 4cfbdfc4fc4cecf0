/- Texts of one claim, put together. -/
import Derived.Test.YtlginbmjiecglaaGreatDoorW7
namespace Go.Proofs.YtlginbmjiecglaaGreatDoor
noncomputable section
open Go Go.Abs
set_option maxRecDepth 4000
abbrev uu:AV:=.undef
def a4S (t0 t1 t2 t7:AV) (m:Mem):R:=q7u E0 83 0 ([t0,t1,t2,uu,uu,uu,uu,t7]++List.replicate 87 uu) m
def a4T (t0 t1 t2 t7 t8:AV) (m:Mem):R:=q7u E0 83 1 ([t0,t1,t2,uu,uu,uu,uu,t7,t8]++List.replicate 86 uu) m
def a4U (t0 t1 t2 t7 t8:AV) (m:Mem):R:=q7u E0 83 2 ([t0,t1,t2,uu,uu,uu,uu,t7,t8]++List.replicate 86 uu) m
def a4V (t0 t1 t2 t7 t8:AV) (m:Mem):R:=q7u E0 83 3 ([t0,t1,t2,uu,uu,uu,uu,t7,t8]++List.replicate 86 uu) m
theorem j3o (t0 t1 t2 t7:AV) (m:Mem):a4S t0 t1 t2 t7 m =
 Option.bind (q1M Tryz.prog 140 t0) fun x0=>
 Option.bind (q0J Tryz.prog .eql 3 t1 x0) fun x1=>
 q0b x1 (
  Option.bind (q0P 1 16 t0 t2 m) fun r2=>
  some (r2.1,r2.2)) (
  a4T t0 t1 t2 t7 x0 m):=
 q1f 400 (by kernel_rfl)
theorem j3p (t0 t1 t2 t7 t8:AV) (m:Mem):a4T t0 t1 t2 t7 t8 m =
 Option.bind (q0J Tryz.prog .add 3 t8 t7) fun x0=>
 Option.bind (z6t Tryz.prog 140 t0) fun x1=>
 Option.bind (q0J Tryz.prog .gtr 3 x0 x1) fun x2=>
 q0b x2 (
  Option.bind (q0o Tryz.prog 140 t0 none (some t1)) fun x3=>
  Option.bind (q0J Tryz.prog .add 3 t8 t7) fun x4=>
  Option.bind (q0J Tryz.prog .sub 3 x4 t1) fun x5=>
  Option.bind (q18 Tryz.prog 140 x3 x5 m) fun r6=>
  Option.bind (q0o Tryz.prog 140 r6.1 (some t1) none) fun x7=>
  Option.bind (q1v 1 x7 t2 r6.2) fun r8=>
  Option.bind (q0J Tryz.prog .add 3 t1 t7) fun x9=>
  Option.bind (q0o Tryz.prog 140 r6.1 (some x9) none) fun x10=>
  Option.bind (q0o Tryz.prog 140 t0 (some t1) none) fun x11=>
  Option.bind (q1v 1 x10 x11 r8.2) fun r12=>
  some (r6.1,r12.2)) (
  a4U t0 t1 t2 t7 t8 m):=
 q1f 400 (by kernel_rfl)
theorem j3q (t0 t1 t2 t7 t8:AV) (m:Mem):a4U t0 t1 t2 t7 t8 m =
 Option.bind (q0J Tryz.prog .add 3 t8 t7) fun x0=>
 Option.bind (q0o Tryz.prog 140 t0 none (some x0)) fun x1=>
 Option.bind (q0J Tryz.prog .add 3 t1 t7) fun x2=>
 Option.bind (q0o Tryz.prog 140 x1 (some x2) none) fun x3=>
 Option.bind (run E0 (.fn 120) [t2,x3] m) fun r4=>
 Option.bind (unA .not r4.1) fun x5=>
 q0b x5 (
  Option.bind (q0J Tryz.prog .add 3 t1 t7) fun x6=>
  Option.bind (q0o Tryz.prog 140 x1 (some x6) none) fun x7=>
  Option.bind (q0o Tryz.prog 140 x1 (some t1) none) fun x8=>
  Option.bind (q1v 1 x7 x8 r4.2) fun r9=>
  Option.bind (q0o Tryz.prog 140 x1 (some t1) none) fun x10=>
  Option.bind (q1v 1 x10 t2 r9.2) fun r11=>
  some (x1,r11.2)) (
  a4V x1 t1 t2 t7 t8 r4.2):=
 q1f 400 (by kernel_rfl)
theorem j3r (t0 t1 t2 t7 t8:AV) (m:Mem):a4V t0 t1 t2 t7 t8 m =
 Option.bind (q0o Tryz.prog 140 t0 (some t8) none) fun x0=>
 Option.bind (q1v 1 x0 t2 m) fun r1=>
 Option.bind (q0o Tryz.prog 140 t0 (some t1) none) fun x2=>
 Option.bind (run E0 (.fn 121) [x2,t7] r1.2) fun r3=>
 some (t0,r3.2):=
 q1f 400 (by kernel_rfl)
theorem a2i (a0 a1 a2:AV) (m:Mem):run E0 (.fn 83) [a0,a1,a2] m =
 Option.bind (q0o Tryz.prog 140 a0 (some a1) none) fun _=>
 Option.bind (q1M Tryz.prog 140 a2) fun x1=>
 Option.bind (q0J Tryz.prog .eql 3 x1 (.int .i64 0)) fun x2=>
 q0b x2 (
  some (a0,m)) (
  a4S a0 a1 a2 x1 m):=
 run_eq 400 rfl (by kernel_rfl) (by kernel_rfl)
def a4W (t0 t1 t2 t7:AV) (m:Mem):R:=q7u E0 84 0 ([t0,t1,t2,uu,uu,uu,uu,t7]++List.replicate 87 uu) m
def a4X (t0 t1 t2 t7 t8:AV) (m:Mem):R:=q7u E0 84 1 ([t0,t1,t2,uu,uu,uu,uu,t7,t8]++List.replicate 86 uu) m
def a4Y (t0 t1 t2 t7 t8:AV) (m:Mem):R:=q7u E0 84 2 ([t0,t1,t2,uu,uu,uu,uu,t7,t8]++List.replicate 86 uu) m
def a4Z (t0 t1 t2 t7 t8:AV) (m:Mem):R:=q7u E0 84 3 ([t0,t1,t2,uu,uu,uu,uu,t7,t8]++List.replicate 86 uu) m
theorem j3s (t0 t1 t2 t7:AV) (m:Mem):a4W t0 t1 t2 t7 m =
 Option.bind (q1M Tryz.prog 23 t0) fun x0=>
 Option.bind (q0J Tryz.prog .eql 3 t1 x0) fun x1=>
 q0b x1 (
  Option.bind (q0P 4 40 t0 t2 m) fun r2=>
  some (r2.1,r2.2)) (
  a4X t0 t1 t2 t7 x0 m):=
 q1f 400 (by kernel_rfl)
theorem j3t (t0 t1 t2 t7 t8:AV) (m:Mem):a4X t0 t1 t2 t7 t8 m =
 Option.bind (q0J Tryz.prog .add 3 t8 t7) fun x0=>
 Option.bind (z6t Tryz.prog 23 t0) fun x1=>
 Option.bind (q0J Tryz.prog .gtr 3 x0 x1) fun x2=>
 q0b x2 (
  Option.bind (q0o Tryz.prog 23 t0 none (some t1)) fun x3=>
  Option.bind (q0J Tryz.prog .add 3 t8 t7) fun x4=>
  Option.bind (q0J Tryz.prog .sub 3 x4 t1) fun x5=>
  Option.bind (q18 Tryz.prog 23 x3 x5 m) fun r6=>
  Option.bind (q0o Tryz.prog 23 r6.1 (some t1) none) fun x7=>
  Option.bind (q1v 4 x7 t2 r6.2) fun r8=>
  Option.bind (q0J Tryz.prog .add 3 t1 t7) fun x9=>
  Option.bind (q0o Tryz.prog 23 r6.1 (some x9) none) fun x10=>
  Option.bind (q0o Tryz.prog 23 t0 (some t1) none) fun x11=>
  Option.bind (q1v 4 x10 x11 r8.2) fun r12=>
  some (r6.1,r12.2)) (
  a4Y t0 t1 t2 t7 t8 m):=
 q1f 400 (by kernel_rfl)
theorem j3u (t0 t1 t2 t7 t8:AV) (m:Mem):a4Y t0 t1 t2 t7 t8 m =
 Option.bind (q0J Tryz.prog .add 3 t8 t7) fun x0=>
 Option.bind (q0o Tryz.prog 23 t0 none (some x0)) fun x1=>
 Option.bind (q0J Tryz.prog .add 3 t1 t7) fun x2=>
 Option.bind (q0o Tryz.prog 23 x1 (some x2) none) fun x3=>
 Option.bind (run E0 (.fn 122) [t2,x3] m) fun r4=>
 Option.bind (unA .not r4.1) fun x5=>
 q0b x5 (
  Option.bind (q0J Tryz.prog .add 3 t1 t7) fun x6=>
  Option.bind (q0o Tryz.prog 23 x1 (some x6) none) fun x7=>
  Option.bind (q0o Tryz.prog 23 x1 (some t1) none) fun x8=>
  Option.bind (q1v 4 x7 x8 r4.2) fun r9=>
  Option.bind (q0o Tryz.prog 23 x1 (some t1) none) fun x10=>
  Option.bind (q1v 4 x10 t2 r9.2) fun r11=>
  some (x1,r11.2)) (
  a4Z x1 t1 t2 t7 t8 r4.2):=
 q1f 400 (by kernel_rfl)
theorem j3v (t0 t1 t2 t7 t8:AV) (m:Mem):a4Z t0 t1 t2 t7 t8 m =
 Option.bind (q0o Tryz.prog 23 t0 (some t8) none) fun x0=>
 Option.bind (q1v 4 x0 t2 m) fun r1=>
 Option.bind (q0o Tryz.prog 23 t0 (some t1) none) fun x2=>
 Option.bind (run E0 (.fn 123) [x2,t7] r1.2) fun r3=>
 some (t0,r3.2):=
 q1f 400 (by kernel_rfl)
theorem a2j (a0 a1 a2:AV) (m:Mem):run E0 (.fn 84) [a0,a1,a2] m =
 Option.bind (q0o Tryz.prog 23 a0 (some a1) none) fun _=>
 Option.bind (q1M Tryz.prog 23 a2) fun x1=>
 Option.bind (q0J Tryz.prog .eql 3 x1 (.int .i64 0)) fun x2=>
 q0b x2 (
  some (a0,m)) (
  a4W a0 a1 a2 x1 m):=
 run_eq 400 rfl (by kernel_rfl) (by kernel_rfl)
def a5a (t0 t1 t2 t7:AV) (m:Mem):R:=q7u E0 85 0 ([t0,t1,t2,uu,uu,uu,uu,t7]++List.replicate 87 uu) m
def a5b (t0 t1 t2 t7 t8:AV) (m:Mem):R:=q7u E0 85 1 ([t0,t1,t2,uu,uu,uu,uu,t7,t8]++List.replicate 86 uu) m
def a5c (t0 t1 t2 t7 t8:AV) (m:Mem):R:=q7u E0 85 2 ([t0,t1,t2,uu,uu,uu,uu,t7,t8]++List.replicate 86 uu) m
def a5d (t0 t1 t2 t7 t8:AV) (m:Mem):R:=q7u E0 85 3 ([t0,t1,t2,uu,uu,uu,uu,t7,t8]++List.replicate 86 uu) m
theorem j3w (t0 t1 t2 t7:AV) (m:Mem):a5a t0 t1 t2 t7 m =
 Option.bind (q1M Tryz.prog 24 t0) fun x0=>
 Option.bind (q0J Tryz.prog .eql 3 t1 x0) fun x1=>
 q0b x1 (
  Option.bind (q0P 9 88 t0 t2 m) fun r2=>
  some (r2.1,r2.2)) (
  a5b t0 t1 t2 t7 x0 m):=
 q1f 400 (by kernel_rfl)
theorem j3x (t0 t1 t2 t7 t8:AV) (m:Mem):a5b t0 t1 t2 t7 t8 m =
 Option.bind (q0J Tryz.prog .add 3 t8 t7) fun x0=>
 Option.bind (z6t Tryz.prog 24 t0) fun x1=>
 Option.bind (q0J Tryz.prog .gtr 3 x0 x1) fun x2=>
 q0b x2 (
  Option.bind (q0o Tryz.prog 24 t0 none (some t1)) fun x3=>
  Option.bind (q0J Tryz.prog .add 3 t8 t7) fun x4=>
  Option.bind (q0J Tryz.prog .sub 3 x4 t1) fun x5=>
  Option.bind (q18 Tryz.prog 24 x3 x5 m) fun r6=>
  Option.bind (q0o Tryz.prog 24 r6.1 (some t1) none) fun x7=>
  Option.bind (q1v 9 x7 t2 r6.2) fun r8=>
  Option.bind (q0J Tryz.prog .add 3 t1 t7) fun x9=>
  Option.bind (q0o Tryz.prog 24 r6.1 (some x9) none) fun x10=>
  Option.bind (q0o Tryz.prog 24 t0 (some t1) none) fun x11=>
  Option.bind (q1v 9 x10 x11 r8.2) fun r12=>
  some (r6.1,r12.2)) (
  a5c t0 t1 t2 t7 t8 m):=
 q1f 400 (by kernel_rfl)
theorem j3y (t0 t1 t2 t7 t8:AV) (m:Mem):a5c t0 t1 t2 t7 t8 m =
 Option.bind (q0J Tryz.prog .add 3 t8 t7) fun x0=>
 Option.bind (q0o Tryz.prog 24 t0 none (some x0)) fun x1=>
 Option.bind (q0J Tryz.prog .add 3 t1 t7) fun x2=>
 Option.bind (q0o Tryz.prog 24 x1 (some x2) none) fun x3=>
 Option.bind (run E0 (.fn 124) [t2,x3] m) fun r4=>
 Option.bind (unA .not r4.1) fun x5=>
 q0b x5 (
  Option.bind (q0J Tryz.prog .add 3 t1 t7) fun x6=>
  Option.bind (q0o Tryz.prog 24 x1 (some x6) none) fun x7=>
  Option.bind (q0o Tryz.prog 24 x1 (some t1) none) fun x8=>
  Option.bind (q1v 9 x7 x8 r4.2) fun r9=>
  Option.bind (q0o Tryz.prog 24 x1 (some t1) none) fun x10=>
  Option.bind (q1v 9 x10 t2 r9.2) fun r11=>
  some (x1,r11.2)) (
  a5d x1 t1 t2 t7 t8 r4.2):=
 q1f 400 (by kernel_rfl)
theorem j3z (t0 t1 t2 t7 t8:AV) (m:Mem):a5d t0 t1 t2 t7 t8 m =
 Option.bind (q0o Tryz.prog 24 t0 (some t8) none) fun x0=>
 Option.bind (q1v 9 x0 t2 m) fun r1=>
 Option.bind (q0o Tryz.prog 24 t0 (some t1) none) fun x2=>
 Option.bind (run E0 (.fn 125) [x2,t7] r1.2) fun r3=>
 some (t0,r3.2):=
 q1f 400 (by kernel_rfl)
theorem a2k (a0 a1 a2:AV) (m:Mem):run E0 (.fn 85) [a0,a1,a2] m =
 Option.bind (q0o Tryz.prog 24 a0 (some a1) none) fun _=>
 Option.bind (q1M Tryz.prog 24 a2) fun x1=>
 Option.bind (q0J Tryz.prog .eql 3 x1 (.int .i64 0)) fun x2=>
 q0b x2 (
  some (a0,m)) (
  a5a a0 a1 a2 x1 m):=
 run_eq 400 rfl (by kernel_rfl) (by kernel_rfl)
def a5e (t0 t1 t2 t7:AV) (m:Mem):R:=q7u E0 87 0 ([t0,t1,t2,uu,uu,uu,uu,t7]++List.replicate 87 uu) m
def a5f (t0 t1 t2 t7 t8:AV) (m:Mem):R:=q7u E0 87 1 ([t0,t1,t2,uu,uu,uu,uu,t7,t8]++List.replicate 86 uu) m
def a5g (t0 t1 t2 t7 t8:AV) (m:Mem):R:=q7u E0 87 2 ([t0,t1,t2,uu,uu,uu,uu,t7,t8]++List.replicate 86 uu) m
def a5h (t0 t1 t2 t7 t8:AV) (m:Mem):R:=q7u E0 87 3 ([t0,t1,t2,uu,uu,uu,uu,t7,t8]++List.replicate 86 uu) m
theorem j3D (t0 t1 t2 t7:AV) (m:Mem):a5e t0 t1 t2 t7 m =
 Option.bind (q1M Tryz.prog 149 t0) fun x0=>
 Option.bind (q0J Tryz.prog .eql 3 t1 x0) fun x1=>
 q0b x1 (
  Option.bind (q0P 1 8 t0 t2 m) fun r2=>
  some (r2.1,r2.2)) (
  a5f t0 t1 t2 t7 x0 m):=
 q1f 400 (by kernel_rfl)
theorem j3E (t0 t1 t2 t7 t8:AV) (m:Mem):a5f t0 t1 t2 t7 t8 m =
 Option.bind (q0J Tryz.prog .add 3 t8 t7) fun x0=>
 Option.bind (z6t Tryz.prog 149 t0) fun x1=>
 Option.bind (q0J Tryz.prog .gtr 3 x0 x1) fun x2=>
 q0b x2 (
  Option.bind (q0o Tryz.prog 149 t0 none (some t1)) fun x3=>
  Option.bind (q0J Tryz.prog .add 3 t8 t7) fun x4=>
  Option.bind (q0J Tryz.prog .sub 3 x4 t1) fun x5=>
  Option.bind (q18 Tryz.prog 149 x3 x5 m) fun r6=>
  Option.bind (q0o Tryz.prog 149 r6.1 (some t1) none) fun x7=>
  Option.bind (q1v 1 x7 t2 r6.2) fun r8=>
  Option.bind (q0J Tryz.prog .add 3 t1 t7) fun x9=>
  Option.bind (q0o Tryz.prog 149 r6.1 (some x9) none) fun x10=>
  Option.bind (q0o Tryz.prog 149 t0 (some t1) none) fun x11=>
  Option.bind (q1v 1 x10 x11 r8.2) fun r12=>
  some (r6.1,r12.2)) (
  a5g t0 t1 t2 t7 t8 m):=
 q1f 400 (by kernel_rfl)
theorem j3F (t0 t1 t2 t7 t8:AV) (m:Mem):a5g t0 t1 t2 t7 t8 m =
 Option.bind (q0J Tryz.prog .add 3 t8 t7) fun x0=>
 Option.bind (q0o Tryz.prog 149 t0 none (some x0)) fun x1=>
 Option.bind (q0J Tryz.prog .add 3 t1 t7) fun x2=>
 Option.bind (q0o Tryz.prog 149 x1 (some x2) none) fun x3=>
 Option.bind (run E0 (.fn 128) [t2,x3] m) fun r4=>
 Option.bind (unA .not r4.1) fun x5=>
 q0b x5 (
  Option.bind (q0J Tryz.prog .add 3 t1 t7) fun x6=>
  Option.bind (q0o Tryz.prog 149 x1 (some x6) none) fun x7=>
  Option.bind (q0o Tryz.prog 149 x1 (some t1) none) fun x8=>
  Option.bind (q1v 1 x7 x8 r4.2) fun r9=>
  Option.bind (q0o Tryz.prog 149 x1 (some t1) none) fun x10=>
  Option.bind (q1v 1 x10 t2 r9.2) fun r11=>
  some (x1,r11.2)) (
  a5h x1 t1 t2 t7 t8 r4.2):=
 q1f 400 (by kernel_rfl)
theorem j3G (t0 t1 t2 t7 t8:AV) (m:Mem):a5h t0 t1 t2 t7 t8 m =
 Option.bind (q0o Tryz.prog 149 t0 (some t8) none) fun x0=>
 Option.bind (q1v 1 x0 t2 m) fun r1=>
 Option.bind (q0o Tryz.prog 149 t0 (some t1) none) fun x2=>
 Option.bind (run E0 (.fn 129) [x2,t7] r1.2) fun r3=>
 some (t0,r3.2):=
 q1f 400 (by kernel_rfl)
theorem a2m (a0 a1 a2:AV) (m:Mem):run E0 (.fn 87) [a0,a1,a2] m =
 Option.bind (q0o Tryz.prog 149 a0 (some a1) none) fun _=>
 Option.bind (q1M Tryz.prog 149 a2) fun x1=>
 Option.bind (q0J Tryz.prog .eql 3 x1 (.int .i64 0)) fun x2=>
 q0b x2 (
  some (a0,m)) (
  a5e a0 a1 a2 x1 m):=
 run_eq 400 rfl (by kernel_rfl) (by kernel_rfl)
def a5i (t0 t1 t2 t7:AV) (m:Mem):R:=q7u E0 88 0 ([t0,t1,t2,uu,uu,uu,uu,t7]++List.replicate 87 uu) m
def a5j (t0 t1 t2 t7 t8:AV) (m:Mem):R:=q7u E0 88 1 ([t0,t1,t2,uu,uu,uu,uu,t7,t8]++List.replicate 86 uu) m
def a5k (t0 t1 t2 t7 t8:AV) (m:Mem):R:=q7u E0 88 2 ([t0,t1,t2,uu,uu,uu,uu,t7,t8]++List.replicate 86 uu) m
def a5l (t0 t1 t2 t7 t8:AV) (m:Mem):R:=q7u E0 88 3 ([t0,t1,t2,uu,uu,uu,uu,t7,t8]++List.replicate 86 uu) m
theorem j3H (t0 t1 t2 t7:AV) (m:Mem):a5i t0 t1 t2 t7 m =
 Option.bind (q1M Tryz.prog 25 t0) fun x0=>
 Option.bind (q0J Tryz.prog .eql 3 t1 x0) fun x1=>
 q0b x1 (
  Option.bind (q0P 4 40 t0 t2 m) fun r2=>
  some (r2.1,r2.2)) (
  a5j t0 t1 t2 t7 x0 m):=
 q1f 400 (by kernel_rfl)
theorem j3I (t0 t1 t2 t7 t8:AV) (m:Mem):a5j t0 t1 t2 t7 t8 m =
 Option.bind (q0J Tryz.prog .add 3 t8 t7) fun x0=>
 Option.bind (z6t Tryz.prog 25 t0) fun x1=>
 Option.bind (q0J Tryz.prog .gtr 3 x0 x1) fun x2=>
 q0b x2 (
  Option.bind (q0o Tryz.prog 25 t0 none (some t1)) fun x3=>
  Option.bind (q0J Tryz.prog .add 3 t8 t7) fun x4=>
  Option.bind (q0J Tryz.prog .sub 3 x4 t1) fun x5=>
  Option.bind (q18 Tryz.prog 25 x3 x5 m) fun r6=>
  Option.bind (q0o Tryz.prog 25 r6.1 (some t1) none) fun x7=>
  Option.bind (q1v 4 x7 t2 r6.2) fun r8=>
  Option.bind (q0J Tryz.prog .add 3 t1 t7) fun x9=>
  Option.bind (q0o Tryz.prog 25 r6.1 (some x9) none) fun x10=>
  Option.bind (q0o Tryz.prog 25 t0 (some t1) none) fun x11=>
  Option.bind (q1v 4 x10 x11 r8.2) fun r12=>
  some (r6.1,r12.2)) (
  a5k t0 t1 t2 t7 t8 m):=
 q1f 400 (by kernel_rfl)
theorem j3J (t0 t1 t2 t7 t8:AV) (m:Mem):a5k t0 t1 t2 t7 t8 m =
 Option.bind (q0J Tryz.prog .add 3 t8 t7) fun x0=>
 Option.bind (q0o Tryz.prog 25 t0 none (some x0)) fun x1=>
 Option.bind (q0J Tryz.prog .add 3 t1 t7) fun x2=>
 Option.bind (q0o Tryz.prog 25 x1 (some x2) none) fun x3=>
 Option.bind (run E0 (.fn 130) [t2,x3] m) fun r4=>
 Option.bind (unA .not r4.1) fun x5=>
 q0b x5 (
  Option.bind (q0J Tryz.prog .add 3 t1 t7) fun x6=>
  Option.bind (q0o Tryz.prog 25 x1 (some x6) none) fun x7=>
  Option.bind (q0o Tryz.prog 25 x1 (some t1) none) fun x8=>
  Option.bind (q1v 4 x7 x8 r4.2) fun r9=>
  Option.bind (q0o Tryz.prog 25 x1 (some t1) none) fun x10=>
  Option.bind (q1v 4 x10 t2 r9.2) fun r11=>
  some (x1,r11.2)) (
  a5l x1 t1 t2 t7 t8 r4.2):=
 q1f 400 (by kernel_rfl)
theorem j3K (t0 t1 t2 t7 t8:AV) (m:Mem):a5l t0 t1 t2 t7 t8 m =
 Option.bind (q0o Tryz.prog 25 t0 (some t8) none) fun x0=>
 Option.bind (q1v 4 x0 t2 m) fun r1=>
 Option.bind (q0o Tryz.prog 25 t0 (some t1) none) fun x2=>
 Option.bind (run E0 (.fn 131) [x2,t7] r1.2) fun r3=>
 some (t0,r3.2):=
 q1f 400 (by kernel_rfl)
theorem a2n (a0 a1 a2:AV) (m:Mem):run E0 (.fn 88) [a0,a1,a2] m =
 Option.bind (q0o Tryz.prog 25 a0 (some a1) none) fun _=>
 Option.bind (q1M Tryz.prog 25 a2) fun x1=>
 Option.bind (q0J Tryz.prog .eql 3 x1 (.int .i64 0)) fun x2=>
 q0b x2 (
  some (a0,m)) (
  a5i a0 a1 a2 x1 m):=
 run_eq 400 rfl (by kernel_rfl) (by kernel_rfl)
end
end Go.Proofs.YtlginbmjiecglaaGreatDoor
namespace Go.Abs
section
open Go
section ops
variable {P:Program} {t e:TypeId} {sz:Nat}
theorem z0L (ht:P.underlying t=some (.slice e)) (a:Option AA) (s l c:Nat) (ex:Bool):q1M P t (.sl a s l c ex)=some (.int .i64 l):=by simp[q1M,ht]
theorem j49 (ht:P.underlying t=some (.slice e)) (a:Option AA) (s l c:Nat):z6t P t (.sl a s l c true)=some (.int .i64 c):=by simp[z6t,ht]
theorem q3F (ht:P.underlying t=some (.slice e)) (hs:szT P e=some sz) {a:AA} {s l c i:Nat} {ex:Bool} {k:IntKind} (hx:sz=s\/ex=true) (hi:i<=l) :
  q0o P t (.sl (some a) s l c ex) (some (.int k (i:Int))) none=some (.sl (some ⟨a.b,a.o+i*sz⟩) sz (l-i) (c-i) ex):=by
 simp[q0o,ht,hs,hiA,loA,hi,hx]
theorem z4v (ht:P.underlying t=some (.slice e)) (hs:szT P e=some sz) {a:AA} {s l c h:Nat} {ex:Bool} {k:IntKind} (hx:sz=s\/ex=true) (hh:h<=c) :
  q0o P t (.sl (some a) s l c ex) none (some (.int k (h:Int)))=some (.sl (some a) sz h c ex):=by
 simp[q0o,ht,hs,hiA,loA,hh,hx]
theorem z1e (ht:P.underlying t=some (.slice e)) (hs:szT P e=some sz) {s:Nat} {ex:Bool} {k:IntKind}:q0o P t (.sl none s 0 0 ex) (some (.int k 0)) none=some (.sl none sz 0 0 true):=by
 simp[q0o,ht,hs,hiA,loA]
theorem q8m {ti:TypeId} {x y z:Int} (hz:z=x+y) (h0:-9223372036854775808<=z) (h1:z<9223372036854775808):q0J P .add ti (.int .i64 x) (.int .i64 y)=some (.int .i64 z):=by
 subst hz;simp[q0J,q65,wrap_i64 h0 h1]
theorem a0K {ti:TypeId} {x y z:Int} (hz:z=x-y) (h0:-9223372036854775808<=z) (h1:z<9223372036854775808):q0J P .sub ti (.int .i64 x) (.int .i64 y)=some (.int .i64 z):=by
 subst hz;simp[q0J,q65,wrap_i64 h0 h1]
theorem z1P {ti:TypeId} {k:IntKind} {x y:Int}:q0J P .eql ti (.int k x) (.int k y)=some (.bool (decide (x=y))):=by simp[q0J,q65];rfl
theorem z9j {ti:TypeId} {k:IntKind} {x y:Int}:q0J P .gtr ti (.int k x) (.int k y)=some (.bool (decide (y<x))):=by simp[q0J,q65]
theorem q8y {a:AA} {s l c n j:Nat} {ex:Bool} {x:AV} {m m':Mem} {cs ds:List AV} (hx:s=sz\/ex=true) (hsrc:q3Q sz x m=some (n,cs)) (hj:min n l=j) (h0:0<j) (hd:cs.take (j*sz)=ds) (h1:ds.all AV.one=true) (hst:q1h m a ds=some m') :
  q1v sz (.sl (some a) s l c ex) x m=some (.int .i64 j,m'):=by
 subst hj hd;unfold q1v;simp only[hsrc];rw[if_neg (by omega)];simp[hx,h1,hst]
theorem z4y {m:Mem} {a:AA} {cs vs:List AV} (h:m.get a.b=some (.cells cs false)) (hl:a.o+vs.length<=cs.length):q1h m a vs=some (m.put a.b (some (.cells (cs.take a.o++vs++cs.drop (a.o+vs.length)) false))):=by
 simp[q1h,h,hl]
end ops
noncomputable def q9b (P:Program) (st ti sz w:Nat) (ov rot:AV->AV->Mem->R) (a0 a1 a2:AV) (m:Mem):R:=
 Option.bind (q0o P st a0 (some a1) none) fun _=>
 Option.bind (q1M P st a2) fun x1=>
 Option.bind (q0J P .eql ti x1 (.int .i64 0)) fun x2=>
 q0b x2 (some (a0,m)) (
  Option.bind (q1M P st a0) fun y0=>
  Option.bind (q0J P .eql ti a1 y0) fun y1=>
  q0b y1 (Option.bind (q0P sz w a0 a2 m) fun r2=>some (r2.1,r2.2)) (
  Option.bind (q0J P .add ti y0 x1) fun z0=>
  Option.bind (z6t P st a0) fun z1=>
  Option.bind (q0J P .gtr ti z0 z1) fun z2=>
  q0b z2 (
   Option.bind (q0o P st a0 none (some a1)) fun x3=>
   Option.bind (q0J P .add ti y0 x1) fun x4=>
   Option.bind (q0J P .sub ti x4 a1) fun x5=>
   Option.bind (q18 P st x3 x5 m) fun r6=>
   Option.bind (q0o P st r6.1 (some a1) none) fun x7=>
   Option.bind (q1v sz x7 a2 r6.2) fun r8=>
   Option.bind (q0J P .add ti a1 x1) fun x9=>
   Option.bind (q0o P st r6.1 (some x9) none) fun x10=>
   Option.bind (q0o P st a0 (some a1) none) fun x11=>
   Option.bind (q1v sz x10 x11 r8.2) fun r12=>
   some (r6.1,r12.2)) (
   Option.bind (q0J P .add ti y0 x1) fun u0=>
   Option.bind (q0o P st a0 none (some u0)) fun u1=>
   Option.bind (q0J P .add ti a1 x1) fun u2=>
   Option.bind (q0o P st u1 (some u2) none) fun u3=>
   Option.bind (ov a2 u3 m) fun r4=>
   Option.bind (unA .not r4.1) fun u5=>
   q0b u5 (
   Option.bind (q0J P .add ti a1 x1) fun u6=>
   Option.bind (q0o P st u1 (some u6) none) fun u7=>
   Option.bind (q0o P st u1 (some a1) none) fun u8=>
   Option.bind (q1v sz u7 u8 r4.2) fun r9=>
   Option.bind (q0o P st u1 (some a1) none) fun u10=>
   Option.bind (q1v sz u10 a2 r9.2) fun r11=>
   some (u1,r11.2)) (
   Option.bind (q0o P st u1 (some y0) none) fun v0=>
   Option.bind (q1v sz v0 a2 r4.2) fun s1=>
   Option.bind (q0o P st u1 (some a1) none) fun v2=>
   Option.bind (rot v2 x1 s1.2) fun s3=>
   some (u1,s3.2)))))
theorem q8c {sz:Nat} {a:AA} {s l c:Nat} {ex:Bool} {m:Mem} {cs:List AV} {ro:Bool} (hx:s=sz\/ex=true) (h:m.get a.b=some (.cells cs ro)) (hl:a.o+l*sz<=cs.length) :
  q3Q sz (.sl (some a) s l c ex) m=some (l,(cs.drop a.o).take (l*sz)):=by
 have hld:q0y m a (l*sz)=some ((cs.drop a.o).take (l*sz)):=by simp[q0y,h,hl]
 unfold q3Q;split
 ·simp_all
 ·rename_i a' s' l' c' ex' e;cases e;simp[hx,hld]
 ·simp_all
 ·rename_i h1 h2 h3;exact absurd rfl (h2 a s l c ex)
theorem z1f {sz k:Nat} {a:AA} {s l c:Nat} {ex:Bool} {m:Mem} {new:List AV} (h:q3Q sz (.sl (some a) s l c ex) m=some (k,new)):new.length=k*sz:=by
 have hk:=z4w h;subst hk;unfold q3Q at h;simp only at h;split at h
 ·obtain⟨cs,h1,e⟩:=xoe.1 h;cases e;obtain⟨ds,ro,_,h2,rfl⟩:=q1P h1;simp;omega
 ·cases h
theorem q5e {E:Env} {f st ti sz w e:Nat} {ov rot:AV->AV->Mem->R} {zs:List AV} (ht:E.P.underlying st=some (.slice e)) (hs:szT E.P e=some sz) (hw:q4y E.P e=some w) (hz:q3J E.P e=some zs)
  (hov:∀(v s:AV) (m:Mem),ov v s m=q0I [v,s] m) (heq:∀a0 a1 a2 m,run E (.fn f) [a0,a1,a2] m=q9b E.P st ti sz w ov rot a0 a1 a2 m):q4D E f st sz w zs where
 fin:=by
  intro s x n k new sa sz0 len cap ex xa sx cx exx m r hsE hxE hsrc hk hn1 hcase happ;subst hsE hxE;rw[heq];unfold q9b;have e0:∃y,q0o E.P st (.sl sa sz0 len cap ex) (some (.int .i64 len)) none=some y:=by
   rcases hcase with ⟨a,rfl,hx⟩|⟨rfl,rfl,rfl⟩
   ·exact⟨_,q3F ht hs (hx.imp Eq.symm id) (xnr _)⟩
   ·exact⟨_,by simpa using z1e (s:=sz0) (ex:=ex) (k:=.i64) ht hs⟩
  obtain⟨y,e0⟩:=e0;simp only[e0,Option.bind_some,z0L ht,z1P,df (show ¬(k:Int)=0 by omega),q0b,decide_true,happ]
 room:=by
  intro a len cap i k xa sx cx exx cs old new m ha hfit hold hone hx hne hsrc hn1 hk hsz hw0 hzs hil hby hroom;have hb:len+k<=140737488355328:=xnt0 (Nat.le_mul_of_pos_right _ hw0) hby
  have hnl:=z1f hsrc;have hmul:∀x y:Nat,x<=y->x*sz<=y*sz:=fun x y h=>Nat.mul_le_mul_right _ h
  have hlc:=hmul len cap (by omega);have hlk:=hmul (len+k) cap hroom;have hil2:=hmul i len (by omega);have hadd:∀x y:Nat,(x+y)*sz=x*sz+y*sz:=fun x y=>Nat.add_mul _ _ _
  have hsub:(len-i)*sz=len*sz-i*sz:=Nat.mul_sub_right_distrib _ _ _;have hik:=hadd i k;have hlks:=hadd len k;have hol:old.length=len*sz:=by rw[<-hold,xlt0,xld0];omega
  have hiksz:0<k*sz:=Nat.mul_pos hk hsz;rw[heq];unfold q9b;have e1:=q3F (a:=a) (s:=sz) (c:=cap) (ex:=true) (k:=.i64) ht hs (.inl rfl) (show i<=len by omega);have e2:=z4v (a:=a) (s:=sz) (l:=len) (ex:=true) (k:=.i64) ht hs (.inl rfl) hroom;have e3:=q3F (a:=a) (s:=sz) (c:=cap) (ex:=true) (k:=.i64) ht hs (.inl rfl) (show i+k<=len+k by omega);have e4:=q3F (a:=a) (s:=sz) (c:=cap) (ex:=true) (k:=.i64) ht hs (.inl rfl) (show i<=len+k by omega)
  have a1:q0J E.P .add ti (.int .i64 (len:Int)) (.int .i64 (k:Int))=some (.int .i64 ((len+k:Nat):Int)):=q8m (by simp) (by omega) (by omega);have a2:q0J E.P .add ti (.int .i64 (i:Int)) (.int .i64 (k:Int))=some (.int .i64 ((i+k:Nat):Int)):=q8m (by simp) (by omega) (by omega);obtain⟨ds,hx⟩:=hx;have hcne:cs≠[]:=by rintro rfl;simp at hfit;omega
  have hovr:ov (.sl (some xa) sx k cx exx) (.sl (some ⟨a.b,a.o+(i+k)*sz⟩) sz (len+k-(i+k)) (cap-(i+k)) true) m=some (.bool false,m):=by
   rw[hov];obtain⟨c0,cs0,rfl⟩:=List.exists_cons_of_ne_nil hcne;simp only[q0I,if_neg hne,hx,ha]
  have hsr1:=q8c (a:=⟨a.b,a.o+i*sz⟩) (s:=sz) (l:=len+k-i) (c:=cap-i) (ex:=true) (.inl rfl) ha (by
   have:=hadd i (len+k-i);rw[show i+(len+k-i)=len+k by omega]at this;simp only;omega)
  have hmove:((cs.drop (a.o+i*sz)).take ((len+k-i)*sz)).take ((len-i)*sz)=old.drop (i*sz):=by
   rw[List.take_take,Nat.min_eq_left (hmul _ _ (by omega)),<-hold,List.drop_take,List.drop_drop,hsub]
  have hst1:=z4y (a:=⟨a.b,a.o+(i+k)*sz⟩) (vs:=old.drop (i*sz)) ha (by simp only[xld0,hol];omega);have hc1:=q8y (a:=⟨a.b,a.o+(i+k)*sz⟩) (s:=sz) (l:=len+k-(i+k)) (c:=cap-(i+k)) (ex:=true) (.inl rfl) hsr1 (j:=len-i) (by omega) (by omega) hmove (by
   rw[List.all_eq_true]at hone⊢;exact fun v hv=>hone v (List.mem_of_mem_drop hv)) hst1
  generalize hm1:m.put a.b (some (.cells (cs.take (a.o+(i+k)*sz)++old.drop (i*sz)++cs.drop (a.o+(i+k)*sz+(old.drop (i*sz)).length)) false))=m1 at hc1;generalize hcs1:cs.take (a.o+(i+k)*sz)++old.drop (i*sz)++cs.drop (a.o+(i+k)*sz+(old.drop (i*sz)).length)=cs1 at hm1;have hal:=Mem.q0v ha;have ha1:m1.get a.b=some (.cells cs1 false):=by rw[<-hm1,Mem.get_put,if_pos ⟨rfl,hal⟩]
  have hl1:cs1.length=cs.length:=by rw[<-hcs1];simp only[xla0,xlt0,xld0,hol];omega
  have hsr2:q3Q sz (.sl (some xa) sx k cx exx) m1=some (k,new):=by rw[<-hm1,z4x hne];exact hsrc
  have hst2:=z4y (a:=⟨a.b,a.o+i*sz⟩) (vs:=new) ha1 (by simp only[hnl,hl1];omega);have hc2:=q8y (a:=⟨a.b,a.o+i*sz⟩) (s:=sz) (l:=len+k-i) (c:=cap-i) (ex:=true) (.inl rfl) hsr2 (j:=k) (by omega) hk (xtl (by omega)) hn1 hst2;simp only[e1,Option.bind_some,z0L ht,j49 ht,z1P,z9j,df (show ¬(k:Int)=0 by omega),df (show ¬(i:Int)=(len:Int) by omega),q0b,a1,a2,df (show ¬(cap:Int)<((len+k:Nat):Int) by omega),e2,e3,e4,hovr,unA,xbf,hc1,hc2]
  refine⟨_,rfl,by rw[<-hm1];rfl,fun b hb=>?_,?_⟩
  ·rw[Mem.get_put,if_neg (fun h=>hb h.1),<-hm1,Mem.get_put,if_neg (fun h=>hb h.1)]
  ·rw[Mem.get_put,if_pos ⟨rfl,by rw[<-hm1];exact hal⟩];congr 2;have p1:cs1.take (a.o+i*sz)=cs.take (a.o+i*sz):=by
    rw[<-hcs1,List.append_assoc,List.take_append_of_le_length (by simp;omega),List.take_take,Nat.min_eq_left (by omega)]
   have p2:cs1.drop (a.o+i*sz+new.length)=old.drop (i*sz)++cs.drop (a.o+(len+k)*sz):=by
    rw[<-hcs1,hnl,List.append_assoc,List.drop_append];have hlen:(cs.take (a.o+(i+k)*sz)).length=a.o+(i+k)*sz:=by simp;omega
    rw[List.drop_eq_nil_of_le (by rw[hlen];omega),List.nil_append,hlen,show a.o+i*sz+k*sz-(a.o+(i+k)*sz)=0 by omega,List.drop_zero];congr 2;simp only[xld0,hol];omega
   rw[p1,p2];simp only[List.append_assoc]
 grow:=by
  intro a len cap i k xa sx cx exx cs old new m ha hfit hold hone hx hne hsrc hn1 hk hsz hw0 hzs hil hby hlcap hroom;have hb:len+k<=140737488355328:=xnt0 (Nat.le_mul_of_pos_right _ hw0) hby
  have hnl:=z1f hsrc;have hmul:∀x y:Nat,x<=y->x*sz<=y*sz:=fun x y h=>Nat.mul_le_mul_right _ h
  have hlc:=hmul len cap (by omega);have hil2:=hmul i len (by omega);have hadd:∀x y:Nat,(x+y)*sz=x*sz+y*sz:=fun x y=>Nat.add_mul _ _ _
  have hik:=hadd i k;have hlks:=hadd len k;have hsub:(len-i)*sz=len*sz-i*sz:=Nat.mul_sub_right_distrib _ _ _;have hsub2:(len+k-i)*sz=(len+k)*sz-i*sz:=Nat.mul_sub_right_distrib _ _ _;have hol:old.length=len*sz:=by rw[<-hold,xlt0,xld0];omega
  have hiksz:0<k*sz:=Nat.mul_pos hk hsz;rw[heq];unfold q9b;have e1:=q3F (a:=a) (s:=sz) (c:=cap) (ex:=true) (k:=.i64) ht hs (.inl rfl) (show i<=len by omega);have e2:=z4v (a:=a) (s:=sz) (l:=len) (ex:=true) (k:=.i64) ht hs (.inl rfl) (show i<=cap by omega);have a1:q0J E.P .add ti (.int .i64 (len:Int)) (.int .i64 (k:Int))=some (.int .i64 ((len+k:Nat):Int)):=q8m (by simp) (by omega) (by omega)
  have a2:q0J E.P .add ti (.int .i64 (i:Int)) (.int .i64 (k:Int))=some (.int .i64 ((i+k:Nat):Int)):=q8m (by simp) (by omega) (by omega);have a3:q0J E.P .sub ti (.int .i64 ((len+k:Nat):Int)) (.int .i64 (i:Int))=some (.int .i64 ((len+k-i:Nat):Int)):=a0K (by omega) (by omega) (by omega);have hal:=Mem.q0v ha;have hold2:(cs.drop a.o).take (i*sz)=old.take (i*sz):=by rw[<-hold,List.take_take,Nat.min_eq_left hil2]
  have hz1:q18 E.P st (.sl (some a) sz i cap true) (.int .i64 ((len+k-i:Nat):Int)) m=some (.sl (some ⟨m.next,0⟩) sz (len+k) (len+k) false,m.alloc (old.take (i*sz)++(List.replicate (len+k-i) zs).flatten)):=by
   simp only[q18,ht,hz,hs,hw,Option.bind_some,Int.toNat_natCast];rw[if_pos ⟨by omega,hzs,hsz,hw0,by omega,by omega,by omega,by rw[show i+(len+k-i)=len+k by omega];exact hby⟩];simp only[q0y,ha];rw[if_pos (by omega),hold2];simp only[xom];rw[show i+(len+k-i)=len+k by omega]
  generalize hrow:old.take (i*sz)++(List.replicate (len+k-i) zs).flatten=row at hz1;have hto:(old.take (i*sz)).length=i*sz:=by rw[xlt0];omega
  have hrl:row.length=(len+k)*sz:=by rw[<-hrow];simp only[xla0,List.length_flatten,List.map_replicate,List.sum_replicate_nat,hzs,hto];omega
  have hr0:(m.alloc row).get m.next=some (.cells row false):=by rw[Mem.q2F,if_pos rfl]
  have e5:=q3F (a:=⟨m.next,0⟩) (s:=sz) (c:=len+k) (ex:=false) (k:=.i64) ht hs (.inl rfl) (show i<=len+k by omega)
  have e6:=q3F (a:=⟨m.next,0⟩) (s:=sz) (c:=len+k) (ex:=false) (k:=.i64) ht hs (.inl rfl) (show i+k<=len+k by omega)
  simp only[xnz]at e5 e6;obtain⟨ds,hx⟩:=hx;have hxl:=Mem.q0v hx;have hsr1:q3Q sz (.sl (some xa) sx k cx exx) (m.alloc row)=some (k,new):=by
   rw[<-hsrc];unfold q3Q q0y;simp only[Mem.q2F,if_neg (show ¬xa.b=m.next by omega)]
  have hst1:=z4y (a:=⟨m.next,i*sz⟩) (vs:=new) hr0 (by simp only[hnl,hrl];omega)
  have hc1:=q8y (a:=⟨m.next,i*sz⟩) (s:=sz) (l:=len+k-i) (c:=len+k-i) (ex:=false) (.inl rfl) hsr1 (j:=k) (by omega) hk (xtl (by omega)) hn1 hst1
  generalize hcs1:row.take (i*sz)++new++row.drop (i*sz+new.length)=row1 at hc1;generalize hm1:(m.alloc row).put m.next (some (.cells row1 false))=m1 at hc1
  have hm1n:m1.next=m.next+1:=by rw[<-hm1];rfl
  have hr1:m1.get m.next=some (.cells row1 false):=by rw[<-hm1,Mem.get_put,if_pos ⟨rfl,by simp⟩]
  have hoth:∀b,b≠m.next->m1.get b=m.get b:=fun b hb=>by rw[<-hm1,Mem.get_put,if_neg (fun h=>hb h.1),Mem.q2F,if_neg hb]
  have ha1:m1.get a.b=some (.cells cs false):=by rw[hoth _ (by omega)];exact ha
  have hl1:row1.length=(len+k)*sz:=by rw[<-hcs1];simp only[xla0,xlt0,xld0,hrl,hnl];omega
  have hsr2:=q8c (a:=⟨a.b,a.o+i*sz⟩) (s:=sz) (l:=len-i) (c:=cap-i) (ex:=true) (.inl rfl) ha1 (by simp only[hsub];omega);have hmove:((cs.drop (a.o+i*sz)).take ((len-i)*sz)).take ((len-i)*sz)=old.drop (i*sz):=by
   rw[List.take_take,Nat.min_self,<-hold,List.drop_take,List.drop_drop,hsub]
  have hst2:=z4y (a:=⟨m.next,(i+k)*sz⟩) (vs:=old.drop (i*sz)) hr1 (by simp only[xld0,hol,hl1];omega)
  have hc2:=q8y (a:=⟨m.next,(i+k)*sz⟩) (s:=sz) (l:=len+k-(i+k)) (c:=len+k-(i+k)) (ex:=false) (.inl rfl) hsr2 (j:=len-i) (by omega) (by omega) hmove (by
   rw[List.all_eq_true]at hone⊢;exact fun v hv=>hone v (List.mem_of_mem_drop hv)) hst2
  simp only[e1,Option.bind_some,z0L ht,j49 ht,z1P,z9j,df (show ¬(k:Int)=0 by omega),df (show ¬(i:Int)=(len:Int) by omega),q0b,a1,a2,a3,dt (show (cap:Int)<((len+k:Nat):Int) by omega),e2,hz1,e5,e6,hc1,hc2];refine⟨_,rfl,by simp[hm1n],fun b hb=>?_,?_⟩
  ·rw[Mem.get_put,if_neg (fun h=>hb h.1)];exact hoth b hb
  ·rw[Mem.get_put,if_pos ⟨rfl,by omega⟩];congr 2;have hri:row.take (i*sz)=old.take (i*sz):=by rw[<-hrow,List.take_append_of_le_length (by omega),List.take_take,Nat.min_self]
   have p1:row1.take ((i+k)*sz)=old.take (i*sz)++new:=by
    rw[<-hcs1,hri,List.take_append_of_le_length (by simp only[xla0,hto,hnl];omega),xtl (by simp only[xla0,hto,hnl];omega)]
   have p3:row1.drop ((i+k)*sz+(old.drop (i*sz)).length)=[]:=List.drop_eq_nil_of_le (by simp only[xld0,hol,hl1];omega);rw[p1,p3,List.append_nil]
end
end Go.Abs
namespace Go.Proofs.YtlginbmjiecglaaGreatDoor
section
open Go Go.Abs
set_option maxRecDepth 4000
theorem a6V:q4D E0 83 140 1 16 ((q3J Tryz.prog 9).getD []):=
 q5e (E:=E0) (ti:=3) (e:=9) (ov:=fun v s m=>run E0 (.fn 120) [v,s] m) (rot:=fun v k m=>run E0 (.fn 121) [v,k] m) (by kernel_rfl) (by kernel_rfl) (by kernel_rfl) (by kernel_rfl)
  (fun v s m=>q00 (E:=E0) (h:=q0I) rfl [v,s] m) (fun a0 a1 a2 m=>by
   simp only[a2i,j3o,j3p,j3q,j3r];rfl)
theorem a6W:q4D E0 84 23 4 40 ((q3J Tryz.prog 56).getD []):=
 q5e (E:=E0) (ti:=3) (e:=56) (ov:=fun v s m=>run E0 (.fn 122) [v,s] m) (rot:=fun v k m=>run E0 (.fn 123) [v,k] m) (by kernel_rfl) (by kernel_rfl) (by kernel_rfl) (by kernel_rfl)
  (fun v s m=>q00 (E:=E0) (h:=q0I) rfl [v,s] m) (fun a0 a1 a2 m=>by
   simp only[a2j,j3s,j3t,j3u,j3v];rfl)
theorem a6X:q4D E0 85 24 9 88 ((q3J Tryz.prog 74).getD []):=
 q5e (E:=E0) (ti:=3) (e:=74) (ov:=fun v s m=>run E0 (.fn 124) [v,s] m) (rot:=fun v k m=>run E0 (.fn 125) [v,k] m) (by kernel_rfl) (by kernel_rfl) (by kernel_rfl) (by kernel_rfl)
  (fun v s m=>q00 (E:=E0) (h:=q0I) rfl [v,s] m) (fun a0 a1 a2 m=>by
   simp only[a2k,j3w,j3x,j3y,j3z];rfl)
theorem a6Y:q4D E0 87 149 1 8 ((q3J Tryz.prog 26).getD []):=
 q5e (E:=E0) (ti:=3) (e:=26) (ov:=fun v s m=>run E0 (.fn 128) [v,s] m) (rot:=fun v k m=>run E0 (.fn 129) [v,k] m) (by kernel_rfl) (by kernel_rfl) (by kernel_rfl) (by kernel_rfl)
  (fun v s m=>q00 (E:=E0) (h:=q0I) rfl [v,s] m) (fun a0 a1 a2 m=>by
   simp only[a2m,j3D,j3E,j3F,j3G];rfl)
theorem a6Z:q4D E0 88 25 4 40 ((q3J Tryz.prog 54).getD []):=
 q5e (E:=E0) (ti:=3) (e:=54) (ov:=fun v s m=>run E0 (.fn 130) [v,s] m) (rot:=fun v k m=>run E0 (.fn 131) [v,k] m) (by kernel_rfl) (by kernel_rfl) (by kernel_rfl) (by kernel_rfl)
  (fun v s m=>q00 (E:=E0) (h:=q0I) rfl [v,s] m) (fun a0 a1 a2 m=>by
   simp only[a2n,j3H,j3I,j3J,j3K];rfl)
end
section
open Go Go.Abs
set_option maxRecDepth 4000
noncomputable def H (f:FuncId):Option (List AV->Mem->R):=
 match f with
 | 59=>some q4w
 | 60=>some q7q
 | 120=>some q0I
 | 122=>some q0I
 | 124=>some q0I
 | 128=>some q0I
 | 130=>some q0I
 | 83=>some (q7v Tryz.prog 140)
 | 84=>some (q7v Tryz.prog 23)
 | 85=>some (q7v Tryz.prog 24)
 | 87=>some (q7v Tryz.prog 149)
 | 88=>some (q7v Tryz.prog 25)
 | _=>none
noncomputable def E:Env:=z4R Tryz.prog hints H
theorem a9o:q1i E:=q8B (by kernel_rfl) 196 (fun f h=>by
  unfold hints;rw[List.getElem?_eq_none (by show 196<=f;exact h)];rfl) (fun f h=>List.all_eq_true.1 looks f (List.mem_range.2 h)) (fun f h e=>by
  unfold H at e;split at e
  ·have e1:=xsj e;subst e1;exact q8l (P:=Tryz.prog) (fn:=Tryz.f59) Tryz.func59 (by kernel_rfl) (by kernel_rfl) (by kernel_rfl) (by kernel_rfl)
  ·have e1:=xsj e;subst e1;exact q9G (P:=Tryz.prog) (fn:=Tryz.f60) Tryz.func60 (by kernel_rfl) (by kernel_rfl) (by kernel_rfl) (by kernel_rfl)
  ·have e1:=xsj e;subst e1;exact q0R (P:=Tryz.prog) (fn:=Tryz.f120) (st:=140) (tr:=4) (e:=9) (sz:=1) Tryz.func120 (by kernel_rfl) (by kernel_rfl) (by kernel_rfl) (by kernel_rfl) (by kernel_rfl) (by kernel_rfl)
  ·have e1:=xsj e;subst e1;exact q0R (P:=Tryz.prog) (fn:=Tryz.f122) (st:=23) (tr:=4) (e:=56) (sz:=4) Tryz.func122 (by kernel_rfl) (by kernel_rfl) (by kernel_rfl) (by kernel_rfl) (by kernel_rfl) (by kernel_rfl)
  ·have e1:=xsj e;subst e1;exact q0R (P:=Tryz.prog) (fn:=Tryz.f124) (st:=24) (tr:=4) (e:=74) (sz:=9) Tryz.func124 (by kernel_rfl) (by kernel_rfl) (by kernel_rfl) (by kernel_rfl) (by kernel_rfl) (by kernel_rfl)
  ·have e1:=xsj e;subst e1;exact q0R (P:=Tryz.prog) (fn:=Tryz.f128) (st:=149) (tr:=4) (e:=26) (sz:=1) Tryz.func128 (by kernel_rfl) (by kernel_rfl) (by kernel_rfl) (by kernel_rfl) (by kernel_rfl) (by kernel_rfl)
  ·have e1:=xsj e;subst e1;exact q0R (P:=Tryz.prog) (fn:=Tryz.f130) (st:=25) (tr:=4) (e:=54) (sz:=4) Tryz.func130 (by kernel_rfl) (by kernel_rfl) (by kernel_rfl) (by kernel_rfl) (by kernel_rfl) (by kernel_rfl)
  ·have e1:=xsj e;subst e1;exact q1J (E:=E0) q7w (st:=140) (e:=9) (by kernel_rfl) (by kernel_rfl) (by kernel_rfl) (by kernel_rfl) ⟨Tryz.f83,Tryz.func83,by kernel_rfl,by decide +kernel⟩ a6V
  ·have e1:=xsj e;subst e1;exact q1J (E:=E0) q7w (st:=23) (e:=56) (by kernel_rfl) (by kernel_rfl) (by kernel_rfl) (by kernel_rfl) ⟨Tryz.f84,Tryz.func84,by kernel_rfl,by decide +kernel⟩ a6W
  ·have e1:=xsj e;subst e1;exact q1J (E:=E0) q7w (st:=24) (e:=74) (by kernel_rfl) (by kernel_rfl) (by kernel_rfl) (by kernel_rfl) ⟨Tryz.f85,Tryz.func85,by kernel_rfl,by decide +kernel⟩ a6X
  ·have e1:=xsj e;subst e1;exact q1J (E:=E0) q7w (st:=149) (e:=26) (by kernel_rfl) (by kernel_rfl) (by kernel_rfl) (by kernel_rfl) ⟨Tryz.f87,Tryz.func87,by kernel_rfl,by decide +kernel⟩ a6Y
  ·have e1:=xsj e;subst e1;exact q1J (E:=E0) q7w (st:=25) (e:=54) (by kernel_rfl) (by kernel_rfl) (by kernel_rfl) (by kernel_rfl) ⟨Tryz.f88,Tryz.func88,by kernel_rfl,by decide +kernel⟩ a6Z
  ·cases e)
end
end Go.Proofs.YtlginbmjiecglaaGreatDoor
namespace Go.Abs
noncomputable section
open Go
inductive CM where
 |ret (v:AV)
 |fail
 |resC (P:Program) (rs:List ResultVar) (vs:List AV)
 |pu (e:Option AV) (K:AV->CM)
 |rm (e:Mem->Option AV) (K:AV->CM)
 |al (e:Option (Blk×(Nat->AV))) (K:AV->CM)
 |ef (e:Mem->R) (K:AV->CM)
 |st (e:Mem->Option Mem) (K:CM)
 |call (f:Nat) (az:List AV) (K:AV->CM)
 |callv (fv:AV) (az:List AV) (K:AV->CM)
 |ifv (v:AV) (x y:CM)
 |cond (v:AV) (x y:CM)
 |memo (K:Mem->CM)
 |chk (e:Option AV) (v:AV) (K:CM)
 |go (key:Nat) (ts:List AV)
 |rng (md:Md) (fv:AV) (l:q8j) (key:Nat) (ts:List AV)
structure Do where
 call:q02
 gor:Nat->List AV->Mem->R
 afr:Nat->Option Jmp->List AV->Mem->R
def q6H {α:Type} (e:Option α) (K:α->R):R:=Option.rec (motive:=fun _=>R) none K e
def q0i (d:Do) (c:CM):Mem->R:=
 CM.rec (motive:=fun _=>Mem->R)
  (fun v m=>some (v,m))
  (fun _=>none)
  (fun P rs vs m=>Option.rec (motive:=fun _=>R) none (fun vs=>some (q0V vs,m)) (q0S P rs vs m))
  (fun e _ ih m=>Option.rec (motive:=fun _=>R) none (fun v=>ih v m) e)
  (fun e _ ih m=>Option.rec (motive:=fun _=>R) none (fun v=>ih v m) (e m))
  (fun e _ ih m=>Option.rec (motive:=fun _=>R) none (fun c=>ih (c.2 m.next) (m.lay c.1)) e)
  (fun e _ ih m=>Option.rec (motive:=fun _=>R) none (fun r=>ih r.1 r.2) (e m))
  (fun e _ ih m=>Option.rec (motive:=fun _=>R) none (fun m=>ih m) (e m))
  (fun f az _ ih m=>Option.rec (motive:=fun _=>R) none (fun r=>ih r.1 r.2) (d.call (.fn f) az m))
  (fun fv az _ ih m=>Option.rec (motive:=fun _=>R) none (fun r=>ih r.1 r.2) (q3P d.call fv az m))
  (fun v _ _ x y m=>ifV v (x m) (y m))
  (fun v _ _ x y m=>q0b v (x m) (y m))
  (fun _ ih m=>ih m m)
  (fun e v _ ih m=>if e=some v then ih m else none)
  (fun k ts m=>d.gor k ts m)
  (fun md fv l k ts m=>q1A d.call md fv l m fun j m=>d.afr k j ts m)
  c
section
variable {d:Do} {m:Mem}
theorem z5e (v:AV):q0i d (.ret v) m=some (v,m):=rfl
theorem z10 (P:Program) (rs:List ResultVar) (vs:List AV):q0i d (.resC P rs vs) m=(q0S P rs vs m).bind fun vs=>some (q0V vs,m):=by
 cases h:q0S P rs vs m<;>simp[q0i,h]
theorem z9s (e:Option AV) (K:AV->CM):q0i d (.pu e K) m=e.bind fun v=>q0i d (K v) m:=by cases e<;>rfl
theorem z9t (e:Mem->Option AV) (K:AV->CM):q0i d (.rm e K) m=(e m).bind fun v=>q0i d (K v) m:=by
 show Option.rec (motive:=fun _=>R) none (fun v=>q0i d (K v) m) (e m)=_
 cases e m<;>rfl
theorem z9p (e:Option (Blk×(Nat->AV))) (K:AV->CM):q0i d (.al e K) m=e.bind fun c=>q0i d (K (c.2 m.next)) (m.lay c.1):=by cases e<;>rfl
theorem z9q (e:Mem->R) (K:AV->CM):q0i d (.ef e K) m=(e m).bind fun r=>q0i d (K r.1) r.2:=by
 show Option.rec (motive:=fun _=>R) none (fun r=>q0i d (K r.1) r.2) (e m)=_
 cases e m<;>rfl
theorem z9u (e:Mem->Option Mem) (K:CM):q0i d (.st e K) m=(e m).bind fun m=>q0i d K m:=by
 show Option.rec (motive:=fun _=>R) none (fun m=>q0i d K m) (e m)=_
 cases e m<;>rfl
theorem z1X (f:Nat) (az:List AV) (K:AV->CM):q0i d (.call f az K) m=(d.call (.fn f) az m).bind fun r=>q0i d (K r.1) r.2:=by
 show Option.rec (motive:=fun _=>R) none (fun r=>q0i d (K r.1) r.2) (d.call (.fn f) az m)=_
 cases d.call (.fn f) az m<;>rfl
theorem z0F (fv:AV) (az:List AV) (K:AV->CM):q0i d (.callv fv az K) m=(q3P d.call fv az m).bind fun r=>q0i d (K r.1) r.2:=by
 show Option.rec (motive:=fun _=>R) none (fun r=>q0i d (K r.1) r.2) (q3P d.call fv az m)=_
 cases q3P d.call fv az m<;>rfl
theorem z5d (v:AV) (x y:CM):q0i d (.ifv v x y) m=ifV v (q0i d x m) (q0i d y m):=rfl
theorem z1Y (v:AV) (x y:CM):q0i d (.cond v x y) m=q0b v (q0i d x m) (q0i d y m):=rfl
theorem z1Z (K:Mem->CM):q0i d (.memo K) m=q0i d (K m) m:=rfl
theorem z5c (e:Option AV) (v:AV) (K:CM):q0i d (.chk e v K) m=if e=some v then q0i d K m else none:=rfl
theorem z9r (k:Nat) (ts:List AV):q0i d (.go k ts) m=d.gor k ts m:=rfl
theorem z5f (md:Md) (fv:AV) (l:q8j) (k:Nat) (ts:List AV):q0i d (.rng md fv l k ts) m=q1A d.call md fv l m fun j m=>d.afr k j ts m:=rfl
end
theorem Le.q6H {α:Type} {f g:Option α} {F G:α->R} (h:Le f g) (hF:∀x,Le (F x) (G x)):Le (q6H f F) (q6H g G):=by
 have e:∀(o:Option α) (K:α->R),Abs.q6H o K=o.bind K:=fun o K=>by cases o<;>rfl
 rw[e,e];exact h.bind hF
abbrev p1 {α:Type} (F:α->Option AV) (x:α):Option AV:=(some x).bind F
abbrev p2 (F:AV->AV->Option AV) (x y:AV):Option AV:=(some x).bind fun a=>(some y).bind fun b=>F a b
abbrev p3 (F:AV->AV->AV->Option AV) (x y z:AV):Option AV:=(some x).bind fun a=>(some y).bind fun b=>(some z).bind fun c=>F a b c
abbrev q1 (F:AV->Mem->Option AV) (x:AV) (m:Mem):Option AV:=(some x).bind fun a=>F a m
abbrev q2 (F:AV->AV->Mem->Option AV) (x y:AV) (m:Mem):Option AV:=(some x).bind fun a=>(some y).bind fun b=>F a b m
abbrev apE (k w:Nat) (s x:AV) (m:Mem):R:=(some (k,w)).bind fun nw=>q0P nw.1 nw.2 s x m
structure Do.Le (d e:Do):Prop where
 call:∀t az m,Abs.Le (d.call t az m) (e.call t az m)
 gor:∀k ts m,Abs.Le (d.gor k ts m) (e.gor k ts m)
 afr:∀k j ts m,Abs.Le (d.afr k j ts m) (e.afr k j ts m)
theorem Le.q1A {c c':q02} (h:∀f a m,Le (c f a m) (c' f a m)) (md:Md) (fv:AV) (l:q8j) (m:Mem) {go go':Option Jmp->Mem->R} (hg:∀j m,Le (go j m) (go' j m)) :
  Le (Abs.q1A c md fv l m go) (Abs.q1A c' md fv l m go'):=by
 unfold Abs.q1A;split
 ·split
  ·refine .bind (h _ _ _) fun r=>?_
   unfold q1n;split
   ·split
    ·exact .none _
    ·exact hg _ _
   ·exact .none _
  ·exact .none _
 ·exact .none _
theorem q67 {d e:Do} (h:d.Le e) (c:CM):∀m,Le (q0i d c m) (q0i e c m):=by
 induction c with
 |ret _|fail|resC _ _ _=>exact fun m=>.refl _
 |pu _ _ ih=>exact fun m=>Le.q6H (.refl _) fun v=>ih v m
 |rm _ _ ih=>exact fun m=>Le.q6H (.refl _) fun v=>ih v m
 |al _ _ ih=>exact fun m=>Le.q6H (.refl _) fun v=>ih _ _
 |ef _ _ ih=>exact fun m=>Le.q6H (.refl _) fun v=>ih _ _
 |st _ _ ih=>exact fun m=>Le.q6H (.refl _) fun v=>ih _
 |call _ _ _ ih=>exact fun m=>Le.q6H (h.call _ _ _) fun v=>ih _ _
 |callv fv az _ ih=>
  intro m;refine Le.q6H ?_ fun v=>ih _ _
  unfold q3P;split
  ·exact h.call _ _ _
  ·exact h.call _ _ _
  ·exact .none _
 |ifv v _ _ x y=>
  intro m;show Le (ifV v _ _) (ifV v _ _);unfold ifV;split
  ·exact x m
  ·exact y m
  ·exact .none _
 |cond v _ _ x y=>
  intro m;show Le (q0b v _ _) (q0b v _ _);unfold q0b;split
  ·exact x m
  ·exact y m
  ·exact .none _
 |memo _ ih=>exact fun m=>ih m m
 |chk e v _ ih=>
  intro m;show Le (if e=some v then _ else _) (if e=some v then _ else _)
  split
  ·exact ih m
  ·exact .none _
 |go _ _=>exact fun m=>h.gor _ _ _
 |rng md fv l k ts=>exact fun m=>Le.q1A h.call _ _ _ _ fun j m=>h.afr _ _ _ _
def spread:List Bool->List AV->List AV
 |true::bs,v::vs=>v::spread bs vs
 |true::bs,[]=>.undef::spread bs []
 |false::bs,vs=>.undef::spread bs vs
 |[],_=>[]
def bM (n x:Nat):List Bool:=(List.range n).map (Nat.testBit x)
def goR (E:Env) (M:Nat->List Bool) (k:Nat) (ts:List AV) (m:Mem):R:=q7u E (k / 4096) (k % 4096) (spread (M k) ts) m
def afR (E:Env) (M:Nat->List Bool) (k:Nat) (j:Option Jmp) (ts:List AV) (m:Mem):R:=z6d E (k / 4096) (k % 4096) j (spread (M k) ts) m
def real (E:Env) (M N:Nat->List Bool):Do:=⟨run E,goR E M,afR E N⟩
theorem q17 {E:Env} {M:Nat->List Bool} {k:Nat} (n:Nat) {ts:List AV} {m:Mem} {r:R}
  (h:goC E (run E) (.fn (q1l E (k / 4096))) (go E (.fn (q1l E (k / 4096)))) n (kAt E (k / 4096) (k % 4096)) (spread (M k) ts) m=r):goR E M k ts m=r:=q1f n h
theorem z6c {E:Env} {M:Nat->List Bool} {k:Nat} {j:Option Jmp} (n:Nat) {ts:List AV} {m:Mem} {r:R}
  (h:goC E (run E) (.fn (q1l E (k / 4096))) (go E (.fn (q1l E (k / 4096)))) n (pend j (j9X E (k / 4096) (k % 4096))) (spread (M k) ts) m=r):afR E M k j ts m=r:=z4F n h
def apS (F:AV->List AV->CM) (l:List AV):CM:=List.rec (motive:=fun _=>CM) .fail (fun a l _=>F a l) l
def ap0 (c:CM) (l:List AV):CM:=List.rec (motive:=fun _=>CM) c (fun _ _ _=>.fail) l
theorem j05 (F:AV->List AV->CM) (a:AV) (l:List AV):apS F (a::l)=F a l:=rfl
theorem j6S (c:CM):ap0 c []=c:=rfl
def LeD (d:Do) (D:List AV->CM) (g:List AV->Mem->R):Prop:=∀l m,Le (q0i d (D l) m) (g l m)
def EqD (d:Do) (D:List AV->CM) (g:List AV->Mem->R):Prop:=∀l m,g l m=q0i d (D l) m\/D l=.fail
theorem sE {d:Do} {F:AV->List AV->CM} {g:List AV->Mem->R} (h:∀a,EqD d (F a) fun l=>g (a::l)):EqD d (apS F) g:=fun l m=>by
 cases l with
 |nil=>exact .inr rfl
 |cons a l=>exact h a l m
theorem zE {d:Do} {c:CM} {g:List AV->Mem->R} (h:∀m,g [] m=q0i d c m):EqD d (ap0 c) g:=fun l m=>by
 cases l with
 |nil=>exact .inl (h m)
 |cons a l=>exact .inr rfl
theorem EqD.le {d:Do} {D:List AV->CM} {g:List AV->Mem->R} (h:EqD d D g):LeD d D g:=fun l m=>by
 cases h l m with
 |inl e=>rw[e];exact .refl _
 |inr e=>rw[e];exact .none _
theorem all_nil {α:Type} {p:α->Prop}:∀x∈([]:List α),p x:=fun _ h=>by simp at h
theorem all_cons {α:Type} {p:α->Prop} {a:α} {l:List α} (h:p a) (h':∀x∈l,p x):∀x∈a::l,p x:=fun x hx=>by
 cases hx with
 |head=>exact h
 |tail _ hx=>exact h' x hx
def pB (b:Nat):AV:=.ptr (some ⟨b,0⟩)
def sB (n len:Nat) (b:Nat):AV:=.sl (some ⟨b,0⟩) n len len true
inductive BT (α:Type) where
 |leaf
 |node (k:Nat) (v:α) (l r:BT α)
def BT.find {α:Type} (t:BT α) (q:Nat):Option α:=
 BT.rec (motive:=fun _=>Option α) none (fun k v _ _ l r=>Bool.rec (motive:=fun _=>Option α) (Bool.rec (motive:=fun _=>Option α) r l (Nat.ble q k)) (some v) (Nat.beq q k)) t
def BT.All {α:Type} (Q:Nat->α->Prop):BT α->Prop
 | .leaf=>True
 | .node k v l r=>Q k v/\l.All Q/\r.All Q
theorem BT.q4W {α:Type} {Q:Nat->α->Prop} {q:Nat} {v:α}:∀{t:BT α},t.All Q->t.find q=some v->Q q v
 | .leaf,_,h=>by simp[BT.find]at h
 | .node k w l r,ha,h=>by
  have hu:(BT.node k w l r).find q=Bool.rec (motive:=fun _=>Option α) (Bool.rec (motive:=fun _=>Option α) (r.find q) (l.find q) (Nat.ble q k)) (some w) (Nat.beq q k):=rfl
  rw[hu]at h;cases e:Nat.beq q k with
  |true=>
   rw[e]at h;cases h;have:=Nat.eq_of_beq_eq_true e;subst this;exact ha.1
  |false=>
   rw[e]at h;cases e2:Nat.ble q k with
   |true=>rw[e2]at h;exact BT.q4W ha.2.1 h
   |false=>rw[e2]at h;exact BT.q4W ha.2.2 h
structure Tb where
 fn:BT (List AV->CM)
 gor:BT (List AV->CM)
 afr:BT ((List AV->CM)×(List AV->CM)×List (Nat×(List AV->CM)))
def z97 (id:Nat):List (Nat×(List AV->CM))->Option (List AV->CM)
 |[]=>none
 |(i,D)::l=>if Nat.beq id i=true then some D else z97 id l
def z5r (t:(List AV->CM)×(List AV->CM)×List (Nat×(List AV->CM))):Option Jmp->Option (List AV->CM)
 |none=>some t.1
 |some .ret=>some t.2.1
 |some (.exit id)=>z97 id t.2.2
structure Tb.Ok (T:Tb) (E:Env) (M N:Nat->List Bool):Prop where
 fn:T.fn.All fun f D=>LeD (real E M N) D fun az m=>run E (.fn f) az m
 gor:T.gor.All fun k D=>LeD (real E M N) D fun ts m=>goR E M k ts m
 afr:T.afr.All fun k t=>LeD (real E M N) t.1 (fun ts m=>afR E N k none ts m)/\LeD (real E M N) t.2.1 (fun ts m=>afR E N k (some .ret) ts m)/\
  ∀iD∈t.2.2,LeD (real E M N) iD.2 fun ts m=>afR E N k (some (.exit iD.1)) ts m
def j4U (E:Env) (call:q02) (n:Nat) (f:Nat) (az:List AV) (m:Mem):R:=
 match E.H f with
 |some h=>h az m
 |none=>match E.B f with
  |some (rs,nt,c)=>goF E call (.fn rs) n [.code c] (az++List.replicate (nt-az.length) .undef) m
  |none=>none
def a0G (E:Env) (call:q02) (n:Nat) (b:Nat) (az:List AV) (m:Mem):R:=q3g m b az fun k t=>goF E call (.rd b) n k t m
def a81 (E:Env) (T:Tb) (n:Nat) (d:Do):Do where
 call t az m:=Tg.rec (motive:=fun _=>R) (fun f=>Option.rec (motive:=fun _=>R) (j4U E d.call n f az m) (fun D=>q0i d (D az) m) (T.fn.find f)) (fun b=>a0G E d.call n b az m) t
 gor k ts m:=Option.rec (motive:=fun _=>R) none (fun D=>q0i d (D ts) m) (T.gor.find k)
 afr k j ts m:=((T.afr.find k).bind fun t=>z5r t j).bind fun D=>q0i d (D ts) m
def XD (E:Env) (T:Tb) (n:Nat):Do:=Nat.rec (motive:=fun _=>Do) ⟨fun _ _ _=>none,fun _ _ _=>none,fun _ _ _ _=>none⟩ (fun n d=>a81 E T n d) n
theorem Le.q15 {E:Env} {c c':q02} (h:∀f a m,Le (c f a m) (c' f a m)) {κ κ':List AI->List AV->Mem->R} (hκ:∀k t m,Le (κ k t m) (κ' k t m)) (md:Md) (k:List AI) (t:List AV) (m:Mem) :
  Le (Abs.q15 E c md k t m κ) (Abs.q15 E c' md k t m κ'):=by
 have hl:Lim (fun n=>Abs.q15 E (if n=0 then c else c') md k t m (if n=0 then κ else κ')) (Abs.q15 E c' md k t m κ'):=by
  refine Lim.q15 (call:=fun n=>if n=0 then c else c') (κ:=fun n=>if n=0 then κ else κ') ?_ md k t m ?_
  ·intro f a m;refine⟨fun n=>?_,fun r hr=>⟨1,fun n hn=>?_⟩⟩
   ·by_cases e:n=0
    ·simp only[e,if_true];exact h _ _ _
    ·simp only[e,if_false];exact .refl _
   ·simp only[show n≠0 by omega,if_false];exact hr
  ·intro k t m;refine⟨fun n=>?_,fun r hr=>⟨1,fun n hn=>?_⟩⟩
   ·by_cases e:n=0
    ·simp only[e,if_true];exact hκ _ _ _
    ·simp only[e,if_false];exact .refl _
   ·simp only[show n≠0 by omega,if_false];exact hr
 exact hl.1 0
theorem Le.goF {E:Env} {call:q02} (h:∀f a m,Le (call f a m) (run E f a m)) (md:Md):∀(n:Nat) k t m,Le (Abs.goF E call md n k t m) (go E md k t m)
 | 0,_,_,_=>.none _
 |n+1,k,t,m=>by rw[go_step];exact Le.q15 h (fun k t m=>Le.goF h md n k t m) md k t m
theorem j4V {E:Env} {call:q02} (h:∀f a m,Le (call f a m) (run E f a m)) (n f:Nat) (az:List AV) (m:Mem):Le (j4U E call n f az m) (run E (.fn f) az m):=by
 unfold j4U;split
 ·rename_i hH;rw[q00 hH];exact .refl _
 ·rename_i hH;split
  ·rename_i hB;rw[z4r hH hB];exact Le.goF h _ _ _ _ _
  ·exact .none _
theorem j4W {E:Env} {call:q02} (h:∀f a m,Le (call f a m) (run E f a m)) (n b:Nat) (az:List AV) (m:Mem):Le (a0G E call n b az m) (run E (.yl b) az m):=by
 unfold a0G;rw[z1a];unfold q3g;split
 ·split
  ·exact Le.goF h _ _ _ _ _
  ·exact .none _
 ·exact .none _
theorem z0X {id:Nat} {D:List AV->CM}:∀{l:List (Nat×(List AV->CM))},z97 id l=some D->(id,D)∈l
 |[],h=>by simp[z97]at h
 |(i,D')::l,h=>by
  simp only[z97]at h;split at h
  ·rename_i e;cases h;rw[Nat.eq_of_beq_eq_true e];exact xmc
  ·exact List.mem_cons_of_mem _ (z0X h)
theorem a1m {E:Env} {T:Tb} {M N:Nat->List Bool} (ok:T.Ok E M N):∀n,(XD E T n).Le (real E M N)
 | 0=>⟨fun _ _ _=>.none _,fun _ _ _=>.none _,fun _ _ _ _=>.none _⟩
 |n+1=>by
  have ih:=a1m ok n;refine⟨fun t az m=>?_,fun k ts m=>?_,fun k j ts m=>?_⟩
  ·cases t with
   |fn f=>
    show Le (Option.rec (motive:=fun _=>R) (j4U E (XD E T n).call n f az m) (fun D=>q0i (XD E T n) (D az) m) (T.fn.find f)) (run E (.fn f) az m)
    cases e:T.fn.find f with
    |none=>exact j4V ih.call _ _ _ _
    |some D=>exact(q67 ih _ _).trans (BT.q4W ok.fn e az m)
   |yl b=>exact j4W ih.call _ _ _ _
  ·show Le (Option.rec (motive:=fun _=>R) none (fun D=>q0i (XD E T n) (D ts) m) (T.gor.find k)) (goR E M k ts m)
   cases e:T.gor.find k with
   |none=>exact .none _
   |some D=>exact(q67 ih _ _).trans (BT.q4W ok.gor e ts m)
  ·show Le (((T.afr.find k).bind fun t=>z5r t j).bind fun D=>q0i (XD E T n) (D ts) m) (afR E N k j ts m)
   cases e:T.afr.find k with
   |none=>exact .none _
   |some t=>
    have hk:=BT.q4W ok.afr e;simp only[Option.bind_some];cases e2:z5r t j with
    |none=>exact .none _
    |some D=>
     refine(q67 ih _ _).trans ?_;cases j with
     |none=>simp only[z5r,xoi]at e2;subst e2;exact hk.1 ts m
     |some j=>
      cases j with
      |ret=>simp only[z5r,xoi]at e2;subst e2;exact hk.2.1 ts m
      |exit id=>simp only[z5r]at e2;exact hk.2.2 _ (z0X e2) ts m
theorem j4N {E:Env} {T:Tb} {M N:Nat->List Bool} (ok:T.Ok E M N) (n:Nat) {t:Tg} {az:List AV} {m:Mem} {r:AV×Mem} (h:(XD E T n).call t az m=some r):run E t az m=some r:=
 (a1m ok n).call t az m r h
end
end Go.Abs
