/- Texts of one claim, put together. -/
import Derived.Test.YtkbhcgifnnhbaaaGreatDoorK8
import Derived.KernelRfl
namespace Go.Proofs.YtkbhcgifnnhbaaaGreatDoor
open Go Go.Abs
set_option maxRecDepth 4000
section
noncomputable abbrev TP:=Tryz.prog
theorem b4N:(List.range' 0 50).all (q46 TP hints)=true:=by kernel_rfl
theorem b0J:(List.range' 50 50).all (q46 TP hints)=true:=by kernel_rfl
theorem a3C:(List.range' 100 50).all (q46 TP hints)=true:=by kernel_rfl
theorem a3D:(List.range' 150 50).all (q46 TP hints)=true:=by kernel_rfl
theorem a3E:(List.range' 200 50).all (q46 TP hints)=true:=by kernel_rfl
theorem a3F:(List.range' 250 50).all (q46 TP hints)=true:=by kernel_rfl
theorem a3G:(List.range' 300 50).all (q46 TP hints)=true:=by kernel_rfl
theorem a3H:(List.range' 350 26).all (q46 TP hints)=true:=by kernel_rfl
theorem q5b {p:Nat->Bool} {a k:Nat} (h:(List.range' a k).all p=true) (f:Nat) (h1:a<=f) (h2:f<a+k):p f=true:=xBd.1 h f (List.mem_range'_1.2 ⟨h1,h2⟩)
theorem looks (f:Nat) (h:f<376):q46 TP hints f=true:=
 if h0:f<50 then q5b b4N f (by omega) (by omega) else
 if h50:f<100 then q5b b0J f (by omega) (by omega) else
 if h100:f<150 then q5b a3C f (by omega) (by omega) else
 if h150:f<200 then q5b a3D f (by omega) (by omega) else
 if h200:f<250 then q5b a3E f (by omega) (by omega) else
 if h250:f<300 then q5b a3F f (by omega) (by omega) else
 if h300:f<350 then q5b a3G f (by omega) (by omega) else
 q5b a3H f (by omega) (by omega)
noncomputable def H0 (f:FuncId):Option (List AV->Mem->R):=
 match f with
 | 295=>some q0S
 | 297=>some q0S
 | 305=>some q0S
 | 307=>some q0S
 | 309=>some q0S
 | 311=>some q0S
 | 317=>some q6m
 | 321=>some z1a
 | _=>none
noncomputable def E0:Env:=j4s TP hints H0
theorem j0q:q07 E0:=z88 (by kernel_rfl) 376 (fun f h=>by
  unfold hints;rw[xAu (by show 376<=f;exact h)];rfl) looks (fun f h e=>by
  unfold H0 at e;split at e
  ·have e1:=xsj e;subst e1;exact q1f (P:=TP) (fn:=Tryz.f295) (st:=118) (tr:=4) (e:=27) (sz:=1) Tryz.func295 (by kernel_rfl) (by kernel_rfl) (by kernel_rfl) (by kernel_rfl) (by kernel_rfl) (by kernel_rfl)
  ·have e1:=xsj e;subst e1;exact q1f (P:=TP) (fn:=Tryz.f297) (st:=23) (tr:=4) (e:=141) (sz:=4) Tryz.func297 (by kernel_rfl) (by kernel_rfl) (by kernel_rfl) (by kernel_rfl) (by kernel_rfl) (by kernel_rfl)
  ·have e1:=xsj e;subst e1;exact q1f (P:=TP) (fn:=Tryz.f305) (st:=117) (tr:=4) (e:=9) (sz:=1) Tryz.func305 (by kernel_rfl) (by kernel_rfl) (by kernel_rfl) (by kernel_rfl) (by kernel_rfl) (by kernel_rfl)
  ·have e1:=xsj e;subst e1;exact q1f (P:=TP) (fn:=Tryz.f307) (st:=24) (tr:=4) (e:=153) (sz:=4) Tryz.func307 (by kernel_rfl) (by kernel_rfl) (by kernel_rfl) (by kernel_rfl) (by kernel_rfl) (by kernel_rfl)
  ·have e1:=xsj e;subst e1;exact q1f (P:=TP) (fn:=Tryz.f309) (st:=25) (tr:=4) (e:=158) (sz:=9) Tryz.func309 (by kernel_rfl) (by kernel_rfl) (by kernel_rfl) (by kernel_rfl) (by kernel_rfl) (by kernel_rfl)
  ·have e1:=xsj e;subst e1;exact q1f (P:=TP) (fn:=Tryz.f311) (st:=26) (tr:=4) (e:=162) (sz:=4) Tryz.func311 (by kernel_rfl) (by kernel_rfl) (by kernel_rfl) (by kernel_rfl) (by kernel_rfl) (by kernel_rfl)
  ·have e1:=xsj e;subst e1;exact z8G (P:=TP) (fn:=Tryz.f317) Tryz.func317 (by kernel_rfl) (by kernel_rfl) (by kernel_rfl) (by kernel_rfl)
  ·have e1:=xsj e;subst e1;exact j0i (P:=TP) (fn:=Tryz.f321) Tryz.func321 (by kernel_rfl) (by kernel_rfl) (by kernel_rfl) (by kernel_rfl)
  ·cases e)
end
noncomputable section
abbrev uu:AV:=.undef
def a5n (t0 t1 t2 t7:AV) (m:Mem):R:=q7s E0 257 0 ([t0,t1,t2,uu,uu,uu,uu,t7]++List.replicate 87 uu) m
def a5o (t0 t1 t2 t7 t8:AV) (m:Mem):R:=q7s E0 257 1 ([t0,t1,t2,uu,uu,uu,uu,t7,t8]++List.replicate 86 uu) m
def a5p (t0 t1 t2 t7 t8:AV) (m:Mem):R:=q7s E0 257 2 ([t0,t1,t2,uu,uu,uu,uu,t7,t8]++List.replicate 86 uu) m
def a5q (t0 t1 t2 t7 t8:AV) (m:Mem):R:=q7s E0 257 3 ([t0,t1,t2,uu,uu,uu,uu,t7,t8]++List.replicate 86 uu) m
theorem j5U (t0 t1 t2 t7:AV) (m:Mem):a5n t0 t1 t2 t7 m =
 Option.bind (q2e TP 118 t0) fun x0=>
 Option.bind (q0E TP .eql 3 t1 x0) fun x1=>
 q0b x1 (
  Option.bind (q0H 1 8 t0 t2 m) fun r2=>
  some (r2.1,r2.2)) (
  a5o t0 t1 t2 t7 x0 m):=
 q1i 400 (by kernel_rfl)
theorem j5V (t0 t1 t2 t7 t8:AV) (m:Mem):a5o t0 t1 t2 t7 t8 m =
 Option.bind (q0E TP .add 3 t8 t7) fun x0=>
 Option.bind (j0I TP 118 t0) fun x1=>
 Option.bind (q0E TP .gtr 3 x0 x1) fun x2=>
 q0b x2 (
  Option.bind (q0n TP 118 t0 none (some t1)) fun x3=>
  Option.bind (q0E TP .add 3 t8 t7) fun x4=>
  Option.bind (q0E TP .sub 3 x4 t1) fun x5=>
  Option.bind (q19 TP 118 x3 x5 m) fun r6=>
  Option.bind (q0n TP 118 r6.1 (some t1) none) fun x7=>
  Option.bind (q1p 1 x7 t2 r6.2) fun r8=>
  Option.bind (q0E TP .add 3 t1 t7) fun x9=>
  Option.bind (q0n TP 118 r6.1 (some x9) none) fun x10=>
  Option.bind (q0n TP 118 t0 (some t1) none) fun x11=>
  Option.bind (q1p 1 x10 x11 r8.2) fun r12=>
  some (r6.1,r12.2)) (
  a5p t0 t1 t2 t7 t8 m):=
 q1i 400 (by kernel_rfl)
theorem j5W (t0 t1 t2 t7 t8:AV) (m:Mem):a5p t0 t1 t2 t7 t8 m =
 Option.bind (q0E TP .add 3 t8 t7) fun x0=>
 Option.bind (q0n TP 118 t0 none (some x0)) fun x1=>
 Option.bind (q0E TP .add 3 t1 t7) fun x2=>
 Option.bind (q0n TP 118 x1 (some x2) none) fun x3=>
 Option.bind (run E0 (.fn 295) [t2,x3] m) fun r4=>
 Option.bind (unA .not r4.1) fun x5=>
 q0b x5 (
  Option.bind (q0E TP .add 3 t1 t7) fun x6=>
  Option.bind (q0n TP 118 x1 (some x6) none) fun x7=>
  Option.bind (q0n TP 118 x1 (some t1) none) fun x8=>
  Option.bind (q1p 1 x7 x8 r4.2) fun r9=>
  Option.bind (q0n TP 118 x1 (some t1) none) fun x10=>
  Option.bind (q1p 1 x10 t2 r9.2) fun r11=>
  some (x1,r11.2)) (
  a5q x1 t1 t2 t7 t8 r4.2):=
 q1i 400 (by kernel_rfl)
theorem j5X (t0 t1 t2 t7 t8:AV) (m:Mem):a5q t0 t1 t2 t7 t8 m =
 Option.bind (q0n TP 118 t0 (some t8) none) fun x0=>
 Option.bind (q1p 1 x0 t2 m) fun r1=>
 Option.bind (q0n TP 118 t0 (some t1) none) fun x2=>
 Option.bind (run E0 (.fn 296) [x2,t7] r1.2) fun r3=>
 some (t0,r3.2):=
 q1i 400 (by kernel_rfl)
theorem a9G (a0 a1 a2:AV) (m:Mem):run E0 (.fn 257) [a0,a1,a2] m =
 Option.bind (q0n TP 118 a0 (some a1) none) fun _=>
 Option.bind (q2e TP 118 a2) fun x1=>
 Option.bind (q0E TP .eql 3 x1 (.int .i64 0)) fun x2=>
 q0b x2 (
  some (a0,m)) (
  a5n a0 a1 a2 x1 m):=
 run_eq 400 rfl (by kernel_rfl) (by kernel_rfl)
def a5r (t0 t1 t2 t7:AV) (m:Mem):R:=q7s E0 258 0 ([t0,t1,t2,uu,uu,uu,uu,t7]++List.replicate 87 uu) m
def a5s (t0 t1 t2 t7 t8:AV) (m:Mem):R:=q7s E0 258 1 ([t0,t1,t2,uu,uu,uu,uu,t7,t8]++List.replicate 86 uu) m
def a5t (t0 t1 t2 t7 t8:AV) (m:Mem):R:=q7s E0 258 2 ([t0,t1,t2,uu,uu,uu,uu,t7,t8]++List.replicate 86 uu) m
def a5u (t0 t1 t2 t7 t8:AV) (m:Mem):R:=q7s E0 258 3 ([t0,t1,t2,uu,uu,uu,uu,t7,t8]++List.replicate 86 uu) m
theorem j5Y (t0 t1 t2 t7:AV) (m:Mem):a5r t0 t1 t2 t7 m =
 Option.bind (q2e TP 23 t0) fun x0=>
 Option.bind (q0E TP .eql 3 t1 x0) fun x1=>
 q0b x1 (
  Option.bind (q0H 4 48 t0 t2 m) fun r2=>
  some (r2.1,r2.2)) (
  a5s t0 t1 t2 t7 x0 m):=
 q1i 400 (by kernel_rfl)
theorem j5Z (t0 t1 t2 t7 t8:AV) (m:Mem):a5s t0 t1 t2 t7 t8 m =
 Option.bind (q0E TP .add 3 t8 t7) fun x0=>
 Option.bind (j0I TP 23 t0) fun x1=>
 Option.bind (q0E TP .gtr 3 x0 x1) fun x2=>
 q0b x2 (
  Option.bind (q0n TP 23 t0 none (some t1)) fun x3=>
  Option.bind (q0E TP .add 3 t8 t7) fun x4=>
  Option.bind (q0E TP .sub 3 x4 t1) fun x5=>
  Option.bind (q19 TP 23 x3 x5 m) fun r6=>
  Option.bind (q0n TP 23 r6.1 (some t1) none) fun x7=>
  Option.bind (q1p 4 x7 t2 r6.2) fun r8=>
  Option.bind (q0E TP .add 3 t1 t7) fun x9=>
  Option.bind (q0n TP 23 r6.1 (some x9) none) fun x10=>
  Option.bind (q0n TP 23 t0 (some t1) none) fun x11=>
  Option.bind (q1p 4 x10 x11 r8.2) fun r12=>
  some (r6.1,r12.2)) (
  a5t t0 t1 t2 t7 t8 m):=
 q1i 400 (by kernel_rfl)
theorem j50 (t0 t1 t2 t7 t8:AV) (m:Mem):a5t t0 t1 t2 t7 t8 m =
 Option.bind (q0E TP .add 3 t8 t7) fun x0=>
 Option.bind (q0n TP 23 t0 none (some x0)) fun x1=>
 Option.bind (q0E TP .add 3 t1 t7) fun x2=>
 Option.bind (q0n TP 23 x1 (some x2) none) fun x3=>
 Option.bind (run E0 (.fn 297) [t2,x3] m) fun r4=>
 Option.bind (unA .not r4.1) fun x5=>
 q0b x5 (
  Option.bind (q0E TP .add 3 t1 t7) fun x6=>
  Option.bind (q0n TP 23 x1 (some x6) none) fun x7=>
  Option.bind (q0n TP 23 x1 (some t1) none) fun x8=>
  Option.bind (q1p 4 x7 x8 r4.2) fun r9=>
  Option.bind (q0n TP 23 x1 (some t1) none) fun x10=>
  Option.bind (q1p 4 x10 t2 r9.2) fun r11=>
  some (x1,r11.2)) (
  a5u x1 t1 t2 t7 t8 r4.2):=
 q1i 400 (by kernel_rfl)
theorem j51 (t0 t1 t2 t7 t8:AV) (m:Mem):a5u t0 t1 t2 t7 t8 m =
 Option.bind (q0n TP 23 t0 (some t8) none) fun x0=>
 Option.bind (q1p 4 x0 t2 m) fun r1=>
 Option.bind (q0n TP 23 t0 (some t1) none) fun x2=>
 Option.bind (run E0 (.fn 298) [x2,t7] r1.2) fun r3=>
 some (t0,r3.2):=
 q1i 400 (by kernel_rfl)
theorem a9H (a0 a1 a2:AV) (m:Mem):run E0 (.fn 258) [a0,a1,a2] m =
 Option.bind (q0n TP 23 a0 (some a1) none) fun _=>
 Option.bind (q2e TP 23 a2) fun x1=>
 Option.bind (q0E TP .eql 3 x1 (.int .i64 0)) fun x2=>
 q0b x2 (
  some (a0,m)) (
  a5r a0 a1 a2 x1 m):=
 run_eq 400 rfl (by kernel_rfl) (by kernel_rfl)
def a5v (t0 t1 t2 t7:AV) (m:Mem):R:=q7s E0 281 0 ([t0,t1,t2,uu,uu,uu,uu,t7]++List.replicate 87 uu) m
def a5w (t0 t1 t2 t7 t8:AV) (m:Mem):R:=q7s E0 281 1 ([t0,t1,t2,uu,uu,uu,uu,t7,t8]++List.replicate 86 uu) m
def a5x (t0 t1 t2 t7 t8:AV) (m:Mem):R:=q7s E0 281 2 ([t0,t1,t2,uu,uu,uu,uu,t7,t8]++List.replicate 86 uu) m
def a5y (t0 t1 t2 t7 t8:AV) (m:Mem):R:=q7s E0 281 3 ([t0,t1,t2,uu,uu,uu,uu,t7,t8]++List.replicate 86 uu) m
theorem j52 (t0 t1 t2 t7:AV) (m:Mem):a5v t0 t1 t2 t7 m =
 Option.bind (q2e TP 117 t0) fun x0=>
 Option.bind (q0E TP .eql 3 t1 x0) fun x1=>
 q0b x1 (
  Option.bind (q0H 1 16 t0 t2 m) fun r2=>
  some (r2.1,r2.2)) (
  a5w t0 t1 t2 t7 x0 m):=
 q1i 400 (by kernel_rfl)
theorem j53 (t0 t1 t2 t7 t8:AV) (m:Mem):a5w t0 t1 t2 t7 t8 m =
 Option.bind (q0E TP .add 3 t8 t7) fun x0=>
 Option.bind (j0I TP 117 t0) fun x1=>
 Option.bind (q0E TP .gtr 3 x0 x1) fun x2=>
 q0b x2 (
  Option.bind (q0n TP 117 t0 none (some t1)) fun x3=>
  Option.bind (q0E TP .add 3 t8 t7) fun x4=>
  Option.bind (q0E TP .sub 3 x4 t1) fun x5=>
  Option.bind (q19 TP 117 x3 x5 m) fun r6=>
  Option.bind (q0n TP 117 r6.1 (some t1) none) fun x7=>
  Option.bind (q1p 1 x7 t2 r6.2) fun r8=>
  Option.bind (q0E TP .add 3 t1 t7) fun x9=>
  Option.bind (q0n TP 117 r6.1 (some x9) none) fun x10=>
  Option.bind (q0n TP 117 t0 (some t1) none) fun x11=>
  Option.bind (q1p 1 x10 x11 r8.2) fun r12=>
  some (r6.1,r12.2)) (
  a5x t0 t1 t2 t7 t8 m):=
 q1i 400 (by kernel_rfl)
theorem j54 (t0 t1 t2 t7 t8:AV) (m:Mem):a5x t0 t1 t2 t7 t8 m =
 Option.bind (q0E TP .add 3 t8 t7) fun x0=>
 Option.bind (q0n TP 117 t0 none (some x0)) fun x1=>
 Option.bind (q0E TP .add 3 t1 t7) fun x2=>
 Option.bind (q0n TP 117 x1 (some x2) none) fun x3=>
 Option.bind (run E0 (.fn 305) [t2,x3] m) fun r4=>
 Option.bind (unA .not r4.1) fun x5=>
 q0b x5 (
  Option.bind (q0E TP .add 3 t1 t7) fun x6=>
  Option.bind (q0n TP 117 x1 (some x6) none) fun x7=>
  Option.bind (q0n TP 117 x1 (some t1) none) fun x8=>
  Option.bind (q1p 1 x7 x8 r4.2) fun r9=>
  Option.bind (q0n TP 117 x1 (some t1) none) fun x10=>
  Option.bind (q1p 1 x10 t2 r9.2) fun r11=>
  some (x1,r11.2)) (
  a5y x1 t1 t2 t7 t8 r4.2):=
 q1i 400 (by kernel_rfl)
theorem j55 (t0 t1 t2 t7 t8:AV) (m:Mem):a5y t0 t1 t2 t7 t8 m =
 Option.bind (q0n TP 117 t0 (some t8) none) fun x0=>
 Option.bind (q1p 1 x0 t2 m) fun r1=>
 Option.bind (q0n TP 117 t0 (some t1) none) fun x2=>
 Option.bind (run E0 (.fn 306) [x2,t7] r1.2) fun r3=>
 some (t0,r3.2):=
 q1i 400 (by kernel_rfl)
theorem a9I (a0 a1 a2:AV) (m:Mem):run E0 (.fn 281) [a0,a1,a2] m =
 Option.bind (q0n TP 117 a0 (some a1) none) fun _=>
 Option.bind (q2e TP 117 a2) fun x1=>
 Option.bind (q0E TP .eql 3 x1 (.int .i64 0)) fun x2=>
 q0b x2 (
  some (a0,m)) (
  a5v a0 a1 a2 x1 m):=
 run_eq 400 rfl (by kernel_rfl) (by kernel_rfl)
def a5z (t0 t1 t2 t7:AV) (m:Mem):R:=q7s E0 282 0 ([t0,t1,t2,uu,uu,uu,uu,t7]++List.replicate 87 uu) m
def a5A (t0 t1 t2 t7 t8:AV) (m:Mem):R:=q7s E0 282 1 ([t0,t1,t2,uu,uu,uu,uu,t7,t8]++List.replicate 86 uu) m
def a5B (t0 t1 t2 t7 t8:AV) (m:Mem):R:=q7s E0 282 2 ([t0,t1,t2,uu,uu,uu,uu,t7,t8]++List.replicate 86 uu) m
def a5C (t0 t1 t2 t7 t8:AV) (m:Mem):R:=q7s E0 282 3 ([t0,t1,t2,uu,uu,uu,uu,t7,t8]++List.replicate 86 uu) m
theorem j56 (t0 t1 t2 t7:AV) (m:Mem):a5z t0 t1 t2 t7 m =
 Option.bind (q2e TP 24 t0) fun x0=>
 Option.bind (q0E TP .eql 3 t1 x0) fun x1=>
 q0b x1 (
  Option.bind (q0H 4 40 t0 t2 m) fun r2=>
  some (r2.1,r2.2)) (
  a5A t0 t1 t2 t7 x0 m):=
 q1i 400 (by kernel_rfl)
theorem j57 (t0 t1 t2 t7 t8:AV) (m:Mem):a5A t0 t1 t2 t7 t8 m =
 Option.bind (q0E TP .add 3 t8 t7) fun x0=>
 Option.bind (j0I TP 24 t0) fun x1=>
 Option.bind (q0E TP .gtr 3 x0 x1) fun x2=>
 q0b x2 (
  Option.bind (q0n TP 24 t0 none (some t1)) fun x3=>
  Option.bind (q0E TP .add 3 t8 t7) fun x4=>
  Option.bind (q0E TP .sub 3 x4 t1) fun x5=>
  Option.bind (q19 TP 24 x3 x5 m) fun r6=>
  Option.bind (q0n TP 24 r6.1 (some t1) none) fun x7=>
  Option.bind (q1p 4 x7 t2 r6.2) fun r8=>
  Option.bind (q0E TP .add 3 t1 t7) fun x9=>
  Option.bind (q0n TP 24 r6.1 (some x9) none) fun x10=>
  Option.bind (q0n TP 24 t0 (some t1) none) fun x11=>
  Option.bind (q1p 4 x10 x11 r8.2) fun r12=>
  some (r6.1,r12.2)) (
  a5B t0 t1 t2 t7 t8 m):=
 q1i 400 (by kernel_rfl)
theorem j58 (t0 t1 t2 t7 t8:AV) (m:Mem):a5B t0 t1 t2 t7 t8 m =
 Option.bind (q0E TP .add 3 t8 t7) fun x0=>
 Option.bind (q0n TP 24 t0 none (some x0)) fun x1=>
 Option.bind (q0E TP .add 3 t1 t7) fun x2=>
 Option.bind (q0n TP 24 x1 (some x2) none) fun x3=>
 Option.bind (run E0 (.fn 307) [t2,x3] m) fun r4=>
 Option.bind (unA .not r4.1) fun x5=>
 q0b x5 (
  Option.bind (q0E TP .add 3 t1 t7) fun x6=>
  Option.bind (q0n TP 24 x1 (some x6) none) fun x7=>
  Option.bind (q0n TP 24 x1 (some t1) none) fun x8=>
  Option.bind (q1p 4 x7 x8 r4.2) fun r9=>
  Option.bind (q0n TP 24 x1 (some t1) none) fun x10=>
  Option.bind (q1p 4 x10 t2 r9.2) fun r11=>
  some (x1,r11.2)) (
  a5C x1 t1 t2 t7 t8 r4.2):=
 q1i 400 (by kernel_rfl)
theorem j59 (t0 t1 t2 t7 t8:AV) (m:Mem):a5C t0 t1 t2 t7 t8 m =
 Option.bind (q0n TP 24 t0 (some t8) none) fun x0=>
 Option.bind (q1p 4 x0 t2 m) fun r1=>
 Option.bind (q0n TP 24 t0 (some t1) none) fun x2=>
 Option.bind (run E0 (.fn 308) [x2,t7] r1.2) fun r3=>
 some (t0,r3.2):=
 q1i 400 (by kernel_rfl)
theorem a9J (a0 a1 a2:AV) (m:Mem):run E0 (.fn 282) [a0,a1,a2] m =
 Option.bind (q0n TP 24 a0 (some a1) none) fun _=>
 Option.bind (q2e TP 24 a2) fun x1=>
 Option.bind (q0E TP .eql 3 x1 (.int .i64 0)) fun x2=>
 q0b x2 (
  some (a0,m)) (
  a5z a0 a1 a2 x1 m):=
 run_eq 400 rfl (by kernel_rfl) (by kernel_rfl)
def a5D (t0 t1 t2 t7:AV) (m:Mem):R:=q7s E0 283 0 ([t0,t1,t2,uu,uu,uu,uu,t7]++List.replicate 87 uu) m
def a5E (t0 t1 t2 t7 t8:AV) (m:Mem):R:=q7s E0 283 1 ([t0,t1,t2,uu,uu,uu,uu,t7,t8]++List.replicate 86 uu) m
def a5F (t0 t1 t2 t7 t8:AV) (m:Mem):R:=q7s E0 283 2 ([t0,t1,t2,uu,uu,uu,uu,t7,t8]++List.replicate 86 uu) m
def a5G (t0 t1 t2 t7 t8:AV) (m:Mem):R:=q7s E0 283 3 ([t0,t1,t2,uu,uu,uu,uu,t7,t8]++List.replicate 86 uu) m
theorem j6a (t0 t1 t2 t7:AV) (m:Mem):a5D t0 t1 t2 t7 m =
 Option.bind (q2e TP 25 t0) fun x0=>
 Option.bind (q0E TP .eql 3 t1 x0) fun x1=>
 q0b x1 (
  Option.bind (q0H 9 88 t0 t2 m) fun r2=>
  some (r2.1,r2.2)) (
  a5E t0 t1 t2 t7 x0 m):=
 q1i 400 (by kernel_rfl)
theorem j6b (t0 t1 t2 t7 t8:AV) (m:Mem):a5E t0 t1 t2 t7 t8 m =
 Option.bind (q0E TP .add 3 t8 t7) fun x0=>
 Option.bind (j0I TP 25 t0) fun x1=>
 Option.bind (q0E TP .gtr 3 x0 x1) fun x2=>
 q0b x2 (
  Option.bind (q0n TP 25 t0 none (some t1)) fun x3=>
  Option.bind (q0E TP .add 3 t8 t7) fun x4=>
  Option.bind (q0E TP .sub 3 x4 t1) fun x5=>
  Option.bind (q19 TP 25 x3 x5 m) fun r6=>
  Option.bind (q0n TP 25 r6.1 (some t1) none) fun x7=>
  Option.bind (q1p 9 x7 t2 r6.2) fun r8=>
  Option.bind (q0E TP .add 3 t1 t7) fun x9=>
  Option.bind (q0n TP 25 r6.1 (some x9) none) fun x10=>
  Option.bind (q0n TP 25 t0 (some t1) none) fun x11=>
  Option.bind (q1p 9 x10 x11 r8.2) fun r12=>
  some (r6.1,r12.2)) (
  a5F t0 t1 t2 t7 t8 m):=
 q1i 400 (by kernel_rfl)
theorem j6c (t0 t1 t2 t7 t8:AV) (m:Mem):a5F t0 t1 t2 t7 t8 m =
 Option.bind (q0E TP .add 3 t8 t7) fun x0=>
 Option.bind (q0n TP 25 t0 none (some x0)) fun x1=>
 Option.bind (q0E TP .add 3 t1 t7) fun x2=>
 Option.bind (q0n TP 25 x1 (some x2) none) fun x3=>
 Option.bind (run E0 (.fn 309) [t2,x3] m) fun r4=>
 Option.bind (unA .not r4.1) fun x5=>
 q0b x5 (
  Option.bind (q0E TP .add 3 t1 t7) fun x6=>
  Option.bind (q0n TP 25 x1 (some x6) none) fun x7=>
  Option.bind (q0n TP 25 x1 (some t1) none) fun x8=>
  Option.bind (q1p 9 x7 x8 r4.2) fun r9=>
  Option.bind (q0n TP 25 x1 (some t1) none) fun x10=>
  Option.bind (q1p 9 x10 t2 r9.2) fun r11=>
  some (x1,r11.2)) (
  a5G x1 t1 t2 t7 t8 r4.2):=
 q1i 400 (by kernel_rfl)
theorem j6d (t0 t1 t2 t7 t8:AV) (m:Mem):a5G t0 t1 t2 t7 t8 m =
 Option.bind (q0n TP 25 t0 (some t8) none) fun x0=>
 Option.bind (q1p 9 x0 t2 m) fun r1=>
 Option.bind (q0n TP 25 t0 (some t1) none) fun x2=>
 Option.bind (run E0 (.fn 310) [x2,t7] r1.2) fun r3=>
 some (t0,r3.2):=
 q1i 400 (by kernel_rfl)
theorem a9K (a0 a1 a2:AV) (m:Mem):run E0 (.fn 283) [a0,a1,a2] m =
 Option.bind (q0n TP 25 a0 (some a1) none) fun _=>
 Option.bind (q2e TP 25 a2) fun x1=>
 Option.bind (q0E TP .eql 3 x1 (.int .i64 0)) fun x2=>
 q0b x2 (
  some (a0,m)) (
  a5D a0 a1 a2 x1 m):=
 run_eq 400 rfl (by kernel_rfl) (by kernel_rfl)
def a5H (t0 t1 t2 t7:AV) (m:Mem):R:=q7s E0 284 0 ([t0,t1,t2,uu,uu,uu,uu,t7]++List.replicate 87 uu) m
def a5I (t0 t1 t2 t7 t8:AV) (m:Mem):R:=q7s E0 284 1 ([t0,t1,t2,uu,uu,uu,uu,t7,t8]++List.replicate 86 uu) m
def a5J (t0 t1 t2 t7 t8:AV) (m:Mem):R:=q7s E0 284 2 ([t0,t1,t2,uu,uu,uu,uu,t7,t8]++List.replicate 86 uu) m
def a5K (t0 t1 t2 t7 t8:AV) (m:Mem):R:=q7s E0 284 3 ([t0,t1,t2,uu,uu,uu,uu,t7,t8]++List.replicate 86 uu) m
theorem j6e (t0 t1 t2 t7:AV) (m:Mem):a5H t0 t1 t2 t7 m =
 Option.bind (q2e TP 26 t0) fun x0=>
 Option.bind (q0E TP .eql 3 t1 x0) fun x1=>
 q0b x1 (
  Option.bind (q0H 4 40 t0 t2 m) fun r2=>
  some (r2.1,r2.2)) (
  a5I t0 t1 t2 t7 x0 m):=
 q1i 400 (by kernel_rfl)
theorem j6f (t0 t1 t2 t7 t8:AV) (m:Mem):a5I t0 t1 t2 t7 t8 m =
 Option.bind (q0E TP .add 3 t8 t7) fun x0=>
 Option.bind (j0I TP 26 t0) fun x1=>
 Option.bind (q0E TP .gtr 3 x0 x1) fun x2=>
 q0b x2 (
  Option.bind (q0n TP 26 t0 none (some t1)) fun x3=>
  Option.bind (q0E TP .add 3 t8 t7) fun x4=>
  Option.bind (q0E TP .sub 3 x4 t1) fun x5=>
  Option.bind (q19 TP 26 x3 x5 m) fun r6=>
  Option.bind (q0n TP 26 r6.1 (some t1) none) fun x7=>
  Option.bind (q1p 4 x7 t2 r6.2) fun r8=>
  Option.bind (q0E TP .add 3 t1 t7) fun x9=>
  Option.bind (q0n TP 26 r6.1 (some x9) none) fun x10=>
  Option.bind (q0n TP 26 t0 (some t1) none) fun x11=>
  Option.bind (q1p 4 x10 x11 r8.2) fun r12=>
  some (r6.1,r12.2)) (
  a5J t0 t1 t2 t7 t8 m):=
 q1i 400 (by kernel_rfl)
theorem j6g (t0 t1 t2 t7 t8:AV) (m:Mem):a5J t0 t1 t2 t7 t8 m =
 Option.bind (q0E TP .add 3 t8 t7) fun x0=>
 Option.bind (q0n TP 26 t0 none (some x0)) fun x1=>
 Option.bind (q0E TP .add 3 t1 t7) fun x2=>
 Option.bind (q0n TP 26 x1 (some x2) none) fun x3=>
 Option.bind (run E0 (.fn 311) [t2,x3] m) fun r4=>
 Option.bind (unA .not r4.1) fun x5=>
 q0b x5 (
  Option.bind (q0E TP .add 3 t1 t7) fun x6=>
  Option.bind (q0n TP 26 x1 (some x6) none) fun x7=>
  Option.bind (q0n TP 26 x1 (some t1) none) fun x8=>
  Option.bind (q1p 4 x7 x8 r4.2) fun r9=>
  Option.bind (q0n TP 26 x1 (some t1) none) fun x10=>
  Option.bind (q1p 4 x10 t2 r9.2) fun r11=>
  some (x1,r11.2)) (
  a5K x1 t1 t2 t7 t8 r4.2):=
 q1i 400 (by kernel_rfl)
theorem j6h (t0 t1 t2 t7 t8:AV) (m:Mem):a5K t0 t1 t2 t7 t8 m =
 Option.bind (q0n TP 26 t0 (some t8) none) fun x0=>
 Option.bind (q1p 4 x0 t2 m) fun r1=>
 Option.bind (q0n TP 26 t0 (some t1) none) fun x2=>
 Option.bind (run E0 (.fn 312) [x2,t7] r1.2) fun r3=>
 some (t0,r3.2):=
 q1i 400 (by kernel_rfl)
theorem a9L (a0 a1 a2:AV) (m:Mem):run E0 (.fn 284) [a0,a1,a2] m =
 Option.bind (q0n TP 26 a0 (some a1) none) fun _=>
 Option.bind (q2e TP 26 a2) fun x1=>
 Option.bind (q0E TP .eql 3 x1 (.int .i64 0)) fun x2=>
 q0b x2 (
  some (a0,m)) (
  a5H a0 a1 a2 x1 m):=
 run_eq 400 rfl (by kernel_rfl) (by kernel_rfl)
end
end Go.Proofs.YtkbhcgifnnhbaaaGreatDoor
namespace Go.Abs
open Go
section
section ops
variable {P:Program} {t e:TypeId} {sz:Nat}
theorem z0M (ht:P.underlying t=some (.slice e)) (a:Option AA) (s l c:Nat) (ex:Bool):q2e P t (.sl a s l c ex)=some (.int .i64 l):=by simp[q2e,ht]
theorem a4V (ht:P.underlying t=some (.slice e)) (a:Option AA) (s l c:Nat):j0I P t (.sl a s l c true)=some (.int .i64 c):=by simp[j0I,ht]
theorem q4K (ht:P.underlying t=some (.slice e)) (hs:szT P e=some sz) {a:AA} {s l c i:Nat} {ex:Bool} {k:IntKind} (hx:sz=s\/ex=true) (hi:i<=l) :
  q0n P t (.sl (some a) s l c ex) (some (.int k (i:Int))) none=some (.sl (some ⟨a.b,a.o+i*sz⟩) sz (l-i) (c-i) ex):=by
 simp[q0n,ht,hs,hiA,loA,hi,hx]
theorem j0c (ht:P.underlying t=some (.slice e)) (hs:szT P e=some sz) {a:AA} {s l c h:Nat} {ex:Bool} {k:IntKind} (hx:sz=s\/ex=true) (hh:h<=c) :
  q0n P t (.sl (some a) s l c ex) none (some (.int k (h:Int)))=some (.sl (some a) sz h c ex):=by
 simp[q0n,ht,hs,hiA,loA,hh,hx]
theorem z5S (ht:P.underlying t=some (.slice e)) (hs:szT P e=some sz) {s:Nat} {ex:Bool} {k:IntKind}:q0n P t (.sl none s 0 0 ex) (some (.int k 0)) none=some (.sl none sz 0 0 ex):=by
 simp[q0n,ht,hs,hiA,loA]
theorem z1f {ti:TypeId} {x y z:Int} (hz:z=x+y) (h0:-9223372036854775808<=z) (h1:z<9223372036854775808):q0E P .add ti (.int .i64 x) (.int .i64 y)=some (.int .i64 z):=by
 subst hz;simp[q0E,q6i,wrap_i64 h0 h1]
theorem b1u {ti:TypeId} {x y z:Int} (hz:z=x-y) (h0:-9223372036854775808<=z) (h1:z<9223372036854775808):q0E P .sub ti (.int .i64 x) (.int .i64 y)=some (.int .i64 z):=by
 subst hz;simp[q0E,q6i,wrap_i64 h0 h1]
theorem z6Q {ti:TypeId} {k:IntKind} {x y:Int}:q0E P .eql ti (.int k x) (.int k y)=some (.bool (decide (x=y))):=by simp[q0E,q6i];rfl
theorem j6S {ti:TypeId} {k:IntKind} {x y:Int}:q0E P .gtr ti (.int k x) (.int k y)=some (.bool (decide (y<x))):=by simp[q0E,q6i]
theorem z1r {a:AA} {s l c n j:Nat} {ex:Bool} {x:AV} {m m':Mem} {cs ds:List AV} (hx:s=sz\/ex=true) (hsrc:q5Q sz x m=some (n,cs)) (hj:min n l=j) (h0:0<j) (hd:cs.take (j*sz)=ds) (h1:ds.all AV.one=true) (hst:q1l m a ds=some m') :
  q1p sz (.sl (some a) s l c ex) x m=some (.int .i64 j,m'):=by
 subst hj hd;unfold q1p;simp only[hsrc];rw[xAa (by omega)];simp[hx,h1,hst]
theorem j0g {m:Mem} {a:AA} {cs vs:List AV} (h:m.get a.b=some (.cells cs false)) (hl:a.o+vs.length<=cs.length):q1l m a vs=some (m.put a.b (some (.cells (cs.take a.o++vs++cs.drop (a.o+vs.length)) false))):=by
 simp[q1l,h,hl]
end ops
noncomputable def z13 (P:Program) (st ti sz w:Nat) (ov rot:AV->AV->Mem->R) (a0 a1 a2:AV) (m:Mem):R:=
 Option.bind (q0n P st a0 (some a1) none) fun _=>
 Option.bind (q2e P st a2) fun x1=>
 Option.bind (q0E P .eql ti x1 (.int .i64 0)) fun x2=>
 q0b x2 (some (a0,m)) (
  Option.bind (q2e P st a0) fun y0=>
  Option.bind (q0E P .eql ti a1 y0) fun y1=>
  q0b y1 (Option.bind (q0H sz w a0 a2 m) fun r2=>some (r2.1,r2.2)) (
  Option.bind (q0E P .add ti y0 x1) fun z0=>
  Option.bind (j0I P st a0) fun z1=>
  Option.bind (q0E P .gtr ti z0 z1) fun z2=>
  q0b z2 (
   Option.bind (q0n P st a0 none (some a1)) fun x3=>
   Option.bind (q0E P .add ti y0 x1) fun x4=>
   Option.bind (q0E P .sub ti x4 a1) fun x5=>
   Option.bind (q19 P st x3 x5 m) fun r6=>
   Option.bind (q0n P st r6.1 (some a1) none) fun x7=>
   Option.bind (q1p sz x7 a2 r6.2) fun r8=>
   Option.bind (q0E P .add ti a1 x1) fun x9=>
   Option.bind (q0n P st r6.1 (some x9) none) fun x10=>
   Option.bind (q0n P st a0 (some a1) none) fun x11=>
   Option.bind (q1p sz x10 x11 r8.2) fun r12=>
   some (r6.1,r12.2)) (
   Option.bind (q0E P .add ti y0 x1) fun u0=>
   Option.bind (q0n P st a0 none (some u0)) fun u1=>
   Option.bind (q0E P .add ti a1 x1) fun u2=>
   Option.bind (q0n P st u1 (some u2) none) fun u3=>
   Option.bind (ov a2 u3 m) fun r4=>
   Option.bind (unA .not r4.1) fun u5=>
   q0b u5 (
   Option.bind (q0E P .add ti a1 x1) fun u6=>
   Option.bind (q0n P st u1 (some u6) none) fun u7=>
   Option.bind (q0n P st u1 (some a1) none) fun u8=>
   Option.bind (q1p sz u7 u8 r4.2) fun r9=>
   Option.bind (q0n P st u1 (some a1) none) fun u10=>
   Option.bind (q1p sz u10 a2 r9.2) fun r11=>
   some (u1,r11.2)) (
   Option.bind (q0n P st u1 (some y0) none) fun v0=>
   Option.bind (q1p sz v0 a2 r4.2) fun s1=>
   Option.bind (q0n P st u1 (some a1) none) fun v2=>
   Option.bind (rot v2 x1 s1.2) fun s3=>
   some (u1,s3.2)))))
theorem z07 {sz:Nat} {a:AA} {s l c:Nat} {ex:Bool} {m:Mem} {cs:List AV} {ro:Bool} (hx:s=sz\/ex=true) (h:m.get a.b=some (.cells cs ro)) (hl:a.o+l*sz<=cs.length) :
  q5Q sz (.sl (some a) s l c ex) m=some (l,(cs.drop a.o).take (l*sz)):=by
 have hld:q0C m a (l*sz)=some ((cs.drop a.o).take (l*sz)):=by simp[q0C,h,hl]
 unfold q5Q;split
 ·simp_all
 ·rename_i a' s' l' c' ex' e;cases e;simp[hx,hld]
 ·simp_all
 ·rename_i h1 h2 h3;exact absurd rfl (h2 a s l c ex)
theorem z5U {sz k:Nat} {a:AA} {s l c:Nat} {ex:Bool} {m:Mem} {new:List AV} (h:q5Q sz (.sl (some a) s l c ex) m=some (k,new)):new.length=k*sz:=by
 have hk:=j0d h;subst hk;unfold q5Q at h;simp only at h;split at h
 ·obtain⟨cs,h1,e⟩:=xoe.1 h;cases e;obtain⟨ds,ro,_,h2,rfl⟩:=q2m h1;simp;omega
 ·cases h
theorem q5I {E:Env} {f st ti sz w e:Nat} {ov rot:AV->AV->Mem->R} {zs:List AV} (ht:E.P.underlying st=some (.slice e)) (hs:szT E.P e=some sz) (hw:q5Y E.P e=some w) (hz:q2Y E.P e=some zs)
  (hov:∀(v s:AV) (m:Mem),ov v s m=q0S [v,s] m) (heq:∀a0 a1 a2 m,run E (.fn f) [a0,a1,a2] m=z13 E.P st ti sz w ov rot a0 a1 a2 m):q4U E f st sz w zs where
 fin:=by
  intro s x n k new sa sz0 len cap ex xa sx cx exx m r hsE hxE hsrc hk hn1 hcase happ;subst hsE hxE;rw[heq];unfold z13;have e0:∃y,q0n E.P st (.sl sa sz0 len cap ex) (some (.int .i64 len)) none=some y:=by
   rcases hcase with ⟨a,rfl,hx⟩|⟨rfl,rfl,rfl⟩
   ·exact⟨_,q4K ht hs (hx.imp Eq.symm id) (xnr _)⟩
   ·exact⟨_,by simpa using z5S (s:=sz0) (ex:=ex) (k:=.i64) ht hs⟩
  obtain⟨y,e0⟩:=e0;simp only[e0,xAr,z0M ht,z6Q,df (show ¬(k:Int)=0 by omega),q0b,xAn,happ]
 room:=by
  intro a len cap i k xa sx cx exx cs old new m ha hfit hold hone hx hne hsrc hn1 hk hsz hw0 hzs hil hby hroom;have hb:len+k<=140737488355328:=xnt0 (xEo _ hw0) hby
  have hnl:=z5U hsrc;have hmul:∀x y:Nat,x<=y->x*sz<=y*sz:=fun x y h=>xAo _ h
  have hlc:=hmul len cap (by omega);have hlk:=hmul (len+k) cap hroom;have hil2:=hmul i len (by omega);have hadd:∀x y:Nat,(x+y)*sz=x*sz+y*sz:=fun x y=>xCs _ _ _
  have hsub:(len-i)*sz=len*sz-i*sz:=Nat.mul_sub_right_distrib _ _ _;have hik:=hadd i k;have hlks:=hadd len k;have hol:old.length=len*sz:=by rw[<-hold,xlt0,xld0];omega
  have hiksz:0<k*sz:=Nat.mul_pos hk hsz;rw[heq];unfold z13;have e1:=q4K (a:=a) (s:=sz) (c:=cap) (ex:=true) (k:=.i64) ht hs (.inl rfl) (show i<=len by omega);have e2:=j0c (a:=a) (s:=sz) (l:=len) (ex:=true) (k:=.i64) ht hs (.inl rfl) hroom;have e3:=q4K (a:=a) (s:=sz) (c:=cap) (ex:=true) (k:=.i64) ht hs (.inl rfl) (show i+k<=len+k by omega);have e4:=q4K (a:=a) (s:=sz) (c:=cap) (ex:=true) (k:=.i64) ht hs (.inl rfl) (show i<=len+k by omega)
  have a1:q0E E.P .add ti (.int .i64 (len:Int)) (.int .i64 (k:Int))=some (.int .i64 ((len+k:Nat):Int)):=z1f (by simp) (by omega) (by omega);have a2:q0E E.P .add ti (.int .i64 (i:Int)) (.int .i64 (k:Int))=some (.int .i64 ((i+k:Nat):Int)):=z1f (by simp) (by omega) (by omega);obtain⟨ds,hx⟩:=hx;have hcne:cs≠[]:=by rintro rfl;simp at hfit;omega
  have hovr:ov (.sl (some xa) sx k cx exx) (.sl (some ⟨a.b,a.o+(i+k)*sz⟩) sz (len+k-(i+k)) (cap-(i+k)) true) m=some (.bool false,m):=by
   rw[hov];obtain⟨c0,cs0,rfl⟩:=List.exists_cons_of_ne_nil hcne;simp only[q0S,xAa hne,hx,ha]
  have hsr1:=z07 (a:=⟨a.b,a.o+i*sz⟩) (s:=sz) (l:=len+k-i) (c:=cap-i) (ex:=true) (.inl rfl) ha (by
   have:=hadd i (len+k-i);rw[show i+(len+k-i)=len+k by omega]at this;simp only;omega)
  have hmove:((cs.drop (a.o+i*sz)).take ((len+k-i)*sz)).take ((len-i)*sz)=old.drop (i*sz):=by
   rw[xEw,xCr (hmul _ _ (by omega)),<-hold,List.drop_take,xEx,hsub]
  have hst1:=j0g (a:=⟨a.b,a.o+(i+k)*sz⟩) (vs:=old.drop (i*sz)) ha (by simp only[xld0,hol];omega);have hc1:=z1r (a:=⟨a.b,a.o+(i+k)*sz⟩) (s:=sz) (l:=len+k-(i+k)) (c:=cap-(i+k)) (ex:=true) (.inl rfl) hsr1 (j:=len-i) (by omega) (by omega) hmove (by
   rw[xBd]at hone⊢;exact fun v hv=>hone v (xEj hv)) hst1
  generalize hm1:m.put a.b (some (.cells (cs.take (a.o+(i+k)*sz)++old.drop (i*sz)++cs.drop (a.o+(i+k)*sz+(old.drop (i*sz)).length)) false))=m1 at hc1;generalize hcs1:cs.take (a.o+(i+k)*sz)++old.drop (i*sz)++cs.drop (a.o+(i+k)*sz+(old.drop (i*sz)).length)=cs1 at hm1;have hal:=Mem.q0u ha;have ha1:m1.get a.b=some (.cells cs1 false):=by rw[<-hm1,Mem.get_put,xAb ⟨rfl,hal⟩]
  have hl1:cs1.length=cs.length:=by rw[<-hcs1];simp only[xla0,xlt0,xld0,hol];omega
  have hsr2:q5Q sz (.sl (some xa) sx k cx exx) m1=some (k,new):=by rw[<-hm1,j0e hne];exact hsrc
  have hst2:=j0g (a:=⟨a.b,a.o+i*sz⟩) (vs:=new) ha1 (by simp only[hnl,hl1];omega);have hc2:=z1r (a:=⟨a.b,a.o+i*sz⟩) (s:=sz) (l:=len+k-i) (c:=cap-i) (ex:=true) (.inl rfl) hsr2 (j:=k) (by omega) hk (xtl (by omega)) hn1 hst2;simp only[e1,xAr,z0M ht,a4V ht,z6Q,j6S,df (show ¬(k:Int)=0 by omega),df (show ¬(i:Int)=(len:Int) by omega),q0b,a1,a2,df (show ¬(cap:Int)<((len+k:Nat):Int) by omega),e2,e3,e4,hovr,unA,xbf,hc1,hc2]
  refine⟨_,rfl,by rw[<-hm1];rfl,fun b hb=>?_,?_⟩
  ·rw[Mem.get_put,xAa (fun h=>hb h.1),<-hm1,Mem.get_put,xAa (fun h=>hb h.1)]
  ·rw[Mem.get_put,xAb ⟨rfl,by rw[<-hm1];exact hal⟩];congr 2;have p1:cs1.take (a.o+i*sz)=cs.take (a.o+i*sz):=by
    rw[<-hcs1,xAg,xCf (by simp;omega),xEw,xCr (by omega)]
   have p2:cs1.drop (a.o+i*sz+new.length)=old.drop (i*sz)++cs.drop (a.o+(len+k)*sz):=by
    rw[<-hcs1,hnl,xAg,List.drop_append];have hlen:(cs.take (a.o+(i+k)*sz)).length=a.o+(i+k)*sz:=by simp;omega
    rw[xDd (by rw[hlen];omega),xAm,hlen,show a.o+i*sz+k*sz-(a.o+(i+k)*sz)=0 by omega,xAp];congr 2;simp only[xld0,hol];omega
   rw[p1,p2];simp only[xAg]
 grow:=by
  intro a len cap i k xa sx cx exx cs old new m ha hfit hold hone hx hne hsrc hn1 hk hsz hw0 hzs hil hby hlcap hroom;have hb:len+k<=140737488355328:=xnt0 (xEo _ hw0) hby
  have hnl:=z5U hsrc;have hmul:∀x y:Nat,x<=y->x*sz<=y*sz:=fun x y h=>xAo _ h
  have hlc:=hmul len cap (by omega);have hil2:=hmul i len (by omega);have hadd:∀x y:Nat,(x+y)*sz=x*sz+y*sz:=fun x y=>xCs _ _ _
  have hik:=hadd i k;have hlks:=hadd len k;have hsub:(len-i)*sz=len*sz-i*sz:=Nat.mul_sub_right_distrib _ _ _;have hsub2:(len+k-i)*sz=(len+k)*sz-i*sz:=Nat.mul_sub_right_distrib _ _ _;have hol:old.length=len*sz:=by rw[<-hold,xlt0,xld0];omega
  have hiksz:0<k*sz:=Nat.mul_pos hk hsz;rw[heq];unfold z13;have e1:=q4K (a:=a) (s:=sz) (c:=cap) (ex:=true) (k:=.i64) ht hs (.inl rfl) (show i<=len by omega);have e2:=j0c (a:=a) (s:=sz) (l:=len) (ex:=true) (k:=.i64) ht hs (.inl rfl) (show i<=cap by omega);have a1:q0E E.P .add ti (.int .i64 (len:Int)) (.int .i64 (k:Int))=some (.int .i64 ((len+k:Nat):Int)):=z1f (by simp) (by omega) (by omega)
  have a2:q0E E.P .add ti (.int .i64 (i:Int)) (.int .i64 (k:Int))=some (.int .i64 ((i+k:Nat):Int)):=z1f (by simp) (by omega) (by omega);have a3:q0E E.P .sub ti (.int .i64 ((len+k:Nat):Int)) (.int .i64 (i:Int))=some (.int .i64 ((len+k-i:Nat):Int)):=b1u (by omega) (by omega) (by omega);have hal:=Mem.q0u ha;have hold2:(cs.drop a.o).take (i*sz)=old.take (i*sz):=by rw[<-hold,xEw,xCr hil2]
  have hz1:q19 E.P st (.sl (some a) sz i cap true) (.int .i64 ((len+k-i:Nat):Int)) m=some (.sl (some ⟨m.next,0⟩) sz (len+k) (len+k) false,m.alloc (old.take (i*sz)++(List.replicate (len+k-i) zs).flatten)):=by
   simp only[q19,ht,hz,hs,hw,xAr,xCg];rw[xAb ⟨by omega,hzs,hsz,hw0,by omega,by omega,by omega,by rw[show i+(len+k-i)=len+k by omega];exact hby⟩];simp only[q0C,ha];rw[xAb (by omega),hold2];simp only[xom];rw[show i+(len+k-i)=len+k by omega]
  generalize hrow:old.take (i*sz)++(List.replicate (len+k-i) zs).flatten=row at hz1;have hto:(old.take (i*sz)).length=i*sz:=by rw[xlt0];omega
  have hrl:row.length=(len+k)*sz:=by rw[<-hrow];simp only[xla0,List.length_flatten,List.map_replicate,List.sum_replicate_nat,hzs,hto];omega
  have hr0:(m.alloc row).get m.next=some (.cells row false):=by rw[Mem.q3I,xAb rfl]
  have e5:=q4K (a:=⟨m.next,0⟩) (s:=sz) (c:=len+k) (ex:=false) (k:=.i64) ht hs (.inl rfl) (show i<=len+k by omega)
  have e6:=q4K (a:=⟨m.next,0⟩) (s:=sz) (c:=len+k) (ex:=false) (k:=.i64) ht hs (.inl rfl) (show i+k<=len+k by omega)
  simp only[xnz]at e5 e6;obtain⟨ds,hx⟩:=hx;have hxl:=Mem.q0u hx;have hsr1:q5Q sz (.sl (some xa) sx k cx exx) (m.alloc row)=some (k,new):=by
   rw[<-hsrc];unfold q5Q q0C;simp only[Mem.q3I,xAa (show ¬xa.b=m.next by omega)]
  have hst1:=j0g (a:=⟨m.next,i*sz⟩) (vs:=new) hr0 (by simp only[hnl,hrl];omega)
  have hc1:=z1r (a:=⟨m.next,i*sz⟩) (s:=sz) (l:=len+k-i) (c:=len+k-i) (ex:=false) (.inl rfl) hsr1 (j:=k) (by omega) hk (xtl (by omega)) hn1 hst1
  generalize hcs1:row.take (i*sz)++new++row.drop (i*sz+new.length)=row1 at hc1;generalize hm1:(m.alloc row).put m.next (some (.cells row1 false))=m1 at hc1
  have hm1n:m1.next=m.next+1:=by rw[<-hm1];rfl
  have hr1:m1.get m.next=some (.cells row1 false):=by rw[<-hm1,Mem.get_put,xAb ⟨rfl,by simp⟩]
  have hoth:∀b,b≠m.next->m1.get b=m.get b:=fun b hb=>by rw[<-hm1,Mem.get_put,xAa (fun h=>hb h.1),Mem.q3I,xAa hb]
  have ha1:m1.get a.b=some (.cells cs false):=by rw[hoth _ (by omega)];exact ha
  have hl1:row1.length=(len+k)*sz:=by rw[<-hcs1];simp only[xla0,xlt0,xld0,hrl,hnl];omega
  have hsr2:=z07 (a:=⟨a.b,a.o+i*sz⟩) (s:=sz) (l:=len-i) (c:=cap-i) (ex:=true) (.inl rfl) ha1 (by simp only[hsub];omega);have hmove:((cs.drop (a.o+i*sz)).take ((len-i)*sz)).take ((len-i)*sz)=old.drop (i*sz):=by
   rw[xEw,Nat.min_self,<-hold,List.drop_take,xEx,hsub]
  have hst2:=j0g (a:=⟨m.next,(i+k)*sz⟩) (vs:=old.drop (i*sz)) hr1 (by simp only[xld0,hol,hl1];omega)
  have hc2:=z1r (a:=⟨m.next,(i+k)*sz⟩) (s:=sz) (l:=len+k-(i+k)) (c:=len+k-(i+k)) (ex:=false) (.inl rfl) hsr2 (j:=len-i) (by omega) (by omega) hmove (by
   rw[xBd]at hone⊢;exact fun v hv=>hone v (xEj hv)) hst2
  simp only[e1,xAr,z0M ht,a4V ht,z6Q,j6S,df (show ¬(k:Int)=0 by omega),df (show ¬(i:Int)=(len:Int) by omega),q0b,a1,a2,a3,dt (show (cap:Int)<((len+k:Nat):Int) by omega),e2,hz1,e5,e6,hc1,hc2];refine⟨_,rfl,by simp[hm1n],fun b hb=>?_,?_⟩
  ·rw[Mem.get_put,xAa (fun h=>hb h.1)];exact hoth b hb
  ·rw[Mem.get_put,xAb ⟨rfl,by omega⟩];congr 2;have hri:row.take (i*sz)=old.take (i*sz):=by rw[<-hrow,xCf (by omega),xEw,Nat.min_self]
   have p1:row1.take ((i+k)*sz)=old.take (i*sz)++new:=by
    rw[<-hcs1,hri,xCf (by simp only[xla0,hto,hnl];omega),xtl (by simp only[xla0,hto,hnl];omega)]
   have p3:row1.drop ((i+k)*sz+(old.drop (i*sz)).length)=[]:=xDd (by simp only[xld0,hol,hl1];omega);rw[p1,p3,xBe]
end
end Go.Abs
namespace Go.Proofs.YtkbhcgifnnhbaaaGreatDoor
open Go Go.Abs
set_option maxRecDepth 4000
section
theorem b4x:q4U E0 257 118 1 8 ((q2Y TP 27).getD []):=
 q5I (E:=E0) (ti:=3) (e:=27) (ov:=fun v s m=>run E0 (.fn 295) [v,s] m) (rot:=fun v k m=>run E0 (.fn 296) [v,k] m) (by kernel_rfl) (by kernel_rfl) (by kernel_rfl) (by kernel_rfl)
  (fun v s m=>q1x (E:=E0) (h:=q0S) rfl [v,s] m) (fun a0 a1 a2 m=>by
   simp only[a9G,j5U,j5V,j5W,j5X];rfl)
theorem b4y:q4U E0 258 23 4 48 ((q2Y TP 141).getD []):=
 q5I (E:=E0) (ti:=3) (e:=141) (ov:=fun v s m=>run E0 (.fn 297) [v,s] m) (rot:=fun v k m=>run E0 (.fn 298) [v,k] m) (by kernel_rfl) (by kernel_rfl) (by kernel_rfl) (by kernel_rfl)
  (fun v s m=>q1x (E:=E0) (h:=q0S) rfl [v,s] m) (fun a0 a1 a2 m=>by
   simp only[a9H,j5Y,j5Z,j50,j51];rfl)
theorem b4z:q4U E0 281 117 1 16 ((q2Y TP 9).getD []):=
 q5I (E:=E0) (ti:=3) (e:=9) (ov:=fun v s m=>run E0 (.fn 305) [v,s] m) (rot:=fun v k m=>run E0 (.fn 306) [v,k] m) (by kernel_rfl) (by kernel_rfl) (by kernel_rfl) (by kernel_rfl)
  (fun v s m=>q1x (E:=E0) (h:=q0S) rfl [v,s] m) (fun a0 a1 a2 m=>by
   simp only[a9I,j52,j53,j54,j55];rfl)
theorem b4A:q4U E0 282 24 4 40 ((q2Y TP 153).getD []):=
 q5I (E:=E0) (ti:=3) (e:=153) (ov:=fun v s m=>run E0 (.fn 307) [v,s] m) (rot:=fun v k m=>run E0 (.fn 308) [v,k] m) (by kernel_rfl) (by kernel_rfl) (by kernel_rfl) (by kernel_rfl)
  (fun v s m=>q1x (E:=E0) (h:=q0S) rfl [v,s] m) (fun a0 a1 a2 m=>by
   simp only[a9J,j56,j57,j58,j59];rfl)
theorem b4B:q4U E0 283 25 9 88 ((q2Y TP 158).getD []):=
 q5I (E:=E0) (ti:=3) (e:=158) (ov:=fun v s m=>run E0 (.fn 309) [v,s] m) (rot:=fun v k m=>run E0 (.fn 310) [v,k] m) (by kernel_rfl) (by kernel_rfl) (by kernel_rfl) (by kernel_rfl)
  (fun v s m=>q1x (E:=E0) (h:=q0S) rfl [v,s] m) (fun a0 a1 a2 m=>by
   simp only[a9K,j6a,j6b,j6c,j6d];rfl)
theorem b4C:q4U E0 284 26 4 40 ((q2Y TP 162).getD []):=
 q5I (E:=E0) (ti:=3) (e:=162) (ov:=fun v s m=>run E0 (.fn 311) [v,s] m) (rot:=fun v k m=>run E0 (.fn 312) [v,k] m) (by kernel_rfl) (by kernel_rfl) (by kernel_rfl) (by kernel_rfl)
  (fun v s m=>q1x (E:=E0) (h:=q0S) rfl [v,s] m) (fun a0 a1 a2 m=>by
   simp only[a9L,j6e,j6f,j6g,j6h];rfl)
end
section
noncomputable def H (f:FuncId):Option (List AV->Mem->R):=
 match f with
 | 295=>some q0S
 | 297=>some q0S
 | 305=>some q0S
 | 307=>some q0S
 | 309=>some q0S
 | 311=>some q0S
 | 317=>some q6m
 | 321=>some z1a
 | 257=>some (a6B TP 118)
 | 258=>some (a6B TP 23)
 | 281=>some (a6B TP 117)
 | 282=>some (a6B TP 24)
 | 283=>some (a6B TP 25)
 | 284=>some (a6B TP 26)
 | _=>none
noncomputable def E:Env:=j4s TP hints H
theorem b8n:q07 E:=z88 (by kernel_rfl) 376 (fun f h=>by
  unfold hints;rw[xAu (by show 376<=f;exact h)];rfl) looks (fun f h e=>by
  unfold H at e;split at e
  ·have e1:=xsj e;subst e1;exact q1f (P:=TP) (fn:=Tryz.f295) (st:=118) (tr:=4) (e:=27) (sz:=1) Tryz.func295 (by kernel_rfl) (by kernel_rfl) (by kernel_rfl) (by kernel_rfl) (by kernel_rfl) (by kernel_rfl)
  ·have e1:=xsj e;subst e1;exact q1f (P:=TP) (fn:=Tryz.f297) (st:=23) (tr:=4) (e:=141) (sz:=4) Tryz.func297 (by kernel_rfl) (by kernel_rfl) (by kernel_rfl) (by kernel_rfl) (by kernel_rfl) (by kernel_rfl)
  ·have e1:=xsj e;subst e1;exact q1f (P:=TP) (fn:=Tryz.f305) (st:=117) (tr:=4) (e:=9) (sz:=1) Tryz.func305 (by kernel_rfl) (by kernel_rfl) (by kernel_rfl) (by kernel_rfl) (by kernel_rfl) (by kernel_rfl)
  ·have e1:=xsj e;subst e1;exact q1f (P:=TP) (fn:=Tryz.f307) (st:=24) (tr:=4) (e:=153) (sz:=4) Tryz.func307 (by kernel_rfl) (by kernel_rfl) (by kernel_rfl) (by kernel_rfl) (by kernel_rfl) (by kernel_rfl)
  ·have e1:=xsj e;subst e1;exact q1f (P:=TP) (fn:=Tryz.f309) (st:=25) (tr:=4) (e:=158) (sz:=9) Tryz.func309 (by kernel_rfl) (by kernel_rfl) (by kernel_rfl) (by kernel_rfl) (by kernel_rfl) (by kernel_rfl)
  ·have e1:=xsj e;subst e1;exact q1f (P:=TP) (fn:=Tryz.f311) (st:=26) (tr:=4) (e:=162) (sz:=4) Tryz.func311 (by kernel_rfl) (by kernel_rfl) (by kernel_rfl) (by kernel_rfl) (by kernel_rfl) (by kernel_rfl)
  ·have e1:=xsj e;subst e1;exact z8G (P:=TP) (fn:=Tryz.f317) Tryz.func317 (by kernel_rfl) (by kernel_rfl) (by kernel_rfl) (by kernel_rfl)
  ·have e1:=xsj e;subst e1;exact j0i (P:=TP) (fn:=Tryz.f321) Tryz.func321 (by kernel_rfl) (by kernel_rfl) (by kernel_rfl) (by kernel_rfl)
  ·have e1:=xsj e;subst e1;exact q4k (E:=E0) j0q (st:=118) (e:=27) (by kernel_rfl) (by kernel_rfl) (by kernel_rfl) (by kernel_rfl) ⟨Tryz.f257,Tryz.func257,by kernel_rfl,by decide +kernel⟩ b4x
  ·have e1:=xsj e;subst e1;exact q4k (E:=E0) j0q (st:=23) (e:=141) (by kernel_rfl) (by kernel_rfl) (by kernel_rfl) (by kernel_rfl) ⟨Tryz.f258,Tryz.func258,by kernel_rfl,by decide +kernel⟩ b4y
  ·have e1:=xsj e;subst e1;exact q4k (E:=E0) j0q (st:=117) (e:=9) (by kernel_rfl) (by kernel_rfl) (by kernel_rfl) (by kernel_rfl) ⟨Tryz.f281,Tryz.func281,by kernel_rfl,by decide +kernel⟩ b4z
  ·have e1:=xsj e;subst e1;exact q4k (E:=E0) j0q (st:=24) (e:=153) (by kernel_rfl) (by kernel_rfl) (by kernel_rfl) (by kernel_rfl) ⟨Tryz.f282,Tryz.func282,by kernel_rfl,by decide +kernel⟩ b4A
  ·have e1:=xsj e;subst e1;exact q4k (E:=E0) j0q (st:=25) (e:=158) (by kernel_rfl) (by kernel_rfl) (by kernel_rfl) (by kernel_rfl) ⟨Tryz.f283,Tryz.func283,by kernel_rfl,by decide +kernel⟩ b4B
  ·have e1:=xsj e;subst e1;exact q4k (E:=E0) j0q (st:=26) (e:=162) (by kernel_rfl) (by kernel_rfl) (by kernel_rfl) (by kernel_rfl) ⟨Tryz.f284,Tryz.func284,by kernel_rfl,by decide +kernel⟩ b4C
  ·cases e)
end
end Go.Proofs.YtkbhcgifnnhbaaaGreatDoor
namespace Go.Abs
open Go
noncomputable section
inductive CM where
 |ret (v:AV)
 |fail
 |resC (P:Program) (rs:List ResultVar) (vs:List AV)
 |pu (e:Option AV) (K:AV->CM)
 |rm (e:Mem->Option AV) (K:AV->CM)
 |al (e:Option (Blk×(Nat->AV))) (K:AV->CM)
 |ef (e:Mem->R) (K:AV->CM)
 |st (e:Mem->Option Mem) (K:CM)
 |call (f:Nat) (az:List AV) (K:AV->CM)
 |callv (fv:AV) (az:List AV) (K:AV->CM)
 |ifv (v:AV) (x y:CM)
 |cond (v:AV) (x y:CM)
 |memo (K:Mem->CM)
 |chk (e:Option AV) (v:AV) (K:CM)
 |go (key:Nat) (ts:List AV)
 |rng (md:Md) (fv:AV) (l:q91) (key:Nat) (ts:List AV)
 |nxt (x:AV) (K:AV->CM)
structure Do where
 call:q04
 gor:Nat->List AV->Mem->R
 afr:Nat->Option Jmp->List AV->Mem->R
def q8J {α:Type} (e:Option α) (K:α->R):R:=Option.rec (motive:=fun _=>R) none K e
def q0a (d:Do) (c:CM):Mem->R:=
 CM.rec (motive:=fun _=>Mem->R)
  (fun v m=>some (v,m))
  (fun _=>none)
  (fun P rs vs m=>Option.rec (motive:=fun _=>R) none (fun vs=>some (q0T vs,m)) (q0P P rs vs m))
  (fun e _ ih m=>Option.rec (motive:=fun _=>R) none (fun v=>ih v m) e)
  (fun e _ ih m=>Option.rec (motive:=fun _=>R) none (fun v=>ih v m) (e m))
  (fun e _ ih m=>Option.rec (motive:=fun _=>R) none (fun c=>ih (c.2 m.next) (m.lay c.1)) e)
  (fun e _ ih m=>Option.rec (motive:=fun _=>R) none (fun r=>ih r.1 r.2) (e m))
  (fun e _ ih m=>Option.rec (motive:=fun _=>R) none (fun m=>ih m) (e m))
  (fun f az _ ih m=>Option.rec (motive:=fun _=>R) none (fun r=>ih r.1 r.2) (d.call (.fn f) az m))
  (fun fv az _ ih m=>Option.rec (motive:=fun _=>R) none (fun r=>ih r.1 r.2) (q1m d.call fv az m))
  (fun v _ _ x y m=>ifV v (x m) (y m))
  (fun v _ _ x y m=>q0b v (x m) (y m))
  (fun _ ih m=>ih m m)
  (fun e v _ ih m=>if e=some v then ih m else none)
  (fun k ts m=>d.gor k ts m)
  (fun md fv l k ts m=>q2E d.call md fv l m fun j m=>d.afr k j ts m)
  (fun x _ ih m=>nextR x m ih)
  c
section
variable {d:Do} {m:Mem}
theorem j0X (v:AV):q0a d (.ret v) m=some (v,m):=rfl
theorem q9o (P:Program) (rs:List ResultVar) (vs:List AV):q0a d (.resC P rs vs) m=(q0P P rs vs m).bind fun vs=>some (q0T vs,m):=by
 cases h:q0P P rs vs m<;>simp[q0a,h]
theorem q3K (e:Option AV) (K:AV->CM):q0a d (.pu e K) m=e.bind fun v=>q0a d (K v) m:=by cases e<;>rfl
theorem q9p (e:Mem->Option AV) (K:AV->CM):q0a d (.rm e K) m=(e m).bind fun v=>q0a d (K v) m:=by
 show Option.rec (motive:=fun _=>R) none (fun v=>q0a d (K v) m) (e m)=_
 cases e m<;>rfl
theorem z4U (e:Option (Blk×(Nat->AV))) (K:AV->CM):q0a d (.al e K) m=e.bind fun c=>q0a d (K (c.2 m.next)) (m.lay c.1):=by cases e<;>rfl
theorem z4V (e:Mem->R) (K:AV->CM):q0a d (.ef e K) m=(e m).bind fun r=>q0a d (K r.1) r.2:=by
 show Option.rec (motive:=fun _=>R) none (fun r=>q0a d (K r.1) r.2) (e m)=_
 cases e m<;>rfl
theorem z4X (e:Mem->Option Mem) (K:CM):q0a d (.st e K) m=(e m).bind fun m=>q0a d K m:=by
 show Option.rec (motive:=fun _=>R) none (fun m=>q0a d K m) (e m)=_
 cases e m<;>rfl
theorem q9l (f:Nat) (az:List AV) (K:AV->CM):q0a d (.call f az K) m=(d.call (.fn f) az m).bind fun r=>q0a d (K r.1) r.2:=by
 show Option.rec (motive:=fun _=>R) none (fun r=>q0a d (K r.1) r.2) (d.call (.fn f) az m)=_
 cases d.call (.fn f) az m<;>rfl
theorem q7Q (fv:AV) (az:List AV) (K:AV->CM):q0a d (.callv fv az K) m=(q1m d.call fv az m).bind fun r=>q0a d (K r.1) r.2:=by
 show Option.rec (motive:=fun _=>R) none (fun r=>q0a d (K r.1) r.2) (q1m d.call fv az m)=_
 cases q1m d.call fv az m<;>rfl
theorem q7v (v:AV) (x y:CM):q0a d (.ifv v x y) m=ifV v (q0a d x m) (q0a d y m):=rfl
theorem q9m (v:AV) (x y:CM):q0a d (.cond v x y) m=q0b v (q0a d x m) (q0a d y m):=rfl
theorem q6c (K:Mem->CM):q0a d (.memo K) m=q0a d (K m) m:=rfl
theorem q7u (e:Option AV) (v:AV) (K:CM):q0a d (.chk e v K) m=if e=some v then q0a d K m else none:=rfl
theorem z4W (k:Nat) (ts:List AV):q0a d (.go k ts) m=d.gor k ts m:=rfl
theorem j0Y (md:Md) (fv:AV) (l:q91) (k:Nat) (ts:List AV):q0a d (.rng md fv l k ts) m=q2E d.call md fv l m fun j m=>d.afr k j ts m:=rfl
theorem j0W (x:AV) (K:AV->CM):q0a d (.nxt x K) m=nextR x m fun v m=>q0a d (K v) m:=rfl
end
theorem Le.q8J {α:Type} {f g:Option α} {F G:α->R} (h:Le f g) (hF:∀x,Le (F x) (G x)):Le (q8J f F) (q8J g G):=by
 have e:∀(o:Option α) (K:α->R),Abs.q8J o K=o.bind K:=fun o K=>by cases o<;>rfl
 rw[e,e];exact h.bind hF
abbrev p1 {α:Type} (F:α->Option AV) (x:α):Option AV:=(some x).bind F
abbrev p2 (F:AV->AV->Option AV) (x y:AV):Option AV:=(some x).bind fun a=>(some y).bind fun b=>F a b
abbrev p3 (F:AV->AV->AV->Option AV) (x y z:AV):Option AV:=(some x).bind fun a=>(some y).bind fun b=>(some z).bind fun c=>F a b c
abbrev q1 (F:AV->Mem->Option AV) (x:AV) (m:Mem):Option AV:=(some x).bind fun a=>F a m
abbrev q2 (F:AV->AV->Mem->Option AV) (x y:AV) (m:Mem):Option AV:=(some x).bind fun a=>(some y).bind fun b=>F a b m
abbrev apE (k w:Nat) (s x:AV) (m:Mem):R:=(some (k,w)).bind fun nw=>q0H nw.1 nw.2 s x m
structure Do.Le (d e:Do):Prop where
 call:∀t az m,Abs.Le (d.call t az m) (e.call t az m)
 gor:∀k ts m,Abs.Le (d.gor k ts m) (e.gor k ts m)
 afr:∀k j ts m,Abs.Le (d.afr k j ts m) (e.afr k j ts m)
theorem Le.q2E {c c':q04} (h:∀f a m,Le (c f a m) (c' f a m)) (md:Md) (fv:AV) (l:q91) (m:Mem) {go go':Option Jmp->Mem->R} (hg:∀j m,Le (go j m) (go' j m)) :
  Le (Abs.q2E c md fv l m go) (Abs.q2E c' md fv l m go'):=by
 unfold Abs.q2E;split
 ·split
  ·refine .bind (h _ _ _) fun r=>?_
   unfold q3p;split
   ·split
    ·exact .none _
    ·exact hg _ _
   ·exact .none _
  ·exact .none _
 ·exact .none _
theorem Le.q7x {M n:Nat} {f g:Nat->R} (h:∀i,Le (f i) (g i)):Le (Abs.q7x M n f) (Abs.q7x M n g):=fun r hr=>by
 rw[<-hr];refine(q6e fun i hi=>?_).symm
 obtain⟨mi,h1,_⟩:=q5J hr i hi;rw[h1];exact(h i _ h1).symm
theorem Le.nextR (x:AV) (m:Mem) {K K':AV->Mem->R} (hK:∀v m,Le (K v m) (K' v m)):Le (Abs.nextR x m K) (Abs.nextR x m K'):=by
 unfold Abs.nextR;split
 ·split
  ·split
   ·split
    ·split
     ·exact hK _ _
     ·exact .q7x fun i=>hK _ _
    ·exact .none _
   ·exact .none _
  ·exact .none _
 ·exact .none _
theorem q9n {d e:Do} (h:d.Le e) (c:CM):∀m,Le (q0a d c m) (q0a e c m):=by
 induction c with
 |ret _|fail|resC _ _ _=>exact fun m=>.refl _
 |pu _ _ ih=>exact fun m=>Le.q8J (.refl _) fun v=>ih v m
 |rm _ _ ih=>exact fun m=>Le.q8J (.refl _) fun v=>ih v m
 |al _ _ ih=>exact fun m=>Le.q8J (.refl _) fun v=>ih _ _
 |ef _ _ ih=>exact fun m=>Le.q8J (.refl _) fun v=>ih _ _
 |st _ _ ih=>exact fun m=>Le.q8J (.refl _) fun v=>ih _
 |call _ _ _ ih=>exact fun m=>Le.q8J (h.call _ _ _) fun v=>ih _ _
 |callv fv az _ ih=>
  intro m;refine Le.q8J ?_ fun v=>ih _ _
  unfold q1m;split
  ·exact h.call _ _ _
  ·exact h.call _ _ _
  ·exact .none _
 |ifv v _ _ x y=>
  intro m;show Le (ifV v _ _) (ifV v _ _);unfold ifV;split
  ·exact x m
  ·exact y m
  ·exact .none _
 |cond v _ _ x y=>
  intro m;show Le (q0b v _ _) (q0b v _ _);unfold q0b;split
  ·exact x m
  ·exact y m
  ·exact .none _
 |memo _ ih=>exact fun m=>ih m m
 |chk e v _ ih=>
  intro m;show Le (if e=some v then _ else _) (if e=some v then _ else _)
  split
  ·exact ih m
  ·exact .none _
 |go _ _=>exact fun m=>h.gor _ _ _
 |rng md fv l k ts=>exact fun m=>Le.q2E h.call _ _ _ _ fun j m=>h.afr _ _ _ _
 |nxt x _ ih=>exact fun m=>Le.nextR _ _ fun v m=>ih v m
def spread:List Bool->List AV->List AV
 |true::bs,v::vs=>v::spread bs vs
 |true::bs,[]=>.undef::spread bs []
 |false::bs,vs=>.undef::spread bs vs
 |[],_=>[]
def goR (E:Env) (M:Nat->List Bool) (k:Nat) (ts:List AV) (m:Mem):R:=q7s E (k / 4096) (k % 4096) (spread (M k) ts) m
def afR (E:Env) (M:Nat->List Bool) (k:Nat) (j:Option Jmp) (ts:List AV) (m:Mem):R:=j3D E (k / 4096) (k % 4096) j (spread (M k) ts) m
def real (E:Env) (M N:Nat->List Bool):Do:=⟨run E,goR E M,afR E N⟩
def apS (F:AV->List AV->CM) (l:List AV):CM:=List.rec (motive:=fun _=>CM) .fail (fun a l _=>F a l) l
def ap0 (c:CM) (l:List AV):CM:=List.rec (motive:=fun _=>CM) c (fun _ _ _=>.fail) l
theorem a1u (F:AV->List AV->CM) (a:AV) (l:List AV):apS F (a::l)=F a l:=rfl
theorem a8k (c:CM):ap0 c []=c:=rfl
def LeD (d:Do) (D:List AV->CM) (g:List AV->Mem->R):Prop:=∀l m,Le (q0a d (D l) m) (g l m)
def EqD (d:Do) (D:List AV->CM) (g:List AV->Mem->R):Prop:=∀l m,g l m=q0a d (D l) m\/D l=.fail
theorem sE {d:Do} {F:AV->List AV->CM} {g:List AV->Mem->R} (h:∀a,EqD d (F a) fun l=>g (a::l)):EqD d (apS F) g:=fun l m=>by
 cases l with
 |nil=>exact .inr rfl
 |cons a l=>exact h a l m
theorem zE {d:Do} {c:CM} {g:List AV->Mem->R} (h:∀m,g [] m=q0a d c m):EqD d (ap0 c) g:=fun l m=>by
 cases l with
 |nil=>exact .inl (h m)
 |cons a l=>exact .inr rfl
theorem EqD.le {d:Do} {D:List AV->CM} {g:List AV->Mem->R} (h:EqD d D g):LeD d D g:=fun l m=>by
 cases h l m with
 |inl e=>rw[e];exact .refl _
 |inr e=>rw[e];exact .none _
def pB (b:Nat):AV:=.ptr (some ⟨b,0⟩)
def sB (n len:Nat) (b:Nat):AV:=.sl (some ⟨b,0⟩) n len len true
def mB (b:Nat):AV:=.map (some b)
inductive BT (α:Type) where
 |leaf
 |node (k:Nat) (v:α) (l r:BT α)
def BT.find {α:Type} (t:BT α) (q:Nat):Option α:=
 BT.rec (motive:=fun _=>Option α) none (fun k v _ _ l r=>Bool.rec (motive:=fun _=>Option α) (Bool.rec (motive:=fun _=>Option α) r l (Nat.ble q k)) (some v) (Nat.beq q k)) t
structure Tb where
 fn:Nat->Option (List AV->CM)
 gor:Nat->Option (List AV->CM)
 afr:Nat->Option Jmp->Option (List AV->CM)
structure Tb.Ok (T:Tb) (E:Env) (M N:Nat->List Bool):Prop where
 fn:∀f D,T.fn f=some D->LeD (real E M N) D fun az m=>run E (.fn f) az m
 gor:∀k D,T.gor k=some D->LeD (real E M N) D fun ts m=>goR E M k ts m
 afr:∀k j D,T.afr k j=some D->LeD (real E M N) D fun ts m=>afR E N k j ts m
def a4I (E:Env) (call:q04) (n:Nat) (f:Nat) (az:List AV) (m:Mem):R:=
 match E.H f with
 |some h=>h az m
 |none=>match E.B f with
  |some (rs,nt,c)=>goF E call (.fn rs) n [.code c] (az++List.replicate (nt-az.length) .undef) m
  |none=>none
def b1r (E:Env) (call:q04) (n:Nat) (b:Nat) (az:List AV) (m:Mem):R:=q4O m b az fun k t=>goF E call (.rd b) n k t m
def b79 (E:Env) (T:Tb) (n:Nat) (d:Do):Do where
 call t az m:=Tg.rec (motive:=fun _=>R) (fun f=>Option.rec (motive:=fun _=>R) (a4I E d.call n f az m) (fun D=>q0a d (D az) m) (T.fn f)) (fun b=>b1r E d.call n b az m) t
 gor k ts m:=Option.rec (motive:=fun _=>R) none (fun D=>q0a d (D ts) m) (T.gor k)
 afr k j ts m:=Option.rec (motive:=fun _=>R) none (fun D=>q0a d (D ts) m) (T.afr k j)
def XD (E:Env) (T:Tb) (n:Nat):Do:=Nat.rec (motive:=fun _=>Do) ⟨fun _ _ _=>none,fun _ _ _=>none,fun _ _ _ _=>none⟩ (fun n d=>b79 E T n d) n
theorem Le.q2L {E:Env} {c c':q04} (h:∀f a m,Le (c f a m) (c' f a m)) {κ κ':List AI->List AV->Mem->R} (hκ:∀k t m,Le (κ k t m) (κ' k t m)) (md:Md) (k:List AI) (t:List AV) (m:Mem) :
  Le (Abs.q2L E c md k t m κ) (Abs.q2L E c' md k t m κ'):=by
 have hl:Lim (fun n=>Abs.q2L E (if n=0 then c else c') md k t m (if n=0 then κ else κ')) (Abs.q2L E c' md k t m κ'):=by
  refine Lim.q2L (call:=fun n=>if n=0 then c else c') (κ:=fun n=>if n=0 then κ else κ') ?_ md k t m ?_
  ·intro f a m;refine⟨fun n=>?_,fun r hr=>⟨1,fun n hn=>?_⟩⟩
   ·by_cases e:n=0
    ·simp only[e,xAd];exact h _ _ _
    ·simp only[e,xAh];exact .refl _
   ·simp only[show n≠0 by omega,xAh];exact hr
  ·intro k t m;refine⟨fun n=>?_,fun r hr=>⟨1,fun n hn=>?_⟩⟩
   ·by_cases e:n=0
    ·simp only[e,xAd];exact hκ _ _ _
    ·simp only[e,xAh];exact .refl _
   ·simp only[show n≠0 by omega,xAh];exact hr
 exact hl.1 0
theorem Le.goF {E:Env} {call:q04} (h:∀f a m,Le (call f a m) (run E f a m)) (md:Md):∀(n:Nat) k t m,Le (Abs.goF E call md n k t m) (go E md k t m)
 | 0,_,_,_=>.none _
 |n+1,k,t,m=>by rw[go_step];exact Le.q2L h (fun k t m=>Le.goF h md n k t m) md k t m
theorem a4J {E:Env} {call:q04} (h:∀f a m,Le (call f a m) (run E f a m)) (n f:Nat) (az:List AV) (m:Mem):Le (a4I E call n f az m) (run E (.fn f) az m):=by
 unfold a4I;split
 ·rename_i hH;rw[q1x hH];exact .refl _
 ·rename_i hH;split
  ·rename_i hB;rw[z2x hH hB];exact Le.goF h _ _ _ _ _
  ·exact .none _
theorem a4K {E:Env} {call:q04} (h:∀f a m,Le (call f a m) (run E f a m)) (n b:Nat) (az:List AV) (m:Mem):Le (b1r E call n b az m) (run E (.yl b) az m):=by
 unfold b1r;rw[a0j];unfold q4O;split
 ·split
  ·exact Le.goF h _ _ _ _ _
  ·exact .none _
 ·exact .none _
theorem b2O {E:Env} {T:Tb} {M N:Nat->List Bool} (ok:T.Ok E M N):∀n,(XD E T n).Le (real E M N)
 | 0=>⟨fun _ _ _=>.none _,fun _ _ _=>.none _,fun _ _ _ _=>.none _⟩
 |n+1=>by
  have ih:=b2O ok n;refine⟨fun t az m=>?_,fun k ts m=>?_,fun k j ts m=>?_⟩
  ·cases t with
   |fn f=>
    show Le (Option.rec (motive:=fun _=>R) (a4I E (XD E T n).call n f az m) (fun D=>q0a (XD E T n) (D az) m) (T.fn f)) (run E (.fn f) az m)
    cases e:T.fn f with
    |none=>exact a4J ih.call _ _ _ _
    |some D=>exact(q9n ih _ _).trans (ok.fn _ _ e az m)
   |yl b=>exact a4K ih.call _ _ _ _
  ·show Le (Option.rec (motive:=fun _=>R) none (fun D=>q0a (XD E T n) (D ts) m) (T.gor k)) (goR E M k ts m)
   cases e:T.gor k with
   |none=>exact .none _
   |some D=>exact(q9n ih _ _).trans (ok.gor _ _ e ts m)
  ·show Le (Option.rec (motive:=fun _=>R) none (fun D=>q0a (XD E T n) (D ts) m) (T.afr k j)) (afR E N k j ts m)
   cases e:T.afr k j with
   |none=>exact .none _
   |some D=>exact(q9n ih _ _).trans (ok.afr _ _ _ e ts m)
theorem a4z {E:Env} {T:Tb} {M N:Nat->List Bool} (ok:T.Ok E M N) (n:Nat) {t:Tg} {az:List AV} {m:Mem} {r:AV×Mem} (h:(XD E T n).call t az m=some r):run E t az m=some r:=
 (b2O ok n).call t az m r h
end
end Go.Abs
