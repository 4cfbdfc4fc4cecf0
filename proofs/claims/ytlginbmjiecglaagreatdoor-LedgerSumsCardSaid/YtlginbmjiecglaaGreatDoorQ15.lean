/- Texts of one claim, put together. -/
import Derived.Test.YtlginbmjiecglaaGreatDoorQ14
namespace Go.Proofs.YtlginbmjiecglaaGreatDoor
section
set_option maxRecDepth 4000
open Go Go.Abs
theorem q2M (a b c d:Int):q0S Tryz.prog .eql 43 (.agg [.int .i64 a,.int .u64 b]) (.agg [.int .i64 c,.int .u64 d])=some (.bool (decide (a=c)&&decide (b=d))):=by
 have h:eqA Tryz.prog 50 43 (.agg [.int .i64 a,.int .u64 b]) (.agg [.int .i64 c,.int .u64 d])=(match (a==c) with|true=>(match (b==d) with|true=>some true|false=>some false)|false=>some false):=by kernel_rfl
 have h2:q0S Tryz.prog .eql 43 (.agg [.int .i64 a,.int .u64 b]) (.agg [.int .i64 c,.int .u64 d])=(match eqA Tryz.prog 50 43 (.agg [.int .i64 a,.int .u64 b]) (.agg [.int .i64 c,.int .u64 d]) with|some b=>some (.bool b)|none=>none):=by kernel_rfl
 rw[h2,h,show (a==c)=decide (a=c) from rfl,show (b==d)=decide (b=d) from rfl];cases decide (a=c)<;>cases decide (b=d)<;>rfl
theorem b1Y {n:Int} (h1:-9223372036854775808<=n) (h2:n<9223372036854775808) (m:Mem):Res m (run E2 (.fn 54) [.int .i64 n] m) (.agg (Wd.of n).cells):=by
 have e1:n.fdiv (2 ^ (min (63:Int).toNat IntKind.i64.bits))=n / 18446744073709551616:=by
  have:((2:Int) ^ (min (63:Int).toNat IntKind.i64.bits))=9223372036854775808:=by rfl
  rw[this,Int.fdiv_eq_ediv_of_nonneg _ (by omega)];omega
 simp only[a5I (H:=H2) rfl,T.f54,pB,p2,p1,q0o,AV.cells,Nat.reduceAdd,Nat.reduceLeDiff,q0H,q0I,q0w,Wd.cells,AV.one,over,lcl,q6c _ _ _ _ _ (show (0:Int)<=63 by omega),e1,q0n];refine Res.eq ?_ rfl
 (repeat apply Fr.lays)
 exact Fr.refl _
theorem a4g {a:Wd} (ha:a.ok) (m:Mem):Res m (run E2 (.fn 93) [.agg a.cells] m) (.int .i64 (sgn a.val)):=by
 obtain⟨ah,al⟩:=a;obtain⟨a1,a2,a3,a4⟩:=ha;simp only[Wd.val]at *;unfold sgn;simp only[a6e (H:=H2) rfl,T.f93,p1,q1,p2,q0K,q0a,ifV,q0e,Wd.cells,AV.one,AV.cells,lcl];by_cases h1:ah<0
 ·rw[if_pos (by omega)];simp only[dt h1];exact Res.eq ((Fr.refl m).lay _) rfl
 ·rw[if_neg (by omega)];simp only[df h1];by_cases h2:ah=0
  ·simp only[dt h2];by_cases h3:al=0
   ·rw[if_pos (by omega)];simp only[dt h3];exact Res.eq ((Fr.refl m).lay _) rfl
   ·rw[if_neg (by omega)];simp only[df h3,z6l (H:=H2),T.j53,wp];exact Res.eq ((Fr.refl m).lay _) rfl
  ·rw[if_neg (by omega)];simp only[df h2,z6l (H:=H2),T.j53,wp];exact Res.eq ((Fr.refl m).lay _) rfl
theorem a5e {a b:Wd} (ha:a.ok) (hb:b.ok) (m:Mem):Res m (run E2 (.fn 20) [.agg a.cells,.agg b.cells] m) (.int .i64 (sgn (a.val-b.val))):=by
 obtain⟨ah,al⟩:=a;obtain⟨bh,bl⟩:=b;obtain⟨a1,a2,a3,a4⟩:=ha;obtain⟨b1,b2,b3,b4⟩:=hb;simp only[Wd.val]at *;unfold sgn;simp only[a5t (H:=H2) rfl,T.f20,p1,q1,p2,q0K,q0a,ifV,Nat.reduceAdd,q0e,Wd.cells,AV.one,AV.cells,Nat.reduceLeDiff,lcl,q2M];by_cases h1:ah<bh
 ·rw[if_pos (by omega)];simp only[dt h1];exact Res.eq (((Fr.refl m).lay _).lay _) rfl
 ·simp only[df h1];by_cases h2:ah=bh
  ·simp only[dt h2];by_cases h3:al<bl
   ·rw[if_pos (by omega)];simp only[dt h3];exact Res.eq (((Fr.refl m).lay _).lay _) rfl
   ·rw[if_neg (by omega)];simp only[df h3];by_cases h4:al=bl
    ·rw[if_pos (by omega)];simp only[dt h4,Bool.and_self];exact Res.eq (((Fr.refl m).lay _).lay _) rfl
    ·rw[if_neg (by omega)];simp only[df h4,Bool.and_false,z4W (H:=H2),T.a0T,wp];exact Res.eq (((Fr.refl m).lay _).lay _) rfl
  ·rw[if_neg (by omega),if_neg (by omega)];simp only[df h2,Bool.false_and,z4W (H:=H2),T.a0T,wp];exact Res.eq (((Fr.refl m).lay _).lay _) rfl
def q1H (n:Int):Int:=if n<0 then -n else n
theorem a4h {a:Wd} (ha:a.ok) (m:Mem):Res m (run E2 (.fn 167) [.agg a.cells] m) (.tup [.int .u64 (q1H a.val / 18446744073709551616),.int .u64 (q1H a.val % 18446744073709551616)]):=by
 obtain⟨ah,al⟩:=a;obtain⟨a1,a2,a3,a4⟩:=ha;simp only[Wd.val]at *;unfold q1H;by_cases h1:0<=ah
 ·rw[if_neg (by omega)];simp only[z9D (H:=H2) rfl,T.f167,p1,q1,p2,q0K,q0a,q0e,Wd.cells,AV.one,AV.cells,lcl,dt h1,q0n];have e1:(ah*18446744073709551616+al) / 18446744073709551616=ah:=by omega
  have e2:(ah*18446744073709551616+al) % 18446744073709551616=al:=by omega
  have e3:ah % 18446744073709551616=ah:=by omega
  rw[e1,e2,e3];exact Res.eq ((Fr.refl m).lay _) rfl
 ·rw[if_pos (by omega)];obtain⟨c,hc⟩:∃c:Int,c=(if 0<al+0 then 1 else 0):=⟨_,rfl⟩
  have c0:0<=c/\c<=1:=by omega
  simp only[z9D (H:=H2) rfl,T.f167,p1,q1,p2,q0K,q0a,q0e,Wd.cells,AV.one,AV.cells,lcl,df (show ¬ah>=0 by omega)];simp only[j1b (H:=H2),T.j8S,p1,q1,q0d,q0F,lcl,q6k _ (show (0:Int)<=0/\0<=al/\al<18446744073709551616/\(0:Int)<=0/\(0:Int)<=1 by omega),q0n,<-hc,q6k _ (show (0:Int)<=0/\0<=ah % 18446744073709551616/\ah % 18446744073709551616<18446744073709551616/\0<=c/\c<=1 by omega)]
  have e1:-(ah*18446744073709551616+al) / 18446744073709551616=(0-ah % 18446744073709551616-c) % 18446744073709551616:=by
   by_cases h0:0<al+0
   ·rw[if_pos h0]at hc;omega
   ·rw[if_neg h0]at hc;omega
  have e2:-(ah*18446744073709551616+al) % 18446744073709551616=(0-al-0) % 18446744073709551616:=by omega
  rw[e1,e2];exact Res.eq ((Fr.refl m).lay _) rfl
theorem j27 (below:Bool) {hi lo:Int} (h1:0<=hi) (h2:hi<18446744073709551616) (h3:0<=lo) (h4:lo<18446744073709551616) (m:Mem) :
  Res m (run E2 (.fn 170) [.bool below,.int .u64 hi,.int .u64 lo] m) (.tup [.agg (Wd.res (if below then -(hi*18446744073709551616+lo) else hi*18446744073709551616+lo)).1.cells,.int .i64 (Wd.res (if below then -(hi*18446744073709551616+lo) else hi*18446744073709551616+lo)).2]):=by
 cases below with
 |false=>
  simp only[z9E (H:=H2) rfl,T.f170,pB,p1,p2,q0o,AV.cells,Nat.reduceAdd,Nat.reduceLeDiff,q0a,unA,q0H,q0I,q0w,Wd.cells,AV.one,over,lcl,xbf,xbq];by_cases h:9223372036854775808<=hi
  ·simp only[dt h];exact Res.eq ((Fr.refl m).lay _) (q3I (q1m (by omega)))
  ·simp only[df h,j1c (H:=H2),T.j8T,p1,q0o,AV.cells,Nat.reduceAdd,Nat.reduceLeDiff,q0H,q0I,q0w,AV.one,over,lcl,wrap_i64 (n:=hi) (by omega) (by omega)];exact Res.eq ((Fr.refl m).lay _) (z6D (q0V (by omega) (by omega)) (by omega) (by omega))
 |true=>
  simp only[z9E (H:=H2) rfl,T.f170,pB,p1,p2,q0o,q0a,unA,q0H,q0I,q0w,Wd.cells,lcl,xbt];simp only[j1d (H:=H2),T.j8U,p2,p1,q0o,AV.cells,Nat.reduceAdd,Nat.reduceLeDiff,q0a,ifV,q0H,q0I,q0w,AV.one,over,lcl];have main:hi*18446744073709551616+lo<=170141183460469231731687303715884105728->Res m ((T.Rl H2).gor 696322 [.int .u64 hi,.int .u64 lo,.ptr (some ⟨m.next,0⟩)] (m.lay (.cells [.int .i64 0,.int .u64 0] false))) (.tup [.agg (Wd.res (-(hi*18446744073709551616+lo))).1.cells,.int .i64 (Wd.res (-(hi*18446744073709551616+lo))).2]):=by
   intro hle;obtain⟨c,hc⟩:∃c:Int,c=(if 0<lo+0 then 1 else 0):=⟨_,rfl⟩
   have c0:0<=c/\c<=1:=by omega
   have hw:IntKind.wrap .i64 ((0-hi-c) % 18446744073709551616)=-hi-c:=by rw[q2q];omega
   simp only[j1e (H:=H2),T.j8V,p1,q0o,AV.cells,Nat.reduceAdd,Nat.reduceLeDiff,q0d,q0H,q0I,q0w,Wd.cells,AV.one,over,lcl,q6k _ (show (0:Int)<=0/\0<=lo/\lo<18446744073709551616/\(0:Int)<=0/\(0:Int)<=1 by omega),<-hc,q6k _ (show (0:Int)<=0/\0<=hi/\hi<18446744073709551616/\0<=c/\c<=1 by omega),hw];exact Res.eq ((Fr.refl m).lay _) (z6D (q0V (by omega) (by omega)) (by omega) (by omega))
  by_cases h:9223372036854775808<hi
  ·simp only[dt h];exact Res.eq ((Fr.refl m).lay _) (q3I (q1m (by omega)))
  ·simp only[df h];by_cases h5:hi=9223372036854775808
   ·simp only[dt h5];by_cases h6:0<lo
    ·simp only[dt h6];exact Res.eq ((Fr.refl m).lay _) (q3I (q1m (by omega)))
    ·simp only[df h6];exact main (by omega)
   ·simp only[df h5];exact main (by omega)
theorem j7b (m:Mem):∀(d j:Nat),j+d<=18->D2.gor 663552 [.int .i64 (d:Int),.int .u64 (q0J j)] m=some (.int .u64 (q0J (j+d)),m):=by
 intro d;induction d with
 |zero=>
  intro j _;simp only[z1D (H:=H2),T.j0R,p2,q0a,wp,df (show ¬(0:Int)<((0:Nat):Int) by omega),j0U (H:=H2),T.j8F,wp,xna]
 |succ d ih=>
  intro j hj;have h1:=q1Q j;have h2:=z0F (k:=j) (by omega);simp only[z1D (H:=H2),T.j0R,p2,q0a,wp,dt (show (0:Int)<((d+1:Nat):Int) by omega)];simp only[j0S (H:=H2),T.j8D,p2,wp,wrap_u64 (x:=q0J j*10) (by omega) (by omega)];simp only[j0T (H:=H2),T.j8E,p2,wp,wrap_i64 (n:=((d+1:Nat):Int)-1) (by omega) (by omega),<-q8o];rw[show ((d+1:Nat):Int)-1=(d:Int) by omega,ih (j+1) (by omega),show j+1+d=j+(d+1) by omega]
theorem b04 {k:Nat} (hk:k<=18) (m:Mem):run E2 (.fn 162) [.int .i64 (k:Int)] m=some (.int .u64 (q0J k),m):=by
 have:=j7b m k 0 (by omega);rw[xnz]at this;simp only[a0q (H:=H2) rfl,T.f162,wp];exact this
theorem z6K (n:Int) (m:Mem):run E2 (.fn 146) [.int .i64 n] m=some (.bool (decide (0<=n/\n<=18)),m):=by
 simp only[a0g (H:=H2) rfl,T.f146,p2,ifV,wp];by_cases h1:0<=n
 ·by_cases h2:n<=18<;>simp[h1,h2]
 ·simp[h1]
def q0u (w:Wd) (s:Int):List AV:=[.int .i64 w.hi,.int .u64 w.lo,.int .i64 s]
theorem z9g (w:Wd) (s:Int) (m:Mem):Res m (run E2 (.fn 132) [.agg (q0u w s)] m) (.bool (decide (0<=s/\s<=18))):=by
 simp only[q0u,a0c (H:=H2) rfl,T.f132,p1,q1,q0K,q0e,AV.one,AV.cells,lcl,z6K];exact Res.eq ((Fr.refl m).lay _) rfl
end
section
set_option maxRecDepth 4000
open Go Go.Abs
def S3:List FuncId:=[21,22,168,166,54,93,20,167,170,162,146,132]
noncomputable def H3:FuncId->Option (List AV->Mem->R):=q1L E2 S3
noncomputable abbrev E3:Env:=T.EH H3
theorem b1e:q1u E3:=q0Z b1d S3
section
variable {H:FuncId->Option (List AV->Mem->R)}
theorem z0L (h:H 21=some (q0y E2 21)) {a b:Wd} (ha:a.ok) (hb:b.ok) (m:Mem):run (T.EH H) (.fn 21) [.agg a.cells,.agg b.cells] m=some (.tup [.agg (Wd.res (a.val+b.val)).1.cells,.int .i64 (Wd.res (a.val+b.val)).2],m):=
 q0r h (by simp[AV.flat,AV.lt,AV.lts,Wd.cells]) fun m2 _ _=>a4Y a b ha hb m2
theorem j3a (h:H 22=some (q0y E2 22)) {a b:Wd} (ha:a.ok) (hb:b.ok) (m:Mem):run (T.EH H) (.fn 22) [.agg a.cells,.agg b.cells] m=some (.tup [.agg (Wd.res (a.val-b.val)).1.cells,.int .i64 (Wd.res (a.val-b.val)).2],m):=
 q0r h (by simp[AV.flat,AV.lt,AV.lts,Wd.cells]) fun m2 _ _=>b0Z a b ha hb m2
theorem z0o (h:H 168=some (q0y E2 168)) {x y:Int} (hx:0<=x/\x<18446744073709551616) (hy:0<=y/\y<18446744073709551616) (m:Mem):run (T.EH H) (.fn 168) [.int .u64 x,.int .u64 y] m=some (.tup [.int .u64 (x*y / 18446744073709551616),.int .u64 (x*y % 18446744073709551616)],m):=
 q0r h (by simp[AV.flat,AV.lt,AV.lts]) fun m2 _ _=>⟨m2,j6t hx.1 hx.2 hy.1 hy.2 m2,Fr.refl _⟩
theorem q5n (h:H 166=some (q0y E2 166)) {hi lo y:Int} (h0:0<=hi) (hlt:hi<y) (hy:y<18446744073709551616) (hl:0<=lo/\lo<18446744073709551616) (m:Mem):run (T.EH H) (.fn 166) [.int .u64 hi,.int .u64 lo,.int .u64 y] m=some (.tup [.int .u64 ((hi*18446744073709551616+lo) / y),.int .u64 ((hi*18446744073709551616+lo) % y)],m):=
 q0r h (by simp[AV.flat,AV.lt,AV.lts]) fun m2 _ _=>⟨m2,j3D h0 hlt hy hl.1 hl.2 m2,Fr.refl _⟩
theorem a3r (h:H 54=some (q0y E2 54)) {n:Int} (h1:-9223372036854775808<=n) (h2:n<9223372036854775808) (m:Mem):run (T.EH H) (.fn 54) [.int .i64 n] m=some (.agg (Wd.of n).cells,m):=
 q0r h (by simp[AV.flat,AV.lt,AV.lts,Wd.cells]) fun m2 _ _=>b1Y h1 h2 m2
theorem q6v (h:H 93=some (q0y E2 93)) {a:Wd} (ha:a.ok) (m:Mem):run (T.EH H) (.fn 93) [.agg a.cells] m=some (.int .i64 (sgn a.val),m):=
 q0r h (by simp[AV.flat,AV.lt]) fun m2 _ _=>a4g ha m2
theorem j7n (h:H 20=some (q0y E2 20)) {a b:Wd} (ha:a.ok) (hb:b.ok) (m:Mem):run (T.EH H) (.fn 20) [.agg a.cells,.agg b.cells] m=some (.int .i64 (sgn (a.val-b.val)),m):=
 q0r h (by simp[AV.flat,AV.lt]) fun m2 _ _=>a5e ha hb m2
theorem size_at (h:H 167=some (q0y E2 167)) {a:Wd} (ha:a.ok) (m:Mem):run (T.EH H) (.fn 167) [.agg a.cells] m=some (.tup [.int .u64 (q1H a.val / 18446744073709551616),.int .u64 (q1H a.val % 18446744073709551616)],m):=
 q0r h (by simp[AV.flat,AV.lt,AV.lts]) fun m2 _ _=>a4h ha m2
theorem q8h (h:H 170=some (q0y E2 170)) (below:Bool) {hi lo:Int} (h1:0<=hi/\hi<18446744073709551616) (h3:0<=lo/\lo<18446744073709551616) (m:Mem) :
  run (T.EH H) (.fn 170) [.bool below,.int .u64 hi,.int .u64 lo] m=some (.tup [.agg (Wd.res (if below then -(hi*18446744073709551616+lo) else hi*18446744073709551616+lo)).1.cells,.int .i64 (Wd.res (if below then -(hi*18446744073709551616+lo) else hi*18446744073709551616+lo)).2],m):=
 q0r h (by simp[AV.flat,AV.lt,AV.lts,Wd.cells]) fun m2 _ _=>j27 below h1.1 h1.2 h3.1 h3.2 m2
theorem j89 (h:H 162=some (q0y E2 162)) {k:Nat} (hk:k<=18) (m:Mem):run (T.EH H) (.fn 162) [.int .i64 (k:Int)] m=some (.int .u64 (q0J k),m):=
 q0r h (by simp[AV.flat,AV.lt]) fun m2 _ _=>⟨m2,b04 hk m2,Fr.refl _⟩
theorem j61 (h:H 146=some (q0y E2 146)) (n:Int) (m:Mem):run (T.EH H) (.fn 146) [.int .i64 n] m=some (.bool (decide (0<=n/\n<=18)),m):=
 q0r h (by simp[AV.flat,AV.lt]) fun m2 _ _=>⟨m2,z6K n m2,Fr.refl _⟩
theorem q3m (h:H 132=some (q0y E2 132)) (w:Wd) (s:Int) (m:Mem):run (T.EH H) (.fn 132) [.agg (q0u w s)] m=some (.bool (decide (0<=s/\s<=18)),m):=
 q0r h (by simp[AV.flat,AV.lt]) fun m2 _ _=>z9g w s m2
end
theorem q95 {H:FuncId->Option (List AV->Mem->R)} (h:H 59=some q4R) {x y c:Int} (m:Mem) (hh:0<=x/\0<=y/\0<=c/\c<=1):run (T.EH H) (.fn 59) [.int .u64 x,.int .u64 y,.int .u64 c] m=some (.tup [.int .u64 ((x+y+c) % 18446744073709551616),.int .u64 ((x+y+c) / 18446744073709551616)],m):=by
 rw[q08 (h:=q4R) h];simp only[q4R,if_pos hh]
end
section
set_option maxRecDepth 4000
open Go Go.Abs
theorem j2v {x y z0 z1 z2 z3:Int} (hx:0<=x/\x<18446744073709551616) (hy:0<=y/\y<18446744073709551616) (h0:0<=z0/\z0<18446744073709551616) (h1:0<=z1/\z1<18446744073709551616) (h2:0<=z2/\z2<18446744073709551616) (h3:0<=z3/\z3<18446744073709551616)
  (hs:z3*340282366920938463463374607431768211456+z2*18446744073709551616+z1+x*y<6277101735386680763835789423207666416102355444464034512896) (m:Mem) :
  run E3 (.fn 169) [.int .u64 x,.int .u64 y,.int .i64 1,.ptr (some ⟨m.next,0⟩)] (m.lay (.cells [.int .u64 z0,.int .u64 z1,.int .u64 z2,.int .u64 z3] false)) =
   some (.undef,m.lay (.cells [.int .u64 z0,.int .u64 ((z1+x*y) % 18446744073709551616),.int .u64 ((z2*18446744073709551616+z1+x*y) / 18446744073709551616 % 18446744073709551616),.int .u64 (z3+(z2*18446744073709551616+z1+x*y) / 340282366920938463463374607431768211456)] false)):=by
 have hm:=z7M hx.1 hx.2 hy.1 hy.2;have w2:IntKind.wrap .i64 (1+1)=2:=wrap_i64 (by omega) (by omega);have w3:IntKind.wrap .i64 (1+2)=3:=wrap_i64 (by omega) (by omega);simp only[q9B (H:=H3) rfl,T.f169,p1,p2,q1,q0d,q0a,q02,lcl,z0o (H:=H3) rfl hx hy,w2,w3,z1R,z3F,z3G];generalize x*y=t at *;obtain⟨c,hc⟩:∃c,c=(z1+t % 18446744073709551616+0) / 18446744073709551616:=⟨_,rfl⟩
 obtain⟨c2,hc2⟩:∃c2,c2=(z2+t / 18446744073709551616+c) / 18446744073709551616:=⟨_,rfl⟩;simp only[q95 (H:=H3) rfl _ (show 0<=z1/\0<=t % 18446744073709551616/\(0:Int)<=0/\(0:Int)<=1 by omega),<-hc,over,AV.cells,Nat.reduceAdd,Nat.reduceLeDiff,lcl,q95 (H:=H3) rfl _ (show 0<=z2/\0<=t / 18446744073709551616/\0<=c/\c<=1 by omega),<-hc2,dt (show (3:Int)<4 by omega),q9B (H:=H3) rfl,q02]
 rw[wrap_u64 (x:=z3+c2) (by omega) (by omega),show (z1+t % 18446744073709551616+0) % 18446744073709551616=(z1+t) % 18446744073709551616 by omega,show (z2+t / 18446744073709551616+c) % 18446744073709551616=(z2*18446744073709551616+z1+t) / 18446744073709551616 % 18446744073709551616 by omega,
  show z3+c2=z3+(z2*18446744073709551616+z1+t) / 340282366920938463463374607431768211456 by omega]
theorem a3w {x y z0 z1 z2 z3:Int} (hx:0<=x/\x<18446744073709551616) (hy:0<=y/\y<18446744073709551616) (h0:0<=z0/\z0<18446744073709551616) (h1:0<=z1/\z1<18446744073709551616) (h2:0<=z2/\z2<18446744073709551616) (h3:0<=z3/\z3<18446744073709551616)
  (m:Mem) :
  run E3 (.fn 169) [.int .u64 x,.int .u64 y,.int .i64 2,.ptr (some ⟨m.next,0⟩)] (m.lay (.cells [.int .u64 z0,.int .u64 z1,.int .u64 z2,.int .u64 z3] false)) =
   some (.undef,m.lay (.cells [.int .u64 z0,.int .u64 z1,.int .u64 ((z2+x*y) % 18446744073709551616),.int .u64 ((z3*18446744073709551616+z2+x*y) / 18446744073709551616 % 18446744073709551616)] false)):=by
 have hm:=z7M hx.1 hx.2 hy.1 hy.2;have w2:IntKind.wrap .i64 (2+1)=3:=wrap_i64 (by omega) (by omega);have w3:IntKind.wrap .i64 (2+2)=4:=wrap_i64 (by omega) (by omega);simp only[q9B (H:=H3) rfl,T.f169,p1,p2,q1,q0d,q0a,q02,lcl,z0o (H:=H3) rfl hx hy,w2,w3,z3F,z3G];generalize x*y=t at *;obtain⟨c,hc⟩:∃c,c=(z2+t % 18446744073709551616+0) / 18446744073709551616:=⟨_,rfl⟩
 simp only[q95 (H:=H3) rfl _ (show 0<=z2/\0<=t % 18446744073709551616/\(0:Int)<=0/\(0:Int)<=1 by omega),<-hc,over,AV.cells,Nat.reduceAdd,Nat.reduceLeDiff,lcl,q95 (H:=H3) rfl _ (show 0<=z3/\0<=t / 18446744073709551616/\0<=c/\c<=1 by omega),df (show ¬(4:Int)<4 by omega),q9B (H:=H3) rfl,q02];rw[show (z2+t % 18446744073709551616+0) % 18446744073709551616=(z2+t) % 18446744073709551616 by omega,show (z3+t / 18446744073709551616+c) % 18446744073709551616=(z3*18446744073709551616+z2+t) / 18446744073709551616 % 18446744073709551616 by omega]
theorem q59 (n:Int):0<=q1H n:=by unfold q1H;split<;>omega
theorem q7x {a:Wd} (ha:a.ok):q1H a.val<=170141183460469231731687303715884105728:=by
 obtain⟨h1,h2,h3,h4⟩:=ha;unfold q1H Wd.val;split<;>omega
theorem z3O {a b:Wd} (ha:a.ok) (hb:b.ok):0<=q1H a.val*q1H b.val/\q1H a.val*q1H b.val<=28948022309329048855892746252171976963317496166410141009864396001978282409984:=by
 refine⟨Int.mul_nonneg (q59 _) (q59 _),?_⟩;have h1:q1H a.val*q1H b.val<=170141183460469231731687303715884105728*q1H b.val:=Int.mul_le_mul_of_nonneg_right (q7x ha) (q59 _);have h2:=q7x hb;omega
theorem z7U {a b:Wd} (ha:a.ok) (hb:b.ok) (m:Mem):Res m (run E3 (.fn 161) [.agg a.cells,.agg b.cells] m) (.agg (q2H (q1H a.val*q1H b.val))):=by
 obtain⟨hle1,hle2⟩:=z3O ha hb;have hA:=q7x ha;have hB:=q7x hb;have nA:=q59 a.val;have nB:=q59 b.val;have sA:=fun m=>size_at (H:=H3) rfl ha m
 have sB':=fun m=>size_at (H:=H3) rfl hb m
 obtain⟨ac,hac⟩:∃ac,ac=a.cells:=⟨_,rfl⟩;obtain⟨bc,hbc⟩:∃bc,bc=b.cells:=⟨_,rfl⟩;have lac:ac.length=2:=by rw[hac];rfl
 have lbc:bc.length=2:=by rw[hbc];rfl
 have oac:ac.all AV.one=true:=by rw[hac];rfl
 have obc:bc.all AV.one=true:=by rw[hbc];rfl
 rw[<-hac]at sA;rw[<-hbc]at sB';rw[<-hac,<-hbc];obtain⟨A,hA'⟩:∃A,A=q1H a.val:=⟨_,rfl⟩;obtain⟨B,hB'⟩:∃B,B=q1H b.val:=⟨_,rfl⟩;rw[<-hA']at sA hle1 hle2 hA nA⊢;rw[<-hB']at sB' hle1 hle2 hB nB⊢;clear hac hbc hA' hB';obtain⟨ah,hah⟩:∃ah,ah=A / 18446744073709551616:=⟨_,rfl⟩;obtain⟨al,hal⟩:∃al,al=A % 18446744073709551616:=⟨_,rfl⟩;obtain⟨bh,hbh⟩:∃bh,bh=B / 18446744073709551616:=⟨_,rfl⟩;obtain⟨bl,hbl⟩:∃bl,bl=B % 18446744073709551616:=⟨_,rfl⟩
 simp only[<-hah,<-hal]at sA;simp only[<-hbh,<-hbl]at sB';have rah:0<=ah/\ah<18446744073709551616:=by omega
 have ral:0<=al/\al<18446744073709551616:=by omega
 have rbh:0<=bh/\bh<18446744073709551616:=by omega
 have rbl:0<=bl/\bl<18446744073709551616:=by omega
 have eP:A*B=ah*bh*340282366920938463463374607431768211456+(al*bh+ah*bl)*18446744073709551616+al*bl:=by
  rw[<-j2c];congr 1<;>omega
 have t0:=z7M ral.1 ral.2 rbl.1 rbl.2;have t1:=z7M ral.1 ral.2 rbh.1 rbh.2;have t2:=z7M rah.1 rah.2 rbl.1 rbl.2;have t3:=z7M rah.1 rah.2 rbh.1 rbh.2;obtain⟨w0,hw0⟩:∃w0,w0=al*bl % 18446744073709551616:=⟨_,rfl⟩;obtain⟨w1,hw1⟩:∃w1,w1=al*bl / 18446744073709551616:=⟨_,rfl⟩;have k1:=fun m=>j2v (x:=al) (y:=bh) (z0:=w0) (z1:=w1) (z2:=0) (z3:=0) ral rbh (by omega) (by omega) (by omega) (by omega) (by omega) m
 obtain⟨x1,hx1⟩:∃x1,x1=(w1+al*bh) % 18446744073709551616:=⟨_,rfl⟩;obtain⟨x2,hx2⟩:∃x2,x2=(0*18446744073709551616+w1+al*bh) / 18446744073709551616 % 18446744073709551616:=⟨_,rfl⟩;obtain⟨x3,hx3⟩:∃x3,x3=0+(0*18446744073709551616+w1+al*bh) / 340282366920938463463374607431768211456:=⟨_,rfl⟩;simp only[<-hx1,<-hx2,<-hx3]at k1;have k2:=fun m=>j2v (x:=ah) (y:=bl) (z0:=w0) (z1:=x1) (z2:=x2) (z3:=x3) rah rbl (by omega) (by omega) (by omega) (by omega) (by omega) m
 obtain⟨y1,hy1⟩:∃y1,y1=(x1+ah*bl) % 18446744073709551616:=⟨_,rfl⟩;obtain⟨y2,hy2⟩:∃y2,y2=(x2*18446744073709551616+x1+ah*bl) / 18446744073709551616 % 18446744073709551616:=⟨_,rfl⟩;obtain⟨y3,hy3⟩:∃y3,y3=x3+(x2*18446744073709551616+x1+ah*bl) / 340282366920938463463374607431768211456:=⟨_,rfl⟩;simp only[<-hy1,<-hy2,<-hy3]at k2;have k3:=fun m=>a3w (x:=ah) (y:=bh) (z0:=w0) (z1:=y1) (z2:=y2) (z3:=y3) rah rbh (by omega) (by omega) (by omega) (by omega) m
 obtain⟨v2,hv2⟩:∃v2,v2=(y2+ah*bh) % 18446744073709551616:=⟨_,rfl⟩;obtain⟨v3,hv3⟩:∃v3,v3=(y3*18446744073709551616+y2+ah*bh) / 18446744073709551616 % 18446744073709551616:=⟨_,rfl⟩;simp only[<-hv2,<-hv3]at k3;have hd:q2H (A*B)=[.int .u64 w0,.int .u64 y1,.int .u64 v2,.int .u64 v3]:=by
  apply q4s (by omega) (by omega) (by omega) (by omega);rw[eP];generalize al*bl=q0 at *;generalize al*bh=q1 at *;generalize ah*bl=q2 at *;generalize ah*bh=q3 at *;have e1:w1*18446744073709551616+w0=q0:=by omega
  have e2:x3*340282366920938463463374607431768211456+x2*18446744073709551616+x1=w1+q1:=by omega
  have e3:y3*340282366920938463463374607431768211456+y2*18446744073709551616+y1=x3*340282366920938463463374607431768211456+x2*18446744073709551616+x1+q2:=by omega
  have e4:v3*18446744073709551616+v2=y3*18446744073709551616+y2+q3:=by omega
  omega
 rw[hd];have k1:=k1 (((m.lay (.cells ac false)).lay (.cells bc false)).lay (.cells [.int .u64 0,.int .u64 0,.int .u64 0,.int .u64 0] false));have k2:=k2 (((m.lay (.cells ac false)).lay (.cells bc false)).lay (.cells [.int .u64 0,.int .u64 0,.int .u64 0,.int .u64 0] false));have k3:=k3 (((m.lay (.cells ac false)).lay (.cells bc false)).lay (.cells [.int .u64 0,.int .u64 0,.int .u64 0,.int .u64 0] false))
 simp only[Mem.q0t]at k1 k2 k3;simp only[a0p (H:=H3) rfl,T.f161,pB,q1,p1,p2,q0K,q0d,q0H,q0I,q02,oac,obc,AV.one,over,AV.cells,Nat.reduceAdd,Nat.reduceLeDiff,lcl,lac,lbc,xtl (show ac.length<=2 by omega),xtl (show bc.length<=2 by omega),sA,sB',z0o (H:=H3) rfl ral rbl,<-hw0,<-hw1,q98,z1R,q3X,List.append_nil,List.nil_append,List.cons_append,k1,k2,k3];refine Res.eq ?_ rfl
 (repeat apply Fr.lays)
 exact Fr.refl _
theorem j2f (below:Bool) {n:Int} (h0:0<=n) (h1:n<115792089237316195423570985008687907853269984665640564039457584007913129639936) (m:Mem) :
  Res m (run E3 (.fn 163) [.bool below,.agg (q2H n)] m) (.tup [.agg (Wd.res (if below then -n else n)).1.cells,.int .i64 (Wd.res (if below then -n else n)).2]):=by
 obtain⟨z0,z1,z2,z3,e,g0,g1,g2,g3,en⟩:=q62 h0 h1;rw[e];simp only[a0r (H:=H3) rfl,T.f163,pB,p2,q1,p1,q0o,AV.cells,Nat.reduceAdd,Nat.reduceLeDiff,q0K,q0a,ifV,q0H,q0I,q0w,Wd.cells,AV.one,over,lcl,z3F,z3G];by_cases h3:z3=0
 ·simp only[dt h3,xbt];by_cases h2:z2=0
  ·simp only[dt h2,xbt];have en2:n=z1*18446744073709551616+z0:=by omega
   rw[en2];simp only[j0V (H:=H3),T.j8G,p2,q1,p1,q0d,q0H,q0I,q02,Wd.cells,AV.one,over,AV.cells,Nat.reduceAdd,Nat.reduceLeDiff,lcl,q98,z1R,q8h (H:=H3) rfl below g1 g0];refine Res.eq ?_ rfl
   (repeat apply Fr.lays)
   exact Fr.refl _
  ·simp only[df h2,xbf];refine Res.eq ?_ (q3I (q1m ?_))
   ·(repeat apply Fr.lays)
    exact Fr.refl _
   ·cases below
    ·simp only[xbq,if_false];omega
    ·simp only[if_true];omega
 ·simp only[df h3,xbf];refine Res.eq ?_ (q3I (q1m ?_))
  ·(repeat apply Fr.lays)
   exact Fr.refl _
  ·cases below
   ·simp only[xbq,if_false];omega
   ·simp only[if_true];omega
theorem a3u {n d:Int} (h0:0<=n) (h1:n<115792089237316195423570985008687907853269984665640564039457584007913129639936) (hd:0<d) (hd2:d<18446744073709551616) (m:Mem) :
  Res m (run E3 (.fn 160) [.agg (q2H n),.int .u64 d] m) (.tup [.agg (q2H (n / d)),.int .u64 (n % d)]):=by
 obtain⟨z0,z1,z2,z3,e,g0,g1,g2,g3,en⟩:=q62 h0 h1;rw[e];have st:∀r z:Int,0<=r->r<d->0<=z->z<18446744073709551616->0<=(r*18446744073709551616+z) / d/\(r*18446744073709551616+z) / d<18446744073709551616/\0<=(r*18446744073709551616+z) % d/\(r*18446744073709551616+z) % d<d/\
   r*18446744073709551616+z=(r*18446744073709551616+z) / d*d+(r*18446744073709551616+z) % d:=by
  intro r z hr hr2 hz hz2;exact⟨Int.ediv_nonneg (by omega) (by omega),Int.ediv_lt_of_lt_mul hd (by
   have:r*18446744073709551616+18446744073709551616<=d*18446744073709551616:=by omega
   rw[Int.mul_comm 18446744073709551616 d];omega),Int.emod_nonneg _ (by omega),Int.emod_lt_of_pos _ hd,(Int.ediv_mul_add_emod _ _).symm⟩
 obtain⟨u3,hq3⟩:∃u3,u3=(0*18446744073709551616+z3) / d:=⟨_,rfl⟩;obtain⟨r3,hr3⟩:∃r3,r3=(0*18446744073709551616+z3) % d:=⟨_,rfl⟩;have s3:=st 0 z3 (by omega) hd g3.1 g3.2;rw[<-hq3,<-hr3]at s3;obtain⟨u2,hq2⟩:∃u2,u2=(r3*18446744073709551616+z2) / d:=⟨_,rfl⟩;obtain⟨r2,hr2⟩:∃r2,r2=(r3*18446744073709551616+z2) % d:=⟨_,rfl⟩;have s2:=st r3 z2 s3.2.2.1 s3.2.2.2.1 g2.1 g2.2;rw[<-hq2,<-hr2]at s2;obtain⟨u1,hq1⟩:∃u1,u1=(r2*18446744073709551616+z1) / d:=⟨_,rfl⟩
 obtain⟨r1,hr1⟩:∃r1,r1=(r2*18446744073709551616+z1) % d:=⟨_,rfl⟩;have s1:=st r2 z1 s2.2.2.1 s2.2.2.2.1 g1.1 g1.2;rw[<-hq1,<-hr1]at s1;obtain⟨u0,hq0⟩:∃u0,u0=(r1*18446744073709551616+z0) / d:=⟨_,rfl⟩;obtain⟨r0,hr0⟩:∃r0,r0=(r1*18446744073709551616+z0) % d:=⟨_,rfl⟩;have s0:=st r1 z0 s1.2.2.1 s1.2.2.2.1 g0.1 g0.2;rw[<-hq0,<-hr0]at s0;obtain⟨f1,f2⟩:=j2t (d:=d) (p0:=z0) (p1:=z1) (p2:=z2) (p3:=z3) (q3:=u3) (r3:=r3) (q2:=u2) (r2:=r2) (q1:=u1) (r1:=r1) (q0:=u0) (r0:=r0) (by omega) (by omega) (by omega) (by omega) s0.2.2.1 s0.2.2.2.1
 rw[<-en]at f1 f2;rw[q4s ⟨s0.1,s0.2.1⟩ ⟨s1.1,s1.2.1⟩ ⟨s2.1,s2.2.1⟩ ⟨s3.1,s3.2.1⟩ f1,f2];have w1:IntKind.wrap .i64 (3-1)=2:=wrap_i64 (by omega) (by omega);have w2:IntKind.wrap .i64 (2-1)=1:=wrap_i64 (by omega) (by omega);have w3:IntKind.wrap .i64 (1-1)=0:=wrap_i64 (by omega) (by omega);have w4:IntKind.wrap .i64 (0-1)=-1:=wrap_i64 (by omega) (by omega);have c3:decide ((0:Int)<=3)=true:=by decide
 have c2:decide ((0:Int)<=2)=true:=by decide
 have c1:decide ((0:Int)<=1)=true:=by decide
 have c0:decide ((0:Int)<=0)=true:=by decide
 have cm:decide ((0:Int)<=-1)=false:=by decide
 simp only[a0o (H:=H3) rfl,T.f160,pB,q0K,wp,AV.one,AV.cells,lcl];simp only[q38 (H:=H3),T.q8U,p2,q0a,wp,c3];simp only[q5A (H:=H3),T.z1B,p2,q1,p1,q0d,q02,over,AV.cells,Nat.reduceAdd,Nat.reduceLeDiff,lcl,z3G,q5n (H:=H3) rfl (show (0:Int)<=0 by omega) hd hd2 g3,<-hq3,<-hr3];simp only[q5B (H:=H3),T.z1C,p2,wp,w1]
 simp only[q38 (H:=H3),T.q8U,p2,q0a,wp,c2];simp only[q5A (H:=H3),T.z1B,p2,q1,p1,q0d,q02,over,AV.cells,Nat.reduceAdd,Nat.reduceLeDiff,lcl,z3F,q5n (H:=H3) rfl s3.2.2.1 s3.2.2.2.1 hd2 g2,<-hq2,<-hr2];simp only[q5B (H:=H3),T.z1C,p2,wp,w2];simp only[q38 (H:=H3),T.q8U,p2,q0a,wp,c1];simp only[q5A (H:=H3),T.z1B,p2,q1,p1,q0d,q02,over,AV.cells,Nat.reduceAdd,Nat.reduceLeDiff,lcl,z1R,q5n (H:=H3) rfl s2.2.2.1 s2.2.2.2.1 hd2 g1,<-hq1,<-hr1]
 simp only[q5B (H:=H3),T.z1C,p2,wp,w3];simp only[q38 (H:=H3),T.q8U,p2,q0a,wp,c0];simp only[q5A (H:=H3),T.z1B,p2,q1,p1,q0d,q02,over,AV.cells,Nat.reduceAdd,Nat.reduceLeDiff,lcl,q98,q5n (H:=H3) rfl s1.2.2.1 s1.2.2.2.1 hd2 g0,<-hq0,<-hr0];simp only[q5B (H:=H3),T.z1C,p2,wp,w4];simp only[q38 (H:=H3),T.q8U,p2,q0a,wp,cm];simp only[j0Q (H:=H3),T.j8C,q1,q0H,q0I,wp,AV.one,over,AV.cells,Nat.reduceAdd,Nat.reduceLeDiff,lcl]
 refine Res.eq ?_ rfl
 (repeat apply Fr.lays)
 exact Fr.refl _
end
section
set_option maxRecDepth 4000
open Go Go.Abs
def sgI (neg:Bool) (n:Int):Int:=if neg then -n else n
theorem a4u {a:Wd} (ha:a.ok) {p:Int} (hp:0<p) (hp2:p<18446744073709551616) (m:Mem) :
  Res m (run E3 (.fn 165) [.agg a.cells,.agg (Wd.mk 0 p).cells] m) (.tup [.agg (Wd.of (sgI (decide (a.hi<0)) (q1H a.val / p))).cells,.agg (Wd.of (sgI (decide (a.hi<0)) (q1H a.val % p))).cells,.int .i64 0]):=by
 have hA:=q7x ha;have nA:=q59 a.val;have sA:=fun m=>size_at (H:=H3) rfl ha m
 have sP:=fun m=>size_at (H:=H3) rfl (a:=⟨0,p⟩) ⟨by simp,by simp,by simp only;omega,by simp only;omega⟩ m
 have hpv:q1H (Wd.mk 0 p).val=p:=by unfold q1H Wd.val;simp only;split<;>omega
 rw[hpv]at sP;have e1:p / 18446744073709551616=0:=by omega
 have e2:p % 18446744073709551616=p:=by omega
 rw[e1,e2]at sP;obtain⟨ah,al⟩:=a;obtain⟨a1,a2,a3,a4⟩:=ha;simp only[Wd.cells]at sA sP⊢;have hneg:ah<0->q1H (Wd.mk ah al).val<=170141183460469231731687303715884105728:=fun _=>hA
 have hpos:¬ah<0->q1H (Wd.mk ah al).val<170141183460469231731687303715884105728:=by
  intro h;unfold q1H Wd.val;simp only;simp only at a2 a3 a4;split<;>omega
 obtain⟨A,hA'⟩:∃A,A=q1H (Wd.mk ah al).val:=⟨_,rfl⟩;rw[<-hA']at sA hA nA hneg hpos⊢;clear hA';obtain⟨bh,hbh⟩:∃bh,bh=A / 18446744073709551616:=⟨_,rfl⟩;obtain⟨bl,hbl⟩:∃bl,bl=A % 18446744073709551616:=⟨_,rfl⟩;simp only[<-hbh,<-hbl]at sA;have rbh:0<=bh/\bh<18446744073709551616:=by omega
 have rbl:0<=bl/\bl<18446744073709551616:=by omega
 have h1:0<=bh % p/\bh % p<p:=⟨Int.emod_nonneg _ (by omega),Int.emod_lt_of_pos _ hp⟩;have h2:0<=bh / p/\bh / p<=bh:=⟨Int.ediv_nonneg (by omega) (by omega),Int.ediv_le_self _ (by omega)⟩;have h3:bh=bh / p*p+bh % p:=(Int.ediv_mul_add_emod _ _).symm;have t1:bh.tdiv p=bh / p:=Int.tdiv_eq_ediv_of_nonneg rbh.1;have t2:bh.tmod p=bh % p:=Int.tmod_eq_emod_of_nonneg rbh.1;have eA:bh*18446744073709551616+bl=A:=by omega
 generalize bh / p=qh at *;generalize bh % p=rh at *;obtain⟨ql,hql⟩:∃ql,ql=(rh*18446744073709551616+bl) / p:=⟨_,rfl⟩;obtain⟨rl,hrl⟩:∃rl,rl=(rh*18446744073709551616+bl) % p:=⟨_,rfl⟩;have h4:0<=ql/\ql<18446744073709551616:=by
  rw[hql];exact⟨Int.ediv_nonneg (by omega) (by omega),Int.ediv_lt_of_lt_mul hp (by
   have:rh*18446744073709551616+18446744073709551616<=p*18446744073709551616:=by omega
   rw[Int.mul_comm 18446744073709551616 p];omega)⟩
 have h5:0<=rl/\rl<p:=by rw[hrl];exact⟨Int.emod_nonneg _ (by omega),Int.emod_lt_of_pos _ hp⟩
 have h6:rh*18446744073709551616+bl=ql*p+rl:=by rw[hql,hrl];exact(Int.ediv_mul_add_emod _ _).symm
 have e3:A=rl+(qh*18446744073709551616+ql)*p:=by
  have m1:qh*18446744073709551616*p=qh*p*18446744073709551616:=Int.mul_right_comm _ _ _;rw[Int.add_mul,m1];omega
 have e4:A / p=qh*18446744073709551616+ql:=by
  rw[e3,Int.add_mul_ediv_right _ _ (by omega),Int.ediv_eq_zero_of_lt h5.1 h5.2];omega
 have e5:A % p=rl:=by
  rw[e3,Int.add_mul_emod_self_right,Int.emod_eq_of_lt h5.1 h5.2]
 have e6:A / p<=A:=Int.ediv_le_self _ nA;rw[e4,e5]at *;have fit1:Wd.res (if decide (ah<0)=true then -(qh*18446744073709551616+ql) else qh*18446744073709551616+ql)=(Wd.of (sgI (decide (ah<0)) (qh*18446744073709551616+ql)),0):=by
  unfold Wd.res sgI;rw[if_pos];by_cases h:ah<0
  ·simp only[h,decide_true,if_true];have:=hneg h;exact q0V (by omega) (by omega)
  ·simp only[h,decide_false,xbq,if_false];have:=hpos h;exact q0V (by omega) (by omega)
 have fit2:Wd.res (if decide (ah<0)=true then -(0*18446744073709551616+rl) else 0*18446744073709551616+rl)=(Wd.of (sgI (decide (ah<0)) rl),0):=by
  unfold Wd.res sgI;rw[Int.zero_mul,Int.zero_add,if_pos];by_cases h:ah<0
  ·simp only[h,decide_true,if_true];exact q0V (by omega) (by omega)
  ·simp only[h,decide_false,xbq,if_false];exact q0V (by omega) (by omega)
 have sg1:=fun m=>q8h (H:=H3) rfl (decide (ah<0)) (hi:=qh) (lo:=ql) ⟨by omega,by omega⟩ h4 m
 have sg2:=fun m=>q8h (H:=H3) rfl (decide (ah<0)) (hi:=0) (lo:=rl) ⟨by omega,by omega⟩ ⟨by omega,by omega⟩ m
 simp only[fit1]at sg1;simp only[fit2]at sg2;have z0:(!(decide (ah<0)==decide ((0:Int)<0)))=decide (ah<0):=by cases decide (ah<0)<;>rfl
 simp only[a0t (H:=H3) rfl,T.f165,pB,q1,p1,p2,q0o,AV.cells,Nat.reduceAdd,Nat.reduceLeDiff,q0K,q0a,q0H,q0I,q0w,AV.one,over,lcl,q2M,decide_true,Bool.true_and,df (show ¬p=0 by omega)];simp only[j01 (H:=H3),T.j8L,q1,p1,p2,q0d,q0a,q02,Nat.reduceAdd,Nat.reduceLeDiff,lcl,sA,sP,decide_true,q2D _ _ _ _ (show p≠0 by omega),q2a _ _ _ _ (show p≠0 by omega),t1,t2,wrap_u64 (x:=qh) (by omega) (by omega),q5n (H:=H3) rfl h1.1 h1.2 hp2 rbl,<-hql,<-hrl]
 simp only[j02 (H:=H3),T.j8M,p1,q1,p2,q0o,AV.cells,Nat.reduceAdd,Nat.reduceLeDiff,q0d,q0a,q0H,q0I,z6T,Wd.cells,AV.one,over,lcl,z0,sg1,decide_true,xbt];simp only[j03 (H:=H3),T.j8N,p1,q1,p2,q0d,q0H,q0I,Nat.reduceAdd,q0F,Wd.cells,AV.one,over,AV.cells,Nat.reduceLeDiff,lcl,sg2];refine Res.eq ?_ rfl
 (repeat apply Fr.lays)
 exact Fr.refl _
end
section
set_option maxRecDepth 4000
open Go Go.Abs
def S4:List FuncId:=[161,160,163,165]
noncomputable def H4:FuncId->Option (List AV->Mem->R):=q1L E3 S4
noncomputable abbrev E4:Env:=T.EH H4
theorem b1f:q1u E4:=q0Z b1e S4
noncomputable abbrev D4:Do:=T.Rl H4
section
variable {H:FuncId->Option (List AV->Mem->R)}
theorem j2x (h:H 161=some (q0y E3 161)) {a b:Wd} (ha:a.ok) (hb:b.ok) (m:Mem):run (T.EH H) (.fn 161) [.agg a.cells,.agg b.cells] m=some (.agg (q2H (q1H a.val*q1H b.val)),m):=
 q0r h (by simp[AV.flat,AV.lt,AV.lts,q2H]) fun m2 _ _=>z7U ha hb m2
theorem j2r (h:H 160=some (q0y E3 160)) {n d:Int} (h0:0<=n) (h1:n<115792089237316195423570985008687907853269984665640564039457584007913129639936) (hd:0<d) (hd2:d<18446744073709551616) (m:Mem):run (T.EH H) (.fn 160) [.agg (q2H n),.int .u64 d] m=some (.tup [.agg (q2H (n / d)),.int .u64 (n % d)],m):=
 q0r h (by simp[AV.flat,AV.lt,AV.lts,q2H]) fun m2 _ _=>a3u h0 h1 hd hd2 m2
theorem z14 (h:H 163=some (q0y E3 163)) (below:Bool) {n:Int} (h0:0<=n) (h1:n<115792089237316195423570985008687907853269984665640564039457584007913129639936) (m:Mem) :
  run (T.EH H) (.fn 163) [.bool below,.agg (q2H n)] m=some (.tup [.agg (Wd.res (if below then -n else n)).1.cells,.int .i64 (Wd.res (if below then -n else n)).2],m):=
 q0r h (by simp[AV.flat,AV.lt,AV.lts,Wd.cells]) fun m2 _ _=>j2f below h0 h1 m2
theorem a4t (h:H 165=some (q0y E3 165)) {a:Wd} (ha:a.ok) {p:Int} (hp:0<p) (hp2:p<18446744073709551616) (m:Mem) :
  run (T.EH H) (.fn 165) [.agg a.cells,.agg (Wd.mk 0 p).cells] m=some (.tup [.agg (Wd.of (sgI (decide (a.hi<0)) (q1H a.val / p))).cells,.agg (Wd.of (sgI (decide (a.hi<0)) (q1H a.val % p))).cells,.int .i64 0],m):=
 q0r h (by simp[AV.flat,AV.lt,AV.lts,Wd.cells]) fun m2 _ _=>a4u ha hp hp2 m2
end
end
section
set_option maxRecDepth 4000
open Go Go.Abs
theorem q76 {ah al:Int} (h:(Wd.mk ah al).ok):decide (ah<0)=decide ((Wd.mk ah al).val<0):=by
 obtain⟨h1,h2,h3,h4⟩:=h;simp only at h1 h2 h3 h4;unfold Wd.val;by_cases h:ah<0
 ·rw[dt h,dt (by simp only;omega)]
 ·rw[df h,df (by simp only;omega)]
theorem b0X (x y:Int):(if (!(decide (x<0)==decide (y<0)))=true then -(q1H x*q1H y) else q1H x*q1H y)=x*y:=by
 unfold q1H;by_cases h1:x<0<;>by_cases h2:y<0<;>simp[h1,h2,Int.neg_mul,Int.mul_neg]
theorem a4v {a b:Wd} (ha:a.ok) (hb:b.ok) (m:Mem):Res m (run E4 (.fn 149) [.agg a.cells,.agg b.cells] m) (.tup [.agg (Wd.res (a.val*b.val)).1.cells,.int .i64 (Wd.res (a.val*b.val)).2]):=by
 obtain⟨hle1,hle2⟩:=z3O ha hb;have pr:=fun m=>j2x (H:=H4) rfl ha hb m
 have nr:=fun m=>z14 (H:=H4) rfl (!(decide (a.val<0)==decide (b.val<0))) hle1 (by omega) m
 rw[b0X]at nr;obtain⟨ah,al⟩:=a;obtain⟨bh,bl⟩:=b;rw[<-q76 ha,<-q76 hb]at nr;simp only[Wd.cells]at pr nr⊢;simp only[a0i (H:=H4) rfl,T.f149,pB,p1,q1,p2,q0K,q0d,q0H,q0I,Nat.reduceAdd,j9b,AV.one,over,AV.cells,Nat.reduceLeDiff,lcl,pr,nr];refine Res.eq ?_ rfl
 (repeat apply Fr.lays)
 exact Fr.refl _
theorem j6g (t3 t4 t6:AV) (up:Bool) {n:Int} (h0:0<=n) (h1:n+1<115792089237316195423570985008687907853269984665640564039457584007913129639936) (m:Mem) :
  D4.gor 606209 [t3,t4,t6,.ptr (some ⟨m.next,0⟩),.bool up] (m.lay (.cells (q2H n) false))=D4.gor 606213 [t3,t4,t6,.ptr (some ⟨m.next,0⟩)] (m.lay (.cells (q2H (n+if up=true then 1 else 0)) false)):=by
 obtain⟨z0,z1,z2,z3,e,g0,g1,g2,g3,en⟩:=q62 h0 (show n<115792089237316195423570985008687907853269984665640564039457584007913129639936 by omega);have c0:decide ((0:Int)<4)=true:=by decide
 have c1:decide ((1:Int)<4)=true:=by decide
 have c2:decide ((2:Int)<4)=true:=by decide
 have c3:decide ((3:Int)<4)=true:=by decide
 have w1:IntKind.wrap .i64 (0+1)=1:=wrap_i64 (by omega) (by omega);have w2:IntKind.wrap .i64 (1+1)=2:=wrap_i64 (by omega) (by omega);have w3:IntKind.wrap .i64 (2+1)=3:=wrap_i64 (by omega) (by omega);have w4:IntKind.wrap .i64 (3+1)=4:=wrap_i64 (by omega) (by omega);cases up with
 |false=>
  simp only[xbq,if_false,Int.add_zero];simp only[z1t (H:=H4),T.j0u,wp];simp only[q2c (H:=H4),T.q4V,p2,q0a,ifV,wp,c0]
 |true=>
  simp only[if_true];rw[e];simp only[z1t (H:=H4),T.j0u,wp];simp only[q2c (H:=H4),T.q4V,p2,q0a,ifV,wp,c0];simp only[q5y (H:=H4),T.z1u,p2,q1,wp,over,AV.cells,Nat.reduceAdd,Nat.reduceLeDiff,lcl,q98,q0n];by_cases f0:z0+1=18446744073709551616
  ·have e0:(z0+1) % 18446744073709551616=0:=by omega
   simp only[e0,decide_true,q2U (H:=H4),T.q6H,p2,wp,w1];simp only[q2c (H:=H4),T.q4V,p2,q0a,ifV,wp,c1];simp only[q5y (H:=H4),T.z1u,p2,q1,wp,over,AV.cells,Nat.reduceAdd,Nat.reduceLeDiff,lcl,z1R,q0n];by_cases f1:z1+1=18446744073709551616
   ·have e1:(z1+1) % 18446744073709551616=0:=by omega
    simp only[e1,decide_true,q2U (H:=H4),T.q6H,p2,wp,w2];simp only[q2c (H:=H4),T.q4V,p2,q0a,ifV,wp,c2];simp only[q5y (H:=H4),T.z1u,p2,q1,wp,over,AV.cells,Nat.reduceAdd,Nat.reduceLeDiff,lcl,z3F,q0n];by_cases f2:z2+1=18446744073709551616
    ·have e2:(z2+1) % 18446744073709551616=0:=by omega
     simp only[e2,decide_true,q2U (H:=H4),T.q6H,p2,wp,w3];simp only[q2c (H:=H4),T.q4V,p2,q0a,ifV,wp,c3];simp only[q5y (H:=H4),T.z1u,p2,q1,wp,over,AV.cells,Nat.reduceAdd,Nat.reduceLeDiff,lcl,z3G,q0n];have e3:(z3+1) % 18446744073709551616=z3+1:=by omega
     simp only[e3,df (show ¬z3+1=0 by omega),q2U (H:=H4),T.q6H,p2,wp,w4];simp only[q2c (H:=H4),T.q4V,p2,q0a,ifV,wp,df (show ¬(4:Int)<4 by omega)];rw[q4s (p0:=0) (p1:=0) (p2:=0) (p3:=z3+1) (by omega) (by omega) (by omega) (by omega) (by omega)]
    ·have e2:(z2+1) % 18446744073709551616=z2+1:=by omega
     simp only[e2,df (show ¬z2+1=0 by omega),q2U (H:=H4),T.q6H,p2,wp,w3];simp only[q2c (H:=H4),T.q4V,p2,q0a,ifV,wp,c3];rw[q4s (p0:=0) (p1:=0) (p2:=z2+1) (p3:=z3) (by omega) (by omega) (by omega) (by omega) (by omega)]
   ·have e1:(z1+1) % 18446744073709551616=z1+1:=by omega
    simp only[e1,df (show ¬z1+1=0 by omega),q2U (H:=H4),T.q6H,p2,wp,w2];simp only[q2c (H:=H4),T.q4V,p2,q0a,ifV,wp,c2];rw[q4s (p0:=0) (p1:=z1+1) (p2:=z2) (p3:=z3) (by omega) (by omega) (by omega) (by omega) (by omega)]
  ·have e0:(z0+1) % 18446744073709551616=z0+1:=by omega
   simp only[e0,df (show ¬z0+1=0 by omega),q2U (H:=H4),T.q6H,p2,wp,w1];simp only[q2c (H:=H4),T.q4V,p2,q0a,ifV,wp,c1];rw[q4s (p0:=z0+1) (p1:=z1) (p2:=z2) (p3:=z3) (by omega) (by omega) (by omega) (by omega) (by omega)]
theorem a5l (n:Int):(q2H n).all AV.one=true:=rfl
theorem a5k (n:Int):(q2H n).length=4:=rfl
theorem j9I (n:Int):(q2H n).drop 4=[]:=rfl
theorem j9J (n:Int):(q2H n).take 4=q2H n:=rfl
def scF (x y:Int) (k:Nat):Int:=if (!(decide (x<0)==decide (y<0)))=true then -(rhe (q1H x*q1H y) k) else rhe (q1H x*q1H y) k
theorem j20 {a b:Wd} (ha:a.ok) (hb:b.ok) {k:Nat} (hk:k<=36) (m:Mem) :
  Res m (run E4 (.fn 148) [.agg a.cells,.agg b.cells,.int .i64 (k:Int)] m) (.tup [.agg (Wd.res (scF a.val b.val k)).1.cells,.int .i64 (Wd.res (scF a.val b.val k)).2]):=by
 obtain⟨hle1,hle2⟩:=z3O ha hb;have pr:=fun m=>j2x (H:=H4) rfl ha hb m
 have hr0:=j2I hle1 k;have hr1:=j83 hle1 k;have nr:=fun m=>z14 (H:=H4) rfl (!(decide (a.val<0)==decide (b.val<0))) hr0 (by omega) m
 have hsc:(if (!(decide (a.val<0)==decide (b.val<0)))=true then -(rhe (q1H a.val*q1H b.val) k) else rhe (q1H a.val*q1H b.val) k)=scF a.val b.val k:=rfl
 rw[hsc]at nr;clear hsc;obtain⟨lw,hlw⟩:∃lw,lw=min k 18:=⟨_,rfl⟩;have p1':=q1Q lw;have p2':=q1Q (k-lw);have b1':=z0F (k:=lw) (by omega);have b2':=z0F (k:=k-lw) (by omega);obtain⟨P,hP⟩:∃P,P=q1H a.val*q1H b.val:=⟨_,rfl⟩;rw[<-hP]at pr nr hle1 hle2 hr0 hr1;have q0:0<=P / q0J lw/\P / q0J lw<=P:=⟨Int.ediv_nonneg hle1 (by omega),Int.ediv_le_self _ hle1⟩;have o1:=fun m=>j2r (H:=H4) rfl hle1 (by omega) p1' (by omega) m
 have o2:=fun m=>j2r (H:=H4) rfl q0.1 (by omega) p2' (by omega) m
 have r1:0<=P % q0J lw/\P % q0J lw<q0J lw:=⟨Int.emod_nonneg _ (by omega),Int.emod_lt_of_pos _ p1'⟩;have r2:0<=P / q0J lw % q0J (k-lw)/\P / q0J lw % q0J (k-lw)<q0J (k-lw):=⟨Int.emod_nonneg _ (by omega),Int.emod_lt_of_pos _ p2'⟩;have q1:0<=P / q0J lw / q0J (k-lw)/\P / q0J lw / q0J (k-lw)<=P / q0J lw:=⟨Int.ediv_nonneg q0.1 (by omega),Int.ediv_le_self _ q0.1⟩;have t1:=fun m=>j89 (H:=H4) rfl (k:=lw) (by omega) m
 have t2:=fun m=>j89 (H:=H4) rfl (k:=k-lw) (by omega) m
 have hmin:(if (18:Int)<(k:Int) then (18:Int) else (k:Int))=(lw:Int):=by rw[hlw];split<;>omega
 have hsub:IntKind.wrap .i64 ((k:Int)-(lw:Int))=((k-lw:Nat):Int):=by rw[wrap_i64 (by omega) (by omega)];omega
 obtain⟨ah,al⟩:=a;obtain⟨bh,bl⟩:=b;rw[<-q76 ha,<-q76 hb]at nr;simp only[Wd.cells]at pr nr⊢;obtain⟨Q,hQ⟩:∃Q,Q=P / q0J lw / q0J (k-lw):=⟨_,rfl⟩;rw[<-hQ]at q1;simp only[<-hQ]at o2;obtain⟨z0,z1,z2,z3,e,g0,g1,g2,g3,en⟩:=q62 q1.1 (by omega);have hodd:(z0 % 2=1)=(Q % 2=1):=by rw[en];apply propext;constructor<;>intro h<;>omega
 have fin:∀up:Bool,rhe P k=Q+(if up=true then 1 else 0)->
   Res m (D4.gor 606209 [.ptr (some ⟨m.next,0⟩),.ptr (some ⟨m.next+1,0⟩),.ptr (some ⟨m.next+1+1,0⟩),.ptr (some ⟨m.next+1+1+1,0⟩),.bool up]
    ((((m.lay (.cells [.int .i64 ah,.int .u64 al] false)).lay (.cells [.int .i64 bh,.int .u64 bl] false)).lay (.cells [.int .i64 0,.int .u64 0] false)).lay (.cells (q2H Q) false)))
    (.tup [.agg (Wd.res (scF (Wd.mk ah al).val (Wd.mk bh bl).val k)).1.cells,.int .i64 (Wd.res (scF (Wd.mk ah al).val (Wd.mk bh bl).val k)).2]):=by
  intro up hup;have il:=j6g (.ptr (some ⟨m.next,0⟩)) (.ptr (some ⟨m.next+1,0⟩)) (.ptr (some ⟨m.next+1+1,0⟩)) up q1.1 (show Q+1<_ by omega) (((m.lay (.cells [.int .i64 ah,.int .u64 al] false)).lay (.cells [.int .i64 bh,.int .u64 bl] false)).lay (.cells [.int .i64 0,.int .u64 0] false))
  simp only[Mem.q0t]at il;rw[il,<-hup];have ld:∀M:Mem,ldN (M.lay (.cells (q2H (rhe P k)) false)) (.ptr (some ⟨M.next,0⟩)) 4=some (.agg (q2H (rhe P k))):=fun M=>q0A (q0f M _) rfl
  have ld':=ld (((m.lay (.cells [.int .i64 ah,.int .u64 al] false)).lay (.cells [.int .i64 bh,.int .u64 bl] false)).lay (.cells [.int .i64 0,.int .u64 0] false));simp only[Mem.q0t]at ld';simp only[j0v (H:=H4),T.j8n,p1,p2,q0d,q0H,q0I,Nat.reduceAdd,j9b,ld',Wd.cells,AV.one,over,AV.cells,Nat.reduceLeDiff,lcl,nr];refine Res.eq ?_ rfl
  (repeat apply Fr.lays)
  exact Fr.refl _
 rw[e]at fin o2;simp only[a0h (H:=H4) rfl,T.f148,pB,p2,p1,q0o,AV.cells,q0K,q0a,ifV,q0H,q0I,q0w,AV.one,lcl,df (show ¬(k:Int)<0 by omega),df (show ¬(36:Int)<(k:Int) by omega)];have hq1:IntKind.wrap .u64 ((q0J lw).tdiv 2)=q0J lw / 2:=by rw[Int.tdiv_eq_ediv_of_nonneg (by omega),wrap_u64 (by omega) (by omega)]
 have hq2:IntKind.wrap .u64 ((q0J (k-lw)).tdiv 2)=q0J (k-lw) / 2:=by rw[Int.tdiv_eq_ediv_of_nonneg (by omega),wrap_u64 (by omega) (by omega)]
 have ha1:=j3r (P:=Tryz.prog) 26 g0.1 g0.2;have z2:(2:Int)≠0:=by omega
 simp only[j0t (H:=H4),T.j8m,p2,p1,pB,q0d,q0a,ifV,q02,AV.one,over,AV.cells,Nat.reduceAdd,Nat.reduceLeDiff,lcl,b0H,hmin,pr,t1,o1,hsub,t2,a5l,a5k,j9J,j9I,o2,q2D _ _ _ _ z2,hq1,hq2,q98,ha1];by_cases k0:k=0
 ·subst k0;have hl0:lw=0:=by omega
  subst hl0;simp only[dt (show ((0:Nat):Int)=0 by rfl)];refine fin false ?_;have e1:q0J 0=1:=rfl;rw[z6E,hQ,Nat.sub_self,e1,Int.ediv_one,Int.ediv_one];simp
 ·simp only[df (show ¬(k:Int)=0 by omega)];by_cases k1:k<=18
  ·have hl:lw=k:=by omega
   subst hl;simp only[decide_true];have e1:q0J (lw-lw)=1:=by rw[Nat.sub_self];rfl
   have eQ:Q=P / q0J lw:=by rw[hQ,e1,Int.ediv_one]
   have hr:=a3M (n:=P) (k:=lw) (by omega);rw[<-eQ]at hr;by_cases c1:q0J lw / 2<P % q0J lw
   ·simp only[dt c1];exact fin true (by rw[hr,if_pos (.inl c1)];simp)
   ·simp only[df c1];by_cases c2:P % q0J lw=q0J lw / 2
    ·simp only[dt c2];refine fin _ ?_;rw[hr];by_cases c3:z0 % 2=1
     ·rw[if_pos (.inr ⟨c2,Eq.mp hodd c3⟩)];simp[c3]
     ·have c5:¬Q % 2=1:=fun h=>c3 (Eq.mpr hodd h)
      rw[if_neg (by omega)];simp[c3]
    ·simp only[df c2];exact fin false (by rw[hr,if_neg (by omega)];simp)
  ·have hl:lw=18:=by omega
   simp only[df (show ¬(k:Int)=(lw:Int) by omega)];have hr:=a3N (n:=P) lw (k-lw) (by omega) (by omega);rw[show lw+(k-lw)=k by omega,<-hQ]at hr;by_cases c1:q0J (k-lw) / 2<P / q0J lw % q0J (k-lw)
   ·simp only[dt c1];exact fin true (by rw[hr,if_pos (.inl c1)];simp)
   ·simp only[df c1];by_cases c2:P / q0J lw % q0J (k-lw)=q0J (k-lw) / 2
    ·simp only[dt c2];by_cases c4:0<P % q0J lw
     ·simp only[dt c4];exact fin true (by rw[hr,if_pos (.inr ⟨c2,.inl c4⟩)];simp)
     ·simp only[df c4];refine fin _ ?_;rw[hr];by_cases c3:z0 % 2=1
      ·rw[if_pos (.inr ⟨c2,.inr (Eq.mp hodd c3)⟩)];simp[c3]
      ·have c5:¬Q % 2=1:=fun h=>c3 (Eq.mpr hodd h)
       rw[if_neg (by omega)];simp[c3]
    ·simp only[df c2];exact fin false (by rw[hr,if_neg (by omega)];simp)
end
end Go.Proofs.YtlginbmjiecglaaGreatDoor
