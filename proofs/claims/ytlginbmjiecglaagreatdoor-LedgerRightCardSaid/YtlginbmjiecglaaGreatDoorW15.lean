/- Texts of one claim, put together. -/
import Derived.Test.YtlginbmjiecglaaGreatDoorW14
namespace Go.Proofs.YtlginbmjiecglaaGreatDoor
section
set_option maxRecDepth 4000
open Go Go.Abs
def S3:List FuncId:=[21,22,168,166,54,93,20,167,170,162,146,132]
noncomputable def H3:FuncId->Option (List AV->Mem->R):=q1y E2 S3
noncomputable abbrev E3:Env:=T.EH H3
theorem a7R:q1i E3:=q0Q a7Q S3
section
variable {H:FuncId->Option (List AV->Mem->R)}
theorem j48 (h:H 21=some (q0x E2 21)) {a b:Wd} (ha:a.ok) (hb:b.ok) (m:Mem):run (T.EH H) (.fn 21) [.agg a.cells,.agg b.cells] m=some (.tup [.agg (Wd.res (a.val+b.val)).1.cells,.int .i64 (Wd.res (a.val+b.val)).2],m):=
 q0s h (by simp[AV.flat,AV.lt,AV.lts,Wd.cells]) fun m2 _ _=>a1o a b ha hb m2
theorem q9q (h:H 168=some (q0x E2 168)) {x y:Int} (hx:0<=x/\x<18446744073709551616) (hy:0<=y/\y<18446744073709551616) (m:Mem):run (T.EH H) (.fn 168) [.int .u64 x,.int .u64 y] m=some (.tup [.int .u64 (x*y / 18446744073709551616),.int .u64 (x*y % 18446744073709551616)],m):=
 q0s h (by simp[AV.flat,AV.lt,AV.lts]) fun m2 _ _=>⟨m2,j4a hx.1 hx.2 hy.1 hy.2 m2,Fr.refl _⟩
theorem j1p (h:H 166=some (q0x E2 166)) {hi lo y:Int} (h0:0<=hi) (hlt:hi<y) (hy:y<18446744073709551616) (hl:0<=lo/\lo<18446744073709551616) (m:Mem):run (T.EH H) (.fn 166) [.int .u64 hi,.int .u64 lo,.int .u64 y] m=some (.tup [.int .u64 ((hi*18446744073709551616+lo) / y),.int .u64 ((hi*18446744073709551616+lo) % y)],m):=
 q0s h (by simp[AV.flat,AV.lt,AV.lts]) fun m2 _ _=>⟨m2,j1q h0 hlt hy hl.1 hl.2 m2,Fr.refl _⟩
theorem a7f (h:H 54=some (q0x E2 54)) {n:Int} (h1:-9223372036854775808<=n) (h2:n<9223372036854775808) (m:Mem):run (T.EH H) (.fn 54) [.int .i64 n] m=some (.agg (Wd.of n).cells,m):=
 q0s h (by simp[AV.flat,AV.lt,AV.lts,Wd.cells]) fun m2 _ _=>a8U h1 h2 m2
theorem q7m (h:H 93=some (q0x E2 93)) {a:Wd} (ha:a.ok) (m:Mem):run (T.EH H) (.fn 93) [.agg a.cells] m=some (.int .i64 (sgn a.val),m):=
 q0s h (by simp[AV.flat,AV.lt]) fun m2 _ _=>a0E ha m2
theorem a1v (h:H 20=some (q0x E2 20)) {a b:Wd} (ha:a.ok) (hb:b.ok) (m:Mem):run (T.EH H) (.fn 20) [.agg a.cells,.agg b.cells] m=some (.int .i64 (sgn (a.val-b.val)),m):=
 q0s h (by simp[AV.flat,AV.lt]) fun m2 _ _=>a1w ha hb m2
theorem size_at (h:H 167=some (q0x E2 167)) {a:Wd} (ha:a.ok) (m:Mem):run (T.EH H) (.fn 167) [.agg a.cells] m=some (.tup [.int .u64 (q1F a.val / 18446744073709551616),.int .u64 (q1F a.val % 18446744073709551616)],m):=
 q0s h (by simp[AV.flat,AV.lt,AV.lts]) fun m2 _ _=>a0F ha m2
theorem q7n (h:H 170=some (q0x E2 170)) (below:Bool) {hi lo:Int} (h1:0<=hi/\hi<18446744073709551616) (h3:0<=lo/\lo<18446744073709551616) (m:Mem) :
  run (T.EH H) (.fn 170) [.bool below,.int .u64 hi,.int .u64 lo] m=some (.tup [.agg (Wd.res (if below then -(hi*18446744073709551616+lo) else hi*18446744073709551616+lo)).1.cells,.int .i64 (Wd.res (if below then -(hi*18446744073709551616+lo) else hi*18446744073709551616+lo)).2],m):=
 q0s h (by simp[AV.flat,AV.lt,AV.lts,Wd.cells]) fun m2 _ _=>j0N below h1.1 h1.2 h3.1 h3.2 m2
theorem q6N (h:H 132=some (q0x E2 132)) (w:Wd) (s:Int) (m:Mem):run (T.EH H) (.fn 132) [.agg (q0H w s)] m=some (.bool (decide (0<=s/\s<=18)),m):=
 q0s h (by simp[AV.flat,AV.lt]) fun m2 _ _=>z6H w s m2
end
theorem q89 {H:FuncId->Option (List AV->Mem->R)} (h:H 59=some q4w) {x y c:Int} (m:Mem) (hh:0<=x/\0<=y/\0<=c/\c<=1):run (T.EH H) (.fn 59) [.int .u64 x,.int .u64 y,.int .u64 c] m=some (.tup [.int .u64 ((x+y+c) % 18446744073709551616),.int .u64 ((x+y+c) / 18446744073709551616)],m):=by
 rw[q00 (h:=q4w) h];simp only[q4w,if_pos hh]
end
section
set_option maxRecDepth 4000
open Go Go.Abs
theorem z96 {x y z0 z1 z2 z3:Int} (hx:0<=x/\x<18446744073709551616) (hy:0<=y/\y<18446744073709551616) (h0:0<=z0/\z0<18446744073709551616) (h1:0<=z1/\z1<18446744073709551616) (h2:0<=z2/\z2<18446744073709551616) (h3:0<=z3/\z3<18446744073709551616)
  (hs:z3*340282366920938463463374607431768211456+z2*18446744073709551616+z1+x*y<6277101735386680763835789423207666416102355444464034512896) (m:Mem) :
  run E3 (.fn 169) [.int .u64 x,.int .u64 y,.int .i64 1,.ptr (some ⟨m.next,0⟩)] (m.lay (.cells [.int .u64 z0,.int .u64 z1,.int .u64 z2,.int .u64 z3] false)) =
   some (.undef,m.lay (.cells [.int .u64 z0,.int .u64 ((z1+x*y) % 18446744073709551616),.int .u64 ((z2*18446744073709551616+z1+x*y) / 18446744073709551616 % 18446744073709551616),.int .u64 (z3+(z2*18446744073709551616+z1+x*y) / 340282366920938463463374607431768211456)] false)):=by
 have hm:=z5o hx.1 hx.2 hy.1 hy.2;have w2:IntKind.wrap .i64 (1+1)=2:=wrap_i64 (by omega) (by omega);have w3:IntKind.wrap .i64 (1+2)=3:=wrap_i64 (by omega) (by omega);simp only[q8E (H:=H3) rfl,T.f169,p1,p2,q1,q0l,q0b,q3N,lcl,q9q (H:=H3) rfl hx hy,w2,w3,z5h,z9B,z9C];generalize x*y=t at *;obtain⟨c,hc⟩:∃c,c=(z1+t % 18446744073709551616+0) / 18446744073709551616:=⟨_,rfl⟩
 obtain⟨c2,hc2⟩:∃c2,c2=(z2+t / 18446744073709551616+c) / 18446744073709551616:=⟨_,rfl⟩;simp only[q89 (H:=H3) rfl _ (show 0<=z1/\0<=t % 18446744073709551616/\(0:Int)<=0/\(0:Int)<=1 by omega),<-hc,over,AV.cells,Nat.reduceAdd,Nat.reduceLeDiff,lcl,q89 (H:=H3) rfl _ (show 0<=z2/\0<=t / 18446744073709551616/\0<=c/\c<=1 by omega),<-hc2,dt (show (3:Int)<4 by omega),q8E (H:=H3) rfl,q3N]
 rw[wrap_u64 (x:=z3+c2) (by omega) (by omega),show (z1+t % 18446744073709551616+0) % 18446744073709551616=(z1+t) % 18446744073709551616 by omega,show (z2+t / 18446744073709551616+c) % 18446744073709551616=(z2*18446744073709551616+z1+t) / 18446744073709551616 % 18446744073709551616 by omega,
  show z3+c2=z3+(z2*18446744073709551616+z1+t) / 340282366920938463463374607431768211456 by omega]
theorem j97 {x y z0 z1 z2 z3:Int} (hx:0<=x/\x<18446744073709551616) (hy:0<=y/\y<18446744073709551616) (h0:0<=z0/\z0<18446744073709551616) (h1:0<=z1/\z1<18446744073709551616) (h2:0<=z2/\z2<18446744073709551616) (h3:0<=z3/\z3<18446744073709551616)
  (m:Mem) :
  run E3 (.fn 169) [.int .u64 x,.int .u64 y,.int .i64 2,.ptr (some ⟨m.next,0⟩)] (m.lay (.cells [.int .u64 z0,.int .u64 z1,.int .u64 z2,.int .u64 z3] false)) =
   some (.undef,m.lay (.cells [.int .u64 z0,.int .u64 z1,.int .u64 ((z2+x*y) % 18446744073709551616),.int .u64 ((z3*18446744073709551616+z2+x*y) / 18446744073709551616 % 18446744073709551616)] false)):=by
 have hm:=z5o hx.1 hx.2 hy.1 hy.2;have w2:IntKind.wrap .i64 (2+1)=3:=wrap_i64 (by omega) (by omega);have w3:IntKind.wrap .i64 (2+2)=4:=wrap_i64 (by omega) (by omega);simp only[q8E (H:=H3) rfl,T.f169,p1,p2,q1,q0l,q0b,q3N,lcl,q9q (H:=H3) rfl hx hy,w2,w3,z9B,z9C];generalize x*y=t at *;obtain⟨c,hc⟩:∃c,c=(z2+t % 18446744073709551616+0) / 18446744073709551616:=⟨_,rfl⟩
 simp only[q89 (H:=H3) rfl _ (show 0<=z2/\0<=t % 18446744073709551616/\(0:Int)<=0/\(0:Int)<=1 by omega),<-hc,over,AV.cells,Nat.reduceAdd,Nat.reduceLeDiff,lcl,q89 (H:=H3) rfl _ (show 0<=z3/\0<=t / 18446744073709551616/\0<=c/\c<=1 by omega),df (show ¬(4:Int)<4 by omega),q8E (H:=H3) rfl,q3N];rw[show (z2+t % 18446744073709551616+0) % 18446744073709551616=(z2+t) % 18446744073709551616 by omega,show (z3+t / 18446744073709551616+c) % 18446744073709551616=(z3*18446744073709551616+z2+t) / 18446744073709551616 % 18446744073709551616 by omega]
theorem q5A (n:Int):0<=q1F n:=by unfold q1F;split<;>omega
theorem q6G {a:Wd} (ha:a.ok):q1F a.val<=170141183460469231731687303715884105728:=by
 obtain⟨h1,h2,h3,h4⟩:=ha;unfold q1F Wd.val;split<;>omega
theorem z98 {a b:Wd} (ha:a.ok) (hb:b.ok):0<=q1F a.val*q1F b.val/\q1F a.val*q1F b.val<=28948022309329048855892746252171976963317496166410141009864396001978282409984:=by
 refine⟨Int.mul_nonneg (q5A _) (q5A _),?_⟩;have h1:q1F a.val*q1F b.val<=170141183460469231731687303715884105728*q1F b.val:=Int.mul_le_mul_of_nonneg_right (q6G ha) (q5A _);have h2:=q6G hb;omega
theorem z5s {a b:Wd} (ha:a.ok) (hb:b.ok) (m:Mem):Res m (run E3 (.fn 161) [.agg a.cells,.agg b.cells] m) (.agg (q8A (q1F a.val*q1F b.val))):=by
 obtain⟨hle1,hle2⟩:=z98 ha hb;have hA:=q6G ha;have hB:=q6G hb;have nA:=q5A a.val;have nB:=q5A b.val;have sA:=fun m=>size_at (H:=H3) rfl ha m
 have sB':=fun m=>size_at (H:=H3) rfl hb m
 obtain⟨ac,hac⟩:∃ac,ac=a.cells:=⟨_,rfl⟩;obtain⟨bc,hbc⟩:∃bc,bc=b.cells:=⟨_,rfl⟩;have lac:ac.length=2:=by rw[hac];rfl
 have lbc:bc.length=2:=by rw[hbc];rfl
 have oac:ac.all AV.one=true:=by rw[hac];rfl
 have obc:bc.all AV.one=true:=by rw[hbc];rfl
 rw[<-hac]at sA;rw[<-hbc]at sB';rw[<-hac,<-hbc];obtain⟨A,hA'⟩:∃A,A=q1F a.val:=⟨_,rfl⟩;obtain⟨B,hB'⟩:∃B,B=q1F b.val:=⟨_,rfl⟩;rw[<-hA']at sA hle1 hle2 hA nA⊢;rw[<-hB']at sB' hle1 hle2 hB nB⊢;clear hac hbc hA' hB';obtain⟨ah,hah⟩:∃ah,ah=A / 18446744073709551616:=⟨_,rfl⟩;obtain⟨al,hal⟩:∃al,al=A % 18446744073709551616:=⟨_,rfl⟩;obtain⟨bh,hbh⟩:∃bh,bh=B / 18446744073709551616:=⟨_,rfl⟩;obtain⟨bl,hbl⟩:∃bl,bl=B % 18446744073709551616:=⟨_,rfl⟩
 simp only[<-hah,<-hal]at sA;simp only[<-hbh,<-hbl]at sB';have rah:0<=ah/\ah<18446744073709551616:=by omega
 have ral:0<=al/\al<18446744073709551616:=by omega
 have rbh:0<=bh/\bh<18446744073709551616:=by omega
 have rbl:0<=bl/\bl<18446744073709551616:=by omega
 have eP:A*B=ah*bh*340282366920938463463374607431768211456+(al*bh+ah*bl)*18446744073709551616+al*bl:=by
  rw[<-z9P];congr 1<;>omega
 have t0:=z5o ral.1 ral.2 rbl.1 rbl.2;have t1:=z5o ral.1 ral.2 rbh.1 rbh.2;have t2:=z5o rah.1 rah.2 rbl.1 rbl.2;have t3:=z5o rah.1 rah.2 rbh.1 rbh.2;obtain⟨w0,hw0⟩:∃w0,w0=al*bl % 18446744073709551616:=⟨_,rfl⟩;obtain⟨w1,hw1⟩:∃w1,w1=al*bl / 18446744073709551616:=⟨_,rfl⟩;have k1:=fun m=>z96 (x:=al) (y:=bh) (z0:=w0) (z1:=w1) (z2:=0) (z3:=0) ral rbh (by omega) (by omega) (by omega) (by omega) (by omega) m
 obtain⟨x1,hx1⟩:∃x1,x1=(w1+al*bh) % 18446744073709551616:=⟨_,rfl⟩;obtain⟨x2,hx2⟩:∃x2,x2=(0*18446744073709551616+w1+al*bh) / 18446744073709551616 % 18446744073709551616:=⟨_,rfl⟩;obtain⟨x3,hx3⟩:∃x3,x3=0+(0*18446744073709551616+w1+al*bh) / 340282366920938463463374607431768211456:=⟨_,rfl⟩;simp only[<-hx1,<-hx2,<-hx3]at k1;have k2:=fun m=>z96 (x:=ah) (y:=bl) (z0:=w0) (z1:=x1) (z2:=x2) (z3:=x3) rah rbl (by omega) (by omega) (by omega) (by omega) (by omega) m
 obtain⟨y1,hy1⟩:∃y1,y1=(x1+ah*bl) % 18446744073709551616:=⟨_,rfl⟩;obtain⟨y2,hy2⟩:∃y2,y2=(x2*18446744073709551616+x1+ah*bl) / 18446744073709551616 % 18446744073709551616:=⟨_,rfl⟩;obtain⟨y3,hy3⟩:∃y3,y3=x3+(x2*18446744073709551616+x1+ah*bl) / 340282366920938463463374607431768211456:=⟨_,rfl⟩;simp only[<-hy1,<-hy2,<-hy3]at k2;have k3:=fun m=>j97 (x:=ah) (y:=bh) (z0:=w0) (z1:=y1) (z2:=y2) (z3:=y3) rah rbh (by omega) (by omega) (by omega) (by omega) m
 obtain⟨v2,hv2⟩:∃v2,v2=(y2+ah*bh) % 18446744073709551616:=⟨_,rfl⟩;obtain⟨v3,hv3⟩:∃v3,v3=(y3*18446744073709551616+y2+ah*bh) / 18446744073709551616 % 18446744073709551616:=⟨_,rfl⟩;simp only[<-hv2,<-hv3]at k3;have hd:q8A (A*B)=[.int .u64 w0,.int .u64 y1,.int .u64 v2,.int .u64 v3]:=by
  apply j1o (by omega) (by omega) (by omega) (by omega);rw[eP];generalize al*bl=q0 at *;generalize al*bh=q1 at *;generalize ah*bl=q2 at *;generalize ah*bh=q3 at *;have e1:w1*18446744073709551616+w0=q0:=by omega
  have e2:x3*340282366920938463463374607431768211456+x2*18446744073709551616+x1=w1+q1:=by omega
  have e3:y3*340282366920938463463374607431768211456+y2*18446744073709551616+y1=x3*340282366920938463463374607431768211456+x2*18446744073709551616+x1+q2:=by omega
  have e4:v3*18446744073709551616+v2=y3*18446744073709551616+y2+q3:=by omega
  omega
 rw[hd];have k1:=k1 (((m.lay (.cells ac false)).lay (.cells bc false)).lay (.cells [.int .u64 0,.int .u64 0,.int .u64 0,.int .u64 0] false));have k2:=k2 (((m.lay (.cells ac false)).lay (.cells bc false)).lay (.cells [.int .u64 0,.int .u64 0,.int .u64 0,.int .u64 0] false));have k3:=k3 (((m.lay (.cells ac false)).lay (.cells bc false)).lay (.cells [.int .u64 0,.int .u64 0,.int .u64 0,.int .u64 0] false))
 simp only[Mem.q0q]at k1 k2 k3;simp only[j7I (H:=H3) rfl,T.f161,pB,q1,p1,p2,q0N,q0l,q0S,q0V,q3N,oac,obc,AV.one,over,AV.cells,Nat.reduceAdd,Nat.reduceLeDiff,lcl,lac,lbc,xtl (show ac.length<=2 by omega),xtl (show bc.length<=2 by omega),sA,sB',q9q (H:=H3) rfl ral rbl,<-hw0,<-hw1,z5g,z5h,q3P,List.append_nil,List.nil_append,List.cons_append,k1,k2,k3];refine Res.eq ?_ rfl
 (repeat apply Fr.lays)
 exact Fr.refl _
theorem z9S (below:Bool) {n:Int} (h0:0<=n) (h1:n<115792089237316195423570985008687907853269984665640564039457584007913129639936) (m:Mem) :
  Res m (run E3 (.fn 163) [.bool below,.agg (q8A n)] m) (.tup [.agg (Wd.res (if below then -n else n)).1.cells,.int .i64 (Wd.res (if below then -n else n)).2]):=by
 obtain⟨z0,z1,z2,z3,e,g0,g1,g2,g3,en⟩:=j1n h0 h1;rw[e];simp only[j7J (H:=H3) rfl,T.f163,pB,p2,q1,p1,q0n,AV.cells,Nat.reduceAdd,Nat.reduceLeDiff,q0N,q0b,ifV,q0S,q0V,q0B,Wd.cells,AV.one,over,lcl,z9B,z9C];by_cases h3:z3=0
 ·simp only[dt h3,xbt];by_cases h2:z2=0
  ·simp only[dt h2,xbt];have en2:n=z1*18446744073709551616+z0:=by omega
   rw[en2];simp only[z8o (H:=H3),T.j56,p2,q1,p1,q0l,q0S,q0V,q3N,Wd.cells,AV.one,over,AV.cells,Nat.reduceAdd,Nat.reduceLeDiff,lcl,z5g,z5h,q7n (H:=H3) rfl below g1 g0];refine Res.eq ?_ rfl
   (repeat apply Fr.lays)
   exact Fr.refl _
  ·simp only[df h2,xbf];refine Res.eq ?_ (q4q (q1q ?_))
   ·(repeat apply Fr.lays)
    exact Fr.refl _
   ·cases below
    ·simp only[xbq,if_false];omega
    ·simp only[if_true];omega
 ·simp only[df h3,xbf];refine Res.eq ?_ (q4q (q1q ?_))
  ·(repeat apply Fr.lays)
   exact Fr.refl _
  ·cases below
   ·simp only[xbq,if_false];omega
   ·simp only[if_true];omega
end
section
set_option maxRecDepth 4000
open Go Go.Abs
def sgI (neg:Bool) (n:Int):Int:=if neg then -n else n
theorem a0T {a:Wd} (ha:a.ok) {p:Int} (hp:0<p) (hp2:p<18446744073709551616) (m:Mem) :
  Res m (run E3 (.fn 165) [.agg a.cells,.agg (Wd.mk 0 p).cells] m) (.tup [.agg (Wd.of (sgI (decide (a.hi<0)) (q1F a.val / p))).cells,.agg (Wd.of (sgI (decide (a.hi<0)) (q1F a.val % p))).cells,.int .i64 0]):=by
 have hA:=q6G ha;have nA:=q5A a.val;have sA:=fun m=>size_at (H:=H3) rfl ha m
 have sP:=fun m=>size_at (H:=H3) rfl (a:=⟨0,p⟩) ⟨by simp,by simp,by simp only;omega,by simp only;omega⟩ m
 have hpv:q1F (Wd.mk 0 p).val=p:=by unfold q1F Wd.val;simp only;split<;>omega
 rw[hpv]at sP;have e1:p / 18446744073709551616=0:=by omega
 have e2:p % 18446744073709551616=p:=by omega
 rw[e1,e2]at sP;obtain⟨ah,al⟩:=a;obtain⟨a1,a2,a3,a4⟩:=ha;simp only[Wd.cells]at sA sP⊢;have hneg:ah<0->q1F (Wd.mk ah al).val<=170141183460469231731687303715884105728:=fun _=>hA
 have hpos:¬ah<0->q1F (Wd.mk ah al).val<170141183460469231731687303715884105728:=by
  intro h;unfold q1F Wd.val;simp only;simp only at a2 a3 a4;split<;>omega
 obtain⟨A,hA'⟩:∃A,A=q1F (Wd.mk ah al).val:=⟨_,rfl⟩;rw[<-hA']at sA hA nA hneg hpos⊢;clear hA';obtain⟨bh,hbh⟩:∃bh,bh=A / 18446744073709551616:=⟨_,rfl⟩;obtain⟨bl,hbl⟩:∃bl,bl=A % 18446744073709551616:=⟨_,rfl⟩;simp only[<-hbh,<-hbl]at sA;have rbh:0<=bh/\bh<18446744073709551616:=by omega
 have rbl:0<=bl/\bl<18446744073709551616:=by omega
 have h1:0<=bh % p/\bh % p<p:=⟨Int.emod_nonneg _ (by omega),Int.emod_lt_of_pos _ hp⟩;have h2:0<=bh / p/\bh / p<=bh:=⟨Int.ediv_nonneg (by omega) (by omega),Int.ediv_le_self _ (by omega)⟩;have h3:bh=bh / p*p+bh % p:=(Int.ediv_mul_add_emod _ _).symm;have t1:bh.tdiv p=bh / p:=Int.tdiv_eq_ediv_of_nonneg rbh.1;have t2:bh.tmod p=bh % p:=Int.tmod_eq_emod_of_nonneg rbh.1;have eA:bh*18446744073709551616+bl=A:=by omega
 generalize bh / p=qh at *;generalize bh % p=rh at *;obtain⟨ql,hql⟩:∃ql,ql=(rh*18446744073709551616+bl) / p:=⟨_,rfl⟩;obtain⟨rl,hrl⟩:∃rl,rl=(rh*18446744073709551616+bl) % p:=⟨_,rfl⟩;have h4:0<=ql/\ql<18446744073709551616:=by
  rw[hql];exact⟨Int.ediv_nonneg (by omega) (by omega),Int.ediv_lt_of_lt_mul hp (by
   have:rh*18446744073709551616+18446744073709551616<=p*18446744073709551616:=by omega
   rw[Int.mul_comm 18446744073709551616 p];omega)⟩
 have h5:0<=rl/\rl<p:=by rw[hrl];exact⟨Int.emod_nonneg _ (by omega),Int.emod_lt_of_pos _ hp⟩
 have h6:rh*18446744073709551616+bl=ql*p+rl:=by rw[hql,hrl];exact(Int.ediv_mul_add_emod _ _).symm
 have e3:A=rl+(qh*18446744073709551616+ql)*p:=by
  have m1:qh*18446744073709551616*p=qh*p*18446744073709551616:=Int.mul_right_comm _ _ _;rw[Int.add_mul,m1];omega
 have e4:A / p=qh*18446744073709551616+ql:=by
  rw[e3,Int.add_mul_ediv_right _ _ (by omega),Int.ediv_eq_zero_of_lt h5.1 h5.2];omega
 have e5:A % p=rl:=by
  rw[e3,Int.add_mul_emod_self_right,Int.emod_eq_of_lt h5.1 h5.2]
 have e6:A / p<=A:=Int.ediv_le_self _ nA;rw[e4,e5]at *;have fit1:Wd.res (if decide (ah<0)=true then -(qh*18446744073709551616+ql) else qh*18446744073709551616+ql)=(Wd.of (sgI (decide (ah<0)) (qh*18446744073709551616+ql)),0):=by
  unfold Wd.res sgI;rw[if_pos];by_cases h:ah<0
  ·simp only[h,decide_true,if_true];have:=hneg h;exact q0X (by omega) (by omega)
  ·simp only[h,decide_false,xbq,if_false];have:=hpos h;exact q0X (by omega) (by omega)
 have fit2:Wd.res (if decide (ah<0)=true then -(0*18446744073709551616+rl) else 0*18446744073709551616+rl)=(Wd.of (sgI (decide (ah<0)) rl),0):=by
  unfold Wd.res sgI;rw[Int.zero_mul,Int.zero_add,if_pos];by_cases h:ah<0
  ·simp only[h,decide_true,if_true];exact q0X (by omega) (by omega)
  ·simp only[h,decide_false,xbq,if_false];exact q0X (by omega) (by omega)
 have sg1:=fun m=>q7n (H:=H3) rfl (decide (ah<0)) (hi:=qh) (lo:=ql) ⟨by omega,by omega⟩ h4 m
 have sg2:=fun m=>q7n (H:=H3) rfl (decide (ah<0)) (hi:=0) (lo:=rl) ⟨by omega,by omega⟩ ⟨by omega,by omega⟩ m
 simp only[fit1]at sg1;simp only[fit2]at sg2;have z0:(!(decide (ah<0)==decide ((0:Int)<0)))=decide (ah<0):=by cases decide (ah<0)<;>rfl
 simp only[j7L (H:=H3) rfl,T.f165,pB,q1,p1,p2,q0n,AV.cells,Nat.reduceAdd,Nat.reduceLeDiff,q0N,q0b,q0S,q0V,q0B,AV.one,over,lcl,q2g,decide_true,Bool.true_and,df (show ¬p=0 by omega)];simp only[z8u (H:=H3),T.j6b,q1,p1,p2,q0l,q0b,q3N,Nat.reduceAdd,Nat.reduceLeDiff,lcl,sA,sP,decide_true,q26 _ _ _ _ (show p≠0 by omega),q27 _ _ _ _ (show p≠0 by omega),t1,t2,wrap_u64 (x:=qh) (by omega) (by omega),j1p (H:=H3) rfl h1.1 h1.2 hp2 rbl,<-hql,<-hrl]
 simp only[z8v (H:=H3),T.j6c,p1,q1,p2,q0n,AV.cells,Nat.reduceAdd,Nat.reduceLeDiff,q0l,q0b,q0S,q0V,j0Z,Wd.cells,AV.one,over,lcl,z0,sg1,decide_true,xbt];simp only[z8w (H:=H3),T.j6d,p1,q1,p2,q0l,q0S,q0V,Nat.reduceAdd,q1b,Wd.cells,AV.one,over,AV.cells,Nat.reduceLeDiff,lcl,sg2];refine Res.eq ?_ rfl
 (repeat apply Fr.lays)
 exact Fr.refl _
end
section
set_option maxRecDepth 4000
open Go Go.Abs
def S4:List FuncId:=[161,160,163,165]
noncomputable def H4:FuncId->Option (List AV->Mem->R):=q1y E3 S4
noncomputable abbrev E4:Env:=T.EH H4
theorem a7S:q1i E4:=q0Q a7R S4
section
variable {H:FuncId->Option (List AV->Mem->R)}
theorem j98 (h:H 161=some (q0x E3 161)) {a b:Wd} (ha:a.ok) (hb:b.ok) (m:Mem):run (T.EH H) (.fn 161) [.agg a.cells,.agg b.cells] m=some (.agg (q8A (q1F a.val*q1F b.val)),m):=
 q0s h (by simp[AV.flat,AV.lt,AV.lts,q8A]) fun m2 _ _=>z5s ha hb m2
theorem z9R (h:H 163=some (q0x E3 163)) (below:Bool) {n:Int} (h0:0<=n) (h1:n<115792089237316195423570985008687907853269984665640564039457584007913129639936) (m:Mem) :
  run (T.EH H) (.fn 163) [.bool below,.agg (q8A n)] m=some (.tup [.agg (Wd.res (if below then -n else n)).1.cells,.int .i64 (Wd.res (if below then -n else n)).2],m):=
 q0s h (by simp[AV.flat,AV.lt,AV.lts,Wd.cells]) fun m2 _ _=>z9S below h0 h1 m2
theorem a0S (h:H 165=some (q0x E3 165)) {a:Wd} (ha:a.ok) {p:Int} (hp:0<p) (hp2:p<18446744073709551616) (m:Mem) :
  run (T.EH H) (.fn 165) [.agg a.cells,.agg (Wd.mk 0 p).cells] m=some (.tup [.agg (Wd.of (sgI (decide (a.hi<0)) (q1F a.val / p))).cells,.agg (Wd.of (sgI (decide (a.hi<0)) (q1F a.val % p))).cells,.int .i64 0],m):=
 q0s h (by simp[AV.flat,AV.lt,AV.lts,Wd.cells]) fun m2 _ _=>a0T ha hp hp2 m2
end
end
section
set_option maxRecDepth 4000
open Go Go.Abs
theorem z18 {ah al:Int} (h:(Wd.mk ah al).ok):decide (ah<0)=decide ((Wd.mk ah al).val<0):=by
 obtain⟨h1,h2,h3,h4⟩:=h;simp only at h1 h2 h3 h4;unfold Wd.val;by_cases h:ah<0
 ·rw[dt h,dt (by simp only;omega)]
 ·rw[df h,df (by simp only;omega)]
theorem a7w (x y:Int):(if (!(decide (x<0)==decide (y<0)))=true then -(q1F x*q1F y) else q1F x*q1F y)=x*y:=by
 unfold q1F;by_cases h1:x<0<;>by_cases h2:y<0<;>simp[h1,h2,Int.neg_mul,Int.mul_neg]
theorem a0V {a b:Wd} (ha:a.ok) (hb:b.ok) (m:Mem):Res m (run E4 (.fn 149) [.agg a.cells,.agg b.cells] m) (.tup [.agg (Wd.res (a.val*b.val)).1.cells,.int .i64 (Wd.res (a.val*b.val)).2]):=by
 obtain⟨hle1,hle2⟩:=z98 ha hb;have pr:=fun m=>j98 (H:=H4) rfl ha hb m
 have nr:=fun m=>z9R (H:=H4) rfl (!(decide (a.val<0)==decide (b.val<0))) hle1 (by omega) m
 rw[a7w]at nr;obtain⟨ah,al⟩:=a;obtain⟨bh,bl⟩:=b;rw[<-z18 ha,<-z18 hb]at nr;simp only[Wd.cells]at pr nr⊢;simp only[j7D (H:=H4) rfl,T.f149,pB,p1,q1,p2,q0N,q0l,q0S,q0V,Nat.reduceAdd,a7G,AV.one,over,AV.cells,Nat.reduceLeDiff,lcl,pr,nr];refine Res.eq ?_ rfl
 (repeat apply Fr.lays)
 exact Fr.refl _
def scF (x y:Int) (k:Nat):Int:=if (!(decide (x<0)==decide (y<0)))=true then -(rhe (q1F x*q1F y) k) else rhe (q1F x*q1F y) k
end
noncomputable section
set_option maxRecDepth 4000
open Go Go.Abs
def S5:List FuncId:=[149,148]
def H5:FuncId->Option (List AV->Mem->R):=q1y E4 S5
abbrev E5:Env:=T.EH H5
theorem a7T:q1i E5:=q0Q a7S S5
abbrev D5:Do:=T.Rl H5
section
variable {H:FuncId->Option (List AV->Mem->R)}
theorem a0U (h:H 149=some (q0x E4 149)) {a b:Wd} (ha:a.ok) (hb:b.ok) (m:Mem):run (T.EH H) (.fn 149) [.agg a.cells,.agg b.cells] m=some (.tup [.agg (Wd.res (a.val*b.val)).1.cells,.int .i64 (Wd.res (a.val*b.val)).2],m):=
 q0s h (by simp[AV.flat,AV.lt,AV.lts,Wd.cells]) fun m2 _ _=>a0V ha hb m2
end
theorem j0R {k:Nat} (h:k<=38):q2S k<=100000000000000000000000000000000000000:=by
 have h1:=j4Y k (38-k);rw[show k+(38-k)=38 by omega,show q2S 38=100000000000000000000000000000000000000 from rfl]at h1;have h2:=q3I (38-k);have h3:=q3I k;have h4:q2S k*1<=q2S k*q2S (38-k):=Int.mul_le_mul_of_nonneg_left (by omega) (by omega);omega
theorem z1i {k:Nat} (h:k<=38):q0M (q2S k)=true:=by
 have h1:=j0R h;have h2:=q3I k;exact q0X (by omega) (by omega)
theorem q1u {n:Int} (h:q0M n=true):Wd.res n=(.of n,0):=if_pos h
theorem a0o {n:Int} (h:q0M n=false):Wd.res n=(⟨0,0⟩,20):=if_neg (by rw[h];decide)
theorem j6F:(Wd.mk 0 0).ok:=by unfold Wd.ok;simp
theorem a0R:(Wd.mk 0 10).ok:=by unfold Wd.ok;simp
theorem j4i (m:Mem):∀(d j:Nat),j+d<=38->
  Res m (D5.gor 671745 [.int .i64 (d:Int),.ptr (some ⟨m.next,0⟩),.ptr (some ⟨m.next+1,0⟩)] ((m.lay (.cells [.int .i64 0,.int .u64 0] false)).lay (.cells (Wd.of (q2S j)).cells false)))
   (.tup [.agg (Wd.of (q2S (j+d))).cells,.int .i64 0]):=by
 intro d;induction d with
 |zero=>
  intro j _;simp only[z0u (H:=H5),T.z8q,p2,q0b,wp,df (show ¬(0:Int)<((0:Nat):Int) by omega)];simp only[z8t (H:=H5),T.j6a,q1,q0S,q0V,wp,Wd.cells,AV.one,over,AV.cells,Nat.reduceAdd,Nat.reduceLeDiff,lcl];exact Res.eq (((Fr.refl m).lay _).lay _) rfl
 |succ d ih=>
  intro j hj;have wm:=fun m=>a0U (H:=H5) rfl (a:=Wd.of (q2S j)) (b:=⟨0,10⟩) (Wd.q3y (z1i (by omega))) a0R m
  rw[Wd.q1t,show (Wd.mk 0 10).val=10 from rfl,<-j0S,q1u (z1i (by omega))]at wm;have hi:=ih (j+1) (by omega);rw[show j+1+d=j+(d+1) by omega]at hi;simp only[Wd.cells]at wm hi⊢;simp only[z0u (H:=H5),T.z8q,p2,q0b,wp,dt (show (0:Int)<((d+1:Nat):Int) by omega)];simp only[z8r (H:=H5),T.j58,q1,p1,q0n,AV.cells,Nat.reduceAdd,Nat.reduceLeDiff,q0l,q0B,AV.one,over,lcl,wm]
  simp only[z8s (H:=H5),T.j59,p2,wp,show ((d+1:Nat):Int)-1=(d:Int) by omega,wrap_i64 (n:=(d:Int)) (by omega) (by omega)];exact hi
theorem a7j {k:Nat} (hk:k<=38) (m:Mem):Res m (run E5 (.fn 164) [.int .i64 (k:Int)] m) (.tup [.agg (Wd.of (q2S k)).cells,.int .i64 0]):=by
 have lp:=j4i m k 0 (by omega);rw[xnz]at lp;have e0:(Wd.of (q2S 0)).cells=[.int .i64 0,.int .u64 1]:=rfl;rw[e0]at lp;simp only[j7K (H:=H5) rfl,T.f164,pB,p2,p1,q0n,q0b,ifV,q0S,q0V,q0B,Wd.cells,lcl,df (show ¬(k:Int)<0 by omega),df (show ¬(38:Int)<(k:Int) by omega)];simp only[z8p (H:=H5),T.j57,p1,pB,q0n,AV.cells,Nat.reduceAdd,Nat.reduceLeDiff,q0B,AV.one,over,lcl]
 exact lp
def S6:List FuncId:=[164]
def H6:FuncId->Option (List AV->Mem->R):=q1y E5 S6
abbrev E6:Env:=T.EH H6
theorem a7U:q1i E6:=q0Q a7T S6
theorem a7i {H:FuncId->Option (List AV->Mem->R)} (h:H 164=some (q0x E5 164)) {k:Nat} (hk:k<=38) (m:Mem):run (T.EH H) (.fn 164) [.int .i64 (k:Int)] m=some (.tup [.agg (Wd.of (q2S k)).cells,.int .i64 0],m):=
 q0s h (by simp[AV.flat,AV.lt,AV.lts,Wd.cells]) fun m2 _ _=>a7j hk m2
theorem j4c {n:Int} (h0:0<=n) (h1:n<18446744073709551616):Wd.of n=⟨0,n⟩:=by unfold Wd.of;congr 1<;>omega
theorem j4S {b:Bool} {n:Int} (h0:0<=n) (h1:n<170141183460469231731687303715884105728):q0M (sgI b n)=true:=by
 unfold sgI;split<;>exact q0X (by omega) (by omega)
theorem j0J {a:Wd} (ha:a.ok):sgI (decide (a.hi<0)) (q1F a.val)=a.val:=by
 rw[show a.hi=(Wd.mk a.hi a.lo).hi from rfl];have:=z18 (ah:=a.hi) (al:=a.lo) ha;simp only at this⊢;rw[this];show sgI (decide (a.val<0)) (q1F a.val)=a.val;unfold sgI q1F;by_cases h:a.val<0
 ·simp only[dt h,if_pos h,if_true];omega
 ·simp only[df h,if_neg h,xbq,if_false]
theorem z2x {a:Wd} (ha:a.ok):0<=q1F a.val/\q1F a.val<=170141183460469231731687303715884105728:=by
 obtain⟨h1,h2,h3,h4⟩:=ha;unfold q1F Wd.val;split<;>constructor<;>omega
theorem a0D {a:Wd} (ha:a.ok) {p:Int} (hp:0<p):(sgn (sgI (decide (a.hi<0)) (q1F a.val / p))≠0->sgn (sgI (decide (a.hi<0)) (q1F a.val / p))=sgn a.val)/\
  (sgn (sgI (decide (a.hi<0)) (q1F a.val / p))=0->sgn (sgI (decide (a.hi<0)) (q1F a.val % p))=sgn a.val):=by
 have hv:=j0J ha;have h0:=(z2x ha).1;obtain⟨A,hA⟩:∃A,A=q1F a.val:=⟨_,rfl⟩;rw[<-hA]at hv h0⊢;rw[<-hv];have q0:0<=A / p:=Int.ediv_nonneg h0 (by omega);have hq:A / p<=A:=Int.ediv_le_self _ h0;constructor
 ·intro h;have:A / p≠0:=by intro h2;apply h;rw[h2];unfold sgn sgI;split<;>simp
  cases decide (a.hi<0)<;>simp only[sgI,sgn,xbq,if_false,if_true]<;>(repeat' split)<;>omega
 ·intro h;have h2:A / p=0:=by
   apply Classical.byContradiction;intro h3
   revert h
   cases decide (a.hi<0)<;>simp only[sgI,sgn,xbq,if_false,if_true]<;>(repeat' split)<;>omega
  have h3:=Int.emod_add_mul_ediv A p;rw[h2,Int.mul_zero,Int.add_zero]at h3;rw[h3]
theorem j1x {w:Wd} (hw:w.ok) {s:Nat} (hs:s<=18) (m:Mem):Res m (run E6 (.fn 159) [.agg (q0H w (s:Int)),.agg (q0H ⟨0,0⟩ 0)] m) (.int .i64 (sgn w.val)):=by
 have p0:=q3I s;have p1:=a0M hs;have pw:=fun m=>a7i (H:=H6) rfl (k:=s) (by omega) m
 rw[j4c (by omega) (by omega)]at pw;have wd:=fun m=>a0S (H:=H6) rfl hw p0 (by omega) m
 obtain⟨hA0,hA1⟩:=z2x hw;have q0:0<=q1F w.val / q2S s:=Int.ediv_nonneg hA0 (by omega);have qle:q1F w.val / q2S s<=q1F w.val:=Int.ediv_le_self _ hA0;have r0:0<=q1F w.val % q2S s/\q1F w.val % q2S s<q2S s:=⟨Int.emod_nonneg _ (by omega),Int.emod_lt_of_pos _ p0⟩;obtain⟨s1,s2⟩:=a0D hw p0;have fq:q0M (sgI (decide (w.hi<0)) (q1F w.val / q2S s))=true:=by
  have:=j0J hw;have hf:=Wd.q6C hw;rw[<-this]at hf;unfold q0M at hf⊢;simp only[Bool.and_eq_true,decide_eq_true_eq]at hf⊢
  revert hf
  cases decide (w.hi<0)<;>simp only[sgI,xbq,if_false,if_true]<;>omega
 have fr:q0M (sgI (decide (w.hi<0)) (q1F w.val % q2S s))=true:=j4S r0.1 (by omega);have cm:=fun m=>a1v (H:=H6) rfl (Wd.q3y fq) j6F m
 rw[Wd.q1t,show (Wd.mk 0 0).val=0 from rfl,Int.sub_zero]at cm;have sg:=fun m=>q7m (H:=H6) rfl (Wd.q3y fr) m
 rw[Wd.q1t]at sg;have hsub:IntKind.wrap .i64 ((s:Int)-0)=(s:Int):=by rw[Int.sub_zero];exact wrap_i64 (by omega) (by omega)
 obtain⟨wh,wl⟩:=w;simp only[Wd.cells]at pw wd cm sg⊢;obtain⟨c,hc⟩:∃c,c=sgn (sgI (decide (wh<0)) (q1F (Wd.mk wh wl).val / q2S s)):=⟨_,rfl⟩;simp only at cm s1 s2;rw[<-hc]at cm s1 s2;simp only[q0H,j7H (H:=H6) rfl,T.f159,q1,p2,pB,q0N,q0l,q0b,Nat.reduceAdd,q1b,AV.one,over,AV.cells,Nat.reduceLeDiff,lcl,hsub,pw,wd,cm];by_cases h:c=0
 ·simp only[h,decide_true,xbt];simp only[z8k (H:=H6),T.j52,q1,wp,Nat.reduceAdd,Nat.reduceLeDiff,lcl,sg];refine Res.eq ?_ (by rw[s2 h])
  (repeat apply Fr.lays)
  exact Fr.refl _
 ·simp only[df h,xbf];refine Res.eq ?_ (by rw[s1 h])
  (repeat apply Fr.lays)
  exact Fr.refl _
def S7:List FuncId:=[150,159]
def H7:FuncId->Option (List AV->Mem->R):=q1y E6 S7
abbrev E7:Env:=T.EH H7
theorem a7V:q1i E7:=q0Q a7U S7
section
variable {H:FuncId->Option (List AV->Mem->R)}
theorem j1w (h:H 159=some (q0x E6 159)) {w:Wd} (hw:w.ok) {s:Nat} (hs:s<=18) (m:Mem):run (T.EH H) (.fn 159) [.agg (q0H w (s:Int)),.agg (q0H ⟨0,0⟩ 0)] m=some (.int .i64 (sgn w.val),m):=
 q0s h (by simp[AV.flat,AV.lt]) fun m2 _ _=>j1x hw hs m2
end
theorem j1m {w:Wd} (hw:w.ok) (s:Int) (m:Mem):Res m (run E7 (.fn 147) [.agg (q0H w s),.agg (q0H ⟨0,0⟩ 0)] m) (.tup [.int .i64 (if 0<=s/\s<=18 then sgn w.val else 0),.int .i64 (if 0<=s/\s<=18 then 0 else 21)]):=by
 have dr:=fun m=>q6N (H:=H7) rfl w s m
 have dr0:=fun m=>q6N (H:=H7) rfl ⟨0,0⟩ 0 m
 rw[dt (show (0:Int)<=0/\(0:Int)<=18 by omega)]at dr0;by_cases h:0<=s/\s<=18
 ·obtain⟨n,rfl⟩:∃n:Nat,s=n:=⟨s.toNat,by omega⟩;have fc:=fun m=>j1w (H:=H7) rfl hw (s:=n) (by omega) m
  rw[dt h]at dr;rw[if_pos h,if_pos h];simp only[q0H]at dr dr0 fc⊢;simp only[z7a (H:=H7) rfl,T.f147,q1,p1,q0N,q0b,ifV,unA,wp,AV.one,AV.cells,Nat.reduceAdd,Nat.reduceLeDiff,lcl,dr,dr0,xbt];simp only[z7T (H:=H7),T.j5R,p1,q1,p2,q0b,Nat.reduceAdd,q0d,Nat.reduceLeDiff,lcl,df (show ¬(n:Int)<0 by omega)];simp only[z7U (H:=H7),T.j5S,q1,wp,Nat.reduceAdd,Nat.reduceLeDiff,lcl,fc]
  refine Res.eq ?_ rfl
  (repeat apply Fr.lays)
  exact Fr.refl _
 ·rw[df h]at dr;rw[if_neg h,if_neg h];simp only[q0H]at dr dr0⊢;simp only[z7a (H:=H7) rfl,T.f147,q1,p1,q0N,q0b,ifV,unA,wp,AV.one,AV.cells,Nat.reduceAdd,Nat.reduceLeDiff,lcl,dr,xbf];refine Res.eq ?_ rfl
  (repeat apply Fr.lays)
  exact Fr.refl _
def z9O (x y k:Int):Int:=if 0<=k then scF x y k.toNat else x*y*q2S (-k).toNat
def q3V (n:Int) (to:Int):AV:=.tup [.agg (if q0M n=true then q0H (.of n) to else q0H ⟨0,0⟩ 0),.int .i64 (if q0M n=true then 0 else 20)]
end
noncomputable section
set_option maxRecDepth 4000
open Go Go.Abs
def S8:List FuncId:=[147,134]
def H8:FuncId->Option (List AV->Mem->R):=q1y E7 S8
abbrev E8:Env:=T.EH H8
theorem a7W:q1i E8:=q0Q a7V S8
theorem q6L (n to:Int):(q3V n to).flat:=by unfold q3V;split<;>simp[AV.flat,AV.lt,AV.lts,q0H]
section
variable {H:FuncId->Option (List AV->Mem->R)}
theorem j1l (h:H 147=some (q0x E7 147)) {w:Wd} (hw:w.ok) (s:Int) (m:Mem):run (T.EH H) (.fn 147) [.agg (q0H w s),.agg (q0H ⟨0,0⟩ 0)] m=some (.tup [.int .i64 (if 0<=s/\s<=18 then sgn w.val else 0),.int .i64 (if 0<=s/\s<=18 then 0 else 21)],m):=
 q0s h (by simp[AV.flat,AV.lt,AV.lts]) fun m2 _ _=>j1m hw s m2
end
theorem j04 {w:Wd} (hw:w.ok) (s:Int) (m:Mem):Res m (run E8 (.fn 133) [.agg (q0H w s)] m) (.bool (decide ((0<=s/\s<=18)/\0<w.val))):=by
 have dc:=fun m=>j1l (H:=H8) rfl hw s m
 simp only[q0H]at dc⊢;by_cases h:0<=s/\s<=18
 ·simp only[if_pos h]at dc;simp only[z6U (H:=H8) rfl,T.f133,q1,p1,p2,q0n,AV.cells,Nat.reduceAdd,Nat.reduceLeDiff,q0N,q0l,ifV,q0B,AV.one,lcl,dc,decide_true];refine Res.eq ?_ ?_
  ·(repeat apply Fr.lays)
   exact Fr.refl _
  ·congr 1;unfold sgn;apply decide_eq_decide.mpr;split<;>(try split)<;>omega
 ·simp only[if_neg h]at dc;simp only[z6U (H:=H8) rfl,T.f133,q1,p1,p2,q0n,AV.cells,Nat.reduceAdd,Nat.reduceLeDiff,q0N,q0l,ifV,q0B,AV.one,lcl,dc,df (show ¬(21:Int)=0 by omega)];refine Res.eq ?_ ?_
  ·(repeat apply Fr.lays)
   exact Fr.refl _
  ·rw[df (by omega)]
def S9:List FuncId:=[133]
def H9:FuncId->Option (List AV->Mem->R):=q1y E8 S9
abbrev E9:Env:=T.EH H9
theorem a7X:q1i E9:=q0Q a7W S9
theorem j03 {H:FuncId->Option (List AV->Mem->R)} (h:H 133=some (q0x E8 133)) {w:Wd} (hw:w.ok) (s:Int) (m:Mem):run (T.EH H) (.fn 133) [.agg (q0H w s)] m=some (.bool (decide ((0<=s/\s<=18)/\0<w.val)),m):=
 q0s h (by simp[AV.flat,AV.lt]) fun m2 _ _=>j04 hw s m2
def q29 (w:Wd) (s:Int):Int:=if 0<=s/\s<=18 then (if 0<w.val then 0 else 44) else 21
theorem j0y {w:Wd} (hw:w.ok) (s:Int) (m:Mem):Res m (run E9 (.fn 92) [.agg (q0H w s)] m) (.int .i64 (q29 w s)):=by
 have dr:=fun m=>q6N (H:=H9) rfl w s m
 have ab:=fun m=>j03 (H:=H9) rfl hw s m
 unfold q29;by_cases h:0<=s/\s<=18
 ·rw[if_pos h];rw[dt h]at dr;by_cases h2:0<w.val
  ·rw[if_pos h2];rw[dt ⟨h,h2⟩]at ab;simp only[q0H]at dr ab⊢;simp only[z7i (H:=H9) rfl,T.f92,q1,p1,q0N,q0b,unA,wp,AV.one,AV.cells,Nat.reduceAdd,Nat.reduceLeDiff,lcl,dr,ab,xbt];simp only[j3P (H:=H9),T.a5q,wp];refine Res.eq ?_ rfl
   (repeat apply Fr.lays)
   exact Fr.refl _
  ·rw[if_neg h2];rw[df (by omega)]at ab;simp only[q0H]at dr ab⊢;simp only[z7i (H:=H9) rfl,T.f92,q1,p1,q0N,q0b,unA,wp,AV.one,AV.cells,Nat.reduceAdd,Nat.reduceLeDiff,lcl,dr,ab,xbt,xbf];refine Res.eq ?_ rfl
   (repeat apply Fr.lays)
   exact Fr.refl _
 ·rw[if_neg h];rw[df h]at dr;simp only[q0H]at dr⊢;simp only[z7i (H:=H9) rfl,T.f92,q1,p1,q0N,q0b,unA,wp,AV.one,AV.cells,Nat.reduceAdd,Nat.reduceLeDiff,lcl,dr,xbf];refine Res.eq ?_ rfl
  (repeat apply Fr.lays)
  exact Fr.refl _
def S10:List FuncId:=[92]
def H10:FuncId->Option (List AV->Mem->R):=q1y E9 S10
abbrev E10:Env:=T.EH H10
theorem a01:q1i E10:=q0Q a7X S10
theorem j0x {H:FuncId->Option (List AV->Mem->R)} (h:H 92=some (q0x E9 92)) {w:Wd} (hw:w.ok) (s:Int) (m:Mem):run (T.EH H) (.fn 92) [.agg (q0H w s)] m=some (.int .i64 (q29 w s),m):=
 q0s h (by simp[AV.flat,AV.lt]) fun m2 _ _=>j0y hw s m2
def z2B (w:Wd) (s:Int) (v:Wd) (t:Int) (n:Int):AV:=
 if (0<=s/\s<=18)/\(0<=n/\n<=18) then
  if 0<w.val then
   if q29 v t=0 then q3V (z9O w.val v.val (s+t-n)) n else .tup [.agg (q0H ⟨0,0⟩ 0),.int .i64 (q29 v t)]
  else .tup [.agg (q0H ⟨0,0⟩ 0),.int .i64 43]
 else .tup [.agg (q0H ⟨0,0⟩ 0),.int .i64 21]
theorem q74 {v:Wd} {t:Int} (h:q29 v t=0):(0<=t/\t<=18)/\0<v.val:=by
 unfold q29 at h;split at h
 ·split at h
  ·exact⟨‹_›,‹_›⟩
  ·omega
 ·omega
def S11:List FuncId:=[110]
def H11:FuncId->Option (List AV->Mem->R):=q1y E10 S11
abbrev E11:Env:=T.EH H11
theorem a02:q1i E11:=q0Q a01 S11
abbrev D11:Do:=T.Rl H11
end
end Go.Proofs.YtlginbmjiecglaaGreatDoor
namespace Go.Abs
section
open Go
def dig (n i:Nat):Nat:=n / 4294967296 ^ i % 4294967296
def D16 (n:Nat):List AV:=(List.range 16).map fun i=>.int .u64 ((dig n i:Nat):Int)
theorem q2B (n i:Nat):dig n i<4294967296:=Nat.mod_lt _ (by omega)
theorem q1r (n:Nat):(D16 n).length=16:=by simp[D16]
theorem q0W (n:Nat) {i:Nat} (h:i<16):(D16 n)[i]? = some (.int .u64 ((dig n i:Nat):Int)):=by
 simp[D16,List.getElem?_map,List.getElem?_range h]
theorem q3l (n:Nat):(D16 n).all AV.one=true:=by
 simp[D16,List.all_map,List.all_eq_true,AV.one]
theorem q4d (n:Nat):(D16 n).take 16=D16 n:=xtl (by rw[q1r];exact xnr _)
theorem q2T (n:Nat):(D16 n).drop 16=[]:=List.drop_of_length_le (by rw[q1r];exact xnr _)
theorem q4c (n:Nat):AV.lts 0 (D16 n):=by simp[D16,AV.lts,AV.lt,List.range,List.range.loop]
theorem j6G {n N:Nat} (h:∀i,i<16->dig n i=dig N i):D16 n=D16 N:=by
 unfold D16;apply List.map_congr_left;intro i hi;rw[h i (List.mem_range.mp hi)]
theorem z16:[AV.int .u64 0,.int .u64 0,.int .u64 0,.int .u64 0,.int .u64 0,.int .u64 0,.int .u64 0,.int .u64 0,.int .u64 0,.int .u64 0,.int .u64 0,.int .u64 0,.int .u64 0,.int .u64 0,.int .u64 0,.int .u64 0]=D16 0:=by
 unfold D16 dig;simp[List.range,List.range.loop]
theorem j4e (n:Nat) {i:Nat} (h:i<16) (v:Int):over (D16 n) i (.int .u64 v) 1=some ((D16 n).set i (.int .u64 v)):=by
 unfold over;simp only[AV.cells,List.length_cons,List.length_nil,xnz,if_true,q1r,if_pos (show i+1<=16 by omega)];rw[List.set_eq_take_append_cons_drop,if_pos (by rw[q1r];exact h)];simp
theorem a0B {n N i:Nat} {v:Int} (h:i<16) (e:∀j,j<16->j≠i->dig n j=dig N j) (hv:v=((dig N i:Nat):Int)):(D16 n).set i (.int .u64 v)=D16 N:=by
 apply List.ext_getElem?;intro j;by_cases hj:j<16
 ·rw[q0W N hj,List.getElem?_set];by_cases hij:i=j
  ·subst hij;rw[if_pos rfl,if_pos (by rw[q1r];exact h),hv]
  ·rw[if_neg hij,q0W n hj,e j hj (fun x=>hij x.symm)]
 ·rw[List.getElem?_eq_none (by rw[List.length_set,q1r];omega),List.getElem?_eq_none (by rw[q1r];omega)]
theorem q3A {n N i:Nat} {v:Int} (h:i<16) (e:∀j,j<16->j≠i->dig n j=dig N j) (hv:v=((dig N i:Nat):Int)):over (D16 n) i (.int .u64 v) 1=some (D16 N):=by
 rw[j4e n h,a0B h e hv]
theorem j4d (n N:Nat):over (D16 n) 0 (.agg (D16 N)) 16=some (D16 N):=by
 unfold over;have hl:=q1r N;simp only[AV.cells,q3l,if_true];rw[if_pos hl,q1r,if_pos (by omega)];simp[q2T]
theorem z9w (b o:Nat) {i:Nat} (h:i<16):ixA 1 16 ⟨b,o⟩ (i:Int)=some (.ptr (some ⟨b,o+i⟩)):=by
 unfold ixA;rw[if_pos (by omega),if_pos (by omega)];simp
theorem pow_add_one (i:Nat):4294967296 ^ (i+1)=4294967296 ^ i*4294967296:=Nat.pow_succ ..
theorem q8h (i:Nat):0<4294967296 ^ i:=Nat.pow_pos (by omega)
theorem q8z (n i j:Nat):dig (n % 4294967296 ^ i) j=if j<i then dig n j else 0:=by
 unfold dig;by_cases h:j<i
 ·rw[if_pos h];obtain⟨k,rfl⟩:∃k,i=j+1+k:=⟨i-(j+1),by omega⟩;rw[Nat.pow_add,pow_add_one,Nat.mul_assoc,Nat.mod_mul_right_div_self,Nat.mod_mul_right_mod]
 ·rw[if_neg h];have:n % 4294967296 ^ i<4294967296 ^ j:=Nat.lt_of_lt_of_le (Nat.mod_lt _ (q8h i)) (Nat.pow_le_pow_right (by omega) (by omega));rw[Nat.div_eq_of_lt this]
theorem q5Z {n i:Nat}:∀j,j<16->j≠i->dig (n % 4294967296 ^ i) j=dig (n % 4294967296 ^ (i+1)) j:=by
 intro j _ hj;rw[q8z,q8z];by_cases h:j<i
 ·rw[if_pos h,if_pos (by omega)]
 ·rw[if_neg h,if_neg (by omega)]
theorem q7L (n i:Nat):dig (n % 4294967296 ^ (i+1)) i=dig n i:=by rw[q8z,if_pos (by omega)]
theorem z5Z (n:Nat):D16 (n % 4294967296 ^ 16)=D16 n:=j6G fun i hi=>by rw[q8z,if_pos hi]
theorem q5F {n i d:Nat} (h:dig n i+d<4294967296):∀j,dig (n+d*4294967296 ^ i) j=dig n j+if j=i then d else 0:=by
 intro j;unfold dig at h⊢;have hB:=q8h i;by_cases h1:j=i
 ·subst h1;rw[if_pos rfl,Nat.add_mul_div_right _ _ hB];omega
 ·rw[if_neg h1,xna];by_cases h2:j<i
  ·obtain⟨k,rfl⟩:∃k,i=j+1+k:=⟨i-(j+1),by omega⟩;have e:d*4294967296 ^ (j+1+k)=(d*4294967296 ^ k*4294967296)*4294967296 ^ j:=by
    rw[Nat.pow_add,pow_add_one];simp only[Nat.mul_comm,Nat.mul_left_comm,Nat.mul_assoc]
   rw[e,Nat.add_mul_div_right _ _ (q8h j),Nat.add_mul_mod_self_right]
  ·obtain⟨k,rfl⟩:∃k,j=i+1+k:=⟨j-(i+1),by omega⟩;have e:4294967296 ^ (i+1+k)=4294967296 ^ i*(4294967296*4294967296 ^ k):=by rw[Nat.pow_add,pow_add_one,Nat.mul_assoc]
   rw[e,<-Nat.div_div_eq_div_mul,<-Nat.div_div_eq_div_mul,<-Nat.div_div_eq_div_mul,<-Nat.div_div_eq_div_mul,Nat.add_mul_div_right _ _ hB];congr 2;omega
theorem q2d (n i:Nat):n / 4294967296 ^ (i+1)=n / 4294967296 ^ i / 4294967296:=by rw[pow_add_one,Nat.div_div_eq_div_mul]
theorem q3W (n i:Nat):n % 4294967296 ^ (i+1)=n % 4294967296 ^ i+dig n i*4294967296 ^ i:=by
 rw[pow_add_one,Nat.mod_mul,dig,Nat.mul_comm]
section bin
variable {P:Program}
theorem q6f (t:TypeId) (x:Nat):q0J P .rem t (.int .u64 (x:Int)) (.int .u64 4294967296)=some (.int .u64 ((x % 4294967296:Nat):Int)):=by
 rw[q27 _ _ _ _ (by omega),Int.tmod_eq_emod_of_nonneg (by omega)];simp
theorem q4R (t:TypeId) {x:Nat} (h:x<18446744073709551616):q0J P .quo t (.int .u64 (x:Int)) (.int .u64 4294967296)=some (.int .u64 ((x / 4294967296:Nat):Int)):=by
 rw[q26 _ _ _ _ (by omega),Int.tdiv_eq_ediv_of_nonneg (by omega),wrap_u64 (by omega) (by omega)];simp
end bin
theorem j4b {a b:Nat} (ha:a<4294967296) (hb:b<4294967296):a*b<=18446744065119617025:=by
 have:=Nat.mul_le_mul (show a<=4294967295 by omega) (show b<=4294967295 by omega);omega
end
section
open Go
theorem q39 {x:Int} (h:0<=x) (h2:x<18446744073709551616):unA .xor (.int .u64 x)=some (.int .u64 (18446744073709551615-x)):=by
 obtain⟨n,rfl⟩:∃n:Nat,x=n:=⟨x.toNat,by omega⟩;have e:unA .xor (.int .u64 (n:Int))=some (.int .u64 (IntKind.wrap .u64 (((BitVec.ofInt 64 18446744073709551615 ^^^ BitVec.ofInt 64 (n:Int)).toNat:Nat):Int))):=rfl;rw[e,show BitVec.ofInt 64 18446744073709551615=BitVec.allOnes 64 from by decide,BitVec.allOnes_xor,BitVec.toNat_not,show BitVec.ofInt 64 (n:Int)=BitVec.ofNat 64 n from BitVec.ofInt_natCast ..,BitVec.toNat_ofNat,q0m]
 congr 2;omega
theorem j63 (a i:Nat):dig a (i / 32) / 2 ^ (i % 32) % 2=a / 2 ^ i % 2:=by
 have e:a / 2 ^ i=a / 4294967296 ^ (i / 32) / 2 ^ (i % 32):=by
  rw[Nat.div_div_eq_div_mul,show (4294967296:Nat)=2 ^ 32 from rfl,<-Nat.pow_mul,<-Nat.pow_add,Nat.div_add_mod]
 rw[e];unfold dig;obtain⟨y,hy⟩:∃y,y=a / 4294967296 ^ (i / 32):=⟨_,rfl⟩;obtain⟨s,hs⟩:∃s,s=i % 32:=⟨_,rfl⟩;rw[<-hy,<-hs];have h:s<32:=by omega
 clear hy hs e
 revert h
 revert s
 intro s h;have h32:s=0\/s=1\/s=2\/s=3\/s=4\/s=5\/s=6\/s=7\/s=8\/s=9\/s=10\/s=11\/s=12\/s=13\/s=14\/s=15\/s=16\/s=17\/s=18\/s=19\/s=20\/s=21\/s=22\/s=23\/s=24\/s=25\/s=26\/s=27\/s=28\/s=29\/s=30\/s=31:=by omega
 clear h;rcases h32 with rfl|rfl|rfl|rfl|rfl|rfl|rfl|rfl|rfl|rfl|rfl|rfl|rfl|rfl|rfl|rfl|rfl|rfl|rfl|rfl|rfl|rfl|rfl|rfl|rfl|rfl|rfl|rfl|rfl|rfl|rfl|rfl<;>(simp only[Nat.reducePow];omega)
theorem z0Y (i:Nat):2 ^ i=2 ^ (i % 32)*4294967296 ^ (i / 32):=by
 rw[show (4294967296:Nat)=2 ^ 32 from rfl,<-Nat.pow_mul,<-Nat.pow_add,Nat.mod_add_div]
theorem j4h {s:Nat} (h:s<32):2 ^ s<4294967296:=by
 have:=Nat.pow_lt_pow_right (a:=2) (by omega) h;simpa using this
theorem j1g (Q i:Nat):dig (Q*2 ^ (i+1)) (i / 32)+2 ^ (i % 32)<4294967296:=by
 have e:Q*2 ^ (i+1)=Q*2*2 ^ (i % 32)*4294967296 ^ (i / 32):=by
  rw[Nat.pow_succ,z0Y i];simp only[Nat.mul_comm,Nat.mul_assoc]
 unfold dig;rw[e,Nat.mul_div_cancel _ (q8h _)];obtain⟨s,hs⟩:∃s,s=i % 32:=⟨_,rfl⟩;rw[<-hs];have h:s<32:=by omega
 clear hs e
 revert h
 revert s
 intro s h;have h32:s=0\/s=1\/s=2\/s=3\/s=4\/s=5\/s=6\/s=7\/s=8\/s=9\/s=10\/s=11\/s=12\/s=13\/s=14\/s=15\/s=16\/s=17\/s=18\/s=19\/s=20\/s=21\/s=22\/s=23\/s=24\/s=25\/s=26\/s=27\/s=28\/s=29\/s=30\/s=31:=by omega
 clear h;rcases h32 with rfl|rfl|rfl|rfl|rfl|rfl|rfl|rfl|rfl|rfl|rfl|rfl|rfl|rfl|rfl|rfl|rfl|rfl|rfl|rfl|rfl|rfl|rfl|rfl|rfl|rfl|rfl|rfl|rfl|rfl|rfl|rfl<;>(simp only[Nat.reducePow];omega)
theorem q9S {P:Program} (t:TypeId) {x n:Nat} (hx:x<4294967296) (hn:n<32):q0J P .shr t (.int .u64 (x:Int)) (.int .u64 (n:Int))=some (.int .u64 ((x / 2 ^ n:Nat):Int)):=by
 rw[q8v t n (by omega)];congr 2
theorem z6p {P:Program} (t:TypeId) {n:Nat} (hn:n<32):q0J P .shl t (.int .u64 1) (.int .u64 (n:Int))=some (.int .u64 ((2 ^ n:Nat):Int)):=by
 rw[q8u t n (by omega)];congr 2;have:=j4h hn;rw[Int.one_mul,show (2:Int) ^ n=((2 ^ n:Nat):Int) from (Int.natCast_pow 2 n).symm];obtain⟨w,hw⟩:∃w,w=2 ^ n:=⟨_,rfl⟩;rw[<-hw]at this⊢;omega
theorem j69 {x b bit:Nat} (hb:0<b) :
  (b<=2*(x % b)+bit->bit<=1->(2*x+bit) / b=2*(x / b)+1/\(2*x+bit) % b=2*(x % b)+bit-b)/\
  (2*(x % b)+bit<b->(2*x+bit) / b=2*(x / b)/\(2*x+bit) % b=2*(x % b)+bit):=by
 have h:=Nat.div_add_mod x b;have hl:=Nat.mod_lt x hb;obtain⟨q,hq⟩:∃q,q=x / b:=⟨_,rfl⟩;obtain⟨r,hr⟩:∃r,r=x % b:=⟨_,rfl⟩;rw[<-hq,<-hr]at h⊢;rw[<-hr]at hl;constructor
 ·intro h1 h2;apply (Nat.div_mod_unique hb).mpr;rw[Nat.mul_add,Nat.mul_left_comm];omega
 ·intro h1;apply (Nat.div_mod_unique hb).mpr;rw[Nat.mul_left_comm];omega
theorem j3W (a i:Nat):a / 2 ^ i=2*(a / 2 ^ (i+1))+a / 2 ^ i % 2:=by
 rw[Nat.pow_succ,<-Nat.div_div_eq_div_mul];omega
end
section
open Go
def q1w (x:Int):List AV:=.bool (decide (x<0))::D16 x.natAbs
theorem z95 (x:AV) (cs:List AV) (i:Nat) (v:AV) (n:Nat):over (x::cs) (i+1) v n=(over cs i v n).map (x::·):=by
 unfold over;cases v.cells with
 |none=>rfl
 |some vs=>
  simp only;by_cases h:vs.length=n
  ·simp only[if_pos h,List.length_cons];by_cases h2:i+n<=cs.length
   ·rw[if_pos (by omega),if_pos h2];simp[show i+1+n=i+n+1 by omega]
   ·rw[if_neg (by omega),if_neg h2];rfl
  ·simp only[if_neg h];rfl
theorem a7g (x:AV) (b:Bool) (a n:Nat):over (x::D16 a) 0 (.agg (.bool b::D16 n)) 17=some (.bool b::D16 n):=by
 unfold over;simp only[AV.cells,List.all_cons,AV.one,Bool.true_and,q3l,if_true,List.length_cons,q1r,List.take_zero,List.nil_append,xnz];rw[if_pos (xnr _),List.drop_succ_cons,q2T,List.append_nil]
theorem z6E {n i:Nat} (h:n<4294967296 ^ i):dig n i=0:=by unfold dig;rw[Nat.div_eq_of_lt h,Nat.zero_mod]
theorem j4f {n i d:Nat} (hi:i<16) (h:n<4294967296 ^ i) (hd:d<4294967296):over (D16 n) i (.int .u64 (d:Int)) 1=some (D16 (n+d*4294967296 ^ i)):=by
 have z:=z6E h;have a:=q5F (n:=n) (i:=i) (d:=d) (by omega);exact q3A hi (fun j _ hj=>by rw[a j,if_neg hj];rfl) (by rw[a i,if_pos rfl,z,xnz])
theorem q4p (x:AV) {n i d:Nat} (hi:i<16) (h:n<4294967296 ^ i) (hd:d<4294967296):over (x::D16 n) (i+1) (.int .u64 (d:Int)) 1=some (x::D16 (n+d*4294967296 ^ i)):=by
 rw[z95,j4f hi h hd];rfl
theorem z9x (b:Nat):ixA 1 16 ⟨b,1⟩ 0=some (.ptr (some ⟨b,1⟩)):=by simp[ixA]
theorem z9y (b:Nat):ixA 1 16 ⟨b,1⟩ 1=some (.ptr (some ⟨b,2⟩)):=by simp[ixA]
theorem z9z (b:Nat):ixA 1 16 ⟨b,1⟩ 2=some (.ptr (some ⟨b,3⟩)):=by simp[ixA]
theorem z9A (b:Nat):ixA 1 16 ⟨b,1⟩ 3=some (.ptr (some ⟨b,4⟩)):=by simp[ixA]
theorem a8A (b:Nat) {i:Nat} (h:i<16):ixA 1 16 ⟨b,1⟩ (i:Int)=some (.ptr (some ⟨b,i+1⟩)):=by rw[z9w _ _ h,Nat.add_comm]
theorem q3U (x:Int):AV.lts 0 (q1w x):=by simp[q1w,AV.lts,AV.lt,q4c]
def q4b (x:Int):Wd×Bool:=
 if q0M x=true then (Wd.of x,true) else if 0<=x/\x<340282366920938463463374607431768211456 then (⟨x / 18446744073709551616-18446744073709551616,x % 18446744073709551616⟩,false) else (⟨0,0⟩,false)
theorem a9f (n:Nat):dig n 0=n % 4294967296:=by unfold dig;rw[Nat.pow_zero,Nat.div_one]
theorem a9z (n:Nat):dig n 1=n / 4294967296 % 4294967296:=by unfold dig;rw[Nat.pow_one]
theorem a9A (n:Nat):dig n 2=n / 18446744073709551616 % 4294967296:=rfl
theorem a9B (n:Nat):dig n 3=n / 79228162514264337593543950336 % 4294967296:=rfl
abbrev lcd:=ai @lcl<|ai @q1r<|ai @q4d<|ai @q2T<|ai @q3l<|ai @j4d @a7g
end
end Go.Abs
namespace Go.Proofs.YtlginbmjiecglaaGreatDoor
section
set_option maxRecDepth 4000
open Go Go.Abs
theorem j0d (a b:Nat) (m:Mem):∀(d i c:Nat),i+d=16->(a+b) / 4294967296 ^ i=a / 4294967296 ^ i+b / 4294967296 ^ i+c->c<=1->
  Res m (D11.gor 454656 [.ptr (some ⟨m.next,0⟩),.ptr (some ⟨m.next+1,0⟩),.ptr (some ⟨m.next+1+1,0⟩),.ptr (some ⟨m.next+1+1+1,0⟩),.int .u64 (c:Int),.int .i64 (i:Int)]
   ((((m.lay (.cells (D16 a) false)).lay (.cells (D16 b) false)).lay (.cells (D16 0) false)).lay (.cells (D16 ((a+b) % 4294967296 ^ i)) false))) (.agg (D16 (a+b))):=by
 intro d;induction d with
 |zero=>
  intro i c hi _ _;have:i=16:=by omega
  subst this;simp only[q99 (H:=H11),T.z7q,p2,q0b,wp,df (show ¬((16:Nat):Int)<16 by omega)];simp only[z7t (H:=H11),T.j5C,q1,q0S,q0V,wp,Nat.reduceLeDiff,lcd,z5Z];refine Res.eq ?_ rfl
  (repeat apply Fr.lays)
  exact Fr.refl _
 |succ d ih=>
  intro i c hi hc hc1;have h16:i<16:=by omega
  have la:=q2B a i;have lb:=q2B b i;obtain⟨s,hs⟩:∃s,s=dig a i+dig b i+c:=⟨_,rfl⟩;have e1:dig (a+b) i=s % 4294967296:=by unfold dig at hs⊢;omega
  have e2:(a+b) / 4294967296 ^ (i+1)=a / 4294967296 ^ (i+1)+b / 4294967296 ^ (i+1)+s / 4294967296:=by
   rw[q2d,q2d,q2d];unfold dig at hs;omega
  have hw:IntKind.wrap .u64 (IntKind.wrap .u64 ((dig a i:Int)+(dig b i:Int))+(c:Int))=((s:Nat):Int):=by rw[q0m,q0m];omega
  have ov:over (D16 ((a+b) % 4294967296 ^ i)) i (.int .u64 ((s % 4294967296:Nat):Int)) 1=some (D16 ((a+b) % 4294967296 ^ (i+1))):=
   q3A h16 q5Z (by rw[q7L,e1])
  simp only[q99 (H:=H11),T.z7q,p2,q0b,wp,dt (show (i:Int)<16 by omega)];simp only[z7r (H:=H11),T.j5A,p2,q1,wp,lcd,z9w _ _ h16,q0W _ h16,hw,q6f,q4R _ (show s<18446744073709551616 by omega),ov];simp only[z7s (H:=H11),T.j5B,p2,wp,show (i:Int)+1=((i+1:Nat):Int) by omega,wrap_i64 (n:=((i+1:Nat):Int)) (by omega) (by omega)]
  exact ih (i+1) (s / 4294967296) (by omega) e2 (by omega)
theorem a0h (a b:Nat) (m:Mem):Res m (run E11 (.fn 111) [.agg (D16 a),.agg (D16 b)] m) (.agg (D16 (a+b))):=by
 have lp:=j0d a b m 16 0 0 rfl (by simp) (by omega);rw[Nat.pow_zero,Nat.mod_one]at lp;simp only[j7q (H:=H11) rfl,T.f111,pB,q0N,wp,AV.cells,lcd,z16];exact lp
theorem j0B {a b N:Nat} (hN:a=b+N) (m:Mem):∀(d i c:Nat),i+d=16->a / 4294967296 ^ i=b / 4294967296 ^ i+N / 4294967296 ^ i+c->c<=1->
  Res m (D11.gor 462848 [.ptr (some ⟨m.next,0⟩),.ptr (some ⟨m.next+1,0⟩),.ptr (some ⟨m.next+1+1,0⟩),.ptr (some ⟨m.next+1+1+1,0⟩),.int .u64 (c:Int),.int .i64 (i:Int)]
   ((((m.lay (.cells (D16 a) false)).lay (.cells (D16 b) false)).lay (.cells (D16 0) false)).lay (.cells (D16 (N % 4294967296 ^ i)) false))) (.agg (D16 N)):=by
 intro d;induction d with
 |zero=>
  intro i c hi _ _;have:i=16:=by omega
  subst this;simp only[z0b (H:=H11),T.z7y,p2,q0b,wp,df (show ¬((16:Nat):Int)<16 by omega)];simp only[z7B (H:=H11),T.j5I,q1,q0S,q0V,wp,Nat.reduceLeDiff,lcd,z5Z];refine Res.eq ?_ rfl
  (repeat apply Fr.lays)
  exact Fr.refl _
 |succ d ih=>
  intro i c hi hc hc1;have h16:i<16:=by omega
  have la:=q2B a i;have lb:=q2B b i;obtain⟨s,hs⟩:∃s,s=dig a i+4294967296-dig b i-c:=⟨_,rfl⟩;have e1:dig N i=s % 4294967296:=by unfold dig at hs⊢;omega
  have e2:a / 4294967296 ^ (i+1)=b / 4294967296 ^ (i+1)+N / 4294967296 ^ (i+1)+(1-s / 4294967296):=by
   rw[q2d,q2d,q2d];unfold dig at hs;omega
  have hw:IntKind.wrap .u64 (IntKind.wrap .u64 (IntKind.wrap .u64 ((dig a i:Int)+4294967296)-(dig b i:Int))-(c:Int))=((s:Nat):Int):=by rw[q0m,q0m,q0m];omega
  have hw2:IntKind.wrap .u64 (1-((s / 4294967296:Nat):Int))=((1-s / 4294967296:Nat):Int):=by rw[q0m];omega
  have ov:over (D16 (N % 4294967296 ^ i)) i (.int .u64 ((s % 4294967296:Nat):Int)) 1=some (D16 (N % 4294967296 ^ (i+1))):=
   q3A h16 q5Z (by rw[q7L,e1])
  simp only[z0b (H:=H11),T.z7y,p2,q0b,wp,dt (show (i:Int)<16 by omega)];simp only[z7z (H:=H11),T.j5G,p2,q1,wp,lcd,z9w _ _ h16,q0W _ h16,hw,q6f,q4R _ (show s<18446744073709551616 by omega),ov,hw2];simp only[z7A (H:=H11),T.j5H,p2,wp,show (i:Int)+1=((i+1:Nat):Int) by omega,wrap_i64 (n:=((i+1:Nat):Int)) (by omega) (by omega)]
  exact ih (i+1) (1-s / 4294967296) (by omega) e2 (by omega)
theorem a0w {a b:Nat} (h:b<=a) (m:Mem):Res m (run E11 (.fn 113) [.agg (D16 a),.agg (D16 b)] m) (.agg (D16 (a-b))):=by
 have lp:=j0B (N:=a-b) (show a=b+(a-b) by omega) m 16 0 0 rfl (by simp;omega) (by omega);rw[Nat.pow_zero,Nat.mod_one]at lp;simp only[j7s (H:=H11) rfl,T.f113,pB,q0N,wp,AV.cells,lcd,z16];exact lp
def q7t (a b:Nat):Int:=if a<b then -1 else if a=b then 0 else 1
theorem j0h (a b:Nat) (m:Mem):∀(k:Nat),k<=16->a / 4294967296 ^ k=b / 4294967296 ^ k->
  Res m (D11.gor 458752 [.ptr (some ⟨m.next,0⟩),.ptr (some ⟨m.next+1,0⟩),.int .i64 ((k:Int)-1)]
   ((m.lay (.cells (D16 a) false)).lay (.cells (D16 b) false))) (.int .i64 (q7t a b)):=by
 intro k;induction k with
 |zero=>
  intro _ h;rw[Nat.pow_zero,Nat.div_one,Nat.div_one]at h;simp only[z0a (H:=H11),T.z7u,p2,q0b,wp,df (show ¬((0:Nat):Int)-1>=0 by omega)];simp only[z7x (H:=H11),T.j5F,wp];refine Res.eq ?_ (by unfold q7t;rw[if_neg (by omega),if_pos h])
  (repeat apply Fr.lays)
  exact Fr.refl _
 |succ k ih=>
  intro hk h;have h16:k<16:=by omega
  rw[q2d,q2d]at h;simp only[show ((k+1:Nat):Int)-1=(k:Int) by omega];simp only[z0a (H:=H11),T.z7u,p2,q0b,wp,dt (show (k:Int)>=0 by omega)];by_cases e:dig a k=dig b k
  ·have e':decide ((dig a k:Int)=(dig b k:Int))=true:=dt (by omega);simp only[q6X (H:=H11),T.z2L,p2,q1,q0b,wp,lcd,z9w _ _ h16,q0W _ h16,e',xbt];simp only[z7w (H:=H11),T.j5E,p2,wp,wrap_i64 (n:=(k:Int)-1) (by omega) (by omega)];exact ih (by omega) (by unfold dig at e;omega)
  ·have e':decide ((dig a k:Int)=(dig b k:Int))=false:=df (by omega);by_cases l:dig a k<dig b k
   ·have l':decide ((dig a k:Int)<(dig b k:Int))=true:=dt (by omega);simp only[q6X (H:=H11),T.z2L,p2,q1,q0b,wp,lcd,z9w _ _ h16,q0W _ h16,e',l',xbf];have:a<b:=by
     apply Classical.byContradiction;intro hn;have:=Nat.div_le_div_right (c:=4294967296 ^ k) (show b<=a by omega);unfold dig at l;omega
    refine Res.eq ?_ (by unfold q7t;rw[if_pos this])
    (repeat apply Fr.lays)
    exact Fr.refl _
   ·have l':decide ((dig a k:Int)<(dig b k:Int))=false:=df (by omega);simp only[q6X (H:=H11),T.z2L,p2,q1,q0b,wp,lcd,z9w _ _ h16,q0W _ h16,e',l',xbf];simp only[z7v (H:=H11),T.j5D,wp];have:b<a:=by
     apply Classical.byContradiction;intro hn;have:=Nat.div_le_div_right (c:=4294967296 ^ k) (show a<=b by omega);unfold dig at l e;omega
    refine Res.eq ?_ (by unfold q7t;rw[if_neg (by omega),if_neg (by omega)])
    (repeat apply Fr.lays)
    exact Fr.refl _
theorem a0i {a b:Nat} (ha:a<4294967296 ^ 16) (hb:b<4294967296 ^ 16) (m:Mem):Res m (run E11 (.fn 112) [.agg (D16 a),.agg (D16 b)] m) (.int .i64 (q7t a b)):=by
 have lp:=j0h a b m 16 (by omega) (by rw[Nat.div_eq_of_lt ha,Nat.div_eq_of_lt hb]);simp only[j7r (H:=H11) rfl,T.f112,q0N,wp,AV.cells,lcd];exact lp
end
end Go.Proofs.YtlginbmjiecglaaGreatDoor
