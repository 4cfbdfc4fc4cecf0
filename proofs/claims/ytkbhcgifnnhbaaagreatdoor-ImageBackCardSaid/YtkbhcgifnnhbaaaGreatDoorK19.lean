/- Texts of one claim, put together. -/
import Derived.Test.YtkbhcgifnnhbaaaGreatDoorK18
namespace Go.Proofs.YtkbhcgifnnhbaaaGreatDoor
set_option maxRecDepth 4000
open Go Go.Abs
section
def S14:List FuncId:=[288,227,127,226,286,229]
noncomputable def H14:FuncId->Option (List AV->Mem->R):=q1R E13 S14
noncomputable abbrev E14:Env:=Ea H14
theorem b2o:q07 E14:=q0U b2n S14
noncomputable abbrev D14:Do:=Da H14
section
variable {H:FuncId->Option (List AV->Mem->R)}
theorem z5N (h:H 288=some (q0B E13 288)) {a b:Int} (ha:a.natAbs<4294967296 ^ 8) (hb:b.natAbs<4294967296 ^ 7) (m:Mem):run (Ea H) (.fn 288) [.agg (q27 a),.agg (q27 b)] m=some (.agg (q27 (a*b)),m):=
 q0w h (by simp[AV.flat,AV.lt,q4Y]) fun m2 _ _=>a0i ha hb m2
theorem z5M (h:H 227=some (q0B E13 227)) {x:Int} (hx:x.natAbs<4294967296 ^ 16) (m:Mem):run (Ea H) (.fn 227) [.agg (q27 x)] m=some (.agg (q27 (-x)),m):=
 q0w h (by simp[AV.flat,AV.lt,q4Y]) fun m2 _ _=>j93 hx m2
theorem z7z (h:H 127=some (q0B E13 127)) {x y:Int} (hx:x.natAbs<4294967296 ^ 15) (hy:y.natAbs<4294967296 ^ 15) (m:Mem):run (Ea H) (.fn 127) [.agg (q27 x),.agg (q27 y)] m=some (.agg (q27 (x+y)),m):=
 q0w h (by simp[AV.flat,AV.lt,q4Y]) fun m2 _ _=>b1g hx hy m2
theorem a0k (h:H 226=some (q0B E13 226)) {x:Int} (hx:x.natAbs<4294967296 ^ 16) (m:Mem):run (Ea H) (.fn 226) [.agg (q27 x)] m=some (.tup [.agg (Wd.res x).1.cells,.int .i64 (Wd.res x).2],m):=
 q0w h (by simp[AV.flat,AV.lt,AV.lts,Wd.cells]) fun m2 _ _=>b1i hx m2
theorem b05 (h:H 286=some (q0B E13 286)) {x:Int} (hx:x.natAbs<4294967296 ^ 16) (to:Int) (m:Mem):run (Ea H) (.fn 286) [.agg (q27 x),.int .i64 to] m=some (q42 x to,m):=
 q0w h (q8R _ _) fun m2 _ _=>b06 hx to m2
theorem q5O (h:H 229=some (q0B E13 229)) (w:Wd) (s:Int) (m:Mem):run (Ea H) (.fn 229) [.agg (q0O w s)] m=some (.bool (decide (0<=s/\s<=18)),m):=
 q0w h (by simp[AV.flat,AV.lt]) fun m2 _ _=>j1r w s m2
end
theorem z2C (k:Nat):q3V k=((10 ^ k:Nat):Int):=by unfold q3V;exact (xFi 10 k).symm
def a0N (x k:Int):Int:=if k<=0 then x*q3V (-k).toNat else if x<0 then -(rhe (-x) k.toNat) else rhe x k.toNat
theorem b1b {x:Int} {q:Nat} (hq:q<4294967296 ^ 16) (hz:x=0->q=0) (m:Mem) (c0 c1 c2 c3:List AV) :
  Res m (D14.gor 1175553 [.ptr (some ⟨m.next,0⟩),.ptr (some ⟨m.next+1,0⟩),.ptr (some ⟨m.next+1+1+1,0⟩)]
   ((((((m.lay (.cells (q27 x) false)).lay (.cells (.bool false::D16 0) false)).lay (.cells c0 false)).lay (.cells (D16 q) false)).lay (.cells c1 false)).lay (.cells c2 false))) (.agg (q27 (if x<0 then -(q:Int) else (q:Int)))):=by
 have zr:=fun m=>q68 (H:=H14) rfl hq m
 by_cases h:x<0
 ·rw[xAb h];have hn:(!decide (q=0))=decide (-(q:Int)<0):=by rw[<-decide_not];exact decide_eq_decide.mpr (by omega)
  simp only[q27,dt h,show (-(q:Int)).natAbs=q by omega];simp only[z4A (H:=H14),z8p,p1,q1,q0p,AV.cells,Nat.reduceAdd,Nat.reduceLeDiff,ifV,unA,q0P,q0T,q0r,lcd,z16,zr,hn];refine Res.eq ?_ rfl
  (repeat apply Fr.lays)
  exact Fr.refl _
 ·rw[xAa h];simp only[q27,df h,show ((q:Int)).natAbs=q by omega,df (show ¬(q:Int)<0 by omega)];simp only[z4A (H:=H14),z8p,p1,q1,q0p,AV.cells,Nat.reduceAdd,Nat.reduceLeDiff,ifV,unA,q0P,q0T,q0r,lcd,z16];refine Res.eq ?_ rfl
  (repeat apply Fr.lays)
  exact Fr.refl _
theorem a0e {x:Int} (hx:x.natAbs<4294967296 ^ 8) {k:Int} (hk0:-60<=k) (hk1:k<=60) (m:Mem):Res m (run E14 (.fn 287) [.agg (q27 x),.int .i64 k] m) (.agg (q27 (a0N x k))):=by
 by_cases h:k<=0
 ·obtain⟨j,hj⟩:∃j:Nat,k=-(j:Int):=⟨(-k).toNat,by omega⟩;subst hj;have tn:=fun m=>a0g (H:=H14) rfl (k:=j) (by omega) m
  have ti:=fun m=>z5N (H:=H14) rfl hx (b:=((10 ^ j:Nat):Int)) (by rw[Int.natAbs_natCast];exact q7d (by omega)) m
  have hb:q27 ((10 ^ j:Nat):Int)=.bool false::D16 (10 ^ j):=by
   unfold q27;rw[Int.natAbs_natCast,df (Int.not_lt.mpr (Int.natCast_nonneg _))]
  rw[hb]at ti;have hr:a0N x (-(j:Int))=x*((10 ^ j:Nat):Int):=by
   unfold a0N;rw[xAb h,show (-(-(j:Int))).toNat=j by omega,z2C]
  rw[hr];have hneg:IntKind.wrap .i64 (0 - -(j:Int))=(j:Int):=by rw[wrap_i64 (by omega) (by omega)];omega
  simp only[q27]at ti⊢;simp only[j4K (H:=H14) rfl,b5r,pB,p2,q1,p1,q0p,AV.cells,Nat.reduceAdd,Nat.reduceLeDiff,q00,q0b,q0P,q0T,q0r,unA,AV.one,lcd,z16,dt h,hneg,tn,ti];refine Res.eq ?_ rfl
  (repeat apply Fr.lays)
  exact Fr.refl _
 ·obtain⟨j,hj⟩:∃j:Nat,k=(j:Int):=⟨k.toNat,by omega⟩;subst hj;have tn:=fun m=>a0g (H:=H14) rfl (k:=j) (by omega) m
  have hp:0<10 ^ j:=Nat.pow_pos (by omega);have hpl:=q7d (k:=j) (by omega);have hpl':=q4F hpl (by omega);have dv:=fun m=>b07 (H:=H14) rfl (q4F hx (by omega)) hpl' hp m
  obtain⟨n,hn⟩:∃n,n=x.natAbs:=⟨_,rfl⟩;rw[<-hn]at dv;have hx':=hx;rw[<-hn]at hx;have ql:n / 10 ^ j<=n:=Nat.div_le_self _ _;have rl:=xEv n hp;have fin:=fun {q:Nat} hq hz=>b1b (x:=x) (q:=q) hq hz m
  have tP:=z2C j;have hq1:n / 10 ^ j+1<4294967296 ^ 16:=by
   have h1:n+1<4294967296 ^ 16:=xCp (show n+1<=4294967296 ^ 8 from hx) (Nat.pow_lt_pow_right (by omega) (by omega));omega
  have hval:a0N x (j:Int)=(if x<0 then -(((if 10 ^ j<2*(n % 10 ^ j)\/(2*(n % 10 ^ j)=10 ^ j/\n / 10 ^ j % 2=1) then n / 10 ^ j+1 else n / 10 ^ j:Nat):Int)) else ((if 10 ^ j<2*(n % 10 ^ j)\/(2*(n % 10 ^ j)=10 ^ j/\n / 10 ^ j % 2=1) then n / 10 ^ j+1 else n / 10 ^ j:Nat):Int)):=by
   have key:rhe (n:Int) j=((if 10 ^ j<2*(n % 10 ^ j)\/(2*(n % 10 ^ j)=10 ^ j/\n / 10 ^ j % 2=1) then n / 10 ^ j+1 else n / 10 ^ j:Nat):Int):=by
    unfold rhe;rw[tP,<-Int.natCast_ediv,<-Int.natCast_emod];by_cases hc:10 ^ j<2*(n % 10 ^ j)\/(2*(n % 10 ^ j)=10 ^ j/\n / 10 ^ j % 2=1)
    ·rw[xAb hc,xAb (by omega)];rfl
    ·rw[xAa hc,xAa (by omega)]
   unfold a0N;rw[xAa h,show ((j:Int)).toNat=j by omega];by_cases hneg:x<0
   ·rw[xAb hneg,xAb hneg,show -x=(n:Int) by omega,key]
   ·rw[xAa hneg,xAa hneg,show x=(n:Int) by omega,key]
  have hz:x=0->(if 10 ^ j<2*(n % 10 ^ j)\/(2*(n % 10 ^ j)=10 ^ j/\n / 10 ^ j % 2=1) then n / 10 ^ j+1 else n / 10 ^ j)=0:=by
   intro h0;have:n=0:=by omega
   subst this;rw[Nat.zero_mod,Nat.zero_div];rw[xAa (by omega)]
  rw[hval];obtain⟨p,hpp⟩:∃p,p=10 ^ j:=⟨_,rfl⟩;rw[<-hpp]at tn hp hpl hpl' dv ql rl hq1 hz⊢;obtain⟨q,hqq⟩:∃q,q=n / p:=⟨_,rfl⟩;obtain⟨r,hrr⟩:∃r,r=n % p:=⟨_,rfl⟩;rw[<-hqq]at dv ql hq1 hz⊢;rw[<-hrr]at dv rl hz⊢;have a1:=fun m=>z2q (H:=H14) rfl r r m
  have a2:=fun m=>z2q (H:=H14) rfl q 1 m
  have hr2:r+r<4294967296 ^ 16:=by
   have h1:r+r<=4294967296 ^ 7+4294967296 ^ 7:=by omega
   exact xCp h1 (by decide)
  have cm:=fun m=>z7p (H:=H14) rfl hr2 hpl' m
  have s1:over (D16 0) 0 (.int .u64 1) 1=some (D16 1):=q9L (n:=1) (by omega);have hodd:((dig q 0:Nat):Int).tmod 2=((q % 2:Nat):Int):=by
   rw[xBm (Int.natCast_nonneg _),b8g];omega
  have z2:(2:Int)≠0:=by omega
  simp only[q27]at fin;simp only[q27,<-hn,j4K (H:=H14) rfl,b5r,pB,p2,q1,p1,q0p,AV.cells,Nat.reduceAdd,Nat.reduceLeDiff,q00,q0b,q0P,q0T,q0r,AV.one,lcd,z16,df h];simp only[<-hn]at fin;by_cases c1:p<2*r
  ·have hI:(if p<2*r\/(2*r=p/\q % 2=1) then q+1 else q)=q+1:=xAb (.inl c1)
   rw[hI]at hz⊢;have e1:decide ((0:Int)<q9X (r+r) p)=true:=by unfold q9X;rw[xAa (by omega),xAa (by omega)];rfl
   simp only[q6J (H:=H14),z0n,pB,p1,q1,p2,q0q,q0b,ifV,Nat.reduceAdd,q0r,Nat.reduceLeDiff,lcd,z16,z7b,s1,tn,dv,a1,cm,e1,a2];exact fin hq1 hz _ _ _ []
  ·have e1:decide ((0:Int)<q9X (r+r) p)=false:=by unfold q9X;split<;>(try split)<;>first|rfl|omega
   by_cases c2:2*r=p
   ·have e2:decide (q9X (r+r) p=0)=true:=by unfold q9X;rw[xAa (by omega),xAb (by omega)];rfl
    by_cases c3:q % 2=1
    ·have hI:(if p<2*r\/(2*r=p/\q % 2=1) then q+1 else q)=q+1:=xAb (.inr ⟨c2,c3⟩)
     rw[hI]at hz⊢;have e3:decide (((q % 2:Nat):Int)=1)=true:=dt (by omega);simp only[q6J (H:=H14),z0n,pB,p1,q1,p2,q0q,q0b,ifV,Nat.reduceAdd,q0r,Nat.reduceLeDiff,lcd,z16,z7b,s1,tn,dv,a1,cm,e1,e2,q02 _ (show 0<16 by omega),q2f _ _ _ _ z2,hodd,e3,a2];exact fin hq1 hz _ _ _ []
    ·have hI:(if p<2*r\/(2*r=p/\q % 2=1) then q+1 else q)=q:=xAa (by omega)
     rw[hI]at hz⊢;have e3:decide (((q % 2:Nat):Int)=1)=false:=df (by omega);simp only[q6J (H:=H14),z0n,pB,p1,q1,p2,q0q,q0b,ifV,Nat.reduceAdd,q0r,Nat.reduceLeDiff,lcd,z16,z7b,s1,tn,dv,a1,cm,e1,e2,q02 _ (show 0<16 by omega),q2f _ _ _ _ z2,hodd,e3];exact fin (by omega) hz _ _ _ []
   ·have e2:decide (q9X (r+r) p=0)=false:=by unfold q9X;split<;>(try split)<;>first|rfl|omega
    have hI:(if p<2*r\/(2*r=p/\q % 2=1) then q+1 else q)=q:=xAa (by omega)
    rw[hI]at hz⊢;simp only[q6J (H:=H14),z0n,pB,p1,q1,p2,q0q,q0b,ifV,Nat.reduceAdd,q0r,Nat.reduceLeDiff,lcd,z16,z7b,s1,tn,dv,a1,cm,e1,e2];exact fin (by omega) hz _ _ _ []
end
section
def S15:List FuncId:=[287]
noncomputable def H15:FuncId->Option (List AV->Mem->R):=q1R E14 S15
noncomputable abbrev E15:Env:=Ea H15
theorem b2p:q07 E15:=q0U b2o S15
noncomputable abbrev D15:Do:=Da H15
theorem a0d {H:FuncId->Option (List AV->Mem->R)} (h:H 287=some (q0B E14 287)) {x:Int} (hx:x.natAbs<4294967296 ^ 8) {k:Int} (hk0:-60<=k) (hk1:k<=60) (m:Mem):run (Ea H) (.fn 287) [.agg (q27 x),.int .i64 k] m=some (.agg (q27 (a0N x k)),m):=
 q0w h (by simp[AV.flat,AV.lt,q4Y]) fun m2 _ _=>a0e hx hk0 hk1 m2
theorem q7f {w:Wd} (h:w.ok):w.val.natAbs<=170141183460469231731687303715884105728:=by
 have:=z8F h;unfold q17 at this;split at this<;>omega
theorem z7t (k:Nat):rhe 0 k=0:=by
 unfold rhe;rw[Int.zero_emod,Int.zero_ediv];have:=q4N k;rw[xAa (by omega)]
theorem b1c (x y k:Int):a0N (x*y) k=j9n x y k:=by
 have hs:=b48 x y;unfold j9n scF;obtain⟨A,hA⟩:∃A,A=q17 x*q17 y:=⟨_,rfl⟩;have hA0:0<=A:=by
  rw[hA];have h0:∀z,0<=q17 z:=fun z=>by unfold q17;split<;>omega
  exact xCh (h0 x) (h0 y)
 rw[<-hA]at hs⊢;unfold a0N;by_cases hk:0<=k
 ·rw[xAb hk];by_cases hk0:k=0
  ·subst hk0;rw[xAb (by omega),show (-(0:Int)).toNat=0 from rfl,show (0:Int).toNat=0 from rfl,show q3V 0=1 from rfl,Int.mul_one,a4n];exact hs.symm
  ·rw[xAa (by omega)];by_cases hb:(!(decide (x<0)==decide (y<0)))=true
   ·rw[xAb hb]at hs⊢;by_cases h:x*y<0
    ·rw[xAb h,show -(x*y)=A by omega]
    ·rw[xAa h];have h0:A=0:=by omega
     have h1:x*y=0:=by omega
     rw[h0,h1,z7t];rfl
   ·rw[xAa hb]at hs⊢;rw[xAa (by omega),<-hs]
 ·rw[xAa hk,xAb (by omega)]
theorem z5H {n:Int} (h:0<=n) (k:Nat):(rhe n k).natAbs<=n.natAbs+1:=by
 have h1:=a6H h k;have h2:=b41 h k;omega
theorem j97 {x k:Int} (hx:x.natAbs<4294967296 ^ 8) (hk:-18<=k):(a0N x k).natAbs<4294967296 ^ 16:=by
 unfold a0N;split
 ·rw[Int.natAbs_mul,z2C,Int.natAbs_natCast];exact z9P hx (q7d (by omega))
 ·have h8:4294967296 ^ 8+1<4294967296 ^ 16:=by decide
  split
  ·have:=z5H (show 0<=-x by omega) k.toNat;rw[Int.natAbs_neg]at this;rw[Int.natAbs_neg];omega
  ·have:=z5H (show 0<=x by omega) k.toNat;omega
theorem a6S {a b:Wd} (ha:a.ok) (hb:b.ok):(a.val*b.val).natAbs<4294967296 ^ 8:=by
 rw[Int.natAbs_mul];exact xCp (Nat.mul_le_mul (q7f ha) (q7f hb)) (by decide)
theorem b8d {a:Wd} (ha:a.ok):a.val.natAbs<4294967296 ^ 7:=xCp (q7f ha) (by decide)
theorem b5f {a:Wd} (ha:a.ok):a.val.natAbs<4294967296 ^ 8:=xCp (q7f ha) (by decide)
theorem q5r {a:Wd} (ha:a.ok):a.val.natAbs<4294967296 ^ 15:=xCp (q7f ha) (by decide)
end
section
open Go Go.Abs
theorem j9p (s:List UInt8) (hl:s.length<4611686018427387904) (m:Mem):∀(d i:Nat),s.length-i<=d->i<=s.length->D15.gor 622592 [.str s,.int .i64 i] m=some (.bool ((s.drop i).all (fun c=>decide (65<=c.toNat)&&decide (c.toNat<=90))&&decide (s.length=3)),m):=by
 intro d;induction d with
 |zero=>
  intro i hd hi;have e:i=s.length:=by omega
  subst e;simp only[z4b (H:=H15),z7R,p1,p2,q0b,q0y,df (show ¬((s.length:Nat):Int)<(s.length:Int) by omega),j49 (H:=H15),j2g,q0y,xDz,xCw,xAs];rw[show decide ((s.length:Int)=3)=decide (s.length=3) by by_cases h:s.length=3<;>simp[h];omega]
 |succ d ih=>
  intro i hd hi;by_cases e:i=s.length
  ·exact ih i (by omega) hi
  ·have hlt:i<s.length:=by omega
   simp only[z4b (H:=H15),z7R,p1,p2,q0b,q0y,dt (show (i:Int)<(s.length:Int) by omega)];have h0:(0:Int)<=(i:Int):=by omega
   simp only[j47 (H:=H15),j2e,p2,q0b,ifV,q0y,xAb h0,xCg,xgq hlt];rw[xAk hlt,xBq];by_cases h1:(s[i].toNat:Int)<65
   ·simp only[dt h1,df (show ¬65<=s[i].toNat by omega),xAt]
   ·by_cases h2:(90:Int)<(s[i].toNat:Int)
    ·simp only[df h1,dt h2,df (show ¬s[i].toNat<=90 by omega),xAt,xDg]
    ·simp only[df h1,df h2,j48 (H:=H15),j2f,p2,q0y,dt (show 65<=s[i].toNat by omega),dt (show s[i].toNat<=90 by omega),xAs];rw[wrap_i64 (by have:=hl;omega) (by have:=hl;omega),show (i:Int)+1=((i+1:Nat):Int) by omega];exact ih (i+1) (by omega) (by omega)
theorem b0N (s:List UInt8) (hl:s.length<4611686018427387904) (m:Mem):run E15 (.fn 152) [.str s] m=some (.bool (q4R s),m):=by
 simp only[a9g (H:=H15) rfl,b6i,q0y];exact j9p s hl m s.length 0 (by omega) (by omega)
section
variable {m:Mem} {b:Nat} {st:LSt} {F:List Nat}
end
end
section
def S17:List FuncId:=[259,299,266]
def R17:List FuncId:=[152,217,219,218,109,200,201]
noncomputable def H17:FuncId->Option (List AV->Mem->R):=q5a E15 S17 R17
noncomputable abbrev E17:Env:=Ea H17
theorem b2q:q07 E17:=q3t b2p S17 R17
section
variable {H:FuncId->Option (List AV->Mem->R)} {m:Mem} {t:Nat} {st:LSt} {most:Int} {F:List Nat}
end
theorem b4Z {H:FuncId->Option (List AV->Mem->R)} {f:FuncId} (h:H f=some (run E15 (.fn f))) (xs:List AV) (m:Mem):run (Ea H) (.fn f) xs m=run E15 (.fn f) xs m:=q1x h xs m
section
variable {m:Mem} {b:Nat} {st:LSt} {F:List Nat}
end
end
section
theorem a0p (x:Int):decide (sgn x<0)=decide (x<0):=by unfold sgn;apply decide_eq_decide.mpr;split<;>(try split)<;>omega
def S18:List FuncId:=[261,262,265]
noncomputable def H18:FuncId->Option (List AV->Mem->R):=q1R E17 S18
noncomputable abbrev E18:Env:=Ea H18
theorem b2r:q07 E18:=q0U b2q S18
section
variable {H:FuncId->Option (List AV->Mem->R)} {m:Mem} {b:Nat} {st:LSt} {F:List Nat}
end
section
variable {m:Mem} {b:Nat} {st:LSt} {F:List Nat}
end
end
section
theorem q9y {s:List UInt8} (h:q4R s=true):s.length=3:=by
 unfold q4R at h;simp only[xAc,xAj]at h;exact h.2
theorem q1G {st:LSt} (w:LWf st) {k:List UInt8} (h:(st.q4r k).isSome=true):k.length=3:=by
 cases hk:q1u q0g k (st.q0d.map (·.name)) with
 |false=>rw[LSt.q3H hk]at h;simp at h
 |true=>
  obtain⟨p,p1,p2,p3,p4⟩:=LSt.q2c hk;rw[<-p2];exact q9y (w.okp p p4).2.2.2
section
variable {m:Mem} {b:Nat} {st:LSt} {F:List Nat}
end
end
section
set_option maxRecDepth 8000
open Go Go.Abs
def q3l (w:Wd) (s:Int) (v:Wd) (t:Int) (n:Int):Wd×Int×Int:=
 if (0<=s/\s<=18)/\(0<=n/\n<=18) then
  if 0<w.val then
   if q4p v t=0 then (if q0Q (j9n w.val v.val (s+t-n))=true then (Wd.of (j9n w.val v.val (s+t-n)),n,0) else (⟨0,0⟩,0,20)) else (⟨0,0⟩,0,q4p v t)
  else (⟨0,0⟩,0,43)
 else (⟨0,0⟩,0,21)
theorem z3E (w:Wd) (s:Int) (v:Wd) (t:Int) (n:Int):z8X w s v t n=.tup [.agg (q0O (q3l w s v t n).1 (q3l w s v t n).2.1),.int .i64 (q3l w s v t n).2.2]:=by
 unfold z8X q3l q42
 (repeat' split)<;>rfl
theorem j4e (w:Wd) (s:Int) (v:Wd) (t:Int) (n:Int):(q3l w s v t n).1.ok:=by
 unfold q3l
 (repeat' split)<;>first|exact a6T|exact Wd.q4D (by assumption)
def j4c (st:LSt) (a:q1v) (p:q0v) (a':q1v) (p':q0v) (q:q0D) (w:Wd) (s:Int):Wd×Int×Int×LSt:=
 if q3n p w s≠0 then (⟨0,0⟩,0,q3n p w s,st) else
 if a.bal.val<w.val then (⟨0,0⟩,0,42,st) else
 let g:=q3l w s q.rate q.q0V p'.scale
 if g.2.2≠0 then (⟨0,0⟩,0,g.2.2,st) else
 if q45 a.bal q.inx w=false\/q45 q.q2I a'.bal g.1=false then (⟨0,0⟩,0,20,st) else
 (g.1,g.2.1,0,((st.q2U {a with bal:=Wd.of (a.bal.val-w.val)}).q2U {a' with bal:=Wd.of (a'.bal.val+g.1.val)}).q9G {q with inx:=Wd.of (q.inx.val+w.val),q2I:=Wd.of (q.q2I.val-g.1.val)})
def q3m (st:LSt) (a b:Int) (w:Wd) (s:Int):Wd×Int×Int×LSt:=
 let o:=st.of a
 let p:=st.of b
 if o.2.2≠0 then (⟨0,0⟩,0,o.2.2,st) else
 if p.2.2≠0 then (⟨0,0⟩,0,p.2.2,st) else
 if o.2.1.name=p.2.1.name then (⟨0,0⟩,0,45,st) else
 match st.j6N (o.2.1.name++p.2.1.name) with
 |none=>(⟨0,0⟩,0,44,st)
 |some q=>j4c st o.1 o.2.1 p.1 p.2.1 q w s
def z3:List AV:=[.int .i64 0,.int .u64 0,.int .i64 0]
section
variable {M:Mem} {n b:Nat} {st:LSt} {F:List Nat}
end
end
section
set_option maxRecDepth 8000
open Go Go.Abs
def trT (st:LSt) (a:q1v) (p:q0v) (a':q1v) (w:Wd) (s:Int):Int×LSt:=
 if q3n p w s≠0 then (q3n p w s,st) else
 if a.bal.val<w.val then (42,st) else
 if q45 a.bal a'.bal w=true then (0,(st.q2U {a with bal:=Wd.of (a.bal.val-w.val)}).q2U {a' with bal:=Wd.of (a'.bal.val+w.val)}) else (20,st)
section
variable {M:Mem} {n b:Nat} {st:LSt} {F:List Nat}
end
section
variable {m:Mem} {b:Nat} {st:LSt} {F:List Nat}
theorem z6b (st:LSt) (i j:Int) (x:Wd) (s:Int):q3P st i j x s=(if (st.of i).2.2≠0 then ((st.of i).2.2,st) else if (st.of j).2.2≠0 then ((st.of j).2.2,st) else if i=j then (45,st) else
  if (st.of i).2.1.name≠(st.of j).2.1.name then (41,st) else trT st (st.of i).1 (st.of i).2.1 (st.of j).1 x s):=rfl
end
end
section
theorem j96 {a b:Wd} (ha:a.ok) (hb:b.ok) {s t to:Int} (hs:0<=s/\s<=18) (ht:0<=t/\t<=18) (hto:0<=to/\to<=18) (m:Mem) :
  Res m (run E18 (.fn 230) [.agg (q0O a s),.agg (q0O b t),.int .i64 to] m) (q42 (j9n a.val b.val (s+t-to)) to):=by
 have r1:=fun m=>q5O (H:=H18) rfl a s m
 have r2:=fun m=>q5O (H:=H18) rfl b t m
 rw[dt hs]at r1;rw[dt ht]at r2;have o1:=fun m=>q7U (H:=H18) rfl ha m
 have o2:=fun m=>q7U (H:=H18) rfl hb m
 have ti:=fun m=>z5N (H:=H18) rfl (b5f ha) (b8d hb) m
 have ro:=fun m=>a0d (H:=H18) rfl (a6S ha hb) (k:=s+t-to) (by omega) (by omega) m
 have rd:=fun m=>b05 (H:=H18) rfl (j97 (a6S ha hb) (k:=s+t-to) (by omega)) to m
 rw[b1c]at ro rd;have hk1:IntKind.wrap .i64 (s+t)=s+t:=wrap_i64 (by omega) (by omega);have hk2:IntKind.wrap .i64 (s+t-to)=s+t-to:=wrap_i64 (by omega) (by omega);obtain⟨ah,al⟩:=a;obtain⟨bh,bl⟩:=b;obtain⟨N,hN⟩:∃N,N=j9n (Wd.mk ah al).val (Wd.mk bh bl).val (s+t-to):=⟨_,rfl⟩;rw[<-hN]at ro rd⊢;simp only[q0O,Wd.cells]at r1 r2 o1 o2;simp only[q0O,a9x (H:=H18) rfl,b6z,pB,q1,p1,p2,q0p,AV.cells,Nat.reduceAdd,Nat.reduceLeDiff,q00,q0b,ifV,unA,q0P,q0T,q0r,AV.one,over,lcl,r1,r2,xbt,df (show ¬to<0 by omega),df (show ¬(18:Int)<to by omega)]
 unfold q42 at rd⊢;cases hf:q0Q N with
 |true=>
  simp only[hf,xAd,q0O]at rd⊢;simp only[z4n (H:=H18),z8c,p1,q1,p2,q0q,q0P,q0T,Nat.reduceAdd,q0r,AV.one,over,AV.cells,Nat.reduceLeDiff,lcl,o1,o2,ti,hk1,hk2,ro,rd];refine Res.eq ?_ rfl
  (repeat apply Fr.lays)
  exact Fr.refl _
 |false=>
  simp only[hf,xbq,xAh,q0O]at rd⊢;simp only[z4n (H:=H18),z8c,p1,q1,p2,q0q,q0P,q0T,Nat.reduceAdd,q0r,AV.one,over,AV.cells,Nat.reduceLeDiff,lcl,o1,o2,ti,hk1,hk2,ro,rd];refine Res.eq ?_ rfl
  (repeat apply Fr.lays)
  exact Fr.refl _
def S19:List FuncId:=[230,207,209,208]
def R19:List FuncId:=[202,205,206,125,203,204]
noncomputable def H19:FuncId->Option (List AV->Mem->R):=q5a E18 S19 R19
noncomputable abbrev E19:Env:=Ea H19
theorem b2s:q07 E19:=q3t b2r S19 R19
noncomputable abbrev D19:Do:=Da H19
section
variable {H:FuncId->Option (List AV->Mem->R)} {m:Mem} {b:Nat} {st:LSt} {F:List Nat}
theorem j1p (h:H 230=some (q0B E18 230)) {a b:Wd} (ha:a.ok) (hb:b.ok) {s t to:Int} (hs:0<=s/\s<=18) (ht:0<=t/\t<=18) (hto:0<=to/\to<=18) (m:Mem) :
  run (Ea H) (.fn 230) [.agg (q0O a s),.agg (q0O b t),.int .i64 to] m=some (q42 (j9n a.val b.val (s+t-to)) to,m):=
 q0w h (q8R _ _) fun m2 _ _=>j96 ha hb hs ht hto m2
end
end
section
section
variable {m:Mem} {b:Nat} {st:LSt} {F:List Nat}
theorem z7x (h:q0I m b st F) (hn:st.q0d.length<=1000) (k:List UInt8):∀(d i:Nat),i+d=st.q0d.length->
  D19.gor 581632 [.ptr (some ⟨b,0⟩),.str k,.int .i64 (i:Int)] m=some (.int .i64 (q52 (fun p=>decide (p.name=k)) (st.q0d.drop i) i),m):=by
 obtain⟨sp,sq,sa,rp,rq,ra,h1,h2,h3,h4,h5⟩:=h.ex;have a3:∀i:Nat,ld1 m (.ptr (some ⟨b,i⟩))=[sp,sq,sa,.int .u64 st.latest,.int .i64 st.most][i]?:=fun i=>q0e h1
 intro d;induction d with
 |zero=>
  intro i hi;have:i=st.q0d.length:=by omega
  subst this;obtain⟨a,sz,cap,ex,e⟩:=h2.len;rw[xlm]at e;subst e;rw[xDz];simp only[z3W (H:=H19),z7M,Int.reduceNegSucc,p1,q1,p2,nnA,q0b,q0f,a3,df (show ¬((st.q0d.length:Nat):Int)<(st.q0d.length:Int) by omega),j4X (H:=H19),j14,q0f,q52]
 |succ d ih=>
  intro i hi;have hlt:i<st.q0d.length:=by omega
  obtain⟨bb,_,e,e2,e3,_⟩:=h2.fld (i:=i) (by rw[xlm];exact hlt);rw[xlm]at e e2;subst e;have e4:=e3 0 (by omega);rw[xgm]at e4;rw[xAk hlt];unfold q52;simp only[xna,q0v.cells]at e4;simp only[z3W (H:=H19),z7M,p1,q1,p2,nnA,q0b,q0f,a3,dt (show (i:Int)<(st.q0d.length:Int) by omega)];simp only[j4V (H:=H19),j1Y,p1,q1,p2,nnA,q0b,q0f,a3,xBv,xAd,e2,e4]
  by_cases hk:st.q0d[i].name=k
  ·simp only[dt hk,xAd]
  ·simp only[df hk,xbq,xAh];simp only[j4W (H:=H19),j1Z,p2,q0f,show (i:Int)+1=((i+1:Nat):Int) by omega,wrap_i64 (n:=((i+1:Nat):Int)) (by omega) (by omega)];exact ih (i+1) (by omega)
theorem a0a (h:q0I m b st F) (hn:st.q0d.length<=1000) (k:List UInt8):run E19 (.fn 142) [.ptr (some ⟨b,0⟩),.str k] m=some (.int .i64 (q52 (fun p=>decide (p.name=k)) st.q0d 0),m):=by
 have:=z7x h hn k st.q0d.length 0 (by omega);rw[xAp]at this;simp only[a9a (H:=H19) rfl,b6c,q0f];exact this
theorem j9Q (h:q0I m b st F) (hn:st.q0s.length<=1000) (k:Int):∀(d i:Nat),i+d=st.q0s.length->
  D19.gor 585728 [.ptr (some ⟨b,0⟩),.int .u64 k,.int .i64 (i:Int)] m=some (.int .i64 (q52 (fun p=>decide (p.id=k)) (st.q0s.drop i) i),m):=by
 obtain⟨sp,sq,sa,rp,rq,ra,h1,h2,h3,h4,h5⟩:=h.ex;have a3:∀i:Nat,ld1 m (.ptr (some ⟨b,i⟩))=[sp,sq,sa,.int .u64 st.latest,.int .i64 st.most][i]?:=fun i=>q0e h1
 intro d;induction d with
 |zero=>
  intro i hi;have:i=st.q0s.length:=by omega
  subst this;obtain⟨a,sz,cap,ex,e⟩:=h4.len;rw[xlm]at e;subst e;rw[xDz];simp only[z3X (H:=H19),z7N,Int.reduceNegSucc,p1,q1,p2,nnA,q0b,q0f,a3,df (show ¬((st.q0s.length:Nat):Int)<(st.q0s.length:Int) by omega),j40 (H:=H19),j17,q0f,q52]
 |succ d ih=>
  intro i hi;have hlt:i<st.q0s.length:=by omega
  obtain⟨bb,_,e,e2,e3,_⟩:=h4.fld (i:=i) (by rw[xlm];exact hlt);rw[xlm]at e e2;subst e;have e4:=e3 0 (by omega);rw[xgm]at e4;rw[xAk hlt];unfold q52;simp only[xna,q1v.cells]at e4;simp only[z3X (H:=H19),z7N,p1,q1,p2,nnA,q0b,q0f,a3,dt (show (i:Int)<(st.q0s.length:Int) by omega)];simp only[j4Y (H:=H19),j15,p1,q1,p2,nnA,q0b,q0f,a3,xBv,xAd,e2,e4]
  by_cases hk:st.q0s[i].id=k
  ·simp only[dt hk,xAd]
  ·simp only[df hk,xbq,xAh];simp only[j4Z (H:=H19),j16,p2,q0f,show (i:Int)+1=((i+1:Nat):Int) by omega,wrap_i64 (n:=((i+1:Nat):Int)) (by omega) (by omega)];exact ih (i+1) (by omega)
theorem b0X (h:q0I m b st F) (hn:st.q0s.length<=1000) (k:Int):run E19 (.fn 143) [.ptr (some ⟨b,0⟩),.int .u64 k] m=some (.int .i64 (q52 (fun p=>decide (p.id=k)) st.q0s 0),m):=by
 have:=j9Q h hn k st.q0s.length 0 (by omega);rw[xAp]at this;simp only[a9b (H:=H19) rfl,b6d,q0f];exact this
theorem j1q (h:q0I m b st F) (hn:st.pairs.length<=1000) (x y:List UInt8):∀(d i:Nat),i+d=st.pairs.length->
  D19.gor 614400 [.ptr (some ⟨b,0⟩),.str x,.str y,.int .i64 (i:Int)] m=some (.int .i64 (q52 (fun p=>decide (p.x=x)&&decide (p.y=y)) (st.pairs.drop i) i),m):=by
 obtain⟨sp,sq,sa,rp,rq,ra,h1,h2,h3,h4,h5⟩:=h.ex;have a3:∀i:Nat,ld1 m (.ptr (some ⟨b,i⟩))=[sp,sq,sa,.int .u64 st.latest,.int .i64 st.most][i]?:=fun i=>q0e h1
 intro d;induction d with
 |zero=>
  intro i hi;have:i=st.pairs.length:=by omega
  subst this;obtain⟨a,sz,cap,ex,e⟩:=h3.len;rw[xlm]at e;subst e;rw[xDz];simp only[z3Y (H:=H19),z7O,Int.reduceNegSucc,p1,q1,p2,nnA,q0b,q0f,a3,df (show ¬((st.pairs.length:Nat):Int)<(st.pairs.length:Int) by omega),j46 (H:=H19),j2d,q0f,q52]
 |succ d ih=>
  intro i hi;have hlt:i<st.pairs.length:=by omega
  obtain⟨bb,_,e,e2,e3,_⟩:=h3.fld (i:=i) (by rw[xlm];exact hlt);rw[xlm]at e e2;subst e;have e4:=e3 0 (by omega);have e5:=e3 1 (by omega);rw[xgm]at e4 e5;rw[xAk hlt];unfold q52;simp only[ge,xna,q0D.cells]at e4 e5;simp only[z3Y (H:=H19),z7O,p1,q1,p2,nnA,q0b,q0f,a3,dt (show (i:Int)<(st.pairs.length:Int) by omega)];have tl:=ih (i+1) (by omega);have st2:D19.gor 614402 [.ptr (some ⟨b,0⟩),.str x,.str y,.int .i64 (i:Int)] m=some (.int .i64 (q52 (fun p=>decide (p.x=x)&&decide (p.y=y)) (st.pairs.drop (i+1)) (i+1)),m):=by
   simp only[j45 (H:=H19),j2c,p2,q0f,show (i:Int)+1=((i+1:Nat):Int) by omega,wrap_i64 (n:=((i+1:Nat):Int)) (by omega) (by omega)];exact tl
  simp only[j44 (H:=H19),j2b,p1,q1,p2,nnA,q0b,ifV,q0f,a3,xBv,xAd,e2,e4,e5,st2];by_cases hx:st.pairs[i].x=x
  ·by_cases hy:st.pairs[i].y=y
   ·simp only[dt hx,dt hy,Bool.and_self,xAd]
   ·simp only[dt hx,df hy,xDg,xbq,xAh]
  ·simp only[df hx,xAt,xbq,xAh]
theorem a4t (h:q0I m b st F) (hn:st.pairs.length<=1000) (x y:List UInt8):run E19 (.fn 150) [.ptr (some ⟨b,0⟩),.str x,.str y] m=some (.int .i64 (q52 (fun p=>decide (p.x=x)&&decide (p.y=y)) st.pairs 0),m):=by
 have:=j1q h hn x y st.pairs.length 0 (by omega);rw[xAp]at this;simp only[a9f (H:=H19) rfl,b6h,q0f];exact this
end
end
section
theorem a4r (s:List UInt8) (hl:s.length<4611686018427387904) (m:Mem):run E19 (.fn 141) [.str s] m=some (.bool (q4R s),m):=by
 by_cases h3:s.length=3
 ·match s,h3 with
  |[a,b,c],_=>
   have w1:IntKind.wrap .i64 (0+1)=1:=wrap_i64 (by omega) (by omega);have w2:IntKind.wrap .i64 (1+1)=2:=wrap_i64 (by omega) (by omega);have w3:IntKind.wrap .i64 (2+1)=3:=wrap_i64 (by omega) (by omega);have c0:decide ((0:Int)<3)=true:=by decide
   have c1:decide ((1:Int)<3)=true:=by decide
   have c2:decide ((2:Int)<3)=true:=by decide
   have c3:decide ((3:Int)<3)=false:=by decide
   have d3:decide ((([a,b,c]:List UInt8).length:Int)=3)=true:=by simp
   have n0:(0:Int).toNat=0:=rfl;have n1:(1:Int).toNat=1:=rfl;have n2:(2:Int).toNat=2:=rfl;have pz0:(0:Int)<=0:=by omega
   have pz1:(0:Int)<=1:=by omega
   have pz2:(0:Int)<=2:=by omega
   have key:∀x:UInt8,(decide (65<=x.toNat)&&decide (x.toNat<=90))=(!decide ((x.toNat:Int)<65)&&!decide ((90:Int)<(x.toNat:Int))):=by
    intro x;rw[<-decide_not,<-decide_not];congr 1<;>(apply decide_eq_decide.mpr;omega)
   unfold q4R;simp only[xBq,xCw,key,xAi,xAv];simp only[j4y (H:=H19) rfl,b5h,p1,p2,q0b,q0y,d3,xbt,j4T (H:=H19),j1W,q0y];simp only[q6E (H:=H19),z0i,p2,q0b,q0y,c0];simp only[ge,q83 (H:=H19),z2P,p2,q0b,ifV,q0y,xAb pz0,n0];by_cases a1:(a.toNat:Int)<65
   ·simp[a1]
   ·by_cases a2:(90:Int)<(a.toNat:Int)
    ·simp[a1,a2]
    ·simp only[df a1,df a2];simp only[q84 (H:=H19),z2Q,p2,q0y,w1];simp only[q6E (H:=H19),z0i,p2,q0b,q0y,c1];simp only[ge,q83 (H:=H19),z2P,p2,q0b,ifV,q0y,xAb pz1,n1];by_cases b1:(b.toNat:Int)<65
     ·simp[b1]
     ·by_cases b2:(90:Int)<(b.toNat:Int)
      ·simp[b1,b2]
      ·simp only[df b1,df b2];simp only[q84 (H:=H19),z2Q,p2,q0y,w2];simp only[q6E (H:=H19),z0i,p2,q0b,q0y,c2];simp only[ge,q83 (H:=H19),z2P,p2,q0b,ifV,q0y,xAb pz2,n2]
       try simp only[j3K,j3J,xAr]
       by_cases e1:(c.toNat:Int)<65
       ·simp[e1]
       ·by_cases e2:(90:Int)<(c.toNat:Int)
        ·simp[e1,e2]
        ·simp only[df e1,df e2];simp only[q84 (H:=H19),z2Q,p2,q0y,w3];simp only[q6E (H:=H19),z0i,p2,q0b,q0y,c3];simp[j4U (H:=H19),j1X,q0y]
 ·have e:decide ((s.length:Int)=3)=false:=df (by omega);unfold q4R;rw[df h3,xDg];simp only[j4y (H:=H19) rfl,b5h,p1,p2,q0b,q0y,e,xbf]
def S20:List FuncId:=[142,143,150,141]
noncomputable def H20:FuncId->Option (List AV->Mem->R):=q1R E19 S20
noncomputable abbrev E20:Env:=Ea H20
theorem b2t:q07 E20:=q0U b2s S20
section
variable {H:FuncId->Option (List AV->Mem->R)} {m:Mem} {b:Nat} {st:LSt} {F:List Nat}
theorem z2w (hh:H 142=some (q0B E19 142)) (h:q0I m b st F) (hn:st.q0d.length<=1000) (k:List UInt8) (M:Mem) (hM:Fr m M []):run (Ea H) (.fn 142) [.ptr (some ⟨b,0⟩),.str k] M=some (.int .i64 (q52 (fun p=>decide (p.name=k)) st.q0d 0),M):=
 q0w hh (by simp[AV.flat,AV.lt]) fun m2 h1 h2=>⟨m2,a0a ((h.q0m hM).q0m (Fr.same h1 h2)) hn k,Fr.refl _⟩
theorem z7k (hh:H 143=some (q0B E19 143)) (h:q0I m b st F) (hn:st.q0s.length<=1000) (k:Int) (M:Mem) (hM:Fr m M []):run (Ea H) (.fn 143) [.ptr (some ⟨b,0⟩),.int .u64 k] M=some (.int .i64 (q52 (fun p=>decide (p.id=k)) st.q0s 0),M):=
 q0w hh (by simp[AV.flat,AV.lt]) fun m2 h1 h2=>⟨m2,b0X ((h.q0m hM).q0m (Fr.same h1 h2)) hn k,Fr.refl _⟩
theorem b44 (hh:H 150=some (q0B E19 150)) (h:q0I m b st F) (hn:st.pairs.length<=1000) (x y:List UInt8) (M:Mem) (hM:Fr m M []):run (Ea H) (.fn 150) [.ptr (some ⟨b,0⟩),.str x,.str y] M=some (.int .i64 (q52 (fun p=>decide (p.x=x)&&decide (p.y=y)) st.pairs 0),M):=
 q0w hh (by simp[AV.flat,AV.lt]) fun m2 h1 h2=>⟨m2,a4t ((h.q0m hM).q0m (Fr.same h1 h2)) hn x y,Fr.refl _⟩
theorem a4q (hh:H 141=some (q0B E19 141)) (s:List UInt8) (hl:s.length<4611686018427387904) (m:Mem):run (Ea H) (.fn 141) [.str s] m=some (.bool (q4R s),m):=
 q0w hh (by simp[AV.flat,AV.lt]) fun m2 _ _=>⟨m2,a4r s hl m2,Fr.refl _⟩
end
end
section
theorem a4O {a b:Wd} (ha:a.ok) (hb:b.ok):(a.val+b.val).natAbs<4294967296 ^ 16:=by
 have h1:=q7f ha;have h2:=q7f hb;exact xCp (show (a.val+b.val).natAbs<=340282366920938463463374607431768211456 by omega) (by decide)
theorem j0o {a b:Wd} (ha:a.ok) (hb:b.ok):(a.val+-b.val).natAbs<4294967296 ^ 16:=by
 have h1:=q7f ha;have h2:=q7f hb;exact xCp (show (a.val+-b.val).natAbs<=340282366920938463463374607431768211456 by omega) (by decide)
theorem a4d {a b:Wd} (ha:a.ok) (hb:b.ok) (m:Mem):Res m (run E20 (.fn 145) [.agg a.cells,.agg b.cells] m) (.tup [.agg (Wd.res (a.val+b.val)).1.cells,.int .i64 (Wd.res (a.val+b.val)).2]):=by
 have oa:=fun m=>q7U (H:=H20) rfl ha m
 have ob:=fun m=>q7U (H:=H20) rfl hb m
 have su:=fun m=>z7z (H:=H20) rfl (q5r ha) (q5r hb) m
 have wi:=fun m=>a0k (H:=H20) rfl (a4O ha hb) m
 simp only[Wd.cells]at oa ob wi⊢;simp only[a9c (H:=H20) rfl,b6e,pB,q1,p1,q00,q0q,q0P,q0T,b1z,AV.one,over,AV.cells,Nat.reduceAdd,Nat.reduceLeDiff,lcl,oa,ob,su,wi];refine Res.eq ?_ rfl
 (repeat apply Fr.lays)
 exact Fr.refl _
theorem a4w {a b:Wd} (ha:a.ok) (hb:b.ok) (m:Mem):Res m (run E20 (.fn 146) [.agg a.cells,.agg b.cells] m) (.tup [.agg (Wd.res (a.val-b.val)).1.cells,.int .i64 (Wd.res (a.val-b.val)).2]):=by
 have oa:=fun m=>q7U (H:=H20) rfl ha m
 have ob:=fun m=>q7U (H:=H20) rfl hb m
 have mi:=fun m=>z5M (H:=H20) rfl (x:=b.val) (q4F (q5r hb) (by omega)) m
 have su:=fun m=>z7z (H:=H20) rfl (y:=-b.val) (q5r ha) (by rw[Int.natAbs_neg];exact q5r hb) m
 have wi:=fun m=>a0k (H:=H20) rfl (j0o ha hb) m
 rw[show a.val-b.val=a.val+-b.val by omega];simp only[Wd.cells]at oa ob wi⊢;simp only[a9d (H:=H20) rfl,b6f,pB,q1,p1,q00,q0q,q0P,q0T,b1z,AV.one,over,AV.cells,Nat.reduceAdd,Nat.reduceLeDiff,lcl,oa,ob,mi,su,wi];refine Res.eq ?_ rfl
 (repeat apply Fr.lays)
 exact Fr.refl _
theorem a4f {a b:Wd} (ha:a.ok) (hb:b.ok) (m:Mem):Res m (run E20 (.fn 228) [.agg (q27 a.val),.agg (q27 b.val)] m) (.int .i64 (sgn (a.val-b.val))):=by
 have mi:=fun m=>z5M (H:=H20) rfl (x:=b.val) (q4F (q5r hb) (by omega)) m
 have su:=fun m=>z7z (H:=H20) rfl (y:=-b.val) (q5r ha) (by rw[Int.natAbs_neg];exact q5r hb) m
 have zr:=fun m=>q68 (H:=H20) rfl (j0o ha hb) m
 rw[show a.val-b.val=a.val+-b.val by omega];obtain⟨d,hd⟩:∃d,d=a.val+-b.val:=⟨_,rfl⟩;rw[<-hd]at su zr⊢;clear hd;unfold sgn;simp only[q27]at mi su⊢;by_cases h0:d=0
 ·have hz:decide (d.natAbs=0)=true:=dt (by omega);rw[hz]at zr;rw[xAa (by omega),xAb h0];simp only[z6U (H:=H20) rfl,b2J,q1,pB,p1,q00,q0b,Nat.reduceAdd,q0f,AV.one,AV.cells,Nat.reduceLeDiff,lcd,z16,mi,su,zr];refine Res.eq ?_ rfl
  (repeat apply Fr.lays)
  exact Fr.refl _
 ·have hz:decide (d.natAbs=0)=false:=df (by omega);rw[hz]at zr;by_cases hn:d<0
  ·rw[xAb hn];simp only[z6U (H:=H20) rfl,b2J,Int.reduceNegSucc,q1,pB,p1,q00,q0b,Nat.reduceAdd,q0f,AV.one,AV.cells,Nat.reduceLeDiff,lcd,z16,mi,su,zr,z4m (H:=H20),z8b,q0f,dt hn];refine Res.eq ?_ rfl
   (repeat apply Fr.lays)
   exact Fr.refl _
  ·rw[xAa hn,xAa h0];simp only[z6U (H:=H20) rfl,b2J,Int.reduceNegSucc,q1,pB,p1,q00,q0b,Nat.reduceAdd,q0f,AV.one,AV.cells,Nat.reduceLeDiff,lcd,z16,mi,su,zr,z4m (H:=H20),z8b,q0f,df hn,j5I (H:=H20),j2M,q0f];refine Res.eq ?_ rfl
   (repeat apply Fr.lays)
   exact Fr.refl _
theorem a4u {w:Wd} (hw:w.ok) (s:Int) (m:Mem):Res m (run E20 (.fn 149) [.agg (q0O w s)] m) (.int .i64 (q4p w s)):=by
 have rr:=fun m=>q5O (H:=H20) rfl w s m
 unfold q4p;obtain⟨wh,wl⟩:=w;obtain⟨w1,w2,w3,w4⟩:=hw;simp only at w1 w2 w3 w4;have hv:(Wd.mk wh wl).val=wh*18446744073709551616+wl:=rfl;rw[hv];simp only[q0O]at rr⊢;by_cases h:0<=s/\s<=18
 ·rw[xAb h];rw[dt h]at rr;by_cases h1:wh<0
  ·rw[xAa (by omega)];simp only[z1A (H:=H20) rfl,b1L,q1,p1,q00,q0b,unA,q1M,AV.one,AV.cells,Nat.reduceAdd,Nat.reduceLeDiff,lcl,rr,xbt];simp only[q86 (H:=H20),z2S,p1,q1,p2,q0p,Nat.reduceAdd,Nat.reduceLeDiff,q0b,ifV,q1M,lcl,dt h1];refine Res.eq ?_ rfl
   (repeat apply Fr.lays)
   exact Fr.refl _
  ·by_cases h2:wh=0/\wl=0
   ·rw[xAa (by omega)];simp only[z1A (H:=H20) rfl,b1L,q1,p1,q00,q0b,unA,q1M,AV.one,AV.cells,Nat.reduceAdd,Nat.reduceLeDiff,lcl,rr,xbt];simp only[q86 (H:=H20),z2S,p1,q1,p2,q0p,Nat.reduceAdd,Nat.reduceLeDiff,q0b,ifV,q1M,lcl,df h1,q3s,dt h2.1,dt h2.2];refine Res.eq ?_ rfl
    (repeat apply Fr.lays)
    exact Fr.refl _
   ·rw[xAb (by omega)];have e:(decide (wh=0)&&decide (wl=0))=false:=by
     rw[<-Bool.decide_and];exact df h2
    simp only[z1A (H:=H20) rfl,b1L,q1,p1,q00,q0b,unA,q1M,AV.one,AV.cells,Nat.reduceAdd,Nat.reduceLeDiff,lcl,rr,xbt];simp only[q86 (H:=H20),z2S,p1,q1,p2,q0p,Nat.reduceAdd,Nat.reduceLeDiff,q0b,ifV,q1M,lcl,df h1,q3s,e,j43 (H:=H20),j2a,q1M];refine Res.eq ?_ rfl
    (repeat apply Fr.lays)
    exact Fr.refl _
 ·rw[xAa h];rw[df h]at rr;simp only[z1A (H:=H20) rfl,b1L,q1,p1,q00,q0b,unA,q1M,AV.one,AV.cells,Nat.reduceAdd,Nat.reduceLeDiff,lcl,rr,xbf];refine Res.eq ?_ rfl
  (repeat apply Fr.lays)
  exact Fr.refl _
def S21:List FuncId:=[145,146,228,149]
noncomputable def H21:FuncId->Option (List AV->Mem->R):=q1R E20 S21
noncomputable abbrev E21:Env:=Ea H21
theorem b2u:q07 E21:=q0U b2t S21
section
variable {H:FuncId->Option (List AV->Mem->R)}
theorem q62 (h:H 145=some (q0B E20 145)) {a b:Wd} (ha:a.ok) (hb:b.ok) (m:Mem):run (Ea H) (.fn 145) [.agg a.cells,.agg b.cells] m=some (.tup [.agg (Wd.res (a.val+b.val)).1.cells,.int .i64 (Wd.res (a.val+b.val)).2],m):=
 q0w h (by simp[AV.flat,AV.lt,AV.lts,Wd.cells]) fun m2 _ _=>a4d ha hb m2
theorem q67 (h:H 146=some (q0B E20 146)) {a b:Wd} (ha:a.ok) (hb:b.ok) (m:Mem):run (Ea H) (.fn 146) [.agg a.cells,.agg b.cells] m=some (.tup [.agg (Wd.res (a.val-b.val)).1.cells,.int .i64 (Wd.res (a.val-b.val)).2],m):=
 q0w h (by simp[AV.flat,AV.lt,AV.lts,Wd.cells]) fun m2 _ _=>a4w ha hb m2
theorem a4e (h:H 228=some (q0B E20 228)) {a b:Wd} (ha:a.ok) (hb:b.ok) (m:Mem):run (Ea H) (.fn 228) [.agg (q27 a.val),.agg (q27 b.val)] m=some (.int .i64 (sgn (a.val-b.val)),m):=
 q0w h (by simp[AV.flat,AV.lt]) fun m2 _ _=>a4f ha hb m2
theorem z97 (h:H 149=some (q0B E20 149)) {w:Wd} (hw:w.ok) (s:Int) (m:Mem):run (Ea H) (.fn 149) [.agg (q0O w s)] m=some (.int .i64 (q4p w s),m):=
 q0w h (by simp[AV.flat,AV.lt]) fun m2 _ _=>a4u hw s m2
end
theorem a4g {a b:Wd} (ha:a.ok) (hb:b.ok) (m:Mem):Res m (run E21 (.fn 148) [.agg a.cells,.agg b.cells] m) (.int .i64 (sgn (a.val-b.val))):=by
 have oa:=fun m=>q7U (H:=H21) rfl ha m
 have ob:=fun m=>q7U (H:=H21) rfl hb m
 have cb:=fun m=>a4e (H:=H21) rfl ha hb m
 simp only[Wd.cells]at oa ob⊢;simp only[a9e (H:=H21) rfl,b6g,q1,q00,q0y,AV.one,AV.cells,Nat.reduceAdd,Nat.reduceLeDiff,lcl,oa,ob,cb];refine Res.eq ?_ rfl
 (repeat apply Fr.lays)
 exact Fr.refl _
end
section
section
variable {m:Mem} {b:Nat} {st:LSt} {F:List Nat}
theorem z2v (w:LWf st) {k:List UInt8} (h:q1u q0g k (st.q0d.map (·.name))=true):q52 (fun p=>decide (p.name=k)) st.q0d 0=((st.iP k:Nat):Int):=by
 rw[q5H (lt:=q0g) (fun p:q0v=>p.name) k q1h st.q0d 0 w.sp,xAb h,xnz];rfl
theorem z94 (w:LWf st) {k:List UInt8} (h:q1u q0g k (st.q0d.map (·.name))=false):q52 (fun p=>decide (p.name=k)) st.q0d 0=-1:=by
 rw[q5H (lt:=q0g) (fun p:q0v=>p.name) k q1h st.q0d 0 w.sp,xAa (by rw[h];decide)]
theorem z7u (w:LWf st) {k:Int} (h:q1u q0F k (st.q0s.map (·.id))=true):q52 (fun p=>decide (p.id=k)) st.q0s 0=((st.iA k:Nat):Int):=by
 rw[q5H (lt:=q0F) (fun p:q1v=>p.id) k q9k st.q0s 0 w.sa,xAb h,xnz];rfl
theorem z5I (w:LWf st) {k:Int} (h:q1u q0F k (st.q0s.map (·.id))=false):q52 (fun p=>decide (p.id=k)) st.q0s 0=-1:=by
 rw[q5H (lt:=q0F) (fun p:q1v=>p.id) k q9k st.q0s 0 w.sa,xAa (by rw[h];decide)]
theorem z7o (h:q0I m b st F) (w:LWf st) (id:Int) :
  Res m (run E21 (.fn 147) [.ptr (some ⟨b,0⟩),.int .u64 id] m) (.tup [.agg (q0O (q2Z st id).1 (q2Z st id).2.1),.int .i64 (q2Z st id).2.2]):=by
 have ga:=z7k (H:=H21) rfl h (by have:=w.la;omega) id;have gpp:=fun k=>z2w (H:=H21) rfl h (by have:=w.lp;omega) k
 obtain⟨sp,sq,sa,rp,rq,ra,h1,h2,h3,h4,h5⟩:=h.ex;have hb:=Mem.q0u h1;have a3:∀i:Nat,ld1 m (.ptr (some ⟨b,i⟩))=[sp,sq,sa,.int .u64 st.latest,.int .i64 st.most][i]?:=fun i=>q0e h1
 unfold q2Z;rcases LSt.q1W w id with ⟨e,hn⟩|⟨a,p,e,g1,g2,hid,hka,hpn,hkp,ma,mp⟩
 ·have hk:q1u q0F id (st.q0s.map (·.id))=false:=by
   cases hk:q1u q0F id (st.q0s.map (·.id)) with
   |false=>rfl
   |true=>obtain⟨a,a1,_⟩:=LSt.q1Q hk;rw[hn]at a1;cases a1
  rw[z5I w hk]at ga;rw[e];simp (maxDischargeDepth:=20) only [j4z (H:=H21) rfl,b5i,pB,p2,q0p,AV.cells,Nat.reduceAdd,Nat.reduceLeDiff,q0b,q0P,q0T,q0r,AV.one,over,lcl,ga,frl,Fr.refl,dt (show (-1:Int)<0 by omega)];refine Res.eq ?_ (by simp[q0O])
  (repeat apply Fr.lays)
  exact Fr.refl _
 ·rw[z7u w hka]at ga;rw[e];obtain⟨a',q1,q2,q3,q4⟩:=LSt.q1Q hka;rw[g1]at q1;cases q1;have hlt:st.iA id<st.q0s.length:=(xgi.1 q3).1;obtain⟨bb,hbb,x1,x2,x3,x4⟩:=h4.fld (i:=st.iA id) (by rw[xlm];exact hlt);have hB:bb<m.next:=by subst hbb;exact h4.lt
  rw[xlm]at x1 x2;subst x1;have ha:st.q0s[st.iA id]=a:=by have q5:st.q0s[st.iA id]? = some a:=q3;rw[xgq hlt]at q5;simpa using q5
  have x5:=x3 1 (by omega);have x6:=x4 2 2 (by omega);rw[xgm,ha]at x5 x6;rw[hpn]at hkp;have gp:=gpp a.q1U;rw[z2v w hkp]at gp;obtain⟨p',p1,p2,p3,p4⟩:=LSt.q2c hkp;rw[g2]at p1;cases p1;have hlt2:st.iP a.q1U<st.q0d.length:=(xgi.1 p3).1;obtain⟨bc,hbc,y1,y2,y3,y4⟩:=h2.fld (i:=st.iP a.q1U) (by rw[xlm];exact hlt2);have hC:bc<m.next:=by subst hbc;exact h2.lt
  rw[xlm]at y1 y2;subst y1;have hp:st.q0d[st.iP a.q1U]=p:=by have p5:st.q0d[st.iP a.q1U]? = some p:=p3;rw[xgq hlt2]at p5;simpa using p5
  have y5:=y3 1 (by omega);rw[xgm,hp]at y5;simp only[ge,q1v.cells,q0v.cells,xBh,xAp,xBk,xBp]at x5 x6 y5;simp (maxDischargeDepth:=20) only [j4z (H:=H21) rfl,b5i,pB,q0p,q0b,q0P,q0T,q0r,lcl,ga,frl,Fr.refl,df (show ¬((st.iA id:Nat):Int)<0 by omega)];simp (maxDischargeDepth:=20) only [j42 (H:=H21),j19,p1,q1,q0p,AV.cells,Nat.reduceAdd,Nat.reduceLeDiff,nnA,q0P,q0T,q0r,AV.one,over,lcl,q1J hb,a3,xBv,x2,q1J hB,x5,x6,gp,frl,Fr.refl,y2,q1J hC,y5]
  refine Res.eq ?_ (by simp[q0O])
  (repeat apply Fr.lays)
  exact Fr.refl _
end
end
section
section
variable {m:Mem} {b:Nat} {st:LSt} {F:List Nat}
theorem a4m (h:q0I m b st F) (w:LWf st) {k:List UInt8} {p:q0v} (hp:st.q4r k=some p) {x:Wd} (hx:x.ok) (s:Int) :
  Res m (run E21 (.fn 144) [.ptr (some ⟨b,0⟩),.str k,.agg (q0O x s)] m) (.int .i64 (q3n p x s)):=by
 have gp:=z2w (H:=H21) rfl h (by have:=w.lp;omega) k;obtain⟨sp,sq,sa,rp,rq,ra,h1,h2,h3,h4,h5⟩:=h.ex;have hb:=Mem.q0u h1;have a3:∀i:Nat,ld1 m (.ptr (some ⟨b,i⟩))=[sp,sq,sa,.int .u64 st.latest,.int .i64 st.most][i]?:=fun i=>q0e h1
 have hk:q1u q0g k (st.q0d.map (·.name))=true:=by
  cases hk:q1u q0g k (st.q0d.map (·.name)) with
  |true=>rfl
  |false=>rw[LSt.q3H hk]at hp;cases hp
 obtain⟨p',p1',p2',p3,p4⟩:=LSt.q2c hk;rw[hp]at p1';cases p1';rw[z2v w hk]at gp;have hlt:st.iP k<st.q0d.length:=(xgi.1 p3).1;obtain⟨bb,hbb,e,e2,e3,e4⟩:=h2.fld (i:=st.iP k) (by rw[xlm];exact hlt);have hB:bb<m.next:=by subst hbb;exact h2.lt
 rw[xlm]at e e2;subst e;have hpp:st.q0d[st.iP k]=p:=by have p5:st.q0d[st.iP k]? = some p:=p3;rw[xgq hlt]at p5;simpa using p5
 have e5:=e3 1 (by omega);rw[xgm,hpp]at e5;simp only[ge,q0v.cells]at e5;unfold q3n;obtain⟨xh,xl⟩:=x;obtain⟨x1,x2,x3,x4⟩:=hx;simp only at x1 x2 x3 x4;have hv:(Wd.mk xh xl).val=xh*18446744073709551616+xl:=rfl;rw[hv];simp only[q0O];by_cases h0:s=p.scale
 ·rw[xAa (by simp[h0])];by_cases g1:xh<0
  ·rw[xAb (by omega)];simp (maxDischargeDepth:=20) only [z1z (H:=H21) rfl,b1K,p1,q1,p2,q00,nnA,q0b,q1M,AV.one,AV.cells,lcl,q1J hb,a3,gp,frl,Fr.refl,xBv,e2,q1J hB,e5,dt h0,xbt];simp only[q85 (H:=H21),z2R,p1,q1,p2,q0p,Nat.reduceAdd,Nat.reduceLeDiff,q0b,ifV,q1M,lcl,dt g1];refine Res.eq ?_ rfl
   (repeat apply Fr.lays)
   exact Fr.refl _
  ·by_cases g2:xh=0/\xl=0
   ·rw[xAb (by omega)];simp (maxDischargeDepth:=20) only [z1z (H:=H21) rfl,b1K,p1,q1,p2,q00,nnA,q0b,q1M,AV.one,AV.cells,lcl,q1J hb,a3,gp,frl,Fr.refl,xBv,e2,q1J hB,e5,dt h0,xbt];simp only[q85 (H:=H21),z2R,p1,q1,p2,q0p,Nat.reduceAdd,Nat.reduceLeDiff,q0b,ifV,q1M,lcl,df g1,q3s,dt g2.1,dt g2.2];refine Res.eq ?_ rfl
    (repeat apply Fr.lays)
    exact Fr.refl _
   ·rw[xAa (by omega)];have e:(decide (xh=0)&&decide (xl=0))=false:=by
     rw[<-Bool.decide_and];exact df g2
    simp (maxDischargeDepth:=20) only [z1z (H:=H21) rfl,b1K,p1,q1,p2,q00,nnA,q0b,q1M,AV.one,AV.cells,lcl,q1J hb,a3,gp,frl,Fr.refl,xBv,e2,q1J hB,e5,dt h0,xbt];simp only[q85 (H:=H21),z2R,p1,q1,p2,q0p,Nat.reduceAdd,Nat.reduceLeDiff,q0b,ifV,q1M,lcl,df g1,q3s,e,j41 (H:=H21),j18,q1M];refine Res.eq ?_ rfl
    (repeat apply Fr.lays)
    exact Fr.refl _
 ·rw[xAb h0];simp (maxDischargeDepth:=20) only [z1z (H:=H21) rfl,b1K,p1,q1,p2,q00,nnA,q0b,q1M,AV.one,AV.cells,lcl,q1J hb,a3,gp,frl,Fr.refl,xBv,e2,q1J hB,e5,df h0,xbf];refine Res.eq ?_ rfl
  (repeat apply Fr.lays)
  exact Fr.refl _
end
end
section
def S22:List FuncId:=[144,147,189,148]
noncomputable def H22:FuncId->Option (List AV->Mem->R):=q1R E21 S22
noncomputable abbrev E22:Env:=Ea H22
theorem b2v:q07 E22:=q0U b2u S22
noncomputable abbrev D22:Do:=Da H22
section
variable {H:FuncId->Option (List AV->Mem->R)} {m:Mem} {b:Nat} {st:LSt} {F:List Nat}
theorem a4l (hh:H 144=some (q0B E21 144)) (h:q0I m b st F) (w:LWf st) {k:List UInt8} {p:q0v} (hp:st.q4r k=some p) {x:Wd} (hx:x.ok) (s:Int) (M:Mem) (hM:Fr m M []):run (Ea H) (.fn 144) [.ptr (some ⟨b,0⟩),.str k,.agg (q0O x s)] M=some (.int .i64 (q3n p x s),M):=
 q0w hh (by simp[AV.flat,AV.lt]) fun m2 h1 h2=>a4m ((h.q0m hM).q0m (Fr.same h1 h2)) w hp hx s
theorem b77 (hh:H 147=some (q0B E21 147)) (h:q0I m b st F) (w:LWf st) (id:Int) (M:Mem) (hM:Fr m M []):run (Ea H) (.fn 147) [.ptr (some ⟨b,0⟩),.int .u64 id] M=some (.tup [.agg (q0O (q2Z st id).1 (q2Z st id).2.1),.int .i64 (q2Z st id).2.2],M):=
 q0w hh (by simp[AV.flat,AV.lt,AV.lts,q0O]) fun m2 h1 h2=>z7o ((h.q0m hM).q0m (Fr.same h1 h2)) w id
theorem z2r (hh:H 148=some (q0B E21 148)) {a b:Wd} (ha:a.ok) (hb:b.ok) (m:Mem):run (Ea H) (.fn 148) [.agg a.cells,.agg b.cells] m=some (.int .i64 (sgn (a.val-b.val)),m):=
 q0w hh (by simp[AV.flat,AV.lt]) fun m2 _ _=>a4g ha hb m2
end
section
variable {m:Mem} {b:Nat} {st:LSt} {F:List Nat}
theorem q9I (h:q0I m b st F) (w:LWf st) (id:Int) {x:Wd} (hx:x.ok) (s:Int) :
  ∃m',run E22 (.fn 67) [.ptr (some ⟨b,0⟩),.int .u64 id,.agg (q0O x s)] m=some (.int .i64 (q4y st id x s).1,m')/\q0I m' b (q4y st id x s).2 F/\Fr m m' F:=by
 have ga:=z7k (H:=H22) rfl h (by have:=w.la;omega) id;have gpp:=fun k=>z2w (H:=H22) rfl h (by have:=w.lp;omega) k
 have hF:=h.lt;obtain⟨sp,sq,sa,rp,rq,ra,h1,h2,h3,h4,h5⟩:=h.ex;have hb:=Mem.q0u h1;have a3:∀i:Nat,ld1 m (.ptr (some ⟨b,i⟩))=[sp,sq,sa,.int .u64 st.latest,.int .i64 st.most][i]?:=fun i=>q0e h1
 have done:∀M,Fr m M []->∀v:AV,∃m',some (v,M)=some (v,m')/\q0I m' b st F/\Fr m m' F:=fun M hM v=>⟨M,rfl,h.q0m hM,hM.any F⟩
 unfold q4y;rcases LSt.q1W w id with ⟨e,hn⟩|⟨a,p,e,g1,g2,hid,hka,hpn,hkp,ma,mp⟩
 ·have hk:q1u q0F id (st.q0s.map (·.id))=false:=by
   cases hk:q1u q0F id (st.q0s.map (·.id)) with
   |false=>rfl
   |true=>obtain⟨a,a1,_⟩:=LSt.q1Q hk;rw[hn]at a1;cases a1
  rw[z5I w hk]at ga;rw[e];simp only[ne_eq,show ¬(40:Int)=0 by omega,xCu,xAd,q0O];simp (maxDischargeDepth:=20) only [z3M (H:=H22) rfl,F67,p2,q00,q0b,q0f,AV.one,AV.cells,lcl,ga,frl,Fr.refl,dt (show (-1:Int)<0 by omega)];exact done _ ((Fr.refl m).lay _) _
 ·rw[z7u w hka]at ga;rw[e];obtain⟨a',q1,q2,q3,q4⟩:=LSt.q1Q hka;rw[g1]at q1;cases q1;have hlt:st.iA id<st.q0s.length:=(xgi.1 q3).1;obtain⟨bb,hbb,x1,x2,x3,x4⟩:=h4.fld (i:=st.iA id) (by rw[xlm];exact hlt);have hB:bb<m.next:=by subst hbb;exact h4.lt
  rw[xlm]at x1 x2;subst x1;have q5:st.q0s[st.iA id]? = some a:=q3;have ha:st.q0s[st.iA id]=a:=by have q6:=q5;rw[xgq hlt]at q6;simpa using q6
  have x5:=x3 1 (by omega);have x6:=x4 2 2 (by omega);rw[xgm,ha]at x5 x6;have hkp':=hkp;rw[hpn]at hkp;have gp:=gpp a.q1U;rw[z2v w hkp]at gp;obtain⟨p',p1,p2,p3,p4⟩:=LSt.q2c hkp;rw[g2]at p1;cases p1;have hlt2:st.iP a.q1U<st.q0d.length:=(xgi.1 p3).1;obtain⟨bc,hbc,y1,y2,y3,y4⟩:=h2.fld (i:=st.iP a.q1U) (by rw[xlm];exact hlt2);have hC:bc<m.next:=by subst hbc;exact h2.lt
  rw[xlm]at y1 y2;subst y1;have p5:st.q0d[st.iP a.q1U]? = some p:=p3;have hp:st.q0d[st.iP a.q1U]=p:=by have p6:=p5;rw[xgq hlt2]at p6;simpa using p6
  have y6:=y4 2 2 (by omega);rw[xgm,hp]at y6;simp only[ge,q1v.cells,q0v.cells,xBh,xAp,xBk,xBp]at x5 x6 y6;have ft:=a4l (H:=H22) rfl h w g2 hx s;obtain⟨fe,hfe⟩:∃fe,fe=q3n p x s:=⟨_,rfl⟩;simp only[<-hfe,q0O,ne_eq,xAq,xAh]at ft⊢;by_cases f0:fe=0
  ·subst f0;rw[xAa (by simp)];have ad:=fun m=>q62 (H:=H22) rfl (w.oka a ma).1 hx m
   have su:=fun m=>q67 (H:=H22) rfl (w.okp p mp).2.2.1 hx m
   simp only[Wd.cells]at ad su;have c1:=q4G (n:=p.out.val-x.val);have c2:=q4G (n:=a.bal.val+x.val);unfold q45;cases e1:q0Q (a.bal.val+x.val) with
   |false=>
    rw[e1]at c2;rw[xDg,xAa (by simp)];simp (maxDischargeDepth:=20) only [z3M (H:=H22) rfl,F67,q00,q0b,q0f,AV.one,AV.cells,lcl,ga,frl,Fr.refl,df (show ¬((st.iA id:Nat):Int)<0 by omega)];simp (maxDischargeDepth:=20) only [q8f (H:=H22),j0u,p1,q1,nnA,q0b,Nat.reduceAdd,q0f,Nat.reduceLeDiff,lcl,q1J hb,a3,xBv,x2,q1J hB,x5,ft,frl,Fr.refl,xAn,xbt]
    simp (maxDischargeDepth:=20) only [z1I (H:=H22),j3v,p1,q1,pB,nnA,q0q,q0b,ifV,Nat.reduceAdd,q0f,AV.one,over,AV.cells,Nat.reduceLeDiff,lcl,q1J hb,z8L hb,a3,xBv,x2,q1J hB,x5,x6,gp,frl,Fr.refl,y2,q1J hC,z8L hC,y6,ad,su,c2,xbf];refine done _ ?_ _
    (repeat apply Fr.lays)
    exact Fr.refl _
   |true=>
    rw[e1]at c2;cases e2:q0Q (p.out.val-x.val) with
    |false=>
     rw[e2]at c1;rw[xAt,xAa (by simp)];simp (maxDischargeDepth:=20) only [z3M (H:=H22) rfl,F67,q00,q0b,q0f,AV.one,AV.cells,lcl,ga,frl,Fr.refl,df (show ¬((st.iA id:Nat):Int)<0 by omega)];simp (maxDischargeDepth:=20) only [q8f (H:=H22),j0u,p1,q1,nnA,q0b,Nat.reduceAdd,q0f,Nat.reduceLeDiff,lcl,q1J hb,a3,xBv,x2,q1J hB,x5,ft,frl,Fr.refl,xAn,xbt]
     simp (maxDischargeDepth:=20) only [z1I (H:=H22),j3v,p1,q1,pB,nnA,q0q,q0b,ifV,Nat.reduceAdd,q0f,AV.one,over,AV.cells,Nat.reduceLeDiff,lcl,q1J hb,z8L hb,a3,xBv,x2,q1J hB,x5,x6,gp,frl,Fr.refl,y2,q1J hC,z8L hC,y6,ad,su,c1,c2,xbf,xbt];refine done _ ?_ _
     (repeat apply Fr.lays)
     exact Fr.refl _
    |true=>
     rw[e2]at c1;rw[Bool.and_self,xAb rfl];rw[q1O e1]at ad;rw[q1O e2]at su;obtain⟨ny,hny⟩:∃ny,ny=Wd.of (a.bal.val+x.val):=⟨_,rfl⟩;obtain⟨nx,hnx⟩:∃nx,nx=Wd.of (p.out.val-x.val):=⟨_,rfl⟩;rw[<-hny]at ad⊢;rw[<-hnx]at su⊢;obtain⟨M3,hM3⟩:∃M3,M3=((m.lay (.cells (q0O x s) false)).lay (.cells ny.cells false)).lay (.cells nx.cells false):=⟨_,rfl⟩;have f3:Fr m M3 []:=by rw[hM3];(repeat apply Fr.lays);exact Fr.refl _
     have hb3:=f3.get h1 (by simp);have z1:M3.get (m.next+1)=some (.cells ny.cells false):=by rw[hM3];simp[Mem.q0J]
     have z2:M3.get (m.next+1+1)=some (.cells nx.cells false):=by rw[hM3];simp[Mem.q0J]
     obtain⟨bb',m4,s1,s2,s3,s4,s5,s6⟩:=(h.q0m f3).stA hb3 (a:=a) (by rw[hid];exact q5) ny;cases s1;have hb4:=s6.trans hb3;obtain⟨bc',m5,t1,t2,t3,t4,t5,t6⟩:=s3.stP hb4 (a:=p) (by rw[hpn];exact p5) nx;cases t1;rw[hid]at s2;have t2':stV m4 (.ptr (some ⟨bc,st.iP a.q1U*4+2⟩)) (.agg nx.cells) 2=some m5:=by rw[<-hpn];exact t2
     have n3:m.next<=M3.next:=f3.next
     have z4:=s4.get z2 (fun hc=>by have:=hF _ hc;omega)
     have a33:∀i:Nat,ld1 M3 (.ptr (some ⟨b,i⟩))=[.sl (some ⟨bc,0⟩) 4 st.q0d.length st.q0d.length false,sq,.sl (some ⟨bb,0⟩) 4 st.q0s.length st.q0s.length false,.int .u64 st.latest,.int .i64 st.most][i]?:=fun i=>q0e hb3
     have a34:∀i:Nat,ld1 m4 (.ptr (some ⟨b,i⟩))=[.sl (some ⟨bc,0⟩) 4 st.q0d.length st.q0d.length false,sq,.sl (some ⟨bb,0⟩) 4 st.q0s.length st.q0s.length false,.int .u64 st.latest,.int .i64 st.most][i]?:=fun i=>q0e hb4
     have l1:ldN M3 (.ptr (some ⟨m.next+1,0⟩)) 2=some (.agg ny.cells):=q0X z1 rfl
     have l2:ldN m4 (.ptr (some ⟨m.next+1+1,0⟩)) 2=some (.agg nx.cells):=q0X z4 rfl
     refine⟨m5,?_,t3,((f3.any F).step s4 (fun c hc=>.inl hc)).step t4 (fun c hc=>.inl hc)⟩
     simp only[q0O,Wd.cells]at hM3 l1 l2 s2 t2';simp (maxDischargeDepth:=20) only [z3M (H:=H22) rfl,F67,q00,q0b,q0f,AV.one,AV.cells,lcl,ga,frl,Fr.refl,df (show ¬((st.iA id:Nat):Int)<0 by omega)];simp (maxDischargeDepth:=20) only [q8f (H:=H22),j0u,p1,q1,nnA,q0b,Nat.reduceAdd,q0f,Nat.reduceLeDiff,lcl,q1J hb,a3,xBv,x2,q1J hB,x5,ft,frl,Fr.refl,xAn,xbt]
     simp (maxDischargeDepth:=20) only [z1I (H:=H22),j3v,p1,q1,pB,nnA,q0q,q0b,ifV,Nat.reduceAdd,q0f,AV.one,over,AV.cells,Nat.reduceLeDiff,lcl,q1J hb,z8L hb,a3,xBv,x2,q1J hB,x5,x6,gp,frl,Fr.refl,y2,q1J hC,z8L hC,y6,ad,su,xAn,xbt,<-hM3];simp only[a2H (H:=H22),a7B,p1,q1,nnA,q0f,a33,l1,xBv,xAd,x2,s2,a34,l2,y2,t2']
  ·rw[xAb f0];simp (maxDischargeDepth:=20) only [z3M (H:=H22) rfl,F67,q00,q0b,q0f,AV.one,AV.cells,lcl,ga,frl,Fr.refl,df (show ¬((st.iA id:Nat):Int)<0 by omega)];simp (maxDischargeDepth:=20) only [q8f (H:=H22),j0u,p1,q1,nnA,q0b,Nat.reduceAdd,q0f,Nat.reduceLeDiff,lcl,q1J hb,a3,xBv,x2,q1J hB,x5,ft,frl,Fr.refl,df f0,xbf]
   exact done _ ((Fr.refl m).lay _) _
end
end
end Go.Proofs.YtkbhcgifnnhbaaaGreatDoor
