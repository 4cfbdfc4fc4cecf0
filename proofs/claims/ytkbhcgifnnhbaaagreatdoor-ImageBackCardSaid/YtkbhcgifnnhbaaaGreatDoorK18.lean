/- Texts of one claim, put together. -/
import Derived.Test.YtkbhcgifnnhbaaaGreatDoorK17
namespace Go.Proofs.YtkbhcgifnnhbaaaGreatDoor
set_option maxRecDepth 4000
open Go Go.Abs
noncomputable section
def S8:List FuncId:=[316,302]
def H8:FuncId->Option (List AV->Mem->R):=q1R E7 S8
abbrev E8:Env:=Ea H8
theorem b54:q07 E8:=q0U b53 S8
theorem q8R (n to:Int):(q42 n to).flat:=by unfold q42;split<;>simp[AV.flat,AV.lt,AV.lts,q0O]
section
variable {H:FuncId->Option (List AV->Mem->R)}
theorem a1V (h:H 316=some (q0B E7 316)) {w:Wd} (hw:w.ok) (s:Int) (m:Mem):run (Ea H) (.fn 316) [.agg (q0O w s),.agg (q0O ⟨0,0⟩ 0)] m=some (.tup [.int .i64 (if 0<=s/\s<=18 then sgn w.val else 0),.int .i64 (if 0<=s/\s<=18 then 0 else 21)],m):=
 q0w h (by simp[AV.flat,AV.lt,AV.lts]) fun m2 _ _=>a1W hw s m2
end
theorem a1t {w:Wd} (hw:w.ok) (s:Int) (m:Mem):Res m (run E8 (.fn 289) [.agg (q0O w s)] m) (.bool (decide ((0<=s/\s<=18)/\0<w.val))):=by
 have dc:=fun m=>a1V (H:=H8) rfl hw s m
 simp only[q0O]at dc⊢;by_cases h:0<=s/\s<=18
 ·simp only[xAb h]at dc;simp only[j4M (H:=H8) rfl,b5t,q1,p1,p2,q0p,AV.cells,Nat.reduceAdd,Nat.reduceLeDiff,q00,q0q,ifV,a0G,AV.one,lcl,dc,xAn];refine Res.eq ?_ ?_
  ·(repeat apply Fr.lays)
   exact Fr.refl _
  ·congr 1;unfold sgn;apply decide_eq_decide.mpr;split<;>(try split)<;>omega
 ·simp only[xAa h]at dc;simp only[j4M (H:=H8) rfl,b5t,q1,p1,p2,q0p,AV.cells,Nat.reduceAdd,Nat.reduceLeDiff,q00,q0q,ifV,a0G,AV.one,lcl,dc,df (show ¬(21:Int)=0 by omega)];refine Res.eq ?_ ?_
  ·(repeat apply Fr.lays)
   exact Fr.refl _
  ·rw[df (by omega)]
def S9:List FuncId:=[289]
def H9:FuncId->Option (List AV->Mem->R):=q1R E8 S9
abbrev E9:Env:=Ea H9
theorem b55:q07 E9:=q0U b54 S9
theorem a1s {H:FuncId->Option (List AV->Mem->R)} (h:H 289=some (q0B E8 289)) {w:Wd} (hw:w.ok) (s:Int) (m:Mem):run (Ea H) (.fn 289) [.agg (q0O w s)] m=some (.bool (decide ((0<=s/\s<=18)/\0<w.val)),m):=
 q0w h (by simp[AV.flat,AV.lt]) fun m2 _ _=>a1t hw s m2
def q4p (w:Wd) (s:Int):Int:=if 0<=s/\s<=18 then (if 0<w.val then 0 else 44) else 21
theorem a0c {w:Wd} (hw:w.ok) (s:Int) (m:Mem):Res m (run E9 (.fn 232) [.agg (q0O w s)] m) (.int .i64 (q4p w s)):=by
 have dr:=fun m=>q6w (H:=H9) rfl w s m
 have ab:=fun m=>a1s (H:=H9) rfl hw s m
 unfold q4p;by_cases h:0<=s/\s<=18
 ·rw[xAb h];rw[dt h]at dr;by_cases h2:0<w.val
  ·rw[xAb h2];rw[dt ⟨h,h2⟩]at ab;simp only[q0O]at dr ab⊢;simp only[z6V (H:=H9) rfl,b2K,q1,p1,q00,q0b,unA,q0y,AV.one,AV.cells,Nat.reduceAdd,Nat.reduceLeDiff,lcl,dr,ab,xbt];simp only[j5M (H:=H9),j2Q,q0y];refine Res.eq ?_ rfl
   (repeat apply Fr.lays)
   exact Fr.refl _
  ·rw[xAa h2];rw[df (by omega)]at ab;simp only[q0O]at dr ab⊢;simp only[z6V (H:=H9) rfl,b2K,q1,p1,q00,q0b,unA,q0y,AV.one,AV.cells,Nat.reduceAdd,Nat.reduceLeDiff,lcl,dr,ab,xbt,xbf];refine Res.eq ?_ rfl
   (repeat apply Fr.lays)
   exact Fr.refl _
 ·rw[xAa h];rw[df h]at dr;simp only[q0O]at dr⊢;simp only[z6V (H:=H9) rfl,b2K,q1,p1,q00,q0b,unA,q0y,AV.one,AV.cells,Nat.reduceAdd,Nat.reduceLeDiff,lcl,dr,xbf];refine Res.eq ?_ rfl
  (repeat apply Fr.lays)
  exact Fr.refl _
def S10:List FuncId:=[232]
def H10:FuncId->Option (List AV->Mem->R):=q1R E9 S10
abbrev E10:Env:=Ea H10
theorem b2k:q07 E10:=q0U b55 S10
theorem a0b {H:FuncId->Option (List AV->Mem->R)} (h:H 232=some (q0B E9 232)) {w:Wd} (hw:w.ok) (s:Int) (m:Mem):run (Ea H) (.fn 232) [.agg (q0O w s)] m=some (.int .i64 (q4p w s),m):=
 q0w h (by simp[AV.flat,AV.lt]) fun m2 _ _=>a0c hw s m2
def z8X (w:Wd) (s:Int) (v:Wd) (t:Int) (n:Int):AV:=
 if (0<=s/\s<=18)/\(0<=n/\n<=18) then
  if 0<w.val then
   if q4p v t=0 then q42 (j9n w.val v.val (s+t-n)) n else .tup [.agg (q0O ⟨0,0⟩ 0),.int .i64 (q4p v t)]
  else .tup [.agg (q0O ⟨0,0⟩ 0),.int .i64 43]
 else .tup [.agg (q0O ⟨0,0⟩ 0),.int .i64 21]
theorem z0Z {v:Wd} {t:Int} (h:q4p v t=0):(0<=t/\t<=18)/\0<v.val:=by
 unfold q4p at h;split at h
 ·split at h
  ·exact⟨‹_›,‹_›⟩
  ·omega
 ·omega
def S11:List FuncId:=[267]
def H11:FuncId->Option (List AV->Mem->R):=q1R E10 S11
abbrev E11:Env:=Ea H11
theorem b2l:q07 E11:=q0U b2k S11
abbrev D11:Do:=Da H11
end
section
theorem j9R (a b:Nat) (m:Mem):∀(d i c:Nat),i+d=16->(a+b) / 4294967296 ^ i=a / 4294967296 ^ i+b / 4294967296 ^ i+c->c<=1->
  Res m (D11.gor 872448 [.ptr (some ⟨m.next,0⟩),.ptr (some ⟨m.next+1,0⟩),.ptr (some ⟨m.next+1+1,0⟩),.ptr (some ⟨m.next+1+1+1,0⟩),.int .u64 (c:Int),.int .i64 (i:Int)]
   ((((m.lay (.cells (D16 a) false)).lay (.cells (D16 b) false)).lay (.cells (D16 0) false)).lay (.cells (D16 ((a+b) % 4294967296 ^ i)) false))) (.agg (D16 (a+b))):=by
 intro d;induction d with
 |zero=>
  intro i c hi _ _;have:i=16:=by omega
  subst this;simp only[z4j (H:=H11),z7Y,p2,q0b,q1P,df (show ¬((16:Nat):Int)<16 by omega),show decide ((16:Int)<16)=false from rfl];simp only[j5x (H:=H11),j2B,q1,q0P,q0T,q1P,Nat.reduceLeDiff,lcd,j1T];refine Res.eq ?_ rfl
  (repeat apply Fr.lays)
  exact Fr.refl _
 |succ d ih=>
  intro i c hi hc hc1;have h16:i<16:=by omega
  have la:=q3E a i;have lb:=q3E b i;obtain⟨s,hs⟩:∃s,s=dig a i+dig b i+c:=⟨_,rfl⟩;have e1:dig (a+b) i=s % 4294967296:=by unfold dig at hs⊢;omega
  have e2:(a+b) / 4294967296 ^ (i+1)=a / 4294967296 ^ (i+1)+b / 4294967296 ^ (i+1)+s / 4294967296:=by
   rw[q21,q21,q21];unfold dig at hs;omega
  have hw:IntKind.wrap .u64 (IntKind.wrap .u64 ((dig a i:Int)+(dig b i:Int))+(c:Int))=((s:Nat):Int):=by rw[q0i,q0i];omega
  have ov:over (D16 ((a+b) % 4294967296 ^ i)) i (.int .u64 ((s % 4294967296:Nat):Int)) 1=some (D16 ((a+b) % 4294967296 ^ (i+1))):=
   q4E h16 q7N (by rw[z0z,e1])
  simp only[z4j (H:=H11),z7Y,p2,q0b,q1P,dt (show (i:Int)<16 by omega)];simp only[j5v (H:=H11),j2z,p2,q1,q1P,lcd,j8Y _ _ h16,q02 _ h16,hw,q76,q6p _ (show s<18446744073709551616 by omega),ov];simp only[j5w (H:=H11),j2A,p2,q1P,show (i:Int)+1=((i+1:Nat):Int) by omega,wrap_i64 (n:=((i+1:Nat):Int)) (by omega) (by omega)]
  exact ih (i+1) (s / 4294967296) (by omega) e2 (by omega)
theorem b0Y (a b:Nat) (m:Mem):Res m (run E11 (.fn 213) [.agg (D16 a),.agg (D16 b)] m) (.agg (D16 (a+b))):=by
 have lp:=j9R a b m 16 0 0 rfl (by simp) (by omega);rw[xDa,Nat.mod_one]at lp;simp only[a9u (H:=H11) rfl,b6w,pB,q00,q1P,AV.cells,lcd,z16];exact lp
theorem a0f {a b N:Nat} (hN:a=b+N) (m:Mem):∀(d i c:Nat),i+d=16->a / 4294967296 ^ i=b / 4294967296 ^ i+N / 4294967296 ^ i+c->c<=1->
  Res m (D11.gor 880640 [.ptr (some ⟨m.next,0⟩),.ptr (some ⟨m.next+1,0⟩),.ptr (some ⟨m.next+1+1,0⟩),.ptr (some ⟨m.next+1+1+1,0⟩),.int .u64 (c:Int),.int .i64 (i:Int)]
   ((((m.lay (.cells (D16 a) false)).lay (.cells (D16 b) false)).lay (.cells (D16 0) false)).lay (.cells (D16 (N % 4294967296 ^ i)) false))) (.agg (D16 N)):=by
 intro d;induction d with
 |zero=>
  intro i c hi _ _;have:i=16:=by omega
  subst this;simp only[z4l (H:=H11),z8a,p2,q0b,q1P,df (show ¬((16:Nat):Int)<16 by omega),show decide ((16:Int)<16)=false from rfl];simp only[j5D (H:=H11),j2H,q1,q0P,q0T,q1P,Nat.reduceLeDiff,lcd,j1T];refine Res.eq ?_ rfl
  (repeat apply Fr.lays)
  exact Fr.refl _
 |succ d ih=>
  intro i c hi hc hc1;have h16:i<16:=by omega
  have la:=q3E a i;have lb:=q3E b i;obtain⟨s,hs⟩:∃s,s=dig a i+4294967296-dig b i-c:=⟨_,rfl⟩;have e1:dig N i=s % 4294967296:=by unfold dig at hs⊢;omega
  have e2:a / 4294967296 ^ (i+1)=b / 4294967296 ^ (i+1)+N / 4294967296 ^ (i+1)+(1-s / 4294967296):=by
   rw[q21,q21,q21];unfold dig at hs;omega
  have hw:IntKind.wrap .u64 (IntKind.wrap .u64 (IntKind.wrap .u64 ((dig a i:Int)+4294967296)-(dig b i:Int))-(c:Int))=((s:Nat):Int):=by rw[q0i,q0i,q0i];omega
  have hw2:IntKind.wrap .u64 (1-((s / 4294967296:Nat):Int))=((1-s / 4294967296:Nat):Int):=by rw[q0i];omega
  have ov:over (D16 (N % 4294967296 ^ i)) i (.int .u64 ((s % 4294967296:Nat):Int)) 1=some (D16 (N % 4294967296 ^ (i+1))):=
   q4E h16 q7N (by rw[z0z,e1])
  simp only[z4l (H:=H11),z8a,p2,q0b,q1P,dt (show (i:Int)<16 by omega)];simp only[j5B (H:=H11),j2F,p2,q1,q1P,lcd,j8Y _ _ h16,q02 _ h16,hw,q76,q6p _ (show s<18446744073709551616 by omega),ov,hw2];simp only[j5C (H:=H11),j2G,p2,q1P,show (i:Int)+1=((i+1:Nat):Int) by omega,wrap_i64 (n:=((i+1:Nat):Int)) (by omega) (by omega)]
  exact ih (i+1) (1-s / 4294967296) (by omega) e2 (by omega)
theorem b1f {a b:Nat} (h:b<=a) (m:Mem):Res m (run E11 (.fn 215) [.agg (D16 a),.agg (D16 b)] m) (.agg (D16 (a-b))):=by
 have lp:=a0f (N:=a-b) (show a=b+(a-b) by omega) m 16 0 0 rfl (by simp;omega) (by omega);rw[xDa,Nat.mod_one]at lp;simp only[a9w (H:=H11) rfl,b6y,pB,q00,q1P,AV.cells,lcd,z16];exact lp
def q9X (a b:Nat):Int:=if a<b then -1 else if a=b then 0 else 1
theorem j9T (a b:Nat) (m:Mem):∀(k:Nat),k<=16->a / 4294967296 ^ k=b / 4294967296 ^ k->
  Res m (D11.gor 876544 [.ptr (some ⟨m.next,0⟩),.ptr (some ⟨m.next+1,0⟩),.int .i64 ((k:Int)-1)]
   ((m.lay (.cells (D16 a) false)).lay (.cells (D16 b) false))) (.int .i64 (q9X a b)):=by
 intro k;induction k with
 |zero=>
  intro _ h;rw[xDa,Nat.div_one,Nat.div_one]at h;simp only[z4k (H:=H11),z7Z,p2,q0b,q0y,df (show ¬((0:Nat):Int)-1>=0 by omega)];simp only[j5A (H:=H11),j2E,q0y];refine Res.eq ?_ (by unfold q9X;rw[xAa (by omega),xAb h])
  (repeat apply Fr.lays)
  exact Fr.refl _
 |succ k ih=>
  intro hk h;have h16:k<16:=by omega
  rw[q21,q21]at h;simp only[show ((k+1:Nat):Int)-1=(k:Int) by omega];simp only[z4k (H:=H11),z7Z,p2,q0b,q0y,dt (show (k:Int)>=0 by omega)];by_cases e:dig a k=dig b k
  ·have e':decide ((dig a k:Int)=(dig b k:Int))=true:=dt (by omega);simp only[q9a (H:=H11),z2W,Int.reduceNegSucc,p2,q1,q0b,q0y,lcd,j8Y _ _ h16,q02 _ h16,e',xbt];simp only[j5z (H:=H11),j2D,p2,q0y,wrap_i64 (n:=(k:Int)-1) (by omega) (by omega)];exact ih (by omega) (by unfold dig at e;omega)
  ·have e':decide ((dig a k:Int)=(dig b k:Int))=false:=df (by omega);by_cases l:dig a k<dig b k
   ·have l':decide ((dig a k:Int)<(dig b k:Int))=true:=dt (by omega);simp only[q9a (H:=H11),z2W,Int.reduceNegSucc,p2,q1,q0b,q0y,lcd,j8Y _ _ h16,q02 _ h16,e',l',xbf];have:a<b:=by
     apply xBy;intro hn;have:=Nat.div_le_div_right (c:=4294967296 ^ k) (show b<=a by omega);unfold dig at l;omega
    refine Res.eq ?_ (by unfold q9X;rw[xAb this])
    (repeat apply Fr.lays)
    exact Fr.refl _
   ·have l':decide ((dig a k:Int)<(dig b k:Int))=false:=df (by omega);simp only[q9a (H:=H11),z2W,Int.reduceNegSucc,p2,q1,q0b,q0y,lcd,j8Y _ _ h16,q02 _ h16,e',l',xbf];simp only[j5y (H:=H11),j2C,q0y];have:b<a:=by
     apply xBy;intro hn;have:=Nat.div_le_div_right (c:=4294967296 ^ k) (show a<=b by omega);unfold dig at l e;omega
    refine Res.eq ?_ (by unfold q9X;rw[xAa (by omega),xAa (by omega)])
    (repeat apply Fr.lays)
    exact Fr.refl _
theorem b0Z {a b:Nat} (ha:a<4294967296 ^ 16) (hb:b<4294967296 ^ 16) (m:Mem):Res m (run E11 (.fn 214) [.agg (D16 a),.agg (D16 b)] m) (.int .i64 (q9X a b)):=by
 have lp:=j9T a b m 16 (by omega) (by rw[xDy ha,xDy hb]);simp only[a9v (H:=H11) rfl,b6x,q00,q0y,AV.cells,lcd];exact lp
end
section
theorem b47 (n i v:Nat) (hv:v<4294967296):∃N,N+dig n i*4294967296 ^ i=n+v*4294967296 ^ i/\(∀j,j<16->j≠i->dig n j=dig N j)/\dig N i=v:=by
 have hle:dig n i*4294967296 ^ i<=n:=by
  have h1:dig n i<=n / 4294967296 ^ i:=Nat.mod_le _ _;exact xnt0 (xAo _ h1) (Nat.div_mul_le_self _ _)
 obtain⟨n0,hn0⟩:∃n0,n=n0+dig n i*4294967296 ^ i:=⟨n-dig n i*4294967296 ^ i,by omega⟩;have d0:dig n0 i=0:=by
  obtain⟨t,ht⟩:∃t,t=dig n i:=⟨_,rfl⟩;have hq:n / 4294967296 ^ i=n0 / 4294967296 ^ i+t:=by
   rw[hn0,<-ht,xFg _ _ (z1c i)]
  have h1:t=(n0 / 4294967296 ^ i+t) % 4294967296:=by rw[<-hq];exact ht
  have h2:=q3E n0 i;have h3:=q3E n i;unfold dig at h2⊢;omega
 have s1:=q7o (n:=n0) (i:=i) (d:=dig n i) (by have:=q3E n i;omega);rw[<-hn0]at s1;have s2:=q7o (n:=n0) (i:=i) (d:=v) (by omega);refine⟨n0+v*4294967296 ^ i,by omega,fun j _ hj=>?_,?_⟩
 ·rw[s1 j,s2 j,xAa hj,xAa hj]
 ·rw[s2 i,xAb rfl,d0,xnz]
theorem j1o (a b base:Nat) (m:Mem) {i:Nat} (hi:i<8):∀(d k c V:Nat),k+d=8->c<4294967296->V+c*4294967296 ^ (i+k)=base+dig a i*(b % 4294967296 ^ k)*4294967296 ^ i->
  ∃V' c',c'<4294967296/\V'+c'*4294967296 ^ (i+8)=base+dig a i*(b % 4294967296 ^ 8)*4294967296 ^ i/\
  D11.gor 1290242 [.ptr (some ⟨m.next,0⟩),.ptr (some ⟨m.next+1,0⟩),.ptr (some ⟨m.next+1+1,0⟩),.ptr (some ⟨m.next+1+1+1,0⟩),.int .i64 (i:Int),.int .u64 (c:Int),.int .i64 (k:Int)]
   ((((m.lay (.cells (D16 a) false)).lay (.cells (D16 b) false)).lay (.cells (D16 0) false)).lay (.cells (D16 V) false)) =
  D11.gor 1290245 [.ptr (some ⟨m.next,0⟩),.ptr (some ⟨m.next+1,0⟩),.ptr (some ⟨m.next+1+1,0⟩),.ptr (some ⟨m.next+1+1+1,0⟩),.int .i64 (i:Int)]
   ((((m.lay (.cells (D16 a) false)).lay (.cells (D16 b) false)).lay (.cells (D16 0) false)).lay (.cells (D16 V') false)):=by
 intro d;induction d with
 |zero=>
  intro k c V hk hc hV;have:k=8:=by omega
  subst this;refine⟨V,c,hc,hV,?_⟩;simp only[z4H (H:=H11),z8w,p2,q0b,q1P,df (show ¬((8:Nat):Int)<8 by omega),show decide ((8:Int)<8)=false from rfl]
 |succ d ih=>
  intro k c V hk hc hV;have h16:i+k<16:=by omega
  have lt:=q3E V (i+k);have lm:=a3L (q3E a i) (q3E b k);obtain⟨X,hX⟩:∃X,X=dig a i*dig b k:=⟨_,rfl⟩;rw[<-hX]at lm;obtain⟨s,hs⟩:∃s,s=dig V (i+k)+X+c:=⟨_,rfl⟩;obtain⟨N,hN,o1,o2⟩:=b47 V (i+k) (s % 4294967296) (xEv _ (by omega));have inv:N+s / 4294967296*4294967296 ^ (i+(k+1))=base+dig a i*(b % 4294967296 ^ (k+1))*4294967296 ^ i:=by
   have e3:dig a i*(b % 4294967296 ^ k+dig b k*4294967296 ^ k)*4294967296 ^ i=dig a i*(b % 4294967296 ^ k)*4294967296 ^ i+X*4294967296 ^ (i+k):=by
    rw[Nat.mul_add,xCs,hX,xEi];simp only[xDq,xEk,xDo]
   rw[show i+(k+1)=(i+k)+1 by omega,pow_add_one,q43,e3];have e1:s*4294967296 ^ (i+k)=dig V (i+k)*4294967296 ^ (i+k)+X*4294967296 ^ (i+k)+c*4294967296 ^ (i+k):=by rw[hs,xCs,xCs]
   have e2:s*4294967296 ^ (i+k)=s % 4294967296*4294967296 ^ (i+k)+s / 4294967296*(4294967296 ^ (i+k)*4294967296):=by
    rw[show s / 4294967296*(4294967296 ^ (i+k)*4294967296)=(4294967296*(s / 4294967296))*4294967296 ^ (i+k) by simp only[xDq,xEk,xDo],<-xCs,Nat.mod_add_div]
   omega
  have hw:IntKind.wrap .u64 (IntKind.wrap .u64 ((dig V (i+k):Int)+IntKind.wrap .u64 ((dig a i:Int)*(dig b k:Int)))+(c:Int))=((s:Nat):Int):=by
   rw[<-Int.natCast_mul,<-hX,q0i,q0i,q0i];omega
  have hik:IntKind.wrap .i64 ((i:Int)+(k:Int))=((i+k:Nat):Int):=by rw[wrap_i64 (by omega) (by omega)];omega
  have ov:over (D16 V) (i+k) (.int .u64 ((s % 4294967296:Nat):Int)) 1=some (D16 N):=q4E h16 o1 (by rw[o2]);obtain⟨V',c',r1,r2,r3⟩:=ih (k+1) (s / 4294967296) N (by omega) (by omega) inv;refine⟨V',c',r1,r2,?_⟩;simp only[z4H (H:=H11),z8w,p2,q0b,q1P,dt (show (k:Int)<8 by omega)];simp only[j6p (H:=H11),j25,p2,q1,q1P,lcd,hik,j8Y _ _ h16,j8Y _ _ (show i<16 by omega),j8Y _ _ (show k<16 by omega),q02 _ h16,q02 _ (show i<16 by omega),q02 _ (show k<16 by omega),hw,q76,q6p _ (show s<18446744073709551616 by omega),ov]
  simp only[j6q (H:=H11),j26,p2,q1P,show (k:Int)+1=((k+1:Nat):Int) by omega,wrap_i64 (n:=((k+1:Nat):Int)) (by omega) (by omega)];exact r3
theorem j95 {a b:Nat} (ha:a<4294967296 ^ 8) (hb:b<4294967296 ^ 7) (m:Mem):∀(d i:Nat),i+d=8->
  Res m (D11.gor 1290240 [.ptr (some ⟨m.next,0⟩),.ptr (some ⟨m.next+1,0⟩),.ptr (some ⟨m.next+1+1,0⟩),.ptr (some ⟨m.next+1+1+1,0⟩),.int .i64 (i:Int)]
   ((((m.lay (.cells (D16 a) false)).lay (.cells (D16 b) false)).lay (.cells (D16 0) false)).lay (.cells (D16 (a % 4294967296 ^ i*b)) false))) (.agg (D16 (a*b))):=by
 have hb8:b % 4294967296 ^ 8=b:=xDx (xCc hb (xCz (by omega) (by omega)));intro d;induction d with
 |zero=>
  intro i hi;have:i=8:=by omega
  subst this;simp only[z4G (H:=H11),z8v,p2,q0b,q1P,df (show ¬((8:Nat):Int)<8 by omega),show decide ((8:Int)<8)=false from rfl];simp only[j6s (H:=H11),j28,q1,q0P,q0T,q1P,Nat.reduceLeDiff,lcd,xDx ha];refine Res.eq ?_ rfl
  (repeat apply Fr.lays)
  exact Fr.refl _
 |succ d ih=>
  intro i hi;obtain⟨V',c',r1,r2,r3⟩:=j1o a b (a % 4294967296 ^ i*b) m (show i<8 by omega) 8 0 0 (a % 4294967296 ^ i*b) rfl (by omega) (by rw[xDa,Nat.mod_one,Nat.mul_zero,xFd,xFd]);have e:a % 4294967296 ^ i*b+dig a i*(b % 4294967296 ^ 8)*4294967296 ^ i=a % 4294967296 ^ (i+1)*b:=by
   rw[hb8,q43,xCs,Nat.mul_right_comm]
  rw[e]at r2;have lt:a % 4294967296 ^ (i+1)*b<4294967296 ^ (i+8):=by
   have h1:a % 4294967296 ^ (i+1)<4294967296 ^ (i+1):=xEv _ (z1c _);have h2:4294967296 ^ (i+8)=4294967296 ^ (i+1)*4294967296 ^ 7:=by rw[<-xEi,show i+1+7=i+8 by omega]
   rw[h2];exact Nat.mul_lt_mul'' h1 hb
  have c0:c'=0:=by
   apply xBy;intro h;have:=xAo (4294967296 ^ (i+8)) (show 1<=c' by omega);rw[Nat.one_mul]at this;omega
  subst c0;rw[xFd,xna]at r2;rw[r2]at r3;simp only[z4G (H:=H11),z8v,p2,q0b,q1P,dt (show (i:Int)<8 by omega)];simp only[j6o (H:=H11),j24,q1P];rw[show (0:Int)=((0:Nat):Int) from rfl,r3];simp only[j6r (H:=H11),j27,p2,q1P,show (i:Int)+1=((i+1:Nat):Int) by omega,wrap_i64 (n:=((i+1:Nat):Int)) (by omega) (by omega)];exact ih (i+1) (by omega)
theorem b1a {a b:Nat} (ha:a<4294967296 ^ 8) (hb:b<4294967296 ^ 7) (m:Mem):Res m (run E11 (.fn 315) [.agg (D16 a),.agg (D16 b)] m) (.agg (D16 (a*b))):=by
 have lp:=j95 ha hb m 8 0 rfl;rw[xDa,Nat.mod_one,xFd]at lp;simp only[a9S (H:=H11) rfl,b6O,pB,q00,q1P,AV.cells,lcd,z16];exact lp
end
section
def S12:List FuncId:=[213,215,214,315]
noncomputable def H12:FuncId->Option (List AV->Mem->R):=q1R E11 S12
noncomputable abbrev E12:Env:=Ea H12
theorem b2m:q07 E12:=q0U b2l S12
noncomputable abbrev D12:Do:=Da H12
section
variable {H:FuncId->Option (List AV->Mem->R)}
theorem z2q (h:H 213=some (q0B E11 213)) (a b:Nat) (m:Mem):run (Ea H) (.fn 213) [.agg (D16 a),.agg (D16 b)] m=some (.agg (D16 (a+b)),m):=
 q0w h (by simp[AV.flat,AV.lt,q5t]) fun m2 _ _=>b0Y a b m2
theorem z7y (h:H 215=some (q0B E11 215)) {a b:Nat} (hh:b<=a) (m:Mem):run (Ea H) (.fn 215) [.agg (D16 a),.agg (D16 b)] m=some (.agg (D16 (a-b)),m):=
 q0w h (by simp[AV.flat,AV.lt,q5t]) fun m2 _ _=>b1f hh m2
theorem z7p (h:H 214=some (q0B E11 214)) {a b:Nat} (ha:a<4294967296 ^ 16) (hb:b<4294967296 ^ 16) (m:Mem):run (Ea H) (.fn 214) [.agg (D16 a),.agg (D16 b)] m=some (.int .i64 (q9X a b),m):=
 q0w h (by simp[AV.flat,AV.lt]) fun m2 _ _=>b0Z ha hb m2
theorem j94 (h:H 315=some (q0B E11 315)) {a b:Nat} (ha:a<4294967296 ^ 8) (hb:b<4294967296 ^ 7) (m:Mem):run (Ea H) (.fn 315) [.agg (D16 a),.agg (D16 b)] m=some (.agg (D16 (a*b)),m):=
 q0w h (by simp[AV.flat,AV.lt,q5t]) fun m2 _ _=>b1a ha hb m2
end
theorem z7b (b o:Nat):ixA 1 16 ⟨b,o⟩ 0=some (.ptr (some ⟨b,o⟩)):=by simp[ixA]
theorem b60:q11 TP 207 []=some (.agg (D16 0)):=by rw[<-z16];kernel_rfl
theorem a6G (cs:List AV) (i:Nat):z2m TP 27 cs i=cs[i]?:=by kernel_rfl
theorem b8z (x y:Int):eqA TP 49 27 (.int .u64 x) (.int .u64 y)=some (x==y):=by kernel_rfl
theorem j4h {a b:Nat} (ha:a<4294967296 ^ 16) (hb:b<4294967296 ^ 16):∀(k i:Nat),i+k=16->q44 TP (eqA TP 49) 27 1 (D16 a) (D16 b) k i=some (decide (a / 4294967296 ^ i=b / 4294967296 ^ i)):=by
 intro k;induction k with
 |zero=>
  intro i hi;have:i=16:=by omega
  subst this;rw[xDy ha,xDy hb];rfl
 |succ k ih=>
  intro i hi;have h16:i<16:=by omega
  unfold q44;rw[a6G,a6G,xFf,q02 _ h16,q02 _ h16];simp only[b8z];have hr:=ih (i+1) (by omega);rw[q21,q21]at hr;by_cases e:dig a i=dig b i
  ·have e2:((dig a i:Int)==(dig b i:Int))=true:=by rw[e];exact beq_self_eq_true _
   rw[e2];simp only;rw[hr];congr 1;apply decide_eq_decide.mpr;unfold dig at e;omega
  ·have e2:((dig a i:Int)==(dig b i:Int))=false:=by
    apply beq_eq_false_iff_ne.mpr;omega
   rw[e2];simp only;rw[df];intro h;exact e (by unfold dig;rw[h])
theorem a8G {a b:Nat} (ha:a<4294967296 ^ 16) (hb:b<4294967296 ^ 16):q0E TP .eql 207 (.agg (D16 a)) (.agg (D16 b))=some (.bool (decide (a=b))):=by
 have h:∀xs ys:List AV,q0E TP .eql 207 (.agg xs) (.agg ys)=(match q44 TP (eqA TP 49) 27 1 xs ys 16 0 with|some b=>some (.bool b)|none=>none):=fun xs ys=>by kernel_rfl
 rw[h,j4h ha hb 16 0 rfl,xDa,Nat.div_one,Nat.div_one]
theorem a4B {a:Nat} (ha:a<4294967296 ^ 16) (m:Mem):Res m (run E12 (.fn 128) [.agg (D16 a)] m) (.bool (decide (a=0))):=by
 simp only[a88 (H:=H12) rfl,b6b,q1,p2,AV.cells,Nat.reduceLeDiff,q00,a0G,lcd,b60,a8G ha (z1c 16)];refine Res.eq ?_ rfl
 (repeat apply Fr.lays)
 exact Fr.refl _
theorem q7d {k:Nat} (hk:k<=60):10 ^ k<4294967296 ^ 7:=xCp (xCz (by omega) hk) (by decide)
theorem a0h {k:Nat} (hk:k<=60) (m:Mem):∀(d i:Nat),i+d=k->
  Res m (D12.gor 1282048 [.int .i64 (k:Int),.ptr (some ⟨m.next,0⟩),.ptr (some ⟨m.next+1,0⟩),.ptr (some ⟨m.next+1+1,0⟩),.int .i64 (i:Int)]
   (((m.lay (.cells (D16 0) false)).lay (.cells (D16 (10 ^ i)) false)).lay (.cells (D16 10) false))) (.agg (D16 (10 ^ k))):=by
 intro d;induction d with
 |zero=>
  intro i hi;have:i=k:=by omega
  subst this;simp only[z4C (H:=H12),z8r,p2,q0b,q1P,df (show ¬(i:Int)<(i:Int) by omega)];simp only[j6m (H:=H12),j22,q1,q0P,q0T,q1P,Nat.reduceLeDiff,lcd];refine Res.eq ?_ rfl
  (repeat apply Fr.lays)
  exact Fr.refl _
 |succ d ih=>
  intro i hi;have mu:=fun m=>j94 (H:=H12) rfl (a:=10 ^ i) (b:=10) (Nat.lt_trans (q7d (by omega)) (by decide)) (by decide) m
  rw[<-xFe]at mu;simp only[z4C (H:=H12),z8r,p2,q0b,q1P,dt (show (i:Int)<(k:Int) by omega)];simp only[j6k (H:=H12),j20,q1,q1P,Nat.reduceLeDiff,lcd,mu];simp only[j6l (H:=H12),j21,p2,q1P,show (i:Int)+1=((i+1:Nat):Int) by omega,wrap_i64 (n:=((i+1:Nat):Int)) (by omega) (by omega)];exact ih (i+1) (by omega)
theorem q8S {n:Nat} (h:n<4294967296):∀j,dig n j=if j=0 then n else 0:=by
 intro j;have:=q7o (n:=0) (i:=0) (d:=n) (by unfold dig;simpa using h) j;rw[xDa,xFf,xnz]at this;rw[this];have z:dig 0 j=0:=by unfold dig;rw[Nat.zero_div]
 rw[z,xnz]
theorem q9L {n:Nat} (h:n<4294967296):over (D16 0) 0 (.int .u64 (n:Int)) 1=some (D16 n):=
 q4E (by omega) (fun j _ hj=>by rw[q8S h,xAa hj,q8S (by omega),xAa hj]) (by rw[q8S h,xAb rfl])
theorem b1h {k:Nat} (hk:k<=60) (m:Mem):Res m (run E12 (.fn 313) [.int .i64 (k:Int)] m) (.agg (D16 (10 ^ k))):=by
 have lp:=a0h hk m k 0 (by omega);rw[xDa]at lp;have s1:over (D16 0) 0 (.int .u64 1) 1=some (D16 1):=q9L (n:=1) (by omega);have s10:over (D16 0) 0 (.int .u64 10) 1=some (D16 10):=q9L (n:=10) (by omega);simp only[a9Q (H:=H12) rfl,b6M,pB,p2,q1P,lcd,z16,z7b,s1,s10];exact lp
theorem j9X {a b:Nat} (ha:a<4294967296 ^ 16) (hb:b<4294967296 ^ 16) (hb0:0<b) (m:Mem):∀(k:Nat),k<=512->
  Res m (D12.gor 1286144 [.ptr (some ⟨m.next,0⟩),.ptr (some ⟨m.next+1,0⟩),.ptr (some ⟨m.next+1+1,0⟩),.ptr (some ⟨m.next+1+1+1,0⟩),.int .i64 ((k:Int)-1)]
   ((((m.lay (.cells (D16 a) false)).lay (.cells (D16 b) false)).lay (.cells (D16 (a / 2 ^ k / b*2 ^ k)) false)).lay (.cells (D16 (a / 2 ^ k % b)) false))) (.tup [.agg (D16 (a / b)),.agg (D16 (a % b))]):=by
 intro k;induction k with
 |zero=>
  intro _;rw[xDa,Nat.div_one,xFf];simp only[z4D (H:=H12),z8s,p2,q0b,q1P,df (show ¬((0:Nat):Int)-1>=0 by omega)];simp only[j6n (H:=H12),j23,q1,q0P,q0T,q1P,Nat.reduceLeDiff,lcd];refine Res.eq ?_ rfl
  (repeat apply Fr.lays)
  exact Fr.refl _
 |succ i ih=>
  intro hi;have hx:=a3l a i;obtain⟨bit,hbit⟩:∃bit,bit=a / 2 ^ i % 2:=⟨_,rfl⟩;have hb1:bit<=1:=by omega
  rw[<-hbit]at hx;obtain⟨x,hxx⟩:∃x,x=a / 2 ^ (i+1):=⟨_,rfl⟩;rw[<-hxx]at hx⊢;obtain⟨d1,d2⟩:=a8H (x:=x) (bit:=bit) hb0;rw[<-hx]at d1 d2;have hxa:a / 2 ^ i<=a:=Nat.div_le_self _ _;have hr:x % b<=x:=Nat.mod_le _ _;have hrb:x % b<b:=xEv _ hb0;obtain⟨r,hr'⟩:∃r,r=x % b:=⟨_,rfl⟩;rw[<-hr']at d1 d2 hr hrb⊢;have h16:i / 32<16:=by omega
  have h32:i % 32<32:=by omega
  have ad:=fun m=>z2q (H:=H12) rfl r r m
  have cm:=fun m=>z7p (H:=H12) rfl (a:=2*r+bit) (b:=b) (by omega) hb m
  have hj:IntKind.wrap .i64 ((i:Int).tdiv 32)=((i / 32:Nat):Int):=by rw[xCn (by omega),wrap_i64 (by omega) (by omega)];omega
  have hs:((IntKind.wrap .u64 (i:Int)).tmod 32)=((i % 32:Nat):Int):=by rw[wrap_u64 (by omega) (by omega),xBm (by omega)];omega
  have hbt:((dig a (i / 32) / 2 ^ (i % 32):Nat):Int).tmod 2=(bit:Int):=by
   rw[xBm (Int.natCast_nonneg _),show (2:Int)=((2:Nat):Int) from rfl,<-Int.natCast_emod,a8x,<-hbit]
  have ev:dig (r+r) 0 % 2=0:=by unfold dig;rw[xDa,Nat.div_one];omega
  have dl:=q3E (r+r) 0;have da:=q7o (n:=r+r) (i:=0) (d:=bit) (by omega);rw[xDa,xFf,show r+r+bit=2*r+bit by omega]at da;have hw:IntKind.wrap .u64 ((dig (r+r) 0:Int)+(bit:Int))=((dig (2*r+bit) 0:Nat):Int):=by
   rw[da 0,xAb rfl,q0i];omega
  have ov:over (D16 (r+r)) 0 (.int .u64 ((dig (2*r+bit) 0:Nat):Int)) 1=some (D16 (2*r+bit)):=
   q4E (by omega) (fun j _ hj=>by rw[da j,xAa hj,xna]) rfl
  simp only[show ((i+1:Nat):Int)-1=(i:Int) by omega];simp only[z4D (H:=H12),z8s,p2,q0b,q1P,dt (show (i:Int)>=0 by omega)];have z2:(2:Int)≠0:=by omega
  have z32:(32:Int)≠0:=by omega
  by_cases hge:b<=2*r+bit
  ·have hc:decide (q9X (2*r+bit) b>=0)=true:=by unfold q9X;rw[xAa (by omega)];split<;>decide
   have sb:=fun m=>z7y (H:=H12) rfl hge m
   have room:=a1D (x / b) i;have dq:=q7o (n:=x / b*2 ^ (i+1)) (i:=i / 32) (d:=2 ^ (i % 32)) room;rw[<-z5v]at dq;have hq:x / b*2 ^ (i+1)+2 ^ i=a / 2 ^ i / b*2 ^ i:=by
    rw[(d1 hge hb1).1,xFe,xCs,Nat.one_mul,xDq (2 ^ i) 2,<-xDo,xDq (x / b) 2]
   have hrr:2*r+bit-b=a / 2 ^ i % b:=(d1 hge hb1).2.symm;rw[hq]at dq;have hw2:IntKind.wrap .u64 ((dig (x / b*2 ^ (i+1)) (i / 32):Int)+((2 ^ (i % 32):Nat):Int))=((dig (a / 2 ^ i / b*2 ^ i) (i / 32):Nat):Int):=by
    rw[dq (i / 32),xAb rfl,q0i];obtain⟨w,hw⟩:∃w,w=2 ^ (i % 32):=⟨_,rfl⟩;rw[<-hw]at room⊢;omega
   have ov2:over (D16 (x / b*2 ^ (i+1))) (i / 32) (.int .u64 ((dig (a / 2 ^ i / b*2 ^ i) (i / 32):Nat):Int)) 1=some (D16 (a / 2 ^ i / b*2 ^ i)):=
    q4E h16 (fun j _ hj=>by rw[dq j,xAa hj];exact(xna _).symm) rfl
   simp only[z4E (H:=H12),z8t,q1,p2,p1,q0b,q1P,Nat.reduceLeDiff,lcd,ad,q4t _ _ _ _ z32,q2f _ _ _ _ z32,q2f _ _ _ _ z2,hj,hs,z7b,j8Y _ _ h16,q02 _ h16,q02 _ (show 0<16 by omega),z3j _ (q3E _ _) h32,j3N _ h32,hbt,hw,ov,cm,hc,sb,hw2,ov2];simp only[z4F (H:=H12),z8u,p2,q1P,wrap_i64 (n:=(i:Int)-1) (by omega) (by omega)]
   rw[hrr];exact ih (by omega)
  ·have hc:decide (q9X (2*r+bit) b>=0)=false:=by unfold q9X;rw[xAb (by omega)];decide
   have hq:x / b*2 ^ (i+1)=a / 2 ^ i / b*2 ^ i:=by
    rw[(d2 (by omega)).1,xFe,xDq (2 ^ i) 2,<-xDo,xDq (x / b) 2]
   have hrr:2*r+bit=a / 2 ^ i % b:=(d2 (by omega)).2.symm;simp only[z4E (H:=H12),z8t,q1,p2,p1,q0b,q1P,Nat.reduceLeDiff,lcd,ad,q4t _ _ _ _ z32,q2f _ _ _ _ z32,q2f _ _ _ _ z2,hj,hs,z7b,j8Y _ _ h16,q02 _ h16,q02 _ (show 0<16 by omega),z3j _ (q3E _ _) h32,hbt,hw,ov,cm,hc];simp only[z4F (H:=H12),z8u,p2,q1P,wrap_i64 (n:=(i:Int)-1) (by omega) (by omega)]
   rw[hrr,hq];exact ih (by omega)
theorem a0A (n:Nat):2 ^ (32*n)=4294967296 ^ n:=by rw[Nat.pow_mul,show (2:Nat) ^ 32=4294967296 from rfl]
theorem b08 {a b:Nat} (ha:a<4294967296 ^ 16) (hb:b<4294967296 ^ 16) (hb0:0<b) (m:Mem):Res m (run E12 (.fn 314) [.agg (D16 a),.agg (D16 b)] m) (.tup [.agg (D16 (a / b)),.agg (D16 (a % b))]):=by
 obtain⟨n,hn⟩:∃n,n=16:=⟨_,rfl⟩;have lp:=j9X ha hb hb0 m (32*n) (by omega);have e:a / 2 ^ (32*n)=0:=by rw[a0A,hn];exact xDy ha
 have hi:((32*n:Nat):Int)-1=511:=by omega
 rw[hi]at lp;rw[e,Nat.zero_div,xFd,Nat.zero_mod]at lp;simp only[a9R (H:=H12) rfl,b6N,pB,q00,q1P,AV.cells,lcd,z16];exact lp
end
section
theorem z7v (neg:Bool) {h l:Nat} (hh:h<18446744073709551616) (hl:l<18446744073709551616) (m:Mem) (cs:List AV) :
  Res m (D12.gor 516096 [.ptr (some ⟨m.next+1,0⟩),.int .u64 (h:Int),.int .u64 (l:Int),.bool neg] ((m.lay (.cells cs false)).lay (.cells (.bool false::D16 0) false))) (.agg (.bool neg::D16 (l+h*18446744073709551616))):=by
 have s0:=q5K (.bool neg) (n:=0) (i:=0) (d:=l % 4294967296) (by omega) (z1c 0) (by omega);have s1:=q5K (.bool neg) (n:=l % 4294967296) (i:=1) (d:=l / 4294967296) (by omega) (by omega) (by omega);have s2:=q5K (.bool neg) (n:=l) (i:=2) (d:=h % 4294967296) (by omega) (by omega) (by omega);have s3:=q5K (.bool neg) (n:=l+h % 4294967296*18446744073709551616) (i:=3) (d:=h / 4294967296) (by omega) (by omega) (by omega)
 rw[xDa,xFf,xnz]at s0;rw[Nat.pow_one,show l % 4294967296+l / 4294967296*4294967296=l by omega]at s1;rw[show l+h % 4294967296*4294967296 ^ 2=l+h % 4294967296*18446744073709551616 by omega]at s2;rw[show l+h % 4294967296*18446744073709551616+h / 4294967296*4294967296 ^ 3=l+h*18446744073709551616 by omega]at s3;simp only[Nat.reduceAdd,xnz]at s0 s1 s2 s3;simp only[j4S (H:=H12),j1V,p1,pB,p2,q1,q0p,AV.cells,Nat.reduceAdd,Nat.reduceLeDiff,q0P,q0T,q0r,lcd,z16,q76,q6p _ hh,q6p _ hl,j8Z,j80,j81,j82,s0,s1,s2,s3]
 refine Res.eq ?_ rfl
 (repeat apply Fr.lays)
 exact Fr.refl _
theorem b43 {a:Wd} (ha:a.ok) (m:Mem):Res m (run E12 (.fn 126) [.agg a.cells] m) (.agg (q27 a.val)):=by
 obtain⟨ah,al⟩:=a;obtain⟨a1,a2,a3,a4⟩:=ha;simp only at a1 a2 a3 a4;unfold q27 Wd.val;simp only[Wd.cells];by_cases hn:ah<0
 ·have n1:(-(1+ah):Int)=((-(1+ah)).toNat:Int):=by omega
  rw[dt (show ah*18446744073709551616+al<0 by omega)];by_cases hz:al=0
  ·have fin:=z7v true (h:=(-ah).toNat) (l:=0) (by omega) (by omega) m [.int .i64 ah,.int .u64 al];rw[show 0+(-ah).toNat*18446744073709551616=(ah*18446744073709551616+al).natAbs by omega]at fin;have w1:18446744073709551615-IntKind.wrap .u64 ah=-ah-1:=by rw[q0i];omega
   have w2:IntKind.wrap .u64 (-ah-1+1)=(((-ah).toNat:Nat):Int):=by rw[q0i];omega
   have w3:IntKind.wrap .u64 (18446744073709551615-al+1)=((0:Nat):Int):=by rw[q0i];omega
   have w0:=q0i ah;simp only[z6S (H:=H12) rfl,b2H,pB,p1,q1,p2,q00,q0b,q0r,AV.one,AV.cells,lcd,z16,dt hn,q5m (x:=IntKind.wrap .u64 ah) (by rw[w0];omega) (by rw[w0];omega),q5m a3 a4,w1,w2,w3,dt (show ((0:Nat):Int)=0 from rfl)];exact fin
  ·have fin:=z7v true (h:=(-ah-1).toNat) (l:=(18446744073709551616-al).toNat) (by omega) (by omega) m [.int .i64 ah,.int .u64 al];rw[show (18446744073709551616-al).toNat+(-ah-1).toNat*18446744073709551616=(ah*18446744073709551616+al).natAbs by omega]at fin;have w1:18446744073709551615-IntKind.wrap .u64 ah=(((-ah-1).toNat:Nat):Int):=by rw[q0i];omega
   have w3:IntKind.wrap .u64 (18446744073709551615-al+1)=(((18446744073709551616-al).toNat:Nat):Int):=by rw[q0i];omega
   have w0:=q0i ah;simp only[z6S (H:=H12) rfl,b2H,pB,p1,q1,p2,q00,q0b,q0r,AV.one,AV.cells,lcd,z16,dt hn,q5m (x:=IntKind.wrap .u64 ah) (by rw[w0];omega) (by rw[w0];omega),q5m a3 a4,w1,w3,df (show ¬(((18446744073709551616-al).toNat:Nat):Int)=0 by omega)];exact fin
 ·rw[df (show ¬ah*18446744073709551616+al<0 by omega)];have fin:=z7v false (h:=ah.toNat) (l:=al.toNat) (by omega) (by omega) m [.int .i64 ah,.int .u64 al];rw[show al.toNat+ah.toNat*18446744073709551616=(ah*18446744073709551616+al).natAbs by omega,show ((ah.toNat:Nat):Int)=ah by omega,show ((al.toNat:Nat):Int)=al by omega]at fin;have w1:IntKind.wrap .u64 ah=ah:=wrap_u64 (by omega) (by omega);simp only[z6S (H:=H12) rfl,b2H,pB,p1,q1,p2,q00,q0b,q0r,AV.one,AV.cells,lcd,z16,df hn,w1]
  exact fin
theorem j1t {n:Nat} (hn:n<4294967296 ^ 16) (neg:Bool) (m:Mem):∀(d i:Nat),i+d=16->4<=i->n % 4294967296 ^ i=n % 4294967296 ^ 4->
  (n<4294967296 ^ 4->D12.gor 1167360 [.ptr (some ⟨m.next,0⟩),.ptr (some ⟨m.next+1,0⟩),.int .i64 (i:Int)] ((m.lay (.cells (.bool neg::D16 n) false)).lay (.cells [.int .i64 0,.int .u64 0] false)) =
   D12.gor 1167363 [.ptr (some ⟨m.next,0⟩),.ptr (some ⟨m.next+1,0⟩)] ((m.lay (.cells (.bool neg::D16 n) false)).lay (.cells [.int .i64 0,.int .u64 0] false)))/\
  (¬n<4294967296 ^ 4->Res m (D12.gor 1167360 [.ptr (some ⟨m.next,0⟩),.ptr (some ⟨m.next+1,0⟩),.int .i64 (i:Int)] ((m.lay (.cells (.bool neg::D16 n) false)).lay (.cells [.int .i64 0,.int .u64 0] false))) (.tup [.agg [.int .i64 0,.int .u64 0],.bool false])):=by
 intro d;induction d with
 |zero=>
  intro i hi _ h;have:i=16:=by omega
  subst this;rw[xDx hn]at h;have hlt:n<4294967296 ^ 4:=by rw[h];exact xEv _ (z1c 4)
  refine⟨fun _=>?_,fun x=>absurd hlt x⟩
  simp only[q6H (H:=H12),z0l,p2,q0b,q0r,df (show ¬((16:Nat):Int)<16 by omega),show decide ((16:Int)<16)=false from rfl]
 |succ d ih=>
  intro i hi h4 h;have h16:i<16:=by omega
  by_cases e:dig n i=0
  ·have e':decide (((dig n i:Nat):Int)=0)=true:=dt (by omega);obtain⟨i1,i2⟩:=ih (i+1) (by omega) (by omega) (by rw[q43,e,xFd,xna,h]);constructor
   ·intro hlt;rw[<-i1 hlt];rw[show D12.gor 1167360 [.ptr (some ⟨m.next,0⟩),.ptr (some ⟨m.next+1,0⟩),.int .i64 ((i+1:Nat):Int)] ((m.lay (.cells (.bool neg::D16 n) false)).lay (.cells [.int .i64 0,.int .u64 0] false))=D12.gor 1167362 [.ptr (some ⟨m.next,0⟩),.ptr (some ⟨m.next+1,0⟩),.int .i64 (i:Int)] ((m.lay (.cells (.bool neg::D16 n) false)).lay (.cells [.int .i64 0,.int .u64 0] false)) by
     simp only[z4w (H:=H12),z8l,p2,q0r,show (i:Int)+1=((i+1:Nat):Int) by omega,wrap_i64 (n:=((i+1:Nat):Int)) (by omega) (by omega)]]
    simp only[q6H (H:=H12),z0l,p2,q0b,q0r,dt (show (i:Int)<16 by omega)];simp only[q9c (H:=H12),z2Y,p1,p2,q1,q0p,q0b,q0P,q0T,q0r,lcd,b7y _ h16,q02 _ h16,e',xbt]
   ·intro hlt;simp only[q6H (H:=H12),z0l,p2,q0b,q0r,dt (show (i:Int)<16 by omega)];simp only[q9c (H:=H12),z2Y,p1,p2,q1,q0p,q0b,q0P,q0T,q0r,lcd,b7y _ h16,q02 _ h16,e',xbt];simp only[z4w (H:=H12),z8l,p2,q0r,show (i:Int)+1=((i+1:Nat):Int) by omega,wrap_i64 (n:=((i+1:Nat):Int)) (by omega) (by omega)];exact i2 hlt
  ·have e':decide (((dig n i:Nat):Int)=0)=false:=df (by omega);constructor
   ·intro hlt;exact absurd (j4i (xCc hlt (xCz (by omega) h4))) e
   ·intro _;simp only[q6H (H:=H12),z0l,p2,q0b,q0r,dt (show (i:Int)<16 by omega)];simp only[q9c (H:=H12),z2Y,p1,p2,q1,q0p,AV.cells,Nat.reduceAdd,Nat.reduceLeDiff,q0b,q0P,q0T,q0r,AV.one,over,lcl,b7y _ h16,q02 _ h16,e',xbf];refine Res.eq ?_ rfl
    (repeat apply Fr.lays)
    exact Fr.refl _
theorem a4H {x:Nat} (h:x<4294967296):q0E TP .shl 27 (.int .u64 (x:Int)) (.int .u64 32)=some (.int .u64 ((x*4294967296:Nat):Int)):=by
 rw[show (32:Int)=((32:Nat):Int) from rfl,q77 27 32 (by omega)];congr 2;have:((x:Int)*2 ^ 32)=(x:Int)*4294967296:=rfl;rw[this];omega
theorem a4A {x:Int} (hx:x.natAbs<4294967296 ^ 16) (m:Mem):Res m (run E12 (.fn 285) [.agg (q27 x)] m) (.tup [.agg (q5s x).1.cells,.bool (q5s x).2]):=by
 obtain⟨l1,l2⟩:=j1t hx (decide (x<0)) m 12 4 rfl (by omega) rfl;obtain⟨n,hn⟩:∃n,n=x.natAbs:=⟨_,rfl⟩;simp only[q27,a9M (H:=H12) rfl,b6I,pB,q00,q0r,Wd.cells,AV.one,AV.cells,lcd];rw[<-hn]at l1 l2⊢;rw[show (4:Int)=((4:Nat):Int) from rfl];by_cases hlt:n<4294967296 ^ 4
 ·rw[l1 hlt];obtain⟨lo,hlo⟩:∃lo,lo=n % 18446744073709551616:=⟨_,rfl⟩;obtain⟨hi,hhi⟩:∃hi,hi=n / 18446744073709551616:=⟨_,rfl⟩;have d0:=b8g n;have d1:=b8w n;have d2:=b8x n;have d3:=b8y n;have lt1:=q3E n 1;have lt3:=q3E n 3;have w1:IntKind.wrap .u64 ((dig n 0:Int)+((dig n 1*4294967296:Nat):Int))=(lo:Int):=by rw[q0i];omega
  have w2:IntKind.wrap .u64 ((dig n 2:Int)+((dig n 3*4294967296:Nat):Int))=(hi:Int):=by rw[q0i];omega
  have hlo2:lo<18446744073709551616:=by omega
  have hhi2:hi<18446744073709551616:=by omega
  by_cases hneg:x<0
  ·rw[dt hneg];simp only[z4x (H:=H12),z8m,p1,p2,q1,q0p,AV.cells,Nat.reduceAdd,q0b,unA,q0P,q0T,q0r,lcd,j8Z,j80,j81,j82,q02 _ (show 0<16 by omega),q02 _ (show 1<16 by omega),q02 _ (show 2<16 by omega),q02 _ (show 3<16 by omega),a4H lt1,a4H lt3,w1,w2,xbt];by_cases g1:9223372036854775808<hi
   ·have hf:q0Q x=false:=q1K (by omega);simp only[q6I (H:=H12),z0m,p2,q0p,AV.cells,Nat.reduceAdd,Nat.reduceLeDiff,q0b,ifV,q0P,q0T,q0r,AV.one,over,lcl,dt (show (9223372036854775808:Int)<(hi:Int) by omega)];refine Res.eq ?_ (by unfold q5s;rw[xAa (by rw[hf];decide),xAa (by omega)])
    (repeat apply Fr.lays)
    exact Fr.refl _
   ·have main:q0Q x=true->Res m (D12.gor 1167365 [.ptr (some ⟨m.next+1,0⟩),.int .u64 (lo:Int),.int .u64 (hi:Int)] ((m.lay (.cells (.bool true::D16 n) false)).lay (.cells [.int .i64 0,.int .u64 0] false))) (.tup [.agg (q5s x).1.cells,.bool (q5s x).2]):=by
     intro hf;have hv:q5s x=(Wd.of x,true):=by unfold q5s;rw[xAb hf]
     rw[hv];unfold q0Q at hf;simp only[xAc,xAj]at hf;by_cases g2:lo=0
     ·have u1:IntKind.wrap .u64 (18446744073709551615-(lo:Int)+1)=0:=by rw[q0i];omega
      have u2:IntKind.wrap .i64 (IntKind.wrap .u64 (18446744073709551615-(hi:Int)+1))=(Wd.of x).hi:=by rw[q2W,q0i];unfold Wd.of;simp only;omega
      simp only[z4y (H:=H12),z8n,p1,p2,q0b,q0r,q5m (x:=(lo:Int)) (by omega) (by omega),q5m (x:=(hi:Int)) (by omega) (by omega),u1,xAn];simp only[z4z (H:=H12),z8o,p1,q0p,AV.cells,Nat.reduceAdd,Nat.reduceLeDiff,q0P,q0T,q0r,Wd.cells,AV.one,over,lcl,u2];refine Res.eq ?_ (by unfold Wd.of;simp only[AV.tup.injEq,xDj,AV.agg.injEq,AV.int.injEq,true_and,xFb];omega)
      (repeat apply Fr.lays)
      exact Fr.refl _
     ·have u1:IntKind.wrap .u64 (18446744073709551615-(lo:Int)+1)=(Wd.of x).lo:=by rw[q0i];unfold Wd.of;simp only;omega
      have u2:IntKind.wrap .i64 (18446744073709551615-(hi:Int))=(Wd.of x).hi:=by rw[q2W];unfold Wd.of;simp only;omega
      simp only[z4y (H:=H12),z8n,p1,p2,q0b,q0r,q5m (x:=(lo:Int)) (by omega) (by omega),q5m (x:=(hi:Int)) (by omega) (by omega),u1,df (show ¬(Wd.of x).lo=0 by unfold Wd.of;simp only;omega)];simp only[z4z (H:=H12),z8o,p1,q0p,AV.cells,Nat.reduceAdd,Nat.reduceLeDiff,q0P,q0T,q0r,Wd.cells,AV.one,over,lcl,u2];refine Res.eq ?_ rfl
      (repeat apply Fr.lays)
      exact Fr.refl _
    by_cases g3:hi=9223372036854775808
    ·by_cases g4:0<lo
     ·have hf:q0Q x=false:=q1K (by omega);simp only[q6I (H:=H12),z0m,p2,q0p,AV.cells,Nat.reduceAdd,Nat.reduceLeDiff,q0b,ifV,q0P,q0T,q0r,AV.one,over,lcl,df (show ¬(9223372036854775808:Int)<(hi:Int) by omega),dt (show (hi:Int)=9223372036854775808 by omega),dt (show (0:Int)<(lo:Int) by omega)];refine Res.eq ?_ (by unfold q5s;rw[xAa (by rw[hf];decide),xAa (by omega)])
      (repeat apply Fr.lays)
      exact Fr.refl _
     ·simp only[q6I (H:=H12),z0m,p2,q0p,AV.cells,Nat.reduceAdd,Nat.reduceLeDiff,q0b,ifV,q0P,q0T,q0r,AV.one,over,lcl,df (show ¬(9223372036854775808:Int)<(hi:Int) by omega),dt (show (hi:Int)=9223372036854775808 by omega),df (show ¬(0:Int)<(lo:Int) by omega)];exact main (q03 (by omega) (by omega))
    ·simp only[q6I (H:=H12),z0m,p2,q0p,AV.cells,Nat.reduceAdd,Nat.reduceLeDiff,q0b,ifV,q0P,q0T,q0r,AV.one,over,lcl,df (show ¬(9223372036854775808:Int)<(hi:Int) by omega),df (show ¬(hi:Int)=9223372036854775808 by omega)];exact main (q03 (by omega) (by omega))
  ·rw[df hneg];simp only[z4x (H:=H12),z8m,p1,p2,q1,q0p,AV.cells,Nat.reduceAdd,Nat.reduceLeDiff,q0b,unA,q0P,q0T,q0r,AV.one,over,lcl,q15,j8Z,j80,j81,j82,q02 _ (show 0<16 by omega),q02 _ (show 1<16 by omega),q02 _ (show 2<16 by omega),q02 _ (show 3<16 by omega),a4H lt1,a4H lt3,w1,w2,xbf];refine Res.eq (?_:Fr _ _ _) ?_
   ·(repeat apply Fr.lays)
    exact Fr.refl _
   ·unfold q5s;by_cases g:hi<9223372036854775808
    ·have hf:q0Q x=true:=q03 (by omega) (by omega);rw[xAb hf,dt (show (hi:Int)<9223372036854775808 by omega),wrap_i64 (by omega) (by omega)];unfold Wd.of;simp only[AV.tup.injEq,xDj,AV.agg.injEq,AV.int.injEq,true_and,xFb];omega
    ·have hf:q0Q x=false:=q1K (by omega);rw[xAa (by rw[hf];decide),xAb (by omega),df (show ¬(hi:Int)<9223372036854775808 by omega),q2W];simp only[AV.tup.injEq,xDj,AV.agg.injEq,AV.int.injEq,true_and,xFb];omega
 ·have hf:q0Q x=false:=q1K (by omega);have hv:q5s x=(⟨0,0⟩,false):=by unfold q5s;rw[xAa (by rw[hf];decide),xAa (by omega)]
  rw[hv];exact l2 hlt
end
section
def S13:List FuncId:=[314,313,128,126,285]
noncomputable def H13:FuncId->Option (List AV->Mem->R):=q1R E12 S13
noncomputable abbrev E13:Env:=Ea H13
theorem b2n:q07 E13:=q0U b2m S13
section
variable {H:FuncId->Option (List AV->Mem->R)}
theorem b07 (h:H 314=some (q0B E12 314)) {a b:Nat} (ha:a<4294967296 ^ 16) (hb:b<4294967296 ^ 16) (hb0:0<b) (m:Mem):run (Ea H) (.fn 314) [.agg (D16 a),.agg (D16 b)] m=some (.tup [.agg (D16 (a / b)),.agg (D16 (a % b))],m):=
 q0w h (by simp[AV.flat,AV.lt,AV.lts,q5t]) fun m2 _ _=>b08 ha hb hb0 m2
theorem a0g (h:H 313=some (q0B E12 313)) {k:Nat} (hk:k<=60) (m:Mem):run (Ea H) (.fn 313) [.int .i64 (k:Int)] m=some (.agg (D16 (10 ^ k)),m):=
 q0w h (by simp[AV.flat,AV.lt,q5t]) fun m2 _ _=>b1h hk m2
theorem q68 (h:H 128=some (q0B E12 128)) {a:Nat} (ha:a<4294967296 ^ 16) (m:Mem):run (Ea H) (.fn 128) [.agg (D16 a)] m=some (.bool (decide (a=0)),m):=
 q0w h (by simp[AV.flat,AV.lt]) fun m2 _ _=>a4B ha m2
theorem q7U (h:H 126=some (q0B E12 126)) {a:Wd} (ha:a.ok) (m:Mem):run (Ea H) (.fn 126) [.agg a.cells] m=some (.agg (q27 a.val),m):=
 q0w h (by simp[AV.flat,AV.lt,q4Y]) fun m2 _ _=>b43 ha m2
theorem z99 (h:H 285=some (q0B E12 285)) {x:Int} (hx:x.natAbs<4294967296 ^ 16) (m:Mem):run (Ea H) (.fn 285) [.agg (q27 x)] m=some (.tup [.agg (q5s x).1.cells,.bool (q5s x).2],m):=
 q0w h (by simp[AV.flat,AV.lt,AV.lts,Wd.cells]) fun m2 _ _=>a4A hx m2
end
theorem q4F {n k:Nat} (h:n<4294967296 ^ k) (hk:k<=16):n<4294967296 ^ 16:=xCc h (xCz (by omega) hk)
theorem z9P {a b:Nat} (ha:a<4294967296 ^ 8) (hb:b<4294967296 ^ 7):a*b<4294967296 ^ 16:=by
 have h:=Nat.mul_lt_mul'' ha hb;rw[<-xEi]at h;exact q4F h (by omega)
theorem a0i {a b:Int} (ha:a.natAbs<4294967296 ^ 8) (hb:b.natAbs<4294967296 ^ 7) (m:Mem):Res m (run E13 (.fn 288) [.agg (q27 a),.agg (q27 b)] m) (.agg (q27 (a*b))):=by
 have mu:=fun m=>j94 (H:=H13) rfl ha hb m
 have zr:=fun m=>q68 (H:=H13) rfl (z9P ha hb) m
 unfold q27;rw[Int.natAbs_mul];by_cases h:(decide (a<0)==decide (b<0))=true
 ·have hn:decide (a*b<0)=false:=by
   apply df;intro hh;have h':=eq_of_beq h;by_cases h1:a<0
   ·rw[dt h1]at h';have h2:=xCk h'.symm;have:=Int.mul_pos_of_neg_of_neg h1 h2;omega
   ·rw[df h1]at h';have h2:=of_decide_eq_false h'.symm;have:=xCh (show 0<=a by omega) (show 0<=b by omega);omega
  simp only[j4L (H:=H13) rfl,b5s,pB,p1,q1,p2,q0p,AV.cells,Nat.reduceAdd,Nat.reduceLeDiff,q00,ifV,unA,q0P,q0T,q0r,AV.one,lcd,z16,mu,h,xbt,hn];refine Res.eq ?_ rfl
  (repeat apply Fr.lays)
  exact Fr.refl _
 ·rw[Bool.not_eq_true]at h;have hn:(!decide (a.natAbs*b.natAbs=0))=decide (a*b<0):=by
   have h':¬(decide (a<0)=decide (b<0)):=by intro e;rw[e]at h;simp at h
   have hz:(a.natAbs*b.natAbs=0)=(a*b=0):=by rw[<-Int.natAbs_mul];apply propext;exact Int.natAbs_eq_zero
   rw[<-decide_not];apply decide_eq_decide.mpr;rw[hz];by_cases h1:a<0
   ·rw[dt h1]at h';have h2:¬b<0:=fun x=>h' (dt x).symm
    have:=xCh (show 0<=-a by omega) (show 0<=b by omega);rw[Int.neg_mul]at this;omega
   ·rw[df h1]at h';have h2:b<0:=by
     apply xBy;intro x;exact h' (df x).symm
    have:=xCh (show 0<=a by omega) (show 0<=-b by omega);rw[Int.mul_neg]at this;omega
  simp only[j4L (H:=H13) rfl,b5s,pB,p1,q1,p2,q0p,AV.cells,Nat.reduceAdd,Nat.reduceLeDiff,q00,ifV,unA,q0P,q0T,q0r,AV.one,lcd,z16,mu,h,xbf,zr,hn];refine Res.eq ?_ rfl
  (repeat apply Fr.lays)
  exact Fr.refl _
theorem j93 {x:Int} (hx:x.natAbs<4294967296 ^ 16) (m:Mem):Res m (run E13 (.fn 227) [.agg (q27 x)] m) (.agg (q27 (-x))):=by
 have zr:=fun m=>q68 (H:=H13) rfl hx m
 unfold q27;rw[Int.natAbs_neg];by_cases h:x<0
 ·rw[dt h,df (show ¬-x<0 by omega)];simp only[j4D (H:=H13) rfl,b5l,pB,p1,q1,q0p,AV.cells,Nat.reduceAdd,Nat.reduceLeDiff,q00,ifV,unA,q0P,q0T,q0r,AV.one,lcd,z16,xbt];refine Res.eq ?_ rfl
  (repeat apply Fr.lays)
  exact Fr.refl _
 ·rw[df h];have hn:(!decide (x.natAbs=0))=decide (-x<0):=by
   rw[<-decide_not];apply decide_eq_decide.mpr;omega
  simp only[j4D (H:=H13) rfl,b5l,pB,p1,q1,q0p,AV.cells,Nat.reduceAdd,Nat.reduceLeDiff,q00,ifV,unA,q0P,q0T,q0r,AV.one,lcd,z16,xbf,zr,hn];refine Res.eq ?_ rfl
  (repeat apply Fr.lays)
  exact Fr.refl _
theorem b1g {x y:Int} (hx:x.natAbs<4294967296 ^ 15) (hy:y.natAbs<4294967296 ^ 15) (m:Mem):Res m (run E13 (.fn 127) [.agg (q27 x),.agg (q27 y)] m) (.agg (q27 (x+y))):=by
 have hx':=q4F hx (by omega);have hy':=q4F hy (by omega);have ad:=fun m=>z2q (H:=H13) rfl x.natAbs y.natAbs m
 have cm:=fun m=>z7p (H:=H13) rfl hx' hy' m
 unfold q27;by_cases h:(decide (x<0)==decide (y<0))=true
 ·have hs:decide (x+y<0)=decide (x<0)/\(x+y).natAbs=x.natAbs+y.natAbs:=by
   have h':=eq_of_beq h;by_cases h1:x<0
   ·rw[dt h1]at h';have h2:=xCk h'.symm;exact⟨by rw[dt h1];exact dt (by omega),by omega⟩
   ·rw[df h1]at h';have h2:=of_decide_eq_false h'.symm;exact⟨by rw[df h1];exact df (by omega),by omega⟩
  rw[hs.1,hs.2];simp only[j4x (H:=H13) rfl,b5g,pB,p1,q1,p2,q0p,AV.cells,Nat.reduceAdd,Nat.reduceLeDiff,q00,q0b,q0P,q0T,q0r,AV.one,lcd,z16,ad,h];refine Res.eq ?_ rfl
  (repeat apply Fr.lays)
  exact Fr.refl _
 ·rw[Bool.not_eq_true]at h;have h':¬(decide (x<0)=decide (y<0)):=by intro e;rw[e]at h;simp at h
  simp only[j4x (H:=H13) rfl,b5g,pB,p1,q1,p2,q0p,AV.cells,Nat.reduceAdd,Nat.reduceLeDiff,q00,q0b,q0P,q0T,q0r,AV.one,lcd,z16,h];by_cases hl:x.natAbs<y.natAbs
  ·have hc:decide (q9X x.natAbs y.natAbs<0)=true:=by unfold q9X;rw[xAb hl];decide
   have sb:=fun m=>z7y (H:=H13) rfl (show x.natAbs<=y.natAbs by omega) m
   have hs:decide (x+y<0)=decide (y<0)/\(x+y).natAbs=y.natAbs-x.natAbs:=by
    by_cases h1:x<0
    ·rw[dt h1]at h';have h2:¬y<0:=fun x=>h' (dt x).symm
     exact⟨decide_eq_decide.mpr (by omega),by omega⟩
    ·rw[df h1]at h';have h2:y<0:=by
      apply xBy;intro x;exact h' (df x).symm
     exact⟨decide_eq_decide.mpr (by omega),by omega⟩
   rw[hs.1,hs.2];simp only[z3U (H:=H13),z7K,p1,q1,p2,q0p,AV.cells,Nat.reduceAdd,Nat.reduceLeDiff,q0b,q0P,q0T,q0r,lcd,cm,hc,sb];refine Res.eq ?_ rfl
   (repeat apply Fr.lays)
   exact Fr.refl _
  ·have hc:decide (q9X x.natAbs y.natAbs<0)=false:=by unfold q9X;rw[xAa hl];split<;>decide
   have sb:=fun m=>z7y (H:=H13) rfl (show y.natAbs<=x.natAbs by omega) m
   have zr:=fun m=>q68 (H:=H13) rfl (a:=x.natAbs-y.natAbs) (by omega) m
   have ha:(x+y).natAbs=x.natAbs-y.natAbs:=by
    by_cases h1:x<0
    ·rw[dt h1]at h';have h2:¬y<0:=fun x=>h' (dt x).symm
     omega
    ·rw[df h1]at h';have h2:y<0:=by
      apply xBy;intro x;exact h' (df x).symm
     omega
   rw[ha];simp only[z3U (H:=H13),z7K,p1,q1,p2,q0p,AV.cells,Nat.reduceAdd,Nat.reduceLeDiff,q0b,q0P,q0T,q0r,lcd,cm,hc];by_cases h1:x<0
   ·have hn:(!decide (x.natAbs-y.natAbs=0))=decide (x+y<0):=by
     rw[dt h1]at h';have h2:¬y<0:=fun x=>h' (dt x).symm
     rw[<-decide_not];exact decide_eq_decide.mpr (by omega)
    rw[dt h1];simp only[z3V (H:=H13),z7L,p1,q1,pB,q0p,AV.cells,Nat.reduceAdd,Nat.reduceLeDiff,ifV,unA,q0P,q0T,q0r,lcd,z16,sb,zr,hn];refine Res.eq ?_ rfl
    (repeat apply Fr.lays)
    exact Fr.refl _
   ·have hn:decide (x+y<0)=false:=by
     rw[df h1]at h';have h2:y<0:=by
      apply xBy;intro x;exact h' (df x).symm
     exact df (by omega)
    rw[df h1,hn];simp only[z3V (H:=H13),z7L,p1,q1,pB,q0p,AV.cells,Nat.reduceAdd,Nat.reduceLeDiff,ifV,unA,q0P,q0T,q0r,lcd,z16,sb];refine Res.eq ?_ rfl
    (repeat apply Fr.lays)
    exact Fr.refl _
theorem z1b {x:Int} (h:q0Q x=true):q5s x=(Wd.of x,true):=by unfold q5s;rw[xAb h]
theorem z6h {x:Int} (h:q0Q x=false):(q5s x).2=false:=by unfold q5s;rw[xAa (by rw[h];decide)];split<;>rfl
theorem b1i {x:Int} (hx:x.natAbs<4294967296 ^ 16) (m:Mem):Res m (run E13 (.fn 226) [.agg (q27 x)] m) (.tup [.agg (Wd.res x).1.cells,.int .i64 (Wd.res x).2]):=by
 have wd:=fun m=>z99 (H:=H13) rfl hx m
 cases hf:q0Q x with
 |true=>
  rw[z1b hf]at wd;rw[q1O hf];simp only[q27,Wd.cells]at wd⊢;simp only[j4C (H:=H13) rfl,b5k,pB,q1,p1,q0p,AV.cells,Nat.reduceAdd,Nat.reduceLeDiff,q00,q0q,q0b,unA,q0P,q0T,q4f,AV.one,over,lcl,q15,q5u,q4S,wd,xbt];simp only[j5H (H:=H13),j2L,q1,q0P,q0T,q4f,AV.one,over,AV.cells,Nat.reduceAdd,Nat.reduceLeDiff,lcl];refine Res.eq ?_ rfl
  (repeat apply Fr.lays)
  exact Fr.refl _
 |false=>
  rw[z6h hf]at wd;rw[b09 hf];simp only[q27,Wd.cells]at wd⊢;simp only[j4C (H:=H13) rfl,b5k,pB,q1,p1,q0p,AV.cells,Nat.reduceAdd,Nat.reduceLeDiff,q00,q0q,q0b,unA,q0P,q0T,q4f,AV.one,over,lcl,q15,q5u,q4S,wd,xbf];refine Res.eq ?_ rfl
  (repeat apply Fr.lays)
  exact Fr.refl _
theorem b06 {x:Int} (hx:x.natAbs<4294967296 ^ 16) (to:Int) (m:Mem):Res m (run E13 (.fn 286) [.agg (q27 x),.int .i64 to] m) (q42 x to):=by
 have wd:=fun m=>z99 (H:=H13) rfl hx m
 unfold q42;cases hf:q0Q x with
 |true=>
  rw[z1b hf]at wd;simp only[q27,Wd.cells,q0O,xAd]at wd⊢;simp only[j4J (H:=H13) rfl,b5q,pB,q1,p1,q0p,AV.cells,Nat.reduceAdd,Nat.reduceLeDiff,q00,q0q,q0b,unA,q0P,q0T,q4f,AV.one,over,lcl,q15,q5u,q4S,wd,xbt];simp only[j6i (H:=H13),j2Y,q1,q0p,AV.cells,Nat.reduceAdd,Nat.reduceLeDiff,q0P,q0T,q4f,AV.one,over,lcl];refine Res.eq ?_ rfl
  (repeat apply Fr.lays)
  exact Fr.refl _
 |false=>
  rw[z6h hf]at wd;simp only[q27,Wd.cells,q0O,xbq,xAh]at wd⊢;simp only[j4J (H:=H13) rfl,b5q,pB,q1,p1,q0p,AV.cells,Nat.reduceAdd,Nat.reduceLeDiff,q00,q0q,q0b,unA,q0P,q0T,q4f,AV.one,over,lcl,q15,q5u,q4S,wd,xbf];refine Res.eq ?_ rfl
  (repeat apply Fr.lays)
  exact Fr.refl _
theorem j1r (w:Wd) (s:Int) (m:Mem):Res m (run E13 (.fn 229) [.agg (q0O w s)] m) (.bool (decide (0<=s/\s<=18))):=by
 by_cases h1:0<=s
 ·simp only[q0O,j4E (H:=H13) rfl,b5m,p1,q1,p2,q00,ifV,q0f,AV.one,AV.cells,lcl,dt (show s>=0 from h1)];refine Res.eq ?_ (by congr 1;exact decide_eq_decide.mpr (by omega))
  (repeat apply Fr.lays)
  exact Fr.refl _
 ·simp only[q0O,j4E (H:=H13) rfl,b5m,p1,q1,p2,q00,ifV,q0f,AV.one,AV.cells,lcl,df (show ¬s>=0 from h1)];refine Res.eq ?_ (by congr 1;exact(df (by omega)).symm)
  (repeat apply Fr.lays)
  exact Fr.refl _
end
end Go.Proofs.YtkbhcgifnnhbaaaGreatDoor
