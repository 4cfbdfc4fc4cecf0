/- Texts of one claim, put together. -/
import Derived.Test.YtkbhcgifnnhbaaaGreatDoorK13
import Derived.Stop.Joined
namespace Go.Abs
open Go
section
theorem q08.fld {n:Nat} {m:Mem} {s:AV} {l:List (List AV)} {rb:Option Nat} (h:q08 n m s l rb) {i:Nat} (hi:i<l.length) :
  ∃b,rb=some b/\s=.sl (some ⟨b,0⟩) n l.length l.length false/\ixA n l.length ⟨b,0⟩ (i:Int)=some (.ptr (some ⟨b,i*n⟩))/\(∀o,o<n->ld1 m (.ptr (some ⟨b,i*n+o⟩))=l[i][o]?)/\
   (∀o k,o+k<=n->ldN m (.ptr (some ⟨b,i*n+o⟩)) k=some (.agg ((l[i].drop o).take k))):=by
 have hl:=h.lens;obtain⟨b,h1,h2,h3,h4,h5⟩:=h.at hi;have hli:l[i].length=n:=hl _ (xAf hi);have hd:l.flatten.drop (i*n)=l[i]++(l.drop (i+1)).flatten:=by
  rw[q3a i hl,xAk hi,xCb]
 have hfl:=q1F hl;have hle:(i+1)*n<=l.length*n:=xAo n hi;rw[xCi]at hle;refine⟨b,h1,h2,h4,fun o ho=>?_,fun o k hk=>?_⟩
 ·rw[q0e h3,<-xBu,hd,xBj (by omega)]
 ·rw[q1b h3 (by omega),<-xEx,hd,List.drop_append_of_le_length (by omega),xCf (by rw[xld0];omega)]
def q52 {α:Type} (p:α->Bool):List α->Nat->Int
 |[],_=>-1
 |x::l,i=>if p x then (i:Int) else q52 p l (i+1)
theorem q5H {α κ:Type} [DecidableEq κ] {lt:κ->κ->Bool} (f:α->κ) (k:κ) (irr:∀a,lt a a=false):∀(l:List α) (i:Nat),Srt lt (l.map f)->q52 (fun x=>decide (f x=k)) l i=if q1u lt k (l.map f)=true then ((i+lb lt k (l.map f):Nat):Int) else -1
 |[],i,_=>by simp[q52,q1u]
 |x::l,i,hs=>by
  unfold q52;have hs':Srt lt (l.map f):=by unfold Srt at hs⊢;rw[xBf,xEd]at hs;exact hs.2
  have hx:∀y∈l.map f,lt (f x) y=true:=by unfold Srt at hs;rw[xBf,xEd]at hs;exact hs.1
  have ih:=q5H f k irr l (i+1) hs';by_cases e:f x=k
  ·rw[xAb (dt e)];have hlb:lb lt k ((x::l).map f)=0:=by
    unfold lb;rw[xBf,xCt,e,irr];simp
   have hh:q1u lt k ((x::l).map f)=true:=by unfold q1u;rw[hlb];simp[e]
   rw[xAb hh,hlb];rfl
  ·rw[xAa (by simpa using e),ih];by_cases h2:lt (f x) k=true
   ·have hlb:lb lt k ((x::l).map f)=lb lt k (l.map f)+1:=by
     unfold lb;rw[xBf,xCt,xAb h2,xAi]
    have hh:q1u lt k ((x::l).map f)=q1u lt k (l.map f):=by
     unfold q1u;rw[hlb,xBf,xgs]
    rw[hh,hlb];by_cases h3:q1u lt k (l.map f)=true
    ·rw[xAb h3,xAb h3];congr 1;omega
    ·rw[xAa h3,xAa h3]
   ·have hlb:lb lt k ((x::l).map f)=0:=by
     unfold lb;rw[xBf,xCt,xAa h2];rfl
    have hh:q1u lt k ((x::l).map f)=false:=by unfold q1u;rw[hlb];simp[e]
    rw[hh];have hn:q1u lt k (l.map f)=false:=by
     cases h3:q1u lt k (l.map f) with
     |false=>rfl
     |true=>
      have:=hx k (xCa (q51 h3));exact absurd this h2
    rw[hn];simp
structure q0I (m:Mem) (b:Nat) (st:LSt) (F:List Nat):Prop where
 ex:∃sp sq sa rp rq ra,m.get b=some (.cells [sp,sq,sa,.int .u64 st.latest,.int .i64 st.most] false)/\q08 4 m sp (st.q0d.map (·.cells)) rp/\q08 9 m sq (st.pairs.map (·.cells)) rq/\q08 4 m sa (st.q0s.map (·.cells)) ra/\
  b∉rp.toList/\b∉rq.toList/\b∉ra.toList/\Dj rp.toList rq.toList/\Dj rp.toList ra.toList/\Dj rq.toList ra.toList/\F=b::(rp.toList++rq.toList++ra.toList)
theorem q0I.frame {m m':Mem} {b:Nat} {st:LSt} {F S:List Nat} (h:q0I m b st F) (hf:Fr m m' S) (hd:∀c,c∈F->c∉S):q0I m' b st F:=by
 obtain⟨sp,sq,sa,rp,rq,ra,h1,h2,h3,h4,h5,h6,h7,h8,h9,h10,rfl⟩:=h.ex;exact⟨sp,sq,sa,rp,rq,ra,hf.get h1 (hd _ (by simp)),h2.frame hf (fun c hc=>hd c (by simp[hc])),h3.frame hf (fun c hc=>hd c (by simp[hc])),h4.frame hf (fun c hc=>hd c (by simp[hc])),h5,h6,h7,h8,h9,h10,rfl⟩
theorem q0I.q0m {m m':Mem} {b:Nat} {st:LSt} {F:List Nat} (h:q0I m b st F) (hf:Fr m m' []):q0I m' b st F:=h.frame hf (by simp)
end
section
theorem q08.sto {n:Nat} {m:Mem} {s:AV} {l:List (List AV)} {rb:Option Nat} (h:q08 n m s l rb) {i:Nat} (hi:i<l.length) {o:Nat} {vs:List AV} (ho:o+vs.length<=n) (hv:vs.all AV.one=true) :
  ∃b,rb=some b/\stV m (.ptr (some ⟨b,i*n+o⟩)) (.agg vs) vs.length=some (m.put b (some (.cells (l.set i (l[i].take o++vs++l[i].drop (o+vs.length))).flatten false)))/\
   q08 n (m.put b (some (.cells (l.set i (l[i].take o++vs++l[i].drop (o+vs.length))).flatten false))) s (l.set i (l[i].take o++vs++l[i].drop (o+vs.length))) rb:=by
 have hl:=h.lens;obtain⟨b,h1,h2,h3,h4,h5⟩:=h.at hi;have hli:l[i].length=n:=hl _ (xAf hi);have hfl:=q1F hl;have hle:(i+1)*n<=l.length*n:=xAo n hi;rw[xCi]at hle;have hd:l.flatten.drop (i*n)=l[i]++(l.drop (i+1)).flatten:=by
  rw[q3a i hl,xAk hi,xCb]
 have hlen:(l[i].take o++vs++l[i].drop (o+vs.length)).length=n:=by
  simp only[xla0,xlt0,xld0];omega
 have hone:(l[i].take o++vs++l[i].drop (o+vs.length)).all AV.one=true:=by
  have hx:=(h.1 _ (xAf hi)).2;rw[List.all_append,List.all_append,hv,Bool.and_true,xAc];exact⟨xBd.2 fun v hv'=>xBd.1 hx v (List.mem_of_mem_take hv'),xBd.2 fun v hv'=>xBd.1 hx v (xEj hv')⟩
 have key:l.flatten.take (i*n+o)++vs++l.flatten.drop (i*n+o+vs.length)=(l.set i (l[i].take o++vs++l[i].drop (o+vs.length))).flatten:=by
  rw[<-z9e hl hi,List.take_add,hd,xCf (by omega),xEq,<-xEx,hd,List.drop_append_of_le_length (by omega)];have e:l.flatten.drop (i*n+n)=(l.drop (i+1)).flatten:=by rw[<-xCi];exact q3a (i+1) hl
  rw[e];simp only[xAg]
 have hst:=q1B (v:=.agg vs) (vs:=vs) (o:=i*n+o) (n:=vs.length) h3 (q3y hv) rfl (by omega);rw[key]at hst;refine⟨b,h1,hst,fun x hx=>?_,.inr ⟨b,h1,by simpa using h2,q0x h3⟩⟩
 rcases xDf hx with hx|rfl
 ·exact h.1 x hx
 ·exact⟨hlen,hone⟩
theorem q0I.lt {m:Mem} {b:Nat} {st:LSt} {F:List Nat} (h:q0I m b st F):∀c,c∈F->c<m.next:=by
 obtain⟨sp,sq,sa,rp,rq,ra,h1,h2,h3,h4,h5,h6,h7,h8,h9,h10,rfl⟩:=h.ex;intro c hc;simp only[xmk0,xma,xAw]at hc;rcases hc with rfl|(hc|hc)|hc
 ·exact Mem.q0u h1
 ·subst hc;exact h2.lt
 ·subst hc;exact h3.lt
 ·subst hc;exact h4.lt
theorem q0I.stA {m:Mem} {b:Nat} {st:LSt} {F:List Nat} (h:q0I m b st F) {sp sq sa:AV} (hb:m.get b=some (.cells [sp,sq,sa,.int .u64 st.latest,.int .i64 st.most] false)) {a:q1v} (ga:st.q0s[st.iA a.id]? = some a) (ny:Wd) :
  ∃bb m1,sa=.sl (some ⟨bb,0⟩) 4 st.q0s.length st.q0s.length false/\stV m (.ptr (some ⟨bb,st.iA a.id*4+2⟩)) (.agg ny.cells) 2=some m1/\q0I m1 b (st.q2U {a with bal:=ny}) F/\Fr m m1 F/\m1.next=m.next/\m1.get b=m.get b:=by
 obtain⟨sp',sq',sa',rp,rq,ra,h1,h2,h3,h4,h5,h6,h7,h8,h9,h10,rfl⟩:=h.ex;rw[h1]at hb;simp only[xoi,Blk.cells.injEq,xDj,xFb,true_and]at hb;obtain⟨rfl,rfl,rfl⟩:=hb;obtain⟨hlt,hga⟩:=xgi.1 ga;obtain⟨bb,e1,e2,e3⟩:=h4.sto (i:=st.iA a.id) (by rw[xlm];exact hlt) (o:=2) (vs:=ny.cells) (by simp[Wd.cells]) rfl;obtain⟨bb',f1,f2,_⟩:=h4.fld (i:=st.iA a.id) (by rw[xlm];exact hlt);rw[e1]at f1;cases f1;have hv:(st.q0s.map (·.cells)).set (st.iA a.id) (((st.q0s.map fun x:q1v=>x.cells)[st.iA a.id]'(by rw[xlm];exact hlt)).take 2++ny.cells++((st.q0s.map fun x:q1v=>x.cells)[st.iA a.id]'(by rw[xlm];exact hlt)).drop (2+ny.cells.length))=(st.q2U {a with bal:=ny}).q0s.map (·.cells):=by
  rw[xgm,hga];unfold LSt.q2U;rw[xFv];rfl
 rw[hv]at e2 e3;have hbb:bb≠b:=fun e=>h7 (by rw[e1,e];simp)
 have hf:Fr m (m.put bb (some (.cells ((st.q2U {a with bal:=ny}).q0s.map (·.cells)).flatten false))) [bb]:=Fr.put _ _ _
 refine⟨bb,_,by simpa using f2,e2,⟨sp',sq',sa',rp,rq,ra,hf.get h1 (by simp;exact fun e=>hbb e.symm),h2.frame hf (fun c hc=>?_),h3.frame hf (fun c hc=>?_),e3,h5,h6,h7,h8,h9,h10,rfl⟩,hf.mono (fun c hc=>?_),rfl,?_⟩
 ·simp only[xms];rintro rfl;exact h9 c (by rw[hc];simp) (by rw[e1];simp)
 ·simp only[xms];rintro rfl;exact h10 c (by rw[hc];simp) (by rw[e1];simp)
 ·simp only[xms]at hc;subst hc;rw[e1];simp
 ·exact z9T (fun e=>hbb e.symm)
theorem q0I.stP {m:Mem} {b:Nat} {st:LSt} {F:List Nat} (h:q0I m b st F) {sp sq sa:AV} (hb:m.get b=some (.cells [sp,sq,sa,.int .u64 st.latest,.int .i64 st.most] false)) {a:q0v} (ga:st.q0d[st.iP a.name]? = some a) (ny:Wd) :
  ∃bb m1,sp=.sl (some ⟨bb,0⟩) 4 st.q0d.length st.q0d.length false/\stV m (.ptr (some ⟨bb,st.iP a.name*4+2⟩)) (.agg ny.cells) 2=some m1/\q0I m1 b (st.a4E {a with out:=ny}) F/\Fr m m1 F/\m1.next=m.next/\m1.get b=m.get b:=by
 obtain⟨sp',sq',sa',rp,rq,ra,h1,h2,h3,h4,h5,h6,h7,h8,h9,h10,rfl⟩:=h.ex;rw[h1]at hb;simp only[xoi,Blk.cells.injEq,xDj,xFb,true_and]at hb;obtain⟨rfl,rfl,rfl⟩:=hb;obtain⟨hlt,hga⟩:=xgi.1 ga;obtain⟨bb,e1,e2,e3⟩:=h2.sto (i:=st.iP a.name) (by rw[xlm];exact hlt) (o:=2) (vs:=ny.cells) (by simp[Wd.cells]) rfl;obtain⟨bb',f1,f2,_⟩:=h2.fld (i:=st.iP a.name) (by rw[xlm];exact hlt);rw[e1]at f1;cases f1;have hv:(st.q0d.map (·.cells)).set (st.iP a.name) (((st.q0d.map fun x:q0v=>x.cells)[st.iP a.name]'(by rw[xlm];exact hlt)).take 2++ny.cells++((st.q0d.map fun x:q0v=>x.cells)[st.iP a.name]'(by rw[xlm];exact hlt)).drop (2+ny.cells.length))=(st.a4E {a with out:=ny}).q0d.map (·.cells):=by
  rw[xgm,hga];unfold LSt.a4E;rw[xFv];rfl
 rw[hv]at e2 e3;have hbb:bb≠b:=fun e=>h5 (by rw[e1,e];simp)
 have hf:Fr m (m.put bb (some (.cells ((st.a4E {a with out:=ny}).q0d.map (·.cells)).flatten false))) [bb]:=Fr.put _ _ _
 refine⟨bb,_,by simpa using f2,e2,⟨sp',sq',sa',rp,rq,ra,hf.get h1 (by simp;exact fun e=>hbb e.symm),e3,h3.frame hf (fun c hc=>?_),h4.frame hf (fun c hc=>?_),h5,h6,h7,h8,h9,h10,rfl⟩,hf.mono (fun c hc=>?_),rfl,?_⟩
 ·simp only[xms];rintro rfl;exact h8 c (by rw[e1];simp) (by rw[hc];simp)
 ·simp only[xms];rintro rfl;exact h9 c (by rw[e1];simp) (by rw[hc];simp)
 ·simp only[xms]at hc;subst hc;rw[e1];simp
 ·exact z9T (fun e=>hbb e.symm)
end
section
theorem bs0 (n:Nat) (zs:List AV):bsA n 0 zs []=some (.cells [] false,fun b=>.sl (some ⟨b,0⟩) n 0 0 true):=rfl
theorem j3F {n w:Nat} {m:Mem} {b:Nat} {ex:Bool} {l:List (List AV)} (hl0:∀x∈l,x.length=n/\x.all AV.one=true) (hb:m.get b=some (.cells l.flatten false)) {xb:Nat} {new:List AV} (hx:m.get xb=some (.cells new false)) (hl:new.length=n) (ho:new.all AV.one=true)
  (hw:(l.length+1)*w<=q0j) :
  ∃s' m',q0H n w (.sl (some ⟨b,0⟩) n l.length l.length ex) (.sl (some ⟨xb,0⟩) n 1 1 true) m=some (s',m')/\q08 n m' s' (l++[new]) (some m.next)/\m'.next=m.next+1/\Fr m m' [b]:=by
 have hsrc:q5Q n (.sl (some ⟨xb,0⟩) n 1 1 true) m=some (1,new):=by
  simp only[q5Q,xBv,xAd,q0C,hx,Nat.one_mul,xnz,hl,xnr,xAp,xom];rw[xtl (by omega)]
 have hall:∀x∈l++[new],x.length=n/\x.all AV.one=true:=by
  intro x hx';simp only[xma,xms]at hx';rcases hx' with h1|rfl
  ·exact hl0 x h1
  ·exact⟨hl,ho⟩
 have hlen:(l++[new]).length=l.length+1:=by simp
 have hfl:=q1F fun x hx=>(hl0 x hx).1
 have hld:q0C m ⟨b,0⟩ (l.length*n)=some l.flatten:=by
  simp only[q0C,hb];rw[xAb (by omega),xAp,xtl (by omega)]
 unfold q0H;rw[hsrc];simp only[ho,xAq,xAh,xBv,xAd];rw[xAa (by omega),xAb hw,hld];cases ex with
 |true=>
  simp only[xAd];refine⟨_,_,rfl,⟨hall,.inr ⟨m.next,rfl,by rw[hlen],?_⟩⟩,rfl,(Fr.alloc _ _).any _⟩
  simp[Mem.q0J,xDs]
 |false=>
  simp only[xbq,xAh,hb];refine⟨_,_,rfl,⟨hall,.inr ⟨m.next,rfl,by rw[hlen],?_⟩⟩,rfl,((Fr.put m b none).trans (Fr.alloc _ _) (by simp) (by simp))⟩
  simp[Mem.q0J,xDs]
end
section
def z0f {α:Type} (f:α->Int):List α->Int
 |[]=>0
 |a::l=>f a+z0f f l
theorem q4M {α:Type} (f:α->Int):∀(l k:List α),z0f f (l++k)=z0f f l+z0f f k
 |[],k=>by simp[z0f]
 |a::l,k=>by simp only[xAy,z0f,q4M f l k];omega
theorem z2B {α:Type} (f:α->Int):∀{l:List α} {i:Nat} {y:α} (x:α),l[i]? = some y->z0f f (l.set i x)=z0f f l+(f x-f y)
 |[],_,_,_,h=>by simp at h
 |a::l,0,y,x,h=>by
  simp only[ge,xoi]at h;subst h;simp only[List.set_cons_zero,z0f];omega
 |a::l,i+1,y,x,h=>by
  simp only[ge]at h;simp only[List.set_cons_succ,z0f,z2B f x h];omega
theorem a0x {α:Type} (f:α->Int) (i:Nat) (x:α) (l:List α):z0f f (q7P i x l)=z0f f l+f x:=by
 have h:z0f f l=z0f f (l.take i)+z0f f (l.drop i):=by rw[<-q4M,xEc]
 unfold q7P;rw[q4M,h];simp only[z0f];omega
theorem q9R {α:Type} (f:α->Int):∀{l:List α},(∀x∈l,f x=0)->z0f f l=0
 |[],_=>rfl
 |a::l,h=>by rw[z0f,h a xmc,q9R f fun x hx=>h x (xBa _ hx)];rfl
theorem b1s {κ:Type} {lt:κ->κ->Bool} (irr:∀a,lt a a=false) {ks:List κ} (h:Srt lt ks) {i j:Nat} {k:κ} (hi:ks[i]? = some k) (hj:ks[j]? = some k):i=j:=by
 obtain⟨h1,e1⟩:=xgi.1 hi;obtain⟨h2,e2⟩:=xgi.1 hj;rcases xFk i j with h3|h3|h3
 ·have:=q5k h h3 h2;rw[e1,e2,irr]at this;cases this
 ·exact h3
 ·have:=q5k h h3 h1;rw[e1,e2,irr]at this;cases this
theorem j6U {κ:Type} [DecidableEq κ] {lt:κ->κ->Bool} (irr:∀a,lt a a=false) {k:κ} {ks:List κ} (h:Srt lt ks):q1u lt k ks=true↔k∈ks:=by
 rw[b4K irr h,decide_eq_true_iff]
theorem j6W {κ:Type} [DecidableEq κ] {lt:κ->κ->Bool} (irr:∀a,lt a a=false) {k:κ} {ks:List κ} (h:Srt lt ks) (h':q1u lt k ks=false):k∉ks:=fun hm=>by
 rw[(j6U irr h).2 hm]at h';cases h'
theorem a3m {ps:List q0v} (h:Srt q0g (ps.map (·.name))) {k:List UInt8}:q1u q0g k (ps.map (·.name))=true↔k∈ps.map (·.name):=j6U q1h h
theorem z1P {st:LSt} {k:List UInt8}:(st.q4r k).isSome=true↔q1u q0g k (st.q0d.map (·.name))=true:=by
 constructor
 ·intro h;cases hk:q1u q0g k (st.q0d.map (·.name)) with
  |true=>rfl
  |false=>rw[LSt.q3H hk]at h;cases h
 ·intro h;obtain⟨p,p1,_⟩:=LSt.q2c h;rw[p1];rfl
theorem q2d {st:LSt} (h:Srt q0g (st.q0d.map (·.name))) {k:List UInt8}:(st.q4r k).isSome=true↔k∈st.q0d.map (·.name):=z1P.trans (a3m h)
def sA (n:List UInt8):List q1v->Int:=z0f fun a=>if a.q1U=n then a.bal.val else 0
def sQ (n:List UInt8):List q0D->Int:=z0f fun q=>(if q.x=n then q.inx.val else 0)+(if q.y=n then q.q2I.val else 0)
def j1K (qs:List q0D) (az:List q1v) (p:q0v):Int:=p.out.val+sA p.name az+sQ p.name qs
structure LGood (st:LSt):Prop where
 w:LWf st
 am:(st.q0s.length:Int)<=st.most
 mo:1<=st.most/\st.most<=64
 a1:∀a∈st.q0s,1<=a.id/\0<=a.bal.val
 q1:∀q∈st.pairs,q.x≠q.y/\0<=q.inx.val/\q.q2I.val<=0
structure q5S (st:LSt):Prop extends LGood st where
 su:∀p∈st.q0d,j1K st.pairs st.q0s p=0
theorem LGood.q0s {st:LSt} (g:LGood st) {az:List q1v} (hid:az.map (·.id)=st.q0s.map (·.id)) (hall:∀a∈az,a.bal.ok/\1<=a.id/\a.id<=st.latest/\(st.q4r a.q1U).isSome=true/\0<=a.bal.val):LGood {st with q0s:=az}:=by
 have hl:az.length=st.q0s.length:=by have:=xFa List.length hid;simpa using this
 exact {
  w:={sp:=g.w.sp,lp:=g.w.lp,sq:=g.w.sq,lq:=g.w.lq,sa:=by show Srt q0F (az.map (·.id));rw[hid];exact g.w.sa,la:=by show az.length<=64;rw[hl];exact g.w.la,okp:=g.w.okp,okq:=g.w.okq,
      oka:=fun a ha=>⟨(hall a ha).1,by have:=(hall a ha).2.1;omega,(hall a ha).2.2.1,(hall a ha).2.2.2.1⟩,lat:=g.w.lat}
  am:=by show (az.length:Int)<=st.most;rw[hl];exact g.am
  mo:=g.mo
  a1:=fun a ha=>⟨(hall a ha).2.1,(hall a ha).2.2.2.2⟩
  q1:=g.q1}
theorem LGood.q2U {st:LSt} (g:LGood st) {i:Nat} {a:q1v} (hi:st.q0s[i]? = some a) {n:Wd} (hn:n.ok) (h0:0<=n.val):LGood {st with q0s:=st.q0s.set i {a with bal:=n}}:=by
 have ma:=xCa hi;refine g.q0s ?_ fun x hx=>?_
 ·rw[xFv];exact q8v (by rw[xBi,hi];rfl)
 ·rcases xDf hx with hx|rfl
  ·exact⟨(g.w.oka x hx).1,(g.a1 x hx).1,(g.w.oka x hx).2.2.1,(g.w.oka x hx).2.2.2,(g.a1 x hx).2⟩
  ·exact⟨hn,(g.a1 a ma).1,(g.w.oka a ma).2.2.1,(g.w.oka a ma).2.2.2,h0⟩
theorem LGood.a4E {st:LSt} (g:LGood st) {i:Nat} {p:q0v} (hi:st.q0d[i]? = some p) {n:Wd} (hn:n.ok):LGood {st with q0d:=st.q0d.set i {p with out:=n}}:=by
 have mp:=xCa hi;have names:(st.q0d.set i {p with out:=n}).map (·.name)=st.q0d.map (·.name):=by
  rw[xFv];exact q8v (by rw[xBi,hi];rfl)
 have gp:∀k,(st.q4r k).isSome=true->(LSt.q4r {st with q0d:=st.q0d.set i {p with out:=n}} k).isSome=true:=fun k hk=>by
  rw[z1P]at hk⊢;show q1u q0g k ((st.q0d.set i {p with out:=n}).map (·.name))=true
  rw[names];exact hk
 exact {
  w:={sp:=by show Srt q0g ((st.q0d.set i {p with out:=n}).map (·.name));rw[names];exact g.w.sp
      lp:=by show (st.q0d.set i _).length<=8;rw[List.length_set];exact g.w.lp
      sq:=g.w.sq,lq:=g.w.lq,sa:=g.w.sa,la:=g.w.la
      okp:=fun x hx=>by
       rcases xDf hx with hx|rfl
       ·exact g.w.okp x hx
       ·have:=g.w.okp p mp;exact⟨this.1,this.2.1,hn,this.2.2.2⟩
      okq:=fun q hq=>by have:=g.w.okq q hq;exact⟨this.1,this.2.1,this.2.2.1,this.2.2.2.1,gp _ this.2.2.2.2.1,gp _ this.2.2.2.2.2⟩
      oka:=fun a ha=>by have:=g.w.oka a ha;exact⟨this.1,this.2.1,this.2.2.1,gp _ this.2.2.2⟩
      lat:=g.w.lat}
  am:=g.am,mo:=g.mo,a1:=g.a1,q1:=g.q1}
theorem q3O:∀{a b c d:List UInt8},a.length=b.length->q0g (a++c) (b++d)=(q0g a b||(decide (a=b)&&q0g c d))
 |[],[],c,d,_=>by simp[q0g]
 |[],_::_,_,_,h=>by simp at h
 | _::_,[],_,_,h=>by simp at h
 |a::x,b::y,c,d,h=>by
  simp only[xAy,q0g];rw[q3O (a:=x) (b:=y) (by simpa using h)];by_cases e:a=b
  ·subst e;simp
  ·simp[e]
theorem j3H:∀{l:List Nat} {lo hi:Nat},l.Pairwise (· < ·)->(∀x∈l,lo<=x/\x<hi)->l.length<=hi-lo
 |[],_,_,_,_=>by simp
 |a::l,lo,hi,h,hb=>by
  rw[xEd]at h;have h1:=hb a xmc;have:=j3H (lo:=a+1) (hi:=hi) h.2 fun x hx=>⟨h.1 x hx,(hb x (xBa _ hx)).2⟩
  simp only[xAi];omega
theorem j9e {ks:List (List UInt8)} (hs:Srt q0g ks) {a b:List UInt8} (ha:a∈ks) (hb:b∈ks) (h:q0g a b=true):lb q0g a ks<lb q0g b ks:=by
 obtain⟨i,hi,rfl⟩:=xBg.1 ha;obtain⟨j,hj,rfl⟩:=xBg.1 hb;have e:∀i (hi:i<ks.length),lb q0g ks[i] ks=i:=fun i hi=>q6T (Nat.le_of_lt hi) (fun j h hj=>q5k hs hj hi) (fun _=>q1h _)
 rw[e i hi,e j hj];rcases xFk i j with h3|h3|h3
 ·exact h3
 ·subst h3;rw[q1h]at h;cases h
 ·have h4:=q5k hs h3 hi;have:=q1Y _ _ _ h h4;rw[q1h]at this;cases this
theorem j9d {ks:List (List UInt8)} (hs:Srt q0g ks) {a:List UInt8} (ha:a∈ks):lb q0g a ks<ks.length:=by
 obtain⟨i,hi,rfl⟩:=xBg.1 ha;have e:lb q0g ks[i] ks=i:=q6T (Nat.le_of_lt hi) (fun j h hj=>q5k hs hj hi) (fun _=>q1h _)
 rw[e];exact hi
theorem z5s {ks:List (List UInt8)} (hs:Srt q0g ks) (hl:ks.length<=8) (h3:∀k∈ks,k.length=3) {qs:List q0D} (hq:Srt q0g (qs.map (·.key))) (hm:∀q∈qs,q.x∈ks/\q.y∈ks):qs.length<=64:=by
 have key:(qs.map fun q=>8*lb q0g q.x ks+lb q0g q.y ks).Pairwise (· < ·):=by
  rw[List.pairwise_map];unfold Srt at hq;rw[List.pairwise_map]at hq;refine List.Pairwise.imp_of_mem ?_ hq;intro a b ma mb hab;obtain⟨ax,ay⟩:=hm a ma;obtain⟨bx,bY⟩:=hm b mb;unfold q0D.key at hab;rw[q3O (by rw[h3 _ ax,h3 _ bx])]at hab;have l1:=j9d hs ay;simp only[xDu,xAc,xAj]at hab;rcases hab with h|⟨h,h'⟩
  ·have:=j9e hs ax bx h;omega
  ·have:=j9e hs ay bY h';rw[h];omega
 have:=j3H (lo:=0) (hi:=64) key fun x hx=>by
  obtain⟨q,hq',rfl⟩:=xBr.1 hx;obtain⟨ax,ay⟩:=hm q hq';have:=j9d hs ax;have:=j9d hs ay;omega
 simpa using this
theorem LGood.pairs {st:LSt} (g:LGood st) {qs:List q0D} (hs:Srt q0g (qs.map (·.key))) (hall:∀q∈qs,(q.rate.ok/\q5i q.rate q.q0V=true/\q.inx.ok/\q.q2I.ok/\(st.q4r q.x).isSome=true/\(st.q4r q.y).isSome=true)/\q.x≠q.y/\0<=q.inx.val/\q.q2I.val<=0) :
  LGood {st with pairs:=qs}:={
 w:={sp:=g.w.sp,lp:=g.w.lp,sq:=hs
     lq:=z5s (ks:=st.q0d.map (·.name)) g.w.sp (by rw[xlm];exact g.w.lp) (fun k hk=>by
      obtain⟨p,hp,rfl⟩:=xBr.1 hk;have:=(g.w.okp p hp).2.2.2;unfold q4R at this;simp only[xAc,xAj]at this;exact this.2) hs fun q hq=>⟨(q2d g.w.sp).1 (hall q hq).1.2.2.2.2.1,(q2d g.w.sp).1 (hall q hq).1.2.2.2.2.2⟩
     sa:=g.w.sa,la:=g.w.la,okp:=g.w.okp,okq:=fun q hq=>(hall q hq).1,oka:=g.w.oka,lat:=g.w.lat}
 am:=g.am,mo:=g.mo,a1:=g.a1,q1:=fun q hq=>(hall q hq).2}
theorem LGood.full {st:LSt} (g:LGood st):∀q∈st.pairs,(q.rate.ok/\q5i q.rate q.q0V=true/\q.inx.ok/\q.q2I.ok/\(st.q4r q.x).isSome=true/\(st.q4r q.y).isSome=true)/\q.x≠q.y/\0<=q.inx.val/\q.q2I.val<=0:=fun q hq=>⟨g.w.okq q hq,g.q1 q hq⟩
theorem z2a {α:Type} {i:Nat} {x y:α} {l:List α} (h:y∈q7P i x l):y=x\/y∈l:=by
 unfold q7P at h;simp only[xma,xmk0]at h;rcases h with h|rfl|h
 ·exact .inr (List.mem_of_mem_take h)
 ·exact .inl rfl
 ·exact .inr (xEj h)
theorem a3s {α:Type} {i:Nat} {x y:α} {l:List α} (h:y=x\/y∈l):y∈q7P i x l:=by
 unfold q7P;rcases h with rfl|h
 ·simp
 ·rw[<-xEc i l,xma]at h;simp only[xma,xmk0];rcases h with h|h
  ·exact .inl h
  ·exact .inr (.inr h)
theorem LGood.q9G {st:LSt} (g:LGood st) {q:q0D} (hq:(q.rate.ok/\q5i q.rate q.q0V=true/\q.inx.ok/\q.q2I.ok/\(st.q4r q.x).isSome=true/\(st.q4r q.y).isSome=true)/\q.x≠q.y/\0<=q.inx.val/\q.q2I.val<=0) :
  LGood (st.q9G q)/\(q1u q0g q.key (st.pairs.map (·.key))=false->(st.q9G q).pairs=q7P (st.iQ q.key) q st.pairs):=by
 cases hk:q1u q0g q.key (st.pairs.map (·.key)) with
 |true=>
  refine⟨?_,nofun⟩;have e:st.q9G q={st with pairs:=st.pairs.set (st.iQ q.key) q}:=by unfold LSt.q9G;rw[xAb hk]
  rw[e];refine g.pairs ?_ fun x hx=>?_
  ·rw[xFv];unfold LSt.iQ;rw[q8v (q51 hk)];exact g.w.sq
  ·rcases xDf hx with hx|rfl
   ·exact g.full x hx
   ·exact hq
 |false=>
  have hn:q.key∉st.pairs.map (·.key):=j6W q1h g.w.sq hk;have hs:Srt q0g ((q7P (st.iQ q.key) q st.pairs).map (·.key)):=by
   rw[q6R];exact a6C q1Y q6h g.w.sq hn
  have gg:LGood {st with pairs:=q7P (st.iQ q.key) q st.pairs}:=g.pairs hs fun x hx=>by
   rcases z2a hx with rfl|hx
   ·exact hq
   ·exact g.full x hx
  have hl:=gg.w.lq;have hi:st.iQ q.key<=st.pairs.length:=by have:=j03 (lt:=q0g) q.key (st.pairs.map (·.key));rw[xlm]at this;exact this
  rw[show (LSt.pairs {st with pairs:=q7P (st.iQ q.key) q st.pairs}).length=st.pairs.length+1 from z9G hi]at hl
  have e:st.q9G q={st with pairs:=q7P (st.iQ q.key) q st.pairs}:=by
   unfold LSt.q9G;rw[xAa (by rw[hk];decide),xAb (by omega)]
  rw[e];exact⟨gg,fun _=>rfl⟩
end
section
theorem z03 {l:List q1v} {i:Nat} {a:q1v} (h:l[i]? = some a) (v:Wd) (n:List UInt8):sA n (l.set i {a with bal:=v})=sA n l+(if a.q1U=n then v.val-a.bal.val else 0):=by
 unfold sA;rw[z2B _ _ h];by_cases e:a.q1U=n
 ·rw[xAb e,xAb e,xAb e]
 ·rw[xAa e,xAa e,xAa e];rfl
theorem q5S.a6K {st:LSt} (g:q5S st) {i:Nat} {p:q0v} (hi:st.q0d[i]? = some p) {n:Wd} {az:List q1v} {qs:List q0D}
  (h:n.val-p.out.val+(sA p.name az-sA p.name st.q0s)+(sQ p.name qs-sQ p.name st.pairs)=0) (ho:∀k,k≠p.name->sA k az+sQ k qs=sA k st.q0s+sQ k st.pairs):∀x∈st.q0d.set i {p with out:=n},j1K qs az x=0:=by
 intro x hx;obtain⟨j,hj⟩:=List.getElem?_of_mem hx;have gp:=g.su p (xCa hi);unfold j1K at gp⊢;rw[xFm]at hj;by_cases e:i=j
 ·subst e;rw[xAb rfl]at hj;split at hj
  ·cases hj;simp only;omega
  ·cases hj
 ·rw[xAa e]at hj;have gx:=g.su x (xCa hj);unfold j1K at gx;have:=ho x.name fun e2=>e (b1s q1h g.w.sp (k:=p.name) (by rw[xBi,hi];rfl) (by rw[xBi,hj];simp[e2]))
  omega
theorem q5S.q9Q {st:LSt} (g:q5S st) {az:List q1v} {qs:List q0D} (ho:∀k,sA k az+sQ k qs=sA k st.q0s+sQ k st.pairs):∀x∈st.q0d,j1K qs az x=0:=fun x hx=>by
 have:=g.su x hx;have:=ho x.name;unfold j1K at *;omega
theorem q5S.new (most:Int) (h:1<=most/\most<=64):q5S ⟨[],[],[],0,most⟩ where
 w:={sp:=by simp[Srt],lp:=by simp,sq:=by simp[Srt],lq:=by simp,sa:=by simp[Srt],la:=by simp,okp:=by simp,okq:=by simp,oka:=by simp,lat:=by simp}
 am:=by simp;omega
 mo:=h
 a1:=by simp
 q1:=by simp
 su:=by simp
theorem j39 {st:LSt} (g:q5S st) (name:List UInt8) {scale:Int} (h0:0<=scale):q5S (z6H st name scale).2:=by
 unfold z6H;split
 ·exact g
 split
 ·exact g
 split
 ·exact g
 split
 ·exact g
 rename_i h1 h2 h3 h4;have hk:q1u q0g name (st.q0d.map (·.name))=false:=by simpa using h3
 have hn:name∉st.q0d.map (·.name):=j6W q1h g.w.sp hk;obtain⟨i,hi⟩:∃i,i=lb q0g name (st.q0d.map (·.name)):=⟨_,rfl⟩;have hl:i<=st.q0d.length:=by rw[hi];have:=j03 (lt:=q0g) name (st.q0d.map (·.name));rw[xlm]at this;exact this
 have hs:Srt q0g ((q7P i (q0v.mk name scale ⟨0,0⟩) st.q0d).map (·.name)):=by
  rw[q6R,hi];exact a6C q1Y q6h g.w.sp hn
 rw[<-hi];have gp:∀k,(st.q4r k).isSome=true->(LSt.q4r {st with q0d:=q7P i ⟨name,scale,⟨0,0⟩⟩ st.q0d} k).isSome=true:=fun k hk=>by
  rw[q2d g.w.sp]at hk;rw[q2d hs];show k∈(q7P i (q0v.mk name scale ⟨0,0⟩) st.q0d).map (·.name);rw[q6R];exact a3s (.inr hk)
 have nc:∀k,(st.q4r k).isSome=true->k≠name:=fun k hk e=>hn (by rw[<-e];exact(q2d g.w.sp).1 hk)
 exact {
  w:={sp:=hs,lp:=by show (q7P i (q0v.mk name scale ⟨0,0⟩) st.q0d).length<=8;rw[z9G hl];omega
      sq:=g.w.sq,lq:=g.w.lq,sa:=g.w.sa,la:=g.w.la
      okp:=fun x hx=>by
       rcases z2a hx with rfl|hx
       ·exact⟨h0,by show scale<=18;omega,by unfold Wd.ok;simp,by simpa using h1⟩
       ·exact g.w.okp x hx
      okq:=fun q hq=>by have:=g.w.okq q hq;exact⟨this.1,this.2.1,this.2.2.1,this.2.2.2.1,gp _ this.2.2.2.2.1,gp _ this.2.2.2.2.2⟩
      oka:=fun a ha=>by have:=g.w.oka a ha;exact⟨this.1,this.2.1,this.2.2.1,gp _ this.2.2.2⟩
      lat:=g.w.lat}
  am:=g.am,mo:=g.mo,a1:=g.a1,q1:=g.q1
  su:=fun x hx=>by
   rcases z2a hx with rfl|hx
   ·unfold j1K;have z1:sA name st.q0s=0:=q9R _ fun a ha=>xAa (nc _ (g.w.oka a ha).2.2.2)
    have z2:sQ name st.pairs=0:=q9R _ fun q hq=>by rw[xAa (nc _ (g.w.okq q hq).2.2.2.2.1),xAa (nc _ (g.w.okq q hq).2.2.2.2.2)];rfl
    simp only[z1,z2];rfl
   ·exact g.su x hx}
theorem z5n {st:LSt} (g:q5S st) (name:List UInt8):q5S (z5m st name).2.2:=by
 unfold z5m;split
 ·exact g
 split
 ·exact g
 rename_i h1 h2;have hk:q1u q0g name (st.q0d.map (·.name))=true:=by simpa using h1
 have hp:=z1P.2 hk;have l0:=g.w.lat;exact {
  w:={sp:=g.w.sp,lp:=g.w.lp,sq:=g.w.sq,lq:=g.w.lq
      sa:=by
       show Srt q0F ((st.q0s++[q1v.mk (st.latest+1) name ⟨0,0⟩]).map (·.id));unfold Srt;rw[xCx,List.pairwise_append];refine⟨g.w.sa,by simp,fun x hx y hy=>?_⟩
       obtain⟨a,ha,rfl⟩:=xBr.1 hx;simp only[xBf,xFw,xms]at hy;subst hy;have:=(g.w.oka a ha).2.2.1;simp[q0F];omega
      la:=by show (st.q0s++[q1v.mk (st.latest+1) name ⟨0,0⟩]).length<=64;rw[xla0];have:=g.mo;simp;omega
      okp:=g.w.okp,okq:=g.w.okq
      oka:=fun a ha=>by
       have hx:a∈st.q0s++[q1v.mk (st.latest+1) name ⟨0,0⟩]:=ha;rw[xma,xms]at hx;rcases hx with hx|rfl
       ·have:=g.w.oka a hx;exact⟨this.1,this.2.1,by show a.id<=st.latest+1;omega,this.2.2.2⟩
       ·exact⟨by unfold Wd.ok;simp,by show 0<=st.latest+1;omega,Int.le_refl _,hp⟩
      lat:=by show 0<=st.latest+1/\st.latest+1<=72057594037927935;omega}
  am:=by show ((st.q0s++[q1v.mk (st.latest+1) name ⟨0,0⟩]).length:Int)<=st.most;rw[xla0];simp;omega
  mo:=g.mo
  a1:=fun a ha=>by
   have hx:a∈st.q0s++[q1v.mk (st.latest+1) name ⟨0,0⟩]:=ha;rw[xma,xms]at hx;rcases hx with hx|rfl
   ·exact g.a1 a hx
   ·exact⟨by show 1<=st.latest+1;omega,by show (0:Int)<=(Wd.mk 0 0).val;simp[Wd.val]⟩
  q1:=g.q1
  su:=g.q9Q fun k=>by
   show sA k (st.q0s++[q1v.mk (st.latest+1) name ⟨0,0⟩])+_=_;unfold sA;rw[q4M];simp only[z0f,show (Wd.mk 0 0).val=0 from by simp[Wd.val],ite_self];omega}
theorem q6D {p:q0v} {w:Wd} {s:Int} (h:q3n p w s=0):s=p.scale/\0<w.val:=by
 unfold q3n at h;split at h
 ·omega
 ·split at h
  ·omega
  ·omega
theorem LSt.q2h {st:LSt} {id:Int} {a:q1v} (h:st.z0F id=some a):a.id=id/\st.q0s[st.iA a.id]? = some a:=by
 cases hk:q1u q0F id (st.q0s.map (·.id)) with
 |false=>rw[LSt.q49 hk]at h;cases h
 |true=>
  obtain⟨a',a1,a2,a3,_⟩:=LSt.q1Q hk;rw[h]at a1;cases a1;exact⟨a2,by rw[a2];exact a3⟩
theorem LSt.z6Y {st:LSt} {k:List UInt8} {p:q0v} (h:st.q4r k=some p):p.name=k/\st.q0d[st.iP p.name]? = some p:=by
 cases hk:q1u q0g k (st.q0d.map (·.name)) with
 |false=>rw[LSt.q3H hk]at h;cases h
 |true=>
  obtain⟨a',a1,a2,a3,_⟩:=LSt.q2c hk;rw[h]at a1;cases a1;exact⟨a2,by rw[a2];exact a3⟩
theorem LSt.z6Z {st:LSt} {k:List UInt8} {p:q0D} (h:st.j6N k=some p):p.key=k/\st.pairs[st.iQ p.key]? = some p/\q1u q0g k (st.pairs.map (·.key))=true:=by
 cases hk:q1u q0g k (st.pairs.map (·.key)) with
 |false=>rw[LSt.q9f hk]at h;cases h
 |true=>
  obtain⟨a',a1,a2,a3,_⟩:=LSt.q6O hk;rw[h]at a1;cases a1;exact⟨a2,by rw[a2];exact a3,rfl⟩
theorem q6C {x y w:Wd} (h:q45 x y w=true):q0Q (x.val-w.val)=true/\q0Q (y.val+w.val)=true:=by
 unfold q45 at h;rwa [xAc]at h
theorem q7M {st:LSt} (g:q5S st) (id:Int) (x:Wd) (s:Int):q5S (q4y st id x s).2:=by
 unfold q4y;rcases LSt.q1W g.w id with ⟨e,_⟩|⟨a,p,e,ga,gp,hid,hka,hpn,hkp,ma,mp⟩
 ·rw[e];exact g
 ·rw[e];simp only[ne_eq,xAq,xAh];split
  ·exact g
  split
  ·rename_i h1 h2;obtain⟨f1,f2⟩:=q6C h2;have hf:q3n p x s=0:=by simpa using h1
   have hx:=(q6D hf).2;have ga2:=(LSt.q2h ga).2;have gp2:=(LSt.z6Y gp).2;have h0:=(g.a1 a ma).2;have g1:=g.toLGood.q2U ga2 (Wd.q4D f2) (by rw[Wd.q1N];omega);have g2:=g1.a4E (i:=st.iP p.name) (p:=p) gp2 (Wd.q4D f1);refine {toLGood:=g2,su:=?_};refine g.a6K gp2 (az:=st.q0s.set (st.iA a.id) {a with bal:=Wd.of (a.bal.val+x.val)}) (qs:=st.pairs) ?_ fun k hk=>?_
   ·rw[z03 ga2,Wd.q1N,Wd.q1N,xAb hpn.symm];omega
   ·rw[z03 ga2,xAa (fun e=>hk (by rw[<-e,hpn]))];omega
  ·exact g
theorem z2I {st:LSt} (g:q5S st) (id:Int) (x:Wd) (s:Int):q5S (q3R st id x s).2:=by
 unfold q3R;rcases LSt.q1W g.w id with ⟨e,_⟩|⟨a,p,e,ga,gp,hid,hka,hpn,hkp,ma,mp⟩
 ·rw[e];exact g
 ·rw[e];simp only[ne_eq,xAq,xAh];split
  ·exact g
  split
  ·exact g
  split
  ·rename_i h1 h3 h2;obtain⟨f1,f2⟩:=q6C h2;have ga2:=(LSt.q2h ga).2;have gp2:=(LSt.z6Y gp).2;have g1:=g.toLGood.q2U ga2 (Wd.q4D f1) (by rw[Wd.q1N];omega);have g2:=g1.a4E (i:=st.iP p.name) (p:=p) gp2 (Wd.q4D f2);refine {toLGood:=g2,su:=?_};refine g.a6K gp2 (az:=st.q0s.set (st.iA a.id) {a with bal:=Wd.of (a.bal.val-x.val)}) (qs:=st.pairs) ?_ fun k hk=>?_
   ·rw[z03 ga2,Wd.q1N,Wd.q1N,xAb hpn.symm];omega
   ·rw[z03 ga2,xAa (fun e=>hk (by rw[<-e,hpn]))];omega
  ·exact g
theorem LGood.b46 {st:LSt} (g:LGood st) {a a':q1v} {i j:Int} (ga:st.z0F i=some a) (ga':st.z0F j=some a') (hij:i≠j) {n n':Wd} (hn:n.ok) (hn':n'.ok) (h0:0<=n.val) (h0':0<=n'.val) :
  LGood ((st.q2U {a with bal:=n}).q2U {a' with bal:=n'})/\(∀k,sA k ((st.q2U {a with bal:=n}).q2U {a' with bal:=n'}).q0s=sA k st.q0s+(if a.q1U=k then n.val-a.bal.val else 0)+(if a'.q1U=k then n'.val-a'.bal.val else 0)):=by
 obtain⟨e1,g1⟩:=LSt.q2h ga;obtain⟨e2,g2⟩:=LSt.q2h ga';have ne:st.iA a.id≠st.iA a'.id:=fun e=>by
  rw[e,g2]at g1;cases g1;exact hij (e1.symm.trans e2)
 have hka:q1u q0F a.id (st.q0s.map (·.id))=true:=by
  cases hk:q1u q0F a.id (st.q0s.map (·.id)) with
  |true=>rfl
  |false=>rw[<-e1,LSt.q49 hk]at ga;cases ga
 have hi2:(st.q2U {a with bal:=n}).iA a'.id=st.iA a'.id:=by
  unfold LSt.iA;rw[LSt.q6Q (st:=st) (a:={a with bal:=n}) hka]
 have q2:(st.q2U {a with bal:=n}).q0s[st.iA a'.id]? = some a':=by
  show (st.q0s.set (st.iA a.id) _)[st.iA a'.id]? = _;rw[xFo ne];exact g2
 have l1:LGood (st.q2U {a with bal:=n}):=g.q2U g1 hn h0
 have l2:=l1.q2U q2 hn' h0';refine⟨?_,fun k=>?_⟩
 ·show LGood {(st.q2U {a with bal:=n}) with q0s:=(st.q2U {a with bal:=n}).q0s.set ((st.q2U {a with bal:=n}).iA a'.id) {a' with bal:=n'}}
  rw[hi2];exact l2
 ·show sA k ((st.q2U {a with bal:=n}).q0s.set ((st.q2U {a with bal:=n}).iA a'.id) {a' with bal:=n'})=_
  rw[hi2,z03 q2];show sA k (st.q0s.set (st.iA a.id) {a with bal:=n})+_=_
  rw[z03 g1]
theorem z2D {st:LSt} (g:q5S st) (i j:Int) (x:Wd) (s:Int):q5S (q3P st i j x s).2:=by
 unfold q3P;rcases LSt.q1W g.w i with ⟨e,_⟩|⟨a,p,e,ga,gp,hid,hka,hpn,hkp,ma,mp⟩
 ·rw[e];exact g
 ·rcases LSt.q1W g.w j with ⟨e',_⟩|⟨a',p',e',ga',gp',hid',hka',hpn',hkp',ma',mp'⟩
  ·rw[e,e'];exact g
  ·rw[e,e'];simp only[ne_eq,xAq,xAh];split
   ·exact g
   split
   ·exact g
   split
   ·exact g
   split
   ·exact g
   split
   ·rename_i h1 h2 h3 h4 h5;obtain⟨f1,f2⟩:=q6C h5;have hf:q3n p x s=0:=by simpa using h3
    have hx:=(q6D hf).2;have hnn:p.name=p'.name:=by simpa using h2
    obtain⟨l1,l2⟩:=g.toLGood.b46 ga ga' h1 (Wd.q4D f1) (Wd.q4D f2) (by rw[Wd.q1N];omega) (by rw[Wd.q1N];have:=(g.a1 a' ma').2;omega);refine {toLGood:=l1,su:=g.q9Q fun k=>?_}
    rw[l2,Wd.q1N,Wd.q1N,<-hpn,<-hpn',hnn];show _+sQ k st.pairs=_;split<;>omega
   ·exact g
theorem a6I {l:List q0D} {i:Nat} {q:q0D} (h:l[i]? = some q) {q':q0D} (hx:q'.x=q.x) (hy:q'.y=q.y) (n:List UInt8) :
  sQ n (l.set i q')=sQ n l+(if q.x=n then q'.inx.val-q.inx.val else 0)+(if q.y=n then q'.q2I.val-q.q2I.val else 0):=by
 unfold sQ;rw[z2B _ _ h];simp only[hx,hy];split<;>split<;>omega
theorem q64 {w:Wd} {s:Int} (h:q63 w s=0):q5i w s=true:=by
 unfold q63 at h;unfold q5i;split at h
 ·rename_i h1;split at h
  ·exact dt ⟨h1,by assumption⟩
  ·omega
 ·omega
theorem j9S {st:LSt} (g:q5S st) (x y:List UInt8) {r:Wd} (hr:r.ok) (s:Int):q5S (z7n st x y r s).2:=by
 unfold z7n;split
 ·exact g
 split
 ·exact g
 split
 ·exact g
 rename_i h1 h2 h3;have hrr:=q64 (by simpa using h3);have hxs:(st.q4r x).isSome=true:=by cases e:(st.q4r x).isSome with|true=>rfl|false=>exact absurd (.inl e) h1
 have hys:(st.q4r y).isSome=true:=by cases e:(st.q4r y).isSome with|true=>rfl|false=>exact absurd (.inr e) h1
 cases hq:st.j6N (x++y) with
 |none=>
  obtain⟨l1,l2⟩:=g.toLGood.q9G (q:={z2L with x:=x,y:=y,rate:=r,q0V:=s}) ⟨⟨hr,hrr,by simp[z2L,Wd.ok],by simp[z2L,Wd.ok],hxs,hys⟩,h2,by simp[z2L,Wd.val],by simp[z2L,Wd.val]⟩
  have hk:q1u q0g (x++y) (st.pairs.map (·.key))=false:=by
   cases hk:q1u q0g (x++y) (st.pairs.map (·.key)) with
   |false=>rfl
   |true=>obtain⟨q,q1,_⟩:=LSt.q6O hk;rw[hq]at q1;cases q1
  refine {toLGood:=l1,su:=?_};rw[show (LSt.q9G st {(none.getD z2L) with x:=x,y:=y,rate:=r,q0V:=s}).pairs=_ from l2 hk]
  refine g.q9Q fun k=>?_
  show sA k st.q0s+_=_;unfold sQ;rw[a0x];simp only[z2L,Option.getD_none,show (Wd.mk 0 0).val=0 from by simp[Wd.val],ite_self];omega
 |some q=>
  obtain⟨e1,e2,e3⟩:=LSt.z6Z hq;have mq:=xCa e2;have l3:=g.w.okq q mq;have l4:=g.q1 q mq;obtain⟨l1,_⟩:=g.toLGood.q9G (q:={q with x:=x,y:=y,rate:=r,q0V:=s}) ⟨⟨hr,hrr,l3.2.2.1,l3.2.2.2.1,hxs,hys⟩,h2,l4.2⟩
  refine {toLGood:=l1,su:=?_};have hlen:∀k,(st.q4r k).isSome=true->k.length=3:=fun k hk=>by
   have:=(q2d g.w.sp).1 hk;obtain⟨p,hp,rfl⟩:=xBr.1 this;have:=(g.w.okp p hp).2.2.2;unfold q4R at this;simp only[xAc,xAj]at this;exact this.2
  have hxy:q.x=x/\q.y=y:=List.append_inj e1 (by rw[hlen _ l3.2.2.2.2.1,hlen _ hxs]);refine g.q9Q fun k=>?_
  show sA k st.q0s+sQ k (if q1u q0g (x++y) (st.pairs.map (·.key))=true then _ else _)=_
  rw[xAb e3];show sA k st.q0s+sQ k (st.pairs.set (st.iQ (x++y)) {q with x:=x,y:=y,rate:=r,q0V:=s})=_
  rw[<-e1,a6I e2 (q':={q with x:=x,y:=y,rate:=r,q0V:=s}) hxy.1.symm hxy.2.symm]
  simp only[Int.sub_self,ite_self];omega
end
section
def q2H (n:Nat) (m:Mem) (s:AV) (l:List (List AV)):Prop:=
 (∀x∈l,x.length=n/\x.all AV.one=true)/\
 ((l=[]/\∃sz cap ex,s=.sl none sz 0 cap ex)\/
  ∃b o sz cap ex ro cs,s=.sl (some ⟨b,o⟩) sz l.length cap ex/\(n=sz\/ex=true)/\m.get b=some (.cells cs ro)/\o+l.length*n<=cs.length/\(cs.drop o).take (l.length*n)=l.flatten)
section
variable {n:Nat} {m m':Mem} {s:AV} {l:List (List AV)}
theorem q08.v {rb:Option Nat} (h:q08 n m s l rb):q2H n m s l:=by
 have hl:=q1F h.lens;rcases h with ⟨h0,(⟨rfl,_,sz,ex,rfl⟩|⟨b,rfl,_,rfl,h3⟩)|⟨b,_,rfl,h3⟩⟩
 ·exact⟨h0,.inl ⟨rfl,_,_,_,rfl⟩⟩
 ·exact⟨h0,.inr ⟨b,0,_,_,_,_,_,rfl,.inl rfl,h3,by simp,by simp⟩⟩
 ·exact⟨h0,.inr ⟨b,0,_,_,_,_,_,rfl,.inl rfl,h3,by omega,by rw[xAp,xtl (by omega)]⟩⟩
theorem q2H.lens (h:q2H n m s l):∀x∈l,x.length=n:=fun x hx=>(h.1 x hx).1
theorem q2H.q3G {S:List Nat} (h:q2H n m s l) (hf:Fr m m' S) (hS:∀c,c∈S->m.next<=c):q2H n m' s l:=by
 rcases h with ⟨h0,h|⟨b,o,sz,cap,ex,ro,cs,h1,h2,h3,h4⟩⟩
 ·exact⟨h0,.inl h⟩
 ·exact⟨h0,.inr ⟨b,o,sz,cap,ex,ro,cs,h1,h2,hf.get h3 (fun hc=>by have:=hS b hc;have:=Mem.q0u h3;omega),h4⟩⟩
theorem q2H.q0m (h:q2H n m s l) (hf:Fr m m' []):q2H n m' s l:=h.q3G hf (by simp)
theorem q2H.len (h:q2H n m s l):∃a sz cap ex,s=.sl a sz l.length cap ex:=by
 rcases h with ⟨_,⟨rfl,sz,cap,ex,rfl⟩|⟨b,o,sz,cap,ex,_,_,rfl,_⟩⟩
 ·exact⟨_,_,_,_,rfl⟩
 ·exact⟨_,_,_,_,rfl⟩
theorem q2H.one (h:q2H n m s l):s.one=true:=by
 obtain⟨a,sz,cap,ex,rfl⟩:=h.len;rfl
theorem q2H.ones (h:q2H n m s l):l.flatten.all AV.one=true:=z3S fun x hx=>(h.1 x hx).2
theorem q2H.fld (h:q2H n m s l) {i:Nat} (hi:i<l.length) :
  ∃b o sz cap ex,s=.sl (some ⟨b,o⟩) sz l.length cap ex/\(n=sz\/ex=true)/\b<m.next/\ixA n l.length ⟨b,o⟩ (i:Int)=some (.ptr (some ⟨b,o+i*n⟩))/\(∀k,k<n->ld1 m (.ptr (some ⟨b,o+i*n+k⟩))=l[i][k]?)/\
   (∀k j,k+j<=n->ldN m (.ptr (some ⟨b,o+i*n+k⟩)) j=some (.agg ((l[i].drop k).take j)))/\ldN m (.ptr (some ⟨b,o+i*n⟩)) n=some (.agg l[i]):=by
 have hl:=h.lens;rcases h with ⟨h0,⟨rfl,_⟩|⟨b,o,sz,cap,ex,ro,cs,rfl,h2,h3,h4,h5⟩⟩
 ·simp at hi
 ·have hli:l[i].length=n:=hl _ (xAf hi);have hle:(i+1)*n<=l.length*n:=xAo n hi;rw[xCi]at hle;have hd:l.flatten.drop (i*n)=l[i]++(l.drop (i+1)).flatten:=by
   rw[q3a i hl,xAk hi,xCb]
  have key:∀k,k<n->cs[o+i*n+k]? = l[i][k]?:=fun k hk=>by
   have e1:((cs.drop o).take (l.length*n))[i*n+k]? = cs[o+i*n+k]?:=by
    rw[xBw,xAb (by omega),xBu,xEq]
   rw[<-e1,h5,<-xBu,hd,xBj (by omega)]
  have seg:∀k j,k+j<=n->(cs.drop (o+i*n+k)).take j=(l[i].drop k).take j:=fun k j hkj=>by
   apply xCv;intro t;rw[xBw,xBw];split
   ·rw[xBu,xBu,xEq,key _ (by omega)]
   ·rfl
  refine⟨b,o,sz,cap,ex,rfl,h2,Mem.q0u h3,by simp[ixA,hi],fun k hk=>?_,fun k j hkj=>?_,?_⟩
  ·rw[q0e h3,key k hk]
  ·rw[q1b h3 (by omega),seg k j hkj]
  ·have:=seg 0 n (by omega);rw[xna,xAp,xtl (l:=l[i]) (by omega)]at this;rw[q1b h3 (by omega),this]
theorem q2H.src (h:q2H n m s l):q5Q n s m=some (l.length,l.flatten):=by
 have hfl:=q1F h.lens;rcases h with ⟨h0,⟨rfl,sz,cap,ex,rfl⟩|⟨b,o,sz,cap,ex,ro,cs,rfl,h2,h3,h4,h5⟩⟩
 ·rfl
 ·simp only[q5Q,q0C,h3];rw[xAb (h2.imp Eq.symm id),xAb h4,h5];rfl
end
def q3S (ok:Nat->Bool):Nat->Nat->Bool
 | 0,_=>true
 |d+1,i=>ok i&&q3S ok d (i+1)
theorem q2t (ok:Nat->Bool):∀(d i:Nat),q3S ok d i=true↔∀j,i<=j->j<i+d->ok j=true
 | 0,i=>by simp[q3S];omega
 |d+1,i=>by
  rw[q3S,xAc,q2t ok d (i+1)];constructor
  ·rintro⟨h1,h2⟩ j h3 h4
   by_cases e:j=i
   ·subst e;exact h1
   ·exact h2 j (by omega) (by omega)
  ·intro h;exact⟨h i (xnr _) (by omega),fun j h3 h4=>h j (by omega) (by omega)⟩
theorem Res.eq' {m M:Mem} {v w:AV} (h:Fr m M []) (e:v=w):Res m (some (v,M)) w:=Res.eq h e
theorem Res.step {m m1:Mem} {r:R} {v:AV} (h:Fr m m1 []) (h':Res m1 r v):Res m r v:=by
 obtain⟨m',e,f⟩:=h';exact⟨m',e,h.step0 f⟩
structure BkV (m:Mem) (sp sq sa:AV) (st:LSt):Prop where
 p:q2H 4 m sp (st.q0d.map (·.cells))
 q:q2H 9 m sq (st.pairs.map (·.cells))
 a:q2H 4 m sa (st.q0s.map (·.cells))
theorem BkV.q0m {m m':Mem} {sp sq sa:AV} {st:LSt} (h:BkV m sp sq sa st) (hf:Fr m m' []):BkV m' sp sq sa st:=⟨h.p.q0m hf,h.q.q0m hf,h.a.q0m hf⟩
theorem BkV.q3G {m m':Mem} {sp sq sa:AV} {st:LSt} {S:List Nat} (h:BkV m sp sq sa st) (hf:Fr m m' S) (hS:∀c,c∈S->m.next<=c):BkV m' sp sq sa st:=⟨h.p.q3G hf hS,h.q.q3G hf hS,h.a.q3G hf hS⟩
theorem BkV.one {m:Mem} {sp sq sa:AV} {st:LSt} (h:BkV m sp sq sa st) (n:Int):[sp,sq,sa,.int .u64 n].all AV.one=true:=by
 rw[xBq,xBq,xBq,h.p.one,h.q.one,h.a.one];rfl
theorem q0I.v {m:Mem} {b:Nat} {st:LSt} {F:List Nat} (h:q0I m b st F):∃sp sq sa,m.get b=some (.cells [sp,sq,sa,.int .u64 st.latest,.int .i64 st.most] false)/\BkV m sp sq sa st:=by
 obtain⟨sp,sq,sa,rp,rq,ra,h1,h2,h3,h4,_⟩:=h.ex;exact⟨sp,sq,sa,h1,h2.v,h3.v,h4.v⟩
theorem on1:(∀(k:IntKind) (n:Int),(AV.int k n).one=true)/\(∀s:List UInt8,(AV.str s).one=true)/\(∀b:Bool,(AV.bool b).one=true)/\(∀a:Option AA,(AV.ptr a).one=true)/\(∀(a:Option AA) (s n c:Nat) (e:Bool),(AV.sl a s n c e).one=true):=⟨fun _ _=>rfl,fun _=>rfl,fun _=>rfl,fun _=>rfl,fun _ _ _ _ _=>rfl⟩
end
section
section
variable {P:Program} {t e:TypeId} {n:Nat} {m:Mem} {s:AV} {l:List (List AV)}
theorem q2H.q2e (ht:P.underlying t=some (.slice e)) (h:q2H n m s l):q2e P t s=some (.int .i64 (l.length:Int)):=by
 obtain⟨a,sz,cap,ex,rfl⟩:=h.len;exact z0M ht ..
theorem q2H.ixT (ht:P.underlying t=some (.slice e)) (hs:szT P e=some n) (h:q2H n m s l) {i:Nat} (hi:i<l.length) :
  ∃b o,b<m.next/\(∀k:IntKind,q0A P t s (.int k (i:Int))=some (.ptr (some ⟨b,o⟩)))/\(∀k,k<n->ld1 m (.ptr (some ⟨b,o+k⟩))=l[i][k]?)/\(∀k j,k+j<=n->ldN m (.ptr (some ⟨b,o+k⟩)) j=some (.agg ((l[i].drop k).take j)))/\ldN m (.ptr (some ⟨b,o⟩)) n=some (.agg l[i]):=by
 obtain⟨b,o,sz,cap,ex,e1,e2,e3,e4,e5,e6,e7⟩:=h.fld hi;refine⟨b,o+i*n,e3,fun k=>?_,e5,e6,e7⟩
 subst e1;unfold q0A;simp only[ht,hs,xAr];rw[xAb e2];exact e4
theorem q08.ixT (ht:P.underlying t=some (.slice e)) (hs:szT P e=some n) {rb:Option Nat} (h:q08 n m s l rb) {i:Nat} (hi:i<l.length) :
  ∃b,rb=some b/\∀k:IntKind,q0A P t s (.int k (i:Int))=some (.ptr (some ⟨b,i*n⟩)):=by
 obtain⟨b,e1,e2,e3,e4,_⟩:=h.at hi;refine⟨b,e1,fun k=>?_⟩
 subst e2;unfold q0A;simp only[ht,hs,xAr,xBv,xAd];exact e4
end
theorem q08.reads {P:Program} {t e:TypeId} {n:Nat} {m:Mem} {s:AV} {α:Type} {f:α->List AV} {l:List α} {rb:Option Nat} (ht:P.underlying t=some (.slice e)) (hs:szT P e=some n) (h:q08 n m s (l.map f) rb) {i:Nat} {x:α} (hx:l[i]? = some x) :
  ∃b,rb=some b/\b<m.next/\(∀k:IntKind,q0A P t s (.int k (i:Int))=some (.ptr (some ⟨b,i*n⟩)))/\(∀M,Fr m M []->∀o,o<n->ld1 M (.ptr (some ⟨b,i*n+o⟩))=(f x)[o]?)/\(∀M,Fr m M []->∀o k,o+k<=n->ldN M (.ptr (some ⟨b,i*n+o⟩)) k=some (.agg (((f x).drop o).take k))):=by
 obtain⟨hi,rfl⟩:=xgi.1 hx;obtain⟨b,e1,e2⟩:=h.ixT ht hs (i:=i) (by rw[xlm];exact hi);have key:∀M,Fr m M []->(∀o,o<n->ld1 M (.ptr (some ⟨b,i*n+o⟩))=(f l[i])[o]?)/\(∀o k,o+k<=n->ldN M (.ptr (some ⟨b,i*n+o⟩)) k=some (.agg (((f l[i]).drop o).take k))):=fun M hM=>by
  obtain⟨b',g1,_,_,g4,g5⟩:=(h.frame hM (by simp)).fld (i:=i) (by rw[xlm];exact hi);rw[e1]at g1;cases g1;rw[xgm]at g4 g5;exact⟨g4,g5⟩
 exact⟨b,e1,by subst e1;exact h.lt,e2,fun M hM=>(key M hM).1,fun M hM=>(key M hM).2⟩
def upTo (s:AV) (n k:Nat):AV:=match s with | .sl (some a) _ _ cap ex=>.sl (some a) n k cap ex | .sl none _ _ _ ex=>.sl none n 0 0 ex | _=>.sl none n 0 0 true
def q99 (s:AV) (n k:Nat):AV:=match s with | .sl (some a) _ len cap ex=>.sl (some ⟨a.b,a.o+k*n⟩) n (len-k) (cap-k) ex | .sl none _ _ _ ex=>.sl none n 0 0 ex | _=>.sl none n 0 0 true
section
variable {P:Program} {t e:TypeId} {n:Nat} {m:Mem} {s:AV} {l:List (List AV)} {rb:Option Nat}
theorem q08.upTo (ht:P.underlying t=some (.slice e)) (hs:szT P e=some n) (h:q08 n m s l rb) {k:Nat} (hk:k<=l.length):q0n P t s none (some (.int .i64 (k:Int)))=some (upTo s n k)/\q2H n m (upTo s n k) (l.take k):=by
 have hl:=q1F h.lens;have h0:∀x∈l.take k,x.length=n/\x.all AV.one=true:=fun x hx=>h.1 x (List.mem_of_mem_take hx)
 rcases h.2 with (⟨rfl,rfl,sz,ex,rfl⟩|⟨b,rfl,rfl,rfl,h3⟩)|⟨b,rfl,rfl,h3⟩
 ·have:k=0:=by simpa using hk
  subst this;refine⟨?_,h0,.inl ⟨by simp,_,_,_,rfl⟩⟩;simp[q0n,ht,hs,hiA,loA,Abs.upTo]
 ·have:k=0:=by simpa using hk
  subst this;refine⟨?_,h0,.inr ⟨b,0,n,0,true,false,[],by simp[Abs.upTo],.inl rfl,h3,by simp,by simp⟩⟩;simp[q0n,ht,hs,hiA,loA,Abs.upTo]
 ·refine⟨?_,h0,.inr ⟨b,0,_,_,_,_,_,by simp only[Abs.upTo,xlt0];rw[xCr hk],.inl rfl,h3,?_,?_⟩⟩
  ·have hk':(k:Int)<=(l.length:Int):=by omega
   simp[q0n,ht,hs,hiA,loA,Abs.upTo,hk]
  ·rw[hl,xlt0,xCr hk,xnz];exact xAo n hk
  ·rw[xlt0,xCr hk,xAp,q81 k h.lens]
theorem q08.q99 (ht:P.underlying t=some (.slice e)) (hs:szT P e=some n) (h:q08 n m s l rb) {k:Nat} (hk:k<=l.length):q0n P t s (some (.int .i64 (k:Int))) none=some (q99 s n k)/\q2H n m (q99 s n k) (l.drop k):=by
 have hl:=q1F h.lens;have h0:∀x∈l.drop k,x.length=n/\x.all AV.one=true:=fun x hx=>h.1 x (xEj hx)
 rcases h.2 with (⟨rfl,rfl,sz,ex,rfl⟩|⟨b,rfl,rfl,rfl,h3⟩)|⟨b,rfl,rfl,h3⟩
 ·have:k=0:=by simpa using hk
  subst this;refine⟨?_,h0,.inl ⟨by simp,_,_,_,rfl⟩⟩;simp[q0n,ht,hs,hiA,loA,Abs.q99]
 ·have:k=0:=by simpa using hk
  subst this;refine⟨?_,h0,.inr ⟨b,0,n,0,true,false,[],by simp[Abs.q99],.inl rfl,h3,by simp,by simp⟩⟩;simp[q0n,ht,hs,hiA,loA,Abs.q99]
 ·have e1:k*n+(l.length-k)*n=l.length*n:=by rw[<-xCs];congr 1;omega
  refine⟨?_,h0,.inr ⟨b,k*n,n,l.length-k,false,false,l.flatten,?_,.inl rfl,h3,?_,?_⟩⟩
  ·simp[q0n,ht,hs,hiA,loA,Abs.q99,hk]
  ·simp[Abs.q99]
  ·rw[hl,xld0];omega
  ·rw[xld0,q3a k h.lens];exact xtl (by rw[q1F (fun x hx=>(h0 x hx).1),xld0];omega)
end
theorem append_nil {n w:Nat} {m:Mem} {x:AV} {l:List (List AV)} (h:q2H n m x l) (hw:l.length*w<=q0j) :
  ∃s' m' r,q0H n w (.sl none 0 0 0 true) x m=some (s',m')/\q08 n m' s' l r/\Fr m m' []/\(∀c,r=some c->m.next<=c):=by
 unfold q0H;rw[h.src];simp only[h.ones,xAq,xAh];by_cases h0:l.length=0
 ·rw[xAb h0];have:l=[]:=xBc.1 h0;subst this;exact⟨_,_,none,rfl,q08.nil _ _ _ _,Fr.refl _,nofun⟩
 ·rw[xAa h0,xAb hw];exact⟨_,_,some m.next,rfl,⟨h.1,.inr ⟨m.next,rfl,rfl,by simp[Mem.q0J]⟩⟩,Fr.alloc _ _,fun c hc=>by cases hc;exact xnr _⟩
theorem q3B {n w:Nat} {m:Mem} {s x:AV} {l k:List (List AV)} {b:Nat} (h:q08 n m s l (some b)) (hx:q2H n m x k) (hw:(l.length+k.length)*w<=q0j) :
  ∃s' m' r,q0H n w s x m=some (s',m')/\q08 n m' s' (l++k) (some r)/\Fr m m' [b]/\(r=b\/m.next<=r):=by
 have hall:∀y∈l++k,y.length=n/\y.all AV.one=true:=by
  intro y hy;rw[xma]at hy;exact hy.elim (h.1 y) (hx.1 y)
 have hfl:=q1F h.lens;have hfk:=q1F hx.lens;rcases h.2 with (⟨_,h0,_⟩|⟨b',rfl,h1,rfl,h3⟩)|⟨b',h1,rfl,h3⟩
 ·cases h0
 ·cases h1;unfold q0H;rw[hx.src];simp only[hx.ones,xAq,xAh,xBv,xAd];by_cases h0:k.length=0
  ·have:k=[]:=xBc.1 h0;subst this;rw[xAb (by simp)];have hst:q1l m ⟨b,0+0*n⟩ ([]:List (List AV)).flatten=some (m.put b (some (.cells [] false))):=by
    simp[q1l,h3]
   rw[hst];exact⟨_,_,b,rfl,⟨hall,.inl (.inr ⟨b,by simp,rfl,rfl,q0x h3⟩)⟩,Fr.put _ _ _,.inl rfl⟩
  ·have hld:q0C m ⟨b,0⟩ (0*n)=some []:=by simp[q0C,h3]
   rw[xAa (by omega),xAb (by simpa using hw),hld];simp only[xAd];exact⟨_,_,m.next,rfl,⟨hall,.inr ⟨m.next,rfl,by simp,by simp[Mem.q0J]⟩⟩,(Fr.alloc _ _).mono (by simp),.inr (xnr _)⟩
 cases h1;unfold q0H;rw[hx.src];simp only[hx.ones,xAq,xAh,xBv,xAd];by_cases h0:k.length=0
 ·have:k=[]:=xBc.1 h0;subst this;rw[xAb (by simp)];have hst:q1l m ⟨b,0+l.length*n⟩ ([]:List (List AV)).flatten=some (m.put b (some (.cells l.flatten false))):=by
   simp only[q1l,h3];rw[xAb (by simp[hfl]),xnz];simp only[List.flatten_nil,xAv,xna,xBe,xEc]
  rw[hst];refine⟨_,_,b,rfl,⟨hall,.inr ⟨b,rfl,by simp,?_⟩⟩,Fr.put _ _ _,.inl rfl⟩;rw[xBe];exact q0x h3
 ·rw[xAa (by omega),xAb hw];have hld:q0C m ⟨b,0⟩ (l.length*n)=some l.flatten:=by
   simp only[q0C,h3];rw[xAb (by omega),xAp,xtl (by omega)]
  rw[hld];simp only[xbq,xAh,h3];refine⟨_,_,m.next,rfl,⟨hall,.inr ⟨m.next,rfl,by simp,?_⟩⟩,((Fr.put m b none).trans (Fr.alloc _ _) (by simp) (by simp)),.inr (xnr _)⟩
  simp[Mem.q0J,xDs]
theorem z9H {n w:Nat} (hn:0<n) {m:Mem} {s:AV} {l:List (List AV)} {rb:Option Nat} (h:q08 n m s l rb) {sA sB:AV} {k:Nat} (hk:k<=l.length) (hA:q2H n m sA (l.take k)) (hB:q2H n m sB (l.drop k))
  {new:List AV} (hl:new.length=n) (ho:new.all AV.one=true) (hw:(l.length+1)*w<=q0j) :
  ∃s1 m1 s2 m2 s3 m3 r,q0H n w (.sl none 0 0 0 true) sA m=some (s1,m1)/\q0H n w s1 (.sl (some ⟨m1.next,0⟩) n 1 1 true) (m1.lay (.cells new false))=some (s2,m2)/\q0H n w s2 sB m2=some (s3,m3)/\
   q08 n m3 s3 (q7P k new l) (some r)/\Fr m m1 []/\Fr m m2 []/\Fr m m3 []/\m.next<=r:=by
 obtain⟨s1,m1,r1,a1,a2,a3,a4⟩:=append_nil hA (xnt0 (xAo w (by rw[xlt0];omega)) hw);have f1:Fr m1 (m1.lay (.cells new false)) []:=(Fr.refl m1).lay _;have r1lt:∀c,r1=some c->c<m1.next:=fun c hc=>by subst hc;exact a2.lt
 obtain⟨s2,m2,b1,b2,b3,b4⟩:=q4s (w:=w) hn (a2.frame f1 (by simp)) (q0k m1 (.cells new false)) hl ho (by
  rw[xlt0,xCr hk];exact xnt0 (xAo w (by omega)) hw)
 have F2:Fr m m2 []:=(a3.step0 f1).step b4 (fun c hc=>by rw[xAw]at hc;exact .inr (a4 c hc))
 have n1:=a3.next
 obtain⟨s3,m3,r,c1,c2,c3,c4⟩:=q3B (w:=w) b2 (hB.q0m F2) (by
  rw[xla0,xlt0,xld0,xCr hk];simp only[xAi,xAv];exact xnt0 (xAo w (by omega)) hw)
 have e9:(m1.lay (.cells new false)).next=m1.next+1:=rfl
 refine⟨s1,m1,s2,m2,s3,m3,r,a1,b1,c1,?_,a3,F2,F2.step c3 (fun c hc=>by simp only[xms]at hc;exact .inr (by omega)),?_⟩
 ·rw[xAg]at c2;exact c2
 ·have:=F2.next
  rcases c4 with h|h<;>omega
end
section
def j1G (n:Nat) (m:Mem) (s:AV) (l:List (List AV)):Prop:=q2H n m s l\/(l=[]/\∃a sz cap ex,s=.sl a sz 0 cap ex)
section
variable {P:Program} {t e:TypeId} {n:Nat} {m m':Mem} {s:AV} {l:List (List AV)}
theorem j1G.q0m (h:j1G n m s l) (hf:Fr m m' []):j1G n m' s l:=h.imp (fun h=>h.q0m hf) id
theorem j1G.q2e (ht:P.underlying t=some (.slice e)) (h:j1G n m s l):q2e P t s=some (.int .i64 (l.length:Int)):=by
 rcases h with h|⟨rfl,a,sz,cap,ex,rfl⟩
 ·exact h.q2e ht
 ·exact z0M ht ..
theorem j1G.ixT (ht:P.underlying t=some (.slice e)) (hs:szT P e=some n) (h:j1G n m s l) {i:Nat} (hi:i<l.length) :
  ∃b o,b<m.next/\(∀k:IntKind,q0A P t s (.int k (i:Int))=some (.ptr (some ⟨b,o⟩)))/\(∀k,k<n->ld1 m (.ptr (some ⟨b,o+k⟩))=l[i][k]?)/\(∀k j,k+j<=n->ldN m (.ptr (some ⟨b,o+k⟩)) j=some (.agg ((l[i].drop k).take j)))/\ldN m (.ptr (some ⟨b,o⟩)) n=some (.agg l[i]):=by
 rcases h with h|⟨rfl,_⟩
 ·exact h.ixT ht hs hi
 ·simp at hi
end
theorem z7w {n:Nat} {cs:List AV} {o:Nat} (f:Nat->List AV):∀(len:Nat),(∀i,i<len->(cs.drop (o+i*n)).take n=f i)->(cs.drop o).take (len*n)=((List.range len).map f).flatten
 | 0,_=>by simp
 |len+1,h=>by
  rw[xCi,List.take_add,z7w f len (fun i hi=>h i (by omega)),xEx,h len (by omega),List.range_succ,xCx,xDs]
  simp
section
variable {P:Program} {W:World} {H:Type} {enc:TypeId×Value->H} {t e:TypeId} {v:Value} {base:Nat}
theorem a1w {α:Type} [Inhabited α] {f:α->List AV} {Q:α->Prop} {n:Nat} (hn0:0<n) {d:DataW H} {p:List MemPlace} (ht:P.underlying t=some (.slice e)) (hn:P.cellsOf e=n) (h:Value.okWide P W .any base t v) (hr:DataW.Trod enc P W 0 (fun _=>true) true t v d p)
  (hel:∀(m:Nat) (cs:List Value) (y:DataW H×List MemPlace),cs.length=n->DataW.trod enc P W 0 (fun _=>true) true m e cs=some y->∃a,cs.map (absP W)=f a/\Q a) (hf:∀a,(f a).length=n/\(f a).all AV.one=true) :
  ∃l:List α,j1G n (z1e W) (j0D W v) (l.map f)/\∀a∈l,Q a:=by
 rcases j3G ht h hr with ⟨ex,h⟩|⟨a,len,cap,cs,h1,h2,h3,m,h4⟩
 ·exact⟨[],.inl ⟨by simp,.inl ⟨rfl,_,_,_,h⟩⟩,by simp⟩
 ·rw[hn]at h4;have h5:∀i,i<len->∃x,((cs.drop (a.o+i*n)).take n).map (absP W)=f x/\Q x:=fun i hi=>by
   obtain⟨h6,y,h7⟩:=h4 i (by omega);exact hel m _ y h6 h7
  obtain⟨g,hg⟩:=Go.Deep.choose_lt h5;by_cases h0:len=0
  ·subst h0;exact⟨[],.inr ⟨rfl,some a,0,cap,true,h1⟩,by simp⟩
  refine⟨(List.range len).map g,.inl ⟨fun x hx=>?_,.inr ⟨a.b,a.o,0,cap,true,true,cs.map (absP W),?_,.inr rfl,h3,?_,?_⟩⟩,fun x hx=>?_⟩
  ·obtain⟨y,_,rfl⟩:=xBr.1 hx;exact hf y
  ·simpa using h1
  ·have h6:=(h4 (len-1) (by omega)).1;simp only[xlt0,xld0]at h6;simp only[xlm,xFl];have e:len*n=(len-1)*n+n:=by rw[<-xCi];congr 1;omega
   omega
  ·rw[xlm,xlm,xFl,List.map_map];have:=z7w (cs:=cs.map (absP W)) (o:=a.o) (n:=n) (fun i=>f (g i)) len fun i hi=>by
    rw[<-List.map_drop,<-List.map_take];exact(hg i hi).1
   exact this
  ·obtain⟨i,hi,rfl⟩:=xBr.1 hx;exact(hg i (xDe.1 hi)).2
end
end
section
section
variable {P:Program} {W:World} {H:Type} {enc:TypeId×Value->H} {t e:TypeId} {v:Value} {base:Nat}
theorem q9V:∀{l:List (DataW H)} {y:DataW H},y∈l->∀k,k∈y.weights P e->k∈DataW.weightsAll P e l
 |a::l,y,hy,k,hk=>by
  simp only[DataW.weightsAll,xma];rcases xmk0.1 hy with rfl|hy
  ·exact .inl hk
  ·exact .inr (q9V hy k hk)
theorem z2H (ht:P.underlying t=some (.slice e)) {l s:List (DataW H)} {y:DataW H} (hy:y∈l):∀k,k∈y.weights P e->k∈(DataW.slice l s).weights P t:=fun k hk=>by
 simp only[DataW.weights,ht,xmk0,xma];exact .inr (.inl (q9V hy k hk))
theorem trod_string {b:Nat} {sp:Nat->Bool} {held:Bool} {m:Nat} {V:Value} {x:DataW H×List MemPlace} (ht:P.underlying t=some .string)
  (h:DataW.trod enc P W b sp held m t [V]=some x):∃s:ByteArray,V=.string s/\s.data.toList.length∈x.1.weights P t:=by
 cases m with
 |zero=>simp[DataW.trod]at h
 |succ m=>
  simp only[DataW.trod,ht]at h;cases V<;>simp only at h<;>first|(cases h;done)|skip
  split at h
  ·cases h;exact⟨_,rfl,by simp[DataW.weights]⟩
  ·cases h
theorem q7X {b:Nat} {sp:Nat->Bool} {held:Bool} {m:Nat} {cs:List Value}:∀{l:List Field} {r:List (DataW H×List MemPlace)},(l.mapM fun f=>DataW.trod enc P W b sp held m f.type ((cs.drop f.offset).take (P.cellsOf f.type)))=some r->
  ∀f∈l,∃y,DataW.trod enc P W b sp held m f.type ((cs.drop f.offset).take (P.cellsOf f.type))=some y/\∀k,k∈y.1.weights P f.type->k∈DataW.weightsEach P (l.map (·.type)) (r.map (·.1))
 |a::l,r,h,f,hf=>by
  rw[List.mapM_cons]at h;obtain⟨y,h1,h2⟩:=be h;obtain⟨r',h3,h4⟩:=be h2;cases h4;simp only[xBf,DataW.weightsEach,xma];rcases xmk0.1 hf with rfl|hf
  ·exact⟨y,h1,fun k hk=>.inl hk⟩
  ·obtain⟨y',e1,e2⟩:=q7X h3 f hf;exact⟨y',e1,fun k hk=>.inr (e2 k hk)⟩
theorem z6d {fs:Array Field} {b:Nat} {sp:Nat->Bool} {held:Bool} {m:Nat} {cs:List Value} {x:DataW H×List MemPlace} (ht:P.underlying t=some (.struct fs))
  (h:DataW.trod enc P W b sp held m t cs=some x) :
  ∃m',cs.length=P.cellsOf t/\∀f∈fs.toList,∃y,DataW.trod enc P W b sp held m' f.type ((cs.drop f.offset).take (P.cellsOf f.type))=some y/\∀k,k∈y.1.weights P f.type->k∈x.1.weights P t:=by
 cases m with
 |zero=>simp[DataW.trod]at h
 |succ m=>
  simp only[DataW.trod,ht]at h;split at h
  ·rename_i h1;obtain⟨r,h2,rfl⟩:=xoe.1 h;refine⟨m,h1,fun f hf=>?_⟩
   obtain⟨y,e1,e2⟩:=q7X h2 f hf;exact⟨y,e1,fun k hk=>by simp only[DataW.weights,ht];exact e2 k hk⟩
  ·cases h
end
end
section
section
variable {P:Program} {W:World} {H:Type} {enc:TypeId×Value->H} {t e u:TypeId} {base B m:Nat} {fs:Array Field} {cs:List Value}
def Rd (enc:TypeId×Value->H) (P:Program) (W:World) (B m:Nat) (fs:Array Field) (cs:List Value):Prop:=
 ∀f∈fs.toList,∃y,DataW.trod enc P W 0 (fun _=>true) true m f.type ((cs.drop f.offset).take (P.cellsOf f.type))=some y/\∀k,k∈y.1.weights P f.type->k<=B
theorem Rd.of {x:DataW H×List MemPlace} (ht:P.underlying t=some (.struct fs)) (h:DataW.trod enc P W 0 (fun _=>true) true m t cs=some x) (hB:∀k,k∈x.1.weights P t->k<=B):∃m',cs.length=P.cellsOf t/\Rd enc P W B m' fs cs:=by
 obtain⟨m',h1,h2⟩:=z6d ht h;exact⟨m',h1,fun f hf=>let ⟨y,a,b⟩:=h2 f hf;⟨y,a,fun k hk=>hB k (b k hk)⟩⟩
theorem cell1 {o:Nat} (h:o<cs.length):(cs.drop o).take 1=[cs[o]]:=by rw[xAk h,xBk,xBp]
theorem Rd.int (h:Rd enc P W B m fs cs) {o:Nat} {k:IntKind} (hg:∃g∈fs.toList,g.offset=o/\P.underlying g.type=some (.int k)/\P.cellsOf g.type=1) (ho:o<cs.length):∃n,cs[o]? = some (.int k n)/\k.min<=n/\n<=k.max:=by
 obtain⟨g,g1,rfl,g3,g4⟩:=hg;obtain⟨y,hy,_⟩:=h g g1;rw[g4,cell1 ho]at hy;obtain⟨n,r1,r2,r3⟩:=trod_int g3 hy;exact⟨n,by rw[xgq ho,r1],r2,r3⟩
theorem Rd.str (h:Rd enc P W B m fs cs) {o:Nat} (hg:∃g∈fs.toList,g.offset=o/\P.underlying g.type=some .string/\P.cellsOf g.type=1) (ho:o<cs.length):∃s:ByteArray,cs[o]? = some (.string s)/\s.data.toList.length<=B:=by
 obtain⟨g,g1,rfl,g3,g4⟩:=hg;obtain⟨y,hy,hB⟩:=h g g1;rw[g4,cell1 ho]at hy;obtain⟨s,r1,r2⟩:=trod_string g3 hy;exact⟨s,by rw[xgq ho,r1],hB _ r2⟩
theorem Rd.sub (h:Rd enc P W B m fs cs) {o n:Nat} {gs:Array Field} (hg:∃g∈fs.toList,g.offset=o/\P.underlying g.type=some (.struct gs)/\P.cellsOf g.type=n):∃m',Rd enc P W B m' gs ((cs.drop o).take n):=by
 obtain⟨g,g1,rfl,g3,rfl⟩:=hg;obtain⟨y,hy,hB⟩:=h g g1;obtain⟨m',_,r⟩:=Rd.of g3 hy hB;exact⟨m',r⟩
theorem Rd.wide (h:Rd enc P W B m fs cs) {o:Nat} {gs:Array Field} (hg:∃g∈fs.toList,g.offset=o/\P.underlying g.type=some (.struct gs)/\P.cellsOf g.type=2)
  (h0:∃g∈gs.toList,g.offset=0/\P.underlying g.type=some (.int .i64)/\P.cellsOf g.type=1) (h1:∃g∈gs.toList,g.offset=1/\P.underlying g.type=some (.int .u64)/\P.cellsOf g.type=1) (ho:o+2<=cs.length) :
  ∃w:Wd,w.ok/\cs[o]? = some (.int .i64 w.hi)/\cs[o+1]? = some (.int .u64 w.lo):=by
 obtain⟨m',r⟩:=h.sub hg;have hl:((cs.drop o).take 2).length=2:=by simp;omega
 obtain⟨a,a1,a2,a3⟩:=r.int h0 (by omega);obtain⟨b,b1,b2,b3⟩:=r.int h1 (by omega);rw[xBw,xAb (by omega),xBu]at a1 b1;have e1:IntKind.i64.min=-9223372036854775808:=by decide
 have e2:IntKind.i64.max=9223372036854775807:=by decide
 have e3:IntKind.u64.min=0:=by decide
 have e4:IntKind.u64.max=18446744073709551615:=by decide
 exact⟨⟨a,b⟩,by unfold Wd.ok;simp only;omega,a1,b1⟩
end
end
end Go.Abs
