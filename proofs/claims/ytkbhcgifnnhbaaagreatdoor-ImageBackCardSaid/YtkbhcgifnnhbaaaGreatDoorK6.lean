/- Texts of one claim, put together. -/
import Derived.Test.YtkbhcgifnnhbaaaGreatDoorK5
import Derived.Laws.IdiomRangeMap
namespace Go.Abs
open Go
section
section
variable {P:Program} {call:q04} {all:List Oper} {chk anc:List (List Nat)} {τ:Trace}
variable {p0:Phi} {w0:World} {a0:Act} {S:Nat->Bool} {q:Nat} {p:Phi} {a:Act} {w:World} {i:Nat} {o:Oper}
variable {fb:Frame} {fk:List Item} {fs:List Frame} {rest:List Nat}
theorem q4T.step (hcall:q10 P call) (hτ:q26 P call all chk τ) (hr:rOk P all anc chk=true) (hG:GP P<=(τ.M 0).next) (h:q4T P all τ p0 w0 a0 S q p a w) (hi:Ready all S i o) :
  ∃q' p' a' w',q4T P all τ p0 w0 a0 (q5P S i) q' p' a' w'/\Steps P (lone (fb.atR a (.inRegion ⟨all⟩ (i::rest)::fk)) fs w) (lone (fb.atR a' (.inRegion ⟨all⟩ rest::fk)) fs w'):=by
 have hil:i<all.length:=(xgi.1 hi.op).1;have hio:(⟨all⟩:Array Oper)[i]? = some o:=by simpa using hi.op
 have hs:=hτ i o hil hi.op;have hwant:=h.wanted hτ hr hi;cases hW:τ.W i with
 |false=>
  have hne:¬Eff P all τ i:=by rintro⟨_,_,h2,_⟩;rw[hW]at h2;cases h2
  have hnn:∀cs,¬New P all τ i cs:=by rintro cs ⟨_,_,_,h2,_⟩;rw[hW]at h2;cases h2
  have hst:=stepR_op_skip (P:=P) (b:=fb) (a:=a) (k:=fk) (cs:=fs) (w:=w) (ops:=⟨all⟩) (i:=i) (rest:=rest) (by simp only[hio,xom,xEt,hwant,hW]);simp only[hio,xAr]at hst;exact⟨q,p,_,w,h.still hr hi hne hnn (by rw[(hs.off hW).1];simp only[VR];exact⟨[],rfl,by simp[VRs]⟩),.one hst⟩
 |true=>
  rw[hW]at hwant;have same:∀{c:Cls},cls P o.op=c->(c≠.e->¬Eff P all τ i)/\(c≠.a->∀cs,¬New P all τ i cs):=by
   intro c hc;refine⟨fun hne=>?_,fun hne cs=>?_⟩
   ·rintro⟨o',h1,_,h2⟩;rw[hi.op]at h1;cases h1;exact hne (hc.symm.trans h2)
   ·rintro⟨o',mk,h1,_,h2,_⟩;rw[hi.op]at h1;cases h1;exact hne (hc.symm.trans h2)
  cases hc:cls P o.op with
  |p=>
   have hp:=(hs.pure hW hc).1;rw[<-z5w (h.agree hτ hr hi)]at hp;obtain⟨cv,h1,h2⟩:=z0Y (w:=w) h.vrs h.rel.q23 hp;exact⟨q,p,_,w,h.still hr hi ((same hc).1 (by decide)) ((same hc).2 (by decide)) h2,.one (q3w hio hwant h1)⟩
  |r=>
   obtain⟨cv,h1,h2⟩:=z01 h.rel h.vrs hc (h.reads hcall hτ hr hi hW hc);exact⟨q,p,_,w,h.still hr hi ((same hc).1 (by decide)) ((same hc).2 (by decide)) h2,.one (q3w hio hwant h1)⟩
  |a=>
   obtain⟨cs,mk,h1,h2,h3⟩:=hs.alloc hW hc;have h1':=h1;rw[<-z1i (h.agree hτ hr hi)]at h1';obtain⟨cv,w',ob,n,h4,h5⟩:=z0p h.vrs h.rel.q23 hc h1' w;obtain⟨p',h6⟩:=h.laid hcall hτ hr hi ⟨o,mk,hi.op,hW,hc,h1⟩ h2 h5;exact⟨q,p',_,w',h6,.one (q3w hio hwant h4)⟩
  |e=>exact h.change hcall hτ hr hG hi ⟨o,hi.op,hW,hc⟩
def left (all:List Oper) (S:Nat->Bool):Nat:=((List.range all.length).filter fun i=>!S i).length
theorem z9M {i:Nat} (hi:i<all.length) (hS:S i=false):left all (q5P S i)<left all S:=by
 unfold left;have h1:((List.range all.length).filter fun j=>!q5P S i j)=((List.range all.length).filter fun j=>!S j).filter fun j=>decide (j≠i):=by
  rw[List.filter_filter];apply List.filter_congr;intro j _;by_cases e:j=i<;>simp[q5P,e]
 rw[h1];refine List.length_filter_lt_length_iff_exists.2 ⟨i,?_,by simp⟩;rw[List.mem_filter];exact⟨xDe.2 hi,by simp[hS]⟩
theorem z5F {listed:Array Bool} (hsz:listed.size=all.length) {i:Nat}:i∈Region.ready .any ⟨all⟩ listed↔∃o,Ready all (fun j=>listed.getD j false) i o:=by
 rw[mem_ready];constructor
 ·rintro⟨h1,o,h2,h3⟩
  have h2':all[i]? = some o:=by simpa using h2
  refine⟨o,h2',?_,fun e he=>?_⟩
  ·have hil:i<all.length:=(xgi.1 h2').1;simp only[xAx]at h1⊢;rw[xAl (by omega)]at h1⊢;simpa using h1
  ·unfold q3i at he;rw[List.mem_filterMap]at he;obtain⟨e',h4,h5⟩:=he;split at h5
   ·rename_i hb;cases h5;exact h3 e' (by simpa using h4) hb
   ·cases h5
 ·rintro⟨o,h1⟩
  have hil:i<all.length:=(xgi.1 h1.op).1;refine⟨?_,o,by simpa using h1.op,fun e he hb=>?_⟩
  ·have:=h1.not;simp only[xAx]at this⊢;rw[xAl (by omega)]at this⊢;simpa using this
  ·refine h1.a8I e.on ?_;unfold q3i;rw[List.mem_filterMap];exact⟨e,by simpa using he,by simp[hb]⟩
theorem j0b {listed:Array Bool} {i:Nat} (hi:i<listed.size):(fun j=>(listed.setIfInBounds i true).getD j false)=q5P (fun j=>listed.getD j false) i:=by
 funext j
 by_cases e:j=i
 ·subst e;simp[q5P,xAx,xBs hi]
 ·simp only[q5P,xAa e,xAx];rw[xBn (fun h=>e h.symm)]
theorem j1a (hr:rOk P all anc chk=true) {S:Nat->Bool} (h:∀i o,¬Ready all S i o):∀i,i<all.length->S i=true:=by
 intro i;induction i using Nat.strongRecOn with
 | _ i ih=>
  intro hi;cases hS:S i with
  |true=>rfl
  |false=>
   exfalso;have ho:all[i]? = some (all[i]):=xgq hi;refine h i _ ⟨ho,hS,fun e he=>?_⟩
   have h1:=(q8q hr ho).1;simp only[z8J,xAc]at h1;have:=xBd.1 h1.1.1 e he;have hlt:e<i:=by simpa using this
   exact ih e hlt (by omega)
theorem j0P (hcall:q10 P call) (hτ:q26 P call all chk τ) (hr:rOk P all anc chk=true) (hG:GP P<=(τ.M 0).next) :
  ∀(fuel t:Nat) (listed:Array Bool) (q:Nat) (p:Phi) (a:Act) (w:World),listed.size=all.length->left all (fun j=>listed.getD j false)<=fuel->q4T P all τ p0 w0 a0 (fun j=>listed.getD j false) q p a w->
   ∃S' q' p' a' w',(∀i,i<all.length->S' i=true)/\q4T P all τ p0 w0 a0 S' q' p' a' w'/\
    Steps P (lone (fb.atR a (.inRegion ⟨all⟩ (Region.linearise.go .any ⟨all⟩ fuel t listed [])::fk)) fs w) (lone (fb.atR a' (.inRegion ⟨all⟩ []::fk)) fs w'):=by
 intro fuel;induction fuel with
 |zero=>
  intro t listed q p a w hsz hl h;have hall:∀i,i<all.length->(fun j=>listed.getD j false) i=true:=by
   intro i hi;cases hS:listed.getD i false with
   |true=>exact hS
   |false=>
    have:=z9M (S:=fun j=>listed.getD j false) hi hS
    omega
  exact⟨_,q,p,a,w,hall,h,by simp only[Region.linearise.go];exact .refl _ _⟩
 |succ fuel ih=>
  intro t listed q p a w hsz hl h;simp only[Region.linearise.go]
  change ∃S' q' p' a' w',(∀i,i<all.length->S' i=true)/\q4T P all τ p0 w0 a0 S' q' p' a' w'/\
   Steps P (lone (fb.atR a (.inRegion ⟨all⟩ (match (Region.ready .any ⟨all⟩ listed)[t % (Region.ready .any ⟨all⟩ listed).length]? with
    |some i=>Region.linearise.go .any ⟨all⟩ fuel (t / (Region.ready .any ⟨all⟩ listed).length) (listed.setIfInBounds i true) [i]
    |none=>[].reverse)::fk)) fs w) (lone (fb.atR a' (.inRegion ⟨all⟩ []::fk)) fs w')
  cases hi:(Region.ready .any ⟨all⟩ listed)[t % (Region.ready .any ⟨all⟩ listed).length]? with
  |none=>
   have hnil:Region.ready .any ⟨all⟩ listed=[]:=by
    cases hr:Region.ready .any ⟨all⟩ listed with
    |nil=>rfl
    |cons x xs=>
     rw[hr]at hi;have hlt:t % (x::xs).length<(x::xs).length:=xEv _ (by simp);simp at hi;simp at hlt;omega
   refine⟨_,q,p,a,w,j1a hr fun i o ho=>?_,h,.refl _ _⟩
   have:=(z5F hsz (i:=i)).2 ⟨o,ho⟩;rw[hnil]at this;cases this
  |some i=>
   simp only[];rw[linearise_go_acc,List.reverse_singleton,List.singleton_append];obtain⟨o,ho⟩:=(z5F hsz).1 (xCa hi);have hil:i<all.length:=(xgi.1 ho.op).1;obtain⟨q1,p1,a1,w1,h1,hst⟩:=h.step (fb:=fb) (fk:=fk) (fs:=fs) (rest:=Region.linearise.go .any ⟨all⟩ fuel (t / (Region.ready .any ⟨all⟩ listed).length) (listed.setIfInBounds i true) []) hcall hτ hr hG ho;obtain⟨S',q2,p2,a2,w2,g1,g2,g3⟩:=ih (t / (Region.ready .any ⟨all⟩ listed).length) (listed.setIfInBounds i true) q1 p1 a1 w1 (by simp[hsz]) (by
    rw[j0b (by omega)];have:=z9M (S:=fun j=>listed.getD j false) hil ho.not
    omega) (by rw[j0b (by omega)];exact h1)
   exact⟨S',q2,p2,a2,w2,g1,g2,Steps.trans hst g3⟩
theorem z6L (hcall:q10 P call) (hr:rOk P all anc chk=true) (_hlen:chk.length=all.length) {id:Nat} (hmix:P.follows .mixedOrders=true) {t:List AV} {m:Mem} {K:List AV->Mem->R} {r:AV×Mem} (h:q2r call P all chk all [] 0 ⟨[],[]⟩ t m K=some r) :
  ∃t' m',K t' m'=some r/\m.next<=m'.next/\∀(p:Phi) (a:Act) (w:World),MR P p m w->GP P<=m.next->q7g p m.next m'.next->VRs p t a.tmps.toList->∀(b:Frame) (k:List Item) (cs:List Frame),
   ∃p' a' w',VRs p' t' a'.tmps.toList/\a'.defers=a.defers/\Sim P p m w p' m' w'/\Steps P (lone (b.atR a (.code (.region id ⟨all⟩ true)::k)) cs w) (lone (b.atR a' k) cs w'):=by
 obtain⟨τ,_,h1,h2,h3,h4⟩:=q57 (P:=P) (call:=call) (all:=all) (chk:=chk) all chk [] 0 ⟨[],[]⟩ t m ⟨fun _=>[],fun _=>m,fun _=>false,fun _=>.undef⟩ (fun j=>by simp) (fun j=>by simp)
  (fun k ok hk=>by omega) (fun k ok hk=>by omega) h
 have hτ:q26 P call all chk τ:=fun j o hj ho=>h4 j o (xBx _) (by omega) ho
 simp only[xnz]at h3;refine⟨_,_,h3,by rw[<-h2];exact q0R hcall hτ (xBx _) (xnr _),fun p a w hm hG hf ht fb fk fs=>?_⟩
 have hm':MR P p m {w with drawn:=w.drawn+1}:=hm.of_heap rfl
 obtain⟨q,q1,q2,q3,q4⟩:=z9Q (P:=P) (all:=all) (τ:=τ) 0 (xBx _);have hex:=ext hcall hτ q1 q2 q4;have hMq:=q0R hcall hτ q1 q2;have hMn:=q0R hcall hτ q2 (xnr _);have hfree:∀b,(τ.M 0).next<=b->b<(τ.M all.length).next->p b=none:=fun b x y=>hf b (by rw[<-h2];exact x) y
 have hnone:∀(j:Nat) cs,New P all τ j cs->p (τ.M j).next=none:=fun j cs hn=>
  hfree _ (q0R hcall hτ (xBx _) (by have:=hn.lt;omega)) (hn.lt_next hcall hτ hn.lt (xnr _))
 have hS0:(fun j=>(Array.replicate all.length false).getD j false)=fun _=>false:=by
  funext j;simp only[xAx,Array.getElem?_replicate];split<;>rfl
 have hT0:∀x,(q4e all τ.V (fun _=>false) (τ.T 0)).getD x .undef=(τ.T 0).getD x .undef:=by
  intro x;by_cases hx:x<(τ.T 0).length
  ·exact q5E all τ.V _ _ (fun k _ h=>by cases h) hx
  ·have e1:(q4e all τ.V (fun _=>false) (τ.T 0)).length<=x:=by unfold q4e;rw[q1D];omega
   rw[xAe,xAe,xAu e1,xAu (by omega)]
 have hlen0:a.tmps.size=(τ.T 0).length:=by rw[h1];have:=ht.length;simpa using this
 have hinit:q4T P all τ p {w with drawn:=w.drawn+1} a (fun j=>(Array.replicate all.length false).getD j false) q p a {w with drawn:=w.drawn+1}:=by
  rw[hS0];refine⟨q2,q3,fun k h5 h6=>absurd h6 (q4 k (xBx _) h5),fun _ _ _=>rfl,fun j oj _ h5=>(by cases h5),fun j h5=>(by cases h5),hlen0,fun x hx=>?_,rfl,?_,fun _ _ h=>h,fun _ _=>rfl,
   fun b ci h5 h6 h7=>?_,fun j cs h5 h6 _=>⟨hnone j cs h6,hex.2.1 j cs (xBx _) h5 h6⟩,fun j cs _ _ h5=>(by cases h5),fun b ci b2 ci2 h5 h6 h7 h8 h9=>?_,fun b h5 _=>hex.1 b h5,fun b h5 h6=>(by rw[hex.1 b h5];exact h6),fun _ _ _=>rfl,
   fun b ci h5 h6 h7=>?_,fun b ds ci h5 h6=>⟨(by rw[hex.1 b (Mem.q0u h5)];exact h5),rfl⟩,fun b ci h5=>hm'.bnd b ci h5,xnr _,rfl,rfl,rfl⟩
  ·rw[hT0,h1];have hx':x<t.length:=by rw[<-h1];exact hx
   have e:t[x]? = some (t.getD x .undef):=by rw[xAe,xgq hx'];rfl
   obtain⟨v,g1,g2⟩:=ht.get e;have:a.tmps.getD x undef=v:=by rw[xAx,<-xCj,g1];rfl
   rw[this];exact g2
  ·have hm0:MR P p (τ.M 0) {w with drawn:=w.drawn+1}:=by rw[h2];exact hm'
   refine MR.grow hm0 hMq hex.1 (fun b v ci h5 h6 h7=>?_) (fun b ci b2 ci2 h5 h6 h7=>?_)
   ·rw[hfree b h5 (by have:=Mem.q0u h6;omega)]at h7;cases h7
   ·have hb:b<(τ.M q).next:=by
     cases e:(τ.M q).get b with
     |none=>rw[e]at h6;cases h6
     |some blk=>exact Mem.q0u e
    rw[hfree b h5 (by omega)]at h7;cases h7
  ·rw[hfree b (by omega) h6]at h7;cases h7
  ·rw[hfree b (by omega) h6]at h8;cases h8
  ·rw[hfree b h5 h6]at h7;cases h7
 obtain⟨S,q',p',a',w',hall,hd,hst⟩:=j0P (fb:=fb) (fk:=fk) (fs:=fs) hcall hτ hr (by rw[h2];exact hG) all.length (w.tape w.drawn (.order fb.fn id)) (Array.replicate all.length false) q p a {w with drawn:=w.drawn+1} (by simp) (by
  unfold left;have:=List.length_filter_le (fun i=>!(Array.replicate all.length false).getD i false) (List.range all.length)
  simpa using this) hinit
 have hsched:Steps P (lone (fb.atR a (.code (.region id ⟨all⟩ true)::fk)) fs w) (lone (fb.atR a (.inRegion ⟨all⟩ (Region.linearise.go .any ⟨all⟩ all.length (w.tape w.drawn (.order fb.fn id)) (Array.replicate all.length false) [])::fk)) fs {w with drawn:=w.drawn+1}):=by
  refine .one ?_;rw[stepR_region_draw];simp only[Region.schedule,hmix,Bool.true_or,xAd];rfl
 have hend:Steps P (lone (fb.atR a (.code (.region id ⟨all⟩ true)::fk)) fs w) (lone (fb.atR a' fk) fs w'):=Steps.trans hsched (Steps.trans hst (.one stepR_region_end))
 ·have hq:q'=all.length:=by
   rcases hd.b1T with e|e
   ·exact e
   ·have h5:=hd.hi q' (xnr _) e;rw[hall q' e.lt]at h5;cases h5
  subst hq;have hT:∀x,x<(τ.T 0).length->(q4e all τ.V S (τ.T 0)).getD x .undef=(τ.T all.length).getD x .undef:=fun x hx=>
   a4R hτ (xnr _) hx fun k hk _=>by rw[hall k hk];simp[hk]
  refine⟨p',a',w',?_,hd.defers,?_,hend⟩
  ·refine VRs.z0U (by rw[q74 hτ (xnr _),<-hd.size];simp) fun x v hv=>?_
   have hx:x<(τ.T 0).length:=by
    have:=(xgi.1 hv).1
    rwa [q74 hτ (xnr _)]at this
   have:=hd.tmps x hx;rw[hT x hx,xAe,hv,xEt]at this;refine⟨_,?_,this⟩;have hxs:x<a'.tmps.size:=by rw[hd.size];exact hx
   rw[xCj,xAl hxs,xAx,xAl hxs];rfl
  ·have hd1:=hd.le;have hd2:=hd.out;have hd3:=hd.rel;have hd4:=hd.q4d;have hd5:=hd.dead;have hd6:=hd.q3d;have hd7:=hd.fresh;have hd8:=hd.ro;rw[h2]at hd2 hd4 hd5 hd6 hd7 hd8;exact⟨hd1,hd2,by rw[<-h2];exact q0R hcall hτ (xBx _) (xnr _),hd3,hd4,hd5,hd6,hd7,hd8,hd.z2J,hd.os,hd.output,hd.tape⟩
end
end
section
section
variable {P:Program} {p:Phi} {m:Mem} {w:World}
theorem q4A {α:Type}:∀{l:List α} {i:Nat} (hi:i<l.length),l.Perm (l[i]::l.eraseIdx i)
 |a::l,0,_=>.refl _
 |a::l,i+1,hi=>by
  simp only[xEz,List.eraseIdx_cons_succ];exact(List.Perm.cons a (q4A (l:=l) (i:=i) (by simpa using hi))).trans (.swap _ _ _)
theorem ER.at {p:Phi}:∀{l:List (AV×AV)} {es:List MapEntry},ER p l es->l.length=es.length/\∀(i:Nat) (h:i<es.length) (h':i<l.length),VR p l[i].1 es[i].key/\VR p l[i].2 es[i].val/\ER p (l.eraseIdx i) (es.eraseIdx i)
 |[],es,h=>by simp only[ER]at h;subst h;exact⟨rfl,fun i hi=>by simp at hi⟩
 |(k,v)::l,es,h=>by
  simp only[ER]at h;obtain⟨e,es',rfl,h1,h2,h3⟩:=h;obtain⟨g1,g2⟩:=ER.at h3;refine⟨by simp[g1],fun i hi hi'=>?_⟩
  cases i with
  |zero=>exact⟨h1,h2,h3⟩
  |succ i=>
   obtain⟨q1,q2,q3⟩:=g2 i (by simpa using hi) (by simpa using hi');refine⟨q1,q2,?_⟩;simp only[List.eraseIdx_cons_succ,ER];exact⟨e,_,rfl,h1,h2,q3⟩
theorem q8X:∀{l:List MapEntry},(l.map (·.born)).Nodup->∀(i:Nat) (hi:i<l.length),l.filter (fun e=>!(e.born==l[i].born))=l.eraseIdx i
 |[],_,i,hi=>by simp at hi
 |a::l,hn,i,hi=>by
  have hn':a.born∉l.map (·.born)/\(l.map (·.born)).Nodup:=List.nodup_cons.1 hn;cases i with
  |zero=>
   simp only[xDv,List.eraseIdx_cons_zero,xEu,beq_self_eq_true,xbt,xbq,xAh];rw[List.filter_eq_self];intro e he;have:¬e.born=a.born:=fun h=>hn'.1 (by rw[<-h];exact xBr.2 ⟨e,he,rfl⟩)
   simpa using this
  |succ i=>
   have hi':i<l.length:=by simpa using hi
   simp only[xEz,List.eraseIdx_cons_succ,xEu];have:¬a.born=l[i].born:=fun h=>hn'.1 (by rw[h];exact xBr.2 ⟨l[i],xAf hi',rfl⟩)
   rw[xAb (by simpa using this),q8X hn'.2 i hi']
theorem a4y (w:World) (ty:TypeId) {r bm clock last:Nat} {seen:Array Nat} {es:Array MapEntry} (hr:w.heap[r]? = some (.mapIter (some bm) clock seen last)) (hb:w.heap[bm]? = some (.map es clock)) (hold:∀x∈es.toList,x.born<clock) (hsc:clock<=last) :
  ((es.toList.filter fun e=>!seen.contains e.born)=[]/\(Instr.next (.pointer (some ⟨r,0,none⟩)) false ty).run P w=.ok (.tuple #[.bool false]) w)\/
  ∃(j:Nat) (hj:j<(es.toList.filter fun e=>!seen.contains e.born).length) (w1:World),w1.heap=w.heap/\w1.os=w.os/\w1.output=w.output/\w1.tape=w.tape/\
   (Instr.next (.pointer (some ⟨r,0,none⟩)) false ty).run P w=.ok (.tuple #[.bool true,(es.toList.filter fun e=>!seen.contains e.born)[j].key,(es.toList.filter fun e=>!seen.contains e.born)[j].val]) {w1 with heap:=w1.heap.setIfInBounds r (.mapIter (some bm) clock (seen.push (es.toList.filter fun e=>!seen.contains e.born)[j].born) clock)}:=by
 have hL:(es.toList.filter fun e=>!seen.contains e.born)=(es.filter fun e=>!seen.contains e.born).toList:=by simp
 rw[hL];simp only[Instr.next,Sem.run_bind,q0Y hr (by simp),Result.andThen_ok,q0Y hb (by simp),next_test_false seen es clock last hold hsc,xbq,xAh]
 have hmem:∀x∈(es.filter fun e=>!seen.contains e.born).toList,x.born<clock:=fun x hx=>hold x (by simp at hx⊢;exact hx.1)
 generalize (es.filter fun e=>!seen.contains e.born)=L at hmem⊢
 have e1:L.filter (fun x=>decide (x.born<clock))=L:=Array.filter_eq_self.2 (fun x hx=>by simpa using hmem x (by simpa using hx))
 have e2:L.filter (fun x=>decide (x.born>=clock))=#[]:=by
  rw[Array.filter_eq_empty_iff];intro x hx;have:=hmem x (by simpa using hx);simp;omega
 simp only[e1,e2,Array.append_empty];by_cases h0:L.size=0
 ·left;have:L=#[]:=Array.eq_empty_of_size_eq_zero h0;subst this;refine⟨rfl,?_⟩;simp[choose,Sem.run,Question.forced]
 ·right;have hne:L.isEmpty=false:=by simp[Array.isEmpty,h0]
  simp only[hne,xbq,xAh,Array.empty_append,Array.size_map];have hch:∃(j:Nat) (w1:World),j<L.size/\(w1.heap=w.heap/\w1.os=w.os/\w1.output=w.output/\w1.tape=w.tape)/\(choose (Question.mapNext L.size)).run P w=.ok j w1:=by
   by_cases hf:L.size<=1
   ·exact⟨0,w,by omega,⟨rfl,rfl,rfl,rfl⟩,by simp[choose,Sem.run,Question.forced,hf]⟩
   ·exact⟨_,w.drew,xEv _ (by omega),⟨rfl,rfl,rfl,rfl⟩,by
     simp only[choose,Sem.run,Question.forced,xAj,hf,xAh,Question.cut];rfl⟩
  obtain⟨j,w1,hj,⟨a1,a2,a3,a4⟩,hrun⟩:=hch;refine⟨j,by simpa using hj,w1,a1,a2,a3,a4,?_⟩;have hr1:w1.heap[r]? = some (.mapIter (some bm) clock seen last):=by rw[a1];exact hr
  simp only[hrun,Result.andThen_ok,Array.getElem?_map,xAl hj,xom,Sem.run_bind,q1X hr1 (by simp),Sem.run_pure];simp only[Array.getElem_toList]
theorem z7h {x:AV} {K:AV->Mem->R} {r:AV×Mem} (h:nextR x m K=some r):∃(c b:Nat) (left es:List (AV×AV)) (cur:Option (AV×AV)),x=.ptr (some ⟨c,0⟩)/\m.get c=some (.iter b left cur)/\m.get b=some (.rmap es c)/\
  ((left=[]/\K (.tup [.bool false]) ((m.put c none).put b (some (.map es)))=some r)\/
   (0<left.length/\∀(i:Nat) (hi:i<left.length),∃mi,K (.tup [.bool true,left[i].1,left[i].2]) (m.put c (some (.iter b (left.eraseIdx i) (some left[i]))))=some (r.1,mi)/\Drop m.next mi r.2)):=by
 unfold nextR at h;split at h
 ·rename_i a;obtain⟨c,o⟩:=a;split at h
  ·rename_i b left cur ho h1;simp only at ho h1;subst ho;split at h
   ·rename_i es c' h2;split at h
    ·rename_i hc;simp only at hc;subst hc;refine⟨_,_,_,_,_,rfl,h1,h2,?_⟩;split at h
     ·exact .inl ⟨rfl,h⟩
     ·rename_i e l;right;refine⟨by simp,fun i hi=>?_⟩
      have:=q5J h i (by simpa using hi);rw[xAe,xgq hi]at this;exact this
    ·cases h
   ·cases h
  ·cases h
 ·cases h
theorem z0S {o:Oper} {it:Operand} (ho:o.op=.next it false) {t:List AV} {x:AV} (hx:ev P t it=some x) {K:AV->Mem->R} {r:AV×Mem} (h:nextR x m K=some r) :
  ∃Q:AV->Mem->Prop,(∃v m1,Q v m1)/\(∀v m1,Q v m1->∃mi,K v m1=some (r.1,mi)/\Drop m.next mi r.2/\m1.next=m.next)/\∀(p:Phi) (a:Act) (w:World),MR P p m w->VRs p t a.tmps.toList->(∃v m1,Q v m1/\∃cv w',(execOp a.eval o).run P w=.ok (.value cv) w'/\VR p v cv/\Sim P p m w p m1 w'):=by
 obtain⟨c,b,left,es,cur,rfl,h1,h2,hK⟩:=z7h h;refine⟨fun v m1=>(left=[]/\v=.tup [.bool false]/\m1=(m.put c none).put b (some (.map es)))\/∃(i:Nat) (hi:i<left.length),v=.tup [.bool true,left[i].1,left[i].2]/\m1=m.put c (some (.iter b (left.eraseIdx i) (some left[i]))),?_,?_,?_⟩
 ·rcases hK with ⟨h0,_⟩|⟨h0,_⟩
  ·exact⟨_,_,.inl ⟨h0,rfl,rfl⟩⟩
  ·exact⟨_,_,.inr ⟨0,h0,rfl,rfl⟩⟩
 ·rintro v m1 (⟨h0,rfl,rfl⟩|⟨i,hi,rfl,rfl⟩)
  ·rcases hK with ⟨_,h3⟩|⟨h3,_⟩
   ·exact⟨r.2,h3,.refl _ _,rfl⟩
   ·rw[h0]at h3;simp at h3
  ·rcases hK with ⟨h3,_⟩|⟨_,h3⟩
   ·rw[h3]at hi;simp at hi
   ·obtain⟨mi,h4,h5⟩:=h3 i hi;exact⟨mi,h4,h5,rfl⟩
 ·intro p a w hm ht;have hv:=q29 ht hm.q23 hx;simp only[VR]at hv;obtain⟨ci,g1,g2⟩:=hv;obtain⟨bi,ces,clock,seen,last,o1,o2,o3,o4,o5,⟨l,o6,o7⟩,_,o8,o9,o10,o11⟩:=z4Z hm h1 h2 g1;rw[o4]at g2;simp only[xna]at g2;have hne:c≠b:=by rintro rfl;rw[h1]at h2;cases h2
  have hci:bi.c≠ci.c:=by
   intro e;rw[e,o1]at o8;cases o8
  have hrl:=(xBb.1 o1).1;rcases a4y (P:=P) w o.type o1 o8 o11 o5 with ⟨e0,er⟩|⟨j,hj,w1,a1,a2,a3,a4,er⟩
  ·rw[e0]at o7;have hl0:l=[]:=by
    have:=(ER.at o7).1;simpa using this
   subst hl0;have hl1:left=[]:=o6.symm.eq_nil;refine⟨_,_,.inl ⟨hl1,rfl,rfl⟩,.tuple #[.bool false],w,?_,by simp[VR,VRs],?_⟩
   ·simp only[execOp,ho,g2,er,Sem.run_bind,Result.andThen_ok,Sem.run_pure]
   ·have s1:Sim P p m w p (m.put c none) w:=Sim.z2E (v:=none) hm h1 (by simp) g1 o1 (fun _ _=>rfl) rfl rfl rfl rfl (fun y hy=>by cases hy)
    have s2:Sim P p (m.put c none) w p ((m.put c none).put b (some (.map es))) w:=Sim.z2E (v:=some (.map es)) (v0:=.rmap es c) s1.rel (by rw[Mem.get_put,xAa (fun e=>hne e.1.symm)];exact h2) (by simp) o2 o8 (fun _ _=>rfl) rfl rfl rfl rfl
     (fun y hy=>by cases hy;exact⟨ces,clock,rfl,o9,o10,o11⟩)
    exact s1.trans s2 (fun _ h5 h6=>absurd h6 (by simp only[Mem.q39];omega))
  ·obtain⟨k1,k2⟩:=ER.at o7;obtain⟨q1,q2,q3⟩:=k2 j hj (by omega);obtain⟨i,hi,hil⟩:=xBg.1 (o6.mem_iff.1 (xAf (show j<l.length by omega)));have hsub:=(List.filter_sublist (l:=ces.toList) (p:=fun e=>!seen.contains e.born))
   have hnd:((ces.toList.filter fun e=>!seen.contains e.born).map (·.born)).Nodup:=(hsub.map (·.born)).nodup o10
   refine⟨_,_,.inr ⟨i,hi,rfl,rfl⟩,.tuple #[.bool true,(ces.toList.filter fun e=>!seen.contains e.born)[j].key,(ces.toList.filter fun e=>!seen.contains e.born)[j].val],{w1 with heap:=w1.heap.setIfInBounds ci.c (.mapIter (some bi.c) clock (seen.push (ces.toList.filter fun e=>!seen.contains e.born)[j].born) clock)},?_,?_,?_⟩
   ·simp only[execOp,ho,g2,er,Sem.run_bind,Result.andThen_ok,Sem.run_pure]
   ·simp only[VR,VRs];rw[hil];exact⟨_,rfl,.bool true,_,rfl,rfl,_,_,rfl,q1,_,[],rfl,q2,rfl⟩
   ·have s0:=Sim.of_heap hm a1 a2 a3 a4;have s1:Sim P p m w1 p (m.put c (some (.iter b (left.eraseIdx i) (some left[i])))) {w1 with heap:=w1.heap.setIfInBounds ci.c (.mapIter (some bi.c) clock (seen.push (ces.toList.filter fun e=>!seen.contains e.born)[j].born) clock)}:=by
     refine Sim.z2E s0.rel h1 (by simp) g1 (xBs (by rw[a1];exact hrl)) (fun d hd=>xBn (Ne.symm hd)) (by simp) rfl rfl rfl fun y hy=>?_
     cases hy;refine⟨bi,ces,clock,_,clock,rfl,o2,o3,o4,xnr _,⟨l.eraseIdx j,?_,?_⟩,fun e he=>?_⟩
     ·have p1:=q4A (show j<l.length by omega);have p2:=q4A hi;rw[hil]at p2;exact List.Perm.cons_inv ((p1.symm.trans o6).trans p2)
     ·have:(ces.toList.filter fun e=>!(seen.push (ces.toList.filter fun e=>!seen.contains e.born)[j].born).contains e.born)=(ces.toList.filter fun e=>!seen.contains e.born).eraseIdx j:=by
       rw[<-q8X hnd j hj,List.filter_filter];apply List.filter_congr;intro e _;simp[Bool.and_comm,eq_comm];rfl
      rw[this];exact q3
     ·cases he;refine⟨rfl,(ces.toList.filter fun e=>!seen.contains e.born)[j],hsub.subset (xAf hj),by simp,?_⟩
      rw[hil];exact⟨q1,q2⟩
    exact s0.trans s1 (fun _ h5 h6=>absurd h6 (by simp only[Mem.q39];omega))
end
end
end Go.Abs
