/- Texts of one claim, put together. -/
import Derived.Test.YtlginbmjiecglaaGreatDoorK0
import Derived.Test.YtlginbmjiecglaaGreatDoorK5
namespace Go.Abs
section
open Go
section
variable {P:Program} {call:q1u} {all:List Oper} {chk anc:List (List Nat)} {τ:Trace}
variable {p0:Phi} {w0:World} {a0:Act} {S:Nat→Bool} {q:Nat} {p:Phi} {a:Act} {w:World} {i:Nat} {o:Oper}
theorem DInv.laid (hcall:q28 P call) (hτ:q4c P call all chk τ) (hr:rOk P all anc chk=true) (h:DInv P all τ p0 w0 a0 S q p a w) (hi:Ready all S i o) {cs:Blk} {mk:Nat→AV} (hn:New P all τ i cs) (hmk:τ.V i=mk (τ.M i).next)
  {w':World} {cv:Value} {ob:Obj} {sz:Nat} (hl:Laid P p cs mk w w' cv ob sz) :
  ∃p',DInv P all τ p0 w0 a0 (q7x S i) q p' (a.put o.dst cv) w':=by
 have hil:i<all.length:=(List.getElem?_eq_some_iff.1 hi.op).1
 have hbn:(τ.M i).next<(τ.M all.length).next:=hn.lt_next hcall hτ hil (Nat.le_refl _)
 have hb0:(τ.M 0).next≤(τ.M i).next:=q1f hcall hτ (Nat.zero_le _) (by omega)
 have hfree:p (τ.M i).next=none:=by
  by_cases hiq:i<q
  ·exact(h.late i cs hiq hn hi.not).1
  ·cases e:p (τ.M i).next with
   |none=>rfl
   |some ci=>
    have hqi:(τ.M q).next≤(τ.M i).next:=q1f hcall hτ (by omega) (by omega)
    obtain⟨j,ds,h1,h2,h3,h4⟩:=h.above _ ci hqi hbn e
    have:=hn.inj hcall hτ h3 h4
    subst this
    rw[hi.not]at h2;cases h2
 let p':Phi:=fun b=>if b=(τ.M i).next then some ⟨w.heap.size,0,sz⟩ else p b
 have hle:p.le p':=by
  intro b ci hb
  by_cases e:b=(τ.M i).next
  ·subst e;rw[hfree]at hb;cases hb
  ·simp[p',e,hb]
 have hp':∀b,b≠(τ.M i).next→p' b=p b:=fun b e=>by simp[p',e]
 have hpi:p' (τ.M i).next=some ⟨w.heap.size,0,sz⟩:=by simp[p']
 have hheap:∀c,c<w.heap.size→w'.heap[c]? = w.heap[c]?:=fun c hc=>by rw[hl.heap,Array.getElem?_push_lt hc,←Array.getElem?_eq_getElem]
 have hnewh:w'.heap[w.heap.size]? = some ob:=by rw[hl.heap];simp
 have hne:¬Eff P all τ i:=hn.z8b
 have hnew:∀{j ds},j≠i→New P all τ j ds→q7x S i j=S j:=fun {j ds} hj _=>by simp[q7x,hj]
 have hv:VR p' (τ.V i) cv:=by rw[hmk];exact hl.value p' _ hpi
 obtain⟨t1,t2⟩:=h.tmps' hr hi hle hv
 have hblk:BR P p' ⟨w.heap.size,0,sz⟩ cs ob:=hl.blk.mono hle
 refine⟨p',h.qle,h.qeff,fun k h1 h2=>by rw[z1r hne h2];exact h.lo k h1 h2,fun k h1 h2=>by rw[z1r hne h2];exact h.hi k h1 h2,j26 h hi,fun j hj=>?_,t1,t2,by rw[q45];exact h.defers,
  ⟨?_,?_,?_,?_⟩,fun b ci hb=>hle _ _ (h.le b ci hb),fun b hb=>?_,fun b ci h1 h2 h3=>?_,fun j ds h1 h2 h3=>?_,fun j ds h1 h2 h3=>?_,fun b ci b2 ci2 h1 h2 h3 h4 h5 h6=>?_,h.keepA,h.dead,fun c h1 h2=>?_,fun b ci h1 h2 h3=>?_,
  fun b ds ci h1 h2=>⟨(h.ro b ds ci h1 h2).1,by rw[hheap _ (by have:=h.bnd0 b ci h2;have:=h.wsize;omega)];exact(h.ro b ds ci h1 h2).2⟩,h.bnd0,by rw[hl.heap];simp;have:=h.wsize;omega,hl.os.trans h.os,hl.output.trans h.output,hl.tape.trans h.tape⟩
 ·unfold q7x at hj;split at hj
  ·omega
  ·exact h.inb j hj
 ·
  intro b v ci h1 h2
  by_cases e:b=(τ.M i).next
  ·subst e
   rw[hpi]at h2;cases h2
   have hiq:i<q:=by
    rcases Nat.lt_or_ge i q with c|c
    ·exact c
    ·have hqi:(τ.M q).next≤(τ.M i).next:=q1f hcall hτ c (by omega)
     rw[Mem.z4x hqi]at h1;cases h1
   have:=(h.late i cs hiq hn hi.not).2
   rw[this]at h1;cases h1
   exact⟨ob,hnewh,hblk⟩
  ·rw[hp' b e]at h2
   obtain⟨o',g1,g2⟩:=h.rel.has b v ci h1 h2
   exact⟨o',by rw[hheap _ (h.rel.bnd b ci h2)];exact g1,g2.mono hle⟩
 ·
  intro b ci b2 ci2 h1 h2 h3 h4
  by_cases e:b=(τ.M i).next
  ·by_cases e2:b2=(τ.M i).next
   ·exact .inl (e.trans e2.symm)
   ·rw[e,hpi]at h2;cases h2
    rw[hp' b2 e2]at h3
    have:=h.rel.bnd b2 ci2 h3
    simp only at h4;omega
  ·rw[hp' b e]at h2
   by_cases e2:b2=(τ.M i).next
   ·rw[e2,hpi]at h3;cases h3
    have:=h.rel.bnd b ci h2
    simp only at h4;omega
   ·rw[hp' b2 e2]at h3
    exact h.rel.inj b ci b2 ci2 h1 h2 h3 h4
 ·intro b ci hb
  rw[hl.heap,Array.size_push]
  by_cases e:b=(τ.M i).next
  ·rw[e,hpi]at hb;cases hb;simp
  ·rw[hp' b e]at hb;have:=h.rel.bnd b ci hb;omega
 ·intro g hg
  obtain⟨n,hn⟩:=h.rel.glob g hg
  exact⟨n,hle _ _ hn⟩
 ·
  rw[hp' b (by rintro rfl;exact hb ⟨hb0,hbn⟩)]
  exact h.out b hb
 ·
  by_cases e:b=(τ.M i).next
  ·refine⟨i,cs,?_,by simp[q7x],hn,e⟩
   rcases Nat.lt_or_ge i q with c|c
   ·have:=hn.lt_next hcall hτ c h.qle;omega
   ·exact c
  ·rw[hp' b e]at h3
   obtain⟨j,ds,g1,g2,g3,g4⟩:=h.above b ci h1 h2 h3
   have:j≠i:=by rintro rfl;exact e g4
   exact⟨j,ds,g1,by rw[hnew this g3];exact g2,g3,g4⟩
 ·
  have hji:j≠i:=by rintro rfl;simp[q7x]at h3
  rw[hnew hji h2]at h3
  obtain⟨g1,g2⟩:=h.late j ds h1 h2 h3
  refine⟨?_,g2⟩
  rw[hp' _ fun e=>hji (h2.inj hcall hτ hn e)];exact g1
 ·
  by_cases hji:j=i
  ·subst hji
   have:=hn.cells h2;subst this
   exact⟨_,ob,hpi,hnewh,hblk⟩
  ·rw[hnew hji h2]at h3
   obtain⟨ci,o',g1,g2,g3⟩:=h.early j ds h1 h2 h3
   exact⟨ci,o',hle _ _ g1,by rw[hheap _ (h.rel.bnd _ ci g1)];exact g2,g3.mono hle⟩
 ·
  by_cases e:b=(τ.M i).next
  ·by_cases e2:b2=(τ.M i).next
   ·exact e.trans e2.symm
   ·rw[e,hpi]at h4;cases h4
    rw[hp' b2 e2]at h5
    have:=h.rel.bnd b2 ci2 h5
    simp only at h6;omega
  ·rw[hp' b e]at h4
   by_cases e2:b2=(τ.M i).next
   ·rw[e2,hpi]at h5;cases h5
    have:=h.rel.bnd b ci h4
    simp only at h6;omega
   ·rw[hp' b2 e2]at h5
    exact h.earlyInj b ci b2 ci2 h1 h2 h3 h4 h5 h6
 ·rw[hheap c (by have:=h.wsize;omega)];exact h.keepC c h1 h2
 ·by_cases e:b=(τ.M i).next
  ·rw[e,hpi]at h3;cases h3;exact .inl h.wsize
  ·rw[hp' b e]at h3;exact h.fresh b ci h1 h2 h3
theorem j7z (q:Nat) (hq:q≤all.length):∃k,q≤k∧k≤all.length∧(k=all.length∨Eff P all τ k)∧∀j,q≤j→j<k→¬Eff P all τ j:=by
 have key:∀n q,q+n=all.length→∃k,q≤k∧k≤all.length∧(k=all.length∨Eff P all τ k)∧∀j,q≤j→j<k→¬Eff P all τ j:=by
  intro n
  induction n with
  |zero=>intro q h;exact⟨q,Nat.le_refl _,by omega,.inl (by omega),fun j h1 h2=>by omega⟩
  |succ n ih=>
   intro q h
   by_cases he:Eff P all τ q
   ·exact⟨q,Nat.le_refl _,by omega,.inr he,fun j h1 h2=>by omega⟩
   ·obtain⟨k,h1,h2,h3,h4⟩:=ih (q+1) (by omega)
    refine⟨k,by omega,h2,h3,fun j h5 h6=>?_⟩
    by_cases e:j=q
    ·rw[e];exact he
    ·exact h4 j (by omega) h6
 exact key (all.length-q) q (by omega)
theorem DInv.change (hcall:q28 P call) (hτ:q4c P call all chk τ) (hr:rOk P all anc chk=true) (hG:GP P≤(τ.M 0).next) (h:DInv P all τ p0 w0 a0 S q p a w) (hi:Ready all S i o) (he:Eff P all τ i) {fb:Frame} {rest:List Nat} {fk:List Item} {fs:List Frame} :
  ∃q' p' a' w',DInv P all τ p0 w0 a0 (q7x S i) q' p' a' w'∧Steps P (lone (fb.atR a (.inRegion ⟨all⟩ (i::rest)::fk)) fs w) (lone (fb.atR a' (.inRegion ⟨all⟩ rest::fk)) fs w'):=by
 have hwant:=h.wanted hτ hr hi
 have hil:i<all.length:=(List.getElem?_eq_some_iff.1 hi.op).1
 have hW:τ.W i=true∧cls P o.op=.e:=by
  obtain⟨o',h1,h2,h3⟩:=he
  rw[hi.op]at h1;cases h1;exact⟨h2,h3⟩
 have hiq:i=q:=by
  rcases Nat.lt_trichotomy i q with c|c|c
  ·have:=h.lo i c he;rw[hi.not]at this;cases this
  ·exact c
  ·exfalso
   rcases h.qeff with e|⟨oq,h1,h2,h3⟩
   ·omega
   ·have:=(h.j2x hr hi h1 c (h.hi q (Nat.le_refl _) ⟨oq,h1,h2,h3⟩)).2.1
    exact this ⟨h3,hW.2⟩
 subst hiq
 have hs:=(hτ i o hil hi.op).eff hW.1 hW.2
 rw[←j9l (h.agree hτ hr hi)]at hs
 have hop:=z4o hcall hs
 have hGq:GP P≤(τ.M i).next:=Nat.le_trans hG (q1f hcall hτ (Nat.zero_le _) (by omega))
 have hfree:q9w p (τ.M i).next (τ.M (i+1)).next:=by
  intro b h1 h2
  cases e:p b with
  |none=>rfl
  |some ci=>
   have hle:=q1f hcall hτ (j:=i+1) (k:=all.length) (by omega) (Nat.le_refl _)
   obtain⟨j,ds,g1,g2,g3,g4⟩:=h.above b ci h1 (by omega) e
   have:j≠i:=by rintro rfl;exact g3.z8b he
   have:=q1f hcall hτ (j:=i+1) (k:=j) (by omega) (by have:=g3.lt;omega)
   omega
 have hW':τ.W i=true:=hW.1
 rw[hW']at hwant
 obtain⟨p1,cv,w1,hv,hsim,hst⟩:∃p1 cv w1,VR p1 (τ.V i) cv∧Sim P p (τ.M i) w p1 (τ.M (i+1)) w1∧Steps P (lone (fb.atR a (.inRegion ⟨all⟩ (i::rest)::fk)) fs w) (lone (fb.atR (a.put o.dst cv) (.inRegion ⟨all⟩ rest::fk)) fs w1):=by
  obtain⟨cv,p1,w1,x1,x2,x3⟩:=hop.2 p a w h.rel hGq hfree h.vrs fb ⟨all⟩ i rest fk fs (by simpa using hi.op) hwant
  exact⟨p1,cv,w1,x1,x2,x3⟩
 obtain⟨k,k1,k2,k3,k4⟩:=j7z (P:=P) (all:=all) (τ:=τ) (i+1) (by omega)
 have hex:=ext hcall hτ k1 k2 k4
 have hM1:=j1m hcall hτ hil
 have hMk:=q1f hcall hτ k1 k2
 have hMn:=q1f hcall hτ k2 (Nat.le_refl _)
 have hp1:∀b,¬((τ.M i).next≤b∧b<(τ.M (i+1)).next)→p1 b=p b:=hsim.out
 have hearlyc:∀b ci,(τ.M i).next≤b→b<(τ.M all.length).next→p b=some ci→w1.heap[ci.c]? = w.heap[ci.c]?:=by
  intro b ci h1 h2 h3
  refine hsim.keepC ci.c (h.rel.bnd b ci h3) fun b' ci' g1 g2 g3=>?_
  rcases h.rel.inj b' ci' b ci g1 g2 h3 g3 with e|⟨e,_⟩
  ·subst e;rw[Mem.z4x h1]at g1;cases g1
  ·omega
 have hnewk:∀{j cs},New P all τ j cs→q7x S i j=S j:=fun {j cs} hj=>by
  have:j≠i:=by rintro rfl;exact hj.z8b he
  simp[q7x,this]
 have hrel:MR P p1 (τ.M k) w1:=by
  refine MR.grow hsim.rel hMk hex.1 ?_ ?_
  ·intro b ds ci h1 h2 h3
   have hbk:=Mem.q0w h2
   obtain⟨j,es,g1,g2,g3,g4⟩:=hex.2.2 b h1 hbk
   have hget:=hex.2.1 j es g1 g2 g3
   rw[←g4,h2]at hget;cases hget
   have hpb:p b=some ci:=by rw[←hp1 b (by omega)];exact h3
   obtain⟨j',es',f1,f2,f3,f4⟩:=h.above b ci (by omega) (by omega) hpb
   have:j=j':=g3.inj hcall hτ f3 (g4.symm.trans f4)
   subst this
   obtain⟨ci',o',e1,e2,e3⟩:=h.early j ds (by omega) g3 f2
   rw[←g4,hpb]at e1;cases e1
   exact⟨o',by rw[hearlyc b ci (by omega) (by omega) hpb];exact e2,e3.mono hsim.le⟩
  ·intro b ci b2 ci2 h1 h2 h3 h4 h5
   have hbk:b<(τ.M k).next:=by
    cases e:(τ.M k).get b with
    |none=>rw[e]at h2;cases h2
    |some blk=>exact Mem.q0w e
   have hpb:p b=some ci:=by rw[←hp1 b (by omega)];exact h3
   have hbc:=h.rel.bnd b ci hpb
   by_cases hb2:(τ.M i).next≤b2∧b2<(τ.M (i+1)).next
   ·exfalso
    rcases hsim.fresh b2 ci2 hb2.1 hb2.2 h4 with g|⟨b0,ci0,g1,g2,g3⟩
    ·omega
    ·rcases h.rel.inj b0 ci0 b ci g1 g2 hpb (by omega) with e|⟨e,_⟩
     ·subst e;rw[Mem.z4x (by omega)]at g1;cases g1
     ·omega
   ·rw[hp1 b2 hb2]at h4
    by_cases hb3:(τ.M i).next≤b2
    ·exact .inl (h.earlyInj b ci b2 ci2 (by omega) (by omega) hb3 hpb h4 h5)
    ·right
     refine⟨by omega,?_⟩
     rw[hex.1 b2 (by omega)]
     refine hsim.dead b2 (by omega) ?_
     cases e:(τ.M i).get b2 with
     |none=>rfl
     |some blk=>
      exfalso
      rcases h.rel.inj b2 ci2 b ci (by rw[e];rfl) h4 hpb h5.symm with e'|⟨e',_⟩
      ·subst e';omega
      ·omega
 obtain⟨t1,t2⟩:=h.tmps' hr hi hsim.le hv
 refine⟨k,p1,_,w1,⟨k2,k3,fun j h1 h2=>?_,fun j h1 h2=>?_,j26 h hi,fun j hj=>?_,t1,t2,by rw[q45];exact h.defers,hrel,fun b ci hb=>hsim.le _ _ (h.le b ci hb),
  fun b hb=>?_,fun b ci h1 h2 h3=>?_,fun j ds h1 h2 h3=>?_,fun j ds h1 h2 h3=>?_,fun b ci b2 ci2 h1 h2 h3 h4 h5 h6=>?_,fun b h1 h2=>?_,fun b h1 h2=>?_,fun c h1 h2=>?_,fun b ci h1 h2 h3=>?_,fun b ds ci h1 h2=>?_,h.bnd0,
  Nat.le_trans h.wsize hsim.size,hsim.os.trans h.os,hsim.output.trans h.output,hsim.tape.trans h.tape⟩,hst⟩
 ·
  by_cases e:j=i
  ·simp[q7x,e]
  ·simp only[q7x,if_neg e]
   rcases Nat.lt_or_ge j i with c|c
   ·exact h.lo j c h2
   ·exact absurd h2 (k4 j (by omega) h1)
 ·simp only[q7x,if_neg (show j≠i by omega)]
  exact h.hi j (by omega) h2
 ·unfold q7x at hj;split at hj
  ·omega
  ·exact h.inb j hj
 ·have h0:=q1f hcall hτ (j:=0) (k:=i) (Nat.zero_le _) (by omega)
  rw[hp1 b (by omega)];exact h.out b hb
 ·rw[hp1 b (by omega)]at h3
  obtain⟨j,ds,g1,g2,g3,g4⟩:=h.above b ci (by omega) h2 h3
  refine⟨j,ds,?_,by rw[hnewk g3];exact g2,g3,g4⟩
  rcases Nat.lt_or_ge j k with c|c
  ·have:=g3.lt_next hcall hτ c k2;omega
  ·exact c
 ·
  rw[hnewk h2]at h3
  have hji:j≠i:=by rintro rfl;exact h2.z8b he
  by_cases hj:j<i
  ·obtain⟨g1,g2⟩:=h.late j ds hj h2 h3
   have hlt:=Mem.q0w g2
   refine⟨by rw[hp1 _ (by omega)];exact g1,?_⟩
   rw[hex.1 _ (by omega),hsim.keepA _ hlt g1];exact g2
  ·have hle:=q1f hcall hτ (j:=i+1) (k:=j) (by omega) (by omega)
   refine⟨?_,hex.2.1 j ds (by omega) h1 h2⟩
   rw[hp1 _ (by omega)]
   cases e:p (τ.M j).next with
   |none=>rfl
   |some ci=>
    have hlt:=h2.lt_next hcall hτ (k:=all.length) h2.lt (Nat.le_refl _)
    obtain⟨j',ds',f1,f2,f3,f4⟩:=h.above _ ci (by omega) hlt e
    have:=h2.inj hcall hτ f3 f4
    subst this
    rw[h3]at f2;cases f2
 ·
  rw[hnewk h2]at h3
  obtain⟨ci,o',e1,e2,e3⟩:=h.early j ds (by omega) h2 h3
  have hlt:=h2.lt_next hcall hτ (k:=all.length) h2.lt (Nat.le_refl _)
  have hle:=q1f hcall hτ (j:=i) (k:=j) (by omega) (by have:=h2.lt;omega)
  exact⟨ci,o',hsim.le _ _ e1,by rw[hearlyc _ ci hle hlt e1];exact e2,e3.mono hsim.le⟩
 ·rw[hp1 b (by omega)]at h4
  rw[hp1 b2 (by omega)]at h5
  exact h.earlyInj b ci b2 ci2 (by omega) h2 (by omega) h4 h5 h6
 ·have h0:=q1f hcall hτ (j:=0) (k:=i) (Nat.zero_le _) (by omega)
  rw[hex.1 b (by omega),hsim.keepA b (by omega) (by rw[h.out b (by omega)];exact h2),h.keepA b h1 h2]
 ·have h0:=q1f hcall hτ (j:=0) (k:=i) (Nat.zero_le _) (by omega)
  rw[hex.1 b (by omega)]
  exact hsim.dead b (by omega) (h.dead b h1 h2)
 ·rw[hsim.keepC c (by have:=h.wsize;omega) ?_]
  ·exact h.keepC c h1 h2
  ·intro b ci g1 g2 g3
   have hbq:b<(τ.M i).next:=by
    cases e:(τ.M i).get b with
    |none=>rw[e]at g1;cases g1
    |some blk=>exact Mem.q0w e
   by_cases hb:b<(τ.M 0).next
   ·have e1:p b=p0 b:=h.out b (by omega)
    refine h2 b ci ?_ (e1▸g2) g3
    cases e:(τ.M 0).get b with
    |none=>rw[h.dead b hb e]at g1;cases g1
    |some _=>rfl
   ·rcases h.fresh b ci (by omega) (by omega) g2 with f|⟨b0,ci0,f1,f2,f3⟩
    ·omega
    ·exact h2 b0 ci0 f1 f2 (by omega)
 ·have h0:=q1f hcall hτ (j:=0) (k:=i) (Nat.zero_le _) (by omega)
  by_cases hb2:(τ.M i).next≤b∧b<(τ.M (i+1)).next
  ·rcases hsim.fresh b ci hb2.1 hb2.2 h3 with g|⟨b0,ci0,g1,g2,g3⟩
   ·left;have:=h.wsize;omega
   ·have hbq:b0<(τ.M i).next:=by
     cases e:(τ.M i).get b0 with
     |none=>rw[e]at g1;cases g1
     |some blk=>exact Mem.q0w e
    by_cases hb:b0<(τ.M 0).next
    ·have e1:p b0=p0 b0:=h.out b0 (by omega)
     right
     refine⟨b0,ci0,?_,e1▸g2,g3⟩
     cases e:(τ.M 0).get b0 with
     |none=>rw[h.dead b0 hb e]at g1;cases g1
     |some _=>rfl
    ·rcases h.fresh b0 ci0 (by omega) (by omega) g2 with f|⟨b9,ci9,f1,f2,f3⟩
     ·left;omega
     ·right;exact⟨b9,ci9,f1,f2,by omega⟩
  ·rw[hp1 b hb2]at h3;exact h.fresh b ci h1 h2 h3
 ·obtain⟨g1,g2⟩:=h.ro b ds ci h1 h2
  obtain⟨g3,g4⟩:=hsim.ro b ds ci g1 (h.le b ci h2)
  exact⟨by rw[hex.1 b (Mem.q0w g3)];exact g3,g4.trans g2⟩
end
end
section
open Go
section
variable {P:Program} {call:q1u} {all:List Oper} {chk anc:List (List Nat)} {τ:Trace}
variable {p0:Phi} {w0:World} {a0:Act} {S:Nat→Bool} {q:Nat} {p:Phi} {a:Act} {w:World} {i:Nat} {o:Oper}
variable {fb:Frame} {fk:List Item} {fs:List Frame} {rest:List Nat}
theorem DInv.step (hcall:q28 P call) (hτ:q4c P call all chk τ) (hr:rOk P all anc chk=true) (hG:GP P≤(τ.M 0).next) (h:DInv P all τ p0 w0 a0 S q p a w) (hi:Ready all S i o) :
  ∃q' p' a' w',DInv P all τ p0 w0 a0 (q7x S i) q' p' a' w'∧Steps P (lone (fb.atR a (.inRegion ⟨all⟩ (i::rest)::fk)) fs w) (lone (fb.atR a' (.inRegion ⟨all⟩ rest::fk)) fs w'):=by
 have hil:i<all.length:=(List.getElem?_eq_some_iff.1 hi.op).1
 have hio:(⟨all⟩:Array Oper)[i]? = some o:=by simpa using hi.op
 have hs:=hτ i o hil hi.op
 have hwant:=h.wanted hτ hr hi
 cases hW:τ.W i with
 |false=>
  have hne:¬Eff P all τ i:=by rintro⟨_,_,h2,_⟩;rw[hW]at h2;cases h2
  have hnn:∀cs,¬New P all τ i cs:=by rintro cs ⟨_,_,_,h2,_⟩;rw[hW]at h2;cases h2
  have hst:=stepR_op_skip (P:=P) (b:=fb) (a:=a) (k:=fk) (cs:=fs) (w:=w) (ops:=⟨all⟩) (i:=i) (rest:=rest) (by simp only[hio,Option.map_some,Option.getD_some,hwant,hW])
  simp only[hio,Option.bind_some]at hst
  exact⟨q,p,_,w,h.still hr hi hne hnn (by rw[(hs.off hW).1];simp only[VR];exact⟨[],rfl,by simp[VRs]⟩),.one hst⟩
 |true=>
  rw[hW]at hwant
  have same:∀{c:Cls},cls P o.op=c→(c≠.e→¬Eff P all τ i)∧(c≠.a→∀cs,¬New P all τ i cs):=by
   intro c hc
   refine⟨fun hne=>?_,fun hne cs=>?_⟩
   ·rintro⟨o',h1,_,h2⟩;rw[hi.op]at h1;cases h1;exact hne (hc.symm.trans h2)
   ·rintro⟨o',mk,h1,_,h2,_⟩;rw[hi.op]at h1;cases h1;exact hne (hc.symm.trans h2)
  cases hc:cls P o.op with
  |p=>
   have hp:=(hs.pure hW hc).1
   rw[←j1v (h.agree hτ hr hi)]at hp
   obtain⟨cv,h1,h2⟩:=z5g (w:=w) h.vrs h.rel.glob hp
   exact⟨q,p,_,w,h.still hr hi ((same hc).1 (by decide)) ((same hc).2 (by decide)) h2,.one (q5u hio hwant h1)⟩
  |r=>
   obtain⟨cv,h1,h2⟩:=z5i h.rel h.vrs hc (h.reads hcall hτ hr hi hW hc)
   exact⟨q,p,_,w,h.still hr hi ((same hc).1 (by decide)) ((same hc).2 (by decide)) h2,.one (q5u hio hwant h1)⟩
  |a=>
   obtain⟨cs,mk,h1,h2,h3⟩:=hs.alloc hW hc
   have h1':=h1
   rw[←z5v (h.agree hτ hr hi)]at h1'
   obtain⟨cv,w',ob,n,h4,h5⟩:=z4j h.vrs h.rel.glob hc h1' w
   obtain⟨p',h6⟩:=h.laid hcall hτ hr hi ⟨o,mk,hi.op,hW,hc,h1⟩ h2 h5
   exact⟨q,p',_,w',h6,.one (q5u hio hwant h4)⟩
  |e=>exact h.change hcall hτ hr hG hi ⟨o,hi.op,hW,hc⟩
def left (all:List Oper) (S:Nat→Bool):Nat:=((List.range all.length).filter fun i=>!S i).length
theorem j7w {i:Nat} (hi:i<all.length) (hS:S i=false):left all (q7x S i)<left all S:=by
 unfold left
 have h1:((List.range all.length).filter fun j=>!q7x S i j)=((List.range all.length).filter fun j=>!S j).filter fun j=>decide (j≠i):=by
  rw[List.filter_filter]
  apply List.filter_congr
  intro j _
  by_cases e:j=i<;>simp[q7x,e]
 rw[h1]
 refine List.length_filter_lt_length_iff_exists.2 ⟨i,?_,by simp⟩
 rw[List.mem_filter]
 exact⟨List.mem_range.2 hi,by simp[hS]⟩
theorem j1y {listed:Array Bool} (hsz:listed.size=all.length) {i:Nat}:i∈Region.ready .any ⟨all⟩ listed↔∃o,Ready all (fun j=>listed.getD j false) i o:=by
 rw[mem_ready]
 constructor
 ·rintro⟨h1,o,h2,h3⟩
  have h2':all[i]? = some o:=by simpa using h2
  refine⟨o,h2',?_,fun e he=>?_⟩
  ·have hil:i<all.length:=(List.getElem?_eq_some_iff.1 h2').1
   simp only[Array.getD_eq_getD_getElem?]at h1⊢
   rw[Array.getElem?_eq_getElem (by omega)]at h1⊢
   simpa using h1
  ·unfold q4k at he
   rw[List.mem_filterMap]at he
   obtain⟨e',h4,h5⟩:=he
   split at h5
   ·rename_i hb;cases h5
    exact h3 e' (by simpa using h4) hb
   ·cases h5
 ·rintro⟨o,h1⟩
  have hil:i<all.length:=(List.getElem?_eq_some_iff.1 h1.op).1
  refine⟨?_,o,by simpa using h1.op,fun e he hb=>?_⟩
  ·have:=h1.not
   simp only[Array.getD_eq_getD_getElem?]at this⊢
   rw[Array.getElem?_eq_getElem (by omega)]at this⊢
   simpa using this
  ·refine h1.edges e.on ?_
   unfold q4k
   rw[List.mem_filterMap]
   exact⟨e,by simpa using he,by simp[hb]⟩
theorem j8a {listed:Array Bool} {i:Nat} (hi:i<listed.size):(fun j=>(listed.setIfInBounds i true).getD j false)=q7x (fun j=>listed.getD j false) i:=by
 funext j
 by_cases e:j=i
 ·subst e
  simp[q7x,Array.getD_eq_getD_getElem?,Array.getElem?_setIfInBounds_self_of_lt hi]
 ·simp only[q7x,if_neg e,Array.getD_eq_getD_getElem?]
  rw[Array.getElem?_setIfInBounds_ne (fun h=>e h.symm)]
theorem none_ready (hr:rOk P all anc chk=true) {S:Nat→Bool} (h:∀i o,¬Ready all S i o):∀i,i<all.length→S i=true:=by
 intro i
 induction i using Nat.strongRecOn with
 | _ i ih=>
  intro hi
  cases hS:S i with
  |true=>rfl
  |false=>
   exfalso
   have ho:all[i]? = some (all[i]):=List.getElem?_eq_getElem hi
   refine h i _ ⟨ho,hS,fun e he=>?_⟩
   have h1:=(z1p hr ho).1
   simp only[j5d,Bool.and_eq_true]at h1
   have:=List.all_eq_true.1 h1.1.1 e he
   have hlt:e<i:=by simpa using this
   exact ih e hlt (by omega)
theorem j9k (hcall:q28 P call) (hτ:q4c P call all chk τ) (hr:rOk P all anc chk=true) (hG:GP P≤(τ.M 0).next) :
  ∀(fuel t:Nat) (listed:Array Bool) (q:Nat) (p:Phi) (a:Act) (w:World),listed.size=all.length→left all (fun j=>listed.getD j false)≤fuel→DInv P all τ p0 w0 a0 (fun j=>listed.getD j false) q p a w→
   ∃S' q' p' a' w',(∀i,i<all.length→S' i=true)∧DInv P all τ p0 w0 a0 S' q' p' a' w'∧
    Steps P (lone (fb.atR a (.inRegion ⟨all⟩ (Region.linearise.go .any ⟨all⟩ fuel t listed [])::fk)) fs w) (lone (fb.atR a' (.inRegion ⟨all⟩ []::fk)) fs w'):=by
 intro fuel
 induction fuel with
 |zero=>
  intro t listed q p a w hsz hl h
  have hall:∀i,i<all.length→(fun j=>listed.getD j false) i=true:=by
   intro i hi
   cases hS:listed.getD i false with
   |true=>exact hS
   |false=>
    have:=j7w (S:=fun j=>listed.getD j false) hi hS
    omega
  exact⟨_,q,p,a,w,hall,h,by simp only[Region.linearise.go];exact .refl _ _⟩
 |succ fuel ih=>
  intro t listed q p a w hsz hl h
  simp only[Region.linearise.go]
  change ∃S' q' p' a' w',(∀i,i<all.length→S' i=true)∧DInv P all τ p0 w0 a0 S' q' p' a' w'∧
   Steps P (lone (fb.atR a (.inRegion ⟨all⟩ (match (Region.ready .any ⟨all⟩ listed)[t % (Region.ready .any ⟨all⟩ listed).length]? with
    |some i=>Region.linearise.go .any ⟨all⟩ fuel (t / (Region.ready .any ⟨all⟩ listed).length) (listed.setIfInBounds i true) [i]
    |none=>[].reverse)::fk)) fs w) (lone (fb.atR a' (.inRegion ⟨all⟩ []::fk)) fs w')
  cases hi:(Region.ready .any ⟨all⟩ listed)[t % (Region.ready .any ⟨all⟩ listed).length]? with
  |none=>
   have hnil:Region.ready .any ⟨all⟩ listed=[]:=by
    cases hr:Region.ready .any ⟨all⟩ listed with
    |nil=>rfl
    |cons x xs=>
     rw[hr]at hi
     have hlt:t % (x::xs).length<(x::xs).length:=Nat.mod_lt _ (by simp)
     simp at hi
     simp at hlt
     omega
   refine⟨_,q,p,a,w,none_ready hr fun i o ho=>?_,h,.refl _ _⟩
   have:=(j1y hsz (i:=i)).2 ⟨o,ho⟩
   rw[hnil]at this;cases this
  |some i=>
   simp only[]
   rw[linearise_go_acc,List.reverse_singleton,List.singleton_append]
   obtain⟨o,ho⟩:=(j1y hsz).1 (List.mem_of_getElem? hi)
   have hil:i<all.length:=(List.getElem?_eq_some_iff.1 ho.op).1
   obtain⟨q1,p1,a1,w1,h1,hst⟩:=h.step (fb:=fb) (fk:=fk) (fs:=fs) (rest:=Region.linearise.go .any ⟨all⟩ fuel (t / (Region.ready .any ⟨all⟩ listed).length) (listed.setIfInBounds i true) []) hcall hτ hr hG ho
   obtain⟨S',q2,p2,a2,w2,g1,g2,g3⟩:=ih (t / (Region.ready .any ⟨all⟩ listed).length) (listed.setIfInBounds i true) q1 p1 a1 w1 (by simp[hsz]) (by
    rw[j8a (by omega)]
    have:=j7w (S:=fun j=>listed.getD j false) hil ho.not
    omega) (by rw[j8a (by omega)];exact h1)
   exact⟨S',q2,p2,a2,w2,g1,g2,Steps.trans hst g3⟩
theorem j3b (hcall:q28 P call) (hr:rOk P all anc chk=true) (_hlen:chk.length=all.length) {id:Nat} (hmix:P.follows .mixedOrders=true) {t:List AV} {m:Mem} {K:List AV→Mem→R} {r:AV×Mem} (h:q4j call P all chk all [] 0 ⟨[],[]⟩ t m K=some r) :
  ∃t' m',K t' m'=some r∧m.next≤m'.next∧∀(p:Phi) (a:Act) (w:World),MR P p m w→GP P≤m.next→q9w p m.next m'.next→VRs p t a.tmps.toList→∀(b:Frame) (k:List Item) (cs:List Frame),
   ∃p' a' w',VRs p' t' a'.tmps.toList∧a'.defers=a.defers∧Sim P p m w p' m' w'∧Steps P (lone (b.atR a (.code (.region id ⟨all⟩ true)::k)) cs w) (lone (b.atR a' k) cs w'):=by
 obtain⟨τ,_,h1,h2,h3,h4⟩:=q8a (P:=P) (call:=call) (all:=all) (chk:=chk) all chk [] 0 ⟨[],[]⟩ t m ⟨fun _=>[],fun _=>m,fun _=>false,fun _=>.undef⟩ (fun j=>by simp) (fun j=>by simp)
  (fun k ok hk=>by omega) (fun k ok hk=>by omega) h
 have hτ:q4c P call all chk τ:=fun j o hj ho=>h4 j o (Nat.zero_le _) (by omega) ho
 simp only[Nat.zero_add]at h3
 refine⟨_,_,h3,by rw[←h2];exact q1f hcall hτ (Nat.zero_le _) (Nat.le_refl _),fun p a w hm hG hf ht fb fk fs=>?_⟩
 have hm':MR P p m {w with drawn:=w.drawn+1}:=hm.of_heap rfl
 obtain⟨q,q1,q2,q3,q4⟩:=j7z (P:=P) (all:=all) (τ:=τ) 0 (Nat.zero_le _)
 have hex:=ext hcall hτ q1 q2 q4
 have hMq:=q1f hcall hτ q1 q2
 have hMn:=q1f hcall hτ q2 (Nat.le_refl _)
 have hfree:∀b,(τ.M 0).next≤b→b<(τ.M all.length).next→p b=none:=fun b x y=>hf b (by rw[←h2];exact x) y
 have hnone:∀(j:Nat) cs,New P all τ j cs→p (τ.M j).next=none:=fun j cs hn=>
  hfree _ (q1f hcall hτ (Nat.zero_le _) (by have:=hn.lt;omega)) (hn.lt_next hcall hτ hn.lt (Nat.le_refl _))
 have hS0:(fun j=>(Array.replicate all.length false).getD j false)=fun _=>false:=by
  funext j;simp only[Array.getD_eq_getD_getElem?,Array.getElem?_replicate];split<;>rfl
 have hT0:∀x,(q5k all τ.V (fun _=>false) (τ.T 0)).getD x .undef=(τ.T 0).getD x .undef:=by
  intro x
  by_cases hx:x<(τ.T 0).length
  ·exact q7n all τ.V _ _ (fun k _ h=>by cases h) hx
  ·have e1:(q5k all τ.V (fun _=>false) (τ.T 0)).length≤x:=by unfold q5k;rw[q2n];omega
   rw[List.getD_eq_getElem?_getD,List.getD_eq_getElem?_getD,List.getElem?_eq_none e1,List.getElem?_eq_none (by omega)]
 have hlen0:a.tmps.size=(τ.T 0).length:=by rw[h1];have:=ht.length;simpa using this
 have hinit:DInv P all τ p {w with drawn:=w.drawn+1} a (fun j=>(Array.replicate all.length false).getD j false) q p a {w with drawn:=w.drawn+1}:=by
  rw[hS0]
  refine⟨q2,q3,fun k h5 h6=>absurd h6 (q4 k (Nat.zero_le _) h5),fun _ _ _=>rfl,fun j oj _ h5=>(by cases h5),fun j h5=>(by cases h5),hlen0,fun x hx=>?_,rfl,?_,fun _ _ h=>h,fun _ _=>rfl,
   fun b ci h5 h6 h7=>?_,fun j cs h5 h6 _=>⟨hnone j cs h6,hex.2.1 j cs (Nat.zero_le _) h5 h6⟩,fun j cs _ _ h5=>(by cases h5),fun b ci b2 ci2 h5 h6 h7 h8 h9=>?_,fun b h5 _=>hex.1 b h5,fun b h5 h6=>(by rw[hex.1 b h5];exact h6),fun _ _ _=>rfl,
   fun b ci h5 h6 h7=>?_,fun b ds ci h5 h6=>⟨(by rw[hex.1 b (Mem.q0w h5)];exact h5),rfl⟩,fun b ci h5=>hm'.bnd b ci h5,Nat.le_refl _,rfl,rfl,rfl⟩
  ·rw[hT0,h1]
   have hx':x<t.length:=by rw[←h1];exact hx
   have e:t[x]? = some (t.getD x .undef):=by rw[List.getD_eq_getElem?_getD,List.getElem?_eq_getElem hx'];rfl
   obtain⟨v,g1,g2⟩:=ht.get e
   have:a.tmps.getD x undef=v:=by rw[Array.getD_eq_getD_getElem?,←Array.getElem?_toList,g1];rfl
   rw[this];exact g2
  ·have hm0:MR P p (τ.M 0) {w with drawn:=w.drawn+1}:=by rw[h2];exact hm'
   refine MR.grow hm0 hMq hex.1 (fun b v ci h5 h6 h7=>?_) (fun b ci b2 ci2 h5 h6 h7=>?_)
   ·rw[hfree b h5 (by have:=Mem.q0w h6;omega)]at h7;cases h7
   ·have hb:b<(τ.M q).next:=by
     cases e:(τ.M q).get b with
     |none=>rw[e]at h6;cases h6
     |some blk=>exact Mem.q0w e
    rw[hfree b h5 (by omega)]at h7;cases h7
  ·rw[hfree b (by omega) h6]at h7;cases h7
  ·rw[hfree b (by omega) h6]at h8;cases h8
  ·rw[hfree b h5 h6]at h7;cases h7
 obtain⟨S,q',p',a',w',hall,hd,hst⟩:=j9k (fb:=fb) (fk:=fk) (fs:=fs) hcall hτ hr (by rw[h2];exact hG) all.length (w.tape w.drawn (.order fb.fn id)) (Array.replicate all.length false) q p a {w with drawn:=w.drawn+1} (by simp) (by
  unfold left
  have:=List.length_filter_le (fun i=>!(Array.replicate all.length false).getD i false) (List.range all.length)
  simpa using this) hinit
 have hsched:Steps P (lone (fb.atR a (.code (.region id ⟨all⟩ true)::fk)) fs w) (lone (fb.atR a (.inRegion ⟨all⟩ (Region.linearise.go .any ⟨all⟩ all.length (w.tape w.drawn (.order fb.fn id)) (Array.replicate all.length false) [])::fk)) fs {w with drawn:=w.drawn+1}):=by
  refine .one ?_
  rw[stepR_region_draw]
  simp only[Region.schedule,hmix,Bool.true_or,if_true]
  rfl
 have hend:Steps P (lone (fb.atR a (.code (.region id ⟨all⟩ true)::fk)) fs w) (lone (fb.atR a' fk) fs w'):=Steps.trans hsched (Steps.trans hst (.one stepR_region_end))
 ·have hq:q'=all.length:=by
   rcases hd.qeff with e|e
   ·exact e
   ·have h5:=hd.hi q' (Nat.le_refl _) e
    rw[hall q' e.lt]at h5;cases h5
  subst hq
  have hT:∀x,x<(τ.T 0).length→(q5k all τ.V S (τ.T 0)).getD x .undef=(τ.T all.length).getD x .undef:=fun x hx=>
   T_getD hτ (Nat.le_refl _) hx fun k hk _=>by rw[hall k hk];simp[hk]
  refine⟨p',a',w',?_,hd.defers,?_,hend⟩
  ·refine VRs.z5e (by rw[z06 hτ (Nat.le_refl _),←hd.size];simp) fun x v hv=>?_
   have hx:x<(τ.T 0).length:=by
    have:=(List.getElem?_eq_some_iff.1 hv).1
    rwa [z06 hτ (Nat.le_refl _)]at this
   have:=hd.tmps x hx
   rw[hT x hx,List.getD_eq_getElem?_getD,hv,Option.getD_some]at this
   refine⟨_,?_,this⟩
   have hxs:x<a'.tmps.size:=by rw[hd.size];exact hx
   rw[Array.getElem?_toList,Array.getElem?_eq_getElem hxs,Array.getD_eq_getD_getElem?,Array.getElem?_eq_getElem hxs]
   rfl
  ·have hd1:=hd.le
   have hd2:=hd.out
   have hd3:=hd.rel
   have hd4:=hd.keepA
   have hd5:=hd.dead
   have hd6:=hd.keepC
   have hd7:=hd.fresh
   have hd8:=hd.ro
   rw[h2]at hd2 hd4 hd5 hd6 hd7 hd8
   exact⟨hd1,hd2,by rw[←h2];exact q1f hcall hτ (Nat.zero_le _) (Nat.le_refl _),hd3,hd4,hd5,hd6,hd7,hd8,hd.wsize,hd.os,hd.output,hd.tape⟩
end
end
end Go.Abs
