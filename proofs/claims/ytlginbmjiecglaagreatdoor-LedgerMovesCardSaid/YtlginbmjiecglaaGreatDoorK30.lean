/- Texts of one claim, put together. -/
import Derived.Test.YtlginbmjiecglaaGreatDoorK0
import Derived.Test.YtlginbmjiecglaaGreatDoorK19
import Derived.Test.YtlginbmjiecglaaGreatDoorK29
namespace Go.Abs
section
open Go
theorem z5j {l:List AccV} {i:Nat} {a:AccV} (h:l[i]? = some a) (v:Wd) (n:List UInt8):sA n (l.set i {a with bal:=v})=sA n l+(if a.coin=n then v.val-a.bal.val else 0):=by
 unfold sA
 rw[z8p _ _ h]
 by_cases e:a.coin=n
 ·rw[if_pos e,if_pos e,if_pos e]
 ·rw[if_neg e,if_neg e,if_neg e];rfl
theorem LInv.su_set {st:LSt} (g:LInv st) {i:Nat} {p:PurseV} (hi:st.q0b[i]? = some p) {n:Wd} {az:List AccV} {qs:List PairV}
  (h:n.val-p.out.val+(sA p.name az-sA p.name st.q0n)+(sQ p.name qs-sQ p.name st.pairs)=0) (ho:∀k,k≠p.name→sA k az+sQ k qs=sA k st.q0n+sQ k st.pairs):∀x∈st.q0b.set i {p with out:=n},sumP qs az x=0:=by
 intro x hx
 obtain⟨j,hj⟩:=List.getElem?_of_mem hx
 have gp:=g.su p (List.mem_of_getElem? hi)
 unfold sumP at gp⊢
 rw[List.getElem?_set]at hj
 by_cases e:i=j
 ·subst e
  rw[if_pos rfl]at hj
  split at hj
  ·cases hj;simp only;omega
  ·cases hj
 ·rw[if_neg e]at hj
  have gx:=g.su x (List.mem_of_getElem? hj)
  unfold sumP at gx
  have:=ho x.name fun e2=>e (srt_inj q15 g.w.sp (k:=p.name) (by rw[List.getElem?_map,hi];rfl) (by rw[List.getElem?_map,hj];simp[e2]))
  omega
theorem LInv.z3l {st:LSt} (g:LInv st) {az:List AccV} {qs:List PairV} (ho:∀k,sA k az+sQ k qs=sA k st.q0n+sQ k st.pairs):∀x∈st.q0b,sumP qs az x=0:=fun x hx=>by
 have:=g.su x hx
 have:=ho x.name
 unfold sumP at *;omega
theorem LInv.new (most:Int) (h:1≤most∧most≤64):LInv ⟨[],[],[],0,most⟩ where
 w:={sp:=by simp[Srt],lp:=by simp,sq:=by simp[Srt],lq:=by simp,sa:=by simp[Srt],la:=by simp,okp:=by simp,okq:=by simp,oka:=by simp,lat:=by simp}
 am:=by simp;omega
 mo:=h
 a1:=by simp
 q1:=by simp
 su:=by simp
theorem coinF_inv {st:LSt} (g:LInv st) (name:List UInt8) {scale:Int} (h0:0≤scale):LInv (j27 st name scale).2:=by
 unfold j27
 split
 ·exact g
 split
 ·exact g
 split
 ·exact g
 split
 ·exact g
 rename_i h1 h2 h3 h4
 have hk:q1d q0c name (st.q0b.map (·.name))=false:=by simpa using h3
 have hn:name∉st.q0b.map (·.name):=has_not q15 g.w.sp hk
 obtain⟨i,hi⟩:∃i,i=lb q0c name (st.q0b.map (·.name)):=⟨_,rfl⟩
 have hl:i≤st.q0b.length:=by rw[hi];have:=z7s (lt:=q0c) name (st.q0b.map (·.name));rw[List.length_map]at this;exact this
 have hs:Srt q0c ((q47 i (PurseV.mk name scale ⟨0,0⟩) st.q0b).map (·.name)):=by
  rw[q55,hi];exact lb_srt q27 q8g g.w.sp hn
 rw[←hi]
 have gp:∀k,(st.q5l k).isSome=true→(LSt.q5l {st with q0b:=q47 i ⟨name,scale,⟨0,0⟩⟩ st.q0b} k).isSome=true:=fun k hk=>by
  rw[q4s g.w.sp]at hk
  rw[q4s hs]
  show k∈(q47 i (PurseV.mk name scale ⟨0,0⟩) st.q0b).map (·.name)
  rw[q55];exact insL_mem (.inr hk)
 have nc:∀k,(st.q5l k).isSome=true→k≠name:=fun k hk e=>hn (by rw[←e];exact(q4s g.w.sp).1 hk)
 exact {
  w:={sp:=hs,lp:=by show (q47 i (PurseV.mk name scale ⟨0,0⟩) st.q0b).length≤8;rw[z1m hl];omega
      sq:=g.w.sq,lq:=g.w.lq,sa:=g.w.sa,la:=g.w.la
      okp:=fun x hx=>by
       rcases z7w hx with rfl|hx
       ·exact⟨h0,by show scale≤18;omega,by unfold Wd.ok;simp,by simpa using h1⟩
       ·exact g.w.okp x hx
      okq:=fun q hq=>by have:=g.w.okq q hq;exact⟨this.1,this.2.1,this.2.2.1,this.2.2.2.1,gp _ this.2.2.2.2.1,gp _ this.2.2.2.2.2⟩
      oka:=fun a ha=>by have:=g.w.oka a ha;exact⟨this.1,this.2.1,this.2.2.1,gp _ this.2.2.2⟩
      lat:=g.w.lat}
  am:=g.am,mo:=g.mo,a1:=g.a1,q1:=g.q1
  su:=fun x hx=>by
   rcases z7w hx with rfl|hx
   ·unfold sumP
    have z1:sA name st.q0n=0:=z3n _ fun a ha=>if_neg (nc _ (g.w.oka a ha).2.2.2)
    have z2:sQ name st.pairs=0:=z3n _ fun q hq=>by rw[if_neg (nc _ (g.w.okq q hq).2.2.2.2.1),if_neg (nc _ (g.w.okq q hq).2.2.2.2.2)];rfl
    simp only[z1,z2];rfl
   ·exact g.su x hx}
theorem j1r {st:LSt} (g:LInv st) (name:List UInt8):LInv (j1q st name).2.2:=by
 unfold j1q
 split
 ·exact g
 split
 ·exact g
 rename_i h1 h2
 have hk:q1d q0c name (st.q0b.map (·.name))=true:=by simpa using h1
 have hp:=z7e.2 hk
 have l0:=g.w.lat
 exact {
  w:={sp:=g.w.sp,lp:=g.w.lp,sq:=g.w.sq,lq:=g.w.lq
      sa:=by
       show Srt q0f ((st.q0n++[AccV.mk (st.latest+1) name ⟨0,0⟩]).map (·.id))
       unfold Srt
       rw[List.map_append,List.pairwise_append]
       refine⟨g.w.sa,by simp,fun x hx y hy=>?_⟩
       obtain⟨a,ha,rfl⟩:=List.mem_map.1 hx
       simp only[List.map_cons,List.map_nil,List.mem_singleton]at hy
       subst hy
       have:=(g.w.oka a ha).2.2.1
       simp[q0f];omega
      la:=by show (st.q0n++[AccV.mk (st.latest+1) name ⟨0,0⟩]).length≤64;rw[List.length_append];have:=g.mo;simp;omega
      okp:=g.w.okp,okq:=g.w.okq
      oka:=fun a ha=>by
       have hx:a∈st.q0n++[AccV.mk (st.latest+1) name ⟨0,0⟩]:=ha
       rw[List.mem_append,List.mem_singleton]at hx
       rcases hx with hx|rfl
       ·have:=g.w.oka a hx;exact⟨this.1,this.2.1,by show a.id≤st.latest+1;omega,this.2.2.2⟩
       ·exact⟨by unfold Wd.ok;simp,by show 0≤st.latest+1;omega,Int.le_refl _,hp⟩
      lat:=by show 0≤st.latest+1∧st.latest+1≤72057594037927935;omega}
  am:=by show ((st.q0n++[AccV.mk (st.latest+1) name ⟨0,0⟩]).length:Int)≤st.most;rw[List.length_append];simp;omega
  mo:=g.mo
  a1:=fun a ha=>by
   have hx:a∈st.q0n++[AccV.mk (st.latest+1) name ⟨0,0⟩]:=ha
   rw[List.mem_append,List.mem_singleton]at hx
   rcases hx with hx|rfl
   ·exact g.a1 a hx
   ·exact⟨by show 1≤st.latest+1;omega,by show (0:Int)≤(Wd.mk 0 0).val;simp[Wd.val]⟩
  q1:=g.q1
  su:=g.z3l fun k=>by
   show sA k (st.q0n++[AccV.mk (st.latest+1) name ⟨0,0⟩])+_=_
   unfold sA
   rw[q6f]
   simp only[z4g,show (Wd.mk 0 0).val=0 from by simp[Wd.val],ite_self];omega}
theorem q6y {p:PurseV} {w:Wd} {s:Int} (h:q3b p w s=0):s=p.scale∧0<w.val:=by
 unfold q3b at h
 split at h
 ·omega
 ·split at h
  ·omega
  ·omega
theorem LSt.q2i {st:LSt} {id:Int} {a:AccV} (h:st.q7y id=some a):a.id=id∧st.q0n[st.iA a.id]? = some a:=by
 cases hk:q1d q0f id (st.q0n.map (·.id)) with
 |false=>rw[LSt.q3p hk]at h;cases h
 |true=>
  obtain⟨a',a1,a2,a3,_⟩:=LSt.q2q hk
  rw[h]at a1;cases a1
  exact⟨a2,by rw[a2];exact a3⟩
theorem LSt.j3q {st:LSt} {k:List UInt8} {p:PurseV} (h:st.q5l k=some p):p.name=k∧st.q0b[st.iP p.name]? = some p:=by
 cases hk:q1d q0c k (st.q0b.map (·.name)) with
 |false=>rw[LSt.q4h hk]at h;cases h
 |true=>
  obtain⟨a',a1,a2,a3,_⟩:=LSt.q2v hk
  rw[h]at a1;cases a1
  exact⟨a2,by rw[a2];exact a3⟩
theorem LSt.j3r {st:LSt} {k:List UInt8} {p:PairV} (h:st.getQ k=some p):p.key=k∧st.pairs[st.iQ p.key]? = some p∧q1d q0c k (st.pairs.map (·.key))=true:=by
 cases hk:q1d q0c k (st.pairs.map (·.key)) with
 |false=>rw[LSt.z2o hk]at h;cases h
 |true=>
  obtain⟨a',a1,a2,a3,_⟩:=LSt.q88 hk
  rw[h]at a1;cases a1
  exact⟨a2,by rw[a2];exact a3,rfl⟩
theorem q7l {x y w:Wd} (h:q4r x y w=true):q1c (x.val-w.val)=true∧q1c (y.val+w.val)=true:=by
 unfold q4r at h;rwa [Bool.and_eq_true]at h
theorem z0n {st:LSt} (g:LInv st) (id:Int) (x:Wd) (s:Int):LInv (q51 st id x s).2:=by
 unfold q51
 rcases LSt.q10 g.w id with ⟨e,_⟩|⟨a,p,e,ga,gp,hid,hka,hpn,hkp,ma,mp⟩
 ·rw[e];exact g
 ·rw[e]
  simp only[ne_eq,not_true_eq_false,if_false]
  split
  ·exact g
  split
  ·rename_i h1 h2
   obtain⟨f1,f2⟩:=q7l h2
   have hf:q3b p x s=0:=by simpa using h1
   have hx:=(q6y hf).2
   have ga2:=(LSt.q2i ga).2
   have gp2:=(LSt.j3q gp).2
   have h0:=(g.a1 a ma).2
   have g1:=g.toLGood.q25 ga2 (Wd.q44 f2) (by rw[Wd.q18];omega)
   have g2:=g1.setP (i:=st.iP p.name) (p:=p) gp2 (Wd.q44 f1)
   refine {toLGood:=g2,su:=?_}
   refine g.su_set gp2 (az:=st.q0n.set (st.iA a.id) {a with bal:=Wd.of (a.bal.val+x.val)}) (qs:=st.pairs) ?_ fun k hk=>?_
   ·rw[z5j ga2,Wd.q18,Wd.q18,if_pos hpn.symm];omega
   ·rw[z5j ga2,if_neg (fun e=>hk (by rw[←e,hpn]))];omega
  ·exact g
theorem z9i {st:LSt} (g:LInv st) (id:Int) (x:Wd) (s:Int):LInv (q46 st id x s).2:=by
 unfold q46
 rcases LSt.q10 g.w id with ⟨e,_⟩|⟨a,p,e,ga,gp,hid,hka,hpn,hkp,ma,mp⟩
 ·rw[e];exact g
 ·rw[e]
  simp only[ne_eq,not_true_eq_false,if_false]
  split
  ·exact g
  split
  ·exact g
  split
  ·rename_i h1 h3 h2
   obtain⟨f1,f2⟩:=q7l h2
   have ga2:=(LSt.q2i ga).2
   have gp2:=(LSt.j3q gp).2
   have g1:=g.toLGood.q25 ga2 (Wd.q44 f1) (by rw[Wd.q18];omega)
   have g2:=g1.setP (i:=st.iP p.name) (p:=p) gp2 (Wd.q44 f2)
   refine {toLGood:=g2,su:=?_}
   refine g.su_set gp2 (az:=st.q0n.set (st.iA a.id) {a with bal:=Wd.of (a.bal.val-x.val)}) (qs:=st.pairs) ?_ fun k hk=>?_
   ·rw[z5j ga2,Wd.q18,Wd.q18,if_pos hpn.symm];omega
   ·rw[z5j ga2,if_neg (fun e=>hk (by rw[←e,hpn]))];omega
  ·exact g
theorem LGood.setAA {st:LSt} (g:LGood st) {a a':AccV} {i j:Int} (ga:st.q7y i=some a) (ga':st.q7y j=some a') (hij:i≠j) {n n':Wd} (hn:n.ok) (hn':n'.ok) (h0:0≤n.val) (h0':0≤n'.val) :
  LGood ((st.q25 {a with bal:=n}).q25 {a' with bal:=n'})∧(∀k,sA k ((st.q25 {a with bal:=n}).q25 {a' with bal:=n'}).q0n=sA k st.q0n+(if a.coin=k then n.val-a.bal.val else 0)+(if a'.coin=k then n'.val-a'.bal.val else 0)):=by
 obtain⟨e1,g1⟩:=LSt.q2i ga
 obtain⟨e2,g2⟩:=LSt.q2i ga'
 have ne:st.iA a.id≠st.iA a'.id:=fun e=>by
  rw[e,g2]at g1;cases g1;exact hij (e1.symm.trans e2)
 have hka:q1d q0f a.id (st.q0n.map (·.id))=true:=by
  cases hk:q1d q0f a.id (st.q0n.map (·.id)) with
  |true=>rfl
  |false=>rw[←e1,LSt.q3p hk]at ga;cases ga
 have hi2:(st.q25 {a with bal:=n}).iA a'.id=st.iA a'.id:=by
  unfold LSt.iA
  rw[LSt.q39 (st:=st) (a:={a with bal:=n}) hka]
 have q2:(st.q25 {a with bal:=n}).q0n[st.iA a'.id]? = some a':=by
  show (st.q0n.set (st.iA a.id) _)[st.iA a'.id]? = _
  rw[List.getElem?_set_ne ne];exact g2
 have l1:LGood (st.q25 {a with bal:=n}):=g.q25 g1 hn h0
 have l2:=l1.q25 q2 hn' h0'
 refine⟨?_,fun k=>?_⟩
 ·show LGood {(st.q25 {a with bal:=n}) with q0n:=(st.q25 {a with bal:=n}).q0n.set ((st.q25 {a with bal:=n}).iA a'.id) {a' with bal:=n'}}
  rw[hi2];exact l2
 ·show sA k ((st.q25 {a with bal:=n}).q0n.set ((st.q25 {a with bal:=n}).iA a'.id) {a' with bal:=n'})=_
  rw[hi2,z5j q2]
  show sA k (st.q0n.set (st.iA a.id) {a with bal:=n})+_=_
  rw[z5j g1]
theorem q9s {st:LSt} (g:LInv st) (i j:Int) (x:Wd) (s:Int):LInv (q1n st i j x s).2:=by
 unfold q1n
 rcases LSt.q10 g.w i with ⟨e,_⟩|⟨a,p,e,ga,gp,hid,hka,hpn,hkp,ma,mp⟩
 ·rw[e];exact g
 ·rcases LSt.q10 g.w j with ⟨e',_⟩|⟨a',p',e',ga',gp',hid',hka',hpn',hkp',ma',mp'⟩
  ·rw[e,e'];exact g
  ·rw[e,e']
   simp only[ne_eq,not_true_eq_false,if_false]
   split
   ·exact g
   split
   ·exact g
   split
   ·exact g
   split
   ·exact g
   split
   ·rename_i h1 h2 h3 h4 h5
    obtain⟨f1,f2⟩:=q7l h5
    have hf:q3b p x s=0:=by simpa using h3
    have hx:=(q6y hf).2
    have hnn:p.name=p'.name:=by simpa using h2
    obtain⟨l1,l2⟩:=g.toLGood.setAA ga ga' h1 (Wd.q44 f1) (Wd.q44 f2) (by rw[Wd.q18];omega) (by rw[Wd.q18];have:=(g.a1 a' ma').2;omega)
    refine {toLGood:=l1,su:=g.z3l fun k=>?_}
    rw[l2,Wd.q18,Wd.q18,←hpn,←hpn',hnn]
    show _+sQ k st.pairs=_
    split<;>omega
   ·exact g
theorem sQ_set {l:List PairV} {i:Nat} {q:PairV} (h:l[i]? = some q) {q':PairV} (hx:q'.x=q.x) (hy:q'.y=q.y) (n:List UInt8) :
  sQ n (l.set i q')=sQ n l+(if q.x=n then q'.inx.val-q.inx.val else 0)+(if q.y=n then q'.outy.val-q.outy.val else 0):=by
 unfold sQ
 rw[z8p _ _ h]
 simp only[hx,hy]
 split<;>split<;>omega
theorem q9k {w:Wd} {s:Int} (h:q9j w s=0):q9l w s=true:=by
 unfold q9j at h
 unfold q9l
 split at h
 ·rename_i h1
  split at h
  ·exact dt ⟨h1,by assumption⟩
  ·omega
 ·omega
theorem rateF_inv {st:LSt} (g:LInv st) (x y:List UInt8) {r:Wd} (hr:r.ok) (s:Int):LInv (j39 st x y r s).2:=by
 unfold j39
 split
 ·exact g
 split
 ·exact g
 split
 ·exact g
 rename_i h1 h2 h3
 have hrr:=q9k (by simpa using h3)
 have hxs:(st.q5l x).isSome=true:=by cases e:(st.q5l x).isSome with|true=>rfl|false=>exact absurd (.inl e) h1
 have hys:(st.q5l y).isSome=true:=by cases e:(st.q5l y).isSome with|true=>rfl|false=>exact absurd (.inr e) h1
 cases hq:st.getQ (x++y) with
 |none=>
  obtain⟨l1,l2⟩:=g.toLGood.q8h (q:={z9l with x:=x,y:=y,rate:=r,rscale:=s}) ⟨⟨hr,hrr,by simp[z9l,Wd.ok],by simp[z9l,Wd.ok],hxs,hys⟩,h2,by simp[z9l,Wd.val],by simp[z9l,Wd.val]⟩
  have hk:q1d q0c (x++y) (st.pairs.map (·.key))=false:=by
   cases hk:q1d q0c (x++y) (st.pairs.map (·.key)) with
   |false=>rfl
   |true=>obtain⟨q,q1,_⟩:=LSt.q88 hk;rw[hq]at q1;cases q1
  refine {toLGood:=l1,su:=?_}
  rw[show (LSt.q8h st {(none.getD z9l) with x:=x,y:=y,rate:=r,rscale:=s}).pairs=_ from l2 hk]
  refine g.z3l fun k=>?_
  show sA k st.q0n+_=_
  unfold sQ
  rw[sumL_insL]
  simp only[z9l,show (Wd.mk 0 0).val=0 from by simp[Wd.val],ite_self];omega
 |some q=>
  obtain⟨e1,e2,e3⟩:=LSt.j3r hq
  have mq:=List.mem_of_getElem? e2
  have l3:=g.w.okq q mq
  have l4:=g.q1 q mq
  obtain⟨l1,_⟩:=g.toLGood.q8h (q:={q with x:=x,y:=y,rate:=r,rscale:=s}) ⟨⟨hr,hrr,l3.2.2.1,l3.2.2.2.1,hxs,hys⟩,h2,l4.2⟩
  refine {toLGood:=l1,su:=?_}
  have hlen:∀k,(st.q5l k).isSome=true→k.length=3:=fun k hk=>by
   have:=(q4s g.w.sp).1 hk
   obtain⟨p,hp,rfl⟩:=List.mem_map.1 this
   have:=(g.w.okp p hp).2.2.2
   unfold q66 at this
   simp only[Bool.and_eq_true,decide_eq_true_eq]at this
   exact this.2
  have hxy:q.x=x∧q.y=y:=List.append_inj e1 (by rw[hlen _ l3.2.2.2.2.1,hlen _ hxs])
  refine g.z3l fun k=>?_
  show sA k st.q0n+sQ k (if q1d q0c (x++y) (st.pairs.map (·.key))=true then _ else _)=_
  rw[if_pos e3]
  show sA k st.q0n+sQ k (st.pairs.set (st.iQ (x++y)) {q with x:=x,y:=y,rate:=r,rscale:=s})=_
  rw[←e1,sQ_set e2 (q':={q with x:=x,y:=y,rate:=r,rscale:=s}) hxy.1.symm hxy.2.symm]
  simp only[Int.sub_self,ite_self];omega
end
section
open Go
def q7i (n:Nat) (m:Mem) (s:AV) (l:List (List AV)):Prop:=
 (∀x∈l,x.length=n∧x.all AV.one=true)∧
 ((l=[]∧∃sz cap ex,s=.sl none sz 0 cap ex)∨
  ∃b o sz cap ex ro cs,s=.sl (some ⟨b,o⟩) sz l.length cap ex∧(n=sz∨ex=true)∧m.get b=some (.cells cs ro)∧o+l.length*n≤cs.length∧(cs.drop o).take (l.length*n)=l.flatten)
section
variable {n:Nat} {m m':Mem} {s:AV} {l:List (List AV)}
theorem q1s.v {rb:Option Nat} (h:q1s n m s l rb):q7i n m s l:=by
 have hl:=q2l h.lens
 rcases h with ⟨h0,⟨rfl,_,sz,ex,rfl⟩|⟨b,_,rfl,h3⟩⟩
 ·exact⟨h0,.inl ⟨rfl,_,_,_,rfl⟩⟩
 ·exact⟨h0,.inr ⟨b,0,_,_,_,_,_,rfl,.inl rfl,h3,by omega,by rw[List.drop_zero,List.take_of_length_le (by omega)]⟩⟩
theorem q7i.lens (h:q7i n m s l):∀x∈l,x.length=n:=fun x hx=>(h.1 x hx).1
theorem q7i.frameN {S:List Nat} (h:q7i n m s l) (hf:Fr m m' S) (hS:∀c,c∈S→m.next≤c):q7i n m' s l:=by
 rcases h with ⟨h0,h|⟨b,o,sz,cap,ex,ro,cs,h1,h2,h3,h4⟩⟩
 ·exact⟨h0,.inl h⟩
 ·exact⟨h0,.inr ⟨b,o,sz,cap,ex,ro,cs,h1,h2,hf.get h3 (fun hc=>by have:=hS b hc;have:=Mem.q0w h3;omega),h4⟩⟩
theorem q7i.q0p (h:q7i n m s l) (hf:Fr m m' []):q7i n m' s l:=h.frameN hf (by simp)
theorem q7i.len (h:q7i n m s l):∃a sz cap ex,s=.sl a sz l.length cap ex:=by
 rcases h with ⟨_,⟨rfl,sz,cap,ex,rfl⟩|⟨b,o,sz,cap,ex,_,_,rfl,_⟩⟩
 ·exact⟨_,_,_,_,rfl⟩
 ·exact⟨_,_,_,_,rfl⟩
theorem q7i.one (h:q7i n m s l):s.one=true:=by
 obtain⟨a,sz,cap,ex,rfl⟩:=h.len;rfl
theorem q7i.ones (h:q7i n m s l):l.flatten.all AV.one=true:=z2g fun x hx=>(h.1 x hx).2
theorem q7i.fld (h:q7i n m s l) {i:Nat} (hi:i<l.length) :
  ∃b o sz cap ex,s=.sl (some ⟨b,o⟩) sz l.length cap ex∧(n=sz∨ex=true)∧b<m.next∧ixA n l.length ⟨b,o⟩ (i:Int)=some (.ptr (some ⟨b,o+i*n⟩))∧(∀k,k<n→ld1 m (.ptr (some ⟨b,o+i*n+k⟩))=l[i][k]?)∧
   (∀k j,k+j≤n→ldN m (.ptr (some ⟨b,o+i*n+k⟩)) j=some (.agg ((l[i].drop k).take j)))∧ldN m (.ptr (some ⟨b,o+i*n⟩)) n=some (.agg l[i]):=by
 have hl:=h.lens
 rcases h with ⟨h0,⟨rfl,_⟩|⟨b,o,sz,cap,ex,ro,cs,rfl,h2,h3,h4,h5⟩⟩
 ·simp at hi
 ·have hli:l[i].length=n:=hl _ (List.getElem_mem hi)
  have hle:(i+1)*n≤l.length*n:=Nat.mul_le_mul_right n hi
  rw[Nat.succ_mul]at hle
  have hd:l.flatten.drop (i*n)=l[i]++(l.drop (i+1)).flatten:=by
   rw[q3o i hl,List.drop_eq_getElem_cons hi,List.flatten_cons]
  have key:∀k,k<n→cs[o+i*n+k]? = l[i][k]?:=fun k hk=>by
   have e1:((cs.drop o).take (l.length*n))[i*n+k]? = cs[o+i*n+k]?:=by
    rw[List.getElem?_take,if_pos (by omega),List.getElem?_drop,Nat.add_assoc]
   rw[←e1,h5,←List.getElem?_drop,hd,List.getElem?_append_left (by omega)]
  have seg:∀k j,k+j≤n→(cs.drop (o+i*n+k)).take j=(l[i].drop k).take j:=fun k j hkj=>by
   apply List.ext_getElem?
   intro t
   rw[List.getElem?_take,List.getElem?_take]
   split
   ·rw[List.getElem?_drop,List.getElem?_drop,Nat.add_assoc,key _ (by omega)]
   ·rfl
  refine⟨b,o,sz,cap,ex,rfl,h2,Mem.q0w h3,by simp[ixA,hi],fun k hk=>?_,fun k j hkj=>?_,?_⟩
  ·rw[q0j h3,key k hk]
  ·rw[q1v h3 (by omega),seg k j hkj]
  ·have:=seg 0 n (by omega)
   rw[Nat.add_zero,List.drop_zero,List.take_of_length_le (l:=l[i]) (by omega)]at this
   rw[q1v h3 (by omega),this]
theorem q7i.src (h:q7i n m s l):q68 n s m=some (l.length,l.flatten):=by
 have hfl:=q2l h.lens
 rcases h with ⟨h0,⟨rfl,sz,cap,ex,rfl⟩|⟨b,o,sz,cap,ex,ro,cs,rfl,h2,h3,h4,h5⟩⟩
 ·rfl
 ·simp only[q68,q07,h3]
  rw[if_pos (h2.imp Eq.symm id),if_pos h4,h5];rfl
end
def q6o (ok:Nat→Bool):Nat→Nat→Bool
 | 0,_=>true
 |d+1,i=>ok i&&q6o ok d (i+1)
theorem q7j (ok:Nat→Bool):∀(d i:Nat),q6o ok d i=true↔∀j,i≤j→j<i+d→ok j=true
 | 0,i=>by simp[q6o];omega
 |d+1,i=>by
  rw[q6o,Bool.and_eq_true,q7j ok d (i+1)]
  constructor
  ·rintro⟨h1,h2⟩ j h3 h4
   by_cases e:j=i
   ·subst e;exact h1
   ·exact h2 j (by omega) (by omega)
  ·intro h
   exact⟨h i (Nat.le_refl _) (by omega),fun j h3 h4=>h j (by omega) (by omega)⟩
theorem Res.eq' {m M:Mem} {v w:AV} (h:Fr m M []) (e:v=w):Res m (some (v,M)) w:=Res.eq h e
theorem Res.step {m m1:Mem} {r:R} {v:AV} (h:Fr m m1 []) (h':Res m1 r v):Res m r v:=by
 obtain⟨m',e,f⟩:=h'
 exact⟨m',e,h.step0 f⟩
structure BkV (m:Mem) (sp sq sa:AV) (st:LSt):Prop where
 p:q7i 4 m sp (st.q0b.map (·.cells))
 q:q7i 9 m sq (st.pairs.map (·.cells))
 a:q7i 4 m sa (st.q0n.map (·.cells))
theorem BkV.q0p {m m':Mem} {sp sq sa:AV} {st:LSt} (h:BkV m sp sq sa st) (hf:Fr m m' []):BkV m' sp sq sa st:=⟨h.p.q0p hf,h.q.q0p hf,h.a.q0p hf⟩
theorem BkV.one {m:Mem} {sp sq sa:AV} {st:LSt} (h:BkV m sp sq sa st) (n:Int):[sp,sq,sa,.int .u64 n].all AV.one=true:=by
 rw[List.all_cons,List.all_cons,List.all_cons,h.p.one,h.q.one,h.a.one];rfl
theorem RefAt.v {m:Mem} {b:Nat} {st:LSt} {F:List Nat} (h:RefAt m b st F):∃sp sq sa,m.get b=some (.cells [sp,sq,sa,.int .u64 st.latest,.int .i64 st.most] false)∧BkV m sp sq sa st:=by
 obtain⟨sp,sq,sa,rp,rq,ra,h1,h2,h3,h4,_⟩:=h.ex
 exact⟨sp,sq,sa,h1,h2.v,h3.v,h4.v⟩
theorem on1:(∀(k:IntKind) (n:Int),(AV.int k n).one=true)∧(∀s:List UInt8,(AV.str s).one=true)∧(∀b:Bool,(AV.bool b).one=true)∧(∀a:Option AA,(AV.ptr a).one=true)∧(∀(a:Option AA) (s n c:Nat) (e:Bool),(AV.sl a s n c e).one=true):=⟨fun _ _=>rfl,fun _=>rfl,fun _=>rfl,fun _=>rfl,fun _ _ _ _ _=>rfl⟩
end
end Go.Abs
namespace Go.Proofs.YtlginbmjiecglaaGreatDoor
section
set_option maxRecDepth 4000
open Go Go.Abs
theorem pur_neq (p q:PurseV):q1e Tryz.prog .neq 56 (.agg p.cells) (.agg q.cells)=some (.bool (!decide (p=q))):=by
 obtain⟨a,b,⟨c,d⟩⟩:=p
 obtain⟨a',b',⟨c',d'⟩⟩:=q
 have h:eqA Tryz.prog 50 56 (.agg [.str a,.int .i64 b,.int .i64 c,.int .u64 d]) (.agg [.str a',.int .i64 b',.int .i64 c',.int .u64 d'])=(match (a==a') with|true=>(match (b==b') with|true=>(match (match (c==c') with|true=>(match (d==d') with|true=>some true|false=>some false)|false=>some false) with|some true=>some true|some false=>some false|none=>none)|false=>some false)|false=>some false):=by kernel_rfl
 have h2:q1e Tryz.prog .neq 56 (.agg [.str a,.int .i64 b,.int .i64 c,.int .u64 d]) (.agg [.str a',.int .i64 b',.int .i64 c',.int .u64 d'])=(match eqA Tryz.prog 50 56 (.agg [.str a,.int .i64 b,.int .i64 c,.int .u64 d]) (.agg [.str a',.int .i64 b',.int .i64 c',.int .u64 d']) with|some b=>some (.bool (!b))|none=>none):=by kernel_rfl
 have k:decide (PurseV.mk a b ⟨c,d⟩=PurseV.mk a' b' ⟨c',d'⟩)=((a==a')&&((b==b')&&((c==c')&&(d==d')))):=by
  rw[q90,Bool.eq_iff_iff];simp
 simp only[PurseV.cells]
 rw[h2,h,k]
 cases (a==a')<;>cases (b==b')<;>cases (c==c')<;>cases (d==d')<;>rfl
theorem acc_neq (p q:AccV):q1e Tryz.prog .neq 54 (.agg p.cells) (.agg q.cells)=some (.bool (!decide (p=q))):=by
 obtain⟨a,b,⟨c,d⟩⟩:=p
 obtain⟨a',b',⟨c',d'⟩⟩:=q
 have h:eqA Tryz.prog 50 54 (.agg [.int .u64 a,.str b,.int .i64 c,.int .u64 d]) (.agg [.int .u64 a',.str b',.int .i64 c',.int .u64 d'])=(match (a==a') with|true=>(match (b==b') with|true=>(match (match (c==c') with|true=>(match (d==d') with|true=>some true|false=>some false)|false=>some false) with|some true=>some true|some false=>some false|none=>none)|false=>some false)|false=>some false):=by kernel_rfl
 have h2:q1e Tryz.prog .neq 54 (.agg [.int .u64 a,.str b,.int .i64 c,.int .u64 d]) (.agg [.int .u64 a',.str b',.int .i64 c',.int .u64 d'])=(match eqA Tryz.prog 50 54 (.agg [.int .u64 a,.str b,.int .i64 c,.int .u64 d]) (.agg [.int .u64 a',.str b',.int .i64 c',.int .u64 d']) with|some b=>some (.bool (!b))|none=>none):=by kernel_rfl
 have k:decide (AccV.mk a b ⟨c,d⟩=AccV.mk a' b' ⟨c',d'⟩)=((a==a')&&((b==b')&&((c==c')&&(d==d')))):=by
  rw[q90,Bool.eq_iff_iff];simp
 simp only[AccV.cells]
 rw[h2,h,k]
 cases (a==a')<;>cases (b==b')<;>cases (c==c')<;>cases (d==d')<;>rfl
theorem pai_neq (p q:PairV):q1e Tryz.prog .neq 74 (.agg p.cells) (.agg q.cells)=some (.bool (!decide (p=q))):=by
 obtain⟨x,y,⟨a,b⟩,s,⟨c,d⟩,⟨e,f⟩⟩:=p
 obtain⟨x',y',⟨a',b'⟩,s',⟨c',d'⟩,⟨e',f'⟩⟩:=q
 have h:eqA Tryz.prog 50 74 (.agg [.str x,.str y,.int .i64 a,.int .u64 b,.int .i64 s,.int .i64 c,.int .u64 d,.int .i64 e,.int .u64 f]) (.agg [.str x',.str y',.int .i64 a',.int .u64 b',.int .i64 s',.int .i64 c',.int .u64 d',.int .i64 e',.int .u64 f']) =
  (match (x==x') with|true=>(match (y==y') with|true=>(match (match (match (a==a') with|true=>(match (b==b') with|true=>some true|false=>some false)|false=>some false) with|some true=>(match (s==s') with|true=>some true|false=>some false)|some false=>some false|none=>none) with|some true=>(match (match (c==c') with|true=>(match (d==d') with|true=>some true|false=>some false)|false=>some false) with|some true=>(match (match (e==e') with|true=>(match (f==f') with|true=>some true|false=>some false)|false=>some false) with|some true=>some true|some false=>some false|none=>none)|some false=>some false|none=>none)|some false=>some false|none=>none)|false=>some false)|false=>some false):=by kernel_rfl
 have h2:q1e Tryz.prog .neq 74 (.agg [.str x,.str y,.int .i64 a,.int .u64 b,.int .i64 s,.int .i64 c,.int .u64 d,.int .i64 e,.int .u64 f]) (.agg [.str x',.str y',.int .i64 a',.int .u64 b',.int .i64 s',.int .i64 c',.int .u64 d',.int .i64 e',.int .u64 f'])=(match eqA Tryz.prog 50 74 (.agg [.str x,.str y,.int .i64 a,.int .u64 b,.int .i64 s,.int .i64 c,.int .u64 d,.int .i64 e,.int .u64 f]) (.agg [.str x',.str y',.int .i64 a',.int .u64 b',.int .i64 s',.int .i64 c',.int .u64 d',.int .i64 e',.int .u64 f']) with|some b=>some (.bool (!b))|none=>none):=by kernel_rfl
 have k:decide (PairV.mk x y ⟨a,b⟩ s ⟨c,d⟩ ⟨e,f⟩=PairV.mk x' y' ⟨a',b'⟩ s' ⟨c',d'⟩ ⟨e',f'⟩)=((x==x')&&((y==y')&&(((a==a')&&(b==b'))&&((s==s')&&(((c==c')&&(d==d'))&&((e==e')&&(f==f'))))))):=by
  rw[q90,q90,Bool.eq_iff_iff];simp[and_assoc]
 simp only[PairV.cells]
 rw[h2,h,k]
 cases (x==x')
 ·rfl
 cases (y==y')
 ·rfl
 cases (a==a')
 ·rfl
 cases (b==b')
 ·rfl
 cases (s==s')
 ·rfl
 cases (c==c')<;>cases (d==d')<;>cases (e==e')<;>cases (f==f')<;>rfl
def z8k (s t:LSt):Bool:=decide (s.q0b=t.q0b)&&decide (s.pairs=t.pairs)&&decide (s.q0n=t.q0n)&&decide (s.latest=t.latest)
def eqAt {α:Type} [DecidableEq α] (l k:List α) (i:Nat):Bool:=decide (l[i]? = k[i]?)
theorem j2v {α:Type} [DecidableEq α] {l k:List α} (h:l.length=k.length):q6o (eqAt l k) l.length 0=decide (l=k):=by
 rw[Bool.eq_iff_iff,q7j,decide_eq_true_iff]
 constructor
 ·intro h'
  apply List.ext_getElem?
  intro i
  by_cases hi:i<l.length
  ·exact of_decide_eq_true (h' i (by omega) (by omega))
  ·rw[List.getElem?_eq_none (by omega),List.getElem?_eq_none (by omega)]
 ·rintro rfl j _ _
  exact dt rfl
section
variable {m:Mem} {x y:Nat} {sp sq sa tp tq ta:AV} {s t:LSt}
theorem sameP_loop (hx:m.get x=some (.cells [sp,sq,sa,.int .u64 s.latest] false)) (hy:m.get y=some (.cells [tp,tq,ta,.int .u64 t.latest] false)) (hs:BkV m sp sq sa s) (ht:BkV m tp tq ta t) (hn:s.q0b.length≤1000000000000000000) (hl:s.q0b.length=t.q0b.length) :
  ∀(d i:Nat),i+d=s.q0b.length→D22.gor 61441 [.ptr (some ⟨x,0⟩),.ptr (some ⟨y,0⟩),.int .i64 (i:Int)] m=if q6o (eqAt s.q0b t.q0b) d i=true then D22.gor 61444 [.ptr (some ⟨x,0⟩),.ptr (some ⟨y,0⟩)] m else some (.bool false,m):=by
 have a3:∀i:Nat,ld1 m (.ptr (some ⟨x,i⟩))=[sp,sq,sa,.int .u64 s.latest][i]?:=fun i=>q0j hx
 have b3:∀i:Nat,ld1 m (.ptr (some ⟨y,i⟩))=[tp,tq,ta,.int .u64 t.latest][i]?:=fun i=>q0j hy
 intro d
 induction d with
 |zero=>
  intro i hi
  have:i=s.q0b.length:=by omega
  subst this
  obtain⟨a,sz,cap,ex,e⟩:=hs.p.len
  rw[List.length_map]at e
  subst e
  simp only[q6o,if_true]
  simp only[j51 (H:=H22),T.g15_1,p1,q1,p2,q0a,w_g15_1,a3,df (show ¬((s.q0b.length:Nat):Int)<(s.q0b.length:Int) by omega)]
 |succ d ih=>
  intro i hi
  obtain⟨b,o,sz,cap,ex,e,z,_,e2,_,_,e3⟩:=hs.p.fld (i:=i) (by rw[List.length_map];omega)
  obtain⟨b',o',sz',cap',ex',e',z',_,e2',_,_,e3'⟩:=ht.p.fld (i:=i) (by rw[List.length_map];omega)
  rw[List.length_map]at e e2 e' e2'
  rw[List.getElem_map]at e3 e3'
  subst e e'
  have ne:=pur_neq (s.q0b[i]'(by omega)) (t.q0b[i]'(by omega))
  have hd:eqAt s.q0b t.q0b i=decide (s.q0b[i]'(by omega)=t.q0b[i]'(by omega)):=by unfold eqAt;rw[List.getElem?_eq_getElem (by omega),List.getElem?_eq_getElem (by omega)];simp
  rw[q6o,hd]
  simp only[j51 (H:=H22),T.g15_1,p1,q1,p2,q0a,w_g15_1,a3,dt (show (i:Int)<(s.q0b.length:Int) by omega)]
  simp only[g15_2_is (H:=H22),T.g15_2,p1,q1,p2,q0a,w_g15_2,a3,b3,eq_true z,eq_true z',if_true,e2,e2',e3,e3',ne]
  by_cases hp:s.q0b[i]'(by omega)=t.q0b[i]'(by omega)
  ·simp only[dt hp,Bool.not_true,Bool.true_and]
   simp only[g15_3_is (H:=H22),T.g15_3,p2,w_g15_3,show (i:Int)+1=((i+1:Nat):Int) by omega,wrap_i64 (n:=((i+1:Nat):Int)) (by omega) (by omega)]
   exact ih (i+1) (by omega)
  ·simp only[df hp,Bool.not_false,Bool.false_and,Bool.false_eq_true,if_false]
theorem sameQ_loop (hx:m.get x=some (.cells [sp,sq,sa,.int .u64 s.latest] false)) (hy:m.get y=some (.cells [tp,tq,ta,.int .u64 t.latest] false)) (hs:BkV m sp sq sa s) (ht:BkV m tp tq ta t) (hn:s.pairs.length≤1000000000000000000) (hl:s.pairs.length=t.pairs.length) :
  ∀(d i:Nat),i+d=s.pairs.length→D22.gor 61445 [.ptr (some ⟨x,0⟩),.ptr (some ⟨y,0⟩),.int .i64 (i:Int)] m=if q6o (eqAt s.pairs t.pairs) d i=true then D22.gor 61448 [.ptr (some ⟨x,0⟩),.ptr (some ⟨y,0⟩)] m else some (.bool false,m):=by
 have a3:∀i:Nat,ld1 m (.ptr (some ⟨x,i⟩))=[sp,sq,sa,.int .u64 s.latest][i]?:=fun i=>q0j hx
 have b3:∀i:Nat,ld1 m (.ptr (some ⟨y,i⟩))=[tp,tq,ta,.int .u64 t.latest][i]?:=fun i=>q0j hy
 intro d
 induction d with
 |zero=>
  intro i hi
  have:i=s.pairs.length:=by omega
  subst this
  obtain⟨a,sz,cap,ex,e⟩:=hs.q.len
  rw[List.length_map]at e
  subst e
  simp only[q6o,if_true]
  simp only[j52 (H:=H22),T.g15_5,p1,q1,p2,q0a,w_g15_5,a3,df (show ¬((s.pairs.length:Nat):Int)<(s.pairs.length:Int) by omega)]
 |succ d ih=>
  intro i hi
  obtain⟨b,o,sz,cap,ex,e,z,_,e2,_,_,e3⟩:=hs.q.fld (i:=i) (by rw[List.length_map];omega)
  obtain⟨b',o',sz',cap',ex',e',z',_,e2',_,_,e3'⟩:=ht.q.fld (i:=i) (by rw[List.length_map];omega)
  rw[List.length_map]at e e2 e' e2'
  rw[List.getElem_map]at e3 e3'
  subst e e'
  have ne:=pai_neq (s.pairs[i]'(by omega)) (t.pairs[i]'(by omega))
  have hd:eqAt s.pairs t.pairs i=decide (s.pairs[i]'(by omega)=t.pairs[i]'(by omega)):=by unfold eqAt;rw[List.getElem?_eq_getElem (by omega),List.getElem?_eq_getElem (by omega)];simp
  rw[q6o,hd]
  simp only[j52 (H:=H22),T.g15_5,p1,q1,p2,q0a,w_g15_5,a3,dt (show (i:Int)<(s.pairs.length:Int) by omega)]
  simp only[g15_6_is (H:=H22),T.g15_6,p1,q1,p2,q0a,w_g15_6,a3,b3,eq_true z,eq_true z',if_true,e2,e2',e3,e3',ne]
  by_cases hp:s.pairs[i]'(by omega)=t.pairs[i]'(by omega)
  ·simp only[dt hp,Bool.not_true,Bool.true_and]
   simp only[g15_7_is (H:=H22),T.g15_7,p2,w_g15_7,show (i:Int)+1=((i+1:Nat):Int) by omega,wrap_i64 (n:=((i+1:Nat):Int)) (by omega) (by omega)]
   exact ih (i+1) (by omega)
  ·simp only[df hp,Bool.not_false,Bool.false_and,Bool.false_eq_true,if_false]
theorem sameA_loop (hx:m.get x=some (.cells [sp,sq,sa,.int .u64 s.latest] false)) (hy:m.get y=some (.cells [tp,tq,ta,.int .u64 t.latest] false)) (hs:BkV m sp sq sa s) (ht:BkV m tp tq ta t) (hn:s.q0n.length≤1000000000000000000) (hl:s.q0n.length=t.q0n.length) :
  ∀(d i:Nat),i+d=s.q0n.length→D22.gor 61449 [.ptr (some ⟨x,0⟩),.ptr (some ⟨y,0⟩),.int .i64 (i:Int)] m=some (.bool (q6o (eqAt s.q0n t.q0n) d i),m):=by
 have a3:∀i:Nat,ld1 m (.ptr (some ⟨x,i⟩))=[sp,sq,sa,.int .u64 s.latest][i]?:=fun i=>q0j hx
 have b3:∀i:Nat,ld1 m (.ptr (some ⟨y,i⟩))=[tp,tq,ta,.int .u64 t.latest][i]?:=fun i=>q0j hy
 intro d
 induction d with
 |zero=>
  intro i hi
  have:i=s.q0n.length:=by omega
  subst this
  obtain⟨a,sz,cap,ex,e⟩:=hs.a.len
  rw[List.length_map]at e
  subst e
  simp only[q6o]
  simp only[j53 (H:=H22),T.g15_9,p1,q1,p2,q0a,w_g15_9,a3,df (show ¬((s.q0n.length:Nat):Int)<(s.q0n.length:Int) by omega),g15_12_is (H:=H22),T.g15_12,w_g15_12]
 |succ d ih=>
  intro i hi
  obtain⟨b,o,sz,cap,ex,e,z,_,e2,_,_,e3⟩:=hs.a.fld (i:=i) (by rw[List.length_map];omega)
  obtain⟨b',o',sz',cap',ex',e',z',_,e2',_,_,e3'⟩:=ht.a.fld (i:=i) (by rw[List.length_map];omega)
  rw[List.length_map]at e e2 e' e2'
  rw[List.getElem_map]at e3 e3'
  subst e e'
  have ne:=acc_neq (s.q0n[i]'(by omega)) (t.q0n[i]'(by omega))
  have hd:eqAt s.q0n t.q0n i=decide (s.q0n[i]'(by omega)=t.q0n[i]'(by omega)):=by unfold eqAt;rw[List.getElem?_eq_getElem (by omega),List.getElem?_eq_getElem (by omega)];simp
  rw[q6o,hd]
  simp only[j53 (H:=H22),T.g15_9,p1,q1,p2,q0a,w_g15_9,a3,dt (show (i:Int)<(s.q0n.length:Int) by omega)]
  simp only[g15_10_is (H:=H22),T.g15_10,p1,q1,p2,q0a,w_g15_10,a3,b3,eq_true z,eq_true z',if_true,e2,e2',e3,e3',ne]
  by_cases hp:s.q0n[i]'(by omega)=t.q0n[i]'(by omega)
  ·simp only[dt hp,Bool.not_true,Bool.true_and]
   simp only[g15_11_is (H:=H22),T.g15_11,p2,w_g15_11,show (i:Int)+1=((i+1:Nat):Int) by omega,wrap_i64 (n:=((i+1:Nat):Int)) (by omega) (by omega)]
   exact ih (i+1) (by omega)
  ·simp only[df hp,Bool.not_false,Bool.false_and]
def j2h (s:LSt):Prop:=s.q0b.length≤1000000000000000000∧s.pairs.length≤1000000000000000000∧s.q0n.length≤1000000000000000000
theorem same_is (hs:BkV m sp sq sa s) (ht:BkV m tp tq ta t) (hn:j2h s) :
  Res m (run E22 (.fn 15) [.agg [sp,sq,sa,.int .u64 s.latest],.agg [tp,tq,ta,.int .u64 t.latest]] m) (.bool (z8k s t)):=by
 obtain⟨n1,n2,n3⟩:=hn
 obtain⟨M,hM⟩:∃M,M=(m.lay (.cells [sp,sq,sa,.int .u64 s.latest] false)).lay (.cells [tp,tq,ta,.int .u64 t.latest] false):=⟨_,rfl⟩
 have fM:Fr m M []:=by rw[hM];(repeat apply Fr.lays);exact Fr.refl _
 have hx:M.get m.next=some (.cells [sp,sq,sa,.int .u64 s.latest] false):=by rw[hM];simp only[Mem.q04,Mem.q00,nn1,if_true,if_false]
 have hy:M.get (m.next+1)=some (.cells [tp,tq,ta,.int .u64 t.latest] false):=by rw[hM];simp[Mem.q04]
 have a3:∀i:Nat,ld1 M (.ptr (some ⟨m.next,i⟩))=[sp,sq,sa,.int .u64 s.latest][i]?:=fun i=>q0j hx
 have b3:∀i:Nat,ld1 M (.ptr (some ⟨m.next+1,i⟩))=[tp,tq,ta,.int .u64 t.latest][i]?:=fun i=>q0j hy
 have lp:=sameP_loop hx hy (hs.q0p fM) (ht.q0p fM) n1
 have lq:=sameQ_loop hx hy (hs.q0p fM) (ht.q0p fM) n2
 have la:=sameA_loop hx hy (hs.q0p fM) (ht.q0p fM) n3
 obtain⟨x1,x2,x3,x4,e1⟩:=hs.p.len
 obtain⟨x5,x6,x7,x8,e2⟩:=hs.q.len
 obtain⟨x9,x10,x11,x12,e3⟩:=hs.a.len
 obtain⟨y1,y2,y3,y4,f1⟩:=ht.p.len
 obtain⟨y5,y6,y7,y8,f2⟩:=ht.q.len
 obtain⟨y9,y10,y11,y12,f3⟩:=ht.a.len
 rw[List.length_map]at e1 e2 e3 f1 f2 f3
 subst e1 e2 e3 f1 f2 f3
 have done:∀{b:Bool},b=z8k s t→Res m (some (.bool b,M)) (.bool (z8k s t)):=fun h=>Res.eq fM (by rw[h])
 have fal:∀(h:s.q0b≠t.q0b∨s.pairs≠t.pairs∨s.q0n≠t.q0n∨s.latest≠t.latest),false=z8k s t:=fun h=>by
  unfold z8k
  rcases h with h|h|h|h
  ·rw[df h];rfl
  ·rw[df h];simp
  ·rw[df h];simp
  ·rw[df h];simp
 simp only[f15_is (H:=H22) rfl,T.f15,p1,q1,p2,q1h,q0a,ifV,w_f15,AV.cells,AV.one,lcs,ge,if_true,Option.map_some,Mem.q00,←hM,a3,b3]
 by_cases h1:s.q0b.length=t.q0b.length
 ·by_cases h2:s.pairs.length=t.pairs.length
  ·by_cases h3:s.q0n.length=t.q0n.length
   ·by_cases h4:s.latest=t.latest
    ·simp only[show (s.q0b.length:Int)=(t.q0b.length:Int) by omega,show (s.pairs.length:Int)=(t.pairs.length:Int) by omega,show (s.q0n.length:Int)=(t.q0n.length:Int) by omega,h4,decide_true,Bool.not_true]
     have l1:=lp h1 s.q0b.length 0 (by omega)
     have l2:=lq h2 s.pairs.length 0 (by omega)
     have l3:=la h3 s.q0n.length 0 (by omega)
     rw[j2v h1]at l1
     rw[j2v h2]at l2
     rw[j2v h3]at l3
     simp only[Int.natCast_zero]at l1 l2 l3
     simp only[g15_0_is (H:=H22),T.g15_0,w_g15_0,l1]
     by_cases g1:s.q0b=t.q0b
     ·rw[if_pos (dt g1)]
      simp only[g15_4_is (H:=H22),T.g15_4,w_g15_4,l2]
      by_cases g2:s.pairs=t.pairs
      ·rw[if_pos (dt g2)]
       simp only[g15_8_is (H:=H22),T.g15_8,w_g15_8,l3]
       exact done (by unfold z8k;rw[dt g1,dt g2,dt h4];simp)
      ·rw[if_neg (by simpa using g2)]
       exact done (fal (.inr (.inl g2)))
     ·rw[if_neg (by simpa using g1)]
      exact done (fal (.inl g1))
    ·simp only[show (s.q0b.length:Int)=(t.q0b.length:Int) by omega,show (s.pairs.length:Int)=(t.pairs.length:Int) by omega,show (s.q0n.length:Int)=(t.q0n.length:Int) by omega,df h4,decide_true,Bool.not_true,Bool.not_false]
     exact done (fal (.inr (.inr (.inr h4))))
   ·simp only[show (s.q0b.length:Int)=(t.q0b.length:Int) by omega,show (s.pairs.length:Int)=(t.pairs.length:Int) by omega,df (show ¬(s.q0n.length:Int)=(t.q0n.length:Int) by omega),decide_true,Bool.not_true,Bool.not_false]
    exact done (fal (.inr (.inr (.inl fun e=>h3 (by rw[e])))))
  ·simp only[show (s.q0b.length:Int)=(t.q0b.length:Int) by omega,df (show ¬(s.pairs.length:Int)=(t.pairs.length:Int) by omega),decide_true,Bool.not_true,Bool.not_false]
   exact done (fal (.inr (.inl fun e=>h2 (by rw[e]))))
 ·simp only[df (show ¬(s.q0b.length:Int)=(t.q0b.length:Int) by omega),Bool.not_false]
  exact done (fal (.inl fun e=>h1 (by rw[e])))
end
end
end Go.Proofs.YtlginbmjiecglaaGreatDoor
namespace Go.Abs
section
open Go
section
variable {P:Program} {t e:TypeId} {n:Nat} {m:Mem} {s:AV} {l:List (List AV)}
theorem q7i.q4n (ht:P.underlying t=some (.slice e)) (h:q7i n m s l):q4n P t s=some (.int .i64 (l.length:Int)):=by
 obtain⟨a,sz,cap,ex,rfl⟩:=h.len
 exact j1f ht ..
theorem q7i.ixT (ht:P.underlying t=some (.slice e)) (hs:szT P e=some n) (h:q7i n m s l) {i:Nat} (hi:i<l.length) :
  ∃b o,b<m.next∧(∀k:IntKind,q09 P t s (.int k (i:Int))=some (.ptr (some ⟨b,o⟩)))∧(∀k,k<n→ld1 m (.ptr (some ⟨b,o+k⟩))=l[i][k]?)∧(∀k j,k+j≤n→ldN m (.ptr (some ⟨b,o+k⟩)) j=some (.agg ((l[i].drop k).take j)))∧ldN m (.ptr (some ⟨b,o⟩)) n=some (.agg l[i]):=by
 obtain⟨b,o,sz,cap,ex,e1,e2,e3,e4,e5,e6,e7⟩:=h.fld hi
 refine⟨b,o+i*n,e3,fun k=>?_,e5,e6,e7⟩
 subst e1
 unfold q09
 simp only[ht,hs]
 rw[if_pos e2]
 exact e4
theorem q1s.ixT (ht:P.underlying t=some (.slice e)) (hs:szT P e=some n) {rb:Option Nat} (h:q1s n m s l rb) {i:Nat} (hi:i<l.length) :
  ∃b,rb=some b∧∀k:IntKind,q09 P t s (.int k (i:Int))=some (.ptr (some ⟨b,i*n⟩)):=by
 obtain⟨b,e1,e2,e3,e4,_⟩:=h.at hi
 refine⟨b,e1,fun k=>?_⟩
 subst e2
 unfold q09
 simp only[ht,hs,true_or,if_true]
 exact e4
end
theorem q1s.reads {P:Program} {t e:TypeId} {n:Nat} {m:Mem} {s:AV} {α:Type} {f:α→List AV} {l:List α} {rb:Option Nat} (ht:P.underlying t=some (.slice e)) (hs:szT P e=some n) (h:q1s n m s (l.map f) rb) {i:Nat} {x:α} (hx:l[i]? = some x) :
  ∃b,rb=some b∧b<m.next∧(∀k:IntKind,q09 P t s (.int k (i:Int))=some (.ptr (some ⟨b,i*n⟩)))∧(∀M,Fr m M []→∀o,o<n→ld1 M (.ptr (some ⟨b,i*n+o⟩))=(f x)[o]?)∧(∀M,Fr m M []→∀o k,o+k≤n→ldN M (.ptr (some ⟨b,i*n+o⟩)) k=some (.agg (((f x).drop o).take k))):=by
 obtain⟨hi,rfl⟩:=List.getElem?_eq_some_iff.1 hx
 obtain⟨b,e1,e2⟩:=h.ixT ht hs (i:=i) (by rw[List.length_map];exact hi)
 have key:∀M,Fr m M []→(∀o,o<n→ld1 M (.ptr (some ⟨b,i*n+o⟩))=(f l[i])[o]?)∧(∀o k,o+k≤n→ldN M (.ptr (some ⟨b,i*n+o⟩)) k=some (.agg (((f l[i]).drop o).take k))):=fun M hM=>by
  obtain⟨b',g1,_,_,g4,g5⟩:=(h.frame hM (by simp)).fld (i:=i) (by rw[List.length_map];exact hi)
  rw[e1]at g1
  cases g1
  rw[List.getElem_map]at g4 g5
  exact⟨g4,g5⟩
 exact⟨b,e1,by subst e1;exact h.lt,e2,fun M hM=>(key M hM).1,fun M hM=>(key M hM).2⟩
def upTo (s:AV) (n k:Nat):AV:=match s with | .sl (some a) _ _ cap ex=>.sl (some a) n k cap ex | _=>.sl none n 0 0 true
def j0d (s:AV) (n k:Nat):AV:=match s with | .sl (some a) _ len cap ex=>.sl (some ⟨a.b,a.o+k*n⟩) n (len-k) (cap-k) ex | _=>.sl none n 0 0 true
section
variable {P:Program} {t e:TypeId} {n:Nat} {m:Mem} {s:AV} {l:List (List AV)} {rb:Option Nat}
theorem q1s.upTo (ht:P.underlying t=some (.slice e)) (hs:szT P e=some n) (h:q1s n m s l rb) {k:Nat} (hk:k≤l.length):q0q P t s none (some (.int .i64 (k:Int)))=some (upTo s n k)∧q7i n m (upTo s n k) (l.take k):=by
 have hl:=q2l h.lens
 have h0:∀x∈l.take k,x.length=n∧x.all AV.one=true:=fun x hx=>h.1 x (List.mem_of_mem_take hx)
 rcases h.2 with ⟨rfl,rfl,sz,ex,rfl⟩|⟨b,rfl,rfl,h3⟩
 ·have:k=0:=by simpa using hk
  subst this
  refine⟨?_,h0,.inl ⟨by simp,_,_,_,rfl⟩⟩
  simp[q0q,ht,hs,hiA,loA,Abs.upTo]
 ·refine⟨?_,h0,.inr ⟨b,0,_,_,_,_,_,by simp only[Abs.upTo,List.length_take];rw[Nat.min_eq_left hk],.inl rfl,h3,?_,?_⟩⟩
  ·have hk':(k:Int)≤(l.length:Int):=by omega
   simp[q0q,ht,hs,hiA,loA,Abs.upTo,hk]
  ·rw[hl,List.length_take,Nat.min_eq_left hk,Nat.zero_add];exact Nat.mul_le_mul_right n hk
  ·rw[List.length_take,Nat.min_eq_left hk,List.drop_zero,q8y k h.lens]
theorem q1s.j0d (ht:P.underlying t=some (.slice e)) (hs:szT P e=some n) (h:q1s n m s l rb) {k:Nat} (hk:k≤l.length):q0q P t s (some (.int .i64 (k:Int))) none=some (j0d s n k)∧q7i n m (j0d s n k) (l.drop k):=by
 have hl:=q2l h.lens
 have h0:∀x∈l.drop k,x.length=n∧x.all AV.one=true:=fun x hx=>h.1 x (List.mem_of_mem_drop hx)
 rcases h.2 with ⟨rfl,rfl,sz,ex,rfl⟩|⟨b,rfl,rfl,h3⟩
 ·have:k=0:=by simpa using hk
  subst this
  refine⟨?_,h0,.inl ⟨by simp,_,_,_,rfl⟩⟩
  simp[q0q,ht,hs,hiA,loA,Abs.j0d]
 ·have e1:k*n+(l.length-k)*n=l.length*n:=by rw[←Nat.add_mul];congr 1;omega
  refine⟨?_,h0,.inr ⟨b,k*n,n,l.length-k,false,false,l.flatten,?_,.inl rfl,h3,?_,?_⟩⟩
  ·simp[q0q,ht,hs,hiA,loA,Abs.j0d,hk]
  ·simp[Abs.j0d]
  ·rw[hl,List.length_drop];omega
  ·rw[List.length_drop,q3o k h.lens]
   exact List.take_of_length_le (by rw[q2l (fun x hx=>(h0 x hx).1),List.length_drop];omega)
end
theorem append_nil {n w:Nat} {m:Mem} {x:AV} {l:List (List AV)} (h:q7i n m x l) (hw:l.length*w≤q1p) :
  ∃s' m' r,q1q n w (.sl none 0 0 0 true) x m=some (s',m')∧q1s n m' s' l r∧Fr m m' []∧(∀c,r=some c→m.next≤c):=by
 unfold q1q
 rw[h.src]
 simp only[h.ones,not_true_eq_false,if_false]
 by_cases h0:l.length=0
 ·rw[if_pos h0]
  have:l=[]:=List.length_eq_zero_iff.1 h0
  subst this
  exact⟨_,_,none,rfl,q1s.nil _ _ _ _,Fr.refl _,nofun⟩
 ·rw[if_neg h0,if_pos hw]
  exact⟨_,_,some m.next,rfl,⟨h.1,.inr ⟨m.next,rfl,rfl,by simp[Mem.q04]⟩⟩,Fr.alloc _ _,fun c hc=>by cases hc;exact Nat.le_refl _⟩
theorem j2y {n w:Nat} {m:Mem} {s x:AV} {l k:List (List AV)} {b:Nat} (h:q1s n m s l (some b)) (hx:q7i n m x k) (hw:(l.length+k.length)*w≤q1p) :
  ∃s' m' r,q1q n w s x m=some (s',m')∧q1s n m' s' (l++k) (some r)∧Fr m m' [b]∧(r=b∨m.next≤r):=by
 have hall:∀y∈l++k,y.length=n∧y.all AV.one=true:=by
  intro y hy
  rw[List.mem_append]at hy
  exact hy.elim (h.1 y) (hx.1 y)
 have hfl:=q2l h.lens
 have hfk:=q2l hx.lens
 rcases h.2 with ⟨_,h0,_⟩|⟨b',h1,rfl,h3⟩
 ·cases h0
 cases h1
 unfold q1q
 rw[hx.src]
 simp only[hx.ones,not_true_eq_false,if_false,true_or,if_true]
 by_cases h0:k.length=0
 ·have:k=[]:=List.length_eq_zero_iff.1 h0
  subst this
  rw[if_pos (by simp)]
  have hst:q2p m ⟨b,0+l.length*n⟩ ([]:List (List AV)).flatten=some (m.put b (some (.cells l.flatten false))):=by
   simp only[q2p,h3]
   rw[if_pos (by simp[hfl]),Nat.zero_add]
   simp only[List.flatten_nil,List.length_nil,Nat.add_zero,List.append_nil,List.take_append_drop]
  rw[hst]
  refine⟨_,_,b,rfl,⟨hall,.inr ⟨b,rfl,by simp,?_⟩⟩,Fr.put _ _ _,.inl rfl⟩
  rw[List.append_nil];exact q05 h3
 ·rw[if_neg (by omega),if_pos hw]
  have hld:q07 m ⟨b,0⟩ (l.length*n)=some l.flatten:=by
   simp only[q07,h3]
   rw[if_pos (by omega),List.drop_zero,List.take_of_length_le (by omega)]
  rw[hld]
  simp only[Bool.false_eq_true,if_false,h3]
  refine⟨_,_,m.next,rfl,⟨hall,.inr ⟨m.next,rfl,by simp,?_⟩⟩,((Fr.put m b none).trans (Fr.alloc _ _) (by simp) (by simp)),.inr (Nat.le_refl _)⟩
  simp[Mem.q04,List.flatten_append]
theorem j7p {n w:Nat} (hn:0<n) {m:Mem} {s:AV} {l:List (List AV)} {rb:Option Nat} (h:q1s n m s l rb) {sA sB:AV} {k:Nat} (hk:k≤l.length) (hA:q7i n m sA (l.take k)) (hB:q7i n m sB (l.drop k))
  {new:List AV} (hl:new.length=n) (ho:new.all AV.one=true) (hw:(l.length+1)*w≤q1p) :
  ∃s1 m1 s2 m2 s3 m3 r,q1q n w (.sl none 0 0 0 true) sA m=some (s1,m1)∧q1q n w s1 (.sl (some ⟨m1.next,0⟩) n 1 1 true) (m1.lay (.cells new false))=some (s2,m2)∧q1q n w s2 sB m2=some (s3,m3)∧
   q1s n m3 s3 (q47 k new l) (some r)∧Fr m m1 []∧Fr m m2 []∧Fr m m3 []∧m.next≤r:=by
 obtain⟨s1,m1,r1,a1,a2,a3,a4⟩:=append_nil hA (Nat.le_trans (Nat.mul_le_mul_right w (by rw[List.length_take];omega)) hw)
 have f1:Fr m1 (m1.lay (.cells new false)) []:=(Fr.refl m1).lay _
 have r1lt:∀c,r1=some c→c<m1.next:=fun c hc=>by subst hc;exact a2.lt
 obtain⟨s2,m2,b1,b2,b3,b4⟩:=q5w (w:=w) hn (a2.frame f1 (by simp)) (q0d m1 (.cells new false)) hl ho (by
  rw[List.length_take,Nat.min_eq_left hk];exact Nat.le_trans (Nat.mul_le_mul_right w (by omega)) hw)
 have F2:Fr m m2 []:=(a3.step0 f1).step b4 (fun c hc=>by rw[Option.mem_toList]at hc;exact .inr (a4 c hc))
 have n1:=a3.next
 obtain⟨s3,m3,r,c1,c2,c3,c4⟩:=j2y (w:=w) b2 (hB.q0p F2) (by
  rw[List.length_append,List.length_take,List.length_drop,Nat.min_eq_left hk]
  simp only[List.length_cons,List.length_nil]
  exact Nat.le_trans (Nat.mul_le_mul_right w (by omega)) hw)
 have e9:(m1.lay (.cells new false)).next=m1.next+1:=rfl
 refine⟨s1,m1,s2,m2,s3,m3,r,a1,b1,c1,?_,a3,F2,F2.step c3 (fun c hc=>by simp only[List.mem_singleton]at hc;exact .inr (by omega)),?_⟩
 ·rw[List.append_assoc]at c2;exact c2
 ·have:=F2.next
  rcases c4 with h|h<;>omega
end
end Go.Abs
