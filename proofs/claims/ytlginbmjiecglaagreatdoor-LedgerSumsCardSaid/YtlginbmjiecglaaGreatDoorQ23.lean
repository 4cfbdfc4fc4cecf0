/- Texts of one claim, put together. -/
import Derived.Test.YtlginbmjiecglaaGreatDoorQ22
namespace Go.Abs
section
open Go
theorem q87 {l:List q1b} {i:Nat} {a:q1b} (h:l[i]? = some a) (v:Wd) (n:List UInt8):sA n (l.set i {a with bal:=v})=sA n l+(if a.q1S=n then v.val-a.bal.val else 0):=by
 unfold sA;rw[z0E _ _ h];by_cases e:a.q1S=n
 ·rw[if_pos e,if_pos e,if_pos e]
 ·rw[if_neg e,if_neg e,if_neg e];rfl
theorem q3Q.j88 {st:LSt} (g:q3Q st) {i:Nat} {p:q0q} (hi:st.q0b[i]? = some p) {n:Wd} {az:List q1b} {qs:List q0N}
  (h:n.val-p.out.val+(sA p.name az-sA p.name st.q0p)+(sQ p.name qs-sQ p.name st.pairs)=0) (ho:∀k,k≠p.name->sA k az+sQ k qs=sA k st.q0p+sQ k st.pairs):∀x∈st.q0b.set i {p with out:=n},z4g qs az x=0:=by
 intro x hx;obtain⟨j,hj⟩:=List.getElem?_of_mem hx;have gp:=g.su p (List.mem_of_getElem? hi);unfold z4g at gp⊢;rw[List.getElem?_set]at hj;by_cases e:i=j
 ·subst e;rw[if_pos rfl]at hj;split at hj
  ·cases hj;simp only;omega
  ·cases hj
 ·rw[if_neg e]at hj;have gx:=g.su x (List.mem_of_getElem? hj);unfold z4g at gx;have:=ho x.name fun e2=>e (a4j q1g g.w.sp (k:=p.name) (by rw[List.getElem?_map,hi];rfl) (by rw[List.getElem?_map,hj];simp[e2]))
  omega
theorem q3Q.q8k {st:LSt} (g:q3Q st) {az:List q1b} {qs:List q0N} (ho:∀k,sA k az+sQ k qs=sA k st.q0p+sQ k st.pairs):∀x∈st.q0b,z4g qs az x=0:=fun x hx=>by
 have:=g.su x hx;have:=ho x.name;unfold z4g at *;omega
theorem q3Q.new (most:Int) (h:1<=most/\most<=64):q3Q ⟨[],[],[],0,most⟩ where
 w:={sp:=by simp[Srt],lp:=by simp,sq:=by simp[Srt],lq:=by simp,sa:=by simp[Srt],la:=by simp,okp:=by simp,okq:=by simp,oka:=by simp,lat:=by simp}
 am:=by simp;omega
 mo:=h
 a1:=by simp
 q1:=by simp
 su:=by simp
theorem z0V {st:LSt} (g:q3Q st) (name:List UInt8) {scale:Int} (h0:0<=scale):q3Q (q6e st name scale).2:=by
 unfold q6e;split
 ·exact g
 split
 ·exact g
 split
 ·exact g
 split
 ·exact g
 rename_i h1 h2 h3 h4;have hk:q0O q0c name (st.q0b.map (·.name))=false:=by simpa using h3
 have hn:name∉st.q0b.map (·.name):=j1K q1g g.w.sp hk;obtain⟨i,hi⟩:∃i,i=lb q0c name (st.q0b.map (·.name)):=⟨_,rfl⟩;have hl:i<=st.q0b.length:=by rw[hi];have:=z0f (lt:=q0c) name (st.q0b.map (·.name));rw[xlm]at this;exact this
 have hs:Srt q0c ((q2O i (q0q.mk name scale ⟨0,0⟩) st.q0b).map (·.name)):=by
  rw[q2K,hi];exact j80 q1P q5d g.w.sp hn
 rw[<-hi];have gp:∀k,(st.q2o k).isSome=true->(LSt.q2o {st with q0b:=q2O i ⟨name,scale,⟨0,0⟩⟩ st.q0b} k).isSome=true:=fun k hk=>by
  rw[q2J g.w.sp]at hk;rw[q2J hs];show k∈(q2O i (q0q.mk name scale ⟨0,0⟩) st.q0b).map (·.name);rw[q2K];exact j6h (.inr hk)
 have nc:∀k,(st.q2o k).isSome=true->k≠name:=fun k hk e=>hn (by rw[<-e];exact(q2J g.w.sp).1 hk)
 exact {
  w:={sp:=hs,lp:=by show (q2O i (q0q.mk name scale ⟨0,0⟩) st.q0b).length<=8;rw[q7j hl];omega
      sq:=g.w.sq,lq:=g.w.lq,sa:=g.w.sa,la:=g.w.la
      okp:=fun x hx=>by
       rcases z0j hx with rfl|hx
       ·exact⟨h0,by show scale<=18;omega,by unfold Wd.ok;simp,by simpa using h1⟩
       ·exact g.w.okp x hx
      okq:=fun q hq=>by have:=g.w.okq q hq;exact⟨this.1,this.2.1,this.2.2.1,this.2.2.2.1,gp _ this.2.2.2.2.1,gp _ this.2.2.2.2.2⟩
      oka:=fun a ha=>by have:=g.w.oka a ha;exact⟨this.1,this.2.1,this.2.2.1,gp _ this.2.2.2⟩
      lat:=g.w.lat}
  am:=g.am,mo:=g.mo,a1:=g.a1,q1:=g.q1
  su:=fun x hx=>by
   rcases z0j hx with rfl|hx
   ·unfold z4g;have z1:sA name st.q0p=0:=q8m _ fun a ha=>if_neg (nc _ (g.w.oka a ha).2.2.2)
    have z2:sQ name st.pairs=0:=q8m _ fun q hq=>by rw[if_neg (nc _ (g.w.okq q hq).2.2.2.2.1),if_neg (nc _ (g.w.okq q hq).2.2.2.2.2)];rfl
    simp only[z1,z2];rfl
   ·exact g.su x hx}
theorem q79 {st:LSt} (g:q3Q st) (name:List UInt8):q3Q (q5a st name).2.2:=by
 unfold q5a;split
 ·exact g
 split
 ·exact g
 rename_i h1 h2;have hk:q0O q0c name (st.q0b.map (·.name))=true:=by simpa using h1
 have hp:=q9Z.2 hk;have l0:=g.w.lat;exact {
  w:={sp:=g.w.sp,lp:=g.w.lp,sq:=g.w.sq,lq:=g.w.lq
      sa:=by
       show Srt q0m ((st.q0p++[q1b.mk (st.latest+1) name ⟨0,0⟩]).map (·.id));unfold Srt;rw[List.map_append,List.pairwise_append];refine⟨g.w.sa,by simp,fun x hx y hy=>?_⟩
       obtain⟨a,ha,rfl⟩:=List.mem_map.1 hx;simp only[List.map_cons,List.map_nil,xms]at hy;subst hy;have:=(g.w.oka a ha).2.2.1;simp[q0m];omega
      la:=by show (st.q0p++[q1b.mk (st.latest+1) name ⟨0,0⟩]).length<=64;rw[xla0];have:=g.mo;simp;omega
      okp:=g.w.okp,okq:=g.w.okq
      oka:=fun a ha=>by
       have hx:a∈st.q0p++[q1b.mk (st.latest+1) name ⟨0,0⟩]:=ha;rw[xma,xms]at hx;rcases hx with hx|rfl
       ·have:=g.w.oka a hx;exact⟨this.1,this.2.1,by show a.id<=st.latest+1;omega,this.2.2.2⟩
       ·exact⟨by unfold Wd.ok;simp,by show 0<=st.latest+1;omega,Int.le_refl _,hp⟩
      lat:=by show 0<=st.latest+1/\st.latest+1<=72057594037927935;omega}
  am:=by show ((st.q0p++[q1b.mk (st.latest+1) name ⟨0,0⟩]).length:Int)<=st.most;rw[xla0];simp;omega
  mo:=g.mo
  a1:=fun a ha=>by
   have hx:a∈st.q0p++[q1b.mk (st.latest+1) name ⟨0,0⟩]:=ha;rw[xma,xms]at hx;rcases hx with hx|rfl
   ·exact g.a1 a hx
   ·exact⟨by show 1<=st.latest+1;omega,by show (0:Int)<=(Wd.mk 0 0).val;simp[Wd.val]⟩
  q1:=g.q1
  su:=g.q8k fun k=>by
   show sA k (st.q0p++[q1b.mk (st.latest+1) name ⟨0,0⟩])+_=_;unfold sA;rw[q3O];simp only[q8E,show (Wd.mk 0 0).val=0 from by simp[Wd.val],ite_self];omega}
theorem q5t {p:q0q} {w:Wd} {s:Int} (h:q1W p w s=0):s=p.scale/\0<w.val:=by
 unfold q1W at h;split at h
 ·omega
 ·split at h
  ·omega
  ·omega
theorem LSt.q1X {st:LSt} {id:Int} {a:q1b} (h:st.q7U id=some a):a.id=id/\st.q0p[st.iA a.id]? = some a:=by
 cases hk:q0O q0m id (st.q0p.map (·.id)) with
 |false=>rw[LSt.q3n hk]at h;cases h
 |true=>
  obtain⟨a',a1,a2,a3,_⟩:=LSt.q1D hk;rw[h]at a1;cases a1;exact⟨a2,by rw[a2];exact a3⟩
theorem LSt.z3u {st:LSt} {k:List UInt8} {p:q0q} (h:st.q2o k=some p):p.name=k/\st.q0b[st.iP p.name]? = some p:=by
 cases hk:q0O q0c k (st.q0b.map (·.name)) with
 |false=>rw[LSt.q1K hk]at h;cases h
 |true=>
  obtain⟨a',a1,a2,a3,_⟩:=LSt.q1p hk;rw[h]at a1;cases a1;exact⟨a2,by rw[a2];exact a3⟩
theorem LSt.z3w {st:LSt} {k:List UInt8} {p:q0N} (h:st.z1L k=some p):p.key=k/\st.pairs[st.iQ p.key]? = some p/\q0O q0c k (st.pairs.map (·.key))=true:=by
 cases hk:q0O q0c k (st.pairs.map (·.key)) with
 |false=>rw[LSt.q3o hk]at h;cases h
 |true=>
  obtain⟨a',a1,a2,a3,_⟩:=LSt.q2V hk;rw[h]at a1;cases a1;exact⟨a2,by rw[a2];exact a3,rfl⟩
theorem q5s {x y w:Wd} (h:q2B x y w=true):q0Q (x.val-w.val)=true/\q0Q (y.val+w.val)=true:=by
 unfold q2B at h;rwa [Bool.and_eq_true]at h
theorem q35 {st:LSt} (g:q3Q st) (id:Int) (x:Wd) (s:Int):q3Q (q1N st id x s).2:=by
 unfold q1N;rcases LSt.q1f g.w id with ⟨e,_⟩|⟨a,p,e,ga,gp,hid,hka,hpn,hkp,ma,mp⟩
 ·rw[e];exact g
 ·rw[e];simp only[ne_eq,not_true_eq_false,if_false];split
  ·exact g
  split
  ·rename_i h1 h2;obtain⟨f1,f2⟩:=q5s h2;have hf:q1W p x s=0:=by simpa using h1
   have hx:=(q5t hf).2;have ga2:=(LSt.q1X ga).2;have gp2:=(LSt.z3u gp).2;have h0:=(g.a1 a ma).2;have g1:=g.toLGood.q14 ga2 (Wd.q25 f2) (by rw[Wd.q1B];omega);have g2:=g1.z2K (i:=st.iP p.name) (p:=p) gp2 (Wd.q25 f1);refine {toLGood:=g2,su:=?_};refine g.j88 gp2 (az:=st.q0p.set (st.iA a.id) {a with bal:=Wd.of (a.bal.val+x.val)}) (qs:=st.pairs) ?_ fun k hk=>?_
   ·rw[q87 ga2,Wd.q1B,Wd.q1B,if_pos hpn.symm];omega
   ·rw[q87 ga2,if_neg (fun e=>hk (by rw[<-e,hpn]))];omega
  ·exact g
theorem q56 {st:LSt} (g:q3Q st) (id:Int) (x:Wd) (s:Int):q3Q (q1y st id x s).2:=by
 unfold q1y;rcases LSt.q1f g.w id with ⟨e,_⟩|⟨a,p,e,ga,gp,hid,hka,hpn,hkp,ma,mp⟩
 ·rw[e];exact g
 ·rw[e];simp only[ne_eq,not_true_eq_false,if_false];split
  ·exact g
  split
  ·exact g
  split
  ·rename_i h1 h3 h2;obtain⟨f1,f2⟩:=q5s h2;have ga2:=(LSt.q1X ga).2;have gp2:=(LSt.z3u gp).2;have g1:=g.toLGood.q14 ga2 (Wd.q25 f1) (by rw[Wd.q1B];omega);have g2:=g1.z2K (i:=st.iP p.name) (p:=p) gp2 (Wd.q25 f2);refine {toLGood:=g2,su:=?_};refine g.j88 gp2 (az:=st.q0p.set (st.iA a.id) {a with bal:=Wd.of (a.bal.val-x.val)}) (qs:=st.pairs) ?_ fun k hk=>?_
   ·rw[q87 ga2,Wd.q1B,Wd.q1B,if_pos hpn.symm];omega
   ·rw[q87 ga2,if_neg (fun e=>hk (by rw[<-e,hpn]))];omega
  ·exact g
theorem LGood.b0V {st:LSt} (g:LGood st) {a a':q1b} {i j:Int} (ga:st.q7U i=some a) (ga':st.q7U j=some a') (hij:i≠j) {n n':Wd} (hn:n.ok) (hn':n'.ok) (h0:0<=n.val) (h0':0<=n'.val) :
  LGood ((st.q14 {a with bal:=n}).q14 {a' with bal:=n'})/\(∀k,sA k ((st.q14 {a with bal:=n}).q14 {a' with bal:=n'}).q0p=sA k st.q0p+(if a.q1S=k then n.val-a.bal.val else 0)+(if a'.q1S=k then n'.val-a'.bal.val else 0)):=by
 obtain⟨e1,g1⟩:=LSt.q1X ga;obtain⟨e2,g2⟩:=LSt.q1X ga';have ne:st.iA a.id≠st.iA a'.id:=fun e=>by
  rw[e,g2]at g1;cases g1;exact hij (e1.symm.trans e2)
 have hka:q0O q0m a.id (st.q0p.map (·.id))=true:=by
  cases hk:q0O q0m a.id (st.q0p.map (·.id)) with
  |true=>rfl
  |false=>rw[<-e1,LSt.q3n hk]at ga;cases ga
 have hi2:(st.q14 {a with bal:=n}).iA a'.id=st.iA a'.id:=by
  unfold LSt.iA;rw[LSt.q3d (st:=st) (a:={a with bal:=n}) hka]
 have q2:(st.q14 {a with bal:=n}).q0p[st.iA a'.id]? = some a':=by
  show (st.q0p.set (st.iA a.id) _)[st.iA a'.id]? = _;rw[List.getElem?_set_ne ne];exact g2
 have l1:LGood (st.q14 {a with bal:=n}):=g.q14 g1 hn h0
 have l2:=l1.q14 q2 hn' h0';refine⟨?_,fun k=>?_⟩
 ·show LGood {(st.q14 {a with bal:=n}) with q0p:=(st.q14 {a with bal:=n}).q0p.set ((st.q14 {a with bal:=n}).iA a'.id) {a' with bal:=n'}}
  rw[hi2];exact l2
 ·show sA k ((st.q14 {a with bal:=n}).q0p.set ((st.q14 {a with bal:=n}).iA a'.id) {a' with bal:=n'})=_
  rw[hi2,q87 q2];show sA k (st.q0p.set (st.iA a.id) {a with bal:=n})+_=_
  rw[q87 g1]
theorem q52 {st:LSt} (g:q3Q st) (i j:Int) (x:Wd) (s:Int):q3Q (q1F st i j x s).2:=by
 unfold q1F;rcases LSt.q1f g.w i with ⟨e,_⟩|⟨a,p,e,ga,gp,hid,hka,hpn,hkp,ma,mp⟩
 ·rw[e];exact g
 ·rcases LSt.q1f g.w j with ⟨e',_⟩|⟨a',p',e',ga',gp',hid',hka',hpn',hkp',ma',mp'⟩
  ·rw[e,e'];exact g
  ·rw[e,e'];simp only[ne_eq,not_true_eq_false,if_false];split
   ·exact g
   split
   ·exact g
   split
   ·exact g
   split
   ·exact g
   split
   ·rename_i h1 h2 h3 h4 h5;obtain⟨f1,f2⟩:=q5s h5;have hf:q1W p x s=0:=by simpa using h3
    have hx:=(q5t hf).2;have hnn:p.name=p'.name:=by simpa using h2
    obtain⟨l1,l2⟩:=g.toLGood.b0V ga ga' h1 (Wd.q25 f1) (Wd.q25 f2) (by rw[Wd.q1B];omega) (by rw[Wd.q1B];have:=(g.a1 a' ma').2;omega);refine {toLGood:=l1,su:=g.q8k fun k=>?_}
    rw[l2,Wd.q1B,Wd.q1B,<-hpn,<-hpn',hnn];show _+sQ k st.pairs=_;split<;>omega
   ·exact g
theorem j85 {l:List q0N} {i:Nat} {q:q0N} (h:l[i]? = some q) {q':q0N} (hx:q'.x=q.x) (hy:q'.y=q.y) (n:List UInt8) :
  sQ n (l.set i q')=sQ n l+(if q.x=n then q'.inx.val-q.inx.val else 0)+(if q.y=n then q'.q18.val-q.q18.val else 0):=by
 unfold sQ;rw[z0E _ _ h];simp only[hx,hy];split<;>split<;>omega
theorem q5U {w:Wd} {s:Int} (h:q4H w s=0):q5W w s=true:=by
 unfold q4H at h;unfold q5W;split at h
 ·rename_i h1;split at h
  ·exact dt ⟨h1,by assumption⟩
  ·omega
 ·omega
theorem z2g {st:LSt} (g:q3Q st) (x y:List UInt8) {r:Wd} (hr:r.ok) (s:Int):q3Q (q6r st x y r s).2:=by
 unfold q6r;split
 ·exact g
 split
 ·exact g
 split
 ·exact g
 rename_i h1 h2 h3;have hrr:=q5U (by simpa using h3);have hxs:(st.q2o x).isSome=true:=by cases e:(st.q2o x).isSome with|true=>rfl|false=>exact absurd (.inl e) h1
 have hys:(st.q2o y).isSome=true:=by cases e:(st.q2o y).isSome with|true=>rfl|false=>exact absurd (.inr e) h1
 cases hq:st.z1L (x++y) with
 |none=>
  obtain⟨l1,l2⟩:=g.toLGood.q5b (q:={q8C with x:=x,y:=y,rate:=r,q1h:=s}) ⟨⟨hr,hrr,by simp[q8C,Wd.ok],by simp[q8C,Wd.ok],hxs,hys⟩,h2,by simp[q8C,Wd.val],by simp[q8C,Wd.val]⟩
  have hk:q0O q0c (x++y) (st.pairs.map (·.key))=false:=by
   cases hk:q0O q0c (x++y) (st.pairs.map (·.key)) with
   |false=>rfl
   |true=>obtain⟨q,q1,_⟩:=LSt.q2V hk;rw[hq]at q1;cases q1
  refine {toLGood:=l1,su:=?_};rw[show (LSt.q5b st {(none.getD q8C) with x:=x,y:=y,rate:=r,q1h:=s}).pairs=_ from l2 hk]
  refine g.q8k fun k=>?_
  show sA k st.q0p+_=_;unfold sQ;rw[j3b];simp only[q8C,show (Wd.mk 0 0).val=0 from by simp[Wd.val],ite_self];omega
 |some q=>
  obtain⟨e1,e2,e3⟩:=LSt.z3w hq;have mq:=List.mem_of_getElem? e2;have l3:=g.w.okq q mq;have l4:=g.q1 q mq;obtain⟨l1,_⟩:=g.toLGood.q5b (q:={q with x:=x,y:=y,rate:=r,q1h:=s}) ⟨⟨hr,hrr,l3.2.2.1,l3.2.2.2.1,hxs,hys⟩,h2,l4.2⟩
  refine {toLGood:=l1,su:=?_};have hlen:∀k,(st.q2o k).isSome=true->k.length=3:=fun k hk=>by
   have:=(q2J g.w.sp).1 hk;obtain⟨p,hp,rfl⟩:=List.mem_map.1 this;have:=(g.w.okp p hp).2.2.2;unfold q3Y at this;simp only[Bool.and_eq_true,decide_eq_true_eq]at this;exact this.2
  have hxy:q.x=x/\q.y=y:=List.append_inj e1 (by rw[hlen _ l3.2.2.2.2.1,hlen _ hxs]);refine g.q8k fun k=>?_
  show sA k st.q0p+sQ k (if q0O q0c (x++y) (st.pairs.map (·.key))=true then _ else _)=_
  rw[if_pos e3];show sA k st.q0p+sQ k (st.pairs.set (st.iQ (x++y)) {q with x:=x,y:=y,rate:=r,q1h:=s})=_
  rw[<-e1,j85 e2 (q':={q with x:=x,y:=y,rate:=r,q1h:=s}) hxy.1.symm hxy.2.symm]
  simp only[Int.sub_self,ite_self];omega
end
section
open Go
def q4o (n:Nat) (m:Mem) (s:AV) (l:List (List AV)):Prop:=
 (∀x∈l,x.length=n/\x.all AV.one=true)/\
 ((l=[]/\∃sz cap ex,s=.sl none sz 0 cap ex)\/
  ∃b o sz cap ex ro cs,s=.sl (some ⟨b,o⟩) sz l.length cap ex/\(n=sz\/ex=true)/\m.get b=some (.cells cs ro)/\o+l.length*n<=cs.length/\(cs.drop o).take (l.length*n)=l.flatten)
section
variable {n:Nat} {m m':Mem} {s:AV} {l:List (List AV)}
theorem q03.v {rb:Option Nat} (h:q03 n m s l rb):q4o n m s l:=by
 have hl:=q1w h.lens;rcases h with ⟨h0,(⟨rfl,_,sz,ex,rfl⟩|⟨b,rfl,_,rfl,h3⟩)|⟨b,_,rfl,h3⟩⟩
 ·exact⟨h0,.inl ⟨rfl,_,_,_,rfl⟩⟩
 ·exact⟨h0,.inr ⟨b,0,_,_,_,_,_,rfl,.inl rfl,h3,by simp,by simp⟩⟩
 ·exact⟨h0,.inr ⟨b,0,_,_,_,_,_,rfl,.inl rfl,h3,by omega,by rw[List.drop_zero,xtl (by omega)]⟩⟩
theorem q4o.lens (h:q4o n m s l):∀x∈l,x.length=n:=fun x hx=>(h.1 x hx).1
theorem q4o.a6Y {S:List Nat} (h:q4o n m s l) (hf:Fr m m' S) (hS:∀c,c∈S->m.next<=c):q4o n m' s l:=by
 rcases h with ⟨h0,h|⟨b,o,sz,cap,ex,ro,cs,h1,h2,h3,h4⟩⟩
 ·exact⟨h0,.inl h⟩
 ·exact⟨h0,.inr ⟨b,o,sz,cap,ex,ro,cs,h1,h2,hf.get h3 (fun hc=>by have:=hS b hc;have:=Mem.q0x h3;omega),h4⟩⟩
theorem q4o.q0h (h:q4o n m s l) (hf:Fr m m' []):q4o n m' s l:=h.a6Y hf (by simp)
theorem q4o.len (h:q4o n m s l):∃a sz cap ex,s=.sl a sz l.length cap ex:=by
 rcases h with ⟨_,⟨rfl,sz,cap,ex,rfl⟩|⟨b,o,sz,cap,ex,_,_,rfl,_⟩⟩
 ·exact⟨_,_,_,_,rfl⟩
 ·exact⟨_,_,_,_,rfl⟩
theorem q4o.one (h:q4o n m s l):s.one=true:=by
 obtain⟨a,sz,cap,ex,rfl⟩:=h.len;rfl
theorem q4o.ones (h:q4o n m s l):l.flatten.all AV.one=true:=q7L fun x hx=>(h.1 x hx).2
theorem q4o.fld (h:q4o n m s l) {i:Nat} (hi:i<l.length) :
  ∃b o sz cap ex,s=.sl (some ⟨b,o⟩) sz l.length cap ex/\(n=sz\/ex=true)/\b<m.next/\ixA n l.length ⟨b,o⟩ (i:Int)=some (.ptr (some ⟨b,o+i*n⟩))/\(∀k,k<n->ld1 m (.ptr (some ⟨b,o+i*n+k⟩))=l[i][k]?)/\
   (∀k j,k+j<=n->ldN m (.ptr (some ⟨b,o+i*n+k⟩)) j=some (.agg ((l[i].drop k).take j)))/\ldN m (.ptr (some ⟨b,o+i*n⟩)) n=some (.agg l[i]):=by
 have hl:=h.lens;rcases h with ⟨h0,⟨rfl,_⟩|⟨b,o,sz,cap,ex,ro,cs,rfl,h2,h3,h4,h5⟩⟩
 ·simp at hi
 ·have hli:l[i].length=n:=hl _ (List.getElem_mem hi);have hle:(i+1)*n<=l.length*n:=Nat.mul_le_mul_right n hi;rw[Nat.succ_mul]at hle;have hd:l.flatten.drop (i*n)=l[i]++(l.drop (i+1)).flatten:=by
   rw[q2b i hl,List.drop_eq_getElem_cons hi,List.flatten_cons]
  have key:∀k,k<n->cs[o+i*n+k]? = l[i][k]?:=fun k hk=>by
   have e1:((cs.drop o).take (l.length*n))[i*n+k]? = cs[o+i*n+k]?:=by
    rw[List.getElem?_take,if_pos (by omega),List.getElem?_drop,Nat.add_assoc]
   rw[<-e1,h5,<-List.getElem?_drop,hd,List.getElem?_append_left (by omega)]
  have seg:∀k j,k+j<=n->(cs.drop (o+i*n+k)).take j=(l[i].drop k).take j:=fun k j hkj=>by
   apply List.ext_getElem?;intro t;rw[List.getElem?_take,List.getElem?_take];split
   ·rw[List.getElem?_drop,List.getElem?_drop,Nat.add_assoc,key _ (by omega)]
   ·rfl
  refine⟨b,o,sz,cap,ex,rfl,h2,Mem.q0x h3,by simp[ixA,hi],fun k hk=>?_,fun k j hkj=>?_,?_⟩
  ·rw[q0g h3,key k hk]
  ·rw[q00 h3 (by omega),seg k j hkj]
  ·have:=seg 0 n (by omega);rw[xna,List.drop_zero,xtl (l:=l[i]) (by omega)]at this;rw[q00 h3 (by omega),this]
theorem q4o.src (h:q4o n m s l):q3Z n s m=some (l.length,l.flatten):=by
 have hfl:=q1w h.lens;rcases h with ⟨h0,⟨rfl,sz,cap,ex,rfl⟩|⟨b,o,sz,cap,ex,ro,cs,rfl,h2,h3,h4,h5⟩⟩
 ·rfl
 ·simp only[q3Z,q0G,h3];rw[if_pos (h2.imp Eq.symm id),if_pos h4,h5];rfl
end
def q3v (ok:Nat->Bool):Nat->Nat->Bool
 | 0,_=>true
 |d+1,i=>ok i&&q3v ok d (i+1)
theorem q4q (ok:Nat->Bool):∀(d i:Nat),q3v ok d i=true↔∀j,i<=j->j<i+d->ok j=true
 | 0,i=>by simp[q3v];omega
 |d+1,i=>by
  rw[q3v,Bool.and_eq_true,q4q ok d (i+1)];constructor
  ·rintro⟨h1,h2⟩ j h3 h4
   by_cases e:j=i
   ·subst e;exact h1
   ·exact h2 j (by omega) (by omega)
  ·intro h;exact⟨h i (xnr _) (by omega),fun j h3 h4=>h j (by omega) (by omega)⟩
theorem Res.eq' {m M:Mem} {v w:AV} (h:Fr m M []) (e:v=w):Res m (some (v,M)) w:=Res.eq h e
theorem Res.step {m m1:Mem} {r:R} {v:AV} (h:Fr m m1 []) (h':Res m1 r v):Res m r v:=by
 obtain⟨m',e,f⟩:=h';exact⟨m',e,h.step0 f⟩
structure BkV (m:Mem) (sp sq sa:AV) (st:LSt):Prop where
 p:q4o 4 m sp (st.q0b.map (·.cells))
 q:q4o 9 m sq (st.pairs.map (·.cells))
 a:q4o 4 m sa (st.q0p.map (·.cells))
theorem BkV.q0h {m m':Mem} {sp sq sa:AV} {st:LSt} (h:BkV m sp sq sa st) (hf:Fr m m' []):BkV m' sp sq sa st:=⟨h.p.q0h hf,h.q.q0h hf,h.a.q0h hf⟩
theorem BkV.one {m:Mem} {sp sq sa:AV} {st:LSt} (h:BkV m sp sq sa st) (n:Int):[sp,sq,sa,.int .u64 n].all AV.one=true:=by
 rw[List.all_cons,List.all_cons,List.all_cons,h.p.one,h.q.one,h.a.one];rfl
theorem q0L.v {m:Mem} {b:Nat} {st:LSt} {F:List Nat} (h:q0L m b st F):∃sp sq sa,m.get b=some (.cells [sp,sq,sa,.int .u64 st.latest,.int .i64 st.most] false)/\BkV m sp sq sa st:=by
 obtain⟨sp,sq,sa,rp,rq,ra,h1,h2,h3,h4,_⟩:=h.ex;exact⟨sp,sq,sa,h1,h2.v,h3.v,h4.v⟩
theorem on1:(∀(k:IntKind) (n:Int),(AV.int k n).one=true)/\(∀s:List UInt8,(AV.str s).one=true)/\(∀b:Bool,(AV.bool b).one=true)/\(∀a:Option AA,(AV.ptr a).one=true)/\(∀(a:Option AA) (s n c:Nat) (e:Bool),(AV.sl a s n c e).one=true):=⟨fun _ _=>rfl,fun _=>rfl,fun _=>rfl,fun _=>rfl,fun _ _ _ _ _=>rfl⟩
end
end Go.Abs
namespace Go.Proofs.YtlginbmjiecglaaGreatDoor
section
set_option maxRecDepth 4000
open Go Go.Abs
theorem a3y (p q:q0q):q0S Tryz.prog .neq 56 (.agg p.cells) (.agg q.cells)=some (.bool (!decide (p=q))):=by
 obtain⟨a,b,⟨c,d⟩⟩:=p;obtain⟨a',b',⟨c',d'⟩⟩:=q;have h:eqA Tryz.prog 50 56 (.agg [.str a,.int .i64 b,.int .i64 c,.int .u64 d]) (.agg [.str a',.int .i64 b',.int .i64 c',.int .u64 d'])=(match (a==a') with|true=>(match (b==b') with|true=>(match (match (c==c') with|true=>(match (d==d') with|true=>some true|false=>some false)|false=>some false) with|some true=>some true|some false=>some false|none=>none)|false=>some false)|false=>some false):=by kernel_rfl
 have h2:q0S Tryz.prog .neq 56 (.agg [.str a,.int .i64 b,.int .i64 c,.int .u64 d]) (.agg [.str a',.int .i64 b',.int .i64 c',.int .u64 d'])=(match eqA Tryz.prog 50 56 (.agg [.str a,.int .i64 b,.int .i64 c,.int .u64 d]) (.agg [.str a',.int .i64 b',.int .i64 c',.int .u64 d']) with|some b=>some (.bool (!b))|none=>none):=by kernel_rfl
 have k:decide (q0q.mk a b ⟨c,d⟩=q0q.mk a' b' ⟨c',d'⟩)=((a==a')&&((b==b')&&((c==c')&&(d==d')))):=by
  rw[q6b,Bool.eq_iff_iff];simp
 simp only[q0q.cells];rw[h2,h,k];cases (a==a')<;>cases (b==b')<;>cases (c==c')<;>cases (d==d')<;>rfl
theorem j9i (p q:q1b):q0S Tryz.prog .neq 54 (.agg p.cells) (.agg q.cells)=some (.bool (!decide (p=q))):=by
 obtain⟨a,b,⟨c,d⟩⟩:=p;obtain⟨a',b',⟨c',d'⟩⟩:=q;have h:eqA Tryz.prog 50 54 (.agg [.int .u64 a,.str b,.int .i64 c,.int .u64 d]) (.agg [.int .u64 a',.str b',.int .i64 c',.int .u64 d'])=(match (a==a') with|true=>(match (b==b') with|true=>(match (match (c==c') with|true=>(match (d==d') with|true=>some true|false=>some false)|false=>some false) with|some true=>some true|some false=>some false|none=>none)|false=>some false)|false=>some false):=by kernel_rfl
 have h2:q0S Tryz.prog .neq 54 (.agg [.int .u64 a,.str b,.int .i64 c,.int .u64 d]) (.agg [.int .u64 a',.str b',.int .i64 c',.int .u64 d'])=(match eqA Tryz.prog 50 54 (.agg [.int .u64 a,.str b,.int .i64 c,.int .u64 d]) (.agg [.int .u64 a',.str b',.int .i64 c',.int .u64 d']) with|some b=>some (.bool (!b))|none=>none):=by kernel_rfl
 have k:decide (q1b.mk a b ⟨c,d⟩=q1b.mk a' b' ⟨c',d'⟩)=((a==a')&&((b==b')&&((c==c')&&(d==d')))):=by
  rw[q6b,Bool.eq_iff_iff];simp
 simp only[q1b.cells];rw[h2,h,k];cases (a==a')<;>cases (b==b')<;>cases (c==c')<;>cases (d==d')<;>rfl
theorem a3v (p q:q0N):q0S Tryz.prog .neq 74 (.agg p.cells) (.agg q.cells)=some (.bool (!decide (p=q))):=by
 obtain⟨x,y,⟨a,b⟩,s,⟨c,d⟩,⟨e,f⟩⟩:=p;obtain⟨x',y',⟨a',b'⟩,s',⟨c',d'⟩,⟨e',f'⟩⟩:=q;have h:eqA Tryz.prog 50 74 (.agg [.str x,.str y,.int .i64 a,.int .u64 b,.int .i64 s,.int .i64 c,.int .u64 d,.int .i64 e,.int .u64 f]) (.agg [.str x',.str y',.int .i64 a',.int .u64 b',.int .i64 s',.int .i64 c',.int .u64 d',.int .i64 e',.int .u64 f']) =
  (match (x==x') with|true=>(match (y==y') with|true=>(match (match (match (a==a') with|true=>(match (b==b') with|true=>some true|false=>some false)|false=>some false) with|some true=>(match (s==s') with|true=>some true|false=>some false)|some false=>some false|none=>none) with|some true=>(match (match (c==c') with|true=>(match (d==d') with|true=>some true|false=>some false)|false=>some false) with|some true=>(match (match (e==e') with|true=>(match (f==f') with|true=>some true|false=>some false)|false=>some false) with|some true=>some true|some false=>some false|none=>none)|some false=>some false|none=>none)|some false=>some false|none=>none)|false=>some false)|false=>some false):=by kernel_rfl
 have h2:q0S Tryz.prog .neq 74 (.agg [.str x,.str y,.int .i64 a,.int .u64 b,.int .i64 s,.int .i64 c,.int .u64 d,.int .i64 e,.int .u64 f]) (.agg [.str x',.str y',.int .i64 a',.int .u64 b',.int .i64 s',.int .i64 c',.int .u64 d',.int .i64 e',.int .u64 f'])=(match eqA Tryz.prog 50 74 (.agg [.str x,.str y,.int .i64 a,.int .u64 b,.int .i64 s,.int .i64 c,.int .u64 d,.int .i64 e,.int .u64 f]) (.agg [.str x',.str y',.int .i64 a',.int .u64 b',.int .i64 s',.int .i64 c',.int .u64 d',.int .i64 e',.int .u64 f']) with|some b=>some (.bool (!b))|none=>none):=by kernel_rfl
 have k:decide (q0N.mk x y ⟨a,b⟩ s ⟨c,d⟩ ⟨e,f⟩=q0N.mk x' y' ⟨a',b'⟩ s' ⟨c',d'⟩ ⟨e',f'⟩)=((x==x')&&((y==y')&&(((a==a')&&(b==b'))&&((s==s')&&(((c==c')&&(d==d'))&&((e==e')&&(f==f'))))))):=by
  rw[q6b,q6b,Bool.eq_iff_iff];simp[and_assoc]
 simp only[q0N.cells];rw[h2,h,k];cases (x==x')
 ·rfl
 cases (y==y')
 ·rfl
 cases (a==a')
 ·rfl
 cases (b==b')
 ·rfl
 cases (s==s')
 ·rfl
 cases (c==c')<;>cases (d==d')<;>cases (e==e')<;>cases (f==f')<;>rfl
def z0z (s t:LSt):Bool:=decide (s.q0b=t.q0b)&&decide (s.pairs=t.pairs)&&decide (s.q0p=t.q0p)&&decide (s.latest=t.latest)
def j3j {α:Type} [DecidableEq α] (l k:List α) (i:Nat):Bool:=decide (l[i]? = k[i]?)
theorem z2O {α:Type} [DecidableEq α] {l k:List α} (h:l.length=k.length):q3v (j3j l k) l.length 0=decide (l=k):=by
 rw[Bool.eq_iff_iff,q4q,decide_eq_true_iff];constructor
 ·intro h';apply List.ext_getElem?;intro i;by_cases hi:i<l.length
  ·exact of_decide_eq_true (h' i (by omega) (by omega))
  ·rw[List.getElem?_eq_none (by omega),List.getElem?_eq_none (by omega)]
 ·rintro rfl j _ _
  exact dt rfl
section
variable {m:Mem} {x y:Nat} {sp sq sa tp tq ta:AV} {s t:LSt}
theorem z8o (hx:m.get x=some (.cells [sp,sq,sa,.int .u64 s.latest] false)) (hy:m.get y=some (.cells [tp,tq,ta,.int .u64 t.latest] false)) (hs:BkV m sp sq sa s) (ht:BkV m tp tq ta t) (hn:s.q0b.length<=1000000000000000000) (hl:s.q0b.length=t.q0b.length) :
  ∀(d i:Nat),i+d=s.q0b.length->D22.gor 61441 [.ptr (some ⟨x,0⟩),.ptr (some ⟨y,0⟩),.int .i64 (i:Int)] m=if q3v (j3j s.q0b t.q0b) d i=true then D22.gor 61444 [.ptr (some ⟨x,0⟩),.ptr (some ⟨y,0⟩)] m else some (.bool false,m):=by
 have a3:∀i:Nat,ld1 m (.ptr (some ⟨x,i⟩))=[sp,sq,sa,.int .u64 s.latest][i]?:=fun i=>q0g hx
 have b3:∀i:Nat,ld1 m (.ptr (some ⟨y,i⟩))=[tp,tq,ta,.int .u64 t.latest][i]?:=fun i=>q0g hy
 intro d;induction d with
 |zero=>
  intro i hi;have:i=s.q0b.length:=by omega
  subst this;obtain⟨a,sz,cap,ex,e⟩:=hs.p.len;rw[xlm]at e;subst e;simp only[q3v,if_true];simp only[z4R (H:=H22),T.a0Q,p1,q1,p2,q0a,q0e,a3,df (show ¬((s.q0b.length:Nat):Int)<(s.q0b.length:Int) by omega)]
 |succ d ih=>
  intro i hi;obtain⟨b,o,sz,cap,ex,e,z,_,e2,_,_,e3⟩:=hs.p.fld (i:=i) (by rw[xlm];omega);obtain⟨b',o',sz',cap',ex',e',z',_,e2',_,_,e3'⟩:=ht.p.fld (i:=i) (by rw[xlm];omega);rw[xlm]at e e2 e' e2';rw[xgm]at e3 e3';subst e e';have ne:=a3y (s.q0b[i]'(by omega)) (t.q0b[i]'(by omega));have hd:j3j s.q0b t.q0b i=decide (s.q0b[i]'(by omega)=t.q0b[i]'(by omega)):=by unfold j3j;rw[xgq (by omega),xgq (by omega)];simp
  rw[q3v,hd];simp only[z4R (H:=H22),T.a0Q,p1,q1,p2,q0a,q0e,a3,dt (show (i:Int)<(s.q0b.length:Int) by omega)];simp only[j36 (H:=H22),T.a7r,p1,q1,p2,q0a,q0e,a3,b3,eq_true z,eq_true z',if_true,e2,e2',e3,e3',ne];by_cases hp:s.q0b[i]'(by omega)=t.q0b[i]'(by omega)
  ·simp only[dt hp,xbt,Bool.true_and];simp only[j37 (H:=H22),T.a7s,p2,wp,show (i:Int)+1=((i+1:Nat):Int) by omega,wrap_i64 (n:=((i+1:Nat):Int)) (by omega) (by omega)];exact ih (i+1) (by omega)
  ·simp only[df hp,xbf,Bool.false_and,xbq,if_false]
theorem z8p (hx:m.get x=some (.cells [sp,sq,sa,.int .u64 s.latest] false)) (hy:m.get y=some (.cells [tp,tq,ta,.int .u64 t.latest] false)) (hs:BkV m sp sq sa s) (ht:BkV m tp tq ta t) (hn:s.pairs.length<=1000000000000000000) (hl:s.pairs.length=t.pairs.length) :
  ∀(d i:Nat),i+d=s.pairs.length->D22.gor 61445 [.ptr (some ⟨x,0⟩),.ptr (some ⟨y,0⟩),.int .i64 (i:Int)] m=if q3v (j3j s.pairs t.pairs) d i=true then D22.gor 61448 [.ptr (some ⟨x,0⟩),.ptr (some ⟨y,0⟩)] m else some (.bool false,m):=by
 have a3:∀i:Nat,ld1 m (.ptr (some ⟨x,i⟩))=[sp,sq,sa,.int .u64 s.latest][i]?:=fun i=>q0g hx
 have b3:∀i:Nat,ld1 m (.ptr (some ⟨y,i⟩))=[tp,tq,ta,.int .u64 t.latest][i]?:=fun i=>q0g hy
 intro d;induction d with
 |zero=>
  intro i hi;have:i=s.pairs.length:=by omega
  subst this;obtain⟨a,sz,cap,ex,e⟩:=hs.q.len;rw[xlm]at e;subst e;simp only[q3v,if_true];simp only[z4S (H:=H22),T.a0R,p1,q1,p2,q0a,q0e,a3,df (show ¬((s.pairs.length:Nat):Int)<(s.pairs.length:Int) by omega)]
 |succ d ih=>
  intro i hi;obtain⟨b,o,sz,cap,ex,e,z,_,e2,_,_,e3⟩:=hs.q.fld (i:=i) (by rw[xlm];omega);obtain⟨b',o',sz',cap',ex',e',z',_,e2',_,_,e3'⟩:=ht.q.fld (i:=i) (by rw[xlm];omega);rw[xlm]at e e2 e' e2';rw[xgm]at e3 e3';subst e e';have ne:=a3v (s.pairs[i]'(by omega)) (t.pairs[i]'(by omega));have hd:j3j s.pairs t.pairs i=decide (s.pairs[i]'(by omega)=t.pairs[i]'(by omega)):=by unfold j3j;rw[xgq (by omega),xgq (by omega)];simp
  rw[q3v,hd];simp only[z4S (H:=H22),T.a0R,p1,q1,p2,q0a,q0e,a3,dt (show (i:Int)<(s.pairs.length:Int) by omega)];simp only[j39 (H:=H22),T.a7u,p1,q1,p2,q0a,q0e,a3,b3,eq_true z,eq_true z',if_true,e2,e2',e3,e3',ne];by_cases hp:s.pairs[i]'(by omega)=t.pairs[i]'(by omega)
  ·simp only[dt hp,xbt,Bool.true_and];simp only[j4a (H:=H22),T.a7v,p2,wp,show (i:Int)+1=((i+1:Nat):Int) by omega,wrap_i64 (n:=((i+1:Nat):Int)) (by omega) (by omega)];exact ih (i+1) (by omega)
  ·simp only[df hp,xbf,Bool.false_and,xbq,if_false]
theorem z8l (hx:m.get x=some (.cells [sp,sq,sa,.int .u64 s.latest] false)) (hy:m.get y=some (.cells [tp,tq,ta,.int .u64 t.latest] false)) (hs:BkV m sp sq sa s) (ht:BkV m tp tq ta t) (hn:s.q0p.length<=1000000000000000000) (hl:s.q0p.length=t.q0p.length) :
  ∀(d i:Nat),i+d=s.q0p.length->D22.gor 61449 [.ptr (some ⟨x,0⟩),.ptr (some ⟨y,0⟩),.int .i64 (i:Int)] m=some (.bool (q3v (j3j s.q0p t.q0p) d i),m):=by
 have a3:∀i:Nat,ld1 m (.ptr (some ⟨x,i⟩))=[sp,sq,sa,.int .u64 s.latest][i]?:=fun i=>q0g hx
 have b3:∀i:Nat,ld1 m (.ptr (some ⟨y,i⟩))=[tp,tq,ta,.int .u64 t.latest][i]?:=fun i=>q0g hy
 intro d;induction d with
 |zero=>
  intro i hi;have:i=s.q0p.length:=by omega
  subst this;obtain⟨a,sz,cap,ex,e⟩:=hs.a.len;rw[xlm]at e;subst e;simp only[q3v];simp only[z4T (H:=H22),T.a0S,p1,q1,p2,q0a,q0e,a3,df (show ¬((s.q0p.length:Nat):Int)<(s.q0p.length:Int) by omega),j0P (H:=H22),T.j8B,wp]
 |succ d ih=>
  intro i hi;obtain⟨b,o,sz,cap,ex,e,z,_,e2,_,_,e3⟩:=hs.a.fld (i:=i) (by rw[xlm];omega);obtain⟨b',o',sz',cap',ex',e',z',_,e2',_,_,e3'⟩:=ht.a.fld (i:=i) (by rw[xlm];omega);rw[xlm]at e e2 e' e2';rw[xgm]at e3 e3';subst e e';have ne:=j9i (s.q0p[i]'(by omega)) (t.q0p[i]'(by omega));have hd:j3j s.q0p t.q0p i=decide (s.q0p[i]'(by omega)=t.q0p[i]'(by omega)):=by unfold j3j;rw[xgq (by omega),xgq (by omega)];simp
  rw[q3v,hd];simp only[z4T (H:=H22),T.a0S,p1,q1,p2,q0a,q0e,a3,dt (show (i:Int)<(s.q0p.length:Int) by omega)];simp only[j0N (H:=H22),T.j8z,p1,q1,p2,q0a,q0e,a3,b3,eq_true z,eq_true z',if_true,e2,e2',e3,e3',ne];by_cases hp:s.q0p[i]'(by omega)=t.q0p[i]'(by omega)
  ·simp only[dt hp,xbt,Bool.true_and];simp only[j0O (H:=H22),T.j8A,p2,wp,show (i:Int)+1=((i+1:Nat):Int) by omega,wrap_i64 (n:=((i+1:Nat):Int)) (by omega) (by omega)];exact ih (i+1) (by omega)
  ·simp only[df hp,xbf,Bool.false_and]
def q8i (s:LSt):Prop:=s.q0b.length<=1000000000000000000/\s.pairs.length<=1000000000000000000/\s.q0p.length<=1000000000000000000
theorem a4c (hs:BkV m sp sq sa s) (ht:BkV m tp tq ta t) (hn:q8i s) :
  Res m (run E22 (.fn 15) [.agg [sp,sq,sa,.int .u64 s.latest],.agg [tp,tq,ta,.int .u64 t.latest]] m) (.bool (z0z s t)):=by
 obtain⟨n1,n2,n3⟩:=hn;obtain⟨M,hM⟩:∃M,M=(m.lay (.cells [sp,sq,sa,.int .u64 s.latest] false)).lay (.cells [tp,tq,ta,.int .u64 t.latest] false):=⟨_,rfl⟩;have fM:Fr m M []:=by rw[hM];(repeat apply Fr.lays);exact Fr.refl _
 have hx:M.get m.next=some (.cells [sp,sq,sa,.int .u64 s.latest] false):=by rw[hM];simp only[Mem.q0B,Mem.q0t,nn1,if_true,if_false]
 have hy:M.get (m.next+1)=some (.cells [tp,tq,ta,.int .u64 t.latest] false):=by rw[hM];simp[Mem.q0B]
 have a3:∀i:Nat,ld1 M (.ptr (some ⟨m.next,i⟩))=[sp,sq,sa,.int .u64 s.latest][i]?:=fun i=>q0g hx
 have b3:∀i:Nat,ld1 M (.ptr (some ⟨m.next+1,i⟩))=[tp,tq,ta,.int .u64 t.latest][i]?:=fun i=>q0g hy
 have lp:=z8o hx hy (hs.q0h fM) (ht.q0h fM) n1;have lq:=z8p hx hy (hs.q0h fM) (ht.q0h fM) n2;have la:=z8l hx hy (hs.q0h fM) (ht.q0h fM) n3;obtain⟨x1,x2,x3,x4,e1⟩:=hs.p.len;obtain⟨x5,x6,x7,x8,e2⟩:=hs.q.len;obtain⟨x9,x10,x11,x12,e3⟩:=hs.a.len;obtain⟨y1,y2,y3,y4,f1⟩:=ht.p.len;obtain⟨y5,y6,y7,y8,f2⟩:=ht.q.len;obtain⟨y9,y10,y11,y12,f3⟩:=ht.a.len;rw[xlm]at e1 e2 e3 f1 f2 f3
 subst e1 e2 e3 f1 f2 f3;have done:∀{b:Bool},b=z0z s t->Res m (some (.bool b,M)) (.bool (z0z s t)):=fun h=>Res.eq fM (by rw[h])
 have fal:∀(h:s.q0b≠t.q0b\/s.pairs≠t.pairs\/s.q0p≠t.q0p\/s.latest≠t.latest),false=z0z s t:=fun h=>by
  unfold z0z;rcases h with h|h|h|h
  ·rw[df h];rfl
  ·rw[df h];simp
  ·rw[df h];simp
  ·rw[df h];simp
 simp only[a5p (H:=H22) rfl,T.f15,p1,q1,p2,q0K,q0a,ifV,q0e,AV.cells,AV.one,lcs,ge,if_true,xom,Mem.q0t,<-hM,a3,b3];by_cases h1:s.q0b.length=t.q0b.length
 ·by_cases h2:s.pairs.length=t.pairs.length
  ·by_cases h3:s.q0p.length=t.q0p.length
   ·by_cases h4:s.latest=t.latest
    ·simp only[show (s.q0b.length:Int)=(t.q0b.length:Int) by omega,show (s.pairs.length:Int)=(t.pairs.length:Int) by omega,show (s.q0p.length:Int)=(t.q0p.length:Int) by omega,h4,decide_true,xbt];have l1:=lp h1 s.q0b.length 0 (by omega);have l2:=lq h2 s.pairs.length 0 (by omega);have l3:=la h3 s.q0p.length 0 (by omega);rw[z2O h1]at l1;rw[z2O h2]at l2;rw[z2O h3]at l3;simp only[Int.natCast_zero]at l1 l2 l3
     simp only[j35 (H:=H22),T.a7q,wp,l1];by_cases g1:s.q0b=t.q0b
     ·rw[if_pos (dt g1)];simp only[j38 (H:=H22),T.a7t,wp,l2];by_cases g2:s.pairs=t.pairs
      ·rw[if_pos (dt g2)];simp only[j4b (H:=H22),T.a7w,wp,l3];exact done (by unfold z0z;rw[dt g1,dt g2,dt h4];simp)
      ·rw[if_neg (by simpa using g2)];exact done (fal (.inr (.inl g2)))
     ·rw[if_neg (by simpa using g1)];exact done (fal (.inl g1))
    ·simp only[show (s.q0b.length:Int)=(t.q0b.length:Int) by omega,show (s.pairs.length:Int)=(t.pairs.length:Int) by omega,show (s.q0p.length:Int)=(t.q0p.length:Int) by omega,df h4,decide_true,xbt,xbf];exact done (fal (.inr (.inr (.inr h4))))
   ·simp only[show (s.q0b.length:Int)=(t.q0b.length:Int) by omega,show (s.pairs.length:Int)=(t.pairs.length:Int) by omega,df (show ¬(s.q0p.length:Int)=(t.q0p.length:Int) by omega),decide_true,xbt,xbf];exact done (fal (.inr (.inr (.inl fun e=>h3 (by rw[e])))))
  ·simp only[show (s.q0b.length:Int)=(t.q0b.length:Int) by omega,df (show ¬(s.pairs.length:Int)=(t.pairs.length:Int) by omega),decide_true,xbt,xbf];exact done (fal (.inr (.inl fun e=>h2 (by rw[e]))))
 ·simp only[df (show ¬(s.q0b.length:Int)=(t.q0b.length:Int) by omega),xbf];exact done (fal (.inl fun e=>h1 (by rw[e])))
end
end
end Go.Proofs.YtlginbmjiecglaaGreatDoor
namespace Go.Abs
section
open Go
section
variable {P:Program} {t e:TypeId} {n:Nat} {m:Mem} {s:AV} {l:List (List AV)}
theorem q4o.q2s (ht:P.underlying t=some (.slice e)) (h:q4o n m s l):q2s P t s=some (.int .i64 (l.length:Int)):=by
 obtain⟨a,sz,cap,ex,rfl⟩:=h.len;exact z1X ht ..
theorem q4o.ixT (ht:P.underlying t=some (.slice e)) (hs:szT P e=some n) (h:q4o n m s l) {i:Nat} (hi:i<l.length) :
  ∃b o,b<m.next/\(∀k:IntKind,q0M P t s (.int k (i:Int))=some (.ptr (some ⟨b,o⟩)))/\(∀k,k<n->ld1 m (.ptr (some ⟨b,o+k⟩))=l[i][k]?)/\(∀k j,k+j<=n->ldN m (.ptr (some ⟨b,o+k⟩)) j=some (.agg ((l[i].drop k).take j)))/\ldN m (.ptr (some ⟨b,o⟩)) n=some (.agg l[i]):=by
 obtain⟨b,o,sz,cap,ex,e1,e2,e3,e4,e5,e6,e7⟩:=h.fld hi;refine⟨b,o+i*n,e3,fun k=>?_,e5,e6,e7⟩
 subst e1;unfold q0M;simp only[ht,hs];rw[if_pos e2];exact e4
theorem q03.ixT (ht:P.underlying t=some (.slice e)) (hs:szT P e=some n) {rb:Option Nat} (h:q03 n m s l rb) {i:Nat} (hi:i<l.length) :
  ∃b,rb=some b/\∀k:IntKind,q0M P t s (.int k (i:Int))=some (.ptr (some ⟨b,i*n⟩)):=by
 obtain⟨b,e1,e2,e3,e4,_⟩:=h.at hi;refine⟨b,e1,fun k=>?_⟩
 subst e2;unfold q0M;simp only[ht,hs,true_or,if_true];exact e4
end
theorem q03.reads {P:Program} {t e:TypeId} {n:Nat} {m:Mem} {s:AV} {α:Type} {f:α->List AV} {l:List α} {rb:Option Nat} (ht:P.underlying t=some (.slice e)) (hs:szT P e=some n) (h:q03 n m s (l.map f) rb) {i:Nat} {x:α} (hx:l[i]? = some x) :
  ∃b,rb=some b/\b<m.next/\(∀k:IntKind,q0M P t s (.int k (i:Int))=some (.ptr (some ⟨b,i*n⟩)))/\(∀M,Fr m M []->∀o,o<n->ld1 M (.ptr (some ⟨b,i*n+o⟩))=(f x)[o]?)/\(∀M,Fr m M []->∀o k,o+k<=n->ldN M (.ptr (some ⟨b,i*n+o⟩)) k=some (.agg (((f x).drop o).take k))):=by
 obtain⟨hi,rfl⟩:=xgi.1 hx;obtain⟨b,e1,e2⟩:=h.ixT ht hs (i:=i) (by rw[xlm];exact hi);have key:∀M,Fr m M []->(∀o,o<n->ld1 M (.ptr (some ⟨b,i*n+o⟩))=(f l[i])[o]?)/\(∀o k,o+k<=n->ldN M (.ptr (some ⟨b,i*n+o⟩)) k=some (.agg (((f l[i]).drop o).take k))):=fun M hM=>by
  obtain⟨b',g1,_,_,g4,g5⟩:=(h.frame hM (by simp)).fld (i:=i) (by rw[xlm];exact hi);rw[e1]at g1;cases g1;rw[xgm]at g4 g5;exact⟨g4,g5⟩
 exact⟨b,e1,by subst e1;exact h.lt,e2,fun M hM=>(key M hM).1,fun M hM=>(key M hM).2⟩
def upTo (s:AV) (n k:Nat):AV:=match s with | .sl (some a) _ _ cap ex=>.sl (some a) n k cap ex | _=>.sl none n 0 0 true
def q8z (s:AV) (n k:Nat):AV:=match s with | .sl (some a) _ len cap ex=>.sl (some ⟨a.b,a.o+k*n⟩) n (len-k) (cap-k) ex | _=>.sl none n 0 0 true
section
variable {P:Program} {t e:TypeId} {n:Nat} {m:Mem} {s:AV} {l:List (List AV)} {rb:Option Nat}
theorem q03.upTo (ht:P.underlying t=some (.slice e)) (hs:szT P e=some n) (h:q03 n m s l rb) {k:Nat} (hk:k<=l.length):q0s P t s none (some (.int .i64 (k:Int)))=some (upTo s n k)/\q4o n m (upTo s n k) (l.take k):=by
 have hl:=q1w h.lens;have h0:∀x∈l.take k,x.length=n/\x.all AV.one=true:=fun x hx=>h.1 x (List.mem_of_mem_take hx)
 rcases h.2 with (⟨rfl,rfl,sz,ex,rfl⟩|⟨b,rfl,rfl,rfl,h3⟩)|⟨b,rfl,rfl,h3⟩
 ·have:k=0:=by simpa using hk
  subst this;refine⟨?_,h0,.inl ⟨by simp,_,_,_,rfl⟩⟩;simp[q0s,ht,hs,hiA,loA,Abs.upTo]
 ·have:k=0:=by simpa using hk
  subst this;refine⟨?_,h0,.inr ⟨b,0,n,0,true,false,[],by simp[Abs.upTo],.inl rfl,h3,by simp,by simp⟩⟩;simp[q0s,ht,hs,hiA,loA,Abs.upTo]
 ·refine⟨?_,h0,.inr ⟨b,0,_,_,_,_,_,by simp only[Abs.upTo,xlt0];rw[Nat.min_eq_left hk],.inl rfl,h3,?_,?_⟩⟩
  ·have hk':(k:Int)<=(l.length:Int):=by omega
   simp[q0s,ht,hs,hiA,loA,Abs.upTo,hk]
  ·rw[hl,xlt0,Nat.min_eq_left hk,xnz];exact Nat.mul_le_mul_right n hk
  ·rw[xlt0,Nat.min_eq_left hk,List.drop_zero,q5u k h.lens]
theorem q03.q8z (ht:P.underlying t=some (.slice e)) (hs:szT P e=some n) (h:q03 n m s l rb) {k:Nat} (hk:k<=l.length):q0s P t s (some (.int .i64 (k:Int))) none=some (q8z s n k)/\q4o n m (q8z s n k) (l.drop k):=by
 have hl:=q1w h.lens;have h0:∀x∈l.drop k,x.length=n/\x.all AV.one=true:=fun x hx=>h.1 x (List.mem_of_mem_drop hx)
 rcases h.2 with (⟨rfl,rfl,sz,ex,rfl⟩|⟨b,rfl,rfl,rfl,h3⟩)|⟨b,rfl,rfl,h3⟩
 ·have:k=0:=by simpa using hk
  subst this;refine⟨?_,h0,.inl ⟨by simp,_,_,_,rfl⟩⟩;simp[q0s,ht,hs,hiA,loA,Abs.q8z]
 ·have:k=0:=by simpa using hk
  subst this;refine⟨?_,h0,.inr ⟨b,0,n,0,true,false,[],by simp[Abs.q8z],.inl rfl,h3,by simp,by simp⟩⟩;simp[q0s,ht,hs,hiA,loA,Abs.q8z]
 ·have e1:k*n+(l.length-k)*n=l.length*n:=by rw[<-Nat.add_mul];congr 1;omega
  refine⟨?_,h0,.inr ⟨b,k*n,n,l.length-k,false,false,l.flatten,?_,.inl rfl,h3,?_,?_⟩⟩
  ·simp[q0s,ht,hs,hiA,loA,Abs.q8z,hk]
  ·simp[Abs.q8z]
  ·rw[hl,xld0];omega
  ·rw[xld0,q2b k h.lens];exact xtl (by rw[q1w (fun x hx=>(h0 x hx).1),xld0];omega)
end
theorem append_nil {n w:Nat} {m:Mem} {x:AV} {l:List (List AV)} (h:q4o n m x l) (hw:l.length*w<=q06) :
  ∃s' m' r,q0Y n w (.sl none 0 0 0 true) x m=some (s',m')/\q03 n m' s' l r/\Fr m m' []/\(∀c,r=some c->m.next<=c):=by
 unfold q0Y;rw[h.src];simp only[h.ones,not_true_eq_false,if_false];by_cases h0:l.length=0
 ·rw[if_pos h0];have:l=[]:=List.length_eq_zero_iff.1 h0;subst this;exact⟨_,_,none,rfl,q03.nil _ _ _ _,Fr.refl _,nofun⟩
 ·rw[if_neg h0,if_pos hw];exact⟨_,_,some m.next,rfl,⟨h.1,.inr ⟨m.next,rfl,rfl,by simp[Mem.q0B]⟩⟩,Fr.alloc _ _,fun c hc=>by cases hc;exact xnr _⟩
theorem q3x {n w:Nat} {m:Mem} {s x:AV} {l k:List (List AV)} {b:Nat} (h:q03 n m s l (some b)) (hx:q4o n m x k) (hw:(l.length+k.length)*w<=q06) :
  ∃s' m' r,q0Y n w s x m=some (s',m')/\q03 n m' s' (l++k) (some r)/\Fr m m' [b]/\(r=b\/m.next<=r):=by
 have hall:∀y∈l++k,y.length=n/\y.all AV.one=true:=by
  intro y hy;rw[xma]at hy;exact hy.elim (h.1 y) (hx.1 y)
 have hfl:=q1w h.lens;have hfk:=q1w hx.lens;rcases h.2 with (⟨_,h0,_⟩|⟨b',rfl,h1,rfl,h3⟩)|⟨b',h1,rfl,h3⟩
 ·cases h0
 ·cases h1;unfold q0Y;rw[hx.src];simp only[hx.ones,not_true_eq_false,if_false,true_or,if_true];by_cases h0:k.length=0
  ·have:k=[]:=List.length_eq_zero_iff.1 h0;subst this;rw[if_pos (by simp)];have hst:q1t m ⟨b,0+0*n⟩ ([]:List (List AV)).flatten=some (m.put b (some (.cells [] false))):=by
    simp[q1t,h3]
   rw[hst];exact⟨_,_,b,rfl,⟨hall,.inl (.inr ⟨b,by simp,rfl,rfl,q0v h3⟩)⟩,Fr.put _ _ _,.inl rfl⟩
  ·have hld:q0G m ⟨b,0⟩ (0*n)=some []:=by simp[q0G,h3]
   rw[if_neg (by omega),if_pos (by simpa using hw),hld];simp only;exact⟨_,_,m.next,rfl,⟨hall,.inr ⟨m.next,rfl,by simp,by simp[Mem.q0B]⟩⟩,(Fr.alloc _ _).mono (by simp),.inr (xnr _)⟩
 cases h1;unfold q0Y;rw[hx.src];simp only[hx.ones,not_true_eq_false,if_false,true_or,if_true];by_cases h0:k.length=0
 ·have:k=[]:=List.length_eq_zero_iff.1 h0;subst this;rw[if_pos (by simp)];have hst:q1t m ⟨b,0+l.length*n⟩ ([]:List (List AV)).flatten=some (m.put b (some (.cells l.flatten false))):=by
   simp only[q1t,h3];rw[if_pos (by simp[hfl]),xnz];simp only[List.flatten_nil,List.length_nil,xna,List.append_nil,List.take_append_drop]
  rw[hst];refine⟨_,_,b,rfl,⟨hall,.inr ⟨b,rfl,by simp,?_⟩⟩,Fr.put _ _ _,.inl rfl⟩;rw[List.append_nil];exact q0v h3
 ·rw[if_neg (by omega),if_pos hw];have hld:q0G m ⟨b,0⟩ (l.length*n)=some l.flatten:=by
   simp only[q0G,h3];rw[if_pos (by omega),List.drop_zero,xtl (by omega)]
  rw[hld];simp only[xbq,if_false,h3];refine⟨_,_,m.next,rfl,⟨hall,.inr ⟨m.next,rfl,by simp,?_⟩⟩,((Fr.put m b none).trans (Fr.alloc _ _) (by simp) (by simp)),.inr (xnr _)⟩
  simp[Mem.q0B,List.flatten_append]
theorem z6p {n w:Nat} (hn:0<n) {m:Mem} {s:AV} {l:List (List AV)} {rb:Option Nat} (h:q03 n m s l rb) {sA sB:AV} {k:Nat} (hk:k<=l.length) (hA:q4o n m sA (l.take k)) (hB:q4o n m sB (l.drop k))
  {new:List AV} (hl:new.length=n) (ho:new.all AV.one=true) (hw:(l.length+1)*w<=q06) :
  ∃s1 m1 s2 m2 s3 m3 r,q0Y n w (.sl none 0 0 0 true) sA m=some (s1,m1)/\q0Y n w s1 (.sl (some ⟨m1.next,0⟩) n 1 1 true) (m1.lay (.cells new false))=some (s2,m2)/\q0Y n w s2 sB m2=some (s3,m3)/\
   q03 n m3 s3 (q2O k new l) (some r)/\Fr m m1 []/\Fr m m2 []/\Fr m m3 []/\m.next<=r:=by
 obtain⟨s1,m1,r1,a1,a2,a3,a4⟩:=append_nil hA (xnt0 (Nat.mul_le_mul_right w (by rw[xlt0];omega)) hw);have f1:Fr m1 (m1.lay (.cells new false)) []:=(Fr.refl m1).lay _;have r1lt:∀c,r1=some c->c<m1.next:=fun c hc=>by subst hc;exact a2.lt
 obtain⟨s2,m2,b1,b2,b3,b4⟩:=q3y (w:=w) hn (a2.frame f1 (by simp)) (q0f m1 (.cells new false)) hl ho (by
  rw[xlt0,Nat.min_eq_left hk];exact xnt0 (Nat.mul_le_mul_right w (by omega)) hw)
 have F2:Fr m m2 []:=(a3.step0 f1).step b4 (fun c hc=>by rw[Option.mem_toList]at hc;exact .inr (a4 c hc))
 have n1:=a3.next
 obtain⟨s3,m3,r,c1,c2,c3,c4⟩:=q3x (w:=w) b2 (hB.q0h F2) (by
  rw[xla0,xlt0,xld0,Nat.min_eq_left hk];simp only[List.length_cons,List.length_nil];exact xnt0 (Nat.mul_le_mul_right w (by omega)) hw)
 have e9:(m1.lay (.cells new false)).next=m1.next+1:=rfl
 refine⟨s1,m1,s2,m2,s3,m3,r,a1,b1,c1,?_,a3,F2,F2.step c3 (fun c hc=>by simp only[xms]at hc;exact .inr (by omega)),?_⟩
 ·rw[List.append_assoc]at c2;exact c2
 ·have:=F2.next
  rcases c4 with h|h<;>omega
end
end Go.Abs
namespace Go.Proofs.YtlginbmjiecglaaGreatDoor
section
set_option maxRecDepth 4000
open Go Go.Abs
section
variable {m:Mem} {b:Nat} {st:LSt} {F:List Nat}
theorem uP:∃e,Tryz.prog.underlying 23=some (.slice e)/\szT Tryz.prog e=some 4:=⟨56,by kernel_rfl,by kernel_rfl⟩
theorem z8d (h:q0L m b st F) (w:LWf st) (name:List UInt8) (t2:AV):∀(d k:Nat),k+d=lb q0c name (st.q0b.map (·.name))->
  D22.gor 110593 [.ptr (some ⟨b,0⟩),.str name,t2,.int .i64 (k:Int)] m=D22.gor 110595 [.ptr (some ⟨b,0⟩),.str name,t2,.int .i64 ((lb q0c name (st.q0b.map (·.name)):Nat):Int)] m:=by
 obtain⟨sp,sq,sa,rp,rq,ra,h1,h2,h3,h4,h5⟩:=h.ex;have a3:∀i:Nat,ld1 m (.ptr (some ⟨b,i⟩))=[sp,sq,sa,.int .u64 st.latest,.int .i64 st.most][i]?:=fun i=>q0g h1
 obtain⟨e,he,hs⟩:=uP;have hle:=z0f (lt:=q0c) name (st.q0b.map (·.name));rw[xlm]at hle;have hlp:=w.lp;have hlen:=h2.v.q2s he;rw[xlm]at hlen;intro d;induction d with
 |zero=>
  intro k hk;have:k=lb q0c name (st.q0b.map (·.name)):=by omega
  rw[<-this];by_cases hlt:k<st.q0b.length
  ·obtain⟨bb,o,_,x2,x3,_,_⟩:=h2.v.ixT he hs (i:=k) (by rw[xlm];exact hlt);have x4:=x3 0 (by omega);rw[xgm]at x4;have hat:=j6m (lt:=q0c) (k:=name) (ks:=st.q0b.map (·.name)) (by rw[xlm];omega);simp only[<-this,xgm]at hat;simp only[ge,q0q.cells,xna]at x4;simp only[q9J (H:=H22),T.j4t,p1,q1,p2,nnA,q0a,ifV,q0e,a3,hlen,dt (show (k:Int)<(st.q0b.length:Int) by omega),x2,x4,hat]
  ·simp only[q9J (H:=H22),T.j4t,p1,q1,p2,nnA,q0a,ifV,q0e,a3,hlen,df (show ¬(k:Int)<(st.q0b.length:Int) by omega)]
 |succ d ih=>
  intro k hk;have hlt:k<st.q0b.length:=by omega
  obtain⟨bb,o,_,x2,x3,_,_⟩:=h2.v.ixT he hs (i:=k) (by rw[xlm];exact hlt);have x4:=x3 0 (by omega);rw[xgm]at x4;have hbe:=q7l (lt:=q0c) (k:=name) (ks:=st.q0b.map (·.name)) (j:=k) (by rw[xlm];omega) (by omega);rw[xgm]at hbe;simp only[ge,q0q.cells,xna]at x4;simp only[q9J (H:=H22),T.j4t,p1,q1,p2,nnA,q0a,ifV,q0e,a3,hlen,dt (show (k:Int)<(st.q0b.length:Int) by omega),x2,x4,hbe]
  simp only[j4u (H:=H22),T.a7K,p2,wp,show (k:Int)+1=((k+1:Nat):Int) by omega,wrap_i64 (n:=((k+1:Nat):Int)) (by omega) (by omega)];exact ih (k+1) (by omega)
theorem q0L.q0b {sp sq sa sp':AV} {rq ra:Option Nat} {r:Nat} {ps:List q0q} {m':Mem} (h1:m.get b=some (.cells [sp,sq,sa,.int .u64 st.latest,.int .i64 st.most] false)) (h3:q03 9 m sq (st.pairs.map (·.cells)) rq) (h4:q03 4 m sa (st.q0p.map (·.cells)) ra)
  (h6:b∉rq.toList) (h7:b∉ra.toList) (h10:Dj rq.toList ra.toList) (hf:Fr m m' []) (hr:q03 4 m' sp' (ps.map (·.cells)) (some r)) (hn:m.next<=r) :
  ∃m2 F',stV m' (.ptr (some ⟨b,0⟩)) sp' 1=some m2/\q0L m2 b {st with q0b:=ps} F'/\Fr m m2 [b]/\∀c,c∈F'->c=b\/c∈rq.toList\/c∈ra.toList\/m.next<=c:=by
 have B:=hf.get h1 (by simp);have hb:=Mem.q0x h1;have s1:=hr.one;have lq:∀c,c∈rq.toList->c<m.next:=fun c hc=>by rw[Option.mem_toList]at hc;subst hc;exact h3.lt
 have la:∀c,c∈ra.toList->c<m.next:=fun c hc=>by rw[Option.mem_toList]at hc;subst hc;exact h4.lt
 have sv:stV m' (.ptr (some ⟨b,0⟩)) sp' 1=some (m'.put b (some (.cells [sp',sq,sa,.int .u64 st.latest,.int .i64 st.most] false))):=by
  have:=q1l (v:=sp') (vs:=[sp']) (o:=0) (n:=1) B (q3R s1) rfl (by simp);simpa using this
 have fp:Fr m' (m'.put b (some (.cells [sp',sq,sa,.int .u64 st.latest,.int .i64 st.most] false))) [b]:=Fr.put _ _ _;have fA:Fr m (m'.put b (some (.cells [sp',sq,sa,.int .u64 st.latest,.int .i64 st.most] false))) [b]:=(hf.any _).step fp (fun c hc=>.inl hc)
 have nb:∀{r:Option Nat},b∉r.toList->∀c,r=some c->c∉[b]:=fun hr c hc=>by simp only[xms];rintro rfl;exact hr (by rw[hc];simp)
 refine⟨_,b::((some r).toList++rq.toList++ra.toList),sv,⟨sp',sq,sa,some r,rq,ra,q0v B,hr.frame fp (fun c hc=>by cases hc;simp;omega),h3.frame fA (nb h6),h4.frame fA (nb h7),by simp;omega,h6,h7,?_,?_,h10,rfl⟩,fA,?_⟩
 ·intro c h1' h2';simp only[Option.toList_some,xms]at h1';have:=lq c h2';omega
 ·intro c h1' h2';simp only[Option.toList_some,xms]at h1';have:=la c h2';omega
 ·intro c hc;simp only[xmk0,xma,Option.toList_some,List.not_mem_nil,or_false]at hc;rcases hc with hc|(hc|hc)|hc
  ·exact .inl hc
  ·exact .inr (.inr (.inr (by omega)))
  ·exact .inr (.inl hc)
  ·exact .inr (.inr (.inl hc))
theorem z6B (h:q0L m b st F) (w:LWf st) (name:List UInt8) (hn:name.length<4611686018427387904) {scale:Int} (h0:0<=scale) :
  ∃m' F',run E22 (.fn 27) [.ptr (some ⟨b,0⟩),.str name,.int .u64 scale] m=some (.int .i64 (q6e st name scale).1,m')/\q0L m' b (q6e st name scale).2 F'/\Fr m m' F/\∀c,c∈F'->c∈F\/m.next<=c:=by
 have rn:=fun m=>j6O (H:=H22) rfl name hn m
 have gp:=q6X (H:=H22) rfl h (by have:=w.lp;omega) name;have gp0:=gp m (Fr.refl m);have hlp:=w.lp;have lo:=z8d h w name (.int .u64 scale);obtain⟨sp,sq,sa,rp,rq,ra,h1,h2,h3,h4,h5,h6,h7,h8,h9,h10,hF⟩:=h.ex;have hb:=Mem.q0x h1;have a3:∀i:Nat,ld1 m (.ptr (some ⟨b,i⟩))=[sp,sq,sa,.int .u64 st.latest,.int .i64 st.most][i]?:=fun i=>q0g h1
 obtain⟨e,he,hs⟩:=uP;have hlen:=h2.v.q2s he;rw[xlm]at hlen;have done:∀v:AV,∃m' F',some (v,m)=some (v,m')/\q0L m' b st F'/\Fr m m' F/\∀c,c∈F'->c∈F\/m.next<=c:=fun v=>⟨m,F,rfl,h,Fr.refl' _ _,fun c hc=>.inl hc⟩
 unfold q6e;cases hnb:q3Y name with
 |false=>
  rw[hnb]at rn;rw[if_pos rfl];simp only[z05 (H:=H22) rfl,T.f27,p1,p2,q1,nnA,q0a,unA,q0e,rn,xbf];exact done _
 |true=>
  rw[hnb]at rn;rw[if_neg (by decide)];by_cases hsc:18<scale
  ·rw[if_pos hsc];simp only[z05 (H:=H22) rfl,T.f27,p1,p2,q1,nnA,q0a,unA,q0e,rn,xbt,dt hsc];exact done _
  ·rw[if_neg hsc];cases hk:q0O q0c name (st.q0b.map (·.name)) with
   |true=>
    rw[q6W w hk]at gp0;rw[if_pos rfl];simp only[z05 (H:=H22) rfl,T.f27,p1,p2,q1,nnA,q0a,unA,q0e,rn,xbt,df hsc,gp0,dt (show (0:Int)<=((st.iP name:Nat):Int) by omega)];exact done _
   |false=>
    rw[q8c w hk]at gp0;rw[if_neg (by decide)];by_cases h8p:8<=st.q0b.length
    ·rw[if_pos h8p];simp only[z05 (H:=H22) rfl,T.f27,p1,p2,q1,nnA,q0a,unA,q0e,rn,xbt,df hsc,gp0,df (show ¬(0:Int)<=-1 by omega),a3,hlen,dt (show (8:Int)<=(st.q0b.length:Int) by omega)];exact done _
    ·rw[if_neg h8p];obtain⟨k,hk'⟩:∃k,k=lb q0c name (st.q0b.map (·.name)):=⟨_,rfl⟩;have l0:=lo k 0 (by omega);rw[<-hk']at l0⊢;have hkl:k<=(st.q0b.map (·.cells)).length:=by rw[xlm,hk'];have:=z0f (lt:=q0c) name (st.q0b.map (·.name));rw[xlm]at this;exact this
     obtain⟨u1,u2⟩:=h2.upTo he hs hkl;obtain⟨v1,v2⟩:=h2.q8z he hs hkl;obtain⟨s1,m1,s2,m2,s3,m3,r,q1,q2,q3,q4,f1,f2,f3,q5⟩:=z6p (w:=40) (by omega) h2 hkl u2 v2 (new:=(q0q.mk name scale ⟨0,0⟩).cells) rfl rfl (q1v (by rw[xlm];omega) (by decide));rw[<-q2K (·.cells) k (q0q.mk name scale ⟨0,0⟩)]at q4;obtain⟨m4,F',z1,z2,z3,z4⟩:=q0L.q0b h1 h3 h4 h6 h7 h10 f3 q4 q5;have a31:∀i:Nat,ld1 m1 (.ptr (some ⟨b,i⟩))=[sp,sq,sa,.int .u64 st.latest,.int .i64 st.most][i]?:=fun i=>q0g (f1.get h1 (by simp))
     have a32:∀i:Nat,ld1 m2 (.ptr (some ⟨b,i⟩))=[sp,sq,sa,.int .u64 st.latest,.int .i64 st.most][i]?:=fun i=>q0g (f2.get h1 (by simp))
     have a33:∀i:Nat,ld1 (m1.lay (.cells (q0q.mk name scale ⟨0,0⟩).cells false)) (.ptr (some ⟨b,i⟩))=[sp,sq,sa,.int .u64 st.latest,.int .i64 st.most][i]?:=fun i=>q0g ((f1.step0 ((Fr.refl m1).lay _)).get h1 (by simp))
     refine⟨m4,F',?_,z2,z3.mono (by rw[hF];simp),fun c hc=>?_⟩
     ·simp only[z05 (H:=H22) rfl,T.f27,p1,p2,nnA,q0a,unA,q0e,rn,xbt,df hsc,gp0,df (show ¬(0:Int)<=-1 by omega),a3,hlen,df (show ¬(8:Int)<=(st.q0b.length:Int) by omega)];simp only[Int.natCast_zero]at l0;have bs:=q5j (n:=4) (zs:=[.str [],.int .i64 0,.int .i64 0,.int .u64 0]) (cs:=(q0q.mk name scale ⟨0,0⟩).cells) rfl rfl rfl;simp only[q0q.cells]at bs q2 a33
      have ws:IntKind.wrap .i64 scale=scale:=wrap_i64 (by omega) (by omega);simp only[j4s (H:=H22),T.a7J,wp,l0];simp only[j4v (H:=H22),T.a7L,p1,q1,p2,apE,q0o,AV.cells,Nat.reduceAdd,Nat.reduceLeDiff,nnA,a4q,a3,u1,ws,bs,a33,q2,a32,v1,q3,z1]
     ·rcases z4 c hc with h|h|h|h
      ·exact .inl (by rw[hF,h];simp)
      ·exact .inl (by rw[hF];simp[h])
      ·exact .inl (by rw[hF];simp[h])
      ·exact .inr h
end
end
end Go.Proofs.YtlginbmjiecglaaGreatDoor
