/- Texts of one claim, put together. -/
import Derived.Test.YtkbhcgifnnhbaaaGreatDoorK4
import Derived.Orders
namespace Go.Abs
open Go
noncomputable section
section
variable {P:Program}
def Agree (op:Op) (t t':List AV):Prop:=∀x,.tmp x∈op.operands->t.getD x .undef=t'.getD x .undef
theorem q5C {t t':List AV} {x:Operand} (h:∀i,x=.tmp i->t.getD i .undef=t'.getD i .undef):ev P t x=ev P t' x:=by
 cases x with
 |tmp i=>simp only[ev,q3M];rw[h i rfl]
 | _=>rfl
theorem q6y {t t':List AV}:∀{xs:List Operand},(∀i,.tmp i∈xs->t.getD i .undef=t'.getD i .undef)->evs P t xs=evs P t' xs
 |[],_=>rfl
 |x::xs,h=>by
  simp only[evs];rw[q5C (x:=x) (fun i e=>h i (by rw[<-e];simp)),q6y (xs:=xs) (fun i e=>h i (by simp[e]))]
theorem q4B {t t':List AV}:∀{xs:List (Nat×Operand)},(∀i,.tmp i∈xs.map (·.2)->t.getD i .undef=t'.getD i .undef)->q2a P t xs=q2a P t' xs
 |[],_=>rfl
 |(k,x)::xs,h=>by
  simp only[q2a];rw[q5C (x:=x) (fun i e=>h i (by rw[<-e];simp)),q4B (xs:=xs) (fun i e=>h i (by simp only[xBf,xmk0];exact .inr e))]
theorem z5w {op:Op} {t t':List AV} (h:Agree op t t'):q5f P op t=q5f P op t':=by
 have E:∀x,x∈op.operands->ev P t x=ev P t' x:=fun x hx=>q5C fun i e=>h i (e▸hx)
 unfold Agree at h;unfold q5f;split<;>simp only[Op.operands]at E h
 case h_15=>rw[E _ (by simp)]
 all_goals first
  |(rw[E _ (by simp)];done)
  |(rw[E _ (by simp),E _ (by simp)];done)
  |skip
 case h_3 c a b=>rw[E c (by simp),E a (by simp),E b (by simp)]
 case h_12 s x lo hi=>
  rw[E x (by simp)];cases lo with
  |none=>cases hi with
   |none=>rfl
   |some b=>simp only[];rw[E b (by simp)]
  |some a=>cases hi with
   |none=>simp only[];rw[E a (by simp)]
   |some b=>simp only[];rw[E a (by simp),E b (by simp)]
 case h_13 s x lo hi mx=>
  rw[E x (by simp),E hi (by simp),E mx (by simp)];cases lo with
  |none=>rfl
  |some a=>simp only[];rw[E a (by simp)]
 case h_16 f first cap=>
  rw[q6y (xs:=first.toList) (fun i e=>h i (by simp;left;simpa using e)),q6y (xs:=cap.toList) (fun i e=>h i (by simp;right;simpa using e))]
 case h_17 s parts=>rw[q4B (xs:=parts.toList) (fun i e=>h i (by simpa using e))]
 case h_18 x s=>rw[E x (by simp[Call.operands])]
 case h_19 x s=>rw[E x (by simp[Call.operands])]
 case h_20 x y s=>rw[E x (by simp[Call.operands]),E y (by simp[Call.operands])]
 case h_21 x y s=>rw[E x (by simp[Call.operands]),E y (by simp[Call.operands])]
 case h_22=>rfl
theorem z5D {op:Op} {t t':List AV} (h:Agree op t t') (m:Mem):q1r P op t m=q1r P op t' m:=by
 have E:∀x,x∈op.operands->ev P t x=ev P t' x:=fun x hx=>q5C fun i e=>h i (e▸hx)
 unfold q1r;split<;>simp only[Op.operands]at E
 ·rw[E _ (by simp)]
 ·rw[E _ (by simp)]
 ·rename_i s x k ok;rw[E x (by simp),E k (by simp)]
 ·rename_i x;rw[E x (by simp)]
 ·rename_i x s;rw[E x (by simp[Call.operands])]
 ·rfl
theorem z1i {op:Op} {t t':List AV} (h:Agree op t t'):q3h P op t=q3h P op t':=by
 have E:∀x,x∈op.operands->ev P t x=ev P t' x:=fun x hx=>q5C fun i e=>h i (e▸hx)
 unfold Agree at h;unfold q3h;cases op<;>simp only[Op.operands]at E h
 case box e x=>simp only[];rw[E x (by simp)]
 case buildSlice s len parts=>
  simp only[];rw[q4B (xs:=parts.toList) (fun i e=>h i (by simpa using e))]
 case makeSlice s l c=>simp only[];rw[E l (by simp),E c (by simp)]
 case convert a b x=>simp only[];rw[E x (by simp)]
 case makeMap s r=>cases r<;>rfl
 all_goals rfl
def a8K (call:q04) (P:Program) (op:Op) (t:List AV) (m:Mem):R:=z6m call P op t m fun v m'=>some (v,m')
theorem j4p (call:q04) (op:Op) (t:List AV) (m:Mem) (K:AV->Mem->R):z6m call P op t m K=(a8K call P op t m).bind fun r=>K r.1 r.2:=by
 unfold a8K z6m;split
 all_goals simp only[Option.bind_assoc,xAr,xDw]
theorem j0Q {op:Op} {t t':List AV} (h:Agree op t t') (call:q04) (m:Mem):a8K call P op t m=a8K call P op t' m:=by
 have E:∀x,x∈op.operands->ev P t x=ev P t' x:=fun x hx=>q5C fun i e=>h i (e▸hx)
 unfold Agree at h;unfold a8K z6m;split<;>simp only[Op.operands]at E h
 ·rename_i a b c;rw[E b (by simp),E c (by simp)]
 ·rename_i a b c d;rw[E a (by simp[Call.operands]),E b (by simp[Call.operands])]
 ·rename_i a b c d;rw[E a (by simp[Call.operands]),E b (by simp[Call.operands])]
 ·rename_i s x k v;rw[E x (by simp),E k (by simp),E v (by simp)]
 ·rename_i s x k v;rw[E x (by simp),E k (by simp),E v (by simp)]
 ·rename_i x k s ts;rw[E x (by simp[Call.operands]),E k (by simp[Call.operands])]
 ·rename_i x s ts;rw[E x (by simp[Call.operands])]
 ·rename_i f xs ts;rw[E f (by simp[Call.operands]),q6y (xs:=xs) (fun i e=>h i (by simp[Call.operands,e]))]
 ·rename_i s x;rw[E x (by simp)]
 ·rfl
theorem z0B {call:q04} (hcall:q10 P call) {o:Oper} {t:List AV} {m:Mem} {v:AV} {m':Mem} (h:a8K call P o.op t m=some (v,m')):j0C P o t m v m':=by
 obtain⟨v',m1,h1,h2⟩:=z0A hcall (o:=o) (K:=fun v m'=>some (v,m')) h
 cases h1;exact h2
def q5q (ops:List Oper) (o:Oper) (t:List AV):Option Bool:=
 match o.guard with
 |none=>some true
 |some (j,want)=>match (ops[j]?).bind (·.dst) with
  |some d=>match t.getD d .undef with
   | .bool b=>some (b==want)
   | .tup []=>some false
   | _=>none
  |none=>none
theorem z1W {all:List Oper} {o:Oper} {t:List AV} {sk:List Tmp} {y n:List AV->R} {r:AV×Mem} (h:q35 sk all o t y n=some r):(q5q all o t=some true/\y t=some r)\/(q5q all o t=some false/\n t=some r):=by
 replace h:=q9h h
 unfold z1V at h;unfold q5q;split at h
 ·rename_i hg;left;refine⟨?_,h⟩;simp only[hg]
 ·rename_i j want hg;split at h
  ·rename_i d hd;split at h
   ·rename_i b hb;split at h
    ·rename_i hbw;left;refine⟨?_,h⟩;simp only[hg,hd,hb,hbw,beq_self_eq_true]
    ·rename_i hbw;right;refine⟨?_,h⟩;simp only[hg,hd,hb];simpa using hbw
   ·rename_i hb;right;refine⟨?_,h⟩;simp only[hg,hd,hb]
   ·simp at h
  ·simp at h
theorem z6g {all:List Oper} {o:Oper} {t:List AV} {b:Bool} (h:q5q all o t=some b) (p:Phi) (tmps:Array Value) (ht:∀d,(match o.guard with|some (j,_)=>(all[j]?).bind (·.dst)|none=>none)=some d->VR p (t.getD d .undef) (tmps.getD d undef)/\d<tmps.size) :
  Region.wanted o (yielded ⟨all⟩ tmps)=b:=by
 unfold q5q at h;split at h
 ·rename_i hg;cases h;simp[Region.wanted,hg]
 ·rename_i j want hg;split at h
  ·rename_i d hd;split at h
   ·rename_i c hb;cases h;obtain⟨h1,h2⟩:=ht d (by simp only[hg];exact hd);rw[hb]at h1;simp only[VR]at h1;have h3:tmps[d]? = some (.bool c):=by
     rw[xAl h2];rw[xAx,xAl h2]at h1;simpa using h1
    have hd':((⟨all⟩:Array Oper)[j]?).bind (·.dst)=some d:=by simpa using hd
    simp only[Region.wanted,hg,yielded,hd',xAr,h3];cases c<;>cases want<;>rfl
   ·rename_i hb;cases h;obtain⟨h1,h2⟩:=ht d (by simp only[hg];exact hd);rw[hb]at h1;simp only[VR]at h1;obtain⟨vs,h1,_⟩:=h1;have h3:tmps[d]? = some (.tuple ⟨vs⟩):=by
     rw[xAl h2];rw[xAx,xAl h2]at h1;simpa using h1
    have hd':((⟨all⟩:Array Oper)[j]?).bind (·.dst)=some d:=by simpa using hd
    simp only[Region.wanted,hg,yielded,hd',xAr,h3];cases want<;>rfl
   ·simp at h
  ·simp at h
theorem q8M {m:Mem} {c:List Nat} {K:R} {r:AV×Mem}:∀{rs:List (Nat×(Mem->Option AV)×AV)},z8M m c rs K=some r->K=some r/\∀j f v,(j,f,v)∈rs->j∈c->f m=some v
 |[],h=>⟨h,by simp⟩
 |(j,f,v)::rs,h=>by
  simp only[z8M]at h;split at h
  ·rename_i hj;split at h
   ·rename_i hf;obtain⟨h1,h2⟩:=q8M h;refine⟨h1,fun j' f' v' hm hc=>?_⟩
    rcases xmk0.1 hm with e|e
    ·cases e;exact hf
    ·exact h2 _ _ _ e hc
   ·simp at h
  ·rename_i hj;obtain⟨h1,h2⟩:=q8M h;refine⟨h1,fun j' f' v' hm hc=>?_⟩
   rcases xmk0.1 hm with e|e
   ·cases e;exact absurd hc hj
   ·exact h2 _ _ _ e hc
theorem q8N {f:Mem->Option AV} {v:AV} {c:List Nat} {K:R} {r:AV×Mem}:∀{es:List (Nat×Mem)},z6C f v c es K=some r->K=some r/\∀j m,(j,m)∈es->j∈c->f m=some v
 |[],h=>⟨h,by simp⟩
 |(j,m)::es,h=>by
  simp only[z6C]at h;split at h
  ·rename_i hj;split at h
   ·rename_i hf;obtain⟨h1,h2⟩:=q8N h;refine⟨h1,fun j' m' hm hc=>?_⟩
    rcases xmk0.1 hm with e|e
    ·cases e;exact hf
    ·exact h2 _ _ e hc
   ·simp at h
  ·rename_i hj;obtain⟨h1,h2⟩:=q8N h;refine⟨h1,fun j' m' hm hc=>?_⟩
   rcases xmk0.1 hm with e|e
   ·cases e;exact absurd hc hj
   ·exact h2 _ _ e hc
structure Trace where
 T:Nat->List AV
 M:Nat->Mem
 W:Nat->Bool
 V:Nat->AV
structure q8E (P:Program) (call:q04) (all:List Oper) (chk:List (List Nat)) (τ:Trace) (j:Nat) (o:Oper):Prop where
 wanted:q5q all o (τ.T j)=some (τ.W j)
 tmps:τ.T (j+1)=q3U (τ.T j) o.dst (τ.V j)
 off:τ.W j=false->τ.V j=.tup []/\τ.M (j+1)=τ.M j
 pure:τ.W j=true->cls P o.op=.p->q5f P o.op (τ.T j)=some (τ.V j)/\τ.M (j+1)=τ.M j
 read:τ.W j=true->cls P o.op=.r->q1r P o.op (τ.T j) (τ.M j)=some (τ.V j)/\τ.M (j+1)=τ.M j
 b78:τ.W j=true->cls P o.op=.r->∀k ok,k<j->all[k]? = some ok->τ.W k=true->cls P ok.op=.e->k∈chk.getD j []->q1r P o.op (τ.T j) (τ.M k)=some (τ.V j)
 alloc:τ.W j=true->cls P o.op=.a->∃cs mk,q3h P o.op (τ.T j)=some (cs,mk)/\τ.V j=mk (τ.M j).next/\τ.M (j+1)=(τ.M j).lay cs
 eff:τ.W j=true->cls P o.op=.e->a8K call P o.op (τ.T j) (τ.M j)=some (τ.V j,τ.M (j+1))
 b1Q:τ.W j=true->cls P o.op=.e->∀k ok,k<j->all[k]? = some ok->τ.W k=true->cls P ok.op=.r->k∈chk.getD j []->q1r P ok.op (τ.T k) (τ.M (j+1))=some (τ.V k)
def Trace.upd (τ:Trace) (i:Nat) (t:List AV) (m:Mem) (w:Bool) (v:AV):Trace where
 T:=fun j=>if j=i then t else τ.T j
 M:=fun j=>if j=i then m else τ.M j
 W:=fun j=>if j=i then w else τ.W j
 V:=fun j=>if j=i then v else τ.V j
theorem q57 {call:q04} {all:List Oper} {chk:List (List Nat)}:∀(os:List Oper) (cs:List (List Nat)) (sk:List Tmp) (i:Nat) (h:Seen) (t:List AV) (m:Mem) (τ:Trace) {K:List AV->Mem->R} {r:AV×Mem},
  (∀j,os[j]? = all[i+j]?)->(∀j,cs[j]? = chk[i+j]?)->
  (∀k ok,k<i->all[k]? = some ok->τ.W k=true->cls P ok.op=.r->(k,q1r P ok.op (τ.T k),τ.V k)∈h.rs)->
  (∀k ok,k<i->all[k]? = some ok->τ.W k=true->cls P ok.op=.e->(k,τ.M k)∈h.es)->
  q2r call P all cs os sk i h t m K=some r->
  ∃σ:Trace,(∀j,j<i->σ.T j=τ.T j/\σ.M j=τ.M j/\σ.W j=τ.W j/\σ.V j=τ.V j)/\σ.T i=t/\σ.M i=m/\K (σ.T (i+os.length)) (σ.M (i+os.length))=some r/\
   ∀j o,i<=j->j<i+os.length->all[j]? = some o->q8E P call all chk σ j o
 |[],cs,_,i,h,t,m,τ,K,r,_,_,_,_,hr=>by
  have hr':K t m=some r:=by cases cs<;>simpa[q2r]using hr
  refine⟨τ.upd i t m false .undef,fun j hj=>?_,by simp[Trace.upd],by simp[Trace.upd],by simpa[Trace.upd]using hr',fun j o h1 h2=>by simp at h2;omega⟩
  simp[Trace.upd,show j≠i by omega]
 |o::os,[],_,i,h,t,m,τ,K,r,_,_,_,_,hr=>by simp[q2r]at hr
 |o::os,c::cs,sk,i,h,t,m,τ,K,r,hall,hchk,hrs,hes,hr=>by
  have hi:all[i]? = some o:=by have:=hall 0;simpa using this.symm
  have hci:chk.getD i []=c:=by have:=hchk 0;rw[xAe];simp at this;simp[<-this]
  have hall':∀j,os[j]? = all[i+1+j]?:=fun j=>by
   have:=hall (j+1);rw[xgs]at this;rw[this];congr 1;omega
  have hchk':∀j,cs[j]? = chk[i+1+j]?:=fun j=>by
   have:=hchk (j+1);rw[xgs]at this;rw[this];congr 1;omega
  have glue:∀{sk':List Tmp} (b:Bool) (v:AV) (m':Mem) (h':Seen) ,q5q all o t=some b->
    q2r call P all cs os sk' (i+1) h' (q3U t o.dst v) m' K=some r->
    (∀x,x∈h.rs->x∈h'.rs)->(∀x,x∈h.es->x∈h'.es)->
    (b=true->cls P o.op=.r->(i,q1r P o.op t,v)∈h'.rs)->(b=true->cls P o.op=.e->(i,m)∈h'.es)->
    (∀σ:Trace,(∀j,j<i->σ.T j=τ.T j/\σ.M j=τ.M j/\σ.W j=τ.W j/\σ.V j=τ.V j)->σ.T i=t->σ.M i=m->σ.W i=b->σ.V i=v->σ.T (i+1)=q3U t o.dst v->σ.M (i+1)=m'->q8E P call all chk σ i o)->
    ∃σ:Trace,(∀j,j<i->σ.T j=τ.T j/\σ.M j=τ.M j/\σ.W j=τ.W j/\σ.V j=τ.V j)/\σ.T i=t/\σ.M i=m/\K (σ.T (i+(o::os).length)) (σ.M (i+(o::os).length))=some r/\
     ∀j o',i<=j->j<i+(o::os).length->all[j]? = some o'->q8E P call all chk σ j o':=by
   intro sk' b v m' h' hw hd hrs' hes' hri hei hstep;obtain⟨σ,s1,s2,s3,s4,s5⟩:=q57 os cs sk' (i+1) h' (q3U t o.dst v) m' (τ.upd i t m b v) hall' hchk'
    (fun k ok hk hok hwk hc=>by
     by_cases e:k=i
     ·subst e;rw[hi]at hok;cases hok;simp only[Trace.upd,xAd]at hwk⊢;exact hri hwk hc
     ·simp only[Trace.upd,xAa e]at hwk⊢;exact hrs' _ (hrs k ok (by omega) hok hwk hc))
    (fun k ok hk hok hwk hc=>by
     by_cases e:k=i
     ·subst e;rw[hi]at hok;cases hok;simp only[Trace.upd,xAd]at hwk⊢;exact hei hwk hc
     ·simp only[Trace.upd,xAa e]at hwk⊢;exact hes' _ (hes k ok (by omega) hok hwk hc)) hd
   have hlow:∀j,j<i->σ.T j=τ.T j/\σ.M j=τ.M j/\σ.W j=τ.W j/\σ.V j=τ.V j:=fun j hj=>by
    have:=s1 j (by omega);simpa[Trace.upd,show j≠i by omega]using this
   have hhere:σ.T i=t/\σ.M i=m/\σ.W i=b/\σ.V i=v:=by
    have:=s1 i (by omega);simpa[Trace.upd]using this
   refine⟨σ,hlow,hhere.1,hhere.2.1,?_,fun j o' h1 h2 h3=>?_⟩
   ·rw[show i+(o::os).length=i+1+os.length by simp;omega];exact s4
   ·by_cases e:j=i
    ·subst e;rw[hi]at h3;cases h3;exact hstep σ hlow hhere.1 hhere.2.1 hhere.2.2.1 hhere.2.2.2 s2 s3
    ·exact s5 j o' (by omega) (by simp at h2;omega) h3
  simp only[q2r]at hr;rcases z1W hr with ⟨hw,hr⟩|⟨hw,hr⟩
  ·split at hr
   ·rename_i hc;obtain⟨v,hv,hr⟩:=be hr;refine glue true v m h hw hr (fun _ h=>h) (fun _ h=>h) (fun _ e=>absurd (hc.symm.trans e) (by decide)) (fun _ e=>absurd (hc.symm.trans e) (by decide)) fun σ _ a1 a2 a3 a4 a5 a6=>?_
    exact⟨by rw[a1,a3];exact hw,by rw[a5,a1,a4],by simp[a3],fun _ _=>by rw[a1,a4,a6,a2];exact⟨hv,rfl⟩,fun _ e=>absurd (hc.symm.trans e) (by decide),fun _ e=>absurd (hc.symm.trans e) (by decide),
     fun _ e=>absurd (hc.symm.trans e) (by decide),fun _ e=>absurd (hc.symm.trans e) (by decide),fun _ e=>absurd (hc.symm.trans e) (by decide)⟩
   ·rename_i hc;obtain⟨v,hv,hr⟩:=be hr;obtain⟨hr,hck⟩:=q8N hr;refine glue true v m _ hw hr (fun _ h=>by simp[h]) (fun _ h=>h) (fun _ _=>by simp) (fun _ e=>absurd (hc.symm.trans e) (by decide)) fun σ a0 a1 a2 a3 a4 a5 a6=>?_
    refine⟨by rw[a1,a3];exact hw,by rw[a5,a1,a4],by simp[a3],fun _ e=>absurd (hc.symm.trans e) (by decide),fun _ _=>by rw[a1,a4,a6,a2];exact⟨hv,rfl⟩,fun _ _ k ok hk hok hwk hck' hmem=>?_,
     fun _ e=>absurd (hc.symm.trans e) (by decide),fun _ e=>absurd (hc.symm.trans e) (by decide),fun _ e=>absurd (hc.symm.trans e) (by decide)⟩
    obtain⟨b1,b2,b3,b4⟩:=a0 k hk;rw[a1,a4,b2];exact hck k _ (hes k ok hk hok (by rw[<-b3];exact hwk) hck') (by rw[hci]at hmem;exact hmem)
   ·rename_i hc;obtain⟨⟨cs',mk⟩,hv,hr⟩:=be hr;refine glue true _ _ h hw hr (fun _ h=>h) (fun _ h=>h) (fun _ e=>absurd (hc.symm.trans e) (by decide)) (fun _ e=>absurd (hc.symm.trans e) (by decide)) fun σ _ a1 a2 a3 a4 a5 a6=>?_
    exact⟨by rw[a1,a3];exact hw,by rw[a5,a1,a4],by simp[a3],fun _ e=>absurd (hc.symm.trans e) (by decide),fun _ e=>absurd (hc.symm.trans e) (by decide),fun _ e=>absurd (hc.symm.trans e) (by decide),
     fun _ _=>⟨cs',mk,by rw[a1];exact hv,by rw[a4,a2],by rw[a6,a2]⟩,fun _ e=>absurd (hc.symm.trans e) (by decide),fun _ e=>absurd (hc.symm.trans e) (by decide)⟩
   ·rename_i hc;rw[j4p]at hr;obtain⟨⟨v,m'⟩,hv,hr⟩:=be hr;obtain⟨hr,hck⟩:=q8M hr;refine glue true v m' _ hw hr (fun _ h=>h) (fun _ h=>by simp[h]) (fun _ e=>absurd (hc.symm.trans e) (by decide)) (fun _ _=>by simp) fun σ a0 a1 a2 a3 a4 a5 a6=>?_
    refine⟨by rw[a1,a3];exact hw,by rw[a5,a1,a4],by simp[a3],fun _ e=>absurd (hc.symm.trans e) (by decide),fun _ e=>absurd (hc.symm.trans e) (by decide),fun _ e=>absurd (hc.symm.trans e) (by decide),
     fun _ e=>absurd (hc.symm.trans e) (by decide),fun _ _=>by rw[a1,a2,a4,a6];exact hv,fun _ _ k ok hk hok hwk hck' hmem=>?_⟩
    obtain⟨b1,b2,b3,b4⟩:=a0 k hk;rw[a6,b1,b4];exact hck k _ _ (hrs k ok hk hok (by rw[<-b3];exact hwk) hck') (by rw[hci]at hmem;exact hmem)
  ·refine glue false (.tup []) m h hw hr (fun _ h=>h) (fun _ h=>h) (fun e=>absurd e (by decide)) (fun e=>absurd e (by decide)) fun σ _ a1 a2 a3 a4 a5 a6=>?_
   exact⟨by rw[a1,a3];exact hw,by rw[a5,a1,a4],fun _=>by rw[a4,a6,a2];exact⟨rfl,rfl⟩,fun e=>absurd (a3.symm.trans e) (by decide),fun e=>absurd (a3.symm.trans e) (by decide),fun e=>absurd (a3.symm.trans e) (by decide),
    fun e=>absurd (a3.symm.trans e) (by decide),fun e=>absurd (a3.symm.trans e) (by decide),fun e=>absurd (a3.symm.trans e) (by decide)⟩
end
end
section
section
variable {P:Program}
theorem q8q {all:List Oper} {anc chk:List (List Nat)} (h:rOk P all anc chk=true) {j:Nat} {oj:Oper} (hj:all[j]? = some oj) :
  z8J anc j oj=true/\∀i oi,i<j->all[i]? = some oi->z9R P all anc chk i j oi oj=true:=by
 have hlt:j<all.length:=(xgi.1 hj).1;have h1:=xBd.1 h j (xDe.2 hlt);simp only[rowOk,hj,xAc]at h1;refine⟨h1.1,fun i oi hi hoi=>?_⟩
 have:=xBd.1 h1.2 i (xDe.2 hi);simpa only [hoi]using this
theorem b2T {all:List Oper} {anc chk:List (List Nat)} (h:rOk P all anc chk=true) {S:Nat->Bool} (hS:∀j o,all[j]? = some o->S j=true->∀e∈q3i o,S e=true) :
  ∀(j:Nat) (o:Oper),all[j]? = some o->(∀e∈q3i o,S e=true)->∀x∈anc.getD j [],S x=true:=by
 intro j;induction j using Nat.strongRecOn with
 | _ j ih=>
  intro o ho he x hx;have h1:=(q8q h ho).1;simp only[z8J,xAc]at h1;have h2:=xBd.1 h1.1.2 x hx;have h3:=xBd.1 h1.1.1;rw[xDu]at h2;rcases h2 with h2|h2
  ·exact he x (by simpa using h2)
  ·obtain⟨e,h4,h5⟩:=List.any_eq_true.1 h2;have hlt:e<j:=by simpa using h3 e h4
   have hoe:∃oe,all[e]? = some oe:=⟨all[e]'(by have:=(xgi.1 ho).1;omega),by rw[xgq]⟩;obtain⟨oe,hoe⟩:=hoe;exact ih e hlt oe hoe (hS e oe hoe (he e h4)) x (by simpa using h5)
def q7p (all:List Oper) (k:Nat):Option Tmp:=(all[k]?).bind (·.dst)
noncomputable def q7F (all:List Oper) (V:Nat->AV) (S:Nat->Bool) (t:List AV) (k:Nat):List AV:=if S k then q3U t (q7p all k) (V k) else t
noncomputable def q4e (all:List Oper) (V:Nat->AV) (S:Nat->Bool) (t0:List AV):List AV:=(List.range all.length).foldl (q7F all V S) t0
theorem z6x (t:List AV) (d:Option Tmp) (v:AV):(q3U t d v).length=t.length:=by cases d<;>simp[q3U,q6g]
theorem q4W (t:List AV) (d:Option Tmp) (v:AV) (x:Nat) (hx:x<t.length):(q3U t d v).getD x .undef=if d=some x then v else t.getD x .undef:=by
 cases d with
 |none=>simp[q3U]
 |some d=>
  simp only[q3U,q6g,xAe,xoi];by_cases e:d=x
  ·subst e;simp[hx]
  ·rw[xFo e,xAa e]
theorem q2q (all:List Oper) (V:Nat->AV) (S:Nat->Bool) (t:List AV) (k:Nat):(q7F all V S t k).length=t.length:=by
 unfold q7F;split
 ·exact z6x _ _ _
 ·rfl
theorem q1D (all:List Oper) (V:Nat->AV) (S:Nat->Bool):∀(l:List Nat) (t:List AV),(l.foldl (q7F all V S) t).length=t.length
 |[],_=>rfl
 |k::l,t=>by rw[xEl,q1D all V S l,q2q]
theorem q6b (all:List Oper) (V:Nat->AV) {S S':Nat->Bool} {x:Nat}:∀(l:List Nat) (t t':List AV),(∀k∈l,q7p all k=some x->S k=S' k)->x<t.length->t.length=t'.length->t.getD x .undef=t'.getD x .undef->
  (l.foldl (q7F all V S) t).getD x .undef=(l.foldl (q7F all V S') t').getD x .undef
 |[],_,_,_,_,_,h=>h
 |k::l,t,t',hS,hx,hl,h=>by
  rw[xEl,xEl];refine q6b all V l _ _ (fun j hj=>hS j (by simp[hj])) (by rw[q2q];exact hx) (by rw[q2q,q2q];exact hl) ?_
  unfold q7F;by_cases hd:q7p all k=some x
  ·rw[hS k (by simp) hd];split
   ·rw[q4W _ _ _ _ hx,q4W _ _ _ _ (by omega),hd];simp
   ·exact h
  ·have e1:∀(b:Bool) (t:List AV),x<t.length->(if b=true then q3U t (q7p all k) (V k) else t).getD x .undef=t.getD x .undef:=by
    intro b t ht;cases b with
    |false=>rfl
    |true=>rw[xAb rfl,q4W _ _ _ _ ht,xAa hd]
   rw[e1 _ _ hx,e1 _ _ (by omega)];exact h
theorem q5E (all:List Oper) (V:Nat->AV) {S:Nat->Bool} {x:Nat}:∀(l:List Nat) (t:List AV),(∀k∈l,S k=true->q7p all k≠some x)->x<t.length->(l.foldl (q7F all V S) t).getD x .undef=t.getD x .undef
 |[],_,_,_=>rfl
 |k::l,t,hS,hx=>by
  rw[xEl,q5E all V l _ (fun j hj=>hS j (by simp[hj])) (by rw[q2q];exact hx)]
  unfold q7F;split
  ·rename_i h;rw[q4W _ _ _ _ hx,xAa (hS k (by simp) h)]
  ·rfl
theorem range_split {n i:Nat} (h:i<n):List.range n=List.range i++i::List.range' (i+1) (n-(i+1)):=by
 rw[xDn,xDn];have:n=i+(1+(n-(i+1))):=by omega
 conv=>lhs;rw[this]
 rw[<-List.range'_append_1];congr 1;rw[xnz,Nat.add_comm 1,List.range'_succ]
theorem j1F {all:List Oper} {V:Nat->AV} {S:Nat->Bool} {t0:List AV} {i x:Nat} (hi:i<all.length) (hSi:S i=true) (hd:q7p all i=some x) (hx:x<t0.length)
  (hlast:∀k,i<k->S k=true->q7p all k≠some x):(q4e all V S t0).getD x .undef=V i:=by
 unfold q4e;rw[range_split hi,List.foldl_append,xEl];rw[q5E all V _ _ (fun k hk hS=>hlast k (by have:=List.mem_range'_1.1 hk;omega) hS) (by rw[q2q,q1D];exact hx)]
 have hlen:=q1D all V S (List.range i) t0;generalize (List.range i).foldl (q7F all V S) t0=f at *;unfold q7F;rw[xAb hSi,q4W _ _ _ _ (by omega),xAb hd]
theorem b8e {call:q04} {all:List Oper} {chk:List (List Nat)} {τ:Trace} (hτ:∀j o,j<all.length->all[j]? = some o->q8E P call all chk τ j o) :
  ∀j,j<=all.length->τ.T j=(List.range j).foldl (q7F all τ.V fun _=>true) (τ.T 0):=by
 intro j;induction j with
 |zero=>intro _;rfl
 |succ j ih=>
  intro hj;have ho:all[j]? = some (all[j]'(by omega)):=xgq (by omega);rw[List.range_succ,List.foldl_append,<-ih (by omega),(hτ j _ (by omega) ho).tmps];simp[q7F,q7p,ho]
theorem q74 {call:q04} {all:List Oper} {chk:List (List Nat)} {τ:Trace} (hτ:∀j o,j<all.length->all[j]? = some o->q8E P call all chk τ j o) {j:Nat} (hj:j<=all.length):(τ.T j).length=(τ.T 0).length:=by
 rw[b8e hτ j hj,q1D]
theorem a4R {call:q04} {all:List Oper} {chk:List (List Nat)} {τ:Trace} (hτ:∀j o,j<all.length->all[j]? = some o->q8E P call all chk τ j o) {j:Nat} (hj:j<=all.length) {S:Nat->Bool} {x:Nat} (hx:x<(τ.T 0).length)
  (hS:∀k,k<all.length->q7p all k=some x->S k=decide (k<j)):(q4e all τ.V S (τ.T 0)).getD x .undef=(τ.T j).getD x .undef:=by
 rw[b8e hτ j hj];unfold q4e;have hsp:List.range all.length=List.range j++List.range' j (all.length-j):=by
  rw[xDn,xDn]
  conv=>lhs;rw[show all.length=j+(all.length-j) by omega]
  rw[<-List.range'_append_1,xnz]
 rw[hsp,List.foldl_append];rw[q5E all τ.V _ _ (fun k hk hSk hd=>by
  have:=List.mem_range'_1.1 hk;rw[hS k (by omega) hd]at hSk;simp at hSk;omega) (by rw[q1D];exact hx)]
 exact q6b all τ.V _ _ _ (fun k hk hd=>by
  have:=xDe.1 hk;rw[hS k (by omega) hd];simp;omega) hx rfl rfl
end
end
section
section
variable {P:Program} {call:q04} {all:List Oper} {chk anc:List (List Nat)} {τ:Trace}
def Eff (P:Program) (all:List Oper) (τ:Trace) (k:Nat):Prop:=∃o,all[k]? = some o/\τ.W k=true/\cls P o.op=.e
def New (P:Program) (all:List Oper) (τ:Trace) (k:Nat) (cs:Blk):Prop:=∃o mk,all[k]? = some o/\τ.W k=true/\cls P o.op=.a/\q3h P o.op (τ.T k)=some (cs,mk)
def q26 (P:Program) (call:q04) (all:List Oper) (chk:List (List Nat)) (τ:Trace):Prop:=∀j o,j<all.length->all[j]? = some o->q8E P call all chk τ j o
theorem Eff.lt {k:Nat} (h:Eff P all τ k):k<all.length:=let ⟨_,h,_⟩:=h;(xgi.1 h).1
theorem New.lt {k:Nat} {cs:Blk} (h:New P all τ k cs):k<all.length:=let ⟨_,_,h,_⟩:=h;(xgi.1 h).1
theorem New.z2f {k:Nat} {cs:Blk} (h:New P all τ k cs):¬Eff P all τ k:=by
 rintro⟨o,h1,_,h2⟩
 obtain⟨o',mk,h3,_,h4,_⟩:=h;rw[h1]at h3;cases h3;rw[h2]at h4;cases h4
theorem z09 (hτ:q26 P call all chk τ) {k:Nat} (hk:k<all.length) (h:¬Eff P all τ k) :
  (τ.M (k+1)=τ.M k/\∀cs,¬New P all τ k cs)\/∃cs,New P all τ k cs/\τ.M (k+1)=(τ.M k).lay cs:=by
 have ho:all[k]? = some (all[k]):=xgq hk;have hs:=hτ k _ hk ho;cases hW:τ.W k with
 |false=>
  refine .inl ⟨(hs.off hW).2,?_⟩;rintro cs ⟨o,mk,_,h1,_⟩
  rw[hW]at h1;cases h1
 |true=>
  cases hc:cls P (all[k]).op with
  |p=>
   refine .inl ⟨(hs.pure hW hc).2,?_⟩;rintro cs ⟨o,mk,h0,_,h1,_⟩
   rw[ho]at h0;cases h0;rw[hc]at h1;cases h1
  |r=>
   refine .inl ⟨(hs.read hW hc).2,?_⟩;rintro cs ⟨o,mk,h0,_,h1,_⟩
   rw[ho]at h0;cases h0;rw[hc]at h1;cases h1
  |a=>
   obtain⟨cs,mk,h1,h2,h3⟩:=hs.alloc hW hc;exact .inr ⟨cs,⟨_,mk,ho,hW,hc,h1⟩,h3⟩
  |e=>exact absurd ⟨_,ho,hW,hc⟩ h
theorem New.next (hτ:q26 P call all chk τ) {k:Nat} {cs:Blk} (h:New P all τ k cs):τ.M (k+1)=(τ.M k).lay cs:=by
 obtain⟨o,mk,h1,h2,h3,h4⟩:=h;obtain⟨cs',mk',h5,_,h6⟩:=(hτ k o (xgi.1 h1).1 h1).alloc h2 h3;rw[h4]at h5;cases h5;exact h6
theorem z5j (hcall:q10 P call) (hτ:q26 P call all chk τ) {k:Nat} (hk:k<all.length):(τ.M k).next<=(τ.M (k+1)).next:=by
 by_cases he:Eff P all τ k
 ·obtain⟨o,h1,h2,h3⟩:=he;exact(z0B hcall ((hτ k o hk h1).eff h2 h3)).1
 ·rcases z09 hτ hk he with ⟨h,_⟩|⟨cs,_,h⟩
  ·rw[h];exact xnr _
  ·rw[h];simp
theorem q0R (hcall:q10 P call) (hτ:q26 P call all chk τ) {j k:Nat} (hjk:j<=k) (hk:k<=all.length):(τ.M j).next<=(τ.M k).next:=by
 induction k with
 |zero=>have:j=0:=by omega
        subst this;exact xnr _
 |succ k ih=>
  by_cases e:j=k+1
  ·subst e;exact xnr _
  ·exact xnt0 (ih (by omega) (by omega)) (z5j hcall hτ (by omega))
theorem New.lt_next (hcall:q10 P call) (hτ:q26 P call all chk τ) {i k:Nat} {cs:Blk} (h:New P all τ i cs) (hik:i<k) (hk:k<=all.length):(τ.M i).next<(τ.M k).next:=by
 have h1:=h.next hτ
 have h2:=q0R hcall hτ (j:=i+1) (k:=k) (by omega) hk;rw[h1]at h2;simp at h2;omega
theorem New.inj (hcall:q10 P call) (hτ:q26 P call all chk τ) {i k:Nat} {cs ds:Blk} (h:New P all τ i cs) (h':New P all τ k ds) (e:(τ.M i).next=(τ.M k).next):i=k:=by
 have a:=h.lt;have b:=h'.lt;rcases xFk i k with c|c|c
 ·have:=h.lt_next hcall hτ c (by omega);omega
 ·exact c
 ·have:=h'.lt_next hcall hτ c (by omega);omega
theorem New.cells {i:Nat} {cs ds:Blk} (h:New P all τ i cs) (h':New P all τ i ds):cs=ds:=by
 obtain⟨o,mk,h1,_,_,h4⟩:=h;obtain⟨o',mk',h5,_,_,h6⟩:=h';rw[h1]at h5;cases h5;rw[h4]at h6;cases h6;rfl
theorem ext (hcall:q10 P call) (hτ:q26 P call all chk τ) {j k:Nat} (hjk:j<=k) (hk:k<=all.length) (hno:∀i,j<=i->i<k->¬Eff P all τ i) :
  (∀b,b<(τ.M j).next->(τ.M k).get b=(τ.M j).get b)/\(∀i cs,j<=i->i<k->New P all τ i cs->(τ.M k).get (τ.M i).next=some cs)/\
  (∀b,(τ.M j).next<=b->b<(τ.M k).next->∃i cs,j<=i/\i<k/\New P all τ i cs/\b=(τ.M i).next):=by
 induction k with
 |zero=>
  have:j=0:=by omega
  subst this;exact⟨fun _ _=>rfl,fun i cs _ h=>by omega,fun b h1 h2=>by omega⟩
 |succ k ih=>
  by_cases e:j=k+1
  ·subst e;exact⟨fun _ _=>rfl,fun i cs _ h=>by omega,fun b h1 h2=>by omega⟩
  ·obtain⟨i1,i2,i3⟩:=ih (by omega) (by omega) (fun i h1 h2=>hno i h1 (by omega))
   rcases z09 hτ (by omega) (hno k (by omega) (by omega)) with ⟨h,hn⟩|⟨cs,hn,h⟩
   ·rw[h];refine⟨i1,fun i cs h1 h2 h3=>?_,fun b h1 h2=>?_⟩
    ·by_cases e2:i=k
     ·subst e2;exact absurd h3 (hn cs)
     ·exact i2 i cs h1 (by omega) h3
    ·obtain⟨i,cs,g1,g2,g3⟩:=i3 b h1 h2;exact⟨i,cs,g1,by omega,g3⟩
   ·rw[h];have hle:=q0R hcall hτ (j:=j) (k:=k) (by omega) (by omega);refine⟨fun b hb=>?_,fun i ds h1 h2 h3=>?_,fun b h1 h2=>?_⟩
    ·rw[Mem.q0J,xAa (by omega)];exact i1 b hb
    ·rw[Mem.q0J];by_cases e2:i=k
     ·subst e2;rw[xAb rfl,hn.cells h3]
     ·have:=h3.lt_next hcall hτ (k:=k) (by omega) (by omega);rw[xAa (by omega)];exact i2 i ds h1 (by omega) h3
    ·simp only[Mem.q0G]at h2;by_cases e2:b=(τ.M k).next
     ·exact⟨k,cs,by omega,by omega,hn,e2⟩
     ·obtain⟨i,ds,g1,g2,g3⟩:=i3 b h1 (by omega);exact⟨i,ds,g1,by omega,g3⟩
theorem q9J {op:Op} {t:List AV} {m m':Mem} {v:AV} (hm:∀b blk,m.get b=some blk->m'.get b=some blk) (h:q1r P op t m=some v):q1r P op t m'=some v:=by
 have hld:∀(a:AA) (n:Nat) (vs:List AV),q0C m a n=some vs->q0C m' a n=some vs:=by
  intro a n vs h;obtain⟨cs,ro,h1,h2,rfl⟩:=q2m h;simp only[q0C,hm _ _ h1,xAb h2]
 have hl1:∀(x v:AV),ld1 m x=some v->ld1 m' x=some v:=by
  intro x v h;unfold ld1 at h⊢;split at h
  ·split at h
   ·rename_i cs hc;simp only[hm _ _ hc];exact h
   ·simp at h
  ·simp at h
 have hmap:∀(x:AV) es,mapOf m x=some es->mapOf m' x=some es:=by
  intro x es h;unfold mapOf at h⊢;split at h
  ·exact h
  ·split at h
   ·rename_i hc;simp only[hm _ _ hc];exact h
   ·cases h
  ·cases h
 have hlN:∀(x v:AV) (n:Nat),ldN m x n=some v->ldN m' x n=some v:=by
  intro x v n h;unfold ldN at h⊢;split at h
  ·obtain⟨vs,h1,rfl⟩:=xoe.1 h;simp only[hld _ _ _ h1];rfl
  ·simp at h
 unfold q1r at h⊢;split at h
 ·obtain⟨x,h1,h⟩:=be h;rw[h1];simp only[xAr];unfold q1H at h⊢;split at h
  ·simp at h
  ·split at h
   ·obtain⟨n,h2,h⟩:=be h;rename_i hd ha;simp only[xAd,h2,xAr,hd];exact hlN _ _ _ h
   ·rename_i hd ha;rw[xAa ha];exact hl1 _ _ h
 ·obtain⟨x,h1,h⟩:=be h;rw[h1];simp only[xAr];unfold q7V at h⊢;split at h
  ·rename_i e hd;split at h
   ·rename_i he;split at h
    ·exact h
    ·obtain⟨bs,h2,rfl⟩:=xoe.1 h;obtain⟨cs,h3,h4⟩:=be h2;simp only[hld _ _ _ h3,xAr,h4,xom]
    ·simp at h
   ·simp at h
  ·simp at h
 ·obtain⟨x,h1,h⟩:=be h;obtain⟨k,h2,h⟩:=be h;rw[h1,h2];simp only[xAr];unfold q5c at h⊢;split at h
  ·obtain⟨d,h3,h⟩:=be h;obtain⟨es,h4,h⟩:=be h;simp only[h3,xAr,hmap _ _ h4];exact h
  ·cases h
 ·obtain⟨x,h1,h⟩:=be h;rw[h1];simp only[xAr];unfold z3G at h⊢;split at h
  ·rename_i a;split at h
   ·rename_i b left e ha hg;simp only[ha,hm _ _ hg];split at h
    ·rename_i es c hb;simp only[hm _ _ hb];exact h
    ·cases h
   ·cases h
  ·cases h
 ·obtain⟨x,h1,h⟩:=be h;rw[h1];simp only[xAr];unfold b4M at h⊢;split at h
  ·obtain⟨es,h4,rfl⟩:=xoe.1 h;simp only[hmap _ _ h4,xom]
  ·cases h
 ·simp at h
theorem MR.grow {P:Program} {p:Phi} {m m':Mem} {w:World} (h:MR P p m w) (hn:m.next<=m'.next) (hlo:∀b,b<m.next->m'.get b=m.get b)
  (hlive:∀b v ci,m.next<=b->m'.get b=some v->p b=some ci->∃o,w.heap[ci.c]? = some o/\BR P p ci v o)
  (hinj:∀b ci b2 ci2,m.next<=b->(m'.get b).isSome=true->p b=some ci->p b2=some ci2->ci.c=ci2.c->b=b2\/(b2<m'.next/\m'.get b2=none)):MR P p m' w where
 has:=fun b v ci h1 h2=>by
  by_cases hb:b<m.next
  ·rw[hlo b hb]at h1;exact h.has b v ci h1 h2
  ·exact hlive b v ci (by omega) h1 h2
 inj:=fun b ci b2 ci2 h1 h2 h3 h4=>by
  by_cases hb:b<m.next
  ·rw[hlo b hb]at h1;rcases h.inj b ci b2 ci2 h1 h2 h3 h4 with e|⟨e,e'⟩
   ·exact .inl e
   ·exact .inr ⟨by omega,by rw[hlo b2 e];exact e'⟩
  ·exact hinj b ci b2 ci2 (by omega) h1 h2 h3 h4
 bnd:=h.bnd
 q23:=h.q23
structure q4T (P:Program) (all:List Oper) (τ:Trace) (p0:Phi) (w0:World) (a0:Act) (S:Nat->Bool) (q:Nat) (p:Phi) (a:Act) (w:World):Prop where
 qle:q<=all.length
 b1T:q=all.length\/Eff P all τ q
 lo:∀k,k<q->Eff P all τ k->S k=true
 hi:∀k,q<=k->Eff P all τ k->S k=false
 closed:∀j o,all[j]? = some o->S j=true->∀e∈q3i o,S e=true
 inb:∀j,S j=true->j<all.length
 size:a.tmps.size=(τ.T 0).length
 tmps:∀x,x<(τ.T 0).length->VR p ((q4e all τ.V S (τ.T 0)).getD x .undef) (a.tmps.getD x undef)
 defers:a.defers=a0.defers
 rel:MR P p (τ.M q) w
 le:p0.le p
 out:∀b,¬((τ.M 0).next<=b/\b<(τ.M all.length).next)->p b=p0 b
 above:∀b ci,(τ.M q).next<=b->b<(τ.M all.length).next->p b=some ci->∃i cs,q<=i/\S i=true/\New P all τ i cs/\b=(τ.M i).next
 late:∀i cs,i<q->New P all τ i cs->S i=false->p (τ.M i).next=none/\(τ.M q).get (τ.M i).next=some cs
 early:∀i cs,q<=i->New P all τ i cs->S i=true->∃ci o,p (τ.M i).next=some ci/\w.heap[ci.c]? = some o/\BR P p ci cs o
 q8a:∀b ci b2 ci2,(τ.M q).next<=b->b<(τ.M all.length).next->(τ.M q).next<=b2->p b=some ci->p b2=some ci2->ci.c=ci2.c->b=b2
 q4d:∀b,b<(τ.M 0).next->p0 b=none->(τ.M q).get b=(τ.M 0).get b
 dead:∀b,b<(τ.M 0).next->(τ.M 0).get b=none->(τ.M q).get b=none
 q3d:∀c,c<w0.heap.size->(∀b ci,((τ.M 0).get b).isSome=true->p0 b=some ci->ci.c≠c)->w.heap[c]? = w0.heap[c]?
 fresh:∀b ci,(τ.M 0).next<=b->b<(τ.M all.length).next->p b=some ci->w0.heap.size<=ci.c\/∃b0 ci0,((τ.M 0).get b0).isSome=true/\p0 b0=some ci0/\ci0.c=ci.c
 ro:∀b cs ci,(τ.M 0).get b=some (.cells cs true)->p0 b=some ci->(τ.M q).get b=some (.cells cs true)/\w.heap[ci.c]? = w0.heap[ci.c]?
 b5y:∀b ci,p0 b=some ci->ci.c<w0.heap.size
 z2J:w0.heap.size<=w.heap.size
 os:w.os=w0.os
 output:w.output=w0.output
 tape:w.tape=w0.tape
structure Ready (all:List Oper) (S:Nat->Bool) (i:Nat) (o:Oper):Prop where
 op:all[i]? = some o
 not:S i=false
 a8I:∀e∈q3i o,S e=true
def q5P (S:Nat->Bool) (i:Nat):Nat->Bool:=fun j=>if j=i then true else S j
section steps
variable {p0:Phi} {w0:World} {a0:Act} {S:Nat->Bool} {q:Nat} {p:Phi} {a:Act} {w:World} {i:Nat} {o:Oper}
theorem q4T.b2S (hr:rOk P all anc chk=true) (h:q4T P all τ p0 w0 a0 S q p a w) {j:Nat} {oj:Oper} (hj:all[j]? = some oj) (he:∀e∈q3i oj,S e=true):∀x∈anc.getD j [],S x=true:=
 b2T hr h.closed j oj hj he
theorem q4T.z6w (hr:rOk P all anc chk=true) (h:q4T P all τ p0 w0 a0 S q p a w) (hi:Ready all S i o) {k:Nat} {ok:Oper} (hk:all[k]? = some ok) (hki:k<i) (hS:S k=false) :
  Oper.apart ⟨all⟩ ok o=true/\¬(cls P ok.op=.e/\cls P o.op=.e)/\((cls P ok.op=.r/\cls P o.op=.e)\/(cls P ok.op=.e/\cls P o.op=.r)->k∈chk.getD i []):=by
 have h1:=(q8q hr hi.op).2 k ok hki hk;unfold z9R at h1;rw[xDu]at h1;rcases h1 with h1|h1
 ·have:=h.b2S hr hi.op hi.a8I k (by simpa using h1);rw[hS]at this;cases this
 ·simp only[xAc,xDu,Bool.not_eq_true',xEh,xCl,xFp]at h1;refine⟨h1.1.1,fun e=>?_,fun e=>?_⟩
  ·rcases h1.1.2 with h2|h2
   ·exact h2 e.1
   ·exact h2 e.2
  ·rcases h1.2 with h2|h2
   ·rcases e with e|e
    ·rcases h2.1 with h3|h3
     ·exact absurd e.1 h3
     ·exact absurd e.2 h3
    ·rcases h2.2 with h3|h3
     ·exact absurd e.1 h3
     ·exact absurd e.2 h3
   ·simpa using h2
theorem q4T.z6v (hr:rOk P all anc chk=true) (h:q4T P all τ p0 w0 a0 S q p a w) (hi:Ready all S i o) {k:Nat} {ok:Oper} (hk:all[k]? = some ok) (hki:i<k) (hS:S k=true) :
  Oper.apart ⟨all⟩ o ok=true/\¬(cls P o.op=.e/\cls P ok.op=.e)/\((cls P o.op=.r/\cls P ok.op=.e)\/(cls P o.op=.e/\cls P ok.op=.r)->i∈chk.getD k []):=by
 have h1:=(q8q hr hk).2 i o hki hi.op;unfold z9R at h1;rw[xDu]at h1;rcases h1 with h1|h1
 ·have:=h.b2S hr hk (h.closed k ok hk hS) i (by simpa using h1);rw[hi.not]at this;cases this
 ·simp only[xAc,xDu,Bool.not_eq_true',xEh,xCl,xFp]at h1;refine⟨h1.1.1,fun e=>?_,fun e=>?_⟩
  ·rcases h1.1.2 with h2|h2
   ·exact h2 e.1
   ·exact h2 e.2
  ·rcases h1.2 with h2|h2
   ·rcases e with e|e
    ·rcases h2.1 with h3|h3
     ·exact absurd e.1 h3
     ·exact absurd e.2 h3
    ·rcases h2.2 with h3|h3
     ·exact absurd e.1 h3
     ·exact absurd e.2 h3
   ·simpa using h2
theorem j4m {k:Nat} {x:Tmp} (h:q7p all k=some x):∃ok,all[k]? = some ok/\ok.dst=some x:=by
 unfold q7p at h;cases e:all[k]? with
 |none=>simp[e]at h
 |some ok=>rw[e]at h;exact⟨ok,rfl,h⟩
theorem q4T.looks (hτ:q26 P call all chk τ) (hr:rOk P all anc chk=true) (h:q4T P all τ p0 w0 a0 S q p a w) (hi:Ready all S i o) {x:Nat} (hx:x∈o.looksAt ⟨all⟩) :
  (q4e all τ.V S (τ.T 0)).getD x .undef=(τ.T i).getD x .undef:=by
 have hil:i<all.length:=(xgi.1 hi.op).1;by_cases hxl:x<(τ.T 0).length
 ·refine a4R hτ (by omega) hxl fun k hk hd=>?_
  obtain⟨ok,hok,hdk⟩:=j4m hd;rcases xFk k i with c|c|c
  ·cases hS:S k with
   |true=>simp[c]
   |false=>
    have:=(h.z6w hr hi hok c hS).1;exact absurd hx ((Oper.apart_spec this).1 x hdk)
  ·subst c;rw[hi.not];simp
  ·cases hS:S k with
   |false=>simp;omega
   |true=>
    have:=(h.z6v hr hi hok c hS).1;exact absurd hx ((Oper.apart_spec this).2.2 x hdk)
 ·have h1:(q4e all τ.V S (τ.T 0)).length<=x:=by unfold q4e;rw[q1D];omega
  have h2:(τ.T i).length<=x:=by rw[q74 hτ (by omega)];omega
  rw[xAe,xAe,xAu h1,xAu h2]
theorem q4T.agree (hτ:q26 P call all chk τ) (hr:rOk P all anc chk=true) (h:q4T P all τ p0 w0 a0 S q p a w) (hi:Ready all S i o):Agree o.op (q4e all τ.V S (τ.T 0)) (τ.T i):=by
 intro x hx;refine h.looks hτ hr hi ?_;unfold Oper.looksAt;simp only[xma,List.mem_filterMap];left;exact⟨.tmp x,by simpa using hx,rfl⟩
theorem q4T.vrs (h:q4T P all τ p0 w0 a0 S q p a w):VRs p (q4e all τ.V S (τ.T 0)) a.tmps.toList:=by
 have hl:(q4e all τ.V S (τ.T 0)).length=(τ.T 0).length:=by unfold q4e;rw[q1D]
 refine VRs.z0U (by rw[hl,<-h.size];simp) fun x v hv=>?_
 have hx:x<(τ.T 0).length:=by have:=(xgi.1 hv).1;omega
 have:=h.tmps x hx;rw[xAe,hv,xEt]at this;refine⟨_,?_,this⟩;have hxs:x<a.tmps.size:=by rw[h.size];exact hx
 rw[xCj,xAl hxs,xAx,xAl hxs];rfl
theorem q4T.wanted (hτ:q26 P call all chk τ) (hr:rOk P all anc chk=true) (h:q4T P all τ p0 w0 a0 S q p a w) (hi:Ready all S i o):Region.wanted o (yielded ⟨all⟩ a.tmps)=τ.W i:=by
 have hil:i<all.length:=(xgi.1 hi.op).1;have hs:=(hτ i o hil hi.op).wanted;refine z6g hs p a.tmps fun d hd=>?_
 have hlook:d∈o.looksAt ⟨all⟩:=by
  unfold Oper.looksAt;simp only[xma];right;cases hg:o.guard with
  |none=>simp[hg]at hd
  |some g=>simp only[hg]at hd⊢;simpa using hd
 have hdl:d<(τ.T 0).length:=by
  rcases Nat.lt_or_ge d (τ.T 0).length with c|c
  ·exact c
  ·exfalso;have h2:(τ.T i).length<=d:=by rw[q74 hτ (by omega)];omega
   unfold q5q at hs;cases hg:o.guard with
   |none=>simp[hg]at hd
   |some g=>
    obtain⟨j,want⟩:=g;simp only[hg]at hd hs;rw[hd]at hs;simp only[xAe,xAu h2,Option.getD_none]at hs;cases hs
 rw[<-h.looks hτ hr hi hlook];exact⟨h.tmps d hdl,by rw[h.size];exact hdl⟩
theorem q4T.b1x (hr:rOk P all anc chk=true) (h:q4T P all τ p0 w0 a0 S q p a w) (hi:Ready all S i o) {p':Phi} (hle:p.le p') {cv:Value} (hv:VR p' (τ.V i) cv) :
  (a.put o.dst cv).tmps.size=(τ.T 0).length/\∀x,x<(τ.T 0).length->VR p' ((q4e all τ.V (q5P S i) (τ.T 0)).getD x .undef) ((a.put o.dst cv).tmps.getD x undef):=by
 have hil:i<all.length:=(xgi.1 hi.op).1;have hdi:q7p all i=o.dst:=by simp[q7p,hi.op]
 refine⟨by cases o.dst<;>simp[Act.put,h.size],fun x hx=>?_⟩
 by_cases hd:o.dst=some x
 ·rw[j1F hil (by simp[q5P]) (by rw[hdi];exact hd) hx]
  ·rw[hd];have hxs:x<a.tmps.size:=by rw[h.size];exact hx
   simp only[Act.put,xAx];rw[xBs hxs];exact hv
  ·intro k hk hS hdk;obtain⟨ok,hok,hdk'⟩:=j4m hdk;have hSk:S k=true:=by simpa[q5P,show k≠i by omega]using hS
   have:=(h.z6v hr hi hok hk hSk).1;exact(Oper.apart_spec this).2.1 x hd hdk'
 ·have e1:(q4e all τ.V (q5P S i) (τ.T 0)).getD x .undef=(q4e all τ.V S (τ.T 0)).getD x .undef:=by
   unfold q4e;refine q6b all τ.V _ _ _ (fun k _ hdk=>?_) hx rfl rfl
   have:k≠i:=by rintro rfl;exact hd (hdi▸hdk)
   simp[q5P,this]
  rw[e1];have e2:(a.put o.dst cv).tmps.getD x undef=a.tmps.getD x undef:=by
   cases hdd:o.dst with
   |none=>rfl
   |some d=>
    have hne:d≠x:=fun e=>hd (by rw[hdd,e])
    simp only[Act.put,xAx,xBn hne]
  rw[e2];exact(h.tmps x hx).mono hle
theorem q8u {k:Nat} (hne:¬Eff P all τ i) (hk:Eff P all τ k):q5P S i k=S k:=by
 have:k≠i:=by rintro rfl;exact hne hk
 simp[q5P,this]
theorem z6G (h:q4T P all τ p0 w0 a0 S q p a w) (hi:Ready all S i o):∀j oj,all[j]? = some oj->q5P S i j=true->∀e∈q3i oj,q5P S i e=true:=by
 intro j oj hj hS e he;unfold q5P at hS⊢;split
 ·rfl
 ·by_cases hji:j=i
  ·subst hji;rw[hi.op]at hj;cases hj;exact hi.a8I e he
  ·rw[xAa hji]at hS;exact h.closed j oj hj hS e he
theorem q4T.still (hr:rOk P all anc chk=true) (h:q4T P all τ p0 w0 a0 S q p a w) (hi:Ready all S i o) (hne:¬Eff P all τ i) (hnn:∀cs,¬New P all τ i cs) {cv:Value} (hv:VR p (τ.V i) cv) :
  q4T P all τ p0 w0 a0 (q5P S i) q p (a.put o.dst cv) w:=by
 have hil:i<all.length:=(xgi.1 hi.op).1;obtain⟨t1,t2⟩:=h.b1x hr hi (fun _ _ h=>h) hv
 have hnew:∀{j cs},New P all τ j cs->q5P S i j=S j:=fun {j cs} hj=>by
  have:j≠i:=by rintro rfl;exact hnn _ hj
  simp[q5P,this]
 refine⟨h.qle,h.b1T,fun k h1 h2=>by rw[q8u hne h2];exact h.lo k h1 h2,fun k h1 h2=>by rw[q8u hne h2];exact h.hi k h1 h2,z6G h hi,fun j hj=>?_,t1,t2,by rw[q2R];exact h.defers,
  h.rel,h.le,h.out,fun b ci h1 h2 h3=>?_,fun j cs h1 h2 h3=>h.late j cs h1 h2 (by rw[<-hnew h2];exact h3),fun j cs h1 h2 h3=>h.early j cs h1 h2 (by rw[<-hnew h2];exact h3),h.q8a,h.q4d,h.dead,h.q3d,h.fresh,h.ro,h.b5y,h.z2J,h.os,h.output,h.tape⟩
 ·unfold q5P at hj;split at hj
  ·omega
  ·exact h.inb j hj
 ·obtain⟨j,cs,g1,g2,g3,g4⟩:=h.above b ci h1 h2 h3;exact⟨j,cs,g1,by rw[hnew g3];exact g2,g3,g4⟩
theorem q4T.reads (hcall:q10 P call) (hτ:q26 P call all chk τ) (hr:rOk P all anc chk=true) (h:q4T P all τ p0 w0 a0 S q p a w) (hi:Ready all S i o) (hW:τ.W i=true) (hc:cls P o.op=.r) :
  q1r P o.op (q4e all τ.V S (τ.T 0)) (τ.M q)=some (τ.V i):=by
 have hil:i<all.length:=(xgi.1 hi.op).1;have hs:=hτ i o hil hi.op;rw[z5D (h.agree hτ hr hi)];have hqi:q≠i\/q=all.length:=by
  rcases h.b1T with e|⟨o',h1,_,h2⟩
  ·exact .inr e
  ·left;rintro rfl;rw[hi.op]at h1;cases h1;rw[hc]at h2;cases h2
 by_cases hlt:q<i
 ·
  rcases h.b1T with e|⟨o',h1,h2,h3⟩
  ·omega
  ·have hSq:=h.hi q (xnr q) ⟨o',h1,h2,h3⟩;have:=(h.z6w hr hi h1 hlt hSq).2.2 (.inr ⟨h3,hc⟩);exact hs.b78 hW hc q o' hlt h1 h2 h3 this
 ·have hiq:i<q:=by rcases hqi with e|e<;>omega
  have hex:(∀k,i<k->k<q->¬Eff P all τ k)\/∃k,i<k/\k<q/\Eff P all τ k/\∀j,k<j->j<q->¬Eff P all τ j:=by
   have key:∀n,i+n+1<=q->(∀j,i+n<j->j<q->¬Eff P all τ j)->(∀k,i<k->k<q->¬Eff P all τ k)\/∃k,i<k/\k<q/\Eff P all τ k/\∀j,k<j->j<q->¬Eff P all τ j:=by
    intro n;induction n with
    |zero=>intro _ hn;exact .inl fun k h1 h2=>hn k (by omega) h2
    |succ n ih=>
     intro h1 hn;by_cases he:Eff P all τ (i+n+1)
     ·exact .inr ⟨i+n+1,by omega,by omega,he,fun j h2 h3=>hn j (by omega) h3⟩
     ·refine ih (by omega) fun j h2 h3=>?_
      by_cases e:j=i+n+1
      ·rw[e];exact he
      ·exact hn j (by omega) h3
   exact key (q-i-1) (by omega) (fun j h1 h2=>by omega)
  rcases hex with hno|⟨k,h1,h2,hk,hno⟩
  ·have he:=ext hcall hτ (j:=i+1) (k:=q) (by omega) h.qle (fun j a b=>hno j (by omega) b)
   have hr0:=hs.read hW hc;refine q9J (fun b blk hb=>?_) hr0.1
   rw[<-hr0.2]at hb;rw[he.1 b (Mem.q0u hb)];exact hb
  ·have hSk:=h.lo k h2 hk;obtain⟨ok,g1,g2,g3⟩:=hk;have hmem:=(h.z6v hr hi g1 h1 hSk).2.2 (.inl ⟨hc,g3⟩);have hkl:k<all.length:=(xgi.1 g1).1;have:=(hτ k ok hkl g1).b1Q g2 g3 i o h1 hi.op hW hc hmem;have he:=ext hcall hτ (j:=k+1) (k:=q) (by omega) h.qle (fun j a b=>hno j (by omega) b)
   refine q9J (fun b blk hb=>?_) this
   rw[he.1 b (Mem.q0u hb)];exact hb
end steps
end
end
section
section
variable {P:Program} {call:q04} {all:List Oper} {chk anc:List (List Nat)} {τ:Trace}
variable {p0:Phi} {w0:World} {a0:Act} {S:Nat->Bool} {q:Nat} {p:Phi} {a:Act} {w:World} {i:Nat} {o:Oper}
theorem q4T.laid (hcall:q10 P call) (hτ:q26 P call all chk τ) (hr:rOk P all anc chk=true) (h:q4T P all τ p0 w0 a0 S q p a w) (hi:Ready all S i o) {cs:Blk} {mk:Nat->AV} (hn:New P all τ i cs) (hmk:τ.V i=mk (τ.M i).next)
  {w':World} {cv:Value} {ob:Obj} {sz:Nat} (hl:Laid P p cs mk w w' cv ob sz) :
  ∃p',q4T P all τ p0 w0 a0 (q5P S i) q p' (a.put o.dst cv) w':=by
 have hil:i<all.length:=(xgi.1 hi.op).1;have hbn:(τ.M i).next<(τ.M all.length).next:=hn.lt_next hcall hτ hil (xnr _)
 have hb0:(τ.M 0).next<=(τ.M i).next:=q0R hcall hτ (xBx _) (by omega)
 have hfree:p (τ.M i).next=none:=by
  by_cases hiq:i<q
  ·exact(h.late i cs hiq hn hi.not).1
  ·cases e:p (τ.M i).next with
   |none=>rfl
   |some ci=>
    have hqi:(τ.M q).next<=(τ.M i).next:=q0R hcall hτ (by omega) (by omega)
    obtain⟨j,ds,h1,h2,h3,h4⟩:=h.above _ ci hqi hbn e;have:=hn.inj hcall hτ h3 h4;subst this;rw[hi.not]at h2;cases h2
 let p':Phi:=fun b=>if b=(τ.M i).next then some ⟨w.heap.size,0,sz,none⟩ else p b
 have hle:p.le p':=by
  intro b ci hb;by_cases e:b=(τ.M i).next
  ·subst e;rw[hfree]at hb;cases hb
  ·simp[p',e,hb]
 have hp':∀b,b≠(τ.M i).next->p' b=p b:=fun b e=>by simp[p',e]
 have hpi:p' (τ.M i).next=some ⟨w.heap.size,0,sz,none⟩:=by simp[p']
 have hheap:∀c,c<w.heap.size->w'.heap[c]? = w.heap[c]?:=fun c hc=>by rw[hl.heap,xBz hc,<-xAl]
 have hnewh:w'.heap[w.heap.size]? = some ob:=by rw[hl.heap];simp
 have hne:¬Eff P all τ i:=hn.z2f;have hnew:∀{j ds},j≠i->New P all τ j ds->q5P S i j=S j:=fun {j ds} hj _=>by simp[q5P,hj]
 have hv:VR p' (τ.V i) cv:=by rw[hmk];exact hl.value p' _ hpi
 obtain⟨t1,t2⟩:=h.b1x hr hi hle hv;have hblk:BR P p' ⟨w.heap.size,0,sz,none⟩ cs ob:=hl.blk.mono hle;refine⟨p',h.qle,h.b1T,fun k h1 h2=>by rw[q8u hne h2];exact h.lo k h1 h2,fun k h1 h2=>by rw[q8u hne h2];exact h.hi k h1 h2,z6G h hi,fun j hj=>?_,t1,t2,by rw[q2R];exact h.defers,
  ⟨?_,?_,?_,?_⟩,fun b ci hb=>hle _ _ (h.le b ci hb),fun b hb=>?_,fun b ci h1 h2 h3=>?_,fun j ds h1 h2 h3=>?_,fun j ds h1 h2 h3=>?_,fun b ci b2 ci2 h1 h2 h3 h4 h5 h6=>?_,h.q4d,h.dead,fun c h1 h2=>?_,fun b ci h1 h2 h3=>?_,
  fun b ds ci h1 h2=>⟨(h.ro b ds ci h1 h2).1,by rw[hheap _ (by have:=h.b5y b ci h2;have:=h.z2J;omega)];exact(h.ro b ds ci h1 h2).2⟩,h.b5y,by rw[hl.heap];simp;have:=h.z2J;omega,hl.os.trans h.os,hl.output.trans h.output,hl.tape.trans h.tape⟩
 ·unfold q5P at hj;split at hj
  ·omega
  ·exact h.inb j hj
 ·
  intro b v ci h1 h2;by_cases e:b=(τ.M i).next
  ·subst e;rw[hpi]at h2;cases h2;have hiq:i<q:=by
    rcases Nat.lt_or_ge i q with c|c
    ·exact c
    ·have hqi:(τ.M q).next<=(τ.M i).next:=q0R hcall hτ c (by omega)
     rw[Mem.z0H hqi]at h1;cases h1
   have:=(h.late i cs hiq hn hi.not).2;rw[this]at h1;cases h1;exact⟨ob,hnewh,hblk⟩
  ·rw[hp' b e]at h2;obtain⟨o',g1,g2⟩:=h.rel.has b v ci h1 h2;exact⟨o',by rw[hheap _ (h.rel.bnd b ci h2)];exact g1,g2.mono hle⟩
 ·
  intro b ci b2 ci2 h1 h2 h3 h4;by_cases e:b=(τ.M i).next
  ·by_cases e2:b2=(τ.M i).next
   ·exact .inl (e.trans e2.symm)
   ·rw[e,hpi]at h2;cases h2;rw[hp' b2 e2]at h3;have:=h.rel.bnd b2 ci2 h3;simp only at h4;omega
  ·rw[hp' b e]at h2;by_cases e2:b2=(τ.M i).next
   ·rw[e2,hpi]at h3;cases h3;have:=h.rel.bnd b ci h2;simp only at h4;omega
   ·rw[hp' b2 e2]at h3;exact h.rel.inj b ci b2 ci2 h1 h2 h3 h4
 ·intro b ci hb;rw[hl.heap,Array.size_push];by_cases e:b=(τ.M i).next
  ·rw[e,hpi]at hb;cases hb;simp
  ·rw[hp' b e]at hb;have:=h.rel.bnd b ci hb;omega
 ·intro g hg;obtain⟨n,hn⟩:=h.rel.q23 g hg;exact⟨n,hle _ _ hn⟩
 ·
  rw[hp' b (by rintro rfl;exact hb ⟨hb0,hbn⟩)]
  exact h.out b hb
 ·
  by_cases e:b=(τ.M i).next
  ·refine⟨i,cs,?_,by simp[q5P],hn,e⟩;rcases Nat.lt_or_ge i q with c|c
   ·have:=hn.lt_next hcall hτ c h.qle;omega
   ·exact c
  ·rw[hp' b e]at h3;obtain⟨j,ds,g1,g2,g3,g4⟩:=h.above b ci h1 h2 h3;have:j≠i:=by rintro rfl;exact e g4
   exact⟨j,ds,g1,by rw[hnew this g3];exact g2,g3,g4⟩
 ·
  have hji:j≠i:=by rintro rfl;simp[q5P]at h3
  rw[hnew hji h2]at h3;obtain⟨g1,g2⟩:=h.late j ds h1 h2 h3;refine⟨?_,g2⟩;rw[hp' _ fun e=>hji (h2.inj hcall hτ hn e)];exact g1
 ·
  by_cases hji:j=i
  ·subst hji;have:=hn.cells h2;subst this;exact⟨_,ob,hpi,hnewh,hblk⟩
  ·rw[hnew hji h2]at h3;obtain⟨ci,o',g1,g2,g3⟩:=h.early j ds h1 h2 h3;exact⟨ci,o',hle _ _ g1,by rw[hheap _ (h.rel.bnd _ ci g1)];exact g2,g3.mono hle⟩
 ·
  by_cases e:b=(τ.M i).next
  ·by_cases e2:b2=(τ.M i).next
   ·exact e.trans e2.symm
   ·rw[e,hpi]at h4;cases h4;rw[hp' b2 e2]at h5;have:=h.rel.bnd b2 ci2 h5;simp only at h6;omega
  ·rw[hp' b e]at h4;by_cases e2:b2=(τ.M i).next
   ·rw[e2,hpi]at h5;cases h5;have:=h.rel.bnd b ci h4;simp only at h6;omega
   ·rw[hp' b2 e2]at h5;exact h.q8a b ci b2 ci2 h1 h2 h3 h4 h5 h6
 ·rw[hheap c (by have:=h.z2J;omega)];exact h.q3d c h1 h2
 ·by_cases e:b=(τ.M i).next
  ·rw[e,hpi]at h3;cases h3;exact .inl h.z2J
  ·rw[hp' b e]at h3;exact h.fresh b ci h1 h2 h3
theorem z9Q (q:Nat) (hq:q<=all.length):∃k,q<=k/\k<=all.length/\(k=all.length\/Eff P all τ k)/\∀j,q<=j->j<k->¬Eff P all τ j:=by
 have key:∀n q,q+n=all.length->∃k,q<=k/\k<=all.length/\(k=all.length\/Eff P all τ k)/\∀j,q<=j->j<k->¬Eff P all τ j:=by
  intro n;induction n with
  |zero=>intro q h;exact⟨q,xnr _,by omega,.inl (by omega),fun j h1 h2=>by omega⟩
  |succ n ih=>
   intro q h;by_cases he:Eff P all τ q
   ·exact⟨q,xnr _,by omega,.inr he,fun j h1 h2=>by omega⟩
   ·obtain⟨k,h1,h2,h3,h4⟩:=ih (q+1) (by omega);refine⟨k,by omega,h2,h3,fun j h5 h6=>?_⟩
    by_cases e:j=q
    ·rw[e];exact he
    ·exact h4 j (by omega) h6
 exact key (all.length-q) q (by omega)
theorem q4T.change (hcall:q10 P call) (hτ:q26 P call all chk τ) (hr:rOk P all anc chk=true) (hG:GP P<=(τ.M 0).next) (h:q4T P all τ p0 w0 a0 S q p a w) (hi:Ready all S i o) (he:Eff P all τ i) {fb:Frame} {rest:List Nat} {fk:List Item} {fs:List Frame} :
  ∃q' p' a' w',q4T P all τ p0 w0 a0 (q5P S i) q' p' a' w'/\Steps P (lone (fb.atR a (.inRegion ⟨all⟩ (i::rest)::fk)) fs w) (lone (fb.atR a' (.inRegion ⟨all⟩ rest::fk)) fs w'):=by
 have hwant:=h.wanted hτ hr hi;have hil:i<all.length:=(xgi.1 hi.op).1;have hW:τ.W i=true/\cls P o.op=.e:=by
  obtain⟨o',h1,h2,h3⟩:=he;rw[hi.op]at h1;cases h1;exact⟨h2,h3⟩
 have hiq:i=q:=by
  rcases xFk i q with c|c|c
  ·have:=h.lo i c he;rw[hi.not]at this;cases this
  ·exact c
  ·exfalso;rcases h.b1T with e|⟨oq,h1,h2,h3⟩
   ·omega
   ·have:=(h.z6w hr hi h1 c (h.hi q (xnr _) ⟨oq,h1,h2,h3⟩)).2.1;exact this ⟨h3,hW.2⟩
 subst hiq;have hs:=(hτ i o hil hi.op).eff hW.1 hW.2;rw[<-j0Q (h.agree hτ hr hi)]at hs;have hop:=z0B hcall hs;have hGq:GP P<=(τ.M i).next:=xnt0 hG (q0R hcall hτ (xBx _) (by omega))
 have hfree:q7g p (τ.M i).next (τ.M (i+1)).next:=by
  intro b h1 h2;cases e:p b with
  |none=>rfl
  |some ci=>
   have hle:=q0R hcall hτ (j:=i+1) (k:=all.length) (by omega) (xnr _);obtain⟨j,ds,g1,g2,g3,g4⟩:=h.above b ci h1 (by omega) e;have:j≠i:=by rintro rfl;exact g3.z2f he
   have:=q0R hcall hτ (j:=i+1) (k:=j) (by omega) (by have:=g3.lt;omega);omega
 have hW':τ.W i=true:=hW.1;rw[hW']at hwant;obtain⟨p1,cv,w1,hv,hsim,hst⟩:∃p1 cv w1,VR p1 (τ.V i) cv/\Sim P p (τ.M i) w p1 (τ.M (i+1)) w1/\Steps P (lone (fb.atR a (.inRegion ⟨all⟩ (i::rest)::fk)) fs w) (lone (fb.atR (a.put o.dst cv) (.inRegion ⟨all⟩ rest::fk)) fs w1):=by
  obtain⟨cv,p1,w1,x1,x2,x3⟩:=hop.2 p a w h.rel hGq hfree h.vrs fb ⟨all⟩ i rest fk fs (by simpa using hi.op) hwant;exact⟨p1,cv,w1,x1,x2,x3⟩
 obtain⟨k,k1,k2,k3,k4⟩:=z9Q (P:=P) (all:=all) (τ:=τ) (i+1) (by omega);have hex:=ext hcall hτ k1 k2 k4;have hM1:=z5j hcall hτ hil;have hMk:=q0R hcall hτ k1 k2;have hMn:=q0R hcall hτ k2 (xnr _);have hp1:∀b,¬((τ.M i).next<=b/\b<(τ.M (i+1)).next)->p1 b=p b:=hsim.out
 have hearlyc:∀b ci,(τ.M i).next<=b->b<(τ.M all.length).next->p b=some ci->w1.heap[ci.c]? = w.heap[ci.c]?:=by
  intro b ci h1 h2 h3;refine hsim.q3d ci.c (h.rel.bnd b ci h3) fun b' ci' g1 g2 g3=>?_
  rcases h.rel.inj b' ci' b ci g1 g2 h3 g3 with e|⟨e,_⟩
  ·subst e;rw[Mem.z0H h1]at g1;cases g1
  ·omega
 have hnewk:∀{j cs},New P all τ j cs->q5P S i j=S j:=fun {j cs} hj=>by
  have:j≠i:=by rintro rfl;exact hj.z2f he
  simp[q5P,this]
 have hrel:MR P p1 (τ.M k) w1:=by
  refine MR.grow hsim.rel hMk hex.1 ?_ ?_
  ·intro b ds ci h1 h2 h3;have hbk:=Mem.q0u h2;obtain⟨j,es,g1,g2,g3,g4⟩:=hex.2.2 b h1 hbk;have hget:=hex.2.1 j es g1 g2 g3;rw[<-g4,h2]at hget;cases hget;have hpb:p b=some ci:=by rw[<-hp1 b (by omega)];exact h3
   obtain⟨j',es',f1,f2,f3,f4⟩:=h.above b ci (by omega) (by omega) hpb;have:j=j':=g3.inj hcall hτ f3 (g4.symm.trans f4);subst this;obtain⟨ci',o',e1,e2,e3⟩:=h.early j ds (by omega) g3 f2;rw[<-g4,hpb]at e1;cases e1;exact⟨o',by rw[hearlyc b ci (by omega) (by omega) hpb];exact e2,e3.mono hsim.le⟩
  ·intro b ci b2 ci2 h1 h2 h3 h4 h5;have hbk:b<(τ.M k).next:=by
    cases e:(τ.M k).get b with
    |none=>rw[e]at h2;cases h2
    |some blk=>exact Mem.q0u e
   have hpb:p b=some ci:=by rw[<-hp1 b (by omega)];exact h3
   have hbc:=h.rel.bnd b ci hpb;by_cases hb2:(τ.M i).next<=b2/\b2<(τ.M (i+1)).next
   ·exfalso;rcases hsim.fresh b2 ci2 hb2.1 hb2.2 h4 with g|⟨b0,ci0,g1,g2,g3⟩
    ·omega
    ·rcases h.rel.inj b0 ci0 b ci g1 g2 hpb (by omega) with e|⟨e,_⟩
     ·subst e;rw[Mem.z0H (by omega)]at g1;cases g1
     ·omega
   ·rw[hp1 b2 hb2]at h4;by_cases hb3:(τ.M i).next<=b2
    ·exact .inl (h.q8a b ci b2 ci2 (by omega) (by omega) hb3 hpb h4 h5)
    ·right;refine⟨by omega,?_⟩;rw[hex.1 b2 (by omega)];refine hsim.dead b2 (by omega) ?_;cases e:(τ.M i).get b2 with
     |none=>rfl
     |some blk=>
      exfalso;rcases h.rel.inj b2 ci2 b ci (by rw[e];rfl) h4 hpb h5.symm with e'|⟨e',_⟩
      ·subst e';omega
      ·omega
 obtain⟨t1,t2⟩:=h.b1x hr hi hsim.le hv;refine⟨k,p1,_,w1,⟨k2,k3,fun j h1 h2=>?_,fun j h1 h2=>?_,z6G h hi,fun j hj=>?_,t1,t2,by rw[q2R];exact h.defers,hrel,fun b ci hb=>hsim.le _ _ (h.le b ci hb),
  fun b hb=>?_,fun b ci h1 h2 h3=>?_,fun j ds h1 h2 h3=>?_,fun j ds h1 h2 h3=>?_,fun b ci b2 ci2 h1 h2 h3 h4 h5 h6=>?_,fun b h1 h2=>?_,fun b h1 h2=>?_,fun c h1 h2=>?_,fun b ci h1 h2 h3=>?_,fun b ds ci h1 h2=>?_,h.b5y,
  xnt0 h.z2J hsim.size,hsim.os.trans h.os,hsim.output.trans h.output,hsim.tape.trans h.tape⟩,hst⟩
 ·
  by_cases e:j=i
  ·simp[q5P,e]
  ·simp only[q5P,xAa e];rcases Nat.lt_or_ge j i with c|c
   ·exact h.lo j c h2
   ·exact absurd h2 (k4 j (by omega) h1)
 ·simp only[q5P,xAa (show j≠i by omega)];exact h.hi j (by omega) h2
 ·unfold q5P at hj;split at hj
  ·omega
  ·exact h.inb j hj
 ·have h0:=q0R hcall hτ (j:=0) (k:=i) (xBx _) (by omega);rw[hp1 b (by omega)];exact h.out b hb
 ·rw[hp1 b (by omega)]at h3;obtain⟨j,ds,g1,g2,g3,g4⟩:=h.above b ci (by omega) h2 h3;refine⟨j,ds,?_,by rw[hnewk g3];exact g2,g3,g4⟩;rcases Nat.lt_or_ge j k with c|c
  ·have:=g3.lt_next hcall hτ c k2;omega
  ·exact c
 ·
  rw[hnewk h2]at h3;have hji:j≠i:=by rintro rfl;exact h2.z2f he
  by_cases hj:j<i
  ·obtain⟨g1,g2⟩:=h.late j ds hj h2 h3;have hlt:=Mem.q0u g2;refine⟨by rw[hp1 _ (by omega)];exact g1,?_⟩;rw[hex.1 _ (by omega),hsim.q4d _ hlt g1];exact g2
  ·have hle:=q0R hcall hτ (j:=i+1) (k:=j) (by omega) (by omega);refine⟨?_,hex.2.1 j ds (by omega) h1 h2⟩;rw[hp1 _ (by omega)];cases e:p (τ.M j).next with
   |none=>rfl
   |some ci=>
    have hlt:=h2.lt_next hcall hτ (k:=all.length) h2.lt (xnr _);obtain⟨j',ds',f1,f2,f3,f4⟩:=h.above _ ci (by omega) hlt e;have:=h2.inj hcall hτ f3 f4;subst this;rw[h3]at f2;cases f2
 ·
  rw[hnewk h2]at h3;obtain⟨ci,o',e1,e2,e3⟩:=h.early j ds (by omega) h2 h3;have hlt:=h2.lt_next hcall hτ (k:=all.length) h2.lt (xnr _);have hle:=q0R hcall hτ (j:=i) (k:=j) (by omega) (by have:=h2.lt;omega);exact⟨ci,o',hsim.le _ _ e1,by rw[hearlyc _ ci hle hlt e1];exact e2,e3.mono hsim.le⟩
 ·rw[hp1 b (by omega)]at h4;rw[hp1 b2 (by omega)]at h5;exact h.q8a b ci b2 ci2 (by omega) h2 (by omega) h4 h5 h6
 ·have h0:=q0R hcall hτ (j:=0) (k:=i) (xBx _) (by omega);rw[hex.1 b (by omega),hsim.q4d b (by omega) (by rw[h.out b (by omega)];exact h2),h.q4d b h1 h2]
 ·have h0:=q0R hcall hτ (j:=0) (k:=i) (xBx _) (by omega);rw[hex.1 b (by omega)];exact hsim.dead b (by omega) (h.dead b h1 h2)
 ·rw[hsim.q3d c (by have:=h.z2J;omega) ?_]
  ·exact h.q3d c h1 h2
  ·intro b ci g1 g2 g3;have hbq:b<(τ.M i).next:=by
    cases e:(τ.M i).get b with
    |none=>rw[e]at g1;cases g1
    |some blk=>exact Mem.q0u e
   by_cases hb:b<(τ.M 0).next
   ·have e1:p b=p0 b:=h.out b (by omega);refine h2 b ci ?_ (e1▸g2) g3;cases e:(τ.M 0).get b with
    |none=>rw[h.dead b hb e]at g1;cases g1
    |some _=>rfl
   ·rcases h.fresh b ci (by omega) (by omega) g2 with f|⟨b0,ci0,f1,f2,f3⟩
    ·omega
    ·exact h2 b0 ci0 f1 f2 (by omega)
 ·have h0:=q0R hcall hτ (j:=0) (k:=i) (xBx _) (by omega);by_cases hb2:(τ.M i).next<=b/\b<(τ.M (i+1)).next
  ·rcases hsim.fresh b ci hb2.1 hb2.2 h3 with g|⟨b0,ci0,g1,g2,g3⟩
   ·left;have:=h.z2J;omega
   ·have hbq:b0<(τ.M i).next:=by
     cases e:(τ.M i).get b0 with
     |none=>rw[e]at g1;cases g1
     |some blk=>exact Mem.q0u e
    by_cases hb:b0<(τ.M 0).next
    ·have e1:p b0=p0 b0:=h.out b0 (by omega);right;refine⟨b0,ci0,?_,e1▸g2,g3⟩;cases e:(τ.M 0).get b0 with
     |none=>rw[h.dead b0 hb e]at g1;cases g1
     |some _=>rfl
    ·rcases h.fresh b0 ci0 (by omega) (by omega) g2 with f|⟨b9,ci9,f1,f2,f3⟩
     ·left;omega
     ·right;exact⟨b9,ci9,f1,f2,by omega⟩
  ·rw[hp1 b hb2]at h3;exact h.fresh b ci h1 h2 h3
 ·obtain⟨g1,g2⟩:=h.ro b ds ci h1 h2;obtain⟨g3,g4⟩:=hsim.ro b ds ci g1 (h.le b ci h2);exact⟨by rw[hex.1 b (Mem.q0u g3)];exact g3,g4.trans g2⟩
end
end
end Go.Abs
