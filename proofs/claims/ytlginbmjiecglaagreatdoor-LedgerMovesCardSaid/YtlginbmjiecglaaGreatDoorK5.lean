/- Texts of one claim, put together. -/
import Derived.Test.YtlginbmjiecglaaGreatDoorK0
import Derived.Test.YtlginbmjiecglaaGreatDoorK4
import Derived.Orders
namespace Go.Abs
section
open Go
section
variable {P:Program}
def Agree (op:Op) (t t':List AV):Prop:=∀x,.tmp x∈op.operands→t.getD x .undef=t'.getD x .undef
theorem q7k {t t':List AV} {x:Operand} (h:∀i,x=.tmp i→t.getD i .undef=t'.getD i .undef):ev P t x=ev P t' x:=by
 cases x with
 |tmp i=>simp only[ev,z5d];rw[h i rfl]
 | _=>rfl
theorem q8v {t t':List AV}:∀{xs:List Operand},(∀i,.tmp i∈xs→t.getD i .undef=t'.getD i .undef)→evs P t xs=evs P t' xs
 |[],_=>rfl
 |x::xs,h=>by
  simp only[evs]
  rw[q7k (x:=x) (fun i e=>h i (by rw[←e];simp)),q8v (xs:=xs) (fun i e=>h i (by simp[e]))]
theorem q53 {t t':List AV}:∀{xs:List (Nat×Operand)},(∀i,.tmp i∈xs.map (·.2)→t.getD i .undef=t'.getD i .undef)→q52 P t xs=q52 P t' xs
 |[],_=>rfl
 |(k,x)::xs,h=>by
  simp only[q52]
  rw[q7k (x:=x) (fun i e=>h i (by rw[←e];simp)),q53 (xs:=xs) (fun i e=>h i (by simp only[List.map_cons,List.mem_cons];exact .inr e))]
theorem j1v {op:Op} {t t':List AV} (h:Agree op t t'):q9h P op t=q9h P op t':=by
 have E:∀x,x∈op.operands→ev P t x=ev P t' x:=fun x hx=>q7k fun i e=>h i (e▸hx)
 unfold Agree at h
 unfold q9h
 split<;>simp only[Op.operands]at E h
 case h_15=>rw[E _ (by simp)]
 all_goals first
  |(rw[E _ (by simp)];done)
  |(rw[E _ (by simp),E _ (by simp)];done)
  |skip
 case h_3 c a b=>rw[E c (by simp),E a (by simp),E b (by simp)]
 case h_12 s x lo hi=>
  rw[E x (by simp)]
  cases lo with
  |none=>cases hi with
   |none=>rfl
   |some b=>simp only[];rw[E b (by simp)]
  |some a=>cases hi with
   |none=>simp only[];rw[E a (by simp)]
   |some b=>simp only[];rw[E a (by simp),E b (by simp)]
 case h_13 s x lo hi mx=>
  rw[E x (by simp),E hi (by simp),E mx (by simp)]
  cases lo with
  |none=>rfl
  |some a=>simp only[];rw[E a (by simp)]
 case h_16 f first cap=>
  rw[q8v (xs:=first.toList) (fun i e=>h i (by simp;left;simpa using e)),q8v (xs:=cap.toList) (fun i e=>h i (by simp;right;simpa using e))]
 case h_17 s parts=>rw[q53 (xs:=parts.toList) (fun i e=>h i (by simpa using e))]
 case h_18 x s=>rw[E x (by simp[Call.operands])]
 case h_19 x s=>rw[E x (by simp[Call.operands])]
 case h_20 x y s=>rw[E x (by simp[Call.operands]),E y (by simp[Call.operands])]
 case h_21 x y s=>rw[E x (by simp[Call.operands]),E y (by simp[Call.operands])]
 case h_22=>rfl
theorem j1x {op:Op} {t t':List AV} (h:Agree op t t') (m:Mem):q3u P op t m=q3u P op t' m:=by
 have E:∀x,x∈op.operands→ev P t x=ev P t' x:=fun x hx=>q7k fun i e=>h i (e▸hx)
 unfold q3u
 split<;>simp only[Op.operands]at E
 ·rw[E _ (by simp)]
 ·rw[E _ (by simp)]
 ·rename_i s x k ok;rw[E x (by simp),E k (by simp)]
 ·rename_i x s;rw[E x (by simp[Call.operands])]
 ·rfl
theorem z5v {op:Op} {t t':List AV} (h:Agree op t t'):q5h P op t=q5h P op t':=by
 have E:∀x,x∈op.operands→ev P t x=ev P t' x:=fun x hx=>q7k fun i e=>h i (e▸hx)
 unfold Agree at h
 unfold q5h
 cases op<;>simp only[Op.operands]at E h
 case box e x=>simp only[];rw[E x (by simp)]
 case buildSlice s len parts=>
  simp only[]
  rw[q53 (xs:=parts.toList) (fun i e=>h i (by simpa using e))]
 case makeSlice s l c=>simp only[];rw[E l (by simp),E c (by simp)]
 case convert a b x=>simp only[];rw[E x (by simp)]
 case makeMap s r=>cases r<;>rfl
 all_goals rfl
noncomputable def effR (call:q1u) (P:Program) (op:Op) (t:List AV) (m:Mem):R:=j5j call P op t m fun v m'=>some (v,m')
theorem effK_bind (call:q1u) (op:Op) (t:List AV) (m:Mem) (K:AV→Mem→R):j5j call P op t m K=(effR call P op t m).bind fun r=>K r.1 r.2:=by
 unfold effR j5j
 split
 all_goals simp only[Option.bind_assoc,Option.bind_some,Option.bind_none]
theorem j9l {op:Op} {t t':List AV} (h:Agree op t t') (call:q1u) (m:Mem):effR call P op t m=effR call P op t' m:=by
 have E:∀x,x∈op.operands→ev P t x=ev P t' x:=fun x hx=>q7k fun i e=>h i (e▸hx)
 unfold Agree at h
 unfold effR j5j
 split<;>simp only[Op.operands]at E h
 ·rename_i a b c;rw[E b (by simp),E c (by simp)]
 ·rename_i a b c d;rw[E a (by simp[Call.operands]),E b (by simp[Call.operands])]
 ·rename_i a b c d;rw[E a (by simp[Call.operands]),E b (by simp[Call.operands])]
 ·rename_i s x k v;rw[E x (by simp),E k (by simp),E v (by simp)]
 ·rename_i s x k v;rw[E x (by simp),E k (by simp),E v (by simp)]
 ·rename_i x k s ts;rw[E x (by simp[Call.operands]),E k (by simp[Call.operands])]
 ·rename_i x s ts;rw[E x (by simp[Call.operands])]
 ·rename_i f xs ts
  rw[E f (by simp[Call.operands]),q8v (xs:=xs) (fun i e=>h i (by simp[Call.operands,e]))]
 ·rfl
theorem z4o {call:q1u} (hcall:q28 P call) {o:Oper} {t:List AV} {m:Mem} {v:AV} {m':Mem} (h:effR call P o.op t m=some (v,m')):j88 P o t m v m':=by
 obtain⟨v',m1,h1,h2⟩:=z4n hcall (o:=o) (K:=fun v m'=>some (v,m')) h
 cases h1
 exact h2
noncomputable def q7d (ops:List Oper) (o:Oper) (t:List AV):Option Bool:=
 match o.guard with
 |none=>some true
 |some (j,want)=>match (ops[j]?).bind (·.dst) with
  |some d=>match t.getD d .undef with
   | .bool b=>some (b==want)
   | .tup []=>some false
   | _=>none
  |none=>none
theorem z7j {all:List Oper} {o:Oper} {t:List AV} {sk:List Tmp} {y n:List AV→R} {r:AV×Mem} (h:q6j sk all o t y n=some r):(q7d all o t=some true∧y t=some r)∨(q7d all o t=some false∧n t=some r):=by
 replace h:=z2q h
 unfold z7i at h
 unfold q7d
 split at h
 ·rename_i hg;left;refine⟨?_,h⟩;simp only[hg]
 ·rename_i j want hg
  split at h
  ·rename_i d hd
   split at h
   ·rename_i b hb
    split at h
    ·rename_i hbw;left;refine⟨?_,h⟩;simp only[hg,hd,hb,hbw,beq_self_eq_true]
    ·rename_i hbw;right;refine⟨?_,h⟩;simp only[hg,hd,hb];simpa using hbw
   ·rename_i hb;right;refine⟨?_,h⟩;simp only[hg,hd,hb]
   ·simp at h
  ·simp at h
theorem j2r {all:List Oper} {o:Oper} {t:List AV} {b:Bool} (h:q7d all o t=some b) (p:Phi) (tmps:Array Value) (ht:∀d,(match o.guard with|some (j,_)=>(all[j]?).bind (·.dst)|none=>none)=some d→VR p (t.getD d .undef) (tmps.getD d undef)∧d<tmps.size) :
  Region.wanted o (yielded ⟨all⟩ tmps)=b:=by
 unfold q7d at h
 split at h
 ·rename_i hg;cases h;simp[Region.wanted,hg]
 ·rename_i j want hg
  split at h
  ·rename_i d hd
   split at h
   ·rename_i c hb
    cases h
    obtain⟨h1,h2⟩:=ht d (by simp only[hg];exact hd)
    rw[hb]at h1
    simp only[VR]at h1
    have h3:tmps[d]? = some (.bool c):=by
     rw[Array.getElem?_eq_getElem h2]
     rw[Array.getD_eq_getD_getElem?,Array.getElem?_eq_getElem h2]at h1
     simpa using h1
    have hd':((⟨all⟩:Array Oper)[j]?).bind (·.dst)=some d:=by simpa using hd
    simp only[Region.wanted,hg,yielded,hd',Option.bind_some,h3]
    cases c<;>cases want<;>rfl
   ·rename_i hb
    cases h
    obtain⟨h1,h2⟩:=ht d (by simp only[hg];exact hd)
    rw[hb]at h1
    simp only[VR]at h1
    obtain⟨vs,h1,_⟩:=h1
    have h3:tmps[d]? = some (.tuple ⟨vs⟩):=by
     rw[Array.getElem?_eq_getElem h2]
     rw[Array.getD_eq_getD_getElem?,Array.getElem?_eq_getElem h2]at h1
     simpa using h1
    have hd':((⟨all⟩:Array Oper)[j]?).bind (·.dst)=some d:=by simpa using hd
    simp only[Region.wanted,hg,yielded,hd',Option.bind_some,h3]
    cases want<;>rfl
   ·simp at h
  ·simp at h
theorem z11 {m:Mem} {c:List Nat} {K:R} {r:AV×Mem}:∀{rs:List (Nat×(Mem→Option AV)×AV)},chkE m c rs K=some r→K=some r∧∀j f v,(j,f,v)∈rs→j∈c→f m=some v
 |[],h=>⟨h,by simp⟩
 |(j,f,v)::rs,h=>by
  simp only[chkE]at h
  split at h
  ·rename_i hj
   split at h
   ·rename_i hf
    obtain⟨h1,h2⟩:=z11 h
    refine⟨h1,fun j' f' v' hm hc=>?_⟩
    rcases List.mem_cons.1 hm with e|e
    ·cases e;exact hf
    ·exact h2 _ _ _ e hc
   ·simp at h
  ·rename_i hj
   obtain⟨h1,h2⟩:=z11 h
   refine⟨h1,fun j' f' v' hm hc=>?_⟩
   rcases List.mem_cons.1 hm with e|e
   ·cases e;exact absurd hc hj
   ·exact h2 _ _ _ e hc
theorem z13 {f:Mem→Option AV} {v:AV} {c:List Nat} {K:R} {r:AV×Mem}:∀{es:List (Nat×Mem)},chkR f v c es K=some r→K=some r∧∀j m,(j,m)∈es→j∈c→f m=some v
 |[],h=>⟨h,by simp⟩
 |(j,m)::es,h=>by
  simp only[chkR]at h
  split at h
  ·rename_i hj
   split at h
   ·rename_i hf
    obtain⟨h1,h2⟩:=z13 h
    refine⟨h1,fun j' m' hm hc=>?_⟩
    rcases List.mem_cons.1 hm with e|e
    ·cases e;exact hf
    ·exact h2 _ _ e hc
   ·simp at h
  ·rename_i hj
   obtain⟨h1,h2⟩:=z13 h
   refine⟨h1,fun j' m' hm hc=>?_⟩
   rcases List.mem_cons.1 hm with e|e
   ·cases e;exact absurd hc hj
   ·exact h2 _ _ e hc
structure Trace where
 T:Nat→List AV
 M:Nat→Mem
 W:Nat→Bool
 V:Nat→AV
structure StepOk (P:Program) (call:q1u) (all:List Oper) (chk:List (List Nat)) (τ:Trace) (j:Nat) (o:Oper):Prop where
 wanted:q7d all o (τ.T j)=some (τ.W j)
 tmps:τ.T (j+1)=z00 (τ.T j) o.dst (τ.V j)
 off:τ.W j=false→τ.V j=.tup []∧τ.M (j+1)=τ.M j
 pure:τ.W j=true→cls P o.op=.p→q9h P o.op (τ.T j)=some (τ.V j)∧τ.M (j+1)=τ.M j
 read:τ.W j=true→cls P o.op=.r→q3u P o.op (τ.T j) (τ.M j)=some (τ.V j)∧τ.M (j+1)=τ.M j
 readC:τ.W j=true→cls P o.op=.r→∀k ok,k<j→all[k]? = some ok→τ.W k=true→cls P ok.op=.e→k∈chk.getD j []→q3u P o.op (τ.T j) (τ.M k)=some (τ.V j)
 alloc:τ.W j=true→cls P o.op=.a→∃cs mk,q5h P o.op (τ.T j)=some (cs,mk)∧τ.V j=mk (τ.M j).next∧τ.M (j+1)=(τ.M j).lay cs
 eff:τ.W j=true→cls P o.op=.e→effR call P o.op (τ.T j) (τ.M j)=some (τ.V j,τ.M (j+1))
 effC:τ.W j=true→cls P o.op=.e→∀k ok,k<j→all[k]? = some ok→τ.W k=true→cls P ok.op=.r→k∈chk.getD j []→q3u P ok.op (τ.T k) (τ.M (j+1))=some (τ.V k)
noncomputable def Trace.upd (τ:Trace) (i:Nat) (t:List AV) (m:Mem) (w:Bool) (v:AV):Trace where
 T:=fun j=>if j=i then t else τ.T j
 M:=fun j=>if j=i then m else τ.M j
 W:=fun j=>if j=i then w else τ.W j
 V:=fun j=>if j=i then v else τ.V j
theorem q8a {call:q1u} {all:List Oper} {chk:List (List Nat)}:∀(os:List Oper) (cs:List (List Nat)) (sk:List Tmp) (i:Nat) (h:Seen) (t:List AV) (m:Mem) (τ:Trace) {K:List AV→Mem→R} {r:AV×Mem},
  (∀j,os[j]? = all[i+j]?)→(∀j,cs[j]? = chk[i+j]?)→
  (∀k ok,k<i→all[k]? = some ok→τ.W k=true→cls P ok.op=.r→(k,q3u P ok.op (τ.T k),τ.V k)∈h.rs)→
  (∀k ok,k<i→all[k]? = some ok→τ.W k=true→cls P ok.op=.e→(k,τ.M k)∈h.es)→
  q4j call P all cs os sk i h t m K=some r→
  ∃σ:Trace,(∀j,j<i→σ.T j=τ.T j∧σ.M j=τ.M j∧σ.W j=τ.W j∧σ.V j=τ.V j)∧σ.T i=t∧σ.M i=m∧K (σ.T (i+os.length)) (σ.M (i+os.length))=some r∧
   ∀j o,i≤j→j<i+os.length→all[j]? = some o→StepOk P call all chk σ j o
 |[],cs,_,i,h,t,m,τ,K,r,_,_,_,_,hr=>by
  have hr':K t m=some r:=by cases cs<;>simpa[q4j]using hr
  refine⟨τ.upd i t m false .undef,fun j hj=>?_,by simp[Trace.upd],by simp[Trace.upd],by simpa[Trace.upd]using hr',fun j o h1 h2=>by simp at h2;omega⟩
  simp[Trace.upd,show j≠i by omega]
 |o::os,[],_,i,h,t,m,τ,K,r,_,_,_,_,hr=>by simp[q4j]at hr
 |o::os,c::cs,sk,i,h,t,m,τ,K,r,hall,hchk,hrs,hes,hr=>by
  have hi:all[i]? = some o:=by have:=hall 0;simpa using this.symm
  have hci:chk.getD i []=c:=by have:=hchk 0;rw[List.getD_eq_getElem?_getD];simp at this;simp[←this]
  have hall':∀j,os[j]? = all[i+1+j]?:=fun j=>by
   have:=hall (j+1)
   rw[List.getElem?_cons_succ]at this
   rw[this];congr 1;omega
  have hchk':∀j,cs[j]? = chk[i+1+j]?:=fun j=>by
   have:=hchk (j+1)
   rw[List.getElem?_cons_succ]at this
   rw[this];congr 1;omega
  have glue:∀{sk':List Tmp} (b:Bool) (v:AV) (m':Mem) (h':Seen) ,q7d all o t=some b→
    q4j call P all cs os sk' (i+1) h' (z00 t o.dst v) m' K=some r→
    (∀x,x∈h.rs→x∈h'.rs)→(∀x,x∈h.es→x∈h'.es)→
    (b=true→cls P o.op=.r→(i,q3u P o.op t,v)∈h'.rs)→(b=true→cls P o.op=.e→(i,m)∈h'.es)→
    (∀σ:Trace,(∀j,j<i→σ.T j=τ.T j∧σ.M j=τ.M j∧σ.W j=τ.W j∧σ.V j=τ.V j)→σ.T i=t→σ.M i=m→σ.W i=b→σ.V i=v→σ.T (i+1)=z00 t o.dst v→σ.M (i+1)=m'→StepOk P call all chk σ i o)→
    ∃σ:Trace,(∀j,j<i→σ.T j=τ.T j∧σ.M j=τ.M j∧σ.W j=τ.W j∧σ.V j=τ.V j)∧σ.T i=t∧σ.M i=m∧K (σ.T (i+(o::os).length)) (σ.M (i+(o::os).length))=some r∧
     ∀j o',i≤j→j<i+(o::os).length→all[j]? = some o'→StepOk P call all chk σ j o':=by
   intro sk' b v m' h' hw hd hrs' hes' hri hei hstep
   obtain⟨σ,s1,s2,s3,s4,s5⟩:=q8a os cs sk' (i+1) h' (z00 t o.dst v) m' (τ.upd i t m b v) hall' hchk'
    (fun k ok hk hok hwk hc=>by
     by_cases e:k=i
     ·subst e;rw[hi]at hok;cases hok
      simp only[Trace.upd,if_true]at hwk⊢
      exact hri hwk hc
     ·simp only[Trace.upd,if_neg e]at hwk⊢
      exact hrs' _ (hrs k ok (by omega) hok hwk hc))
    (fun k ok hk hok hwk hc=>by
     by_cases e:k=i
     ·subst e;rw[hi]at hok;cases hok
      simp only[Trace.upd,if_true]at hwk⊢
      exact hei hwk hc
     ·simp only[Trace.upd,if_neg e]at hwk⊢
      exact hes' _ (hes k ok (by omega) hok hwk hc)) hd
   have hlow:∀j,j<i→σ.T j=τ.T j∧σ.M j=τ.M j∧σ.W j=τ.W j∧σ.V j=τ.V j:=fun j hj=>by
    have:=s1 j (by omega)
    simpa[Trace.upd,show j≠i by omega]using this
   have hhere:σ.T i=t∧σ.M i=m∧σ.W i=b∧σ.V i=v:=by
    have:=s1 i (by omega)
    simpa[Trace.upd]using this
   refine⟨σ,hlow,hhere.1,hhere.2.1,?_,fun j o' h1 h2 h3=>?_⟩
   ·rw[show i+(o::os).length=i+1+os.length by simp;omega];exact s4
   ·by_cases e:j=i
    ·subst e;rw[hi]at h3;cases h3
     exact hstep σ hlow hhere.1 hhere.2.1 hhere.2.2.1 hhere.2.2.2 s2 s3
    ·exact s5 j o' (by omega) (by simp at h2;omega) h3
  simp only[q4j]at hr
  rcases z7j hr with ⟨hw,hr⟩|⟨hw,hr⟩
  ·split at hr
   ·rename_i hc
    obtain⟨v,hv,hr⟩:=be hr
    refine glue true v m h hw hr (fun _ h=>h) (fun _ h=>h) (fun _ e=>absurd (hc.symm.trans e) (by decide)) (fun _ e=>absurd (hc.symm.trans e) (by decide)) fun σ _ a1 a2 a3 a4 a5 a6=>?_
    exact⟨by rw[a1,a3];exact hw,by rw[a5,a1,a4],by simp[a3],fun _ _=>by rw[a1,a4,a6,a2];exact⟨hv,rfl⟩,fun _ e=>absurd (hc.symm.trans e) (by decide),fun _ e=>absurd (hc.symm.trans e) (by decide),
     fun _ e=>absurd (hc.symm.trans e) (by decide),fun _ e=>absurd (hc.symm.trans e) (by decide),fun _ e=>absurd (hc.symm.trans e) (by decide)⟩
   ·rename_i hc
    obtain⟨v,hv,hr⟩:=be hr
    obtain⟨hr,hck⟩:=z13 hr
    refine glue true v m _ hw hr (fun _ h=>by simp[h]) (fun _ h=>h) (fun _ _=>by simp) (fun _ e=>absurd (hc.symm.trans e) (by decide)) fun σ a0 a1 a2 a3 a4 a5 a6=>?_
    refine⟨by rw[a1,a3];exact hw,by rw[a5,a1,a4],by simp[a3],fun _ e=>absurd (hc.symm.trans e) (by decide),fun _ _=>by rw[a1,a4,a6,a2];exact⟨hv,rfl⟩,fun _ _ k ok hk hok hwk hck' hmem=>?_,
     fun _ e=>absurd (hc.symm.trans e) (by decide),fun _ e=>absurd (hc.symm.trans e) (by decide),fun _ e=>absurd (hc.symm.trans e) (by decide)⟩
    obtain⟨b1,b2,b3,b4⟩:=a0 k hk
    rw[a1,a4,b2]
    exact hck k _ (hes k ok hk hok (by rw[←b3];exact hwk) hck') (by rw[hci]at hmem;exact hmem)
   ·rename_i hc
    obtain⟨⟨cs',mk⟩,hv,hr⟩:=be hr
    refine glue true _ _ h hw hr (fun _ h=>h) (fun _ h=>h) (fun _ e=>absurd (hc.symm.trans e) (by decide)) (fun _ e=>absurd (hc.symm.trans e) (by decide)) fun σ _ a1 a2 a3 a4 a5 a6=>?_
    exact⟨by rw[a1,a3];exact hw,by rw[a5,a1,a4],by simp[a3],fun _ e=>absurd (hc.symm.trans e) (by decide),fun _ e=>absurd (hc.symm.trans e) (by decide),fun _ e=>absurd (hc.symm.trans e) (by decide),
     fun _ _=>⟨cs',mk,by rw[a1];exact hv,by rw[a4,a2],by rw[a6,a2]⟩,fun _ e=>absurd (hc.symm.trans e) (by decide),fun _ e=>absurd (hc.symm.trans e) (by decide)⟩
   ·rename_i hc
    rw[effK_bind]at hr
    obtain⟨⟨v,m'⟩,hv,hr⟩:=be hr
    obtain⟨hr,hck⟩:=z11 hr
    refine glue true v m' _ hw hr (fun _ h=>h) (fun _ h=>by simp[h]) (fun _ e=>absurd (hc.symm.trans e) (by decide)) (fun _ _=>by simp) fun σ a0 a1 a2 a3 a4 a5 a6=>?_
    refine⟨by rw[a1,a3];exact hw,by rw[a5,a1,a4],by simp[a3],fun _ e=>absurd (hc.symm.trans e) (by decide),fun _ e=>absurd (hc.symm.trans e) (by decide),fun _ e=>absurd (hc.symm.trans e) (by decide),
     fun _ e=>absurd (hc.symm.trans e) (by decide),fun _ _=>by rw[a1,a2,a4,a6];exact hv,fun _ _ k ok hk hok hwk hck' hmem=>?_⟩
    obtain⟨b1,b2,b3,b4⟩:=a0 k hk
    rw[a6,b1,b4]
    exact hck k _ _ (hrs k ok hk hok (by rw[←b3];exact hwk) hck') (by rw[hci]at hmem;exact hmem)
  ·refine glue false (.tup []) m h hw hr (fun _ h=>h) (fun _ h=>h) (fun e=>absurd e (by decide)) (fun e=>absurd e (by decide)) fun σ _ a1 a2 a3 a4 a5 a6=>?_
   exact⟨by rw[a1,a3];exact hw,by rw[a5,a1,a4],fun _=>by rw[a4,a6,a2];exact⟨rfl,rfl⟩,fun e=>absurd (a3.symm.trans e) (by decide),fun e=>absurd (a3.symm.trans e) (by decide),fun e=>absurd (a3.symm.trans e) (by decide),
    fun e=>absurd (a3.symm.trans e) (by decide),fun e=>absurd (a3.symm.trans e) (by decide),fun e=>absurd (a3.symm.trans e) (by decide)⟩
end
end
section
open Go
section
variable {P:Program}
theorem z1p {all:List Oper} {anc chk:List (List Nat)} (h:rOk P all anc chk=true) {j:Nat} {oj:Oper} (hj:all[j]? = some oj) :
  j5d anc j oj=true∧∀i oi,i<j→all[i]? = some oi→j70 P all anc chk i j oi oj=true:=by
 have hlt:j<all.length:=(List.getElem?_eq_some_iff.1 hj).1
 have h1:=List.all_eq_true.1 h j (List.mem_range.2 hlt)
 simp only[rowOk,hj,Bool.and_eq_true]at h1
 refine⟨h1.1,fun i oi hi hoi=>?_⟩
 have:=List.all_eq_true.1 h1.2 i (List.mem_range.2 hi)
 simpa only [hoi]using this
theorem anc_in {all:List Oper} {anc chk:List (List Nat)} (h:rOk P all anc chk=true) {S:Nat→Bool} (hS:∀j o,all[j]? = some o→S j=true→∀e∈q4k o,S e=true) :
  ∀(j:Nat) (o:Oper),all[j]? = some o→(∀e∈q4k o,S e=true)→∀x∈anc.getD j [],S x=true:=by
 intro j
 induction j using Nat.strongRecOn with
 | _ j ih=>
  intro o ho he x hx
  have h1:=(z1p h ho).1
  simp only[j5d,Bool.and_eq_true]at h1
  have h2:=List.all_eq_true.1 h1.1.2 x hx
  have h3:=List.all_eq_true.1 h1.1.1
  rw[Bool.or_eq_true]at h2
  rcases h2 with h2|h2
  ·exact he x (by simpa using h2)
  ·obtain⟨e,h4,h5⟩:=List.any_eq_true.1 h2
   have hlt:e<j:=by simpa using h3 e h4
   have hoe:∃oe,all[e]? = some oe:=⟨all[e]'(by have:=(List.getElem?_eq_some_iff.1 ho).1;omega),by rw[List.getElem?_eq_getElem]⟩
   obtain⟨oe,hoe⟩:=hoe
   exact ih e hlt oe hoe (hS e oe hoe (he e h4)) x (by simpa using h5)
def q94 (all:List Oper) (k:Nat):Option Tmp:=(all[k]?).bind (·.dst)
noncomputable def z0f (all:List Oper) (V:Nat→AV) (S:Nat→Bool) (t:List AV) (k:Nat):List AV:=if S k then z00 t (q94 all k) (V k) else t
noncomputable def q5k (all:List Oper) (V:Nat→AV) (S:Nat→Bool) (t0:List AV):List AV:=(List.range all.length).foldl (z0f all V S) t0
theorem j2z (t:List AV) (d:Option Tmp) (v:AV):(z00 t d v).length=t.length:=by cases d<;>simp[z00,z3h]
theorem q6p (t:List AV) (d:Option Tmp) (v:AV) (x:Nat) (hx:x<t.length):(z00 t d v).getD x .undef=if d=some x then v else t.getD x .undef:=by
 cases d with
 |none=>simp[z00]
 |some d=>
  simp only[z00,z3h,List.getD_eq_getElem?_getD,Option.some.injEq]
  by_cases e:d=x
  ·subst e;simp[hx]
  ·rw[List.getElem?_set_ne e,if_neg e]
theorem q3m (all:List Oper) (V:Nat→AV) (S:Nat→Bool) (t:List AV) (k:Nat):(z0f all V S t k).length=t.length:=by
 unfold z0f;split
 ·exact j2z _ _ _
 ·rfl
theorem q2n (all:List Oper) (V:Nat→AV) (S:Nat→Bool):∀(l:List Nat) (t:List AV),(l.foldl (z0f all V S) t).length=t.length
 |[],_=>rfl
 |k::l,t=>by rw[List.foldl_cons,q2n all V S l,q3m]
theorem q8d (all:List Oper) (V:Nat→AV) {S S':Nat→Bool} {x:Nat}:∀(l:List Nat) (t t':List AV),(∀k∈l,q94 all k=some x→S k=S' k)→x<t.length→t.length=t'.length→t.getD x .undef=t'.getD x .undef→
  (l.foldl (z0f all V S) t).getD x .undef=(l.foldl (z0f all V S') t').getD x .undef
 |[],_,_,_,_,_,h=>h
 |k::l,t,t',hS,hx,hl,h=>by
  rw[List.foldl_cons,List.foldl_cons]
  refine q8d all V l _ _ (fun j hj=>hS j (by simp[hj])) (by rw[q3m];exact hx) (by rw[q3m,q3m];exact hl) ?_
  unfold z0f
  by_cases hd:q94 all k=some x
  ·rw[hS k (by simp) hd]
   split
   ·rw[q6p _ _ _ _ hx,q6p _ _ _ _ (by omega),hd];simp
   ·exact h
  ·have e1:∀(b:Bool) (t:List AV),x<t.length→(if b=true then z00 t (q94 all k) (V k) else t).getD x .undef=t.getD x .undef:=by
    intro b t ht
    cases b with
    |false=>rfl
    |true=>rw[if_pos rfl,q6p _ _ _ _ ht,if_neg hd]
   rw[e1 _ _ hx,e1 _ _ (by omega)];exact h
theorem q7n (all:List Oper) (V:Nat→AV) {S:Nat→Bool} {x:Nat}:∀(l:List Nat) (t:List AV),(∀k∈l,S k=true→q94 all k≠some x)→x<t.length→(l.foldl (z0f all V S) t).getD x .undef=t.getD x .undef
 |[],_,_,_=>rfl
 |k::l,t,hS,hx=>by
  rw[List.foldl_cons,q7n all V l _ (fun j hj=>hS j (by simp[hj])) (by rw[q3m];exact hx)]
  unfold z0f
  split
  ·rename_i h;rw[q6p _ _ _ _ hx,if_neg (hS k (by simp) h)]
  ·rfl
theorem range_split {n i:Nat} (h:i<n):List.range n=List.range i++i::List.range' (i+1) (n-(i+1)):=by
 rw[List.range_eq_range',List.range_eq_range']
 have:n=i+(1+(n-(i+1))):=by omega
 conv=>lhs;rw[this]
 rw[←List.range'_append_1]
 congr 1
 rw[Nat.zero_add,Nat.add_comm 1,List.range'_succ]
theorem tmpsS_last {all:List Oper} {V:Nat→AV} {S:Nat→Bool} {t0:List AV} {i x:Nat} (hi:i<all.length) (hSi:S i=true) (hd:q94 all i=some x) (hx:x<t0.length)
  (hlast:∀k,i<k→S k=true→q94 all k≠some x):(q5k all V S t0).getD x .undef=V i:=by
 unfold q5k
 rw[range_split hi,List.foldl_append,List.foldl_cons]
 rw[q7n all V _ _ (fun k hk hS=>hlast k (by have:=List.mem_range'_1.1 hk;omega) hS) (by rw[q3m,q2n];exact hx)]
 have hlen:=q2n all V S (List.range i) t0
 generalize (List.range i).foldl (z0f all V S) t0=f at *
 unfold z0f
 rw[if_pos hSi,q6p _ _ _ _ (by omega),if_pos hd]
theorem T_eq {call:q1u} {all:List Oper} {chk:List (List Nat)} {τ:Trace} (hτ:∀j o,j<all.length→all[j]? = some o→StepOk P call all chk τ j o) :
  ∀j,j≤all.length→τ.T j=(List.range j).foldl (z0f all τ.V fun _=>true) (τ.T 0):=by
 intro j
 induction j with
 |zero=>intro _;rfl
 |succ j ih=>
  intro hj
  have ho:all[j]? = some (all[j]'(by omega)):=List.getElem?_eq_getElem (by omega)
  rw[List.range_succ,List.foldl_append,←ih (by omega),(hτ j _ (by omega) ho).tmps]
  simp[z0f,q94,ho]
theorem z06 {call:q1u} {all:List Oper} {chk:List (List Nat)} {τ:Trace} (hτ:∀j o,j<all.length→all[j]? = some o→StepOk P call all chk τ j o) {j:Nat} (hj:j≤all.length):(τ.T j).length=(τ.T 0).length:=by
 rw[T_eq hτ j hj,q2n]
theorem T_getD {call:q1u} {all:List Oper} {chk:List (List Nat)} {τ:Trace} (hτ:∀j o,j<all.length→all[j]? = some o→StepOk P call all chk τ j o) {j:Nat} (hj:j≤all.length) {S:Nat→Bool} {x:Nat} (hx:x<(τ.T 0).length)
  (hS:∀k,k<all.length→q94 all k=some x→S k=decide (k<j)):(q5k all τ.V S (τ.T 0)).getD x .undef=(τ.T j).getD x .undef:=by
 rw[T_eq hτ j hj]
 unfold q5k
 have hsp:List.range all.length=List.range j++List.range' j (all.length-j):=by
  rw[List.range_eq_range',List.range_eq_range']
  conv=>lhs;rw[show all.length=j+(all.length-j) by omega]
  rw[←List.range'_append_1,Nat.zero_add]
 rw[hsp,List.foldl_append]
 rw[q7n all τ.V _ _ (fun k hk hSk hd=>by
  have:=List.mem_range'_1.1 hk
  rw[hS k (by omega) hd]at hSk
  simp at hSk;omega) (by rw[q2n];exact hx)]
 exact q8d all τ.V _ _ _ (fun k hk hd=>by
  have:=List.mem_range.1 hk
  rw[hS k (by omega) hd];simp;omega) hx rfl rfl
end
end
section
open Go
section
variable {P:Program} {call:q1u} {all:List Oper} {chk anc:List (List Nat)} {τ:Trace}
def Eff (P:Program) (all:List Oper) (τ:Trace) (k:Nat):Prop:=∃o,all[k]? = some o∧τ.W k=true∧cls P o.op=.e
def New (P:Program) (all:List Oper) (τ:Trace) (k:Nat) (cs:Blk):Prop:=∃o mk,all[k]? = some o∧τ.W k=true∧cls P o.op=.a∧q5h P o.op (τ.T k)=some (cs,mk)
def q4c (P:Program) (call:q1u) (all:List Oper) (chk:List (List Nat)) (τ:Trace):Prop:=∀j o,j<all.length→all[j]? = some o→StepOk P call all chk τ j o
theorem Eff.lt {k:Nat} (h:Eff P all τ k):k<all.length:=let ⟨_,h,_⟩:=h;(List.getElem?_eq_some_iff.1 h).1
theorem New.lt {k:Nat} {cs:Blk} (h:New P all τ k cs):k<all.length:=let ⟨_,_,h,_⟩:=h;(List.getElem?_eq_some_iff.1 h).1
theorem New.z8b {k:Nat} {cs:Blk} (h:New P all τ k cs):¬Eff P all τ k:=by
 rintro⟨o,h1,_,h2⟩
 obtain⟨o',mk,h3,_,h4,_⟩:=h
 rw[h1]at h3;cases h3
 rw[h2]at h4;cases h4
theorem z5n (hτ:q4c P call all chk τ) {k:Nat} (hk:k<all.length) (h:¬Eff P all τ k) :
  (τ.M (k+1)=τ.M k∧∀cs,¬New P all τ k cs)∨∃cs,New P all τ k cs∧τ.M (k+1)=(τ.M k).lay cs:=by
 have ho:all[k]? = some (all[k]):=List.getElem?_eq_getElem hk
 have hs:=hτ k _ hk ho
 cases hW:τ.W k with
 |false=>
  refine .inl ⟨(hs.off hW).2,?_⟩
  rintro cs ⟨o,mk,_,h1,_⟩
  rw[hW]at h1;cases h1
 |true=>
  cases hc:cls P (all[k]).op with
  |p=>
   refine .inl ⟨(hs.pure hW hc).2,?_⟩
   rintro cs ⟨o,mk,h0,_,h1,_⟩
   rw[ho]at h0;cases h0
   rw[hc]at h1;cases h1
  |r=>
   refine .inl ⟨(hs.read hW hc).2,?_⟩
   rintro cs ⟨o,mk,h0,_,h1,_⟩
   rw[ho]at h0;cases h0
   rw[hc]at h1;cases h1
  |a=>
   obtain⟨cs,mk,h1,h2,h3⟩:=hs.alloc hW hc
   exact .inr ⟨cs,⟨_,mk,ho,hW,hc,h1⟩,h3⟩
  |e=>exact absurd ⟨_,ho,hW,hc⟩ h
theorem New.next (hτ:q4c P call all chk τ) {k:Nat} {cs:Blk} (h:New P all τ k cs):τ.M (k+1)=(τ.M k).lay cs:=by
 obtain⟨o,mk,h1,h2,h3,h4⟩:=h
 obtain⟨cs',mk',h5,_,h6⟩:=(hτ k o (List.getElem?_eq_some_iff.1 h1).1 h1).alloc h2 h3
 rw[h4]at h5;cases h5
 exact h6
theorem j1m (hcall:q28 P call) (hτ:q4c P call all chk τ) {k:Nat} (hk:k<all.length):(τ.M k).next≤(τ.M (k+1)).next:=by
 by_cases he:Eff P all τ k
 ·obtain⟨o,h1,h2,h3⟩:=he
  exact(z4o hcall ((hτ k o hk h1).eff h2 h3)).1
 ·rcases z5n hτ hk he with ⟨h,_⟩|⟨cs,_,h⟩
  ·rw[h];exact Nat.le_refl _
  ·rw[h];simp
theorem q1f (hcall:q28 P call) (hτ:q4c P call all chk τ) {j k:Nat} (hjk:j≤k) (hk:k≤all.length):(τ.M j).next≤(τ.M k).next:=by
 induction k with
 |zero=>have:j=0:=by omega
        subst this;exact Nat.le_refl _
 |succ k ih=>
  by_cases e:j=k+1
  ·subst e;exact Nat.le_refl _
  ·exact Nat.le_trans (ih (by omega) (by omega)) (j1m hcall hτ (by omega))
theorem New.lt_next (hcall:q28 P call) (hτ:q4c P call all chk τ) {i k:Nat} {cs:Blk} (h:New P all τ i cs) (hik:i<k) (hk:k≤all.length):(τ.M i).next<(τ.M k).next:=by
 have h1:=h.next hτ
 have h2:=q1f hcall hτ (j:=i+1) (k:=k) (by omega) hk
 rw[h1]at h2;simp at h2;omega
theorem New.inj (hcall:q28 P call) (hτ:q4c P call all chk τ) {i k:Nat} {cs ds:Blk} (h:New P all τ i cs) (h':New P all τ k ds) (e:(τ.M i).next=(τ.M k).next):i=k:=by
 have a:=h.lt
 have b:=h'.lt
 rcases Nat.lt_trichotomy i k with c|c|c
 ·have:=h.lt_next hcall hτ c (by omega);omega
 ·exact c
 ·have:=h'.lt_next hcall hτ c (by omega);omega
theorem New.cells {i:Nat} {cs ds:Blk} (h:New P all τ i cs) (h':New P all τ i ds):cs=ds:=by
 obtain⟨o,mk,h1,_,_,h4⟩:=h
 obtain⟨o',mk',h5,_,_,h6⟩:=h'
 rw[h1]at h5;cases h5
 rw[h4]at h6;cases h6;rfl
theorem ext (hcall:q28 P call) (hτ:q4c P call all chk τ) {j k:Nat} (hjk:j≤k) (hk:k≤all.length) (hno:∀i,j≤i→i<k→¬Eff P all τ i) :
  (∀b,b<(τ.M j).next→(τ.M k).get b=(τ.M j).get b)∧(∀i cs,j≤i→i<k→New P all τ i cs→(τ.M k).get (τ.M i).next=some cs)∧
  (∀b,(τ.M j).next≤b→b<(τ.M k).next→∃i cs,j≤i∧i<k∧New P all τ i cs∧b=(τ.M i).next):=by
 induction k with
 |zero=>
  have:j=0:=by omega
  subst this
  exact⟨fun _ _=>rfl,fun i cs _ h=>by omega,fun b h1 h2=>by omega⟩
 |succ k ih=>
  by_cases e:j=k+1
  ·subst e
   exact⟨fun _ _=>rfl,fun i cs _ h=>by omega,fun b h1 h2=>by omega⟩
  ·obtain⟨i1,i2,i3⟩:=ih (by omega) (by omega) (fun i h1 h2=>hno i h1 (by omega))
   rcases z5n hτ (by omega) (hno k (by omega) (by omega)) with ⟨h,hn⟩|⟨cs,hn,h⟩
   ·rw[h]
    refine⟨i1,fun i cs h1 h2 h3=>?_,fun b h1 h2=>?_⟩
    ·by_cases e2:i=k
     ·subst e2;exact absurd h3 (hn cs)
     ·exact i2 i cs h1 (by omega) h3
    ·obtain⟨i,cs,g1,g2,g3⟩:=i3 b h1 h2
     exact⟨i,cs,g1,by omega,g3⟩
   ·rw[h]
    have hle:=q1f hcall hτ (j:=j) (k:=k) (by omega) (by omega)
    refine⟨fun b hb=>?_,fun i ds h1 h2 h3=>?_,fun b h1 h2=>?_⟩
    ·rw[Mem.q04,if_neg (by omega)];exact i1 b hb
    ·rw[Mem.q04]
     by_cases e2:i=k
     ·subst e2;rw[if_pos rfl,hn.cells h3]
     ·have:=h3.lt_next hcall hτ (k:=k) (by omega) (by omega)
      rw[if_neg (by omega)];exact i2 i ds h1 (by omega) h3
    ·simp only[Mem.q00]at h2
     by_cases e2:b=(τ.M k).next
     ·exact⟨k,cs,by omega,by omega,hn,e2⟩
     ·obtain⟨i,ds,g1,g2,g3⟩:=i3 b h1 (by omega)
      exact⟨i,ds,g1,by omega,g3⟩
theorem z3f {op:Op} {t:List AV} {m m':Mem} {v:AV} (hm:∀b blk,m.get b=some blk→m'.get b=some blk) (h:q3u P op t m=some v):q3u P op t m'=some v:=by
 have hld:∀(a:AA) (n:Nat) (vs:List AV),q07 m a n=some vs→q07 m' a n=some vs:=by
  intro a n vs h
  obtain⟨cs,ro,h1,h2,rfl⟩:=q3i h
  simp only[q07,hm _ _ h1,if_pos h2]
 have hl1:∀(x v:AV),ld1 m x=some v→ld1 m' x=some v:=by
  intro x v h
  unfold ld1 at h⊢
  split at h
  ·split at h
   ·rename_i cs hc
    simp only[hm _ _ hc];exact h
   ·simp at h
  ·simp at h
 have hmap:∀(x:AV) es,mapOf m x=some es→mapOf m' x=some es:=by
  intro x es h
  unfold mapOf at h⊢
  split at h
  ·exact h
  ·split at h
   ·rename_i hc;simp only[hm _ _ hc];exact h
   ·cases h
  ·cases h
 have hlN:∀(x v:AV) (n:Nat),ldN m x n=some v→ldN m' x n=some v:=by
  intro x v n h
  unfold ldN at h⊢
  split at h
  ·obtain⟨vs,h1,rfl⟩:=Option.map_eq_some_iff.1 h
   simp only[hld _ _ _ h1];rfl
  ·simp at h
 unfold q3u at h⊢
 split at h
 ·obtain⟨x,h1,h⟩:=be h
  rw[h1]
  simp only[Option.bind_some]
  unfold q2r at h⊢
  split at h
  ·simp at h
  ·split at h
   ·obtain⟨n,h2,h⟩:=be h
    rename_i hd ha
    simp only[if_true,h2,Option.bind_some,hd]
    exact hlN _ _ _ h
   ·rename_i hd ha
    rw[if_neg ha];exact hl1 _ _ h
 ·obtain⟨x,h1,h⟩:=be h
  rw[h1]
  simp only[Option.bind_some]
  unfold j8g at h⊢
  split at h
  ·rename_i e hd
   split at h
   ·rename_i he
    split at h
    ·exact h
    ·obtain⟨bs,h2,rfl⟩:=Option.map_eq_some_iff.1 h
     obtain⟨cs,h3,h4⟩:=be h2
     simp only[hld _ _ _ h3,Option.bind_some,h4,Option.map_some]
    ·simp at h
   ·simp at h
  ·simp at h
 ·obtain⟨x,h1,h⟩:=be h
  obtain⟨k,h2,h⟩:=be h
  rw[h1,h2]
  simp only[Option.bind_some]
  unfold z7t at h⊢
  split at h
  ·obtain⟨d,h3,h⟩:=be h
   obtain⟨es,h4,h⟩:=be h
   simp only[h3,Option.bind_some,hmap _ _ h4]
   exact h
  ·cases h
 ·obtain⟨x,h1,h⟩:=be h
  rw[h1]
  simp only[Option.bind_some]
  unfold lenM at h⊢
  split at h
  ·obtain⟨es,h4,rfl⟩:=Option.map_eq_some_iff.1 h
   simp only[hmap _ _ h4,Option.map_some]
  ·cases h
 ·simp at h
theorem MR.grow {P:Program} {p:Phi} {m m':Mem} {w:World} (h:MR P p m w) (hn:m.next≤m'.next) (hlo:∀b,b<m.next→m'.get b=m.get b)
  (hlive:∀b v ci,m.next≤b→m'.get b=some v→p b=some ci→∃o,w.heap[ci.c]? = some o∧BR P p ci v o)
  (hinj:∀b ci b2 ci2,m.next≤b→(m'.get b).isSome=true→p b=some ci→p b2=some ci2→ci.c=ci2.c→b=b2∨(b2<m'.next∧m'.get b2=none)):MR P p m' w where
 has:=fun b v ci h1 h2=>by
  by_cases hb:b<m.next
  ·rw[hlo b hb]at h1;exact h.has b v ci h1 h2
  ·exact hlive b v ci (by omega) h1 h2
 inj:=fun b ci b2 ci2 h1 h2 h3 h4=>by
  by_cases hb:b<m.next
  ·rw[hlo b hb]at h1
   rcases h.inj b ci b2 ci2 h1 h2 h3 h4 with e|⟨e,e'⟩
   ·exact .inl e
   ·exact .inr ⟨by omega,by rw[hlo b2 e];exact e'⟩
  ·exact hinj b ci b2 ci2 (by omega) h1 h2 h3 h4
 bnd:=h.bnd
 glob:=h.glob
structure DInv (P:Program) (all:List Oper) (τ:Trace) (p0:Phi) (w0:World) (a0:Act) (S:Nat→Bool) (q:Nat) (p:Phi) (a:Act) (w:World):Prop where
 qle:q≤all.length
 qeff:q=all.length∨Eff P all τ q
 lo:∀k,k<q→Eff P all τ k→S k=true
 hi:∀k,q≤k→Eff P all τ k→S k=false
 closed:∀j o,all[j]? = some o→S j=true→∀e∈q4k o,S e=true
 inb:∀j,S j=true→j<all.length
 size:a.tmps.size=(τ.T 0).length
 tmps:∀x,x<(τ.T 0).length→VR p ((q5k all τ.V S (τ.T 0)).getD x .undef) (a.tmps.getD x undef)
 defers:a.defers=a0.defers
 rel:MR P p (τ.M q) w
 le:p0.le p
 out:∀b,¬((τ.M 0).next≤b∧b<(τ.M all.length).next)→p b=p0 b
 above:∀b ci,(τ.M q).next≤b→b<(τ.M all.length).next→p b=some ci→∃i cs,q≤i∧S i=true∧New P all τ i cs∧b=(τ.M i).next
 late:∀i cs,i<q→New P all τ i cs→S i=false→p (τ.M i).next=none∧(τ.M q).get (τ.M i).next=some cs
 early:∀i cs,q≤i→New P all τ i cs→S i=true→∃ci o,p (τ.M i).next=some ci∧w.heap[ci.c]? = some o∧BR P p ci cs o
 earlyInj:∀b ci b2 ci2,(τ.M q).next≤b→b<(τ.M all.length).next→(τ.M q).next≤b2→p b=some ci→p b2=some ci2→ci.c=ci2.c→b=b2
 keepA:∀b,b<(τ.M 0).next→p0 b=none→(τ.M q).get b=(τ.M 0).get b
 dead:∀b,b<(τ.M 0).next→(τ.M 0).get b=none→(τ.M q).get b=none
 keepC:∀c,c<w0.heap.size→(∀b ci,((τ.M 0).get b).isSome=true→p0 b=some ci→ci.c≠c)→w.heap[c]? = w0.heap[c]?
 fresh:∀b ci,(τ.M 0).next≤b→b<(τ.M all.length).next→p b=some ci→w0.heap.size≤ci.c∨∃b0 ci0,((τ.M 0).get b0).isSome=true∧p0 b0=some ci0∧ci0.c=ci.c
 ro:∀b cs ci,(τ.M 0).get b=some (.cells cs true)→p0 b=some ci→(τ.M q).get b=some (.cells cs true)∧w.heap[ci.c]? = w0.heap[ci.c]?
 bnd0:∀b ci,p0 b=some ci→ci.c<w0.heap.size
 wsize:w0.heap.size≤w.heap.size
 os:w.os=w0.os
 output:w.output=w0.output
 tape:w.tape=w0.tape
structure Ready (all:List Oper) (S:Nat→Bool) (i:Nat) (o:Oper):Prop where
 op:all[i]? = some o
 not:S i=false
 edges:∀e∈q4k o,S e=true
def q7x (S:Nat→Bool) (i:Nat):Nat→Bool:=fun j=>if j=i then true else S j
section steps
variable {p0:Phi} {w0:World} {a0:Act} {S:Nat→Bool} {q:Nat} {p:Phi} {a:Act} {w:World} {i:Nat} {o:Oper}
theorem DInv.ancIn (hr:rOk P all anc chk=true) (h:DInv P all τ p0 w0 a0 S q p a w) {j:Nat} {oj:Oper} (hj:all[j]? = some oj) (he:∀e∈q4k oj,S e=true):∀x∈anc.getD j [],S x=true:=
 anc_in hr h.closed j oj hj he
theorem DInv.j2x (hr:rOk P all anc chk=true) (h:DInv P all τ p0 w0 a0 S q p a w) (hi:Ready all S i o) {k:Nat} {ok:Oper} (hk:all[k]? = some ok) (hki:k<i) (hS:S k=false) :
  Oper.apart ⟨all⟩ ok o=true∧¬(cls P ok.op=.e∧cls P o.op=.e)∧((cls P ok.op=.r∧cls P o.op=.e)∨(cls P ok.op=.e∧cls P o.op=.r)→k∈chk.getD i []):=by
 have h1:=(z1p hr hi.op).2 k ok hki hk
 unfold j70 at h1
 rw[Bool.or_eq_true]at h1
 rcases h1 with h1|h1
 ·have:=h.ancIn hr hi.op hi.edges k (by simpa using h1)
  rw[hS]at this;cases this
 ·simp only[Bool.and_eq_true,Bool.or_eq_true,Bool.not_eq_true',Bool.and_eq_false_iff,decide_eq_false_iff_not,Bool.or_eq_false_iff]at h1
  refine⟨h1.1.1,fun e=>?_,fun e=>?_⟩
  ·rcases h1.1.2 with h2|h2
   ·exact h2 e.1
   ·exact h2 e.2
  ·rcases h1.2 with h2|h2
   ·rcases e with e|e
    ·rcases h2.1 with h3|h3
     ·exact absurd e.1 h3
     ·exact absurd e.2 h3
    ·rcases h2.2 with h3|h3
     ·exact absurd e.1 h3
     ·exact absurd e.2 h3
   ·simpa using h2
theorem DInv.j2w (hr:rOk P all anc chk=true) (h:DInv P all τ p0 w0 a0 S q p a w) (hi:Ready all S i o) {k:Nat} {ok:Oper} (hk:all[k]? = some ok) (hki:i<k) (hS:S k=true) :
  Oper.apart ⟨all⟩ o ok=true∧¬(cls P o.op=.e∧cls P ok.op=.e)∧((cls P o.op=.r∧cls P ok.op=.e)∨(cls P o.op=.e∧cls P ok.op=.r)→i∈chk.getD k []):=by
 have h1:=(z1p hr hk).2 i o hki hi.op
 unfold j70 at h1
 rw[Bool.or_eq_true]at h1
 rcases h1 with h1|h1
 ·have:=h.ancIn hr hk (h.closed k ok hk hS) i (by simpa using h1)
  rw[hi.not]at this;cases this
 ·simp only[Bool.and_eq_true,Bool.or_eq_true,Bool.not_eq_true',Bool.and_eq_false_iff,decide_eq_false_iff_not,Bool.or_eq_false_iff]at h1
  refine⟨h1.1.1,fun e=>?_,fun e=>?_⟩
  ·rcases h1.1.2 with h2|h2
   ·exact h2 e.1
   ·exact h2 e.2
  ·rcases h1.2 with h2|h2
   ·rcases e with e|e
    ·rcases h2.1 with h3|h3
     ·exact absurd e.1 h3
     ·exact absurd e.2 h3
    ·rcases h2.2 with h3|h3
     ·exact absurd e.1 h3
     ·exact absurd e.2 h3
   ·simpa using h2
theorem dst_get {k:Nat} {x:Tmp} (h:q94 all k=some x):∃ok,all[k]? = some ok∧ok.dst=some x:=by
 unfold q94 at h
 cases e:all[k]? with
 |none=>simp[e]at h
 |some ok=>rw[e]at h;exact⟨ok,rfl,h⟩
theorem DInv.looks (hτ:q4c P call all chk τ) (hr:rOk P all anc chk=true) (h:DInv P all τ p0 w0 a0 S q p a w) (hi:Ready all S i o) {x:Nat} (hx:x∈o.looksAt ⟨all⟩) :
  (q5k all τ.V S (τ.T 0)).getD x .undef=(τ.T i).getD x .undef:=by
 have hil:i<all.length:=(List.getElem?_eq_some_iff.1 hi.op).1
 by_cases hxl:x<(τ.T 0).length
 ·refine T_getD hτ (by omega) hxl fun k hk hd=>?_
  obtain⟨ok,hok,hdk⟩:=dst_get hd
  rcases Nat.lt_trichotomy k i with c|c|c
  ·cases hS:S k with
   |true=>simp[c]
   |false=>
    have:=(h.j2x hr hi hok c hS).1
    exact absurd hx ((Oper.apart_spec this).1 x hdk)
  ·subst c;rw[hi.not];simp
  ·cases hS:S k with
   |false=>simp;omega
   |true=>
    have:=(h.j2w hr hi hok c hS).1
    exact absurd hx ((Oper.apart_spec this).2.2 x hdk)
 ·have h1:(q5k all τ.V S (τ.T 0)).length≤x:=by unfold q5k;rw[q2n];omega
  have h2:(τ.T i).length≤x:=by rw[z06 hτ (by omega)];omega
  rw[List.getD_eq_getElem?_getD,List.getD_eq_getElem?_getD,List.getElem?_eq_none h1,List.getElem?_eq_none h2]
theorem DInv.agree (hτ:q4c P call all chk τ) (hr:rOk P all anc chk=true) (h:DInv P all τ p0 w0 a0 S q p a w) (hi:Ready all S i o):Agree o.op (q5k all τ.V S (τ.T 0)) (τ.T i):=by
 intro x hx
 refine h.looks hτ hr hi ?_
 unfold Oper.looksAt
 simp only[List.mem_append,List.mem_filterMap]
 left
 exact⟨.tmp x,by simpa using hx,rfl⟩
theorem DInv.vrs (h:DInv P all τ p0 w0 a0 S q p a w):VRs p (q5k all τ.V S (τ.T 0)) a.tmps.toList:=by
 have hl:(q5k all τ.V S (τ.T 0)).length=(τ.T 0).length:=by unfold q5k;rw[q2n]
 refine VRs.z5e (by rw[hl,←h.size];simp) fun x v hv=>?_
 have hx:x<(τ.T 0).length:=by have:=(List.getElem?_eq_some_iff.1 hv).1;omega
 have:=h.tmps x hx
 rw[List.getD_eq_getElem?_getD,hv,Option.getD_some]at this
 refine⟨_,?_,this⟩
 have hxs:x<a.tmps.size:=by rw[h.size];exact hx
 rw[Array.getElem?_toList,Array.getElem?_eq_getElem hxs,Array.getD_eq_getD_getElem?,Array.getElem?_eq_getElem hxs]
 rfl
theorem DInv.wanted (hτ:q4c P call all chk τ) (hr:rOk P all anc chk=true) (h:DInv P all τ p0 w0 a0 S q p a w) (hi:Ready all S i o):Region.wanted o (yielded ⟨all⟩ a.tmps)=τ.W i:=by
 have hil:i<all.length:=(List.getElem?_eq_some_iff.1 hi.op).1
 have hs:=(hτ i o hil hi.op).wanted
 refine j2r hs p a.tmps fun d hd=>?_
 have hlook:d∈o.looksAt ⟨all⟩:=by
  unfold Oper.looksAt
  simp only[List.mem_append]
  right
  cases hg:o.guard with
  |none=>simp[hg]at hd
  |some g=>simp only[hg]at hd⊢;simpa using hd
 have hdl:d<(τ.T 0).length:=by
  rcases Nat.lt_or_ge d (τ.T 0).length with c|c
  ·exact c
  ·exfalso
   have h2:(τ.T i).length≤d:=by rw[z06 hτ (by omega)];omega
   unfold q7d at hs
   cases hg:o.guard with
   |none=>simp[hg]at hd
   |some g=>
    obtain⟨j,want⟩:=g
    simp only[hg]at hd hs
    rw[hd]at hs
    simp only[List.getD_eq_getElem?_getD,List.getElem?_eq_none h2,Option.getD_none]at hs
    cases hs
 rw[←h.looks hτ hr hi hlook]
 exact⟨h.tmps d hdl,by rw[h.size];exact hdl⟩
theorem DInv.tmps' (hr:rOk P all anc chk=true) (h:DInv P all τ p0 w0 a0 S q p a w) (hi:Ready all S i o) {p':Phi} (hle:p.le p') {cv:Value} (hv:VR p' (τ.V i) cv) :
  (a.put o.dst cv).tmps.size=(τ.T 0).length∧∀x,x<(τ.T 0).length→VR p' ((q5k all τ.V (q7x S i) (τ.T 0)).getD x .undef) ((a.put o.dst cv).tmps.getD x undef):=by
 have hil:i<all.length:=(List.getElem?_eq_some_iff.1 hi.op).1
 have hdi:q94 all i=o.dst:=by simp[q94,hi.op]
 refine⟨by cases o.dst<;>simp[Act.put,h.size],fun x hx=>?_⟩
 by_cases hd:o.dst=some x
 ·rw[tmpsS_last hil (by simp[q7x]) (by rw[hdi];exact hd) hx]
  ·rw[hd]
   have hxs:x<a.tmps.size:=by rw[h.size];exact hx
   simp only[Act.put,Array.getD_eq_getD_getElem?]
   rw[Array.getElem?_setIfInBounds_self_of_lt hxs]
   exact hv
  ·intro k hk hS hdk
   obtain⟨ok,hok,hdk'⟩:=dst_get hdk
   have hSk:S k=true:=by simpa[q7x,show k≠i by omega]using hS
   have:=(h.j2w hr hi hok hk hSk).1
   exact(Oper.apart_spec this).2.1 x hd hdk'
 ·have e1:(q5k all τ.V (q7x S i) (τ.T 0)).getD x .undef=(q5k all τ.V S (τ.T 0)).getD x .undef:=by
   unfold q5k
   refine q8d all τ.V _ _ _ (fun k _ hdk=>?_) hx rfl rfl
   have:k≠i:=by rintro rfl;exact hd (hdi▸hdk)
   simp[q7x,this]
  rw[e1]
  have e2:(a.put o.dst cv).tmps.getD x undef=a.tmps.getD x undef:=by
   cases hdd:o.dst with
   |none=>rfl
   |some d=>
    have hne:d≠x:=fun e=>hd (by rw[hdd,e])
    simp only[Act.put,Array.getD_eq_getD_getElem?,Array.getElem?_setIfInBounds_ne hne]
  rw[e2]
  exact(h.tmps x hx).mono hle
theorem z1r {k:Nat} (hne:¬Eff P all τ i) (hk:Eff P all τ k):q7x S i k=S k:=by
 have:k≠i:=by rintro rfl;exact hne hk
 simp[q7x,this]
theorem j26 (h:DInv P all τ p0 w0 a0 S q p a w) (hi:Ready all S i o):∀j oj,all[j]? = some oj→q7x S i j=true→∀e∈q4k oj,q7x S i e=true:=by
 intro j oj hj hS e he
 unfold q7x at hS⊢
 split
 ·rfl
 ·by_cases hji:j=i
  ·subst hji;rw[hi.op]at hj;cases hj;exact hi.edges e he
  ·rw[if_neg hji]at hS;exact h.closed j oj hj hS e he
theorem DInv.still (hr:rOk P all anc chk=true) (h:DInv P all τ p0 w0 a0 S q p a w) (hi:Ready all S i o) (hne:¬Eff P all τ i) (hnn:∀cs,¬New P all τ i cs) {cv:Value} (hv:VR p (τ.V i) cv) :
  DInv P all τ p0 w0 a0 (q7x S i) q p (a.put o.dst cv) w:=by
 have hil:i<all.length:=(List.getElem?_eq_some_iff.1 hi.op).1
 obtain⟨t1,t2⟩:=h.tmps' hr hi (fun _ _ h=>h) hv
 have hnew:∀{j cs},New P all τ j cs→q7x S i j=S j:=fun {j cs} hj=>by
  have:j≠i:=by rintro rfl;exact hnn _ hj
  simp[q7x,this]
 refine⟨h.qle,h.qeff,fun k h1 h2=>by rw[z1r hne h2];exact h.lo k h1 h2,fun k h1 h2=>by rw[z1r hne h2];exact h.hi k h1 h2,j26 h hi,fun j hj=>?_,t1,t2,by rw[q45];exact h.defers,
  h.rel,h.le,h.out,fun b ci h1 h2 h3=>?_,fun j cs h1 h2 h3=>h.late j cs h1 h2 (by rw[←hnew h2];exact h3),fun j cs h1 h2 h3=>h.early j cs h1 h2 (by rw[←hnew h2];exact h3),h.earlyInj,h.keepA,h.dead,h.keepC,h.fresh,h.ro,h.bnd0,h.wsize,h.os,h.output,h.tape⟩
 ·unfold q7x at hj;split at hj
  ·omega
  ·exact h.inb j hj
 ·obtain⟨j,cs,g1,g2,g3,g4⟩:=h.above b ci h1 h2 h3
  exact⟨j,cs,g1,by rw[hnew g3];exact g2,g3,g4⟩
theorem DInv.reads (hcall:q28 P call) (hτ:q4c P call all chk τ) (hr:rOk P all anc chk=true) (h:DInv P all τ p0 w0 a0 S q p a w) (hi:Ready all S i o) (hW:τ.W i=true) (hc:cls P o.op=.r) :
  q3u P o.op (q5k all τ.V S (τ.T 0)) (τ.M q)=some (τ.V i):=by
 have hil:i<all.length:=(List.getElem?_eq_some_iff.1 hi.op).1
 have hs:=hτ i o hil hi.op
 rw[j1x (h.agree hτ hr hi)]
 have hqi:q≠i∨q=all.length:=by
  rcases h.qeff with e|⟨o',h1,_,h2⟩
  ·exact .inr e
  ·left;rintro rfl;rw[hi.op]at h1;cases h1;rw[hc]at h2;cases h2
 by_cases hlt:q<i
 ·
  rcases h.qeff with e|⟨o',h1,h2,h3⟩
  ·omega
  ·have hSq:=h.hi q (Nat.le_refl q) ⟨o',h1,h2,h3⟩
   have:=(h.j2x hr hi h1 hlt hSq).2.2 (.inr ⟨h3,hc⟩)
   exact hs.readC hW hc q o' hlt h1 h2 h3 this
 ·have hiq:i<q:=by rcases hqi with e|e<;>omega
  have hex:(∀k,i<k→k<q→¬Eff P all τ k)∨∃k,i<k∧k<q∧Eff P all τ k∧∀j,k<j→j<q→¬Eff P all τ j:=by
   have key:∀n,i+n+1≤q→(∀j,i+n<j→j<q→¬Eff P all τ j)→(∀k,i<k→k<q→¬Eff P all τ k)∨∃k,i<k∧k<q∧Eff P all τ k∧∀j,k<j→j<q→¬Eff P all τ j:=by
    intro n
    induction n with
    |zero=>intro _ hn;exact .inl fun k h1 h2=>hn k (by omega) h2
    |succ n ih=>
     intro h1 hn
     by_cases he:Eff P all τ (i+n+1)
     ·exact .inr ⟨i+n+1,by omega,by omega,he,fun j h2 h3=>hn j (by omega) h3⟩
     ·refine ih (by omega) fun j h2 h3=>?_
      by_cases e:j=i+n+1
      ·rw[e];exact he
      ·exact hn j (by omega) h3
   exact key (q-i-1) (by omega) (fun j h1 h2=>by omega)
  rcases hex with hno|⟨k,h1,h2,hk,hno⟩
  ·have he:=ext hcall hτ (j:=i+1) (k:=q) (by omega) h.qle (fun j a b=>hno j (by omega) b)
   have hr0:=hs.read hW hc
   refine z3f (fun b blk hb=>?_) hr0.1
   rw[←hr0.2]at hb
   rw[he.1 b (Mem.q0w hb)];exact hb
  ·have hSk:=h.lo k h2 hk
   obtain⟨ok,g1,g2,g3⟩:=hk
   have hmem:=(h.j2w hr hi g1 h1 hSk).2.2 (.inl ⟨hc,g3⟩)
   have hkl:k<all.length:=(List.getElem?_eq_some_iff.1 g1).1
   have:=(hτ k ok hkl g1).effC g2 g3 i o h1 hi.op hW hc hmem
   have he:=ext hcall hτ (j:=k+1) (k:=q) (by omega) h.qle (fun j a b=>hno j (by omega) b)
   refine z3f (fun b blk hb=>?_) this
   rw[he.1 b (Mem.q0w hb)];exact hb
end steps
end
end
end Go.Abs
