/- Texts of one claim, put together. -/
import Derived.Test.YtlginbmjiecglaaGreatDoorW5
import Derived.Carry
import Derived.HandedShaped
namespace Go.Abs
section
open Go
def AI.erase:AI->Item
 | .code c=>.code c.erase
 | .inBlock id=>.inBlock id
 | .inLoop c=>.inLoop c.erase
 | .inScope c=>.inScope c.erase
 | .beginRound=>.beginRound
def AI.ok (P:Program):AI->Bool
 | .code c=>c.ok P
 | .inBlock _=>true
 | .inLoop c=>c.ok P
 | .inScope _=>true
 | .beginRound=>true
structure q1i (E:Env):Prop where
 mixed:E.P.follows .mixedOrders=true
 body : ∀ f rs nt c, E.B f = some (rs, nt, c) → ∃ fn, E.P.funcs[f]? = some fn ∧ fn.body = some c.erase ∧ fn.results.toList = rs ∧ fn.ntmps = nt ∧ fn.name ≠ "runtime.NumGoroutine" ∧ c.ok E.P = true
 hook:∀f h,E.H f=some h->∀args m r m',h args m=some (r,m')->z6b E.P (.fn f) args m r m'
section
variable {P:Program}
theorem q4F {id:Nat}:∀{k k':List AI},q4E id k=some k'->exitTo id (k.map AI.erase)=some (k'.map AI.erase)
 |[],_,h=>by simp[q4E]at h
 | .inBlock id'::k,k',h=>by
  simp only[q4E]at h;simp only[List.map_cons,AI.erase,exitTo];split at h
  ·rename_i e;cases h;simp[e]
  ·rename_i e;have:(id'==id)=false:=by simpa using e
   simp only[this,xbq,if_false];exact q4F h
 | .code _::k,k',h | .inLoop _::k,k',h | .inScope _::k,k',h | .beginRound::k,k',h=>by
  simp only[q4E]at h;simp only[List.map_cons,AI.erase,exitTo];exact q4F h
theorem q5B {id:Nat}:∀{k:List AI},q4E id k=none->exitTo id (k.map AI.erase)=none
 |[],_=>rfl
 | .inBlock id'::k,h=>by
  simp only[q4E]at h;simp only[List.map_cons,AI.erase,exitTo];split at h
  ·cases h
  ·rename_i e;have:(id'==id)=false:=by simpa using e
   simp only[this,xbq,if_false];exact q5B h
 | .code _::k,h | .inLoop _::k,h | .inScope _::k,h | .beginRound::k,h=>by
  simp only[q4E]at h;simp only[List.map_cons,AI.erase,exitTo];exact q5B h
theorem q8n {id:Nat}:∀{k k':List AI},q4E id k=some k'->(∀x∈k,x.ok P=true)->∀x∈k',x.ok P=true
 |[],_,h,_=>by simp[q4E]at h
 | .inBlock id'::k,k',h,hk=>by
  simp only[q4E]at h;split at h
  ·cases h;exact fun x hx=>hk x (by simp[hx])
  ·exact q8n h fun x hx=>hk x (by simp[hx])
 | .code _::k,k',h,hk | .inLoop _::k,k',h,hk | .inScope _::k,k',h,hk | .beginRound::k,k',h,hk=>by
  simp only[q4E]at h;exact q8n h fun x hx=>hk x (by simp[hx])
theorem q6v {p:Phi}:∀{live:List Bool} {t:List AV} {vs:List Value},VRs p t vs->VRs p (mask live t) vs
 |live,[],vs,h=>by cases live<;>(try rename_i b _;cases b)<;>simpa[mask]using h
 |[],a::as,vs,h=>by
  simp only[VRs]at h;obtain⟨v,vs,rfl,h1,h2⟩:=h;simp only[mask,VRs];exact⟨v,vs,rfl,by simp[VR],q6v h2⟩
 |true::bs,a::as,vs,h=>by
  simp only[VRs]at h;obtain⟨v,vs,rfl,h1,h2⟩:=h;simp only[mask,VRs];exact⟨v,vs,rfl,h1,q6v h2⟩
 |false::bs,a::as,vs,h=>by
  simp only[VRs]at h;obtain⟨v,vs,rfl,h1,h2⟩:=h;simp only[mask,VRs];exact⟨v,vs,rfl,by simp[VR],q6v h2⟩
def z4n (tmps:Array Value):ResultVar->Sem Value
 | .tmp t=>pure (tmps.getD t undef)
 | .cell a t=>do loadVar t (<-asAddr (tmps.getD a undef))
theorem z5z (fn:Func) (tmps:Array Value):results fn tmps=(do
  let vs<-fn.results.mapM (z4n tmps)
  pure (if h:vs.size=1 then vs[0] else .tuple vs)):=rfl
theorem j6y {p:Phi} {t:List AV} {tmps:Array Value} (ht:VRs p t tmps.toList) (i:Nat):VR p (t.getD i .undef) (tmps.getD i undef):=by
 cases e:t[i]? with
 |none=>rw[List.getD_eq_getElem?_getD,e];simp[VR]
 |some b=>
  obtain⟨v,h1,h2⟩:=ht.get e;rw[List.getD_eq_getElem?_getD,e];have:tmps.getD i undef=v:=by rw[Array.getD_eq_getD_getElem?,<-Array.getElem?_toList,h1];rfl
  rw[this];exact h2
theorem q5Q {p:Phi} {m:Mem} {w:World} (hm:MR P p m w) {t:List AV} {tmps:Array Value} (ht:VRs p t tmps.toList):∀{rs:List ResultVar} {vs:List AV},q0S P rs t m=some vs->
  ∃vs',(rs.mapM (z4n tmps)).run P w=.ok vs' w/\VRs p vs vs'
 |[],vs,h=>by simp only[q0S,xoi]at h;subst h;exact⟨[],by simp[List.mapM_nil],by simp[VRs]⟩
 | .tmp i::rs,vs,h=>by
  simp only[q0S,q70]at h;split at h
  ·rename_i vs1 h1;cases h;obtain⟨vs',h2,h3⟩:=q5Q hm ht h1;refine⟨tmps.getD i undef::vs',?_,?_⟩
   ·simp only[List.mapM_cons,z4n,Sem.run_bind,Sem.run_pure,Result.andThen_ok,h2]
   ·simp only[VRs];exact⟨_,_,rfl,j6y ht i,h3⟩
  ·cases h
 | .cell a ty::rs,vs,h=>by
  simp only[q0S,q70]at h;split at h
  ·rename_i v vs1 h0 h1;cases h;obtain⟨vs',h2,h3⟩:=q5Q hm ht h1;obtain⟨cv,h4,h5⟩:=q7a hm (j6y ht a) h0;have h6:(do loadVar ty (<-asAddr (tmps.getD a undef)):Sem Value).run P w=.ok cv w:=by
    simp only[Instr.loadAt,Sem.run_bind]at h4⊢;cases e:tmps.getD a undef with
    |pointer x=>
     rw[e]at h4;cases x with
     |none=>simp[Instr.sureAddr]at h4
     |some x=>simpa[Instr.sureAddr,asAddr]using h4
    | _=>rw[e]at h4;simp[Instr.sureAddr]at h4
   refine⟨cv::vs',?_,?_⟩
   ·simp only[List.mapM_cons,z4n,Sem.run_bind,Sem.run_pure];rw[Sem.run_bind]at h6;rw[h6];simp only[Result.andThen_ok,h2]
   ·simp only[VRs];exact⟨_,_,rfl,h5,h3⟩
  ·cases h
theorem q9v {p:Phi} {m:Mem} {w:World} (hm:MR P p m w) {fn:Func} {t:List AV} {tmps:Array Value} (ht:VRs p t tmps.toList) {vs:List AV} (h:q0S P fn.results.toList t m=some vs) :
  ∃cv,(results fn tmps).run P w=.ok cv w/\VR p (q0V vs) cv:=by
 obtain⟨vs',h1,h2⟩:=q5Q hm ht h;have hl:=h2.length;rw[z5z,Array.mapM_eq_mapM_toList];simp only[Sem.run_bind,Sem.run_map,h1,Result.andThen_ok,Sem.run_pure];refine⟨_,rfl,?_⟩;cases vs with
 |nil=>simp[q0V,VR]
 |cons a as=>
  cases as with
  |nil=>
   simp only[VRs]at h2;obtain⟨v,vs2,rfl,h3,rfl⟩:=h2;simpa[q0V]using h3
  |cons b bs=>
   have hne:¬(vs'.toArray.size=1):=by simp at hl⊢;omega
   rw[dif_neg hne];simp only[q0V,VR];exact⟨vs',rfl,h2⟩
def Marks (D:List Nat):List Deferred:=D.map fun r=>{target:=.collected r,args:=#[]}
def q3d:World->List Nat->World
 |w,[]=>w
 |w,r::D=>q3d {w with heap:=w.heap.setIfInBounds r (.deferred none)} D
theorem q3o:∀(D:List Nat) (w:World),(q3d w D).heap.size=w.heap.size/\(∀c,c∉D->(q3d w D).heap[c]? = w.heap[c]?)/\(q3d w D).os=w.os/\(q3d w D).output=w.output/\(q3d w D).tape=w.tape
 |[],w=>⟨rfl,fun _ _=>rfl,rfl,rfl,rfl⟩
 |r::D,w=>by
  obtain⟨h1,h2,h3,h4,h5⟩:=q3o D {w with heap:=w.heap.setIfInBounds r (.deferred none)}
  refine⟨by simp only[q3d];rw[h1];simp,fun c hc=>?_,h3,h4,h5⟩
  simp only[xmk0,not_or]at hc;simp only[q3d];rw[h2 c hc.2];exact Array.getElem?_setIfInBounds_ne (Ne.symm hc.1)
structure DOk (D:List Nat) (p:Phi) (m:Mem) (w:World):Prop where
 nd:D.Nodup
 obj:∀r∈D,w.heap[r]? = some (.deferred (some []))
 apart:∀r∈D,∀b ci,(m.get b).isSome=true->p b=some ci->ci.c≠r
theorem DOk.nil (p:Phi) (m:Mem) (w:World):DOk [] p m w:=⟨.nil,by simp,by simp⟩
theorem DOk.lt {D:List Nat} {p:Phi} {m:Mem} {w:World} (h:DOk D p m w) {r:Nat} (hr:r∈D):r<w.heap.size:=(Array.getElem?_eq_some_iff.1 (h.obj r hr)).1
theorem DOk.step {D:List Nat} {p p':Phi} {m m':Mem} {w w':World} (h:DOk D p m w) (s:Sim P p m w p' m' w'):DOk D p' m' w' where
 nd:=h.nd
 obj:=fun r hr=>by rw[s.q28 r (h.lt hr) fun b ci h1 h2=>h.apart r hr b ci h1 h2];exact h.obj r hr
 apart:=fun r hr b ci h1 h2=>by
  by_cases hb:b<m.next
  ·have e:p' b=p b:=s.out b (by omega);refine h.apart r hr b ci ?_ (e▸h2);cases hm:m.get b with
   |some _=>rfl
   |none=>rw[s.dead b hb hm]at h1;cases h1
  ·have hb':b<m'.next:=by
    cases e:m'.get b with
    |none=>rw[e]at h1;cases h1
    |some _=>exact Mem.q0v e
   rcases s.fresh b ci (by omega) hb' h2 with e|⟨b0,ci0,g1,g2,g3⟩
   ·have:=h.lt hr;omega
   ·rw[<-g3];exact h.apart r hr b0 ci0 g1 g2
theorem MR.clear {D:List Nat} {p:Phi} {m:Mem} {w:World} (h:MR P p m w) (hd:DOk D p m w):MR P p m (q3d w D) where
 has:=fun b v ci h1 h2=>by
  obtain⟨o,h3,h4⟩:=h.has b v ci h1 h2;exact⟨o,by rw[(q3o D w).2.1 _ fun hc=>hd.apart _ hc b ci (by rw[h1];rfl) h2 rfl];exact h3,h4⟩
 inj:=h.inj
 bnd:=fun b ci h1=>by rw[(q3o D w).1];exact h.bnd b ci h1
 q2O:=h.q2O
theorem Sim.clear {D:List Nat} {p p':Phi} {m m':Mem} {w w':World} (s:Sim P p m w p' m' w') (hd:DOk D p' m' w') (hlo:∀r∈D,w.heap.size<=r):Sim P p m w p' m' (q3d w' D):=by
 obtain⟨c1,c2,c3,c4,c5⟩:=q3o D w';refine⟨s.le,s.out,s.next,s.rel.clear hd,s.q34,s.dead,fun c h1 h2=>?_,s.fresh,fun b cs ci h1 h2=>?_,by rw[c1];exact s.size,c3.trans s.os,c4.trans s.output,c5.trans s.tape⟩
 ·rw[c2 c fun hc=>by have:=hlo c hc;omega];exact s.q28 c h1 h2
 ·obtain⟨h3,h4⟩:=s.ro b cs ci h1 h2;refine⟨h3,?_⟩;rw[c2 _ fun hc=>hd.apart _ hc b ci (by rw[h3];rfl) (s.le _ _ h2) rfl];exact h4
theorem q56:∀(D:List Nat) (fr:Frame) (cs:List Frame) (w:World),fr.mode=.returning->fr.defers=Marks D->D.Nodup->(∀r∈D,w.heap[r]? = some (.deferred (some [])))->Steps P (lone fr cs w) (lone {fr with defers:=[]} cs (q3d w D))
 |[],fr,cs,w,_,hd,_,_=>by
  have:fr={fr with defers:=[]}:=by cases fr;simp only[Marks,List.map_nil]at hd;subst hd;rfl
  rw[<-this];exact .refl _ _
 |r::D,fr,cs,w,hm,hd,hn,ho=>by
  have h0:=ho r (by simp);have ht:(Instr.takeDeferred r).run P w=.ok [] {w with heap:=w.heap.setIfInBounds r (.deferred none)}:=by
   simp only[Instr.takeDeferred,Sem.run_bind,q1c h0 (by simp),Result.andThen_ok];rw[q1Q h0 (by simp)];rfl
  have h1:step P (lone fr cs w)=.next (lone {fr with defers:=Marks D} cs {w with heap:=w.heap.setIfInBounds r (.deferred none)}):=by
   refine step_lone_go ?_;simp only[Marks,List.map_cons]at hd;simp[stepG,unwind,hm,hd,Sem.runT_eq,ht,GStep.bare_after,Marks]
  have h2:=q56 D {fr with defers:=Marks D} cs {w with heap:=w.heap.setIfInBounds r (.deferred none)} hm rfl (List.nodup_cons.1 hn).2 (fun x hx=>by
   have:x≠r:=by rintro rfl;exact(List.nodup_cons.1 hn).1 hx
   rw[show ({w with heap:=w.heap.setIfInBounds r (.deferred none)}:World).heap=w.heap.setIfInBounds r (.deferred none) from rfl,Array.getElem?_setIfInBounds_ne (Ne.symm this)]
   exact ho x (by simp[hx]))
  exact .head h1 h2
section steps
variable {b:Frame} {a:Act} {k:List Item} {cs:List Frame} {w:World}
theorem z2o {c:Code}:step P (lone (b.atR a (.code (.scope c)::k)) cs w)=.next (lone (b.atR a (.code c::.inScope c::k)) cs w):=
 step_lone_go (by simp[stepG,stepG.exec,Frame.atR])
theorem q9F {c:Code}:step P (lone (b.atR a (.inScope c::k)) cs w)=.next (lone (b.atR a k) cs w):=
 step_lone_go (by simp[stepG,stepG.exec,Frame.atR])
theorem q38 {g:Operand} {ps:Array Tmp} {assign body:Code} {l:Nat} {mark:List Deferred} {w₁ w₁' w₂:World} {d:Deferred} {v:Value}
  (he:(Instr.enterLoop b.fn a.tmps ps assign body b.roundOf).run P w=.ok (l,mark) w₁)
  (hres:(resolve a.eval (rangeCall g l) 0).run P w₁=.ok d w₁') (hinv:(invoke d.target d.args).run P w₁'=.ok (.value v) w₂) :
  step P (lone (b.atR a (.code (.rangeFunc g ps assign body)::k)) cs w) =
   .next (lone (b.atR {a with defers:=mark++a.defers} (.endRangeFunc l::k)) cs w₂):=
 step_lone_go (by
  have hev:=Frame.eval_atR b {a with defers:=mark++a.defers} (.inRangeFunc l::k)
  simp only[Frame.atR]at hev;have hres':Sem.run P (resolve ({tmps:=a.tmps,defers:=mark++a.defers}:Act).eval {callee:=.value g,args:=#[.const (.func (.yield l) #[] #[])],argTypes:=#[]} 0) w₁=.ok d w₁':=hres;simp[stepG,stepG.exec,Frame.atR,Sem.runT_eq,he,GStep.bare_after,stepG.apply,hev,Sem.run_bind,hres',hinv,Result.andThen,Frame.finish])
end steps
end
section
variable {E:Env}
def Fin (P:Program) (md:Md) (fb:Frame) (cs:List Frame) (D:List Nat) (p:Phi) (m:Mem) (w:World) (r:AV) (m':Mem) (M:Machine):Prop:=
 match md with
 | .fn _=>∃cv p' w1 D' fr,Steps P M (lone fr cs (q3d w1 D'))/\fr.fn=fb.fn/\fr.leaving P (q3d w1 D') (.returned cv)/\VR p' r cv/\Sim P p m w p' m' w1/\DOk D' p' m' w1/\∀x∈D',x∈D\/w.heap.size<=x
 | .rd _=>∃cv p' w' c cs',cs=c::cs'/\VR p' r cv/\Sim P p m w p' m' w'/\Steps P M (lone (c.finish cv) cs' w')
def Pre (P:Program) (md:Md) (fb:Frame) (cs:List Frame) (a:Act) (D:List Nat) (p:Phi) (m:Mem) (w:World):Prop:=
 match md with
 | .fn rs=>a.defers=Marks D/\DOk D p m w/\(∃fn,P.funcs[fb.fn]? = some fn/\fn.results.toList=rs)/\fb.kind=.normal/\fb.roundOf=none
 | .rd l=>(∃ci,p l=some ci/\fb.roundOf=some ci.c)/\fb.kind=.normal/\∃c cs',cs=c::cs'
theorem Fin.steps {P:Program} {md:Md} {fb:Frame} {cs:List Frame} {D:List Nat} {p:Phi} {m:Mem} {w:World} {r:AV} {m':Mem} {M M1:Machine} (h:Steps P M M1) (h':Fin P md fb cs D p m w r m' M1):Fin P md fb cs D p m w r m' M:=by
 cases md with
 |fn rs=>obtain⟨cv,p',w1,D',fr,h1,h2⟩:=h';exact⟨cv,p',w1,D',fr,Steps.trans h h1,h2⟩
 |rd l=>obtain⟨cv,p',w',c,cs',h1,h2,h3,h4⟩:=h';exact⟨cv,p',w',c,cs',h1,h2,h3,Steps.trans h h4⟩
theorem Fin.sim {P:Program} {md:Md} {fb:Frame} {cs:List Frame} {D D1:List Nat} {p p1:Phi} {m m1:Mem} {w w1:World} {r:AV} {m':Mem} {M:Machine} (s:Sim P p m w p1 m1 w1) (hf:q5x p m.next m'.next) (hD:∀x∈D1,x∈D\/w.heap.size<=x)
  (h:Fin P md fb cs D1 p1 m1 w1 r m' M):Fin P md fb cs D p m w r m' M:=by
 cases md with
 |fn rs=>
  obtain⟨cv,p',w2,D',fr,h1,h2,h3,h4,h5,h6,h7⟩:=h;refine⟨cv,p',w2,D',fr,h1,h2,h3,h4,s.trans h5 hf,h6,fun x hx=>?_⟩
  rcases h7 x hx with h|h
  ·exact hD x h
  ·exact .inr (xnt0 s.size h)
 |rd l=>obtain⟨cv,p',w',c,cs',h1,h2,h3,h4⟩:=h;exact⟨cv,p',w',c,cs',h1,h2,s.trans h3 hf,h4⟩
theorem Pre.sim {P:Program} {md:Md} {fb:Frame} {cs:List Frame} {a a1:Act} {D:List Nat} {p p1:Phi} {m m1:Mem} {w w1:World} (h:Pre P md fb cs a D p m w) (s:Sim P p m w p1 m1 w1) (hd:a1.defers=a.defers):Pre P md fb cs a1 D p1 m1 w1:=by
 cases md with
 |fn rs=>obtain⟨h1,h2,h3⟩:=h;exact⟨hd.trans h1,h2.step s,h3⟩
 |rd l=>obtain⟨⟨ci,h1,h2⟩,h3⟩:=h;exact⟨⟨ci,s.le _ _ h1,h2⟩,h3⟩
def z4D (E:Env) (md:Md) (k:List AI) (t:List AV) (m:Mem) (r:AV) (m':Mem):Prop:=
 m.next<=m'.next/\∀(p:Phi) (a:Act) (w:World) (fb:Frame) (cs:List Frame) (D:List Nat),MR E.P p m w->GP E.P<=m.next->q5x p m.next m'.next->VRs p t a.tmps.toList->Pre E.P md fb cs a D p m w->
  Fin E.P md fb cs D p m w r m' (lone (fb.atR a (k.map AI.erase)) cs w)
theorem z4D.steps {md:Md} {k k':List AI} {t t':List AV} {m m':Mem} {r:AV} (h:z4D E md k' t' m r m')
  (hs:∀(p:Phi) (a:Act) (w:World) (b:Frame) (cs:List Frame),VRs p t a.tmps.toList->MR E.P p m w->Steps E.P (lone (b.atR a (k.map AI.erase)) cs w) (lone (b.atR a (k'.map AI.erase)) cs w))
  (ht:∀(p:Phi) (vs:List Value),VRs p t vs->VRs p t' vs):z4D E md k t m r m':=
 ⟨h.1,fun p a w b cs D hm hG hf hv hp=>Fin.steps (hs p a w b cs hv hm) (h.2 p a w b cs D hm hG hf (ht _ _ hv) hp)⟩
theorem q5h {P:Program} {p:Phi} {m:Mem} {w:World} (hm:MR P p m w) {b:Nat} {l:q8j} {ci:CI} (hb:m.get b=some (.loop l)) (hp:p b=some ci) :
  ∃fn vs d,w.heap[ci.c]? = some (.loop ⟨l.state,l.pending.map fun j=>j.code.erase,fn,⟨vs⟩,⟨l.params⟩,l.assign.erase,l.body.erase,d⟩)/\VRs p l.tmps vs/\l.assign.ok P=true/\l.body.ok P=true:=by
 obtain⟨o,h1,fn,vs,d,rfl,h2⟩:=hm.has b _ ci hb hp;exact⟨fn,vs,d,h1,h2⟩
theorem z0M {P:Program} {p:Phi} {m:Mem} {w:World} (hm:MR P p m w) {b:Nat} {l l':q8j} {ci:CI} (hb:m.get b=some (.loop l)) (hp:p b=some ci) (e1:l'.tmps=l.tmps) (_e2:l'.params=l.params) (e3:l'.assign=l.assign) (e4:l'.body=l.body)
  {fn:FuncId} {vs:List Value} {d:Nat} (hv:VRs p l.tmps vs) (h1:l.assign.ok P=true) (h2:l.body.ok P=true) (hc:ci.c<w.heap.size) :
  Sim P p m w p (m.put b (some (.loop l'))) {w with heap:=w.heap.setIfInBounds ci.c (.loop ⟨l'.state,l'.pending.map fun j=>j.code.erase,fn,⟨vs⟩,⟨l'.params⟩,l'.assign.erase,l'.body.erase,d⟩)}:=by
 refine Sim.j0T hm hb (by simp) hp (Array.getElem?_setIfInBounds_self_of_lt hc) (fun c hc=>Array.getElem?_setIfInBounds_ne (Ne.symm hc)) (by simp) rfl rfl rfl fun x hx=>?_
 cases hx;exact⟨fn,vs,d,rfl,by rw[e1];exact hv,by rw[e3];exact h1,by rw[e4];exact h2⟩
theorem q6S {md:Md} {j:Option Jmp} {k:List AI} {t:List AV} {m:Mem} {r:AV} {m':Mem} (h:fin E.P md j t m=some (r,m')) (hj:match j with
   |none=>k=[]
   |some .ret=>∃k1,k=.code .ret::k1
   |some (.exit id)=>∃k1,k=.code (.exit id)::k1/\q4E id k1=none):z4D E md k t m r m':=by
 cases md with
 |fn rs=>
  have h':(q0S E.P rs t m).bind (fun vs=>some (q0V vs,m))=some (r,m')/\(k=[]\/∃k1,k=.code .ret::k1):=by
   cases j with
   |none=>exact⟨h,.inl hj⟩
   |some j=>cases j with
    |ret=>exact⟨h,.inr hj⟩
    |exit id=>simp[fin]at h
  obtain⟨h1,hk⟩:=h';obtain⟨vs,h1a,h2⟩:=be h1;cases h2;refine⟨xnr _,fun p a w b cs D hm hG hf hv hp=>?_⟩
  obtain⟨q1,q2,⟨fn,q3,rfl⟩,q4,q5⟩:=hp;obtain⟨cv,h3,h4⟩:=q9v (hm.clear q2) hv h1a;have first:∃todo,step E.P (lone (b.atR a (k.map AI.erase)) cs w)=.next (lone {b.atR a todo with mode:=.returning} cs w):=by
   rcases hk with rfl|⟨k1,rfl⟩
   ·exact⟨_,stepR_end q5⟩
   ·exact⟨_,stepR_ret q5⟩
  obtain⟨todo,hst⟩:=first
  have hu:=q56 (P:=E.P) D {b.atR a todo with mode:=.returning} cs w rfl q1 q2.nd q2.obj
  exact⟨cv,p,w,D,_,.head hst hu,rfl,⟨rfl,rfl,q4,fn,q3,h3⟩,h4,Sim.refl hm,q2,fun x hx=>.inl hx⟩
 |rd l=>
  simp only[fin]at h;split at h
  ·rename_i lp hl;cases h;refine⟨by simp,fun p a w b cs D hm hG hf hv hp=>?_⟩
   obtain⟨⟨ci,q1,q2⟩,q3,c,cs',rfl⟩:=hp;obtain⟨fn,vs,d,g1,g2,g3,g4⟩:=q5h hm hl q1;have hlt:=(Array.getElem?_eq_some_iff.1 g1).1;have hend:∀jump:Option Code,jump=j.map (fun j=>j.code.erase)->(Instr.endRound ci.c jump).run E.P w=.ok (.bool j.isNone) {w with heap:=w.heap.setIfInBounds ci.c (.loop ⟨if j.isNone then .ready else .done,j.map fun j=>j.code.erase,fn,⟨vs⟩,⟨lp.params⟩,lp.assign.erase,lp.body.erase,d⟩)}:=by
    rintro _ rfl
    simp only[Instr.endRound,Instr.getLoop,Sem.run_bind,q1c g1 (by simp),Result.andThen_ok,Sem.run_pure];rw[q1Q g1 (by simp)];cases j<;>rfl
   have hsim:=z0M (l':={lp with state:=if j.isNone then .ready else .done,pending:=j}) hm hl q1 rfl rfl rfl rfl (fn:=fn) (d:=d) g2 g3 g4 hlt
   refine⟨.bool j.isNone,p,_,c,cs',rfl,by simp[VR],hsim,.one ?_⟩;cases j with
   |none=>subst hj;exact stepR_round_end q2 q3 (hend none rfl)
   |some j=>
    cases j with
    |ret=>obtain⟨k1,rfl⟩:=hj;exact stepR_round_ret q2 q3 (hend (some .ret) rfl)
    |exit id=>obtain⟨k1,rfl,hx⟩:=hj;exact stepR_round_exit q2 q3 (q5B hx) (hend (some (.exit id)) rfl)
  ·cases h
theorem z1y {md:Md} {k:List AI} {t:List AV} {m m1:Mem} {r:AV} {m':Mem} (h:q3b md m=some m1) (hgo:z4D E md k t m1 r m'):z4D E md (.beginRound::k) t m r m':=by
 unfold q3b at h;split at h
 ·cases h
 ·rename_i l;split at h
  ·rename_i lp hl;split at h
   ·rename_i hst;cases h;refine⟨by simpa using hgo.1,fun p a w b cs D hm hG hf hv hp=>?_⟩
    have hp0:=hp;obtain⟨⟨ci,q1,q2⟩,q3,q4⟩:=hp;obtain⟨fn,vs,d,g1,g2,g3,g4⟩:=q5h hm hl q1;have hlt:=(Array.getElem?_eq_some_iff.1 g1).1;have hsim:=z0M (l':={lp with state:=.busy}) hm hl q1 rfl rfl rfl rfl (fn:=fn) (d:=d) g2 g3 g4 hlt
    have hbr:(Instr.beginRound ci.c).run E.P w=.ok () {w with heap:=w.heap.setIfInBounds ci.c (.loop ⟨.busy,lp.pending.map fun j=>j.code.erase,fn,⟨vs⟩,⟨lp.params⟩,lp.assign.erase,lp.body.erase,d⟩)}:=by
     simp only[Instr.beginRound,Instr.getLoop,Sem.run_bind,q1c g1 (by simp),Result.andThen_ok,Sem.run_pure];rw[q1Q g1 (by simp)];simp only[Result.andThen_ok,hst];rfl
    refine Fin.sim hsim hf (fun x hx=>.inl hx) (Fin.steps (.one (stepR_beginRound q2 hbr)) ?_)
    exact hgo.2 p a _ b cs D hsim.rel hG hf hv (hp0.sim hsim rfl)
   ·cases h
  ·cases h
theorem z5q (j:Option Jmp) (k:List AI):(pend j k).map AI.erase=((j.map fun j=>j.code.erase).map Item.code).toList++k.map AI.erase:=by
 cases j<;>rfl
theorem z2c {call:q02} (hcall:q1E E.P call) {md:Md} {f:Operand} {fv:AV} {ps:List Tmp} {ac bc:AC} {k:List AI} {t:List AV} {m:Mem} {r:AV} {m':Mem} (hok1:ac.ok E.P=true) (hok2:bc.ok E.P=true) (hf:ev E.P t f=some fv)
  {go:Option Jmp->Mem->R} (hgo:∀j m3,go j m3=some (r,m')->z4D E md (pend j k) t m3 r m') (h:q1A call md fv ⟨.ready,none,t,ps,ac,bc⟩ m go=some (r,m')):z4D E md (.code (.rangeFunc f ps ac bc)::k) t m r m':=by
 unfold q1A at h;split at h
 ·rename_i g first cap
  split at h
  ·rename_i har;obtain⟨⟨rv,m2⟩,h1,h⟩:=be h;unfold q1n at h;split at h
   ·rename_i lp hl;split at h
    ·cases h
    ·rename_i hbusy;have hgo':=hgo _ _ h;obtain⟨c0,hfn⟩:=hcall _ _ _ _ _ h1;simp only[Mem.q0q]at c0;have c1:m2.next<=m'.next:=by simpa using hgo'.1
     refine⟨by omega,fun p a w b cs D hm hG hfree hv hp=>?_⟩
     have hfv:=q2s hv hm.q2O hf;simp only[VR]at hfv;obtain⟨first',cap',hfe,v1,v2⟩:=hfv
     have hfr:p m.next=none:=hfree _ (xnr _) (by omega)
     have henter:∃(l:Nat) (mark:List Deferred) (w1:World) (dd:Nat) (D1:List Nat),(Instr.enterLoop b.fn a.tmps ⟨ps⟩ ac.erase bc.erase b.roundOf).run E.P w=.ok (l,mark) w1/\w.heap.size<=l/\
       w1.heap[l]? = some (.loop ⟨.ready,none,b.fn,a.tmps,⟨ps⟩,ac.erase,bc.erase,dd⟩)/\(∀i,i<w.heap.size->w1.heap[i]? = w.heap[i]?)/\w.heap.size<=w1.heap.size/\w1.os=w.os/\w1.output=w.output/\w1.tape=w.tape/\
       (∀x∈D1,x∈D\/w.heap.size<=x)/\∀p1,Sim E.P p m w p1 (m.lay (.loop ⟨.ready,none,t,ps,ac,bc⟩)) w1->(p1 m.next=some ⟨l,0,0⟩)->(∀x,x≠m.next->p1 x=p x)->Pre E.P md b cs {a with defers:=mark++a.defers} D1 p1 (m.lay (.loop ⟨.ready,none,t,ps,ac,bc⟩)) w1:=by
      cases md with
      |fn rs=>
       obtain⟨q1,q2,q3,q4,q5⟩:=hp;refine⟨w.heap.size+1,[{target:=.collected w.heap.size,args:=#[]}],{w with heap:=(w.heap.push (.deferred (some []))).push (.loop ⟨.ready,none,b.fn,a.tmps,⟨ps⟩,ac.erase,bc.erase,w.heap.size⟩)},w.heap.size,w.heap.size::D,?_,by omega,?_,?_,by simp;omega,rfl,rfl,rfl,?_,?_⟩
       ·rw[q5];simp only[Instr.enterLoop,Sem.run_bind,run_newObj,Result.andThen_ok,Sem.run_pure];simp
       ·rw[Array.getElem?_push,if_pos (by simp)]
       ·intro i hi;rw[Array.getElem?_push_lt (by simp;omega),Array.getElem_push_lt hi,<-Array.getElem?_eq_getElem]
       ·intro x hx;rcases xmk0.1 hx with rfl|hx
        ·exact .inr (xnr _)
        ·exact .inl hx
       ·intro p1 s e1 e2;refine⟨by rw[q1];rfl,⟨List.nodup_cons.2 ⟨fun hx=>by have:=q2.lt hx;omega,q2.nd⟩,fun x hx=>?_,fun x hx c ci g1 g2=>?_⟩,q3,q4,q5⟩
        ·rcases xmk0.1 hx with rfl|hx
         ·rw[Array.getElem?_push_lt (by simp)];simp
         ·have hlt:=q2.lt hx;rw[Array.getElem?_push_lt (by simp;omega),Array.getElem_push_lt hlt,<-Array.getElem?_eq_getElem];exact q2.obj x hx
        ·rw[Mem.q0E]at g1;by_cases ec:c=m.next
         ·subst ec;rw[e1]at g2;cases g2;rcases xmk0.1 hx with rfl|hx
          ·simp
          ·have:=q2.lt hx;simp only;omega
         ·rw[if_neg ec]at g1;rw[e2 c ec]at g2;rcases xmk0.1 hx with rfl|hx
          ·have:=hm.bnd c ci g2;omega
          ·exact q2.apart x hx c ci g1 g2
      |rd lb=>
       obtain⟨⟨ci,q1,q2⟩,q3⟩:=hp;simp only[around]at har;split at har
       ·rename_i lp0 hl0;obtain⟨fn0,vs0,d0,g1,_,_,_⟩:=q5h hm hl0 q1;refine⟨w.heap.size,[],{w with heap:=w.heap.push (.loop ⟨.ready,none,b.fn,a.tmps,⟨ps⟩,ac.erase,bc.erase,d0⟩)},d0,D,?_,by omega,by simp,?_,by simp,rfl,rfl,rfl,fun x hx=>.inl hx,?_⟩
        ·rw[q2];simp only[Instr.enterLoop,Instr.getLoop,Sem.run_bind,q1c g1 (by simp),Result.andThen_ok,Sem.run_pure,run_newObj]
        ·intro i hi;rw[Array.getElem?_push_lt hi,<-Array.getElem?_eq_getElem]
        ·intro p1 s e1 e2;exact⟨⟨ci,s.le _ _ q1,q2⟩,q3⟩
       ·cases har
     obtain⟨l,mark,w1,dd,D1,e1,e2,e3,e4,e5,e6,e7,e8,e9,e10⟩:=henter;have hs1:=Sim.lay (P:=E.P) (n:=0) (v:=.loop ⟨.ready,none,t,ps,ac,bc⟩) hm hfr e2 e3 e4 e5 e6 e7 e8 (fun q hq=>⟨b.fn,a.tmps.toList,dd,by rfl,hv.mono hq,hok1,hok2⟩)
     have hp1:(fun x=>if x=m.next then some (⟨l,0,0⟩:CI) else p x) m.next=some ⟨l,0,0⟩:=by simp
     have hpre1:=e10 _ hs1 hp1 (fun x hx=>by simp[hx])
     generalize hp1d:(fun x=>if x=m.next then some (⟨l,0,0⟩:CI) else p x)=p1 at hs1 hp1 hpre1
     have hargs:VRs p1 (first++[.yld m.next]++cap) (first'++[.func (.yield l) #[] #[]]++cap'):=by
      refine((v1.mono hs1.le).append ?_).append (v2.mono hs1.le);simp only[VRs,VR];exact⟨_,[],rfl,⟨_,hp1,rfl⟩,rfl⟩
     have hfree1:q5x p1 (m.lay (.loop ⟨.ready,none,t,ps,ac,bc⟩)).next m2.next:=(hfree.step hs1).sub (xnr _) c1
     have hres:(resolve a.eval (rangeCall f l) 0).run E.P w1=.ok {target:=.fn (.func g) ⟨cap'⟩,args:=⟨first'⟩++#[.func (.yield l) #[] #[]]} w1:=by
      have hm0:(#[Operand.const (.func (.yield l) #[] #[])].map a.eval)=#[.func (.yield l) #[] #[]]:=by simp[Act.eval]
      simp only[resolve,hfe,hm0,Deferred.ofValue,Sem.run_pure]
     have hmem:(⟨first'⟩++#[.func (.yield l) #[] #[]]++⟨cap'⟩:Array Value)=⟨first'++[.func (.yield l) #[] #[]]++cap'⟩:=by
      apply Array.ext';simp
     have after:∀(rv':Value) (p2:Phi) (w2:World),Sim E.P p1 (m.lay (.loop ⟨.ready,none,t,ps,ac,bc⟩)) w1 p2 m2 w2->Steps E.P (lone (b.atR a (.code (.rangeFunc f ⟨ps⟩ ac.erase bc.erase)::k.map AI.erase)) cs w) (lone (b.atR {a with defers:=mark++a.defers} (.endRangeFunc l::k.map AI.erase)) cs w2)->
       Fin E.P md b cs D p m w r m' (lone (b.atR a ((AI.code (.rangeFunc f ps ac bc)::k).map AI.erase)) cs w):=by
      intro rv' p2 w2 hs2 hst;have hp2:p2 m.next=some ⟨l,0,0⟩:=hs2.le _ _ hp1
      obtain⟨fn,vs,d,g1,g2,g3,g4⟩:=q5h hs2.rel hl hp2;have hlt:=(Array.getElem?_eq_some_iff.1 g1).1;have hend:(Instr.endLoop l).run E.P w2=.ok (lp.pending.map fun j=>j.code.erase) {w2 with heap:=w2.heap.setIfInBounds l (.loop ⟨.exhausted,lp.pending.map fun j=>j.code.erase,fn,⟨vs⟩,⟨lp.params⟩,lp.assign.erase,lp.body.erase,d⟩)}:=by
       simp only[Instr.endLoop,Instr.getLoop,Sem.run_bind,q1c g1 (by simp),Result.andThen_ok,Sem.run_pure];have hb2:(lp.state==LoopState.busy)=false:=by simpa using hbusy
       simp only[hb2,xbq,if_false,Sem.run_bind,Sem.run_pure];rw[q1Q g1 (by simp)];rfl
      have hs3:Sim E.P p2 m2 w2 p2 (m2.put m.next none) {w2 with heap:=w2.heap.setIfInBounds l (.loop ⟨.exhausted,lp.pending.map fun j=>j.code.erase,fn,⟨vs⟩,⟨lp.params⟩,lp.assign.erase,lp.body.erase,d⟩)}:=
       Sim.j0T hs2.rel hl (by simp) hp2 (Array.getElem?_setIfInBounds_self_of_lt hlt) (fun c hc=>Array.getElem?_setIfInBounds_ne (Ne.symm hc)) (by simp) rfl rfl rfl (by simp)
      have hfree2:q5x p2 m2.next m'.next:=(hfree.step hs1).step hs2
      have hs12:=hs1.trans hs2 (hfree.sub (xnr _) c1);have hs13:=hs12.trans hs3 (hfree.sub (xnr _) c1);refine Fin.sim hs13 hfree e9 (Fin.steps (Steps.trans hst (.one (stepR_endRangeFunc hend))) ?_);have:=hgo'.2 p2 {a with defers:=mark++a.defers} _ b cs D1 hs3.rel (by simp;have:=hs2.next;simp at this;omega) hfree2 (hv.mono hs12.le) ((hpre1.sim hs2 rfl).sim hs3 rfl)
      rw[z5q]at this;exact this
     rcases hfn p1 w1 _ hs1.rel (by simp;omega) hfree1 hargs with ⟨fn,g1,g2,g3,g4⟩|⟨cv,w2,p2,g1,g2,g3⟩
     ·have hinv:(invoke (.fn (.func g) ⟨cap'⟩) (⟨first'⟩++#[.func (.yield l) #[] #[]])).run E.P w1=.ok (.enter g ⟨first'++[.func (.yield l) #[] #[]]++cap'⟩) w1:=by
       have hb:fn.body.isNone=false:=by cases hbb:fn.body<;>simp[hbb]at g2⊢
       have hn2 : (fn.name == "runtime.NumGoroutine") = false := by simpa using g3
       simp only[invoke,callFunc,Sem.run_bind,run_program,Result.andThen_ok,g1,hn2,hb,xbq,if_false,Sem.run_pure,hmem]
      obtain⟨e,w2,fr,⟨cv,p2,rfl,k1,k2⟩,k3,k4,k5⟩:=g4 (b.atR {a with defers:=mark++a.defers} (.inRangeFunc l::k.map AI.erase)::cs)
      refine after cv p2 w2 k2 (.head (stepR_rangeFunc e1 hres hinv) (Steps.trans k3 (.one ?_)));rw[<-finish_atR_inRangeFunc l cv];exact step_leave_returned k5
     ·have hinv:(invoke (.fn (.func g) ⟨cap'⟩) (⟨first'⟩++#[.func (.yield l) #[] #[]])).run E.P w1=.ok (.value cv) w2:=by
       simp only[invoke,hmem];exact g1
      exact after cv p2 w2 g3 (.one (q38 e1 hres hinv))
   ·cases h
  ·cases h
 ·cases h
theorem z4O {P:Program} {call:q02} (hcall:q1E P call) {all:List Oper} {chk:List (List Nat)} {t:List AV} {m:Mem} {K:List AV->Mem->R} {r:AV×Mem} (h:q2l call P all chk all [] 0 ⟨[],[]⟩ t m K=some r):∃t' m',K t' m'=some r/\m.next<=m'.next:=by
 obtain⟨τ,_,h1,h2,h3,h4⟩:=q4H (P:=P) (call:=call) (all:=all) (chk:=chk) all chk [] 0 ⟨[],[]⟩ t m ⟨fun _=>[],fun _=>m,fun _=>false,fun _=>.undef⟩ (fun j=>by simp) (fun j=>by simp)
  (fun k ok hk=>by omega) (fun k ok hk=>by omega) h
 have hτ:q2h P call all chk τ:=fun j o hj ho=>h4 j o (Nat.zero_le _) (by omega) ho
 simp only[xnz]at h3;exact⟨_,_,h3,by rw[<-h2];exact q0O hcall hτ (Nat.zero_le _) (xnr _)⟩
theorem j3V {call:q02} (hcall:q1E E.P call) {md:Md}:∀{n:Nat} {k:List AI} {t:List AV} {m:Mem} {r:AV} {m':Mem},goF E call md n k t m=some (r,m')->m.next<=m'.next:=by
 intro n;induction n with
 |zero=>intro k t m r m' h;simp[goF]at h
 |succ n ih=>
  intro k t m r m' h;have hfin:∀{j:Option Jmp} {t:List AV},fin E.P md j t m=some (r,m')->m.next<=m'.next:=by
   intro j t h;unfold fin at h;split at h
   ·split at h
    ·cases h
    ·obtain⟨vs,_,h⟩:=be h;cases h;exact xnr _
   ·split at h
    ·cases h;simp
    ·cases h
  simp only[goF]at h;unfold q15 at h;split at h
  ·exact hfin h
  ·exact ih h
  ·exact ih h
  ·obtain⟨m1,h1,h2⟩:=be h;have:m1.next=m.next:=by
    unfold q3b at h1;split at h1
    ·cases h1
    ·split at h1
     ·split at h1
      ·cases h1;rfl
      ·cases h1
     ·cases h1
   rw[<-this];exact ih h2
  ·exact ih h
  ·split at h
   ·exact ih h
   ·split at h
    ·obtain⟨t',m1,h1,h2⟩:=z4O hcall h;exact xnt0 h2 (ih h1)
    ·obtain⟨t',m1,h1,h2,_⟩:=q4o hcall _ 0 (fun j=>by simp) h
     exact xnt0 h2 (ih h1)
   ·exact ih h
   ·obtain⟨v,h1,h2⟩:=be h;unfold q0b at h2;split at h2
    ·exact ih h2
    ·exact ih h2
    ·cases h2
   ·exact ih h
   ·exact ih h
   ·exact ih h
   ·obtain⟨fv,h1,h2⟩:=be h;unfold q1A at h2;split at h2
    ·split at h2
     ·obtain⟨⟨rv,m2⟩,h3,h4⟩:=be h2;have c0:=(hcall _ _ _ _ _ h3).1;simp only[Mem.q0q]at c0;unfold q1n at h4;split at h4
      ·split at h4
       ·cases h4
       ·have:=ih h4;simp only[Mem.q4n]at this;omega
      ·cases h4
     ·cases h2
    ·cases h2
   ·split at h
    ·exact ih h
    ·exact hfin h
   ·exact hfin h
   ·exact ih h
   ·cases h
theorem z0B (hE:q1i E) {call:q02} (hcall:q1E E.P call) (md:Md):∀(n:Nat) (k:List AI) (t:List AV) (m:Mem) (r:AV) (m':Mem),(∀x∈k,x.ok E.P=true)->goF E call md n k t m=some (r,m')->z4D E md k t m r m':=by
 intro n;induction n with
 |zero=>intro k t m r m' _ h;simp[goF]at h
 |succ n ih=>
  intro k t m r m' hok h;simp only[goF]at h;unfold q15 at h;split at h
  ·exact q6S h rfl
  ·exact(ih _ t m r m' (fun x hx=>hok x (by simp[hx])) h).steps (fun p a w b cs _ _=>.one stepR_inBlock) (fun _ _ h=>h)
  ·exact(ih _ t m r m' (fun x hx=>hok x (by simp[hx])) h).steps (fun p a w b cs _ _=>.one q9F) (fun _ _ h=>h)
  ·obtain⟨m1,h1,h2⟩:=be h;exact z1y h1 (ih _ t m1 r m' (fun x hx=>hok x (by simp[hx])) h2)
  ·rename_i c k;have hc:=hok (.inLoop c) (by simp);refine(ih _ t m r m' (fun x hx=>?_) h).steps (fun p a w b cs _ _=>.one stepR_inLoop) (fun _ _ h=>h)
   rcases xmk0.1 hx with e|e
   ·subst e;exact hc
   ·exact hok x (by simpa using e)
  ·rename_i c k;have hc:=hok (.code c) (by simp);have hk:∀x∈k,x.ok E.P=true:=fun x hx=>hok x (by simp[hx])
   split at h
   ·exact(ih _ t m r m' hk h).steps (fun p a w b cs _ _=>.one stepR_skip) (fun _ _ h=>h)
   ·
    rename_i id ops draw chk anc;have fin:∀{t':List AV} {m1:Mem},goF E call md n k t' m1=some (r,m')->m.next<=m1.next->(∀(p:Phi) (a:Act) (w:World),MR E.P p m w->GP E.P<=m.next->q5x p m.next m1.next->VRs p t a.tmps.toList->∀(b:Frame) (kk:List Item) (cs:List Frame),
      ∃p' a' w',VRs p' t' a'.tmps.toList/\a'.defers=a.defers/\Sim E.P p m w p' m1 w'/\Steps E.P (lone (b.atR a (.code (.region id ⟨ops⟩ draw)::kk)) cs w) (lone (b.atR a' kk) cs w'))->z4D E md (.code (.region id ops draw chk anc)::k) t m r m':=by
     intro t' m1 h1 h2 h3;have hgo:=ih k t' m1 r m' hk h1;refine⟨xnt0 h2 hgo.1,fun p a w b cs D hm hG hf hv hp=>?_⟩
     obtain⟨p1,a',w',g1,g2,g3,g4⟩:=h3 p a w hm hG (hf.sub (xnr _) hgo.1) hv b (k.map AI.erase) cs;exact Fin.sim g3 hf (fun x hx=>.inl hx) (Fin.steps g4 (hgo.2 p1 a' w' b cs D g3.rel (xnt0 hG g3.next) (hf.step g3) g1 (hp.sim g3 g2)))
    split at h
    ·rename_i hdraw;subst hdraw;simp only[AI.ok,AC.ok,xbt,Bool.false_or,Bool.and_eq_true,decide_eq_true_eq]at hc;obtain⟨t',m1,h1,h2,h3⟩:=z1L (id:=id) hcall hc.1 hc.2 hE.mixed h;exact fin h1 h2 h3
    ·rename_i hdraw;have hdraw:draw=false:=by simpa using hdraw
     subst hdraw;obtain⟨t',m1,h1,h2,h3⟩:=q4o hcall ops 0 (fun j=>by simp) h
     refine fin h1 h2 fun p a w hm hG hf hv b kk cs=>?_
     obtain⟨p',a',w',g1,g2,g3,g4⟩:=h3 p a w hm hG hf hv b kk cs;refine⟨p',a',w',g1,g2,g3,.head stepR_region ?_⟩;rw[List.range_eq_range'];exact Steps.trans g4 (.one stepR_region_end)
   ·rename_i x y;simp only[AI.ok,AC.ok,Bool.and_eq_true]at hc;refine(ih _ t m r m' (fun z hz=>?_) h).steps (fun p a w b cs _ _=>.one stepR_seq) (fun _ _ h=>h)
    simp only[xmk0]at hz;rcases hz with e|e|e
    ·subst e;exact hc.1
    ·subst e;exact hc.2
    ·exact hk z e
   ·rename_i c x y;simp only[AI.ok,AC.ok,Bool.and_eq_true]at hc;obtain⟨v,h1,h2⟩:=be h;have main:∀(bb:Bool),v=.bool bb->z4D E md (.code (if bb then x else y)::k) t m r m'->z4D E md (.code (.cond c x y)::k) t m r m':=by
     intro bb hv hgo;subst hv;refine hgo.steps (fun p a w b cs hvr hm=>?_) (fun _ _ h=>h)
     have hcv:=q2s hvr hm.q2O h1;simp only[VR]at hcv;have:=stepR_cond (P:=E.P) (b:=b) (k:=k.map AI.erase) (cs:=cs) (w:=w) (x:=x.erase) (y:=y.erase) hcv;refine .one ?_;cases bb<;>exact this
    unfold q0b at h2;split at h2
    ·refine main true rfl (ih _ t m r m' (fun z hz=>?_) h2)
     simp only[xmk0]at hz;rcases hz with e|e
     ·subst e;exact hc.1
     ·exact hk z e
    ·refine main false rfl (ih _ t m r m' (fun z hz=>?_) h2)
     simp only[xmk0]at hz;rcases hz with e|e
     ·subst e;exact hc.2
     ·exact hk z e
    ·cases h2
   ·rename_i id body;simp only[AI.ok,AC.ok]at hc;refine(ih _ t m r m' (fun z hz=>?_) h).steps (fun p a w b cs _ _=>.one stepR_block) (fun _ _ h=>h)
    simp only[xmk0]at hz;rcases hz with e|e|e
    ·subst e;exact hc
    ·subst e;rfl
    ·exact hk z e
   ·rename_i body;simp only[AI.ok,AC.ok]at hc;refine(ih _ t m r m' (fun z hz=>?_) h).steps (fun p a w b cs _ _=>.one stepR_loop) (fun _ _ h=>h)
    simp only[xmk0]at hz;rcases hz with e|e|e
    ·subst e;exact hc
    ·subst e;exact hc
    ·exact hk z e
   ·rename_i body;simp only[AI.ok,AC.ok]at hc;refine(ih _ t m r m' (fun z hz=>?_) h).steps (fun p a w b cs _ _=>.one z2o) (fun _ _ h=>h)
    simp only[xmk0]at hz;rcases hz with e|e|e
    ·subst e;exact hc
    ·subst e;rfl
    ·exact hk z e
   ·rename_i f ps ac bc;simp only[AI.ok,AC.ok,Bool.and_eq_true]at hc;obtain⟨fv,h1,h2⟩:=be h;refine z2c hcall hc.1 hc.2 h1 (fun j m3 h3=>ih _ t m3 r m' (fun z hz=>?_) h3) h2
    cases j with
    |none=>exact hk z hz
    |some j=>
     simp only[pend,xmk0]at hz;rcases hz with e|e
     ·subst e;cases j<;>rfl
     ·exact hk z e
   ·rename_i id;split at h
    ·rename_i k' he;exact(ih _ t m r m' (q8n he hk) h).steps (fun p a w b cs _ _=>.one (stepR_exit (q4F he))) (fun _ _ h=>h)
    ·rename_i he;exact q6S h ⟨k,rfl,he⟩
   ·exact q6S h ⟨k,rfl⟩
   ·rename_i live c;simp only[AI.ok,AC.ok]at hc;refine(ih _ _ m r m' (fun z hz=>?_) h).steps (fun p a w b cs _ _=>.refl _ _) (fun _ _ h=>q6v h)
    simp only[xmk0]at hz;rcases hz with e|e
    ·subst e;exact hc
    ·exact hk z e
   ·cases h
theorem z4S (z:List (Tmp×Value)):∀vs:List Value,(z.foldl (fun tmps (t,a)=>tmps.setIfInBounds t a) (⟨vs⟩:Array Value)).toList=z.foldl (fun t pa=>t.set pa.1 pa.2) vs:=by
 induction z with
 |nil=>intro vs;rfl
 |cons y z ih=>
  intro vs;simp only[List.foldl_cons];have:=ih (vs.set y.1 y.2);simpa using this
theorem z6q {p:Phi}:∀{ps:List Tmp} {args t:List AV} {cargs vs:List Value},VRs p args cargs->VRs p t vs->VRs p (z1A ps args t) ((ps.zip cargs).foldl (fun t pa=>t.set pa.1 pa.2) vs):=by
 intro ps;induction ps with
 |nil=>intro args t cargs vs _ h;exact h
 |cons q ps ih=>
  intro args t cargs vs ha h;cases args with
  |nil=>simp only[VRs]at ha;subst ha;exact h
  |cons x args=>
   simp only[VRs]at ha;obtain⟨v,vs',rfl,h1,h2⟩:=ha;exact ih h2 (h.set q h1)
theorem z5F (hE:q1i E):∀n,q1E E.P (q2w E n):=by
 intro n;induction n with
 |zero=>intro f args m r m' h;simp[q2w]at h
 |succ n ih=>
  intro tg args m r m' h;cases tg with
  |fn f=>
   simp only[q2w]at h;split at h
   ·rename_i hk hH;exact hE.hook f hk hH args m r m' h
   ·split at h
    ·rename_i rs nt c hB;obtain⟨fn,g1,g2,g3,g4,g5,g6⟩:=hE.body f rs nt c hB;have hgo:=z0B hE ih (.fn rs) n _ _ m r m' (by simp[AI.ok,g6]) h;refine⟨hgo.1,fun p w cargs hm hG hf hv=>.inl ⟨fn,g1,by simp[g2],g5,?_⟩⟩
     intro cs
     let b:Frame:={(default:Frame) with fn:=f,kind:=.normal}
     have henter:Frame.enter E.P f ⟨cargs⟩ .normal=b.atR {tmps:=⟨cargs⟩++Array.replicate (fn.ntmps-cargs.length) undef,defers:=[]} [.code c.erase]:=by
      simp[Frame.enter,Frame.atR,g1,g2,b];rfl
     have hl:=hv.length;obtain⟨cv,p',w1,D',fr,f1,f2,f3,f4,f5,f6,f7⟩:=hgo.2 p {tmps:=⟨cargs⟩++Array.replicate (fn.ntmps-cargs.length) undef,defers:=[]} w b cs [] hm hG hf
      (by
       rw[<-g4,<-hl];simp only[Array.toList_append,Array.toList_replicate];exact hv.append (VRs.replicate _ (by simp[VR]))) ⟨rfl,DOk.nil _ _ _,⟨fn,g1,g3⟩,rfl,rfl⟩
     rw[henter];exact⟨.returned cv,_,fr,⟨cv,p',rfl,f4,f5.clear f6 fun x hx=>(f7 x hx).resolve_left (by simp)⟩,f1,f2,f3⟩
    ·cases h
  |yl l=>
   simp only[q2w]at h;unfold q3g at h;split at h
   ·rename_i lp hl;split at h
    ·rename_i hlen;have hgo:lp.assign.ok E.P=true->lp.body.ok E.P=true->z4D E (.rd l) [.code lp.assign,.beginRound,.code lp.body] (z1A lp.params args lp.tmps) m r m':=fun o1 o2=>
      z0B hE ih (.rd l) n _ _ m r m' (by simp[AI.ok,o1,o2]) h
     have hnext:m.next<=m'.next:=j3V ih h
     refine⟨hnext,fun p w cargs hm hG hf hv ci hci=>?_⟩
     obtain⟨fn,vs,d,g1,g2,g3,g4⟩:=q5h hm hl hci;have hl2:=hv.length;refine⟨fn,((⟨lp.params⟩:Array Tmp).zip ⟨cargs⟩).foldl (fun tmps (t,a)=>tmps.setIfInBounds t a) ⟨vs⟩,lp.assign.erase,lp.body.erase,?_,fun c cs=>?_⟩
     ·simp only[Instr.yield,Instr.getLoop,Sem.run_bind,q1c g1 (by simp),Result.andThen_ok,Sem.run_pure];rw[if_neg (by simp;omega)];rfl
     ·have hb0:Frame.round ci.c fn (((⟨lp.params⟩:Array Tmp).zip ⟨cargs⟩).foldl (fun tmps (t,a)=>tmps.setIfInBounds t a) ⟨vs⟩) lp.assign.erase lp.body.erase .normal =
        ({(default:Frame) with fn:=fn,kind:=.normal,roundOf:=some ci.c}:Frame).atR {tmps:=((⟨lp.params⟩:Array Tmp).zip ⟨cargs⟩).foldl (fun tmps (t,a)=>tmps.setIfInBounds t a) ⟨vs⟩,defers:=[]} [.code lp.assign.erase,.beginRound,.code lp.body.erase]:=by
       simp[Frame.round,Frame.atR]
      have htm:(((⟨lp.params⟩:Array Tmp).zip ⟨cargs⟩).foldl (fun tmps (t,a)=>tmps.setIfInBounds t a) (⟨vs⟩:Array Value)).toList=(lp.params.zip cargs).foldl (fun t pa=>t.set pa.1 pa.2) vs:=by
       rw[<-Array.foldl_toList,Array.toList_zip];exact z4S _ _
      obtain⟨cv,p',w',c',cs',e1,e2,e3,e4⟩:=(hgo g3 g4).2 p {tmps:=((⟨lp.params⟩:Array Tmp).zip ⟨cargs⟩).foldl (fun tmps (t,a)=>tmps.setIfInBounds t a) ⟨vs⟩,defers:=[]} w {(default:Frame) with fn:=fn,kind:=.normal,roundOf:=some ci.c} (c::cs) [] hm hG hf
       (by rw[htm];exact z6q hv g2) ⟨⟨ci,hci,rfl⟩,rfl,c,cs,rfl⟩
      cases e1;refine⟨cv,p',w',e2,e3,?_⟩;rw[hb0];exact e4
    ·cases h
   ·cases h
theorem q2k (hE:q1i E):q1E E.P (run E):=by
 intro f args m r m' h;obtain⟨n,hn⟩:=j4M h;exact z5F hE n f args m r m' hn
end
end
section
open Go
def isCells (w:World) (b:Nat):Bool:=match w.heap[b]? with|some (.cells ..)=>true | _=>false
def absP (w:World):Value->AV
 | .bool b=>.bool b
 | .int k n=>.int k n
 | .string s=>.str s.data.toList
 | .pointer none=>.ptr none
 | .pointer (some a)=>if a.spot=none/\isCells w a.block=true then .ptr (some ⟨a.block,a.off⟩) else .undef
 | .slice none 0 0=>.sl none 0 0 0 true
 | .slice (some a) len cap=>if a.spot=none/\isCells w a.block=true/\len<=cap then .sl (some ⟨a.block,a.off⟩) 0 len cap true else .undef
 | .map none=>.map none
 | .nilFunc=>.nilFn
 | .nilIface=>.nilIface
 | _=>.undef
def z1p (w:World):Value->AV
 | .agg cs=>.agg (cs.toList.map (absP w))
 |v=>absP w v
def q4v (w:World) (b:Nat):Option Blk:=
 match w.heap[b]? with
 |some (.cells c _ _)=>some (.cells (c.toList.map (absP w)) true)
 | _=>none
noncomputable def a1n (w:World):Nat->PT
 | 0=>.leaf
 |n+1=>(a1n w n).set n (q4v w n)
noncomputable def q8k (w:World):Mem:=⟨w.heap.size,a1n w w.heap.size⟩
theorem z2w (w:World):∀n b,(a1n w n).get b=if b<n then q4v w b else none
 | 0,b=>by simp[a1n,PT.q83]
 |n+1,b=>by
  simp only[a1n,PT.q84,z2w w n b];by_cases h:b=n
  ·subst h;simp
  ·rw[if_neg h];by_cases h2:b<n
   ·rw[if_pos h2,if_pos (by omega)]
   ·rw[if_neg h2,if_neg (by omega)]
theorem q4e (w:World) (b:Nat):(q8k w).get b=q4v w b:=by
 simp only[Mem.q4L,q8k,z2w];by_cases h:b<w.heap.size
 ·simp[h]
 ·rw[if_neg h];simp[q4v,Array.getElem?_eq_none (Nat.le_of_not_lt h)]
def q2U (G:Nat) (w:World):Phi:=fun b=>
 match w.heap[b]? with
 |some (.cells c _ _)=>some ⟨b,0,c.size⟩
 | _=>if b<G then some ⟨b,0,0⟩ else none
theorem q5V {G:Nat} {w:World} {b:Nat} (h:isCells w b=true):∃n,q2U G w b=some ⟨b,0,n⟩:=by
 unfold isCells at h;unfold q2U;split at h
 ·exact⟨_,rfl⟩
 ·cases h
theorem q4O {G:Nat} {w:World} {b:Nat} {ci:CI} (h:q2U G w b=some ci):ci.c=b/\ci.d=0/\(b<w.heap.size\/b<G):=by
 unfold q2U at h;split at h
 ·rename_i e;cases h;exact⟨rfl,rfl,.inl (Array.getElem?_eq_some_iff.1 e).1⟩
 ·split at h
  ·cases h;exact⟨rfl,rfl,.inr ‹_›⟩
  ·cases h
theorem z1s {G:Nat} {w:World} (v:Value):VR (q2U G w) (absP w v) v:=by
 cases v with
 |string s=>simp only[absP,VR]
 |pointer a=>
  cases a with
  |none=>simp[absP,VR]
  |some a=>
   simp only[absP];split
   ·rename_i h;obtain⟨n,hn⟩:=q5V (G:=G) h.2;simp only[VR];refine⟨_,hn,?_⟩;cases a with
    |mk b o s=>simp only at h;rw[h.1];simp
   ·simp[VR]
 |slice a len cap=>
  cases a with
  |none=>cases len<;>cases cap<;>simp[absP,VR]
  |some a=>
   simp only[absP];split
   ·rename_i h;obtain⟨n,hn⟩:=q5V (G:=G) h.2.1;simp only[VR,SR];refine⟨_,a.off,cap,hn,?_,h.2.2,xnr _,fun _=>rfl,by simp,fun _=>by simp⟩
    cases a with
    |mk b o s=>simp only at h;rw[h.1]
   ·simp[VR]
 |map a=>cases a<;>simp[absP,VR]
 | _=>simp[absP,VR]
theorem j6J {w:World} {v:Value} (h:∀cs,v≠.agg cs):z1p w v=absP w v:=by cases v<;>first|rfl|exact absurd rfl (h _)
theorem j6I {G:Nat} {w:World} (v:Value):VR (q2U G w) (z1p w v) v:=by
 cases v with
 |agg cs=>
  simp only[z1p,VR];refine⟨cs.toList,rfl,VRs.q71 (by simp) fun i a hi=>?_⟩
  simp only[List.getElem?_map,xoe]at hi;obtain⟨v,h1,rfl⟩:=hi;exact⟨v,h1,z1s v⟩
 | _=>rw[j6J (by simp)];exact z1s _
theorem q9O {G:Nat} {w:World}:∀vs:List Value,VRs (q2U G w) (vs.map (z1p w)) vs
 |[]=>by simp[VRs]
 |v::vs=>by simp only[List.map_cons,VRs];exact⟨v,vs,rfl,j6I v,q9O vs⟩
theorem j6H {P:Program} {w:World} (hG:P.globals.size<=w.heap.size):MR P (q2U P.globals.size w) (q8k w) w where
 has:=fun b v ci h1 h2=>by
  rw[q4e]at h1;unfold q4v at h1;unfold q2U at h2;split at h1
  ·rename_i c el fr e;rw[e]at h2;cases h1;cases h2;refine⟨_,e,c,el,fr,rfl,rfl,(fun h=>by cases h),fun i a hi=>?_⟩
   simp only[List.getElem?_map,xoe]at hi;obtain⟨v,h3,rfl⟩:=hi;exact⟨v,by simpa using h3,z1s v⟩
  ·cases h1
 inj:=fun b ci b2 ci2 _ h2 h3 h4=>by
  left;rw[<-(q4O h2).1,<-(q4O h3).1,h4]
 bnd:=fun b ci h=>by
  obtain⟨h1,_,h3⟩:=q4O h;rw[h1];omega
 q2O:=fun g hg=>by
  unfold q2U;split
  ·exact⟨_,rfl⟩
  ·rw[if_pos hg];exact⟨_,rfl⟩
def noM (G:Nat):Mem:=⟨G,.leaf⟩
def z9X (G:Nat):Phi:=fun b=>if b<G then some ⟨b,0,0⟩ else none
theorem z19 (G b:Nat):(noM G).get b=none:=by simp[noM,Mem.q4L,PT.q83]
theorem a7e {P:Program} {w:World} (hG:P.globals.size<=w.heap.size):MR P (z9X P.globals.size) (noM P.globals.size) w where
 has:=fun b v ci h1=>by rw[z19]at h1;cases h1
 inj:=fun b ci b2 ci2 h1=>by rw[z19]at h1;cases h1
 bnd:=fun b ci h=>by
  unfold z9X at h;split at h
  ·cases h;simp only;omega
  ·cases h
 q2O:=fun g hg=>⟨0,by simp[z9X,hg]⟩
section
variable {E:Env}
theorem q4g {f : FuncId} {args : List AV} {m : Mem} {r : AV} {m' : Mem} (h : z6b E.P (.fn f) args m r m') {fn : Func} (hfn : E.P.funcs[f]? = some fn) (hb : fn.body.isSome = true) (hn : fn.name ≠ "runtime.NumGoroutine")
  {p:Phi} {w:World} {cargs:List Value} (hm:MR E.P p m w) (hG:GP E.P<=m.next) (hf:q5x p m.next m'.next) (hv:VRs p args cargs) :
  Calls E.P f ⟨cargs⟩ w fun e w'=>∃cv p',e=.returned cv/\VR p' r cv/\Sim E.P p m w p' m' w':=by
 rcases h.2 p w cargs hm hG hf hv with ⟨_,_,_,_,h4⟩|⟨cv,w',p',h1,_⟩
 ·exact h4
 ·exfalso;have hb2:fn.body.isNone=false:=by cases hbb:fn.body<;>simp[hbb]at hb⊢
  have hn2 : (fn.name == "runtime.NumGoroutine") = false := by simpa using hn
  simp only[callFunc,Sem.run_bind,run_program,Result.andThen_ok,hfn,hn2,hb2,xbq,if_false,Sem.run_pure]at h1;cases h1
theorem z9F (hE : q1i E) {f : FuncId} {fn : Func} (hfn : E.P.funcs[f]? = some fn) (hb : fn.body.isSome = true) (hn : fn.name ≠ "runtime.NumGoroutine") {W : World} (hG : GP E.P ≤ W.heap.size) {args : List Value} {b : Bool} {m' : Mem}
  (h:run E (.fn f) (args.map (z1p W)) (q8k W)=some (.bool b,m')):Calls E.P f ⟨args⟩ W fun e W'=>e=.returned (.bool b)/\RowKit.Below W.heap.size W W':=by
 have hfree:q5x (q2U (GP E.P) W) (q8k W).next m'.next:=by
  intro x h1 h2;simp only[q8k]at h1;cases e:q2U (GP E.P) W x with
  |none=>rfl
  |some ci=>have:=(q4O e).2.2;omega
 refine(q4g (q2k hE (.fn f) _ _ _ _ h) hfn hb hn (j6H hG) (by simpa[q8k]using hG) hfree (q9O args)).mono ?_;rintro e W' ⟨cv,p',rfl,h1,h2⟩
 simp only[VR]at h1;subst h1;refine⟨rfl,h2.os,h2.tape,h2.output,h2.size,fun k hk=>?_⟩
 cases hc:isCells W k with
 |true=>
  unfold isCells at hc;split at hc
  ·rename_i c el fr e;have h3:(q8k W).get k=some (.cells (c.toList.map (absP W)) true):=by rw[q4e,q4v,e]
   have h4:q2U (GP E.P) W k=some ⟨k,0,c.size⟩:=by unfold q2U;rw[e]
   exact(h2.ro k _ _ h3 h4).2
  ·cases hc
 |false=>
  refine h2.q28 k hk fun b ci h3 h4 h5=>?_
  have h6:=(q4O h4).1;have:b=k:=by omega
  subst this;rw[q4e]at h3;unfold q4v at h3;unfold isCells at hc;split at h3
  ·rename_i e;rw[e]at hc;cases hc
  ·cases h3
end
theorem z2n {P:Program} {W:World} (h:W.ShapedOpen P) (h0:P.globals.size<(begin P (fun _ _=>0) default).world.heap.size):GP P<=W.heap.size:=by
 obtain⟨o,_,h1,_⟩:=h.2 P.globals.size (xnr _) h0;exact Nat.le_of_lt (Array.getElem?_eq_some_iff.1 h1).1
end
section
open Go
inductive Hint where
 |z
 |two (a b:Hint)
 |one (a:Hint)
 |pt (live:List Bool) (h:Hint)
 |reg (chk anc:List (List Nat))
def Hint.mark:Hint->Option (List Bool)
 | .pt l _=>some l
 | _=>none
def Hint.rest:Hint->Hint
 | .pt _ h=>h
 |h=>h
def Hint.fst:Hint->Hint
 | .two a _=>a
 | .one a=>a
 | _=>.z
def Hint.snd:Hint->Hint
 | .two _ b=>b
 | _=>.z
def Hint.chk:Hint->List (List Nat)
 | .reg c _=>c
 | _=>[]
def Hint.anc:Hint->List (List Nat)
 | .reg _ a=>a
 | _=>[]
def q3O (l:Option (List Bool)) (c:AC):AC:=
 match l with
 |some l=>.pt l c
 |none=>c
def q3n:Code->Hint->AC
 | .skip,h=>q3O h.mark .skip
 | .region id ops draw,h=>q3O h.mark (.region id ops.toList draw h.rest.chk h.rest.anc)
 | .seq a b,h=>q3O h.mark (.seq (q3n a h.rest.fst) (q3n b h.rest.snd))
 | .cond c x y,h=>q3O h.mark (.cond c (q3n x h.rest.fst) (q3n y h.rest.snd))
 | .block id b,h=>q3O h.mark (.block id (q3n b h.rest.fst))
 | .loop b,h=>q3O h.mark (.loop (q3n b h.rest.fst))
 | .rangeFunc f ps a b,h=>q3O h.mark (.rangeFunc f ps.toList (q3n a h.rest.fst) (q3n b h.rest.snd))
 | .scope b,h=>q3O h.mark (.scope (q3n b h.rest.fst))
 | .exit id,h=>q3O h.mark (.exit id)
 | .ret,h=>q3O h.mark .ret
 |c,h=>q3O h.mark (.other c)
theorem q0U (l:Option (List Bool)) (c:AC):(q3O l c).erase=c.erase:=by cases l<;>rfl
theorem q1e:∀(c:Code) (h:Hint),(q3n c h).erase=c
 | .skip,h=>q0U _ _
 | .region id ops draw,h=>by simp only[q3n,q0U,AC.erase]
 | .seq a b,h=>by simp only[q3n,q0U,AC.erase,q1e a,q1e b]
 | .cond c x y,h=>by simp only[q3n,q0U,AC.erase,q1e x,q1e y]
 | .block id b,h=>by simp only[q3n,q0U,AC.erase,q1e b]
 | .loop b,h=>by simp only[q3n,q0U,AC.erase,q1e b]
 | .exit id,h=>q0U _ _
 | .ret,h=>q0U _ _
 | .rangeFunc f ps a b,h=>by simp only[q3n,q0U,AC.erase,q1e a,q1e b]
 | .scope b,h=>by simp only[q3n,q0U,AC.erase,q1e b]
 | .label _,h=>q0U _ _
 | .goto _,h=>q0U _ _
 | .refuse _,h=>q0U _ _
def z6r (P:Program) (hints:FuncId->Option Hint) (f:FuncId):Option (List ResultVar×Nat×AC):=
 match hints f with
 |none=>none
 |some h=>match P.funcs[f]? with
  |some fn=>match fn.body with
   |some c=>some (fn.results.toList,fn.ntmps,q3n c h)
   |none=>none
  |none=>none
def z7k (P:Program) (hints:FuncId->Option Hint) (f:FuncId):Bool:=
 match hints f with
 |none=>true
 |some h=>match P.funcs[f]? with
  | some fn => decide (fn.name ≠ "runtime.NumGoroutine") && match fn.body with
   |some c=>(q3n c h).ok P
   |none=>true
  |none=>true
def z4R (P:Program) (hints:FuncId->Option Hint) (H:FuncId->Option (List AV->Mem->R)):Env:=⟨P,z6r P hints,H⟩
theorem q8B {P:Program} {hints:FuncId->Option Hint} {H:FuncId->Option (List AV->Mem->R)} (hm:P.follows .mixedOrders=true) (n:Nat) (hn:∀f,n<=f->hints f=none)
  (hl:∀f,f<n->z7k P hints f=true) (hH:∀f h,H f=some h->∀args m r m',h args m=some (r,m')->z6b P (.fn f) args m r m'):q1i (z4R P hints H) where
 mixed:=hm
 hook:=hH
 body:=fun f rs nt c h=>by
  have hlt:f<n:=by
   rcases Nat.lt_or_ge f n with h1|h1
   ·exact h1
   ·simp[z4R,z6r,hn f h1]at h
  have hlook:=hl f hlt;simp only[z4R,z6r]at h⊢;unfold z7k at hlook;split at h
  ·cases h
  ·rename_i hh e;simp only[e]at hlook;split at h
   ·rename_i fn e2;simp only[e2,Bool.and_eq_true,decide_eq_true_eq]at hlook;split at h
    ·rename_i cc e3;cases h;simp only[e3]at hlook;exact⟨fn,e2,by rw[q1e];exact e3,rfl,rfl,hlook.1,hlook.2⟩
    ·cases h
   ·cases h
end
end Go.Abs
