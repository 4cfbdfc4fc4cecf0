/- Texts of one claim, put together. -/
import Derived.Test.YtkbhcgifnnhbaaaGreatDoorK6
import Derived.Carry
import Derived.HandedShaped
namespace Go.Abs
open Go
section
def AI.erase:AI->Item
 | .code c=>.code c.erase
 | .inBlock id=>.inBlock id
 | .inLoop c=>.inLoop c.erase
 | .inScope c=>.inScope c.erase
 | .beginRound=>.beginRound
def AI.ok (P:Program):AI->Bool
 | .code c=>c.ok P
 | .inBlock _=>true
 | .inLoop c=>c.ok P
 | .inScope _=>true
 | .beginRound=>true
structure q07 (E:Env):Prop where
 mixed:E.P.follows .mixedOrders=true
 body : ∀ f, E.H f = none → ∀ rs nt c, E.B f = some (rs, nt, c) → ∃ fn, E.P.funcs[f]? = some fn ∧ fn.body = some c.erase ∧ fn.results.toList = rs ∧ fn.ntmps = nt ∧ fn.name ≠ "runtime.NumGoroutine" ∧ c.ok E.P = true
 hook:∀f h,E.H f=some h->∀args m r m',h args m=some (r,m')->z2O E.P (.fn f) args m r m'
section
variable {P:Program}
theorem q55 {id:Nat}:∀{k k':List AI},q4g id k=some k'->exitTo id (k.map AI.erase)=some (k'.map AI.erase)
 |[],_,h=>by simp[q4g]at h
 | .inBlock id'::k,k',h=>by
  simp only[q4g]at h;simp only[xBf,AI.erase,exitTo];split at h
  ·rename_i e;cases h;simp[e]
  ·rename_i e;have:(id'==id)=false:=by simpa using e
   simp only[this,xbq,xAh];exact q55 h
 | .code _::k,k',h | .inLoop _::k,k',h | .inScope _::k,k',h | .beginRound::k,k',h=>by
  simp only[q4g]at h;simp only[xBf,AI.erase,exitTo];exact q55 h
theorem q7k {id:Nat}:∀{k:List AI},q4g id k=none->exitTo id (k.map AI.erase)=none
 |[],_=>rfl
 | .inBlock id'::k,h=>by
  simp only[q4g]at h;simp only[xBf,AI.erase,exitTo];split at h
  ·cases h
  ·rename_i e;have:(id'==id)=false:=by simpa using e
   simp only[this,xbq,xAh];exact q7k h
 | .code _::k,h | .inLoop _::k,h | .inScope _::k,h | .beginRound::k,h=>by
  simp only[q4g]at h;simp only[xBf,AI.erase,exitTo];exact q7k h
theorem z1g {id:Nat}:∀{k k':List AI},q4g id k=some k'->(∀x∈k,x.ok P=true)->∀x∈k',x.ok P=true
 |[],_,h,_=>by simp[q4g]at h
 | .inBlock id'::k,k',h,hk=>by
  simp only[q4g]at h;split at h
  ·cases h;exact fun x hx=>hk x (by simp[hx])
  ·exact z1g h fun x hx=>hk x (by simp[hx])
 | .code _::k,k',h,hk | .inLoop _::k,k',h,hk | .inScope _::k,k',h,hk | .beginRound::k,k',h,hk=>by
  simp only[q4g]at h;exact z1g h fun x hx=>hk x (by simp[hx])
theorem q8m {p:Phi}:∀{live:List Bool} {t:List AV} {vs:List Value},VRs p t vs->VRs p (mask live t) vs
 |live,[],vs,h=>by cases live<;>(try rename_i b _;cases b)<;>simpa[mask]using h
 |[],a::as,vs,h=>by
  simp only[VRs]at h;obtain⟨v,vs,rfl,h1,h2⟩:=h;simp only[mask,VRs];exact⟨v,vs,rfl,by simp[VR],q8m h2⟩
 |true::bs,a::as,vs,h=>by
  simp only[VRs]at h;obtain⟨v,vs,rfl,h1,h2⟩:=h;simp only[mask,VRs];exact⟨v,vs,rfl,h1,q8m h2⟩
 |false::bs,a::as,vs,h=>by
  simp only[VRs]at h;obtain⟨v,vs,rfl,h1,h2⟩:=h;simp only[mask,VRs];exact⟨v,vs,rfl,by simp[VR],q8m h2⟩
def z92 (tmps:Array Value):ResultVar->Sem Value
 | .tmp t=>pure (tmps.getD t undef)
 | .cell a t=>do loadVar t (<-asAddr (tmps.getD a undef))
theorem j1n (fn:Func) (tmps:Array Value):results fn tmps=(do
  let vs<-fn.results.mapM (z92 tmps)
  pure (if h:vs.size=1 then vs[0] else .tuple vs)):=rfl
theorem a6Q {p:Phi} {t:List AV} {tmps:Array Value} (ht:VRs p t tmps.toList) (i:Nat):VR p (t.getD i .undef) (tmps.getD i undef):=by
 cases e:t[i]? with
 |none=>rw[xAe,e];simp[VR]
 |some b=>
  obtain⟨v,h1,h2⟩:=ht.get e;rw[xAe,e];have:tmps.getD i undef=v:=by rw[xAx,<-xCj,h1];rfl
  rw[this];exact h2
theorem q7C {p:Phi} {m:Mem} {w:World} (hm:MR P p m w) {t:List AV} {tmps:Array Value} (ht:VRs p t tmps.toList):∀{rs:List ResultVar} {vs:List AV},q0P P rs t m=some vs->
  ∃vs',(rs.mapM (z92 tmps)).run P w=.ok vs' w/\VRs p vs vs'
 |[],vs,h=>by simp only[q0P,xoi]at h;subst h;exact⟨[],by simp[List.mapM_nil],by simp[VRs]⟩
 | .tmp i::rs,vs,h=>by
  simp only[q0P,q3M]at h;split at h
  ·rename_i vs1 h1;cases h;obtain⟨vs',h2,h3⟩:=q7C hm ht h1;refine⟨tmps.getD i undef::vs',?_,?_⟩
   ·simp only[List.mapM_cons,z92,Sem.run_bind,Sem.run_pure,Result.andThen_ok,h2]
   ·simp only[VRs];exact⟨_,_,rfl,a6Q ht i,h3⟩
  ·cases h
 | .cell a ty::rs,vs,h=>by
  simp only[q0P,q3M]at h;split at h
  ·rename_i v vs1 h0 h1;cases h;obtain⟨vs',h2,h3⟩:=q7C hm ht h1;obtain⟨cv,h4,h5⟩:=q9r hm (a6Q ht a) h0;have h6:(do loadVar ty (<-asAddr (tmps.getD a undef)):Sem Value).run P w=.ok cv w:=by
    simp only[Instr.loadAt,Sem.run_bind]at h4⊢;cases e:tmps.getD a undef with
    |pointer x=>
     rw[e]at h4;cases x with
     |none=>simp[Instr.sureAddr]at h4
     |some x=>simpa[Instr.sureAddr,asAddr]using h4
    | _=>rw[e]at h4;simp[Instr.sureAddr]at h4
   refine⟨cv::vs',?_,?_⟩
   ·simp only[List.mapM_cons,z92,Sem.run_bind,Sem.run_pure];rw[Sem.run_bind]at h6;rw[h6];simp only[Result.andThen_ok,h2]
   ·simp only[VRs];exact⟨_,_,rfl,h5,h3⟩
  ·cases h
theorem z2u {p:Phi} {m:Mem} {w:World} (hm:MR P p m w) {fn:Func} {t:List AV} {tmps:Array Value} (ht:VRs p t tmps.toList) {vs:List AV} (h:q0P P fn.results.toList t m=some vs) :
  ∃cv,(results fn tmps).run P w=.ok cv w/\VR p (q0T vs) cv:=by
 obtain⟨vs',h1,h2⟩:=q7C hm ht h;have hl:=h2.length;rw[j1n,Array.mapM_eq_mapM_toList];simp only[Sem.run_bind,Sem.run_map,h1,Result.andThen_ok,Sem.run_pure];refine⟨_,rfl,?_⟩;cases vs with
 |nil=>simp[q0T,VR]
 |cons a as=>
  cases as with
  |nil=>
   simp only[VRs]at h2;obtain⟨v,vs2,rfl,h3,rfl⟩:=h2;simpa[q0T]using h3
  |cons b bs=>
   have hne:¬(vs'.toArray.size=1):=by simp at hl⊢;omega
   rw[dif_neg hne];simp only[q0T,VR];exact⟨vs',rfl,h2⟩
def Marks (D:List Nat):List Deferred:=D.map fun r=>{target:=.collected r,args:=#[]}
def q30:World->List Nat->World
 |w,[]=>w
 |w,r::D=>q30 {w with heap:=w.heap.setIfInBounds r (.deferred none)} D
theorem q4v:∀(D:List Nat) (w:World),(q30 w D).heap.size=w.heap.size/\(∀c,c∉D->(q30 w D).heap[c]? = w.heap[c]?)/\(q30 w D).os=w.os/\(q30 w D).output=w.output/\(q30 w D).tape=w.tape
 |[],w=>⟨rfl,fun _ _=>rfl,rfl,rfl,rfl⟩
 |r::D,w=>by
  obtain⟨h1,h2,h3,h4,h5⟩:=q4v D {w with heap:=w.heap.setIfInBounds r (.deferred none)}
  refine⟨by simp only[q30];rw[h1];simp,fun c hc=>?_,h3,h4,h5⟩
  simp only[xmk0,not_or]at hc;simp only[q30];rw[h2 c hc.2];exact xBn (Ne.symm hc.1)
structure DOk (D:List Nat) (p:Phi) (m:Mem) (w:World):Prop where
 nd:D.Nodup
 obj:∀r∈D,w.heap[r]? = some (.deferred (some []))
 apart:∀r∈D,∀b ci,(m.get b).isSome=true->p b=some ci->ci.c≠r
theorem DOk.nil (p:Phi) (m:Mem) (w:World):DOk [] p m w:=⟨.nil,by simp,by simp⟩
theorem DOk.lt {D:List Nat} {p:Phi} {m:Mem} {w:World} (h:DOk D p m w) {r:Nat} (hr:r∈D):r<w.heap.size:=(xBb.1 (h.obj r hr)).1
theorem DOk.step {D:List Nat} {p p':Phi} {m m':Mem} {w w':World} (h:DOk D p m w) (s:Sim P p m w p' m' w'):DOk D p' m' w' where
 nd:=h.nd
 obj:=fun r hr=>by rw[s.q3d r (h.lt hr) fun b ci h1 h2=>h.apart r hr b ci h1 h2];exact h.obj r hr
 apart:=fun r hr b ci h1 h2=>by
  by_cases hb:b<m.next
  ·have e:p' b=p b:=s.out b (by omega);refine h.apart r hr b ci ?_ (e▸h2);cases hm:m.get b with
   |some _=>rfl
   |none=>rw[s.dead b hb hm]at h1;cases h1
  ·have hb':b<m'.next:=by
    cases e:m'.get b with
    |none=>rw[e]at h1;cases h1
    |some _=>exact Mem.q0u e
   rcases s.fresh b ci (by omega) hb' h2 with e|⟨b0,ci0,g1,g2,g3⟩
   ·have:=h.lt hr;omega
   ·rw[<-g3];exact h.apart r hr b0 ci0 g1 g2
theorem MR.clear {D:List Nat} {p:Phi} {m:Mem} {w:World} (h:MR P p m w) (hd:DOk D p m w):MR P p m (q30 w D) where
 has:=fun b v ci h1 h2=>by
  obtain⟨o,h3,h4⟩:=h.has b v ci h1 h2;exact⟨o,by rw[(q4v D w).2.1 _ fun hc=>hd.apart _ hc b ci (by rw[h1];rfl) h2 rfl];exact h3,h4⟩
 inj:=h.inj
 bnd:=fun b ci h1=>by rw[(q4v D w).1];exact h.bnd b ci h1
 q23:=h.q23
theorem Sim.clear {D:List Nat} {p p':Phi} {m m':Mem} {w w':World} (s:Sim P p m w p' m' w') (hd:DOk D p' m' w') (hlo:∀r∈D,w.heap.size<=r):Sim P p m w p' m' (q30 w' D):=by
 obtain⟨c1,c2,c3,c4,c5⟩:=q4v D w';refine⟨s.le,s.out,s.next,s.rel.clear hd,s.q4d,s.dead,fun c h1 h2=>?_,s.fresh,fun b cs ci h1 h2=>?_,by rw[c1];exact s.size,c3.trans s.os,c4.trans s.output,c5.trans s.tape⟩
 ·rw[c2 c fun hc=>by have:=hlo c hc;omega];exact s.q3d c h1 h2
 ·obtain⟨h3,h4⟩:=s.ro b cs ci h1 h2;refine⟨h3,?_⟩;rw[c2 _ fun hc=>hd.apart _ hc b ci (by rw[h3];rfl) (s.le _ _ h2) rfl];exact h4
theorem q7W:∀(D:List Nat) (fr:Frame) (cs:List Frame) (w:World),fr.mode=.returning->fr.defers=Marks D->D.Nodup->(∀r∈D,w.heap[r]? = some (.deferred (some [])))->Steps P (lone fr cs w) (lone {fr with defers:=[]} cs (q30 w D))
 |[],fr,cs,w,_,hd,_,_=>by
  have:fr={fr with defers:=[]}:=by cases fr;simp only[Marks,xFw]at hd;subst hd;rfl
  rw[<-this];exact .refl _ _
 |r::D,fr,cs,w,hm,hd,hn,ho=>by
  have h0:=ho r (by simp);have ht:(Instr.takeDeferred r).run P w=.ok [] {w with heap:=w.heap.setIfInBounds r (.deferred none)}:=by
   simp only[Instr.takeDeferred,Sem.run_bind,q0Y h0 (by simp),Result.andThen_ok];rw[q1X h0 (by simp)];rfl
  have h1:step P (lone fr cs w)=.next (lone {fr with defers:=Marks D} cs {w with heap:=w.heap.setIfInBounds r (.deferred none)}):=by
   refine step_lone_go ?_;simp only[Marks,xBf]at hd;simp[stepG,unwind,hm,hd,Sem.runT_eq,ht,GStep.bare_after,Marks]
  have h2:=q7W D {fr with defers:=Marks D} cs {w with heap:=w.heap.setIfInBounds r (.deferred none)} hm rfl (List.nodup_cons.1 hn).2 (fun x hx=>by
   have:x≠r:=by rintro rfl;exact(List.nodup_cons.1 hn).1 hx
   rw[show ({w with heap:=w.heap.setIfInBounds r (.deferred none)}:World).heap=w.heap.setIfInBounds r (.deferred none) from rfl,xBn (Ne.symm this)]
   exact ho x (by simp[hx]))
  exact .head h1 h2
section steps
variable {b:Frame} {a:Act} {k:List Item} {cs:List Frame} {w:World}
theorem z7E {c:Code}:step P (lone (b.atR a (.code (.scope c)::k)) cs w)=.next (lone (b.atR a (.code c::.inScope c::k)) cs w):=
 step_lone_go (by simp[stepG,stepG.exec,Frame.atR])
theorem z2A {c:Code}:step P (lone (b.atR a (.inScope c::k)) cs w)=.next (lone (b.atR a k) cs w):=
 step_lone_go (by simp[stepG,stepG.exec,Frame.atR])
theorem q5l {g:Operand} {ps:Array Tmp} {assign body:Code} {l:Nat} {mark:List Deferred} {w₁ w₁' w₂:World} {d:Deferred} {v:Value}
  (he:(Instr.enterLoop b.fn a.tmps ps assign body b.roundOf).run P w=.ok (l,mark) w₁)
  (hres:(resolve a.eval (rangeCall g l) 0).run P w₁=.ok d w₁') (hinv:(invoke d.target d.args).run P w₁'=.ok (.value v) w₂) :
  step P (lone (b.atR a (.code (.rangeFunc g ps assign body)::k)) cs w) =
   .next (lone (b.atR {a with defers:=mark++a.defers} (.endRangeFunc l::k)) cs w₂):=
 step_lone_go (by
  have hev:=Frame.eval_atR b {a with defers:=mark++a.defers} (.inRangeFunc l::k)
  simp only[Frame.atR]at hev;have hres':Sem.run P (resolve ({tmps:=a.tmps,defers:=mark++a.defers}:Act).eval {callee:=.value g,args:=#[.const (.func (.yield l) #[] #[])],argTypes:=#[]} 0) w₁=.ok d w₁':=hres;simp[stepG,stepG.exec,Frame.atR,Sem.runT_eq,he,GStep.bare_after,stepG.apply,hev,Sem.run_bind,hres',hinv,Result.andThen,Frame.finish])
end steps
end
section
variable {E:Env}
def Fin (P:Program) (md:Md) (fb:Frame) (cs:List Frame) (D:List Nat) (p:Phi) (m:Mem) (w:World) (r:AV) (m':Mem) (M:Machine):Prop:=
 match md with
 | .fn _=>∃cv p' w1 D' fr,Steps P M (lone fr cs (q30 w1 D'))/\fr.fn=fb.fn/\(fr.kind=fb.kind/\fr.mode=.returning/\fr.defers=[]/\∃fn,P.funcs[fr.fn]? = some fn/\(results fn fr.tmps).run P (q30 w1 D')=.ok cv (q30 w1 D'))/\VR p' r cv/\Sim P p m w p' m' w1/\DOk D' p' m' w1/\∀x∈D',x∈D\/w.heap.size<=x
 | .rd _=>∃cv p' w' c cs',cs=c::cs'/\VR p' r cv/\Sim P p m w p' m' w'/\Steps P M (lone (c.finish cv) cs' w')
 | .df=>∃ts p' w1 fr,r=.tup ts/\Steps P M (lone fr cs w1)/\fr.fn=fb.fn/\fr.mode=.returning/\fr.defers=fb.defers/\fr.kind=fb.kind/\VRs p' ts fr.tmps.toList/\Sim P p m w p' m' w1
def Pre (P:Program) (md:Md) (fb:Frame) (cs:List Frame) (a:Act) (D:List Nat) (p:Phi) (m:Mem) (w:World):Prop:=
 match md with
 | .fn rs=>a.defers=Marks D/\DOk D p m w/\(∃fn,P.funcs[fb.fn]? = some fn/\fn.results.toList=rs)/\fb.roundOf=none
 | .rd l=>(∃ci,p l=some ci/\fb.roundOf=some ci.c)/\fb.kind=.normal/\∃c cs',cs=c::cs'
 | .df=>a.defers=fb.defers/\fb.roundOf=none
theorem Fin.steps {P:Program} {md:Md} {fb:Frame} {cs:List Frame} {D:List Nat} {p:Phi} {m:Mem} {w:World} {r:AV} {m':Mem} {M M1:Machine} (h:Steps P M M1) (h':Fin P md fb cs D p m w r m' M1):Fin P md fb cs D p m w r m' M:=by
 cases md with
 |fn rs=>obtain⟨cv,p',w1,D',fr,h1,h2⟩:=h';exact⟨cv,p',w1,D',fr,Steps.trans h h1,h2⟩
 |rd l=>obtain⟨cv,p',w',c,cs',h1,h2,h3,h4⟩:=h';exact⟨cv,p',w',c,cs',h1,h2,h3,Steps.trans h h4⟩
 |df=>obtain⟨ts,p',w1,fr,h1,h2,h3⟩:=h';exact⟨ts,p',w1,fr,h1,Steps.trans h h2,h3⟩
theorem Fin.sim {P:Program} {md:Md} {fb:Frame} {cs:List Frame} {D D1:List Nat} {p p1:Phi} {m m1:Mem} {w w1:World} {r:AV} {m':Mem} {M:Machine} (s:Sim P p m w p1 m1 w1) (hf:q7g p m.next m'.next) (hD:∀x∈D1,x∈D\/w.heap.size<=x)
  (h:Fin P md fb cs D1 p1 m1 w1 r m' M):Fin P md fb cs D p m w r m' M:=by
 cases md with
 |fn rs=>
  obtain⟨cv,p',w2,D',fr,h1,h2,h3,h4,h5,h6,h7⟩:=h;refine⟨cv,p',w2,D',fr,h1,h2,h3,h4,s.trans h5 hf,h6,fun x hx=>?_⟩
  rcases h7 x hx with h|h
  ·exact hD x h
  ·exact .inr (xnt0 s.size h)
 |rd l=>obtain⟨cv,p',w',c,cs',h1,h2,h3,h4⟩:=h;exact⟨cv,p',w',c,cs',h1,h2,s.trans h3 hf,h4⟩
 |df=>obtain⟨ts,p',w1,fr,h1,h2,h3,h4,h5,h6,h7,h8⟩:=h;exact⟨ts,p',w1,fr,h1,h2,h3,h4,h5,h6,h7,s.trans h8 hf⟩
theorem Sim.drop {P:Program} {p p':Phi} {m m1 m2:Mem} {w w':World} (s:Sim P p m w p' m1 w') (h:Drop m.next m1 m2):Sim P p m w p' m2 w' where
 le:=s.le
 out:=fun b hb=>s.out b (by rw[<-h.1];exact hb)
 next:=by rw[h.1];exact s.next
 rel:={
  has:=fun b v ci h1 h2=>s.rel.has b v ci (by rcases h.2.2 b with e|e<;>rw[e]at h1<;>first|exact h1|cases h1) h2
  inj:=fun b ci b2 ci2 h1 h2 h3 h4=>by
   rcases s.rel.inj b ci b2 ci2 (by rcases h.2.2 b with e|e<;>rw[e]at h1<;>first|exact h1|cases h1) h2 h3 h4 with e|⟨e1,e2⟩
   ·exact .inl e
   ·refine .inr ⟨by rw[h.1];exact e1,?_⟩;rcases h.2.2 b2 with e|e
    ·rw[e];exact e2
    ·exact e
  bnd:=s.rel.bnd
  q23:=s.rel.q23}
 q4d:=fun b h1 h2=>by rw[h.2.1 b h1];exact s.q4d b h1 h2
 dead:=fun b h1 h2=>by rw[h.2.1 b h1];exact s.dead b h1 h2
 q3d:=s.q3d
 fresh:=fun b ci h1 h2 h3=>s.fresh b ci h1 (by rw[<-h.1];exact h2) h3
 ro:=fun b cs ci h1 h2=>by
  obtain⟨h3,h4⟩:=s.ro b cs ci h1 h2;exact⟨by rw[h.2.1 b (Mem.q0u h1)];exact h3,h4⟩
 size:=s.size
 os:=s.os
 output:=s.output
 tape:=s.tape
theorem DOk.drop {D:List Nat} {p:Phi} {N:Nat} {m m2:Mem} {w:World} (h:DOk D p m w) (hd:Drop N m m2):DOk D p m2 w where
 nd:=h.nd
 obj:=h.obj
 apart:=fun r hr b ci h1 h2=>h.apart r hr b ci (by rcases hd.2.2 b with e|e<;>rw[e]at h1<;>first|exact h1|cases h1) h2
theorem Fin.drop {P:Program} {md:Md} {fb:Frame} {cs:List Frame} {D:List Nat} {p:Phi} {m:Mem} {w:World} {r:AV} {m1 m2:Mem} {M:Machine} (h:Fin P md fb cs D p m w r m1 M) (hd:Drop m.next m1 m2):Fin P md fb cs D p m w r m2 M:=by
 cases md with
 |fn rs=>obtain⟨cv,p',w1,D',fr,h1,h2,h3,h4,h5,h6,h7⟩:=h;exact⟨cv,p',w1,D',fr,h1,h2,h3,h4,h5.drop hd,h6.drop hd,h7⟩
 |rd l=>obtain⟨cv,p',w',c,cs',h1,h2,h3,h4⟩:=h;exact⟨cv,p',w',c,cs',h1,h2,h3.drop hd,h4⟩
 |df=>obtain⟨ts,p',w1,fr,h1,h2,h3,h4,h5,h6,h7,h8⟩:=h;exact⟨ts,p',w1,fr,h1,h2,h3,h4,h5,h6,h7,h8.drop hd⟩
theorem Pre.sim {P:Program} {md:Md} {fb:Frame} {cs:List Frame} {a a1:Act} {D:List Nat} {p p1:Phi} {m m1:Mem} {w w1:World} (h:Pre P md fb cs a D p m w) (s:Sim P p m w p1 m1 w1) (hd:a1.defers=a.defers):Pre P md fb cs a1 D p1 m1 w1:=by
 cases md with
 |fn rs=>obtain⟨h1,h2,h3⟩:=h;exact⟨hd.trans h1,h2.step s,h3⟩
 |rd l=>obtain⟨⟨ci,h1,h2⟩,h3⟩:=h;exact⟨⟨ci,s.le _ _ h1,h2⟩,h3⟩
 |df=>obtain⟨h1,h2⟩:=h;exact⟨hd.trans h1,h2⟩
def j0A (E:Env) (md:Md) (k:List AI) (t:List AV) (m:Mem) (r:AV) (m':Mem):Prop:=
 m.next<=m'.next/\∀(p:Phi) (a:Act) (w:World) (fb:Frame) (cs:List Frame) (D:List Nat),MR E.P p m w->GP E.P<=m.next->q7g p m.next m'.next->VRs p t a.tmps.toList->Pre E.P md fb cs a D p m w->
  Fin E.P md fb cs D p m w r m' (lone (fb.atR a (k.map AI.erase)) cs w)
theorem j0A.steps {md:Md} {k k':List AI} {t t':List AV} {m m':Mem} {r:AV} (h:j0A E md k' t' m r m')
  (hs:∀(p:Phi) (a:Act) (w:World) (b:Frame) (cs:List Frame),VRs p t a.tmps.toList->MR E.P p m w->Steps E.P (lone (b.atR a (k.map AI.erase)) cs w) (lone (b.atR a (k'.map AI.erase)) cs w))
  (ht:∀(p:Phi) (vs:List Value),VRs p t vs->VRs p t' vs):j0A E md k t m r m':=
 ⟨h.1,fun p a w b cs D hm hG hf hv hp=>Fin.steps (hs p a w b cs hv hm) (h.2 p a w b cs D hm hG hf (ht _ _ hv) hp)⟩
theorem q6V {P:Program} {p:Phi} {m:Mem} {w:World} (hm:MR P p m w) {b:Nat} {l:q91} {ci:CI} (hb:m.get b=some (.loop l)) (hp:p b=some ci) :
  ∃fn vs d,w.heap[ci.c]? = some (.loop ⟨l.state,l.pending.map fun j=>j.code.erase,fn,⟨vs⟩,⟨l.params⟩,l.assign.erase,l.body.erase,d⟩)/\VRs p l.tmps vs/\l.assign.ok P=true/\l.body.ok P=true:=by
 obtain⟨o,h1,fn,vs,d,rfl,h2⟩:=hm.has b _ ci hb hp;exact⟨fn,vs,d,h1,h2⟩
theorem z5d {P:Program} {p:Phi} {m:Mem} {w:World} (hm:MR P p m w) {b:Nat} {l l':q91} {ci:CI} (hb:m.get b=some (.loop l)) (hp:p b=some ci) (e1:l'.tmps=l.tmps) (_e2:l'.params=l.params) (e3:l'.assign=l.assign) (e4:l'.body=l.body)
  {fn:FuncId} {vs:List Value} {d:Nat} (hv:VRs p l.tmps vs) (h1:l.assign.ok P=true) (h2:l.body.ok P=true) (hc:ci.c<w.heap.size) :
  Sim P p m w p (m.put b (some (.loop l'))) {w with heap:=w.heap.setIfInBounds ci.c (.loop ⟨l'.state,l'.pending.map fun j=>j.code.erase,fn,⟨vs⟩,⟨l'.params⟩,l'.assign.erase,l'.body.erase,d⟩)}:=by
 refine Sim.z2E hm hb (by simp) hp (xBs hc) (fun c hc=>xBn (Ne.symm hc)) (by simp) rfl rfl rfl fun x hx=>?_
 cases hx;exact⟨fn,vs,d,rfl,by rw[e1];exact hv,by rw[e3];exact h1,by rw[e4];exact h2⟩
theorem q8Y {md:Md} {j:Option Jmp} {k:List AI} {t:List AV} {m:Mem} {r:AV} {m':Mem} (h:fin E.P md j t m=some (r,m')) (hj:match j with
   |none=>k=[]
   |some .ret=>∃k1,k=.code .ret::k1
   |some (.exit id)=>∃k1,k=.code (.exit id)::k1/\q4g id k1=none):j0A E md k t m r m':=by
 cases md with
 |fn rs=>
  have h':(q0P E.P rs t m).bind (fun vs=>some (q0T vs,m))=some (r,m')/\(k=[]\/∃k1,k=.code .ret::k1):=by
   cases j with
   |none=>exact⟨h,.inl hj⟩
   |some j=>cases j with
    |ret=>exact⟨h,.inr hj⟩
    |exit id=>simp[fin]at h
  obtain⟨h1,hk⟩:=h';obtain⟨vs,h1a,h2⟩:=be h1;cases h2;refine⟨xnr _,fun p a w b cs D hm hG hf hv hp=>?_⟩
  obtain⟨q1,q2,⟨fn,q3,rfl⟩,q5⟩:=hp;obtain⟨cv,h3,h4⟩:=z2u (hm.clear q2) hv h1a;have first:∃todo,step E.P (lone (b.atR a (k.map AI.erase)) cs w)=.next (lone {b.atR a todo with mode:=.returning} cs w):=by
   rcases hk with rfl|⟨k1,rfl⟩
   ·exact⟨_,stepR_end q5⟩
   ·exact⟨_,stepR_ret q5⟩
  obtain⟨todo,hst⟩:=first
  have hu:=q7W (P:=E.P) D {b.atR a todo with mode:=.returning} cs w rfl q1 q2.nd q2.obj
  exact⟨cv,p,w,D,_,.head hst hu,rfl,⟨rfl,rfl,rfl,fn,q3,h3⟩,h4,Sim.refl hm,q2,fun x hx=>.inl hx⟩
 |rd l=>
  simp only[fin]at h;split at h
  ·rename_i lp hl;cases h;refine⟨by simp,fun p a w b cs D hm hG hf hv hp=>?_⟩
   obtain⟨⟨ci,q1,q2⟩,q3,c,cs',rfl⟩:=hp;obtain⟨fn,vs,d,g1,g2,g3,g4⟩:=q6V hm hl q1;have hlt:=(xBb.1 g1).1;have hend:∀jump:Option Code,jump=j.map (fun j=>j.code.erase)->(Instr.endRound ci.c jump).run E.P w=.ok (.bool j.isNone) {w with heap:=w.heap.setIfInBounds ci.c (.loop ⟨if j.isNone then .ready else .done,j.map fun j=>j.code.erase,fn,⟨vs⟩,⟨lp.params⟩,lp.assign.erase,lp.body.erase,d⟩)}:=by
    rintro _ rfl
    simp only[Instr.endRound,Instr.getLoop,Sem.run_bind,q0Y g1 (by simp),Result.andThen_ok,Sem.run_pure];rw[q1X g1 (by simp)];cases j<;>rfl
   have hsim:=z5d (l':={lp with state:=if j.isNone then .ready else .done,pending:=j}) hm hl q1 rfl rfl rfl rfl (fn:=fn) (d:=d) g2 g3 g4 hlt
   refine⟨.bool j.isNone,p,_,c,cs',rfl,by simp[VR],hsim,.one ?_⟩;cases j with
   |none=>subst hj;exact stepR_round_end q2 q3 (hend none rfl)
   |some j=>
    cases j with
    |ret=>obtain⟨k1,rfl⟩:=hj;exact stepR_round_ret q2 q3 (hend (some .ret) rfl)
    |exit id=>obtain⟨k1,rfl,hx⟩:=hj;exact stepR_round_exit q2 q3 (q7k hx) (hend (some (.exit id)) rfl)
  ·cases h
 |df=>
  have h':some (AV.tup t,m)=some (r,m')/\(k=[]\/∃k1,k=.code .ret::k1):=by
   cases j with
   |none=>exact⟨h,.inl hj⟩
   |some j=>cases j with
    |ret=>exact⟨h,.inr hj⟩
    |exit id=>simp[fin]at h
  obtain⟨h1,hk⟩:=h';cases h1;refine⟨xnr _,fun p a w b cs D hm hG hf hv hp=>?_⟩
  obtain⟨q1,q5⟩:=hp;have first:∃todo,step E.P (lone (b.atR a (k.map AI.erase)) cs w)=.next (lone {b.atR a todo with mode:=.returning} cs w):=by
   rcases hk with rfl|⟨k1,rfl⟩
   ·exact⟨_,stepR_end q5⟩
   ·exact⟨_,stepR_ret q5⟩
  obtain⟨todo,hst⟩:=first
  exact⟨t,p,w,_,rfl,.one hst,rfl,rfl,q1,rfl,hv,Sim.refl hm⟩
theorem z6y {md:Md} {k:List AI} {t:List AV} {m m1:Mem} {r:AV} {m':Mem} (h:z8K md m=some m1) (hgo:j0A E md k t m1 r m'):j0A E md (.beginRound::k) t m r m':=by
 unfold z8K at h;split at h
 ·cases h
 rotate_left
 ·cases h
 ·rename_i l;split at h
  ·rename_i lp hl;split at h
   ·rename_i hst;cases h;refine⟨by simpa using hgo.1,fun p a w b cs D hm hG hf hv hp=>?_⟩
    have hp0:=hp;obtain⟨⟨ci,q1,q2⟩,q3,q4⟩:=hp;obtain⟨fn,vs,d,g1,g2,g3,g4⟩:=q6V hm hl q1;have hlt:=(xBb.1 g1).1;have hsim:=z5d (l':={lp with state:=.busy}) hm hl q1 rfl rfl rfl rfl (fn:=fn) (d:=d) g2 g3 g4 hlt
    have hbr:(Instr.beginRound ci.c).run E.P w=.ok () {w with heap:=w.heap.setIfInBounds ci.c (.loop ⟨.busy,lp.pending.map fun j=>j.code.erase,fn,⟨vs⟩,⟨lp.params⟩,lp.assign.erase,lp.body.erase,d⟩)}:=by
     simp only[Instr.beginRound,Instr.getLoop,Sem.run_bind,q0Y g1 (by simp),Result.andThen_ok,Sem.run_pure];rw[q1X g1 (by simp)];simp only[Result.andThen_ok,hst];rfl
    refine Fin.sim hsim hf (fun x hx=>.inl hx) (Fin.steps (.one (stepR_beginRound q2 hbr)) ?_)
    exact hgo.2 p a _ b cs D hsim.rel hG hf hv (hp0.sim hsim rfl)
   ·cases h
  ·cases h
theorem j1f (j:Option Jmp) (k:List AI):(pend j k).map AI.erase=((j.map fun j=>j.code.erase).map Item.code).toList++k.map AI.erase:=by
 cases j<;>rfl
theorem z7m {call:q04} (hcall:q10 E.P call) {md:Md} {f:Operand} {fv:AV} {ps:List Tmp} {ac bc:AC} {k:List AI} {t:List AV} {m:Mem} {r:AV} {m':Mem} (hok1:ac.ok E.P=true) (hok2:bc.ok E.P=true) (hf:ev E.P t f=some fv)
  {go:Option Jmp->Mem->R} (hgo:∀j m3,go j m3=some (r,m')->j0A E md (pend j k) t m3 r m') (h:q2E call md fv ⟨.ready,none,t,ps,ac,bc⟩ m go=some (r,m')):j0A E md (.code (.rangeFunc f ps ac bc)::k) t m r m':=by
 unfold q2E at h;split at h
 ·rename_i g first cap
  split at h
  ·rename_i har;obtain⟨⟨rv,m2⟩,h1,h⟩:=be h;unfold q3p at h;split at h
   ·rename_i lp hl;split at h
    ·cases h
    ·rename_i hbusy;have hgo':=hgo _ _ h;obtain⟨c0,hfn⟩:=hcall _ _ _ _ _ h1;simp only[Mem.q0G]at c0;have c1:m2.next<=m'.next:=by simpa using hgo'.1
     refine⟨by omega,fun p a w b cs D hm hG hfree hv hp=>?_⟩
     have hfv:=q29 hv hm.q23 hf;simp only[VR]at hfv;obtain⟨first',cap',hfe,v1,v2⟩:=hfv
     have hfr:p m.next=none:=hfree _ (xnr _) (by omega)
     have henter:∃(l:Nat) (mark:List Deferred) (w1:World) (dd:Nat) (D1:List Nat),(Instr.enterLoop b.fn a.tmps ⟨ps⟩ ac.erase bc.erase b.roundOf).run E.P w=.ok (l,mark) w1/\w.heap.size<=l/\
       w1.heap[l]? = some (.loop ⟨.ready,none,b.fn,a.tmps,⟨ps⟩,ac.erase,bc.erase,dd⟩)/\(∀i,i<w.heap.size->w1.heap[i]? = w.heap[i]?)/\w.heap.size<=w1.heap.size/\w1.os=w.os/\w1.output=w.output/\w1.tape=w.tape/\
       (∀x∈D1,x∈D\/w.heap.size<=x)/\∀p1,Sim E.P p m w p1 (m.lay (.loop ⟨.ready,none,t,ps,ac,bc⟩)) w1->(p1 m.next=some ⟨l,0,0,none⟩)->(∀x,x≠m.next->p1 x=p x)->Pre E.P md b cs {a with defers:=mark++a.defers} D1 p1 (m.lay (.loop ⟨.ready,none,t,ps,ac,bc⟩)) w1:=by
      cases md with
      |fn rs=>
       obtain⟨q1,q2,q3,q5⟩:=hp;refine⟨w.heap.size+1,[{target:=.collected w.heap.size,args:=#[]}],{w with heap:=(w.heap.push (.deferred (some []))).push (.loop ⟨.ready,none,b.fn,a.tmps,⟨ps⟩,ac.erase,bc.erase,w.heap.size⟩)},w.heap.size,w.heap.size::D,?_,by omega,?_,?_,by simp;omega,rfl,rfl,rfl,?_,?_⟩
       ·rw[q5];simp only[Instr.enterLoop,Sem.run_bind,run_newObj,Result.andThen_ok,Sem.run_pure];simp
       ·rw[Array.getElem?_push,xAb (by simp)]
       ·intro i hi;rw[xBz (by simp;omega),Array.getElem_push_lt hi,<-xAl]
       ·intro x hx;rcases xmk0.1 hx with rfl|hx
        ·exact .inr (xnr _)
        ·exact .inl hx
       ·intro p1 s e1 e2;refine⟨by rw[q1];rfl,⟨List.nodup_cons.2 ⟨fun hx=>by have:=q2.lt hx;omega,q2.nd⟩,fun x hx=>?_,fun x hx c ci g1 g2=>?_⟩,q3,q5⟩
        ·rcases xmk0.1 hx with rfl|hx
         ·rw[xBz (by simp)];simp
         ·have hlt:=q2.lt hx;rw[xBz (by simp;omega),Array.getElem_push_lt hlt,<-xAl];exact q2.obj x hx
        ·rw[Mem.q0J]at g1;by_cases ec:c=m.next
         ·subst ec;rw[e1]at g2;cases g2;rcases xmk0.1 hx with rfl|hx
          ·simp
          ·have:=q2.lt hx;simp only;omega
         ·rw[xAa ec]at g1;rw[e2 c ec]at g2;rcases xmk0.1 hx with rfl|hx
          ·have:=hm.bnd c ci g2;omega
          ·exact q2.apart x hx c ci g1 g2
      |df=>simp[around]at har
      |rd lb=>
       obtain⟨⟨ci,q1,q2⟩,q3⟩:=hp;simp only[around]at har;split at har
       ·rename_i lp0 hl0;obtain⟨fn0,vs0,d0,g1,_,_,_⟩:=q6V hm hl0 q1;refine⟨w.heap.size,[],{w with heap:=w.heap.push (.loop ⟨.ready,none,b.fn,a.tmps,⟨ps⟩,ac.erase,bc.erase,d0⟩)},d0,D,?_,by omega,by simp,?_,by simp,rfl,rfl,rfl,fun x hx=>.inl hx,?_⟩
        ·rw[q2];simp only[Instr.enterLoop,Instr.getLoop,Sem.run_bind,q0Y g1 (by simp),Result.andThen_ok,Sem.run_pure,run_newObj]
        ·intro i hi;rw[xBz hi,<-xAl]
        ·intro p1 s e1 e2;exact⟨⟨ci,s.le _ _ q1,q2⟩,q3⟩
       ·cases har
     obtain⟨l,mark,w1,dd,D1,e1,e2,e3,e4,e5,e6,e7,e8,e9,e10⟩:=henter;have hs1:=Sim.lay (P:=E.P) (n:=0) (g:=none) (v:=.loop ⟨.ready,none,t,ps,ac,bc⟩) hm hfr e2 e3 e4 e5 e6 e7 e8 (fun q hq=>⟨b.fn,a.tmps.toList,dd,by rfl,hv.mono hq,hok1,hok2⟩)
     have hp1:(fun x=>if x=m.next then some (⟨l,0,0,none⟩:CI) else p x) m.next=some ⟨l,0,0,none⟩:=by simp
     have hpre1:=e10 _ hs1 hp1 (fun x hx=>by simp[hx])
     generalize hp1d:(fun x=>if x=m.next then some (⟨l,0,0,none⟩:CI) else p x)=p1 at hs1 hp1 hpre1
     have hargs:VRs p1 (first++[.yld m.next]++cap) (first'++[.func (.yield l) #[] #[]]++cap'):=by
      refine((v1.mono hs1.le).append ?_).append (v2.mono hs1.le);simp only[VRs,VR];exact⟨_,[],rfl,⟨_,hp1,rfl⟩,rfl⟩
     have hfree1:q7g p1 (m.lay (.loop ⟨.ready,none,t,ps,ac,bc⟩)).next m2.next:=(hfree.step hs1).sub (xnr _) c1
     have hres:(resolve a.eval (rangeCall f l) 0).run E.P w1=.ok {target:=.fn (.func g) ⟨cap'⟩,args:=⟨first'⟩++#[.func (.yield l) #[] #[]]} w1:=by
      have hm0:(#[Operand.const (.func (.yield l) #[] #[])].map a.eval)=#[.func (.yield l) #[] #[]]:=by simp[Act.eval]
      simp only[resolve,hfe,hm0,Deferred.ofValue,Sem.run_pure]
     have hmem:(⟨first'⟩++#[.func (.yield l) #[] #[]]++⟨cap'⟩:Array Value)=⟨first'++[.func (.yield l) #[] #[]]++cap'⟩:=by
      apply xEy;simp
     have after:∀(rv':Value) (p2:Phi) (w2:World),Sim E.P p1 (m.lay (.loop ⟨.ready,none,t,ps,ac,bc⟩)) w1 p2 m2 w2->Steps E.P (lone (b.atR a (.code (.rangeFunc f ⟨ps⟩ ac.erase bc.erase)::k.map AI.erase)) cs w) (lone (b.atR {a with defers:=mark++a.defers} (.endRangeFunc l::k.map AI.erase)) cs w2)->
       Fin E.P md b cs D p m w r m' (lone (b.atR a ((AI.code (.rangeFunc f ps ac bc)::k).map AI.erase)) cs w):=by
      intro rv' p2 w2 hs2 hst;have hp2:p2 m.next=some ⟨l,0,0,none⟩:=hs2.le _ _ hp1
      obtain⟨fn,vs,d,g1,g2,g3,g4⟩:=q6V hs2.rel hl hp2;have hlt:=(xBb.1 g1).1;have hend:(Instr.endLoop l).run E.P w2=.ok (lp.pending.map fun j=>j.code.erase) {w2 with heap:=w2.heap.setIfInBounds l (.loop ⟨.exhausted,lp.pending.map fun j=>j.code.erase,fn,⟨vs⟩,⟨lp.params⟩,lp.assign.erase,lp.body.erase,d⟩)}:=by
       simp only[Instr.endLoop,Instr.getLoop,Sem.run_bind,q0Y g1 (by simp),Result.andThen_ok,Sem.run_pure];have hb2:(lp.state==LoopState.busy)=false:=by simpa using hbusy
       simp only[hb2,xbq,xAh,Sem.run_bind,Sem.run_pure];rw[q1X g1 (by simp)];rfl
      have hs3:Sim E.P p2 m2 w2 p2 (m2.put m.next none) {w2 with heap:=w2.heap.setIfInBounds l (.loop ⟨.exhausted,lp.pending.map fun j=>j.code.erase,fn,⟨vs⟩,⟨lp.params⟩,lp.assign.erase,lp.body.erase,d⟩)}:=
       Sim.z2E hs2.rel hl (by simp) hp2 (xBs hlt) (fun c hc=>xBn (Ne.symm hc)) (by simp) rfl rfl rfl (by simp)
      have hfree2:q7g p2 m2.next m'.next:=(hfree.step hs1).step hs2
      have hs12:=hs1.trans hs2 (hfree.sub (xnr _) c1);have hs13:=hs12.trans hs3 (hfree.sub (xnr _) c1);refine Fin.sim hs13 hfree e9 (Fin.steps (Steps.trans hst (.one (stepR_endRangeFunc hend))) ?_);have:=hgo'.2 p2 {a with defers:=mark++a.defers} _ b cs D1 hs3.rel (by simp;have:=hs2.next;simp at this;omega) hfree2 (hv.mono hs12.le) ((hpre1.sim hs2 rfl).sim hs3 rfl)
      rw[j1f]at this;exact this
     rcases hfn p1 w1 _ hs1.rel (by simp;omega) hfree1 hargs with ⟨fn,g1,g2,g3,g4⟩|⟨cv,w2,p2,g1,g2,g3⟩
     ·have hinv:(invoke (.fn (.func g) ⟨cap'⟩) (⟨first'⟩++#[.func (.yield l) #[] #[]])).run E.P w1=.ok (.enter g ⟨first'++[.func (.yield l) #[] #[]]++cap'⟩) w1:=by
       have hb:fn.body.isNone=false:=by cases hbb:fn.body<;>simp[hbb]at g2⊢
       have hn2 : (fn.name == "runtime.NumGoroutine") = false := by simpa using g3
       simp only[invoke,callFunc,Sem.run_bind,run_program,Result.andThen_ok,g1,hn2,hb,xbq,xAh,Sem.run_pure,hmem]
      obtain⟨e,w2,fr,⟨cv,p2,rfl,k1,k2⟩,k3,k4,k5⟩:=g4 (b.atR {a with defers:=mark++a.defers} (.inRangeFunc l::k.map AI.erase)::cs)
      refine after cv p2 w2 k2 (.head (stepR_rangeFunc e1 hres hinv) (Steps.trans k3 (.one ?_)));rw[<-finish_atR_inRangeFunc l cv];exact step_leave_returned k5
     ·have hinv:(invoke (.fn (.func g) ⟨cap'⟩) (⟨first'⟩++#[.func (.yield l) #[] #[]])).run E.P w1=.ok (.value cv) w2:=by
       simp only[invoke,hmem];exact g1
      exact after cv p2 w2 g3 (.one (q5l e1 hres hinv))
   ·cases h
  ·cases h
 ·cases h
theorem j0O {P:Program} {call:q04} (hcall:q10 P call) {all:List Oper} {chk:List (List Nat)} {t:List AV} {m:Mem} {K:List AV->Mem->R} {r:AV×Mem} (h:q2r call P all chk all [] 0 ⟨[],[]⟩ t m K=some r):∃t' m',K t' m'=some r/\m.next<=m'.next:=by
 obtain⟨τ,_,h1,h2,h3,h4⟩:=q57 (P:=P) (call:=call) (all:=all) (chk:=chk) all chk [] 0 ⟨[],[]⟩ t m ⟨fun _=>[],fun _=>m,fun _=>false,fun _=>.undef⟩ (fun j=>by simp) (fun j=>by simp)
  (fun k ok hk=>by omega) (fun k ok hk=>by omega) h
 have hτ:q26 P call all chk τ:=fun j o hj ho=>h4 j o (xBx _) (by omega) ho
 simp only[xnz]at h3;exact⟨_,_,h3,by rw[<-h2];exact q0R hcall hτ (xBx _) (xnr _)⟩
theorem q9A {ops:List Oper} {it:Operand} {d:Option Tmp} {os:List Oper} (h:q9z ops=some (it,d,os)):∃o,ops=o::os/\o.op=.next it false/\o.guard=none/\d=o.dst:=by
 unfold q9z at h;split at h
 ·rename_i o os';split at h
  ·rename_i h1 h2;cases h;exact⟨o,rfl,h1,h2,rfl⟩
  ·cases h
 ·cases h
theorem a3k {call:q04} (hcall:q10 E.P call) {md:Md}:∀{n:Nat} {k:List AI} {t:List AV} {m:Mem} {r:AV} {m':Mem},goF E call md n k t m=some (r,m')->m.next<=m'.next:=by
 intro n;induction n with
 |zero=>intro k t m r m' h;simp[goF]at h
 |succ n ih=>
  intro k t m r m' h;have hfin:∀{j:Option Jmp} {t:List AV},fin E.P md j t m=some (r,m')->m.next<=m'.next:=by
   intro j t h;unfold fin at h;split at h
   ·split at h
    ·cases h
    ·obtain⟨vs,_,h⟩:=be h;cases h;exact xnr _
   ·split at h
    ·cases h;simp
    ·cases h
   ·split at h
    ·cases h
    ·cases h;exact xnr _
  simp only[goF]at h;unfold q2L at h;split at h
  ·exact hfin h
  ·exact ih h
  ·exact ih h
  ·obtain⟨m1,h1,h2⟩:=be h;have:m1.next=m.next:=by
    unfold z8K at h1;split at h1
    ·cases h1
    ·split at h1
     ·split at h1
      ·cases h1;rfl
      ·cases h1
     ·cases h1
    ·cases h1
   rw[<-this];exact ih h2
  ·exact ih h
  ·split at h
   ·exact ih h
   ·split at h
    ·obtain⟨t',m1,h1,h2⟩:=j0O hcall h;exact xnt0 h2 (ih h1)
    ·split at h
     ·rename_i it d os hn;obtain⟨o,rfl,ho,hg,rfl⟩:=q9A hn;obtain⟨x,h1,h2⟩:=be h;obtain⟨Q,⟨v,m1,hQ⟩,hQ2,_⟩:=z0S (P:=E.P) ho h1 h2;obtain⟨mi,h3,hd,h4⟩:=hQ2 v m1 hQ;obtain⟨t',m2,h5,h6,_⟩:=q3u hcall os 1 (fun j=>by rw[Nat.add_comm,xgs]) h3
      rw[<-h4];have h7:=xnt0 h6 (ih h5);rw[<-hd.1]at h7;exact h7
     ·obtain⟨t',m1,h1,h2,_⟩:=q3u hcall _ 0 (fun j=>by simp) h
      exact xnt0 h2 (ih h1)
   ·exact ih h
   ·obtain⟨v,h1,h2⟩:=be h;unfold q0b at h2;split at h2
    ·exact ih h2
    ·exact ih h2
    ·cases h2
   ·exact ih h
   ·exact ih h
   ·exact ih h
   ·obtain⟨fv,h1,h2⟩:=be h;unfold q2E at h2;split at h2
    ·split at h2
     ·obtain⟨⟨rv,m2⟩,h3,h4⟩:=be h2;have c0:=(hcall _ _ _ _ _ h3).1;simp only[Mem.q0G]at c0;unfold q3p at h4;split at h4
      ·split at h4
       ·cases h4
       ·have:=ih h4;simp only[Mem.q39]at this;omega
      ·cases h4
     ·cases h2
    ·cases h2
   ·split at h
    ·exact ih h
    ·exact hfin h
   ·exact hfin h
   ·exact ih h
   ·split at h
    ·exact ih h
    ·cases h
theorem z4O (hE:q07 E) {call:q04} (hcall:q10 E.P call) (md:Md):∀(n:Nat) (k:List AI) (t:List AV) (m:Mem) (r:AV) (m':Mem),(∀x∈k,x.ok E.P=true)->goF E call md n k t m=some (r,m')->j0A E md k t m r m':=by
 intro n;induction n with
 |zero=>intro k t m r m' _ h;simp[goF]at h
 |succ n ih=>
  intro k t m r m' hok h;simp only[goF]at h;unfold q2L at h;split at h
  ·exact q8Y h rfl
  ·exact(ih _ t m r m' (fun x hx=>hok x (by simp[hx])) h).steps (fun p a w b cs _ _=>.one stepR_inBlock) (fun _ _ h=>h)
  ·exact(ih _ t m r m' (fun x hx=>hok x (by simp[hx])) h).steps (fun p a w b cs _ _=>.one z2A) (fun _ _ h=>h)
  ·obtain⟨m1,h1,h2⟩:=be h;exact z6y h1 (ih _ t m1 r m' (fun x hx=>hok x (by simp[hx])) h2)
  ·rename_i c k;have hc:=hok (.inLoop c) (by simp);refine(ih _ t m r m' (fun x hx=>?_) h).steps (fun p a w b cs _ _=>.one stepR_inLoop) (fun _ _ h=>h)
   rcases xmk0.1 hx with e|e
   ·subst e;exact hc
   ·exact hok x (by simpa using e)
  ·rename_i c k;have hc:=hok (.code c) (by simp);have hk:∀x∈k,x.ok E.P=true:=fun x hx=>hok x (by simp[hx])
   split at h
   ·exact(ih _ t m r m' hk h).steps (fun p a w b cs _ _=>.one stepR_skip) (fun _ _ h=>h)
   ·
    rename_i id ops draw chk anc;have fin:∀{t':List AV} {m1:Mem},goF E call md n k t' m1=some (r,m')->m.next<=m1.next->(∀(p:Phi) (a:Act) (w:World),MR E.P p m w->GP E.P<=m.next->q7g p m.next m1.next->VRs p t a.tmps.toList->∀(b:Frame) (kk:List Item) (cs:List Frame),
      ∃p' a' w',VRs p' t' a'.tmps.toList/\a'.defers=a.defers/\Sim E.P p m w p' m1 w'/\Steps E.P (lone (b.atR a (.code (.region id ⟨ops⟩ draw)::kk)) cs w) (lone (b.atR a' kk) cs w'))->j0A E md (.code (.region id ops draw chk anc)::k) t m r m':=by
     intro t' m1 h1 h2 h3;have hgo:=ih k t' m1 r m' hk h1;refine⟨xnt0 h2 hgo.1,fun p a w b cs D hm hG hf hv hp=>?_⟩
     obtain⟨p1,a',w',g1,g2,g3,g4⟩:=h3 p a w hm hG (hf.sub (xnr _) hgo.1) hv b (k.map AI.erase) cs;exact Fin.sim g3 hf (fun x hx=>.inl hx) (Fin.steps g4 (hgo.2 p1 a' w' b cs D g3.rel (xnt0 hG g3.next) (hf.step g3) g1 (hp.sim g3 g2)))
    split at h
    ·rename_i hdraw;subst hdraw;simp only[AI.ok,AC.ok,xbt,Bool.false_or,xAc,xAj]at hc;obtain⟨t',m1,h1,h2,h3⟩:=z6L (id:=id) hcall hc.1 hc.2 hE.mixed h;exact fin h1 h2 h3
    ·rename_i hdraw;have hdraw:draw=false:=by simpa using hdraw
     subst hdraw;split at h
     ·
      rename_i it d os hn;obtain⟨o,rfl,ho,hg,rfl⟩:=q9A hn;obtain⟨x,h1,h2⟩:=be h;obtain⟨Q,⟨v0,m0,hQ0⟩,hQ,hQ3⟩:=z0S (P:=E.P) ho h1 h2;have each:∀v m1,Q v m1->∃t' m2 mi,goF E call md n k t' m2=some (r,mi)/\Drop m.next mi m'/\m1.next=m.next/\z3d E.P (o::os) (List.range' 1 os.length) (q3U t o.dst v) m1 t' m2:=fun v m1 hv=>by
       obtain⟨mi,h3,hd,h4⟩:=hQ v m1 hv;obtain⟨t',m2,h5,h6⟩:=q3u hcall os 1 (fun j=>by rw[Nat.add_comm,xgs]) h3
       exact⟨t',m2,mi,h5,hd,h4,h6⟩
      obtain⟨t0,m2,mi,k1,kd,k2,k3⟩:=each v0 m0 hQ0;have k4:=(ih k t0 m2 r mi hk k1).1;rw[<-kd.1]at k4;refine⟨by have:=k3.1;omega,fun p a w b cs D hm hG hf hv hp=>?_⟩
      obtain⟨v,m1,hv1,cv,w1,e1,e2,e3⟩:=hQ3 p a w hm hv;obtain⟨t',m3,mj,g1,gd,g2,g3,g4⟩:=each v m1 hv1;have hgo:=ih k t' m3 r mj hk g1;rw[gd.1]at hf;have hG1:GP E.P<=m1.next:=by omega
      have hw:Region.wanted o (yielded ⟨o::os⟩ a.tmps)=true:=by simp[Region.wanted,hg]
      have s1:=q3w (P:=E.P) (b:=b) (a:=a) (k:=k.map AI.erase) (cs:=cs) (ops:=⟨o::os⟩) (i:=0) (rest:=List.range' 1 os.length) (o:=o) (by simp) hw e1;obtain⟨p',a',w',j1,j2,j3,j4⟩:=g4 p (a.put o.dst cv) w1 e3.rel hG1 (hf.sub (by omega) hgo.1) ((hv.mono e3.le).q3U _ e2) b (k.map AI.erase) cs;have e3':=e3.trans j3 (hf.sub (xnr _) hgo.1);refine Fin.drop (Fin.sim e3' hf (fun x hx=>.inl hx) (Fin.steps ?_ (hgo.2 p' a' w' b cs D j3.rel (xnt0 hG1 j3.next) (hf.step e3') j1 (hp.sim e3' (j2.trans (q2R _ _ _)))))) gd
      refine .head stepR_region ?_;rw[xDn,show (⟨o::os⟩:Array Oper).size=os.length+1 from rfl,List.range'_succ];exact .head s1 (Steps.trans j4 (.one stepR_region_end))
     ·obtain⟨t',m1,h1,h2,h3⟩:=q3u hcall ops 0 (fun j=>by simp) h
      refine fin h1 h2 fun p a w hm hG hf hv b kk cs=>?_
      obtain⟨p',a',w',g1,g2,g3,g4⟩:=h3 p a w hm hG hf hv b kk cs;refine⟨p',a',w',g1,g2,g3,.head stepR_region ?_⟩;rw[xDn];exact Steps.trans g4 (.one stepR_region_end)
   ·rename_i x y;simp only[AI.ok,AC.ok,xAc]at hc;refine(ih _ t m r m' (fun z hz=>?_) h).steps (fun p a w b cs _ _=>.one stepR_seq) (fun _ _ h=>h)
    simp only[xmk0]at hz;rcases hz with e|e|e
    ·subst e;exact hc.1
    ·subst e;exact hc.2
    ·exact hk z e
   ·rename_i c x y;simp only[AI.ok,AC.ok,xAc]at hc;obtain⟨v,h1,h2⟩:=be h;have main:∀(bb:Bool),v=.bool bb->j0A E md (.code (if bb then x else y)::k) t m r m'->j0A E md (.code (.cond c x y)::k) t m r m':=by
     intro bb hv hgo;subst hv;refine hgo.steps (fun p a w b cs hvr hm=>?_) (fun _ _ h=>h)
     have hcv:=q29 hvr hm.q23 h1;simp only[VR]at hcv;have:=stepR_cond (P:=E.P) (b:=b) (k:=k.map AI.erase) (cs:=cs) (w:=w) (x:=x.erase) (y:=y.erase) hcv;refine .one ?_;cases bb<;>exact this
    unfold q0b at h2;split at h2
    ·refine main true rfl (ih _ t m r m' (fun z hz=>?_) h2)
     simp only[xmk0]at hz;rcases hz with e|e
     ·subst e;exact hc.1
     ·exact hk z e
    ·refine main false rfl (ih _ t m r m' (fun z hz=>?_) h2)
     simp only[xmk0]at hz;rcases hz with e|e
     ·subst e;exact hc.2
     ·exact hk z e
    ·cases h2
   ·rename_i id body;simp only[AI.ok,AC.ok]at hc;refine(ih _ t m r m' (fun z hz=>?_) h).steps (fun p a w b cs _ _=>.one stepR_block) (fun _ _ h=>h)
    simp only[xmk0]at hz;rcases hz with e|e|e
    ·subst e;exact hc
    ·subst e;rfl
    ·exact hk z e
   ·rename_i body;simp only[AI.ok,AC.ok]at hc;refine(ih _ t m r m' (fun z hz=>?_) h).steps (fun p a w b cs _ _=>.one stepR_loop) (fun _ _ h=>h)
    simp only[xmk0]at hz;rcases hz with e|e|e
    ·subst e;exact hc
    ·subst e;exact hc
    ·exact hk z e
   ·rename_i body;simp only[AI.ok,AC.ok]at hc;refine(ih _ t m r m' (fun z hz=>?_) h).steps (fun p a w b cs _ _=>.one z7E) (fun _ _ h=>h)
    simp only[xmk0]at hz;rcases hz with e|e|e
    ·subst e;exact hc
    ·subst e;rfl
    ·exact hk z e
   ·rename_i f ps ac bc;simp only[AI.ok,AC.ok,xAc]at hc;obtain⟨fv,h1,h2⟩:=be h;refine z7m hcall hc.1 hc.2 h1 (fun j m3 h3=>ih _ t m3 r m' (fun z hz=>?_) h3) h2
    cases j with
    |none=>exact hk z hz
    |some j=>
     simp only[pend,xmk0]at hz;rcases hz with e|e
     ·subst e;cases j<;>rfl
     ·exact hk z e
   ·rename_i id;split at h
    ·rename_i k' he;exact(ih _ t m r m' (z1g he hk) h).steps (fun p a w b cs _ _=>.one (stepR_exit (q55 he))) (fun _ _ h=>h)
    ·rename_i he;exact q8Y h ⟨k,rfl,he⟩
   ·exact q8Y h ⟨k,rfl⟩
   ·rename_i live c;simp only[AI.ok,AC.ok]at hc;refine(ih _ _ m r m' (fun z hz=>?_) h).steps (fun p a w b cs _ _=>.refl _ _) (fun _ _ h=>q8m h)
    simp only[xmk0]at hz;rcases hz with e|e
    ·subst e;exact hc
    ·exact hk z e
   ·split at h
    ·exact(ih _ t m r m' hk h).steps (fun p a w b cs _ _=>.one stepR_label) (fun _ _ h=>h)
    ·cases h
theorem j0R (z:List (Tmp×Value)):∀vs:List Value,(z.foldl (fun tmps (t,a)=>tmps.setIfInBounds t a) (⟨vs⟩:Array Value)).toList=z.foldl (fun t pa=>t.set pa.1 pa.2) vs:=by
 induction z with
 |nil=>intro vs;rfl
 |cons y z ih=>
  intro vs;simp only[xEl];have:=ih (vs.set y.1 y.2);simpa using this
theorem j3O {p:Phi}:∀{ps:List Tmp} {args t:List AV} {cargs vs:List Value},VRs p args cargs->VRs p t vs->VRs p (a8w ps args t) ((ps.zip cargs).foldl (fun t pa=>t.set pa.1 pa.2) vs):=by
 intro ps;induction ps with
 |nil=>intro args t cargs vs _ h;exact h
 |cons q ps ih=>
  intro args t cargs vs ha h;cases args with
  |nil=>simp only[VRs]at ha;subst ha;exact h
  |cons x args=>
   simp only[VRs]at ha;obtain⟨v,vs',rfl,h1,h2⟩:=ha;exact ih h2 (h.set q h1)
theorem j1s (hE:q07 E):∀n,q10 E.P (q3v E n):=by
 intro n;induction n with
 |zero=>intro f args m r m' h;simp[q3v]at h
 |succ n ih=>
  intro tg args m r m' h;cases tg with
  |fn f=>
   simp only[q3v]at h;split at h
   ·rename_i hk hH;exact hE.hook f hk hH args m r m' h
   ·split at h
    ·rename_i rs nt c hB;obtain⟨fn,g1,g2,g3,g4,g5,g6⟩:=hE.body f ‹_› rs nt c hB;have hgo:=z4O hE ih (.fn rs) n _ _ m r m' (by simp[AI.ok,g6]) h;refine⟨hgo.1,fun p w cargs hm hG hf hv=>.inl ⟨fn,g1,by simp[g2],g5,?_⟩⟩
     intro cs
     let b:Frame:={(default:Frame) with fn:=f,kind:=.normal}
     have henter:Frame.enter E.P f ⟨cargs⟩ .normal=b.atR {tmps:=⟨cargs⟩++Array.replicate (fn.ntmps-cargs.length) undef,defers:=[]} [.code c.erase]:=by
      simp[Frame.enter,Frame.atR,g1,g2,b];rfl
     have hl:=hv.length;obtain⟨cv,p',w1,D',fr,f1,f2,f3,f4,f5,f6,f7⟩:=hgo.2 p {tmps:=⟨cargs⟩++Array.replicate (fn.ntmps-cargs.length) undef,defers:=[]} w b cs [] hm hG hf
      (by
       rw[<-g4,<-hl];simp only[Array.toList_append,Array.toList_replicate];exact hv.append (VRs.replicate _ (by simp[VR]))) ⟨rfl,DOk.nil _ _ _,⟨fn,g1,g3⟩,rfl⟩
     rw[henter];obtain⟨x1,x2,x3,x4⟩:=f3;exact⟨.returned cv,_,fr,⟨cv,p',rfl,f4,f5.clear f6 fun x hx=>(f7 x hx).resolve_left (by simp)⟩,f1,f2,x2,x3,x1,x4⟩
    ·cases h
  |yl l=>
   simp only[q3v]at h;unfold q4O at h;split at h
   ·rename_i lp hl;split at h
    ·rename_i hlen;have hgo:lp.assign.ok E.P=true->lp.body.ok E.P=true->j0A E (.rd l) [.code lp.assign,.beginRound,.code lp.body] (a8w lp.params args lp.tmps) m r m':=fun o1 o2=>
      z4O hE ih (.rd l) n _ _ m r m' (by simp[AI.ok,o1,o2]) h
     have hnext:m.next<=m'.next:=a3k ih h
     refine⟨hnext,fun p w cargs hm hG hf hv ci hci=>?_⟩
     obtain⟨fn,vs,d,g1,g2,g3,g4⟩:=q6V hm hl hci;have hl2:=hv.length;refine⟨fn,((⟨lp.params⟩:Array Tmp).zip ⟨cargs⟩).foldl (fun tmps (t,a)=>tmps.setIfInBounds t a) ⟨vs⟩,lp.assign.erase,lp.body.erase,?_,fun c cs=>?_⟩
     ·simp only[Instr.yield,Instr.getLoop,Sem.run_bind,q0Y g1 (by simp),Result.andThen_ok,Sem.run_pure];rw[xAa (by simp;omega)];rfl
     ·have hb0:Frame.round ci.c fn (((⟨lp.params⟩:Array Tmp).zip ⟨cargs⟩).foldl (fun tmps (t,a)=>tmps.setIfInBounds t a) ⟨vs⟩) lp.assign.erase lp.body.erase .normal =
        ({(default:Frame) with fn:=fn,kind:=.normal,roundOf:=some ci.c}:Frame).atR {tmps:=((⟨lp.params⟩:Array Tmp).zip ⟨cargs⟩).foldl (fun tmps (t,a)=>tmps.setIfInBounds t a) ⟨vs⟩,defers:=[]} [.code lp.assign.erase,.beginRound,.code lp.body.erase]:=by
       simp[Frame.round,Frame.atR]
      have htm:(((⟨lp.params⟩:Array Tmp).zip ⟨cargs⟩).foldl (fun tmps (t,a)=>tmps.setIfInBounds t a) (⟨vs⟩:Array Value)).toList=(lp.params.zip cargs).foldl (fun t pa=>t.set pa.1 pa.2) vs:=by
       rw[<-Array.foldl_toList,Array.toList_zip];exact j0R _ _
      obtain⟨cv,p',w',c',cs',e1,e2,e3,e4⟩:=(hgo g3 g4).2 p {tmps:=((⟨lp.params⟩:Array Tmp).zip ⟨cargs⟩).foldl (fun tmps (t,a)=>tmps.setIfInBounds t a) ⟨vs⟩,defers:=[]} w {(default:Frame) with fn:=fn,kind:=.normal,roundOf:=some ci.c} (c::cs) [] hm hG hf
       (by rw[htm];exact j3O hv g2) ⟨⟨ci,hci,rfl⟩,rfl,c,cs,rfl⟩
      cases e1;refine⟨cv,p',w',e2,e3,?_⟩;rw[hb0];exact e4
    ·cases h
   ·cases h
theorem q3f (hE:q07 E):q10 E.P (run E):=by
 intro f args m r m' h;obtain⟨n,hn⟩:=a4x h;exact j1s hE n f args m r m' hn
end
end
section
def isCells (w:World) (b:Nat):Bool:=match w.heap[b]? with|some (.cells ..)=>true | _=>false
def absP (w:World):Value->AV
 | .bool b=>.bool b
 | .int k n=>.int k n
 | .string s=>.str s.data.toList
 | .pointer none=>.ptr none
 | .pointer (some a)=>if a.spot=none/\isCells w a.block=true then .ptr (some ⟨a.block,a.off⟩) else .undef
 | .slice none 0 0=>.sl none 0 0 0 true
 | .slice (some a) len cap=>if cap=0 then (if len=0 then .sl none 0 0 0 false else .undef) else if a.spot=none/\isCells w a.block=true/\len<=cap then .sl (some ⟨a.block,a.off⟩) 0 len cap true else .undef
 | .map none=>.map none
 | .nilFunc=>.nilFn
 | .nilIface=>.nilIface
 | _=>.undef
def j0D (w:World):Value->AV
 | .agg cs=>.agg (cs.toList.map (absP w))
 |v=>absP w v
def q5X (w:World) (b:Nat):Option Blk:=
 match w.heap[b]? with
 |some (.cells c _ _)=>some (.cells (c.toList.map (absP w)) true)
 | _=>none
noncomputable def b2P (w:World):Nat->PT
 | 0=>.leaf
 |n+1=>(b2P w n).set n (q5X w n)
noncomputable def z1e (w:World):Mem:=⟨w.heap.size,b2P w w.heap.size⟩
theorem z8E (w:World):∀n b,(b2P w n).get b=if b<n then q5X w b else none
 | 0,b=>by simp[b2P,PT.z1Q]
 |n+1,b=>by
  simp only[b2P,PT.z1S,z8E w n b];by_cases h:b=n
  ·subst h;simp
  ·rw[xAa h];by_cases h2:b<n
   ·rw[xAb h2,xAb (by omega)]
   ·rw[xAa h2,xAa (by omega)]
theorem q5w (w:World) (b:Nat):(z1e w).get b=q5X w b:=by
 simp only[Mem.q2i,z1e,z8E];by_cases h:b<w.heap.size
 ·simp[h]
 ·rw[xAa h];simp[q5X,Array.getElem?_eq_none (Nat.le_of_not_lt h)]
def q3X (G:Nat) (w:World):Phi:=fun b=>
 match w.heap[b]? with
 |some (.cells c _ _)=>some ⟨b,0,c.size,none⟩
 | _=>if b<G then some ⟨b,0,0,none⟩ else none
theorem q7I {G:Nat} {w:World} {b:Nat} (h:isCells w b=true):∃n,q3X G w b=some ⟨b,0,n,none⟩:=by
 unfold isCells at h;unfold q3X;split at h
 ·exact⟨_,rfl⟩
 ·cases h
theorem q6l {G:Nat} {w:World} {b:Nat} {ci:CI} (h:q3X G w b=some ci):ci.c=b/\ci.d=0/\(b<w.heap.size\/b<G):=by
 unfold q3X at h;split at h
 ·rename_i e;cases h;exact⟨rfl,rfl,.inl (xBb.1 e).1⟩
 ·split at h
  ·cases h;exact⟨rfl,rfl,.inr ‹_›⟩
  ·cases h
theorem z6t {G:Nat} {w:World} (v:Value):VR (q3X G w) (absP w v) v:=by
 cases v with
 |string s=>simp only[absP,VR]
 |pointer a=>
  cases a with
  |none=>simp[absP,VR]
  |some a=>
   simp only[absP];split
   ·rename_i h;obtain⟨n,hn⟩:=q7I (G:=G) h.2;simp only[VR];refine⟨_,hn,?_⟩;cases a with
    |mk b o s=>simp only at h;rw[h.1];simp
   ·simp[VR]
 |slice a len cap=>
  cases a with
  |none=>cases len<;>cases cap<;>simp[absP,VR]
  |some a=>
   simp only[absP];by_cases h0:cap=0
   ·rw[xAb h0];subst h0;split
    ·rename_i h;subst h;simp only[VR];exact⟨xFn,xFn,_,rfl,nofun⟩
    ·simp[VR]
   ·rw[xAa h0];split
    ·rename_i h;obtain⟨n,hn⟩:=q7I (G:=G) h.2.1;simp only[VR,SR];refine⟨_,a.off,cap,hn,?_,h.2.2,xnr _,fun _=>rfl,by simp,fun _=>by simp⟩
     cases a with
     |mk b o s=>simp only at h;rw[h.1]
    ·simp[VR]
 |map a=>cases a<;>simp[absP,VR]
 | _=>simp[absP,VR]
theorem a8h {w:World} {v:Value} (h:∀cs,v≠.agg cs):j0D w v=absP w v:=by cases v<;>first|rfl|exact absurd rfl (h _)
theorem a8g {G:Nat} {w:World} (v:Value):VR (q3X G w) (j0D w v) v:=by
 cases v with
 |agg cs=>
  simp only[j0D,VR];refine⟨cs.toList,rfl,VRs.z0U (by simp) fun i a hi=>?_⟩
  simp only[xBi,xoe]at hi;obtain⟨v,h1,rfl⟩:=hi;exact⟨v,h1,z6t v⟩
 | _=>rw[a8h (by simp)];exact z6t _
theorem z3e {G:Nat} {w:World}:∀vs:List Value,VRs (q3X G w) (vs.map (j0D w)) vs
 |[]=>by simp[VRs]
 |v::vs=>by simp only[xBf,VRs];exact⟨v,vs,rfl,a8g v,z3e vs⟩
theorem a8f {P:Program} {w:World} (hG:P.globals.size<=w.heap.size):MR P (q3X P.globals.size w) (z1e w) w where
 has:=fun b v ci h1 h2=>by
  rw[q5w]at h1;unfold q5X at h1;unfold q3X at h2;split at h1
  ·rename_i c el fr e;rw[e]at h2;cases h1;cases h2;refine⟨_,e,c,el,fr,rfl,rfl,(fun h=>by cases h),fun i a hi=>?_⟩
   simp only[xBi,xoe]at hi;obtain⟨v,h3,rfl⟩:=hi;exact⟨v,by simpa using h3,z6t v⟩
  ·cases h1
 inj:=fun b ci b2 ci2 _ h2 h3 h4=>by
  left;rw[<-(q6l h2).1,<-(q6l h3).1,h4]
 bnd:=fun b ci h=>by
  obtain⟨h1,_,h3⟩:=q6l h;rw[h1];omega
 q23:=fun g hg=>by
  unfold q3X;split
  ·exact⟨_,rfl⟩
  ·rw[xAb hg];exact⟨_,rfl⟩
def noM (G:Nat):Mem:=⟨G,.leaf⟩
def j9u (G:Nat):Phi:=fun b=>if b<G then some ⟨b,0,0,none⟩ else none
theorem z7i (G b:Nat):(noM G).get b=none:=by simp[noM,Mem.q2i,PT.z1Q]
theorem b4O {P:Program} {w:World} (hG:P.globals.size<=w.heap.size):MR P (j9u P.globals.size) (noM P.globals.size) w where
 has:=fun b v ci h1=>by rw[z7i]at h1;cases h1
 inj:=fun b ci b2 ci2 h1=>by rw[z7i]at h1;cases h1
 bnd:=fun b ci h=>by
  unfold j9u at h;split at h
  ·cases h;simp only;omega
  ·cases h
 q23:=fun g hg=>⟨0,by simp[j9u,hg]⟩
section
variable {E:Env}
theorem q5D {f : FuncId} {args : List AV} {m : Mem} {r : AV} {m' : Mem} (h : z2O E.P (.fn f) args m r m') {fn : Func} (hfn : E.P.funcs[f]? = some fn) (hb : fn.body.isSome = true) (hn : fn.name ≠ "runtime.NumGoroutine")
  {p:Phi} {w:World} {cargs:List Value} (hm:MR E.P p m w) (hG:GP E.P<=m.next) (hf:q7g p m.next m'.next) (hv:VRs p args cargs) :
  Calls E.P f ⟨cargs⟩ w fun e w'=>∃cv p',e=.returned cv/\VR p' r cv/\Sim E.P p m w p' m' w':=by
 rcases h.2 p w cargs hm hG hf hv with ⟨_,_,_,_,h4⟩|⟨cv,w',p',h1,_⟩
 ·exact h4
 ·exfalso;have hb2:fn.body.isNone=false:=by cases hbb:fn.body<;>simp[hbb]at hb⊢
  have hn2 : (fn.name == "runtime.NumGoroutine") = false := by simpa using hn
  simp only[callFunc,Sem.run_bind,run_program,Result.andThen_ok,hfn,hn2,hb2,xbq,xAh,Sem.run_pure]at h1;cases h1
theorem j9a (hE : q07 E) {f : FuncId} {fn : Func} (hfn : E.P.funcs[f]? = some fn) (hb : fn.body.isSome = true) (hn : fn.name ≠ "runtime.NumGoroutine") {W : World} (hG : GP E.P ≤ W.heap.size) {args : List Value} {b : Bool} {m' : Mem}
  (h:run E (.fn f) (args.map (j0D W)) (z1e W)=some (.bool b,m')):Calls E.P f ⟨args⟩ W fun e W'=>e=.returned (.bool b)/\RowKit.Below W.heap.size W W':=by
 have hfree:q7g (q3X (GP E.P) W) (z1e W).next m'.next:=by
  intro x h1 h2;simp only[z1e]at h1;cases e:q3X (GP E.P) W x with
  |none=>rfl
  |some ci=>have:=(q6l e).2.2;omega
 refine(q5D (q3f hE (.fn f) _ _ _ _ h) hfn hb hn (a8f hG) (by simpa[z1e]using hG) hfree (z3e args)).mono ?_;rintro e W' ⟨cv,p',rfl,h1,h2⟩
 simp only[VR]at h1;subst h1;refine⟨rfl,h2.os,h2.tape,h2.output,h2.size,fun k hk=>?_⟩
 cases hc:isCells W k with
 |true=>
  unfold isCells at hc;split at hc
  ·rename_i c el fr e;have h3:(z1e W).get k=some (.cells (c.toList.map (absP W)) true):=by rw[q5w,q5X,e]
   have h4:q3X (GP E.P) W k=some ⟨k,0,c.size,none⟩:=by unfold q3X;rw[e]
   exact(h2.ro k _ _ h3 h4).2
  ·cases hc
 |false=>
  refine h2.q3d k hk fun b ci h3 h4 h5=>?_
  have h6:=(q6l h4).1;have:b=k:=by omega
  subst this;rw[q5w]at h3;unfold q5X at h3;unfold isCells at hc;split at h3
  ·rename_i e;rw[e]at hc;cases hc
  ·cases h3
end
theorem z7C {P:Program} {W:World} (h:W.ShapedOpen P) (h0:P.globals.size<(begin P (fun _ _=>0) default).world.heap.size):GP P<=W.heap.size:=by
 obtain⟨o,_,h1,_⟩:=h.2 P.globals.size (xnr _) h0;exact Nat.le_of_lt (xBb.1 h1).1
end
section
inductive Hint where
 |z
 |two (a b:Hint)
 |one (a:Hint)
 |pt (live:List Bool) (h:Hint)
 |reg (chk anc:List (List Nat))
def Hint.mark:Hint->Option (List Bool)
 | .pt l _=>some l
 | _=>none
def Hint.rest:Hint->Hint
 | .pt _ h=>h
 |h=>h
def Hint.fst:Hint->Hint
 | .two a _=>a
 | .one a=>a
 | _=>.z
def Hint.snd:Hint->Hint
 | .two _ b=>b
 | _=>.z
def Hint.chk:Hint->List (List Nat)
 | .reg c _=>c
 | _=>[]
def Hint.anc:Hint->List (List Nat)
 | .reg _ a=>a
 | _=>[]
def q4Q (l:Option (List Bool)) (c:AC):AC:=
 match l with
 |some l=>.pt l c
 |none=>c
def q3T:Code->Hint->AC
 | .skip,h=>q4Q h.mark .skip
 | .region id ops draw,h=>q4Q h.mark (.region id ops.toList draw h.rest.chk h.rest.anc)
 | .seq a b,h=>q4Q h.mark (.seq (q3T a h.rest.fst) (q3T b h.rest.snd))
 | .cond c x y,h=>q4Q h.mark (.cond c (q3T x h.rest.fst) (q3T y h.rest.snd))
 | .block id b,h=>q4Q h.mark (.block id (q3T b h.rest.fst))
 | .loop b,h=>q4Q h.mark (.loop (q3T b h.rest.fst))
 | .rangeFunc f ps a b,h=>q4Q h.mark (.rangeFunc f ps.toList (q3T a h.rest.fst) (q3T b h.rest.snd))
 | .scope b,h=>q4Q h.mark (.scope (q3T b h.rest.fst))
 | .exit id,h=>q4Q h.mark (.exit id)
 | .ret,h=>q4Q h.mark .ret
 |c,h=>q4Q h.mark (.other c)
theorem q0Z (l:Option (List Bool)) (c:AC):(q4Q l c).erase=c.erase:=by cases l<;>rfl
theorem q1s:∀(c:Code) (h:Hint),(q3T c h).erase=c
 | .skip,h=>q0Z _ _
 | .region id ops draw,h=>by simp only[q3T,q0Z,AC.erase]
 | .seq a b,h=>by simp only[q3T,q0Z,AC.erase,q1s a,q1s b]
 | .cond c x y,h=>by simp only[q3T,q0Z,AC.erase,q1s x,q1s y]
 | .block id b,h=>by simp only[q3T,q0Z,AC.erase,q1s b]
 | .loop b,h=>by simp only[q3T,q0Z,AC.erase,q1s b]
 | .exit id,h=>q0Z _ _
 | .ret,h=>q0Z _ _
 | .rangeFunc f ps a b,h=>by simp only[q3T,q0Z,AC.erase,q1s a,q1s b]
 | .scope b,h=>by simp only[q3T,q0Z,AC.erase,q1s b]
 | .label _,h=>q0Z _ _
 | .goto _,h=>q0Z _ _
 | .refuse _,h=>q0Z _ _
def q8L (P:Program) (hints:FuncId->Option Hint) (f:FuncId):Option (List ResultVar×Nat×AC):=
 match hints f with
 |none=>none
 |some h=>match P.funcs[f]? with
  |some fn=>match fn.body with
   |some c=>some (fn.results.toList,fn.ntmps,q3T c h)
   |none=>none
  |none=>none
def q46 (P:Program) (hints:FuncId->Option Hint) (f:FuncId):Bool:=
 match hints f with
 |none=>true
 |some h=>match P.funcs[f]? with
  | some fn => decide (fn.name ≠ "runtime.NumGoroutine") && match fn.body with
   |some c=>(q3T c h).ok P
   |none=>true
  |none=>true
def j4s (P:Program) (hints:FuncId->Option Hint) (H:FuncId->Option (List AV->Mem->R)):Env:=⟨P,q8L P hints,H⟩
theorem z88 {P:Program} {hints:FuncId->Option Hint} {H:FuncId->Option (List AV->Mem->R)} (hm:P.follows .mixedOrders=true) (n:Nat) (hn:∀f,n<=f->hints f=none)
  (hl:∀f,f<n->q46 P hints f=true) (hH:∀f h,H f=some h->∀args m r m',h args m=some (r,m')->z2O P (.fn f) args m r m'):q07 (j4s P hints H) where
 mixed:=hm
 hook:=hH
 body:=fun f _ rs nt c h=>by
  have hlt:f<n:=by
   rcases Nat.lt_or_ge f n with h1|h1
   ·exact h1
   ·simp[j4s,q8L,hn f h1]at h
  have hlook:=hl f hlt;simp only[j4s,q8L]at h⊢;unfold q46 at hlook;split at h
  ·cases h
  ·rename_i hh e;simp only[e]at hlook;split at h
   ·rename_i fn e2;simp only[e2,xAc,xAj]at hlook;split at h
    ·rename_i cc e3;cases h;simp only[e3]at hlook;exact⟨fn,e2,by rw[q1s];exact e3,rfl,rfl,hlook.1,hlook.2⟩
    ·cases h
   ·cases h
end
end Go.Abs
