/- LedgerRight: whatever the acts, the book and the numbers, the function returns true and nothing that was there has turned -/
import Derived.Test.YtlginbmjiecglaaGreatDoorW25
import Derived.Handed
import Derived.HandedShaped
import Derived.OpenShut
import Derived.LaidMore
import Derived.Stop.Joined
import Derived.Test.YtlginbmjiecglaaGreatDoorTie
import Derived.Test.YtlginbmjiecglaaGreatDoorCards
import Derived.ProofKit
import Derived.MakeChecks
import Derived.SevenTiedAt
namespace Go.Proofs.YtlginbmjiecglaaGreatDoor
section
set_option maxRecDepth 16000
set_option maxHeartbeats 2000000
open Go Go.Abs
theorem j6t:q0J Tryz.prog .neq 34 (.ptr none) (.ptr none)=some (.bool false):=by kernel_rfl
theorem q79 (st:LSt):q9C st st=true:=by unfold q9C;simp
section
variable {M:Mem} {x:Nat} {sp sq sa:AV} {st:LSt}
theorem z5A (want:Bool) {v:AV} {e:Int} (hB:M.get x=some (.cells [sp,sq,sa,.int .u64 st.latest] false)) (bv:BkV M sp sq sa st) (ok:q2P st) (h:if want=true then ∃lb F,v=.ptr (some ⟨lb,0⟩)/\q0u M lb st F/\q3j st else e=1) :
  ∃m',D30.gor 12289 [.ptr (some ⟨x,0⟩),.bool want,v,.int .i64 e] M=some (.bool true,m'):=by
 have l0:ldN M (.ptr (some ⟨x,0⟩)) 4=some (.agg [sp,sq,sa,.int .u64 st.latest]):=q0C hB rfl;cases want with
 |false=>
  have h:e=1:=by simpa using h
  exact⟨M,by simp only[z8X (H:=H30),T.a8l,p1,p2,ifV,unA,wp,xbf,dt h]⟩
 |true=>
  obtain⟨lb,F,rfl,L,g⟩:∃lb F,v=.ptr (some ⟨lb,0⟩)/\q0u M lb st F/\q3j st:=by simpa using h
  obtain⟨kp,kq,ka,m3,r1,r2,r3,b1,bp,bq,ba,f3,_⟩:=j64 L g.w;have b1:=(a8W (H:=H30) (f:=16) rfl _ _).trans b1;have l3:ldN m3 (.ptr (some ⟨x,0⟩)) 4=some (.agg [sp,sq,sa,.int .u64 st.latest]):=q0C (f3.get hB (by simp)) rfl;have sm:=j0G (H:=H30) rfl (⟨bp.v,bq.v,ba.v⟩:BkV m3 kp kq ka st) (bv.q0k f3) ok.small m3 (Fr.refl _);rw[q79]at sm;exact⟨m3,by simp only[z8X (H:=H30),T.a8l,p1,p2,q1,ifV,unA,wp,xbt,b1,l3,l0,if_true,sm]⟩
theorem q77 (hB:M.get x=some (.cells [sp,sq,sa,.int .u64 st.latest] false)) (bv:BkV M sp sq sa st) (ok:q2P st) (hp:st.q0a.length*40<=q0A) (hq:st.pairs.length*88<=q0A) (ha:st.q0j.length*40<=q0A) :
  ∃m',D30.gor 12288 [.int .i64 st.most,.ptr (some ⟨x,0⟩)] M=some (.bool true,m'):=by
 have l0:ldN M (.ptr (some ⟨x,0⟩)) 4=some (.agg [sp,sq,sa,.int .u64 st.latest]):=q0C hB rfl;obtain⟨tp,tq,ta,rp,rq,ra,M1,c1,t1,t2,t3,f1,_⟩:=j5a bv hp hq ha;have ov:BkV M1 tp tq ta st:=⟨t1.v,t2.v,t3.v⟩;obtain⟨M2,hM2⟩:∃M2,M2=M1.lay (.cells [tp,tq,ta,.int .u64 st.latest] false):=⟨_,rfl⟩;have f2:Fr M1 M2 []:=by rw[hM2];exact(Fr.refl _).lay _
 have s2:stV (M1.lay (.cells [.sl none 0 0 0 true,.sl none 0 0 0 true,.sl none 0 0 0 true,.int .u64 0] false)) (.ptr (some ⟨M1.next,0⟩)) (.agg [tp,tq,ta,.int .u64 st.latest]) 4=some M2:=by rw[q07 (n:=4) (q0e M1 _) rfl rfl (ov.one _),q03,hM2]
 have g2:M2.get M1.next=some (.cells [tp,tq,ta,.int .u64 st.latest] false):=by rw[hM2];exact q0e _ _
 have F2:Fr M M2 []:=f1.step0 f2;have l2:ldN M2 (.ptr (some ⟨x,0⟩)) 4=some (.agg [sp,sq,sa,.int .u64 st.latest]):=q0C (F2.get hB (by simp)) rfl;obtain⟨M3,e3,f3⟩:=j4t (bv.q0k F2) ok;have l3:ldN M3 (.ptr (some ⟨M1.next,0⟩)) 4=some (.agg [tp,tq,ta,.int .u64 st.latest]):=q0C (f3.get g2 (by simp)) rfl
 have ov3:=(ov.q0k f2).q0k f3;have F3:=F2.step0 f3;have rest:∀(M4:Mem) (v:AV) (e:Int),Fr M3 M4 []->(if q2p st=true then ∃lb F,v=.ptr (some ⟨lb,0⟩)/\q0u M4 lb st F/\q3j st else e=1)->(v=.ptr none/\q2p st=false\/q2p st=true/\∃lb,v=.ptr (some ⟨lb,0⟩))->decide (e=0)=q2p st->
   run E30 (.fn 12) [.agg [tp,tq,ta,.int .u64 st.latest],.int .i64 st.most] M3=some (.tup [v,.int .i64 e],M4)->∃m',D30.gor 12288 [.int .i64 st.most,.ptr (some ⟨x,0⟩)] M=some (.bool true,m'):=by
  intro M4 v e f4 hl hv he hr;have kn:=j31 (H:=H30) rfl M4;have F4:=F3.step0 f4;have l4:ldN M4 (.ptr (some ⟨M1.next,0⟩)) 4=some (.agg [tp,tq,ta,.int .u64 st.latest]):=q0C (f4.get (f3.get g2 (by simp)) (by simp)) rfl
  have k4:ldN M4 (.ptr (some ⟨x,0⟩)) 4=some (.agg [sp,sq,sa,.int .u64 st.latest]):=q0C (F4.get hB (by simp)) rfl;have ri:=q9x (H:=H30) rfl ov3 ok M4 f4;have sm:=j0G (H:=H30) rfl (ov3.q0k f4) (bv.q0k F4) ok.small M4 (Fr.refl _);rw[q79]at sm;obtain⟨m',en⟩:=z5A (x:=x) (q2p st) (e:=e) (F4.get hB (by simp)) (bv.q0k F4) ok hl;refine⟨m',?_⟩;rcases hv with ⟨rfl,hw⟩|⟨hw,lb,rfl⟩
  ·rw[hw]at e3 ri en he;simp only[z8W (H:=H30),T.a8k,q1,pB,p1,p2,q0l,q0b,ifV,unA,j6C,l0,c1,s2,l2,e3,l3,hr,kn,xbt,l4,ri,beq_self_eq_true,j6t,he,k4,sm,en]
  ·rw[hw]at e3 ri en he;simp only[z8W (H:=H30),T.a8k,q1,pB,p1,p2,q0l,q0b,ifV,unA,j6C,l0,c1,s2,l2,e3,l3,hr,kn,xbt,l4,ri,beq_self_eq_true,he,k4,sm,en]
 cases hw:q2p st with
 |false=>
  obtain⟨M4,h4,f4⟩:=j1z ov3 ok hw;have h4':=(a7k (H:=H30) (f:=12) rfl _ _).trans h4;exact rest M4 _ _ f4 (by rw[hw];simp) (.inl ⟨rfl,hw⟩) (by rw[hw];decide) h4'
 |true=>
  have g:=z0G ok hw;obtain⟨lb,M4,F,h4,L4,f4,hF4⟩:=j72 ov3 g;have h4':=(a7k (H:=H30) (f:=12) rfl _ _).trans h4;exact rest M4 _ _ f4 (by rw[if_pos hw];exact⟨lb,F,rfl,L4,g⟩) (.inr ⟨hw,lb,rfl⟩) (by rw[hw];decide) h4'
end
theorem z9M (m:Mem) {sa0 kp kq ka:AV} {acts:List (Int×Int×Int×Int)} (hv0:z5U 4 m sa0 (acts.map j6L)) (hN:∀a∈acts,i64 a.2.2.2) (hco:∃ro,m.get 1=some (.cells z4M ro)) (hcl:∃ro,m.get 0=some (.cells z6x ro))
  {st:LSt} (kv:BkV m kp kq ka st) (ok:q2P st) (hp:st.q0a.length*40<=q0A) (hq:st.pairs.length*88<=q0A) (ha:st.q0j.length*40<=q0A) (how most:Int) {n:Int} (hn1:-9223372036854775808<=n) (hn2:n<9223372036854775808) (is:Bool) :
  ∃m',run E30 (.fn 3) [sa0,.agg [kp,kq,ka,.int .u64 st.latest],.int .i64 how,.int .i64 n,.int .i64 most,.bool is] m=some (.bool true,m'):=by
 obtain⟨rl,hcl⟩:=hcl;obtain⟨M1,hM1⟩:∃M1,M1=m.lay (.cells [kp,kq,ka,.int .u64 st.latest] false):=⟨_,rfl⟩;have f1:Fr m M1 []:=by rw[hM1];exact(Fr.refl _).lay _
 have n1:M1.next=m.next+1:=by rw[hM1];rfl
 have g1:M1.get m.next=some (.cells [kp,kq,ka,.int .u64 st.latest] false):=by rw[hM1];exact q0e _ _
 have l1:ldN M1 (.ptr (some ⟨m.next,0⟩)) 4=some (.agg [kp,kq,ka,.int .u64 st.latest]):=q0C g1 rfl
 obtain⟨M2,hM2⟩:∃M2,M2=M1.lay (.cells [kp,kq,ka,.int .u64 st.latest] false):=⟨_,rfl⟩;have f2:Fr M1 M2 []:=by rw[hM2];exact(Fr.refl _).lay _
 have n2:M2.next=m.next+2:=by rw[hM2];show M1.next+1=_;omega
 have s2:stV (M1.lay (.cells [.sl none 0 0 0 true,.sl none 0 0 0 true,.sl none 0 0 0 true,.int .u64 0] false)) (.ptr (some ⟨m.next+1,0⟩)) (.agg [kp,kq,ka,.int .u64 st.latest]) 4=some M2:=by rw[<-n1,q07 (n:=4) (q0e M1 _) rfl rfl (kv.one _),q03,hM2]
 have g2:M2.get (m.next+1)=some (.cells [kp,kq,ka,.int .u64 st.latest] false):=by rw[hM2,<-n1];exact q0e _ _
 have F2:Fr m M2 []:=f1.step0 f2;cases is with
 |false=>
  obtain⟨m',en⟩:=q77 (st:={st with most:=most}) g2 (⟨(kv.q0k F2).p,(kv.q0k F2).q,(kv.q0k F2).a⟩:BkV M2 kp kq ka {st with most:=most}) ⟨ok.small,ok.p,ok.q,ok.a,ok.lat⟩ hp hq ha
  refine⟨m',?_⟩;simp only[a1N (H:=H30) rfl,T.f3,q1,pB,q0N,q0b,wp,AV.cells,on1,lcs,if_true,xom,Mem.q0q,kv.p.one,kv.q.one,kv.a.one,<-hM1,l1,s2];exact en
 |true=>
  obtain⟨s1,sp,sq,sa,m3,h3,g,hmost,hbk,f3⟩:=j3Z (hv0.q0k F2) hN (hco.imp fun _ h=>F2.get h (by simp)) (most:=8) (by omega)
  have h3':=(z5w (H:=H30) (f:=9) rfl _ _).trans h3;have w:=g.w;obtain⟨tp,tq,ta,rp,rq,ra,m4,c4,t1,t2,t3,f4,q1,q2,q3,q4,q5,q6⟩:=j65 hbk.v w;have F4:Fr M2 m4 []:=f3.step0 f4;have n3:=f3.next
  have l3:ldN m3 (.ptr (some ⟨m.next,0⟩)) 4=some (.agg [kp,kq,ka,.int .u64 st.latest]):=q0C (f3.get (f2.get g1 (by simp)) (by simp)) rfl
  have l2:ldN M2 (.ptr (some ⟨m.next,0⟩)) 4=some (.agg [kp,kq,ka,.int .u64 st.latest]):=q0C (f2.get g1 (by simp)) rfl
  have l4:ldN m4 (.ptr (some ⟨m.next,0⟩)) 4=some (.agg [kp,kq,ka,.int .u64 st.latest]):=q0C (F4.get (f2.get g1 (by simp)) (by simp)) rfl
  obtain⟨up,uq,ua,s5,M5,e5,bv5,ok5,len5,f5⟩:=j0U t1 t2 t3 kv.p.one kv.q.one kv.a.one ⟨q4,q5,q6⟩ (z0T g) ⟨w.lp,w.lq,w.la⟩ (m0:=M2) F4 ⟨by omega,by omega,by omega⟩ ((F2.step0 F4).get hcl (by simp)) ok.lat how hn1 hn2;obtain⟨M6,hM6⟩:∃M6,M6=M5.put (m.next+1) (some (.cells [up,uq,ua,.int .u64 s5.latest] false)):=⟨_,rfl⟩
  have g5:=f5.get g2 (by simp);have s6:stV M5 (.ptr (some ⟨m.next+1,0⟩)) (.agg [up,uq,ua,.int .u64 s5.latest]) 4=some M6:=by rw[q07 (n:=4) g5 rfl rfl ((bv5 M5 [] (Fr.refl _) (by simp)).one _),hM6]
  have g6:M6.get (m.next+1)=some (.cells [up,uq,ua,.int .u64 s5.latest] false):=by rw[hM6];exact q0w g5
  have pk:=q0Z (H:=H30) rfl M6 most (n:=9) (by omega) (by omega);have wn:IntKind.wrap .i64 (1+most % 9)=1+most % 9:=wrap_i64 (by omega) (by omega);have bv6:BkV M6 up uq ua s5:=bv5 M6 [m.next+1] (by rw[hM6];exact Fr.put _ _ _) (by simp;omega)
  obtain⟨m',en⟩:=q77 (st:={s5 with most:=1+most % 9}) g6 (⟨bv6.p,bv6.q,bv6.a⟩:BkV M6 up uq ua {s5 with most:=1+most % 9}) ⟨ok5.small,ok5.p,ok5.q,ok5.a,ok5.lat⟩ (q04 (by show s5.q0a.length<=4096;omega) (by decide)) (q04 (by show s5.pairs.length<=4096;omega) (by decide)) (q04 (by show s5.q0j.length<=4096;omega) (by decide))
  refine⟨m',?_⟩;simp only[a1N (H:=H30) rfl,T.f3,pB,p2,q0N,q0b,wp,AV.cells,on1,lcs,if_true,xom,Mem.q0q,kv.p.one,kv.q.one,kv.a.one,<-hM1,l1,s2,h3',c4,l2,l3,l4,e5,s6,pk,wn];exact en
end
end Go.Proofs.YtlginbmjiecglaaGreatDoor
namespace Go.Abs
section
open Go Go.ChangeShapes Go.WideShapes Go.ChangeAt Go.RowKit
theorem q5E {H:Type} {enc:TypeId×Value->H} {a:Assume} {C:Checked} {os:Os} {f:FuncId} {fn:Func} {s:ChangeSpec} {conds:List PathCond} {apart fresh handsOn again:Bool} {X:World->Array Value->Prop}
  (hX:∀(w w':World) (args:Array Value),w.heap=w'.heap->X w args->X w' args)
  (own:ownKnob C.prog.godebug=none) (started:os.Started) (noInit:C.prog.inits.idxOf? f=none) (hfn:C.prog.funcs[f]? = some fn)
  (witness:∃(w:World) (tape:Tape) (i:Input),w.os=os/\(w.forCall tape i).Shaped C.prog/\i.vars=[]/\Input.okWide C.prog (w.forCall tape i) .any w.heap.size f i/\
   ((s.pre enc C.prog fn conds apart (w.forCall tape i).memory i.args/\X (w.forCall tape i).memory i.args)/\sizedMet enc C.prog fn (OpenSpec.ofChange s) apart (w.forCall tape i).memory i.args)/\a.holds C.prog (lone (Frame.enter C.prog f i.args .normal) [] (w.forCall tape i)))
  (contract:∀(W:World) (base:Nat) (args:Array Value) (ds gs:List (DataW H)) (before:List MemPlace),
   (∀(j:Nat) t v,fn.params[j]? = some t->args[j]? = some v->Value.okWide C.prog W .any base t v)->
   DataW.Whole enc C.prog fn.params.toList s.vars apart W args.toList ds gs before->
   conds.all (PathCond.test C.prog ⟨fn.params.toList,ds,s.plain.varTypes C.prog,gs⟩)=true->
   (DataW.weightsEach C.prog (fn.params.toList++s.plain.varTypes C.prog) (ds++gs)).all (·<=reachBytes)=true->X W args->W.ShapedOpen C.prog->
   a.holds C.prog (lone (Frame.enter C.prog f args .normal) [] W)->
   Calls C.prog f args W fun e W'=>∃v,e=.returned v/\s.post enc C.prog fn apart fresh handsOn again W args v W') :
  ReturnsInHanded a C os f .any (fun w args=>(s.pre enc C.prog fn conds apart w args/\X w args)/\sizedMet enc C.prog fn (OpenSpec.ofChange s) apart w args) (s.post enc C.prog fn apart fresh handsOn again):=by
 refine returnsInHanded_of_calls own started noInit witness ?_;intro w tape i _ hsh _ hok hpre hholds;obtain⟨_,_,_,fn',hfn',_,_,_,_,hval⟩:=hok;have e:fn'=fn:=xsj (hfn'.symm.trans hfn);subst e;obtain⟨⟨⟨ds,gs,before,hw,hc⟩,hx⟩,hz⟩:=hpre;have hw':=DataW.Whole.of_heap (w':=w.forCall tape i) (by rfl) hw;refine(contract (w.forCall tape i) w.heap.size i.args ds gs before hval hw' hc (hz.weights hw) (hX _ _ _ (by rfl) hx) hsh hholds).mono fun e W' ⟨v,he,hp⟩=>?_
 subst he;exact ChangeSpec.post_blind hp
section
variable {P:Program} {W:World} {H:Type} {enc:TypeId×Value->H} {t e:TypeId} {b:Nat} {sp:Nat->Bool} {held:Bool} {f n:Nat}
theorem z0K {cs:List Value} {ss:List (List UInt8)} {p:List MemPlace} (hd:DataW.trod enc P W b sp held f t cs=some (.agg (ss.map fun s=>.lit (.string s)),p)) (ht:P.underlying t=some (.array n e)) (he:P.underlying e=some .string) (hc:P.cellsOf e=1) (hct:P.cellsOf t=n) :
  cs.map (absP W)=ss.map AV.str:=by
 obtain⟨xs,m,rfl,hx,hl,hn,hel⟩:=DataW.trod_array ht hd;simp only[Prod.mk.injEq,DataW.agg.injEq]at hx;have hxl:ss.length=n:=by have:=congrArg List.length hx.1;simp at this;omega
 apply List.ext_getElem?;intro i;by_cases hi:i<n
 ·have h1:=hel i hi;rw[hc,Nat.mul_one,xgq (by omega)]at h1;obtain⟨s,e1,e2,_⟩:=DataW.trod_string he h1;have h2:cs[i]? = some (.string s):=by
   have:((cs.drop i).take 1)[0]? = some (.string s):=by rw[e1];rfl
   rw[List.getElem?_take,if_pos (by omega),List.getElem?_drop,xna]at this;exact this
  have h3:ss[i]? = some s.data.toList:=by
   have h4:=congrArg (fun l=>l[i]?) hx.1
   simp only[List.getElem?_map]at h4;rw[xgq (by omega),xgq (by omega),e2]at h4;simp only[xom,xoi,DataW.lit.injEq,Lit.string.injEq]at h4;rw[xgq (by omega),h4]
  rw[List.getElem?_map,List.getElem?_map,h2,h3];rfl
 ·rw[List.getElem?_eq_none (by simp;omega),List.getElem?_eq_none (by simp;omega)]
theorem j0Y {nm:String} {g:Nat} {cs:Array Value} (hg:P.globalNamed nm=some g) (h:W.var? P nm=some cs):(q8k W).get g=some (.cells (cs.toList.map (absP W)) true):=by
 simp only[World.var?,hg,Option.bind_some]at h;rw[q4e];unfold q4v;split at h
 ·rename_i e;cases h;rw[e]
 ·cases h
end
end
section
open Go
section
variable {P:Program} {W:World} {H:Type} {enc:TypeId×Value->H} {t e:TypeId} {v:Value} {base:Nat}
theorem q7s:∀{l:List (DataW H)} {y:DataW H},y∈l->∀k,k∈y.weights P e->k∈DataW.weightsAll P e l
 |a::l,y,hy,k,hk=>by
  simp only[DataW.weightsAll,xma];rcases xmk0.1 hy with rfl|hy
  ·exact .inl hk
  ·exact .inr (q7s hy k hk)
theorem q9K (ht:P.underlying t=some (.slice e)) {l s:List (DataW H)} {y:DataW H} (hy:y∈l):∀k,k∈y.weights P e->k∈(DataW.slice l s).weights P t:=fun k hk=>by
 simp only[DataW.weights,ht,xmk0,xma];exact .inr (.inl (q7s hy k hk))
theorem trod_string {b:Nat} {sp:Nat->Bool} {held:Bool} {m:Nat} {V:Value} {x:DataW H×List MemPlace} (ht:P.underlying t=some .string)
  (h:DataW.trod enc P W b sp held m t [V]=some x):∃s:ByteArray,V=.string s/\s.data.toList.length∈x.1.weights P t:=by
 cases m with
 |zero=>simp[DataW.trod]at h
 |succ m=>
  simp only[DataW.trod,ht]at h;cases V<;>simp only at h<;>first|(cases h;done)|skip
  split at h
  ·cases h;exact⟨_,rfl,by simp[DataW.weights]⟩
  ·cases h
theorem q57 {b:Nat} {sp:Nat->Bool} {held:Bool} {m:Nat} {cs:List Value}:∀{l:List Field} {r:List (DataW H×List MemPlace)},(l.mapM fun f=>DataW.trod enc P W b sp held m f.type ((cs.drop f.offset).take (P.cellsOf f.type)))=some r->
  ∀f∈l,∃y,DataW.trod enc P W b sp held m f.type ((cs.drop f.offset).take (P.cellsOf f.type))=some y/\∀k,k∈y.1.weights P f.type->k∈DataW.weightsEach P (l.map (·.type)) (r.map (·.1))
 |a::l,r,h,f,hf=>by
  rw[List.mapM_cons]at h;obtain⟨y,h1,h2⟩:=be h;obtain⟨r',h3,h4⟩:=be h2;cases h4;simp only[List.map_cons,DataW.weightsEach,xma];rcases xmk0.1 hf with rfl|hf
  ·exact⟨y,h1,fun k hk=>.inl hk⟩
  ·obtain⟨y',e1,e2⟩:=q57 h3 f hf;exact⟨y',e1,fun k hk=>.inr (e2 k hk)⟩
theorem z1l {fs:Array Field} {b:Nat} {sp:Nat->Bool} {held:Bool} {m:Nat} {cs:List Value} {x:DataW H×List MemPlace} (ht:P.underlying t=some (.struct fs))
  (h:DataW.trod enc P W b sp held m t cs=some x) :
  ∃m',cs.length=P.cellsOf t/\∀f∈fs.toList,∃y,DataW.trod enc P W b sp held m' f.type ((cs.drop f.offset).take (P.cellsOf f.type))=some y/\∀k,k∈y.1.weights P f.type->k∈x.1.weights P t:=by
 cases m with
 |zero=>simp[DataW.trod]at h
 |succ m=>
  simp only[DataW.trod,ht]at h;split at h
  ·rename_i h1;obtain⟨r,h2,rfl⟩:=xoe.1 h;refine⟨m,h1,fun f hf=>?_⟩
   obtain⟨y,e1,e2⟩:=q57 h2 f hf;exact⟨y,e1,fun k hk=>by simp only[DataW.weights,ht];exact e2 k hk⟩
  ·cases h
theorem j0t {fits:TypeId->Bool}:∀{d:Nat} {e:TypeId} {count off n:Nat},rowAt P fits d e count off n=true->off<=count*P.cellsOf e
 | 0,e,count,off,n,h=>by simp[rowAt]at h
 |d+1,e,count,off,n,h=>by
  unfold rowAt at h;simp only at h;split at h
  ·cases h
  ·have hm:=Nat.div_add_mod off (P.cellsOf e);have hl:=Nat.mod_lt off (Nat.pos_of_ne_zero ‹_›);rw[Bool.or_eq_true]at h;rcases h with h|h
   ·simp only[Bool.and_eq_true,beq_iff_eq,decide_eq_true_eq]at h;have h2:P.cellsOf e*(off / P.cellsOf e)<=P.cellsOf e*count:=Nat.mul_le_mul_left _ (by omega);rw[Nat.mul_comm count];omega
   ·rw[Bool.and_eq_true,decide_eq_true_eq]at h;have h2:P.cellsOf e*(off / P.cellsOf e+1)<=P.cellsOf e*count:=Nat.mul_le_mul_left _ h.1;rw[Nat.mul_succ]at h2;rw[Nat.mul_comm count];omega
theorem q7W:∀{d:Nat} {e:TypeId} {count off:Nat} {u:TypeId} {n:Nat},liesAt P d e count off u n=true->off<=count*P.cellsOf e
 | 0,e,count,off,u,n,h=>by simp[liesAt]at h
 |d+1,e,count,off,u,n,h=>by
  unfold liesAt at h;rw[Bool.or_eq_true]at h;rcases h with h|h
  ·exact j0t h
  ·split at h
   ·exact q7W h
   ·cases h
theorem z4H {d:DataW H} {p:List MemPlace} (ht:P.underlying t=some (.slice e)) (h:Value.okWide P W .any base t v) (hr:DataW.Trod enc P W 0 (fun _=>true) true t v d p) :
  z1p W v=.sl none 0 0 0 true\/
  ∃(a:AA) (len cap:Nat) (cs:List Value),z1p W v=.sl (some a) 0 len cap true/\len<=cap/\(q8k W).get a.b=some (.cells (cs.map (absP W)) true)/\
   (∃m,∀i,i<len->((cs.drop (a.o+i*P.cellsOf e)).take (P.cellsOf e)).length=P.cellsOf e/\
    ∃y,DataW.trod enc P W 0 (fun _=>true) true m e ((cs.drop (a.o+i*P.cellsOf e)).take (P.cellsOf e))=some y/\∀k,k∈y.1.weights P e->k∈d.weights P t)/\a.o<=cs.length/\∃k,k∈d.weights P t/\len*P.bytesOf e<=k:=by
 unfold Value.okWide at h;simp only[ht]at h;unfold Cell.okWide at h;simp only[ht]at h;unfold Cell.ok at h;simp only[ht]at h;obtain⟨fuel,hr⟩:=hr;cases v<;>first|exact False.elim h|skip
 rename_i a len cap;cases a with
 |none=>
  left;cases len with
  |zero=>cases cap with
   |zero=>rfl
   |succ n=>exact False.elim h
  |succ n=>exact False.elim h
 |some a=>
  right;simp only at h;obtain⟨h1,h2,_,h3,row,n,h4,h5⟩:=h;unfold World.shape? at h4;split at h4
  ·rename_i c el fr hc;rcases Go.Deep.open_slice ht hr with ⟨h6,_⟩|⟨a',len',cap',mm,n',D,Pl,h6,_,_,_,h7,hd,h8⟩
   ·simp[Value.cells]at h6
   ·simp only[Value.cells,List.cons.injEq,and_true]at h6;injection h6 with e1 e2 e3
    cases e1;subst e2;subst e3;cases hd;cases h4;refine⟨⟨a.block,a.off⟩,len,cap,c.toList,?_,h1,?_,⟨n',fun i hi=>?_⟩,?_,(len+(mm-len))*P.bytesOf e,?_,Nat.mul_le_mul_right _ (by omega)⟩
    ·simp[z1p,absP,h3,isCells,hc,h1]
    ·rw[q4e,q4v,hc]
    ·obtain⟨cs',h9,h10⟩:=h8 i (by rw[h7];simp;omega);obtain⟨_,h11,h12⟩:=World.cells?_some h9;have:(c.toList.drop (a.off+i*P.cellsOf e)).take (P.cellsOf e)=cs':=by
      apply List.ext_getElem?;intro j;rw[List.getElem?_take,List.getElem?_drop];split
      ·rename_i hj;rw[<-h12 j hj];rw[q6e h3,q6e rfl];simp[World.cell?,hc]
      ·rw[List.getElem?_eq_none (by omega)]
     simp only;rw[this];exact⟨h11,_,h10,q9K ht (List.mem_map.2 ⟨i,List.mem_range.2 hi,rfl⟩)⟩
    ·have h9:=q7W h5;have h10:=Nat.div_mul_le_self c.size (P.cellsOf row);simp only[Array.length_toList];omega
    ·simp[DataW.weights,ht]
  ·cases h4
theorem z6g {α:Type} [Inhabited α] {f:α->List AV} {Q:α->Prop} {n B:Nat} (hn0:0<n) {d:DataW H} {p:List MemPlace} (ht:P.underlying t=some (.slice e)) (hn:P.cellsOf e=n) (h:Value.okWide P W .any base t v) (hr:DataW.Trod enc P W 0 (fun _=>true) true t v d p)
  (hB:∀k,k∈d.weights P t->k<=B)
  (hel:∀(m:Nat) (cs:List Value) (y:DataW H×List MemPlace),cs.length=n->DataW.trod enc P W 0 (fun _=>true) true m e cs=some y->(∀k,k∈y.1.weights P e->k<=B)->∃a,cs.map (absP W)=f a/\Q a) (hf:∀a,(f a).length=n/\(f a).all AV.one=true) :
  ∃l:List α,q3K n (q8k W) (z1p W v) (l.map f)/\(∀a∈l,Q a)/\l.length*P.bytesOf e<=B:=by
 rcases z4H ht h hr with h|⟨a,len,cap,cs,h1,h2,h3,⟨m,h4⟩,ho,k,hk1,hk2⟩
 ·exact⟨[],⟨by simp,.inl ⟨rfl,_,_,_,h⟩⟩,by simp,by simp⟩
 ·rw[hn]at h4;have h5:∀i,i<len->∃x,((cs.drop (a.o+i*n)).take n).map (absP W)=f x/\Q x:=fun i hi=>by
   obtain⟨h6,y,h7,h8⟩:=h4 i hi;exact hel m _ y h6 h7 fun k hk=>hB k (h8 k hk)
  obtain⟨g,hg⟩:=Go.Deep.choose_lt h5;refine⟨(List.range len).map g,⟨fun x hx=>?_,.inr ⟨a.b,a.o,0,cap,true,true,cs.map (absP W),?_,.inr rfl,h3,?_,?_⟩⟩,fun x hx=>?_,by rw[xlm,List.length_range];exact xnt0 hk2 (hB k hk1)⟩
  ·obtain⟨y,_,rfl⟩:=List.mem_map.1 hx;exact hf y
  ·simpa using h1
  ·by_cases h0:len=0
   ·subst h0;simpa using ho
   have h6:=(h4 (len-1) (by omega)).1;simp only[xlt0,xld0]at h6;simp only[xlm,List.length_range];have e:len*n=(len-1)*n+n:=by rw[<-Nat.succ_mul];congr 1;omega
   omega
  ·rw[xlm,xlm,List.length_range,List.map_map];have:=z2k (cs:=cs.map (absP W)) (o:=a.o) (n:=n) (fun i=>f (g i)) len fun i hi=>by
    rw[<-List.map_drop,<-List.map_take];exact(hg i hi).1
   exact this
  ·obtain⟨i,hi,rfl⟩:=List.mem_map.1 hx;exact(hg i (List.mem_range.1 hi)).2
end
end
section
open Go
section
variable {P:Program} {W:World} {H:Type} {enc:TypeId×Value->H} {t e u:TypeId} {base B m:Nat} {fs:Array Field} {cs:List Value}
def Rd (enc:TypeId×Value->H) (P:Program) (W:World) (B m:Nat) (fs:Array Field) (cs:List Value):Prop:=
 ∀f∈fs.toList,∃y,DataW.trod enc P W 0 (fun _=>true) true m f.type ((cs.drop f.offset).take (P.cellsOf f.type))=some y/\∀k,k∈y.1.weights P f.type->k<=B
theorem Rd.of {x:DataW H×List MemPlace} (ht:P.underlying t=some (.struct fs)) (h:DataW.trod enc P W 0 (fun _=>true) true m t cs=some x) (hB:∀k,k∈x.1.weights P t->k<=B):∃m',cs.length=P.cellsOf t/\Rd enc P W B m' fs cs:=by
 obtain⟨m',h1,h2⟩:=z1l ht h;exact⟨m',h1,fun f hf=>let ⟨y,a,b⟩:=h2 f hf;⟨y,a,fun k hk=>hB k (b k hk)⟩⟩
theorem cell1 {o:Nat} (h:o<cs.length):(cs.drop o).take 1=[cs[o]]:=by rw[List.drop_eq_getElem_cons h,List.take_succ_cons,List.take_zero]
theorem Rd.int (h:Rd enc P W B m fs cs) {o:Nat} {k:IntKind} (hg:∃g∈fs.toList,g.offset=o/\P.underlying g.type=some (.int k)/\P.cellsOf g.type=1) (ho:o<cs.length):∃n,cs[o]? = some (.int k n)/\k.min<=n/\n<=k.max:=by
 obtain⟨g,g1,rfl,g3,g4⟩:=hg;obtain⟨y,hy,_⟩:=h g g1;rw[g4,cell1 ho]at hy;obtain⟨n,r1,r2,r3⟩:=trod_int g3 hy;exact⟨n,by rw[xgq ho,r1],r2,r3⟩
theorem Rd.str (h:Rd enc P W B m fs cs) {o:Nat} (hg:∃g∈fs.toList,g.offset=o/\P.underlying g.type=some .string/\P.cellsOf g.type=1) (ho:o<cs.length):∃s:ByteArray,cs[o]? = some (.string s)/\s.data.toList.length<=B:=by
 obtain⟨g,g1,rfl,g3,g4⟩:=hg;obtain⟨y,hy,hB⟩:=h g g1;rw[g4,cell1 ho]at hy;obtain⟨s,r1,r2⟩:=trod_string g3 hy;exact⟨s,by rw[xgq ho,r1],hB _ r2⟩
theorem Rd.sub (h:Rd enc P W B m fs cs) {o n:Nat} {gs:Array Field} (hg:∃g∈fs.toList,g.offset=o/\P.underlying g.type=some (.struct gs)/\P.cellsOf g.type=n):∃m',Rd enc P W B m' gs ((cs.drop o).take n):=by
 obtain⟨g,g1,rfl,g3,rfl⟩:=hg;obtain⟨y,hy,hB⟩:=h g g1;obtain⟨m',_,r⟩:=Rd.of g3 hy hB;exact⟨m',r⟩
theorem Rd.wide (h:Rd enc P W B m fs cs) {o:Nat} {gs:Array Field} (hg:∃g∈fs.toList,g.offset=o/\P.underlying g.type=some (.struct gs)/\P.cellsOf g.type=2)
  (h0:∃g∈gs.toList,g.offset=0/\P.underlying g.type=some (.int .i64)/\P.cellsOf g.type=1) (h1:∃g∈gs.toList,g.offset=1/\P.underlying g.type=some (.int .u64)/\P.cellsOf g.type=1) (ho:o+2<=cs.length) :
  ∃w:Wd,w.ok/\cs[o]? = some (.int .i64 w.hi)/\cs[o+1]? = some (.int .u64 w.lo):=by
 obtain⟨m',r⟩:=h.sub hg;have hl:((cs.drop o).take 2).length=2:=by simp;omega
 obtain⟨a,a1,a2,a3⟩:=r.int h0 (by omega);obtain⟨b,b1,b2,b3⟩:=r.int h1 (by omega);rw[List.getElem?_take,if_pos (by omega),List.getElem?_drop]at a1 b1;have e1:IntKind.i64.min=-9223372036854775808:=by decide
 have e2:IntKind.i64.max=9223372036854775807:=by decide
 have e3:IntKind.u64.min=0:=by decide
 have e4:IntKind.u64.max=18446744073709551615:=by decide
 exact⟨⟨a,b⟩,by unfold Wd.ok;simp only;omega,a1,b1⟩
theorem j08 {v:Value} (ht:P.underlying t=some .bool) (h:Value.okWide P W .any base t v):∃b,v=.bool b:=by
 unfold Value.okWide at h;simp only[ht]at h;unfold Cell.okWide at h;simp only[ht]at h;unfold Cell.ok at h;simp only[ht]at h;cases v<;>first|exact False.elim h|exact⟨_,rfl⟩
theorem q5I {α:Type} [Inhabited α] {f:α->List AV} {Q:α->Prop} {n:Nat} (hn0:0<n) {c:Value} {y:DataW H×List MemPlace} (ht:P.underlying u=some (.slice e)) (hn:P.cellsOf e=n) (hc:Cell.okWide P W .any base u c) (hy:DataW.trod enc P W 0 (fun _=>true) true m u [c]=some y) (hB:∀k,k∈y.1.weights P u->k<=B)
  (hel:∀(m:Nat) (cs:List Value) (y:DataW H×List MemPlace),cs.length=n->DataW.trod enc P W 0 (fun _=>true) true m e cs=some y->(∀k,k∈y.1.weights P e->k<=B)->∃a,cs.map (absP W)=f a/\Q a) (hf:∀a,(f a).length=n/\(f a).all AV.one=true) :
  ∃l:List α,q3K n (q8k W) (absP W c) (l.map f)/\(∀a∈l,Q a)/\l.length*P.bytesOf e<=B:=by
 have hv:Value.okWide P W .any base u c:=by unfold Value.okWide;simp only[ht];exact hc
 have hc1:c.cells=#[c]/\z1p W c=absP W c:=by
  unfold Cell.okWide at hc;simp only[ht]at hc;unfold Cell.ok at hc;simp only[ht]at hc;cases c<;>first|exact False.elim hc|exact⟨rfl,rfl⟩
 have:=z6g (d:=y.1) (p:=y.2) hn0 ht hn hv ⟨m,by rw[hc1.1];exact hy⟩ hB hel hf
 rwa [hc1.2]at this
end
end
end Go.Abs
namespace Go.Proofs.YtlginbmjiecglaaGreatDoor
section
open Go Go.Abs Go.ChangeShapes Go.WideShapes Go.ChangeAt Go.RowKit
set_option maxRecDepth 100000
theorem Tryz.a97:ownKnob Tryz.prog.godebug=none:=by kernel_rfl
theorem Tryz.j32:laidOutB Tryz.prog=true:=by kernel_rfl
theorem j6V:Tryz.prog.globals.size<(begin Tryz.prog (fun _ _=>0) default).world.heap.size:=of_decide_eq_true (by kernel_rfl)
abbrev z9E : List (String × DataW Unit) := [("bursar/bursarhand.coins", Rows.laid_bursar_bursarhand_coins), ("bursar/bursarlaw19.coins", Rows.laid_bursar_bursarlaw19_coins)]
theorem j6p : Tryz.prog.globalNamed "bursar/bursarhand.coins" = some 1 := by kernel_rfl
theorem a7y:(Tryz.prog.globals[1]?).map (·.type)=some 79:=by kernel_rfl
theorem z9h : Tryz.prog.globalNamed "bursar/bursarlaw19.coins" = some 0 := by kernel_rfl
theorem a0L:(Tryz.prog.globals[0]?).map (·.type)=some 70:=by kernel_rfl
theorem j1u (os:Os) (args:Array Value):laidMetH Tryz.prog z9E ((World.doorLaid Tryz.prog 400 os).forCall (fun _ _=>0) ⟨#[],args,[]⟩).memory:=
 laidMetH_of_parts3 (fuel:=8) (laidMet_of_run' 8 (by kernel_rfl) (by kernel_rfl)) (by kernel_rfl) (by kernel_rfl)
theorem j1k {W:World} (h:laidMetH Tryz.prog z9E W):(∃ro,(q8k W).get 1=some (.cells z4M ro))/\∃ro,(q8k W).get 0=some (.cells z6x ro):=by
 rw[MakeChecks.laidMetH_plain _ _ _ (by kernel_rfl)]at h;obtain⟨ps,⟨g0,t0,cs0,f0,p0,q0,hg0,ht0,hv0,hd0,⟨g1,t1,cs1,f1,p1,q1,hg1,ht1,hv1,hd1,_,_⟩,_⟩,_,_⟩:=h;obtain rfl:=xsj (j6p.symm.trans hg0);obtain rfl:=xsj (a7y.symm.trans ht0);obtain rfl:=xsj (z9h.symm.trans hg1);obtain rfl:=xsj (a0L.symm.trans ht1);have e:=z0K (n:=3) (e:=9) (ss:=[z9T,z9U,z9V]) hd0 (by kernel_rfl) (by kernel_rfl) (by kernel_rfl) (by kernel_rfl)
 have g:=j0Y j6p hv0;rw[e]at g;have e':=z0K (n:=4) (e:=9) (ss:=[z9T,z9U,z9V,[101,117,114]]) hd1 (by kernel_rfl) (by kernel_rfl) (by kernel_rfl) (by kernel_rfl);have g':=j0Y z9h hv1;rw[e']at g';exact⟨⟨true,g⟩,⟨true,g'⟩⟩
theorem j06 {W:World} {H:Type} {enc:TypeId×Value->H} {v:Value} {base:Nat} {d:DataW H} {p:List MemPlace} (h:Value.okWide Tryz.prog W .any base 22 v) (hr:DataW.Trod enc Tryz.prog W 0 (fun _=>true) true 22 v d p) :
  ∃l:List (Int×Int×Int×Int),z5U 4 (q8k W) (z1p W v) (l.map j6L)/\∀a∈l,i64 a.2.2.2:=by
 have hu:Tryz.prog.underlying 22=some (.slice 77):=by kernel_rfl
 have hi:Tryz.prog.underlying 3=some (.int .i64):=by kernel_rfl
 refine j09 (f:=j6L) (Q:=fun a=>i64 a.2.2.2) (n:=4) (by omega) hu (by kernel_rfl) h hr ?_ (fun a=>⟨rfl,rfl⟩)
 intro m cs y hl ht;have hst:∃fs,Tryz.prog.underlying 77=some (.struct fs)/\∀k,k<4->∃g∈fs.toList,g.offset=k/\g.type=3:=by
  refine⟨_,rfl,?_⟩;intro k hk;have:k=0\/k=1\/k=2\/k=3:=by omega
  rcases this with rfl|rfl|rfl|rfl
  ·exact⟨_,xmc,rfl,rfl⟩
  ·exact⟨_,List.mem_cons_of_mem _ xmc,rfl,rfl⟩
  ·exact⟨_,List.mem_cons_of_mem _ (List.mem_cons_of_mem _ xmc),rfl,rfl⟩
  ·exact⟨_,List.mem_cons_of_mem _ (List.mem_cons_of_mem _ (List.mem_cons_of_mem _ xmc)),rfl,rfl⟩
 obtain⟨fs,hfs,hfl⟩:=hst;obtain⟨m',_,hel⟩:=trod_struct hfs ht;have hc1:Tryz.prog.cellsOf 3=1:=by kernel_rfl
 have fld:∀k,k<4->∃n,cs[k]? = some (.int .i64 n)/\i64 n:=fun k hk=>by
  obtain⟨g,hg,h1,h2⟩:=hfl k hk;obtain⟨z,hz⟩:=hel g hg;rw[h1,h2,hc1,List.drop_eq_getElem_cons (show k<cs.length by omega),List.take_succ_cons,List.take_zero]at hz;obtain⟨n,e1,e2,e3⟩:=trod_int hi hz;have e4:IntKind.i64.min=-9223372036854775808:=by decide
  have e5:IntKind.i64.max=9223372036854775807:=by decide
  exact⟨n,by rw[xgq (by omega),e1],by unfold i64;omega⟩
 obtain⟨n0,e0,_⟩:=fld 0 (by omega);obtain⟨n1,e1,_⟩:=fld 1 (by omega);obtain⟨n2,e2,_⟩:=fld 2 (by omega);obtain⟨n3,e3,h3⟩:=fld 3 (by omega)
 match cs,hl,e0,e1,e2,e3 with
 |[a,b,c,d],_,e0,e1,e2,e3=>
  simp only[ge,xoi]at e0 e1 e2 e3;subst e0 e1 e2 e3;exact⟨(n0,n1,n2,n3),rfl,h3⟩
instance:Inhabited q0r:=⟨⟨[],0,⟨0,0⟩⟩⟩
instance:Inhabited q0D:=⟨⟨[],[],⟨0,0⟩,0,⟨0,0⟩,⟨0,0⟩⟩⟩
instance:Inhabited q1k:=⟨⟨0,[],⟨0,0⟩⟩⟩
theorem z2t:∃gs,Tryz.prog.underlying 43=some (.struct gs)/\Tryz.prog.cellsOf 43=2/\(∃g∈gs.toList,g.offset=0/\Tryz.prog.underlying g.type=some (.int .i64)/\Tryz.prog.cellsOf g.type=1)/\(∃g∈gs.toList,g.offset=1/\Tryz.prog.underlying g.type=some (.int .u64)/\Tryz.prog.cellsOf g.type=1):=
 ⟨_,rfl,by kernel_rfl,⟨_,xmc,rfl,rfl,by kernel_rfl⟩,⟨_,.tail _ xmc,rfl,rfl,by kernel_rfl⟩⟩
section
variable {W:World} {H:Type} {enc:TypeId×Value->H} {B m:Nat} {cs:List Value} {y:DataW H×List MemPlace}
theorem j4y (hB0:B<=140737488355328) (hl:cs.length=4) (ht:DataW.trod enc Tryz.prog W 0 (fun _=>true) true m 56 cs=some y) (hB:∀k,k∈y.1.weights Tryz.prog 56->k<=B):∃a:q0r,cs.map (absP W)=a.cells/\(a.out.ok/\a.name.length<4611686018427387904):=by
 obtain⟨gs,w1,w2,w3,w4⟩:=z2t;have hst:∃fs,Tryz.prog.underlying 56=some (.struct fs)/\(∃g∈fs.toList,g.offset=0/\Tryz.prog.underlying g.type=some .string/\Tryz.prog.cellsOf g.type=1)/\(∃g∈fs.toList,g.offset=1/\Tryz.prog.underlying g.type=some (.int .i64)/\Tryz.prog.cellsOf g.type=1)/\(∃g∈fs.toList,g.offset=2/\g.type=43):=
  ⟨_,rfl,⟨_,xmc,rfl,rfl,by kernel_rfl⟩,⟨_,.tail _ xmc,rfl,rfl,by kernel_rfl⟩,⟨_,.tail _ (.tail _ xmc),rfl,rfl⟩⟩
 obtain⟨fs,hfs,q0,q1,g,q2,q3,q4⟩:=hst;obtain⟨m',_,r⟩:=Rd.of hfs ht hB;obtain⟨s,a0,b0⟩:=r.str q0 (by omega);obtain⟨n,a1,_⟩:=r.int q1 (by omega);obtain⟨w,ok,a2,a3⟩:=r.wide (o:=2) ⟨g,q2,q3,by rw[q4];exact w1,by rw[q4];exact w2⟩ w3 w4 (by omega);refine⟨⟨s.data.toList,n,w⟩,?_,ok,by simp only;omega⟩
 match cs,hl,a0,a1,a2,a3 with
 |[_,_,_,_],_,a0,a1,a2,a3=>
  simp only[ge,xoi]at a0 a1 a2 a3;subst a0 a1 a2 a3;rfl
theorem a7l (hB0:B<=140737488355328) (hl:cs.length=4) (ht:DataW.trod enc Tryz.prog W 0 (fun _=>true) true m 54 cs=some y) (hB:∀k,k∈y.1.weights Tryz.prog 54->k<=B):∃a:q1k,cs.map (absP W)=a.cells/\(a.bal.ok/\0<=a.id/\a.id<18446744073709551616/\a.q1C.length<4611686018427387904):=by
 obtain⟨gs,w1,w2,w3,w4⟩:=z2t;have hst:∃fs,Tryz.prog.underlying 54=some (.struct fs)/\(∃g∈fs.toList,g.offset=0/\Tryz.prog.underlying g.type=some (.int .u64)/\Tryz.prog.cellsOf g.type=1)/\(∃g∈fs.toList,g.offset=1/\Tryz.prog.underlying g.type=some .string/\Tryz.prog.cellsOf g.type=1)/\(∃g∈fs.toList,g.offset=2/\g.type=43):=
  ⟨_,rfl,⟨_,xmc,rfl,rfl,by kernel_rfl⟩,⟨_,.tail _ xmc,rfl,rfl,by kernel_rfl⟩,⟨_,.tail _ (.tail _ xmc),rfl,rfl⟩⟩
 obtain⟨fs,hfs,q0,q1,g,q2,q3,q4⟩:=hst;obtain⟨m',_,r⟩:=Rd.of hfs ht hB;obtain⟨n,a0,b0,c0⟩:=r.int q0 (by omega);obtain⟨s,a1,b1⟩:=r.str q1 (by omega);obtain⟨w,ok,a2,a3⟩:=r.wide (o:=2) ⟨g,q2,q3,by rw[q4];exact w1,by rw[q4];exact w2⟩ w3 w4 (by omega);have e3:IntKind.u64.min=0:=by decide
 have e4:IntKind.u64.max=18446744073709551615:=by decide
 refine⟨⟨n,s.data.toList,w⟩,?_,ok,by simp only;omega,by simp only;omega,by simp only;omega⟩
 match cs,hl,a0,a1,a2,a3 with
 |[_,_,_,_],_,a0,a1,a2,a3=>
  simp only[ge,xoi]at a0 a1 a2 a3;subst a0 a1 a2 a3;rfl
theorem a0j (hB0:B<=140737488355328) (hl:cs.length=9) (ht:DataW.trod enc Tryz.prog W 0 (fun _=>true) true m 74 cs=some y) (hB:∀k,k∈y.1.weights Tryz.prog 74->k<=B):∃a:q0D,cs.map (absP W)=a.cells/\(a.rate.ok/\a.inx.ok/\a.q1H.ok/\a.x.length<4611686018427387904/\a.y.length<4611686018427387904):=by
 obtain⟨gs,w1,w2,w3,w4⟩:=z2t;have hst:∃fs,Tryz.prog.underlying 74=some (.struct fs)/\(∃g∈fs.toList,g.offset=0/\Tryz.prog.underlying g.type=some .string/\Tryz.prog.cellsOf g.type=1)/\(∃g∈fs.toList,g.offset=1/\Tryz.prog.underlying g.type=some .string/\Tryz.prog.cellsOf g.type=1)/\(∃g∈fs.toList,g.offset=2/\g.type=45)/\(∃g∈fs.toList,g.offset=5/\g.type=43)/\(∃g∈fs.toList,g.offset=7/\g.type=43):=
  ⟨_,rfl,⟨_,xmc,rfl,rfl,by kernel_rfl⟩,⟨_,.tail _ xmc,rfl,rfl,by kernel_rfl⟩,⟨_,.tail _ (.tail _ xmc),rfl,rfl⟩,⟨_,.tail _ (.tail _ (.tail _ xmc)),rfl,rfl⟩,⟨_,.tail _ (.tail _ (.tail _ (.tail _ xmc))),rfl,rfl⟩⟩
 obtain⟨fs,hfs,q0,q1,⟨g,q2,q3,q4⟩,⟨g5,q5,q6,q7⟩,⟨g8,q8,q9,q10⟩⟩:=hst;have hsd:∃ds,Tryz.prog.underlying 45=some (.struct ds)/\Tryz.prog.cellsOf 45=3/\(∃g∈ds.toList,g.offset=0/\g.type=43)/\(∃g∈ds.toList,g.offset=2/\Tryz.prog.underlying g.type=some (.int .i64)/\Tryz.prog.cellsOf g.type=1):=
  ⟨_,rfl,by kernel_rfl,⟨_,xmc,rfl,rfl⟩,⟨_,.tail _ xmc,rfl,rfl,by kernel_rfl⟩⟩
 obtain⟨ds,d1,d2,⟨gd,d3,d4,d5⟩,d6⟩:=hsd;obtain⟨m',_,r⟩:=Rd.of hfs ht hB;obtain⟨s,a0,b0⟩:=r.str q0 (by omega);obtain⟨s',a1,b1⟩:=r.str q1 (by omega);obtain⟨m2,rd⟩:=r.sub (o:=2) (n:=3) ⟨g,q2,q3,by rw[q4];exact d1,by rw[q4];exact d2⟩;have hl2:((cs.drop 2).take 3).length=3:=by simp;omega
 obtain⟨w,ok,a2,a3⟩:=rd.wide (o:=0) ⟨gd,d3,d4,by rw[d5];exact w1,by rw[d5];exact w2⟩ w3 w4 (by omega);obtain⟨n,a4,_⟩:=rd.int d6 (by omega);rw[List.getElem?_take,if_pos (by omega),List.getElem?_drop]at a2 a3 a4;obtain⟨w',ok',a5,a6⟩:=r.wide (o:=5) ⟨g5,q5,q6,by rw[q7];exact w1,by rw[q7];exact w2⟩ w3 w4 (by omega);obtain⟨v,okv,a7,a8⟩:=r.wide (o:=7) ⟨g8,q8,q9,by rw[q10];exact w1,by rw[q10];exact w2⟩ w3 w4 (by omega)
 refine⟨⟨s.data.toList,s'.data.toList,w,n,w',v⟩,?_,ok,ok',okv,by simp only;omega,by simp only;omega⟩
 match cs,hl,a0,a1,a2,a3,a4,a5,a6,a7,a8 with
 |[_,_,_,_,_,_,_,_,_],_,a0,a1,a2,a3,a4,a5,a6,a7,a8=>
  simp only[ge,xoi]at a0 a1 a2 a3 a4 a5 a6 a7 a8;subst a0 a1 a2 a3 a4 a5 a6 a7 a8;rfl
end
theorem j07 {W:World} {H:Type} {enc:TypeId×Value->H} {v:Value} {base:Nat} {d:DataW H} {p:List MemPlace} (h:Value.okWide Tryz.prog W .any base 28 v) (hr:DataW.Trod enc Tryz.prog W 0 (fun _=>true) true 28 v d p) (hB:∀k,k∈d.weights Tryz.prog 28->k<=140737488355328) :
  ∃kp kq ka st,z1p W v=.agg [kp,kq,ka,.int .u64 st.latest]/\BkV (q8k W) kp kq ka st/\q2P st/\st.q0a.length*40<=q0A/\st.pairs.length*88<=q0A/\st.q0j.length*40<=q0A:=by
 have hst:∃fs,Tryz.prog.underlying 28=some (.struct fs)/\(∃g∈fs.toList,g.offset=0/\g.type=23)/\(∃g∈fs.toList,g.offset=1/\g.type=24)/\(∃g∈fs.toList,g.offset=2/\g.type=25)/\(∃g∈fs.toList,g.offset=3/\Tryz.prog.underlying g.type=some (.int .u64)/\Tryz.prog.cellsOf g.type=1):=
  ⟨_,rfl,⟨_,xmc,rfl,rfl⟩,⟨_,.tail _ xmc,rfl,rfl⟩,⟨_,.tail _ (.tail _ xmc),rfl,rfl⟩,⟨_,.tail _ (.tail _ (.tail _ xmc)),rfl,rfl,by kernel_rfl⟩⟩
 obtain⟨fs,hfs,⟨g0,q0,q1,q2⟩,⟨g1,q3,q4,q5⟩,⟨g2,q6,q7,q8⟩,q9⟩:=hst;unfold Value.okWide at h;simp only[hfs]at h;obtain⟨cs,rfl,hsz,ts,hts,_,hcell⟩:=h;have hts2:Tryz.prog.cellTypes Tryz.prog.depth 28=some [23,24,25,26]:=by kernel_rfl
 obtain rfl:=xsj (hts.symm.trans hts2);have h4:Tryz.prog.cellsOf 28=4:=by kernel_rfl
 rw[h4]at hsz;obtain⟨cs⟩:=cs;obtain⟨fuel,hr⟩:=hr;obtain⟨m',_,r⟩:=Rd.of hfs hr hB;simp only[Value.cells]at r
 match cs,hsz with
 |[c0,c1,c2,c3],_=>
  obtain⟨y0,z0,b0⟩:=r g0 q0;obtain⟨y1,z1,b1⟩:=r g1 q3;obtain⟨y2,z2,b2⟩:=r g2 q6;obtain⟨n,a3,n1,n2⟩:=r.int q9 (by simp);have k0:=hcell 0 c0 rfl;have k1:=hcell 1 c1 rfl;have k2:=hcell 2 c2 rfl;simp only[ge,List.length_cons,List.length_nil,xnz,Nat.reduceAdd,Nat.reduceMod,Nat.zero_mod,xoi,exists_eq_left']at k0 k1 k2;have e1:Tryz.prog.cellsOf 23=1:=by kernel_rfl
  have e2:Tryz.prog.cellsOf 24=1:=by kernel_rfl
  have e3:Tryz.prog.cellsOf 25=1:=by kernel_rfl
  rw[q1,q2,e1]at z0;rw[q4,q5,e2]at z1;rw[q7,q8,e3]at z2;rw[q2]at b0;rw[q5]at b1;rw[q8]at b2;obtain⟨ps,v0,o0,s0⟩:=q5I (f:=fun x:q0r=>x.cells) (Q:=fun a=>a.out.ok/\a.name.length<4611686018427387904) (n:=4) (by omega) (show Tryz.prog.underlying 23=some (.slice 56) by kernel_rfl) (by kernel_rfl) k0 z0 b0 (fun m cs y hl ht hB=>j4y (xnr _) hl ht hB) (fun _=>⟨rfl,rfl⟩)
  obtain⟨qs,v1,o1,s1⟩:=q5I (f:=fun x:q0D=>x.cells) (Q:=fun a=>a.rate.ok/\a.inx.ok/\a.q1H.ok/\a.x.length<4611686018427387904/\a.y.length<4611686018427387904) (n:=9) (by omega) (show Tryz.prog.underlying 24=some (.slice 74) by kernel_rfl) (by kernel_rfl) k1 z1 b1 (fun m cs y hl ht hB=>a0j (xnr _) hl ht hB) (fun _=>⟨rfl,rfl⟩)
  obtain⟨az,v2,o2,s2⟩:=q5I (f:=fun x:q1k=>x.cells) (Q:=fun a=>a.bal.ok/\0<=a.id/\a.id<18446744073709551616/\a.q1C.length<4611686018427387904) (n:=4) (by omega) (show Tryz.prog.underlying 25=some (.slice 54) by kernel_rfl) (by kernel_rfl) k2 z2 b2 (fun m cs y hl ht hB=>a7l (xnr _) hl ht hB) (fun _=>⟨rfl,rfl⟩)
  rw[show Tryz.prog.bytesOf 56=40 by kernel_rfl]at s0;rw[show Tryz.prog.bytesOf 74=88 by kernel_rfl]at s1;rw[show Tryz.prog.bytesOf 54=40 by kernel_rfl]at s2;have u3:IntKind.u64.min=0:=by decide
  have u4:IntKind.u64.max=18446744073709551615:=by decide
  simp only[ge,xoi]at a3;subst a3;exact⟨absP W c0,absP W c1,absP W c2,⟨ps,qs,az,n,0⟩,rfl,⟨v0,v1,v2⟩,⟨⟨by simp only;omega,by simp only;omega,by simp only;omega⟩,o0,o1,o2,by simp only;omega⟩,s0,s1,s2⟩
set_option maxHeartbeats 2000000 in
theorem q5g (os:Os) (started:os.Started) (H:Type) (enc:TypeId×Value->H) :
  ReturnsInHanded {} Tryz.checked os 3 .any (fun w args=>(Rows.ledgerRightSpec.pre enc Tryz.prog Tryz.f3 [] false w args/\laidMetH Tryz.prog z9E w)/\sizedMet enc Tryz.prog Tryz.f3 (OpenSpec.ofChange Rows.ledgerRightSpec) false w args)
   (Rows.ledgerRightSpec.post enc Tryz.prog Tryz.f3 false true false false):=by
 refine q5E (C:=Tryz.checked) (X:=fun w _=>laidMetH Tryz.prog z9E w) (fun _ _ _ hh h=>h.of_heap hh) Tryz.a97 started (by kernel_rfl) Tryz.func3
  (ChangeSpec.witness_shaped (enc:=enc) (C:=Tryz.checked) (os:=os) (X:=fun w _=>laidMetH Tryz.prog z9E w) false (World.doorLaid Tryz.prog 400 os) #[.slice none 0 0,.agg #[.slice none 0 0,.slice none 0 0,.slice none 0 0,.int .u64 0],.int .i64 0,.int .i64 0,.int .i64 0,.bool false] 8 rfl (World.shaped_of_RefB (by kernel_rfl) (by kernel_rfl)) (by kernel_rfl) (by kernel_rfl) (by kernel_rfl) (j1u os _)) ?_
 intro W base args ds gs before hval0 hW _ hwt hL hsh _;have hW':=hW;obtain⟨p,q,hA0,hV,rfl,hfz,hnd⟩:=hW;have hA:DataW.TrodAll enc Tryz.prog W 0 (fun _=>true) true Tryz.f3.params.toList args.toList ds p:=hA0
 rw[Tryz.params3]at hA hwt;obtain⟨v1,vs1,d1,ds1,p1,q1,ha1,rfl,hr1,hA1⟩:=q19 hA;obtain⟨v2,vs2,d2,ds2,p2,q2,rfl,rfl,hr2,hA2⟩:=q19 hA1;obtain⟨v3,vs3,d3,ds3,p3,q3,rfl,rfl,hr3,hA3⟩:=q19 hA2;obtain⟨v4,vs4,d4,ds4,p4,q4,rfl,rfl,hr4,hA4⟩:=q19 hA3;obtain⟨v5,vs5,d5,ds5,p5,q5,rfl,rfl,hr5,hA5⟩:=q19 hA4;obtain⟨v6,vs6,d6,ds6,p6,q6,rfl,rfl,hr6,hA6⟩:=q19 hA5;obtain⟨rfl,rfl⟩:=z4G hA6
 obtain⟨rfl,rfl⟩:=trodVars_none hV;have hargs:args=#[v1,v2,v3,v4,v5,v6]:=by rw[<-Array.toArray_toList (xs:=args),ha1]
 subst hargs;obtain⟨acts,hr,hN⟩:=j06 (hval0 0 22 v1 (by kernel_rfl) rfl) hr1;obtain⟨kp,kq,ka,st,hk,kv,ok,hp,hq,ha⟩:=j07 (hval0 1 28 v2 (by kernel_rfl) rfl) hr2 (fun k hk=>by
  have:=List.all_eq_true.1 hwt k (by simp only[DataW.weightsEach,List.cons_append,List.nil_append,xma];exact .inr (.inl hk));have h2:k<=reachBytes:=by simpa using this
  exact xnt0 h2 (by unfold reachBytes;omega))
 obtain⟨how,rfl,hx1,hx2⟩:=z1x (W:=W) (k:=.i64) (P:=Tryz.prog) (t:=3) (by kernel_rfl) (hval0 2 3 v3 (by kernel_rfl) rfl);obtain⟨n,rfl,hn1,hn2⟩:=z1x (W:=W) (k:=.i64) (P:=Tryz.prog) (t:=3) (by kernel_rfl) (hval0 3 3 v4 (by kernel_rfl) rfl);obtain⟨most,rfl,hy1,hy2⟩:=z1x (W:=W) (k:=.i64) (P:=Tryz.prog) (t:=3) (by kernel_rfl) (hval0 4 3 v5 (by kernel_rfl) rfl);obtain⟨is,rfl⟩:=j08 (W:=W) (P:=Tryz.prog) (t:=4) (by kernel_rfl) (hval0 5 4 v6 (by kernel_rfl) rfl)
 have e1:IntKind.i64.min=-9223372036854775808:=by decide
 have e2:IntKind.i64.max=9223372036854775807:=by decide
 obtain⟨hc1,hc2⟩:=j1k hL;obtain⟨m',hrun⟩:=z9M (q8k W) hr hN hc1 hc2 kv ok hp hq ha how most (n:=n) (by omega) (by omega) is;rw[<-hk]at hrun;refine(z9F (E:=E30) a1k (f:=3) Tryz.func3 (by kernel_rfl) (by decide +kernel) (z2n hsh j6V) (args:=[v1,v2,.int .i64 how,.int .i64 n,.int .i64 most,.bool is]) hrun).mono fun e W' ⟨he,hb⟩=>?_
 subst he;exact⟨_,rfl,j33 (P:=Tryz.prog) (tb:=4) Tryz.j32 (by decide +kernel) (by kernel_rfl) (by kernel_rfl) rfl hW' rfl hb⟩
theorem q68:Rows.LedgerRightSaid:=
 OpenClaim.holds_of_wide 3 Tryz.f3 rfl rfl rfl rfl rfl rfl rfl ⟨rfl,rfl,rfl,rfl,rfl⟩ rfl rfl rfl rfl rfl (by kernel_rfl) Tryz.func3 (by kernel_rfl)
  (of_decide_eq_true (by kernel_rfl)) (by unfold Func.isWrapper;first|(rw[if_pos (by decide +kernel)];kernel_rfl)|(rw[if_neg (by decide +kernel)];exact⟨rfl,rfl⟩))
  (fun os started H enc _=>q5g os started H enc)
theorem ledgerRight_holds:Rows.LedgerRightCardSaid:=
 Claim7.holds_tied_plain_at .later [] [.data,.data] true _ false
  q68 (fun _ h=>by cases h) (by kernel_rfl) (fun _ h=>by cases h) ledgerRight_row_tie rfl ⟨rfl,rfl⟩ (by kernel_rfl) rfl
  (fun f fn hf hfn=>by
   obtain rfl : f = 3 := xsj ((show Tryz.prog.funcNamed "bursar/bursarlaw19.LedgerRight" = some 3 by kernel_rfl).symm.trans hf) |>.symm
   obtain rfl:fn=Tryz.f3:=(xsj (Tryz.func3.symm.trans hfn)).symm;exact⟨by kernel_rfl,fun j t ht=>by
    rw[Tryz.params3]at ht;have hm:t∈[22,28,3,3,3,4]:=by simpa using Array.mem_of_getElem? ht
    have hall:([22,28,3,3,3,4].all fun u=>!Tryz.prog.wantsStandIn u)=true:=by kernel_rfl
    exact(show Tryz.prog.wantsStandIn t=false by simpa using List.all_eq_true.1 hall t hm)⟩)
  (by kernel_rfl)
#print axioms ledgerRight_holds
end
end Go.Proofs.YtlginbmjiecglaaGreatDoor
