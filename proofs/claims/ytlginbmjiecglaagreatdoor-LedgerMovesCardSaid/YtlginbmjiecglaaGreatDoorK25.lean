/- Texts of one claim, put together. -/
import Derived.Test.YtlginbmjiecglaaGreatDoorK0
import Derived.Test.YtlginbmjiecglaaGreatDoorK12
import Derived.Test.YtlginbmjiecglaaGreatDoorK19
import Derived.Test.YtlginbmjiecglaaGreatDoorK20
import Derived.Test.YtlginbmjiecglaaGreatDoorK24
namespace Go.Abs
section
open Go
theorem q3x {α:Type} {l:List α} {i:Nat} {x:α} (h:l[i]? = some x):l.set i x=l:=by
 obtain⟨hi,rfl⟩:=List.getElem?_eq_some_iff.1 h
 exact List.set_getElem_self hi
def LSt.iA (st:LSt) (k:Int):Nat:=lb q0f k (st.q0n.map (·.id))
def LSt.iP (st:LSt) (k:List UInt8):Nat:=lb q0c k (st.q0b.map (·.name))
def LSt.iQ (st:LSt) (k:List UInt8):Nat:=lb q0c k (st.pairs.map (·.key))
def LSt.q25 (st:LSt) (a:AccV):LSt:={st with q0n:=st.q0n.set (st.iA a.id) a}
def LSt.setP (st:LSt) (p:PurseV):LSt:={st with q0b:=st.q0b.set (st.iP p.name) p}
def LSt.q8h (st:LSt) (q:PairV):LSt:=
 {st with pairs:=if q1d q0c q.key (st.pairs.map (·.key))=true then st.pairs.set (st.iQ q.key) q else if st.pairs.length<64 then q47 (st.iQ q.key) q st.pairs else st.pairs}
theorem LSt.q39 {st:LSt} {a:AccV} (h:q1d q0f a.id (st.q0n.map (·.id))=true):(st.q25 a).q0n.map (·.id)=st.q0n.map (·.id):=by
 unfold LSt.q25 LSt.iA
 rw[List.map_set]
 exact q3x (q5o h)
def q4r (x y w:Wd):Bool:=q1c (x.val-w.val)&&q1c (y.val+w.val)
def q51 (st:LSt) (id:Int) (w:Wd) (s:Int):Int×LSt:=
 let o:=st.of id
 if o.2.2≠0 then (o.2.2,st) else
 if q3b o.2.1 w s≠0 then (q3b o.2.1 w s,st) else
 if q4r o.2.1.out o.1.bal w=true then (0,(st.q25 {o.1 with bal:=Wd.of (o.1.bal.val+w.val)}).setP {o.2.1 with out:=Wd.of (o.2.1.out.val-w.val)}) else (20,st)
def q46 (st:LSt) (id:Int) (w:Wd) (s:Int):Int×LSt:=
 let o:=st.of id
 if o.2.2≠0 then (o.2.2,st) else
 if q3b o.2.1 w s≠0 then (q3b o.2.1 w s,st) else
 if o.1.bal.val<w.val then (42,st) else
 if q4r o.1.bal o.2.1.out w=true then (0,(st.q25 {o.1 with bal:=Wd.of (o.1.bal.val-w.val)}).setP {o.2.1 with out:=Wd.of (o.2.1.out.val+w.val)}) else (20,st)
def q1n (st:LSt) (a b:Int) (w:Wd) (s:Int):Int×LSt:=
 let o:=st.of a
 let p:=st.of b
 if o.2.2≠0 then (o.2.2,st) else
 if p.2.2≠0 then (p.2.2,st) else
 if a=b then (45,st) else
 if o.2.1.name≠p.2.1.name then (41,st) else
 if q3b o.2.1 w s≠0 then (q3b o.2.1 w s,st) else
 if o.1.bal.val<w.val then (42,st) else
 if q4r o.1.bal p.1.bal w=true then (0,(st.q25 {o.1 with bal:=Wd.of (o.1.bal.val-w.val)}).q25 {p.1 with bal:=Wd.of (p.1.bal.val+w.val)}) else (20,st)
def q9j (w:Wd) (s:Int):Int:=if 0≤s∧s≤18 then (if 0<w.val then 0 else 44) else 21
def j39 (st:LSt) (x y:List UInt8) (w:Wd) (s:Int):Int×LSt:=
 if (st.q5l x).isSome=false∨(st.q5l y).isSome=false then (41,st) else
 if x=y then (45,st) else
 if q9j w s≠0 then (q9j w s,st) else
 (0,st.q8h {(st.getQ (x++y)).getD z9l with x:=x,y:=y,rate:=w,rscale:=s})
def q08 (st:LSt) (id:Int):Wd×Int×Int:=
 let o:=st.of id
 if o.2.2≠0 then (⟨0,0⟩,0,o.2.2) else (o.1.bal,o.2.1.scale,0)
theorem LSt.q10 {st:LSt} (w:LWf st) (id:Int):(st.of id=(nilA,nilP,40)∧st.q7y id=none)∨
  ∃a p,st.of id=(a,p,0)∧st.q7y id=some a∧st.q5l a.coin=some p∧a.id=id∧q1d q0f id (st.q0n.map (·.id))=true∧p.name=a.coin∧q1d q0c p.name (st.q0b.map (·.name))=true∧a∈st.q0n∧p∈st.q0b:=by
 cases hk:q1d q0f id (st.q0n.map (·.id)) with
 |false=>
  have:=LSt.q3p hk
  exact .inl ⟨by unfold LSt.of;rw[this],this⟩
 |true=>
  obtain⟨a,a1,a2,a3,a4⟩:=LSt.q2q hk
  have h1:=(w.oka a a4).2.2.2
  cases hp:q1d q0c a.coin (st.q0b.map (·.name)) with
  |false=>rw[LSt.q4h hp]at h1;simp at h1
  |true=>
   obtain⟨p,p1,p2,p3,p4⟩:=LSt.q2v hp
   exact .inr ⟨a,p,by unfold LSt.of;rw[a1];simp only[p1];rfl,a1,p1,a2,rfl,p2,by rw[p2];exact hp,a4,p4⟩
theorem q4t {n:Int}:decide ((Wd.res n).2=0)=q1c n:=by
 unfold Wd.res
 cases h:q1c n<;>simp
noncomputable def q62 (E:Env) (S R:List FuncId):FuncId→Option (List AV→Mem→Abs.R):=fun f=>if f∈S then some (q0v E f) else if f∈R then some (run E (.fn f)) else E.H f
theorem q4v {E:Env} (hE:EnvOk E) (S R:List FuncId):EnvOk {E with H:=q62 E S R} where
 mixed:=hE.mixed
 body:=hE.body
 hook:=fun f h e args m r m' hr=>by
  simp only[q62]at e
  split at e
  ·cases e;exact j5h hE args m r m' hr
  ·split at e
   ·cases e;exact q4i hE (.fn f) args m r m' hr
   ·exact hE.hook f h e args m r m' hr
end
end Go.Abs
namespace Go.Proofs.YtlginbmjiecglaaGreatDoor
section
set_option maxRecDepth 4000
open Go Go.Abs
def S17:List FuncId:=[89,108,109]
def R17:List FuncId:=[46,39,41,40,38,42,43]
noncomputable def H17:FuncId→Option (List AV→Mem→R):=q62 E15 S17 R17
noncomputable abbrev E17:Env:=T.EH H17
theorem E17_ok:EnvOk E17:=q4v E15_ok S17 R17
section
variable {H:FuncId→Option (List AV→Mem→R)} {m:Mem} {t:Nat} {st:LSt} {most:Int} {F:List Nat}
theorem getp_at (h:H 89=some (q0v E15 89)) (w:LWf st) (ht:TabAt .str 4 m t (st.q0b.map (·.name)) (st.q0b.map (·.cells)) most F) (k:List UInt8) (M:Mem) (hM:Fr m M []) :
  run (T.EH H) (.fn 89) [.ptr (some ⟨t,0⟩),.str k] M=some (.tup [.agg ((st.q5l k).getD nilP).cells,.bool (st.q5l k).isSome],M):=by
 refine q0s h (by simp[AV.flat,AV.lt,AV.lts,PurseV.flat]) fun m2 h1 h2=>?_
 obtain⟨v,m',g1,g2,g3,g4,g5,g6⟩:=getP_is ((ht.frame hM (by simp)).frame (Fr.same h1 h2) (by simp)) w.sp (by have:=w.lp;simp;omega) k
 refine⟨m',?_,g6⟩
 rw[g1]
 cases hk:q1d q0c k (st.q0b.map (·.name)) with
 |true=>
  obtain⟨p,p1,p2,p3,p4⟩:=LSt.q2v hk
  have:=g2 hk
  rw[List.getElem?_map,p3]at this
  rw[p1]
  simp only[Option.map_some,Option.some.injEq]at this
  rw[←this];rfl
 |false=>
  rw[LSt.q4h hk,g3 hk];rfl
theorem geta_at (h:H 108=some (q0v E15 108)) (w:LWf st) (ht:TabAt (.int .u64) 4 m t (st.q0n.map (·.id)) (st.q0n.map (·.cells)) most F) (k:Int) (M:Mem) (hM:Fr m M []) :
  run (T.EH H) (.fn 108) [.ptr (some ⟨t,0⟩),.int .u64 k] M=some (.tup [.agg ((st.q7y k).getD nilA).cells,.bool (st.q7y k).isSome],M):=by
 refine q0s h (by simp[AV.flat,AV.lt,AV.lts,AccV.flat]) fun m2 h1 h2=>?_
 obtain⟨v,m',g1,g2,g3,g4,g5,g6⟩:=getA_is ((ht.frame hM (by simp)).frame (Fr.same h1 h2) (by simp)) w.sa (by have:=w.la;simp;omega) k
 refine⟨m',?_,g6⟩
 rw[g1]
 cases hk:q1d q0f k (st.q0n.map (·.id)) with
 |true=>
  obtain⟨p,p1,p2,p3,p4⟩:=LSt.q2q hk
  have:=g2 hk
  rw[List.getElem?_map,p3]at this
  rw[p1]
  simp only[Option.map_some,Option.some.injEq]at this
  rw[←this];rfl
 |false=>
  rw[LSt.q3p hk,g3 hk];rfl
end
theorem z0w {H:FuncId→Option (List AV→Mem→R)} {f:FuncId} (h:H f=some (run E15 (.fn f))) (xs:List AV) (m:Mem):run (T.EH H) (.fn f) xs m=run E15 (.fn f) xs m:=q1t h xs m
section
variable {m:Mem} {b:Nat} {st:LSt} {F:List Nat}
theorem of_is2 (h:LedgerAt m b st F) (w:LWf st) (id:Int):Res m (run E17 (.fn 53) [.ptr (some ⟨b,0⟩),.int .u64 id] m) (.tup [.agg (st.of id).1.cells,.agg (st.of id).2.1.cells,.int .i64 (st.of id).2.2]):=by
 obtain⟨tp,tq,ta,FP,FQ,FA,h1,h2,h3,h4,h5,h6,h7,h8,h9,h10,rfl⟩:=h.ex
 have hb:=Mem.q0w h1
 have a3:∀i:Nat,ld1 m (.ptr (some ⟨b,i⟩))=[.int .i64 st.most,.ptr (some ⟨tp,0⟩),.ptr (some ⟨tq,0⟩),.ptr (some ⟨ta,0⟩),.int .u64 st.latest][i]?:=fun i=>q0j h1
 have ga:=geta_at (H:=H17) rfl w h4 id
 unfold LSt.of
 cases hA:st.q7y id with
 |none=>
  rw[hA]at ga
  simp only[Option.getD_none,Option.isSome_none,nilA,AccV.cells]at ga
  simp (maxDischargeDepth:=20) only [f53_is (H:=H17) rfl,T.f53,pB,p1,q1,q0r,AV.cells,Nat.reduceAdd,Nat.reduceLeDiff,nnA,q0g,q0a,unA,q1g,q1i,w_f53,AV.one,over,lcl,q2d hb,q8p hb,a3,ga,frl,Fr.refl,Bool.not_false,nilA,nilP,AccV.cells,PurseV.cells]
  refine Res.eq ?_ rfl
  (repeat apply Fr.lays)
  exact Fr.refl _
 |some a=>
  have gp:=getp_at (H:=H17) rfl w h2 a.coin
  rw[hA]at ga
  simp only[Option.getD_some,Option.isSome_some,AccV.cells]at ga
  simp only[PurseV.cells]at gp
  simp (maxDischargeDepth:=20) only [f53_is (H:=H17) rfl,T.f53,pB,p1,q1,q0r,AV.cells,Nat.reduceAdd,Nat.reduceLeDiff,nnA,q0g,q0a,unA,q1g,q1i,w_f53,AV.one,over,lcl,q2d hb,q8p hb,a3,ga,frl,Fr.refl,Bool.not_true,AccV.cells,PurseV.cells]
  simp (maxDischargeDepth:=20) only [g53_0_is (H:=H17),T.g53_0,p1,q1,pB,nnA,q0g,q1g,q1i,Nat.reduceAdd,w_g53_0,AV.one,over,AV.cells,Nat.reduceLeDiff,lcl,q2d hb,q8p hb,j5g hb,a3,gp,frl,Fr.refl]
  refine Res.eq ?_ rfl
  (repeat apply Fr.lays)
  exact Fr.refl _
end
end
section
set_option maxRecDepth 4000
open Go Go.Abs
theorem sgn_le (x:Int):decide (sgn x≤0)=decide (x≤0):=by unfold sgn;apply decide_eq_decide.mpr;split<;>(try split)<;>omega
theorem j2f (x:Int):decide (sgn x<0)=decide (x<0):=by unfold sgn;apply decide_eq_decide.mpr;split<;>(try split)<;>omega
theorem fits_is2 (p:PurseV) {w:Wd} (hw:w.ok) (s:Int) (m:Mem):Res m (run E17 (.fn 55) [.agg p.cells,.agg (q02 w s)] m) (.int .i64 (q3b p w s)):=by
 have sg:=fun m=>z0d (H:=H17) rfl hw m
 unfold q3b
 simp only[PurseV.cells,q02,Wd.cells]at sg⊢
 by_cases h:s=p.scale
 ·rw[if_neg (by simp[h])]
  by_cases h2:w.val≤0
  ·rw[if_pos h2]
   have e2:=sgn_le w.val
   rw[dt h2]at e2
   simp only[f55_is (H:=H17) rfl,T.f55,p1,q1,p2,q1h,q0a,Nat.reduceAdd,w_f55,AV.one,AV.cells,Nat.reduceLeDiff,lcl,dt h,Bool.not_true,sg,e2]
   refine Res.eq ?_ rfl
   (repeat apply Fr.lays)
   exact Fr.refl _
  ·rw[if_neg h2]
   have e2:=sgn_le w.val
   rw[df h2]at e2
   simp only[f55_is (H:=H17) rfl,T.f55,p1,q1,p2,q1h,q0a,Nat.reduceAdd,w_f55,AV.one,AV.cells,Nat.reduceLeDiff,lcl,dt h,Bool.not_true,sg,e2]
   simp only[g55_0_is (H:=H17),T.g55_0,w_g55_0]
   refine Res.eq ?_ rfl
   (repeat apply Fr.lays)
   exact Fr.refl _
 ·rw[if_pos h]
  simp only[f55_is (H:=H17) rfl,T.f55,p1,q1,p2,q1h,q0a,Nat.reduceAdd,w_f55,AV.one,AV.cells,Nat.reduceLeDiff,lcl,df h,Bool.not_false]
  refine Res.eq ?_ rfl
  (repeat apply Fr.lays)
  exact Fr.refl _
theorem poor_is (a:AccV) (ha:a.bal.ok) {w:Wd} (hw:w.ok) (s:Int) (m:Mem):Res m (run E17 (.fn 56) [.agg a.cells,.agg (q02 w s)] m) (.bool (decide (a.bal.val<w.val))):=by
 have cm:=fun m=>cmp_at (H:=H17) rfl ha hw m
 have e:=j2f (a.bal.val-w.val)
 simp only[AccV.cells,q02,Wd.cells]at cm⊢
 simp only[f56_is (H:=H17) rfl,T.f56,p1,q1,p2,q1h,Nat.reduceAdd,w_f56,AV.one,AV.cells,Nat.reduceLeDiff,lcl,cm,e]
 refine Res.eq ?_ (by congr 1;exact decide_eq_decide.mpr (by omega))
 (repeat apply Fr.lays)
 exact Fr.refl _
def S18:List FuncId:=[53,55,56]
noncomputable def H18:FuncId→Option (List AV→Mem→R):=q2w E17 S18
noncomputable abbrev E18:Env:=T.EH H18
theorem E18_ok:EnvOk E18:=q1k E17_ok S18
noncomputable abbrev D18:Do:=T.Rl H18
section
variable {H:FuncId→Option (List AV→Mem→R)} {m:Mem} {b:Nat} {st:LSt} {F:List Nat}
theorem of_at2 (hh:H 53=some (q0v E17 53)) (h:LedgerAt m b st F) (w:LWf st) (id:Int) (M:Mem) (hM:Fr m M []) :
  run (T.EH H) (.fn 53) [.ptr (some ⟨b,0⟩),.int .u64 id] M=some (.tup [.agg (st.of id).1.cells,.agg (st.of id).2.1.cells,.int .i64 (st.of id).2.2],M):=
 q0s hh (by simp[AV.flat,AV.lt,AV.lts,AccV.flat,PurseV.flat]) fun m2 h1 h2=>of_is2 ((h.q0p hM).q0p (Fr.same h1 h2)) w id
theorem fits_at (hh:H 55=some (q0v E17 55)) (p:PurseV) {w:Wd} (hw:w.ok) (s:Int) (m:Mem):run (T.EH H) (.fn 55) [.agg p.cells,.agg (q02 w s)] m=some (.int .i64 (q3b p w s),m):=
 q0s hh (by simp[AV.flat,AV.lt]) fun m2 _ _=>fits_is2 p hw s m2
theorem poor_at (hh:H 56=some (q0v E17 56)) (a:AccV) (ha:a.bal.ok) {w:Wd} (hw:w.ok) (s:Int) (m:Mem):run (T.EH H) (.fn 56) [.agg a.cells,.agg (q02 w s)] m=some (.bool (decide (a.bal.val<w.val)),m):=
 q0s hh (by simp[AV.flat,AV.lt]) fun m2 _ _=>poor_is a ha hw s m2
end
section
variable {m:Mem} {b:Nat} {st:LSt} {F:List Nat}
theorem setA_is (h:LedgerAt m b st F) (hs:Srt q0f (st.q0n.map (·.id))) (hl:st.q0n.length≤64) (a:AccV) (ha:q1d q0f a.id (st.q0n.map (·.id))=true) :
  ∃m' F',run E18 (.fn 58) [.ptr (some ⟨b,0⟩),.agg a.cells] m=some (.undef,m')∧LedgerAt m' b (st.q25 a) F'∧Fr m m' F∧∀c,c∈F'→c∈F∨m.next≤c:=by
 obtain⟨tp,tq,ta,FP,FQ,FA,h1,h2,h3,h4,h5,h6,h7,h8,h9,h10,rfl⟩:=h.ex
 have f1:Fr m (m.lay (.cells a.cells false)) []:=(Fr.refl m).lay _
 have hb:=Mem.q0w h1
 have a3:∀i:Nat,ld1 m (.ptr (some ⟨b,i⟩))=[.int .i64 st.most,.ptr (some ⟨tp,0⟩),.ptr (some ⟨tq,0⟩),.ptr (some ⟨ta,0⟩),.int .u64 st.latest][i]?:=fun i=>q0j h1
 obtain⟨m1,FA',g1,g2,g3,g4⟩:=putA_is (h4.frame f1 (by simp)) hs (by simp;omega) a.id (v:=a.cells) rfl rfl
 simp only[putK,putV,ha,if_true]at g2
 have e1:st.q0n.map (·.id)=(st.q25 a).q0n.map (·.id):=(LSt.q39 ha).symm
 have e2:(st.q0n.map (·.cells)).set (lb q0f a.id (st.q0n.map (·.id))) a.cells=(st.q25 a).q0n.map (·.cells):=by
  unfold LSt.q25 LSt.iA;rw[List.map_set]
 rw[e2]at g2
 obtain⟨F',q1,q2,q3⟩:=LedgerAt.q0n (az:=(st.q25 a).q0n) (f1.get h1 (by simp)) (h2.frame f1 (by simp)) (h3.frame f1 (by simp)) (h4.frame f1 (by simp)) h5 h6 h7 h8 h9 h10 g3 (by rw[←e1];exact g2) g4
 refine⟨m1,F',?_,q1,(f1.any _).step q2 (fun c hc=>.inl hc),fun c hc=>(q3 c hc).imp id (fun h=>Nat.le_trans f1.next h)⟩
 have g1':run E18 (.fn 41) [.ptr (some ⟨ta,0⟩),.int .u64 a.id,.agg a.cells] (m.lay (.cells a.cells false))=_:=(z0w (H:=H18) rfl _ _).trans g1
 simp only[AccV.cells]at g1'
 simp only[AccV.cells,f58_is (H:=H18) rfl,T.f58,p1,q1h,nnA,Nat.reduceAdd,w_f58,AV.one,AV.cells,Nat.reduceLeDiff,lcl,q2d hb,a3,g1']
theorem putQ_is2 (h:LedgerAt m b st F) (hs:Srt q0c (st.pairs.map (·.key))) (hl:st.pairs.length≤64) (q:PairV) {tp tq ta:AV}
  (hb:m.get b=some (.cells [.int .i64 st.most,tp,tq,ta,.int .u64 st.latest] false)) :
  ∃r m' F',run E18 (.fn 40) [tq,.str q.key,.agg q.cells] m=some (r,m')∧LedgerAt m' b (st.q8h q) F'∧Fr m m' F∧∀c,c∈F'→c∈F∨m.next≤c:=by
 obtain⟨tp',tq',ta',FP,FQ,FA,h1,h2,h3,h4,h5,h6,h7,h8,h9,h10,rfl⟩:=h.ex
 rw[h1]at hb
 simp only[Option.some.injEq,Blk.cells.injEq,List.cons.injEq,and_true,true_and]at hb
 obtain⟨rfl,rfl,rfl⟩:=hb
 obtain⟨m1,FQ',g1,g2,g3,g4⟩:=putQ_is h3 hs (by simp;omega) q.key (v:=q.cells) rfl rfl
 have key:TabAt .str 9 m1 tq' ((st.q8h q).pairs.map (·.key)) ((st.q8h q).pairs.map (·.cells)) 64 FQ':=by
  unfold putK putV at g2
  unfold LSt.q8h LSt.iQ
  by_cases hk:q1d q0c q.key (st.pairs.map (·.key))=true
  ·simp only[hk,if_true]at g2⊢
   rw[List.map_set,List.map_set,q3x (q5o hk)]
   exact g2
  ·simp only[hk,Bool.false_eq_true,if_false,List.length_map]at g2⊢
   by_cases hf:st.pairs.length<64
   ·rw[if_pos (by omega),if_pos (by omega)]at g2
    rw[if_pos hf,q55,q55]
    exact g2
   ·rw[if_neg (by omega),if_neg (by omega)]at g2
    rw[if_neg hf]
    exact g2
 obtain⟨F',q1,q2,q3⟩:=LedgerAt.pairs (qs:=(st.q8h q).pairs) h1 h2 h3 h4 h5 h6 h7 h8 h9 h10 g3 key g4
 exact⟨_,m1,F',(z0w (H:=H18) rfl _ _).trans g1,q1,q2,q3⟩
end
end
section
set_option maxRecDepth 4000
open Go Go.Abs
theorem j1l {s:List UInt8} (h:q66 s=true):s.length=3:=by
 unfold q66 at h
 simp only[Bool.and_eq_true,decide_eq_true_eq]at h
 exact h.2
theorem q2s {st:LSt} (w:LWf st) {k:List UInt8} (h:(st.q5l k).isSome=true):k.length=3:=by
 cases hk:q1d q0c k (st.q0b.map (·.name)) with
 |false=>rw[LSt.q4h hk]at h;simp at h
 |true=>
  obtain⟨p,p1,p2,p3,p4⟩:=LSt.q2v hk
  rw[←p2];exact j1l (w.okp p p4).2.2.2
section
variable {m:Mem} {b:Nat} {st:LSt} {F:List Nat}
theorem j9c (h:LedgerAt m b st F) (w:LWf st) (id:Int) :
  Res m (run E18 (.fn 17) [.ptr (some ⟨b,0⟩),.int .u64 id] m) (.tup [.agg (q02 (q08 st id).1 (q08 st id).2.1),.int .i64 (q08 st id).2.2]):=by
 have om:=of_at2 (H:=H18) rfl h w id
 unfold q08
 obtain⟨o,ho⟩:∃o,o=st.of id:=⟨_,rfl⟩
 rw[←ho]at om⊢
 obtain⟨a,p,e⟩:=o
 simp only[AccV.cells,PurseV.cells]at om
 by_cases he:e=0
 ·subst he
  simp (maxDischargeDepth:=20) only [f17_is (H:=H18) rfl,T.f17,pB,p1,p2,q0r,AV.cells,Nat.reduceAdd,Nat.reduceLeDiff,q0g,q0a,q1g,q1i,w_f17,AV.one,over,lcl,om,frl,Fr.refl,decide_true,Bool.not_true]
  simp only[g17_0_is (H:=H18),T.g17_0,p1,q1,q0r,AV.cells,Nat.reduceAdd,Nat.reduceLeDiff,q1g,q1i,w_g17_0,AV.one,over,lcl]
  refine Res.eq ?_ (by simp[q02])
  (repeat apply Fr.lays)
  exact Fr.refl _
 ·simp (maxDischargeDepth:=20) only [f17_is (H:=H18) rfl,T.f17,pB,p1,p2,q0r,AV.cells,Nat.reduceAdd,Nat.reduceLeDiff,q0g,q0a,q1g,q1i,w_f17,AV.one,over,lcl,om,frl,Fr.refl,df he,Bool.not_false]
  refine Res.eq ?_ (by simp[q02,he])
  (repeat apply Fr.lays)
  exact Fr.refl _
end
end
section
set_option maxRecDepth 8000
open Go Go.Abs
theorem moves_is {M:Mem} {b1 o1 b2 o2:Nat} {c1 c2:List AV} (g1:M.get b1=some (.cells c1 false)) (g2:M.get b2=some (.cells c2 false)) (hne:b1≠b2) {x y w:Wd} (hx:x.ok) (hy:y.ok) (hw:w.ok)
  (l1:o1+2≤c1.length) (l2:o2+2≤c2.length) (e1:(c1.drop o1).take 2=x.cells) (e2:(c2.drop o2).take 2=y.cells) :
  (q4r x y w=false→Res M (run E18 (.fn 57) [.ptr (some ⟨b1,o1⟩),.ptr (some ⟨b2,o2⟩),.agg w.cells] M) (.int .i64 20))∧
  (q4r x y w=true→∃M',run E18 (.fn 57) [.ptr (some ⟨b1,o1⟩),.ptr (some ⟨b2,o2⟩),.agg w.cells] M=some (.int .i64 0,M')∧
   M'.get b1=some (.cells (c1.take o1++(Wd.of (x.val-w.val)).cells++c1.drop (o1+2)) false)∧M'.get b2=some (.cells (c2.take o2++(Wd.of (y.val+w.val)).cells++c2.drop (o2+2)) false)∧Fr M M' [b1,b2]):=by
 have hb1:=Mem.q0w g1
 have hb2:=Mem.q0w g2
 have su:=fun m=>sub_at (H:=H18) rfl hx hw m
 have ad:=fun m=>j5b (H:=H18) rfl hy hw m
 have k1:=q4t (n:=x.val-w.val)
 have k2:=q4t (n:=y.val+w.val)
 have r1:=q1v (o:=o1) (n:=2) g1 l1
 have r2:=q1v (o:=o2) (n:=2) g2 l2
 rw[e1]at r1
 rw[e2]at r2
 simp only[Wd.cells]at su ad r1 r2
 have bb:=hne
 constructor
 ·intro hf
  unfold q4r at hf
  simp only[Wd.cells]
  cases f1:q1c (x.val-w.val) with
  |false=>
   rw[f1]at k1
   simp only[f57_is (H:=H18) rfl,T.f57,p1,q1,pB,p2,q1h,nnA,q0g,q0a,ifV,w_f57,AV.one,over,AV.cells,Nat.reduceAdd,Nat.reduceLeDiff,lcl,q2d hb1,q2d hb2,q8p hb2,r1,r2,su,ad,k1,Bool.not_false]
   refine Res.eq ?_ rfl
   (repeat apply Fr.lays)
   exact Fr.refl _
  |true=>
   rw[f1,Bool.true_and]at hf
   rw[f1]at k1
   rw[hf]at k2
   simp only[f57_is (H:=H18) rfl,T.f57,p1,q1,pB,p2,q1h,nnA,q0g,q0a,ifV,w_f57,AV.one,over,AV.cells,Nat.reduceAdd,Nat.reduceLeDiff,lcl,q2d hb1,q2d hb2,q8p hb2,r1,r2,su,ad,k1,k2,Bool.not_false,Bool.not_true]
   refine Res.eq ?_ rfl
   (repeat apply Fr.lays)
   exact Fr.refl _
 ·intro hf
  unfold q4r at hf
  rw[Bool.and_eq_true]at hf
  rw[hf.1]at k1
  rw[hf.2]at k2
  rw[q2b hf.1]at su
  rw[q2b hf.2]at ad
  obtain⟨nx,hnx⟩:∃nx,nx=Wd.of (x.val-w.val):=⟨_,rfl⟩
  obtain⟨ny,hny⟩:∃ny,ny=Wd.of (y.val+w.val):=⟨_,rfl⟩
  rw[←hnx]at su⊢
  rw[←hny]at ad⊢
  have s1:=q3l (v:=.agg nx.cells) (vs:=nx.cells) (o:=o1) (n:=2) g1 rfl rfl l1
  obtain⟨M1,hM1⟩:∃M1,M1=M.put b1 (some (.cells (c1.take o1++nx.cells++c1.drop (o1+2)) false)):=⟨_,rfl⟩
  have s1':stV M (.ptr (some ⟨b1,o1⟩)) (.agg [.int .i64 nx.hi,.int .u64 nx.lo]) 2=some M1:=by rw[hM1];exact s1
  have q1:M1.get b1=some (.cells (c1.take o1++nx.cells++c1.drop (o1+2)) false):=by rw[hM1];exact q05 g1
  have q2:M1.get b2=some (.cells c2 false):=by rw[hM1,q3e (fun h=>hne h.symm)];exact g2
  have n1:M1.next=M.next:=by rw[hM1];rfl
  have s2:=q3l (v:=.agg ny.cells) (vs:=ny.cells) (o:=o2) (n:=2) q2 rfl rfl l2
  obtain⟨M2,hM2⟩:∃M2,M2=M1.put b2 (some (.cells (c2.take o2++ny.cells++c2.drop (o2+2)) false)):=⟨_,rfl⟩
  have s2':stV M1 (.ptr (some ⟨b2,o2⟩)) (.agg [.int .i64 ny.hi,.int .u64 ny.lo]) 2=some M2:=by rw[hM2];exact s2
  have p1:M2.get b1=some (.cells (c1.take o1++nx.cells++c1.drop (o1+2)) false):=by rw[hM2,q3e hne];exact q1
  have p2:M2.get b2=some (.cells (c2.take o2++ny.cells++c2.drop (o2+2)) false):=by rw[hM2];exact q05 q2
  have n2:M2.next=M.next:=by rw[hM2];exact n1
  have f2:Fr M M2 [b1,b2]:=by
   rw[hM2,hM1]
   exact((Fr.refl' M [b1,b2]).put' (.inl (by simp))).put' (.inl (by simp))
  have hb1':b1<M2.next:=by omega
  have hb2':b2<M2.next:=by omega
  refine⟨((M2.lay (.cells w.cells false)).lay (.cells nx.cells false)).lay (.cells ny.cells false),?_,?_,?_,?_⟩
  ·simp only[Wd.cells]
   simp only[f57_is (H:=H18) rfl,T.f57,pB,q1h,nnA,q0g,q0a,ifV,w_f57,AV.one,over,AV.cells,Nat.reduceAdd,Nat.reduceLeDiff,lcl,q2d hb1,q2d hb2,q8p hb2,r1,r2,su,ad,decide_true,Bool.not_true]
   simp only[g57_0_is (H:=H18),T.g57_0,nnA,w_g57_0,AV.one,over,AV.cells,Nat.reduceAdd,Nat.reduceLeDiff,lcl,q2d hb1,q8p hb1,j5g hb1,q2d hb2,q8p hb2,j5g hb2,s1',s2',n1]
  ·simp only[Mem.q04,Mem.q00,q2d hb1',q8p hb1',j5g hb1',if_false]
   exact p1
  ·simp only[Mem.q04,Mem.q00,q2d hb2',q8p hb2',j5g hb2',if_false]
   exact p2
  ·exact((f2.lay _).lay _).lay _
end
section
set_option maxRecDepth 8000
open Go Go.Abs
def q4l (w:Wd) (s:Int) (v:Wd) (t:Int) (n:Int):Wd×Int×Int:=
 if (0≤s∧s≤18)∧(0≤n∧n≤18) then
  if 0<w.val then
   if q5r v t=0 then (if q1c (mulV w.val v.val (s+t-n))=true then (Wd.of (mulV w.val v.val (s+t-n)),n,0) else (⟨0,0⟩,0,20)) else (⟨0,0⟩,0,q5r v t)
  else (⟨0,0⟩,0,43)
 else (⟨0,0⟩,0,21)
theorem z9z (w:Wd) (s:Int) (v:Wd) (t:Int) (n:Int):j5i w s v t n=.tup [.agg (q02 (q4l w s v t n).1 (q4l w s v t n).2.1),.int .i64 (q4l w s v t n).2.2]:=by
 unfold j5i q4l q6t
 (repeat' split)<;>rfl
theorem crossD_ok (w:Wd) (s:Int) (v:Wd) (t:Int) (n:Int):(q4l w s v t n).1.ok:=by
 unfold q4l
 (repeat' split)<;>first|exact wd_ok0|exact Wd.q44 (by assumption)
def convT (st:LSt) (a:AccV) (p:PurseV) (a':AccV) (p':PurseV) (q:PairV) (w:Wd) (s:Int):Wd×Int×Int×LSt:=
 if q3b p w s≠0 then (⟨0,0⟩,0,q3b p w s,st) else
 if a.bal.val<w.val then (⟨0,0⟩,0,42,st) else
 let g:=q4l w s q.rate q.rscale p'.scale
 if g.2.2≠0 then (⟨0,0⟩,0,g.2.2,st) else
 if q4r a.bal q.inx w=false∨q4r q.outy a'.bal g.1=false then (⟨0,0⟩,0,20,st) else
 (g.1,g.2.1,0,((st.q25 {a with bal:=Wd.of (a.bal.val-w.val)}).q25 {a' with bal:=Wd.of (a'.bal.val+g.1.val)}).q8h {q with inx:=Wd.of (q.inx.val+w.val),outy:=Wd.of (q.outy.val-g.1.val)})
def q4p (st:LSt) (a b:Int) (w:Wd) (s:Int):Wd×Int×Int×LSt:=
 let o:=st.of a
 let p:=st.of b
 if o.2.2≠0 then (⟨0,0⟩,0,o.2.2,st) else
 if p.2.2≠0 then (⟨0,0⟩,0,p.2.2,st) else
 if o.2.1.name=p.2.1.name then (⟨0,0⟩,0,45,st) else
 match st.getQ (o.2.1.name++p.2.1.name) with
 |none=>(⟨0,0⟩,0,44,st)
 |some q=>convT st o.1 o.2.1 p.1 p.2.1 q w s
def z3:List AV:=[.int .i64 0,.int .u64 0,.int .i64 0]
section
variable {M:Mem} {n b:Nat} {st:LSt} {F:List Nat}
end
end
end Go.Proofs.YtlginbmjiecglaaGreatDoor
namespace Go.Abs
section
open Go
noncomputable def Ry (P:Program) (E:Env) (b:Nat):Do:=
 ⟨run E,fun k _ m=>fin P (.rd b) (Nat.casesOn (motive:=fun _=>Option Jmp) k none fun k=>Nat.casesOn (motive:=fun _=>Option Jmp) k (some .ret) fun id=>some (.exit id)) [] m,fun _ _ _ _=>none⟩
theorem z8h {E:Env} {f i b:Nat} {args t:List AV} {m:Mem} {st:LoopState} {pe:Option Jmp} (hm:m.get b=some (.loop {q0y E f i t with state:=st,pending:=pe})) (hl:args.length=(q0y E f i t).params.length) {n:Nat} {r:AV×Mem}
  (h:goF E (run E) (.rd b) n [.code (q0y E f i t).assign,.beginRound,.code (q0y E f i t).body] (j22 (q0y E f i t).params args t) m=some r):run E (.yl b) args m=some r:=by
 have ht:(q0y E f i t).tmps=t:=by unfold q0y;split<;>rfl
 rw[j2b,q5s,hm]
 simp only
 rw[if_pos hl,ht]
 exact Le.goF (fun _ _ _=>Le.refl _) _ _ _ _ _ _ h
theorem q7r (E:Env) (f i:Nat) (t:List AV):q0y E f i t={q0y E f i []with tmps:=t}:=by unfold q0y;split<;>rfl
theorem z7v {E E':Env} (h:E.B=E'.B) {f i:Nat} {t:List AV}:q0y E f i t=q0y E' f i t:=by unfold q0y codeOf;rw[h]
end
end Go.Abs
namespace Go.Proofs.YtlginbmjiecglaaGreatDoor.T
section
open Go Go.Abs Go.Proofs.YtlginbmjiecglaaGreatDoor
set_option maxRecDepth 10000
variable {H:FuncId→Option (List AV→Mem→R)}
noncomputable def y16_0 (b:Nat):List AV→CM:=apS fun _=>apS fun u1=>apS fun _=>apS fun _=>apS fun t3=>apS fun _=>apS fun _=>apS fun _=>apS fun _=>apS fun _=>apS fun _=>apS fun _=>ap0<|
 CM.al (some (.cells [(.str []),(.int .i64 0),(.int .i64 0),(.int .u64 0)] false,pB)) fun x0=>
 CM.st (fun m=>stV m x0 u1 4)<|
 CM.st (q5m (.rd b))<|
 CM.pu (p1 (fun a=>q0k Tryz.prog 28 a 0) t3) fun x2=>
 CM.rm (q1 (q2r Tryz.prog 23) x2 ) fun x3=>
 CM.rm (q1 (q2r Tryz.prog 56) x0 ) fun x4=>
 CM.al (bsA 4 1 [(.str []),(.int .i64 0),(.int .i64 0),(.int .u64 0)] [(0,x4)]) fun x5=>
 CM.ef (apE 4 40 x3 x5) fun x6=>
 CM.pu (p1 (fun a=>q0k Tryz.prog 28 a 0) t3) fun x7=>
 CM.st (fun m=>stV m x7 x6 1)<|
 CM.go 0 []
theorem y16_0_ok (b:Nat) (u0:AV) (u1:AV) (t0:AV) (t2:AV) (t3:AV) (t5:AV) (t7:AV) (t9:AV) (t19:AV) (t21:AV) (t34:AV) (t47:AV) (m:Mem):goF (EH H) (run (EH H)) (.rd b) 400 [.code (q0y (EH H) 16 0 []).assign,.beginRound,.code (q0y (EH H) 16 0 []).body] (j22 (q0y (EH H) 16 0 []).params [u0,u1] ([t0,.undef,t2,t3,.undef,t5,.undef,t7,.undef,t9,.undef,.undef,.undef,.undef,.undef,.undef,.undef,.undef,.undef,t19,.undef,t21,.undef,.undef,.undef,.undef,.undef,.undef,.undef,.undef,.undef,.undef,.undef,.undef,t34,.undef,.undef,.undef,.undef,.undef,.undef,.undef,.undef,.undef,.undef,.undef,.undef,t47]++List.replicate 7 .undef)) m=q0l (Ry Tryz.prog (EH H) b) (y16_0 b [u0,u1,t0,t2,t3,t5,t7,t9,t19,t21,t34,t47]) m:=by kernel_rfl
noncomputable def y16_1 (b:Nat):List AV→CM:=apS fun _=>apS fun u1=>apS fun _=>apS fun _=>apS fun t3=>apS fun _=>apS fun _=>apS fun _=>apS fun _=>apS fun _=>ap0<|
 CM.al (some (.cells [(.str []),(.str []),(.int .i64 0),(.int .u64 0),(.int .i64 0),(.int .i64 0),(.int .u64 0),(.int .i64 0),(.int .u64 0)] false,pB)) fun x0=>
 CM.st (fun m=>stV m x0 u1 9)<|
 CM.st (q5m (.rd b))<|
 CM.pu (p1 (fun a=>q0k Tryz.prog 28 a 1) t3) fun x2=>
 CM.rm (q1 (q2r Tryz.prog 24) x2 ) fun x3=>
 CM.rm (q1 (q2r Tryz.prog 74) x0 ) fun x4=>
 CM.al (bsA 9 1 [(.str []),(.str []),(.int .i64 0),(.int .u64 0),(.int .i64 0),(.int .i64 0),(.int .u64 0),(.int .i64 0),(.int .u64 0)] [(0,x4)]) fun x5=>
 CM.ef (apE 9 88 x3 x5) fun x6=>
 CM.pu (p1 (fun a=>q0k Tryz.prog 28 a 1) t3) fun x7=>
 CM.st (fun m=>stV m x7 x6 1)<|
 CM.go 0 []
theorem y16_1_ok (b:Nat) (u0:AV) (u1:AV) (t0:AV) (t2:AV) (t3:AV) (t7:AV) (t9:AV) (t32:AV) (t34:AV) (t47:AV) (m:Mem):goF (EH H) (run (EH H)) (.rd b) 400 [.code (q0y (EH H) 16 1 []).assign,.beginRound,.code (q0y (EH H) 16 1 []).body] (j22 (q0y (EH H) 16 1 []).params [u0,u1] ([t0,.undef,t2,t3,.undef,.undef,.undef,t7,.undef,t9,.undef,.undef,.undef,.undef,.undef,.undef,.undef,.undef,.undef,.undef,.undef,.undef,.undef,.undef,.undef,.undef,.undef,.undef,.undef,.undef,.undef,.undef,t32,.undef,t34,.undef,.undef,.undef,.undef,.undef,.undef,.undef,.undef,.undef,.undef,.undef,.undef,t47]++List.replicate 7 .undef)) m=q0l (Ry Tryz.prog (EH H) b) (y16_1 b [u0,u1,t0,t2,t3,t7,t9,t32,t34,t47]) m:=by kernel_rfl
noncomputable def y16_2 (b:Nat):List AV→CM:=apS fun _=>apS fun u1=>apS fun _=>apS fun t3=>apS fun _=>apS fun _=>apS fun _=>ap0<|
 CM.al (some (.cells [(.int .u64 0),(.str []),(.int .i64 0),(.int .u64 0)] false,pB)) fun x0=>
 CM.st (fun m=>stV m x0 u1 4)<|
 CM.st (q5m (.rd b))<|
 CM.pu (p1 (fun a=>q0k Tryz.prog 28 a 2) t3) fun x2=>
 CM.rm (q1 (q2r Tryz.prog 25) x2 ) fun x3=>
 CM.rm (q1 (q2r Tryz.prog 54) x0 ) fun x4=>
 CM.al (bsA 4 1 [(.int .u64 0),(.str []),(.int .i64 0),(.int .u64 0)] [(0,x4)]) fun x5=>
 CM.ef (apE 4 40 x3 x5) fun x6=>
 CM.pu (p1 (fun a=>q0k Tryz.prog 28 a 2) t3) fun x7=>
 CM.st (fun m=>stV m x7 x6 1)<|
 CM.go 0 []
theorem y16_2_ok (b:Nat) (u0:AV) (u1:AV) (t2:AV) (t3:AV) (t9:AV) (t45:AV) (t47:AV) (m:Mem):goF (EH H) (run (EH H)) (.rd b) 400 [.code (q0y (EH H) 16 2 []).assign,.beginRound,.code (q0y (EH H) 16 2 []).body] (j22 (q0y (EH H) 16 2 []).params [u0,u1] ([.undef,.undef,t2,t3,.undef,.undef,.undef,.undef,.undef,t9,.undef,.undef,.undef,.undef,.undef,.undef,.undef,.undef,.undef,.undef,.undef,.undef,.undef,.undef,.undef,.undef,.undef,.undef,.undef,.undef,.undef,.undef,.undef,.undef,.undef,.undef,.undef,.undef,.undef,.undef,.undef,.undef,.undef,.undef,.undef,t45,.undef,t47]++List.replicate 7 .undef)) m=q0l (Ry Tryz.prog (EH H) b) (y16_2 b [u0,u1,t2,t3,t9,t45,t47]) m:=by kernel_rfl
end
end Go.Proofs.YtlginbmjiecglaaGreatDoor.T
namespace Go.Proofs.YtlginbmjiecglaaGreatDoor
section
open Go Go.Abs Go.Proofs.YtlginbmjiecglaaGreatDoor.T
set_option maxRecDepth 4000
variable {H:FuncId→Option (List AV→Mem→R)}
theorem y16_0_is {b:Nat} (u0 u1 t0 t2 t3 t5 t7 t9 t19 t21 t34 t47:AV) {m:Mem} {st:LoopState} {pe:Option Jmp} (hm:m.get b=some (.loop {q0y (T.EH fun _=>none) 16 0 (([t0,.undef,t2,t3,.undef,t5,.undef,t7,.undef,t9,.undef,.undef,.undef,.undef,.undef,.undef,.undef,.undef,.undef,t19,.undef,t21,.undef,.undef,.undef,.undef,.undef,.undef,.undef,.undef,.undef,.undef,.undef,.undef,t34,.undef,.undef,.undef,.undef,.undef,.undef,.undef,.undef,.undef,.undef,.undef,.undef,t47]++List.replicate 7 .undef)) with state:=st,pending:=pe})) {r:AV×Mem} (h:q0l (Ry Tryz.prog (T.EH H) b) (T.y16_0 b [u0,u1,t0,t2,t3,t5,t7,t9,t19,t21,t34,t47]) m=some r):run (T.EH H) (.yl b) [u0,u1] m=some r:=by
 rw[z7v (show (T.EH fun _=>none).B=(T.EH H).B from rfl)]at hm
 refine z8h hm (by rw[q7r];kernel_rfl) (n:=400) ?_
 rw[q7r]
 exact(T.y16_0_ok b u0 u1 t0 t2 t3 t5 t7 t9 t19 t21 t34 t47 m).trans h
theorem y16_1_is {b:Nat} (u0 u1 t0 t2 t3 t7 t9 t32 t34 t47:AV) {m:Mem} {st:LoopState} {pe:Option Jmp} (hm:m.get b=some (.loop {q0y (T.EH fun _=>none) 16 1 (([t0,.undef,t2,t3,.undef,.undef,.undef,t7,.undef,t9,.undef,.undef,.undef,.undef,.undef,.undef,.undef,.undef,.undef,.undef,.undef,.undef,.undef,.undef,.undef,.undef,.undef,.undef,.undef,.undef,.undef,.undef,t32,.undef,t34,.undef,.undef,.undef,.undef,.undef,.undef,.undef,.undef,.undef,.undef,.undef,.undef,t47]++List.replicate 7 .undef)) with state:=st,pending:=pe})) {r:AV×Mem} (h:q0l (Ry Tryz.prog (T.EH H) b) (T.y16_1 b [u0,u1,t0,t2,t3,t7,t9,t32,t34,t47]) m=some r):run (T.EH H) (.yl b) [u0,u1] m=some r:=by
 rw[z7v (show (T.EH fun _=>none).B=(T.EH H).B from rfl)]at hm
 refine z8h hm (by rw[q7r];kernel_rfl) (n:=400) ?_
 rw[q7r]
 exact(T.y16_1_ok b u0 u1 t0 t2 t3 t7 t9 t32 t34 t47 m).trans h
theorem y16_2_is {b:Nat} (u0 u1 t2 t3 t9 t45 t47:AV) {m:Mem} {st:LoopState} {pe:Option Jmp} (hm:m.get b=some (.loop {q0y (T.EH fun _=>none) 16 2 (([.undef,.undef,t2,t3,.undef,.undef,.undef,.undef,.undef,t9,.undef,.undef,.undef,.undef,.undef,.undef,.undef,.undef,.undef,.undef,.undef,.undef,.undef,.undef,.undef,.undef,.undef,.undef,.undef,.undef,.undef,.undef,.undef,.undef,.undef,.undef,.undef,.undef,.undef,.undef,.undef,.undef,.undef,.undef,.undef,t45,.undef,t47]++List.replicate 7 .undef)) with state:=st,pending:=pe})) {r:AV×Mem} (h:q0l (Ry Tryz.prog (T.EH H) b) (T.y16_2 b [u0,u1,t2,t3,t9,t45,t47]) m=some r):run (T.EH H) (.yl b) [u0,u1] m=some r:=by
 rw[z7v (show (T.EH fun _=>none).B=(T.EH H).B from rfl)]at hm
 refine z8h hm (by rw[q7r];kernel_rfl) (n:=400) ?_
 rw[q7r]
 exact(T.y16_2_ok b u0 u1 t2 t3 t9 t45 t47 m).trans h
abbrev w_y16_0:=ai @wp<|ai @q2u<|ai @z0s<|ai @j7v<|ai @Nat.zero_add<|ai @Nat.add_zero @ge
abbrev w_y16_1:=ai @wp<|ai @q4m<|ai @z9k<|ai @ld74<|ai @Nat.zero_add<|ai @Nat.add_zero @ge
abbrev w_y16_2:=ai @wp<|ai @q2a<|ai @q7q<|ai @j30<|ai @Nat.zero_add<|ai @Nat.add_zero @ge
end
end Go.Proofs.YtlginbmjiecglaaGreatDoor
namespace Go.Abs
section
open Go
theorem q5w {n w:Nat} (hn:0<n) {m:Mem} {s:AV} {l:List (List AV)} {rb:Option Nat} (h:q1s n m s l rb) {xb:Nat} {new:List AV} (hx:m.get xb=some (.cells new false)) (hl:new.length=n) (ho:new.all AV.one=true)
  (hb:(l.length+1)*w≤q1p) :
  ∃s' m',q1q n w s (.sl (some ⟨xb,0⟩) n 1 1 true) m=some (s',m')∧q1s n m' s' (l++[new]) (some m.next)∧m'.next=m.next+1∧Fr m m' rb.toList:=by
 have hsrc:q68 n (.sl (some ⟨xb,0⟩) n 1 1 true) m=some (1,new):=by
  simp only[q68,true_or,if_true,q07,hx,Nat.one_mul,Nat.zero_add,hl,Nat.le_refl,List.drop_zero,Option.map_some]
  rw[List.take_of_length_le (by omega)]
 have hall:∀x∈l++[new],x.length=n∧x.all AV.one=true:=by
  intro x hx'
  simp only[List.mem_append,List.mem_singleton]at hx'
  rcases hx' with h1|rfl
  ·exact h.1 x h1
  ·exact⟨hl,ho⟩
 have hlens:=h.lens
 have hlen:(l++[new]).length=l.length+1:=by simp
 have hfl:=q2l hlens
 unfold q1q
 rw[hsrc]
 simp only[ho,not_true_eq_false,if_false]
 rcases h.2 with ⟨rfl,rfl,sz,ex,rfl⟩|⟨b,rfl,rfl,h3⟩
 ·simp only[Nat.one_ne_zero,if_false]
  rw[if_pos (by simpa using hb)]
  exact⟨_,_,rfl,⟨hall,.inr ⟨m.next,rfl,by simp,by simp[Mem.q04]⟩⟩,rfl,Fr.alloc _ _⟩
 ·simp only[true_or,if_true]
  have hld:q07 m ⟨b,0⟩ (l.length*n)=some l.flatten:=by
   simp only[q07,h3]
   rw[if_pos (by omega),List.drop_zero,List.take_of_length_le (by omega)]
  rw[if_neg (by omega),if_pos hb,hld]
  simp only[Bool.false_eq_true,if_false,h3]
  refine⟨_,_,rfl,⟨hall,.inr ⟨m.next,rfl,by rw[hlen],?_⟩⟩,rfl,((Fr.put m b none).trans (Fr.alloc _ _) (by simp) (by simp))⟩
  simp[Mem.q04,List.flatten_append]
theorem q35 {n w:Nat} {m:Mem} {s:AV} {l:List (List AV)} {rb:Option Nat} (h:q1s n m s l rb) (hb:l.length*w≤q1p) :
  ∃b ex m',q1q n w (.sl (some ⟨m.next,0⟩) n 0 0 true) s (m.lay (.cells [] false))=some (.sl (some ⟨b,0⟩) n l.length l.length ex,m')∧m'.get b=some (.cells l.flatten false)∧Fr m m' []∧m.next≤b∧(0<l.length→ex=false):=by
 have f1:Fr m (m.lay (.cells [] false)) []:=(Fr.refl m).lay _
 have h':=h.frame f1 (by simp)
 have ones:l.flatten.all AV.one=true:=z2g fun x hx=>(h.1 x hx).2
 have hfl:=q2l h.lens
 have hl0:=q0d m (.cells [] false)
 have src:q68 n s (m.lay (.cells [] false))=some (l.length,l.flatten):=by
  rcases h'.2 with ⟨rfl,rfl,sz,ex,rfl⟩|⟨b,rfl,rfl,h3⟩
  ·rfl
  ·simp only[q68,true_or,if_true,q07,h3]
   rw[if_pos (by omega),List.drop_zero,List.take_of_length_le (by omega)];rfl
 unfold q1q
 rw[src]
 simp only[ones,not_true_eq_false,if_false,true_or,if_true,Nat.zero_add,Nat.zero_mul]
 by_cases h0:l.length=0
 ·have hl:l=[]:=List.length_eq_zero_iff.1 h0
  subst hl
  rw[if_pos (by simp)]
  have hst:q2p (m.lay (.cells [] false)) ⟨m.next,0+0⟩ ([]:List (List AV)).flatten=some (m.lay (.cells [] false)):=by
   simp only[q2p,hl0]
   rw[if_pos (by simp)]
   congr 1
   exact q1m m _ _
  simp only[Nat.add_zero]at hst
  refine⟨m.next,true,m.lay (.cells [] false),?_,hl0,f1,Nat.le_refl _,by simp⟩
  rw[hst];rfl
 ·rw[if_neg (by omega),if_pos hb]
  have hld:q07 (m.lay (.cells [] false)) ⟨m.next,0⟩ 0=some []:=by simp only[q07,hl0];simp
  rw[hld]
  simp only[List.nil_append]
  exact⟨_,_,_,rfl,q0d _ _,f1.lay _,by simp,fun _=>rfl⟩
theorem q65 (E:Env) (f i:Nat) (t:List AV):q0y E f i t={q0y E f i t with state:=.ready,pending:=none}:=by unfold q0y;split<;>rfl
theorem q26 {n w:Nat} (h:n≤4096) (hw:w≤100):n*w≤q1p:=Nat.le_trans (Nat.mul_le_mul h hw) (by decide)
end
end Go.Abs
