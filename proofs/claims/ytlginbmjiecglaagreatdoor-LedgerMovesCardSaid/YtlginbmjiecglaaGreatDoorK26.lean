/- Texts of one claim, put together. -/
import Derived.Test.YtlginbmjiecglaaGreatDoorK0
import Derived.Test.YtlginbmjiecglaaGreatDoorK19
import Derived.Test.YtlginbmjiecglaaGreatDoorK25
namespace Go.Proofs.YtlginbmjiecglaaGreatDoor
section
set_option maxRecDepth 4000
open Go Go.Abs
section
variable {M:Mem} {lb bb:Nat} {cs:List AV} {s:AV} {l:List (List AV)} {rb:Option Nat} (t0 t2 t5 t7 t9 t19 t21 t34 t47:AV)
theorem roundP (k:AV) {v:List AV} (hv:v.length=4) (ho:v.all AV.one=true)
  (hL:M.get lb=some (.loop {q0y (T.EH fun _=>none) 16 0 (([t0,.undef,t2,(.ptr (some ⟨bb,0⟩)),.undef,t5,.undef,t7,.undef,t9,.undef,.undef,.undef,.undef,.undef,.undef,.undef,.undef,.undef,t19,.undef,t21,.undef,.undef,.undef,.undef,.undef,.undef,.undef,.undef,.undef,.undef,.undef,.undef,t34,.undef,.undef,.undef,.undef,.undef,.undef,.undef,.undef,.undef,.undef,.undef,.undef,t47]++List.replicate 7 .undef)) with state:=.ready,pending:=none})) (hB:M.get bb=some (.cells cs false)) (hc:cs.length=4) (hs:cs[0]? = some s)
  (hr:q1s 4 M s l rb) (hne:lb≠bb) (hrb:∀b,rb=some b→b≠lb∧b≠bb) (hlen:(l.length+1)*40≤q1p) :
  ∃s' M' rb',run E18 (.yl lb) [k,.agg v] M=some (.bool true,M')∧M'.get lb=some (.loop {q0y (T.EH fun _=>none) 16 0 (([t0,.undef,t2,(.ptr (some ⟨bb,0⟩)),.undef,t5,.undef,t7,.undef,t9,.undef,.undef,.undef,.undef,.undef,.undef,.undef,.undef,.undef,t19,.undef,t21,.undef,.undef,.undef,.undef,.undef,.undef,.undef,.undef,.undef,.undef,.undef,.undef,t34,.undef,.undef,.undef,.undef,.undef,.undef,.undef,.undef,.undef,.undef,.undef,.undef,t47]++List.replicate 7 .undef)) with state:=.ready,pending:=none})∧
   M'.get bb=some (.cells (cs.set 0 s') false)∧q1s 4 M' s' (l++[v]) (some rb')∧Fr M M' (lb::bb::rb.toList)∧M.next≤rb':=by
 have lL:=Mem.q0w hL
 have lB:=Mem.q0w hB
 obtain⟨M1,hM1⟩:∃M1,M1=M.lay (.cells v false):=⟨_,rfl⟩
 have n1:M1.next=M.next+1:=by rw[hM1];rfl
 have s0:stV (M.lay (.cells [.str [],.int .i64 0,.int .i64 0,.int .u64 0] false)) (.ptr (some ⟨M.next,0⟩)) (.agg v) 4=some M1:=by rw[q1w (n:=4) (q0d M _) rfl hv ho,q1m,hM1]
 have f1:Fr M M1 []:=by rw[hM1];exact(Fr.refl M).lay _
 have L1:=f1.get hL (by simp)
 have v1:M1.get M.next=some (.cells v false):=by rw[hM1];exact q0d _ _
 obtain⟨M2,hM2⟩:∃M2,M2=M1.put lb (some (.loop {q0y (T.EH fun _=>none) 16 0 (([t0,.undef,t2,(.ptr (some ⟨bb,0⟩)),.undef,t5,.undef,t7,.undef,t9,.undef,.undef,.undef,.undef,.undef,.undef,.undef,.undef,.undef,t19,.undef,t21,.undef,.undef,.undef,.undef,.undef,.undef,.undef,.undef,.undef,.undef,.undef,.undef,t34,.undef,.undef,.undef,.undef,.undef,.undef,.undef,.undef,.undef,.undef,.undef,.undef,t47]++List.replicate 7 .undef)) with state:=.busy,pending:=none})):=⟨_,rfl⟩
 have n2:M2.next=M.next+1:=by rw[hM2];exact n1
 have b2:q5m (.rd lb) M1=some M2:=by
  unfold q5m
  simp only[L1,if_true]
  rw[hM2]
 have f12:Fr M1 M2 [lb]:=by rw[hM2];exact Fr.put _ _ _
 have v2:M2.get M.next=some (.cells v false):=f12.get v1 (by simp;omega)
 have B2:M2.get bb=some (.cells cs false):=f12.get (f1.get hB (by simp)) (by simp;exact fun h=>hne h.symm)
 have L2:M2.get lb=some (.loop {q0y (T.EH fun _=>none) 16 0 (([t0,.undef,t2,(.ptr (some ⟨bb,0⟩)),.undef,t5,.undef,t7,.undef,t9,.undef,.undef,.undef,.undef,.undef,.undef,.undef,.undef,.undef,t19,.undef,t21,.undef,.undef,.undef,.undef,.undef,.undef,.undef,.undef,.undef,.undef,.undef,.undef,t34,.undef,.undef,.undef,.undef,.undef,.undef,.undef,.undef,.undef,.undef,.undef,.undef,t47]++List.replicate 7 .undef)) with state:=.busy,pending:=none}):=by rw[hM2];exact q05 L1
 have r2:q1s 4 M2 s l rb:=(hr.frame f1 (by simp)).frame f12 (fun b hb=>by simp only[List.mem_singleton];exact(hrb b hb).1)
 obtain⟨M3,hM3⟩:∃M3,M3=M2.lay (.cells v false):=⟨_,rfl⟩
 have n3:M3.next=M.next+1+1:=by rw[hM3,Mem.q00,n2]
 have f23:Fr M2 M3 []:=by rw[hM3];exact(Fr.refl M2).lay _
 have x3:M3.get (M.next+1)=some (.cells v false):=by rw[hM3,←n2];exact q0d _ _
 have rlt:∀b,rb=some b→b<M.next:=fun b hb=>by subst hb;exact hr.lt
 obtain⟨s',M4,a1,a2,a3,a4⟩:=q5w (w:=40) (by decide) (r2.frame f23 (by simp)) x3 hv ho hlen
 rw[n3]at a2 a3
 have L4:M4.get lb=some (.loop {q0y (T.EH fun _=>none) 16 0 (([t0,.undef,t2,(.ptr (some ⟨bb,0⟩)),.undef,t5,.undef,t7,.undef,t9,.undef,.undef,.undef,.undef,.undef,.undef,.undef,.undef,.undef,t19,.undef,t21,.undef,.undef,.undef,.undef,.undef,.undef,.undef,.undef,.undef,.undef,.undef,.undef,t34,.undef,.undef,.undef,.undef,.undef,.undef,.undef,.undef,.undef,.undef,.undef,.undef,t47]++List.replicate 7 .undef)) with state:=.busy,pending:=none}):=a4.get (f23.get L2 (by simp)) (fun hm=>by
  rw[Option.mem_toList]at hm;exact(hrb _ hm).1 rfl)
 have B4:M4.get bb=some (.cells cs false):=a4.get (f23.get B2 (by simp)) (fun hm=>by rw[Option.mem_toList]at hm;exact(hrb _ hm).2 rfl)
 have s1one:s'.one=true:=a2.one
 have st4:=q3l (v:=s') (vs:=[s']) (o:=0) (n:=1) B4 (q8r s1one) rfl (by omega)
 have hset:cs.take 0++[s']++cs.drop (0+1)=cs.set 0 s':=by
  rw[List.set_eq_take_append_cons_drop,if_pos (by omega)];simp
 rw[hset]at st4
 obtain⟨M5,hM5⟩:∃M5,M5=M4.put bb (some (.cells (cs.set 0 s') false)):=⟨_,rfl⟩
 rw[←hM5]at st4
 have L5:M5.get lb=some (.loop {q0y (T.EH fun _=>none) 16 0 (([t0,.undef,t2,(.ptr (some ⟨bb,0⟩)),.undef,t5,.undef,t7,.undef,t9,.undef,.undef,.undef,.undef,.undef,.undef,.undef,.undef,.undef,t19,.undef,t21,.undef,.undef,.undef,.undef,.undef,.undef,.undef,.undef,.undef,.undef,.undef,.undef,t34,.undef,.undef,.undef,.undef,.undef,.undef,.undef,.undef,.undef,.undef,.undef,.undef,t47]++List.replicate 7 .undef)) with state:=.busy,pending:=none}):=by rw[hM5,q3e hne];exact L4
 obtain⟨M6,hM6⟩:∃M6,M6=M5.put lb (some (.loop {q0y (T.EH fun _=>none) 16 0 (([t0,.undef,t2,(.ptr (some ⟨bb,0⟩)),.undef,t5,.undef,t7,.undef,t9,.undef,.undef,.undef,.undef,.undef,.undef,.undef,.undef,.undef,t19,.undef,t21,.undef,.undef,.undef,.undef,.undef,.undef,.undef,.undef,.undef,.undef,.undef,.undef,t34,.undef,.undef,.undef,.undef,.undef,.undef,.undef,.undef,.undef,.undef,.undef,.undef,t47]++List.replicate 7 .undef)) with state:=.ready,pending:=none})):=⟨_,rfl⟩
 have fi:(Ry Tryz.prog (T.EH H18) lb).gor 0 [] M5=some (.bool true,M6):=by
  show fin Tryz.prog (.rd lb) none [] M5=_
  unfold fin
  simp only[L5,Option.isNone_none,if_true]
  rw[hM6]
 have f6:Fr M M6 (lb::bb::rb.toList):=by
  have g1:Fr M M4 (lb::bb::rb.toList):=(((f1.any _).step f12 (fun c hc=>.inl (by simp at hc;simp[hc]))).step0 f23).step a4 (fun c hc=>.inl (by simp[hc]))
  rw[hM6,hM5]
  exact(g1.put' (.inl (by simp))).put' (.inl (by simp))
 refine⟨s',M6,M.next+1+1,?_,by rw[hM6];exact q05 L5,?_,?_,f6,by omega⟩
 ·have lB2:ld1 M2 (.ptr (some ⟨bb,0⟩))=some s:=by rw[q0j B2];exact hs
  have lv2:ldN M2 (.ptr (some ⟨M.next,0⟩)) 4=some (.agg v):=q1b v2 hv
  refine y16_0_is (H:=H18) k (.agg v) t0 t2 (.ptr (some ⟨bb,0⟩)) t5 t7 t9 t19 t21 t34 t47 hL ?_
  simp only[T.y16_0,pB,p1,q1,apE,w_y16_0,s0,b2,lB2,lv2,q8q (n:=4) (zs:=[.str [],.int .i64 0,.int .i64 0,.int .u64 0]) ho hv (by rfl),n2,←hM3,a1,st4,fi]
 ·rw[hM6,q3e (fun h=>hne h.symm),hM5];exact q05 B4
 ·refine(a2.frame (m':=M5) (S:=[bb]) (by rw[hM5];exact Fr.put _ _ _) (fun b hb=>by cases hb;simp;omega)).frame (m':=M6) (S:=[lb]) (by rw[hM6];exact Fr.put _ _ _) (fun b hb=>by cases hb;simp;omega)
theorem tellP_loop {sk sv:AV} {kb vb:Nat} {ks:List (List UInt8)} {vs:List (List AV)} (hks:vs.length=ks.length) (hn:ks.length≤1000) (hne:lb≠bb):∀(d i:Nat) (M:Mem) (s:AV) (l:List (List AV)) (rb:Option Nat) (cs:List AV),i+d=ks.length→l.length+d≤4096→
  q1s 1 M sk (ks.map fun k=>[.str k]) (some kb)→q1s 4 M sv vs (some vb)→kb≠lb→kb≠bb→vb≠lb→vb≠bb→(∀b,rb=some b→b≠kb∧b≠vb)→
  M.get lb=some (.loop {q0y (T.EH fun _=>none) 16 0 (([t0,.undef,t2,(.ptr (some ⟨bb,0⟩)),.undef,t5,.undef,t7,.undef,t9,.undef,.undef,.undef,.undef,.undef,.undef,.undef,.undef,.undef,t19,.undef,t21,.undef,.undef,.undef,.undef,.undef,.undef,.undef,.undef,.undef,.undef,.undef,.undef,t34,.undef,.undef,.undef,.undef,.undef,.undef,.undef,.undef,.undef,.undef,.undef,.undef,t47]++List.replicate 7 .undef)) with state:=.ready,pending:=none})→M.get bb=some (.cells cs false)→cs.length=4→cs[0]? = some s→q1s 4 M s l rb→(∀b,rb=some b→b≠lb∧b≠bb)→
  ∃s' M' rb',D18.gor 397312 [sv,.yld lb,sk,.int .i64 (ks.length:Int),.int .i64 (i:Int)] M=some (.undef,M')∧M'.get lb=some (.loop {q0y (T.EH fun _=>none) 16 0 (([t0,.undef,t2,(.ptr (some ⟨bb,0⟩)),.undef,t5,.undef,t7,.undef,t9,.undef,.undef,.undef,.undef,.undef,.undef,.undef,.undef,.undef,t19,.undef,t21,.undef,.undef,.undef,.undef,.undef,.undef,.undef,.undef,.undef,.undef,.undef,.undef,t34,.undef,.undef,.undef,.undef,.undef,.undef,.undef,.undef,.undef,.undef,.undef,.undef,t47]++List.replicate 7 .undef)) with state:=.ready,pending:=none})∧
   M'.get bb=some (.cells (cs.set 0 s') false)∧q1s 4 M' s' (l++vs.drop i) rb'∧Fr M M' (lb::bb::rb.toList)∧(∀b,rb'=some b→rb=some b∨M.next≤b):=by
 intro d
 induction d with
 |zero=>
  intro i M s l rb cs hi _ _ _ _ _ _ _ _ hL hB hc hs hr _
  have:i=ks.length:=by omega
  subst this
  refine⟨s,M,rb,?_,hL,?_,?_,Fr.refl' _ _,fun b hb=>.inl hb⟩
  ·simp only[z7c (H:=H18),T.g97_0,p2,q0a,j45,df (show ¬((ks.length:Nat):Int)<(ks.length:Int) by omega)]
  ·rw[show cs.set 0 s=cs from q3x hs];exact hB
  ·rw[←hks,List.drop_length,List.append_nil];exact hr
 |succ d ih=>
  intro i M s l rb cs hi hd hK hV k1 k2 v1 v2 hrk hL hB hc hs hr hrb
  have hlt:i<ks.length:=by omega
  have hlv:i<vs.length:=by omega
  obtain⟨kb',e1,e2,e3⟩:=hK.key hlt
  obtain⟨vb',w1,w2,w3⟩:=hV.val hlv
  have hv:=hV.1 _ (List.getElem_mem hlv)
  obtain⟨s1,M1,rb1,g1,g2,g3,g4,g5,g6⟩:=roundP t0 t2 t5 t7 t9 t19 t21 t34 t47 (.str ks[i]) hv.1 hv.2 hL hB hc hs hr hne hrb (q26 (by omega) (by decide))
  have lK:=hK.lt
  have lV:=hV.lt
  obtain⟨s2,M2,rb2,j1,j2,j3,j4,j5,j6⟩:=ih (i+1) M1 s1 (l++[vs[i]]) (some rb1) (cs.set 0 s1) (by omega) (by simp;omega)
   (hK.frame g5 (fun b hb=>by cases hb;simp;exact⟨k1,k2,fun h=>(hrk _ h).1 rfl⟩)) (hV.frame g5 (fun b hb=>by cases hb;simp;exact⟨v1,v2,fun h=>(hrk _ h).2 rfl⟩)) k1 k2 v1 v2 (fun b hb=>by cases hb;omega) g2 g3 (by simpa using hc) (by rw[List.getElem?_set_self (by omega)]) g4
   (fun b hb=>by cases hb;have:=Mem.q0w hL;have:=Mem.q0w hB;omega)
  rw[List.set_set]at j3
  rw[List.append_assoc,List.singleton_append,←List.drop_eq_getElem_cons hlv]at j4
  refine⟨s2,M2,rb2,?_,j2,j3,j4,g5.step j5 (fun c hc=>?_),fun b hb=>?_⟩
  ·subst e1 w1
   have w2':ixA 4 ks.length ⟨vb',0⟩ (i:Int)=some (.ptr (some ⟨vb',i*4⟩)):=by rw[←hks];exact w2
   simp only[z7c (H:=H18),T.g97_0,p2,q0a,j45,dt (show (i:Int)<(ks.length:Int) by omega)]
   simp only[g97_1_is (H:=H18),T.g97_1,p2,q1,p1,q0a,unA,w_g97_1,true_or,if_true,e2,e3,w2,w3,q6m,g1,Bool.not_true]
   simp only[g97_2_is (H:=H18),T.g97_2,p2,w_g97_2,show (i:Int)+1=((i+1:Nat):Int) by omega,wrap_i64 (n:=((i+1:Nat):Int)) (by omega) (by omega)]
   exact j1
  ·simp only[List.mem_cons,Option.mem_toList,Option.some.injEq]at hc⊢
   rcases hc with rfl|rfl|rfl
   ·exact .inl (.inl rfl)
   ·exact .inl (.inr (.inl rfl))
   ·exact .inr g6
  ·rcases j6 b hb with h|h
   ·cases h;exact .inr g6
   ·exact .inr (Nat.le_trans g5.next h)
theorem keysP {t:Nat} {ks:List (List UInt8)} {vs:List (List AV)} {most:Int} {F:List Nat} (hT:TabAt (.str) 4 M t ks vs most F) (hn:ks.length≤1000) :
  ∃b ex m',run E18 (.fn 98) [.ptr (some ⟨t,0⟩)] M=some (.sl (some ⟨b,0⟩) 1 ks.length ks.length ex,m')∧m'.get b=some (.cells (ks.map fun k=>[.str k]).flatten false)∧Fr M m' []∧M.next≤b∧(0<ks.length→ex=false):=by
 obtain⟨⟨sk,sv,kb,vb,h1,h2,h3,h4,h5,h6,rfl⟩,h7⟩:=hT
 have f1:Fr M (M.lay (.cells [] false)) []:=(Fr.refl M).lay _
 have a3:∀i:Nat,ld1 (M.lay (.cells [] false)) (.ptr (some ⟨t,i⟩))=[sk,sv,.int .i64 most][i]?:=fun i=>q0j (f1.get h1 (by simp))
 obtain⟨b,ex,m',g1,g2,g3,g4,g5⟩:=q35 (w:=16) h2 (q26 (by simp;omega) (by decide))
 simp only[List.length_map]at g1 g5
 refine⟨b,ex,m',?_,g2,g3,g4,g5⟩
 simp only[f98_is (H:=H18) rfl,T.f98,sB,p1,q1,apE,nnA,w_f98,a3,g1]
theorem valsP {t:Nat} {ks:List (List UInt8)} {vs:List (List AV)} {most:Int} {F:List Nat} (hT:TabAt (.str) 4 M t ks vs most F) (hn:ks.length≤1000) :
  ∃b ex m',run E18 (.fn 99) [.ptr (some ⟨t,0⟩)] M=some (.sl (some ⟨b,0⟩) 4 vs.length vs.length ex,m')∧m'.get b=some (.cells vs.flatten false)∧Fr M m' []∧M.next≤b∧(0<vs.length→ex=false):=by
 obtain⟨⟨sk,sv,kb,vb,h1,h2,h3,h4,h5,h6,rfl⟩,h7⟩:=hT
 have f1:Fr M (M.lay (.cells [] false)) []:=(Fr.refl M).lay _
 have a3:∀i:Nat,ld1 (M.lay (.cells [] false)) (.ptr (some ⟨t,i⟩))=[sk,sv,.int .i64 most][i]?:=fun i=>q0j (f1.get h1 (by simp))
 obtain⟨b,ex,m',g1,g2,g3,g4,g5⟩:=q35 (w:=40) h3 (q26 (by omega) (by decide))
 refine⟨b,ex,m',?_,g2,g3,g4,g5⟩
 simp only[f99_is (H:=H18) rfl,T.f99,sB,p1,q1,apE,nnA,w_f99,a3,g1]
theorem rngP {t fb:Nat} {ks:List (List UInt8)} {vs:List (List AV)} {most:Int} {F:List Nat} (hT:TabAt (.str) 4 M t ks vs most F) (hn:ks.length≤1000)
  (hfb:M.get fb=some (.cells [.ptr (some ⟨t,0⟩)] false)) (hB:M.get bb=some (.cells cs false)) (hc:cs.length=4) (hs:cs[0]? = some s) (hr:q1s 4 M s [] none) (go:Option Jmp→Mem→R) :
  ∃s' M' rb',q2x (run E18) (.fn (q3w (T.EH fun _=>none) 16)) (.fn (.func 96) [] [.ptr (some ⟨fb,0⟩)]) (q0y (T.EH fun _=>none) 16 0 (([t0,.undef,t2,(.ptr (some ⟨bb,0⟩)),.undef,t5,.undef,t7,.undef,t9,.undef,.undef,.undef,.undef,.undef,.undef,.undef,.undef,.undef,t19,.undef,t21,.undef,.undef,.undef,.undef,.undef,.undef,.undef,.undef,.undef,.undef,.undef,.undef,t34,.undef,.undef,.undef,.undef,.undef,.undef,.undef,.undef,.undef,.undef,.undef,.undef,t47]++List.replicate 7 .undef))) M go=go none M'∧
   M'.get bb=some (.cells (cs.set 0 s') false)∧q1s 4 M' s' vs rb'∧Fr M M' [bb]∧(∀b,rb'=some b→M.next≤b):=by
 have lB:=Mem.q0w hB
 have lT:=hT.lt
 obtain⟨M1,hM1⟩:∃M1,M1=M.lay (.loop (q0y (T.EH fun _=>none) 16 0 (([t0,.undef,t2,(.ptr (some ⟨bb,0⟩)),.undef,t5,.undef,t7,.undef,t9,.undef,.undef,.undef,.undef,.undef,.undef,.undef,.undef,.undef,t19,.undef,t21,.undef,.undef,.undef,.undef,.undef,.undef,.undef,.undef,.undef,.undef,.undef,.undef,t34,.undef,.undef,.undef,.undef,.undef,.undef,.undef,.undef,.undef,.undef,.undef,.undef,t47]++List.replicate 7 .undef)))):=⟨_,rfl⟩
 have f1:Fr M M1 []:=by rw[hM1];exact(Fr.refl M).lay _
 have n1:M1.next=M.next+1:=by rw[hM1];rfl
 have L1:M1.get M.next=some (.loop {q0y (T.EH fun _=>none) 16 0 (([t0,.undef,t2,(.ptr (some ⟨bb,0⟩)),.undef,t5,.undef,t7,.undef,t9,.undef,.undef,.undef,.undef,.undef,.undef,.undef,.undef,.undef,t19,.undef,t21,.undef,.undef,.undef,.undef,.undef,.undef,.undef,.undef,.undef,.undef,.undef,.undef,t34,.undef,.undef,.undef,.undef,.undef,.undef,.undef,.undef,.undef,.undef,.undef,.undef,t47]++List.replicate 7 .undef)) with state:=.ready,pending:=none}):=by rw[←q65,hM1];exact q0d _ _
 obtain⟨kb,ek,M2,k1,k2,k3,k4,k5⟩:=keysP (hT.frame f1 (by simp)) hn
 obtain⟨vb,ev,M3,v1,v2,v3,v4,v5⟩:=valsP ((hT.frame f1 (by simp)).frame k3 (by simp)) hn
 have d1:ld1 M1 (.ptr (some ⟨fb,0⟩))=some (.ptr (some ⟨t,0⟩)):=by rw[q0j (f1.get hfb (by simp))];rfl
 have d2:ld1 M2 (.ptr (some ⟨fb,0⟩))=some (.ptr (some ⟨t,0⟩)):=by rw[q0j (k3.get (f1.get hfb (by simp)) (by simp))];rfl
 have f3:Fr M1 M3 []:=k3.step0 v3
 have L3:=f3.get L1 (by simp)
 have B3:=f3.get (f1.get hB (by simp)) (by simp)
 have r3:=(hr.frame f1 (by simp)).frame f3 (by simp)
 have n2:=k3.next
 have fin:∃s' M' rb',D18.gor 397312 [.sl (some ⟨vb,0⟩) 4 vs.length vs.length ev,.yld M.next,.sl (some ⟨kb,0⟩) 1 ks.length ks.length ek,.int .i64 (ks.length:Int),.int .i64 ((0:Nat):Int)] M3=some (.undef,M')∧M'.get M.next=some (.loop {q0y (T.EH fun _=>none) 16 0 (([t0,.undef,t2,(.ptr (some ⟨bb,0⟩)),.undef,t5,.undef,t7,.undef,t9,.undef,.undef,.undef,.undef,.undef,.undef,.undef,.undef,.undef,t19,.undef,t21,.undef,.undef,.undef,.undef,.undef,.undef,.undef,.undef,.undef,.undef,.undef,.undef,t34,.undef,.undef,.undef,.undef,.undef,.undef,.undef,.undef,.undef,.undef,.undef,.undef,t47]++List.replicate 7 .undef)) with state:=.ready,pending:=none})∧
   M'.get bb=some (.cells (cs.set 0 s') false)∧q1s 4 M' s' vs rb'∧Fr M3 M' [M.next,bb]∧(∀b,rb'=some b→M3.next≤b):=by
  have hvl:=hT.len
  by_cases h0:ks.length=0
  ·have e:vs=[]:=List.length_eq_zero_iff.1 (by omega)
   subst e
   refine⟨s,M3,none,?_,L3,?_,r3,Fr.refl' _ _,nofun⟩
   ·simp only[z7c (H:=H18),T.g97_0,p2,q0a,j45,df (show ¬((0:Nat):Int)<(ks.length:Int) by omega)]
   ·rw[show cs.set 0 s=cs from q3x hs];exact B3
  ·have hk:=k5 (by omega)
   have hv:=v5 (by omega)
   subst hk hv
   obtain⟨⟨sk,sv,kb',vb',h1,h2,h3,h4,h5,h6,h7⟩,h8⟩:=hT
   have tK:q1s 1 M3 (.sl (some ⟨kb,0⟩) 1 ks.length ks.length false) (ks.map fun k=>[.str k]) (some kb):=⟨h2.1,.inr ⟨kb,rfl,by simp,v3.get k2 (by simp)⟩⟩
   have tV:q1s 4 M3 (.sl (some ⟨vb,0⟩) 4 vs.length vs.length false) vs (some vb):=⟨h3.1,.inr ⟨vb,rfl,rfl,v2⟩⟩
   obtain⟨s',M',rb',g1,g2,g3,g4,g5,g6⟩:=tellP_loop t0 t2 t5 t7 t9 t19 t21 t34 t47 h8 hn (show M.next≠bb by omega) ks.length 0 M3 s [] none cs (by omega) (by simp;omega) tK tV (by omega) (by omega) (by omega) (by omega) (by simp) L3 B3 hc hs r3 (by simp)
   exact⟨s',M',rb',g1,g2,g3,by simpa using g4,by simpa using g5,fun b hb=>by rcases g6 b hb with h|h;cases h;exact h⟩
 obtain⟨s',M4,rb',g1,g2,g3,g4,g5,g6⟩:=fin
 refine⟨s',M4.put M.next none,rb',?_,?_,?_,?_,?_⟩
 ·have hrun:run E18 (.fn 96) [.yld M.next,.ptr (some ⟨fb,0⟩)] M1=some (.undef,M4):=by
   simp only[f96_is (H:=H18) rfl,T.f96,q1,w_f96,d1,k1,d2,v1,if_true]
   simp only[f97_is (H:=H18) rfl,T.f97,p1,w_f97]
   rw[show (0:Int)=((0:Nat):Int) from rfl,g1]
   rfl
  unfold q2x
  simp only[around,if_true,List.nil_append,List.singleton_append]
  rw[←hM1,hrun]
  show q2o M.next M4 go=_
  unfold q2o
  simp only[g2]
  rfl
 ·rw[q3e (by omega)];exact g3
 ·exact g4.frame (Fr.put _ _ _) (fun b hb=>by have:=g6 b hb;have:=f3.next;simp;omega)
 ·refine Fr.put' ?_ (.inr (Nat.le_refl _))
  exact((f1.any _).step0 f3).step g5 (fun c hc=>by
   simp only[List.mem_cons,List.not_mem_nil,or_false]at hc
   rcases hc with rfl|rfl
   ·exact .inr (Nat.le_refl _)
   ·exact .inl (by simp))
 ·intro b hb
  have:=g6 b hb;have:=f3.next;have:=f1.next;omega
end
end
section
set_option maxRecDepth 4000
open Go Go.Abs
section
variable {M:Mem} {lb bb:Nat} {cs:List AV} {s:AV} {l:List (List AV)} {rb:Option Nat} (t0 t2 t7 t9 t32 t34 t47:AV)
theorem roundQ (k:AV) {v:List AV} (hv:v.length=9) (ho:v.all AV.one=true)
  (hL:M.get lb=some (.loop {q0y (T.EH fun _=>none) 16 1 (([t0,.undef,t2,(.ptr (some ⟨bb,0⟩)),.undef,.undef,.undef,t7,.undef,t9,.undef,.undef,.undef,.undef,.undef,.undef,.undef,.undef,.undef,.undef,.undef,.undef,.undef,.undef,.undef,.undef,.undef,.undef,.undef,.undef,.undef,.undef,t32,.undef,t34,.undef,.undef,.undef,.undef,.undef,.undef,.undef,.undef,.undef,.undef,.undef,.undef,t47]++List.replicate 7 .undef)) with state:=.ready,pending:=none})) (hB:M.get bb=some (.cells cs false)) (hc:cs.length=4) (hs:cs[1]? = some s)
  (hr:q1s 9 M s l rb) (hne:lb≠bb) (hrb:∀b,rb=some b→b≠lb∧b≠bb) (hlen:(l.length+1)*88≤q1p) :
  ∃s' M' rb',run E18 (.yl lb) [k,.agg v] M=some (.bool true,M')∧M'.get lb=some (.loop {q0y (T.EH fun _=>none) 16 1 (([t0,.undef,t2,(.ptr (some ⟨bb,0⟩)),.undef,.undef,.undef,t7,.undef,t9,.undef,.undef,.undef,.undef,.undef,.undef,.undef,.undef,.undef,.undef,.undef,.undef,.undef,.undef,.undef,.undef,.undef,.undef,.undef,.undef,.undef,.undef,t32,.undef,t34,.undef,.undef,.undef,.undef,.undef,.undef,.undef,.undef,.undef,.undef,.undef,.undef,t47]++List.replicate 7 .undef)) with state:=.ready,pending:=none})∧
   M'.get bb=some (.cells (cs.set 1 s') false)∧q1s 9 M' s' (l++[v]) (some rb')∧Fr M M' (lb::bb::rb.toList)∧M.next≤rb':=by
 have lL:=Mem.q0w hL
 have lB:=Mem.q0w hB
 obtain⟨M1,hM1⟩:∃M1,M1=M.lay (.cells v false):=⟨_,rfl⟩
 have n1:M1.next=M.next+1:=by rw[hM1];rfl
 have s0:stV (M.lay (.cells [.str [],.str [],.int .i64 0,.int .u64 0,.int .i64 0,.int .i64 0,.int .u64 0,.int .i64 0,.int .u64 0] false)) (.ptr (some ⟨M.next,0⟩)) (.agg v) 9=some M1:=by rw[q1w (n:=9) (q0d M _) rfl hv ho,q1m,hM1]
 have f1:Fr M M1 []:=by rw[hM1];exact(Fr.refl M).lay _
 have L1:=f1.get hL (by simp)
 have v1:M1.get M.next=some (.cells v false):=by rw[hM1];exact q0d _ _
 obtain⟨M2,hM2⟩:∃M2,M2=M1.put lb (some (.loop {q0y (T.EH fun _=>none) 16 1 (([t0,.undef,t2,(.ptr (some ⟨bb,0⟩)),.undef,.undef,.undef,t7,.undef,t9,.undef,.undef,.undef,.undef,.undef,.undef,.undef,.undef,.undef,.undef,.undef,.undef,.undef,.undef,.undef,.undef,.undef,.undef,.undef,.undef,.undef,.undef,t32,.undef,t34,.undef,.undef,.undef,.undef,.undef,.undef,.undef,.undef,.undef,.undef,.undef,.undef,t47]++List.replicate 7 .undef)) with state:=.busy,pending:=none})):=⟨_,rfl⟩
 have n2:M2.next=M.next+1:=by rw[hM2];exact n1
 have b2:q5m (.rd lb) M1=some M2:=by
  unfold q5m
  simp only[L1,if_true]
  rw[hM2]
 have f12:Fr M1 M2 [lb]:=by rw[hM2];exact Fr.put _ _ _
 have v2:M2.get M.next=some (.cells v false):=f12.get v1 (by simp;omega)
 have B2:M2.get bb=some (.cells cs false):=f12.get (f1.get hB (by simp)) (by simp;exact fun h=>hne h.symm)
 have L2:M2.get lb=some (.loop {q0y (T.EH fun _=>none) 16 1 (([t0,.undef,t2,(.ptr (some ⟨bb,0⟩)),.undef,.undef,.undef,t7,.undef,t9,.undef,.undef,.undef,.undef,.undef,.undef,.undef,.undef,.undef,.undef,.undef,.undef,.undef,.undef,.undef,.undef,.undef,.undef,.undef,.undef,.undef,.undef,t32,.undef,t34,.undef,.undef,.undef,.undef,.undef,.undef,.undef,.undef,.undef,.undef,.undef,.undef,t47]++List.replicate 7 .undef)) with state:=.busy,pending:=none}):=by rw[hM2];exact q05 L1
 have r2:q1s 9 M2 s l rb:=(hr.frame f1 (by simp)).frame f12 (fun b hb=>by simp only[List.mem_singleton];exact(hrb b hb).1)
 obtain⟨M3,hM3⟩:∃M3,M3=M2.lay (.cells v false):=⟨_,rfl⟩
 have n3:M3.next=M.next+1+1:=by rw[hM3,Mem.q00,n2]
 have f23:Fr M2 M3 []:=by rw[hM3];exact(Fr.refl M2).lay _
 have x3:M3.get (M.next+1)=some (.cells v false):=by rw[hM3,←n2];exact q0d _ _
 have rlt:∀b,rb=some b→b<M.next:=fun b hb=>by subst hb;exact hr.lt
 obtain⟨s',M4,a1,a2,a3,a4⟩:=q5w (w:=88) (by decide) (r2.frame f23 (by simp)) x3 hv ho hlen
 rw[n3]at a2 a3
 have L4:M4.get lb=some (.loop {q0y (T.EH fun _=>none) 16 1 (([t0,.undef,t2,(.ptr (some ⟨bb,0⟩)),.undef,.undef,.undef,t7,.undef,t9,.undef,.undef,.undef,.undef,.undef,.undef,.undef,.undef,.undef,.undef,.undef,.undef,.undef,.undef,.undef,.undef,.undef,.undef,.undef,.undef,.undef,.undef,t32,.undef,t34,.undef,.undef,.undef,.undef,.undef,.undef,.undef,.undef,.undef,.undef,.undef,.undef,t47]++List.replicate 7 .undef)) with state:=.busy,pending:=none}):=a4.get (f23.get L2 (by simp)) (fun hm=>by
  rw[Option.mem_toList]at hm;exact(hrb _ hm).1 rfl)
 have B4:M4.get bb=some (.cells cs false):=a4.get (f23.get B2 (by simp)) (fun hm=>by rw[Option.mem_toList]at hm;exact(hrb _ hm).2 rfl)
 have s1one:s'.one=true:=a2.one
 have st4:=q3l (v:=s') (vs:=[s']) (o:=1) (n:=1) B4 (q8r s1one) rfl (by omega)
 have hset:cs.take 1++[s']++cs.drop (1+1)=cs.set 1 s':=by
  rw[List.set_eq_take_append_cons_drop,if_pos (by omega)];simp
 rw[hset]at st4
 obtain⟨M5,hM5⟩:∃M5,M5=M4.put bb (some (.cells (cs.set 1 s') false)):=⟨_,rfl⟩
 rw[←hM5]at st4
 have L5:M5.get lb=some (.loop {q0y (T.EH fun _=>none) 16 1 (([t0,.undef,t2,(.ptr (some ⟨bb,0⟩)),.undef,.undef,.undef,t7,.undef,t9,.undef,.undef,.undef,.undef,.undef,.undef,.undef,.undef,.undef,.undef,.undef,.undef,.undef,.undef,.undef,.undef,.undef,.undef,.undef,.undef,.undef,.undef,t32,.undef,t34,.undef,.undef,.undef,.undef,.undef,.undef,.undef,.undef,.undef,.undef,.undef,.undef,t47]++List.replicate 7 .undef)) with state:=.busy,pending:=none}):=by rw[hM5,q3e hne];exact L4
 obtain⟨M6,hM6⟩:∃M6,M6=M5.put lb (some (.loop {q0y (T.EH fun _=>none) 16 1 (([t0,.undef,t2,(.ptr (some ⟨bb,0⟩)),.undef,.undef,.undef,t7,.undef,t9,.undef,.undef,.undef,.undef,.undef,.undef,.undef,.undef,.undef,.undef,.undef,.undef,.undef,.undef,.undef,.undef,.undef,.undef,.undef,.undef,.undef,.undef,t32,.undef,t34,.undef,.undef,.undef,.undef,.undef,.undef,.undef,.undef,.undef,.undef,.undef,.undef,t47]++List.replicate 7 .undef)) with state:=.ready,pending:=none})):=⟨_,rfl⟩
 have fi:(Ry Tryz.prog (T.EH H18) lb).gor 0 [] M5=some (.bool true,M6):=by
  show fin Tryz.prog (.rd lb) none [] M5=_
  unfold fin
  simp only[L5,Option.isNone_none,if_true]
  rw[hM6]
 have f6:Fr M M6 (lb::bb::rb.toList):=by
  have g1:Fr M M4 (lb::bb::rb.toList):=(((f1.any _).step f12 (fun c hc=>.inl (by simp at hc;simp[hc]))).step0 f23).step a4 (fun c hc=>.inl (by simp[hc]))
  rw[hM6,hM5]
  exact(g1.put' (.inl (by simp))).put' (.inl (by simp))
 refine⟨s',M6,M.next+1+1,?_,by rw[hM6];exact q05 L5,?_,?_,f6,by omega⟩
 ·have lB2:ld1 M2 (.ptr (some ⟨bb,1⟩))=some s:=by rw[q0j B2];exact hs
  have lv2:ldN M2 (.ptr (some ⟨M.next,0⟩)) 9=some (.agg v):=q1b v2 hv
  refine y16_1_is (H:=H18) k (.agg v) t0 t2 (.ptr (some ⟨bb,0⟩)) t7 t9 t32 t34 t47 hL ?_
  simp only[T.y16_1,pB,p1,q1,apE,w_y16_1,s0,b2,lB2,lv2,q8q (n:=9) (zs:=[.str [],.str [],.int .i64 0,.int .u64 0,.int .i64 0,.int .i64 0,.int .u64 0,.int .i64 0,.int .u64 0]) ho hv (by rfl),n2,←hM3,a1,st4,fi]
 ·rw[hM6,q3e (fun h=>hne h.symm),hM5];exact q05 B4
 ·refine(a2.frame (m':=M5) (S:=[bb]) (by rw[hM5];exact Fr.put _ _ _) (fun b hb=>by cases hb;simp;omega)).frame (m':=M6) (S:=[lb]) (by rw[hM6];exact Fr.put _ _ _) (fun b hb=>by cases hb;simp;omega)
theorem tellQ_loop {sk sv:AV} {kb vb:Nat} {ks:List (List UInt8)} {vs:List (List AV)} (hks:vs.length=ks.length) (hn:ks.length≤1000) (hne:lb≠bb):∀(d i:Nat) (M:Mem) (s:AV) (l:List (List AV)) (rb:Option Nat) (cs:List AV),i+d=ks.length→l.length+d≤4096→
  q1s 1 M sk (ks.map fun k=>[.str k]) (some kb)→q1s 9 M sv vs (some vb)→kb≠lb→kb≠bb→vb≠lb→vb≠bb→(∀b,rb=some b→b≠kb∧b≠vb)→
  M.get lb=some (.loop {q0y (T.EH fun _=>none) 16 1 (([t0,.undef,t2,(.ptr (some ⟨bb,0⟩)),.undef,.undef,.undef,t7,.undef,t9,.undef,.undef,.undef,.undef,.undef,.undef,.undef,.undef,.undef,.undef,.undef,.undef,.undef,.undef,.undef,.undef,.undef,.undef,.undef,.undef,.undef,.undef,t32,.undef,t34,.undef,.undef,.undef,.undef,.undef,.undef,.undef,.undef,.undef,.undef,.undef,.undef,t47]++List.replicate 7 .undef)) with state:=.ready,pending:=none})→M.get bb=some (.cells cs false)→cs.length=4→cs[1]? = some s→q1s 9 M s l rb→(∀b,rb=some b→b≠lb∧b≠bb)→
  ∃s' M' rb',D18.gor 413696 [sv,.yld lb,sk,.int .i64 (ks.length:Int),.int .i64 (i:Int)] M=some (.undef,M')∧M'.get lb=some (.loop {q0y (T.EH fun _=>none) 16 1 (([t0,.undef,t2,(.ptr (some ⟨bb,0⟩)),.undef,.undef,.undef,t7,.undef,t9,.undef,.undef,.undef,.undef,.undef,.undef,.undef,.undef,.undef,.undef,.undef,.undef,.undef,.undef,.undef,.undef,.undef,.undef,.undef,.undef,.undef,.undef,t32,.undef,t34,.undef,.undef,.undef,.undef,.undef,.undef,.undef,.undef,.undef,.undef,.undef,.undef,t47]++List.replicate 7 .undef)) with state:=.ready,pending:=none})∧
   M'.get bb=some (.cells (cs.set 1 s') false)∧q1s 9 M' s' (l++vs.drop i) rb'∧Fr M M' (lb::bb::rb.toList)∧(∀b,rb'=some b→rb=some b∨M.next≤b):=by
 intro d
 induction d with
 |zero=>
  intro i M s l rb cs hi _ _ _ _ _ _ _ _ hL hB hc hs hr _
  have:i=ks.length:=by omega
  subst this
  refine⟨s,M,rb,?_,hL,?_,?_,Fr.refl' _ _,fun b hb=>.inl hb⟩
  ·simp only[z2i (H:=H18),T.j5s,p2,q0a,z8r,df (show ¬((ks.length:Nat):Int)<(ks.length:Int) by omega)]
  ·rw[show cs.set 1 s=cs from q3x hs];exact hB
  ·rw[←hks,List.drop_length,List.append_nil];exact hr
 |succ d ih=>
  intro i M s l rb cs hi hd hK hV k1 k2 v1 v2 hrk hL hB hc hs hr hrb
  have hlt:i<ks.length:=by omega
  have hlv:i<vs.length:=by omega
  obtain⟨kb',e1,e2,e3⟩:=hK.key hlt
  obtain⟨vb',w1,w2,w3⟩:=hV.val hlv
  have hv:=hV.1 _ (List.getElem_mem hlv)
  obtain⟨s1,M1,rb1,g1,g2,g3,g4,g5,g6⟩:=roundQ t0 t2 t7 t9 t32 t34 t47 (.str ks[i]) hv.1 hv.2 hL hB hc hs hr hne hrb (q26 (by omega) (by decide))
  have lK:=hK.lt
  have lV:=hV.lt
  obtain⟨s2,M2,rb2,j1,j2,j3,j4,j5,j6⟩:=ih (i+1) M1 s1 (l++[vs[i]]) (some rb1) (cs.set 1 s1) (by omega) (by simp;omega)
   (hK.frame g5 (fun b hb=>by cases hb;simp;exact⟨k1,k2,fun h=>(hrk _ h).1 rfl⟩)) (hV.frame g5 (fun b hb=>by cases hb;simp;exact⟨v1,v2,fun h=>(hrk _ h).2 rfl⟩)) k1 k2 v1 v2 (fun b hb=>by cases hb;omega) g2 g3 (by simpa using hc) (by rw[List.getElem?_set_self (by omega)]) g4
   (fun b hb=>by cases hb;have:=Mem.q0w hL;have:=Mem.q0w hB;omega)
  rw[List.set_set]at j3
  rw[List.append_assoc,List.singleton_append,←List.drop_eq_getElem_cons hlv]at j4
  refine⟨s2,M2,rb2,?_,j2,j3,j4,g5.step j5 (fun c hc=>?_),fun b hb=>?_⟩
  ·subst e1 w1
   have w2':ixA 9 ks.length ⟨vb',0⟩ (i:Int)=some (.ptr (some ⟨vb',i*9⟩)):=by rw[←hks];exact w2
   simp only[z2i (H:=H18),T.j5s,p2,q0a,z8r,dt (show (i:Int)<(ks.length:Int) by omega)]
   simp only[g101_1_is (H:=H18),T.g101_1,p2,q1,p1,q0a,unA,w_g101_1,true_or,if_true,e2,e3,w2,w3,q6m,g1,Bool.not_true]
   simp only[g101_2_is (H:=H18),T.g101_2,p2,w_g101_2,show (i:Int)+1=((i+1:Nat):Int) by omega,wrap_i64 (n:=((i+1:Nat):Int)) (by omega) (by omega)]
   exact j1
  ·simp only[List.mem_cons,Option.mem_toList,Option.some.injEq]at hc⊢
   rcases hc with rfl|rfl|rfl
   ·exact .inl (.inl rfl)
   ·exact .inl (.inr (.inl rfl))
   ·exact .inr g6
  ·rcases j6 b hb with h|h
   ·cases h;exact .inr g6
   ·exact .inr (Nat.le_trans g5.next h)
theorem keysQ {t:Nat} {ks:List (List UInt8)} {vs:List (List AV)} {most:Int} {F:List Nat} (hT:TabAt (.str) 9 M t ks vs most F) (hn:ks.length≤1000) :
  ∃b ex m',run E18 (.fn 102) [.ptr (some ⟨t,0⟩)] M=some (.sl (some ⟨b,0⟩) 1 ks.length ks.length ex,m')∧m'.get b=some (.cells (ks.map fun k=>[.str k]).flatten false)∧Fr M m' []∧M.next≤b∧(0<ks.length→ex=false):=by
 obtain⟨⟨sk,sv,kb,vb,h1,h2,h3,h4,h5,h6,rfl⟩,h7⟩:=hT
 have f1:Fr M (M.lay (.cells [] false)) []:=(Fr.refl M).lay _
 have a3:∀i:Nat,ld1 (M.lay (.cells [] false)) (.ptr (some ⟨t,i⟩))=[sk,sv,.int .i64 most][i]?:=fun i=>q0j (f1.get h1 (by simp))
 obtain⟨b,ex,m',g1,g2,g3,g4,g5⟩:=q35 (w:=16) h2 (q26 (by simp;omega) (by decide))
 simp only[List.length_map]at g1 g5
 refine⟨b,ex,m',?_,g2,g3,g4,g5⟩
 simp only[f102_is (H:=H18) rfl,T.f102,sB,p1,q1,apE,nnA,w_f102,a3,g1]
theorem valsQ {t:Nat} {ks:List (List UInt8)} {vs:List (List AV)} {most:Int} {F:List Nat} (hT:TabAt (.str) 9 M t ks vs most F) (hn:ks.length≤1000) :
  ∃b ex m',run E18 (.fn 103) [.ptr (some ⟨t,0⟩)] M=some (.sl (some ⟨b,0⟩) 9 vs.length vs.length ex,m')∧m'.get b=some (.cells vs.flatten false)∧Fr M m' []∧M.next≤b∧(0<vs.length→ex=false):=by
 obtain⟨⟨sk,sv,kb,vb,h1,h2,h3,h4,h5,h6,rfl⟩,h7⟩:=hT
 have f1:Fr M (M.lay (.cells [] false)) []:=(Fr.refl M).lay _
 have a3:∀i:Nat,ld1 (M.lay (.cells [] false)) (.ptr (some ⟨t,i⟩))=[sk,sv,.int .i64 most][i]?:=fun i=>q0j (f1.get h1 (by simp))
 obtain⟨b,ex,m',g1,g2,g3,g4,g5⟩:=q35 (w:=88) h3 (q26 (by omega) (by decide))
 refine⟨b,ex,m',?_,g2,g3,g4,g5⟩
 simp only[f103_is (H:=H18) rfl,T.f103,sB,p1,q1,apE,nnA,w_f103,a3,g1]
theorem rngQ {t fb:Nat} {ks:List (List UInt8)} {vs:List (List AV)} {most:Int} {F:List Nat} (hT:TabAt (.str) 9 M t ks vs most F) (hn:ks.length≤1000)
  (hfb:M.get fb=some (.cells [.ptr (some ⟨t,0⟩)] false)) (hB:M.get bb=some (.cells cs false)) (hc:cs.length=4) (hs:cs[1]? = some s) (hr:q1s 9 M s [] none) (go:Option Jmp→Mem→R) :
  ∃s' M' rb',q2x (run E18) (.fn (q3w (T.EH fun _=>none) 16)) (.fn (.func 100) [] [.ptr (some ⟨fb,0⟩)]) (q0y (T.EH fun _=>none) 16 1 (([t0,.undef,t2,(.ptr (some ⟨bb,0⟩)),.undef,.undef,.undef,t7,.undef,t9,.undef,.undef,.undef,.undef,.undef,.undef,.undef,.undef,.undef,.undef,.undef,.undef,.undef,.undef,.undef,.undef,.undef,.undef,.undef,.undef,.undef,.undef,t32,.undef,t34,.undef,.undef,.undef,.undef,.undef,.undef,.undef,.undef,.undef,.undef,.undef,.undef,t47]++List.replicate 7 .undef))) M go=go none M'∧
   M'.get bb=some (.cells (cs.set 1 s') false)∧q1s 9 M' s' vs rb'∧Fr M M' [bb]∧(∀b,rb'=some b→M.next≤b):=by
 have lB:=Mem.q0w hB
 have lT:=hT.lt
 obtain⟨M1,hM1⟩:∃M1,M1=M.lay (.loop (q0y (T.EH fun _=>none) 16 1 (([t0,.undef,t2,(.ptr (some ⟨bb,0⟩)),.undef,.undef,.undef,t7,.undef,t9,.undef,.undef,.undef,.undef,.undef,.undef,.undef,.undef,.undef,.undef,.undef,.undef,.undef,.undef,.undef,.undef,.undef,.undef,.undef,.undef,.undef,.undef,t32,.undef,t34,.undef,.undef,.undef,.undef,.undef,.undef,.undef,.undef,.undef,.undef,.undef,.undef,t47]++List.replicate 7 .undef)))):=⟨_,rfl⟩
 have f1:Fr M M1 []:=by rw[hM1];exact(Fr.refl M).lay _
 have n1:M1.next=M.next+1:=by rw[hM1];rfl
 have L1:M1.get M.next=some (.loop {q0y (T.EH fun _=>none) 16 1 (([t0,.undef,t2,(.ptr (some ⟨bb,0⟩)),.undef,.undef,.undef,t7,.undef,t9,.undef,.undef,.undef,.undef,.undef,.undef,.undef,.undef,.undef,.undef,.undef,.undef,.undef,.undef,.undef,.undef,.undef,.undef,.undef,.undef,.undef,.undef,t32,.undef,t34,.undef,.undef,.undef,.undef,.undef,.undef,.undef,.undef,.undef,.undef,.undef,.undef,t47]++List.replicate 7 .undef)) with state:=.ready,pending:=none}):=by rw[←q65,hM1];exact q0d _ _
 obtain⟨kb,ek,M2,k1,k2,k3,k4,k5⟩:=keysQ (hT.frame f1 (by simp)) hn
 obtain⟨vb,ev,M3,v1,v2,v3,v4,v5⟩:=valsQ ((hT.frame f1 (by simp)).frame k3 (by simp)) hn
 have d1:ld1 M1 (.ptr (some ⟨fb,0⟩))=some (.ptr (some ⟨t,0⟩)):=by rw[q0j (f1.get hfb (by simp))];rfl
 have d2:ld1 M2 (.ptr (some ⟨fb,0⟩))=some (.ptr (some ⟨t,0⟩)):=by rw[q0j (k3.get (f1.get hfb (by simp)) (by simp))];rfl
 have f3:Fr M1 M3 []:=k3.step0 v3
 have L3:=f3.get L1 (by simp)
 have B3:=f3.get (f1.get hB (by simp)) (by simp)
 have r3:=(hr.frame f1 (by simp)).frame f3 (by simp)
 have n2:=k3.next
 have fin:∃s' M' rb',D18.gor 413696 [.sl (some ⟨vb,0⟩) 9 vs.length vs.length ev,.yld M.next,.sl (some ⟨kb,0⟩) 1 ks.length ks.length ek,.int .i64 (ks.length:Int),.int .i64 ((0:Nat):Int)] M3=some (.undef,M')∧M'.get M.next=some (.loop {q0y (T.EH fun _=>none) 16 1 (([t0,.undef,t2,(.ptr (some ⟨bb,0⟩)),.undef,.undef,.undef,t7,.undef,t9,.undef,.undef,.undef,.undef,.undef,.undef,.undef,.undef,.undef,.undef,.undef,.undef,.undef,.undef,.undef,.undef,.undef,.undef,.undef,.undef,.undef,.undef,t32,.undef,t34,.undef,.undef,.undef,.undef,.undef,.undef,.undef,.undef,.undef,.undef,.undef,.undef,t47]++List.replicate 7 .undef)) with state:=.ready,pending:=none})∧
   M'.get bb=some (.cells (cs.set 1 s') false)∧q1s 9 M' s' vs rb'∧Fr M3 M' [M.next,bb]∧(∀b,rb'=some b→M3.next≤b):=by
  have hvl:=hT.len
  by_cases h0:ks.length=0
  ·have e:vs=[]:=List.length_eq_zero_iff.1 (by omega)
   subst e
   refine⟨s,M3,none,?_,L3,?_,r3,Fr.refl' _ _,nofun⟩
   ·simp only[z2i (H:=H18),T.j5s,p2,q0a,z8r,df (show ¬((0:Nat):Int)<(ks.length:Int) by omega)]
   ·rw[show cs.set 1 s=cs from q3x hs];exact B3
  ·have hk:=k5 (by omega)
   have hv:=v5 (by omega)
   subst hk hv
   obtain⟨⟨sk,sv,kb',vb',h1,h2,h3,h4,h5,h6,h7⟩,h8⟩:=hT
   have tK:q1s 1 M3 (.sl (some ⟨kb,0⟩) 1 ks.length ks.length false) (ks.map fun k=>[.str k]) (some kb):=⟨h2.1,.inr ⟨kb,rfl,by simp,v3.get k2 (by simp)⟩⟩
   have tV:q1s 9 M3 (.sl (some ⟨vb,0⟩) 9 vs.length vs.length false) vs (some vb):=⟨h3.1,.inr ⟨vb,rfl,rfl,v2⟩⟩
   obtain⟨s',M',rb',g1,g2,g3,g4,g5,g6⟩:=tellQ_loop t0 t2 t7 t9 t32 t34 t47 h8 hn (show M.next≠bb by omega) ks.length 0 M3 s [] none cs (by omega) (by simp;omega) tK tV (by omega) (by omega) (by omega) (by omega) (by simp) L3 B3 hc hs r3 (by simp)
   exact⟨s',M',rb',g1,g2,g3,by simpa using g4,by simpa using g5,fun b hb=>by rcases g6 b hb with h|h;cases h;exact h⟩
 obtain⟨s',M4,rb',g1,g2,g3,g4,g5,g6⟩:=fin
 refine⟨s',M4.put M.next none,rb',?_,?_,?_,?_,?_⟩
 ·have hrun:run E18 (.fn 100) [.yld M.next,.ptr (some ⟨fb,0⟩)] M1=some (.undef,M4):=by
   simp only[f100_is (H:=H18) rfl,T.f100,q1,w_f100,d1,k1,d2,v1,if_true]
   simp only[f101_is (H:=H18) rfl,T.f101,p1,w_f101]
   rw[show (0:Int)=((0:Nat):Int) from rfl,g1]
   rfl
  unfold q2x
  simp only[around,if_true,List.nil_append,List.singleton_append]
  rw[←hM1,hrun]
  show q2o M.next M4 go=_
  unfold q2o
  simp only[g2]
  rfl
 ·rw[q3e (by omega)];exact g3
 ·exact g4.frame (Fr.put _ _ _) (fun b hb=>by have:=g6 b hb;have:=f3.next;simp;omega)
 ·refine Fr.put' ?_ (.inr (Nat.le_refl _))
  exact((f1.any _).step0 f3).step g5 (fun c hc=>by
   simp only[List.mem_cons,List.not_mem_nil,or_false]at hc
   rcases hc with rfl|rfl
   ·exact .inr (Nat.le_refl _)
   ·exact .inl (by simp))
 ·intro b hb
  have:=g6 b hb;have:=f3.next;have:=f1.next;omega
end
end
end Go.Proofs.YtlginbmjiecglaaGreatDoor
