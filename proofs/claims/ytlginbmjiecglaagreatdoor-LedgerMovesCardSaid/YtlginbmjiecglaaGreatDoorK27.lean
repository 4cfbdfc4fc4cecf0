/- Texts of one claim, put together. -/
import Derived.Test.YtlginbmjiecglaaGreatDoorK0
import Derived.Test.YtlginbmjiecglaaGreatDoorK19
import Derived.Test.YtlginbmjiecglaaGreatDoorK25
import Derived.Test.YtlginbmjiecglaaGreatDoorK26
namespace Go.Proofs.YtlginbmjiecglaaGreatDoor
section
set_option maxRecDepth 4000
open Go Go.Abs
section
variable {M:Mem} {lb bb:Nat} {cs:List AV} {s:AV} {l:List (List AV)} {rb:Option Nat} (t2 t9 t45 t47:AV)
theorem roundA (k:AV) {v:List AV} (hv:v.length=4) (ho:v.all AV.one=true)
  (hL:M.get lb=some (.loop {q0y (T.EH fun _=>none) 16 2 (([.undef,.undef,t2,(.ptr (some ⟨bb,0⟩)),.undef,.undef,.undef,.undef,.undef,t9,.undef,.undef,.undef,.undef,.undef,.undef,.undef,.undef,.undef,.undef,.undef,.undef,.undef,.undef,.undef,.undef,.undef,.undef,.undef,.undef,.undef,.undef,.undef,.undef,.undef,.undef,.undef,.undef,.undef,.undef,.undef,.undef,.undef,.undef,.undef,t45,.undef,t47]++List.replicate 7 .undef)) with state:=.ready,pending:=none})) (hB:M.get bb=some (.cells cs false)) (hc:cs.length=4) (hs:cs[2]? = some s)
  (hr:q1s 4 M s l rb) (hne:lb≠bb) (hrb:∀b,rb=some b→b≠lb∧b≠bb) (hlen:(l.length+1)*40≤q1p) :
  ∃s' M' rb',run E18 (.yl lb) [k,.agg v] M=some (.bool true,M')∧M'.get lb=some (.loop {q0y (T.EH fun _=>none) 16 2 (([.undef,.undef,t2,(.ptr (some ⟨bb,0⟩)),.undef,.undef,.undef,.undef,.undef,t9,.undef,.undef,.undef,.undef,.undef,.undef,.undef,.undef,.undef,.undef,.undef,.undef,.undef,.undef,.undef,.undef,.undef,.undef,.undef,.undef,.undef,.undef,.undef,.undef,.undef,.undef,.undef,.undef,.undef,.undef,.undef,.undef,.undef,.undef,.undef,t45,.undef,t47]++List.replicate 7 .undef)) with state:=.ready,pending:=none})∧
   M'.get bb=some (.cells (cs.set 2 s') false)∧q1s 4 M' s' (l++[v]) (some rb')∧Fr M M' (lb::bb::rb.toList)∧M.next≤rb':=by
 have lL:=Mem.q0w hL
 have lB:=Mem.q0w hB
 obtain⟨M1,hM1⟩:∃M1,M1=M.lay (.cells v false):=⟨_,rfl⟩
 have n1:M1.next=M.next+1:=by rw[hM1];rfl
 have s0:stV (M.lay (.cells [.int .u64 0,.str [],.int .i64 0,.int .u64 0] false)) (.ptr (some ⟨M.next,0⟩)) (.agg v) 4=some M1:=by rw[q1w (n:=4) (q0d M _) rfl hv ho,q1m,hM1]
 have f1:Fr M M1 []:=by rw[hM1];exact(Fr.refl M).lay _
 have L1:=f1.get hL (by simp)
 have v1:M1.get M.next=some (.cells v false):=by rw[hM1];exact q0d _ _
 obtain⟨M2,hM2⟩:∃M2,M2=M1.put lb (some (.loop {q0y (T.EH fun _=>none) 16 2 (([.undef,.undef,t2,(.ptr (some ⟨bb,0⟩)),.undef,.undef,.undef,.undef,.undef,t9,.undef,.undef,.undef,.undef,.undef,.undef,.undef,.undef,.undef,.undef,.undef,.undef,.undef,.undef,.undef,.undef,.undef,.undef,.undef,.undef,.undef,.undef,.undef,.undef,.undef,.undef,.undef,.undef,.undef,.undef,.undef,.undef,.undef,.undef,.undef,t45,.undef,t47]++List.replicate 7 .undef)) with state:=.busy,pending:=none})):=⟨_,rfl⟩
 have n2:M2.next=M.next+1:=by rw[hM2];exact n1
 have b2:q5m (.rd lb) M1=some M2:=by
  unfold q5m
  simp only[L1,if_true]
  rw[hM2]
 have f12:Fr M1 M2 [lb]:=by rw[hM2];exact Fr.put _ _ _
 have v2:M2.get M.next=some (.cells v false):=f12.get v1 (by simp;omega)
 have B2:M2.get bb=some (.cells cs false):=f12.get (f1.get hB (by simp)) (by simp;exact fun h=>hne h.symm)
 have L2:M2.get lb=some (.loop {q0y (T.EH fun _=>none) 16 2 (([.undef,.undef,t2,(.ptr (some ⟨bb,0⟩)),.undef,.undef,.undef,.undef,.undef,t9,.undef,.undef,.undef,.undef,.undef,.undef,.undef,.undef,.undef,.undef,.undef,.undef,.undef,.undef,.undef,.undef,.undef,.undef,.undef,.undef,.undef,.undef,.undef,.undef,.undef,.undef,.undef,.undef,.undef,.undef,.undef,.undef,.undef,.undef,.undef,t45,.undef,t47]++List.replicate 7 .undef)) with state:=.busy,pending:=none}):=by rw[hM2];exact q05 L1
 have r2:q1s 4 M2 s l rb:=(hr.frame f1 (by simp)).frame f12 (fun b hb=>by simp only[List.mem_singleton];exact(hrb b hb).1)
 obtain⟨M3,hM3⟩:∃M3,M3=M2.lay (.cells v false):=⟨_,rfl⟩
 have n3:M3.next=M.next+1+1:=by rw[hM3,Mem.q00,n2]
 have f23:Fr M2 M3 []:=by rw[hM3];exact(Fr.refl M2).lay _
 have x3:M3.get (M.next+1)=some (.cells v false):=by rw[hM3,←n2];exact q0d _ _
 have rlt:∀b,rb=some b→b<M.next:=fun b hb=>by subst hb;exact hr.lt
 obtain⟨s',M4,a1,a2,a3,a4⟩:=q5w (w:=40) (by decide) (r2.frame f23 (by simp)) x3 hv ho hlen
 rw[n3]at a2 a3
 have L4:M4.get lb=some (.loop {q0y (T.EH fun _=>none) 16 2 (([.undef,.undef,t2,(.ptr (some ⟨bb,0⟩)),.undef,.undef,.undef,.undef,.undef,t9,.undef,.undef,.undef,.undef,.undef,.undef,.undef,.undef,.undef,.undef,.undef,.undef,.undef,.undef,.undef,.undef,.undef,.undef,.undef,.undef,.undef,.undef,.undef,.undef,.undef,.undef,.undef,.undef,.undef,.undef,.undef,.undef,.undef,.undef,.undef,t45,.undef,t47]++List.replicate 7 .undef)) with state:=.busy,pending:=none}):=a4.get (f23.get L2 (by simp)) (fun hm=>by
  rw[Option.mem_toList]at hm;exact(hrb _ hm).1 rfl)
 have B4:M4.get bb=some (.cells cs false):=a4.get (f23.get B2 (by simp)) (fun hm=>by rw[Option.mem_toList]at hm;exact(hrb _ hm).2 rfl)
 have s1one:s'.one=true:=a2.one
 have st4:=q3l (v:=s') (vs:=[s']) (o:=2) (n:=1) B4 (q8r s1one) rfl (by omega)
 have hset:cs.take 2++[s']++cs.drop (2+1)=cs.set 2 s':=by
  rw[List.set_eq_take_append_cons_drop,if_pos (by omega)];simp
 rw[hset]at st4
 obtain⟨M5,hM5⟩:∃M5,M5=M4.put bb (some (.cells (cs.set 2 s') false)):=⟨_,rfl⟩
 rw[←hM5]at st4
 have L5:M5.get lb=some (.loop {q0y (T.EH fun _=>none) 16 2 (([.undef,.undef,t2,(.ptr (some ⟨bb,0⟩)),.undef,.undef,.undef,.undef,.undef,t9,.undef,.undef,.undef,.undef,.undef,.undef,.undef,.undef,.undef,.undef,.undef,.undef,.undef,.undef,.undef,.undef,.undef,.undef,.undef,.undef,.undef,.undef,.undef,.undef,.undef,.undef,.undef,.undef,.undef,.undef,.undef,.undef,.undef,.undef,.undef,t45,.undef,t47]++List.replicate 7 .undef)) with state:=.busy,pending:=none}):=by rw[hM5,q3e hne];exact L4
 obtain⟨M6,hM6⟩:∃M6,M6=M5.put lb (some (.loop {q0y (T.EH fun _=>none) 16 2 (([.undef,.undef,t2,(.ptr (some ⟨bb,0⟩)),.undef,.undef,.undef,.undef,.undef,t9,.undef,.undef,.undef,.undef,.undef,.undef,.undef,.undef,.undef,.undef,.undef,.undef,.undef,.undef,.undef,.undef,.undef,.undef,.undef,.undef,.undef,.undef,.undef,.undef,.undef,.undef,.undef,.undef,.undef,.undef,.undef,.undef,.undef,.undef,.undef,t45,.undef,t47]++List.replicate 7 .undef)) with state:=.ready,pending:=none})):=⟨_,rfl⟩
 have fi:(Ry Tryz.prog (T.EH H18) lb).gor 0 [] M5=some (.bool true,M6):=by
  show fin Tryz.prog (.rd lb) none [] M5=_
  unfold fin
  simp only[L5,Option.isNone_none,if_true]
  rw[hM6]
 have f6:Fr M M6 (lb::bb::rb.toList):=by
  have g1:Fr M M4 (lb::bb::rb.toList):=(((f1.any _).step f12 (fun c hc=>.inl (by simp at hc;simp[hc]))).step0 f23).step a4 (fun c hc=>.inl (by simp[hc]))
  rw[hM6,hM5]
  exact(g1.put' (.inl (by simp))).put' (.inl (by simp))
 refine⟨s',M6,M.next+1+1,?_,by rw[hM6];exact q05 L5,?_,?_,f6,by omega⟩
 ·have lB2:ld1 M2 (.ptr (some ⟨bb,2⟩))=some s:=by rw[q0j B2];exact hs
  have lv2:ldN M2 (.ptr (some ⟨M.next,0⟩)) 4=some (.agg v):=q1b v2 hv
  refine y16_2_is (H:=H18) k (.agg v) t2 (.ptr (some ⟨bb,0⟩)) t9 t45 t47 hL ?_
  simp only[T.y16_2,pB,p1,q1,apE,w_y16_2,s0,b2,lB2,lv2,q8q (n:=4) (zs:=[.int .u64 0,.str [],.int .i64 0,.int .u64 0]) ho hv (by rfl),n2,←hM3,a1,st4,fi]
 ·rw[hM6,q3e (fun h=>hne h.symm),hM5];exact q05 B4
 ·refine(a2.frame (m':=M5) (S:=[bb]) (by rw[hM5];exact Fr.put _ _ _) (fun b hb=>by cases hb;simp;omega)).frame (m':=M6) (S:=[lb]) (by rw[hM6];exact Fr.put _ _ _) (fun b hb=>by cases hb;simp;omega)
theorem tellA_loop {sk sv:AV} {kb vb:Nat} {ks:List Int} {vs:List (List AV)} (hks:vs.length=ks.length) (hn:ks.length≤1000) (hne:lb≠bb):∀(d i:Nat) (M:Mem) (s:AV) (l:List (List AV)) (rb:Option Nat) (cs:List AV),i+d=ks.length→l.length+d≤4096→
  q1s 1 M sk (ks.map fun k=>[.int .u64 k]) (some kb)→q1s 4 M sv vs (some vb)→kb≠lb→kb≠bb→vb≠lb→vb≠bb→(∀b,rb=some b→b≠kb∧b≠vb)→
  M.get lb=some (.loop {q0y (T.EH fun _=>none) 16 2 (([.undef,.undef,t2,(.ptr (some ⟨bb,0⟩)),.undef,.undef,.undef,.undef,.undef,t9,.undef,.undef,.undef,.undef,.undef,.undef,.undef,.undef,.undef,.undef,.undef,.undef,.undef,.undef,.undef,.undef,.undef,.undef,.undef,.undef,.undef,.undef,.undef,.undef,.undef,.undef,.undef,.undef,.undef,.undef,.undef,.undef,.undef,.undef,.undef,t45,.undef,t47]++List.replicate 7 .undef)) with state:=.ready,pending:=none})→M.get bb=some (.cells cs false)→cs.length=4→cs[2]? = some s→q1s 4 M s l rb→(∀b,rb=some b→b≠lb∧b≠bb)→
  ∃s' M' rb',D18.gor 430080 [sv,.yld lb,sk,.int .i64 (ks.length:Int),.int .i64 (i:Int)] M=some (.undef,M')∧M'.get lb=some (.loop {q0y (T.EH fun _=>none) 16 2 (([.undef,.undef,t2,(.ptr (some ⟨bb,0⟩)),.undef,.undef,.undef,.undef,.undef,t9,.undef,.undef,.undef,.undef,.undef,.undef,.undef,.undef,.undef,.undef,.undef,.undef,.undef,.undef,.undef,.undef,.undef,.undef,.undef,.undef,.undef,.undef,.undef,.undef,.undef,.undef,.undef,.undef,.undef,.undef,.undef,.undef,.undef,.undef,.undef,t45,.undef,t47]++List.replicate 7 .undef)) with state:=.ready,pending:=none})∧
   M'.get bb=some (.cells (cs.set 2 s') false)∧q1s 4 M' s' (l++vs.drop i) rb'∧Fr M M' (lb::bb::rb.toList)∧(∀b,rb'=some b→rb=some b∨M.next≤b):=by
 intro d
 induction d with
 |zero=>
  intro i M s l rb cs hi _ _ _ _ _ _ _ _ hL hB hc hs hr _
  have:i=ks.length:=by omega
  subst this
  refine⟨s,M,rb,?_,hL,?_,?_,Fr.refl' _ _,fun b hb=>.inl hb⟩
  ·simp only[z2j (H:=H18),T.j5t,p2,q0a,z8s,df (show ¬((ks.length:Nat):Int)<(ks.length:Int) by omega)]
  ·rw[show cs.set 2 s=cs from q3x hs];exact hB
  ·rw[←hks,List.drop_length,List.append_nil];exact hr
 |succ d ih=>
  intro i M s l rb cs hi hd hK hV k1 k2 v1 v2 hrk hL hB hc hs hr hrb
  have hlt:i<ks.length:=by omega
  have hlv:i<vs.length:=by omega
  obtain⟨kb',e1,e2,e3⟩:=hK.key hlt
  obtain⟨vb',w1,w2,w3⟩:=hV.val hlv
  have hv:=hV.1 _ (List.getElem_mem hlv)
  obtain⟨s1,M1,rb1,g1,g2,g3,g4,g5,g6⟩:=roundA t2 t9 t45 t47 (.int .u64 ks[i]) hv.1 hv.2 hL hB hc hs hr hne hrb (q26 (by omega) (by decide))
  have lK:=hK.lt
  have lV:=hV.lt
  obtain⟨s2,M2,rb2,j1,j2,j3,j4,j5,j6⟩:=ih (i+1) M1 s1 (l++[vs[i]]) (some rb1) (cs.set 2 s1) (by omega) (by simp;omega)
   (hK.frame g5 (fun b hb=>by cases hb;simp;exact⟨k1,k2,fun h=>(hrk _ h).1 rfl⟩)) (hV.frame g5 (fun b hb=>by cases hb;simp;exact⟨v1,v2,fun h=>(hrk _ h).2 rfl⟩)) k1 k2 v1 v2 (fun b hb=>by cases hb;omega) g2 g3 (by simpa using hc) (by rw[List.getElem?_set_self (by omega)]) g4
   (fun b hb=>by cases hb;have:=Mem.q0w hL;have:=Mem.q0w hB;omega)
  rw[List.set_set]at j3
  rw[List.append_assoc,List.singleton_append,←List.drop_eq_getElem_cons hlv]at j4
  refine⟨s2,M2,rb2,?_,j2,j3,j4,g5.step j5 (fun c hc=>?_),fun b hb=>?_⟩
  ·subst e1 w1
   have w2':ixA 4 ks.length ⟨vb',0⟩ (i:Int)=some (.ptr (some ⟨vb',i*4⟩)):=by rw[←hks];exact w2
   simp only[z2j (H:=H18),T.j5t,p2,q0a,z8s,dt (show (i:Int)<(ks.length:Int) by omega)]
   simp only[g105_1_is (H:=H18),T.g105_1,p2,q1,p1,q0a,unA,w_g105_1,true_or,if_true,e2,e3,w2,w3,q6m,g1,Bool.not_true]
   simp only[g105_2_is (H:=H18),T.g105_2,p2,w_g105_2,show (i:Int)+1=((i+1:Nat):Int) by omega,wrap_i64 (n:=((i+1:Nat):Int)) (by omega) (by omega)]
   exact j1
  ·simp only[List.mem_cons,Option.mem_toList,Option.some.injEq]at hc⊢
   rcases hc with rfl|rfl|rfl
   ·exact .inl (.inl rfl)
   ·exact .inl (.inr (.inl rfl))
   ·exact .inr g6
  ·rcases j6 b hb with h|h
   ·cases h;exact .inr g6
   ·exact .inr (Nat.le_trans g5.next h)
theorem keysA {t:Nat} {ks:List Int} {vs:List (List AV)} {most:Int} {F:List Nat} (hT:TabAt (.int .u64) 4 M t ks vs most F) (hn:ks.length≤1000) :
  ∃b ex m',run E18 (.fn 106) [.ptr (some ⟨t,0⟩)] M=some (.sl (some ⟨b,0⟩) 1 ks.length ks.length ex,m')∧m'.get b=some (.cells (ks.map fun k=>[.int .u64 k]).flatten false)∧Fr M m' []∧M.next≤b∧(0<ks.length→ex=false):=by
 obtain⟨⟨sk,sv,kb,vb,h1,h2,h3,h4,h5,h6,rfl⟩,h7⟩:=hT
 have f1:Fr M (M.lay (.cells [] false)) []:=(Fr.refl M).lay _
 have a3:∀i:Nat,ld1 (M.lay (.cells [] false)) (.ptr (some ⟨t,i⟩))=[sk,sv,.int .i64 most][i]?:=fun i=>q0j (f1.get h1 (by simp))
 obtain⟨b,ex,m',g1,g2,g3,g4,g5⟩:=q35 (w:=8) h2 (q26 (by simp;omega) (by decide))
 simp only[List.length_map]at g1 g5
 refine⟨b,ex,m',?_,g2,g3,g4,g5⟩
 simp only[f106_is (H:=H18) rfl,T.f106,sB,p1,q1,apE,nnA,w_f106,a3,g1]
theorem valsA {t:Nat} {ks:List Int} {vs:List (List AV)} {most:Int} {F:List Nat} (hT:TabAt (.int .u64) 4 M t ks vs most F) (hn:ks.length≤1000) :
  ∃b ex m',run E18 (.fn 107) [.ptr (some ⟨t,0⟩)] M=some (.sl (some ⟨b,0⟩) 4 vs.length vs.length ex,m')∧m'.get b=some (.cells vs.flatten false)∧Fr M m' []∧M.next≤b∧(0<vs.length→ex=false):=by
 obtain⟨⟨sk,sv,kb,vb,h1,h2,h3,h4,h5,h6,rfl⟩,h7⟩:=hT
 have f1:Fr M (M.lay (.cells [] false)) []:=(Fr.refl M).lay _
 have a3:∀i:Nat,ld1 (M.lay (.cells [] false)) (.ptr (some ⟨t,i⟩))=[sk,sv,.int .i64 most][i]?:=fun i=>q0j (f1.get h1 (by simp))
 obtain⟨b,ex,m',g1,g2,g3,g4,g5⟩:=q35 (w:=40) h3 (q26 (by omega) (by decide))
 refine⟨b,ex,m',?_,g2,g3,g4,g5⟩
 simp only[f107_is (H:=H18) rfl,T.f107,sB,p1,q1,apE,nnA,w_f107,a3,g1]
theorem rngA {t fb:Nat} {ks:List Int} {vs:List (List AV)} {most:Int} {F:List Nat} (hT:TabAt (.int .u64) 4 M t ks vs most F) (hn:ks.length≤1000)
  (hfb:M.get fb=some (.cells [.ptr (some ⟨t,0⟩)] false)) (hB:M.get bb=some (.cells cs false)) (hc:cs.length=4) (hs:cs[2]? = some s) (hr:q1s 4 M s [] none) (go:Option Jmp→Mem→R) :
  ∃s' M' rb',q2x (run E18) (.fn (q3w (T.EH fun _=>none) 16)) (.fn (.func 104) [] [.ptr (some ⟨fb,0⟩)]) (q0y (T.EH fun _=>none) 16 2 (([.undef,.undef,t2,(.ptr (some ⟨bb,0⟩)),.undef,.undef,.undef,.undef,.undef,t9,.undef,.undef,.undef,.undef,.undef,.undef,.undef,.undef,.undef,.undef,.undef,.undef,.undef,.undef,.undef,.undef,.undef,.undef,.undef,.undef,.undef,.undef,.undef,.undef,.undef,.undef,.undef,.undef,.undef,.undef,.undef,.undef,.undef,.undef,.undef,t45,.undef,t47]++List.replicate 7 .undef))) M go=go none M'∧
   M'.get bb=some (.cells (cs.set 2 s') false)∧q1s 4 M' s' vs rb'∧Fr M M' [bb]∧(∀b,rb'=some b→M.next≤b):=by
 have lB:=Mem.q0w hB
 have lT:=hT.lt
 obtain⟨M1,hM1⟩:∃M1,M1=M.lay (.loop (q0y (T.EH fun _=>none) 16 2 (([.undef,.undef,t2,(.ptr (some ⟨bb,0⟩)),.undef,.undef,.undef,.undef,.undef,t9,.undef,.undef,.undef,.undef,.undef,.undef,.undef,.undef,.undef,.undef,.undef,.undef,.undef,.undef,.undef,.undef,.undef,.undef,.undef,.undef,.undef,.undef,.undef,.undef,.undef,.undef,.undef,.undef,.undef,.undef,.undef,.undef,.undef,.undef,.undef,t45,.undef,t47]++List.replicate 7 .undef)))):=⟨_,rfl⟩
 have f1:Fr M M1 []:=by rw[hM1];exact(Fr.refl M).lay _
 have n1:M1.next=M.next+1:=by rw[hM1];rfl
 have L1:M1.get M.next=some (.loop {q0y (T.EH fun _=>none) 16 2 (([.undef,.undef,t2,(.ptr (some ⟨bb,0⟩)),.undef,.undef,.undef,.undef,.undef,t9,.undef,.undef,.undef,.undef,.undef,.undef,.undef,.undef,.undef,.undef,.undef,.undef,.undef,.undef,.undef,.undef,.undef,.undef,.undef,.undef,.undef,.undef,.undef,.undef,.undef,.undef,.undef,.undef,.undef,.undef,.undef,.undef,.undef,.undef,.undef,t45,.undef,t47]++List.replicate 7 .undef)) with state:=.ready,pending:=none}):=by rw[←q65,hM1];exact q0d _ _
 obtain⟨kb,ek,M2,k1,k2,k3,k4,k5⟩:=keysA (hT.frame f1 (by simp)) hn
 obtain⟨vb,ev,M3,v1,v2,v3,v4,v5⟩:=valsA ((hT.frame f1 (by simp)).frame k3 (by simp)) hn
 have d1:ld1 M1 (.ptr (some ⟨fb,0⟩))=some (.ptr (some ⟨t,0⟩)):=by rw[q0j (f1.get hfb (by simp))];rfl
 have d2:ld1 M2 (.ptr (some ⟨fb,0⟩))=some (.ptr (some ⟨t,0⟩)):=by rw[q0j (k3.get (f1.get hfb (by simp)) (by simp))];rfl
 have f3:Fr M1 M3 []:=k3.step0 v3
 have L3:=f3.get L1 (by simp)
 have B3:=f3.get (f1.get hB (by simp)) (by simp)
 have r3:=(hr.frame f1 (by simp)).frame f3 (by simp)
 have n2:=k3.next
 have fin:∃s' M' rb',D18.gor 430080 [.sl (some ⟨vb,0⟩) 4 vs.length vs.length ev,.yld M.next,.sl (some ⟨kb,0⟩) 1 ks.length ks.length ek,.int .i64 (ks.length:Int),.int .i64 ((0:Nat):Int)] M3=some (.undef,M')∧M'.get M.next=some (.loop {q0y (T.EH fun _=>none) 16 2 (([.undef,.undef,t2,(.ptr (some ⟨bb,0⟩)),.undef,.undef,.undef,.undef,.undef,t9,.undef,.undef,.undef,.undef,.undef,.undef,.undef,.undef,.undef,.undef,.undef,.undef,.undef,.undef,.undef,.undef,.undef,.undef,.undef,.undef,.undef,.undef,.undef,.undef,.undef,.undef,.undef,.undef,.undef,.undef,.undef,.undef,.undef,.undef,.undef,t45,.undef,t47]++List.replicate 7 .undef)) with state:=.ready,pending:=none})∧
   M'.get bb=some (.cells (cs.set 2 s') false)∧q1s 4 M' s' vs rb'∧Fr M3 M' [M.next,bb]∧(∀b,rb'=some b→M3.next≤b):=by
  have hvl:=hT.len
  by_cases h0:ks.length=0
  ·have e:vs=[]:=List.length_eq_zero_iff.1 (by omega)
   subst e
   refine⟨s,M3,none,?_,L3,?_,r3,Fr.refl' _ _,nofun⟩
   ·simp only[z2j (H:=H18),T.j5t,p2,q0a,z8s,df (show ¬((0:Nat):Int)<(ks.length:Int) by omega)]
   ·rw[show cs.set 2 s=cs from q3x hs];exact B3
  ·have hk:=k5 (by omega)
   have hv:=v5 (by omega)
   subst hk hv
   obtain⟨⟨sk,sv,kb',vb',h1,h2,h3,h4,h5,h6,h7⟩,h8⟩:=hT
   have tK:q1s 1 M3 (.sl (some ⟨kb,0⟩) 1 ks.length ks.length false) (ks.map fun k=>[.int .u64 k]) (some kb):=⟨h2.1,.inr ⟨kb,rfl,by simp,v3.get k2 (by simp)⟩⟩
   have tV:q1s 4 M3 (.sl (some ⟨vb,0⟩) 4 vs.length vs.length false) vs (some vb):=⟨h3.1,.inr ⟨vb,rfl,rfl,v2⟩⟩
   obtain⟨s',M',rb',g1,g2,g3,g4,g5,g6⟩:=tellA_loop t2 t9 t45 t47 h8 hn (show M.next≠bb by omega) ks.length 0 M3 s [] none cs (by omega) (by simp;omega) tK tV (by omega) (by omega) (by omega) (by omega) (by simp) L3 B3 hc hs r3 (by simp)
   exact⟨s',M',rb',g1,g2,g3,by simpa using g4,by simpa using g5,fun b hb=>by rcases g6 b hb with h|h;cases h;exact h⟩
 obtain⟨s',M4,rb',g1,g2,g3,g4,g5,g6⟩:=fin
 refine⟨s',M4.put M.next none,rb',?_,?_,?_,?_,?_⟩
 ·have hrun:run E18 (.fn 104) [.yld M.next,.ptr (some ⟨fb,0⟩)] M1=some (.undef,M4):=by
   simp only[f104_is (H:=H18) rfl,T.f104,q1,w_f104,d1,k1,d2,v1,if_true]
   simp only[f105_is (H:=H18) rfl,T.f105,p1,w_f105]
   rw[show (0:Int)=((0:Nat):Int) from rfl,g1]
   rfl
  unfold q2x
  simp only[around,if_true,List.nil_append,List.singleton_append]
  rw[←hM1,hrun]
  show q2o M.next M4 go=_
  unfold q2o
  simp only[g2]
  rfl
 ·rw[q3e (by omega)];exact g3
 ·exact g4.frame (Fr.put _ _ _) (fun b hb=>by have:=g6 b hb;have:=f3.next;simp;omega)
 ·refine Fr.put' ?_ (.inr (Nat.le_refl _))
  exact((f1.any _).step0 f3).step g5 (fun c hc=>by
   simp only[List.mem_cons,List.not_mem_nil,or_false]at hc
   rcases hc with rfl|rfl
   ·exact .inr (Nat.le_refl _)
   ·exact .inl (by simp))
 ·intro b hb
  have:=g6 b hb;have:=f3.next;have:=f1.next;omega
end
end
section
set_option maxRecDepth 8000
open Go Go.Abs
theorem z5q {H:FuncId→Option (List AV→Mem→R)}:(T.Rl H).call=run (T.EH H):=rfl
theorem allP_is (M:Mem) (t:Nat):run E18 (.fn 50) [.ptr (some ⟨t,0⟩)] M=some (.fn (.func 96) [] [.ptr (some ⟨M.next,0⟩)],M.lay (.cells [.ptr (some ⟨t,0⟩)] false)):=by
 simp only[f50_is (H:=H18) rfl,T.f50,q1h,w_f50,AV.cells,Option.map_some]
theorem allQ_is (M:Mem) (t:Nat):run E18 (.fn 51) [.ptr (some ⟨t,0⟩)] M=some (.fn (.func 100) [] [.ptr (some ⟨M.next,0⟩)],M.lay (.cells [.ptr (some ⟨t,0⟩)] false)):=by
 simp only[f51_is (H:=H18) rfl,T.f51,q1h,w_f51,AV.cells,Option.map_some]
theorem allA_is (M:Mem) (t:Nat):run E18 (.fn 52) [.ptr (some ⟨t,0⟩)] M=some (.fn (.func 104) [] [.ptr (some ⟨M.next,0⟩)],M.lay (.cells [.ptr (some ⟨t,0⟩)] false)):=by
 simp only[f52_is (H:=H18) rfl,T.f52,q1h,w_f52,AV.cells,Option.map_some]
section
variable {m:Mem} {b:Nat} {st:LSt} {F:List Nat}
theorem book_is (h:LedgerAt m b st F) (w:LWf st) :
  ∃sp sq sa m' r1 r2 r3,run E18 (.fn 16) [.ptr (some ⟨b,0⟩)] m=some (.agg [sp,sq,sa,.int .u64 st.latest],m')∧q1s 4 m' sp (st.q0b.map (·.cells)) r1∧q1s 9 m' sq (st.pairs.map (·.cells)) r2∧q1s 4 m' sa (st.q0n.map (·.cells)) r3∧Fr m m' []∧
   (∀c,r1=some c→m.next≤c)∧(∀c,r2=some c→m.next≤c)∧(∀c,r3=some c→m.next≤c):=by
 obtain⟨tp,tq,ta,FP,FQ,FA,h1,h2,h3,h4,h5,h6,h7,h8,h9,h10,rfl⟩:=h.ex
 have hb:=Mem.q0w h1
 have a3:∀i:Nat,ld1 m (.ptr (some ⟨b,i⟩))=[.int .i64 st.most,.ptr (some ⟨tp,0⟩),.ptr (some ⟨tq,0⟩),.ptr (some ⟨ta,0⟩),.int .u64 st.latest][i]?:=fun i=>q0j h1
 have lp:=w.lp
 have lq:=w.lq
 have la:=w.la
 obtain⟨M0,hM0⟩:∃M0,M0=((m.lay (.cells [.sl none 0 0 0 true,.sl none 0 0 0 true,.sl none 0 0 0 true,.int .u64 0] false)).lay (.cells [.sl none 0 0 0 true,.sl none 0 0 0 true,.sl none 0 0 0 true,.int .u64 st.latest] false)).lay (.cells [.ptr (some ⟨tp,0⟩)] false):=⟨_,rfl⟩
 have f0:Fr m M0 []:=by rw[hM0];(repeat apply Fr.lays);exact Fr.refl _
 have n0:M0.next=m.next+1+1+1:=by rw[hM0];rfl
 have B0:M0.get (m.next+1)=some (.cells [.sl none 0 0 0 true,.sl none 0 0 0 true,.sl none 0 0 0 true,.int .u64 st.latest] false):=by rw[hM0];simp[Mem.q04]
 have R0:M0.get m.next=some (.cells [.sl none 0 0 0 true,.sl none 0 0 0 true,.sl none 0 0 0 true,.int .u64 0] false):=by rw[hM0];simp only[Mem.q04,Mem.q00,nn1,nn2,if_true,if_false]
 have A0:M0.get (m.next+1+1)=some (.cells [.ptr (some ⟨tp,0⟩)] false):=by rw[hM0];simp[Mem.q04]
 obtain⟨sp,M1,r1,p1,p2,p3,p4,p5⟩:=rngP (bb:=m.next+1) (.ptr (some ⟨b,0⟩)) (.ptr (some ⟨m.next,0⟩)) .undef .undef .undef (.fn (.func 96) [] [.ptr (some ⟨m.next+1+1,0⟩)]) .undef .undef .undef
  (h2.frame f0 (by simp)) (by simp;omega) A0 B0 rfl rfl (q1s.nil _ _ _ _) (fun j m'=>(T.Rl H18).afr 65536 j [.ptr (some ⟨b,0⟩),.ptr (some ⟨m.next,0⟩),.ptr (some ⟨m.next+1,0⟩),.undef,.undef,.undef,(.fn (.func 96) [] [.ptr (some ⟨m.next+1+1,0⟩)]),.undef,.undef,.undef] m')
 have f1:Fr m M1 []:=f0.step p4 (fun c hc=>.inr (by simp at hc;omega))
 have k1:=f1.get h1 (by simp)
 have a31:∀i:Nat,ld1 M1 (.ptr (some ⟨b,i⟩))=[.int .i64 st.most,.ptr (some ⟨tp,0⟩),.ptr (some ⟨tq,0⟩),.ptr (some ⟨ta,0⟩),.int .u64 st.latest][i]?:=fun i=>q0j k1
 have n1:=p4.next
 obtain⟨M1',hM1'⟩:∃M1',M1'=M1.lay (.cells [.ptr (some ⟨tq,0⟩)] false):=⟨_,rfl⟩
 have f1':Fr M1 M1' []:=by rw[hM1'];exact(Fr.refl M1).lay _
 have A1:M1'.get M1.next=some (.cells [.ptr (some ⟨tq,0⟩)] false):=by rw[hM1'];exact q0d _ _
 simp only[List.set_cons_zero]at p2
 obtain⟨sq,M2,r2,q1,q2,q3,q4,q5⟩:=rngQ (bb:=m.next+1) (.ptr (some ⟨b,0⟩)) (.ptr (some ⟨m.next,0⟩)) .undef .undef (.fn (.func 100) [] [.ptr (some ⟨M1.next,0⟩)]) .undef .undef
  ((h3.frame f1 (by simp)).frame f1' (by simp)) (by simp;omega) A1 (f1'.get p2 (by simp)) rfl rfl (q1s.nil _ _ _ _) (fun j m'=>(T.Rl H18).afr 65537 j [.ptr (some ⟨b,0⟩),.ptr (some ⟨m.next,0⟩),.ptr (some ⟨m.next+1,0⟩),.undef,.undef,(.fn (.func 100) [] [.ptr (some ⟨M1.next,0⟩)]),.undef,.undef] m')
 have f12:Fr M1 M2 [m.next+1]:=(f1'.any _).step q4 (fun c hc=>.inl hc)
 have f2:Fr m M2 []:=f1.step f12 (fun c hc=>.inr (by simp at hc;omega))
 have k2:=f2.get h1 (by simp)
 have a32:∀i:Nat,ld1 M2 (.ptr (some ⟨b,i⟩))=[.int .i64 st.most,.ptr (some ⟨tp,0⟩),.ptr (some ⟨tq,0⟩),.ptr (some ⟨ta,0⟩),.int .u64 st.latest][i]?:=fun i=>q0j k2
 obtain⟨M2',hM2'⟩:∃M2',M2'=M2.lay (.cells [.ptr (some ⟨ta,0⟩)] false):=⟨_,rfl⟩
 have f2':Fr M2 M2' []:=by rw[hM2'];exact(Fr.refl M2).lay _
 have A2:M2'.get M2.next=some (.cells [.ptr (some ⟨ta,0⟩)] false):=by rw[hM2'];exact q0d _ _
 simp only[List.set_cons_succ,List.set_cons_zero]at q2
 obtain⟨sa,M3,r3,t1,t2,t3,t4,t5⟩:=rngA (bb:=m.next+1) (.ptr (some ⟨m.next,0⟩)) .undef (.fn (.func 104) [] [.ptr (some ⟨M2.next,0⟩)]) .undef
  ((h4.frame f2 (by simp)).frame f2' (by simp)) (by simp;omega) A2 (f2'.get q2 (by simp)) rfl rfl (q1s.nil _ _ _ _) (fun j m'=>(T.Rl H18).afr 65538 j [.ptr (some ⟨m.next,0⟩),.ptr (some ⟨m.next+1,0⟩),.undef,(.fn (.func 104) [] [.ptr (some ⟨M2.next,0⟩)]),.undef] m')
 have f23:Fr M2 M3 [m.next+1]:=(f2'.any _).step t4 (fun c hc=>.inl hc)
 have f3:Fr m M3 []:=f2.step f23 (fun c hc=>.inr (by simp at hc;omega))
 simp only[List.set_cons_succ,List.set_cons_zero]at t2
 have n2:=f12.next
 have R1:M1.get m.next=some (.cells [.sl none 0 0 0 true,.sl none 0 0 0 true,.sl none 0 0 0 true,.int .u64 0] false):=p4.get R0 (by simp)
 have R3:M3.get m.next=some (.cells [.sl none 0 0 0 true,.sl none 0 0 0 true,.sl none 0 0 0 true,.int .u64 0] false):=f23.get (f12.get R1 (by simp)) (by simp)
 have one:[sp,sq,sa,AV.int .u64 st.latest].all AV.one=true:=by rw[List.all_cons,List.all_cons,List.all_cons,p3.one,q3.one,t3.one];rfl
 have d3:ldN M3 (.ptr (some ⟨m.next+1,0⟩)) 4=some (.agg [sp,sq,sa,.int .u64 st.latest]):=q1b t2 rfl
 have s3:=q1w (n:=4) (v:=[sp,sq,sa,.int .u64 st.latest]) R3 rfl rfl one
 have e3:ldN (M3.put m.next (some (.cells [sp,sq,sa,.int .u64 st.latest] false))) (.ptr (some ⟨m.next,0⟩)) 4=some (.agg [sp,sq,sa,.int .u64 st.latest]):=q1b (q05 R3) rfl
 have fp:Fr M3 (M3.put m.next (some (.cells [sp,sq,sa,.int .u64 st.latest] false))) [m.next]:=Fr.put _ _ _
 have g1:∀c,r1=some c→M0.next≤c:=p5
 refine⟨sp,sq,sa,M3.put m.next (some (.cells [sp,sq,sa,.int .u64 st.latest] false)),r1,r2,r3,?_,?_,?_,?_,f3.put' (.inr (Nat.le_refl _)),fun c hc=>by have:=p5 c hc;omega,fun c hc=>by have:=q5 c hc;have:=f1'.next;have:=f1.next;omega,fun c hc=>by have:=t5 c hc;have:=f2'.next;have:=f2.next;omega⟩
 ·simp (maxDischargeDepth:=20) only [f16_is (H:=H18) rfl,T.f16,pB,q0r,AV.cells,Nat.reduceAdd,Nat.reduceLeDiff,nnA,w_f16,AV.one,over,lcl,q2d hb,q8p hb,a3,allP_is,←hM0]
  simp only[g16_0_is (H:=H18),T.g16_0,w_g16_0,z5q]
  rw[p1]
  simp only[z7m (H:=H18),T.q99,j2o]
  simp only[g16_2_is (H:=H18),T.g16_2,nnA,w_g16_2,a31,allQ_is,←hM1']
  simp only[g16_3_is (H:=H18),T.g16_3,w_g16_3,z5q]
  rw[q1]
  simp only[z7o (H:=H18),T.z0a,j2p]
  simp only[g16_5_is (H:=H18),T.g16_5,nnA,w_g16_5,a32,allA_is,←hM2']
  simp only[g16_6_is (H:=H18),T.g16_6,w_g16_6,z5q]
  rw[t1]
  simp only[z7q (H:=H18),T.z0b,j2q]
  simp only[g16_8_is (H:=H18),T.g16_8,q1g,q1i,w_g16_8,d3,s3,e3]
 ·exact(((p3.frame f12 (fun c hc=>by have:=p5 c hc;simp;omega)).frame f23 (fun c hc=>by have:=p5 c hc;simp;omega))).frame fp (fun c hc=>by have:=p5 c hc;simp;omega)
 ·exact(q3.frame f23 (fun c hc=>by have:=q5 c hc;have:=f1'.next;simp;omega)).frame fp (fun c hc=>by have:=q5 c hc;have:=f1'.next;simp;omega)
 ·exact t3.frame fp (fun c hc=>by have:=t5 c hc;have:=f2'.next;have:=f2.next;simp;omega)
end
end
section
set_option maxRecDepth 8000
open Go Go.Abs
def trT (st:LSt) (a:AccV) (p:PurseV) (a':AccV) (w:Wd) (s:Int):Int×LSt:=
 if q3b p w s≠0 then (q3b p w s,st) else
 if a.bal.val<w.val then (42,st) else
 if q4r a.bal a'.bal w=true then (0,(st.q25 {a with bal:=Wd.of (a.bal.val-w.val)}).q25 {a' with bal:=Wd.of (a'.bal.val+w.val)}) else (20,st)
section
variable {M:Mem} {n b:Nat} {st:LSt} {F:List Nat}
theorem tr_tail (h:LedgerAt M b st F) (w:LWf st) (hF:∀c,c∈F→c<n) {a a':AccV} {p:PurseV} (ma:a∈st.q0n) (ma':a'∈st.q0n) (mp:p∈st.q0b)
  (ha:q1d q0f a.id (st.q0n.map (·.id))=true) (ha':q1d q0f a'.id (st.q0n.map (·.id))=true) {x:Wd} (hx:x.ok) (s:Int)
  (hA:M.get n=some (.cells (q02 x s) false)) (hX:M.get (n+1)=some (.cells a.cells false)) (hP:M.get (n+1+1)=some (.cells p.cells false)) (hY:M.get (n+1+1+1)=some (.cells a'.cells false)) :
  ∃m' F',D18.gor 77824 [.ptr (some ⟨b,0⟩),.ptr (some ⟨n,0⟩),.ptr (some ⟨n+1,0⟩),.ptr (some ⟨n+1+1,0⟩),.ptr (some ⟨n+1+1+1,0⟩)] M=some (.int .i64 (trT st a p a' x s).1,m')∧
   LedgerAt m' b (trT st a p a' x s).2 F'∧Fr M m' ((n+1)::(n+1+1+1)::F)∧∀c,c∈F'→c∈F∨M.next≤c:=by
 have nF:∀k,n≤k→k∉F:=fun k hk hc=>by have:=hF k hc;omega
 have dA:ldN M (.ptr (some ⟨n,0⟩)) 3=some (.agg (q02 x s)):=q1b hA rfl
 have dA2:ldN M (.ptr (some ⟨n,0⟩)) 2=some (.agg x.cells):=by rw[q1v hA (by simp[q02])];rfl
 have dX:ldN M (.ptr (some ⟨n+1,0⟩)) 4=some (.agg a.cells):=q1b hX rfl
 have dP:ldN M (.ptr (some ⟨n+1+1,0⟩)) 4=some (.agg p.cells):=q1b hP rfl
 have ft:=fun m=>fits_at (H:=H18) rfl p hx s m
 have po:=fun m=>poor_at (H:=H18) rfl a (w.oka a ma).1 hx s m
 have done:∀(M1:Mem) (v:AV),Fr M M1 []→∃m' F',some (v,M1)=some (v,m')∧LedgerAt m' b st F'∧Fr M m' ((n+1)::(n+1+1+1)::F)∧∀c,c∈F'→c∈F∨M.next≤c:=
  fun M1 v h1=>⟨M1,F,rfl,h.q0p h1,h1.any _,fun c hc=>.inl hc⟩
 unfold trT
 obtain⟨fe,hfe⟩:∃fe,fe=q3b p x s:=⟨_,rfl⟩
 rw[←hfe]at ft⊢
 by_cases f0:fe=0
 ·subst f0
  rw[if_neg (by simp)]
  by_cases hp:a.bal.val<x.val
  ·rw[if_pos hp]
   rw[dt hp]at po
   simp only[z09 (H:=H18),T.g19_0,q1,p2,q0a,ifV,z8x,dA,dP,ft,dX,po,decide_true,z1a (H:=H18),T.g19_1,p1,z8y,z1b (H:=H18),T.g19_2,z8z,z1c (H:=H18),T.g19_3,z81,df (show ¬(42:Int)=0 by omega)]
   exact done M _ (Fr.refl M)
  ·rw[if_neg hp]
   rw[df hp]at po
   obtain⟨mv1,mv2⟩:=moves_is hX hY (by omega) (w.oka a ma).1 (w.oka a' ma').1 hx (o1:=2) (o2:=2) (by simp) (by simp) rfl rfl
   cases e1:q4r a.bal a'.bal x with
   |false=>
    rw[if_neg (by simp)]
    obtain⟨M3,g1,g2⟩:=mv1 e1
    simp only[z09 (H:=H18),T.g19_0,q1,p2,q0a,ifV,z8x,dA,dP,ft,dX,po,decide_true,z1a (H:=H18),T.g19_1,p1,z8y,dA2,g1,z1b (H:=H18),T.g19_2,z8z,z1c (H:=H18),T.g19_3,z81,df (show ¬(20:Int)=0 by omega)]
    exact done M3 _ g2
   |true=>
    rw[if_pos rfl]
    obtain⟨M3,g1,g2,g3,g4⟩:=mv2 e1
    have f3:Fr M M3 ((n+1)::(n+1+1+1)::F):=g4.mono (by simp +contextual)
    have hL3:LedgerAt M3 b st F:=h.frame g4 (fun c hc hm=>by
     have:=hF c hc
     simp only[List.mem_cons,List.not_mem_nil,or_false]at hm
     omega)
    have n3:=g4.next
    have lY:=Mem.q0w hY
    obtain⟨m1,F1,j1,j2,j3,j4⟩:=setA_is hL3 w.sa w.la {a with bal:=Wd.of (a.bal.val-x.val)} ha
    have ids:=LSt.q39 (st:=st) (a:={a with bal:=Wd.of (a.bal.val-x.val)}) ha
    obtain⟨m2,F2,i1,i2,i3,i4⟩:=setA_is j2 (by rw[ids];exact w.sa) (by show (st.q0n.set _ _).length≤64;rw[List.length_set];exact w.la) {a' with bal:=Wd.of (a'.bal.val+x.val)} (by rw[ids];exact ha')
    have y1:=j3.get g3 (nF _ (by omega))
    have d3:ldN M3 (.ptr (some ⟨n+1,0⟩)) 4=some (.agg (AccV.mk a.id a.coin (Wd.of (a.bal.val-x.val))).cells):=q1b g2 rfl
    have d4:ldN m1 (.ptr (some ⟨n+1+1+1,0⟩)) 4=some (.agg (AccV.mk a'.id a'.coin (Wd.of (a'.bal.val+x.val))).cells):=q1b y1 rfl
    refine⟨m2,F2,?_,i2,(f3.step j3 (fun c hc=>.inl (by simp[hc]))).step i3 (fun c hc=>?_),fun c hc=>?_⟩
    ·simp only[z09 (H:=H18),T.g19_0,q1,p2,q0a,ifV,z8x,dA,dP,ft,dX,po,decide_true,z1a (H:=H18),T.g19_1,p1,z8y,dA2,g1,z1b (H:=H18),T.g19_2,z8z,d3,j1,d4,i1,z1c (H:=H18),T.g19_3,z81]
    ·rcases j4 c hc with h1|h1
     ·exact .inl (by simp[h1])
     ·exact .inr (Nat.le_trans n3 h1)
    ·rcases i4 c hc with h1|h1
     ·exact(j4 c h1).imp (fun h=>h) (fun h=>Nat.le_trans n3 h)
     ·exact .inr (Nat.le_trans n3 (Nat.le_trans j3.next h1))
 ·rw[if_pos f0]
  simp only[z09 (H:=H18),T.g19_0,q1,p2,q0a,ifV,z8x,dA,dP,ft,df f0,z1a (H:=H18),T.g19_1,p1,z8y,z1b (H:=H18),T.g19_2,z8z,z1c (H:=H18),T.g19_3,z81]
  exact done M _ (Fr.refl M)
end
section
variable {m:Mem} {b:Nat} {st:LSt} {F:List Nat}
theorem z0y (st:LSt) (i j:Int) (x:Wd) (s:Int):q1n st i j x s=(if (st.of i).2.2≠0 then ((st.of i).2.2,st) else if (st.of j).2.2≠0 then ((st.of j).2.2,st) else if i=j then (45,st) else
  if (st.of i).2.1.name≠(st.of j).2.1.name then (41,st) else trT st (st.of i).1 (st.of i).2.1 (st.of j).1 x s):=rfl
theorem j4o (h:LedgerAt m b st F) (w:LWf st) (i j:Int) {x:Wd} (hx:x.ok) (s:Int) :
  ∃m' F',run E18 (.fn 19) [.ptr (some ⟨b,0⟩),.int .u64 i,.int .u64 j,.agg (q02 x s)] m=some (.int .i64 (q1n st i j x s).1,m')∧LedgerAt m' b (q1n st i j x s).2 F'∧Fr m m' F∧∀c,c∈F'→c∈F∨m.next≤c:=by
 have hlt:=h.lt
 have om:=of_at2 (H:=H18) rfl h w i
 have on:=of_at2 (H:=H18) rfl h w j
 have done:∀M,Fr m M []→∀v:AV,∃m' F',some (v,M)=some (v,m')∧LedgerAt m' b st F'∧Fr m m' F∧∀c,c∈F'→c∈F∨m.next≤c:=fun M hM v=>⟨M,F,rfl,h.q0p hM,hM.any F,fun c hc=>.inl hc⟩
 have ci:=LSt.q10 w i
 have cj:=LSt.q10 w j
 rw[z0y]
 obtain⟨o,ho⟩:∃o,o=st.of i:=⟨_,rfl⟩
 obtain⟨o',ho'⟩:∃o',o'=st.of j:=⟨_,rfl⟩
 rw[←ho]at om ci⊢
 rw[←ho']at on cj⊢
 clear ho ho'
 obtain⟨a,p,e⟩:=o
 obtain⟨a',p',e'⟩:=o'
 simp only at om on⊢
 obtain⟨M,hM⟩:∃M,M=((((m.lay (.cells (q02 x s) false)).lay (.cells a.cells false)).lay (.cells p.cells false)).lay (.cells a'.cells false)).lay (.cells p'.cells false):=⟨_,rfl⟩
 have fM:Fr m M []:=by rw[hM];(repeat apply Fr.lays);exact Fr.refl _
 have m0:M.get m.next=some (.cells (q02 x s) false):=by rw[hM];simp only[Mem.q04,Mem.q00,nn1,nn2,nn3,nn4,if_true,if_false]
 have m1:M.get (m.next+1)=some (.cells a.cells false):=by rw[hM];simp[Mem.q04]
 have m2:M.get (m.next+1+1)=some (.cells p.cells false):=by rw[hM];simp[Mem.q04]
 have m3:M.get (m.next+1+1+1)=some (.cells a'.cells false):=by rw[hM];simp[Mem.q04]
 have m4:M.get (m.next+1+1+1+1)=some (.cells p'.cells false):=by rw[hM];simp[Mem.q04]
 have bP:∀i:Nat,ld1 M (.ptr (some ⟨m.next+1+1,i⟩))=p.cells[i]?:=fun i=>q0j m2
 have bR:∀i:Nat,ld1 M (.ptr (some ⟨m.next+1+1+1+1,i⟩))=p'.cells[i]?:=fun i=>q0j m4
 simp only[q02,AccV.cells,PurseV.cells]at om on hM bP bR⊢
 simp (maxDischargeDepth:=20) only [f19_is (H:=H18) rfl,T.f19,p1,pB,p2,q1,q1h,q0g,q0a,Nat.reduceAdd,w_f19,AV.one,over,AV.cells,Nat.reduceLeDiff,lcl,om,on,frl,Fr.refl,←hM]
 rcases ci with ⟨ci,_⟩|⟨a0,p0,ci,ga,gp,hid,hka,hpn,hkp,ma,mp⟩
 ·obtain⟨rfl,rfl,rfl⟩:a=nilA∧p=nilP∧e=40:=by simpa using ci
  simp only[ne_eq,show ¬(40:Int)=0 by omega,not_false_eq_true,if_true,decide_false,Bool.not_false]
  exact done _ fM _
 ·obtain⟨rfl,rfl,rfl⟩:a=a0∧p=p0∧e=0:=by simpa using ci
  simp only[decide_true,Bool.not_true,ne_eq,not_true_eq_false,if_false]
  rcases cj with ⟨cj,_⟩|⟨a1,p1,cj,ga',gp',hid',hka',hpn',hkp',ma',mp'⟩
  ·obtain⟨rfl,rfl,rfl⟩:a'=nilA∧p'=nilP∧e'=40:=by simpa using cj
   simp only[show ¬(40:Int)=0 by omega,not_false_eq_true,if_true,decide_false,Bool.not_false]
   exact done _ fM _
  ·obtain⟨rfl,rfl,rfl⟩:a'=a1∧p'=p1∧e'=0:=by simpa using cj
   simp only[decide_true,Bool.not_true,not_true_eq_false,if_false]
   by_cases hij:i=j
   ·rw[if_pos hij]
    simp only[dt hij]
    exact done _ fM _
   ·rw[if_neg hij]
    simp only[df hij]
    by_cases hn:p.name=p'.name
    ·rw[if_neg (by simp[hn])]
     simp only[dt hn,Bool.not_true]
     obtain⟨m',F',t1,t2,t3,t4⟩:=tr_tail (h.q0p fM) w hlt ma ma' mp (by rw[hid];exact hka) (by rw[hid'];exact hka') hx s m0 m1 m2 m3
     rw[t1]
     refine⟨m',F',rfl,t2,(fM.any F).step t3 (fun c hc=>?_),fun c hc=>(t4 c hc).imp (fun h=>h) (fun h=>Nat.le_trans fM.next h)⟩
     simp only[List.mem_cons]at hc
     rcases hc with rfl|rfl|hc
     ·exact .inr (by omega)
     ·exact .inr (by omega)
     ·exact .inl hc
    ·rw[if_pos hn]
     simp only[df hn,Bool.not_false]
     exact done _ fM _
end
end
section
set_option maxRecDepth 4000
open Go Go.Abs
theorem rmuldec18 {a b:Wd} (ha:a.ok) (hb:b.ok) {s t to:Int} (hs:0≤s∧s≤18) (ht:0≤t∧t≤18) (hto:0≤to∧to≤18) (m:Mem) :
  Res m (run E18 (.fn 117) [.agg (q02 a s),.agg (q02 b t),.int .i64 to] m) (q6t (mulV a.val b.val (s+t-to)) to):=by
 have r1:=fun m=>q7w (H:=H18) rfl a s m
 have r2:=fun m=>q7w (H:=H18) rfl b t m
 rw[dt hs]at r1
 rw[dt ht]at r2
 have o1:=fun m=>z0x (H:=H18) rfl ha m
 have o2:=fun m=>z0x (H:=H18) rfl hb m
 have ti:=fun m=>j19 (H:=H18) rfl (wd_lt8 ha) (wd_lt hb) m
 have ro:=fun m=>rround_at (H:=H18) rfl (wd_mul ha hb) (k:=s+t-to) (by omega) (by omega) m
 have rd:=fun m=>rdec_at (H:=H18) rfl (rnd_bound (wd_mul ha hb) (k:=s+t-to) (by omega)) to m
 rw[rnd_mul]at ro rd
 have hk1:IntKind.wrap .i64 (s+t)=s+t:=wrap_i64 (by omega) (by omega)
 have hk2:IntKind.wrap .i64 (s+t-to)=s+t-to:=wrap_i64 (by omega) (by omega)
 obtain⟨ah,al⟩:=a
 obtain⟨bh,bl⟩:=b
 obtain⟨N,hN⟩:∃N,N=mulV (Wd.mk ah al).val (Wd.mk bh bl).val (s+t-to):=⟨_,rfl⟩
 rw[←hN]at ro rd⊢
 simp only[q02,Wd.cells]at r1 r2 o1 o2
 simp only[q02,f117_is (H:=H18) rfl,T.f117,pB,q1,p1,p2,q0r,AV.cells,Nat.reduceAdd,Nat.reduceLeDiff,q1h,q0a,ifV,unA,q1g,q1i,w_f117,AV.one,over,lcl,r1,r2,Bool.not_true,df (show ¬to<0 by omega),df (show ¬(18:Int)<to by omega)]
 unfold q6t at rd⊢
 cases hf:q1c N with
 |true=>
  simp only[hf,if_true,q02]at rd⊢
  simp only[j0j (H:=H18),T.g117_0,p1,q1,p2,q0g,q1g,q1i,Nat.reduceAdd,j8m,AV.one,over,AV.cells,Nat.reduceLeDiff,lcl,o1,o2,ti,hk1,hk2,ro,rd]
  refine Res.eq ?_ rfl
  (repeat apply Fr.lays)
  exact Fr.refl _
 |false=>
  simp only[hf,Bool.false_eq_true,if_false,q02]at rd⊢
  simp only[j0j (H:=H18),T.g117_0,p1,q1,p2,q0g,q1g,q1i,Nat.reduceAdd,j8m,AV.one,over,AV.cells,Nat.reduceLeDiff,lcl,o1,o2,ti,hk1,hk2,ro,rd]
  refine Res.eq ?_ rfl
  (repeat apply Fr.lays)
  exact Fr.refl _
theorem dlit_is {n:Int} (h1:-9223372036854775808≤n) (h2:n<9223372036854775808) (s:Int) (m:Mem):Res m (run E18 (.fn 18) [.int .i64 n,.int .i64 s] m) (.agg (q02 (Wd.of n) s)):=by
 have o:=fun m=>of_at (H:=H18) rfl h1 h2 m
 simp only[Wd.cells]at o
 simp only[f18_is (H:=H18) rfl,T.f18,pB,p1,q0r,AV.cells,Nat.reduceAdd,Nat.reduceLeDiff,q1g,q1i,w_f18,AV.one,over,lcl,o,q02]
 refine Res.eq ?_ rfl
 (repeat apply Fr.lays)
 exact Fr.refl _
def S19:List FuncId:=[18,117,17,66,45]
def R19:List FuncId:=[44,62,63,16,61,19]
noncomputable def H19:FuncId→Option (List AV→Mem→R):=q62 E18 S19 R19
noncomputable abbrev E19:Env:=T.EH H19
theorem E19_ok:EnvOk E19:=q4v E18_ok S19 R19
noncomputable abbrev D19:Do:=T.Rl H19
section
variable {H:FuncId→Option (List AV→Mem→R)} {m:Mem} {b:Nat} {st:LSt} {F:List Nat}
theorem raw18 {f:FuncId} (h:H f=some (run E18 (.fn f))) (xs:List AV) (m:Mem):run (T.EH H) (.fn f) xs m=run E18 (.fn f) xs m:=q1t h xs m
theorem dlit_at (h:H 18=some (q0v E18 18)) {n:Int} (h1:-9223372036854775808≤n) (h2:n<9223372036854775808) (s:Int) (m:Mem):run (T.EH H) (.fn 18) [.int .i64 n,.int .i64 s] m=some (.agg (q02 (Wd.of n) s),m):=
 q0s h (by simp[AV.flat,AV.lt,decC_flat]) fun m2 _ _=>dlit_is h1 h2 s m2
theorem rmuldec_at (h:H 117=some (q0v E18 117)) {a b:Wd} (ha:a.ok) (hb:b.ok) {s t to:Int} (hs:0≤s∧s≤18) (ht:0≤t∧t≤18) (hto:0≤to∧to≤18) (m:Mem) :
  run (T.EH H) (.fn 117) [.agg (q02 a s),.agg (q02 b t),.int .i64 to] m=some (q6t (mulV a.val b.val (s+t-to)) to,m):=
 q0s h (z15 _ _) fun m2 _ _=>rmuldec18 ha hb hs ht hto m2
theorem j5e (hh:H 17=some (q0v E18 17)) (h:LedgerAt m b st F) (w:LWf st) (id:Int) (M:Mem) (hM:Fr m M []) :
  run (T.EH H) (.fn 17) [.ptr (some ⟨b,0⟩),.int .u64 id] M=some (.tup [.agg (q02 (q08 st id).1 (q08 st id).2.1),.int .i64 (q08 st id).2.2],M):=
 q0s hh (by simp[AV.flat,AV.lt,AV.lts,q02]) fun m2 h1 h2=>j9c ((h.q0p hM).q0p (Fr.same h1 h2)) w id
end
end
end Go.Proofs.YtlginbmjiecglaaGreatDoor
namespace Go.Abs
section
open Go
theorem q1s.fld {n:Nat} {m:Mem} {s:AV} {l:List (List AV)} {rb:Option Nat} (h:q1s n m s l rb) {i:Nat} (hi:i<l.length) :
  ∃b,rb=some b∧s=.sl (some ⟨b,0⟩) n l.length l.length false∧ixA n l.length ⟨b,0⟩ (i:Int)=some (.ptr (some ⟨b,i*n⟩))∧(∀o,o<n→ld1 m (.ptr (some ⟨b,i*n+o⟩))=l[i][o]?)∧
   (∀o k,o+k≤n→ldN m (.ptr (some ⟨b,i*n+o⟩)) k=some (.agg ((l[i].drop o).take k))):=by
 have hl:=h.lens
 obtain⟨b,h1,h2,h3,h4,h5⟩:=h.at hi
 have hli:l[i].length=n:=hl _ (List.getElem_mem hi)
 have hd:l.flatten.drop (i*n)=l[i]++(l.drop (i+1)).flatten:=by
  rw[q3o i hl,List.drop_eq_getElem_cons hi,List.flatten_cons]
 have hfl:=q2l hl
 have hle:(i+1)*n≤l.length*n:=Nat.mul_le_mul_right n hi
 rw[Nat.succ_mul]at hle
 refine⟨b,h1,h2,h4,fun o ho=>?_,fun o k hk=>?_⟩
 ·rw[q0j h3,←List.getElem?_drop,hd,List.getElem?_append_left (by omega)]
 ·rw[q1v h3 (by omega),←List.drop_drop,hd,List.drop_append_of_le_length (by omega),List.take_append_of_le_length (by rw[List.length_drop];omega)]
def q73 {α:Type} (p:α→Bool):List α→Nat→Int
 |[],_=>-1
 |x::l,i=>if p x then (i:Int) else q73 p l (i+1)
theorem q7p {α κ:Type} [DecidableEq κ] {lt:κ→κ→Bool} (f:α→κ) (k:κ) (irr:∀a,lt a a=false):∀(l:List α) (i:Nat),Srt lt (l.map f)→q73 (fun x=>decide (f x=k)) l i=if q1d lt k (l.map f)=true then ((i+lb lt k (l.map f):Nat):Int) else -1
 |[],i,_=>by simp[q73,q1d]
 |x::l,i,hs=>by
  unfold q73
  have hs':Srt lt (l.map f):=by unfold Srt at hs⊢;rw[List.map_cons,List.pairwise_cons]at hs;exact hs.2
  have hx:∀y∈l.map f,lt (f x) y=true:=by unfold Srt at hs;rw[List.map_cons,List.pairwise_cons]at hs;exact hs.1
  have ih:=q7p f k irr l (i+1) hs'
  by_cases e:f x=k
  ·rw[if_pos (dt e)]
   have hlb:lb lt k ((x::l).map f)=0:=by
    unfold lb
    rw[List.map_cons,List.takeWhile_cons,e,irr];simp
   have hh:q1d lt k ((x::l).map f)=true:=by unfold q1d;rw[hlb];simp[e]
   rw[if_pos hh,hlb];rfl
  ·rw[if_neg (by simpa using e),ih]
   by_cases h2:lt (f x) k=true
   ·have hlb:lb lt k ((x::l).map f)=lb lt k (l.map f)+1:=by
     unfold lb
     rw[List.map_cons,List.takeWhile_cons,if_pos h2,List.length_cons]
    have hh:q1d lt k ((x::l).map f)=q1d lt k (l.map f):=by
     unfold q1d;rw[hlb,List.map_cons,List.getElem?_cons_succ]
    rw[hh,hlb]
    by_cases h3:q1d lt k (l.map f)=true
    ·rw[if_pos h3,if_pos h3];congr 1;omega
    ·rw[if_neg h3,if_neg h3]
   ·have hlb:lb lt k ((x::l).map f)=0:=by
     unfold lb
     rw[List.map_cons,List.takeWhile_cons,if_neg h2];rfl
    have hh:q1d lt k ((x::l).map f)=false:=by unfold q1d;rw[hlb];simp[e]
    rw[hh]
    have hn:q1d lt k (l.map f)=false:=by
     cases h3:q1d lt k (l.map f) with
     |false=>rfl
     |true=>
      have:=hx k (List.mem_of_getElem? (q5o h3))
      exact absurd this h2
    rw[hn]
    simp
structure RefAt (m:Mem) (b:Nat) (st:LSt) (F:List Nat):Prop where
 ex:∃sp sq sa rp rq ra,m.get b=some (.cells [sp,sq,sa,.int .u64 st.latest,.int .i64 st.most] false)∧q1s 4 m sp (st.q0b.map (·.cells)) rp∧q1s 9 m sq (st.pairs.map (·.cells)) rq∧q1s 4 m sa (st.q0n.map (·.cells)) ra∧
  b∉rp.toList∧b∉rq.toList∧b∉ra.toList∧Dj rp.toList rq.toList∧Dj rp.toList ra.toList∧Dj rq.toList ra.toList∧F=b::(rp.toList++rq.toList++ra.toList)
theorem RefAt.frame {m m':Mem} {b:Nat} {st:LSt} {F S:List Nat} (h:RefAt m b st F) (hf:Fr m m' S) (hd:∀c,c∈F→c∉S):RefAt m' b st F:=by
 obtain⟨sp,sq,sa,rp,rq,ra,h1,h2,h3,h4,h5,h6,h7,h8,h9,h10,rfl⟩:=h.ex
 exact⟨sp,sq,sa,rp,rq,ra,hf.get h1 (hd _ (by simp)),h2.frame hf (fun c hc=>hd c (by simp[hc])),h3.frame hf (fun c hc=>hd c (by simp[hc])),h4.frame hf (fun c hc=>hd c (by simp[hc])),h5,h6,h7,h8,h9,h10,rfl⟩
theorem RefAt.q0p {m m':Mem} {b:Nat} {st:LSt} {F:List Nat} (h:RefAt m b st F) (hf:Fr m m' []):RefAt m' b st F:=h.frame hf (by simp)
end
end Go.Abs
namespace Go.Proofs.YtlginbmjiecglaaGreatDoor
section
set_option maxRecDepth 4000
open Go Go.Abs
section
variable {m:Mem} {b:Nat} {st:LSt} {F:List Nat}
theorem j4g (h:RefAt m b st F) (hn:st.q0b.length≤1000) (k:List UInt8):∀(d i:Nat),i+d=st.q0b.length→
  D19.gor 147456 [.ptr (some ⟨b,0⟩),.str k,.int .i64 (i:Int)] m=some (.int .i64 (q73 (fun p=>decide (p.name=k)) (st.q0b.drop i) i),m):=by
 obtain⟨sp,sq,sa,rp,rq,ra,h1,h2,h3,h4,h5⟩:=h.ex
 have a3:∀i:Nat,ld1 m (.ptr (some ⟨b,i⟩))=[sp,sq,sa,.int .u64 st.latest,.int .i64 st.most][i]?:=fun i=>q0j h1
 intro d
 induction d with
 |zero=>
  intro i hi
  have:i=st.q0b.length:=by omega
  subst this
  obtain⟨a,sz,cap,ex,e⟩:=h2.len
  rw[List.length_map]at e
  subst e
  rw[List.drop_length]
  simp only[j6e (H:=H19),T.g36_0,p1,q1,p2,nnA,q0a,w_g36_0,a3,df (show ¬((st.q0b.length:Nat):Int)<(st.q0b.length:Int) by omega),g36_3_is (H:=H19),T.g36_3,w_g36_3,q73]
 |succ d ih=>
  intro i hi
  have hlt:i<st.q0b.length:=by omega
  obtain⟨bb,_,e,e2,e3,_⟩:=h2.fld (i:=i) (by rw[List.length_map];exact hlt)
  rw[List.length_map]at e e2
  subst e
  have e4:=e3 0 (by omega)
  rw[List.getElem_map]at e4
  rw[List.drop_eq_getElem_cons hlt]
  unfold q73
  simp only[Nat.add_zero,PurseV.cells]at e4
  simp only[j6e (H:=H19),T.g36_0,p1,q1,p2,nnA,q0a,w_g36_0,a3,dt (show (i:Int)<(st.q0b.length:Int) by omega)]
  simp only[g36_1_is (H:=H19),T.g36_1,p1,q1,p2,nnA,q0a,w_g36_1,a3,true_or,if_true,e2,e4]
  by_cases hk:st.q0b[i].name=k
  ·simp only[dt hk,if_true]
  ·simp only[df hk,Bool.false_eq_true,if_false]
   simp only[g36_2_is (H:=H19),T.g36_2,p2,w_g36_2,show (i:Int)+1=((i+1:Nat):Int) by omega,wrap_i64 (n:=((i+1:Nat):Int)) (by omega) (by omega)]
   exact ih (i+1) (by omega)
theorem rpurse_is (h:RefAt m b st F) (hn:st.q0b.length≤1000) (k:List UInt8):run E19 (.fn 36) [.ptr (some ⟨b,0⟩),.str k] m=some (.int .i64 (q73 (fun p=>decide (p.name=k)) st.q0b 0),m):=by
 have:=j4g h hn k st.q0b.length 0 (by omega)
 rw[List.drop_zero]at this
 simp only[f36_is (H:=H19) rfl,T.f36,w_f36]
 exact this
theorem racc_loop (h:RefAt m b st F) (hn:st.q0n.length≤1000) (k:Int):∀(d i:Nat),i+d=st.q0n.length→
  D19.gor 290816 [.ptr (some ⟨b,0⟩),.int .u64 k,.int .i64 (i:Int)] m=some (.int .i64 (q73 (fun p=>decide (p.id=k)) (st.q0n.drop i) i),m):=by
 obtain⟨sp,sq,sa,rp,rq,ra,h1,h2,h3,h4,h5⟩:=h.ex
 have a3:∀i:Nat,ld1 m (.ptr (some ⟨b,i⟩))=[sp,sq,sa,.int .u64 st.latest,.int .i64 st.most][i]?:=fun i=>q0j h1
 intro d
 induction d with
 |zero=>
  intro i hi
  have:i=st.q0n.length:=by omega
  subst this
  obtain⟨a,sz,cap,ex,e⟩:=h4.len
  rw[List.length_map]at e
  subst e
  rw[List.drop_length]
  simp only[j61 (H:=H19),T.g71_0,p1,q1,p2,nnA,q0a,w_g71_0,a3,df (show ¬((st.q0n.length:Nat):Int)<(st.q0n.length:Int) by omega),g71_3_is (H:=H19),T.g71_3,w_g71_3,q73]
 |succ d ih=>
  intro i hi
  have hlt:i<st.q0n.length:=by omega
  obtain⟨bb,_,e,e2,e3,_⟩:=h4.fld (i:=i) (by rw[List.length_map];exact hlt)
  rw[List.length_map]at e e2
  subst e
  have e4:=e3 0 (by omega)
  rw[List.getElem_map]at e4
  rw[List.drop_eq_getElem_cons hlt]
  unfold q73
  simp only[Nat.add_zero,AccV.cells]at e4
  simp only[j61 (H:=H19),T.g71_0,p1,q1,p2,nnA,q0a,w_g71_0,a3,dt (show (i:Int)<(st.q0n.length:Int) by omega)]
  simp only[g71_1_is (H:=H19),T.g71_1,p1,q1,p2,nnA,q0a,w_g71_1,a3,true_or,if_true,e2,e4]
  by_cases hk:st.q0n[i].id=k
  ·simp only[dt hk,if_true]
  ·simp only[df hk,Bool.false_eq_true,if_false]
   simp only[g71_2_is (H:=H19),T.g71_2,p2,w_g71_2,show (i:Int)+1=((i+1:Nat):Int) by omega,wrap_i64 (n:=((i+1:Nat):Int)) (by omega) (by omega)]
   exact ih (i+1) (by omega)
theorem racc_is (h:RefAt m b st F) (hn:st.q0n.length≤1000) (k:Int):run E19 (.fn 71) [.ptr (some ⟨b,0⟩),.int .u64 k] m=some (.int .i64 (q73 (fun p=>decide (p.id=k)) st.q0n 0),m):=by
 have:=racc_loop h hn k st.q0n.length 0 (by omega)
 rw[List.drop_zero]at this
 simp only[f71_is (H:=H19) rfl,T.f71,w_f71]
 exact this
theorem rpair_loop (h:RefAt m b st F) (hn:st.pairs.length≤1000) (x y:List UInt8):∀(d i:Nat),i+d=st.pairs.length→
  D19.gor 311296 [.ptr (some ⟨b,0⟩),.str x,.str y,.int .i64 (i:Int)] m=some (.int .i64 (q73 (fun p=>decide (p.x=x)&&decide (p.y=y)) (st.pairs.drop i) i),m):=by
 obtain⟨sp,sq,sa,rp,rq,ra,h1,h2,h3,h4,h5⟩:=h.ex
 have a3:∀i:Nat,ld1 m (.ptr (some ⟨b,i⟩))=[sp,sq,sa,.int .u64 st.latest,.int .i64 st.most][i]?:=fun i=>q0j h1
 intro d
 induction d with
 |zero=>
  intro i hi
  have:i=st.pairs.length:=by omega
  subst this
  obtain⟨a,sz,cap,ex,e⟩:=h3.len
  rw[List.length_map]at e
  subst e
  rw[List.drop_length]
  simp only[j62 (H:=H19),T.g76_0,p1,q1,p2,nnA,q0a,w_g76_0,a3,df (show ¬((st.pairs.length:Nat):Int)<(st.pairs.length:Int) by omega),g76_3_is (H:=H19),T.g76_3,w_g76_3,q73]
 |succ d ih=>
  intro i hi
  have hlt:i<st.pairs.length:=by omega
  obtain⟨bb,_,e,e2,e3,_⟩:=h3.fld (i:=i) (by rw[List.length_map];exact hlt)
  rw[List.length_map]at e e2
  subst e
  have e4:=e3 0 (by omega)
  have e5:=e3 1 (by omega)
  rw[List.getElem_map]at e4 e5
  rw[List.drop_eq_getElem_cons hlt]
  unfold q73
  simp only[ge,Nat.add_zero,PairV.cells]at e4 e5
  simp only[j62 (H:=H19),T.g76_0,p1,q1,p2,nnA,q0a,w_g76_0,a3,dt (show (i:Int)<(st.pairs.length:Int) by omega)]
  have tl:=ih (i+1) (by omega)
  have st2:D19.gor 311298 [.ptr (some ⟨b,0⟩),.str x,.str y,.int .i64 (i:Int)] m=some (.int .i64 (q73 (fun p=>decide (p.x=x)&&decide (p.y=y)) (st.pairs.drop (i+1)) (i+1)),m):=by
   simp only[g76_2_is (H:=H19),T.g76_2,p2,w_g76_2,show (i:Int)+1=((i+1:Nat):Int) by omega,wrap_i64 (n:=((i+1:Nat):Int)) (by omega) (by omega)]
   exact tl
  simp only[g76_1_is (H:=H19),T.g76_1,p1,q1,p2,nnA,q0a,ifV,w_g76_1,a3,true_or,if_true,e2,e4,e5,st2]
  by_cases hx:st.pairs[i].x=x
  ·by_cases hy:st.pairs[i].y=y
   ·simp only[dt hx,dt hy,Bool.and_self,if_true]
   ·simp only[dt hx,df hy,Bool.and_false,Bool.false_eq_true,if_false]
  ·simp only[df hx,Bool.false_and,Bool.false_eq_true,if_false]
theorem rpair_is (h:RefAt m b st F) (hn:st.pairs.length≤1000) (x y:List UInt8):run E19 (.fn 76) [.ptr (some ⟨b,0⟩),.str x,.str y] m=some (.int .i64 (q73 (fun p=>decide (p.x=x)&&decide (p.y=y)) st.pairs 0),m):=by
 have:=rpair_loop h hn x y st.pairs.length 0 (by omega)
 rw[List.drop_zero]at this
 simp only[f76_is (H:=H19) rfl,T.f76,w_f76]
 exact this
end
end
end Go.Proofs.YtlginbmjiecglaaGreatDoor
