/- Texts of one claim, put together. -/
import Derived.Test.YtlginbmjiecglaaGreatDoorW17
namespace Go.Proofs.YtlginbmjiecglaaGreatDoor
section
set_option maxRecDepth 4000
open Go Go.Abs
section
variable {M:Mem} {lb bb:Nat} {cs:List AV} {s:AV} {l:List (List AV)} {rb:Option Nat} (t0 t2 t5 t7 t9 t19 t21 t34 t47:AV)
theorem a7q (k:AV) {v:List AV} (hv:v.length=4) (ho:v.all AV.one=true)
  (hL:M.get lb=some (.loop {q0t (T.EH fun _=>none) 16 0 (([t0,uu,t2,(.ptr (some ⟨bb,0⟩)),uu,t5,uu,t7,uu,t9,uu,uu,uu,uu,uu,uu,uu,uu,uu,t19,uu,t21,uu,uu,uu,uu,uu,uu,uu,uu,uu,uu,uu,uu,t34,uu,uu,uu,uu,uu,uu,uu,uu,uu,uu,uu,uu,t47]++List.replicate 7 uu)) with state:=.ready,pending:=none})) (hB:M.get bb=some (.cells cs false)) (hc:cs.length=4) (hs:cs[0]? = some s)
  (hr:q0L 4 M s l rb) (hne:lb≠bb) (hrb:∀b,rb=some b->b≠lb/\b≠bb) (hlen:(l.length+1)*40<=q0A) :
  ∃s' M' rb',run E18 (.yl lb) [k,.agg v] M=some (.bool true,M')/\M'.get lb=some (.loop {q0t (T.EH fun _=>none) 16 0 (([t0,uu,t2,(.ptr (some ⟨bb,0⟩)),uu,t5,uu,t7,uu,t9,uu,uu,uu,uu,uu,uu,uu,uu,uu,t19,uu,t21,uu,uu,uu,uu,uu,uu,uu,uu,uu,uu,uu,uu,t34,uu,uu,uu,uu,uu,uu,uu,uu,uu,uu,uu,uu,t47]++List.replicate 7 uu)) with state:=.ready,pending:=none})/\
   M'.get bb=some (.cells (cs.set 0 s') false)/\q0L 4 M' s' (l++[v]) (some rb')/\Fr M M' (lb::bb::rb.toList)/\M.next<=rb':=by
 have lL:=Mem.q0v hL;have lB:=Mem.q0v hB;obtain⟨M1,hM1⟩:∃M1,M1=M.lay (.cells v false):=⟨_,rfl⟩;have n1:M1.next=M.next+1:=by rw[hM1];rfl
 have s0:stV (M.lay (.cells [.str [],.int .i64 0,.int .i64 0,.int .u64 0] false)) (.ptr (some ⟨M.next,0⟩)) (.agg v) 4=some M1:=by rw[q07 (n:=4) (q0e M _) rfl hv ho,q03,hM1]
 have f1:Fr M M1 []:=by rw[hM1];exact(Fr.refl M).lay _
 have L1:=f1.get hL (by simp);have v1:M1.get M.next=some (.cells v false):=by rw[hM1];exact q0e _ _
 obtain⟨M2,hM2⟩:∃M2,M2=M1.put lb (some (.loop {q0t (T.EH fun _=>none) 16 0 (([t0,uu,t2,(.ptr (some ⟨bb,0⟩)),uu,t5,uu,t7,uu,t9,uu,uu,uu,uu,uu,uu,uu,uu,uu,t19,uu,t21,uu,uu,uu,uu,uu,uu,uu,uu,uu,uu,uu,uu,t34,uu,uu,uu,uu,uu,uu,uu,uu,uu,uu,uu,uu,t47]++List.replicate 7 uu)) with state:=.busy,pending:=none})):=⟨_,rfl⟩
 have n2:M2.next=M.next+1:=by rw[hM2];exact n1
 have b2:q3b (.rd lb) M1=some M2:=by
  unfold q3b;simp only[L1,if_true];rw[hM2]
 have f12:Fr M1 M2 [lb]:=by rw[hM2];exact Fr.put _ _ _
 have v2:M2.get M.next=some (.cells v false):=f12.get v1 (by simp;omega)
 have B2:M2.get bb=some (.cells cs false):=f12.get (f1.get hB (by simp)) (by simp;exact fun h=>hne h.symm)
 have L2:M2.get lb=some (.loop {q0t (T.EH fun _=>none) 16 0 (([t0,uu,t2,(.ptr (some ⟨bb,0⟩)),uu,t5,uu,t7,uu,t9,uu,uu,uu,uu,uu,uu,uu,uu,uu,t19,uu,t21,uu,uu,uu,uu,uu,uu,uu,uu,uu,uu,uu,uu,t34,uu,uu,uu,uu,uu,uu,uu,uu,uu,uu,uu,uu,t47]++List.replicate 7 uu)) with state:=.busy,pending:=none}):=by rw[hM2];exact q0w L1
 have r2:q0L 4 M2 s l rb:=(hr.frame f1 (by simp)).frame f12 (fun b hb=>by simp only[xms];exact(hrb b hb).1)
 obtain⟨M3,hM3⟩:∃M3,M3=M2.lay (.cells v false):=⟨_,rfl⟩;have n3:M3.next=M.next+1+1:=by rw[hM3,Mem.q0q,n2]
 have f23:Fr M2 M3 []:=by rw[hM3];exact(Fr.refl M2).lay _
 have x3:M3.get (M.next+1)=some (.cells v false):=by rw[hM3,<-n2];exact q0e _ _
 have rlt:∀b,rb=some b->b<M.next:=fun b hb=>by subst hb;exact hr.lt
 obtain⟨s',M4,a1,a2,a3,a4⟩:=q2y (w:=40) (by decide) (r2.frame f23 (by simp)) x3 hv ho hlen;rw[n3]at a2 a3;have L4:M4.get lb=some (.loop {q0t (T.EH fun _=>none) 16 0 (([t0,uu,t2,(.ptr (some ⟨bb,0⟩)),uu,t5,uu,t7,uu,t9,uu,uu,uu,uu,uu,uu,uu,uu,uu,t19,uu,t21,uu,uu,uu,uu,uu,uu,uu,uu,uu,uu,uu,uu,t34,uu,uu,uu,uu,uu,uu,uu,uu,uu,uu,uu,uu,t47]++List.replicate 7 uu)) with state:=.busy,pending:=none}):=a4.get (f23.get L2 (by simp)) (fun hm=>by
  rw[Option.mem_toList]at hm;exact(hrb _ hm).1 rfl)
 have B4:M4.get bb=some (.cells cs false):=a4.get (f23.get B2 (by simp)) (fun hm=>by rw[Option.mem_toList]at hm;exact(hrb _ hm).2 rfl)
 have s1one:s'.one=true:=a2.one;have st4:=q1B (v:=s') (vs:=[s']) (o:=0) (n:=1) B4 (q3c s1one) rfl (by omega);have hset:cs.take 0++[s']++cs.drop (0+1)=cs.set 0 s':=by
  rw[List.set_eq_take_append_cons_drop,if_pos (by omega)];simp
 rw[hset]at st4;obtain⟨M5,hM5⟩:∃M5,M5=M4.put bb (some (.cells (cs.set 0 s') false)):=⟨_,rfl⟩;rw[<-hM5]at st4;have L5:M5.get lb=some (.loop {q0t (T.EH fun _=>none) 16 0 (([t0,uu,t2,(.ptr (some ⟨bb,0⟩)),uu,t5,uu,t7,uu,t9,uu,uu,uu,uu,uu,uu,uu,uu,uu,t19,uu,t21,uu,uu,uu,uu,uu,uu,uu,uu,uu,uu,uu,uu,t34,uu,uu,uu,uu,uu,uu,uu,uu,uu,uu,uu,uu,t47]++List.replicate 7 uu)) with state:=.busy,pending:=none}):=by rw[hM5,q1X hne];exact L4
 obtain⟨M6,hM6⟩:∃M6,M6=M5.put lb (some (.loop {q0t (T.EH fun _=>none) 16 0 (([t0,uu,t2,(.ptr (some ⟨bb,0⟩)),uu,t5,uu,t7,uu,t9,uu,uu,uu,uu,uu,uu,uu,uu,uu,t19,uu,t21,uu,uu,uu,uu,uu,uu,uu,uu,uu,uu,uu,uu,t34,uu,uu,uu,uu,uu,uu,uu,uu,uu,uu,uu,uu,t47]++List.replicate 7 uu)) with state:=.ready,pending:=none})):=⟨_,rfl⟩
 have fi:(Ry Tryz.prog (T.EH H18) lb).gor 0 [] M5=some (.bool true,M6):=by
  show fin Tryz.prog (.rd lb) none [] M5=_;unfold fin;simp only[L5,Option.isNone_none,if_true];rw[hM6]
 have f6:Fr M M6 (lb::bb::rb.toList):=by
  have g1:Fr M M4 (lb::bb::rb.toList):=(((f1.any _).step f12 (fun c hc=>.inl (by simp at hc;simp[hc]))).step0 f23).step a4 (fun c hc=>.inl (by simp[hc]))
  rw[hM6,hM5];exact(g1.put' (.inl (by simp))).put' (.inl (by simp))
 refine⟨s',M6,M.next+1+1,?_,by rw[hM6];exact q0w L5,?_,?_,f6,by omega⟩
 ·have lB2:ld1 M2 (.ptr (some ⟨bb,0⟩))=some s:=by rw[q0f B2];exact hs
  have lv2:ldN M2 (.ptr (some ⟨M.next,0⟩)) 4=some (.agg v):=q0C v2 hv
  refine j40 (H:=H18) k (.agg v) t0 t2 (.ptr (some ⟨bb,0⟩)) t5 t7 t9 t19 t21 t34 t47 hL ?_;simp only[T.a0W,pB,p1,q1,apE,q0d,s0,b2,lB2,lv2,q4x (n:=4) (zs:=[.str [],.int .i64 0,.int .i64 0,.int .u64 0]) ho hv (by rfl),n2,<-hM3,a1,st4,fi]
 ·rw[hM6,q1X (fun h=>hne h.symm),hM5];exact q0w B4
 ·refine(a2.frame (m':=M5) (S:=[bb]) (by rw[hM5];exact Fr.put _ _ _) (fun b hb=>by cases hb;simp;omega)).frame (m':=M6) (S:=[lb]) (by rw[hM6];exact Fr.put _ _ _) (fun b hb=>by cases hb;simp;omega)
theorem z5R {sk sv:AV} {kb vb:Nat} {ks:List (List UInt8)} {vs:List (List AV)} (hks:vs.length=ks.length) (hn:ks.length<=1000) (hne:lb≠bb):∀(d i:Nat) (M:Mem) (s:AV) (l:List (List AV)) (rb:Option Nat) (cs:List AV),i+d=ks.length->l.length+d<=4096->
  q0L 1 M sk (ks.map fun k=>[.str k]) (some kb)->q0L 4 M sv vs (some vb)->kb≠lb->kb≠bb->vb≠lb->vb≠bb->(∀b,rb=some b->b≠kb/\b≠vb)->
  M.get lb=some (.loop {q0t (T.EH fun _=>none) 16 0 (([t0,uu,t2,(.ptr (some ⟨bb,0⟩)),uu,t5,uu,t7,uu,t9,uu,uu,uu,uu,uu,uu,uu,uu,uu,t19,uu,t21,uu,uu,uu,uu,uu,uu,uu,uu,uu,uu,uu,uu,t34,uu,uu,uu,uu,uu,uu,uu,uu,uu,uu,uu,uu,t47]++List.replicate 7 uu)) with state:=.ready,pending:=none})->M.get bb=some (.cells cs false)->cs.length=4->cs[0]? = some s->q0L 4 M s l rb->(∀b,rb=some b->b≠lb/\b≠bb)->
  ∃s' M' rb',D18.gor 397312 [sv,.yld lb,sk,.int .i64 (ks.length:Int),.int .i64 (i:Int)] M=some (uu,M')/\M'.get lb=some (.loop {q0t (T.EH fun _=>none) 16 0 (([t0,uu,t2,(.ptr (some ⟨bb,0⟩)),uu,t5,uu,t7,uu,t9,uu,uu,uu,uu,uu,uu,uu,uu,uu,t19,uu,t21,uu,uu,uu,uu,uu,uu,uu,uu,uu,uu,uu,uu,t34,uu,uu,uu,uu,uu,uu,uu,uu,uu,uu,uu,uu,t47]++List.replicate 7 uu)) with state:=.ready,pending:=none})/\
   M'.get bb=some (.cells (cs.set 0 s') false)/\q0L 4 M' s' (l++vs.drop i) rb'/\Fr M M' (lb::bb::rb.toList)/\(∀b,rb'=some b->rb=some b\/M.next<=b):=by
 intro d;induction d with
 |zero=>
  intro i M s l rb cs hi _ _ _ _ _ _ _ _ hL hB hc hs hr _;have:i=ks.length:=by omega
  subst this;refine⟨s,M,rb,?_,hL,?_,?_,Fr.refl' _ _,fun b hb=>.inl hb⟩
  ·simp only[q80 (H:=H18),T.j3S,p2,q0b,wp,df (show ¬((ks.length:Nat):Int)<(ks.length:Int) by omega)]
  ·rw[show cs.set 0 s=cs from q11 hs];exact hB
  ·rw[<-hks,List.drop_length,List.append_nil];exact hr
 |succ d ih=>
  intro i M s l rb cs hi hd hK hV k1 k2 v1 v2 hrk hL hB hc hs hr hrb;have hlt:i<ks.length:=by omega
  have hlv:i<vs.length:=by omega
  obtain⟨kb',e1,e2,e3⟩:=hK.key hlt;obtain⟨vb',w1,w2,w3⟩:=hV.val hlv;have hv:=hV.1 _ (List.getElem_mem hlv);obtain⟨s1,M1,rb1,g1,g2,g3,g4,g5,g6⟩:=a7q t0 t2 t5 t7 t9 t19 t21 t34 t47 (.str ks[i]) hv.1 hv.2 hL hB hc hs hr hne hrb (q04 (by omega) (by decide));have lK:=hK.lt;have lV:=hV.lt;obtain⟨s2,M2,rb2,j1,j2,j3,j4,j5,j6⟩:=ih (i+1) M1 s1 (l++[vs[i]]) (some rb1) (cs.set 0 s1) (by omega) (by simp;omega)
   (hK.frame g5 (fun b hb=>by cases hb;simp;exact⟨k1,k2,fun h=>(hrk _ h).1 rfl⟩)) (hV.frame g5 (fun b hb=>by cases hb;simp;exact⟨v1,v2,fun h=>(hrk _ h).2 rfl⟩)) k1 k2 v1 v2 (fun b hb=>by cases hb;omega) g2 g3 (by simpa using hc) (by rw[List.getElem?_set_self (by omega)]) g4
   (fun b hb=>by cases hb;have:=Mem.q0v hL;have:=Mem.q0v hB;omega)
  rw[List.set_set]at j3;rw[List.append_assoc,List.singleton_append,<-List.drop_eq_getElem_cons hlv]at j4;refine⟨s2,M2,rb2,?_,j2,j3,j4,g5.step j5 (fun c hc=>?_),fun b hb=>?_⟩
  ·subst e1 w1;have w2':ixA 4 ks.length ⟨vb',0⟩ (i:Int)=some (.ptr (some ⟨vb',i*4⟩)):=by rw[<-hks];exact w2
   simp only[q80 (H:=H18),T.j3S,p2,q0b,wp,dt (show (i:Int)<(ks.length:Int) by omega)];simp only[j3T (H:=H18),T.a5s,p2,q1,p1,q0b,unA,wp,true_or,if_true,e2,e3,w2,w3,q3P,g1,xbt];simp only[j3U (H:=H18),T.a5t,p2,wp,show (i:Int)+1=((i+1:Nat):Int) by omega,wrap_i64 (n:=((i+1:Nat):Int)) (by omega) (by omega)];exact j1
  ·simp only[xmk0,Option.mem_toList,xoi]at hc⊢;rcases hc with rfl|rfl|rfl
   ·exact .inl (.inl rfl)
   ·exact .inl (.inr (.inl rfl))
   ·exact .inr g6
  ·rcases j6 b hb with h|h
   ·cases h;exact .inr g6
   ·exact .inr (xnt0 g5.next h)
theorem a8D {t:Nat} {ks:List (List UInt8)} {vs:List (List AV)} {most:Int} {F:List Nat} (hT:TabAt (.str) 4 M t ks vs most F) (hn:ks.length<=1000) :
  ∃b ex m',run E18 (.fn 98) [.ptr (some ⟨t,0⟩)] M=some (.sl (some ⟨b,0⟩) 1 ks.length ks.length ex,m')/\m'.get b=some (.cells (ks.map fun k=>[.str k]).flatten false)/\Fr M m' []/\M.next<=b/\(0<ks.length->ex=false):=by
 obtain⟨⟨sk,sv,kb,vb,h1,h2,h3,h4,h5,h6,rfl⟩,h7⟩:=hT;have f1:Fr M (M.lay (.cells [] false)) []:=(Fr.refl M).lay _;have a3:∀i:Nat,ld1 (M.lay (.cells [] false)) (.ptr (some ⟨t,i⟩))=[sk,sv,.int .i64 most][i]?:=fun i=>q0f (f1.get h1 (by simp))
 obtain⟨b,ex,m',g1,g2,g3,g4,g5⟩:=q2a (w:=16) h2 (q04 (by simp;omega) (by decide));simp only[xlm]at g1 g5;refine⟨b,ex,m',?_,g2,g3,g4,g5⟩;simp only[a2u (H:=H18) rfl,T.f98,sB,p1,q1,apE,nnA,q0d,a3,g1]
theorem a9a {t:Nat} {ks:List (List UInt8)} {vs:List (List AV)} {most:Int} {F:List Nat} (hT:TabAt (.str) 4 M t ks vs most F) (hn:ks.length<=1000) :
  ∃b ex m',run E18 (.fn 99) [.ptr (some ⟨t,0⟩)] M=some (.sl (some ⟨b,0⟩) 4 vs.length vs.length ex,m')/\m'.get b=some (.cells vs.flatten false)/\Fr M m' []/\M.next<=b/\(0<vs.length->ex=false):=by
 obtain⟨⟨sk,sv,kb,vb,h1,h2,h3,h4,h5,h6,rfl⟩,h7⟩:=hT;have f1:Fr M (M.lay (.cells [] false)) []:=(Fr.refl M).lay _;have a3:∀i:Nat,ld1 (M.lay (.cells [] false)) (.ptr (some ⟨t,i⟩))=[sk,sv,.int .i64 most][i]?:=fun i=>q0f (f1.get h1 (by simp))
 obtain⟨b,ex,m',g1,g2,g3,g4,g5⟩:=q2a (w:=40) h3 (q04 (by omega) (by decide));refine⟨b,ex,m',?_,g2,g3,g4,g5⟩;simp only[a2v (H:=H18) rfl,T.f99,sB,p1,q1,apE,nnA,q0d,a3,g1]
theorem a99 {t fb:Nat} {ks:List (List UInt8)} {vs:List (List AV)} {most:Int} {F:List Nat} (hT:TabAt (.str) 4 M t ks vs most F) (hn:ks.length<=1000)
  (hfb:M.get fb=some (.cells [.ptr (some ⟨t,0⟩)] false)) (hB:M.get bb=some (.cells cs false)) (hc:cs.length=4) (hs:cs[0]? = some s) (hr:q0L 4 M s [] none) (go:Option Jmp->Mem->R) :
  ∃s' M' rb',q1A (run E18) (.fn (q1l (T.EH fun _=>none) 16)) (.fn (.func 96) [] [.ptr (some ⟨fb,0⟩)]) (q0t (T.EH fun _=>none) 16 0 (([t0,uu,t2,(.ptr (some ⟨bb,0⟩)),uu,t5,uu,t7,uu,t9,uu,uu,uu,uu,uu,uu,uu,uu,uu,t19,uu,t21,uu,uu,uu,uu,uu,uu,uu,uu,uu,uu,uu,uu,t34,uu,uu,uu,uu,uu,uu,uu,uu,uu,uu,uu,uu,t47]++List.replicate 7 uu))) M go=go none M'/\
   M'.get bb=some (.cells (cs.set 0 s') false)/\q0L 4 M' s' vs rb'/\Fr M M' [bb]/\(∀b,rb'=some b->M.next<=b):=by
 have lB:=Mem.q0v hB;have lT:=hT.lt;obtain⟨M1,hM1⟩:∃M1,M1=M.lay (.loop (q0t (T.EH fun _=>none) 16 0 (([t0,uu,t2,(.ptr (some ⟨bb,0⟩)),uu,t5,uu,t7,uu,t9,uu,uu,uu,uu,uu,uu,uu,uu,uu,t19,uu,t21,uu,uu,uu,uu,uu,uu,uu,uu,uu,uu,uu,uu,t34,uu,uu,uu,uu,uu,uu,uu,uu,uu,uu,uu,uu,t47]++List.replicate 7 uu)))):=⟨_,rfl⟩
 have f1:Fr M M1 []:=by rw[hM1];exact(Fr.refl M).lay _
 have n1:M1.next=M.next+1:=by rw[hM1];rfl
 have L1:M1.get M.next=some (.loop {q0t (T.EH fun _=>none) 16 0 (([t0,uu,t2,(.ptr (some ⟨bb,0⟩)),uu,t5,uu,t7,uu,t9,uu,uu,uu,uu,uu,uu,uu,uu,uu,t19,uu,t21,uu,uu,uu,uu,uu,uu,uu,uu,uu,uu,uu,uu,t34,uu,uu,uu,uu,uu,uu,uu,uu,uu,uu,uu,uu,t47]++List.replicate 7 uu)) with state:=.ready,pending:=none}):=by rw[<-q36,hM1];exact q0e _ _
 obtain⟨kb,ek,M2,k1,k2,k3,k4,k5⟩:=a8D (hT.frame f1 (by simp)) hn;obtain⟨vb,ev,M3,v1,v2,v3,v4,v5⟩:=a9a ((hT.frame f1 (by simp)).frame k3 (by simp)) hn;have d1:ld1 M1 (.ptr (some ⟨fb,0⟩))=some (.ptr (some ⟨t,0⟩)):=by rw[q0f (f1.get hfb (by simp))];rfl
 have d2:ld1 M2 (.ptr (some ⟨fb,0⟩))=some (.ptr (some ⟨t,0⟩)):=by rw[q0f (k3.get (f1.get hfb (by simp)) (by simp))];rfl
 have f3:Fr M1 M3 []:=k3.step0 v3;have L3:=f3.get L1 (by simp);have B3:=f3.get (f1.get hB (by simp)) (by simp);have r3:=(hr.frame f1 (by simp)).frame f3 (by simp);have n2:=k3.next
 have fin:∃s' M' rb',D18.gor 397312 [.sl (some ⟨vb,0⟩) 4 vs.length vs.length ev,.yld M.next,.sl (some ⟨kb,0⟩) 1 ks.length ks.length ek,.int .i64 (ks.length:Int),.int .i64 ((0:Nat):Int)] M3=some (uu,M')/\M'.get M.next=some (.loop {q0t (T.EH fun _=>none) 16 0 (([t0,uu,t2,(.ptr (some ⟨bb,0⟩)),uu,t5,uu,t7,uu,t9,uu,uu,uu,uu,uu,uu,uu,uu,uu,t19,uu,t21,uu,uu,uu,uu,uu,uu,uu,uu,uu,uu,uu,uu,t34,uu,uu,uu,uu,uu,uu,uu,uu,uu,uu,uu,uu,t47]++List.replicate 7 uu)) with state:=.ready,pending:=none})/\
   M'.get bb=some (.cells (cs.set 0 s') false)/\q0L 4 M' s' vs rb'/\Fr M3 M' [M.next,bb]/\(∀b,rb'=some b->M3.next<=b):=by
  have hvl:=hT.len;by_cases h0:ks.length=0
  ·have e:vs=[]:=List.length_eq_zero_iff.1 (by omega);subst e;refine⟨s,M3,none,?_,L3,?_,r3,Fr.refl' _ _,nofun⟩
   ·simp only[q80 (H:=H18),T.j3S,p2,q0b,wp,df (show ¬((0:Nat):Int)<(ks.length:Int) by omega)]
   ·rw[show cs.set 0 s=cs from q11 hs];exact B3
  ·have hk:=k5 (by omega);have hv:=v5 (by omega);subst hk hv;obtain⟨⟨sk,sv,kb',vb',h1,h2,h3,h4,h5,h6,h7⟩,h8⟩:=hT;have tK:q0L 1 M3 (.sl (some ⟨kb,0⟩) 1 ks.length ks.length false) (ks.map fun k=>[.str k]) (some kb):=⟨h2.1,.inr ⟨kb,rfl,by simp,v3.get k2 (by simp)⟩⟩
   have tV:q0L 4 M3 (.sl (some ⟨vb,0⟩) 4 vs.length vs.length false) vs (some vb):=⟨h3.1,.inr ⟨vb,rfl,rfl,v2⟩⟩;obtain⟨s',M',rb',g1,g2,g3,g4,g5,g6⟩:=z5R t0 t2 t5 t7 t9 t19 t21 t34 t47 h8 hn (show M.next≠bb by omega) ks.length 0 M3 s [] none cs (by omega) (by simp;omega) tK tV (by omega) (by omega) (by omega) (by omega) (by simp) L3 B3 hc hs r3 (by simp)
   exact⟨s',M',rb',g1,g2,g3,by simpa using g4,by simpa using g5,fun b hb=>by rcases g6 b hb with h|h;cases h;exact h⟩
 obtain⟨s',M4,rb',g1,g2,g3,g4,g5,g6⟩:=fin;refine⟨s',M4.put M.next none,rb',?_,?_,?_,?_,?_⟩
 ·have hrun:run E18 (.fn 96) [.yld M.next,.ptr (some ⟨fb,0⟩)] M1=some (uu,M4):=by
   simp only[a2s (H:=H18) rfl,T.f96,q1,wp,d1,k1,d2,v1,if_true];simp only[a2t (H:=H18) rfl,T.f97,p1,wp];rw[show (0:Int)=((0:Nat):Int) from rfl,g1];rfl
  unfold q1A;simp only[around,if_true,List.nil_append,List.singleton_append];rw[<-hM1,hrun];show q1n M.next M4 go=_
  unfold q1n;simp only[g2];rfl
 ·rw[q1X (by omega)];exact g3
 ·exact g4.frame (Fr.put _ _ _) (fun b hb=>by have:=g6 b hb;have:=f3.next;simp;omega)
 ·refine Fr.put' ?_ (.inr (xnr _));exact((f1.any _).step0 f3).step g5 (fun c hc=>by
   simp only[xmk0,List.not_mem_nil,or_false]at hc;rcases hc with rfl|rfl
   ·exact .inr (xnr _)
   ·exact .inl (by simp))
 ·intro b hb;have:=g6 b hb;have:=f3.next;have:=f1.next;omega
end
end
section
set_option maxRecDepth 4000
open Go Go.Abs
section
variable {M:Mem} {lb bb:Nat} {cs:List AV} {s:AV} {l:List (List AV)} {rb:Option Nat} (t0 t2 t7 t9 t32 t34 t47:AV)
theorem a7r (k:AV) {v:List AV} (hv:v.length=9) (ho:v.all AV.one=true)
  (hL:M.get lb=some (.loop {q0t (T.EH fun _=>none) 16 1 (([t0,uu,t2,(.ptr (some ⟨bb,0⟩)),uu,uu,uu,t7,uu,t9,uu,uu,uu,uu,uu,uu,uu,uu,uu,uu,uu,uu,uu,uu,uu,uu,uu,uu,uu,uu,uu,uu,t32,uu,t34,uu,uu,uu,uu,uu,uu,uu,uu,uu,uu,uu,uu,t47]++List.replicate 7 uu)) with state:=.ready,pending:=none})) (hB:M.get bb=some (.cells cs false)) (hc:cs.length=4) (hs:cs[1]? = some s)
  (hr:q0L 9 M s l rb) (hne:lb≠bb) (hrb:∀b,rb=some b->b≠lb/\b≠bb) (hlen:(l.length+1)*88<=q0A) :
  ∃s' M' rb',run E18 (.yl lb) [k,.agg v] M=some (.bool true,M')/\M'.get lb=some (.loop {q0t (T.EH fun _=>none) 16 1 (([t0,uu,t2,(.ptr (some ⟨bb,0⟩)),uu,uu,uu,t7,uu,t9,uu,uu,uu,uu,uu,uu,uu,uu,uu,uu,uu,uu,uu,uu,uu,uu,uu,uu,uu,uu,uu,uu,t32,uu,t34,uu,uu,uu,uu,uu,uu,uu,uu,uu,uu,uu,uu,t47]++List.replicate 7 uu)) with state:=.ready,pending:=none})/\
   M'.get bb=some (.cells (cs.set 1 s') false)/\q0L 9 M' s' (l++[v]) (some rb')/\Fr M M' (lb::bb::rb.toList)/\M.next<=rb':=by
 have lL:=Mem.q0v hL;have lB:=Mem.q0v hB;obtain⟨M1,hM1⟩:∃M1,M1=M.lay (.cells v false):=⟨_,rfl⟩;have n1:M1.next=M.next+1:=by rw[hM1];rfl
 have s0:stV (M.lay (.cells [.str [],.str [],.int .i64 0,.int .u64 0,.int .i64 0,.int .i64 0,.int .u64 0,.int .i64 0,.int .u64 0] false)) (.ptr (some ⟨M.next,0⟩)) (.agg v) 9=some M1:=by rw[q07 (n:=9) (q0e M _) rfl hv ho,q03,hM1]
 have f1:Fr M M1 []:=by rw[hM1];exact(Fr.refl M).lay _
 have L1:=f1.get hL (by simp);have v1:M1.get M.next=some (.cells v false):=by rw[hM1];exact q0e _ _
 obtain⟨M2,hM2⟩:∃M2,M2=M1.put lb (some (.loop {q0t (T.EH fun _=>none) 16 1 (([t0,uu,t2,(.ptr (some ⟨bb,0⟩)),uu,uu,uu,t7,uu,t9,uu,uu,uu,uu,uu,uu,uu,uu,uu,uu,uu,uu,uu,uu,uu,uu,uu,uu,uu,uu,uu,uu,t32,uu,t34,uu,uu,uu,uu,uu,uu,uu,uu,uu,uu,uu,uu,t47]++List.replicate 7 uu)) with state:=.busy,pending:=none})):=⟨_,rfl⟩
 have n2:M2.next=M.next+1:=by rw[hM2];exact n1
 have b2:q3b (.rd lb) M1=some M2:=by
  unfold q3b;simp only[L1,if_true];rw[hM2]
 have f12:Fr M1 M2 [lb]:=by rw[hM2];exact Fr.put _ _ _
 have v2:M2.get M.next=some (.cells v false):=f12.get v1 (by simp;omega)
 have B2:M2.get bb=some (.cells cs false):=f12.get (f1.get hB (by simp)) (by simp;exact fun h=>hne h.symm)
 have L2:M2.get lb=some (.loop {q0t (T.EH fun _=>none) 16 1 (([t0,uu,t2,(.ptr (some ⟨bb,0⟩)),uu,uu,uu,t7,uu,t9,uu,uu,uu,uu,uu,uu,uu,uu,uu,uu,uu,uu,uu,uu,uu,uu,uu,uu,uu,uu,uu,uu,t32,uu,t34,uu,uu,uu,uu,uu,uu,uu,uu,uu,uu,uu,uu,t47]++List.replicate 7 uu)) with state:=.busy,pending:=none}):=by rw[hM2];exact q0w L1
 have r2:q0L 9 M2 s l rb:=(hr.frame f1 (by simp)).frame f12 (fun b hb=>by simp only[xms];exact(hrb b hb).1)
 obtain⟨M3,hM3⟩:∃M3,M3=M2.lay (.cells v false):=⟨_,rfl⟩;have n3:M3.next=M.next+1+1:=by rw[hM3,Mem.q0q,n2]
 have f23:Fr M2 M3 []:=by rw[hM3];exact(Fr.refl M2).lay _
 have x3:M3.get (M.next+1)=some (.cells v false):=by rw[hM3,<-n2];exact q0e _ _
 have rlt:∀b,rb=some b->b<M.next:=fun b hb=>by subst hb;exact hr.lt
 obtain⟨s',M4,a1,a2,a3,a4⟩:=q2y (w:=88) (by decide) (r2.frame f23 (by simp)) x3 hv ho hlen;rw[n3]at a2 a3;have L4:M4.get lb=some (.loop {q0t (T.EH fun _=>none) 16 1 (([t0,uu,t2,(.ptr (some ⟨bb,0⟩)),uu,uu,uu,t7,uu,t9,uu,uu,uu,uu,uu,uu,uu,uu,uu,uu,uu,uu,uu,uu,uu,uu,uu,uu,uu,uu,uu,uu,t32,uu,t34,uu,uu,uu,uu,uu,uu,uu,uu,uu,uu,uu,uu,t47]++List.replicate 7 uu)) with state:=.busy,pending:=none}):=a4.get (f23.get L2 (by simp)) (fun hm=>by
  rw[Option.mem_toList]at hm;exact(hrb _ hm).1 rfl)
 have B4:M4.get bb=some (.cells cs false):=a4.get (f23.get B2 (by simp)) (fun hm=>by rw[Option.mem_toList]at hm;exact(hrb _ hm).2 rfl)
 have s1one:s'.one=true:=a2.one;have st4:=q1B (v:=s') (vs:=[s']) (o:=1) (n:=1) B4 (q3c s1one) rfl (by omega);have hset:cs.take 1++[s']++cs.drop (1+1)=cs.set 1 s':=by
  rw[List.set_eq_take_append_cons_drop,if_pos (by omega)];simp
 rw[hset]at st4;obtain⟨M5,hM5⟩:∃M5,M5=M4.put bb (some (.cells (cs.set 1 s') false)):=⟨_,rfl⟩;rw[<-hM5]at st4;have L5:M5.get lb=some (.loop {q0t (T.EH fun _=>none) 16 1 (([t0,uu,t2,(.ptr (some ⟨bb,0⟩)),uu,uu,uu,t7,uu,t9,uu,uu,uu,uu,uu,uu,uu,uu,uu,uu,uu,uu,uu,uu,uu,uu,uu,uu,uu,uu,uu,uu,t32,uu,t34,uu,uu,uu,uu,uu,uu,uu,uu,uu,uu,uu,uu,t47]++List.replicate 7 uu)) with state:=.busy,pending:=none}):=by rw[hM5,q1X hne];exact L4
 obtain⟨M6,hM6⟩:∃M6,M6=M5.put lb (some (.loop {q0t (T.EH fun _=>none) 16 1 (([t0,uu,t2,(.ptr (some ⟨bb,0⟩)),uu,uu,uu,t7,uu,t9,uu,uu,uu,uu,uu,uu,uu,uu,uu,uu,uu,uu,uu,uu,uu,uu,uu,uu,uu,uu,uu,uu,t32,uu,t34,uu,uu,uu,uu,uu,uu,uu,uu,uu,uu,uu,uu,t47]++List.replicate 7 uu)) with state:=.ready,pending:=none})):=⟨_,rfl⟩
 have fi:(Ry Tryz.prog (T.EH H18) lb).gor 0 [] M5=some (.bool true,M6):=by
  show fin Tryz.prog (.rd lb) none [] M5=_;unfold fin;simp only[L5,Option.isNone_none,if_true];rw[hM6]
 have f6:Fr M M6 (lb::bb::rb.toList):=by
  have g1:Fr M M4 (lb::bb::rb.toList):=(((f1.any _).step f12 (fun c hc=>.inl (by simp at hc;simp[hc]))).step0 f23).step a4 (fun c hc=>.inl (by simp[hc]))
  rw[hM6,hM5];exact(g1.put' (.inl (by simp))).put' (.inl (by simp))
 refine⟨s',M6,M.next+1+1,?_,by rw[hM6];exact q0w L5,?_,?_,f6,by omega⟩
 ·have lB2:ld1 M2 (.ptr (some ⟨bb,1⟩))=some s:=by rw[q0f B2];exact hs
  have lv2:ldN M2 (.ptr (some ⟨M.next,0⟩)) 9=some (.agg v):=q0C v2 hv
  refine j42 (H:=H18) k (.agg v) t0 t2 (.ptr (some ⟨bb,0⟩)) t7 t9 t32 t34 t47 hL ?_;simp only[T.a0X,pB,p1,q1,apE,q0d,s0,b2,lB2,lv2,q4x (n:=9) (zs:=[.str [],.str [],.int .i64 0,.int .u64 0,.int .i64 0,.int .i64 0,.int .u64 0,.int .i64 0,.int .u64 0]) ho hv (by rfl),n2,<-hM3,a1,st4,fi]
 ·rw[hM6,q1X (fun h=>hne h.symm),hM5];exact q0w B4
 ·refine(a2.frame (m':=M5) (S:=[bb]) (by rw[hM5];exact Fr.put _ _ _) (fun b hb=>by cases hb;simp;omega)).frame (m':=M6) (S:=[lb]) (by rw[hM6];exact Fr.put _ _ _) (fun b hb=>by cases hb;simp;omega)
theorem z5S {sk sv:AV} {kb vb:Nat} {ks:List (List UInt8)} {vs:List (List AV)} (hks:vs.length=ks.length) (hn:ks.length<=1000) (hne:lb≠bb):∀(d i:Nat) (M:Mem) (s:AV) (l:List (List AV)) (rb:Option Nat) (cs:List AV),i+d=ks.length->l.length+d<=4096->
  q0L 1 M sk (ks.map fun k=>[.str k]) (some kb)->q0L 9 M sv vs (some vb)->kb≠lb->kb≠bb->vb≠lb->vb≠bb->(∀b,rb=some b->b≠kb/\b≠vb)->
  M.get lb=some (.loop {q0t (T.EH fun _=>none) 16 1 (([t0,uu,t2,(.ptr (some ⟨bb,0⟩)),uu,uu,uu,t7,uu,t9,uu,uu,uu,uu,uu,uu,uu,uu,uu,uu,uu,uu,uu,uu,uu,uu,uu,uu,uu,uu,uu,uu,t32,uu,t34,uu,uu,uu,uu,uu,uu,uu,uu,uu,uu,uu,uu,t47]++List.replicate 7 uu)) with state:=.ready,pending:=none})->M.get bb=some (.cells cs false)->cs.length=4->cs[1]? = some s->q0L 9 M s l rb->(∀b,rb=some b->b≠lb/\b≠bb)->
  ∃s' M' rb',D18.gor 413696 [sv,.yld lb,sk,.int .i64 (ks.length:Int),.int .i64 (i:Int)] M=some (uu,M')/\M'.get lb=some (.loop {q0t (T.EH fun _=>none) 16 1 (([t0,uu,t2,(.ptr (some ⟨bb,0⟩)),uu,uu,uu,t7,uu,t9,uu,uu,uu,uu,uu,uu,uu,uu,uu,uu,uu,uu,uu,uu,uu,uu,uu,uu,uu,uu,uu,uu,t32,uu,t34,uu,uu,uu,uu,uu,uu,uu,uu,uu,uu,uu,uu,t47]++List.replicate 7 uu)) with state:=.ready,pending:=none})/\
   M'.get bb=some (.cells (cs.set 1 s') false)/\q0L 9 M' s' (l++vs.drop i) rb'/\Fr M M' (lb::bb::rb.toList)/\(∀b,rb'=some b->rb=some b\/M.next<=b):=by
 intro d;induction d with
 |zero=>
  intro i M s l rb cs hi _ _ _ _ _ _ _ _ hL hB hc hs hr _;have:i=ks.length:=by omega
  subst this;refine⟨s,M,rb,?_,hL,?_,?_,Fr.refl' _ _,fun b hb=>.inl hb⟩
  ·simp only[q6V (H:=H18),T.z2I,p2,q0b,wp,df (show ¬((ks.length:Nat):Int)<(ks.length:Int) by omega)]
  ·rw[show cs.set 1 s=cs from q11 hs];exact hB
  ·rw[<-hks,List.drop_length,List.append_nil];exact hr
 |succ d ih=>
  intro i M s l rb cs hi hd hK hV k1 k2 v1 v2 hrk hL hB hc hs hr hrb;have hlt:i<ks.length:=by omega
  have hlv:i<vs.length:=by omega
  obtain⟨kb',e1,e2,e3⟩:=hK.key hlt;obtain⟨vb',w1,w2,w3⟩:=hV.val hlv;have hv:=hV.1 _ (List.getElem_mem hlv);obtain⟨s1,M1,rb1,g1,g2,g3,g4,g5,g6⟩:=a7r t0 t2 t7 t9 t32 t34 t47 (.str ks[i]) hv.1 hv.2 hL hB hc hs hr hne hrb (q04 (by omega) (by decide));have lK:=hK.lt;have lV:=hV.lt;obtain⟨s2,M2,rb2,j1,j2,j3,j4,j5,j6⟩:=ih (i+1) M1 s1 (l++[vs[i]]) (some rb1) (cs.set 1 s1) (by omega) (by simp;omega)
   (hK.frame g5 (fun b hb=>by cases hb;simp;exact⟨k1,k2,fun h=>(hrk _ h).1 rfl⟩)) (hV.frame g5 (fun b hb=>by cases hb;simp;exact⟨v1,v2,fun h=>(hrk _ h).2 rfl⟩)) k1 k2 v1 v2 (fun b hb=>by cases hb;omega) g2 g3 (by simpa using hc) (by rw[List.getElem?_set_self (by omega)]) g4
   (fun b hb=>by cases hb;have:=Mem.q0v hL;have:=Mem.q0v hB;omega)
  rw[List.set_set]at j3;rw[List.append_assoc,List.singleton_append,<-List.drop_eq_getElem_cons hlv]at j4;refine⟨s2,M2,rb2,?_,j2,j3,j4,g5.step j5 (fun c hc=>?_),fun b hb=>?_⟩
  ·subst e1 w1;have w2':ixA 9 ks.length ⟨vb',0⟩ (i:Int)=some (.ptr (some ⟨vb',i*9⟩)):=by rw[<-hks];exact w2
   simp only[q6V (H:=H18),T.z2I,p2,q0b,wp,dt (show (i:Int)<(ks.length:Int) by omega)];simp only[z7l (H:=H18),T.j5v,p2,q1,p1,q0b,unA,wp,true_or,if_true,e2,e3,w2,w3,q3P,g1,xbt];simp only[z7m (H:=H18),T.j5w,p2,wp,show (i:Int)+1=((i+1:Nat):Int) by omega,wrap_i64 (n:=((i+1:Nat):Int)) (by omega) (by omega)];exact j1
  ·simp only[xmk0,Option.mem_toList,xoi]at hc⊢;rcases hc with rfl|rfl|rfl
   ·exact .inl (.inl rfl)
   ·exact .inl (.inr (.inl rfl))
   ·exact .inr g6
  ·rcases j6 b hb with h|h
   ·cases h;exact .inr g6
   ·exact .inr (xnt0 g5.next h)
theorem a8E {t:Nat} {ks:List (List UInt8)} {vs:List (List AV)} {most:Int} {F:List Nat} (hT:TabAt (.str) 9 M t ks vs most F) (hn:ks.length<=1000) :
  ∃b ex m',run E18 (.fn 102) [.ptr (some ⟨t,0⟩)] M=some (.sl (some ⟨b,0⟩) 1 ks.length ks.length ex,m')/\m'.get b=some (.cells (ks.map fun k=>[.str k]).flatten false)/\Fr M m' []/\M.next<=b/\(0<ks.length->ex=false):=by
 obtain⟨⟨sk,sv,kb,vb,h1,h2,h3,h4,h5,h6,rfl⟩,h7⟩:=hT;have f1:Fr M (M.lay (.cells [] false)) []:=(Fr.refl M).lay _;have a3:∀i:Nat,ld1 (M.lay (.cells [] false)) (.ptr (some ⟨t,i⟩))=[sk,sv,.int .i64 most][i]?:=fun i=>q0f (f1.get h1 (by simp))
 obtain⟨b,ex,m',g1,g2,g3,g4,g5⟩:=q2a (w:=16) h2 (q04 (by simp;omega) (by decide));simp only[xlm]at g1 g5;refine⟨b,ex,m',?_,g2,g3,g4,g5⟩;simp only[j7j (H:=H18) rfl,T.f102,sB,p1,q1,apE,nnA,q0d,a3,g1]
theorem a9b {t:Nat} {ks:List (List UInt8)} {vs:List (List AV)} {most:Int} {F:List Nat} (hT:TabAt (.str) 9 M t ks vs most F) (hn:ks.length<=1000) :
  ∃b ex m',run E18 (.fn 103) [.ptr (some ⟨t,0⟩)] M=some (.sl (some ⟨b,0⟩) 9 vs.length vs.length ex,m')/\m'.get b=some (.cells vs.flatten false)/\Fr M m' []/\M.next<=b/\(0<vs.length->ex=false):=by
 obtain⟨⟨sk,sv,kb,vb,h1,h2,h3,h4,h5,h6,rfl⟩,h7⟩:=hT;have f1:Fr M (M.lay (.cells [] false)) []:=(Fr.refl M).lay _;have a3:∀i:Nat,ld1 (M.lay (.cells [] false)) (.ptr (some ⟨t,i⟩))=[sk,sv,.int .i64 most][i]?:=fun i=>q0f (f1.get h1 (by simp))
 obtain⟨b,ex,m',g1,g2,g3,g4,g5⟩:=q2a (w:=88) h3 (q04 (by omega) (by decide));refine⟨b,ex,m',?_,g2,g3,g4,g5⟩;simp only[j7k (H:=H18) rfl,T.f103,sB,p1,q1,apE,nnA,q0d,a3,g1]
theorem b0a {t fb:Nat} {ks:List (List UInt8)} {vs:List (List AV)} {most:Int} {F:List Nat} (hT:TabAt (.str) 9 M t ks vs most F) (hn:ks.length<=1000)
  (hfb:M.get fb=some (.cells [.ptr (some ⟨t,0⟩)] false)) (hB:M.get bb=some (.cells cs false)) (hc:cs.length=4) (hs:cs[1]? = some s) (hr:q0L 9 M s [] none) (go:Option Jmp->Mem->R) :
  ∃s' M' rb',q1A (run E18) (.fn (q1l (T.EH fun _=>none) 16)) (.fn (.func 100) [] [.ptr (some ⟨fb,0⟩)]) (q0t (T.EH fun _=>none) 16 1 (([t0,uu,t2,(.ptr (some ⟨bb,0⟩)),uu,uu,uu,t7,uu,t9,uu,uu,uu,uu,uu,uu,uu,uu,uu,uu,uu,uu,uu,uu,uu,uu,uu,uu,uu,uu,uu,uu,t32,uu,t34,uu,uu,uu,uu,uu,uu,uu,uu,uu,uu,uu,uu,t47]++List.replicate 7 uu))) M go=go none M'/\
   M'.get bb=some (.cells (cs.set 1 s') false)/\q0L 9 M' s' vs rb'/\Fr M M' [bb]/\(∀b,rb'=some b->M.next<=b):=by
 have lB:=Mem.q0v hB;have lT:=hT.lt;obtain⟨M1,hM1⟩:∃M1,M1=M.lay (.loop (q0t (T.EH fun _=>none) 16 1 (([t0,uu,t2,(.ptr (some ⟨bb,0⟩)),uu,uu,uu,t7,uu,t9,uu,uu,uu,uu,uu,uu,uu,uu,uu,uu,uu,uu,uu,uu,uu,uu,uu,uu,uu,uu,uu,uu,t32,uu,t34,uu,uu,uu,uu,uu,uu,uu,uu,uu,uu,uu,uu,t47]++List.replicate 7 uu)))):=⟨_,rfl⟩
 have f1:Fr M M1 []:=by rw[hM1];exact(Fr.refl M).lay _
 have n1:M1.next=M.next+1:=by rw[hM1];rfl
 have L1:M1.get M.next=some (.loop {q0t (T.EH fun _=>none) 16 1 (([t0,uu,t2,(.ptr (some ⟨bb,0⟩)),uu,uu,uu,t7,uu,t9,uu,uu,uu,uu,uu,uu,uu,uu,uu,uu,uu,uu,uu,uu,uu,uu,uu,uu,uu,uu,uu,uu,t32,uu,t34,uu,uu,uu,uu,uu,uu,uu,uu,uu,uu,uu,uu,t47]++List.replicate 7 uu)) with state:=.ready,pending:=none}):=by rw[<-q36,hM1];exact q0e _ _
 obtain⟨kb,ek,M2,k1,k2,k3,k4,k5⟩:=a8E (hT.frame f1 (by simp)) hn;obtain⟨vb,ev,M3,v1,v2,v3,v4,v5⟩:=a9b ((hT.frame f1 (by simp)).frame k3 (by simp)) hn;have d1:ld1 M1 (.ptr (some ⟨fb,0⟩))=some (.ptr (some ⟨t,0⟩)):=by rw[q0f (f1.get hfb (by simp))];rfl
 have d2:ld1 M2 (.ptr (some ⟨fb,0⟩))=some (.ptr (some ⟨t,0⟩)):=by rw[q0f (k3.get (f1.get hfb (by simp)) (by simp))];rfl
 have f3:Fr M1 M3 []:=k3.step0 v3;have L3:=f3.get L1 (by simp);have B3:=f3.get (f1.get hB (by simp)) (by simp);have r3:=(hr.frame f1 (by simp)).frame f3 (by simp);have n2:=k3.next
 have fin:∃s' M' rb',D18.gor 413696 [.sl (some ⟨vb,0⟩) 9 vs.length vs.length ev,.yld M.next,.sl (some ⟨kb,0⟩) 1 ks.length ks.length ek,.int .i64 (ks.length:Int),.int .i64 ((0:Nat):Int)] M3=some (uu,M')/\M'.get M.next=some (.loop {q0t (T.EH fun _=>none) 16 1 (([t0,uu,t2,(.ptr (some ⟨bb,0⟩)),uu,uu,uu,t7,uu,t9,uu,uu,uu,uu,uu,uu,uu,uu,uu,uu,uu,uu,uu,uu,uu,uu,uu,uu,uu,uu,uu,uu,t32,uu,t34,uu,uu,uu,uu,uu,uu,uu,uu,uu,uu,uu,uu,t47]++List.replicate 7 uu)) with state:=.ready,pending:=none})/\
   M'.get bb=some (.cells (cs.set 1 s') false)/\q0L 9 M' s' vs rb'/\Fr M3 M' [M.next,bb]/\(∀b,rb'=some b->M3.next<=b):=by
  have hvl:=hT.len;by_cases h0:ks.length=0
  ·have e:vs=[]:=List.length_eq_zero_iff.1 (by omega);subst e;refine⟨s,M3,none,?_,L3,?_,r3,Fr.refl' _ _,nofun⟩
   ·simp only[q6V (H:=H18),T.z2I,p2,q0b,wp,df (show ¬((0:Nat):Int)<(ks.length:Int) by omega)]
   ·rw[show cs.set 1 s=cs from q11 hs];exact B3
  ·have hk:=k5 (by omega);have hv:=v5 (by omega);subst hk hv;obtain⟨⟨sk,sv,kb',vb',h1,h2,h3,h4,h5,h6,h7⟩,h8⟩:=hT;have tK:q0L 1 M3 (.sl (some ⟨kb,0⟩) 1 ks.length ks.length false) (ks.map fun k=>[.str k]) (some kb):=⟨h2.1,.inr ⟨kb,rfl,by simp,v3.get k2 (by simp)⟩⟩
   have tV:q0L 9 M3 (.sl (some ⟨vb,0⟩) 9 vs.length vs.length false) vs (some vb):=⟨h3.1,.inr ⟨vb,rfl,rfl,v2⟩⟩;obtain⟨s',M',rb',g1,g2,g3,g4,g5,g6⟩:=z5S t0 t2 t7 t9 t32 t34 t47 h8 hn (show M.next≠bb by omega) ks.length 0 M3 s [] none cs (by omega) (by simp;omega) tK tV (by omega) (by omega) (by omega) (by omega) (by simp) L3 B3 hc hs r3 (by simp)
   exact⟨s',M',rb',g1,g2,g3,by simpa using g4,by simpa using g5,fun b hb=>by rcases g6 b hb with h|h;cases h;exact h⟩
 obtain⟨s',M4,rb',g1,g2,g3,g4,g5,g6⟩:=fin;refine⟨s',M4.put M.next none,rb',?_,?_,?_,?_,?_⟩
 ·have hrun:run E18 (.fn 100) [.yld M.next,.ptr (some ⟨fb,0⟩)] M1=some (uu,M4):=by
   simp only[j7h (H:=H18) rfl,T.f100,q1,wp,d1,k1,d2,v1,if_true];simp only[j7i (H:=H18) rfl,T.f101,p1,wp];rw[show (0:Int)=((0:Nat):Int) from rfl,g1];rfl
  unfold q1A;simp only[around,if_true,List.nil_append,List.singleton_append];rw[<-hM1,hrun];show q1n M.next M4 go=_
  unfold q1n;simp only[g2];rfl
 ·rw[q1X (by omega)];exact g3
 ·exact g4.frame (Fr.put _ _ _) (fun b hb=>by have:=g6 b hb;have:=f3.next;simp;omega)
 ·refine Fr.put' ?_ (.inr (xnr _));exact((f1.any _).step0 f3).step g5 (fun c hc=>by
   simp only[xmk0,List.not_mem_nil,or_false]at hc;rcases hc with rfl|rfl
   ·exact .inr (xnr _)
   ·exact .inl (by simp))
 ·intro b hb;have:=g6 b hb;have:=f3.next;have:=f1.next;omega
end
end
section
set_option maxRecDepth 4000
open Go Go.Abs
section
variable {M:Mem} {lb bb:Nat} {cs:List AV} {s:AV} {l:List (List AV)} {rb:Option Nat} (t2 t9 t45 t47:AV)
theorem a7p (k:AV) {v:List AV} (hv:v.length=4) (ho:v.all AV.one=true)
  (hL:M.get lb=some (.loop {q0t (T.EH fun _=>none) 16 2 (([uu,uu,t2,(.ptr (some ⟨bb,0⟩)),uu,uu,uu,uu,uu,t9,uu,uu,uu,uu,uu,uu,uu,uu,uu,uu,uu,uu,uu,uu,uu,uu,uu,uu,uu,uu,uu,uu,uu,uu,uu,uu,uu,uu,uu,uu,uu,uu,uu,uu,uu,t45,uu,t47]++List.replicate 7 uu)) with state:=.ready,pending:=none})) (hB:M.get bb=some (.cells cs false)) (hc:cs.length=4) (hs:cs[2]? = some s)
  (hr:q0L 4 M s l rb) (hne:lb≠bb) (hrb:∀b,rb=some b->b≠lb/\b≠bb) (hlen:(l.length+1)*40<=q0A) :
  ∃s' M' rb',run E18 (.yl lb) [k,.agg v] M=some (.bool true,M')/\M'.get lb=some (.loop {q0t (T.EH fun _=>none) 16 2 (([uu,uu,t2,(.ptr (some ⟨bb,0⟩)),uu,uu,uu,uu,uu,t9,uu,uu,uu,uu,uu,uu,uu,uu,uu,uu,uu,uu,uu,uu,uu,uu,uu,uu,uu,uu,uu,uu,uu,uu,uu,uu,uu,uu,uu,uu,uu,uu,uu,uu,uu,t45,uu,t47]++List.replicate 7 uu)) with state:=.ready,pending:=none})/\
   M'.get bb=some (.cells (cs.set 2 s') false)/\q0L 4 M' s' (l++[v]) (some rb')/\Fr M M' (lb::bb::rb.toList)/\M.next<=rb':=by
 have lL:=Mem.q0v hL;have lB:=Mem.q0v hB;obtain⟨M1,hM1⟩:∃M1,M1=M.lay (.cells v false):=⟨_,rfl⟩;have n1:M1.next=M.next+1:=by rw[hM1];rfl
 have s0:stV (M.lay (.cells [.int .u64 0,.str [],.int .i64 0,.int .u64 0] false)) (.ptr (some ⟨M.next,0⟩)) (.agg v) 4=some M1:=by rw[q07 (n:=4) (q0e M _) rfl hv ho,q03,hM1]
 have f1:Fr M M1 []:=by rw[hM1];exact(Fr.refl M).lay _
 have L1:=f1.get hL (by simp);have v1:M1.get M.next=some (.cells v false):=by rw[hM1];exact q0e _ _
 obtain⟨M2,hM2⟩:∃M2,M2=M1.put lb (some (.loop {q0t (T.EH fun _=>none) 16 2 (([uu,uu,t2,(.ptr (some ⟨bb,0⟩)),uu,uu,uu,uu,uu,t9,uu,uu,uu,uu,uu,uu,uu,uu,uu,uu,uu,uu,uu,uu,uu,uu,uu,uu,uu,uu,uu,uu,uu,uu,uu,uu,uu,uu,uu,uu,uu,uu,uu,uu,uu,t45,uu,t47]++List.replicate 7 uu)) with state:=.busy,pending:=none})):=⟨_,rfl⟩
 have n2:M2.next=M.next+1:=by rw[hM2];exact n1
 have b2:q3b (.rd lb) M1=some M2:=by
  unfold q3b;simp only[L1,if_true];rw[hM2]
 have f12:Fr M1 M2 [lb]:=by rw[hM2];exact Fr.put _ _ _
 have v2:M2.get M.next=some (.cells v false):=f12.get v1 (by simp;omega)
 have B2:M2.get bb=some (.cells cs false):=f12.get (f1.get hB (by simp)) (by simp;exact fun h=>hne h.symm)
 have L2:M2.get lb=some (.loop {q0t (T.EH fun _=>none) 16 2 (([uu,uu,t2,(.ptr (some ⟨bb,0⟩)),uu,uu,uu,uu,uu,t9,uu,uu,uu,uu,uu,uu,uu,uu,uu,uu,uu,uu,uu,uu,uu,uu,uu,uu,uu,uu,uu,uu,uu,uu,uu,uu,uu,uu,uu,uu,uu,uu,uu,uu,uu,t45,uu,t47]++List.replicate 7 uu)) with state:=.busy,pending:=none}):=by rw[hM2];exact q0w L1
 have r2:q0L 4 M2 s l rb:=(hr.frame f1 (by simp)).frame f12 (fun b hb=>by simp only[xms];exact(hrb b hb).1)
 obtain⟨M3,hM3⟩:∃M3,M3=M2.lay (.cells v false):=⟨_,rfl⟩;have n3:M3.next=M.next+1+1:=by rw[hM3,Mem.q0q,n2]
 have f23:Fr M2 M3 []:=by rw[hM3];exact(Fr.refl M2).lay _
 have x3:M3.get (M.next+1)=some (.cells v false):=by rw[hM3,<-n2];exact q0e _ _
 have rlt:∀b,rb=some b->b<M.next:=fun b hb=>by subst hb;exact hr.lt
 obtain⟨s',M4,a1,a2,a3,a4⟩:=q2y (w:=40) (by decide) (r2.frame f23 (by simp)) x3 hv ho hlen;rw[n3]at a2 a3;have L4:M4.get lb=some (.loop {q0t (T.EH fun _=>none) 16 2 (([uu,uu,t2,(.ptr (some ⟨bb,0⟩)),uu,uu,uu,uu,uu,t9,uu,uu,uu,uu,uu,uu,uu,uu,uu,uu,uu,uu,uu,uu,uu,uu,uu,uu,uu,uu,uu,uu,uu,uu,uu,uu,uu,uu,uu,uu,uu,uu,uu,uu,uu,t45,uu,t47]++List.replicate 7 uu)) with state:=.busy,pending:=none}):=a4.get (f23.get L2 (by simp)) (fun hm=>by
  rw[Option.mem_toList]at hm;exact(hrb _ hm).1 rfl)
 have B4:M4.get bb=some (.cells cs false):=a4.get (f23.get B2 (by simp)) (fun hm=>by rw[Option.mem_toList]at hm;exact(hrb _ hm).2 rfl)
 have s1one:s'.one=true:=a2.one;have st4:=q1B (v:=s') (vs:=[s']) (o:=2) (n:=1) B4 (q3c s1one) rfl (by omega);have hset:cs.take 2++[s']++cs.drop (2+1)=cs.set 2 s':=by
  rw[List.set_eq_take_append_cons_drop,if_pos (by omega)];simp
 rw[hset]at st4;obtain⟨M5,hM5⟩:∃M5,M5=M4.put bb (some (.cells (cs.set 2 s') false)):=⟨_,rfl⟩;rw[<-hM5]at st4;have L5:M5.get lb=some (.loop {q0t (T.EH fun _=>none) 16 2 (([uu,uu,t2,(.ptr (some ⟨bb,0⟩)),uu,uu,uu,uu,uu,t9,uu,uu,uu,uu,uu,uu,uu,uu,uu,uu,uu,uu,uu,uu,uu,uu,uu,uu,uu,uu,uu,uu,uu,uu,uu,uu,uu,uu,uu,uu,uu,uu,uu,uu,uu,t45,uu,t47]++List.replicate 7 uu)) with state:=.busy,pending:=none}):=by rw[hM5,q1X hne];exact L4
 obtain⟨M6,hM6⟩:∃M6,M6=M5.put lb (some (.loop {q0t (T.EH fun _=>none) 16 2 (([uu,uu,t2,(.ptr (some ⟨bb,0⟩)),uu,uu,uu,uu,uu,t9,uu,uu,uu,uu,uu,uu,uu,uu,uu,uu,uu,uu,uu,uu,uu,uu,uu,uu,uu,uu,uu,uu,uu,uu,uu,uu,uu,uu,uu,uu,uu,uu,uu,uu,uu,t45,uu,t47]++List.replicate 7 uu)) with state:=.ready,pending:=none})):=⟨_,rfl⟩
 have fi:(Ry Tryz.prog (T.EH H18) lb).gor 0 [] M5=some (.bool true,M6):=by
  show fin Tryz.prog (.rd lb) none [] M5=_;unfold fin;simp only[L5,Option.isNone_none,if_true];rw[hM6]
 have f6:Fr M M6 (lb::bb::rb.toList):=by
  have g1:Fr M M4 (lb::bb::rb.toList):=(((f1.any _).step f12 (fun c hc=>.inl (by simp at hc;simp[hc]))).step0 f23).step a4 (fun c hc=>.inl (by simp[hc]))
  rw[hM6,hM5];exact(g1.put' (.inl (by simp))).put' (.inl (by simp))
 refine⟨s',M6,M.next+1+1,?_,by rw[hM6];exact q0w L5,?_,?_,f6,by omega⟩
 ·have lB2:ld1 M2 (.ptr (some ⟨bb,2⟩))=some s:=by rw[q0f B2];exact hs
  have lv2:ldN M2 (.ptr (some ⟨M.next,0⟩)) 4=some (.agg v):=q0C v2 hv
  refine j44 (H:=H18) k (.agg v) t2 (.ptr (some ⟨bb,0⟩)) t9 t45 t47 hL ?_;simp only[T.a0Y,pB,p1,q1,apE,q0d,s0,b2,lB2,lv2,q4x (n:=4) (zs:=[.int .u64 0,.str [],.int .i64 0,.int .u64 0]) ho hv (by rfl),n2,<-hM3,a1,st4,fi]
 ·rw[hM6,q1X (fun h=>hne h.symm),hM5];exact q0w B4
 ·refine(a2.frame (m':=M5) (S:=[bb]) (by rw[hM5];exact Fr.put _ _ _) (fun b hb=>by cases hb;simp;omega)).frame (m':=M6) (S:=[lb]) (by rw[hM6];exact Fr.put _ _ _) (fun b hb=>by cases hb;simp;omega)
theorem z5Q {sk sv:AV} {kb vb:Nat} {ks:List Int} {vs:List (List AV)} (hks:vs.length=ks.length) (hn:ks.length<=1000) (hne:lb≠bb):∀(d i:Nat) (M:Mem) (s:AV) (l:List (List AV)) (rb:Option Nat) (cs:List AV),i+d=ks.length->l.length+d<=4096->
  q0L 1 M sk (ks.map fun k=>[.int .u64 k]) (some kb)->q0L 4 M sv vs (some vb)->kb≠lb->kb≠bb->vb≠lb->vb≠bb->(∀b,rb=some b->b≠kb/\b≠vb)->
  M.get lb=some (.loop {q0t (T.EH fun _=>none) 16 2 (([uu,uu,t2,(.ptr (some ⟨bb,0⟩)),uu,uu,uu,uu,uu,t9,uu,uu,uu,uu,uu,uu,uu,uu,uu,uu,uu,uu,uu,uu,uu,uu,uu,uu,uu,uu,uu,uu,uu,uu,uu,uu,uu,uu,uu,uu,uu,uu,uu,uu,uu,t45,uu,t47]++List.replicate 7 uu)) with state:=.ready,pending:=none})->M.get bb=some (.cells cs false)->cs.length=4->cs[2]? = some s->q0L 4 M s l rb->(∀b,rb=some b->b≠lb/\b≠bb)->
  ∃s' M' rb',D18.gor 430080 [sv,.yld lb,sk,.int .i64 (ks.length:Int),.int .i64 (i:Int)] M=some (uu,M')/\M'.get lb=some (.loop {q0t (T.EH fun _=>none) 16 2 (([uu,uu,t2,(.ptr (some ⟨bb,0⟩)),uu,uu,uu,uu,uu,t9,uu,uu,uu,uu,uu,uu,uu,uu,uu,uu,uu,uu,uu,uu,uu,uu,uu,uu,uu,uu,uu,uu,uu,uu,uu,uu,uu,uu,uu,uu,uu,uu,uu,uu,uu,t45,uu,t47]++List.replicate 7 uu)) with state:=.ready,pending:=none})/\
   M'.get bb=some (.cells (cs.set 2 s') false)/\q0L 4 M' s' (l++vs.drop i) rb'/\Fr M M' (lb::bb::rb.toList)/\(∀b,rb'=some b->rb=some b\/M.next<=b):=by
 intro d;induction d with
 |zero=>
  intro i M s l rb cs hi _ _ _ _ _ _ _ _ hL hB hc hs hr _;have:i=ks.length:=by omega
  subst this;refine⟨s,M,rb,?_,hL,?_,?_,Fr.refl' _ _,fun b hb=>.inl hb⟩
  ·simp only[q6W (H:=H18),T.z2J,p2,q0b,wp,df (show ¬((ks.length:Nat):Int)<(ks.length:Int) by omega)]
  ·rw[show cs.set 2 s=cs from q11 hs];exact hB
  ·rw[<-hks,List.drop_length,List.append_nil];exact hr
 |succ d ih=>
  intro i M s l rb cs hi hd hK hV k1 k2 v1 v2 hrk hL hB hc hs hr hrb;have hlt:i<ks.length:=by omega
  have hlv:i<vs.length:=by omega
  obtain⟨kb',e1,e2,e3⟩:=hK.key hlt;obtain⟨vb',w1,w2,w3⟩:=hV.val hlv;have hv:=hV.1 _ (List.getElem_mem hlv);obtain⟨s1,M1,rb1,g1,g2,g3,g4,g5,g6⟩:=a7p t2 t9 t45 t47 (.int .u64 ks[i]) hv.1 hv.2 hL hB hc hs hr hne hrb (q04 (by omega) (by decide));have lK:=hK.lt;have lV:=hV.lt;obtain⟨s2,M2,rb2,j1,j2,j3,j4,j5,j6⟩:=ih (i+1) M1 s1 (l++[vs[i]]) (some rb1) (cs.set 2 s1) (by omega) (by simp;omega)
   (hK.frame g5 (fun b hb=>by cases hb;simp;exact⟨k1,k2,fun h=>(hrk _ h).1 rfl⟩)) (hV.frame g5 (fun b hb=>by cases hb;simp;exact⟨v1,v2,fun h=>(hrk _ h).2 rfl⟩)) k1 k2 v1 v2 (fun b hb=>by cases hb;omega) g2 g3 (by simpa using hc) (by rw[List.getElem?_set_self (by omega)]) g4
   (fun b hb=>by cases hb;have:=Mem.q0v hL;have:=Mem.q0v hB;omega)
  rw[List.set_set]at j3;rw[List.append_assoc,List.singleton_append,<-List.drop_eq_getElem_cons hlv]at j4;refine⟨s2,M2,rb2,?_,j2,j3,j4,g5.step j5 (fun c hc=>?_),fun b hb=>?_⟩
  ·subst e1 w1;have w2':ixA 4 ks.length ⟨vb',0⟩ (i:Int)=some (.ptr (some ⟨vb',i*4⟩)):=by rw[<-hks];exact w2
   simp only[q6W (H:=H18),T.z2J,p2,q0b,wp,dt (show (i:Int)<(ks.length:Int) by omega)];simp only[z7n (H:=H18),T.j5x,p2,q1,p1,q0b,unA,wp,true_or,if_true,e2,e3,w2,w3,q3P,g1,xbt];simp only[z7o (H:=H18),T.j5y,p2,wp,show (i:Int)+1=((i+1:Nat):Int) by omega,wrap_i64 (n:=((i+1:Nat):Int)) (by omega) (by omega)];exact j1
  ·simp only[xmk0,Option.mem_toList,xoi]at hc⊢;rcases hc with rfl|rfl|rfl
   ·exact .inl (.inl rfl)
   ·exact .inl (.inr (.inl rfl))
   ·exact .inr g6
  ·rcases j6 b hb with h|h
   ·cases h;exact .inr g6
   ·exact .inr (xnt0 g5.next h)
theorem a8C {t:Nat} {ks:List Int} {vs:List (List AV)} {most:Int} {F:List Nat} (hT:TabAt (.int .u64) 4 M t ks vs most F) (hn:ks.length<=1000) :
  ∃b ex m',run E18 (.fn 106) [.ptr (some ⟨t,0⟩)] M=some (.sl (some ⟨b,0⟩) 1 ks.length ks.length ex,m')/\m'.get b=some (.cells (ks.map fun k=>[.int .u64 k]).flatten false)/\Fr M m' []/\M.next<=b/\(0<ks.length->ex=false):=by
 obtain⟨⟨sk,sv,kb,vb,h1,h2,h3,h4,h5,h6,rfl⟩,h7⟩:=hT;have f1:Fr M (M.lay (.cells [] false)) []:=(Fr.refl M).lay _;have a3:∀i:Nat,ld1 (M.lay (.cells [] false)) (.ptr (some ⟨t,i⟩))=[sk,sv,.int .i64 most][i]?:=fun i=>q0f (f1.get h1 (by simp))
 obtain⟨b,ex,m',g1,g2,g3,g4,g5⟩:=q2a (w:=8) h2 (q04 (by simp;omega) (by decide));simp only[xlm]at g1 g5;refine⟨b,ex,m',?_,g2,g3,g4,g5⟩;simp only[j7n (H:=H18) rfl,T.f106,sB,p1,q1,apE,nnA,q0d,a3,g1]
theorem a88 {t:Nat} {ks:List Int} {vs:List (List AV)} {most:Int} {F:List Nat} (hT:TabAt (.int .u64) 4 M t ks vs most F) (hn:ks.length<=1000) :
  ∃b ex m',run E18 (.fn 107) [.ptr (some ⟨t,0⟩)] M=some (.sl (some ⟨b,0⟩) 4 vs.length vs.length ex,m')/\m'.get b=some (.cells vs.flatten false)/\Fr M m' []/\M.next<=b/\(0<vs.length->ex=false):=by
 obtain⟨⟨sk,sv,kb,vb,h1,h2,h3,h4,h5,h6,rfl⟩,h7⟩:=hT;have f1:Fr M (M.lay (.cells [] false)) []:=(Fr.refl M).lay _;have a3:∀i:Nat,ld1 (M.lay (.cells [] false)) (.ptr (some ⟨t,i⟩))=[sk,sv,.int .i64 most][i]?:=fun i=>q0f (f1.get h1 (by simp))
 obtain⟨b,ex,m',g1,g2,g3,g4,g5⟩:=q2a (w:=40) h3 (q04 (by omega) (by decide));refine⟨b,ex,m',?_,g2,g3,g4,g5⟩;simp only[j7o (H:=H18) rfl,T.f107,sB,p1,q1,apE,nnA,q0d,a3,g1]
theorem a98 {t fb:Nat} {ks:List Int} {vs:List (List AV)} {most:Int} {F:List Nat} (hT:TabAt (.int .u64) 4 M t ks vs most F) (hn:ks.length<=1000)
  (hfb:M.get fb=some (.cells [.ptr (some ⟨t,0⟩)] false)) (hB:M.get bb=some (.cells cs false)) (hc:cs.length=4) (hs:cs[2]? = some s) (hr:q0L 4 M s [] none) (go:Option Jmp->Mem->R) :
  ∃s' M' rb',q1A (run E18) (.fn (q1l (T.EH fun _=>none) 16)) (.fn (.func 104) [] [.ptr (some ⟨fb,0⟩)]) (q0t (T.EH fun _=>none) 16 2 (([uu,uu,t2,(.ptr (some ⟨bb,0⟩)),uu,uu,uu,uu,uu,t9,uu,uu,uu,uu,uu,uu,uu,uu,uu,uu,uu,uu,uu,uu,uu,uu,uu,uu,uu,uu,uu,uu,uu,uu,uu,uu,uu,uu,uu,uu,uu,uu,uu,uu,uu,t45,uu,t47]++List.replicate 7 uu))) M go=go none M'/\
   M'.get bb=some (.cells (cs.set 2 s') false)/\q0L 4 M' s' vs rb'/\Fr M M' [bb]/\(∀b,rb'=some b->M.next<=b):=by
 have lB:=Mem.q0v hB;have lT:=hT.lt;obtain⟨M1,hM1⟩:∃M1,M1=M.lay (.loop (q0t (T.EH fun _=>none) 16 2 (([uu,uu,t2,(.ptr (some ⟨bb,0⟩)),uu,uu,uu,uu,uu,t9,uu,uu,uu,uu,uu,uu,uu,uu,uu,uu,uu,uu,uu,uu,uu,uu,uu,uu,uu,uu,uu,uu,uu,uu,uu,uu,uu,uu,uu,uu,uu,uu,uu,uu,uu,t45,uu,t47]++List.replicate 7 uu)))):=⟨_,rfl⟩
 have f1:Fr M M1 []:=by rw[hM1];exact(Fr.refl M).lay _
 have n1:M1.next=M.next+1:=by rw[hM1];rfl
 have L1:M1.get M.next=some (.loop {q0t (T.EH fun _=>none) 16 2 (([uu,uu,t2,(.ptr (some ⟨bb,0⟩)),uu,uu,uu,uu,uu,t9,uu,uu,uu,uu,uu,uu,uu,uu,uu,uu,uu,uu,uu,uu,uu,uu,uu,uu,uu,uu,uu,uu,uu,uu,uu,uu,uu,uu,uu,uu,uu,uu,uu,uu,uu,t45,uu,t47]++List.replicate 7 uu)) with state:=.ready,pending:=none}):=by rw[<-q36,hM1];exact q0e _ _
 obtain⟨kb,ek,M2,k1,k2,k3,k4,k5⟩:=a8C (hT.frame f1 (by simp)) hn;obtain⟨vb,ev,M3,v1,v2,v3,v4,v5⟩:=a88 ((hT.frame f1 (by simp)).frame k3 (by simp)) hn;have d1:ld1 M1 (.ptr (some ⟨fb,0⟩))=some (.ptr (some ⟨t,0⟩)):=by rw[q0f (f1.get hfb (by simp))];rfl
 have d2:ld1 M2 (.ptr (some ⟨fb,0⟩))=some (.ptr (some ⟨t,0⟩)):=by rw[q0f (k3.get (f1.get hfb (by simp)) (by simp))];rfl
 have f3:Fr M1 M3 []:=k3.step0 v3;have L3:=f3.get L1 (by simp);have B3:=f3.get (f1.get hB (by simp)) (by simp);have r3:=(hr.frame f1 (by simp)).frame f3 (by simp);have n2:=k3.next
 have fin:∃s' M' rb',D18.gor 430080 [.sl (some ⟨vb,0⟩) 4 vs.length vs.length ev,.yld M.next,.sl (some ⟨kb,0⟩) 1 ks.length ks.length ek,.int .i64 (ks.length:Int),.int .i64 ((0:Nat):Int)] M3=some (uu,M')/\M'.get M.next=some (.loop {q0t (T.EH fun _=>none) 16 2 (([uu,uu,t2,(.ptr (some ⟨bb,0⟩)),uu,uu,uu,uu,uu,t9,uu,uu,uu,uu,uu,uu,uu,uu,uu,uu,uu,uu,uu,uu,uu,uu,uu,uu,uu,uu,uu,uu,uu,uu,uu,uu,uu,uu,uu,uu,uu,uu,uu,uu,uu,t45,uu,t47]++List.replicate 7 uu)) with state:=.ready,pending:=none})/\
   M'.get bb=some (.cells (cs.set 2 s') false)/\q0L 4 M' s' vs rb'/\Fr M3 M' [M.next,bb]/\(∀b,rb'=some b->M3.next<=b):=by
  have hvl:=hT.len;by_cases h0:ks.length=0
  ·have e:vs=[]:=List.length_eq_zero_iff.1 (by omega);subst e;refine⟨s,M3,none,?_,L3,?_,r3,Fr.refl' _ _,nofun⟩
   ·simp only[q6W (H:=H18),T.z2J,p2,q0b,wp,df (show ¬((0:Nat):Int)<(ks.length:Int) by omega)]
   ·rw[show cs.set 2 s=cs from q11 hs];exact B3
  ·have hk:=k5 (by omega);have hv:=v5 (by omega);subst hk hv;obtain⟨⟨sk,sv,kb',vb',h1,h2,h3,h4,h5,h6,h7⟩,h8⟩:=hT;have tK:q0L 1 M3 (.sl (some ⟨kb,0⟩) 1 ks.length ks.length false) (ks.map fun k=>[.int .u64 k]) (some kb):=⟨h2.1,.inr ⟨kb,rfl,by simp,v3.get k2 (by simp)⟩⟩
   have tV:q0L 4 M3 (.sl (some ⟨vb,0⟩) 4 vs.length vs.length false) vs (some vb):=⟨h3.1,.inr ⟨vb,rfl,rfl,v2⟩⟩;obtain⟨s',M',rb',g1,g2,g3,g4,g5,g6⟩:=z5Q t2 t9 t45 t47 h8 hn (show M.next≠bb by omega) ks.length 0 M3 s [] none cs (by omega) (by simp;omega) tK tV (by omega) (by omega) (by omega) (by omega) (by simp) L3 B3 hc hs r3 (by simp)
   exact⟨s',M',rb',g1,g2,g3,by simpa using g4,by simpa using g5,fun b hb=>by rcases g6 b hb with h|h;cases h;exact h⟩
 obtain⟨s',M4,rb',g1,g2,g3,g4,g5,g6⟩:=fin;refine⟨s',M4.put M.next none,rb',?_,?_,?_,?_,?_⟩
 ·have hrun:run E18 (.fn 104) [.yld M.next,.ptr (some ⟨fb,0⟩)] M1=some (uu,M4):=by
   simp only[j7l (H:=H18) rfl,T.f104,q1,wp,d1,k1,d2,v1,if_true];simp only[j7m (H:=H18) rfl,T.f105,p1,wp];rw[show (0:Int)=((0:Nat):Int) from rfl,g1];rfl
  unfold q1A;simp only[around,if_true,List.nil_append,List.singleton_append];rw[<-hM1,hrun];show q1n M.next M4 go=_
  unfold q1n;simp only[g2];rfl
 ·rw[q1X (by omega)];exact g3
 ·exact g4.frame (Fr.put _ _ _) (fun b hb=>by have:=g6 b hb;have:=f3.next;simp;omega)
 ·refine Fr.put' ?_ (.inr (xnr _));exact((f1.any _).step0 f3).step g5 (fun c hc=>by
   simp only[xmk0,List.not_mem_nil,or_false]at hc;rcases hc with rfl|rfl
   ·exact .inr (xnr _)
   ·exact .inl (by simp))
 ·intro b hb;have:=g6 b hb;have:=f3.next;have:=f1.next;omega
end
end
section
set_option maxRecDepth 8000
open Go Go.Abs
theorem q8i {H:FuncId->Option (List AV->Mem->R)}:(T.Rl H).call=run (T.EH H):=rfl
theorem j6Q (M:Mem) (t:Nat):run E18 (.fn 50) [.ptr (some ⟨t,0⟩)] M=some (.fn (.func 96) [] [.ptr (some ⟨M.next,0⟩)],M.lay (.cells [.ptr (some ⟨t,0⟩)] false)):=by
 simp only[a1W (H:=H18) rfl,T.f50,q0N,wp,AV.cells,xom]
theorem j6R (M:Mem) (t:Nat):run E18 (.fn 51) [.ptr (some ⟨t,0⟩)] M=some (.fn (.func 100) [] [.ptr (some ⟨M.next,0⟩)],M.lay (.cells [.ptr (some ⟨t,0⟩)] false)):=by
 simp only[a1X (H:=H18) rfl,T.f51,q0N,wp,AV.cells,xom]
theorem j6P (M:Mem) (t:Nat):run E18 (.fn 52) [.ptr (some ⟨t,0⟩)] M=some (.fn (.func 104) [] [.ptr (some ⟨M.next,0⟩)],M.lay (.cells [.ptr (some ⟨t,0⟩)] false)):=by
 simp only[a1Y (H:=H18) rfl,T.f52,q0N,wp,AV.cells,xom]
section
variable {m:Mem} {b:Nat} {st:LSt} {F:List Nat}
theorem j64 (h:q0u m b st F) (w:LWf st) :
  ∃sp sq sa m' r1 r2 r3,run E18 (.fn 16) [.ptr (some ⟨b,0⟩)] m=some (.agg [sp,sq,sa,.int .u64 st.latest],m')/\q0L 4 m' sp (st.q0a.map (·.cells)) r1/\q0L 9 m' sq (st.pairs.map (·.cells)) r2/\q0L 4 m' sa (st.q0j.map (·.cells)) r3/\Fr m m' []/\
   (∀c,r1=some c->m.next<=c)/\(∀c,r2=some c->m.next<=c)/\(∀c,r3=some c->m.next<=c):=by
 obtain⟨tp,tq,ta,FP,FQ,FA,h1,h2,h3,h4,h5,h6,h7,h8,h9,h10,rfl⟩:=h.ex;have hb:=Mem.q0v h1;have a3:∀i:Nat,ld1 m (.ptr (some ⟨b,i⟩))=[.int .i64 st.most,.ptr (some ⟨tp,0⟩),.ptr (some ⟨tq,0⟩),.ptr (some ⟨ta,0⟩),.int .u64 st.latest][i]?:=fun i=>q0f h1
 have lp:=w.lp;have lq:=w.lq;have la:=w.la;obtain⟨M0,hM0⟩:∃M0,M0=((m.lay (.cells [.sl none 0 0 0 true,.sl none 0 0 0 true,.sl none 0 0 0 true,.int .u64 0] false)).lay (.cells [.sl none 0 0 0 true,.sl none 0 0 0 true,.sl none 0 0 0 true,.int .u64 st.latest] false)).lay (.cells [.ptr (some ⟨tp,0⟩)] false):=⟨_,rfl⟩;have f0:Fr m M0 []:=by rw[hM0];(repeat apply Fr.lays);exact Fr.refl _
 have n0:M0.next=m.next+1+1+1:=by rw[hM0];rfl
 have B0:M0.get (m.next+1)=some (.cells [.sl none 0 0 0 true,.sl none 0 0 0 true,.sl none 0 0 0 true,.int .u64 st.latest] false):=by rw[hM0];simp[Mem.q0E]
 have R0:M0.get m.next=some (.cells [.sl none 0 0 0 true,.sl none 0 0 0 true,.sl none 0 0 0 true,.int .u64 0] false):=by rw[hM0];simp only[Mem.q0E,Mem.q0q,nn1,nn2,if_true,if_false]
 have A0:M0.get (m.next+1+1)=some (.cells [.ptr (some ⟨tp,0⟩)] false):=by rw[hM0];simp[Mem.q0E]
 obtain⟨sp,M1,r1,p1,p2,p3,p4,p5⟩:=a99 (bb:=m.next+1) (.ptr (some ⟨b,0⟩)) (.ptr (some ⟨m.next,0⟩)) uu uu uu (.fn (.func 96) [] [.ptr (some ⟨m.next+1+1,0⟩)]) uu uu uu
  (h2.frame f0 (by simp)) (by simp;omega) A0 B0 rfl rfl (q0L.nil _ _ _ _) (fun j m'=>(T.Rl H18).afr 65536 j [.ptr (some ⟨b,0⟩),.ptr (some ⟨m.next,0⟩),.ptr (some ⟨m.next+1,0⟩),uu,uu,uu,(.fn (.func 96) [] [.ptr (some ⟨m.next+1+1,0⟩)]),uu,uu,uu] m')
 have f1:Fr m M1 []:=f0.step p4 (fun c hc=>.inr (by simp at hc;omega))
 have k1:=f1.get h1 (by simp);have a31:∀i:Nat,ld1 M1 (.ptr (some ⟨b,i⟩))=[.int .i64 st.most,.ptr (some ⟨tp,0⟩),.ptr (some ⟨tq,0⟩),.ptr (some ⟨ta,0⟩),.int .u64 st.latest][i]?:=fun i=>q0f k1
 have n1:=p4.next
 obtain⟨M1',hM1'⟩:∃M1',M1'=M1.lay (.cells [.ptr (some ⟨tq,0⟩)] false):=⟨_,rfl⟩;have f1':Fr M1 M1' []:=by rw[hM1'];exact(Fr.refl M1).lay _
 have A1:M1'.get M1.next=some (.cells [.ptr (some ⟨tq,0⟩)] false):=by rw[hM1'];exact q0e _ _
 simp only[List.set_cons_zero]at p2;obtain⟨sq,M2,r2,q1,q2,q3,q4,q5⟩:=b0a (bb:=m.next+1) (.ptr (some ⟨b,0⟩)) (.ptr (some ⟨m.next,0⟩)) uu uu (.fn (.func 100) [] [.ptr (some ⟨M1.next,0⟩)]) uu uu
  ((h3.frame f1 (by simp)).frame f1' (by simp)) (by simp;omega) A1 (f1'.get p2 (by simp)) rfl rfl (q0L.nil _ _ _ _) (fun j m'=>(T.Rl H18).afr 65537 j [.ptr (some ⟨b,0⟩),.ptr (some ⟨m.next,0⟩),.ptr (some ⟨m.next+1,0⟩),uu,uu,(.fn (.func 100) [] [.ptr (some ⟨M1.next,0⟩)]),uu,uu] m')
 have f12:Fr M1 M2 [m.next+1]:=(f1'.any _).step q4 (fun c hc=>.inl hc)
 have f2:Fr m M2 []:=f1.step f12 (fun c hc=>.inr (by simp at hc;omega))
 have k2:=f2.get h1 (by simp);have a32:∀i:Nat,ld1 M2 (.ptr (some ⟨b,i⟩))=[.int .i64 st.most,.ptr (some ⟨tp,0⟩),.ptr (some ⟨tq,0⟩),.ptr (some ⟨ta,0⟩),.int .u64 st.latest][i]?:=fun i=>q0f k2
 obtain⟨M2',hM2'⟩:∃M2',M2'=M2.lay (.cells [.ptr (some ⟨ta,0⟩)] false):=⟨_,rfl⟩;have f2':Fr M2 M2' []:=by rw[hM2'];exact(Fr.refl M2).lay _
 have A2:M2'.get M2.next=some (.cells [.ptr (some ⟨ta,0⟩)] false):=by rw[hM2'];exact q0e _ _
 simp only[List.set_cons_succ,List.set_cons_zero]at q2;obtain⟨sa,M3,r3,t1,t2,t3,t4,t5⟩:=a98 (bb:=m.next+1) (.ptr (some ⟨m.next,0⟩)) uu (.fn (.func 104) [] [.ptr (some ⟨M2.next,0⟩)]) uu
  ((h4.frame f2 (by simp)).frame f2' (by simp)) (by simp;omega) A2 (f2'.get q2 (by simp)) rfl rfl (q0L.nil _ _ _ _) (fun j m'=>(T.Rl H18).afr 65538 j [.ptr (some ⟨m.next,0⟩),.ptr (some ⟨m.next+1,0⟩),uu,(.fn (.func 104) [] [.ptr (some ⟨M2.next,0⟩)]),uu] m')
 have f23:Fr M2 M3 [m.next+1]:=(f2'.any _).step t4 (fun c hc=>.inl hc)
 have f3:Fr m M3 []:=f2.step f23 (fun c hc=>.inr (by simp at hc;omega))
 simp only[List.set_cons_succ,List.set_cons_zero]at t2;have n2:=f12.next
 have R1:M1.get m.next=some (.cells [.sl none 0 0 0 true,.sl none 0 0 0 true,.sl none 0 0 0 true,.int .u64 0] false):=p4.get R0 (by simp)
 have R3:M3.get m.next=some (.cells [.sl none 0 0 0 true,.sl none 0 0 0 true,.sl none 0 0 0 true,.int .u64 0] false):=f23.get (f12.get R1 (by simp)) (by simp)
 have one:[sp,sq,sa,AV.int .u64 st.latest].all AV.one=true:=by rw[List.all_cons,List.all_cons,List.all_cons,p3.one,q3.one,t3.one];rfl
 have d3:ldN M3 (.ptr (some ⟨m.next+1,0⟩)) 4=some (.agg [sp,sq,sa,.int .u64 st.latest]):=q0C t2 rfl
 have s3:=q07 (n:=4) (v:=[sp,sq,sa,.int .u64 st.latest]) R3 rfl rfl one;have e3:ldN (M3.put m.next (some (.cells [sp,sq,sa,.int .u64 st.latest] false))) (.ptr (some ⟨m.next,0⟩)) 4=some (.agg [sp,sq,sa,.int .u64 st.latest]):=q0C (q0w R3) rfl
 have fp:Fr M3 (M3.put m.next (some (.cells [sp,sq,sa,.int .u64 st.latest] false))) [m.next]:=Fr.put _ _ _
 have g1:∀c,r1=some c->M0.next<=c:=p5
 refine⟨sp,sq,sa,M3.put m.next (some (.cells [sp,sq,sa,.int .u64 st.latest] false)),r1,r2,r3,?_,?_,?_,?_,f3.put' (.inr (xnr _)),fun c hc=>by have:=p5 c hc;omega,fun c hc=>by have:=q5 c hc;have:=f1'.next;have:=f1.next;omega,fun c hc=>by have:=t5 c hc;have:=f2'.next;have:=f2.next;omega⟩
 ·simp (maxDischargeDepth:=20) only [a1F (H:=H18) rfl,T.f16,pB,q0n,AV.cells,Nat.reduceAdd,Nat.reduceLeDiff,nnA,q0T,AV.one,over,lcl,q1o hb,z1B hb,a3,j6Q,<-hM0];simp only[j16 (H:=H18),T.a3P,z2s,q8i];rw[p1];simp only[q9c (H:=H18),T.q5L,wp];simp only[j17 (H:=H18),T.a3Q,nnA,q0d,a31,j6R,<-hM1'];simp only[j18 (H:=H18),T.a3R,z2s,q8i]
  rw[q1];simp only[q9e (H:=H18),T.q5M,wp];simp only[j19 (H:=H18),T.a3S,nnA,q0d,a32,j6P,<-hM2'];simp only[j2a (H:=H18),T.a3T,z2s,q8i];rw[t1];simp only[q9g (H:=H18),T.q5N,wp];simp only[j2b (H:=H18),T.a3U,q0S,q0V,wp,d3,s3,e3]
 ·exact(((p3.frame f12 (fun c hc=>by have:=p5 c hc;simp;omega)).frame f23 (fun c hc=>by have:=p5 c hc;simp;omega))).frame fp (fun c hc=>by have:=p5 c hc;simp;omega)
 ·exact(q3.frame f23 (fun c hc=>by have:=q5 c hc;have:=f1'.next;simp;omega)).frame fp (fun c hc=>by have:=q5 c hc;have:=f1'.next;simp;omega)
 ·exact t3.frame fp (fun c hc=>by have:=t5 c hc;have:=f2'.next;have:=f2.next;simp;omega)
end
end
section
set_option maxRecDepth 8000
open Go Go.Abs
def trT (st:LSt) (a:q1k) (p:q0r) (a':q1k) (w:Wd) (s:Int):Int×LSt:=
 if q2t p w s≠0 then (q2t p w s,st) else
 if a.bal.val<w.val then (42,st) else
 if q3Y a.bal a'.bal w=true then (0,(st.q14 {a with bal:=Wd.of (a.bal.val-w.val)}).q14 {a' with bal:=Wd.of (a'.bal.val+w.val)}) else (20,st)
section
variable {M:Mem} {n b:Nat} {st:LSt} {F:List Nat}
end
section
variable {m:Mem} {b:Nat} {st:LSt} {F:List Nat}
theorem z1k (st:LSt) (i j:Int) (x:Wd) (s:Int):q2K st i j x s=(if (st.of i).2.2≠0 then ((st.of i).2.2,st) else if (st.of j).2.2≠0 then ((st.of j).2.2,st) else if i=j then (45,st) else
  if (st.of i).2.1.name≠(st.of j).2.1.name then (41,st) else trT st (st.of i).1 (st.of i).2.1 (st.of j).1 x s):=rfl
end
end
section
set_option maxRecDepth 4000
open Go Go.Abs
theorem j0r {a b:Wd} (ha:a.ok) (hb:b.ok) {s t to:Int} (hs:0<=s/\s<=18) (ht:0<=t/\t<=18) (hto:0<=to/\to<=18) (m:Mem) :
  Res m (run E18 (.fn 117) [.agg (q0H a s),.agg (q0H b t),.int .i64 to] m) (q3V (z9O a.val b.val (s+t-to)) to):=by
 have r1:=fun m=>q4r (H:=H18) rfl a s m
 have r2:=fun m=>q4r (H:=H18) rfl b t m
 rw[dt hs]at r1;rw[dt ht]at r2;have o1:=fun m=>q3M (H:=H18) rfl ha m
 have o2:=fun m=>q3M (H:=H18) rfl hb m
 have ti:=fun m=>z08 (H:=H18) rfl (a7J ha) (a9d hb) m
 have ro:=fun m=>j0z (H:=H18) rfl (j6E ha hb) (k:=s+t-to) (by omega) (by omega) m
 have rd:=fun m=>a0k (H:=H18) rfl (j0s (j6E ha hb) (k:=s+t-to) (by omega)) to m
 rw[a0r]at ro rd;have hk1:IntKind.wrap .i64 (s+t)=s+t:=wrap_i64 (by omega) (by omega);have hk2:IntKind.wrap .i64 (s+t-to)=s+t-to:=wrap_i64 (by omega) (by omega);obtain⟨ah,al⟩:=a;obtain⟨bh,bl⟩:=b;obtain⟨N,hN⟩:∃N,N=z9O (Wd.mk ah al).val (Wd.mk bh bl).val (s+t-to):=⟨_,rfl⟩;rw[<-hN]at ro rd⊢;simp only[q0H,Wd.cells]at r1 r2 o1 o2;simp only[q0H,j7t (H:=H18) rfl,T.f117,pB,q1,p1,p2,q0n,AV.cells,Nat.reduceAdd,Nat.reduceLeDiff,q0N,q0b,ifV,unA,q0S,q0V,q0B,AV.one,over,lcl,r1,r2,xbt,df (show ¬to<0 by omega),df (show ¬(18:Int)<to by omega)]
 unfold q3V at rd⊢;cases hf:q0M N with
 |true=>
  simp only[hf,if_true,q0H]at rd⊢;simp only[z0d (H:=H18),T.z7F,p1,q1,p2,q0l,q0S,q0V,Nat.reduceAdd,q1b,AV.one,over,AV.cells,Nat.reduceLeDiff,lcl,o1,o2,ti,hk1,hk2,ro,rd];refine Res.eq ?_ rfl
  (repeat apply Fr.lays)
  exact Fr.refl _
 |false=>
  simp only[hf,xbq,if_false,q0H]at rd⊢;simp only[z0d (H:=H18),T.z7F,p1,q1,p2,q0l,q0S,q0V,Nat.reduceAdd,q1b,AV.one,over,AV.cells,Nat.reduceLeDiff,lcl,o1,o2,ti,hk1,hk2,ro,rd];refine Res.eq ?_ rfl
  (repeat apply Fr.lays)
  exact Fr.refl _
def S19:List FuncId:=[18,117,17,66,45]
def R19:List FuncId:=[44,62,63,16,61,19]
noncomputable def H19:FuncId->Option (List AV->Mem->R):=q33 E18 S19 R19
noncomputable abbrev E19:Env:=T.EH H19
theorem a09:q1i E19:=q2v a08 S19 R19
noncomputable abbrev D19:Do:=T.Rl H19
section
variable {H:FuncId->Option (List AV->Mem->R)} {m:Mem} {b:Nat} {st:LSt} {F:List Nat}
theorem a8W {f:FuncId} (h:H f=some (run E18 (.fn f))) (xs:List AV) (m:Mem):run (T.EH H) (.fn f) xs m=run E18 (.fn f) xs m:=q00 h xs m
theorem z5C (h:H 117=some (q0x E18 117)) {a b:Wd} (ha:a.ok) (hb:b.ok) {s t to:Int} (hs:0<=s/\s<=18) (ht:0<=t/\t<=18) (hto:0<=to/\to<=18) (m:Mem) :
  run (T.EH H) (.fn 117) [.agg (q0H a s),.agg (q0H b t),.int .i64 to] m=some (q3V (z9O a.val b.val (s+t-to)) to,m):=
 q0s h (q6L _ _) fun m2 _ _=>j0r ha hb hs ht hto m2
end
end
end Go.Proofs.YtlginbmjiecglaaGreatDoor
