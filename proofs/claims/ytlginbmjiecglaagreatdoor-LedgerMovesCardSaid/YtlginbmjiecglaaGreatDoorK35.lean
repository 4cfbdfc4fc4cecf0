/- The card of LedgerMoves holds: for every argument of the given shape, within the given bounds, the law answers true. The texts before hold the walks and the laws that it rests on. -/
import Derived.Test.YtlginbmjiecglaaGreatDoorK0
import Derived.Test.YtlginbmjiecglaaGreatDoorK10
import Derived.Test.YtlginbmjiecglaaGreatDoorK19
import Derived.Test.YtlginbmjiecglaaGreatDoorK32
import Derived.Test.YtlginbmjiecglaaGreatDoorK34
import Derived.Handed
import Derived.HandedShaped
import Derived.OpenShut
import Derived.LaidMore
import Derived.Test.YtlginbmjiecglaaGreatDoorTie
import Derived.Test.YtlginbmjiecglaaGreatDoorCards
import Derived.ProofKit
import Derived.Stop.Joined
import Derived.MakeChecks
import Derived.SevenTiedAt
namespace Go.Proofs.YtlginbmjiecglaaGreatDoor
section
set_option maxRecDepth 8000
set_option maxHeartbeats 1000000
open Go Go.Abs
theorem sameB_refl (st:LSt):z8k st st=true:=by unfold z8k;simp
theorem q8m {st:LSt} (w:LWf st) (i:Int):(q08 st i).2.2=(st.of i).2.2:=by
 unfold q08
 dsimp only
 split
 ·rfl
 ·rename_i h;simpa using Eq.symm (by simpa using h)
theorem z1z {st:LSt} (w:LWf st) (i:Int):(q08 st i).1.ok:=by
 unfold q08
 dsimp only
 split
 ·exact wd_ok0
 ·rename_i h
  rcases LSt.q10 w i with ⟨e,_⟩|⟨a,p,e,ga,gp,hid,hka,hpn,hkp,ma,mp⟩
  ·rw[e]at h;simp at h
  ·rw[e];exact(w.oka a ma).1
section
variable {M:Mem} {K L:Nat} {A B:Int} {s t:LSt} {sp sq sa tp tq ta:AV}
theorem j98 (hK:M.get K=some (.cells [sp,sq,sa,.int .u64 s.latest] false)) (hL:M.get L=some (.cells [tp,tq,ta,.int .u64 t.latest] false)) (hs:BkV M sp sq sa s) (ht:BkV M tp tq ta t) (hl:s.q0n.length=t.q0n.length) (hn:s.q0n.length≤64)
  (heq:∀(k:Nat) (y:AccV),s.q0n[k]? = some y→y.id≠A→y.id≠B→t.q0n[k]? = some y) (t12 t14 t23 t25:AV):∀(d i:Nat) (M2:Mem),i+d=s.q0n.length→Fr M M2 []→
  ∃M3,D30.gor 16387 [.int .u64 A,.int .u64 B,.ptr (some ⟨K,0⟩),t12,t14,.ptr (some ⟨L,0⟩),t23,t25,.int .i64 (i:Int)] M2=D30.gor 16390 [.ptr (some ⟨K,0⟩),t12,t14,.ptr (some ⟨L,0⟩),t23,t25] M3∧Fr M M3 []:=by
 obtain⟨e,he,hss⟩:=uA
 intro d
 induction d with
 |zero=>
  intro i M2 hi h2
  have:i=s.q0n.length:=by omega
  subst this
  have a3:∀i:Nat,ld1 M2 (.ptr (some ⟨K,i⟩))=[sp,sq,sa,AV.int .u64 s.latest][i]?:=fun i=>q0j (h2.get hK (by simp))
  have l1:=(hs.a.q0p h2).q4n he
  rw[List.length_map]at l1
  refine⟨M2,?_,h2⟩
  simp only[g4_3_is (H:=H30),T.g4_3,p1,q1,p2,q0a,w_g4_3,a3,l1,df (show ¬((s.q0n.length:Nat):Int)<(s.q0n.length:Int) by omega)]
 |succ d ih=>
  intro i M2 hi h2
  have hlt:i<s.q0n.length:=by omega
  have a3:∀i:Nat,ld1 M2 (.ptr (some ⟨K,i⟩))=[sp,sq,sa,AV.int .u64 s.latest][i]?:=fun i=>q0j (h2.get hK (by simp))
  have l1:=(hs.a.q0p h2).q4n he
  rw[List.length_map]at l1
  obtain⟨bs,o,_,x2,_,_,x5⟩:=(hs.a.q0p h2).ixT he hss (i:=i) (by rw[List.length_map];exact hlt)
  rw[List.getElem_map]at x5
  obtain⟨q,hq⟩:∃q,q=s.q0n[i]:=⟨_,rfl⟩
  rw[←hq]at x5
  obtain⟨M4,hM4⟩:∃M4,M4=M2.lay (.cells q.cells false):=⟨_,rfl⟩
  have f4:Fr M2 M4 []:=by rw[hM4];exact(Fr.refl M2).lay _
  have F4:Fr M M4 []:=h2.step0 f4
  have s2:stV (M2.lay (.cells [.int .u64 0,.str [],.int .i64 0,.int .u64 0] false)) (.ptr (some ⟨M2.next,0⟩)) (.agg q.cells) 4=some M4:=by rw[q1w (n:=4) (q0d M2 _) rfl rfl rfl,q1m,hM4]
  have g4:M4.get M2.next=some (.cells q.cells false):=by rw[hM4];exact q0d M2 _
  have a4:∀j:Nat,ld1 M4 (.ptr (some ⟨M2.next,j⟩))=q.cells[j]?:=fun j=>q0j g4
  have l4:ldN M4 (.ptr (some ⟨M2.next,0⟩)) 4=some (.agg q.cells):=q1b g4 rfl
  have b3:∀i:Nat,ld1 M4 (.ptr (some ⟨K,i⟩))=[sp,sq,sa,AV.int .u64 s.latest][i]?:=fun i=>q0j (F4.get hK (by simp))
  have c3:∀i:Nat,ld1 M4 (.ptr (some ⟨L,i⟩))=[tp,tq,ta,AV.int .u64 t.latest][i]?:=fun i=>q0j (F4.get hL (by simp))
  have l2:=(hs.a.q0p F4).q4n he
  have l3:=(ht.a.q0p F4).q4n he
  rw[List.length_map]at l2 l3
  rw[←hl]at l3
  obtain⟨M5,r1,r2⟩:=ih (i+1) M4 (by omega) F4
  have nx:D30.gor 16389 [.int .u64 A,.int .u64 B,.ptr (some ⟨K,0⟩),t12,t14,.ptr (some ⟨L,0⟩),t23,t25,.int .i64 (i:Int)] M4=D30.gor 16390 [.ptr (some ⟨K,0⟩),t12,t14,.ptr (some ⟨L,0⟩),t23,t25] M5:=by
   simp only[g4_5_is (H:=H30),T.g4_5,p2,w_g4_5,show (i:Int)+1=((i+1:Nat):Int) by omega,wrap_i64 (n:=((i+1:Nat):Int)) (by omega) (by omega)]
   exact r1
  refine⟨M5,?_,r2⟩
  simp only[g4_3_is (H:=H30),T.g4_3,p1,q1,p2,q0a,w_g4_3,a3,l1,dt (show (i:Int)<(s.q0n.length:Int) by omega)]
  simp only[AccV.cells]at x5 s2 a4 l4
  by_cases h1:q.id=A
  ·simp only[j3p (H:=H30),T.g4_4,p1,q1,p2,pB,q0a,ifV,w_g4_4,a3,x2,x5,s2,b3,c3,l2,l3,decide_true,Bool.not_true,a4,dt h1,nx]
  ·by_cases h3:q.id=B
   ·simp only[j3p (H:=H30),T.g4_4,p1,q1,p2,pB,q0a,ifV,w_g4_4,a3,x2,x5,s2,b3,c3,l2,l3,decide_true,Bool.not_true,Bool.not_false,a4,df h1,dt h3,nx]
   ·have ht2:=heq i q (by rw[List.getElem?_eq_getElem hlt,hq]) h1 h3
    obtain⟨hlt2,ht3⟩:=List.getElem?_eq_some_iff.1 ht2
    obtain⟨bs',o',_,y2,_,_,y5⟩:=(ht.a.q0p F4).ixT he hss (i:=i) (by rw[List.length_map];exact hlt2)
    rw[List.getElem_map,ht3]at y5
    have ne:=acc_neq q q
    rw[dt rfl,Bool.not_true]at ne
    simp only[AccV.cells]at y5 ne
    simp only[j3p (H:=H30),T.g4_4,p1,q1,p2,pB,q0a,ifV,w_g4_4,a3,x2,x5,s2,b3,c3,l2,l3,decide_true,Bool.not_true,Bool.not_false,a4,df h1,df h3,y2,y5,l4,ne,nx]
end
theorem lmoves_is (m:Mem) {sl:AV} {acts:List (Int×Int×Int×Int)} (hv:ARow 4 m sl (acts.map actC)) (hN:∀a∈acts,i64 a.2.2.2) (hco:∃ro,m.get 1=some (.cells j9h ro)) {a b n:Int} (ha:0≤a) (hb:0≤b) :
  ∃m',run E30 (.fn 4) [sl,.int .u64 a,.int .u64 b,.int .i64 n] m=some (.bool true,m'):=by
 obtain⟨st,sp0,sq0,sa0,m1,h1,g,hmost,hbk,f1⟩:=hbook_is hv hN hco (most:=8) (by omega)
 have h1':=(raw26 (H:=H30) (f:=9) rfl _ _).trans h1
 obtain⟨lb,m2,F,h2,h2L,f2,hF2⟩:=from_is hbk.v g
 rw[hmost]at h2
 have h2':=(raw29 (H:=H30) (f:=12) rfl _ _).trans h2
 have kn:=known_at (H:=H30) rfl m2
 have w:=g.w
 have hFlt:=h2L.lt
 obtain⟨A,hA⟩:∃A,A=1+a % 6:=⟨_,rfl⟩
 obtain⟨B,hB⟩:∃B,B=1+b % 6:=⟨_,rfl⟩
 have ra:a.tmod 6=a % 6:=Int.tmod_eq_emod_of_nonneg ha
 have rb:b.tmod 6=b % 6:=Int.tmod_eq_emod_of_nonneg hb
 have wA:IntKind.wrap .u64 (1+a % 6)=A:=by rw[wrap_u64 (by omega) (by omega),hA]
 have wB:IntKind.wrap .u64 (1+b % 6)=B:=by rw[wrap_u64 (by omega) (by omega),hB]
 have z6:(6:Int)≠0:=by omega
 obtain⟨sp,sq,sa,m3,r1,r2,r3,b1,bp,bq,ba,f3,e1,e2,e3⟩:=book_is h2L w
 have b1':=(raw18 (H:=H30) (f:=16) rfl _ _).trans b1
 have bv:BkV m3 sp sq sa st:=⟨bp.v,bq.v,ba.v⟩
 obtain⟨M4,hM4⟩:∃M4,M4=m3.lay (.cells [sp,sq,sa,.int .u64 st.latest] false):=⟨_,rfl⟩
 have f4:Fr m3 M4 []:=by rw[hM4];exact(Fr.refl _).lay _
 have s4:stV (m3.lay (.cells [.sl none 0 0 0 true,.sl none 0 0 0 true,.sl none 0 0 0 true,.int .u64 0] false)) (.ptr (some ⟨m3.next,0⟩)) (.agg [sp,sq,sa,.int .u64 st.latest]) 4=some M4:=by rw[q1w (n:=4) (q0d m3 _) rfl rfl (bv.one _),q1m,hM4]
 have hL4:LedgerAt M4 lb st F:=(h2L.q0p f3).q0p f4
 have ba4:=j5e (H:=H30) rfl hL4 w A
 have bb4:=j5e (H:=H30) rfl hL4 w B
 obtain⟨fr,hfr⟩:∃fr,fr=q08 st A:=⟨_,rfl⟩
 obtain⟨tt,htt⟩:∃tt,tt=q08 st B:=⟨_,rfl⟩
 rw[←hfr]at ba4
 rw[←htt]at bb4
 have frok:fr.1.ok:=by rw[hfr];exact z1z w A
 have ttok:tt.1.ok:=by rw[htt];exact z1z w B
 have fr0:fr.2.2=(st.of A).2.2:=by rw[hfr];exact q8m w A
 have tt0:tt.2.2=(st.of B).2.2:=by rw[htt];exact q8m w B
 obtain⟨M5,hM5⟩:∃M5,M5=M4.lay (.cells (q02 fr.1 fr.2.1) false):=⟨_,rfl⟩
 have f5:Fr M4 M5 []:=by rw[hM5];exact(Fr.refl _).lay _
 have s5:stV (M4.lay (.cells [.int .i64 0,.int .u64 0,.int .i64 0] false)) (.ptr (some ⟨M4.next,0⟩)) (.agg (q02 fr.1 fr.2.1)) 3=some M5:=by rw[q1w (n:=3) (q0d M4 _) rfl rfl rfl,q1m,hM5]
 obtain⟨M6,hM6⟩:∃M6,M6=M5.lay (.cells (q02 tt.1 tt.2.1) false):=⟨_,rfl⟩
 have f6:Fr M5 M6 []:=by rw[hM6];exact(Fr.refl _).lay _
 have s6:stV (M5.lay (.cells [.int .i64 0,.int .u64 0,.int .i64 0] false)) (.ptr (some ⟨M5.next,0⟩)) (.agg (q02 tt.1 tt.2.1)) 3=some M6:=by rw[q1w (n:=3) (q0d M5 _) rfl rfl rfl,q1m,hM6]
 obtain⟨am,ham⟩:∃am,am=1+n % 4000:=⟨_,rfl⟩
 have pk:=fun m=>q3t (H:=H30) rfl m n (n:=4000) (by omega) (by omega)
 have wam:IntKind.wrap .i64 (1+n % 4000)=am:=by rw[wrap_i64 (by omega) (by omega),ham]
 have dl:=fun m=>dlit_at (H:=H30) rfl (n:=am) (by omega) (by omega) fr.2.1 m
 have amok:(Wd.of am).ok:=Wd.q44 (q1j (by omega) (by omega))
 obtain⟨M7,hM7⟩:∃M7,M7=M6.lay (.cells (q02 (Wd.of am) fr.2.1) false):=⟨_,rfl⟩
 have f7:Fr M6 M7 []:=by rw[hM7];exact(Fr.refl _).lay _
 have s7:stV (M6.lay (.cells [.int .i64 0,.int .u64 0,.int .i64 0] false)) (.ptr (some ⟨M6.next,0⟩)) (.agg (q02 (Wd.of am) fr.2.1)) 3=some M7:=by rw[q1w (n:=3) (q0d M6 _) rfl rfl rfl,q1m,hM7]
 have n4:M4.next=m3.next+1:=by rw[hM4];rfl
 have n5:M5.next=m3.next+2:=by rw[hM5];show M4.next+1=_;omega
 have n6:M6.next=m3.next+3:=by rw[hM6];show M5.next+1=_;omega
 have n7:M7.next=m3.next+4:=by rw[hM7];show M6.next+1=_;omega
 have K7:M7.get m3.next=some (.cells [sp,sq,sa,.int .u64 st.latest] false):=((f5.step0 f6).step0 f7).get (by rw[hM4];exact q0d _ _) (by simp)
 have K7a:M7.get (m3.next+1)=some (.cells (q02 fr.1 fr.2.1) false):=(f6.step0 f7).get (by rw[hM5,←n4];exact q0d _ _) (by simp)
 have K7b:M7.get (m3.next+2)=some (.cells (q02 tt.1 tt.2.1) false):=f7.get (by rw[hM6,←n5];exact q0d _ _) (by simp)
 have K7c:M7.get (m3.next+3)=some (.cells (q02 (Wd.of am) fr.2.1) false):=by rw[hM7,←n6];exact q0d _ _
 have f37:Fr m3 M7 []:=((f4.step0 f5).step0 f6).step0 f7
 have hL7:LedgerAt M7 lb st F:=(h2L.q0p f3).q0p f37
 have l6:∀i:Nat,ld1 M6 (.ptr (some ⟨m3.next+1,i⟩))=(q02 fr.1 fr.2.1)[i]?:=fun i=>q0j (f6.get (by rw[hM5,←n4];exact q0d _ _) (by simp))
 have l7:ldN M7 (.ptr (some ⟨m3.next+3,0⟩)) 3=some (.agg (q02 (Wd.of am) fr.2.1)):=q1b K7c rfl
 obtain⟨m8,F8,t1,t2,t3,t4⟩:=j4o hL7 w A B amok fr.2.1
 have t1':=(raw18 (H:=H30) (f:=19) rfl _ _).trans t1
 have g':LInv (q1n st A B (Wd.of am) fr.2.1).2:=q9s g A B (Wd.of am) fr.2.1
 have tno:=j4p (i:=A) (j:=B) (x:=Wd.of am) (s:=fr.2.1) w
 have tok:=j4q (i:=A) (j:=B) (x:=Wd.of am) (s:=fr.2.1) g
 obtain⟨TT,hT⟩:∃TT,TT=q1n st A B (Wd.of am) fr.2.1:=⟨_,rfl⟩
 rw[←hT]at t1' t2 g' tno tok
 obtain⟨tp,tq,ta,m9,r1',r2',r3',c1,cp,cq,ca,f9,e1',e2',e3'⟩:=book_is t2 g'.w
 have c1':=(raw18 (H:=H30) (f:=16) rfl _ _).trans c1
 have cv:BkV m9 tp tq ta TT.2:=⟨cp.v,cq.v,ca.v⟩
 obtain⟨M10,hM10⟩:∃M10,M10=m9.lay (.cells [tp,tq,ta,.int .u64 TT.2.latest] false):=⟨_,rfl⟩
 have f10:Fr m9 M10 []:=by rw[hM10];exact(Fr.refl _).lay _
 have s10:stV (m9.lay (.cells [.sl none 0 0 0 true,.sl none 0 0 0 true,.sl none 0 0 0 true,.int .u64 0] false)) (.ptr (some ⟨m9.next,0⟩)) (.agg [tp,tq,ta,.int .u64 TT.2.latest]) 4=some M10:=by rw[q1w (n:=4) (q0d m9 _) rfl rfl (cv.one _),q1m,hM10]
 have L10:M10.get m9.next=some (.cells [tp,tq,ta,.int .u64 TT.2.latest] false):=by rw[hM10];exact q0d _ _
 have n23:=f3.next
 have nF:∀c,m2.next≤c→c∉F:=fun c hc hm=>by have:=hFlt c hm;omega
 have F710:Fr M7 M10 F:=(t3.step0 f9).step0 f10
 have K10:=F710.get K7 (nF _ (by omega))
 have K10a:=F710.get K7a (nF _ (by omega))
 have K10b:=F710.get K7b (nF _ (by omega))
 have K10c:=F710.get K7c (nF _ (by omega))
 have wasV:BkV M10 sp sq sa st:=by
  have fr:∀{r:Option Nat},(∀c,r=some c→m2.next≤c)→∀c,r=some c→c∉F:=fun h c hc=>nF c (h c hc)
  exact⟨((bp.frame f37 (by simp)).frame F710 (fr e1)).v,((bq.frame f37 (by simp)).frame F710 (fr e2)).v,((ba.frame f37 (by simp)).frame F710 (fr e3)).v⟩
 have nowV:BkV M10 tp tq ta TT.2:=cv.q0p f10
 have hL10:LedgerAt M10 lb TT.2 F8:=(t2.q0p f9).q0p f10
 have sm:=(j1p g).small
 have same:=same_at (H:=H30) rfl wasV nowV sm M10 (Fr.refl _)
 have lK:ldN M10 (.ptr (some ⟨m3.next,0⟩)) 4=some (.agg [sp,sq,sa,.int .u64 st.latest]):=q1b K10 rfl
 have lL:ldN M10 (.ptr (some ⟨m9.next,0⟩)) 4=some (.agg [tp,tq,ta,.int .u64 TT.2.latest]):=q1b L10 rfl
 have la2:ldN M10 (.ptr (some ⟨m3.next+1,0⟩)) 2=some (.agg fr.1.cells):=by rw[q1v K10a (by simp[q02])];rfl
 have lc2:ldN M10 (.ptr (some ⟨m3.next+3,0⟩)) 2=some (.agg (Wd.of am).cells):=by rw[q1v K10c (by simp[q02])];rfl
 simp only[q02]at ba4 bb4 s5 s6 s7 dl l6 l7 t1'
 have up:run E30 (.fn 4) [sl,.int .u64 a,.int .u64 b,.int .i64 n] m=if fr.2.2=0∧tt.2.2=0 then D30.gor 16385 [.int .u64 A,.int .u64 B,.ptr (some ⟨lb,0⟩),.ptr (some ⟨m3.next,0⟩),.ptr (some ⟨m3.next+1,0⟩),.ptr (some ⟨m3.next+2,0⟩),.ptr (some ⟨m3.next+3,0⟩),.int .i64 TT.1,.ptr (some ⟨m9.next,0⟩)] M10 else some (.bool (decide (TT.1=40)),M10):=by
  rw[n4]at s5
  rw[n5]at s6
  rw[n6]at s7
  by_cases h1:fr.2.2=0
  ·by_cases h2:tt.2.2=0
   ·rw[if_pos ⟨h1,h2⟩]
    simp (maxDischargeDepth:=20) only [f4_is (H:=H30) rfl,T.f4,p1,p2,q0g,q0a,ifV,unA,w_f4,h1',h2',kn,Bool.not_true,decide_true]
    simp (maxDischargeDepth:=20) only [j3n (H:=H30),T.g4_0,p2,pB,p1,q1,q0g,q0a,ifV,w_g4_0,q34 _ _ _ _ z6,ra,rb,wA,wB,b1',s4,ba4,bb4,Fr.refl,n4,n5,n6,s5,f5,s6,pk,wam,l6,if_true,dl,s7,l7,t1',c1',s10,dt h1,dt h2,Bool.not_true]
   ·rw[if_neg (fun h=>h2 h.2)]
    simp (maxDischargeDepth:=20) only [f4_is (H:=H30) rfl,T.f4,p1,p2,q0g,q0a,ifV,unA,w_f4,h1',h2',kn,Bool.not_true,decide_true]
    simp (maxDischargeDepth:=20) only [j3n (H:=H30),T.g4_0,p2,pB,p1,q1,q0g,q0a,ifV,w_g4_0,q34 _ _ _ _ z6,ra,rb,wA,wB,b1',s4,ba4,bb4,Fr.refl,n4,n5,n6,s5,f5,s6,pk,wam,l6,if_true,dl,s7,l7,t1',c1',s10,dt h1,df h2,Bool.not_true,Bool.not_false]
  ·rw[if_neg (fun h=>h1 h.1)]
   simp (maxDischargeDepth:=20) only [f4_is (H:=H30) rfl,T.f4,p1,p2,q0g,q0a,ifV,unA,w_f4,h1',h2',kn,Bool.not_true,decide_true]
   simp (maxDischargeDepth:=20) only [j3n (H:=H30),T.g4_0,p2,pB,p1,q1,q0g,q0a,ifV,w_g4_0,q34 _ _ _ _ z6,ra,rb,wA,wB,b1',s4,ba4,bb4,Fr.refl,n4,n5,n6,s5,f5,s6,pk,wam,l6,if_true,dl,s7,l7,t1',c1',s10,df h1,Bool.not_false]
 rw[up]
 by_cases hz:fr.2.2=0∧tt.2.2=0
 ·rw[if_pos hz]
  by_cases hT0:TT.1=0
  ·obtain⟨x,x',ga,ga',hij,hle,hpos,fx1,fx2,hT2⟩:=tok hT0
   rw[Wd.q18]at hle hpos fx1 fx2 hT2
   have oA:st.of A=(x,(st.of A).2):=by unfold LSt.of;rw[ga]
   have oB:st.of B=(x',(st.of B).2):=by unfold LSt.of;rw[ga']
   have frx:fr.1=x.bal:=by rw[hfr];unfold q08;dsimp only;rw[if_neg (by rw[←fr0];simp[hz.1]),oA]
   have ttx:tt.1=x'.bal:=by rw[htt];unfold q08;dsimp only;rw[if_neg (by rw[←tt0];simp[hz.2]),oB]
   have g1:=j05 ga (Wd.of (x.bal.val-am)) w.sa
   have gB1:(st.q25 {x with bal:=Wd.of (x.bal.val-am)}).q7y B=some x':=by rw[g1,if_neg (fun h=>hij h.symm)];exact ga'
   have e1k:q1d q0f x.id (st.q0n.map (·.id))=true:=by
    have:=(LSt.q2i ga).1
    cases hk:q1d q0f x.id (st.q0n.map (·.id)) with
    |true=>rfl
    |false=>rw[←this,LSt.q3p hk]at ga;cases ga
   have ids1:=LSt.q39 (st:=st) (a:={x with bal:=Wd.of (x.bal.val-am)}) e1k
   have o1:=of_setA gB1 (Wd.of (x'.bal.val+am)) (by rw[ids1];exact w.sa)
   have o0:=of_setA ga (Wd.of (x.bal.val-am)) w.sa
   have oTA:TT.2.of A=({x with bal:=Wd.of (x.bal.val-am)},(st.of A).2):=by rw[hT2,o1,if_neg hij,o0,if_pos rfl]
   have oTB:TT.2.of B=({x' with bal:=Wd.of (x'.bal.val+am)},(st.of B).2):=by rw[hT2,o1,if_pos rfl,o0,if_neg (fun h=>hij h.symm)]
   have bTA:q08 TT.2 A=(Wd.of (x.bal.val-am),(st.of A).2.1.scale,0):=by unfold q08;dsimp only;rw[oTA,if_neg (by rw[←fr0];simp[hz.1])]
   have bTB:q08 TT.2 B=(Wd.of (x'.bal.val+am),(st.of B).2.1.scale,0):=by unfold q08;dsimp only;rw[oTB,if_neg (by rw[←tt0];simp[hz.2])]
   have la:=j5e (H:=H30) rfl hL10 g'.w A
   have lb':=j5e (H:=H30) rfl hL10 g'.w B
   rw[bTA]at la
   rw[bTB]at lb'
   have xok:=(w.oka x (List.mem_of_getElem? (LSt.q2i ga).2)).1
   have xok':=(w.oka x' (List.mem_of_getElem? (LSt.q2i ga').2)).1
   have ad:=fun m=>j5b (H:=H30) rfl (Wd.q44 fx1) amok m
   have su:=fun m=>sub_at (H:=H30) rfl (Wd.q44 fx2) amok m
   rw[Wd.q18,Wd.q18,show x.bal.val-am+am=x.bal.val by omega,q2b (Wd.q6h xok),Wd.of_of xok]at ad
   rw[Wd.q18,Wd.q18,show x'.bal.val+am-am=x'.bal.val by omega,q2b (Wd.q6h xok'),Wd.of_of xok']at su
   obtain⟨lw,hlw⟩:∃lw,lw=Wd.of (x.bal.val-am):=⟨_,rfl⟩
   obtain⟨mw,hmw⟩:∃mw,mw=Wd.of (x'.bal.val+am):=⟨_,rfl⟩
   obtain⟨s1,hs1⟩:∃s1,s1=(st.of A).2.1.scale:=⟨_,rfl⟩
   obtain⟨s2,hs2⟩:∃s2,s2=(st.of B).2.1.scale:=⟨_,rfl⟩
   rw[←hlw]at la ad
   rw[←hmw]at lb' su
   rw[←hs1]at la
   rw[←hs2]at lb'
   obtain⟨M11,hM11⟩:∃M11,M11=M10.lay (.cells (q02 lw s1) false):=⟨_,rfl⟩
   obtain⟨M12,hM12⟩:∃M12,M12=M11.lay (.cells (q02 mw s2) false):=⟨_,rfl⟩
   obtain⟨M13,hM13⟩:∃M13,M13=M12.lay (.cells x.bal.cells false):=⟨_,rfl⟩
   obtain⟨M14,hM14⟩:∃M14,M14=M13.lay (.cells x'.bal.cells false):=⟨_,rfl⟩
   have k11:Fr M10 M11 []:=by rw[hM11];exact(Fr.refl _).lay _
   have k12:Fr M11 M12 []:=by rw[hM12];exact(Fr.refl _).lay _
   have k13:Fr M12 M13 []:=by rw[hM13];exact(Fr.refl _).lay _
   have k14:Fr M13 M14 []:=by rw[hM14];exact(Fr.refl _).lay _
   have n11:M11.next=M10.next+1:=by rw[hM11];rfl
   have n12:M12.next=M10.next+2:=by rw[hM12];show M11.next+1=_;omega
   have n13:M13.next=M10.next+3:=by rw[hM13];show M12.next+1=_;omega
   have q11:stV (M10.lay (.cells [.int .i64 0,.int .u64 0,.int .i64 0] false)) (.ptr (some ⟨M10.next,0⟩)) (.agg (q02 lw s1)) 3=some M11:=by rw[q1w (n:=3) (q0d M10 _) rfl rfl rfl,q1m,hM11]
   have q12:stV (M11.lay (.cells [.int .i64 0,.int .u64 0,.int .i64 0] false)) (.ptr (some ⟨M11.next,0⟩)) (.agg (q02 mw s2)) 3=some M12:=by rw[q1w (n:=3) (q0d M11 _) rfl rfl rfl,q1m,hM12]
   have q13:stV (M12.lay (.cells [.int .i64 0,.int .u64 0] false)) (.ptr (some ⟨M12.next,0⟩)) (.agg x.bal.cells) 2=some M13:=by rw[q1w (n:=2) (q0d M12 _) rfl rfl rfl,q1m,hM13]
   have q14:stV (M13.lay (.cells [.int .i64 0,.int .u64 0] false)) (.ptr (some ⟨M13.next,0⟩)) (.agg x'.bal.cells) 2=some M14:=by rw[q1w (n:=2) (q0d M13 _) rfl rfl rfl,q1m,hM14]
   have d11:ldN M12 (.ptr (some ⟨M10.next,0⟩)) 2=some (.agg lw.cells):=by rw[q1v (k12.get (by rw[hM11];exact q0d _ _) (by simp)) (by simp[q02])];rfl
   have d12:ldN M13 (.ptr (some ⟨M11.next,0⟩)) 2=some (.agg mw.cells):=by rw[q1v (k13.get (by rw[hM12];exact q0d _ _) (by simp)) (by simp[q02])];rfl
   have c12:ldN M12 (.ptr (some ⟨m3.next+3,0⟩)) 2=some (.agg (Wd.of am).cells):=by rw[q1v ((k11.step0 k12).get K10c (by simp)) (by simp[q02])];rfl
   have c13:ldN M13 (.ptr (some ⟨m3.next+3,0⟩)) 2=some (.agg (Wd.of am).cells):=by rw[q1v (((k11.step0 k12).step0 k13).get K10c (by simp)) (by simp[q02])];rfl
   have K14:Fr M10 M14 []:=((k11.step0 k12).step0 k13).step0 k14
   have hlen:st.q0n.length=TT.2.q0n.length:=by rw[hT2];unfold LSt.q25;simp
   obtain⟨M15,u1,u2⟩:=j98 (K14.get K10 (by simp)) (K14.get L10 (by simp)) (wasV.q0p K14) (nowV.q0p K14) hlen w.la (A:=A) (B:=B) (by rw[hT2];intro k y hk h1 h2;exact j4j ga ga' _ _ hk h1 h2) (.ptr (some ⟨m3.next+1,0⟩)) (.ptr (some ⟨m3.next+2,0⟩)) (.ptr (some ⟨M12.next,0⟩)) (.ptr (some ⟨M13.next,0⟩)) st.q0n.length 0 M14 (by omega) (Fr.refl _)
   simp only[Int.natCast_zero]at u1
   have K15:=K14.step0 u2
   have p13:ldN M15 (.ptr (some ⟨M12.next,0⟩)) 2=some (.agg x.bal.cells):=q1b ((k14.step0 u2).get (by rw[hM13];exact q0d _ _) (by simp)) rfl
   have p14:ldN M15 (.ptr (some ⟨M13.next,0⟩)) 2=some (.agg x'.bal.cells):=q1b (u2.get (by rw[hM14];exact q0d _ _) (by simp)) rfl
   have pa:ldN M15 (.ptr (some ⟨m3.next+1,0⟩)) 2=some (.agg x.bal.cells):=by rw[←frx,q1v (K15.get K10a (by simp)) (by simp[q02])];rfl
   have pb:ldN M15 (.ptr (some ⟨m3.next+2,0⟩)) 2=some (.agg x'.bal.cells):=by rw[←ttx,q1v (K15.get K10b (by simp)) (by simp[q02])];rfl
   have aK:∀i:Nat,ld1 M15 (.ptr (some ⟨m3.next,i⟩))=[sp,sq,sa,AV.int .u64 st.latest][i]?:=fun i=>q0j (K15.get K10 (by simp))
   have aL:∀i:Nat,ld1 M15 (.ptr (some ⟨m9.next,i⟩))=[tp,tq,ta,AV.int .u64 TT.2.latest][i]?:=fun i=>q0j (K15.get L10 (by simp))
   obtain⟨eP,uP1,uP2⟩:=uP
   have lp:=(wasV.q0p K15).p.q4n uP1
   have lp':=(nowV.q0p K15).p.q4n uP1
   have hps:TT.2.q0b=st.q0b:=by rw[hT2];rfl
   rw[List.length_map]at lp lp'
   rw[hps]at lp'
   have en:∃m',D30.gor 16390 [.ptr (some ⟨m3.next,0⟩),.ptr (some ⟨m3.next+1,0⟩),.ptr (some ⟨m3.next+2,0⟩),.ptr (some ⟨m9.next,0⟩),.ptr (some ⟨M12.next,0⟩),.ptr (some ⟨M13.next,0⟩)] M15=some (.bool true,m'):=by
    simp only[Wd.cells]at p13 p14 pa pb
    by_cases h0:st.q0b.length=0
    ·exact⟨M15,by simp only[g4_6_is (H:=H30),T.g4_6,q1,p1,p2,ifV,w_g4_6,p13,p14,pa,pb,q30,decide_true,Bool.and_self,aK,aL,lp,lp',dt (show (st.q0b.length:Int)=0 by omega)]⟩
    ·obtain⟨bs,o,_,y2,_,_,y5⟩:=(wasV.q0p K15).p.ixT uP1 uP2 (i:=0) (by rw[List.length_map];omega)
     obtain⟨bs',o',_,v2,_,_,v5⟩:=(nowV.q0p K15).p.ixT uP1 uP2 (i:=0) (by rw[List.length_map,hps];omega)
     rw[List.getElem_map]at y5 v5
     have e0:TT.2.q0b[0]'(by rw[hps];omega)=st.q0b[0]'(by omega):=by simp only[hps]
     rw[e0]at v5
     have pe:=pur_eql (st.q0b[0]'(by omega)) (st.q0b[0]'(by omega))
     rw[dt rfl]at pe
     simp only[Int.natCast_zero]at y2 v2
     exact⟨M15,by simp only[g4_6_is (H:=H30),T.g4_6,q1,p1,p2,ifV,w_g4_6,p13,p14,pa,pb,q30,decide_true,Bool.and_self,aK,aL,lp,lp',df (show ¬(st.q0b.length:Int)=0 by omega),y2,v2,y5,v5,pe]⟩
   obtain⟨m',en⟩:=en
   refine⟨m',?_⟩
   rw[n11]at q12 d12
   rw[n12]at q13 u1 en
   rw[n13]at q14 u1 en
   simp only[q02,Wd.cells]at la lb' q11 q12 q13 q14 d11 d12 c12 c13 ad su
   simp only[j3o (H:=H30),T.g4_1,p2,q1,p1,q0a,ifV,w_g4_1,dt hT0,Bool.not_true]
   simp (maxDischargeDepth:=20) only [g4_2_is (H:=H30),T.g4_2,p1,pB,q1,q0g,w_g4_2,la,lb',Fr.refl,n11,n12,n13,q11,k11,q12,d11,c12,ad,q13,d12,c13,su,q14,u1]
   exact en
  ·obtain⟨t5,_,t6⟩:=tno hT0
   obtain⟨t7,t8⟩:=t6 (by rw[←fr0];exact hz.1) (by rw[←tt0];exact hz.2)
   rw[t5,sameB_refl]at same
   have l2:decide (TT.1=45)=decide (A=B):=t7
   have be:(decide (TT.1=45)==decide (A=B))=true:=by rw[l2];simp
   by_cases h42:TT.1=42
   ·have hlt:=t8 h42
    have frx:fr.1=(st.of A).1.bal:=by rw[hfr];unfold q08;dsimp only;rw[if_neg (by rw[←fr0];simp[hz.1])]
    rw[Wd.q18,←frx]at hlt
    have cm:=cmp_at (H:=H30) rfl frok amok M10
    rw[Wd.q18]at cm
    have sg:=j2f (fr.1.val-am)
    rw[dt (show fr.1.val-am<0 by omega)]at sg
    simp only[Wd.cells]at la2 lc2 cm
    rw[t5]at lL
    exact⟨M10,by simp only[j3o (H:=H30),T.g4_1,p2,q1,p1,q0a,ifV,w_g4_1,df hT0,Bool.not_false,be,lK,lL,same,dt h42,Bool.not_true,la2,lc2,cm,sg]⟩
   ·rw[t5]at lL
    exact⟨M10,by simp only[j3o (H:=H30),T.g4_1,p2,q1,p1,q0a,ifV,w_g4_1,df hT0,Bool.not_false,be,lK,lL,same,df h42]⟩
 ·rw[if_neg hz]
  have hT40:TT.1=40:=by
   by_cases hT0:TT.1=0
   ·obtain⟨x,x',ga,ga',_⟩:=tok hT0
    exfalso
    apply hz
    rw[fr0,tt0]
    unfold LSt.of
    rw[ga,ga']
    exact⟨rfl,rfl⟩
   ·refine(tno hT0).2.1 ?_
    rw[←fr0,←tt0]
    by_cases h1:fr.2.2=0
    ·exact .inr (fun h=>hz ⟨h1,h⟩)
    ·exact .inl h1
  exact⟨M10,by rw[dt hT40]⟩
end
end Go.Proofs.YtlginbmjiecglaaGreatDoor
namespace Go.Abs
section
open Go Go.ChangeShapes Go.WideShapes Go.ChangeAt Go.RowKit
theorem q92 {H:Type} {enc:TypeId×Value→H} {a:Assume} {C:Checked} {os:Os} {f:FuncId} {fn:Func} {s:ChangeSpec} {conds:List PathCond} {apart fresh handsOn again:Bool} {X:World→Array Value→Prop}
  (hX:∀(w w':World) (args:Array Value),w.heap=w'.heap→X w args→X w' args)
  (own:ownKnob C.prog.godebug=none) (started:os.Started) (noInit:C.prog.inits.idxOf? f=none) (hfn:C.prog.funcs[f]? = some fn)
  (witness:∃(w:World) (tape:Tape) (i:Input),w.os=os∧(w.forCall tape i).Shaped C.prog∧i.vars=[]∧Input.okWide C.prog (w.forCall tape i) .any w.heap.size f i∧
   ((s.pre enc C.prog fn conds apart (w.forCall tape i).memory i.args∧X (w.forCall tape i).memory i.args)∧sizedMet enc C.prog fn (OpenSpec.ofChange s) apart (w.forCall tape i).memory i.args)∧a.holds C.prog (lone (Frame.enter C.prog f i.args .normal) [] (w.forCall tape i)))
  (contract:∀(W:World) (base:Nat) (args:Array Value) (ds gs:List (DataW H)) (before:List MemPlace),
   (∀(j:Nat) t v,fn.params[j]? = some t→args[j]? = some v→Value.okWide C.prog W .any base t v)→
   DataW.Whole enc C.prog fn.params.toList s.vars apart W args.toList ds gs before→
   conds.all (PathCond.test C.prog ⟨fn.params.toList,ds,s.plain.varTypes C.prog,gs⟩)=true→
   (DataW.weightsEach C.prog (fn.params.toList++s.plain.varTypes C.prog) (ds++gs)).all (·≤reachBytes)=true→X W args→W.ShapedOpen C.prog→
   a.holds C.prog (lone (Frame.enter C.prog f args .normal) [] W)→
   Calls C.prog f args W fun e W'=>∃v,e=.returned v∧s.post enc C.prog fn apart fresh handsOn again W args v W') :
  ReturnsInHanded a C os f .any (fun w args=>(s.pre enc C.prog fn conds apart w args∧X w args)∧sizedMet enc C.prog fn (OpenSpec.ofChange s) apart w args) (s.post enc C.prog fn apart fresh handsOn again):=by
 refine returnsInHanded_of_calls own started noInit witness ?_
 intro w tape i _ hsh _ hok hpre hholds
 obtain⟨_,_,_,fn',hfn',_,_,_,_,hval⟩:=hok
 have e:fn'=fn:=Option.some.inj (hfn'.symm.trans hfn)
 subst e
 obtain⟨⟨⟨ds,gs,before,hw,hc⟩,hx⟩,hz⟩:=hpre
 have hw':=DataW.Whole.of_heap (w':=w.forCall tape i) (by rfl) hw
 refine(contract (w.forCall tape i) w.heap.size i.args ds gs before hval hw' hc (hz.weights hw) (hX _ _ _ (by rfl) hx) hsh hholds).mono fun e W' ⟨v,he,hp⟩=>?_
 subst he
 exact ChangeSpec.post_blind hp
section
variable {P:Program} {W:World} {H:Type} {enc:TypeId×Value→H} {t e:TypeId} {b:Nat} {sp:Nat→Bool} {held:Bool} {f n:Nat}
theorem laid_strs {cs:List Value} {ss:List (List UInt8)} {p:List MemPlace} (hd:DataW.trod enc P W b sp held f t cs=some (.agg (ss.map fun s=>.lit (.string s)),p)) (ht:P.underlying t=some (.array n e)) (he:P.underlying e=some .string) (hc:P.cellsOf e=1) (hct:P.cellsOf t=n) :
  cs.map (absP W)=ss.map AV.str:=by
 obtain⟨xs,m,rfl,hx,hl,hn,hel⟩:=DataW.trod_array ht hd
 simp only[Prod.mk.injEq,DataW.agg.injEq]at hx
 have hxl:ss.length=n:=by have:=congrArg List.length hx.1;simp at this;omega
 apply List.ext_getElem?
 intro i
 by_cases hi:i<n
 ·have h1:=hel i hi
  rw[hc,Nat.mul_one,List.getElem?_eq_getElem (by omega)]at h1
  obtain⟨s,e1,e2,_⟩:=DataW.trod_string he h1
  have h2:cs[i]? = some (.string s):=by
   have:((cs.drop i).take 1)[0]? = some (.string s):=by rw[e1];rfl
   rw[List.getElem?_take,if_pos (by omega),List.getElem?_drop,Nat.add_zero]at this
   exact this
  have h3:ss[i]? = some s.data.toList:=by
   have h4:=congrArg (fun l=>l[i]?) hx.1
   simp only[List.getElem?_map]at h4
   rw[List.getElem?_eq_getElem (by omega),List.getElem?_eq_getElem (by omega),e2]at h4
   simp only[Option.map_some,Option.some.injEq,DataW.lit.injEq,Lit.string.injEq]at h4
   rw[List.getElem?_eq_getElem (by omega),h4]
  rw[List.getElem?_map,List.getElem?_map,h2,h3];rfl
 ·rw[List.getElem?_eq_none (by simp;omega),List.getElem?_eq_none (by simp;omega)]
theorem var_get {nm:String} {g:Nat} {cs:Array Value} (hg:P.globalNamed nm=some g) (h:W.var? P nm=some cs):(j48 W).get g=some (.cells (cs.toList.map (absP W)) true):=by
 simp only[World.var?,hg,Option.bind_some]at h
 rw[q8j]
 unfold q8i
 split at h
 ·rename_i e
  cases h
  rw[e]
 ·cases h
end
end
end Go.Abs
namespace Go.Proofs.YtlginbmjiecglaaGreatDoor
section
open Go Go.Abs Go.ChangeShapes Go.WideShapes Go.ChangeAt Go.RowKit
set_option maxRecDepth 100000
theorem Tryz.ownL:ownKnob Tryz.prog.godebug=none:=by kernel_rfl
theorem Tryz.laidOutL:laidOutB Tryz.prog=true:=by kernel_rfl
theorem beginsL:Tryz.prog.globals.size<(begin Tryz.prog (fun _ _=>0) default).world.heap.size:=of_decide_eq_true (by kernel_rfl)
abbrev laidH : List (String × DataW Unit) := [("bursar/bursarhand.coins", Rows.laid_bursar_bursarhand_coins)]
theorem gCoins : Tryz.prog.globalNamed "bursar/bursarhand.coins" = some 1 := by kernel_rfl
theorem tCoins:(Tryz.prog.globals[1]?).map (·.type)=some 79:=by kernel_rfl
theorem door_met (os:Os) (args:Array Value):laidMetH Tryz.prog laidH ((World.doorLaid Tryz.prog 400 os).forCall (fun _ _=>0) ⟨#[],args,[]⟩).memory:=
 laidMetH_of_parts3 (fuel:=8) (laidMet_of_run' 8 (by kernel_rfl) (by kernel_rfl)) (by kernel_rfl) (by kernel_rfl)
theorem coins_of {W:World} (h:laidMetH Tryz.prog laidH W):∃ro,(j48 W).get 1=some (.cells j9h ro):=by
 rw[MakeChecks.laidMetH_plain _ _ _ (by kernel_rfl)]at h
 obtain⟨ps,⟨g0,t0,cs0,f0,p0,q0,hg0,ht0,hv0,hd0,_,_⟩,_,_⟩:=h
 obtain rfl:=Option.some.inj (gCoins.symm.trans hg0)
 obtain rfl:=Option.some.inj (tCoins.symm.trans ht0)
 have e:=laid_strs (n:=3) (e:=9) (ss:=[nmEUR,nmJPY,nmUSD]) hd0 (by kernel_rfl) (by kernel_rfl) (by kernel_rfl) (by kernel_rfl)
 have g:=var_get gCoins hv0
 rw[e]at g
 exact⟨true,g⟩
theorem arg_acts {W:World} {H:Type} {enc:TypeId×Value→H} {v:Value} {base:Nat} {d:DataW H} {p:List MemPlace} (h:Value.okWide Tryz.prog W .any base 22 v) (hr:DataW.Trod enc Tryz.prog W 0 (fun _=>true) true 22 v d p) :
  ∃l:List (Int×Int×Int×Int),ARow 4 (j48 W) (absV W v) (l.map actC)∧∀a∈l,i64 a.2.2.2:=by
 have hu:Tryz.prog.underlying 22=some (.slice 77):=by kernel_rfl
 have hi:Tryz.prog.underlying 3=some (.int .i64):=by kernel_rfl
 refine arg_rows (f:=actC) (Q:=fun a=>i64 a.2.2.2) (n:=4) (by omega) hu (by kernel_rfl) h hr ?_ (fun a=>⟨rfl,rfl⟩)
 intro m cs y hl ht
 have hst:∃fs,Tryz.prog.underlying 77=some (.struct fs)∧∀k,k<4→∃g∈fs.toList,g.offset=k∧g.type=3:=by
  refine⟨_,rfl,?_⟩
  intro k hk
  have:k=0∨k=1∨k=2∨k=3:=by omega
  rcases this with rfl|rfl|rfl|rfl
  ·exact⟨_,List.mem_cons_self,rfl,rfl⟩
  ·exact⟨_,List.mem_cons_of_mem _ List.mem_cons_self,rfl,rfl⟩
  ·exact⟨_,List.mem_cons_of_mem _ (List.mem_cons_of_mem _ List.mem_cons_self),rfl,rfl⟩
  ·exact⟨_,List.mem_cons_of_mem _ (List.mem_cons_of_mem _ (List.mem_cons_of_mem _ List.mem_cons_self)),rfl,rfl⟩
 obtain⟨fs,hfs,hfl⟩:=hst
 obtain⟨m',_,hel⟩:=trod_struct hfs ht
 have hc1:Tryz.prog.cellsOf 3=1:=by kernel_rfl
 have fld:∀k,k<4→∃n,cs[k]? = some (.int .i64 n)∧i64 n:=fun k hk=>by
  obtain⟨g,hg,h1,h2⟩:=hfl k hk
  obtain⟨z,hz⟩:=hel g hg
  rw[h1,h2,hc1,List.drop_eq_getElem_cons (show k<cs.length by omega),List.take_succ_cons,List.take_zero]at hz
  obtain⟨n,e1,e2,e3⟩:=trod_int hi hz
  have e4:IntKind.i64.min=-9223372036854775808:=by decide
  have e5:IntKind.i64.max=9223372036854775807:=by decide
  exact⟨n,by rw[List.getElem?_eq_getElem (by omega),e1],by unfold i64;omega⟩
 obtain⟨n0,e0,_⟩:=fld 0 (by omega)
 obtain⟨n1,e1,_⟩:=fld 1 (by omega)
 obtain⟨n2,e2,_⟩:=fld 2 (by omega)
 obtain⟨n3,e3,h3⟩:=fld 3 (by omega)
 match cs,hl,e0,e1,e2,e3 with
 |[a,b,c,d],_,e0,e1,e2,e3=>
  simp only[ge,Option.some.injEq]at e0 e1 e2 e3
  subst e0 e1 e2 e3
  exact⟨(n0,n1,n2,n3),rfl,h3⟩
set_option maxHeartbeats 2000000 in
theorem q9d (os:Os) (started:os.Started) (H:Type) (enc:TypeId×Value→H) :
  ReturnsInHanded {} Tryz.checked os 4 .any (fun w args=>(Rows.ledgerMovesSpec.pre enc Tryz.prog Tryz.f4 [] false w args∧laidMetH Tryz.prog laidH w)∧sizedMet enc Tryz.prog Tryz.f4 (OpenSpec.ofChange Rows.ledgerMovesSpec) false w args)
   (Rows.ledgerMovesSpec.post enc Tryz.prog Tryz.f4 false true false false):=by
 refine q92 (C:=Tryz.checked) (X:=fun w _=>laidMetH Tryz.prog laidH w) (fun _ _ _ hh h=>h.of_heap hh) Tryz.ownL started (by kernel_rfl) Tryz.func4
  (ChangeSpec.witness_shaped (enc:=enc) (C:=Tryz.checked) (os:=os) (X:=fun w _=>laidMetH Tryz.prog laidH w) false (World.doorLaid Tryz.prog 400 os) #[.slice none 0 0,.int .u64 0,.int .u64 0,.int .i64 0] 8 rfl (World.shaped_of_RefB (by kernel_rfl) (by kernel_rfl)) (by kernel_rfl) (by kernel_rfl) (by kernel_rfl) (door_met os _)) ?_
 intro W base args ds gs before hval0 hW _ _ hL hsh _
 have hW':=hW
 obtain⟨p,q,hA0,hV,rfl,hfz,hnd⟩:=hW
 have hA:DataW.TrodAll enc Tryz.prog W 0 (fun _=>true) true Tryz.f4.params.toList args.toList ds p:=hA0
 rw[Tryz.params4]at hA
 obtain⟨v1,vs1,d1,ds1,p1,q1,ha1,rfl,hr1,hA1⟩:=q5x hA
 obtain⟨v2,vs2,d2,ds2,p2,q2,rfl,rfl,hr2,hA2⟩:=q5x hA1
 obtain⟨v3,vs3,d3,ds3,p3,q3,rfl,rfl,hr3,hA3⟩:=q5x hA2
 obtain⟨v4,vs4,d4,ds4,p4,q4,rfl,rfl,hr4,hA4⟩:=q5x hA3
 obtain⟨rfl,rfl⟩:=j9b hA4
 obtain⟨rfl,rfl⟩:=trodVars_none hV
 have hargs:args=#[v1,v2,v3,v4]:=by rw[←Array.toArray_toList (xs:=args),ha1]
 subst hargs
 obtain⟨acts,hr,hN⟩:=arg_acts (hval0 0 22 v1 (by kernel_rfl) rfl) hr1
 obtain⟨a,rfl,hx1,hx2⟩:=j20 (W:=W) (k:=.u64) (P:=Tryz.prog) (t:=26) (by kernel_rfl) (hval0 1 26 v2 (by kernel_rfl) rfl)
 obtain⟨b,rfl,hy1,hy2⟩:=j20 (W:=W) (k:=.u64) (P:=Tryz.prog) (t:=26) (by kernel_rfl) (hval0 2 26 v3 (by kernel_rfl) rfl)
 obtain⟨n,rfl,hz1,hz2⟩:=j20 (W:=W) (k:=.i64) (P:=Tryz.prog) (t:=3) (by kernel_rfl) (hval0 3 3 v4 (by kernel_rfl) rfl)
 have e1:IntKind.u64.min=0:=by decide
 obtain⟨m',hrun⟩:=lmoves_is (j48 W) hr hN (coins_of hL) (a:=a) (b:=b) (n:=n) (by omega) (by omega)
 refine(law_calls (E:=E30) E30_ok (f:=4) Tryz.func4 (by kernel_rfl) (by decide +kernel) (j4k hsh beginsL) (args:=[v1,.int .u64 a,.int .u64 b,.int .i64 n]) hrun).mono fun e W' ⟨he,hb⟩=>?_
 subst he
 exact⟨_,rfl,law_post (P:=Tryz.prog) (tb:=4) Tryz.laidOutL (by decide +kernel) (by kernel_rfl) (by kernel_rfl) rfl hW' rfl hb⟩
theorem z2w:Rows.LedgerMovesSaid:=
 OpenClaim.holds_of_wide 4 Tryz.f4 rfl rfl rfl rfl rfl rfl rfl ⟨rfl,rfl,rfl,rfl,rfl⟩ rfl rfl rfl rfl rfl (by kernel_rfl) Tryz.func4 (by kernel_rfl)
  (of_decide_eq_true (by kernel_rfl)) (by unfold Func.isWrapper;first|(rw[if_pos (by decide +kernel)];kernel_rfl)|(rw[if_neg (by decide +kernel)];exact⟨rfl,rfl⟩))
  (fun os started H enc _=>q9d os started H enc)
theorem ledgerMoves_holds:Rows.LedgerMovesCardSaid:=
 Claim7.holds_tied_plain_at .later [] [.data] true _ false
  z2w (fun _ h=>by cases h) (by kernel_rfl) (fun _ h=>by cases h) ledgerMoves_row_tie rfl ⟨rfl,rfl⟩ (by kernel_rfl) rfl
  (fun f fn hf hfn=>by
   obtain rfl : f = 4 := Option.some.inj ((show Tryz.prog.funcNamed "bursar/bursarlaw19.LedgerMoves" = some 4 by kernel_rfl).symm.trans hf) |>.symm
   obtain rfl:fn=Tryz.f4:=(Option.some.inj (Tryz.func4.symm.trans hfn)).symm
   exact⟨by kernel_rfl,fun j t ht=>by
    rw[Tryz.params4]at ht
    have hm:t∈[22,26,26,3]:=by simpa using Array.mem_of_getElem? ht
    have hall:([22,26,26,3].all fun u=>!Tryz.prog.wantsStandIn u)=true:=by kernel_rfl
    exact(show Tryz.prog.wantsStandIn t=false by simpa using List.all_eq_true.1 hall t hm)⟩)
  (by kernel_rfl)
#print axioms ledgerMoves_holds
end
end Go.Proofs.YtlginbmjiecglaaGreatDoor
