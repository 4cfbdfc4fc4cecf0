/- Texts of one claim, put together. -/
import Derived.Test.YtlginbmjiecglaaGreatDoorK0
import Derived.Test.YtlginbmjiecglaaGreatDoorK19
import Derived.Test.YtlginbmjiecglaaGreatDoorK28
namespace Go.Proofs.YtlginbmjiecglaaGreatDoor
section
set_option maxRecDepth 4000
open Go Go.Abs
section
variable {m:Mem} {b:Nat} {st:LSt} {F:List Nat}
theorem j71 {rb:Option Nat} {sa:AV} (h4:q1s 4 m sa (st.q0n.map (·.cells)) rb) (w:LWf st) {id:Int} {a:AccV} (g1:st.q7y id=some a) (hka:q1d q0f id (st.q0n.map (·.id))=true) :
  ∃bb,sa=.sl (some ⟨bb,0⟩) 4 st.q0n.length st.q0n.length false∧bb<m.next∧ixA 4 st.q0n.length ⟨bb,0⟩ ((st.iA id:Nat):Int)=some (.ptr (some ⟨bb,st.iA id*4⟩))∧ld1 m (.ptr (some ⟨bb,st.iA id*4+1⟩))=some (.str a.coin)∧
   ldN m (.ptr (some ⟨bb,st.iA id*4+2⟩)) 2=some (.agg [.int .i64 a.bal.hi,.int .u64 a.bal.lo])∧st.q0n[st.iA id]? = some a:=by
 obtain⟨a',q1,q2,q3,q4⟩:=LSt.q2q hka
 rw[g1]at q1
 cases q1
 have hlt:st.iA id<st.q0n.length:=(List.getElem?_eq_some_iff.1 q3).1
 obtain⟨bb,hbb,x1,x2,x3,x4⟩:=h4.fld (i:=st.iA id) (by rw[List.length_map];exact hlt)
 have hB:bb<m.next:=by subst hbb;exact h4.lt
 rw[List.length_map]at x1 x2
 have q5:st.q0n[st.iA id]? = some a:=q3
 have ha:st.q0n[st.iA id]=a:=by have q6:=q5;rw[List.getElem?_eq_getElem hlt]at q6;simpa using q6
 have x5:=x3 1 (by omega)
 have x6:=x4 2 2 (by omega)
 rw[List.getElem_map,ha]at x5 x6
 exact⟨bb,x1,hB,x2,x5,x6,q5⟩
theorem j2a (h:RefAt m b st F) (w:LWf st) (i j:Int) {x:Wd} (hx:x.ok) (s:Int) :
  ∃m',run E22 (.fn 32) [.ptr (some ⟨b,0⟩),.int .u64 i,.int .u64 j,.agg (q02 x s)] m=some (.int .i64 (q1n st i j x s).1,m')∧RefAt m' b (q1n st i j x s).2 F∧Fr m m' F:=by
 have gi:=j37 (H:=H22) rfl h (by have:=w.la;omega) i
 have gj:=j37 (H:=H22) rfl h (by have:=w.la;omega) j
 have hF:=h.lt
 obtain⟨sp,sq,sa,rp,rq,ra,h1,h2,h3,h4,h5⟩:=h.ex
 have hb:=Mem.q0w h1
 have done:∀M,Fr m M []→∀v:AV,∃m',some (v,M)=some (v,m')∧RefAt m' b st F∧Fr m m' F:=fun M hM v=>⟨M,rfl,h.q0p hM,hM.any F⟩
 have none_idx:∀id,st.q7y id=none→q73 (fun p:AccV=>decide (p.id=id)) st.q0n 0=-1:=by
  intro id hn
  apply j14 w
  cases hk:q1d q0f id (st.q0n.map (·.id)) with
  |false=>rfl
  |true=>obtain⟨a,a1,_⟩:=LSt.q2q hk;rw[hn]at a1;cases a1
 have cm:=dt (show (-1:Int)<0 by omega)
 rw[z0y]
 rcases LSt.q10 w i with ⟨e,hn⟩|⟨a,p,e,g1,g2,hid,hka,hpn,hkp,ma,mp⟩
 ·rw[none_idx i hn]at gi
  rw[e]
  simp only[ne_eq,show ¬(40:Int)=0 by omega,not_false_eq_true,if_true,q02]
  simp (maxDischargeDepth:=20) only [z0p (H:=H22) rfl,T.f32,p2,q1h,q0a,ifV,j2n,AV.one,AV.cells,lcl,gi,gj,frl,Fr.refl,cm]
  exact done _ ((Fr.refl m).lay _) _
 ·rw[j4e w hka]at gi
  have ci:=df (show ¬((st.iA i:Nat):Int)<0 by omega)
  rw[e]
  rcases LSt.q10 w j with ⟨e',hn⟩|⟨a',p',e',g1',g2',hid',hka',hpn',hkp',ma',mp'⟩
  ·rw[none_idx j hn]at gj
   rw[e']
   simp only[ne_eq,not_true_eq_false,if_false,show ¬(40:Int)=0 by omega,not_false_eq_true,if_true,q02]
   simp (maxDischargeDepth:=20) only [z0p (H:=H22) rfl,T.f32,p2,q1h,q0a,ifV,j2n,AV.one,AV.cells,lcl,gi,gj,frl,Fr.refl,ci,cm]
   exact done _ ((Fr.refl m).lay _) _
  ·rw[j4e w hka']at gj
   have cj:=df (show ¬((st.iA j:Nat):Int)<0 by omega)
   rw[e']
   obtain⟨bb,x1,hB,x2,x5,x6,q5⟩:=j71 h4 w g1 hka
   obtain⟨bb',y1,_,y2,y5,y6,q5'⟩:=j71 h4 w g1' hka'
   subst x1
   cases y1
   have a3:∀i:Nat,ld1 m (.ptr (some ⟨b,i⟩))=[sp,sq,.sl (some ⟨bb,0⟩) 4 st.q0n.length st.q0n.length false,.int .u64 st.latest,.int .i64 st.most][i]?:=fun i=>q0j h1
   have hij:(i=j)=(((st.iA i:Nat):Int)=((st.iA j:Nat):Int)):=by
    apply propext
    constructor
    ·rintro rfl;rfl
    ·intro he
     have he':st.iA i=st.iA j:=by omega
     rw[he',q5']at q5
     cases q5
     rw[←hid,←hid']
   simp only[ne_eq,not_true_eq_false,if_false,q02]
   by_cases h6:i=j
   ·rw[if_pos h6]
    have:=hij▸h6
    simp (maxDischargeDepth:=20) only [z0p (H:=H22) rfl,T.f32,p2,q1h,q0a,ifV,j2n,AV.one,AV.cells,lcl,gi,gj,frl,Fr.refl,ci,cj]
    simp only[q7o (H:=H22),T.j3m,p2,q0a,z0h,dt this]
    exact done _ ((Fr.refl m).lay _) _
   ·rw[if_neg h6]
    have h7:¬((st.iA i:Nat):Int)=((st.iA j:Nat):Int):=by rw[←hij];exact h6
    rw[hpn,hpn']
    by_cases h8:a.coin=a'.coin
    ·rw[if_neg (by simp[h8])]
     have ft:=rf_at (H:=H22) rfl h w g2 hx s
     have po:=fun m=>z8e (H:=H22) rfl (w.oka a ma).1 hx m
     have hsl:=j2f (a.bal.val-x.val)
     unfold trT
     obtain⟨fe,hfe⟩:∃fe,fe=q3b p x s:=⟨_,rfl⟩
     simp only[←hfe,q02,Wd.cells]at ft po⊢
     by_cases f0:fe=0
     ·subst f0
      rw[if_neg (by simp)]
      have xpos:0<x.val:=by
       have h1:=hfe
       unfold q3b at h1
       split at h1
       ·omega
       ·split at h1<;>omega
      by_cases hpr:a.bal.val<x.val
      ·rw[if_pos hpr]
       rw[dt (show a.bal.val-x.val<0 by omega)]at hsl
       simp (maxDischargeDepth:=20) only [z0p (H:=H22) rfl,T.f32,p2,q1h,q0a,ifV,j2n,AV.one,AV.cells,lcl,gi,gj,frl,Fr.refl,ci,cj]
       simp only[q7o (H:=H22),T.j3m,p2,q0a,z0h,df h7]
       simp (maxDischargeDepth:=20) only [q83 (H:=H22),T.j9p,p1,q1,p2,nnA,q0a,z3p,lcl,q2d hb,a3,true_or,x2,y2,q2d hB,x5,y5,dt h8,Bool.not_true]
       simp (maxDischargeDepth:=20) only [z1f (H:=H22),T.g32_2,p1,q1,p2,nnA,q0a,Nat.reduceAdd,z9b,Nat.reduceLeDiff,lcl,q2d hb,a3,true_or,x2,q2d hB,x5,ft,frl,Fr.refl,decide_true,Bool.not_true]
       simp (maxDischargeDepth:=20) only [z6u (H:=H22),T.g32_3,p1,q1,p2,nnA,q0a,Nat.reduceAdd,j4y,Nat.reduceLeDiff,lcl,q2d hb,a3,true_or,x2,q2d hB,x6,po,hsl]
       exact done _ ((Fr.refl m).lay _) _
      ·rw[if_neg hpr]
       rw[df (show ¬a.bal.val-x.val<0 by omega)]at hsl
       have su:=fun m=>q9m (H:=H22) rfl (w.oka a ma).1 hx m
       have ad:=fun m=>q9i (H:=H22) rfl (w.oka a' ma').1 hx m
       have e1:q1c (a.bal.val-x.val)=true:=by
        have h2:=Wd.q6h (w.oka a ma).1
        unfold q1c at h2⊢
        simp only[Bool.and_eq_true,decide_eq_true_eq]at h2⊢
        omega
       simp only[Wd.cells]at ad su
       have c2:=q4t (n:=a'.bal.val+x.val)
       rw[q2b e1]at su
       unfold q4r
       rw[e1,Bool.true_and]
       obtain⟨nx,hnx⟩:∃nx,nx=Wd.of (a.bal.val-x.val):=⟨_,rfl⟩
       rw[←hnx]at su⊢
       cases e2:q1c (a'.bal.val+x.val) with
       |false=>
        rw[e2]at c2
        rw[if_neg (by simp)]
        simp (maxDischargeDepth:=20) only [z0p (H:=H22) rfl,T.f32,p2,q1h,q0a,ifV,j2n,AV.one,AV.cells,lcl,gi,gj,frl,Fr.refl,ci,cj]
        simp only[q7o (H:=H22),T.j3m,p2,q0a,z0h,df h7]
        simp (maxDischargeDepth:=20) only [q83 (H:=H22),T.j9p,p1,q1,p2,nnA,q0a,z3p,lcl,q2d hb,a3,true_or,x2,y2,q2d hB,x5,y5,dt h8,Bool.not_true]
        simp (maxDischargeDepth:=20) only [z1f (H:=H22),T.g32_2,p1,q1,p2,nnA,q0a,Nat.reduceAdd,z9b,Nat.reduceLeDiff,lcl,q2d hb,a3,true_or,x2,q2d hB,x5,ft,frl,Fr.refl,decide_true,Bool.not_true]
        simp (maxDischargeDepth:=20) only [z6u (H:=H22),T.g32_3,p1,q1,p2,nnA,q0a,Nat.reduceAdd,j4y,Nat.reduceLeDiff,lcl,q2d hb,a3,true_or,x2,q2d hB,x6,po,hsl]
        simp (maxDischargeDepth:=20) only [j6a (H:=H22),T.g32_4,p1,q1,p2,pB,nnA,q0g,q0a,Nat.reduceAdd,w_g32_4,AV.one,over,AV.cells,Nat.reduceLeDiff,lcl,q2d hb,q8p hb,a3,true_or,x2,y2,q2d hB,q8p hB,x6,y6,ad,su,c2,Bool.not_false]
        refine done _ ?_ _
        (repeat apply Fr.lays)
        exact Fr.refl _
       |true=>
        rw[if_pos rfl]
        rw[q2b e2]at ad
        obtain⟨ny,hny⟩:∃ny,ny=Wd.of (a'.bal.val+x.val):=⟨_,rfl⟩
        rw[←hny]at ad⊢
        obtain⟨M3,hM3⟩:∃M3,M3=((m.lay (.cells (q02 x s) false)).lay (.cells nx.cells false)).lay (.cells ny.cells false):=⟨_,rfl⟩
        have f3:Fr m M3 []:=by rw[hM3];(repeat apply Fr.lays);exact Fr.refl _
        have hb3:=f3.get h1 (by simp)
        have z1:M3.get (m.next+1)=some (.cells nx.cells false):=by rw[hM3];simp[Mem.q04]
        have z2:M3.get (m.next+1+1)=some (.cells ny.cells false):=by rw[hM3];simp[Mem.q04]
        obtain⟨b1,m4,s1,s2,s3,s4,s5,s6⟩:=(h.q0p f3).stA hb3 (a:=a) (by rw[hid];exact q5) nx
        cases s1
        have hb4:=s6.trans hb3
        have ids:=LSt.q39 (st:=st) (a:={a with bal:=nx}) (by show q1d q0f a.id _=true;rw[hid];exact hka)
        have hi2:(st.q25 {a with bal:=nx}).iA a'.id=st.iA j:=by unfold LSt.iA;rw[ids,hid']
        have hl2:(st.q25 {a with bal:=nx}).q0n.length=st.q0n.length:=List.length_set ..
        obtain⟨b2,m5,t1,t2,t3,t4,t5,t6⟩:=s3.stA hb4 (a:=a') (by
         rw[hi2]
         show (st.q0n.set (st.iA a.id) _)[st.iA j]? = some a'
         rw[hid,List.getElem?_set_ne (by omega)]
         exact q5') ny
        rw[hl2]at t1
        cases t1
        rw[hid]at s2
        rw[hi2]at t2
        have n3:m.next≤M3.next:=f3.next
        have z4:=s4.get z2 (fun hc=>by have:=hF _ hc;omega)
        have a33:∀i:Nat,ld1 M3 (.ptr (some ⟨b,i⟩))=[sp,sq,.sl (some ⟨bb,0⟩) 4 st.q0n.length st.q0n.length false,.int .u64 st.latest,.int .i64 st.most][i]?:=fun i=>q0j hb3
        have a34:∀i:Nat,ld1 m4 (.ptr (some ⟨b,i⟩))=[sp,sq,.sl (some ⟨bb,0⟩) 4 st.q0n.length st.q0n.length false,.int .u64 st.latest,.int .i64 st.most][i]?:=fun i=>q0j hb4
        have l1:ldN M3 (.ptr (some ⟨m.next+1,0⟩)) 2=some (.agg nx.cells):=q1b z1 rfl
        have l2:ldN m4 (.ptr (some ⟨m.next+1+1,0⟩)) 2=some (.agg ny.cells):=q1b z4 rfl
        refine⟨m5,?_,t3,((f3.any F).step s4 (fun c hc=>.inl hc)).step t4 (fun c hc=>.inl hc)⟩
        simp only[q02,Wd.cells]at hM3 l1 l2 s2 t2
        simp (maxDischargeDepth:=20) only [z0p (H:=H22) rfl,T.f32,p2,q1h,q0a,ifV,j2n,AV.one,AV.cells,lcl,gi,gj,frl,Fr.refl,ci,cj]
        simp only[q7o (H:=H22),T.j3m,p2,q0a,z0h,df h7]
        simp (maxDischargeDepth:=20) only [q83 (H:=H22),T.j9p,p1,q1,p2,nnA,q0a,z3p,lcl,q2d hb,a3,true_or,x2,y2,q2d hB,x5,y5,dt h8,Bool.not_true]
        simp (maxDischargeDepth:=20) only [z1f (H:=H22),T.g32_2,p1,q1,p2,nnA,q0a,Nat.reduceAdd,z9b,Nat.reduceLeDiff,lcl,q2d hb,a3,true_or,x2,q2d hB,x5,ft,frl,Fr.refl,decide_true,Bool.not_true]
        simp (maxDischargeDepth:=20) only [z6u (H:=H22),T.g32_3,p1,q1,p2,nnA,q0a,Nat.reduceAdd,j4y,Nat.reduceLeDiff,lcl,q2d hb,a3,true_or,x2,q2d hB,x6,po,hsl]
        simp (maxDischargeDepth:=20) only [j6a (H:=H22),T.g32_4,p1,q1,p2,pB,nnA,q0g,q0a,Nat.reduceAdd,w_g32_4,AV.one,over,AV.cells,Nat.reduceLeDiff,lcl,q2d hb,q8p hb,a3,true_or,x2,y2,q2d hB,q8p hB,x6,y6,ad,su,decide_true,Bool.not_true,←hM3]
        simp only[g32_5_is (H:=H22),T.g32_5,p1,q1,p2,nnA,w_g32_5,a33,l1,true_or,if_true,x2,s2,a34,l2,y2,t2]
     ·rw[if_pos f0]
      simp (maxDischargeDepth:=20) only [z0p (H:=H22) rfl,T.f32,p2,q1h,q0a,ifV,j2n,AV.one,AV.cells,lcl,gi,gj,frl,Fr.refl,ci,cj]
      simp only[q7o (H:=H22),T.j3m,p2,q0a,z0h,df h7]
      simp (maxDischargeDepth:=20) only [q83 (H:=H22),T.j9p,p1,q1,p2,nnA,q0a,z3p,lcl,q2d hb,a3,true_or,x2,y2,q2d hB,x5,y5,dt h8,Bool.not_true]
      simp (maxDischargeDepth:=20) only [z1f (H:=H22),T.g32_2,p1,q1,p2,nnA,q0a,Nat.reduceAdd,z9b,Nat.reduceLeDiff,lcl,q2d hb,a3,true_or,x2,q2d hB,x5,ft,frl,Fr.refl,df f0,Bool.not_false]
      exact done _ ((Fr.refl m).lay _) _
    ·rw[if_pos h8]
     simp (maxDischargeDepth:=20) only [z0p (H:=H22) rfl,T.f32,p2,q1h,q0a,ifV,j2n,AV.one,AV.cells,lcl,gi,gj,frl,Fr.refl,ci,cj]
     simp only[q7o (H:=H22),T.j3m,p2,q0a,z0h,df h7]
     simp (maxDischargeDepth:=20) only [q83 (H:=H22),T.j9p,p1,q1,p2,nnA,q0a,z3p,lcl,q2d hb,a3,true_or,x2,y2,q2d hB,x5,y5,df h8,Bool.not_false]
     exact done _ ((Fr.refl m).lay _) _
end
end
section
set_option maxRecDepth 4000
open Go Go.Abs
theorem z4y {α:Type} {p q:α→Bool}:∀{l:List α} {i:Nat},(∀x∈l,p x=q x)→q73 p l i=q73 q l i
 |[],_,_=>rfl
 |x::l,i,h=>by
  unfold q73
  rw[h x List.mem_cons_self,z4y fun y hy=>h y (List.mem_cons_of_mem _ hy)]
section
variable {m:Mem} {b:Nat} {st:LSt} {F:List Nat}
theorem ridxQ (w:LWf st) {x y:List UInt8} (hx:(st.q5l x).isSome=true) (hy:(st.q5l y).isSome=true):q73 (fun p=>decide (p.x=x)&&decide (p.y=y)) st.pairs 0=if q1d q0c (x++y) (st.pairs.map (·.key))=true then ((st.iQ (x++y):Nat):Int) else -1:=by
 have lx:=q2s w hx
 have e:q73 (fun p:PairV=>decide (p.x=x)&&decide (p.y=y)) st.pairs 0=q73 (fun p:PairV=>decide (p.key=x++y)) st.pairs 0:=by
  apply z4y
  intro q hq
  have l1:=q2s w (w.okq q hq).2.2.2.2.1
  rw[←Bool.decide_and]
  apply decide_eq_decide.mpr
  unfold PairV.key
  constructor
  ·rintro⟨h1,h2⟩;rw[h1,h2]
  ·intro h
   exact List.append_inj h (by omega)
 rw[e,q7p (lt:=q0c) (fun p:PairV=>p.key) (x++y) q15 st.pairs 0 w.sq,Nat.zero_add]
 rfl
end
end
section
set_option maxRecDepth 4000
open Go Go.Abs
theorem rcross_is {w v:Wd} (hw:w.ok) (hv:v.ok) (s t n:Int) (m:Mem):Res m (run E22 (.fn 77) [.agg (q02 w s),.agg (q02 v t),.int .i64 n] m) (j5i w s v t n):=by
 have dr:=fun m=>q7w (H:=H22) rfl w s m
 have rr:=fun m=>j76 (H:=H22) rfl hv t m
 unfold j5i
 by_cases h:0≤s∧s≤18
 ·rw[dt h]at dr
  by_cases hn:0≤n∧n≤18
  ·rw[if_pos ⟨h,hn⟩]
   have cn0:=df (show ¬n<0 by omega)
   have cn1:=df (show ¬(18:Int)<n by omega)
   by_cases h2:0<w.val
   ·rw[if_pos h2]
    have e1:¬w.hi<0:=by
     obtain⟨x1,x2,x3,x4⟩:=hw
     unfold Wd.val at h2
     omega
    have e2:(decide (w.hi=0)&&decide (w.lo=0))=false:=by
     rw[←Bool.decide_and]
     apply df
     rintro⟨y1,y2⟩
     unfold Wd.val at h2
     omega
    by_cases h3:q5r v t=0
    ·rw[if_pos h3]
     have hr:=z5h h3
     have dm:=fun m=>rmuldec_at (H:=H22) rfl hw hv h hr.1 hn m
     obtain⟨N,hN⟩:∃N,N=mulV w.val v.val (s+t-n):=⟨_,rfl⟩
     rw[←hN]at dm⊢
     clear hN
     unfold q6t at dm⊢
     simp only[q02]at dr rr
     simp only[z2e (H:=H22) rfl,T.f77,pB,q1,p1,p2,q0r,AV.cells,Nat.reduceAdd,Nat.reduceLeDiff,q1h,q0a,ifV,unA,q1g,q1i,j4r,AV.one,over,lcl,q02,dr,Bool.not_true,cn0,cn1]
     simp only[z1l (H:=H22),T.g77_0,p1,q1,p2,q0r,AV.cells,Nat.reduceAdd,Nat.reduceLeDiff,q0a,ifV,q1g,q1i,z9h,AV.one,over,lcl,df e1,q30,e2]
     simp only[j63 (H:=H22),T.g77_1,q1,p2,p1,q0r,AV.cells,Nat.reduceAdd,Nat.reduceLeDiff,q0a,q1g,q1i,w_g77_1,AV.one,over,lcl,rr,h3,decide_true,Bool.not_true]
     simp only[q02]at dm
     cases hf:q1c N with
     |true=>
      simp only[hf,if_true]at dm
      simp only[j64 (H:=H22),T.g77_2,q1,p1,q0g,q1g,q1i,w_g77_2,AV.one,over,AV.cells,Nat.reduceAdd,Nat.reduceLeDiff,lcl,dm]
      refine Res.eq ?_ rfl
      (repeat apply Fr.lays)
      exact Fr.refl _
     |false=>
      simp only[hf,Bool.false_eq_true,if_false]at dm
      simp only[j64 (H:=H22),T.g77_2,q1,p1,q0g,q1g,q1i,w_g77_2,AV.one,over,AV.cells,Nat.reduceAdd,Nat.reduceLeDiff,lcl,dm,Bool.false_eq_true]
      refine Res.eq ?_ rfl
      (repeat apply Fr.lays)
      exact Fr.refl _
    ·rw[if_neg h3]
     simp only[q02]at dr rr
     simp only[z2e (H:=H22) rfl,T.f77,pB,q1,p1,p2,q0r,AV.cells,Nat.reduceAdd,Nat.reduceLeDiff,q1h,q0a,ifV,unA,q1g,q1i,j4r,AV.one,over,lcl,q02,dr,Bool.not_true,cn0,cn1]
     simp only[z1l (H:=H22),T.g77_0,p1,q1,p2,q0r,AV.cells,Nat.reduceAdd,Nat.reduceLeDiff,q0a,ifV,q1g,q1i,z9h,AV.one,over,lcl,df e1,q30,e2]
     simp only[j63 (H:=H22),T.g77_1,q1,p2,p1,q0r,AV.cells,Nat.reduceAdd,Nat.reduceLeDiff,q0a,q1g,q1i,w_g77_1,AV.one,over,lcl,rr,df h3,Bool.not_false]
     refine Res.eq ?_ rfl
     (repeat apply Fr.lays)
     exact Fr.refl _
   ·rw[if_neg h2]
    simp only[q02]at dr
    by_cases g1:w.hi<0
    ·simp only[z2e (H:=H22) rfl,T.f77,pB,q1,p1,p2,q0r,AV.cells,Nat.reduceAdd,Nat.reduceLeDiff,q1h,q0a,ifV,unA,q1g,q1i,j4r,AV.one,over,lcl,q02,dr,Bool.not_true,cn0,cn1]
     simp only[z1l (H:=H22),T.g77_0,p1,q1,p2,q0r,AV.cells,Nat.reduceAdd,Nat.reduceLeDiff,q0a,ifV,q1g,q1i,z9h,AV.one,over,lcl,dt g1]
     refine Res.eq ?_ rfl
     (repeat apply Fr.lays)
     exact Fr.refl _
    ·have g2:w.hi=0∧w.lo=0:=by
      obtain⟨x1,x2,x3,x4⟩:=hw
      unfold Wd.val at h2
      omega
     simp only[z2e (H:=H22) rfl,T.f77,pB,q1,p1,p2,q0r,AV.cells,Nat.reduceAdd,Nat.reduceLeDiff,q1h,q0a,ifV,unA,q1g,q1i,j4r,AV.one,over,lcl,q02,dr,Bool.not_true,cn0,cn1]
     simp only[z1l (H:=H22),T.g77_0,p1,q1,p2,q0r,AV.cells,Nat.reduceAdd,Nat.reduceLeDiff,q0a,ifV,q1g,q1i,z9h,AV.one,over,lcl,df g1,q30,dt g2.1,dt g2.2]
     refine Res.eq ?_ rfl
     (repeat apply Fr.lays)
     exact Fr.refl _
  ·rw[if_neg (by omega)]
   simp only[q02]at dr
   by_cases h4:n<0
   ·simp only[z2e (H:=H22) rfl,T.f77,pB,q1,p1,p2,q0r,AV.cells,Nat.reduceAdd,Nat.reduceLeDiff,q1h,q0a,ifV,unA,q1g,q1i,j4r,AV.one,over,lcl,q02,dr,Bool.not_true,dt h4]
    refine Res.eq ?_ rfl
    (repeat apply Fr.lays)
    exact Fr.refl _
   ·simp only[z2e (H:=H22) rfl,T.f77,pB,q1,p1,p2,q0r,AV.cells,Nat.reduceAdd,Nat.reduceLeDiff,q1h,q0a,ifV,unA,q1g,q1i,j4r,AV.one,over,lcl,q02,dr,Bool.not_true,df h4,dt (show (18:Int)<n by omega)]
    refine Res.eq ?_ rfl
    (repeat apply Fr.lays)
    exact Fr.refl _
 ·rw[if_neg (by omega)]
  rw[df h]at dr
  simp only[q02]at dr
  simp only[z2e (H:=H22) rfl,T.f77,pB,q1,p1,p2,q0r,AV.cells,Nat.reduceAdd,Nat.reduceLeDiff,q1h,q0a,ifV,unA,q1g,q1i,j4r,AV.one,over,lcl,q02,dr,Bool.not_false]
  refine Res.eq ?_ rfl
  (repeat apply Fr.lays)
  exact Fr.refl _
end
end Go.Proofs.YtlginbmjiecglaaGreatDoor
namespace Go.Abs
section
open Go
theorem append_sl {n w:Nat} {m:Mem} {b:Nat} {ex:Bool} {l:List (List AV)} (hl0:∀x∈l,x.length=n∧x.all AV.one=true) (hb:m.get b=some (.cells l.flatten false)) {xb:Nat} {new:List AV} (hx:m.get xb=some (.cells new false)) (hl:new.length=n) (ho:new.all AV.one=true)
  (hw:(l.length+1)*w≤q1p) :
  ∃s' m',q1q n w (.sl (some ⟨b,0⟩) n l.length l.length ex) (.sl (some ⟨xb,0⟩) n 1 1 true) m=some (s',m')∧q1s n m' s' (l++[new]) (some m.next)∧m'.next=m.next+1∧Fr m m' [b]:=by
 have hsrc:q68 n (.sl (some ⟨xb,0⟩) n 1 1 true) m=some (1,new):=by
  simp only[q68,true_or,if_true,q07,hx,Nat.one_mul,Nat.zero_add,hl,Nat.le_refl,List.drop_zero,Option.map_some]
  rw[List.take_of_length_le (by omega)]
 have hall:∀x∈l++[new],x.length=n∧x.all AV.one=true:=by
  intro x hx'
  simp only[List.mem_append,List.mem_singleton]at hx'
  rcases hx' with h1|rfl
  ·exact hl0 x h1
  ·exact⟨hl,ho⟩
 have hlen:(l++[new]).length=l.length+1:=by simp
 have hfl:=q2l fun x hx=>(hl0 x hx).1
 have hld:q07 m ⟨b,0⟩ (l.length*n)=some l.flatten:=by
  simp only[q07,hb]
  rw[if_pos (by omega),List.drop_zero,List.take_of_length_le (by omega)]
 unfold q1q
 rw[hsrc]
 simp only[ho,not_true_eq_false,if_false,true_or,if_true]
 rw[if_neg (by omega),if_pos hw,hld]
 cases ex with
 |true=>
  simp only[if_true]
  refine⟨_,_,rfl,⟨hall,.inr ⟨m.next,rfl,by rw[hlen],?_⟩⟩,rfl,(Fr.alloc _ _).any _⟩
  simp[Mem.q04,List.flatten_append]
 |false=>
  simp only[Bool.false_eq_true,if_false,hb]
  refine⟨_,_,rfl,⟨hall,.inr ⟨m.next,rfl,by rw[hlen],?_⟩⟩,rfl,((Fr.put m b none).trans (Fr.alloc _ _) (by simp) (by simp))⟩
  simp[Mem.q04,List.flatten_append]
end
end Go.Abs
namespace Go.Proofs.YtlginbmjiecglaaGreatDoor
section
set_option maxRecDepth 4000
open Go Go.Abs
section
variable {m:Mem} {b:Nat} {st:LSt} {F:List Nat}
theorem j75 (h:RefAt m b st F) (w:LWf st) (name:List UInt8) :
  ∃m' F',run E22 (.fn 28) [.ptr (some ⟨b,0⟩),.str name] m=some (.tup [.int .u64 (j1q st name).1,.int .i64 (j1q st name).2.1],m')∧RefAt m' b (j1q st name).2.2 F'∧Fr m m' F∧∀c,c∈F'→c∈F∨m.next≤c:=by
 have gp:=z8i (H:=H22) rfl h (by have:=w.lp;omega) name
 have hlat:=w.lat
 have hla:=w.la
 obtain⟨sp,sq,sa,rp,rq,ra,h1,h2,h3,h4,h5,h6,h7,h8,h9,h10,hF⟩:=h.ex
 have hb:=Mem.q0w h1
 have a3:∀i:Nat,ld1 m (.ptr (some ⟨b,i⟩))=[sp,sq,sa,.int .u64 st.latest,.int .i64 st.most][i]?:=fun i=>q0j h1
 have gp0:=gp m (Fr.refl m)
 have done:∀v:AV,∃m' F',some (v,m)=some (v,m')∧RefAt m' b st F'∧Fr m m' F∧∀c,c∈F'→c∈F∨m.next≤c:=fun v=>⟨m,F,rfl,h,Fr.refl' _ _,fun c hc=>.inl hc⟩
 unfold j1q
 cases hk:q1d q0c name (st.q0b.map (·.name)) with
 |false=>
  rw[j74 w hk]at gp0
  simp only[if_true]
  simp only[j5k (H:=H22) rfl,T.f28,p2,q0a,w_f28,gp0,dt (show (-1:Int)<0 by omega)]
  exact done _
 |true=>
  rw[z8g w hk]at gp0
  simp only[Bool.true_eq_false,if_false]
  obtain⟨ax,az,ac,ae,esa⟩:=h4.len
  rw[List.length_map]at esa
  have c0:=df (show ¬((st.iP name:Nat):Int)<0 by omega)
  by_cases hm:st.most≤(st.q0n.length:Int)
  ·rw[if_pos (.inl hm)]
   subst esa
   simp only[j5k (H:=H22) rfl,T.f28,p2,q0a,w_f28,gp0,c0]
   simp only[z6r (H:=H22),T.g28_0,p1,q1,p2,nnA,q0a,ifV,j4v,a3,dt (show (st.q0n.length:Int)≥st.most from hm)]
   exact done _
  ·by_cases hlt:72057594037927935≤st.latest
   ·rw[if_pos (.inr hlt)]
    subst esa
    simp only[j5k (H:=H22) rfl,T.f28,p2,q0a,w_f28,gp0,c0]
    simp only[z6r (H:=H22),T.g28_0,p1,q1,p2,nnA,q0a,ifV,j4v,a3,df (show ¬(st.q0n.length:Int)≥st.most from hm),dt (show st.latest≥72057594037927935 from hlt)]
    exact done _
   ·rw[if_neg (by omega)]
    clear done
    obtain⟨m1,hm1⟩:∃m1,m1=m.put b (some (.cells [sp,sq,sa,.int .u64 (st.latest+1),.int .i64 st.most] false)):=⟨_,rfl⟩
    have s1:stV m (.ptr (some ⟨b,3⟩)) (.int .u64 (st.latest+1)) 1=some m1:=by
     have:=q3l (v:=.int .u64 (st.latest+1)) (o:=3) (n:=1) h1 rfl rfl (by simp)
     rw[hm1];simpa using this
    have B1:m1.get b=some (.cells [sp,sq,sa,.int .u64 (st.latest+1),.int .i64 st.most] false):=by rw[hm1];exact q05 h1
    have n1:m1.next=m.next:=by rw[hm1];rfl
    have f1:Fr m m1 [b]:=by rw[hm1];exact Fr.put _ _ _
    have h4':=h4.frame f1 (fun c hc=>by simp only[List.mem_singleton];rintro rfl;exact h7 (by rw[hc];simp))
    obtain⟨bc,ex,m3,g1,g2,g3,g4,_⟩:=q35 (w:=40) h4' (q26 (by rw[List.length_map];omega) (by decide))
    have B3:=g3.get B1 (by simp)
    have n3:=g3.next
    obtain⟨m4,hm4⟩:∃m4,m4=m3.lay (.cells (AccV.mk (st.latest+1) name ⟨0,0⟩).cells false):=⟨_,rfl⟩
    have f4:Fr m3 m4 []:=by rw[hm4];exact(Fr.refl m3).lay _
    have n4:m4.next=m3.next+1:=by rw[hm4];rfl
    have X4:m4.get m3.next=some (.cells (AccV.mk (st.latest+1) name ⟨0,0⟩).cells false):=by rw[hm4];exact q0d _ _
    obtain⟨s',m5,j1,j2,j3,j4⟩:=append_sl (w:=40) (ex:=ex) h4.1 (f4.get g2 (by simp)) X4 rfl rfl (q26 (by rw[List.length_map];omega) (by decide))
    have B5:=j4.get (f4.get B3 (by simp)) (by simp;omega)
    have s'1:=j2.one
    obtain⟨m6,hm6⟩:∃m6,m6=m5.put b (some (.cells [sp,sq,s',.int .u64 (st.latest+1),.int .i64 st.most] false)):=⟨_,rfl⟩
    have s6:stV m5 (.ptr (some ⟨b,2⟩)) s' 1=some m6:=by
     have:=q3l (v:=s') (vs:=[s']) (o:=2) (n:=1) B5 (q8r s'1) rfl (by simp)
     rw[hm6];simpa using this
    have B6:m6.get b=some (.cells [sp,sq,s',.int .u64 (st.latest+1),.int .i64 st.most] false):=by rw[hm6];exact q05 B5
    have f6:Fr m5 m6 [b]:=by rw[hm6];exact Fr.put _ _ _
    have fA:Fr m m6 [b]:=(((f1.step g3 (by simp)).step f4 (by simp)).step j4 (fun c hc=>.inr (by simp at hc;omega))).step f6 (fun c hc=>.inl hc)
    have nb:∀{r:Option Nat},b∉r.toList→∀c,r=some c→c∉[b]:=fun hr c hc=>by simp only[List.mem_singleton];rintro rfl;exact hr (by rw[hc];simp)
    have e4:st.q0n.map (·.cells)++[(AccV.mk (st.latest+1) name ⟨0,0⟩).cells]=(st.q0n++[AccV.mk (st.latest+1) name ⟨0,0⟩]).map (·.cells):=by simp
    rw[e4]at j2
    have lp:∀c,c∈rp.toList→c<m.next:=fun c hc=>by rw[Option.mem_toList]at hc;subst hc;exact h2.lt
    have lq:∀c,c∈rq.toList→c<m.next:=fun c hc=>by rw[Option.mem_toList]at hc;subst hc;exact h3.lt
    have n6:m.next≤m4.next:=by omega
    refine⟨m6,b::(rp.toList++rq.toList++(some m4.next).toList),?_,⟨sp,sq,s',rp,rq,some m4.next,B6,h2.frame fA (nb h5),h3.frame fA (nb h6),j2.frame f6 (fun c hc=>by cases hc;simp;omega),h5,h6,by simp;omega,h8,?_,?_,rfl⟩,fA.mono (by rw[hF];simp),?_⟩
    ·have a31:∀i:Nat,ld1 m1 (.ptr (some ⟨b,i⟩))=[sp,sq,sa,.int .u64 (st.latest+1),.int .i64 st.most][i]?:=fun i=>q0j B1
     have a32:∀i:Nat,ld1 (m1.lay (.cells [] false)) (.ptr (some ⟨b,i⟩))=[sp,sq,sa,.int .u64 (st.latest+1),.int .i64 st.most][i]?:=fun i=>q0j (((Fr.refl m1).lay _).get B1 (by simp))
     have a33:∀i:Nat,ld1 m3 (.ptr (some ⟨b,i⟩))=[sp,sq,sa,.int .u64 (st.latest+1),.int .i64 st.most][i]?:=fun i=>q0j B3
     have a36:∀i:Nat,ld1 m6 (.ptr (some ⟨b,i⟩))=[sp,sq,s',.int .u64 (st.latest+1),.int .i64 st.most][i]?:=fun i=>q0j B6
     have wl:IntKind.wrap .u64 (st.latest+1)=st.latest+1:=wrap_u64 (by omega) (by omega)
     have bs:=q8q (n:=4) (zs:=[.int .u64 0,.str [],.int .i64 0,.int .u64 0]) (cs:=(AccV.mk (st.latest+1) name ⟨0,0⟩).cells) rfl rfl rfl
     simp only[AccV.cells]at bs hm4
     subst esa
     simp only[j5k (H:=H22) rfl,T.f28,p2,q0a,w_f28,gp0,c0]
     simp only[z6r (H:=H22),T.g28_0,p1,q1,p2,nnA,q0a,ifV,j4v,a3,df (show ¬(st.q0n.length:Int)≥st.most from hm),df (show ¬st.latest≥72057594037927935 from hlt)]
     simp only[g28_1_is (H:=H22),T.g28_1,p1,q1,p2,sB,apE,q0r,AV.cells,Nat.reduceAdd,Nat.reduceLeDiff,nnA,w_g28_1,a3,wl,s1,a32,g1,a33,bs,←hm4,j1,s6,a36]
    ·intro c h1' h2';simp only[Option.toList_some,List.mem_singleton]at h2';have:=lp c h1';omega
    ·intro c h1' h2';simp only[Option.toList_some,List.mem_singleton]at h2';have:=lq c h1';omega
    ·intro c hc
     rw[hF]
     simp only[List.mem_cons,List.mem_append,Option.toList_some,List.not_mem_nil,or_false]at hc⊢
     rcases hc with hc|(hc|hc)|hc
     ·exact .inl (.inl hc)
     ·exact .inl (.inr (.inl (.inl hc)))
     ·exact .inl (.inr (.inl (.inr hc)))
     ·exact .inr (by omega)
end
end
end Go.Proofs.YtlginbmjiecglaaGreatDoor
namespace Go.Abs
section
open Go
def z4g {α:Type} (f:α→Int):List α→Int
 |[]=>0
 |a::l=>f a+z4g f l
theorem q6f {α:Type} (f:α→Int):∀(l k:List α),z4g f (l++k)=z4g f l+z4g f k
 |[],k=>by simp[z4g]
 |a::l,k=>by simp only[List.cons_append,z4g,q6f f l k];omega
theorem z8p {α:Type} (f:α→Int):∀{l:List α} {i:Nat} {y:α} (x:α),l[i]? = some y→z4g f (l.set i x)=z4g f l+(f x-f y)
 |[],_,_,_,h=>by simp at h
 |a::l,0,y,x,h=>by
  simp only[ge,Option.some.injEq]at h
  subst h;simp only[List.set_cons_zero,z4g];omega
 |a::l,i+1,y,x,h=>by
  simp only[ge]at h
  simp only[List.set_cons_succ,z4g,z8p f x h];omega
theorem sumL_insL {α:Type} (f:α→Int) (i:Nat) (x:α) (l:List α):z4g f (q47 i x l)=z4g f l+f x:=by
 have h:z4g f l=z4g f (l.take i)+z4g f (l.drop i):=by rw[←q6f,List.take_append_drop]
 unfold q47
 rw[q6f,h];simp only[z4g];omega
theorem z3n {α:Type} (f:α→Int):∀{l:List α},(∀x∈l,f x=0)→z4g f l=0
 |[],_=>rfl
 |a::l,h=>by rw[z4g,h a List.mem_cons_self,z3n f fun x hx=>h x (List.mem_cons_of_mem _ hx)];rfl
theorem srt_inj {κ:Type} {lt:κ→κ→Bool} (irr:∀a,lt a a=false) {ks:List κ} (h:Srt lt ks) {i j:Nat} {k:κ} (hi:ks[i]? = some k) (hj:ks[j]? = some k):i=j:=by
 obtain⟨h1,e1⟩:=List.getElem?_eq_some_iff.1 hi
 obtain⟨h2,e2⟩:=List.getElem?_eq_some_iff.1 hj
 rcases Nat.lt_trichotomy i j with h3|h3|h3
 ·have:=q4o h h3 h2;rw[e1,e2,irr]at this;cases this
 ·exact h3
 ·have:=q4o h h3 h1;rw[e1,e2,irr]at this;cases this
theorem has_iff {κ:Type} [DecidableEq κ] {lt:κ→κ→Bool} (irr:∀a,lt a a=false) {k:κ} {ks:List κ} (h:Srt lt ks):q1d lt k ks=true↔k∈ks:=by
 rw[lb_has irr h,decide_eq_true_iff]
theorem has_not {κ:Type} [DecidableEq κ] {lt:κ→κ→Bool} (irr:∀a,lt a a=false) {k:κ} {ks:List κ} (h:Srt lt ks) (h':q1d lt k ks=false):k∉ks:=fun hm=>by
 rw[(has_iff irr h).2 hm]at h';cases h'
theorem hasP_iff {ps:List PurseV} (h:Srt q0c (ps.map (·.name))) {k:List UInt8}:q1d q0c k (ps.map (·.name))=true↔k∈ps.map (·.name):=has_iff q15 h
theorem z7e {st:LSt} {k:List UInt8}:(st.q5l k).isSome=true↔q1d q0c k (st.q0b.map (·.name))=true:=by
 constructor
 ·intro h
  cases hk:q1d q0c k (st.q0b.map (·.name)) with
  |true=>rfl
  |false=>rw[LSt.q4h hk]at h;cases h
 ·intro h
  obtain⟨p,p1,_⟩:=LSt.q2v h
  rw[p1];rfl
theorem q4s {st:LSt} (h:Srt q0c (st.q0b.map (·.name))) {k:List UInt8}:(st.q5l k).isSome=true↔k∈st.q0b.map (·.name):=z7e.trans (hasP_iff h)
def sA (n:List UInt8):List AccV→Int:=z4g fun a=>if a.coin=n then a.bal.val else 0
def sQ (n:List UInt8):List PairV→Int:=z4g fun q=>(if q.x=n then q.inx.val else 0)+(if q.y=n then q.outy.val else 0)
def sumP (qs:List PairV) (az:List AccV) (p:PurseV):Int:=p.out.val+sA p.name az+sQ p.name qs
structure LGood (st:LSt):Prop where
 w:LWf st
 am:(st.q0n.length:Int)≤st.most
 mo:1≤st.most∧st.most≤64
 a1:∀a∈st.q0n,1≤a.id∧0≤a.bal.val
 q1:∀q∈st.pairs,q.x≠q.y∧0≤q.inx.val∧q.outy.val≤0
structure LInv (st:LSt):Prop extends LGood st where
 su:∀p∈st.q0b,sumP st.pairs st.q0n p=0
theorem LGood.q0n {st:LSt} (g:LGood st) {az:List AccV} (hid:az.map (·.id)=st.q0n.map (·.id)) (hall:∀a∈az,a.bal.ok∧1≤a.id∧a.id≤st.latest∧(st.q5l a.coin).isSome=true∧0≤a.bal.val):LGood {st with q0n:=az}:=by
 have hl:az.length=st.q0n.length:=by have:=congrArg List.length hid;simpa using this
 exact {
  w:={sp:=g.w.sp,lp:=g.w.lp,sq:=g.w.sq,lq:=g.w.lq,sa:=by show Srt q0f (az.map (·.id));rw[hid];exact g.w.sa,la:=by show az.length≤64;rw[hl];exact g.w.la,okp:=g.w.okp,okq:=g.w.okq,
      oka:=fun a ha=>⟨(hall a ha).1,by have:=(hall a ha).2.1;omega,(hall a ha).2.2.1,(hall a ha).2.2.2.1⟩,lat:=g.w.lat}
  am:=by show (az.length:Int)≤st.most;rw[hl];exact g.am
  mo:=g.mo
  a1:=fun a ha=>⟨(hall a ha).2.1,(hall a ha).2.2.2.2⟩
  q1:=g.q1}
theorem LGood.q25 {st:LSt} (g:LGood st) {i:Nat} {a:AccV} (hi:st.q0n[i]? = some a) {n:Wd} (hn:n.ok) (h0:0≤n.val):LGood {st with q0n:=st.q0n.set i {a with bal:=n}}:=by
 have ma:=List.mem_of_getElem? hi
 refine g.q0n ?_ fun x hx=>?_
 ·rw[List.map_set]
  exact q3x (by rw[List.getElem?_map,hi];rfl)
 ·rcases List.mem_or_eq_of_mem_set hx with hx|rfl
  ·exact⟨(g.w.oka x hx).1,(g.a1 x hx).1,(g.w.oka x hx).2.2.1,(g.w.oka x hx).2.2.2,(g.a1 x hx).2⟩
  ·exact⟨hn,(g.a1 a ma).1,(g.w.oka a ma).2.2.1,(g.w.oka a ma).2.2.2,h0⟩
theorem LGood.setP {st:LSt} (g:LGood st) {i:Nat} {p:PurseV} (hi:st.q0b[i]? = some p) {n:Wd} (hn:n.ok):LGood {st with q0b:=st.q0b.set i {p with out:=n}}:=by
 have mp:=List.mem_of_getElem? hi
 have names:(st.q0b.set i {p with out:=n}).map (·.name)=st.q0b.map (·.name):=by
  rw[List.map_set]
  exact q3x (by rw[List.getElem?_map,hi];rfl)
 have gp:∀k,(st.q5l k).isSome=true→(LSt.q5l {st with q0b:=st.q0b.set i {p with out:=n}} k).isSome=true:=fun k hk=>by
  rw[z7e]at hk⊢
  show q1d q0c k ((st.q0b.set i {p with out:=n}).map (·.name))=true
  rw[names];exact hk
 exact {
  w:={sp:=by show Srt q0c ((st.q0b.set i {p with out:=n}).map (·.name));rw[names];exact g.w.sp
      lp:=by show (st.q0b.set i _).length≤8;rw[List.length_set];exact g.w.lp
      sq:=g.w.sq,lq:=g.w.lq,sa:=g.w.sa,la:=g.w.la
      okp:=fun x hx=>by
       rcases List.mem_or_eq_of_mem_set hx with hx|rfl
       ·exact g.w.okp x hx
       ·have:=g.w.okp p mp;exact⟨this.1,this.2.1,hn,this.2.2.2⟩
      okq:=fun q hq=>by have:=g.w.okq q hq;exact⟨this.1,this.2.1,this.2.2.1,this.2.2.2.1,gp _ this.2.2.2.2.1,gp _ this.2.2.2.2.2⟩
      oka:=fun a ha=>by have:=g.w.oka a ha;exact⟨this.1,this.2.1,this.2.2.1,gp _ this.2.2.2⟩
      lat:=g.w.lat}
  am:=g.am,mo:=g.mo,a1:=g.a1,q1:=g.q1}
theorem q6e:∀{a b c d:List UInt8},a.length=b.length→q0c (a++c) (b++d)=(q0c a b||(decide (a=b)&&q0c c d))
 |[],[],c,d,_=>by simp[q0c]
 |[],_::_,_,_,h=>by simp at h
 | _::_,[],_,_,h=>by simp at h
 |a::x,b::y,c,d,h=>by
  simp only[List.cons_append,q0c]
  rw[q6e (a:=x) (b:=y) (by simpa using h)]
  by_cases e:a=b
  ·subst e
   simp
  ·simp[e]
theorem asc_len:∀{l:List Nat} {lo hi:Nat},l.Pairwise (· < ·)→(∀x∈l,lo≤x∧x<hi)→l.length≤hi-lo
 |[],_,_,_,_=>by simp
 |a::l,lo,hi,h,hb=>by
  rw[List.pairwise_cons]at h
  have h1:=hb a List.mem_cons_self
  have:=asc_len (lo:=a+1) (hi:=hi) h.2 fun x hx=>⟨h.1 x hx,(hb x (List.mem_cons_of_mem _ hx)).2⟩
  simp only[List.length_cons];omega
theorem lb_mono {ks:List (List UInt8)} (hs:Srt q0c ks) {a b:List UInt8} (ha:a∈ks) (hb:b∈ks) (h:q0c a b=true):lb q0c a ks<lb q0c b ks:=by
 obtain⟨i,hi,rfl⟩:=List.mem_iff_getElem.1 ha
 obtain⟨j,hj,rfl⟩:=List.mem_iff_getElem.1 hb
 have e:∀i (hi:i<ks.length),lb q0c ks[i] ks=i:=fun i hi=>q43 (Nat.le_of_lt hi) (fun j h hj=>q4o hs hj hi) (fun _=>q15 _)
 rw[e i hi,e j hj]
 rcases Nat.lt_trichotomy i j with h3|h3|h3
 ·exact h3
 ·subst h3;rw[q15]at h;cases h
 ·have h4:=q4o hs h3 hi
  have:=q27 _ _ _ h h4
  rw[q15]at this;cases this
theorem lb_mem {ks:List (List UInt8)} (hs:Srt q0c ks) {a:List UInt8} (ha:a∈ks):lb q0c a ks<ks.length:=by
 obtain⟨i,hi,rfl⟩:=List.mem_iff_getElem.1 ha
 have e:lb q0c ks[i] ks=i:=q43 (Nat.le_of_lt hi) (fun j h hj=>q4o hs hj hi) (fun _=>q15 _)
 rw[e];exact hi
theorem pairs_len {ks:List (List UInt8)} (hs:Srt q0c ks) (hl:ks.length≤8) (h3:∀k∈ks,k.length=3) {qs:List PairV} (hq:Srt q0c (qs.map (·.key))) (hm:∀q∈qs,q.x∈ks∧q.y∈ks):qs.length≤64:=by
 have key:(qs.map fun q=>8*lb q0c q.x ks+lb q0c q.y ks).Pairwise (· < ·):=by
  rw[List.pairwise_map]
  unfold Srt at hq
  rw[List.pairwise_map]at hq
  refine List.Pairwise.imp_of_mem ?_ hq
  intro a b ma mb hab
  obtain⟨ax,ay⟩:=hm a ma
  obtain⟨bx,bY⟩:=hm b mb
  unfold PairV.key at hab
  rw[q6e (by rw[h3 _ ax,h3 _ bx])]at hab
  have l1:=lb_mem hs ay
  simp only[Bool.or_eq_true,Bool.and_eq_true,decide_eq_true_eq]at hab
  rcases hab with h|⟨h,h'⟩
  ·have:=lb_mono hs ax bx h;omega
  ·have:=lb_mono hs ay bY h';rw[h];omega
 have:=asc_len (lo:=0) (hi:=64) key fun x hx=>by
  obtain⟨q,hq',rfl⟩:=List.mem_map.1 hx
  obtain⟨ax,ay⟩:=hm q hq'
  have:=lb_mem hs ax
  have:=lb_mem hs ay
  omega
 simpa using this
theorem LGood.pairs {st:LSt} (g:LGood st) {qs:List PairV} (hs:Srt q0c (qs.map (·.key))) (hall:∀q∈qs,(q.rate.ok∧q9l q.rate q.rscale=true∧q.inx.ok∧q.outy.ok∧(st.q5l q.x).isSome=true∧(st.q5l q.y).isSome=true)∧q.x≠q.y∧0≤q.inx.val∧q.outy.val≤0) :
  LGood {st with pairs:=qs}:={
 w:={sp:=g.w.sp,lp:=g.w.lp,sq:=hs
     lq:=pairs_len (ks:=st.q0b.map (·.name)) g.w.sp (by rw[List.length_map];exact g.w.lp) (fun k hk=>by
      obtain⟨p,hp,rfl⟩:=List.mem_map.1 hk
      have:=(g.w.okp p hp).2.2.2
      unfold q66 at this
      simp only[Bool.and_eq_true,decide_eq_true_eq]at this
      exact this.2) hs fun q hq=>⟨(q4s g.w.sp).1 (hall q hq).1.2.2.2.2.1,(q4s g.w.sp).1 (hall q hq).1.2.2.2.2.2⟩
     sa:=g.w.sa,la:=g.w.la,okp:=g.w.okp,okq:=fun q hq=>(hall q hq).1,oka:=g.w.oka,lat:=g.w.lat}
 am:=g.am,mo:=g.mo,a1:=g.a1,q1:=fun q hq=>(hall q hq).2}
theorem LGood.full {st:LSt} (g:LGood st):∀q∈st.pairs,(q.rate.ok∧q9l q.rate q.rscale=true∧q.inx.ok∧q.outy.ok∧(st.q5l q.x).isSome=true∧(st.q5l q.y).isSome=true)∧q.x≠q.y∧0≤q.inx.val∧q.outy.val≤0:=fun q hq=>⟨g.w.okq q hq,g.q1 q hq⟩
theorem z7w {α:Type} {i:Nat} {x y:α} {l:List α} (h:y∈q47 i x l):y=x∨y∈l:=by
 unfold q47 at h
 simp only[List.mem_append,List.mem_cons]at h
 rcases h with h|rfl|h
 ·exact .inr (List.mem_of_mem_take h)
 ·exact .inl rfl
 ·exact .inr (List.mem_of_mem_drop h)
theorem insL_mem {α:Type} {i:Nat} {x y:α} {l:List α} (h:y=x∨y∈l):y∈q47 i x l:=by
 unfold q47
 rcases h with rfl|h
 ·simp
 ·rw[←List.take_append_drop i l,List.mem_append]at h
  simp only[List.mem_append,List.mem_cons]
  rcases h with h|h
  ·exact .inl h
  ·exact .inr (.inr h)
theorem LGood.q8h {st:LSt} (g:LGood st) {q:PairV} (hq:(q.rate.ok∧q9l q.rate q.rscale=true∧q.inx.ok∧q.outy.ok∧(st.q5l q.x).isSome=true∧(st.q5l q.y).isSome=true)∧q.x≠q.y∧0≤q.inx.val∧q.outy.val≤0) :
  LGood (st.q8h q)∧(q1d q0c q.key (st.pairs.map (·.key))=false→(st.q8h q).pairs=q47 (st.iQ q.key) q st.pairs):=by
 cases hk:q1d q0c q.key (st.pairs.map (·.key)) with
 |true=>
  refine⟨?_,nofun⟩
  have e:st.q8h q={st with pairs:=st.pairs.set (st.iQ q.key) q}:=by unfold LSt.q8h;rw[if_pos hk]
  rw[e]
  refine g.pairs ?_ fun x hx=>?_
  ·rw[List.map_set];unfold LSt.iQ;rw[q3x (q5o hk)];exact g.w.sq
  ·rcases List.mem_or_eq_of_mem_set hx with hx|rfl
   ·exact g.full x hx
   ·exact hq
 |false=>
  have hn:q.key∉st.pairs.map (·.key):=has_not q15 g.w.sq hk
  have hs:Srt q0c ((q47 (st.iQ q.key) q st.pairs).map (·.key)):=by
   rw[q55];exact lb_srt q27 q8g g.w.sq hn
  have gg:LGood {st with pairs:=q47 (st.iQ q.key) q st.pairs}:=g.pairs hs fun x hx=>by
   rcases z7w hx with rfl|hx
   ·exact hq
   ·exact g.full x hx
  have hl:=gg.w.lq
  have hi:st.iQ q.key≤st.pairs.length:=by have:=z7s (lt:=q0c) q.key (st.pairs.map (·.key));rw[List.length_map]at this;exact this
  rw[show (LSt.pairs {st with pairs:=q47 (st.iQ q.key) q st.pairs}).length=st.pairs.length+1 from z1m hi]at hl
  have e:st.q8h q={st with pairs:=q47 (st.iQ q.key) q st.pairs}:=by
   unfold LSt.q8h;rw[if_neg (by rw[hk];decide),if_pos (by omega)]
  rw[e]
  exact⟨gg,fun _=>rfl⟩
end
end Go.Abs
