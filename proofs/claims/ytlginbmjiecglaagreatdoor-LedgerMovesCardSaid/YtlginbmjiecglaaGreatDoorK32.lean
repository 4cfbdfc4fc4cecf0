/- Texts of one claim, put together. -/
import Derived.Test.YtlginbmjiecglaaGreatDoorK0
import Derived.Test.YtlginbmjiecglaaGreatDoorK10
import Derived.Test.YtlginbmjiecglaaGreatDoorK19
import Derived.Test.YtlginbmjiecglaaGreatDoorK30
import Derived.Test.YtlginbmjiecglaaGreatDoorK31
namespace Go.Proofs.YtlginbmjiecglaaGreatDoor
section
set_option maxRecDepth 4000
set_option maxHeartbeats 400000
open Go Go.Abs
theorem j29 (st:LSt) (i j:Int) (x:Wd) (s:Int):q4p st i j x s=(if (st.of i).2.2≠0 then (⟨0,0⟩,0,(st.of i).2.2,st) else if (st.of j).2.2≠0 then (⟨0,0⟩,0,(st.of j).2.2,st) else
  if (st.of i).2.1.name=(st.of j).2.1.name then (⟨0,0⟩,0,45,st) else match st.getQ ((st.of i).2.1.name++(st.of j).2.1.name) with|none=>(⟨0,0⟩,0,44,st)|some q=>convT st (st.of i).1 (st.of i).2.1 (st.of j).1 (st.of j).2.1 q x s):=rfl
section
variable {m:Mem} {b:Nat} {st:LSt} {F:List Nat}
theorem j4c (h:RefAt m b st F) (w:LWf st) (i j:Int) {x:Wd} (hx:x.ok) (s:Int) :
  ∃m',run E23 (.fn 34) [.ptr (some ⟨b,0⟩),.int .u64 i,.int .u64 j,.agg (q02 x s)] m=some (.tup [.agg (q02 (q4p st i j x s).1 (q4p st i j x s).2.1),.int .i64 (q4p st i j x s).2.2.1],m')∧RefAt m' b (q4p st i j x s).2.2.2 F∧Fr m m' F:=by
 have hF:=h.lt
 obtain⟨M,hM⟩:∃M,M=(m.lay (.cells (q02 x s) false)).lay (.cells z3 false):=⟨_,rfl⟩
 have fM:Fr m M []:=by rw[hM];(repeat apply Fr.lays);exact Fr.refl _
 have hR:=h.q0p fM
 have hD:M.get m.next=some (.cells (q02 x s) false):=by rw[hM];simp only[Mem.q04,Mem.q00,nn1,if_true,if_false]
 have hZ:M.get (m.next+1)=some (.cells z3 false):=by rw[hM];simp[Mem.q04]
 have nM:M.next=m.next+1+1:=by rw[hM];rfl
 have gi:=j37 (H:=H23) rfl hR (by have:=w.la;omega) i M (Fr.refl _)
 have gj:=j37 (H:=H23) rfl hR (by have:=w.la;omega) j M (Fr.refl _)
 have none_idx:∀id,st.q7y id=none→q73 (fun p:AccV=>decide (p.id=id)) st.q0n 0=-1:=by
  intro id hn
  apply j14 w
  cases hk:q1d q0f id (st.q0n.map (·.id)) with
  |false=>rfl
  |true=>obtain⟨a,a1,_⟩:=LSt.q2q hk;rw[hn]at a1;cases a1
 have cm:=dt (show (-1:Int)<0 by omega)
 have er:∀{M':Mem},M'.get (m.next+1)=some (.cells z3 false)→stV M' (.ptr (some ⟨m.next+1,0⟩)) (.agg z3) 3=some (M'.put (m.next+1) (some (.cells z3 false)))∧ldN (M'.put (m.next+1) (some (.cells z3 false))) (.ptr (some ⟨m.next+1,0⟩)) 3=some (.agg z3):=
  fun hz=>⟨q1w (n:=3) hz rfl rfl rfl,q1b (q05 hz) rfl⟩
 have done:∀{M':Mem} {c:Int},Fr m M' []→∃m',some (AV.tup [.agg z3,.int .i64 c],M'.put (m.next+1) (some (.cells z3 false)))=some (AV.tup [.agg (q02 ⟨0,0⟩ 0),.int .i64 c],m')∧RefAt m' b st F∧Fr m m' F:=fun {M' c} hf=>
  ⟨_,rfl,h.frame (hf.put' (S:=[]) (b:=m.next+1) (.inr (by omega))) (by simp),(hf.put' (.inr (by omega))).any F⟩
 obtain⟨es,el⟩:=er hZ
 simp only[z3]at es el done hM
 simp only[q02]at hM
 rw[j29]
 simp only[z3,q02]at *
 rcases LSt.q10 w i with ⟨e,hn⟩|⟨a,p,e,g1,g2,hid,hka,hpn,hkp,ma,mp⟩
 ·rw[none_idx i hn]at gi
  rw[e]
  simp only[ne_eq,show ¬(40:Int)=0 by omega,not_false_eq_true,if_true]
  simp only[j5l (H:=H23) rfl,T.f34,pB,p2,p1,q0r,AV.cells,q1h,q0a,ifV,q1g,q1i,w_f34,AV.one,lcs,Mem.q00,←hM,gi,gj,cm,es,el]
  exact done fM
 ·rw[j4e w hka]at gi
  have ci:=df (show ¬((st.iA i:Nat):Int)<0 by omega)
  rw[e]
  rcases LSt.q10 w j with ⟨e',hn⟩|⟨a',p',e',g1',g2',hid',hka',hpn',hkp',ma',mp'⟩
  ·rw[none_idx j hn]at gj
   rw[e']
   simp only[ne_eq,not_true_eq_false,if_false,show ¬(40:Int)=0 by omega,not_false_eq_true,if_true]
   simp only[j5l (H:=H23) rfl,T.f34,pB,p2,p1,q0r,AV.cells,q1h,q0a,ifV,q1g,q1i,w_f34,AV.one,lcs,Mem.q00,←hM,gi,gj,ci,cm,es,el]
   exact done fM
  ·rw[j4e w hka']at gj
   have cj:=df (show ¬((st.iA j:Nat):Int)<0 by omega)
   rw[e']
   obtain⟨sp,sq,sa,rp,rq,ra,k1,k2,k3,k4,k5⟩:=hR.ex
   have a3:∀i:Nat,ld1 M (.ptr (some ⟨b,i⟩))=[sp,sq,sa,.int .u64 st.latest,.int .i64 st.most][i]?:=fun i=>q0j k1
   obtain⟨ea,uA1,uA2⟩:=uA
   obtain⟨ba,r1,r2,r3,r4,r5⟩:=k4.reads uA1 uA2 (f:=AccV.cells) (i:=st.iA i) (by have:=(LSt.q2i g1).2;rw[hid]at this;exact this)
   obtain⟨ba',r1',r2',r3',r4',r5'⟩:=k4.reads uA1 uA2 (f:=AccV.cells) (i:=st.iA j) (by have:=(LSt.q2i g1').2;rw[hid']at this;exact this)
   have c0:=r4 M (Fr.refl _) 1 (by omega)
   have c0':=r4' M (Fr.refl _) 1 (by omega)
   simp only[ge,AccV.cells]at c0 c0'
   simp only[ne_eq,not_true_eq_false,if_false]
   rw[hpn,hpn']
   by_cases hnn:a.coin=a'.coin
   ·rw[if_pos hnn]
    simp only[j5l (H:=H23) rfl,T.f34,pB,p2,p1,q0r,AV.cells,q1h,q0a,ifV,q1g,q1i,w_f34,AV.one,lcs,Mem.q00,←hM,gi,gj,ci,cj]
    simp only[j6c (H:=H23),T.g34_0,p1,q1,p2,q0r,nnA,q0a,q1g,q1i,w_g34_0,a3,r3,r3',c0,c0',dt hnn,es,el]
    exact done fM
   ·rw[if_neg hnn]
    have sx:(st.q5l a.coin).isSome=true:=by rw[g2];rfl
    have sy:(st.q5l a'.coin).isSome=true:=by rw[g2'];rfl
    have gq:=rq_at (H:=H23) rfl hR (by have:=w.lq;omega) a.coin a'.coin M (Fr.refl _)
    rw[ridxQ w sx sy]at gq
    have l0:run E23 (.fn 34) [.ptr (some ⟨b,0⟩),.int .u64 i,.int .u64 j,.agg [.int .i64 x.hi,.int .u64 x.lo,.int .i64 s]] m=D23.gor 139265 [.ptr (some ⟨b,0⟩),.ptr (some ⟨m.next,0⟩),.ptr (some ⟨m.next+1,0⟩),.int .i64 ((st.iA i:Nat):Int),.int .i64 ((st.iA j:Nat):Int),.str a.coin,.str a'.coin] M:=by
     simp only[j5l (H:=H23) rfl,T.f34,pB,p2,p1,q0r,AV.cells,q1h,q0a,ifV,q1g,q1i,w_f34,AV.one,lcs,Mem.q00,←hM,gi,gj,ci,cj]
     simp only[j6c (H:=H23),T.g34_0,p1,q1,p2,q0r,nnA,q0a,q1g,q1i,w_g34_0,a3,r3,r3',c0,c0',df hnn]
    rw[l0]
    clear l0 gi gj
    cases hq:q1d q0c (a.coin++a'.coin) (st.pairs.map (·.key)) with
    |false=>
     rw[if_neg (by rw[hq];decide)]at gq
     rw[LSt.z2o hq]
     simp only[q85 (H:=H23),T.j9r,p2,p1,q0r,q0a,q1g,q1i,z3r,gq,cm,es,el]
     exact done fM
    |true=>
     rw[if_pos hq]at gq
     obtain⟨q,q1,q2,q3,q4⟩:=LSt.q88 hq
     rw[q1]
     dsimp only
     have cq:=df (show ¬((st.iQ (a.coin++a'.coin):Nat):Int)<0 by omega)
     have ft:=rf_at (H:=H23) rfl hR w g2 hx s M (Fr.refl _)
     have lD:ldN M (.ptr (some ⟨m.next,0⟩)) 3=some (.agg (q02 x s)):=q1b hD rfl
     have lD2:ldN M (.ptr (some ⟨m.next,0⟩)) 2=some (.agg x.cells):=by rw[q1v hD (by simp)];rfl
     simp only[q02,Wd.cells]at lD lD2 ft
     unfold convT
     obtain⟨fe,hfe⟩:∃fe,fe=q3b p x s:=⟨_,rfl⟩
     rw[←hfe]at ft⊢
     by_cases f0:fe=0
     ·subst f0
      rw[if_neg (by simp)]
      have xpos:=(q6y hfe.symm).2
      have po:=z8e (H:=H23) rfl (w.oka a ma).1 hx M
      have hsl:=j2f (a.bal.val-x.val)
      have b0:=r5 M (Fr.refl _) 2 2 (by omega)
      simp only[AccV.cells,List.drop_succ_cons,List.drop_zero,List.take_succ_cons,List.take_zero]at b0
      simp only[Wd.cells]at po
      by_cases hpr:a.bal.val<x.val
      ·rw[if_pos hpr]
       rw[dt (show a.bal.val-x.val<0 by omega)]at hsl
       simp only[q85 (H:=H23),T.j9r,p2,p1,q0r,q0a,q1g,q1i,z3r,gq,cq]
       simp only[z1h (H:=H23),T.g34_2,p2,p1,q0r,q0a,q1g,q1i,z9d,lD,ft,decide_true,Bool.not_true]
       simp only[z6w (H:=H23),T.g34_3,p1,p2,q0r,nnA,q0a,q1g,q1i,j40,a3,r3,b0,lD2,po,hsl,es,el]
       exact done fM
      ·rw[if_neg hpr]
       rw[df (show ¬a.bal.val-x.val<0 by omega)]at hsl
       have efx:q1c (a.bal.val-x.val)=true:=by
        have h2:=Wd.q6h (w.oka a ma).1
        unfold q1c at h2⊢
        simp only[Bool.and_eq_true,decide_eq_true_eq]at h2⊢
        omega
       obtain⟨eq',uQ1,uQ2⟩:=uQ
       obtain⟨eP,uP1,uP2⟩:=uP
       obtain⟨bq,t1,t2,t3,t4,t5⟩:=k3.reads uQ1 uQ2 (f:=PairV.cells) (i:=st.iQ (a.coin++a'.coin)) q3
       have gp:=z8i (H:=H23) rfl hR (by have:=w.lp;omega) a'.coin M (Fr.refl _)
       rw[z8g w (by rw[←hpn'];exact hkp')]at gp
       have gpa:=(LSt.j3q g2').2
       rw[hpn']at gpa
       obtain⟨bp,v1,v2,v3,v4,v5⟩:=k2.reads uP1 uP2 (f:=PurseV.cells) gpa
       have w0:=v4 M (Fr.refl _) 1 (by omega)
       have t0:=t5 M (Fr.refl _) 2 3 (by omega)
       simp only[ge,PurseV.cells,PairV.cells,List.drop_succ_cons,List.drop_zero,List.take_succ_cons,List.take_zero]at w0 t0
       have okq:=w.okq q q4
       have cr:=rcross_at (H:=H23) rfl hx okq.1 s q.rscale p'.scale M
       have crok:=crossD_ok x s q.rate q.rscale p'.scale
       obtain⟨cd,hcd⟩:∃cd,cd=q4l x s q.rate q.rscale p'.scale:=⟨_,rfl⟩
       rw[←hcd]at cr crok⊢
       obtain⟨gw,gs,ge'⟩:=cd
       obtain⟨M3,hM3⟩:∃M3,M3=M.lay (.cells (q02 gw gs) false):=⟨_,rfl⟩
       have f3:Fr M M3 []:=by rw[hM3];exact(Fr.refl M).lay _
       have s3:stV (M.lay (.cells [.int .i64 0,.int .u64 0,.int .i64 0] false)) (.ptr (some ⟨M.next,0⟩)) (.agg (q02 gw gs)) 3=some M3:=by rw[q1w (n:=3) (q0d M _) rfl rfl rfl,q1m,hM3]
       obtain⟨es3,el3⟩:=er (f3.get hZ (by simp))
       simp only[q02]at cr s3 crok
       try dsimp only
       by_cases hge:ge'=0
       ·subst hge
        rw[if_neg (by simp)]
        have n3:M3.next=m.next+1+1+1:=by rw[hM3];show M.next+1=_;rw[nM]
        have hG:M3.get (m.next+2)=some (.cells (q02 gw gs) false):=by rw[hM3,show m.next+2=M.next by omega];exact q0d _ _
        have a33:∀i:Nat,ld1 M3 (.ptr (some ⟨b,i⟩))=[sp,sq,sa,.int .u64 st.latest,.int .i64 st.most][i]?:=fun i=>q0j (f3.get k1 (by simp))
        obtain⟨nin,hnin⟩:∃nin,nin=(Wd.res (q.inx.val+x.val)).1:=⟨_,rfl⟩
        obtain⟨nout,hnout⟩:∃nout,nout=(Wd.res (q.outy.val-gw.val)).1:=⟨_,rfl⟩
        obtain⟨nto,hnto⟩:∃nto,nto=(Wd.res (a'.bal.val+gw.val)).1:=⟨_,rfl⟩
        have y1:=fun m=>q9i (H:=H23) rfl okq.2.2.1 hx m
        have y2:=fun m=>q9m (H:=H23) rfl okq.2.2.2.1 crok m
        have y3:=fun m=>q9i (H:=H23) rfl (w.oka a' ma').1 crok m
        have d1:=q4t (n:=q.inx.val+x.val)
        have d2:=q4t (n:=q.outy.val-gw.val)
        have d3:=q4t (n:=a'.bal.val+gw.val)
        rw[←hnin]at y1
        rw[←hnout]at y2
        rw[←hnto]at y3
        obtain⟨M4,hM4⟩:∃M4,M4=M3.lay (.cells nin.cells false):=⟨_,rfl⟩
        obtain⟨M5,hM5⟩:∃M5,M5=M4.lay (.cells nout.cells false):=⟨_,rfl⟩
        obtain⟨M6,hM6⟩:∃M6,M6=M5.lay (.cells nto.cells false):=⟨_,rfl⟩
        have g4:Fr M3 M4 []:=by rw[hM4];exact(Fr.refl _).lay _
        have g5:Fr M4 M5 []:=by rw[hM5];exact(Fr.refl _).lay _
        have g6:Fr M5 M6 []:=by rw[hM6];exact(Fr.refl _).lay _
        have n4:M4.next=m.next+4:=by rw[hM4];show M3.next+1=_;omega
        have n5:M5.next=m.next+5:=by rw[hM5];show M4.next+1=_;omega
        have s4:stV (M3.lay (.cells [.int .i64 0,.int .u64 0] false)) (.ptr (some ⟨M3.next,0⟩)) (.agg nin.cells) 2=some M4:=by rw[q1w (n:=2) (q0d M3 _) rfl rfl rfl,q1m,hM4]
        have s5:stV (M4.lay (.cells [.int .i64 0,.int .u64 0] false)) (.ptr (some ⟨M4.next,0⟩)) (.agg nout.cells) 2=some M5:=by rw[q1w (n:=2) (q0d M4 _) rfl rfl rfl,q1m,hM5]
        have s6:stV (M5.lay (.cells [.int .i64 0,.int .u64 0] false)) (.ptr (some ⟨M5.next,0⟩)) (.agg nto.cells) 2=some M6:=by rw[q1w (n:=2) (q0d M5 _) rfl rfl rfl,q1m,hM6]
        have F4:=f3.step0 g4
        have F5:=F4.step0 g5
        have F6:=F5.step0 g6
        have G6:Fr M3 M6 []:=(g4.step0 g5).step0 g6
        obtain⟨es6,el6⟩:=er (F6.get hZ (by simp))
        have u1:=t5 M3 f3 5 2 (by omega)
        have u2:=t5 M4 F4 7 2 (by omega)
        have u3:=r5' M5 F5 2 2 (by omega)
        simp only[AccV.cells,PairV.cells,List.drop_succ_cons,List.drop_zero,List.take_succ_cons,List.take_zero]at u1 u2 u3
        have a34:∀i:Nat,ld1 M4 (.ptr (some ⟨b,i⟩))=[sp,sq,sa,.int .u64 st.latest,.int .i64 st.most][i]?:=fun i=>q0j (F4.get k1 (by simp))
        have a35:∀i:Nat,ld1 M5 (.ptr (some ⟨b,i⟩))=[sp,sq,sa,.int .u64 st.latest,.int .i64 st.most][i]?:=fun i=>q0j (F5.get k1 (by simp))
        have e3:ldN M3 (.ptr (some ⟨m.next,0⟩)) 2=some (.agg x.cells):=by rw[q1v (f3.get hD (by simp)) (by simp)];rfl
        have e4:ldN M4 (.ptr (some ⟨m.next+2,0⟩)) 2=some (.agg gw.cells):=by rw[q1v (g4.get hG (by simp)) (by simp[q02])];rfl
        have e5:ldN M5 (.ptr (some ⟨m.next+2,0⟩)) 2=some (.agg gw.cells):=by rw[q1v ((g4.step0 g5).get hG (by simp)) (by simp[q02])];rfl
        have mn:M.next=m.next+2:=by omega
        rw[mn]at s3
        have st5:∀v:Bool,(q1c (q.inx.val+x.val)&&(q1c (q.outy.val-gw.val)&&q1c (a'.bal.val+gw.val)))=v→D23.gor 139269 [.ptr (some ⟨b,0⟩),.ptr (some ⟨m.next,0⟩),.ptr (some ⟨m.next+1,0⟩),.int .i64 ((st.iA i:Nat):Int),.int .i64 ((st.iA j:Nat):Int),.int .i64 ((st.iQ (a.coin++a'.coin):Nat):Int),.ptr (some ⟨m.next+2,0⟩)] M3 =
          if v=true then D23.gor 139270 [.ptr (some ⟨b,0⟩),.ptr (some ⟨m.next,0⟩),.ptr (some ⟨m.next+1,0⟩),.int .i64 ((st.iA i:Nat):Int),.int .i64 ((st.iA j:Nat):Int),.int .i64 ((st.iQ (a.coin++a'.coin):Nat):Int),.ptr (some ⟨m.next+2,0⟩),.ptr (some ⟨M3.next,0⟩),.ptr (some ⟨M4.next,0⟩),.ptr (some ⟨M5.next,0⟩)] M6
          else some (.tup [.agg [.int .i64 0,.int .u64 0,.int .i64 0],.int .i64 20],M6.put (m.next+1) (some (.cells [.int .i64 0,.int .u64 0,.int .i64 0] false))):=by
         intro v hv
         simp only[Wd.cells]at y1 y2 y3 s4 s5 s6 e3 e4 e5
         cases h1:q1c (q.inx.val+x.val) with
         |false=>
          rw[h1]at d1 hv
          rw[Bool.false_and]at hv
          subst hv
          simp only[z1i (H:=H23),T.g34_5,p1,p2,pB,q0r,nnA,q0g,q0a,ifV,q1g,q1i,z9e,a33,a34,a35,t3,r3',u1,u2,u3,e3,e4,e5,y1,y2,y3,s4,s5,s6,d1,Bool.not_false,es6,el6,Bool.false_eq_true,if_false]
         |true=>
          rw[h1]at d1 hv
          rw[Bool.true_and]at hv
          cases h2:q1c (q.outy.val-gw.val) with
          |false=>
           rw[h2]at d2 hv
           rw[Bool.false_and]at hv
           subst hv
           simp only[z1i (H:=H23),T.g34_5,p1,p2,pB,q0r,nnA,q0g,q0a,ifV,q1g,q1i,z9e,a33,a34,a35,t3,r3',u1,u2,u3,e3,e4,e5,y1,y2,y3,s4,s5,s6,d1,d2,Bool.not_true,Bool.not_false,es6,el6,Bool.false_eq_true,if_false]
          |true=>
           rw[h2]at d2 hv
           rw[Bool.true_and]at hv
           rw[hv]at d3
           cases v with
           |false=>simp only[z1i (H:=H23),T.g34_5,p1,p2,pB,q0r,nnA,q0g,q0a,ifV,q1g,q1i,z9e,a33,a34,a35,t3,r3',u1,u2,u3,e3,e4,e5,y1,y2,y3,s4,s5,s6,d1,d2,d3,Bool.not_true,Bool.not_false,es6,el6,Bool.false_eq_true,if_false]
           |true=>simp only[z1i (H:=H23),T.g34_5,p1,p2,pB,q0r,nnA,q0g,q0a,ifV,q1g,q1i,z9e,a33,a34,a35,t3,r3',u1,u2,u3,e3,e4,e5,y1,y2,y3,s4,s5,s6,d1,d2,d3,Bool.not_true]
        simp only[q85 (H:=H23),T.j9r,p2,p1,q0r,q0a,q1g,q1i,z3r,gq,cq]
        simp only[z1h (H:=H23),T.g34_2,p2,p1,q0r,q0a,q1g,q1i,z9d,lD,ft,decide_true,Bool.not_true]
        simp only[z6w (H:=H23),T.g34_3,p1,p2,q0r,nnA,q0a,q1g,q1i,j40,a3,r3,b0,lD2,po,hsl]
        simp only[j6d (H:=H23),T.g34_4,p1,p2,pB,q0r,nnA,q0g,q0a,q1g,q1i,w_g34_4,lD,a3,t3,t0,gp,v3,w0,cr,s3,decide_true,Bool.not_true,mn]
        rw[st5 _ rfl]
        cases hv:(q1c (q.inx.val+x.val)&&(q1c (q.outy.val-gw.val)&&q1c (a'.bal.val+gw.val))) with
        |false=>
         rw[if_neg (by simp),if_pos (by unfold q4r;rw[efx,Bool.true_and];revert hv;cases q1c (q.inx.val+x.val)<;>cases q1c (q.outy.val-gw.val)<;>cases q1c (a'.bal.val+gw.val)<;>simp)]
         exact done (fM.step0 F6)
        |true=>
         simp only[Bool.and_eq_true]at hv
         rw[if_pos rfl,if_neg (by unfold q4r;rw[efx,hv.1,hv.2.1,hv.2.2];simp)]
         rw[q2b hv.1]at hnin
         rw[q2b hv.2.1]at hnout
         rw[q2b hv.2.2]at hnto
         have hij:i≠j:=fun h=>hnn (by rw[h,g1']at g1;cases g1;rfl)
         have p3:M6.get (m.next+3)=some (.cells nin.cells false):=(g5.step0 g6).get (by rw[hM4,show m.next+3=M3.next by omega];exact q0d _ _) (by simp)
         have p4:M6.get (m.next+4)=some (.cells nout.cells false):=g6.get (by rw[hM5,show m.next+4=M4.next by omega];exact q0d _ _) (by simp)
         have p5:M6.get (m.next+5)=some (.cells nto.cells false):=by rw[hM6,show m.next+5=M5.next by omega];exact q0d _ _
         obtain⟨m',o1,o2,o3⟩:=rconv_put (hR.q0p F6) hF g1 g1' hij q1 (w.oka a ma).1 hx (s:=s) efx (F6.get hD (by simp)) (F6.get hZ (by simp)) (G6.get hG (by simp)) p3 p4 p5
         rw[show M3.next=m.next+3 by omega,n4,n5,o1]
         simp only[hnin,hnout,hnto]at o2
         refine⟨m',rfl,o2,((fM.step0 F6).any F).step o3 (fun c hc=>?_)⟩
         simp only[List.mem_cons]at hc
         rcases hc with rfl|hc
         ·exact .inr (by omega)
         ·exact .inl hc
       ·rw[if_pos hge]
        simp only[q85 (H:=H23),T.j9r,p2,p1,q0r,q0a,q1g,q1i,z3r,gq,cq]
        simp only[z1h (H:=H23),T.g34_2,p2,p1,q0r,q0a,q1g,q1i,z9d,lD,ft,decide_true,Bool.not_true]
        simp only[z6w (H:=H23),T.g34_3,p1,p2,q0r,nnA,q0a,q1g,q1i,j40,a3,r3,b0,lD2,po,hsl]
        simp only[j6d (H:=H23),T.g34_4,p1,p2,pB,q0r,nnA,q0g,q0a,q1g,q1i,w_g34_4,lD,a3,t3,t0,gp,v3,w0,cr,s3,df hge,Bool.not_false,es3,el3]
        exact done (fM.step0 f3)
     ·rw[if_pos f0]
      simp only[q85 (H:=H23),T.j9r,p2,p1,q0r,q0a,q1g,q1i,z3r,gq,cq]
      simp only[z1h (H:=H23),T.g34_2,p2,p1,q0r,q0a,q1g,q1i,z9d,lD,ft,df f0,Bool.not_false,es,el]
      exact done fM
end
end
section
set_option maxRecDepth 4000
open Go Go.Abs
theorem pick2_is (m:Mem) (k:Int) {n:Int} (h0:0<n) (h1:n≤4611686018427387904):run E23 (.fn 10) [.int .i64 k,.int .i64 n] m=some (.int .i64 (k % n),m):=by
 have e:k.tmod n=if 0≤k then k % n else if k % n=0 then 0 else k % n-n:=by
  rw[Int.tmod_eq_emod]
  split
  ·rename_i h
   rcases h with h|h
   ·rw[if_pos h];omega
   ·by_cases h2:0≤k
    ·rw[if_pos h2];omega
    ·rw[if_neg h2,if_pos (Int.emod_eq_zero_of_dvd h),Int.emod_eq_zero_of_dvd h];omega
  ·rename_i h
   rw[if_neg (fun h2=>h (.inl h2))]
   have:¬k % n=0:=fun h2=>h (.inr (Int.dvd_of_emod_eq_zero h2))
   rw[if_neg this]
   have:=Int.natAbs_of_nonneg (show 0≤n by omega)
   omega
 have p0:=Int.emod_nonneg k (show n≠0 by omega)
 have p1:=Int.emod_lt_of_pos k h0
 simp only[f10_is (H:=H23) rfl,T.f10,p2,q0a,w_f10,q34 _ _ _ _ (show n≠0 by omega)]
 by_cases hn:k.tmod n<0
 ·simp only[dt hn,j5u (H:=H23),T.g10_0,w_g10_0]
  have e2:k.tmod n+n=k % n:=by
   rw[e]at hn⊢
   split at hn
   ·omega
   ·split at hn
    ·omega
    ·rename_i g1 g2;rw[if_neg g1,if_neg g2];omega
  rw[e2,wrap_i64 (by omega) (by omega)]
 ·simp only[df hn,j5u (H:=H23),T.g10_0,w_g10_0]
  have e2:k.tmod n=k % n:=by
   rw[e]at hn⊢
   split at hn
   ·rename_i g1;rw[if_pos g1]
   ·split at hn
    ·rename_i g1 g2;rw[if_neg g1,if_pos g2,g2]
    ·omega
  rw[e2]
def S24:List FuncId:=[10]
def R24:List FuncId:=[34]
noncomputable def H24:FuncId→Option (List AV→Mem→R):=q62 E23 S24 R24
noncomputable abbrev E24:Env:=T.EH H24
theorem E24_ok:EnvOk E24:=q4v E23_ok S24 R24
theorem raw23 {H:FuncId→Option (List AV→Mem→R)} {f:FuncId} (h:H f=some (run E23 (.fn f))) (xs:List AV) (m:Mem):run (T.EH H) (.fn f) xs m=run E23 (.fn f) xs m:=q1t h xs m
theorem q3t {H:FuncId→Option (List AV→Mem→R)} (h:H 10=some (q0v E23 10)) (m:Mem) (k:Int) {n:Int} (h0:0<n) (h1:n≤4611686018427387904):run (T.EH H) (.fn 10) [.int .i64 k,.int .i64 n] m=some (.int .i64 (k % n),m):=
 q0s h (by simp[AV.flat,AV.lt]) fun m2 _ _=>⟨m2,pick2_is m2 k h0 h1,Fr.refl _⟩
def q5i (n:Int):Wd×Int:=
 if (n.tdiv 7) % 24=0 then (⟨0,n % 5000⟩,(n.tdiv 13) % 19) else if (n.tdiv 7) % 24=1 then (⟨9223372036854775807,18446744073709551615⟩,2) else
 if (n.tdiv 7) % 24=2 then (⟨-1,18446744073709551615⟩,2) else if (n.tdiv 7) % 24=3 then (⟨n % 4611686018427387904,n % 5000⟩,2) else (⟨0,n % 5000⟩,2)
theorem j9a (n:Int):(q5i n).1.ok:=by
 unfold q5i Wd.ok
 (repeat' split)<;>(simp only;omega)
theorem tdiv_range {n k:Int} (h1:-9223372036854775808≤n) (h2:n<9223372036854775808) (hk:2≤k):IntKind.wrap .i64 (n.tdiv k)=n.tdiv k:=by
 have h3:(n.tdiv k).natAbs≤n.natAbs:=by
  rw[Int.natAbs_tdiv];exact Nat.div_le_self _ _
 have h4:(n.tdiv k).natAbs≤n.natAbs / 2:=by
  rw[Int.natAbs_tdiv]
  exact Nat.div_le_div_left (by omega) (by omega)
 exact wrap_i64 (by omega) (by omega)
theorem amt_is {n:Int} (h1:-9223372036854775808≤n) (h2:n<9223372036854775808) (m:Mem):Res m (run E24 (.fn 26) [.int .i64 n] m) (.agg (q02 (q5i n).1 (q5i n).2)):=by
 have p1:=fun m=>q3t (H:=H24) rfl m n (n:=5000) (by omega) (by omega)
 have p2:=fun m=>q3t (H:=H24) rfl m (n.tdiv 7) (n:=24) (by omega) (by omega)
 have p3:=fun m=>q3t (H:=H24) rfl m (n.tdiv 13) (n:=19) (by omega) (by omega)
 have p4:=fun m=>q3t (H:=H24) rfl m n (n:=4611686018427387904) (by omega) (by omega)
 have q7:=q5y (P:=Tryz.prog) 3 .i64 n 7 (by omega)
 have q13:=q5y (P:=Tryz.prog) 3 .i64 n 13 (by omega)
 rw[tdiv_range h1 h2 (by omega)]at q7 q13
 have wl:IntKind.wrap .u64 (n % 5000)=n % 5000:=wrap_u64 (by omega) (by omega)
 unfold q5i
 obtain⟨k,hk⟩:∃k,k=(n.tdiv 7) % 24:=⟨_,rfl⟩
 rw[←hk]at p2⊢
 by_cases k0:k=0
 ·rw[if_pos k0]
  simp only[z96 (H:=H24) rfl,T.f26,pB,p1,p2,q0r,AV.cells,Nat.reduceAdd,Nat.reduceLeDiff,q0a,w_f26,AV.one,over,lcl,p3,p4,q7,q13,wl,dt k0,q02]
  simp only[q82 (H:=H24),T.j9o,q1,q1g,q1i,z3o,AV.one,over,AV.cells,Nat.reduceAdd,Nat.reduceLeDiff,lcl]
  refine Res.eq ?_ rfl
  (repeat apply Fr.lays)
  exact Fr.refl _
 ·rw[if_neg k0]
  by_cases k1:k=1
  ·rw[if_pos k1]
   simp only[z96 (H:=H24) rfl,T.f26,pB,p1,p2,q0r,AV.cells,Nat.reduceAdd,Nat.reduceLeDiff,q0a,w_f26,AV.one,over,lcl,p3,p4,q7,q13,wl,df k0,dt k1,q02]
   simp only[q82 (H:=H24),T.j9o,q1,q1g,q1i,z3o,AV.one,over,AV.cells,Nat.reduceAdd,Nat.reduceLeDiff,lcl]
   refine Res.eq ?_ rfl
   (repeat apply Fr.lays)
   exact Fr.refl _
  ·rw[if_neg k1]
   by_cases k2:k=2
   ·rw[if_pos k2]
    simp only[z96 (H:=H24) rfl,T.f26,pB,p1,p2,q0r,AV.cells,Nat.reduceAdd,Nat.reduceLeDiff,q0a,w_f26,AV.one,over,lcl,p3,p4,q7,q13,wl,df k0,df k1,dt k2,q02]
    simp only[q82 (H:=H24),T.j9o,q1,q1g,q1i,z3o,AV.one,over,AV.cells,Nat.reduceAdd,Nat.reduceLeDiff,lcl]
    refine Res.eq ?_ rfl
    (repeat apply Fr.lays)
    exact Fr.refl _
   ·rw[if_neg k2]
    by_cases k3:k=3
    ·rw[if_pos k3]
     simp only[z96 (H:=H24) rfl,T.f26,pB,p1,p2,q0r,AV.cells,Nat.reduceAdd,Nat.reduceLeDiff,q0a,w_f26,AV.one,over,lcl,p3,p4,q7,q13,wl,df k0,df k1,df k2,dt k3,q02]
     simp only[q82 (H:=H24),T.j9o,q1,q1g,q1i,z3o,AV.one,over,AV.cells,Nat.reduceAdd,Nat.reduceLeDiff,lcl]
     refine Res.eq ?_ rfl
     (repeat apply Fr.lays)
     exact Fr.refl _
    ·rw[if_neg k3]
     simp only[z96 (H:=H24) rfl,T.f26,pB,p1,p2,q0r,AV.cells,Nat.reduceAdd,Nat.reduceLeDiff,q0a,w_f26,AV.one,over,lcl,p3,p4,q7,q13,wl,df k0,df k1,df k2,df k3,q02]
     simp only[q82 (H:=H24),T.j9o,q1,q1g,q1i,z3o,AV.one,over,AV.cells,Nat.reduceAdd,Nat.reduceLeDiff,lcl]
     refine Res.eq ?_ rfl
     (repeat apply Fr.lays)
     exact Fr.refl _
def S25:List FuncId:=[26]
noncomputable def H25:FuncId→Option (List AV→Mem→R):=q2w E24 S25
noncomputable abbrev E25:Env:=T.EH H25
theorem E25_ok:EnvOk E25:=q1k E24_ok S25
theorem amt_at {H:FuncId→Option (List AV→Mem→R)} (h:H 26=some (q0v E24 26)) {n:Int} (h1:-9223372036854775808≤n) (h2:n<9223372036854775808) (m:Mem):run (T.EH H) (.fn 26) [.int .i64 n] m=some (.agg (q02 (q5i n).1 (q5i n).2),m):=
 q0s h (by simp[AV.flat,AV.lt,AV.lts,q02]) fun m2 _ _=>amt_is h1 h2 m2
theorem fit_is {m:Mem} {b:Nat} {st:LSt} {F:List Nat} (h:RefAt m b st F) (w:LWf st) (id:Int) {n:Int} (h1:-9223372036854775808≤n) (h2:n<9223372036854775808) :
  Res m (run E25 (.fn 30) [.ptr (some ⟨b,0⟩),.int .u64 id,.int .i64 n] m) (.agg (q02 (q5i n).1 (q08 st id).2.1)):=by
 have ba:=rb_at (H:=H25) rfl h w id
 have am:=fun m=>amt_at (H:=H25) rfl h1 h2 m
 have hb:b<m.next:=by obtain⟨_,_,_,e,_⟩:=h.v;exact Mem.q0w e
 simp only[q02]at ba am⊢
 simp (maxDischargeDepth:=20) only [f30_is (H:=H25) rfl,T.f30,pB,p1,q1,q0g,q1g,q1i,Nat.reduceAdd,w_f30,AV.one,over,AV.cells,Nat.reduceLeDiff,lcl,ba,am,frl,Fr.refl]
 refine Res.eq ?_ rfl
 (repeat apply Fr.lays)
 exact Fr.refl _
def S26:List FuncId:=[30]
noncomputable def H26:FuncId→Option (List AV→Mem→R):=q2w E25 S26
noncomputable abbrev E26:Env:=T.EH H26
theorem E26_ok:EnvOk E26:=q1k E25_ok S26
noncomputable abbrev D26:Do:=T.Rl H26
theorem fit_at {H:FuncId→Option (List AV→Mem→R)} (hh:H 30=some (q0v E25 30)) {m:Mem} {b:Nat} {st:LSt} {F:List Nat} (h:RefAt m b st F) (w:LWf st) (id:Int) {n:Int} (h1:-9223372036854775808≤n) (h2:n<9223372036854775808) (M:Mem) (hM:Fr m M []) :
  run (T.EH H) (.fn 30) [.ptr (some ⟨b,0⟩),.int .u64 id,.int .i64 n] M=some (.agg (q02 (q5i n).1 (q08 st id).2.1),M):=
 q0s hh (by simp[AV.flat,AV.lt,AV.lts,q02]) fun m2 g1 g2=>fit_is ((h.q0p hM).q0p (Fr.same g1 g2)) w id h1 h2
end
section
set_option maxRecDepth 8000
set_option maxHeartbeats 1000000
open Go Go.Abs
def nmEUR:List UInt8:=[69,85,82]
def nmJPY:List UInt8:=[74,80,89]
def nmUSD:List UInt8:=[85,83,68]
def j9h:List AV:=[.str nmEUR,.str nmJPY,.str nmUSD]
def z9x (k:Int):List UInt8:=if k=0 then nmEUR else if k=1 then nmJPY else nmUSD
theorem coin_ix {m:Mem} {cb:Nat} {ro:Bool} (h:m.get cb=some (.cells j9h ro)) {k:Int} (h0:0≤k) (h3:k<3):ixA 1 3 ⟨cb,0⟩ k=some (.ptr (some ⟨cb,k.toNat⟩))∧ld1 m (.ptr (some ⟨cb,k.toNat⟩))=some (.str (z9x k)):=by
 have:k=0∨k=1∨k=2:=by omega
 refine⟨by simp[ixA,h0,h3],?_⟩
 rw[q0j h]
 rcases this with rfl|rfl|rfl<;>rfl
theorem coinN_len (k:Int):(z9x k).length=3:=by unfold z9x;(repeat' split)<;>rfl
theorem j9i (st:LSt) (n:List UInt8) (s:Int):(j27 st n s).2.most=st.most:=by unfold j27;(repeat' split)<;>rfl
theorem z5f (st:LSt) (n:List UInt8):(j1q st n).2.2.most=st.most:=by unfold j1q;(repeat' split)<;>rfl
theorem q8t (st:LSt) (i:Int) (x:Wd) (s:Int):(q51 st i x s).2.most=st.most:=by unfold q51;dsimp only;(repeat' split)<;>rfl
theorem z4i (st:LSt) (i:Int) (x:Wd) (s:Int):(q46 st i x s).2.most=st.most:=by unfold q46;dsimp only;(repeat' split)<;>rfl
theorem z4h (st:LSt) (i j:Int) (x:Wd) (s:Int):(q1n st i j x s).2.most=st.most:=by unfold q1n;dsimp only;(repeat' split)<;>rfl
theorem rateF_most (st:LSt) (x y:List UInt8) (r:Wd) (s:Int):(j39 st x y r s).2.most=st.most:=by unfold j39;(repeat' split)<;>rfl
theorem z6c (st:LSt) (i j:Int) (x:Wd) (s:Int):(q4p st i j x s).2.2.2.most=st.most:=by
 unfold q4p convT;dsimp only
 (repeat' split)<;>first|rfl|(unfold LSt.q8h;rfl)
def i64 (n:Int):Prop:=-9223372036854775808≤n∧n<9223372036854775808
def actC (a:Int×Int×Int×Int):List AV:=[.int .i64 a.1,.int .i64 a.2.1,.int .i64 a.2.2.1,.int .i64 a.2.2.2]
section
variable {M:Mem} {b:Nat} {st:LSt} {F:List Nat}
theorem j9e (h:RefAt M b st F) (g:LInv st) {sl t4:AV} {i:Nat} {a:Int×Int×Int×Int} {bs o:Nat} (hco:∃ro,M.get 1=some (.cells j9h ro))
  (hix:q09 Tryz.prog 22 sl (.int .i64 (i:Int))=some (.ptr (some ⟨bs,o⟩))) (hld:ldN M (.ptr (some ⟨bs,o⟩)) 4=some (.agg (actC a))) (hN:i64 a.2.2.2) :
  ∃M3 st' F',D26.gor 36865 [sl,t4,.ptr (some ⟨b,0⟩),.int .i64 (i:Int)] M=D26.gor 36866 [sl,t4,.ptr (some ⟨b,0⟩),.int .i64 (i:Int)] M3∧RefAt M3 b st' F'∧LInv st'∧st'.most=st.most∧Fr M M3 F∧∀c,c∈F'→c∈F∨M.next≤c:=by
 obtain⟨w,A,B,N⟩:=a
 obtain⟨ro,hco⟩:=hco
 simp only[actC]at hld hN
 obtain⟨M2,hM2⟩:∃M2,M2=M.lay (.cells [.int .i64 w,.int .i64 A,.int .i64 B,.int .i64 N] false):=⟨_,rfl⟩
 have f2:Fr M M2 []:=by rw[hM2];exact(Fr.refl M).lay _
 have s2:stV (M.lay (.cells [.int .i64 0,.int .i64 0,.int .i64 0,.int .i64 0] false)) (.ptr (some ⟨M.next,0⟩)) (.agg [.int .i64 w,.int .i64 A,.int .i64 B,.int .i64 N]) 4=some M2:=by rw[q1w (n:=4) (q0d M _) rfl rfl rfl,q1m,hM2]
 have a2:∀i:Nat,ld1 M2 (.ptr (some ⟨M.next,i⟩))=[AV.int .i64 w,.int .i64 A,.int .i64 B,.int .i64 N][i]?:=fun i=>by rw[hM2];exact q0j (q0d M _)
 have hR:=h.q0p f2
 have co:=f2.get hco (by simp)
 have pA5:=fun m=>q3t (H:=H26) rfl m A (n:=5) (by omega) (by omega)
 have pB5:=fun m=>q3t (H:=H26) rfl m B (n:=5) (by omega) (by omega)
 have pw:=fun m=>q3t (H:=H26) rfl m w (n:=9) (by omega) (by omega)
 have pA3:=fun m=>q3t (H:=H26) rfl m A (n:=3) (by omega) (by omega)
 have pB3:=fun m=>q3t (H:=H26) rfl m B (n:=3) (by omega) (by omega)
 have pN4:=fun m=>q3t (H:=H26) rfl m N (n:=4) (by omega) (by omega)
 obtain⟨iA,lA⟩:=coin_ix co (k:=A % 3) (by omega) (by omega)
 obtain⟨iB,lB⟩:=coin_ix co (k:=B % 3) (by omega) (by omega)
 have wA1:IntKind.wrap .i64 (1+A % 5)=1+A % 5:=wrap_i64 (by omega) (by omega)
 have wA2:IntKind.wrap .u64 (1+A % 5)=1+A % 5:=wrap_u64 (by omega) (by omega)
 have wB1:IntKind.wrap .i64 (1+B % 5)=1+B % 5:=wrap_i64 (by omega) (by omega)
 have wB2:IntKind.wrap .u64 (1+B % 5)=1+B % 5:=wrap_u64 (by omega) (by omega)
 have wN:IntKind.wrap .u64 (N % 4)=N % 4:=wrap_u64 (by omega) (by omega)
 have ft:=fit_at (H:=H26) rfl hR g.w (1+A % 5) hN.1 hN.2 M2 (Fr.refl _)
 have am:=amt_at (H:=H26) rfl hN.1 hN.2 M2
 have dok:=j9a N
 obtain⟨D,hD⟩:∃D,D=q5i N:=⟨_,rfl⟩
 rw[←hD]at ft am dok
 obtain⟨s,hs⟩:∃s,s=(q08 st (1+A % 5)).2.1:=⟨_,rfl⟩
 rw[←hs]at ft
 simp only[q02]at ft am
 obtain⟨k,hk⟩:∃k,k=w % 9:=⟨_,rfl⟩
 have hk9:k=0∨k=1∨k=2∨k=3∨k=4∨k=5∨k=6∨k=7∨k=8:=by omega
 rw[←hk]at pw
 clear hk
 have fin:∀{M3:Mem} {st':LSt} {F':List Nat},D26.gor 36865 [sl,t4,.ptr (some ⟨b,0⟩),.int .i64 (i:Int)] M=D26.gor 36866 [sl,t4,.ptr (some ⟨b,0⟩),.int .i64 (i:Int)] M3→RefAt M3 b st' F'→LInv st'→st'.most=st.most→Fr M2 M3 F→(∀c,c∈F'→c∈F∨M2.next≤c)→
   ∃M3 st' F',D26.gor 36865 [sl,t4,.ptr (some ⟨b,0⟩),.int .i64 (i:Int)] M=D26.gor 36866 [sl,t4,.ptr (some ⟨b,0⟩),.int .i64 (i:Int)] M3∧RefAt M3 b st' F'∧LInv st'∧st'.most=st.most∧Fr M M3 F∧∀c,c∈F'→c∈F∨M.next≤c:=fun {M3 st' F'} e1 e2 e3 e4 e5 e6=>
  ⟨M3,st',F',e1,e2,e3,e4,(f2.any F).step e5 (fun c hc=>.inl hc),fun c hc=>(e6 c hc).imp id (fun h=>Nat.le_trans f2.next h)⟩
 rcases hk9 with rfl|rfl|rfl|rfl|rfl|rfl|rfl|rfl|rfl
 ·obtain⟨M3,F',c1,c2,c3,c4⟩:=rcoin_is hR g.w (z9x (A % 3)) (by rw[coinN_len];omega) (scale:=N % 4) (by omega)
  have c1':=(j1w (H:=H26) (f:=27) rfl _ _).trans c1
  refine fin ?_ c2 (coinF_inv g _ (by omega)) (j9i _ _ _) c3 c4
  simp only[q54 (H:=H26),T.g9_1,p2,q1,pB,p1,q0a,q9u,hix,hld,s2,a2,pA5,pB5,pw,wA1,wA2,wB1,wB2,pA3,iA,lA,pN4,wN,if_true,Int.reduceEq,decide_true,decide_false,c1']
 ·obtain⟨M3,F',c1,c2,c3,c4⟩:=j75 hR g.w (z9x (A % 3))
  have c1':=(j1w (H:=H26) (f:=28) rfl _ _).trans c1
  refine fin ?_ c2 (j1r g _) (z5f _ _) c3 c4
  simp only[q54 (H:=H26),T.g9_1,p2,q1,pB,p1,q0a,q9u,hix,hld,s2,a2,pA5,pB5,pw,wA1,wA2,wB1,wB2,pA3,iA,lA,if_true,Int.reduceEq,decide_true,decide_false,c1']
 ·obtain⟨M3,F',c1,c2,c3,c4⟩:=j75 hR g.w (z9x (A % 3))
  have c1':=(j1w (H:=H26) (f:=28) rfl _ _).trans c1
  refine fin ?_ c2 (j1r g _) (z5f _ _) c3 c4
  simp only[q54 (H:=H26),T.g9_1,p2,q1,pB,p1,q0a,q9u,hix,hld,s2,a2,pA5,pB5,pw,wA1,wA2,wB1,wB2,pA3,iA,lA,if_true,Int.reduceEq,decide_true,decide_false,c1']
 ·obtain⟨M3,c1,c2,c3⟩:=z3e hR g.w (1+A % 5) dok s
  have c1':=(j1w (H:=H26) (f:=29) rfl _ _).trans c1
  refine fin ?_ c2 (z0n g _ _ _) (q8t _ _ _ _) c3 (fun c hc=>.inl hc)
  simp only[q02]at c1'
  simp only[q54 (H:=H26),T.g9_1,p2,q1,pB,p1,q0a,q9u,hix,hld,s2,a2,pA5,pB5,pw,wA1,wA2,wB1,wB2,ft,Int.reduceEq,decide_true,decide_false,c1']
 ·obtain⟨M3,c1,c2,c3⟩:=z3e hR g.w (1+A % 5) dok s
  have c1':=(j1w (H:=H26) (f:=29) rfl _ _).trans c1
  refine fin ?_ c2 (z0n g _ _ _) (q8t _ _ _ _) c3 (fun c hc=>.inl hc)
  simp only[q02]at c1'
  simp only[q54 (H:=H26),T.g9_1,p2,q1,pB,p1,q0a,q9u,hix,hld,s2,a2,pA5,pB5,pw,wA1,wA2,wB1,wB2,ft,Int.reduceEq,decide_true,decide_false,c1']
 ·obtain⟨M3,c1,c2,c3⟩:=j2c hR g.w (1+A % 5) dok s
  have c1':=(j1w (H:=H26) (f:=31) rfl _ _).trans c1
  refine fin ?_ c2 (z9i g _ _ _) (z4i _ _ _ _) c3 (fun c hc=>.inl hc)
  simp only[q02]at c1'
  simp only[q54 (H:=H26),T.g9_1,p2,q1,pB,p1,q0a,q9u,hix,hld,s2,a2,pA5,pB5,pw,wA1,wA2,wB1,wB2,ft,Int.reduceEq,decide_true,decide_false,c1']
 ·obtain⟨M3,c1,c2,c3⟩:=j2a hR g.w (1+A % 5) (1+B % 5) dok s
  have c1':=(j1w (H:=H26) (f:=32) rfl _ _).trans c1
  refine fin ?_ c2 (q9s g _ _ _ _) (z4h _ _ _ _ _) c3 (fun c hc=>.inl hc)
  simp only[q02]at c1'
  simp only[q54 (H:=H26),T.g9_1,p2,q1,pB,p1,q0a,q9u,hix,hld,s2,a2,pA5,pB5,pw,wA1,wA2,wB1,wB2,ft,Int.reduceEq,decide_true,decide_false,c1']
 ·obtain⟨M3,F',c1,c2,c3,c4⟩:=rrt_is hR g.toLGood (z9x (A % 3)) (z9x (B % 3)) dok D.2
  have c1':=(j1w (H:=H26) (f:=33) rfl _ _).trans c1
  refine fin ?_ c2 (rateF_inv g _ _ dok _) (rateF_most _ _ _ _ _) c3 c4
  simp only[q02]at c1'
  simp only[q54 (H:=H26),T.g9_1,p2,q1,pB,p1,q0a,q9u,hix,hld,s2,a2,pA5,pB5,pw,wA1,wA2,wB1,wB2,pA3,pB3,iA,lA,iB,lB,am,if_true,Int.reduceEq,decide_true,decide_false,c1']
 ·obtain⟨M3,c1,c2,c3⟩:=j4c hR g.w (1+A % 5) (1+B % 5) dok s
  have c1':=(raw23 (H:=H26) (f:=34) rfl _ _).trans c1
  refine fin ?_ c2 (z9y g _ _ _ _) (z6c _ _ _ _ _) c3 (fun c hc=>.inl hc)
  simp only[q02]at c1'
  simp only[q54 (H:=H26),T.g9_1,p2,q1,pB,p1,q0a,q9u,hix,hld,s2,a2,pA5,pB5,pw,wA1,wA2,wB1,wB2,ft,Int.reduceEq,decide_false,c1']
end
end
end Go.Proofs.YtlginbmjiecglaaGreatDoor
namespace Go.Abs
section
open Go
def ARow (n:Nat) (m:Mem) (s:AV) (l:List (List AV)):Prop:=q7i n m s l∨(l=[]∧∃a sz cap ex,s=.sl a sz 0 cap ex)
section
variable {P:Program} {t e:TypeId} {n:Nat} {m m':Mem} {s:AV} {l:List (List AV)}
theorem ARow.q0p (h:ARow n m s l) (hf:Fr m m' []):ARow n m' s l:=h.imp (fun h=>h.q0p hf) id
theorem ARow.q4n (ht:P.underlying t=some (.slice e)) (h:ARow n m s l):q4n P t s=some (.int .i64 (l.length:Int)):=by
 rcases h with h|⟨rfl,a,sz,cap,ex,rfl⟩
 ·exact h.q4n ht
 ·exact j1f ht ..
theorem ARow.ixT (ht:P.underlying t=some (.slice e)) (hs:szT P e=some n) (h:ARow n m s l) {i:Nat} (hi:i<l.length) :
  ∃b o,b<m.next∧(∀k:IntKind,q09 P t s (.int k (i:Int))=some (.ptr (some ⟨b,o⟩)))∧(∀k,k<n→ld1 m (.ptr (some ⟨b,o+k⟩))=l[i][k]?)∧(∀k j,k+j≤n→ldN m (.ptr (some ⟨b,o+k⟩)) j=some (.agg ((l[i].drop k).take j)))∧ldN m (.ptr (some ⟨b,o⟩)) n=some (.agg l[i]):=by
 rcases h with h|⟨rfl,_⟩
 ·exact h.ixT ht hs hi
 ·simp at hi
end
theorem rows_of {n:Nat} {cs:List AV} {o:Nat} (f:Nat→List AV):∀(len:Nat),(∀i,i<len→(cs.drop (o+i*n)).take n=f i)→(cs.drop o).take (len*n)=((List.range len).map f).flatten
 | 0,_=>by simp
 |len+1,h=>by
  rw[Nat.succ_mul,List.take_add,rows_of f len (fun i hi=>h i (by omega)),List.drop_drop,h len (by omega),List.range_succ,List.map_append,List.flatten_append]
  simp
section
variable {P:Program} {W:World} {H:Type} {enc:TypeId×Value→H} {t e:TypeId} {v:Value} {base:Nat}
theorem arg_rows {α:Type} [Inhabited α] {f:α→List AV} {Q:α→Prop} {n:Nat} (hn0:0<n) {d:DataW H} {p:List MemPlace} (ht:P.underlying t=some (.slice e)) (hn:P.cellsOf e=n) (h:Value.okWide P W .any base t v) (hr:DataW.Trod enc P W 0 (fun _=>true) true t v d p)
  (hel:∀(m:Nat) (cs:List Value) (y:DataW H×List MemPlace),cs.length=n→DataW.trod enc P W 0 (fun _=>true) true m e cs=some y→∃a,cs.map (absP W)=f a∧Q a) (hf:∀a,(f a).length=n∧(f a).all AV.one=true) :
  ∃l:List α,ARow n (j48 W) (absV W v) (l.map f)∧∀a∈l,Q a:=by
 rcases arg_slice ht h hr with h|⟨a,len,cap,cs,h1,h2,h3,m,h4⟩
 ·exact⟨[],.inl ⟨by simp,.inl ⟨rfl,_,_,_,h⟩⟩,by simp⟩
 ·rw[hn]at h4
  have h5:∀i,i<len→∃x,((cs.drop (a.o+i*n)).take n).map (absP W)=f x∧Q x:=fun i hi=>by
   obtain⟨h6,y,h7⟩:=h4 i (by omega)
   exact hel m _ y h6 h7
  obtain⟨g,hg⟩:=Go.Deep.choose_lt h5
  by_cases h0:len=0
  ·subst h0
   exact⟨[],.inr ⟨rfl,some a,0,cap,true,h1⟩,by simp⟩
  refine⟨(List.range len).map g,.inl ⟨fun x hx=>?_,.inr ⟨a.b,a.o,0,cap,true,true,cs.map (absP W),?_,.inr rfl,h3,?_,?_⟩⟩,fun x hx=>?_⟩
  ·obtain⟨y,_,rfl⟩:=List.mem_map.1 hx
   exact hf y
  ·simpa using h1
  ·have h6:=(h4 (len-1) (by omega)).1
   simp only[List.length_take,List.length_drop]at h6
   simp only[List.length_map,List.length_range]
   have e:len*n=(len-1)*n+n:=by rw[←Nat.succ_mul];congr 1;omega
   omega
  ·rw[List.length_map,List.length_map,List.length_range,List.map_map]
   have:=rows_of (cs:=cs.map (absP W)) (o:=a.o) (n:=n) (fun i=>f (g i)) len fun i hi=>by
    rw[←List.map_drop,←List.map_take];exact(hg i hi).1
   exact this
  ·obtain⟨i,hi,rfl⟩:=List.mem_map.1 hx
   exact(hg i (List.mem_range.1 hi)).2
end
end
end Go.Abs
namespace Go.Proofs.YtlginbmjiecglaaGreatDoor
section
set_option maxRecDepth 4000
open Go Go.Abs
theorem uAct:∃e,Tryz.prog.underlying 22=some (.slice e)∧szT Tryz.prog e=some 4:=⟨77,by kernel_rfl,by kernel_rfl⟩
theorem j9v {m0:Mem} {sl t4:AV} {acts:List (Int×Int×Int×Int)} (hv:ARow 4 m0 sl (acts.map actC)) (hN:∀a∈acts,i64 a.2.2.2) (hco:∃ro,m0.get 1=some (.cells j9h ro)) {b:Nat}:∀(d i:Nat) (M:Mem) (st:LSt) (F:List Nat),i+d=60→Fr m0 M []→RefAt M b st F→LInv st→(∀c,c∈F→m0.next≤c)→
  ∃M' st' F',D26.gor 36864 [sl,t4,.ptr (some ⟨b,0⟩),.int .i64 (i:Int)] M=D26.gor 36867 [t4,.ptr (some ⟨b,0⟩)] M'∧RefAt M' b st' F'∧LInv st'∧st'.most=st.most∧Fr m0 M' []∧∀c,c∈F'→m0.next≤c:=by
 obtain⟨e,he,hs⟩:=uAct
 have hlen:=hv.q4n he
 rw[List.length_map]at hlen
 intro d
 induction d with
 |zero=>
  intro i M st F hi fM hR g hF
  have:i=60:=by omega
  subst this
  refine⟨M,st,F,?_,hR,g,rfl,fM,hF⟩
  have c2:decide (((60:Nat):Int)<60)=false:=by decide
  by_cases h:((60:Nat):Int)<(acts.length:Int)
  ·simp only[z7d (H:=H26),T.g9_0,p1,p2,q0a,ifV,j85,hlen,dt h,c2]
  ·simp only[z7d (H:=H26),T.g9_0,p1,p2,q0a,ifV,j85,hlen,df h]
 |succ d ih=>
  intro i M st F hi fM hR g hF
  by_cases h:i<acts.length
  ·obtain⟨bs,o,_,x2,_,_,x5⟩:=(hv.q0p fM).ixT he hs (i:=i) (by rw[List.length_map];exact h)
   rw[List.getElem_map]at x5
   obtain⟨ro,hco'⟩:=hco
   obtain⟨M3,st',F',e1,e2,e3,e4,e5,e6⟩:=j9e hR g (sl:=sl) (t4:=t4) ⟨ro,fM.get hco' (by simp)⟩ (x2 .i64) x5 (hN _ (List.getElem_mem h))
   have f3:Fr m0 M3 []:=fM.step e5 (fun c hc=>.inr (hF c hc))
   obtain⟨M4,st4,F4,r1,r2,r3,r4,r5,r6⟩:=ih (i+1) M3 st' F' (by omega) f3 e2 e3 (fun c hc=>by rcases e6 c hc with h|h;exact hF c h;exact Nat.le_trans fM.next h)
   refine⟨M4,st4,F4,?_,r2,r3,r4.trans e4,r5,r6⟩
   simp only[z7d (H:=H26),T.g9_0,p1,p2,q0a,ifV,j85,hlen,dt (show (i:Int)<(acts.length:Int) by omega),dt (show (i:Int)<60 by omega)]
   rw[e1]
   simp only[g9_2_is (H:=H26),T.g9_2,p2,w_g9_2,show (i:Int)+1=((i+1:Nat):Int) by omega,wrap_i64 (n:=((i+1:Nat):Int)) (by omega) (by omega)]
   exact r1
  ·refine⟨M,st,F,?_,hR,g,rfl,fM,hF⟩
   simp only[z7d (H:=H26),T.g9_0,p1,p2,q0a,ifV,j85,hlen,df (show ¬(i:Int)<(acts.length:Int) by omega)]
structure BkN (n:Nat) (m:Mem) (sp sq sa:AV) (st:LSt):Prop where
 ex:∃rp rq ra,q1s 4 m sp (st.q0b.map (·.cells)) rp∧q1s 9 m sq (st.pairs.map (·.cells)) rq∧q1s 4 m sa (st.q0n.map (·.cells)) ra∧Dj rp.toList rq.toList∧Dj rp.toList ra.toList∧Dj rq.toList ra.toList∧(∀c,c∈rp.toList++rq.toList++ra.toList→n≤c)
theorem BkN.v {n:Nat} {m:Mem} {sp sq sa:AV} {st:LSt} (h:BkN n m sp sq sa st):BkV m sp sq sa st:=by
 obtain⟨rp,rq,ra,h1,h2,h3,_⟩:=h.ex
 exact⟨h1.v,h2.v,h3.v⟩
theorem hbook_is {m:Mem} {sl:AV} {acts:List (Int×Int×Int×Int)} (hv:ARow 4 m sl (acts.map actC)) (hN:∀a∈acts,i64 a.2.2.2) (hco:∃ro,m.get 1=some (.cells j9h ro)) {most:Int} (hm:1≤most∧most≤64) :
  ∃st sp sq sa m',run E26 (.fn 9) [sl,.int .i64 most] m=some (.agg [sp,sq,sa,.int .u64 st.latest],m')∧LInv st∧st.most=most∧BkN m.next m' sp sq sa st∧Fr m m' []:=by
 obtain⟨m0,hm0⟩:∃m0,m0=m.lay (.cells [.sl none 0 0 0 true,.sl none 0 0 0 true,.sl none 0 0 0 true,.int .u64 0] false):=⟨_,rfl⟩
 have f0:Fr m m0 []:=by rw[hm0];exact(Fr.refl m).lay _
 have n0:m0.next=m.next+1:=by rw[hm0];rfl
 have Z0:m0.get m.next=some (.cells [.sl none 0 0 0 true,.sl none 0 0 0 true,.sl none 0 0 0 true,.int .u64 0] false):=by rw[hm0];exact q0d _ _
 obtain⟨M,hM⟩:∃M,M=m0.lay (.cells [.sl none 0 0 0 true,.sl none 0 0 0 true,.sl none 0 0 0 true,.int .u64 0,.int .i64 most] false):=⟨_,rfl⟩
 have fM:Fr m0 M []:=by rw[hM];exact(Fr.refl m0).lay _
 have B0:M.get m0.next=some (.cells [.sl none 0 0 0 true,.sl none 0 0 0 true,.sl none 0 0 0 true,.int .u64 0,.int .i64 most] false):=by rw[hM];exact q0d _ _
 have hR:RefAt M m0.next ⟨[],[],[],0,most⟩ [m0.next]:=⟨_,_,_,none,none,none,B0,q1s.nil _ _ _ _,q1s.nil _ _ _ _,q1s.nil _ _ _ _,by simp,by simp,by simp,by simp[Dj],by simp[Dj],by simp[Dj],rfl⟩
 obtain⟨ro,hco'⟩:=hco
 obtain⟨M',st,F',r1,r2,r3,r4,r5,r6⟩:=j9v (t4:=.ptr (some ⟨m.next,0⟩)) (hv.q0p f0) hN ⟨ro,f0.get hco' (by simp)⟩ 60 0 M _ _ rfl fM hR (LInv.new most hm) (by simp)
 obtain⟨sp,sq,sa,rp,rq,ra,h1,h2,h3,h4,h5,h6,h7,h8,h9,h10,hF⟩:=r2.ex
 have Z':=r5.get Z0 (by simp)
 have o1:[sp,sq,sa,AV.int .u64 st.latest].all AV.one=true:=by rw[List.all_cons,List.all_cons,List.all_cons,h2.one,h3.one,h4.one];rfl
 have lB:ldN M' (.ptr (some ⟨m0.next,0⟩)) 4=some (.agg [sp,sq,sa,.int .u64 st.latest]):=by rw[q1v h1 (by simp)];rfl
 have s4:=q1w (n:=4) (v:=[sp,sq,sa,AV.int .u64 st.latest]) Z' rfl rfl o1
 have l4:ldN (M'.put m.next (some (.cells [sp,sq,sa,.int .u64 st.latest] false))) (.ptr (some ⟨m.next,0⟩)) 4=some (.agg [sp,sq,sa,.int .u64 st.latest]):=q1b (q05 Z') rfl
 have fp:Fr M' (M'.put m.next (some (.cells [sp,sq,sa,.int .u64 st.latest] false))) [m.next]:=Fr.put _ _ _
 have nb:∀{r:Option Nat},(∀c,c∈r.toList→c∈F')→∀c,r=some c→c∉[m.next]:=fun hr c hc=>by
  have:=r6 c (hr c (by rw[hc];simp));simp;omega
 have in1:∀c,c∈rp.toList→c∈F':=fun c hc=>by rw[hF];simp only[List.mem_cons,List.mem_append];exact .inr (.inl (.inl hc))
 have in2:∀c,c∈rq.toList→c∈F':=fun c hc=>by rw[hF];simp only[List.mem_cons,List.mem_append];exact .inr (.inl (.inr hc))
 have in3:∀c,c∈ra.toList→c∈F':=fun c hc=>by rw[hF];simp only[List.mem_cons,List.mem_append];exact .inr (.inr hc)
 refine⟨st,sp,sq,sa,_,?_,r3,r4,⟨rp,rq,ra,h2.frame fp (nb in1),h3.frame fp (nb in2),h4.frame fp (nb in3),h8,h9,h10,fun c hc=>?_⟩,(f0.step0 r5).put' (.inr (Nat.le_refl _))⟩
 ·have nx:m.next+1=m0.next:=n0.symm
  simp only[Int.natCast_zero]at r1
  simp only[f9_is (H:=H26) rfl,T.f9,pB,p1,q0r,AV.cells,Nat.reduceAdd,Nat.reduceLeDiff,q1h,w_f9,AV.one,lcs,ge,Mem.q00,←hm0,←hM,nx,r1]
  simp only[g9_3_is (H:=H26),T.g9_3,p1,q1,nnA,q1g,q1i,w_g9_3,lB,s4,l4]
 ·simp only[List.mem_append]at hc
  have:c∈F':=by
   rcases hc with (hc|hc)|hc
   ·exact in1 c hc
   ·exact in2 c hc
   ·exact in3 c hc
  have:=r6 c this;omega
end
end Go.Proofs.YtlginbmjiecglaaGreatDoor
