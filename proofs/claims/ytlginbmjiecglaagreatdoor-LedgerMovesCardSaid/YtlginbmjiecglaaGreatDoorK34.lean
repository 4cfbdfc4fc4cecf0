/- Texts of one claim, put together. -/
import Derived.Test.YtlginbmjiecglaaGreatDoorK0
import Derived.Test.YtlginbmjiecglaaGreatDoorK19
import Derived.Test.YtlginbmjiecglaaGreatDoorK33
namespace Go.Proofs.YtlginbmjiecglaaGreatDoor
section
set_option maxRecDepth 4000
open Go Go.Abs
def S28:List FuncId:=[47,48,49]
noncomputable def H28:FuncId→Option (List AV→Mem→R):=q2w E27 S28
noncomputable abbrev E28:Env:=T.EH H28
theorem E28_ok:EnvOk E28:=q1k E27_ok S28
noncomputable abbrev D28:Do:=T.Rl H28
section
variable {H:FuncId→Option (List AV→Mem→R)} {m:Mem} {sp sq sa:AV} {st:LSt}
theorem rpai_at (hh:H 47=some (q0v E27 47)) (hb:BkV m sp sq sa st) (ok:BkOk st) (M:Mem) (hM:Fr m M []):run (T.EH H) (.fn 47) [.agg [sp,sq,sa,.int .u64 st.latest]] M=some (.bool (q6o (j1o st) st.pairs.length 0),M):=
 q0s hh (by simp[AV.flat,AV.lt]) fun m2 h1 h2=>rpai_is ((hb.q0p hM).q0p (Fr.same h1 h2)) ok
theorem racc2_at (hh:H 48=some (q0v E27 48)) (hb:BkV m sp sq sa st) (ok:BkOk st) (M:Mem) (hM:Fr m M []):run (T.EH H) (.fn 48) [.agg [sp,sq,sa,.int .u64 st.latest]] M=some (.bool (q6o (j1n st) st.q0n.length 0&&decide (st.latest≤72057594037927935)),M):=
 q0s hh (by simp[AV.flat,AV.lt]) fun m2 h1 h2=>racc2_is ((hb.q0p hM).q0p (Fr.same h1 h2)) ok
theorem bald_at (hh:H 49=some (q0v E27 49)) (hb:BkV m sp sq sa st) (ok:BkOk st) (lt:Int) (p:PurseV) (hp:p.out.ok) (M:Mem) (hM:Fr m M []):run (T.EH H) (.fn 49) [.agg [sp,sq,sa,.int .u64 lt],.agg p.cells] M=some (.bool (decide (sumP st.pairs st.q0n p=0)),M):=
 q0s hh (by simp[AV.flat,AV.lt]) fun m2 h1 h2=>bald_is ((hb.q0p hM).q0p (Fr.same h1 h2)) ok lt p hp
end
def j9u (st:LSt) (i:Nat) (p:PurseV):Bool:=q66 p.name&&(z05 st.q0b i (fun r=>q0c r.name p.name)&&(decide (0≤p.scale)&&decide (p.scale≤18)))
def okPur (st:LSt) (i:Nat):Bool:=match st.q0b[i]? with|some p=>j9u st i p|none=>false
def okBal (st:LSt) (i:Nat):Bool:=match st.q0b[i]? with|some p=>decide (sumP st.pairs st.q0n p=0)|none=>false
def j15 (st:LSt):Bool:=decide (1≤st.most)&&(decide (st.most≤64)&&(decide (st.q0b.length≤8)&&(decide ((st.q0n.length:Int)≤st.most)&&(q6o (okPur st) st.q0b.length 0&&(q6o (j1o st) st.pairs.length 0&&((q6o (j1n st) st.q0n.length 0&&decide (st.latest≤72057594037927935))&&q6o (okBal st) st.q0b.length 0))))))
section
variable {m:Mem} {bb:Nat} {st:LSt} {sp sq sa:AV}
theorem j17 (h1:m.get bb=some (.cells [sp,sq,sa,.int .u64 st.latest] false)) (hb:BkV m sp sq sa st) (ok:BkOk st):∀(d i:Nat) (M:Mem),i+d=st.q0b.length→Fr m M []→
  ∃M',Fr M M' []∧D28.gor 57345 [.ptr (some ⟨bb,0⟩),sp,.int .i64 (st.q0b.length:Int),.int .i64 (i:Int)] M=if q6o (okPur st) d i=true then D28.gor 57348 [.ptr (some ⟨bb,0⟩)] M' else some (.bool false,M'):=by
 obtain⟨e,he,hs⟩:=uP
 have hn:=ok.small.1
 intro d
 induction d with
 |zero=>
  intro i M hi hM
  have:i=st.q0b.length:=by omega
  subst this
  refine⟨M,Fr.refl _,?_⟩
  simp only[j5z (H:=H28),T.g14_1,p2,q0a,w_g14_1,df (show ¬((st.q0b.length:Nat):Int)<(st.q0b.length:Int) by omega),q6o,if_true]
 |succ d ih=>
  intro i M hi hM
  have hlt:i<st.q0b.length:=by omega
  obtain⟨bs,o,_,x2,_,_,x5⟩:=(hb.p.q0p hM).ixT he hs (i:=i) (by rw[List.length_map];exact hlt)
  rw[List.getElem_map]at x5
  obtain⟨q,hq⟩:∃q,q=st.q0b[i]:=⟨_,rfl⟩
  have mq:q∈st.q0b:=by rw[hq];exact List.getElem_mem hlt
  rw[←hq]at x5
  obtain⟨M2,hM2⟩:∃M2,M2=M.lay (.cells q.cells false):=⟨_,rfl⟩
  have f2:Fr M M2 []:=by rw[hM2];exact(Fr.refl M).lay _
  have F2:Fr m M2 []:=hM.step0 f2
  have s2:stV (M.lay (.cells [.str [],.int .i64 0,.int .i64 0,.int .u64 0] false)) (.ptr (some ⟨M.next,0⟩)) (.agg q.cells) 4=some M2:=by rw[q1w (n:=4) (q0d M _) rfl rfl rfl,q1m,hM2]
  have g2:M2.get M.next=some (.cells q.cells false):=by rw[hM2];exact q0d M _
  have a2:∀j:Nat,ld1 M2 (.ptr (some ⟨M.next,j⟩))=q.cells[j]?:=fun j=>q0j g2
  have b2:∀j:Nat,ld1 M2 (.ptr (some ⟨bb,j⟩))=[sp,sq,sa,AV.int .u64 st.latest][j]?:=fun j=>q0j (F2.get h1 (by simp))
  have hok:okPur st i=j9u st i q:=by unfold okPur;rw[List.getElem?_eq_getElem hlt,←hq]
  have nm:=(z0w (H:=H28) (f:=46) rfl _ _).trans (name_is q.name (ok.p q mq).2 M2)
  have st1:D28.gor 57345 [.ptr (some ⟨bb,0⟩),sp,.int .i64 (st.q0b.length:Int),.int .i64 (i:Int)] M=D28.gor 57346 [.ptr (some ⟨bb,0⟩),sp,.int .i64 (st.q0b.length:Int),.int .i64 (i:Int)] M:=by
   simp only[j5z (H:=H28),T.g14_1,p2,q0a,w_g14_1,dt (show (i:Int)<(st.q0b.length:Int) by omega)]
  have nx:D28.gor 57347 [.ptr (some ⟨bb,0⟩),sp,.int .i64 (st.q0b.length:Int),.int .i64 (i:Int)] M2=D28.gor 57345 [.ptr (some ⟨bb,0⟩),sp,.int .i64 (st.q0b.length:Int),.int .i64 ((i+1:Nat):Int)] M2:=by
   simp only[g14_3_is (H:=H28),T.g14_3,p2,w_g14_3,show (i:Int)+1=((i+1:Nat):Int) by omega,wrap_i64 (n:=((i+1:Nat):Int)) (by omega) (by omega)]
  have rd:D28.gor 57345 [.ptr (some ⟨bb,0⟩),sp,.int .i64 (st.q0b.length:Int),.int .i64 (i:Int)] M=if j9u st i q=true then D28.gor 57347 [.ptr (some ⟨bb,0⟩),sp,.int .i64 (st.q0b.length:Int),.int .i64 (i:Int)] M2 else some (.bool false,M2):=by
   rw[st1]
   unfold j9u
   simp only[PurseV.cells]at x5 s2 a2
   cases hnm:q66 q.name with
   |false=>
    rw[hnm]at nm
    simp only[q5e (H:=H28),T.z6n,p2,q1,pB,p1,q0a,ifV,unA,q7b,x2,x5,s2,a2,nm,Bool.not_false,Bool.false_and,Bool.false_eq_true,if_false]
   |true=>
    rw[hnm]at nm
    rw[Bool.true_and]
    have sc:∀r:R,(if q.scale<0 then some (AV.bool false,M2) else if 18<q.scale then some (.bool false,M2) else r)=if (decide (0≤q.scale)&&decide (q.scale≤18))=true then r else some (.bool false,M2):=by
     intro r
     by_cases s1:q.scale<0
     ·rw[if_pos s1,df (show ¬0≤q.scale by omega),Bool.false_and,if_neg (by decide)]
     ·rw[if_neg s1,dt (show 0≤q.scale by omega),Bool.true_and]
      by_cases s2:18<q.scale
      ·rw[if_pos s2,df (show ¬q.scale≤18 by omega),if_neg (by decide)]
      ·rw[if_neg s2,dt (show q.scale≤18 by omega),if_pos rfl]
    have ifd:∀(p:Prop) [Decidable p] (x y:R),(match AV.bool (decide p) with | .bool true=>x | .bool false=>y | _=>none)=if p then x else y:=by
     intro p _ x y
     by_cases h:p
     ·rw[if_pos h,dt h]
     ·rw[if_neg h,df h]
    by_cases h0:i=0
    ·have hp:z05 st.q0b i (fun r=>q0c r.name q.name)=true:=by unfold z05;rw[dt h0,Bool.true_or]
     rw[hp,Bool.true_and,←sc]
     by_cases s1:q.scale<0
     ·simp only[q5e (H:=H28),T.z6n,p2,q1,pB,p1,q0a,ifV,unA,q7b,x2,x5,s2,a2,nm,Bool.not_true,df (show ¬(0:Int)<(i:Int) by omega),dt s1,if_pos s1]
     ·by_cases s3:18<q.scale
      ·simp only[q5e (H:=H28),T.z6n,p2,q1,pB,p1,q0a,ifV,unA,q7b,x2,x5,s2,a2,nm,Bool.not_true,df (show ¬(0:Int)<(i:Int) by omega),df s1,if_neg s1,dt s3,if_pos s3]
      ·simp only[q5e (H:=H28),T.z6n,p2,q1,pB,p1,q0a,ifV,unA,q7b,x2,x5,s2,a2,nm,Bool.not_true,df (show ¬(0:Int)<(i:Int) by omega),df s1,if_neg s1,df s3,if_neg s3]
    ·obtain⟨bs',o',_,y2,y3,_,_⟩:=(hb.p.q0p F2).ixT he hs (i:=i-1) (by rw[List.length_map];omega)
     have y0:=y3 0 (by omega)
     rw[List.getElem_map]at y0
     obtain⟨r,hr⟩:∃r,r=st.q0b[i-1]'(by omega):=⟨_,rfl⟩
     have hr2:st.q0b[i-1]? = some r:=by rw[List.getElem?_eq_getElem (by omega),hr]
     rw[←hr]at y0
     simp only[ge,PurseV.cells,Nat.add_zero]at y0
     have w1:IntKind.wrap .i64 ((i:Int)-1)=((i-1:Nat):Int):=by rw[wrap_i64 (by omega) (by omega)];omega
     have hp:z05 st.q0b i (fun r=>q0c r.name q.name)=q0c r.name q.name:=by unfold z05;rw[df h0,Bool.false_or,hr2]
     have ci:=dt (show (0:Int)<(i:Int) by omega)
     rw[hp]
     cases hl:q0c r.name q.name with
     |false=>
      simp only[q5e (H:=H28),T.z6n,p2,q1,pB,p1,q0a,ifV,unA,q7b,x2,x5,s2,a2,nm,Bool.not_true,ci,b2,w1,y2,y0,hl,Bool.not_false,Bool.false_and,Bool.false_eq_true,if_false]
     |true=>
      rw[Bool.true_and,←sc]
      by_cases s1:q.scale<0
      ·simp only[q5e (H:=H28),T.z6n,p2,q1,pB,p1,q0a,ifV,unA,q7b,x2,x5,s2,a2,nm,Bool.not_true,ci,b2,w1,y2,y0,hl,dt s1,if_pos s1]
      ·by_cases s3:18<q.scale
       ·simp only[q5e (H:=H28),T.z6n,p2,q1,pB,p1,q0a,ifV,unA,q7b,x2,x5,s2,a2,nm,Bool.not_true,ci,b2,w1,y2,y0,hl,df s1,if_neg s1,dt s3,if_pos s3]
       ·simp only[q5e (H:=H28),T.z6n,p2,q1,pB,p1,q0a,ifV,unA,q7b,x2,x5,s2,a2,nm,Bool.not_true,ci,b2,w1,y2,y0,hl,df s1,if_neg s1,df s3,if_neg s3]
  rw[rd,q6o,hok,nx]
  cases hg:j9u st i q with
  |true=>
   obtain⟨M',g1,g2⟩:=ih (i+1) M2 (by omega) F2
   exact⟨M',f2.step0 g1,by rw[if_pos rfl,g2,Bool.true_and]⟩
  |false=>exact⟨M2,f2,by rw[if_neg (by decide),Bool.false_and,if_neg (by decide)]⟩
theorem right_bal (h1:m.get bb=some (.cells [sp,sq,sa,.int .u64 st.latest] false)) (hb:BkV m sp sq sa st) (ok:BkOk st):∀(d i:Nat) (M:Mem),i+d=st.q0b.length→Fr m M []→
  Res M (D28.gor 57350 [.ptr (some ⟨bb,0⟩),sp,.int .i64 (st.q0b.length:Int),.int .i64 (i:Int)] M) (.bool (q6o (okBal st) d i)):=by
 obtain⟨e,he,hs⟩:=uP
 have hn:=ok.small.1
 intro d
 induction d with
 |zero=>
  intro i M hi hM
  have:i=st.q0b.length:=by omega
  subst this
  simp only[z6p (H:=H28),T.g14_6,p2,q0a,j4t,df (show ¬((st.q0b.length:Nat):Int)<(st.q0b.length:Int) by omega),g14_9_is (H:=H28),T.g14_9,w_g14_9]
  exact Res.eq (Fr.refl _) rfl
 |succ d ih=>
  intro i M hi hM
  have hlt:i<st.q0b.length:=by omega
  obtain⟨bs,o,_,x2,_,_,x5⟩:=(hb.p.q0p hM).ixT he hs (i:=i) (by rw[List.length_map];exact hlt)
  rw[List.getElem_map]at x5
  obtain⟨q,hq⟩:∃q,q=st.q0b[i]:=⟨_,rfl⟩
  have mq:q∈st.q0b:=by rw[hq];exact List.getElem_mem hlt
  rw[←hq]at x5
  obtain⟨M2,hM2⟩:∃M2,M2=M.lay (.cells q.cells false):=⟨_,rfl⟩
  have f2:Fr M M2 []:=by rw[hM2];exact(Fr.refl M).lay _
  have F2:Fr m M2 []:=hM.step0 f2
  have s2:stV (M.lay (.cells [.str [],.int .i64 0,.int .i64 0,.int .u64 0] false)) (.ptr (some ⟨M.next,0⟩)) (.agg q.cells) 4=some M2:=by rw[q1w (n:=4) (q0d M _) rfl rfl rfl,q1m,hM2]
  have g2:M2.get M.next=some (.cells q.cells false):=by rw[hM2];exact q0d M _
  have l2:ldN M2 (.ptr (some ⟨M.next,0⟩)) 4=some (.agg q.cells):=q1b g2 rfl
  have lB:ldN M2 (.ptr (some ⟨bb,0⟩)) 4=some (.agg [sp,sq,sa,.int .u64 st.latest]):=q1b (F2.get h1 (by simp)) rfl
  have hok:okBal st i=decide (sumP st.pairs st.q0n q=0):=by unfold okBal;rw[List.getElem?_eq_getElem hlt,←hq]
  have ba:=bald_at (H:=H28) rfl hb ok st.latest q (ok.p q mq).1 M2 F2
  rw[q6o,hok]
  cases hv:decide (sumP st.pairs st.q0n q=0) with
  |false=>
   rw[hv]at ba
   simp only[z6p (H:=H28),T.g14_6,p2,q0a,j4t,dt (show (i:Int)<(st.q0b.length:Int) by omega)]
   simp only[j50 (H:=H28),T.g14_7,p2,q1,pB,p1,q0a,unA,w_g14_7,x2,x5,s2,l2,lB,ba,Bool.not_false,Bool.false_and]
   exact Res.eq f2 rfl
  |true=>
   rw[hv]at ba
   simp only[z6p (H:=H28),T.g14_6,p2,q0a,j4t,dt (show (i:Int)<(st.q0b.length:Int) by omega)]
   simp only[j50 (H:=H28),T.g14_7,p2,q1,pB,p1,q0a,unA,w_g14_7,x2,x5,s2,l2,lB,ba,Bool.not_true,Bool.true_and]
   simp only[g14_8_is (H:=H28),T.g14_8,p2,w_g14_8,show (i:Int)+1=((i+1:Nat):Int) by omega,wrap_i64 (n:=((i+1:Nat):Int)) (by omega) (by omega)]
   exact(ih (i+1) M2 (by omega) F2).step f2
theorem right_is (hb:BkV m sp sq sa st) (ok:BkOk st):Res m (run E28 (.fn 14) [.agg [sp,sq,sa,.int .u64 st.latest],.int .i64 st.most] m) (.bool (j15 st)):=by
 obtain⟨M,hM⟩:∃M,M=m.lay (.cells [sp,sq,sa,.int .u64 st.latest] false):=⟨_,rfl⟩
 have f1:Fr m M []:=by rw[hM];exact(Fr.refl m).lay _
 have g1:M.get m.next=some (.cells [sp,sq,sa,.int .u64 st.latest] false):=by rw[hM];exact q0d m _
 have a3:∀i:Nat,ld1 M (.ptr (some ⟨m.next,i⟩))=[sp,sq,sa,.int .u64 st.latest][i]?:=fun i=>q0j g1
 obtain⟨eP,uP1,uP2⟩:=uP
 obtain⟨eA,uA1,uA2⟩:=uA
 have lp:=hb.p.q4n uP1
 have la:=hb.a.q4n uA1
 rw[List.length_map]at lp la
 have hbM:=hb.q0p f1
 unfold j15
 have no:∀{v:Bool},v=false→Res m (some (.bool false,M)) (.bool v):=fun h=>Res.eq f1 (by rw[h])
 by_cases m1:st.most<1
 ·simp only[z95 (H:=H28) rfl,T.f14,p2,p1,q1,q1h,q0a,ifV,w_f14,AV.cells,on1,lcs,if_true,Option.map_some,hb.p.one,hb.q.one,hb.a.one,←hM,dt m1]
  exact no (by rw[df (show ¬1≤st.most by omega),Bool.false_and])
 ·rw[dt (show 1≤st.most by omega),Bool.true_and]
  by_cases m2:64<st.most
  ·simp only[z95 (H:=H28) rfl,T.f14,p2,p1,q1,q1h,q0a,ifV,w_f14,AV.cells,on1,lcs,if_true,Option.map_some,hb.p.one,hb.q.one,hb.a.one,←hM,df m1,dt m2]
   exact no (by rw[df (show ¬st.most≤64 by omega),Bool.false_and])
  ·rw[dt (show st.most≤64 by omega),Bool.true_and]
   by_cases m3:8<(st.q0b.length:Int)
   ·simp only[z95 (H:=H28) rfl,T.f14,p2,p1,q1,q1h,q0a,ifV,w_f14,AV.cells,on1,lcs,ge,if_true,Option.map_some,hb.p.one,hb.q.one,hb.a.one,←hM,df m1,df m2,a3,lp,dt m3]
    exact no (by rw[df (show ¬st.q0b.length≤8 by omega),Bool.false_and])
   ·rw[dt (show st.q0b.length≤8 by omega),Bool.true_and]
    by_cases m4:st.most<(st.q0n.length:Int)
    ·simp only[z95 (H:=H28) rfl,T.f14,p2,p1,q1,q1h,q0a,ifV,w_f14,AV.cells,on1,lcs,ge,if_true,Option.map_some,hb.p.one,hb.q.one,hb.a.one,←hM,df m1,df m2,a3,lp,df m3,la,dt m4]
     exact no (by rw[df (show ¬(st.q0n.length:Int)≤st.most by omega),Bool.false_and])
    ·rw[dt (show (st.q0n.length:Int)≤st.most by omega),Bool.true_and]
     obtain⟨M1,p1,p2⟩:=j17 g1 hbM ok st.q0b.length 0 M (by omega) (Fr.refl _)
     simp only[Int.natCast_zero]at p2
     simp only[z95 (H:=H28) rfl,T.f14,q1,q1h,q0a,ifV,w_f14,AV.cells,on1,lcs,ge,if_true,Option.map_some,hb.p.one,hb.q.one,hb.a.one,←hM,df m1,df m2,a3,lp,df m3,la,df m4]
     simp only[g14_0_is (H:=H28),T.g14_0,q1,w_g14_0,a3,lp]
     rw[p2]
     have F1:=f1.step0 p1
     cases hp:q6o (okPur st) st.q0b.length 0 with
     |false=>
      rw[if_neg (by decide),Bool.false_and]
      exact Res.eq F1 rfl
     |true=>
      rw[if_pos rfl,Bool.true_and]
      have lB:ldN M1 (.ptr (some ⟨m.next,0⟩)) 4=some (.agg [sp,sq,sa,.int .u64 st.latest]):=q1b (p1.get g1 (by simp)) rfl
      have a31:∀i:Nat,ld1 M1 (.ptr (some ⟨m.next,i⟩))=[sp,sq,sa,.int .u64 st.latest][i]?:=fun i=>q0j (p1.get g1 (by simp))
      have rq:=rpai_at (H:=H28) rfl hb ok M1 F1
      have ra:=racc2_at (H:=H28) rfl hb ok M1 F1
      cases hq:q6o (j1o st) st.pairs.length 0 with
      |false=>
       rw[hq]at rq
       rw[Bool.false_and]
       simp only[z6o (H:=H28),T.g14_4,q1,q0a,ifV,unA,j4s,lB,rq,Bool.not_false]
       exact Res.eq F1 rfl
      |true=>
       rw[hq]at rq
       rw[Bool.true_and]
       cases ha:(q6o (j1n st) st.q0n.length 0&&decide (st.latest≤72057594037927935)) with
       |false=>
        rw[ha]at ra
        rw[Bool.false_and]
        simp only[z6o (H:=H28),T.g14_4,q1,q0a,ifV,unA,j4s,lB,rq,ra,Bool.not_false,Bool.not_true]
        exact Res.eq F1 rfl
       |true=>
        rw[ha]at ra
        rw[Bool.true_and]
        have lo:=right_bal (p1.get g1 (by simp)) (hb.q0p F1) ok st.q0b.length 0 M1 (by omega) (Fr.refl _)
        simp only[Int.natCast_zero]at lo
        simp only[z6o (H:=H28),T.g14_4,q1,q0a,ifV,unA,j4s,lB,rq,ra,Bool.not_true]
        simp only[g14_5_is (H:=H28),T.g14_5,q1,w_g14_5,a31,lp]
        exact lo.step F1
end
end
section
open Go Go.Abs
theorem nb3 {s:List UInt8} (h:q66 s=true):s.length=3:=by
 unfold q66 at h
 simp only[Bool.and_eq_true,decide_eq_true_eq]at h
 exact h.2
theorem j1u {α:Type} {l:List α} {i:Nat} (hi:i<l.length) {r:α→Bool}:z05 l i r=true↔∀(h:0<i),r (l[i-1]'(by omega))=true:=by
 unfold z05
 rw[List.getElem?_eq_getElem (by omega)]
 by_cases h:i=0
 ·subst h;simp
 ·rw[df h,Bool.false_or]
  exact⟨fun h _=>h,fun h'=>h' (by omega)⟩
theorem rate_right (w:Wd) (s:Int):decide (q5r w s=0)=q9l w s:=by
 unfold q5r q9l
 apply decide_eq_decide.mpr
 split
 ·split<;>omega
 ·omega
theorem j16 {st:LSt} (g:LInv st):j15 st=true:=by
 have w:=g.w
 unfold j15
 simp only[Bool.and_eq_true,decide_eq_true_eq]
 refine⟨g.mo.1,g.mo.2,w.lp,g.am,?_,?_,⟨?_,w.lat.2⟩,?_⟩
 ·rw[q7j]
  intro j _ hj
  have hj':j<st.q0b.length:=by omega
  unfold okPur
  rw[List.getElem?_eq_getElem hj']
  have hp:=w.okp _ (List.getElem_mem hj')
  unfold j9u
  simp only[Bool.and_eq_true,decide_eq_true_eq]
  refine⟨hp.2.2.2,?_,hp.1,hp.2.1⟩
  rw[j1u hj']
  intro h
  have:=q4o w.sp (i:=j-1) (j:=j) (by omega) (by rw[List.length_map];exact hj')
  rwa [List.getElem_map,List.getElem_map]at this
 ·rw[q7j]
  intro j _ hj
  have hj':j<st.pairs.length:=by omega
  unfold j1o
  rw[List.getElem?_eq_getElem hj']
  have mq:=List.getElem_mem hj'
  have hq:=w.okq _ mq
  have hq1:=g.q1 _ mq
  show j3t st j st.pairs[j]=true
  unfold j3t
  rw[rate_right]
  simp only[Bool.and_eq_true,decide_eq_true_eq,Bool.not_eq_true',decide_eq_false_iff_not]
  refine⟨?_,(q4s w.sp).1 hq.2.2.2.2.1,(q4s w.sp).1 hq.2.2.2.2.2,hq1.1,hq.2.1,hq1.2.1,hq1.2.2⟩
  rw[j1u hj']
  intro h
  have:=q4o w.sq (i:=j-1) (j:=j) (by omega) (by rw[List.length_map];exact hj')
  rw[List.getElem_map,List.getElem_map]at this
  unfold PairV.key at this
  rwa [q6e (by rw[q2s w (w.okq _ (List.getElem_mem (show j-1<st.pairs.length by omega))).2.2.2.2.1,q2s w hq.2.2.2.2.1])]at this
 ·rw[q7j]
  intro j _ hj
  have hj':j<st.q0n.length:=by omega
  unfold j1n
  rw[List.getElem?_eq_getElem hj']
  have ma:=List.getElem_mem hj'
  have ha:=w.oka _ ma
  have ha1:=g.a1 _ ma
  unfold goodA
  simp only[Bool.and_eq_true,decide_eq_true_eq]
  refine⟨?_,ha.2.2.1,(q4s w.sp).1 ha.2.2.2,ha1.2⟩
  rw[List.getElem?_eq_getElem (by omega)]
  by_cases h:j=0
  ·subst h
   simp only[if_true];omega
  ·simp only[if_neg h]
   have:=q4o w.sa (i:=j-1) (j:=j) (by omega) (by rw[List.length_map];exact hj')
   rw[List.getElem_map,List.getElem_map]at this
   simpa[q0f]using this
 ·rw[q7j]
  intro j _ hj
  have hj':j<st.q0b.length:=by omega
  unfold okBal
  rw[List.getElem?_eq_getElem hj']
  exact dt (g.su _ (List.getElem_mem hj'))
theorem j1p {st:LSt} (g:LInv st):BkOk st where
 small:=⟨by have:=g.w.lp;omega,by have:=g.w.lq;omega,by have:=g.w.la;omega⟩
 p:=fun p hp=>⟨(g.w.okp p hp).2.2.1,by have:=nb3 (g.w.okp p hp).2.2.2;omega⟩
 q:=fun q hq=>by
  have h:=g.w.okq q hq
  exact⟨h.1,h.2.2.1,h.2.2.2.1,by have:=q2s g.w h.2.2.2.2.1;omega,by have:=q2s g.w h.2.2.2.2.2;omega⟩
 a:=fun a ha=>by
  have h:=g.w.oka a ha
  have:=g.w.lat
  exact⟨h.1,h.2.1,by omega,by have:=q2s g.w h.2.2.2;omega⟩
 lat:=by have:=g.w.lat;omega
end
section
set_option maxRecDepth 4000
open Go Go.Abs
def S29:List FuncId:=[14]
noncomputable def H29:FuncId→Option (List AV→Mem→R):=q2w E28 S29
noncomputable abbrev E29:Env:=T.EH H29
theorem E29_ok:EnvOk E29:=q1k E28_ok S29
noncomputable abbrev D29:Do:=T.Rl H29
theorem right_at {H:FuncId→Option (List AV→Mem→R)} (hh:H 14=some (q0v E28 14)) {m:Mem} {sp sq sa:AV} {st:LSt} (hb:BkV m sp sq sa st) (ok:BkOk st) (M:Mem) (hM:Fr m M []):run (T.EH H) (.fn 14) [.agg [sp,sq,sa,.int .u64 st.latest],.int .i64 st.most] M=some (.bool (j15 st),M):=
 q0s hh (by simp[AV.flat,AV.lt]) fun m2 h1 h2=>right_is ((hb.q0p hM).q0p (Fr.same h1 h2)) ok
section
variable {m:Mem} {b:Nat} {st:LSt} {F:List Nat}
theorem addP_is (h:LedgerAt m b st F) (hs:Srt q0c (st.q0b.map (·.name))) (p:PurseV) (hl:st.q0b.length<8) (hp:∀x∈st.q0b.map (·.name),q0c x p.name=true) {tp tq ta:AV}
  (hb:m.get b=some (.cells [.int .i64 st.most,tp,tq,ta,.int .u64 st.latest] false)) :
  ∃r m' F',run E29 (.fn 39) [tp,.str p.name,.agg p.cells] m=some (r,m')∧LedgerAt m' b {st with q0b:=st.q0b++[p]} F'∧Fr m m' F∧∀c,c∈F'→c∈F∨m.next≤c:=by
 obtain⟨tp',tq',ta',FP,FQ,FA,h1,h2,h3,h4,h5,h6,h7,h8,h9,h10,rfl⟩:=h.ex
 rw[h1]at hb
 simp only[Option.some.injEq,Blk.cells.injEq,List.cons.injEq,and_true,true_and]at hb
 obtain⟨rfl,rfl,rfl⟩:=hb
 obtain⟨m1,FP',g1,g2,g3,g4⟩:=putP_is h2 hs (by simp;omega) p.name (v:=p.cells) rfl rfl
 have hlt:((st.q0b.length:Nat):Int)<8:=by omega
 simp only[putK,putV,j3u hp,j7u hp,Bool.false_eq_true,if_false,List.length_map,if_pos hlt]at g2
 have e1:q47 st.q0b.length p.name (st.q0b.map (·.name))=(st.q0b++[p]).map (·.name):=by
  have:=q89 p.name (st.q0b.map (·.name));simp only[List.length_map]at this;rw[this];simp
 have e2:q47 st.q0b.length p.cells (st.q0b.map (·.cells))=(st.q0b++[p]).map (·.cells):=by
  have:=q89 p.cells (st.q0b.map (·.cells));simp only[List.length_map]at this;rw[this];simp
 rw[e1,e2]at g2
 obtain⟨F',q1,q2,q3⟩:=LedgerAt.q0b (ps:=st.q0b++[p]) h1 h2 h3 h4 h5 h6 h7 h8 h9 h10 g3 g2 g4
 exact⟨_,m1,F',(z0w (H:=H29) rfl _ _).trans g1,q1,q2,q3⟩
theorem addA_is (h:LedgerAt m b st F) (hs:Srt q0f (st.q0n.map (·.id))) (p:AccV) (hl:(st.q0n.length:Int)<st.most) (hl2:st.q0n.length<64) (hp:∀x∈st.q0n.map (·.id),q0f x p.id=true) {tp tq ta:AV}
  (hb:m.get b=some (.cells [.int .i64 st.most,tp,tq,ta,.int .u64 st.latest] false)) :
  ∃r m' F',run E29 (.fn 41) [ta,.int .u64 p.id,.agg p.cells] m=some (r,m')∧LedgerAt m' b {st with q0n:=st.q0n++[p]} F'∧Fr m m' F∧∀c,c∈F'→c∈F∨m.next≤c:=by
 obtain⟨tp',tq',ta',FP,FQ,FA,h1,h2,h3,h4,h5,h6,h7,h8,h9,h10,rfl⟩:=h.ex
 rw[h1]at hb
 simp only[Option.some.injEq,Blk.cells.injEq,List.cons.injEq,and_true,true_and]at hb
 obtain⟨rfl,rfl,rfl⟩:=hb
 obtain⟨m1,FA',g1,g2,g3,g4⟩:=putA_is h4 hs (by simp;omega) p.id (v:=p.cells) rfl rfl
 simp only[putK,putV,j3u hp,j7u hp,Bool.false_eq_true,if_false,List.length_map,if_pos hl]at g2
 have e1:q47 st.q0n.length p.id (st.q0n.map (·.id))=(st.q0n++[p]).map (·.id):=by
  have:=q89 p.id (st.q0n.map (·.id));simp only[List.length_map]at this;rw[this];simp
 have e2:q47 st.q0n.length p.cells (st.q0n.map (·.cells))=(st.q0n++[p]).map (·.cells):=by
  have:=q89 p.cells (st.q0n.map (·.cells));simp only[List.length_map]at this;rw[this];simp
 rw[e1,e2]at g2
 obtain⟨F',q1,q2,q3⟩:=LedgerAt.q0n (az:=st.q0n++[p]) h1 h2 h3 h4 h5 h6 h7 h8 h9 h10 g3 g2 g4
 exact⟨_,m1,F',(z0w (H:=H29) rfl _ _).trans g1,q1,q2,q3⟩
theorem addQ_is (h:LedgerAt m b st F) (hs:Srt q0c (st.pairs.map (·.key))) (p:PairV) (hl:st.pairs.length<64) (hp:∀x∈st.pairs.map (·.key),q0c x p.key=true) {tp tq ta:AV}
  (hb:m.get b=some (.cells [.int .i64 st.most,tp,tq,ta,.int .u64 st.latest] false)) :
  ∃r m' F',run E29 (.fn 40) [tq,.str p.key,.agg p.cells] m=some (r,m')∧LedgerAt m' b {st with pairs:=st.pairs++[p]} F'∧Fr m m' F∧∀c,c∈F'→c∈F∨m.next≤c:=by
 obtain⟨r,m1,F',g1,g2,g3,g4⟩:=putQ_is2 h hs (by omega) p hb
 have e:st.q8h p={st with pairs:=st.pairs++[p]}:=by
  unfold LSt.q8h LSt.iQ
  rw[if_neg (by rw[j3u hp];decide),if_pos hl,j7u hp,List.length_map,q89]
 rw[e]at g2
 exact⟨r,m1,F',((z0w (H:=H29) rfl _ _).trans (z0w (H:=H18) rfl _ _).symm).trans g1,g2,g3,g4⟩
end
theorem z8m {κ:Type} {lt:κ→κ→Bool} {l:List κ} (h:Srt lt l) (k:Nat):Srt lt (l.take k):=List.Pairwise.sublist (List.take_sublist _ _) h
theorem z3k {κ:Type} {lt:κ→κ→Bool} {l:List κ} (h:Srt lt l) {k:Nat} (hk:k<l.length):∀x∈l.take k,lt x l[k]=true:=by
 intro x hx
 obtain⟨i,hi,rfl⟩:=List.mem_iff_getElem.1 hx
 rw[List.length_take]at hi
 rw[List.getElem_take]
 exact q4o h (by omega) hk
theorem z0g {α:Type} {l:List α} {i:Nat} (h:i<l.length):l.take i++[l[i]]=l.take (i+1):=by rw[List.take_add_one,List.getElem?_eq_getElem h];rfl
section
variable {m:Mem} {sp sq sa:AV} {st:LSt} {b:Nat}
theorem from_P (hb:BkV m sp sq sa st) (g:LInv st) (t2:AV):∀(d i:Nat) (M:Mem) (F:List Nat),i+d=st.q0b.length→Fr m M []→LedgerAt M b ⟨st.q0b.take i,[],[],0,st.most⟩ F→(∀c,c∈F→m.next≤c)→
  ∃M' F',D29.gor 49154 [t2,.ptr (some ⟨b,0⟩),sp,.int .i64 (st.q0b.length:Int),.int .i64 (i:Int)] M=D29.gor 49157 [t2,.ptr (some ⟨b,0⟩)] M'∧LedgerAt M' b ⟨st.q0b,[],[],0,st.most⟩ F'∧Fr m M' []∧(∀c,c∈F'→m.next≤c):=by
 obtain⟨e,he,hs⟩:=uP
 have lp:=g.w.lp
 intro d
 induction d with
 |zero=>
  intro i M F hi hM hL hF
  have:i=st.q0b.length:=by omega
  subst this
  rw[List.take_length]at hL
  refine⟨M,F,?_,hL,hM,hF⟩
  simp only[j5w (H:=H29),T.g12_2,p2,q0a,w_g12_2,df (show ¬((st.q0b.length:Nat):Int)<(st.q0b.length:Int) by omega)]
 |succ d ih=>
  intro i M F hi hM hL hF
  have hlt:i<st.q0b.length:=by omega
  obtain⟨bs,o,_,x2,_,_,x5⟩:=(hb.p.q0p hM).ixT he hs (i:=i) (by rw[List.length_map];exact hlt)
  rw[List.getElem_map]at x5
  obtain⟨q,hq⟩:∃q,q=st.q0b[i]:=⟨_,rfl⟩
  have e1:=z0g hlt
  rw[←hq]at x5 e1
  obtain⟨M2,hM2⟩:∃M2,M2=M.lay (.cells q.cells false):=⟨_,rfl⟩
  have f2:Fr M M2 []:=by rw[hM2];exact(Fr.refl M).lay _
  have F2:Fr m M2 []:=hM.step0 f2
  have s2:stV (M.lay (.cells [.str [],.int .i64 0,.int .i64 0,.int .u64 0] false)) (.ptr (some ⟨M.next,0⟩)) (.agg q.cells) 4=some M2:=by rw[q1w (n:=4) (q0d M _) rfl rfl rfl,q1m,hM2]
  have g2:M2.get M.next=some (.cells q.cells false):=by rw[hM2];exact q0d M _
  have a2:∀j:Nat,ld1 M2 (.ptr (some ⟨M.next,j⟩))=q.cells[j]?:=fun j=>q0j g2
  have l2:ldN M2 (.ptr (some ⟨M.next,0⟩)) 4=some (.agg q.cells):=q1b g2 rfl
  have hL2:=hL.q0p f2
  obtain⟨tp,tq,ta,FP,FQ,FA,k1,_⟩:=hL2.ex
  have aL:∀j:Nat,ld1 M2 (.ptr (some ⟨b,j⟩))=[AV.int .i64 st.most,.ptr (some ⟨tp,0⟩),.ptr (some ⟨tq,0⟩),.ptr (some ⟨ta,0⟩),.int .u64 0][j]?:=fun j=>q0j k1
  obtain⟨r,M3,F3,j1,j2,j3,j4⟩:=addP_is hL2 (by rw[List.map_take];exact z8m g.w.sp _) q (by rw[List.length_take];omega) (by
   rw[List.map_take]
   have:=z3k g.w.sp (k:=i) (by rw[List.length_map];exact hlt)
   rw[List.getElem_map,←hq]at this;exact this) k1
  simp only[e1]at j2
  have F3':∀c,c∈F3→m.next≤c:=fun c hc=>by
   rcases j4 c hc with h|h
   ·exact hF c h
   ·exact Nat.le_trans F2.next h
  obtain⟨M4,F4,r1,r2,r3,r4⟩:=ih (i+1) M3 F3 (by omega) (F2.step j3 (fun c hc=>.inr (hF c hc))) j2 F3'
  refine⟨M4,F4,?_,r2,r3,r4⟩
  simp only[PurseV.cells]at x5 s2 a2 l2 j1
  simp only[j5w (H:=H29),T.g12_2,p2,q0a,w_g12_2,dt (show (i:Int)<(st.q0b.length:Int) by omega)]
  simp only[g12_3_is (H:=H29),T.g12_3,p2,q1,pB,p1,nnA,w_g12_3,x2,x5,s2,aL,a2,l2,j1]
  simp only[g12_4_is (H:=H29),T.g12_4,p2,w_g12_4,show (i:Int)+1=((i+1:Nat):Int) by omega,wrap_i64 (n:=((i+1:Nat):Int)) (by omega) (by omega)]
  exact r1
theorem from_Q (hb:BkV m sp sq sa st) (g:LInv st) (t2:AV):∀(d i:Nat) (M:Mem) (F:List Nat),i+d=st.pairs.length→Fr m M []→LedgerAt M b ⟨st.q0b,st.pairs.take i,[],0,st.most⟩ F→(∀c,c∈F→m.next≤c)→
  ∃M' F',D29.gor 49158 [t2,.ptr (some ⟨b,0⟩),sq,.int .i64 (st.pairs.length:Int),.int .i64 (i:Int)] M=D29.gor 49161 [t2,.ptr (some ⟨b,0⟩)] M'∧LedgerAt M' b ⟨st.q0b,st.pairs,[],0,st.most⟩ F'∧Fr m M' []∧(∀c,c∈F'→m.next≤c):=by
 obtain⟨e,he,hs⟩:=uQ
 have lq:=g.w.lq
 intro d
 induction d with
 |zero=>
  intro i M F hi hM hL hF
  have:i=st.pairs.length:=by omega
  subst this
  rw[List.take_length]at hL
  refine⟨M,F,?_,hL,hM,hF⟩
  simp only[j5x (H:=H29),T.g12_6,p2,q0a,w_g12_6,df (show ¬((st.pairs.length:Nat):Int)<(st.pairs.length:Int) by omega)]
 |succ d ih=>
  intro i M F hi hM hL hF
  have hlt:i<st.pairs.length:=by omega
  obtain⟨bs,o,_,x2,_,_,x5⟩:=(hb.q.q0p hM).ixT he hs (i:=i) (by rw[List.length_map];exact hlt)
  rw[List.getElem_map]at x5
  obtain⟨q,hq⟩:∃q,q=st.pairs[i]:=⟨_,rfl⟩
  have mq:q∈st.pairs:=by rw[hq];exact List.getElem_mem hlt
  have e1:=z0g hlt
  rw[←hq]at x5 e1
  obtain⟨M2,hM2⟩:∃M2,M2=M.lay (.cells q.cells false):=⟨_,rfl⟩
  have f2:Fr M M2 []:=by rw[hM2];exact(Fr.refl M).lay _
  have F2:Fr m M2 []:=hM.step0 f2
  have s2:stV (M.lay (.cells [.str [],.str [],.int .i64 0,.int .u64 0,.int .i64 0,.int .i64 0,.int .u64 0,.int .i64 0,.int .u64 0] false)) (.ptr (some ⟨M.next,0⟩)) (.agg q.cells) 9=some M2:=by rw[q1w (n:=9) (q0d M _) rfl rfl rfl,q1m,hM2]
  have g2:M2.get M.next=some (.cells q.cells false):=by rw[hM2];exact q0d M _
  have a2:∀j:Nat,ld1 M2 (.ptr (some ⟨M.next,j⟩))=q.cells[j]?:=fun j=>q0j g2
  have l2:ldN M2 (.ptr (some ⟨M.next,0⟩)) 9=some (.agg q.cells):=q1b g2 rfl
  have hL2:=hL.q0p f2
  obtain⟨tp,tq,ta,FP,FQ,FA,k1,_⟩:=hL2.ex
  have aL:∀j:Nat,ld1 M2 (.ptr (some ⟨b,j⟩))=[AV.int .i64 st.most,.ptr (some ⟨tp,0⟩),.ptr (some ⟨tq,0⟩),.ptr (some ⟨ta,0⟩),.int .u64 0][j]?:=fun j=>q0j k1
  obtain⟨r,M3,F3,j1,j2,j3,j4⟩:=addQ_is hL2 (by rw[List.map_take];exact z8m g.w.sq _) q (by rw[List.length_take];omega) (by
   rw[List.map_take]
   have:=z3k g.w.sq (k:=i) (by rw[List.length_map];exact hlt)
   rw[List.getElem_map,←hq]at this;exact this) k1
  simp only[e1]at j2
  have F3':∀c,c∈F3→m.next≤c:=fun c hc=>by
   rcases j4 c hc with h|h
   ·exact hF c h
   ·exact Nat.le_trans F2.next h
  obtain⟨M4,F4,r1,r2,r3,r4⟩:=ih (i+1) M3 F3 (by omega) (F2.step j3 (fun c hc=>.inr (hF c hc))) j2 F3'
  refine⟨M4,F4,?_,r2,r3,r4⟩
  have okq:=g.w.okq q mq
  have sadd:=bin_sadd (P:=Tryz.prog) 9 q.x q.y (by have:=q2s g.w okq.2.2.2.2.1;have:=q2s g.w okq.2.2.2.2.2;omega)
  simp only[PairV.cells,PairV.key]at x5 s2 a2 l2 j1
  simp only[j5x (H:=H29),T.g12_6,p2,q0a,w_g12_6,dt (show (i:Int)<(st.pairs.length:Int) by omega)]
  simp only[g12_7_is (H:=H29),T.g12_7,p2,q1,pB,p1,nnA,w_g12_7,x2,x5,s2,aL,a2,sadd,l2,j1]
  simp only[g12_8_is (H:=H29),T.g12_8,p2,w_g12_8,show (i:Int)+1=((i+1:Nat):Int) by omega,wrap_i64 (n:=((i+1:Nat):Int)) (by omega) (by omega)]
  exact r1
theorem from_A (hb:BkV m sp sq sa st) (g:LInv st) (t2:AV):∀(d i:Nat) (M:Mem) (F:List Nat),i+d=st.q0n.length→Fr m M []→LedgerAt M b ⟨st.q0b,st.pairs,st.q0n.take i,0,st.most⟩ F→(∀c,c∈F→m.next≤c)→
  ∃M' F',D29.gor 49162 [t2,.ptr (some ⟨b,0⟩),sa,.int .i64 (st.q0n.length:Int),.int .i64 (i:Int)] M=D29.gor 49165 [t2,.ptr (some ⟨b,0⟩)] M'∧LedgerAt M' b ⟨st.q0b,st.pairs,st.q0n,0,st.most⟩ F'∧Fr m M' []∧(∀c,c∈F'→m.next≤c):=by
 obtain⟨e,he,hs⟩:=uA
 have la:=g.w.la
 have am:=g.am
 intro d
 induction d with
 |zero=>
  intro i M F hi hM hL hF
  have:i=st.q0n.length:=by omega
  subst this
  rw[List.take_length]at hL
  refine⟨M,F,?_,hL,hM,hF⟩
  simp only[j0k (H:=H29),T.g12_10,p2,q0a,j8n,df (show ¬((st.q0n.length:Nat):Int)<(st.q0n.length:Int) by omega)]
 |succ d ih=>
  intro i M F hi hM hL hF
  have hlt:i<st.q0n.length:=by omega
  obtain⟨bs,o,_,x2,_,_,x5⟩:=(hb.a.q0p hM).ixT he hs (i:=i) (by rw[List.length_map];exact hlt)
  rw[List.getElem_map]at x5
  obtain⟨q,hq⟩:∃q,q=st.q0n[i]:=⟨_,rfl⟩
  have e1:=z0g hlt
  rw[←hq]at x5 e1
  obtain⟨M2,hM2⟩:∃M2,M2=M.lay (.cells q.cells false):=⟨_,rfl⟩
  have f2:Fr M M2 []:=by rw[hM2];exact(Fr.refl M).lay _
  have F2:Fr m M2 []:=hM.step0 f2
  have s2:stV (M.lay (.cells [.int .u64 0,.str [],.int .i64 0,.int .u64 0] false)) (.ptr (some ⟨M.next,0⟩)) (.agg q.cells) 4=some M2:=by rw[q1w (n:=4) (q0d M _) rfl rfl rfl,q1m,hM2]
  have g2:M2.get M.next=some (.cells q.cells false):=by rw[hM2];exact q0d M _
  have a2:∀j:Nat,ld1 M2 (.ptr (some ⟨M.next,j⟩))=q.cells[j]?:=fun j=>q0j g2
  have l2:ldN M2 (.ptr (some ⟨M.next,0⟩)) 4=some (.agg q.cells):=q1b g2 rfl
  have hL2:=hL.q0p f2
  obtain⟨tp,tq,ta,FP,FQ,FA,k1,_⟩:=hL2.ex
  have aL:∀j:Nat,ld1 M2 (.ptr (some ⟨b,j⟩))=[AV.int .i64 st.most,.ptr (some ⟨tp,0⟩),.ptr (some ⟨tq,0⟩),.ptr (some ⟨ta,0⟩),.int .u64 0][j]?:=fun j=>q0j k1
  obtain⟨r,M3,F3,j1,j2,j3,j4⟩:=addA_is hL2 (by rw[List.map_take];exact z8m g.w.sa _) q (by show ((st.q0n.take i).length:Int)<st.most;rw[List.length_take];omega) (by rw[List.length_take];omega) (by
   rw[List.map_take]
   have:=z3k g.w.sa (k:=i) (by rw[List.length_map];exact hlt)
   rw[List.getElem_map,←hq]at this;exact this) k1
  simp only[e1]at j2
  have F3':∀c,c∈F3→m.next≤c:=fun c hc=>by
   rcases j4 c hc with h|h
   ·exact hF c h
   ·exact Nat.le_trans F2.next h
  obtain⟨M4,F4,r1,r2,r3,r4⟩:=ih (i+1) M3 F3 (by omega) (F2.step j3 (fun c hc=>.inr (hF c hc))) j2 F3'
  refine⟨M4,F4,?_,r2,r3,r4⟩
  simp only[AccV.cells]at x5 s2 a2 l2 j1
  simp only[j0k (H:=H29),T.g12_10,p2,q0a,j8n,dt (show (i:Int)<(st.q0n.length:Int) by omega)]
  simp only[g12_11_is (H:=H29),T.g12_11,p2,q1,pB,p1,nnA,w_g12_11,x2,x5,s2,aL,a2,l2,j1]
  simp only[g12_12_is (H:=H29),T.g12_12,p2,w_g12_12,show (i:Int)+1=((i+1:Nat):Int) by omega,wrap_i64 (n:=((i+1:Nat):Int)) (by omega) (by omega)]
  exact r1
theorem from_is (hb:BkV m sp sq sa st) (g:LInv st):∃b m' F,run E29 (.fn 12) [.agg [sp,sq,sa,.int .u64 st.latest],.int .i64 st.most] m=some (.tup [.ptr (some ⟨b,0⟩),.int .i64 0],m')∧LedgerAt m' b st F∧Fr m m' []∧∀c,c∈F→m.next≤c:=by
 obtain⟨M,hM⟩:∃M,M=m.lay (.cells [sp,sq,sa,.int .u64 st.latest] false):=⟨_,rfl⟩
 have f1:Fr m M []:=by rw[hM];exact(Fr.refl m).lay _
 have g1:M.get m.next=some (.cells [sp,sq,sa,.int .u64 st.latest] false):=by rw[hM];exact q0d m _
 have lB:ldN M (.ptr (some ⟨m.next,0⟩)) 4=some (.agg [sp,sq,sa,.int .u64 st.latest]):=q1b g1 rfl
 have ri:=right_at (H:=H29) rfl hb (j1p g) M f1
 rw[j16 g]at ri
 have lM:=f1.next
 have n1:M.next=m.next+1:=by rw[hM];rfl
 obtain⟨b,M1,F1,c1,c2,c3,c4⟩:=new_is M (most:=st.most) g.mo.1 g.mo.2
 have c1':=(z0w (H:=H29) (f:=38) rfl _ _).trans c1
 have hbM:=hb.q0p f1
 obtain⟨M2,F2,d1,d2,d3,d4⟩:=from_P (b:=b) hbM g (.ptr (some ⟨m.next,0⟩)) st.q0b.length 0 M1 F1 (by omega) c3 (by simpa using c2) c4
 obtain⟨M3,F3,e1,e2,e3,e4⟩:=from_Q (b:=b) hbM g (.ptr (some ⟨m.next,0⟩)) st.pairs.length 0 M2 F2 (by omega) d3 (by simpa using d2) d4
 obtain⟨M4,F4,i1,i2,i3,i4⟩:=from_A (b:=b) hbM g (.ptr (some ⟨m.next,0⟩)) st.q0n.length 0 M3 F3 (by omega) e3 (by simpa using e2) e4
 obtain⟨eP,uP1,uP2⟩:=uP
 obtain⟨eA,uA1,uA2⟩:=uA
 obtain⟨eQ,uQ1,uQ2⟩:=uQ
 have lp:=hb.p.q4n uP1
 have lq:=hb.q.q4n uQ1
 have la:=hb.a.q4n uA1
 rw[List.length_map]at lp lq la
 have aB1:∀j:Nat,ld1 M1 (.ptr (some ⟨m.next,j⟩))=[sp,sq,sa,.int .u64 st.latest][j]?:=fun j=>q0j (c3.get g1 (by simp))
 have aB2:∀j:Nat,ld1 M2 (.ptr (some ⟨m.next,j⟩))=[sp,sq,sa,.int .u64 st.latest][j]?:=fun j=>q0j (d3.get g1 (by simp))
 have aB3:∀j:Nat,ld1 M3 (.ptr (some ⟨m.next,j⟩))=[sp,sq,sa,.int .u64 st.latest][j]?:=fun j=>q0j (e3.get g1 (by simp))
 have aB4:∀j:Nat,ld1 M4 (.ptr (some ⟨m.next,j⟩))=[sp,sq,sa,.int .u64 st.latest][j]?:=fun j=>q0j (i3.get g1 (by simp))
 obtain⟨tp,tq,ta,FP,FQ,FA,k1,k2,k3,k4,k5,k6,k7,k8,k9,k10,kF⟩:=i2.ex
 obtain⟨M5,hM5⟩:∃M5,M5=M4.put b (some (.cells [.int .i64 st.most,.ptr (some ⟨tp,0⟩),.ptr (some ⟨tq,0⟩),.ptr (some ⟨ta,0⟩),.int .u64 st.latest] false)):=⟨_,rfl⟩
 obtain⟨z1,z2,z3,z4,z5,z6⟩:=LedgerAt.latest (st:=⟨st.q0b,st.pairs,st.q0n,0,st.most⟩) st.latest k1 k2 k3 k4 k5 k6 k7 hM5
 have bF:b∈F4:=by rw[kF];simp
 refine⟨b,M5,F4,?_,⟨tp,tq,ta,FP,FQ,FA,z3,z4,z5,z6,k5,k6,k7,k8,k9,k10,kF⟩,(f1.step0 i3).step z2 (fun c hc=>by simp only[List.mem_singleton]at hc;subst hc;exact .inr (by have:=i4 c bF;omega)),fun c hc=>by have:=i4 c hc;omega⟩
 simp only[Int.natCast_zero]at d1 e1 i1
 simp only[f12_is (H:=H29) rfl,T.f12,q1,p1,q1h,q0a,unA,w_f12,AV.cells,on1,lcs,if_true,Option.map_some,hb.p.one,hb.q.one,hb.a.one,←hM,lB,ri,Bool.not_true]
 simp only[g12_0_is (H:=H29),T.g12_0,p1,p2,q0g,q0a,w_g12_0,c1',decide_true,Bool.not_true]
 simp only[g12_1_is (H:=H29),T.g12_1,p1,q1,w_g12_1,aB1,lp,d1]
 simp only[g12_5_is (H:=H29),T.g12_5,p1,q1,w_g12_5,aB2,lq,e1]
 simp only[g12_9_is (H:=H29),T.g12_9,p1,q1,w_g12_9,aB3,la,i1]
 simp only[g12_13_is (H:=H29),T.g12_13,p1,q1,nnA,w_g12_13,aB4,z1]
end
end
section
set_option maxRecDepth 4000
open Go Go.Abs
def S30:List FuncId:=[]
def R30:List FuncId:=[12]
noncomputable def H30:FuncId→Option (List AV→Mem→R):=q62 E29 S30 R30
noncomputable abbrev E30:Env:=T.EH H30
theorem E30_ok:EnvOk E30:=q4v E29_ok S30 R30
noncomputable abbrev D30:Do:=T.Rl H30
theorem raw29 {H:FuncId→Option (List AV→Mem→R)} {f:FuncId} (h:H f=some (run E29 (.fn f))) (xs:List AV) (m:Mem):run (T.EH H) (.fn f) xs m=run E29 (.fn f) xs m:=q1t h xs m
theorem pur_eql (p q:PurseV):q1e Tryz.prog .eql 56 (.agg p.cells) (.agg q.cells)=some (.bool (decide (p=q))):=by
 have h:=pur_neq p q
 have h2:q1e Tryz.prog .neq 56 (.agg p.cells) (.agg q.cells)=(match eqA Tryz.prog 50 56 (.agg p.cells) (.agg q.cells) with|some b=>some (.bool (!b))|none=>none):=by kernel_rfl
 have h3:q1e Tryz.prog .eql 56 (.agg p.cells) (.agg q.cells)=(match eqA Tryz.prog 50 56 (.agg p.cells) (.agg q.cells) with|some b=>some (.bool b)|none=>none):=by kernel_rfl
 rw[h2]at h
 rw[h3]
 cases e:eqA Tryz.prog 50 56 (.agg p.cells) (.agg q.cells) with
 |none=>rw[e]at h;cases h
 |some b=>
  rw[e]at h
  simp only[Option.some.injEq,AV.bool.injEq]at h⊢
  have:=congrArg (! ·) h
  simpa using this
theorem j05 {st:LSt} {a:AccV} {i:Int} (ga:st.q7y i=some a) (n:Wd) (hs:Srt q0f (st.q0n.map (·.id))) (j:Int):(st.q25 {a with bal:=n}).q7y j=if j=i then some {a with bal:=n} else st.q7y j:=by
 obtain⟨e1,g1⟩:=LSt.q2i ga
 have hk:q1d q0f a.id (st.q0n.map (·.id))=true:=by
  cases hk:q1d q0f a.id (st.q0n.map (·.id)) with
  |true=>rfl
  |false=>rw[←e1,LSt.q3p hk]at ga;cases ga
 have ids:=LSt.q39 (st:=st) (a:={a with bal:=n}) hk
 unfold LSt.q7y
 rw[ids]
 by_cases hj:j=i
 ·subst hj
  rw[if_pos rfl,if_pos (by rw[←e1];exact hk)]
  show (st.q0n.set (st.iA a.id) _)[lb q0f j _]? = _
  rw[show st.iA a.id=lb q0f j (st.q0n.map (·.id)) by unfold LSt.iA;rw[e1]]
  rw[List.getElem?_set_self (by have:=j7n (k:=j) (ks:=st.q0n.map (·.id)) (lt:=q0f) (by rw[←e1];exact hk);simpa using this)]
 ·rw[if_neg hj]
  by_cases hkj:q1d q0f j (st.q0n.map (·.id))=true
  ·rw[if_pos hkj,if_pos hkj]
   show (st.q0n.set (st.iA a.id) _)[lb q0f j _]? = _
   rw[List.getElem?_set_ne]
   intro e
   have h1:=Go.Abs.q5o hk
   have h2:=Go.Abs.q5o hkj
   unfold LSt.iA at e
   rw[←e,h1]at h2
   exact hj (by rw[←e1];exact(Option.some.inj h2).symm)
  ·rw[if_neg hkj,if_neg hkj]
theorem of_setA {st:LSt} {a:AccV} {i:Int} (ga:st.q7y i=some a) (n:Wd) (hs:Srt q0f (st.q0n.map (·.id))) (j:Int):(st.q25 {a with bal:=n}).of j=if j=i then ({a with bal:=n},(st.of i).2) else st.of j:=by
 unfold LSt.of
 rw[j05 ga n hs j]
 by_cases hj:j=i
 ·rw[if_pos hj,if_pos hj,ga];rfl
 ·rw[if_neg hj,if_neg hj];rfl
theorem j4q {st:LSt} (g:LInv st) {i j:Int} {x:Wd} {s:Int} (h:(q1n st i j x s).1=0):∃a a',st.q7y i=some a∧st.q7y j=some a'∧i≠j∧x.val≤a.bal.val∧0<x.val∧q1c (a.bal.val-x.val)=true∧q1c (a'.bal.val+x.val)=true∧
  (q1n st i j x s).2=(st.q25 {a with bal:=Wd.of (a.bal.val-x.val)}).q25 {a' with bal:=Wd.of (a'.bal.val+x.val)}:=by
 unfold q1n at h⊢
 rcases LSt.q10 g.w i with ⟨e,_⟩|⟨a,p,e,ga,gp,hid,hka,hpn,hkp,ma,mp⟩
 ·rw[e]at h;simp at h
 ·rcases LSt.q10 g.w j with ⟨e',_⟩|⟨a',p',e',ga',gp',hid',hka',hpn',hkp',ma',mp'⟩
  ·rw[e,e']at h;simp at h
  ·rw[e,e']at h⊢
   simp only[ne_eq,not_true_eq_false,if_false]at h⊢
   by_cases h1:i=j
   ·rw[if_pos h1]at h;simp at h
   rw[if_neg h1]at h⊢
   by_cases h2:p.name=p'.name
   ·rw[if_neg (by simp[h2])]at h⊢
    by_cases h3:q3b p x s=0
    ·rw[if_neg (by simp[h3])]at h⊢
     by_cases h4:a.bal.val<x.val
     ·rw[if_pos h4]at h;simp at h
     rw[if_neg h4]at h⊢
     by_cases h5:q4r a.bal a'.bal x=true
     ·rw[if_pos h5]
      obtain⟨f1,f2⟩:=q7l h5
      exact⟨a,a',ga,ga',h1,by omega,(q6y h3).2,f1,f2,rfl⟩
     ·rw[if_neg h5]at h;simp at h
    ·rw[if_pos h3]at h;exact absurd h h3
   ·rw[if_pos h2]at h;simp at h
theorem j4p {st:LSt} (w:LWf st) {i j:Int} {x:Wd} {s:Int} (h:(q1n st i j x s).1≠0):(q1n st i j x s).2=st∧((st.of i).2.2≠0∨(st.of j).2.2≠0→(q1n st i j x s).1=40)∧
  ((st.of i).2.2=0→(st.of j).2.2=0→(decide ((q1n st i j x s).1=45)=decide (i=j))∧((q1n st i j x s).1=42→(st.of i).1.bal.val<x.val)):=by
 have fe:∀p:PurseV,q3b p x s=0∨q3b p x s=21∨q3b p x s=43:=fun p=>by unfold q3b;split;exact .inr (.inl rfl);split;exact .inr (.inr rfl);exact .inl rfl
 unfold q1n at h⊢
 rcases LSt.q10 w i with ⟨e,_⟩|⟨a,p,e,ga,gp,hid,hka,hpn,hkp,ma,mp⟩
 ·rw[e]at h⊢;simp
 ·rcases LSt.q10 w j with ⟨e',_⟩|⟨a',p',e',ga',gp',hid',hka',hpn',hkp',ma',mp'⟩
  ·rw[e,e']at h⊢;simp
  ·rw[e,e']at h⊢
   simp only[ne_eq,not_true_eq_false,if_false]at h⊢
   by_cases h1:i=j
   ·rw[if_pos h1];simp[h1]
   rw[if_neg h1]at h⊢
   by_cases h2:p.name=p'.name
   ·rw[if_neg (by simp[h2])]at h⊢
    rcases fe p with h3|h3|h3
    ·rw[if_neg (by simp[h3])]at h⊢
     by_cases h4:a.bal.val<x.val
     ·rw[if_pos h4];simp[h1,h4]
     rw[if_neg h4]at h⊢
     by_cases h5:q4r a.bal a'.bal x=true
     ·rw[if_pos h5]at h;simp at h
     ·rw[if_neg h5];simp[h1]
    ·rw[if_pos (by simp[h3]),h3];simp[h1]
    ·rw[if_pos (by simp[h3]),h3];simp[h1]
   ·rw[if_pos (by simp[h2])];simp[h1]
theorem j4j {st:LSt} {a a':AccV} {i j:Int} (ga:st.q7y i=some a) (ga':st.q7y j=some a') (n n':Wd) {k:Nat} {y:AccV} (hk:st.q0n[k]? = some y) (h1:y.id≠i) (h2:y.id≠j):((st.q25 {a with bal:=n}).q25 {a' with bal:=n'}).q0n[k]? = some y:=by
 obtain⟨e1,g1⟩:=LSt.q2i ga
 obtain⟨e2,g2⟩:=LSt.q2i ga'
 have hka:q1d q0f a.id (st.q0n.map (·.id))=true:=by
  cases hk:q1d q0f a.id (st.q0n.map (·.id)) with
  |true=>rfl
  |false=>rw[←e1,LSt.q3p hk]at ga;cases ga
 have hi2:(st.q25 {a with bal:=n}).iA a'.id=st.iA a'.id:=by
  unfold LSt.iA
  rw[LSt.q39 (st:=st) (a:={a with bal:=n}) hka]
 show ((st.q0n.set (st.iA a.id) _).set ((st.q25 {a with bal:=n}).iA a'.id) _)[k]? = _
 rw[hi2,List.getElem?_set_ne,List.getElem?_set_ne]
 ·exact hk
 ·intro e;rw[e,hk]at g1;cases g1;exact h1 e1
 ·intro e;rw[e,hk]at g2;cases g2;exact h2 e2
end
end Go.Proofs.YtlginbmjiecglaaGreatDoor
