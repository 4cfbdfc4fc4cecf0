/- Texts of one claim, put together. -/
import Derived.Test.YtlginbmjiecglaaGreatDoorQ25
namespace Go.Proofs.YtlginbmjiecglaaGreatDoor
section
set_option maxRecDepth 4000
open Go Go.Abs
def S28:List FuncId:=[47,48,49]
noncomputable def H28:FuncId->Option (List AV->Mem->R):=q1L E27 S28
noncomputable abbrev E28:Env:=T.EH H28
theorem a4S:q1u E28:=q0Z a4R S28
noncomputable abbrev D28:Do:=T.Rl H28
section
variable {H:FuncId->Option (List AV->Mem->R)} {m:Mem} {sp sq sa:AV} {st:LSt}
theorem a3S (hh:H 47=some (q0y E27 47)) (hb:BkV m sp sq sa st) (ok:q8J st) (M:Mem) (hM:Fr m M []):run (T.EH H) (.fn 47) [.agg [sp,sq,sa,.int .u64 st.latest]] M=some (.bool (q3v (z19 st) st.pairs.length 0),M):=
 q0r hh (by simp[AV.flat,AV.lt]) fun m2 h1 h2=>a3T ((hb.q0h hM).q0h (Fr.same h1 h2)) ok
theorem j6F (hh:H 48=some (q0y E27 48)) (hb:BkV m sp sq sa st) (ok:q8J st) (M:Mem) (hM:Fr m M []):run (T.EH H) (.fn 48) [.agg [sp,sq,sa,.int .u64 st.latest]] M=some (.bool (q3v (z18 st) st.q0p.length 0&&decide (st.latest<=72057594037927935)),M):=
 q0r hh (by simp[AV.flat,AV.lt]) fun m2 h1 h2=>j6G ((hb.q0h hM).q0h (Fr.same h1 h2)) ok
theorem j9s (hh:H 49=some (q0y E27 49)) (hb:BkV m sp sq sa st) (ok:q8J st) (lt:Int) (p:q0q) (hp:p.out.ok) (M:Mem) (hM:Fr m M []):run (T.EH H) (.fn 49) [.agg [sp,sq,sa,.int .u64 lt],.agg p.cells] M=some (.bool (decide (z4g st.pairs st.q0p p=0)),M):=
 q0r hh (by simp[AV.flat,AV.lt]) fun m2 h1 h2=>j9t ((hb.q0h hM).q0h (Fr.same h1 h2)) ok lt p hp
end
def z7z (st:LSt) (i:Nat) (p:q0q):Bool:=q3Y p.name&&(q6V st.q0b i (fun r=>q0c r.name p.name)&&(decide (0<=p.scale)&&decide (p.scale<=18)))
def z7P (st:LSt) (i:Nat):Bool:=match st.q0b[i]? with|some p=>z7z st i p|none=>false
def q8D (st:LSt) (i:Nat):Bool:=match st.q0b[i]? with|some p=>decide (z4g st.pairs st.q0p p=0)|none=>false
def q86 (st:LSt):Bool:=decide (1<=st.most)&&(decide (st.most<=64)&&(decide (st.q0b.length<=8)&&(decide ((st.q0p.length:Int)<=st.most)&&(q3v (z7P st) st.q0b.length 0&&(q3v (z19 st) st.pairs.length 0&&((q3v (z18 st) st.q0p.length 0&&decide (st.latest<=72057594037927935))&&q3v (q8D st) st.q0b.length 0))))))
section
variable {m:Mem} {bb:Nat} {st:LSt} {sp sq sa:AV}
theorem z2m (h1:m.get bb=some (.cells [sp,sq,sa,.int .u64 st.latest] false)) (hb:BkV m sp sq sa st) (ok:q8J st):∀(d i:Nat) (M:Mem),i+d=st.q0b.length->Fr m M []->
  ∃M',Fr M M' []/\D28.gor 57345 [.ptr (some ⟨bb,0⟩),sp,.int .i64 (st.q0b.length:Int),.int .i64 (i:Int)] M=if q3v (z7P st) d i=true then D28.gor 57348 [.ptr (some ⟨bb,0⟩)] M' else some (.bool false,M'):=by
 obtain⟨e,he,hs⟩:=uP;have hn:=ok.small.1;intro d;induction d with
 |zero=>
  intro i M hi hM;have:i=st.q0b.length:=by omega
  subst this;refine⟨M,Fr.refl _,?_⟩;simp only[z4P (H:=H28),T.a0O,p2,q0a,wp,df (show ¬((st.q0b.length:Nat):Int)<(st.q0b.length:Int) by omega),q3v,if_true]
 |succ d ih=>
  intro i M hi hM;have hlt:i<st.q0b.length:=by omega
  obtain⟨bs,o,_,x2,_,_,x5⟩:=(hb.p.q0h hM).ixT he hs (i:=i) (by rw[xlm];exact hlt);rw[xgm]at x5;obtain⟨q,hq⟩:∃q,q=st.q0b[i]:=⟨_,rfl⟩;have mq:q∈st.q0b:=by rw[hq];exact List.getElem_mem hlt
  rw[<-hq]at x5;obtain⟨M2,hM2⟩:∃M2,M2=M.lay (.cells q.cells false):=⟨_,rfl⟩;have f2:Fr M M2 []:=by rw[hM2];exact(Fr.refl M).lay _
  have F2:Fr m M2 []:=hM.step0 f2;have s2:stV (M.lay (.cells [.str [],.int .i64 0,.int .i64 0,.int .u64 0] false)) (.ptr (some ⟨M.next,0⟩)) (.agg q.cells) 4=some M2:=by rw[q0X (n:=4) (q0f M _) rfl rfl rfl,q1c,hM2]
  have g2:M2.get M.next=some (.cells q.cells false):=by rw[hM2];exact q0f M _
  have a2:∀j:Nat,ld1 M2 (.ptr (some ⟨M.next,j⟩))=q.cells[j]?:=fun j=>q0g g2
  have b2:∀j:Nat,ld1 M2 (.ptr (some ⟨bb,j⟩))=[sp,sq,sa,AV.int .u64 st.latest][j]?:=fun j=>q0g (F2.get h1 (by simp))
  have hok:z7P st i=z7z st i q:=by unfold z7P;rw[xgq hlt,<-hq]
  have nm:=(q4e (H:=H28) (f:=46) rfl _ _).trans (j2d q.name (ok.p q mq).2 M2);have st1:D28.gor 57345 [.ptr (some ⟨bb,0⟩),sp,.int .i64 (st.q0b.length:Int),.int .i64 (i:Int)] M=D28.gor 57346 [.ptr (some ⟨bb,0⟩),sp,.int .i64 (st.q0b.length:Int),.int .i64 (i:Int)] M:=by
   simp only[z4P (H:=H28),T.a0O,p2,q0a,wp,dt (show (i:Int)<(st.q0b.length:Int) by omega)]
  have nx:D28.gor 57347 [.ptr (some ⟨bb,0⟩),sp,.int .i64 (st.q0b.length:Int),.int .i64 (i:Int)] M2=D28.gor 57345 [.ptr (some ⟨bb,0⟩),sp,.int .i64 (st.q0b.length:Int),.int .i64 ((i+1:Nat):Int)] M2:=by
   simp only[j3Z (H:=H28),T.a7m,p2,wp,show (i:Int)+1=((i+1:Nat):Int) by omega,wrap_i64 (n:=((i+1:Nat):Int)) (by omega) (by omega)]
  have rd:D28.gor 57345 [.ptr (some ⟨bb,0⟩),sp,.int .i64 (st.q0b.length:Int),.int .i64 (i:Int)] M=if z7z st i q=true then D28.gor 57347 [.ptr (some ⟨bb,0⟩),sp,.int .i64 (st.q0b.length:Int),.int .i64 (i:Int)] M2 else some (.bool false,M2):=by
   rw[st1];unfold z7z;simp only[q0q.cells]at x5 s2 a2;cases hnm:q3Y q.name with
   |false=>
    rw[hnm]at nm;simp only[q3b (H:=H28),T.q9E,p2,q1,pB,p1,q0a,ifV,unA,q0e,x2,x5,s2,a2,nm,xbf,Bool.false_and,xbq,if_false]
   |true=>
    rw[hnm]at nm;rw[Bool.true_and];have sc:∀r:R,(if q.scale<0 then some (AV.bool false,M2) else if 18<q.scale then some (.bool false,M2) else r)=if (decide (0<=q.scale)&&decide (q.scale<=18))=true then r else some (.bool false,M2):=by
     intro r;by_cases s1:q.scale<0
     ·rw[if_pos s1,df (show ¬0<=q.scale by omega),Bool.false_and,if_neg (by decide)]
     ·rw[if_neg s1,dt (show 0<=q.scale by omega),Bool.true_and];by_cases s2:18<q.scale
      ·rw[if_pos s2,df (show ¬q.scale<=18 by omega),if_neg (by decide)]
      ·rw[if_neg s2,dt (show q.scale<=18 by omega),if_pos rfl]
    have ifd:∀(p:Prop) [Decidable p] (x y:R),(match AV.bool (decide p) with | .bool true=>x | .bool false=>y | _=>none)=if p then x else y:=by
     intro p _ x y;by_cases h:p
     ·rw[if_pos h,dt h]
     ·rw[if_neg h,df h]
    by_cases h0:i=0
    ·have hp:q6V st.q0b i (fun r=>q0c r.name q.name)=true:=by unfold q6V;rw[dt h0,Bool.true_or]
     rw[hp,Bool.true_and,<-sc];by_cases s1:q.scale<0
     ·simp only[q3b (H:=H28),T.q9E,p2,q1,pB,p1,q0a,ifV,unA,q0e,x2,x5,s2,a2,nm,xbt,df (show ¬(0:Int)<(i:Int) by omega),dt s1,if_pos s1]
     ·by_cases s3:18<q.scale
      ·simp only[q3b (H:=H28),T.q9E,p2,q1,pB,p1,q0a,ifV,unA,q0e,x2,x5,s2,a2,nm,xbt,df (show ¬(0:Int)<(i:Int) by omega),df s1,if_neg s1,dt s3,if_pos s3]
      ·simp only[q3b (H:=H28),T.q9E,p2,q1,pB,p1,q0a,ifV,unA,q0e,x2,x5,s2,a2,nm,xbt,df (show ¬(0:Int)<(i:Int) by omega),df s1,if_neg s1,df s3,if_neg s3]
    ·obtain⟨bs',o',_,y2,y3,_,_⟩:=(hb.p.q0h F2).ixT he hs (i:=i-1) (by rw[xlm];omega);have y0:=y3 0 (by omega);rw[xgm]at y0;obtain⟨r,hr⟩:∃r,r=st.q0b[i-1]'(by omega):=⟨_,rfl⟩;have hr2:st.q0b[i-1]? = some r:=by rw[xgq (by omega),hr]
     rw[<-hr]at y0;simp only[ge,q0q.cells,xna]at y0;have w1:IntKind.wrap .i64 ((i:Int)-1)=((i-1:Nat):Int):=by rw[wrap_i64 (by omega) (by omega)];omega
     have hp:q6V st.q0b i (fun r=>q0c r.name q.name)=q0c r.name q.name:=by unfold q6V;rw[df h0,Bool.false_or,hr2]
     have ci:=dt (show (0:Int)<(i:Int) by omega);rw[hp];cases hl:q0c r.name q.name with
     |false=>
      simp only[q3b (H:=H28),T.q9E,p2,q1,pB,p1,q0a,ifV,unA,q0e,x2,x5,s2,a2,nm,xbt,ci,b2,w1,y2,y0,hl,xbf,Bool.false_and,xbq,if_false]
     |true=>
      rw[Bool.true_and,<-sc];by_cases s1:q.scale<0
      ·simp only[q3b (H:=H28),T.q9E,p2,q1,pB,p1,q0a,ifV,unA,q0e,x2,x5,s2,a2,nm,xbt,ci,b2,w1,y2,y0,hl,dt s1,if_pos s1]
      ·by_cases s3:18<q.scale
       ·simp only[q3b (H:=H28),T.q9E,p2,q1,pB,p1,q0a,ifV,unA,q0e,x2,x5,s2,a2,nm,xbt,ci,b2,w1,y2,y0,hl,df s1,if_neg s1,dt s3,if_pos s3]
       ·simp only[q3b (H:=H28),T.q9E,p2,q1,pB,p1,q0a,ifV,unA,q0e,x2,x5,s2,a2,nm,xbt,ci,b2,w1,y2,y0,hl,df s1,if_neg s1,df s3,if_neg s3]
  rw[rd,q3v,hok,nx];cases hg:z7z st i q with
  |true=>
   obtain⟨M',g1,g2⟩:=ih (i+1) M2 (by omega) F2;exact⟨M',f2.step0 g1,by rw[if_pos rfl,g2,Bool.true_and]⟩
  |false=>exact⟨M2,f2,by rw[if_neg (by decide),Bool.false_and,if_neg (by decide)]⟩
theorem j2J (h1:m.get bb=some (.cells [sp,sq,sa,.int .u64 st.latest] false)) (hb:BkV m sp sq sa st) (ok:q8J st):∀(d i:Nat) (M:Mem),i+d=st.q0b.length->Fr m M []->
  Res M (D28.gor 57350 [.ptr (some ⟨bb,0⟩),sp,.int .i64 (st.q0b.length:Int),.int .i64 (i:Int)] M) (.bool (q3v (q8D st) d i)):=by
 obtain⟨e,he,hs⟩:=uP;have hn:=ok.small.1;intro d;induction d with
 |zero=>
  intro i M hi hM;have:i=st.q0b.length:=by omega
  subst this;simp only[q9G (H:=H28),T.j32,p2,q0a,wp,df (show ¬((st.q0b.length:Nat):Int)<(st.q0b.length:Int) by omega),j34 (H:=H28),T.a7p,wp];exact Res.eq (Fr.refl _) rfl
 |succ d ih=>
  intro i M hi hM;have hlt:i<st.q0b.length:=by omega
  obtain⟨bs,o,_,x2,_,_,x5⟩:=(hb.p.q0h hM).ixT he hs (i:=i) (by rw[xlm];exact hlt);rw[xgm]at x5;obtain⟨q,hq⟩:∃q,q=st.q0b[i]:=⟨_,rfl⟩;have mq:q∈st.q0b:=by rw[hq];exact List.getElem_mem hlt
  rw[<-hq]at x5;obtain⟨M2,hM2⟩:∃M2,M2=M.lay (.cells q.cells false):=⟨_,rfl⟩;have f2:Fr M M2 []:=by rw[hM2];exact(Fr.refl M).lay _
  have F2:Fr m M2 []:=hM.step0 f2;have s2:stV (M.lay (.cells [.str [],.int .i64 0,.int .i64 0,.int .u64 0] false)) (.ptr (some ⟨M.next,0⟩)) (.agg q.cells) 4=some M2:=by rw[q0X (n:=4) (q0f M _) rfl rfl rfl,q1c,hM2]
  have g2:M2.get M.next=some (.cells q.cells false):=by rw[hM2];exact q0f M _
  have l2:ldN M2 (.ptr (some ⟨M.next,0⟩)) 4=some (.agg q.cells):=q0A g2 rfl
  have lB:ldN M2 (.ptr (some ⟨bb,0⟩)) 4=some (.agg [sp,sq,sa,.int .u64 st.latest]):=q0A (F2.get h1 (by simp)) rfl;have hok:q8D st i=decide (z4g st.pairs st.q0p q=0):=by unfold q8D;rw[xgq hlt,<-hq]
  have ba:=j9s (H:=H28) rfl hb ok st.latest q (ok.p q mq).1 M2 F2;rw[q3v,hok];cases hv:decide (z4g st.pairs st.q0p q=0) with
  |false=>
   rw[hv]at ba;simp only[q9G (H:=H28),T.j32,p2,q0a,wp,dt (show (i:Int)<(st.q0b.length:Int) by omega)];simp only[z4Q (H:=H28),T.a0P,p2,q1,pB,p1,q0a,unA,wp,x2,x5,s2,l2,lB,ba,xbf,Bool.false_and];exact Res.eq f2 rfl
  |true=>
   rw[hv]at ba;simp only[q9G (H:=H28),T.j32,p2,q0a,wp,dt (show (i:Int)<(st.q0b.length:Int) by omega)];simp only[z4Q (H:=H28),T.a0P,p2,q1,pB,p1,q0a,unA,wp,x2,x5,s2,l2,lB,ba,xbt,Bool.true_and];simp only[j33 (H:=H28),T.a7o,p2,wp,show (i:Int)+1=((i+1:Nat):Int) by omega,wrap_i64 (n:=((i+1:Nat):Int)) (by omega) (by omega)];exact(ih (i+1) M2 (by omega) F2).step f2
theorem j6N (hb:BkV m sp sq sa st) (ok:q8J st):Res m (run E28 (.fn 14) [.agg [sp,sq,sa,.int .u64 st.latest],.int .i64 st.most] m) (.bool (q86 st)):=by
 obtain⟨M,hM⟩:∃M,M=m.lay (.cells [sp,sq,sa,.int .u64 st.latest] false):=⟨_,rfl⟩;have f1:Fr m M []:=by rw[hM];exact(Fr.refl m).lay _
 have g1:M.get m.next=some (.cells [sp,sq,sa,.int .u64 st.latest] false):=by rw[hM];exact q0f m _
 have a3:∀i:Nat,ld1 M (.ptr (some ⟨m.next,i⟩))=[sp,sq,sa,.int .u64 st.latest][i]?:=fun i=>q0g g1
 obtain⟨eP,uP1,uP2⟩:=uP;obtain⟨eA,uA1,uA2⟩:=uA;have lp:=hb.p.q2s uP1;have la:=hb.a.q2s uA1;rw[xlm]at lp la;have hbM:=hb.q0h f1;unfold q86;have no:∀{v:Bool},v=false->Res m (some (.bool false,M)) (.bool v):=fun h=>Res.eq f1 (by rw[h])
 by_cases m1:st.most<1
 ·simp only[z03 (H:=H28) rfl,T.f14,p2,p1,q1,q0K,q0a,ifV,q0e,AV.cells,on1,lcs,if_true,xom,hb.p.one,hb.q.one,hb.a.one,<-hM,dt m1];exact no (by rw[df (show ¬1<=st.most by omega),Bool.false_and])
 ·rw[dt (show 1<=st.most by omega),Bool.true_and];by_cases m2:64<st.most
  ·simp only[z03 (H:=H28) rfl,T.f14,p2,p1,q1,q0K,q0a,ifV,q0e,AV.cells,on1,lcs,if_true,xom,hb.p.one,hb.q.one,hb.a.one,<-hM,df m1,dt m2];exact no (by rw[df (show ¬st.most<=64 by omega),Bool.false_and])
  ·rw[dt (show st.most<=64 by omega),Bool.true_and];by_cases m3:8<(st.q0b.length:Int)
   ·simp only[z03 (H:=H28) rfl,T.f14,p2,p1,q1,q0K,q0a,ifV,q0e,AV.cells,on1,lcs,ge,if_true,xom,hb.p.one,hb.q.one,hb.a.one,<-hM,df m1,df m2,a3,lp,dt m3];exact no (by rw[df (show ¬st.q0b.length<=8 by omega),Bool.false_and])
   ·rw[dt (show st.q0b.length<=8 by omega),Bool.true_and];by_cases m4:st.most<(st.q0p.length:Int)
    ·simp only[z03 (H:=H28) rfl,T.f14,p2,p1,q1,q0K,q0a,ifV,q0e,AV.cells,on1,lcs,ge,if_true,xom,hb.p.one,hb.q.one,hb.a.one,<-hM,df m1,df m2,a3,lp,df m3,la,dt m4];exact no (by rw[df (show ¬(st.q0p.length:Int)<=st.most by omega),Bool.false_and])
    ·rw[dt (show (st.q0p.length:Int)<=st.most by omega),Bool.true_and];obtain⟨M1,p1,p2⟩:=z2m g1 hbM ok st.q0b.length 0 M (by omega) (Fr.refl _);simp only[Int.natCast_zero]at p2;simp only[z03 (H:=H28) rfl,T.f14,q1,q0K,q0a,ifV,q0e,AV.cells,on1,lcs,ge,if_true,xom,hb.p.one,hb.q.one,hb.a.one,<-hM,df m1,df m2,a3,lp,df m3,la,df m4];simp only[j3Y (H:=H28),T.a7l,q1,q0e,a3,lp]
     rw[p2];have F1:=f1.step0 p1;cases hp:q3v (z7P st) st.q0b.length 0 with
     |false=>
      rw[if_neg (by decide),Bool.false_and];exact Res.eq F1 rfl
     |true=>
      rw[if_pos rfl,Bool.true_and];have lB:ldN M1 (.ptr (some ⟨m.next,0⟩)) 4=some (.agg [sp,sq,sa,.int .u64 st.latest]):=q0A (p1.get g1 (by simp)) rfl
      have a31:∀i:Nat,ld1 M1 (.ptr (some ⟨m.next,i⟩))=[sp,sq,sa,.int .u64 st.latest][i]?:=fun i=>q0g (p1.get g1 (by simp))
      have rq:=a3S (H:=H28) rfl hb ok M1 F1;have ra:=j6F (H:=H28) rfl hb ok M1 F1;cases hq:q3v (z19 st) st.pairs.length 0 with
      |false=>
       rw[hq]at rq;rw[Bool.false_and];simp only[q9F (H:=H28),T.j30,q1,q0a,ifV,unA,wp,lB,rq,xbf];exact Res.eq F1 rfl
      |true=>
       rw[hq]at rq;rw[Bool.true_and];cases ha:(q3v (z18 st) st.q0p.length 0&&decide (st.latest<=72057594037927935)) with
       |false=>
        rw[ha]at ra;rw[Bool.false_and];simp only[q9F (H:=H28),T.j30,q1,q0a,ifV,unA,wp,lB,rq,ra,xbf,xbt];exact Res.eq F1 rfl
       |true=>
        rw[ha]at ra;rw[Bool.true_and];have lo:=j2J (p1.get g1 (by simp)) (hb.q0h F1) ok st.q0b.length 0 M1 (by omega) (Fr.refl _);simp only[Int.natCast_zero]at lo;simp only[q9F (H:=H28),T.j30,q1,q0a,ifV,unA,wp,lB,rq,ra,xbt];simp only[j31 (H:=H28),T.a7n,q1,q0e,a31,lp];exact lo.step F1
end
end
section
open Go Go.Abs
theorem nb3 {s:List UInt8} (h:q3Y s=true):s.length=3:=by
 unfold q3Y at h;simp only[Bool.and_eq_true,decide_eq_true_eq]at h;exact h.2
theorem z2e {α:Type} {l:List α} {i:Nat} (hi:i<l.length) {r:α->Bool}:q6V l i r=true↔∀(h:0<i),r (l[i-1]'(by omega))=true:=by
 unfold q6V;rw[xgq (by omega)];by_cases h:i=0
 ·subst h;simp
 ·rw[df h,Bool.false_or];exact⟨fun h _=>h,fun h'=>h' (by omega)⟩
theorem z8b (w:Wd) (s:Int):decide (q2Z w s=0)=q5W w s:=by
 unfold q2Z q5W;apply decide_eq_decide.mpr;split
 ·split<;>omega
 ·omega
theorem q4f {st:LSt} (g:q3Q st):q86 st=true:=by
 have w:=g.w;unfold q86;simp only[Bool.and_eq_true,decide_eq_true_eq];refine⟨g.mo.1,g.mo.2,w.lp,g.am,?_,?_,⟨?_,w.lat.2⟩,?_⟩
 ·rw[q4q];intro j _ hj;have hj':j<st.q0b.length:=by omega
  unfold z7P;rw[xgq hj'];have hp:=w.okp _ (List.getElem_mem hj');unfold z7z;simp only[Bool.and_eq_true,decide_eq_true_eq];refine⟨hp.2.2.2,?_,hp.1,hp.2.1⟩;rw[z2e hj'];intro h;have:=q2G w.sp (i:=j-1) (j:=j) (by omega) (by rw[xlm];exact hj')
  rwa [xgm,xgm]at this
 ·rw[q4q];intro j _ hj;have hj':j<st.pairs.length:=by omega
  unfold z19;rw[xgq hj'];have mq:=List.getElem_mem hj';have hq:=w.okq _ mq;have hq1:=g.q1 _ mq;show z3z st j st.pairs[j]=true;unfold z3z;rw[z8b];simp only[Bool.and_eq_true,decide_eq_true_eq,Bool.not_eq_true',decide_eq_false_iff_not];refine⟨?_,(q2J w.sp).1 hq.2.2.2.2.1,(q2J w.sp).1 hq.2.2.2.2.2,hq1.1,hq.2.1,hq1.2.1,hq1.2.2⟩;rw[z2e hj'];intro h;have:=q2G w.sq (i:=j-1) (j:=j) (by omega) (by rw[xlm];exact hj')
  rw[xgm,xgm]at this;unfold q0N.key at this
  rwa [q3N (by rw[q1j w (w.okq _ (List.getElem_mem (show j-1<st.pairs.length by omega))).2.2.2.2.1,q1j w hq.2.2.2.2.1])]at this
 ·rw[q4q];intro j _ hj;have hj':j<st.q0p.length:=by omega
  unfold z18;rw[xgq hj'];have ma:=List.getElem_mem hj';have ha:=w.oka _ ma;have ha1:=g.a1 _ ma;unfold a1Q;simp only[Bool.and_eq_true,decide_eq_true_eq];refine⟨?_,ha.2.2.1,(q2J w.sp).1 ha.2.2.2,ha1.2⟩;rw[xgq (by omega)];by_cases h:j=0
  ·subst h;simp only[if_true];omega
  ·simp only[if_neg h];have:=q2G w.sa (i:=j-1) (j:=j) (by omega) (by rw[xlm];exact hj');rw[xgm,xgm]at this;simpa[q0m]using this
 ·rw[q4q];intro j _ hj;have hj':j<st.q0b.length:=by omega
  unfold q8D;rw[xgq hj'];exact dt (g.su _ (List.getElem_mem hj'))
theorem z2a {st:LSt} (g:q3Q st):q8J st where
 small:=⟨by have:=g.w.lp;omega,by have:=g.w.lq;omega,by have:=g.w.la;omega⟩
 p:=fun p hp=>⟨(g.w.okp p hp).2.2.1,by have:=nb3 (g.w.okp p hp).2.2.2;omega⟩
 q:=fun q hq=>by
  have h:=g.w.okq q hq;exact⟨h.1,h.2.2.1,h.2.2.2.1,by have:=q1j g.w h.2.2.2.2.1;omega,by have:=q1j g.w h.2.2.2.2.2;omega⟩
 a:=fun a ha=>by
  have h:=g.w.oka a ha;have:=g.w.lat;exact⟨h.1,h.2.1,by omega,by have:=q1j g.w h.2.2.2;omega⟩
 lat:=by have:=g.w.lat;omega
end
section
set_option maxRecDepth 4000
open Go Go.Abs
def S29:List FuncId:=[14]
noncomputable def H29:FuncId->Option (List AV->Mem->R):=q1L E28 S29
noncomputable abbrev E29:Env:=T.EH H29
theorem a4T:q1u E29:=q0Z a4S S29
noncomputable abbrev D29:Do:=T.Rl H29
theorem z6F {H:FuncId->Option (List AV->Mem->R)} (hh:H 14=some (q0y E28 14)) {m:Mem} {sp sq sa:AV} {st:LSt} (hb:BkV m sp sq sa st) (ok:q8J st) (M:Mem) (hM:Fr m M []):run (T.EH H) (.fn 14) [.agg [sp,sq,sa,.int .u64 st.latest],.int .i64 st.most] M=some (.bool (q86 st),M):=
 q0r hh (by simp[AV.flat,AV.lt]) fun m2 h1 h2=>j6N ((hb.q0h hM).q0h (Fr.same h1 h2)) ok
section
variable {m:Mem} {b:Nat} {st:LSt} {F:List Nat}
theorem j9l (h:q0l m b st F) (hs:Srt q0c (st.q0b.map (·.name))) (p:q0q) (hl:st.q0b.length<8) (hp:∀x∈st.q0b.map (·.name),q0c x p.name=true) {tp tq ta:AV}
  (hb:m.get b=some (.cells [.int .i64 st.most,tp,tq,ta,.int .u64 st.latest] false)) :
  ∃r m' F',run E29 (.fn 39) [tp,.str p.name,.agg p.cells] m=some (r,m')/\q0l m' b {st with q0b:=st.q0b++[p]} F'/\Fr m m' F/\∀c,c∈F'->c∈F\/m.next<=c:=by
 obtain⟨tp',tq',ta',FP,FQ,FA,h1,h2,h3,h4,h5,h6,h7,h8,h9,h10,rfl⟩:=h.ex;rw[h1]at hb;simp only[xoi,Blk.cells.injEq,List.cons.injEq,and_true,true_and]at hb;obtain⟨rfl,rfl,rfl⟩:=hb;obtain⟨m1,FP',g1,g2,g3,g4⟩:=z3Q h2 hs (by simp;omega) p.name (v:=p.cells) rfl rfl;have hlt:((st.q0b.length:Nat):Int)<8:=by omega
 simp only[z7V,z7W,q96 hp,z1W hp,xbq,if_false,xlm,if_pos hlt]at g2;have e1:q2O st.q0b.length p.name (st.q0b.map (·.name))=(st.q0b++[p]).map (·.name):=by
  have:=q3F p.name (st.q0b.map (·.name));simp only[xlm]at this;rw[this];simp
 have e2:q2O st.q0b.length p.cells (st.q0b.map (·.cells))=(st.q0b++[p]).map (·.cells):=by
  have:=q3F p.cells (st.q0b.map (·.cells));simp only[xlm]at this;rw[this];simp
 rw[e1,e2]at g2;obtain⟨F',q1,q2,q3⟩:=q0l.q0b (ps:=st.q0b++[p]) h1 h2 h3 h4 h5 h6 h7 h8 h9 h10 g3 g2 g4;exact⟨_,m1,F',(q4e (H:=H29) rfl _ _).trans g1,q1,q2,q3⟩
theorem j9k (h:q0l m b st F) (hs:Srt q0m (st.q0p.map (·.id))) (p:q1b) (hl:(st.q0p.length:Int)<st.most) (hl2:st.q0p.length<64) (hp:∀x∈st.q0p.map (·.id),q0m x p.id=true) {tp tq ta:AV}
  (hb:m.get b=some (.cells [.int .i64 st.most,tp,tq,ta,.int .u64 st.latest] false)) :
  ∃r m' F',run E29 (.fn 41) [ta,.int .u64 p.id,.agg p.cells] m=some (r,m')/\q0l m' b {st with q0p:=st.q0p++[p]} F'/\Fr m m' F/\∀c,c∈F'->c∈F\/m.next<=c:=by
 obtain⟨tp',tq',ta',FP,FQ,FA,h1,h2,h3,h4,h5,h6,h7,h8,h9,h10,rfl⟩:=h.ex;rw[h1]at hb;simp only[xoi,Blk.cells.injEq,List.cons.injEq,and_true,true_and]at hb;obtain⟨rfl,rfl,rfl⟩:=hb;obtain⟨m1,FA',g1,g2,g3,g4⟩:=z3P h4 hs (by simp;omega) p.id (v:=p.cells) rfl rfl;simp only[z7V,z7W,q96 hp,z1W hp,xbq,if_false,xlm,if_pos hl]at g2;have e1:q2O st.q0p.length p.id (st.q0p.map (·.id))=(st.q0p++[p]).map (·.id):=by
  have:=q3F p.id (st.q0p.map (·.id));simp only[xlm]at this;rw[this];simp
 have e2:q2O st.q0p.length p.cells (st.q0p.map (·.cells))=(st.q0p++[p]).map (·.cells):=by
  have:=q3F p.cells (st.q0p.map (·.cells));simp only[xlm]at this;rw[this];simp
 rw[e1,e2]at g2;obtain⟨F',q1,q2,q3⟩:=q0l.q0p (az:=st.q0p++[p]) h1 h2 h3 h4 h5 h6 h7 h8 h9 h10 g3 g2 g4;exact⟨_,m1,F',(q4e (H:=H29) rfl _ _).trans g1,q1,q2,q3⟩
theorem j9m (h:q0l m b st F) (hs:Srt q0c (st.pairs.map (·.key))) (p:q0N) (hl:st.pairs.length<64) (hp:∀x∈st.pairs.map (·.key),q0c x p.key=true) {tp tq ta:AV}
  (hb:m.get b=some (.cells [.int .i64 st.most,tp,tq,ta,.int .u64 st.latest] false)) :
  ∃r m' F',run E29 (.fn 40) [tq,.str p.key,.agg p.cells] m=some (r,m')/\q0l m' b {st with pairs:=st.pairs++[p]} F'/\Fr m m' F/\∀c,c∈F'->c∈F\/m.next<=c:=by
 obtain⟨r,m1,F',g1,g2,g3,g4⟩:=z0r h hs (by omega) p hb;have e:st.q5b p={st with pairs:=st.pairs++[p]}:=by
  unfold LSt.q5b LSt.iQ;rw[if_neg (by rw[q96 hp];decide),if_pos hl,z1W hp,xlm,q3F]
 rw[e]at g2;exact⟨r,m1,F',((q4e (H:=H29) rfl _ _).trans (q4e (H:=H18) rfl _ _).symm).trans g1,g2,g3,g4⟩
end
theorem z0B {κ:Type} {lt:κ->κ->Bool} {l:List κ} (h:Srt lt l) (k:Nat):Srt lt (l.take k):=List.Pairwise.sublist (List.take_sublist _ _) h
theorem q8j {κ:Type} {lt:κ->κ->Bool} {l:List κ} (h:Srt lt l) {k:Nat} (hk:k<l.length):∀x∈l.take k,lt x l[k]=true:=by
 intro x hx;obtain⟨i,hi,rfl⟩:=List.mem_iff_getElem.1 hx;rw[xlt0]at hi;rw[List.getElem_take];exact q2G h (by omega) hk
theorem q6y {α:Type} {l:List α} {i:Nat} (h:i<l.length):l.take i++[l[i]]=l.take (i+1):=by rw[List.take_add_one,xgq h];rfl
section
variable {m:Mem} {sp sq sa:AV} {st:LSt} {b:Nat}
theorem a7a (hb:BkV m sp sq sa st) (g:q3Q st) (t2:AV):∀(d i:Nat) (M:Mem) (F:List Nat),i+d=st.q0b.length->Fr m M []->q0l M b ⟨st.q0b.take i,[],[],0,st.most⟩ F->(∀c,c∈F->m.next<=c)->
  ∃M' F',D29.gor 49154 [t2,.ptr (some ⟨b,0⟩),sp,.int .i64 (st.q0b.length:Int),.int .i64 (i:Int)] M=D29.gor 49157 [t2,.ptr (some ⟨b,0⟩)] M'/\q0l M' b ⟨st.q0b,[],[],0,st.most⟩ F'/\Fr m M' []/\(∀c,c∈F'->m.next<=c):=by
 obtain⟨e,he,hs⟩:=uP;have lp:=g.w.lp;intro d;induction d with
 |zero=>
  intro i M F hi hM hL hF;have:i=st.q0b.length:=by omega
  subst this;rw[List.take_length]at hL;refine⟨M,F,?_,hL,hM,hF⟩;simp only[z4L (H:=H29),T.a0M,p2,q0a,wp,df (show ¬((st.q0b.length:Nat):Int)<(st.q0b.length:Int) by omega)]
 |succ d ih=>
  intro i M F hi hM hL hF;have hlt:i<st.q0b.length:=by omega
  obtain⟨bs,o,_,x2,_,_,x5⟩:=(hb.p.q0h hM).ixT he hs (i:=i) (by rw[xlm];exact hlt);rw[xgm]at x5;obtain⟨q,hq⟩:∃q,q=st.q0b[i]:=⟨_,rfl⟩;have e1:=q6y hlt;rw[<-hq]at x5 e1;obtain⟨M2,hM2⟩:∃M2,M2=M.lay (.cells q.cells false):=⟨_,rfl⟩;have f2:Fr M M2 []:=by rw[hM2];exact(Fr.refl M).lay _
  have F2:Fr m M2 []:=hM.step0 f2;have s2:stV (M.lay (.cells [.str [],.int .i64 0,.int .i64 0,.int .u64 0] false)) (.ptr (some ⟨M.next,0⟩)) (.agg q.cells) 4=some M2:=by rw[q0X (n:=4) (q0f M _) rfl rfl rfl,q1c,hM2]
  have g2:M2.get M.next=some (.cells q.cells false):=by rw[hM2];exact q0f M _
  have a2:∀j:Nat,ld1 M2 (.ptr (some ⟨M.next,j⟩))=q.cells[j]?:=fun j=>q0g g2
  have l2:ldN M2 (.ptr (some ⟨M.next,0⟩)) 4=some (.agg q.cells):=q0A g2 rfl
  have hL2:=hL.q0h f2;obtain⟨tp,tq,ta,FP,FQ,FA,k1,_⟩:=hL2.ex;have aL:∀j:Nat,ld1 M2 (.ptr (some ⟨b,j⟩))=[AV.int .i64 st.most,.ptr (some ⟨tp,0⟩),.ptr (some ⟨tq,0⟩),.ptr (some ⟨ta,0⟩),.int .u64 0][j]?:=fun j=>q0g k1
  obtain⟨r,M3,F3,j1,j2,j3,j4⟩:=j9l hL2 (by rw[List.map_take];exact z0B g.w.sp _) q (by rw[xlt0];omega) (by
   rw[List.map_take];have:=q8j g.w.sp (k:=i) (by rw[xlm];exact hlt);rw[xgm,<-hq]at this;exact this) k1
  simp only[e1]at j2;have F3':∀c,c∈F3->m.next<=c:=fun c hc=>by
   rcases j4 c hc with h|h
   ·exact hF c h
   ·exact xnt0 F2.next h
  obtain⟨M4,F4,r1,r2,r3,r4⟩:=ih (i+1) M3 F3 (by omega) (F2.step j3 (fun c hc=>.inr (hF c hc))) j2 F3'
  refine⟨M4,F4,?_,r2,r3,r4⟩;simp only[q0q.cells]at x5 s2 a2 l2 j1;simp only[z4L (H:=H29),T.a0M,p2,q0a,wp,dt (show (i:Int)<(st.q0b.length:Int) by omega)];simp only[j3R (H:=H29),T.a7e,p2,q1,pB,p1,nnA,q0e,x2,x5,s2,aL,a2,l2,j1];simp only[j3S (H:=H29),T.a7f,p2,wp,show (i:Int)+1=((i+1:Nat):Int) by omega,wrap_i64 (n:=((i+1:Nat):Int)) (by omega) (by omega)];exact r1
theorem a7b (hb:BkV m sp sq sa st) (g:q3Q st) (t2:AV):∀(d i:Nat) (M:Mem) (F:List Nat),i+d=st.pairs.length->Fr m M []->q0l M b ⟨st.q0b,st.pairs.take i,[],0,st.most⟩ F->(∀c,c∈F->m.next<=c)->
  ∃M' F',D29.gor 49158 [t2,.ptr (some ⟨b,0⟩),sq,.int .i64 (st.pairs.length:Int),.int .i64 (i:Int)] M=D29.gor 49161 [t2,.ptr (some ⟨b,0⟩)] M'/\q0l M' b ⟨st.q0b,st.pairs,[],0,st.most⟩ F'/\Fr m M' []/\(∀c,c∈F'->m.next<=c):=by
 obtain⟨e,he,hs⟩:=uQ;have lq:=g.w.lq;intro d;induction d with
 |zero=>
  intro i M F hi hM hL hF;have:i=st.pairs.length:=by omega
  subst this;rw[List.take_length]at hL;refine⟨M,F,?_,hL,hM,hF⟩;simp only[z4M (H:=H29),T.a0N,p2,q0a,wp,df (show ¬((st.pairs.length:Nat):Int)<(st.pairs.length:Int) by omega)]
 |succ d ih=>
  intro i M F hi hM hL hF;have hlt:i<st.pairs.length:=by omega
  obtain⟨bs,o,_,x2,_,_,x5⟩:=(hb.q.q0h hM).ixT he hs (i:=i) (by rw[xlm];exact hlt);rw[xgm]at x5;obtain⟨q,hq⟩:∃q,q=st.pairs[i]:=⟨_,rfl⟩;have mq:q∈st.pairs:=by rw[hq];exact List.getElem_mem hlt
  have e1:=q6y hlt;rw[<-hq]at x5 e1;obtain⟨M2,hM2⟩:∃M2,M2=M.lay (.cells q.cells false):=⟨_,rfl⟩;have f2:Fr M M2 []:=by rw[hM2];exact(Fr.refl M).lay _
  have F2:Fr m M2 []:=hM.step0 f2;have s2:stV (M.lay (.cells [.str [],.str [],.int .i64 0,.int .u64 0,.int .i64 0,.int .i64 0,.int .u64 0,.int .i64 0,.int .u64 0] false)) (.ptr (some ⟨M.next,0⟩)) (.agg q.cells) 9=some M2:=by rw[q0X (n:=9) (q0f M _) rfl rfl rfl,q1c,hM2]
  have g2:M2.get M.next=some (.cells q.cells false):=by rw[hM2];exact q0f M _
  have a2:∀j:Nat,ld1 M2 (.ptr (some ⟨M.next,j⟩))=q.cells[j]?:=fun j=>q0g g2
  have l2:ldN M2 (.ptr (some ⟨M.next,0⟩)) 9=some (.agg q.cells):=q0A g2 rfl
  have hL2:=hL.q0h f2;obtain⟨tp,tq,ta,FP,FQ,FA,k1,_⟩:=hL2.ex;have aL:∀j:Nat,ld1 M2 (.ptr (some ⟨b,j⟩))=[AV.int .i64 st.most,.ptr (some ⟨tp,0⟩),.ptr (some ⟨tq,0⟩),.ptr (some ⟨ta,0⟩),.int .u64 0][j]?:=fun j=>q0g k1
  obtain⟨r,M3,F3,j1,j2,j3,j4⟩:=j9m hL2 (by rw[List.map_take];exact z0B g.w.sq _) q (by rw[xlt0];omega) (by
   rw[List.map_take];have:=q8j g.w.sq (k:=i) (by rw[xlm];exact hlt);rw[xgm,<-hq]at this;exact this) k1
  simp only[e1]at j2;have F3':∀c,c∈F3->m.next<=c:=fun c hc=>by
   rcases j4 c hc with h|h
   ·exact hF c h
   ·exact xnt0 F2.next h
  obtain⟨M4,F4,r1,r2,r3,r4⟩:=ih (i+1) M3 F3 (by omega) (F2.step j3 (fun c hc=>.inr (hF c hc))) j2 F3'
  refine⟨M4,F4,?_,r2,r3,r4⟩;have okq:=g.w.okq q mq;have sadd:=q5i (P:=Tryz.prog) 9 q.x q.y (by have:=q1j g.w okq.2.2.2.2.1;have:=q1j g.w okq.2.2.2.2.2;omega);simp only[q0N.cells,q0N.key]at x5 s2 a2 l2 j1;simp only[z4M (H:=H29),T.a0N,p2,q0a,wp,dt (show (i:Int)<(st.pairs.length:Int) by omega)];simp only[j3U (H:=H29),T.a7h,p2,q1,pB,p1,nnA,q0e,x2,x5,s2,aL,a2,sadd,l2,j1]
  simp only[j3V (H:=H29),T.a7i,p2,wp,show (i:Int)+1=((i+1:Nat):Int) by omega,wrap_i64 (n:=((i+1:Nat):Int)) (by omega) (by omega)];exact r1
theorem a6Z (hb:BkV m sp sq sa st) (g:q3Q st) (t2:AV):∀(d i:Nat) (M:Mem) (F:List Nat),i+d=st.q0p.length->Fr m M []->q0l M b ⟨st.q0b,st.pairs,st.q0p.take i,0,st.most⟩ F->(∀c,c∈F->m.next<=c)->
  ∃M' F',D29.gor 49162 [t2,.ptr (some ⟨b,0⟩),sa,.int .i64 (st.q0p.length:Int),.int .i64 (i:Int)] M=D29.gor 49165 [t2,.ptr (some ⟨b,0⟩)] M'/\q0l M' b ⟨st.q0b,st.pairs,st.q0p,0,st.most⟩ F'/\Fr m M' []/\(∀c,c∈F'->m.next<=c):=by
 obtain⟨e,he,hs⟩:=uA;have la:=g.w.la;have am:=g.am;intro d;induction d with
 |zero=>
  intro i M F hi hM hL hF;have:i=st.q0p.length:=by omega
  subst this;rw[List.take_length]at hL;refine⟨M,F,?_,hL,hM,hF⟩;simp only[z1j (H:=H29),T.j0f,p2,q0a,wp,df (show ¬((st.q0p.length:Nat):Int)<(st.q0p.length:Int) by omega)]
 |succ d ih=>
  intro i M F hi hM hL hF;have hlt:i<st.q0p.length:=by omega
  obtain⟨bs,o,_,x2,_,_,x5⟩:=(hb.a.q0h hM).ixT he hs (i:=i) (by rw[xlm];exact hlt);rw[xgm]at x5;obtain⟨q,hq⟩:∃q,q=st.q0p[i]:=⟨_,rfl⟩;have e1:=q6y hlt;rw[<-hq]at x5 e1;obtain⟨M2,hM2⟩:∃M2,M2=M.lay (.cells q.cells false):=⟨_,rfl⟩;have f2:Fr M M2 []:=by rw[hM2];exact(Fr.refl M).lay _
  have F2:Fr m M2 []:=hM.step0 f2;have s2:stV (M.lay (.cells [.int .u64 0,.str [],.int .i64 0,.int .u64 0] false)) (.ptr (some ⟨M.next,0⟩)) (.agg q.cells) 4=some M2:=by rw[q0X (n:=4) (q0f M _) rfl rfl rfl,q1c,hM2]
  have g2:M2.get M.next=some (.cells q.cells false):=by rw[hM2];exact q0f M _
  have a2:∀j:Nat,ld1 M2 (.ptr (some ⟨M.next,j⟩))=q.cells[j]?:=fun j=>q0g g2
  have l2:ldN M2 (.ptr (some ⟨M.next,0⟩)) 4=some (.agg q.cells):=q0A g2 rfl
  have hL2:=hL.q0h f2;obtain⟨tp,tq,ta,FP,FQ,FA,k1,_⟩:=hL2.ex;have aL:∀j:Nat,ld1 M2 (.ptr (some ⟨b,j⟩))=[AV.int .i64 st.most,.ptr (some ⟨tp,0⟩),.ptr (some ⟨tq,0⟩),.ptr (some ⟨ta,0⟩),.int .u64 0][j]?:=fun j=>q0g k1
  obtain⟨r,M3,F3,j1,j2,j3,j4⟩:=j9k hL2 (by rw[List.map_take];exact z0B g.w.sa _) q (by show ((st.q0p.take i).length:Int)<st.most;rw[xlt0];omega) (by rw[xlt0];omega) (by
   rw[List.map_take];have:=q8j g.w.sa (k:=i) (by rw[xlm];exact hlt);rw[xgm,<-hq]at this;exact this) k1
  simp only[e1]at j2;have F3':∀c,c∈F3->m.next<=c:=fun c hc=>by
   rcases j4 c hc with h|h
   ·exact hF c h
   ·exact xnt0 F2.next h
  obtain⟨M4,F4,r1,r2,r3,r4⟩:=ih (i+1) M3 F3 (by omega) (F2.step j3 (fun c hc=>.inr (hF c hc))) j2 F3'
  refine⟨M4,F4,?_,r2,r3,r4⟩;simp only[q1b.cells]at x5 s2 a2 l2 j1;simp only[z1j (H:=H29),T.j0f,p2,q0a,wp,dt (show (i:Int)<(st.q0p.length:Int) by omega)];simp only[j0g (H:=H29),T.j8f,p2,q1,pB,p1,nnA,q0e,x2,x5,s2,aL,a2,l2,j1];simp only[j0h (H:=H29),T.j8g,p2,wp,show (i:Int)+1=((i+1:Nat):Int) by omega,wrap_i64 (n:=((i+1:Nat):Int)) (by omega) (by omega)];exact r1
theorem a0K (hb:BkV m sp sq sa st) (g:q3Q st):∃b m' F,run E29 (.fn 12) [.agg [sp,sq,sa,.int .u64 st.latest],.int .i64 st.most] m=some (.tup [.ptr (some ⟨b,0⟩),.int .i64 0],m')/\q0l m' b st F/\Fr m m' []/\∀c,c∈F->m.next<=c:=by
 obtain⟨M,hM⟩:∃M,M=m.lay (.cells [sp,sq,sa,.int .u64 st.latest] false):=⟨_,rfl⟩;have f1:Fr m M []:=by rw[hM];exact(Fr.refl m).lay _
 have g1:M.get m.next=some (.cells [sp,sq,sa,.int .u64 st.latest] false):=by rw[hM];exact q0f m _
 have lB:ldN M (.ptr (some ⟨m.next,0⟩)) 4=some (.agg [sp,sq,sa,.int .u64 st.latest]):=q0A g1 rfl
 have ri:=z6F (H:=H29) rfl hb (z2a g) M f1;rw[q4f g]at ri;have lM:=f1.next
 have n1:M.next=m.next+1:=by rw[hM];rfl
 obtain⟨b,M1,F1,c1,c2,c3,c4⟩:=b0I M (most:=st.most) g.mo.1 g.mo.2;have c1':=(q4e (H:=H29) (f:=38) rfl _ _).trans c1;have hbM:=hb.q0h f1;obtain⟨M2,F2,d1,d2,d3,d4⟩:=a7a (b:=b) hbM g (.ptr (some ⟨m.next,0⟩)) st.q0b.length 0 M1 F1 (by omega) c3 (by simpa using c2) c4
 obtain⟨M3,F3,e1,e2,e3,e4⟩:=a7b (b:=b) hbM g (.ptr (some ⟨m.next,0⟩)) st.pairs.length 0 M2 F2 (by omega) d3 (by simpa using d2) d4
 obtain⟨M4,F4,i1,i2,i3,i4⟩:=a6Z (b:=b) hbM g (.ptr (some ⟨m.next,0⟩)) st.q0p.length 0 M3 F3 (by omega) e3 (by simpa using e2) e4
 obtain⟨eP,uP1,uP2⟩:=uP;obtain⟨eA,uA1,uA2⟩:=uA;obtain⟨eQ,uQ1,uQ2⟩:=uQ;have lp:=hb.p.q2s uP1;have lq:=hb.q.q2s uQ1;have la:=hb.a.q2s uA1;rw[xlm]at lp lq la;have aB1:∀j:Nat,ld1 M1 (.ptr (some ⟨m.next,j⟩))=[sp,sq,sa,.int .u64 st.latest][j]?:=fun j=>q0g (c3.get g1 (by simp))
 have aB2:∀j:Nat,ld1 M2 (.ptr (some ⟨m.next,j⟩))=[sp,sq,sa,.int .u64 st.latest][j]?:=fun j=>q0g (d3.get g1 (by simp))
 have aB3:∀j:Nat,ld1 M3 (.ptr (some ⟨m.next,j⟩))=[sp,sq,sa,.int .u64 st.latest][j]?:=fun j=>q0g (e3.get g1 (by simp))
 have aB4:∀j:Nat,ld1 M4 (.ptr (some ⟨m.next,j⟩))=[sp,sq,sa,.int .u64 st.latest][j]?:=fun j=>q0g (i3.get g1 (by simp))
 obtain⟨tp,tq,ta,FP,FQ,FA,k1,k2,k3,k4,k5,k6,k7,k8,k9,k10,kF⟩:=i2.ex;obtain⟨M5,hM5⟩:∃M5,M5=M4.put b (some (.cells [.int .i64 st.most,.ptr (some ⟨tp,0⟩),.ptr (some ⟨tq,0⟩),.ptr (some ⟨ta,0⟩),.int .u64 st.latest] false)):=⟨_,rfl⟩;obtain⟨z1,z2,z3,z4,z5,z6⟩:=q0l.latest (st:=⟨st.q0b,st.pairs,st.q0p,0,st.most⟩) st.latest k1 k2 k3 k4 k5 k6 k7 hM5;have bF:b∈F4:=by rw[kF];simp
 refine⟨b,M5,F4,?_,⟨tp,tq,ta,FP,FQ,FA,z3,z4,z5,z6,k5,k6,k7,k8,k9,k10,kF⟩,(f1.step0 i3).step z2 (fun c hc=>by simp only[xms]at hc;subst hc;exact .inr (by have:=i4 c bF;omega)),fun c hc=>by have:=i4 c hc;omega⟩
 simp only[Int.natCast_zero]at d1 e1 i1;simp only[a5n (H:=H29) rfl,T.f12,q1,p1,q0K,q0a,unA,wp,AV.cells,on1,lcs,if_true,xom,hb.p.one,hb.q.one,hb.a.one,<-hM,lB,ri,xbt];simp only[j3P (H:=H29),T.a7c,p1,p2,q0d,q0a,q02,c1',decide_true,xbt];simp only[j3Q (H:=H29),T.a7d,p1,q1,q0e,aB1,lp,d1];simp only[j3T (H:=H29),T.a7g,p1,q1,q0e,aB2,lq,e1]
 simp only[j3W (H:=H29),T.a7j,p1,q1,q0e,aB3,la,i1];simp only[j0i (H:=H29),T.j8h,p1,q1,nnA,q0e,aB4,z1]
end
end
section
set_option maxRecDepth 4000
open Go Go.Abs
def S30:List FuncId:=[]
def R30:List FuncId:=[12]
noncomputable def H30:FuncId->Option (List AV->Mem->R):=q4a E29 S30 R30
noncomputable abbrev E30:Env:=T.EH H30
theorem a4U:q1u E30:=q2N a4T S30 R30
noncomputable abbrev D30:Do:=T.Rl H30
theorem b2a {H:FuncId->Option (List AV->Mem->R)} {f:FuncId} (h:H f=some (run E29 (.fn f))) (xs:List AV) (m:Mem):run (T.EH H) (.fn f) xs m=run E29 (.fn f) xs m:=q08 h xs m
end
section
set_option maxRecDepth 8000
set_option maxHeartbeats 1000000
open Go Go.Abs
theorem j9F {m:Mem} {sp sq sa:AV} {st:LSt} (h:BkV m sp sq sa st) (w:LWf st) :
  ∃tp tq ta rp rq ra m',run E30 (.fn 8) [.agg [sp,sq,sa,.int .u64 st.latest]] m=some (.agg [tp,tq,ta,.int .u64 st.latest],m')/\
   q03 4 m' tp (st.q0b.map (·.cells)) (some rp)/\q03 9 m' tq (st.pairs.map (·.cells)) (some rq)/\q03 4 m' ta (st.q0p.map (·.cells)) (some ra)/\Fr m m' []/\m.next<=rp/\m.next<=rq/\m.next<=ra/\rp≠rq/\rp≠ra/\rq≠ra:=by
 have lp:=w.lp;have lq:=w.lq;have la:=w.la;obtain⟨M0,hM0⟩:∃M0,M0=m.lay (.cells [sp,sq,sa,.int .u64 st.latest] false):=⟨_,rfl⟩;obtain⟨M1,hM1⟩:∃M1,M1=M0.lay (.cells [.sl none 0 0 0 true,.sl none 0 0 0 true,.sl none 0 0 0 true,.int .u64 0] false):=⟨_,rfl⟩;obtain⟨M2,hM2⟩:∃M2,M2=M1.lay (.cells [] false):=⟨_,rfl⟩;have n0:M0.next=m.next+1:=by rw[hM0];rfl
 have n1:M1.next=m.next+2:=by rw[hM1];show M0.next+1=_;omega
 have n2:M2.next=m.next+3:=by rw[hM2];show M1.next+1=_;omega
 have f0:Fr m M0 []:=by rw[hM0];exact(Fr.refl _).lay _
 have f1:Fr M0 M1 []:=by rw[hM1];exact(Fr.refl _).lay _
 have f2:Fr M1 M2 []:=by rw[hM2];exact(Fr.refl _).lay _
 have F2:Fr m M2 []:=(f0.step0 f1).step0 f2;have g2:M2.get m.next=some (.cells [sp,sq,sa,.int .u64 st.latest] false):=(f1.step0 f2).get (by rw[hM0];exact q0f _ _) (by simp)
 have k2:M2.get (m.next+1)=some (.cells [.sl none 0 0 0 true,.sl none 0 0 0 true,.sl none 0 0 0 true,.int .u64 0] false):=f2.get (by rw[hM1,<-n0];exact q0f _ _) (by simp)
 have l2:M2.get (m.next+2)=some (.cells [] false):=by rw[hM2,<-n1];exact q0f _ _
 have v2:=h.q0h F2;have a2:∀i:Nat,ld1 M2 (.ptr (some ⟨m.next,i⟩))=[sp,sq,sa,AV.int .u64 st.latest][i]?:=fun i=>q0g g2
 obtain⟨tp,M3,rp,x3,t3,f3,r3⟩:=q3x (w:=40) (q03.lit 4 l2) v2.p (q1v (by simp;omega) (by decide));rw[List.nil_append]at t3;have p3:=f3.next
 have o3:=t3.one;have lt3:=t3.lt;have g3:=f3.get g2 (by simp);have k3:=f3.get k2 (by simp);obtain⟨M4,hM4⟩:∃M4,M4=M3.put m.next (some (.cells [tp,sq,sa,.int .u64 st.latest] false)):=⟨_,rfl⟩
 have s4:stV M3 (.ptr (some ⟨m.next,0⟩)) tp 1=some M4:=by
  have:=q1l (v:=tp) (vs:=[tp]) (o:=0) (n:=1) g3 (q3R o3) rfl (by simp);rw[hM4];simpa using this
 have f4:Fr M3 M4 [m.next]:=by rw[hM4];exact Fr.put _ _ _
 have g4:M4.get m.next=some (.cells [tp,sq,sa,.int .u64 st.latest] false):=by rw[hM4];exact q0v g3
 have n4:M4.next=M3.next:=by rw[hM4];rfl
 have k4:=f4.get k3 (by simp);have t4:=t3.frame f4 (by rintro _ ⟨⟩;simp only[xms];omega)
 obtain⟨M5,hM5⟩:∃M5,M5=M4.lay (.cells [] false):=⟨_,rfl⟩;have f5:Fr M4 M5 []:=by rw[hM5];exact(Fr.refl _).lay _
 have n5:M5.next=M4.next+1:=by rw[hM5];rfl
 have F5:Fr m M5 []:=(((F2.step f3 (by simp)).step f4 (by simp)).step0 f5);have g5:=f5.get g4 (by simp);have k5:=f5.get k4 (by simp);have t5:=t4.frame f5 (by simp);have l5:M5.get M4.next=some (.cells [] false):=by rw[hM5];exact q0f _ _
 have v5:=h.q0h F5;have a5:∀i:Nat,ld1 M5 (.ptr (some ⟨m.next,i⟩))=[tp,sq,sa,AV.int .u64 st.latest][i]?:=fun i=>q0g g5
 obtain⟨tq,M6,rq,x6,u6,f6,r6⟩:=q3x (w:=88) (q03.lit 9 l5) v5.q (q1v (by simp;omega) (by decide));rw[List.nil_append]at u6;have p6:=f6.next
 have o6:=u6.one;have lt6:=u6.lt;have g6:=f6.get g5 (by simp;omega);have k6:=f6.get k5 (by simp;omega);have t6:=t5.frame f6 (by rintro _ ⟨⟩;simp only[xms];omega)
 obtain⟨M7,hM7⟩:∃M7,M7=M6.put m.next (some (.cells [tp,tq,sa,.int .u64 st.latest] false)):=⟨_,rfl⟩
 have s7:stV M6 (.ptr (some ⟨m.next,1⟩)) tq 1=some M7:=by
  have:=q1l (v:=tq) (vs:=[tq]) (o:=1) (n:=1) g6 (q3R o6) rfl (by simp);rw[hM7];simpa using this
 have f7:Fr M6 M7 [m.next]:=by rw[hM7];exact Fr.put _ _ _
 have g7:M7.get m.next=some (.cells [tp,tq,sa,.int .u64 st.latest] false):=by rw[hM7];exact q0v g6
 have n7:M7.next=M6.next:=by rw[hM7];rfl
 have k7:=f7.get k6 (by simp);have t7:=t6.frame f7 (by rintro _ ⟨⟩;simp only[xms];omega)
 have u7:=u6.frame f7 (by rintro _ ⟨⟩;simp only[xms];omega)
 obtain⟨M8,hM8⟩:∃M8,M8=M7.lay (.cells [] false):=⟨_,rfl⟩;have f8:Fr M7 M8 []:=by rw[hM8];exact(Fr.refl _).lay _
 have n8:M8.next=M7.next+1:=by rw[hM8];rfl
 have F8:Fr m M8 []:=(((F5.step f6 (by simp;omega)).step f7 (by simp)).step0 f8);have g8:=f8.get g7 (by simp);have k8:=f8.get k7 (by simp);have t8:=t7.frame f8 (by simp);have u8:=u7.frame f8 (by simp);have l8:M8.get M7.next=some (.cells [] false):=by rw[hM8];exact q0f _ _
 have v8:=h.q0h F8;have a8:∀i:Nat,ld1 M8 (.ptr (some ⟨m.next,i⟩))=[tp,tq,sa,AV.int .u64 st.latest][i]?:=fun i=>q0g g8
 obtain⟨ta,M9,ra,x9,w9,f9,r9⟩:=q3x (w:=40) (q03.lit 4 l8) v8.a (q1v (by simp;omega) (by decide));rw[List.nil_append]at w9;have p9:=f9.next
 have o9:=w9.one;have lt9:=w9.lt;have g9:=f9.get g8 (by simp;omega);have k9:=f9.get k8 (by simp;omega);have t9:=t8.frame f9 (by rintro _ ⟨⟩;simp only[xms];omega)
 have u9:=u8.frame f9 (by rintro _ ⟨⟩;simp only[xms];omega)
 obtain⟨M10,hM10⟩:∃M10,M10=M9.put m.next (some (.cells [tp,tq,ta,.int .u64 st.latest] false)):=⟨_,rfl⟩
 have s10:stV M9 (.ptr (some ⟨m.next,2⟩)) ta 1=some M10:=by
  have:=q1l (v:=ta) (vs:=[ta]) (o:=2) (n:=1) g9 (q3R o9) rfl (by simp);rw[hM10];simpa using this
 have f10:Fr M9 M10 [m.next]:=by rw[hM10];exact Fr.put _ _ _
 have g10:M10.get m.next=some (.cells [tp,tq,ta,.int .u64 st.latest] false):=by rw[hM10];exact q0v g9
 have k10:=f10.get k9 (by simp);have t10:=t9.frame f10 (by rintro _ ⟨⟩;simp only[xms];omega)
 have u10:=u9.frame f10 (by rintro _ ⟨⟩;simp only[xms];omega)
 have w10:=w9.frame f10 (by rintro _ ⟨⟩;simp only[xms];omega)
 have ones:[tp,tq,ta,AV.int .u64 st.latest].all AV.one=true:=by
  simp only[List.all_cons,List.all_nil,o3,o6,o9,on1,Bool.and_true]
 have l10:ldN M10 (.ptr (some ⟨m.next,0⟩)) 4=some (.agg [tp,tq,ta,.int .u64 st.latest]):=q0A g10 rfl
 obtain⟨M11,hM11⟩:∃M11,M11=M10.put (m.next+1) (some (.cells [tp,tq,ta,.int .u64 st.latest] false)):=⟨_,rfl⟩
 have s11:stV M10 (.ptr (some ⟨m.next+1,0⟩)) (.agg [tp,tq,ta,.int .u64 st.latest]) 4=some M11:=by rw[q0X (n:=4) k10 rfl rfl ones,hM11]
 have f11:Fr M10 M11 [m.next+1]:=by rw[hM11];exact Fr.put _ _ _
 have k11:M11.get (m.next+1)=some (.cells [tp,tq,ta,.int .u64 st.latest] false):=by rw[hM11];exact q0v k10
 have l11:ldN M11 (.ptr (some ⟨m.next+1,0⟩)) 4=some (.agg [tp,tq,ta,.int .u64 st.latest]):=q0A k11 rfl
 have t11:=t10.frame f11 (by rintro _ ⟨⟩;simp only[xms];omega)
 have u11:=u10.frame f11 (by rintro _ ⟨⟩;simp only[xms];omega)
 have w11:=w10.frame f11 (by rintro _ ⟨⟩;simp only[xms];omega)
 have F11:Fr m M11 []:=((F8.step f9 (by simp;omega)).step f10 (by simp)).step f11 (by simp);refine⟨tp,tq,ta,rp,rq,ra,M11,?_,t11,u11,w11,F11,by omega,by omega,by omega,by omega,by omega,by omega⟩;simp only[b1v (H:=H30) rfl,T.f8,pB,sB,p1,q1,apE,q0K,q0H,q0I,q0e,AV.cells,on1,lcs,ge,if_true,xom,Mem.q0t,h.p.one,h.q.one,h.a.one,<-hM0,<-hM1,<-hM2,a2,x3,s4,<-hM5,a5,x6,s7,<-hM8,a8,x9,s10,l10,s11,l11]
end
end Go.Proofs.YtlginbmjiecglaaGreatDoor
namespace Go.Abs
section
open Go
structure q2k where
 what:Int
 a:Int
 b:Int
 x:List UInt8
 y:List UInt8
 d:Wd
 sc:Int
 n:Int
 near:Bool
 fits:Bool
def q2k.cells (t:q2k):List AV:=[.int .i64 t.what,.int .u64 t.a,.int .u64 t.b,.str t.x,.str t.y,.int .i64 t.d.hi,.int .u64 t.d.lo,.int .i64 t.sc,.int .i64 t.n,.bool t.near,.bool t.fits]
structure q2k.ok (t:q2k):Prop where
 w:-9223372036854775808<=t.what/\t.what<9223372036854775808
 a:0<=t.a/\t.a<18446744073709551616
 b:0<=t.b/\t.b<18446744073709551616
 x:t.x.length<=140737488355328
 y:t.y.length<=140737488355328
 d:t.d.ok
 n:-9223372036854775808<=t.n/\t.n<9223372036854775808
structure Both (m:Mem) (lb rb:Nat) (st:LSt) (F G:List Nat):Prop where
 l:q0l m lb st F
 r:q0L m rb st G
 dj:Dj F G
 inv:q3Q st
section
variable {m m1 m2:Mem} {lb rb:Nat} {st st1:LSt} {F G F1 G1:List Nat}
theorem Both.q0h (h:Both m lb rb st F G) (hf:Fr m m1 []):Both m1 lb rb st F G:=⟨h.l.q0h hf,h.r.q0h hf,h.dj,h.inv⟩
theorem Both.next (h:Both m lb rb st F G) (L:q0l m1 lb st1 F1) (f1:Fr m m1 F) (i1:∀c,c∈F1->c∈F\/m.next<=c) (R:q0L m2 rb st1 G1) (f2:Fr m1 m2 G) (i2:∀c,c∈G1->c∈G\/m1.next<=c) (g:q3Q st1) :
  Both m2 lb rb st1 F1 G1/\Fr m m2 (F++G)/\∀c,c∈F1++G1->c∈F++G\/m.next<=c:=by
 have d1:Dj F1 G:=h.dj.step i1 h.r.lt;have d2:Dj G1 F1:=d1.symm.step i2 L.lt;refine⟨⟨L.frame f2 d1,R,d2.symm,g⟩,(f1.mono fun c hc _=>List.mem_append_left _ hc).step f2 fun c hc=>.inl (List.mem_append_right _ hc),fun c hc=>?_⟩
 have:=f1.next
 rcases xma.1 hc with hc|hc
 ·rcases i1 c hc with e|e
  ·exact .inl (List.mem_append_left _ e)
  ·exact .inr e
 ·rcases i2 c hc with e|e
  ·exact .inl (List.mem_append_right _ e)
  ·exact .inr (by omega)
end
def z4o (st:LSt) (e:Int) (s:LSt):Prop:=s.most=st.most/\(e≠0->s=st)
theorem z4o.no (st:LSt) (e:Int):z4o st e st:=⟨rfl,fun _=>rfl⟩
theorem z4o.ok {st s:LSt} (h:s.most=st.most):z4o st 0 s:=⟨h,fun h=>absurd rfl h⟩
theorem z7j (st:LSt) (n:List UInt8) (s:Int):z4o st (q6e st n s).1 (q6e st n s).2:=by
 unfold q6e
 repeat' split
 all_goals first|exact .no _ _|exact .ok rfl
theorem z7Q (st:LSt) (n:List UInt8):z4o st (q5a st n).2.1 (q5a st n).2.2:=by
 unfold q5a
 repeat' split
 all_goals first|exact .no _ _|exact .ok rfl
theorem q9w (st:LSt) (i:Int) (x:Wd) (s:Int):z4o st (q1N st i x s).1 (q1N st i x s).2:=by
 unfold q1N;dsimp only
 repeat' split
 all_goals first|exact .no _ _|exact .ok rfl
theorem q8I (st:LSt) (i:Int) (x:Wd) (s:Int):z4o st (q1y st i x s).1 (q1y st i x s).2:=by
 unfold q1y;dsimp only
 repeat' split
 all_goals first|exact .no _ _|exact .ok rfl
theorem q8G (st:LSt) (i j:Int) (x:Wd) (s:Int):z4o st (q1F st i j x s).1 (q1F st i j x s).2:=by
 unfold q1F;dsimp only
 repeat' split
 all_goals first|exact .no _ _|exact .ok rfl
theorem z8a (st:LSt) (x y:List UInt8) (r:Wd) (s:Int):z4o st (q6r st x y r s).1 (q6r st x y r s).2:=by
 unfold q6r
 repeat' split
 all_goals first|exact .no _ _|exact .ok rfl
end
end Go.Abs
namespace Go.Proofs.YtlginbmjiecglaaGreatDoor
section
set_option maxRecDepth 16000
set_option maxHeartbeats 2000000
open Go Go.Abs
theorem q9t (st:LSt) (i j:Int) (x:Wd) (s:Int):z4o st (q0P st i j x s).2.2.1 (q0P st i j x s).2.2.2:=by
 unfold q0P;dsimp only
 repeat' split
 all_goals first|exact .no _ _|skip
 unfold q7C;dsimp only
 repeat' split
 all_goals first|exact .no _ _|exact .ok rfl
theorem q61 (w:Wd) (s:Int):q0S Tryz.prog .eql 45 (.agg (q0u w s)) (.agg (q0u w s))=some (.bool true):=by
 have:=j9K w.hi w.lo s w.hi w.lo s;simpa[q0u]using this
theorem b0U {m:Mem} {lb rb:Nat} {st:LSt} {F G:List Nat} (h:Both m lb rb st F G) {t:q2k} (ok:t.ok) :
  ∃e st' m' F' G',run E30 (.fn 23) [.ptr (some ⟨lb,0⟩),.ptr (some ⟨rb,0⟩),.agg t.cells] m=some (.tup [.bool true,.int .i64 e],m')/\Both m' lb rb st' F' G'/\z4o st e st'/\Fr m m' (F++G)/\∀c,c∈F'++G'->c∈F++G\/m.next<=c:=by
 have w:=h.inv.w;have okx:=ok.x;have oky:=ok.y;obtain⟨M0,hM0⟩:∃M0,M0=m.lay (.cells [.int .i64 t.what,.int .u64 t.a,.int .u64 t.b,.str t.x,.str t.y,.int .i64 t.d.hi,.int .u64 t.d.lo,.int .i64 t.sc,.int .i64 t.n,.bool t.near,.bool t.fits] false):=⟨_,rfl⟩;have f0:Fr m M0 []:=by rw[hM0];exact(Fr.refl _).lay _
 have n0:M0.next=m.next+1:=by rw[hM0];rfl
 have g0:M0.get m.next=some (.cells t.cells false):=by rw[hM0];exact q0f _ _
 have h0:=h.q0h f0;have a0:∀i:Nat,ld1 M0 (.ptr (some ⟨m.next,i⟩))=t.cells[i]?:=fun i=>q0g g0
 have l0:ldN M0 (.ptr (some ⟨m.next,5⟩)) 3=some (.agg (q0u t.d t.sc)):=by rw[q00 g0 (by simp[q2k.cells])];rfl
 have nF:m.next∉F:=fun e=>Nat.lt_irrefl _ (h.l.lt _ e)
 have nG:m.next∉G:=fun e=>Nat.lt_irrefl _ (h.r.lt _ e)
 have sv:∀(M:Mem) (w:Wd) (s:Int),stV (M.lay (.cells [.int .i64 0,.int .u64 0,.int .i64 0] false)) (.ptr (some ⟨M.next,0⟩)) (.agg (q0u w s)) 3=some (M.lay (.cells (q0u w s) false)):=fun M w s=>by rw[q0X (n:=3) (q0f M _) rfl rfl rfl,q1c]
 obtain⟨k,hk⟩:∃k,k=t.what % 15:=⟨_,rfl⟩;have pk:=fun M=>q1k (H:=H30) rfl M t.what (n:=15) (by omega) (by omega)
 simp only[<-hk]at pk;have hk0:0<=k/\k<15:=by omega
 clear hk;have fin:∀{e:Int} {st1:LSt} {m1 m2:Mem} {F1 G1:List Nat},q0l m1 lb st1 F1->Fr M0 m1 F->(∀c,c∈F1->c∈F\/M0.next<=c)->q0L m2 rb st1 G1->Fr m1 m2 G->(∀c,c∈G1->c∈G\/m1.next<=c)->q3Q st1->z4o st e st1->
   ∀M,Fr m2 M []->run E30 (.fn 23) [.ptr (some ⟨lb,0⟩),.ptr (some ⟨rb,0⟩),.agg t.cells] m=some (.tup [.bool true,.int .i64 e],M)->
   ∃e st' m' F' G',run E30 (.fn 23) [.ptr (some ⟨lb,0⟩),.ptr (some ⟨rb,0⟩),.agg t.cells] m=some (.tup [.bool true,.int .i64 e],m')/\Both m' lb rb st' F' G'/\z4o st e st'/\Fr m m' (F++G)/\∀c,c∈F'++G'->c∈F++G\/m.next<=c:=by
  intro e st1 m1 m2 F1 G1 L f1 i1 R f2 i2 g S M hM hr;obtain⟨B,fB,iB⟩:=h0.next L f1 i1 R f2 i2 g
  exact⟨e,st1,M,F1,G1,hr,B.q0h hM,S,(f0.any _).step (fB.step0 hM) (fun c hc=>.inl hc),fun c hc=>(iB c hc).imp id (by omega)⟩
 by_cases cA:k=0\/k=1
 ·obtain⟨m1,F1,e1,L1,r1,i1⟩:=j9E h0.l w.sp w.lp t.x (by omega) (scale:=IntKind.wrap .u64 (t.a-1)) (by rw[q0n];omega);have e1':=(q4e (H:=H30) (f:=42) rfl _ _).trans e1;obtain⟨m2,G2,e2,R2,r2,i2⟩:=z6B (h0.r.frame r1 h.dj.symm) w t.x (by omega) (scale:=IntKind.wrap .u64 (t.a-1)) (by rw[q0n];omega);have e2':=(q5V (H:=H30) (f:=27) rfl _ _).trans e2;have a1:∀i:Nat,ld1 m1 (.ptr (some ⟨m.next,i⟩))=t.cells[i]?:=fun i=>q0g (r1.get g0 nF)
  have l1:ldN m1 (.ptr (some ⟨m.next,5⟩)) 3=some (.agg (q0u t.d t.sc)):=by rw[q00 (r1.get g0 nF) (by simp[q2k.cells])];rfl
  refine fin L1 r1 i1 R2 r2 i2 (z0V h.inv _ (by rw[q0n];omega)) (z7j _ _ _) _ (Fr.refl _) ?_;clear fin;rcases cA with rfl|rfl<;>simp only[q4U (H:=H30) rfl,T.f23,p1,q1,p2,pB,q0K,q0d,q0a,ifV,q0F,AV.cells,on1,lcs,ge,if_true,xom,q2k.cells,<-hM0,a0,l0,pk,Int.reduceEq,decide_false,decide_true,e1',a1,e2']
  all_goals simp only[q5C (H:=H30),T.z7s,p2,wp,decide_true]
 by_cases cB:k=2\/k=3
 ·obtain⟨m1,F1,e1,L1,r1,i1⟩:=a3s h0.l w.sp w.lp w.sa w.la (fun a ha=>(w.oka a ha).2.2.1) w.lat.1 t.x
  have e1':=(q4e (H:=H30) (f:=43) rfl _ _).trans e1;obtain⟨m2,G2,e2,R2,r2,i2⟩:=z0w (h0.r.frame r1 h.dj.symm) w t.x;have e2':=(q5V (H:=H30) (f:=28) rfl _ _).trans e2;have a1:∀i:Nat,ld1 m1 (.ptr (some ⟨m.next,i⟩))=t.cells[i]?:=fun i=>q0g (r1.get g0 nF)
  have l1:ldN m1 (.ptr (some ⟨m.next,5⟩)) 3=some (.agg (q0u t.d t.sc)):=by rw[q00 (r1.get g0 nF) (by simp[q2k.cells])];rfl
  refine fin L1 r1 i1 R2 r2 i2 (q79 h.inv _) (z7Q _ _) _ (Fr.refl _) ?_;clear fin;rcases cB with rfl|rfl<;>simp only[q4U (H:=H30) rfl,T.f23,p1,q1,p2,pB,q0K,q0d,q0a,ifV,q0F,AV.cells,on1,lcs,ge,if_true,xom,q2k.cells,<-hM0,a0,l0,pk,Int.reduceEq,decide_false,decide_true,e1',a1,e2']
 by_cases cC:k=7
 ·obtain⟨m1,F1,e1,L1,r1,i1⟩:=z4k h0.l w t.a ok.d t.sc;have e1':=(z2h (H:=H30) (f:=61) rfl _ _).trans e1;obtain⟨m2,e2,R2,r2⟩:=q6M (h0.r.frame r1 h.dj.symm) w t.a ok.d t.sc;have e2':=(q5V (H:=H30) (f:=31) rfl _ _).trans e2;have a1:∀i:Nat,ld1 m1 (.ptr (some ⟨m.next,i⟩))=t.cells[i]?:=fun i=>q0g (r1.get g0 nF)
  have l1:ldN m1 (.ptr (some ⟨m.next,5⟩)) 3=some (.agg (q0u t.d t.sc)):=by rw[q00 (r1.get g0 nF) (by simp[q2k.cells])];rfl
  refine fin L1 r1 i1 R2 r2 (fun c hc=>.inl hc) (q56 h.inv _ _ _) (q8I _ _ _ _) _ (Fr.refl _) ?_
  clear fin;rcases cC with rfl<;>simp only[q4U (H:=H30) rfl,T.f23,p1,q1,p2,pB,q0K,q0d,q0a,ifV,q0F,AV.cells,on1,lcs,ge,if_true,xom,q2k.cells,<-hM0,a0,l0,pk,Int.reduceEq,decide_false,decide_true,e1',a1,l1,e2']
  all_goals simp only[q5C (H:=H30),T.z7s,p2,wp,decide_true]
 by_cases cD:k=8
 ·obtain⟨m1,F1,e1,L1,r1,i1⟩:=z4i h0.l w t.a t.b ok.d t.sc;have e1':=(z2h (H:=H30) (f:=19) rfl _ _).trans e1;obtain⟨m2,e2,R2,r2⟩:=q6L (h0.r.frame r1 h.dj.symm) w t.a t.b ok.d t.sc;have e2':=(q5V (H:=H30) (f:=32) rfl _ _).trans e2;have a1:∀i:Nat,ld1 m1 (.ptr (some ⟨m.next,i⟩))=t.cells[i]?:=fun i=>q0g (r1.get g0 nF)
  have l1:ldN m1 (.ptr (some ⟨m.next,5⟩)) 3=some (.agg (q0u t.d t.sc)):=by rw[q00 (r1.get g0 nF) (by simp[q2k.cells])];rfl
  refine fin L1 r1 i1 R2 r2 (fun c hc=>.inl hc) (q52 h.inv _ _ _ _) (q8G _ _ _ _ _) _ (Fr.refl _) ?_
  clear fin;rcases cD with rfl<;>simp only[q4U (H:=H30) rfl,T.f23,p1,q1,p2,pB,q0K,q0d,q0a,ifV,q0F,AV.cells,on1,lcs,ge,if_true,xom,q2k.cells,<-hM0,a0,l0,pk,Int.reduceEq,decide_false,decide_true,e1',a1,l1,e2']
  all_goals simp only[q5C (H:=H30),T.z7s,p2,wp,decide_true]
 by_cases cE:k=9
 ·obtain⟨m1,F1,e1,L1,r1,i1⟩:=a3F h0.l w t.x t.y ok.d t.sc;have e1':=(z2h (H:=H30) (f:=62) rfl _ _).trans e1;obtain⟨m2,G2,e2,R2,r2,i2⟩:=j84 (h0.r.frame r1 h.dj.symm) h.inv.toLGood t.x t.y ok.d t.sc;have e2':=(q5V (H:=H30) (f:=33) rfl _ _).trans e2;have a1:∀i:Nat,ld1 m1 (.ptr (some ⟨m.next,i⟩))=t.cells[i]?:=fun i=>q0g (r1.get g0 nF)
  have l1:ldN m1 (.ptr (some ⟨m.next,5⟩)) 3=some (.agg (q0u t.d t.sc)):=by rw[q00 (r1.get g0 nF) (by simp[q2k.cells])];rfl
  refine fin L1 r1 i1 R2 r2 i2 (z2g h.inv _ _ ok.d _) (z8a _ _ _ _ _) _ (Fr.refl _) ?_;clear fin;rcases cE with rfl<;>simp only[q4U (H:=H30) rfl,T.f23,p1,q1,p2,pB,q0K,q0d,q0a,ifV,q0F,AV.cells,on1,lcs,ge,if_true,xom,q2k.cells,<-hM0,a0,l0,pk,Int.reduceEq,decide_false,decide_true,e1',a1,l1,e2']
  all_goals simp only[q5C (H:=H30),T.z7s,p2,wp,decide_true]
 by_cases cF:k=10\/k=11
 ·obtain⟨m1,F1,e1,L1,r1,i1⟩:=z7l h0.l w t.a t.b ok.d t.sc;have e1':=(z2h (H:=H30) (f:=63) rfl _ _).trans e1;obtain⟨M2,hM2⟩:∃M2,M2=m1.lay (.cells (q0u (q0P st t.a t.b t.d t.sc).1 (q0P st t.a t.b t.d t.sc).2.1) false):=⟨_,rfl⟩;have f2:Fr m1 M2 []:=by rw[hM2];exact(Fr.refl _).lay _
  obtain⟨m3,e2,R2,r2⟩:=q8a ((h0.r.frame r1 h.dj.symm).q0h f2) w t.a t.b ok.d t.sc;have e2':=(b0O (H:=H30) (f:=34) rfl _ _).trans e2;obtain⟨M4,hM4⟩:∃M4,M4=m3.lay (.cells (q0u (q0P st t.a t.b t.d t.sc).1 (q0P st t.a t.b t.d t.sc).2.1) false):=⟨_,rfl⟩;have f4:Fr m3 M4 []:=by rw[hM4];exact(Fr.refl _).lay _
  have s2:=sv m1 (q0P st t.a t.b t.d t.sc).1 (q0P st t.a t.b t.d t.sc).2.1;have s4:=sv m3 (q0P st t.a t.b t.d t.sc).1 (q0P st t.a t.b t.d t.sc).2.1;rw[<-hM2]at s2;rw[<-hM4]at s4;have n1:=r1.next
  have gB:M2.get m.next=some (.cells t.cells false):=f2.get (r1.get g0 nF) (by simp)
  have gD:M2.get m1.next=some (.cells (q0u (q0P st t.a t.b t.d t.sc).1 (q0P st t.a t.b t.d t.sc).2.1) false):=by rw[hM2];exact q0f _ _
  have gD4:M4.get m1.next=some (.cells (q0u (q0P st t.a t.b t.d t.sc).1 (q0P st t.a t.b t.d t.sc).2.1) false):=f4.get (r2.get gD (fun e=>by have:=h.r.lt _ e;omega)) (by simp)
  have gE4:M4.get m3.next=some (.cells (q0u (q0P st t.a t.b t.d t.sc).1 (q0P st t.a t.b t.d t.sc).2.1) false):=by rw[hM4];exact q0f _ _
  have lD:=q0A (n:=3) gD4 rfl;have lE:=q0A (n:=3) gE4 rfl;have a1:∀i:Nat,ld1 M2 (.ptr (some ⟨m.next,i⟩))=t.cells[i]?:=fun i=>q0g gB
  have l1:ldN M2 (.ptr (some ⟨m.next,5⟩)) 3=some (.agg (q0u t.d t.sc)):=by rw[q00 gB (by simp[q2k.cells])];rfl
  refine fin (L1.q0h f2) (r1.step0 f2) i1 R2 r2 (fun c hc=>.inl hc) (q6E h.inv _ _ _ _) (q9t _ _ _ _ _) M4 f4 ?_
  clear fin;rcases cF with rfl|rfl<;>simp only[q4U (H:=H30) rfl,T.f23,p1,q1,p2,pB,q0K,q0d,q0a,ifV,q0F,AV.cells,on1,lcs,ge,if_true,xom,q2k.cells,<-hM0,a0,l0,pk,Int.reduceEq,decide_false,decide_true,e1',s2,a1,l1,e2',s4,lD,lE,q61]
 by_cases cG:k=12
 ·obtain⟨M1,hM1⟩:∃M1,M1=M0.lay (.cells (q0u (q0D st t.a).1 (q0D st t.a).2.1) false):=⟨_,rfl⟩;have f1:Fr M0 M1 []:=by rw[hM1];exact(Fr.refl _).lay _
  obtain⟨M2,hM2⟩:∃M2,M2=M1.lay (.cells (q0u (q0D st t.a).1 (q0D st t.a).2.1) false):=⟨_,rfl⟩;have f2:Fr M1 M2 []:=by rw[hM2];exact(Fr.refl _).lay _
  have s1:=sv M0 (q0D st t.a).1 (q0D st t.a).2.1;have s2:=sv M1 (q0D st t.a).1 (q0D st t.a).2.1;rw[<-hM1]at s1;rw[<-hM2]at s2;have e1:=a5c (H:=H30) rfl h0.l w t.a M0 (Fr.refl _);have e2:=a3G (H:=H30) rfl h0.r w t.a M1 f1;have gB:M1.get m.next=some (.cells t.cells false):=f1.get g0 (by simp)
  have gD:M2.get M0.next=some (.cells (q0u (q0D st t.a).1 (q0D st t.a).2.1) false):=f2.get (by rw[hM1];exact q0f _ _) (by simp)
  have gE:M2.get M1.next=some (.cells (q0u (q0D st t.a).1 (q0D st t.a).2.1) false):=by rw[hM2];exact q0f _ _
  have lD:=q0A (n:=3) gD rfl;have lE:=q0A (n:=3) gE rfl;have a1:∀i:Nat,ld1 M1 (.ptr (some ⟨m.next,i⟩))=t.cells[i]?:=fun i=>q0g gB
  refine fin (e:=(q0D st t.a).2.2) h0.l (Fr.refl' _ _) (fun c hc=>.inl hc) h0.r (Fr.refl' _ _) (fun c hc=>.inl hc) h.inv (.no _ _) M2 (f1.step0 f2) ?_
  clear fin;subst cG;simp only[q4U (H:=H30) rfl,T.f23,p1,q1,p2,pB,q0K,q0d,q0a,ifV,q0F,AV.cells,on1,lcs,ge,if_true,xom,q2k.cells,<-hM0,a0,pk,Int.reduceEq,decide_false,decide_true,e1,s1,a1,e2,s2,lD,lE,q61]
 by_cases cH:k=13
 ·obtain⟨M1,hM1⟩:∃M1,M1=M0.lay (.cells (q0u (q0U st t.x).1 (q0U st t.x).2.1) false):=⟨_,rfl⟩;have f1:Fr M0 M1 []:=by rw[hM1];exact(Fr.refl _).lay _
  obtain⟨M2,hM2⟩:∃M2,M2=M1.lay (.cells (q0u (q0U st t.x).1 (q0U st t.x).2.1) false):=⟨_,rfl⟩;have f2:Fr M1 M2 []:=by rw[hM2];exact(Fr.refl _).lay _
  have s1:=sv M0 (q0U st t.x).1 (q0U st t.x).2.1;have s2:=sv M1 (q0U st t.x).1 (q0U st t.x).2.1;rw[<-hM1]at s1;rw[<-hM2]at s2;have e1:=a3t (H:=H30) rfl h0.l w t.x M0 (Fr.refl _);have e2:=b2c (H:=H30) rfl h0.r w t.x M1 f1;have gB:M1.get m.next=some (.cells t.cells false):=f1.get g0 (by simp)
  have gD:M2.get M0.next=some (.cells (q0u (q0U st t.x).1 (q0U st t.x).2.1) false):=f2.get (by rw[hM1];exact q0f _ _) (by simp)
  have gE:M2.get M1.next=some (.cells (q0u (q0U st t.x).1 (q0U st t.x).2.1) false):=by rw[hM2];exact q0f _ _
  have lD:=q0A (n:=3) gD rfl;have lE:=q0A (n:=3) gE rfl;have a1:∀i:Nat,ld1 M1 (.ptr (some ⟨m.next,i⟩))=t.cells[i]?:=fun i=>q0g gB
  refine fin (e:=(q0U st t.x).2.2) h0.l (Fr.refl' _ _) (fun c hc=>.inl hc) h0.r (Fr.refl' _ _) (fun c hc=>.inl hc) h.inv (.no _ _) M2 (f1.step0 f2) ?_
  clear fin;subst cH;simp only[q4U (H:=H30) rfl,T.f23,p1,q1,p2,pB,q0K,q0d,q0a,ifV,q0F,AV.cells,on1,lcs,ge,if_true,xom,q2k.cells,<-hM0,a0,pk,Int.reduceEq,decide_false,decide_true,e1,s1,a1,e2,s2,lD,lE,q61]
 by_cases cI:k=14
 ·obtain⟨M1,hM1⟩:∃M1,M1=M0.lay (.cells (q0u (q0T st t.x t.y).1 (q0T st t.x t.y).2.1) false):=⟨_,rfl⟩;have f1:Fr M0 M1 []:=by rw[hM1];exact(Fr.refl _).lay _
  obtain⟨M2,hM2⟩:∃M2,M2=M1.lay (.cells (q0u (q0T st t.x t.y).1 (q0T st t.x t.y).2.1) false):=⟨_,rfl⟩;have f2:Fr M1 M2 []:=by rw[hM2];exact(Fr.refl _).lay _
  have s1:=sv M0 (q0T st t.x t.y).1 (q0T st t.x t.y).2.1;have s2:=sv M1 (q0T st t.x t.y).1 (q0T st t.x t.y).2.1;rw[<-hM1]at s1;rw[<-hM2]at s2;have e1:=j9v (H:=H30) rfl h0.l w t.x t.y (by omega) M0 (Fr.refl _);have e2:=b0P (H:=H30) rfl h0.r w t.x t.y M1 f1;have gB:M1.get m.next=some (.cells t.cells false):=f1.get g0 (by simp)
  have gD:M2.get M0.next=some (.cells (q0u (q0T st t.x t.y).1 (q0T st t.x t.y).2.1) false):=f2.get (by rw[hM1];exact q0f _ _) (by simp)
  have gE:M2.get M1.next=some (.cells (q0u (q0T st t.x t.y).1 (q0T st t.x t.y).2.1) false):=by rw[hM2];exact q0f _ _
  have lD:=q0A (n:=3) gD rfl;have lE:=q0A (n:=3) gE rfl;have a1:∀i:Nat,ld1 M1 (.ptr (some ⟨m.next,i⟩))=t.cells[i]?:=fun i=>q0g gB
  refine fin (e:=(q0T st t.x t.y).2.2) h0.l (Fr.refl' _ _) (fun c hc=>.inl hc) h0.r (Fr.refl' _ _) (fun c hc=>.inl hc) h.inv (.no _ _) M2 (f1.step0 f2) ?_
  clear fin;subst cI;simp only[q4U (H:=H30) rfl,T.f23,p1,q1,p2,pB,q0K,q0d,q0a,ifV,q0F,AV.cells,on1,lcs,ge,if_true,xom,q2k.cells,<-hM0,a0,pk,Int.reduceEq,decide_false,decide_true,e1,s1,a1,e2,s2,lD,lE,q61]
 by_cases cJ:k=4\/k=5\/k=6
 ·obtain⟨m1,F1,e1,L1,r1,i1⟩:=z7m h0.l w t.a ok.d t.sc;have e1':=(z2h (H:=H30) (f:=44) rfl _ _).trans e1;obtain⟨m2,e2,R2,r2⟩:=q5c (h0.r.frame r1 h.dj.symm) w t.a ok.d t.sc;have e2':=(q5V (H:=H30) (f:=29) rfl _ _).trans e2;have a1:∀i:Nat,ld1 m1 (.ptr (some ⟨m.next,i⟩))=t.cells[i]?:=fun i=>q0g (r1.get g0 nF)
  have l1:ldN m1 (.ptr (some ⟨m.next,5⟩)) 3=some (.agg (q0u t.d t.sc)):=by rw[q00 (r1.get g0 nF) (by simp[q2k.cells])];rfl
  refine fin L1 r1 i1 R2 r2 (fun c hc=>.inl hc) (q35 h.inv _ _ _) (q9w _ _ _ _) _ (Fr.refl _) ?_
  clear fin;rcases cJ with rfl|rfl|rfl<;>simp only[q4U (H:=H30) rfl,T.f23,p1,q1,p2,pB,q0K,q0d,q0a,ifV,q0F,AV.cells,on1,lcs,ge,if_true,xom,q2k.cells,<-hM0,a0,l0,pk,Int.reduceEq,decide_false,e1',a1,l1,e2']
  all_goals simp only[q5C (H:=H30),T.z7s,p2,wp,decide_true]
 omega
end
end Go.Proofs.YtlginbmjiecglaaGreatDoor
