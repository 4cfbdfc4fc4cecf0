/- Texts of one claim, put together. -/
import Derived.Test.YtlginbmjiecglaaGreatDoorQ21
namespace Go.Proofs.YtlginbmjiecglaaGreatDoor
section
set_option maxRecDepth 4000
open Go Go.Abs
def S22:List FuncId:=[72,64,65,75]
noncomputable def H22:FuncId->Option (List AV->Mem->R):=q1L E21 S22
noncomputable abbrev E22:Env:=T.EH H22
theorem a4M:q1u E22:=q0Z a4L S22
noncomputable abbrev D22:Do:=T.Rl H22
section
variable {H:FuncId->Option (List AV->Mem->R)} {m:Mem} {b:Nat} {st:LSt} {F:List Nat}
theorem j6L (hh:H 72=some (q0y E21 72)) (h:q0L m b st F) (w:LWf st) {k:List UInt8} {p:q0q} (hp:st.q2o k=some p) {x:Wd} (hx:x.ok) (s:Int) (M:Mem) (hM:Fr m M []):run (T.EH H) (.fn 72) [.ptr (some ⟨b,0⟩),.str k,.agg (q0u x s)] M=some (.int .i64 (q1W p x s),M):=
 q0r hh (by simp[AV.flat,AV.lt]) fun m2 h1 h2=>j6M ((h.q0h hM).q0h (Fr.same h1 h2)) w hp hx s
theorem a3G (hh:H 64=some (q0y E21 64)) (h:q0L m b st F) (w:LWf st) (id:Int) (M:Mem) (hM:Fr m M []):run (T.EH H) (.fn 64) [.ptr (some ⟨b,0⟩),.int .u64 id] M=some (.tup [.agg (q0u (q0D st id).1 (q0D st id).2.1),.int .i64 (q0D st id).2.2],M):=
 q0r hh (by simp[AV.flat,AV.lt,AV.lts,q0u]) fun m2 h1 h2=>z3T ((h.q0h hM).q0h (Fr.same h1 h2)) w id
theorem b2c (hh:H 65=some (q0y E21 65)) (h:q0L m b st F) (w:LWf st) (x:List UInt8) (M:Mem) (hM:Fr m M []):run (T.EH H) (.fn 65) [.ptr (some ⟨b,0⟩),.str x] M=some (.tup [.agg (q0u (q0U st x).1 (q0U st x).2.1),.int .i64 (q0U st x).2.2],M):=
 q0r hh (by simp[AV.flat,AV.lt,AV.lts,q0u]) fun m2 h1 h2=>z3Z ((h.q0h hM).q0h (Fr.same h1 h2)) w x
theorem z0t (hh:H 75=some (q0y E21 75)) {a b:Wd} (ha:a.ok) (hb:b.ok) (m:Mem):run (T.EH H) (.fn 75) [.agg a.cells,.agg b.cells] m=some (.int .i64 (sgn (a.val-b.val)),m):=
 q0r hh (by simp[AV.flat,AV.lt]) fun m2 _ _=>j6K ha hb m2
end
section
variable {m:Mem} {b:Nat} {st:LSt} {F:List Nat}
theorem q5c (h:q0L m b st F) (w:LWf st) (id:Int) {x:Wd} (hx:x.ok) (s:Int) :
  ∃m',run E22 (.fn 29) [.ptr (some ⟨b,0⟩),.int .u64 id,.agg (q0u x s)] m=some (.int .i64 (q1N st id x s).1,m')/\q0L m' b (q1N st id x s).2 F/\Fr m m' F:=by
 have ga:=z3R (H:=H22) rfl h (by have:=w.la;omega) id;have gpp:=fun k=>q6X (H:=H22) rfl h (by have:=w.lp;omega) k
 have hF:=h.lt;obtain⟨sp,sq,sa,rp,rq,ra,h1,h2,h3,h4,h5⟩:=h.ex;have hb:=Mem.q0x h1;have a3:∀i:Nat,ld1 m (.ptr (some ⟨b,i⟩))=[sp,sq,sa,.int .u64 st.latest,.int .i64 st.most][i]?:=fun i=>q0g h1
 have done:∀M,Fr m M []->∀v:AV,∃m',some (v,M)=some (v,m')/\q0L m' b st F/\Fr m m' F:=fun M hM v=>⟨M,rfl,h.q0h hM,hM.any F⟩
 unfold q1N;rcases LSt.q1f w id with ⟨e,hn⟩|⟨a,p,e,g1,g2,hid,hka,hpn,hkp,ma,mp⟩
 ·have hk:q0O q0m id (st.q0p.map (·.id))=false:=by
   cases hk:q0O q0m id (st.q0p.map (·.id)) with
   |false=>rfl
   |true=>obtain⟨a,a1,_⟩:=LSt.q1D hk;rw[hn]at a1;cases a1
  rw[z2l w hk]at ga;rw[e];simp only[ne_eq,show ¬(40:Int)=0 by omega,not_false_eq_true,if_true,q0u];simp (maxDischargeDepth:=20) only [z06 (H:=H22) rfl,T.f29,p2,q0K,q0a,wp,AV.one,AV.cells,lcl,ga,frl,Fr.refl,dt (show (-1:Int)<0 by omega)];exact done _ ((Fr.refl m).lay _) _
 ·rw[z3X w hka]at ga;rw[e];obtain⟨a',q1,q2,q3,q4⟩:=LSt.q1D hka;rw[g1]at q1;cases q1;have hlt:st.iA id<st.q0p.length:=(xgi.1 q3).1;obtain⟨bb,hbb,x1,x2,x3,x4⟩:=h4.fld (i:=st.iA id) (by rw[xlm];exact hlt);have hB:bb<m.next:=by subst hbb;exact h4.lt
  rw[xlm]at x1 x2;subst x1;have q5:st.q0p[st.iA id]? = some a:=q3;have ha:st.q0p[st.iA id]=a:=by have q6:=q5;rw[xgq hlt]at q6;simpa using q6
  have x5:=x3 1 (by omega);have x6:=x4 2 2 (by omega);rw[xgm,ha]at x5 x6;have hkp':=hkp;rw[hpn]at hkp;have gp:=gpp a.q1S;rw[q6W w hkp]at gp;obtain⟨p',p1,p2,p3,p4⟩:=LSt.q1p hkp;rw[g2]at p1;cases p1;have hlt2:st.iP a.q1S<st.q0b.length:=(xgi.1 p3).1;obtain⟨bc,hbc,y1,y2,y3,y4⟩:=h2.fld (i:=st.iP a.q1S) (by rw[xlm];exact hlt2);have hC:bc<m.next:=by subst hbc;exact h2.lt
  rw[xlm]at y1 y2;subst y1;have p5:st.q0b[st.iP a.q1S]? = some p:=p3;have hp:st.q0b[st.iP a.q1S]=p:=by have p6:=p5;rw[xgq hlt2]at p6;simpa using p6
  have y6:=y4 2 2 (by omega);rw[xgm,hp]at y6;simp only[ge,q1b.cells,q0q.cells,List.drop_succ_cons,List.drop_zero,List.take_succ_cons,List.take_zero]at x5 x6 y6;have ft:=j6L (H:=H22) rfl h w g2 hx s;obtain⟨fe,hfe⟩:∃fe,fe=q1W p x s:=⟨_,rfl⟩;simp only[<-hfe,q0u,ne_eq,not_true_eq_false,if_false]at ft⊢;by_cases f0:fe=0
  ·subst f0;rw[if_neg (by simp)];have ad:=fun m=>q5T (H:=H22) rfl (w.oka a ma).1 hx m
   have su:=fun m=>q5X (H:=H22) rfl (w.okp p mp).2.2.1 hx m
   simp only[Wd.cells]at ad su;have c1:=q1O (n:=p.out.val-x.val);have c2:=q1O (n:=a.bal.val+x.val);unfold q2B;cases e1:q0Q (a.bal.val+x.val) with
   |false=>
    rw[e1]at c2;rw[Bool.and_false,if_neg (by simp)];simp (maxDischargeDepth:=20) only [z06 (H:=H22) rfl,T.f29,q0K,q0a,wp,AV.one,AV.cells,lcl,ga,frl,Fr.refl,df (show ¬((st.iA id:Nat):Int)<0 by omega)];simp (maxDischargeDepth:=20) only [q68 (H:=H22),T.j1p,p1,q1,nnA,q0a,Nat.reduceAdd,q0e,Nat.reduceLeDiff,lcl,q1d hb,a3,true_or,x2,q1d hB,x5,ft,frl,Fr.refl,decide_true,xbt]
    simp (maxDischargeDepth:=20) only [q9L (H:=H22),T.j4y,p1,q1,pB,nnA,q0d,q0a,ifV,Nat.reduceAdd,q0F,AV.one,over,AV.cells,Nat.reduceLeDiff,lcl,q1d hb,q3k hb,a3,true_or,x2,q1d hB,x5,x6,gp,frl,Fr.refl,y2,q1d hC,q3k hC,y6,ad,su,c2,xbf];refine done _ ?_ _
    (repeat apply Fr.lays)
    exact Fr.refl _
   |true=>
    rw[e1]at c2;cases e2:q0Q (p.out.val-x.val) with
    |false=>
     rw[e2]at c1;rw[Bool.false_and,if_neg (by simp)];simp (maxDischargeDepth:=20) only [z06 (H:=H22) rfl,T.f29,q0K,q0a,wp,AV.one,AV.cells,lcl,ga,frl,Fr.refl,df (show ¬((st.iA id:Nat):Int)<0 by omega)];simp (maxDischargeDepth:=20) only [q68 (H:=H22),T.j1p,p1,q1,nnA,q0a,Nat.reduceAdd,q0e,Nat.reduceLeDiff,lcl,q1d hb,a3,true_or,x2,q1d hB,x5,ft,frl,Fr.refl,decide_true,xbt]
     simp (maxDischargeDepth:=20) only [q9L (H:=H22),T.j4y,p1,q1,pB,nnA,q0d,q0a,ifV,Nat.reduceAdd,q0F,AV.one,over,AV.cells,Nat.reduceLeDiff,lcl,q1d hb,q3k hb,a3,true_or,x2,q1d hB,x5,x6,gp,frl,Fr.refl,y2,q1d hC,q3k hC,y6,ad,su,c1,c2,xbf,xbt];refine done _ ?_ _
     (repeat apply Fr.lays)
     exact Fr.refl _
    |true=>
     rw[e2]at c1;rw[Bool.and_self,if_pos rfl];rw[q1a e1]at ad;rw[q1a e2]at su;obtain⟨ny,hny⟩:∃ny,ny=Wd.of (a.bal.val+x.val):=⟨_,rfl⟩;obtain⟨nx,hnx⟩:∃nx,nx=Wd.of (p.out.val-x.val):=⟨_,rfl⟩;rw[<-hny]at ad⊢;rw[<-hnx]at su⊢;obtain⟨M3,hM3⟩:∃M3,M3=((m.lay (.cells (q0u x s) false)).lay (.cells ny.cells false)).lay (.cells nx.cells false):=⟨_,rfl⟩;have f3:Fr m M3 []:=by rw[hM3];(repeat apply Fr.lays);exact Fr.refl _
     have hb3:=f3.get h1 (by simp);have z1:M3.get (m.next+1)=some (.cells ny.cells false):=by rw[hM3];simp[Mem.q0B]
     have z2:M3.get (m.next+1+1)=some (.cells nx.cells false):=by rw[hM3];simp[Mem.q0B]
     obtain⟨bb',m4,s1,s2,s3,s4,s5,s6⟩:=(h.q0h f3).stA hb3 (a:=a) (by rw[hid];exact q5) ny;cases s1;have hb4:=s6.trans hb3;obtain⟨bc',m5,t1,t2,t3,t4,t5,t6⟩:=s3.stP hb4 (a:=p) (by rw[hpn];exact p5) nx;cases t1;rw[hid]at s2;have t2':stV m4 (.ptr (some ⟨bc,st.iP a.q1S*4+2⟩)) (.agg nx.cells) 2=some m5:=by rw[<-hpn];exact t2
     have n3:m.next<=M3.next:=f3.next
     have z4:=s4.get z2 (fun hc=>by have:=hF _ hc;omega)
     have a33:∀i:Nat,ld1 M3 (.ptr (some ⟨b,i⟩))=[.sl (some ⟨bc,0⟩) 4 st.q0b.length st.q0b.length false,sq,.sl (some ⟨bb,0⟩) 4 st.q0p.length st.q0p.length false,.int .u64 st.latest,.int .i64 st.most][i]?:=fun i=>q0g hb3
     have a34:∀i:Nat,ld1 m4 (.ptr (some ⟨b,i⟩))=[.sl (some ⟨bc,0⟩) 4 st.q0b.length st.q0b.length false,sq,.sl (some ⟨bb,0⟩) 4 st.q0p.length st.q0p.length false,.int .u64 st.latest,.int .i64 st.most][i]?:=fun i=>q0g hb4
     have l1:ldN M3 (.ptr (some ⟨m.next+1,0⟩)) 2=some (.agg ny.cells):=q0A z1 rfl
     have l2:ldN m4 (.ptr (some ⟨m.next+1+1,0⟩)) 2=some (.agg nx.cells):=q0A z4 rfl
     refine⟨m5,?_,t3,((f3.any F).step s4 (fun c hc=>.inl hc)).step t4 (fun c hc=>.inl hc)⟩
     simp only[q0u,Wd.cells]at hM3 l1 l2 s2 t2';simp (maxDischargeDepth:=20) only [z06 (H:=H22) rfl,T.f29,q0K,q0a,wp,AV.one,AV.cells,lcl,ga,frl,Fr.refl,df (show ¬((st.iA id:Nat):Int)<0 by omega)];simp (maxDischargeDepth:=20) only [q68 (H:=H22),T.j1p,p1,q1,nnA,q0a,Nat.reduceAdd,q0e,Nat.reduceLeDiff,lcl,q1d hb,a3,true_or,x2,q1d hB,x5,ft,frl,Fr.refl,decide_true,xbt]
     simp (maxDischargeDepth:=20) only [q9L (H:=H22),T.j4y,p1,q1,pB,nnA,q0d,q0a,ifV,Nat.reduceAdd,q0F,AV.one,over,AV.cells,Nat.reduceLeDiff,lcl,q1d hb,q3k hb,a3,true_or,x2,q1d hB,x5,x6,gp,frl,Fr.refl,y2,q1d hC,q3k hC,y6,ad,su,decide_true,xbt,<-hM3];simp only[j4z (H:=H22),T.a7N,p1,q1,nnA,q0e,a33,l1,true_or,if_true,x2,s2,a34,l2,y2,t2']
  ·rw[if_pos f0];simp (maxDischargeDepth:=20) only [z06 (H:=H22) rfl,T.f29,q0K,q0a,wp,AV.one,AV.cells,lcl,ga,frl,Fr.refl,df (show ¬((st.iA id:Nat):Int)<0 by omega)];simp (maxDischargeDepth:=20) only [q68 (H:=H22),T.j1p,p1,q1,nnA,q0a,Nat.reduceAdd,q0e,Nat.reduceLeDiff,lcl,q1d hb,a3,true_or,x2,q1d hB,x5,ft,frl,Fr.refl,df f0,xbf]
   exact done _ ((Fr.refl m).lay _) _
end
end
section
set_option maxRecDepth 4000
open Go Go.Abs
section
variable {m:Mem} {b:Nat} {st:LSt} {F:List Nat}
theorem q6M (h:q0L m b st F) (w:LWf st) (id:Int) {x:Wd} (hx:x.ok) (s:Int) :
  ∃m',run E22 (.fn 31) [.ptr (some ⟨b,0⟩),.int .u64 id,.agg (q0u x s)] m=some (.int .i64 (q1y st id x s).1,m')/\q0L m' b (q1y st id x s).2 F/\Fr m m' F:=by
 have ga:=z3R (H:=H22) rfl h (by have:=w.la;omega) id;have gpp:=fun k=>q6X (H:=H22) rfl h (by have:=w.lp;omega) k
 have hF:=h.lt;obtain⟨sp,sq,sa,rp,rq,ra,h1,h2,h3,h4,h5⟩:=h.ex;have hb:=Mem.q0x h1;have a3:∀i:Nat,ld1 m (.ptr (some ⟨b,i⟩))=[sp,sq,sa,.int .u64 st.latest,.int .i64 st.most][i]?:=fun i=>q0g h1
 have done:∀M,Fr m M []->∀v:AV,∃m',some (v,M)=some (v,m')/\q0L m' b st F/\Fr m m' F:=fun M hM v=>⟨M,rfl,h.q0h hM,hM.any F⟩
 unfold q1y;rcases LSt.q1f w id with ⟨e,hn⟩|⟨a,p,e,g1,g2,hid,hka,hpn,hkp,ma,mp⟩
 ·have hk:q0O q0m id (st.q0p.map (·.id))=false:=by
   cases hk:q0O q0m id (st.q0p.map (·.id)) with
   |false=>rfl
   |true=>obtain⟨a,a1,_⟩:=LSt.q1D hk;rw[hn]at a1;cases a1
  rw[z2l w hk]at ga;rw[e];simp only[ne_eq,show ¬(40:Int)=0 by omega,not_false_eq_true,if_true,q0u];simp (maxDischargeDepth:=20) only [z07 (H:=H22) rfl,T.f31,p2,q0K,q0a,wp,AV.one,AV.cells,lcl,ga,frl,Fr.refl,dt (show (-1:Int)<0 by omega)];exact done _ ((Fr.refl m).lay _) _
 ·rw[z3X w hka]at ga;rw[e];obtain⟨a',q1,q2,q3,q4⟩:=LSt.q1D hka;rw[g1]at q1;cases q1;have hlt:st.iA id<st.q0p.length:=(xgi.1 q3).1;obtain⟨bb,hbb,x1,x2,x3,x4⟩:=h4.fld (i:=st.iA id) (by rw[xlm];exact hlt);have hB:bb<m.next:=by subst hbb;exact h4.lt
  rw[xlm]at x1 x2;subst x1;have q5:st.q0p[st.iA id]? = some a:=q3;have ha:st.q0p[st.iA id]=a:=by have q6:=q5;rw[xgq hlt]at q6;simpa using q6
  have x5:=x3 1 (by omega);have x6:=x4 2 2 (by omega);rw[xgm,ha]at x5 x6;have hkp':=hkp;rw[hpn]at hkp;have gp:=gpp a.q1S;rw[q6W w hkp]at gp;obtain⟨p',p1,p2,p3,p4⟩:=LSt.q1p hkp;rw[g2]at p1;cases p1;have hlt2:st.iP a.q1S<st.q0b.length:=(xgi.1 p3).1;obtain⟨bc,hbc,y1,y2,y3,y4⟩:=h2.fld (i:=st.iP a.q1S) (by rw[xlm];exact hlt2);have hC:bc<m.next:=by subst hbc;exact h2.lt
  rw[xlm]at y1 y2;subst y1;have p5:st.q0b[st.iP a.q1S]? = some p:=p3;have hp:st.q0b[st.iP a.q1S]=p:=by have p6:=p5;rw[xgq hlt2]at p6;simpa using p6
  have y6:=y4 2 2 (by omega);rw[xgm,hp]at y6;simp only[ge,q1b.cells,q0q.cells,List.drop_succ_cons,List.drop_zero,List.take_succ_cons,List.take_zero]at x5 x6 y6;have ft:=j6L (H:=H22) rfl h w g2 hx s;obtain⟨fe,hfe⟩:∃fe,fe=q1W p x s:=⟨_,rfl⟩;simp only[<-hfe,q0u,ne_eq,not_true_eq_false,if_false]at ft⊢;by_cases f0:fe=0
  ·subst f0;rw[if_neg (by simp)];have po:=fun m=>z0t (H:=H22) rfl (w.oka a ma).1 hx m
   have hsl:=z6M (a.bal.val-x.val);simp only[Wd.cells]at po;have xpos:0<x.val:=by
    have h1:=hfe;unfold q1W at h1;split at h1
    ·omega
    ·split at h1<;>omega
   by_cases hpr:a.bal.val<x.val
   ·rw[if_pos hpr];rw[dt (show a.bal.val-x.val<0 by omega)]at hsl;simp (maxDischargeDepth:=20) only [z07 (H:=H22) rfl,T.f31,q0K,q0a,wp,AV.one,AV.cells,lcl,ga,frl,Fr.refl,df (show ¬((st.iA id:Nat):Int)<0 by omega)];simp (maxDischargeDepth:=20) only [q69 (H:=H22),T.j1q,p1,q1,nnA,q0a,Nat.reduceAdd,q0e,Nat.reduceLeDiff,lcl,q1d hb,a3,true_or,x2,q1d hB,x5,ft,frl,Fr.refl,decide_true,xbt]
    simp (maxDischargeDepth:=20) only [q9M (H:=H22),T.j4A,p1,q1,nnA,q0a,Nat.reduceAdd,q0e,Nat.reduceLeDiff,lcl,q1d hb,a3,true_or,x2,q1d hB,x5,x6,gp,frl,Fr.refl,po,hsl];exact done _ ((Fr.refl m).lay _) _
   ·rw[if_neg hpr];rw[df (show ¬a.bal.val-x.val<0 by omega)]at hsl;have su:=fun m=>q5X (H:=H22) rfl (w.oka a ma).1 hx m
    have ad:=fun m=>q5T (H:=H22) rfl (w.okp p mp).2.2.1 hx m
    have e1:q0Q (a.bal.val-x.val)=true:=by
     have h1:=z4r (w.oka a ma).1;have h2:=Wd.q7t (w.oka a ma).1;unfold q0Q at h2⊢;simp only[Bool.and_eq_true,decide_eq_true_eq]at h2⊢;omega
    simp only[Wd.cells]at ad su;have c2:=q1O (n:=p.out.val+x.val);rw[q1a e1]at su;unfold q2B;rw[e1,Bool.true_and];obtain⟨nx,hnx⟩:∃nx,nx=Wd.of (a.bal.val-x.val):=⟨_,rfl⟩;rw[<-hnx]at su⊢;cases e2:q0Q (p.out.val+x.val) with
    |false=>
     rw[e2]at c2;rw[if_neg (by simp)];simp (maxDischargeDepth:=20) only [z07 (H:=H22) rfl,T.f31,q0K,q0a,wp,AV.one,AV.cells,lcl,ga,frl,Fr.refl,df (show ¬((st.iA id:Nat):Int)<0 by omega)];simp (maxDischargeDepth:=20) only [q69 (H:=H22),T.j1q,p1,q1,nnA,q0a,Nat.reduceAdd,q0e,Nat.reduceLeDiff,lcl,q1d hb,a3,true_or,x2,q1d hB,x5,ft,frl,Fr.refl,decide_true,xbt]
     simp (maxDischargeDepth:=20) only [q9M (H:=H22),T.j4A,p1,q1,nnA,q0a,Nat.reduceAdd,q0e,Nat.reduceLeDiff,lcl,q1d hb,a3,true_or,x2,q1d hB,x5,x6,gp,frl,Fr.refl,po,hsl];simp (maxDischargeDepth:=20) only [z5f (H:=H22),T.a02,p1,q1,pB,nnA,q0d,q0a,Nat.reduceAdd,q0F,AV.one,over,AV.cells,Nat.reduceLeDiff,lcl,q1d hb,q3k hb,a3,true_or,x2,q1d hB,x6,y2,q1d hC,q3k hC,y6,ad,su,c2,xbf]
     refine done _ ?_ _
     (repeat apply Fr.lays)
     exact Fr.refl _
    |true=>
     rw[if_pos rfl];rw[q1a e2]at ad;obtain⟨ny,hny⟩:∃ny,ny=Wd.of (p.out.val+x.val):=⟨_,rfl⟩;rw[<-hny]at ad⊢;obtain⟨M3,hM3⟩:∃M3,M3=((m.lay (.cells (q0u x s) false)).lay (.cells nx.cells false)).lay (.cells ny.cells false):=⟨_,rfl⟩;have f3:Fr m M3 []:=by rw[hM3];(repeat apply Fr.lays);exact Fr.refl _
     have hb3:=f3.get h1 (by simp);have z1:M3.get (m.next+1)=some (.cells nx.cells false):=by rw[hM3];simp[Mem.q0B]
     have z2:M3.get (m.next+1+1)=some (.cells ny.cells false):=by rw[hM3];simp[Mem.q0B]
     obtain⟨bb',m4,s1,s2,s3,s4,s5,s6⟩:=(h.q0h f3).stA hb3 (a:=a) (by rw[hid];exact q5) nx;cases s1;have hb4:=s6.trans hb3;obtain⟨bc',m5,t1,t2,t3,t4,t5,t6⟩:=s3.stP hb4 (a:=p) (by rw[hpn];exact p5) ny;cases t1;rw[hid]at s2;have t2':stV m4 (.ptr (some ⟨bc,st.iP a.q1S*4+2⟩)) (.agg ny.cells) 2=some m5:=by rw[<-hpn];exact t2
     have n3:m.next<=M3.next:=f3.next
     have z4:=s4.get z2 (fun hc=>by have:=hF _ hc;omega)
     have a33:∀i:Nat,ld1 M3 (.ptr (some ⟨b,i⟩))=[.sl (some ⟨bc,0⟩) 4 st.q0b.length st.q0b.length false,sq,.sl (some ⟨bb,0⟩) 4 st.q0p.length st.q0p.length false,.int .u64 st.latest,.int .i64 st.most][i]?:=fun i=>q0g hb3
     have a34:∀i:Nat,ld1 m4 (.ptr (some ⟨b,i⟩))=[.sl (some ⟨bc,0⟩) 4 st.q0b.length st.q0b.length false,sq,.sl (some ⟨bb,0⟩) 4 st.q0p.length st.q0p.length false,.int .u64 st.latest,.int .i64 st.most][i]?:=fun i=>q0g hb4
     have l1:ldN M3 (.ptr (some ⟨m.next+1,0⟩)) 2=some (.agg nx.cells):=q0A z1 rfl
     have l2:ldN m4 (.ptr (some ⟨m.next+1+1,0⟩)) 2=some (.agg ny.cells):=q0A z4 rfl
     refine⟨m5,?_,t3,((f3.any F).step s4 (fun c hc=>.inl hc)).step t4 (fun c hc=>.inl hc)⟩
     simp only[q0u,Wd.cells]at hM3 l1 l2 s2 t2';simp (maxDischargeDepth:=20) only [z07 (H:=H22) rfl,T.f31,q0K,q0a,wp,AV.one,AV.cells,lcl,ga,frl,Fr.refl,df (show ¬((st.iA id:Nat):Int)<0 by omega)];simp (maxDischargeDepth:=20) only [q69 (H:=H22),T.j1q,p1,q1,nnA,q0a,Nat.reduceAdd,q0e,Nat.reduceLeDiff,lcl,q1d hb,a3,true_or,x2,q1d hB,x5,ft,frl,Fr.refl,decide_true,xbt]
     simp (maxDischargeDepth:=20) only [q9M (H:=H22),T.j4A,p1,q1,nnA,q0a,Nat.reduceAdd,q0e,Nat.reduceLeDiff,lcl,q1d hb,a3,true_or,x2,q1d hB,x5,x6,gp,frl,Fr.refl,po,hsl];simp (maxDischargeDepth:=20) only [z5f (H:=H22),T.a02,p1,q1,pB,nnA,q0d,q0a,Nat.reduceAdd,q0F,AV.one,over,AV.cells,Nat.reduceLeDiff,lcl,q1d hb,q3k hb,a3,true_or,x2,q1d hB,x6,y2,q1d hC,q3k hC,y6,ad,su,decide_true,xbt,<-hM3]
     simp only[j4B (H:=H22),T.a7O,p1,q1,nnA,q0e,a33,l1,true_or,if_true,x2,s2,a34,l2,y2,t2']
  ·rw[if_pos f0];simp (maxDischargeDepth:=20) only [z07 (H:=H22) rfl,T.f31,q0K,q0a,wp,AV.one,AV.cells,lcl,ga,frl,Fr.refl,df (show ¬((st.iA id:Nat):Int)<0 by omega)];simp (maxDischargeDepth:=20) only [q69 (H:=H22),T.j1q,p1,q1,nnA,q0a,Nat.reduceAdd,q0e,Nat.reduceLeDiff,lcl,q1d hb,a3,true_or,x2,q1d hB,x5,ft,frl,Fr.refl,df f0,xbf]
   exact done _ ((Fr.refl m).lay _) _
end
end
section
set_option maxRecDepth 4000
open Go Go.Abs
section
variable {m:Mem} {b:Nat} {st:LSt} {F:List Nat}
theorem z6A {rb:Option Nat} {sa:AV} (h4:q03 4 m sa (st.q0p.map (·.cells)) rb) (w:LWf st) {id:Int} {a:q1b} (g1:st.q7U id=some a) (hka:q0O q0m id (st.q0p.map (·.id))=true) :
  ∃bb,sa=.sl (some ⟨bb,0⟩) 4 st.q0p.length st.q0p.length false/\bb<m.next/\ixA 4 st.q0p.length ⟨bb,0⟩ ((st.iA id:Nat):Int)=some (.ptr (some ⟨bb,st.iA id*4⟩))/\ld1 m (.ptr (some ⟨bb,st.iA id*4+1⟩))=some (.str a.q1S)/\
   ldN m (.ptr (some ⟨bb,st.iA id*4+2⟩)) 2=some (.agg [.int .i64 a.bal.hi,.int .u64 a.bal.lo])/\st.q0p[st.iA id]? = some a:=by
 obtain⟨a',q1,q2,q3,q4⟩:=LSt.q1D hka;rw[g1]at q1;cases q1;have hlt:st.iA id<st.q0p.length:=(xgi.1 q3).1;obtain⟨bb,hbb,x1,x2,x3,x4⟩:=h4.fld (i:=st.iA id) (by rw[xlm];exact hlt);have hB:bb<m.next:=by subst hbb;exact h4.lt
 rw[xlm]at x1 x2;have q5:st.q0p[st.iA id]? = some a:=q3;have ha:st.q0p[st.iA id]=a:=by have q6:=q5;rw[xgq hlt]at q6;simpa using q6
 have x5:=x3 1 (by omega);have x6:=x4 2 2 (by omega);rw[xgm,ha]at x5 x6;exact⟨bb,x1,hB,x2,x5,x6,q5⟩
theorem q6L (h:q0L m b st F) (w:LWf st) (i j:Int) {x:Wd} (hx:x.ok) (s:Int) :
  ∃m',run E22 (.fn 32) [.ptr (some ⟨b,0⟩),.int .u64 i,.int .u64 j,.agg (q0u x s)] m=some (.int .i64 (q1F st i j x s).1,m')/\q0L m' b (q1F st i j x s).2 F/\Fr m m' F:=by
 have gi:=z3R (H:=H22) rfl h (by have:=w.la;omega) i;have gj:=z3R (H:=H22) rfl h (by have:=w.la;omega) j;have hF:=h.lt;obtain⟨sp,sq,sa,rp,rq,ra,h1,h2,h3,h4,h5⟩:=h.ex;have hb:=Mem.q0x h1;have done:∀M,Fr m M []->∀v:AV,∃m',some (v,M)=some (v,m')/\q0L m' b st F/\Fr m m' F:=fun M hM v=>⟨M,rfl,h.q0h hM,hM.any F⟩
 have none_idx:∀id,st.q7U id=none->q4W (fun p:q1b=>decide (p.id=id)) st.q0p 0=-1:=by
  intro id hn;apply z2l w;cases hk:q0O q0m id (st.q0p.map (·.id)) with
  |false=>rfl
  |true=>obtain⟨a,a1,_⟩:=LSt.q1D hk;rw[hn]at a1;cases a1
 have cm:=dt (show (-1:Int)<0 by omega);rw[q6N];rcases LSt.q1f w i with ⟨e,hn⟩|⟨a,p,e,g1,g2,hid,hka,hpn,hkp,ma,mp⟩
 ·rw[none_idx i hn]at gi;rw[e];simp only[ne_eq,show ¬(40:Int)=0 by omega,not_false_eq_true,if_true,q0u];simp (maxDischargeDepth:=20) only [q6G (H:=H22) rfl,T.f32,p2,q0K,q0a,ifV,wp,AV.one,AV.cells,lcl,gi,gj,frl,Fr.refl,cm];exact done _ ((Fr.refl m).lay _) _
 ·rw[z3X w hka]at gi;have ci:=df (show ¬((st.iA i:Nat):Int)<0 by omega);rw[e];rcases LSt.q1f w j with ⟨e',hn⟩|⟨a',p',e',g1',g2',hid',hka',hpn',hkp',ma',mp'⟩
  ·rw[none_idx j hn]at gj;rw[e'];simp only[ne_eq,not_true_eq_false,if_false,show ¬(40:Int)=0 by omega,not_false_eq_true,if_true,q0u];simp (maxDischargeDepth:=20) only [q6G (H:=H22) rfl,T.f32,p2,q0K,q0a,ifV,wp,AV.one,AV.cells,lcl,gi,gj,frl,Fr.refl,ci,cm];exact done _ ((Fr.refl m).lay _) _
  ·rw[z3X w hka']at gj;have cj:=df (show ¬((st.iA j:Nat):Int)<0 by omega);rw[e'];obtain⟨bb,x1,hB,x2,x5,x6,q5⟩:=z6A h4 w g1 hka;obtain⟨bb',y1,_,y2,y5,y6,q5'⟩:=z6A h4 w g1' hka';subst x1;cases y1;have a3:∀i:Nat,ld1 m (.ptr (some ⟨b,i⟩))=[sp,sq,.sl (some ⟨bb,0⟩) 4 st.q0p.length st.q0p.length false,.int .u64 st.latest,.int .i64 st.most][i]?:=fun i=>q0g h1
   have hij:(i=j)=(((st.iA i:Nat):Int)=((st.iA j:Nat):Int)):=by
    apply propext;constructor
    ·rintro rfl;rfl
    ·intro he;have he':st.iA i=st.iA j:=by omega
     rw[he',q5']at q5;cases q5;rw[<-hid,<-hid']
   simp only[ne_eq,not_true_eq_false,if_false,q0u];by_cases h6:i=j
   ·rw[if_pos h6];have:=hij▸h6;simp (maxDischargeDepth:=20) only [q6G (H:=H22) rfl,T.f32,p2,q0K,q0a,ifV,wp,AV.one,AV.cells,lcl,gi,gj,frl,Fr.refl,ci,cj];simp only[q4w (H:=H22),T.z3l,p2,q0a,wp,dt this];exact done _ ((Fr.refl m).lay _) _
   ·rw[if_neg h6];have h7:¬((st.iA i:Nat):Int)=((st.iA j:Nat):Int):=by rw[<-hij];exact h6
    rw[hpn,hpn'];by_cases h8:a.q1S=a'.q1S
    ·rw[if_neg (by simp[h8])];have ft:=j6L (H:=H22) rfl h w g2 hx s;have po:=fun m=>z0t (H:=H22) rfl (w.oka a ma).1 hx m
     have hsl:=z6M (a.bal.val-x.val);unfold trT;obtain⟨fe,hfe⟩:∃fe,fe=q1W p x s:=⟨_,rfl⟩;simp only[<-hfe,q0u,Wd.cells]at ft po⊢;by_cases f0:fe=0
     ·subst f0;rw[if_neg (by simp)];have xpos:0<x.val:=by
       have h1:=hfe;unfold q1W at h1;split at h1
       ·omega
       ·split at h1<;>omega
      by_cases hpr:a.bal.val<x.val
      ·rw[if_pos hpr];rw[dt (show a.bal.val-x.val<0 by omega)]at hsl;simp (maxDischargeDepth:=20) only [q6G (H:=H22) rfl,T.f32,p2,q0K,q0a,ifV,wp,AV.one,AV.cells,lcl,gi,gj,frl,Fr.refl,ci,cj];simp only[q4w (H:=H22),T.z3l,p2,q0a,wp,df h7];simp (maxDischargeDepth:=20) only [q5E (H:=H22),T.z7u,p1,q1,p2,nnA,q0a,q0e,lcl,q1d hb,a3,true_or,x2,y2,q1d hB,x5,y5,dt h8,xbt]
       simp (maxDischargeDepth:=20) only [q7a (H:=H22),T.j1r,p1,q1,p2,nnA,q0a,Nat.reduceAdd,q0e,Nat.reduceLeDiff,lcl,q1d hb,a3,true_or,x2,q1d hB,x5,ft,frl,Fr.refl,decide_true,xbt];simp (maxDischargeDepth:=20) only [q9N (H:=H22),T.j4C,p1,q1,p2,nnA,q0a,Nat.reduceAdd,q0e,Nat.reduceLeDiff,lcl,q1d hb,a3,true_or,x2,q1d hB,x6,po,hsl]
       exact done _ ((Fr.refl m).lay _) _
      ·rw[if_neg hpr];rw[df (show ¬a.bal.val-x.val<0 by omega)]at hsl;have su:=fun m=>q5X (H:=H22) rfl (w.oka a ma).1 hx m
       have ad:=fun m=>q5T (H:=H22) rfl (w.oka a' ma').1 hx m
       have e1:q0Q (a.bal.val-x.val)=true:=by
        have h2:=Wd.q7t (w.oka a ma).1;unfold q0Q at h2⊢;simp only[Bool.and_eq_true,decide_eq_true_eq]at h2⊢;omega
       simp only[Wd.cells]at ad su;have c2:=q1O (n:=a'.bal.val+x.val);rw[q1a e1]at su;unfold q2B;rw[e1,Bool.true_and];obtain⟨nx,hnx⟩:∃nx,nx=Wd.of (a.bal.val-x.val):=⟨_,rfl⟩;rw[<-hnx]at su⊢;cases e2:q0Q (a'.bal.val+x.val) with
       |false=>
        rw[e2]at c2;rw[if_neg (by simp)];simp (maxDischargeDepth:=20) only [q6G (H:=H22) rfl,T.f32,p2,q0K,q0a,ifV,wp,AV.one,AV.cells,lcl,gi,gj,frl,Fr.refl,ci,cj];simp only[q4w (H:=H22),T.z3l,p2,q0a,wp,df h7];simp (maxDischargeDepth:=20) only [q5E (H:=H22),T.z7u,p1,q1,p2,nnA,q0a,q0e,lcl,q1d hb,a3,true_or,x2,y2,q1d hB,x5,y5,dt h8,xbt]
        simp (maxDischargeDepth:=20) only [q7a (H:=H22),T.j1r,p1,q1,p2,nnA,q0a,Nat.reduceAdd,q0e,Nat.reduceLeDiff,lcl,q1d hb,a3,true_or,x2,q1d hB,x5,ft,frl,Fr.refl,decide_true,xbt];simp (maxDischargeDepth:=20) only [q9N (H:=H22),T.j4C,p1,q1,p2,nnA,q0a,Nat.reduceAdd,q0e,Nat.reduceLeDiff,lcl,q1d hb,a3,true_or,x2,q1d hB,x6,po,hsl]
        simp (maxDischargeDepth:=20) only [z5g (H:=H22),T.a03,p1,q1,p2,pB,nnA,q0d,q0a,Nat.reduceAdd,q0F,AV.one,over,AV.cells,Nat.reduceLeDiff,lcl,q1d hb,q3k hb,a3,true_or,x2,y2,q1d hB,q3k hB,x6,y6,ad,su,c2,xbf];refine done _ ?_ _
        (repeat apply Fr.lays)
        exact Fr.refl _
       |true=>
        rw[if_pos rfl];rw[q1a e2]at ad;obtain⟨ny,hny⟩:∃ny,ny=Wd.of (a'.bal.val+x.val):=⟨_,rfl⟩;rw[<-hny]at ad⊢;obtain⟨M3,hM3⟩:∃M3,M3=((m.lay (.cells (q0u x s) false)).lay (.cells nx.cells false)).lay (.cells ny.cells false):=⟨_,rfl⟩;have f3:Fr m M3 []:=by rw[hM3];(repeat apply Fr.lays);exact Fr.refl _
        have hb3:=f3.get h1 (by simp);have z1:M3.get (m.next+1)=some (.cells nx.cells false):=by rw[hM3];simp[Mem.q0B]
        have z2:M3.get (m.next+1+1)=some (.cells ny.cells false):=by rw[hM3];simp[Mem.q0B]
        obtain⟨b1,m4,s1,s2,s3,s4,s5,s6⟩:=(h.q0h f3).stA hb3 (a:=a) (by rw[hid];exact q5) nx;cases s1;have hb4:=s6.trans hb3;have ids:=LSt.q3d (st:=st) (a:={a with bal:=nx}) (by show q0O q0m a.id _=true;rw[hid];exact hka)
        have hi2:(st.q14 {a with bal:=nx}).iA a'.id=st.iA j:=by unfold LSt.iA;rw[ids,hid']
        have hl2:(st.q14 {a with bal:=nx}).q0p.length=st.q0p.length:=List.length_set ..
        obtain⟨b2,m5,t1,t2,t3,t4,t5,t6⟩:=s3.stA hb4 (a:=a') (by
         rw[hi2];show (st.q0p.set (st.iA a.id) _)[st.iA j]? = some a';rw[hid,List.getElem?_set_ne (by omega)];exact q5') ny
        rw[hl2]at t1;cases t1;rw[hid]at s2;rw[hi2]at t2;have n3:m.next<=M3.next:=f3.next
        have z4:=s4.get z2 (fun hc=>by have:=hF _ hc;omega)
        have a33:∀i:Nat,ld1 M3 (.ptr (some ⟨b,i⟩))=[sp,sq,.sl (some ⟨bb,0⟩) 4 st.q0p.length st.q0p.length false,.int .u64 st.latest,.int .i64 st.most][i]?:=fun i=>q0g hb3
        have a34:∀i:Nat,ld1 m4 (.ptr (some ⟨b,i⟩))=[sp,sq,.sl (some ⟨bb,0⟩) 4 st.q0p.length st.q0p.length false,.int .u64 st.latest,.int .i64 st.most][i]?:=fun i=>q0g hb4
        have l1:ldN M3 (.ptr (some ⟨m.next+1,0⟩)) 2=some (.agg nx.cells):=q0A z1 rfl
        have l2:ldN m4 (.ptr (some ⟨m.next+1+1,0⟩)) 2=some (.agg ny.cells):=q0A z4 rfl
        refine⟨m5,?_,t3,((f3.any F).step s4 (fun c hc=>.inl hc)).step t4 (fun c hc=>.inl hc)⟩
        simp only[q0u,Wd.cells]at hM3 l1 l2 s2 t2;simp (maxDischargeDepth:=20) only [q6G (H:=H22) rfl,T.f32,p2,q0K,q0a,ifV,wp,AV.one,AV.cells,lcl,gi,gj,frl,Fr.refl,ci,cj];simp only[q4w (H:=H22),T.z3l,p2,q0a,wp,df h7];simp (maxDischargeDepth:=20) only [q5E (H:=H22),T.z7u,p1,q1,p2,nnA,q0a,q0e,lcl,q1d hb,a3,true_or,x2,y2,q1d hB,x5,y5,dt h8,xbt]
        simp (maxDischargeDepth:=20) only [q7a (H:=H22),T.j1r,p1,q1,p2,nnA,q0a,Nat.reduceAdd,q0e,Nat.reduceLeDiff,lcl,q1d hb,a3,true_or,x2,q1d hB,x5,ft,frl,Fr.refl,decide_true,xbt];simp (maxDischargeDepth:=20) only [q9N (H:=H22),T.j4C,p1,q1,p2,nnA,q0a,Nat.reduceAdd,q0e,Nat.reduceLeDiff,lcl,q1d hb,a3,true_or,x2,q1d hB,x6,po,hsl]
        simp (maxDischargeDepth:=20) only [z5g (H:=H22),T.a03,p1,q1,p2,pB,nnA,q0d,q0a,Nat.reduceAdd,q0F,AV.one,over,AV.cells,Nat.reduceLeDiff,lcl,q1d hb,q3k hb,a3,true_or,x2,y2,q1d hB,q3k hB,x6,y6,ad,su,decide_true,xbt,<-hM3];simp only[j4D (H:=H22),T.a7P,p1,q1,p2,nnA,q0e,a33,l1,true_or,if_true,x2,s2,a34,l2,y2,t2]
     ·rw[if_pos f0];simp (maxDischargeDepth:=20) only [q6G (H:=H22) rfl,T.f32,p2,q0K,q0a,ifV,wp,AV.one,AV.cells,lcl,gi,gj,frl,Fr.refl,ci,cj];simp only[q4w (H:=H22),T.z3l,p2,q0a,wp,df h7];simp (maxDischargeDepth:=20) only [q5E (H:=H22),T.z7u,p1,q1,p2,nnA,q0a,q0e,lcl,q1d hb,a3,true_or,x2,y2,q1d hB,x5,y5,dt h8,xbt]
      simp (maxDischargeDepth:=20) only [q7a (H:=H22),T.j1r,p1,q1,p2,nnA,q0a,Nat.reduceAdd,q0e,Nat.reduceLeDiff,lcl,q1d hb,a3,true_or,x2,q1d hB,x5,ft,frl,Fr.refl,df f0,xbf];exact done _ ((Fr.refl m).lay _) _
    ·rw[if_pos h8];simp (maxDischargeDepth:=20) only [q6G (H:=H22) rfl,T.f32,p2,q0K,q0a,ifV,wp,AV.one,AV.cells,lcl,gi,gj,frl,Fr.refl,ci,cj];simp only[q4w (H:=H22),T.z3l,p2,q0a,wp,df h7];simp (maxDischargeDepth:=20) only [q5E (H:=H22),T.z7u,p1,q1,p2,nnA,q0a,q0e,lcl,q1d hb,a3,true_or,x2,y2,q1d hB,x5,y5,df h8,xbf]
     exact done _ ((Fr.refl m).lay _) _
end
end
section
set_option maxRecDepth 4000
open Go Go.Abs
theorem q8W {α:Type} {p q:α->Bool}:∀{l:List α} {i:Nat},(∀x∈l,p x=q x)->q4W p l i=q4W q l i
 |[],_,_=>rfl
 |x::l,i,h=>by
  unfold q4W;rw[h x xmc,q8W fun y hy=>h y (List.mem_cons_of_mem _ hy)]
section
variable {m:Mem} {b:Nat} {st:LSt} {F:List Nat}
theorem a3O (w:LWf st) {x y:List UInt8} (hx:(st.q2o x).isSome=true) (hy:(st.q2o y).isSome=true):q4W (fun p=>decide (p.x=x)&&decide (p.y=y)) st.pairs 0=if q0O q0c (x++y) (st.pairs.map (·.key))=true then ((st.iQ (x++y):Nat):Int) else -1:=by
 have lx:=q1j w hx;have e:q4W (fun p:q0N=>decide (p.x=x)&&decide (p.y=y)) st.pairs 0=q4W (fun p:q0N=>decide (p.key=x++y)) st.pairs 0:=by
  apply q8W;intro q hq;have l1:=q1j w (w.okq q hq).2.2.2.2.1;rw[<-Bool.decide_and];apply decide_eq_decide.mpr;unfold q0N.key;constructor
  ·rintro⟨h1,h2⟩;rw[h1,h2]
  ·intro h;exact List.append_inj h (by omega)
 rw[e,q4C (lt:=q0c) (fun p:q0N=>p.key) (x++y) q1g st.pairs 0 w.sq,xnz]
 rfl
theorem z3U (h:q0L m b st F) (w:LWf st) (x y:List UInt8) :
  Res m (run E22 (.fn 67) [.ptr (some ⟨b,0⟩),.str x,.str y] m) (.tup [.agg (q0u (q0T st x y).1 (q0T st x y).2.1),.int .i64 (q0T st x y).2.2]):=by
 have gx:=q6X (H:=H22) rfl h (by have:=w.lp;omega) x;have gy:=q6X (H:=H22) rfl h (by have:=w.lp;omega) y;have gq:=a3U (H:=H22) rfl h (by have:=w.lq;omega) x y;obtain⟨sp,sq,sa,rp,rq,ra,h1,h2,h3,h4,h5⟩:=h.ex;have hb:=Mem.q0x h1;have a3:∀i:Nat,ld1 m (.ptr (some ⟨b,i⟩))=[sp,sq,sa,.int .u64 st.latest,.int .i64 st.most][i]?:=fun i=>q0g h1
 have cm:=dt (show (-1:Int)<0 by omega);unfold q0T;cases hx:q0O q0c x (st.q0b.map (·.name)) with
 |false=>
  rw[q8c w hx]at gx;rw[LSt.q1K hx];simp (maxDischargeDepth:=20) only [z4E (H:=H22) rfl,T.f67,pB,p2,p1,q0o,AV.cells,Nat.reduceAdd,Nat.reduceLeDiff,q0a,ifV,q0H,q0I,q0w,AV.one,over,lcl,gx,frl,Fr.refl,cm];refine Res.eq ?_ (by simp[q0u])
  (repeat apply Fr.lays)
  exact Fr.refl _
 |true=>
  obtain⟨p,p1,p2,p3,p4⟩:=LSt.q1p hx;rw[q6W w hx]at gx;have cx:=df (show ¬((st.iP x:Nat):Int)<0 by omega);rw[p1];cases hy:q0O q0c y (st.q0b.map (·.name)) with
  |false=>
   rw[q8c w hy]at gy;rw[LSt.q1K hy];simp (maxDischargeDepth:=20) only [z4E (H:=H22) rfl,T.f67,pB,q0o,AV.cells,Nat.reduceAdd,Nat.reduceLeDiff,q0a,ifV,q0H,q0I,q0w,AV.one,over,lcl,gx,gy,frl,Fr.refl,cm,cx];refine Res.eq ?_ (by simp[q0u])
   (repeat apply Fr.lays)
   exact Fr.refl _
  |true=>
   obtain⟨p',p1',_⟩:=LSt.q1p hy;rw[q6W w hy]at gy;have cy:=df (show ¬((st.iP y:Nat):Int)<0 by omega);rw[a3O w (by rw[p1];rfl) (by rw[p1'];rfl)]at gq;rw[p1'];cases hq:q0O q0c (x++y) (st.pairs.map (·.key)) with
   |false=>
    rw[if_neg (by rw[hq];decide)]at gq;rw[LSt.q3o hq];simp (maxDischargeDepth:=20) only [z4E (H:=H22) rfl,T.f67,pB,q0o,q0a,ifV,q0H,q0I,q0w,lcl,gx,gy,frl,Fr.refl,cx,cy];simp (maxDischargeDepth:=20) only [z5P (H:=H22),T.a1s,q0o,AV.cells,Nat.reduceAdd,Nat.reduceLeDiff,q0a,q0H,q0I,q0w,AV.one,over,lcl,gq,frl,Fr.refl,cm]
    refine Res.eq ?_ (by simp[q0u])
    (repeat apply Fr.lays)
    exact Fr.refl _
   |true=>
    rw[if_pos hq]at gq;obtain⟨q,q1,q2,q3,q4⟩:=LSt.q2V hq;rw[q1];have cq:=df (show ¬((st.iQ (x++y):Nat):Int)<0 by omega);have hlt:st.iP x<st.q0b.length:=(xgi.1 p3).1;obtain⟨bc,hbc,y1,y2,y3,y4⟩:=h2.fld (i:=st.iP x) (by rw[xlm];exact hlt);have hC:bc<m.next:=by subst hbc;exact h2.lt
    rw[xlm]at y1 y2;subst y1;have hp:st.q0b[st.iP x]=p:=by have p5:st.q0b[st.iP x]? = some p:=p3;rw[xgq hlt]at p5;simpa using p5
    have y5:=y3 1 (by omega);rw[xgm,hp]at y5;have hlq:st.iQ (x++y)<st.pairs.length:=(xgi.1 q3).1;obtain⟨bd,hbd,z1,z2,z3,z4⟩:=h3.fld (i:=st.iQ (x++y)) (by rw[xlm];exact hlq);have hD:bd<m.next:=by subst hbd;exact h3.lt
    rw[xlm]at z1 z2;subst z1;have hqq:st.pairs[st.iQ (x++y)]=q:=by have q5:st.pairs[st.iQ (x++y)]? = some q:=q3;rw[xgq hlq]at q5;simpa using q5
    have z6:=z4 5 2 (by omega);rw[xgm,hqq]at z6;simp only[ge,q0q.cells,q0N.cells,List.drop_succ_cons,List.drop_zero,List.take_succ_cons,List.take_zero]at y5 z6;simp (maxDischargeDepth:=20) only [z4E (H:=H22) rfl,T.f67,pB,q0o,q0a,ifV,q0H,q0I,q0w,lcl,gx,gy,frl,Fr.refl,cx,cy];simp (maxDischargeDepth:=20) only [z5P (H:=H22),T.a1s,q0o,AV.cells,Nat.reduceAdd,Nat.reduceLeDiff,q0a,q0H,q0I,q0w,AV.one,over,lcl,gq,frl,Fr.refl,cq]
    simp (maxDischargeDepth:=20) only [j5l (H:=H22),T.a8o,q0o,AV.cells,Nat.reduceAdd,Nat.reduceLeDiff,nnA,q0H,q0I,q0E,AV.one,over,lcl,q1d hb,a3,true_or,z2,q1d hD,z6,gx,frl,Fr.refl,y2,q1d hC,y5];refine Res.eq ?_ (by simp[q0u])
    (repeat apply Fr.lays)
    exact Fr.refl _
end
end
section
set_option maxRecDepth 4000
open Go Go.Abs
theorem j2G {w v:Wd} (hw:w.ok) (hv:v.ok) (s t n:Int) (m:Mem):Res m (run E22 (.fn 77) [.agg (q0u w s),.agg (q0u v t),.int .i64 n] m) (q5l w s v t n):=by
 have dr:=fun m=>q4I (H:=H22) rfl w s m
 have rr:=fun m=>z6G (H:=H22) rfl hv t m
 unfold q5l;by_cases h:0<=s/\s<=18
 ·rw[dt h]at dr;by_cases hn:0<=n/\n<=18
  ·rw[if_pos ⟨h,hn⟩];have cn0:=df (show ¬n<0 by omega);have cn1:=df (show ¬(18:Int)<n by omega);by_cases h2:0<w.val
   ·rw[if_pos h2];have e1:¬w.hi<0:=by
     obtain⟨x1,x2,x3,x4⟩:=hw;unfold Wd.val at h2;omega
    have e2:(decide (w.hi=0)&&decide (w.lo=0))=false:=by
     rw[<-Bool.decide_and];apply df;rintro⟨y1,y2⟩
     unfold Wd.val at h2;omega
    by_cases h3:q2Z v t=0
    ·rw[if_pos h3];have hr:=q6q h3;have dm:=fun m=>z8g (H:=H22) rfl hw hv h hr.1 hn m
     obtain⟨N,hN⟩:∃N,N=z3J w.val v.val (s+t-n):=⟨_,rfl⟩;rw[<-hN]at dm⊢;clear hN;unfold q2A at dm⊢;simp only[q0u]at dr rr;simp only[q7J (H:=H22) rfl,T.f77,pB,q1,p1,p2,q0o,AV.cells,Nat.reduceAdd,Nat.reduceLeDiff,q0K,q0a,ifV,unA,q0H,q0I,q0w,AV.one,over,lcl,q0u,dr,xbt,cn0,cn1];simp only[q7i (H:=H22),T.j1C,p1,q1,p2,q0o,AV.cells,Nat.reduceAdd,Nat.reduceLeDiff,q0a,ifV,q0H,q0I,q0E,AV.one,over,lcl,df e1,q2M,e2]
     simp only[z5U (H:=H22),T.a1z,q1,p2,p1,q0o,AV.cells,Nat.reduceAdd,Nat.reduceLeDiff,q0a,q0H,q0I,q0w,AV.one,over,lcl,rr,h3,decide_true,xbt];simp only[q0u]at dm;cases hf:q0Q N with
     |true=>
      simp only[hf,if_true]at dm;simp only[z5V (H:=H22),T.a1A,q1,p1,q0d,q0H,q0I,q02,AV.one,over,AV.cells,Nat.reduceAdd,Nat.reduceLeDiff,lcl,dm];refine Res.eq ?_ rfl
      (repeat apply Fr.lays)
      exact Fr.refl _
     |false=>
      simp only[hf,xbq,if_false]at dm;simp only[z5V (H:=H22),T.a1A,q1,p1,q0d,q0H,q0I,q02,AV.one,over,AV.cells,Nat.reduceAdd,Nat.reduceLeDiff,lcl,dm,xbq];refine Res.eq ?_ rfl
      (repeat apply Fr.lays)
      exact Fr.refl _
    ·rw[if_neg h3];simp only[q0u]at dr rr;simp only[q7J (H:=H22) rfl,T.f77,pB,q1,p1,p2,q0o,AV.cells,Nat.reduceAdd,Nat.reduceLeDiff,q0K,q0a,ifV,unA,q0H,q0I,q0w,AV.one,over,lcl,q0u,dr,xbt,cn0,cn1];simp only[q7i (H:=H22),T.j1C,p1,q1,p2,q0o,AV.cells,Nat.reduceAdd,Nat.reduceLeDiff,q0a,ifV,q0H,q0I,q0E,AV.one,over,lcl,df e1,q2M,e2];simp only[z5U (H:=H22),T.a1z,q1,p2,p1,q0o,AV.cells,Nat.reduceAdd,Nat.reduceLeDiff,q0a,q0H,q0I,q0w,AV.one,over,lcl,rr,df h3,xbf]
     refine Res.eq ?_ rfl
     (repeat apply Fr.lays)
     exact Fr.refl _
   ·rw[if_neg h2];simp only[q0u]at dr;by_cases g1:w.hi<0
    ·simp only[q7J (H:=H22) rfl,T.f77,pB,q1,p1,p2,q0o,AV.cells,Nat.reduceAdd,Nat.reduceLeDiff,q0K,q0a,ifV,unA,q0H,q0I,q0w,AV.one,over,lcl,q0u,dr,xbt,cn0,cn1];simp only[q7i (H:=H22),T.j1C,p1,q1,p2,q0o,AV.cells,Nat.reduceAdd,Nat.reduceLeDiff,q0a,ifV,q0H,q0I,q0E,AV.one,over,lcl,dt g1];refine Res.eq ?_ rfl
     (repeat apply Fr.lays)
     exact Fr.refl _
    ·have g2:w.hi=0/\w.lo=0:=by
      obtain⟨x1,x2,x3,x4⟩:=hw;unfold Wd.val at h2;omega
     simp only[q7J (H:=H22) rfl,T.f77,pB,q1,p1,p2,q0o,AV.cells,Nat.reduceAdd,Nat.reduceLeDiff,q0K,q0a,ifV,unA,q0H,q0I,q0w,AV.one,over,lcl,q0u,dr,xbt,cn0,cn1];simp only[q7i (H:=H22),T.j1C,p1,q1,p2,q0o,AV.cells,Nat.reduceAdd,Nat.reduceLeDiff,q0a,ifV,q0H,q0I,q0E,AV.one,over,lcl,df g1,q2M,dt g2.1,dt g2.2];refine Res.eq ?_ rfl
     (repeat apply Fr.lays)
     exact Fr.refl _
  ·rw[if_neg (by omega)];simp only[q0u]at dr;by_cases h4:n<0
   ·simp only[q7J (H:=H22) rfl,T.f77,pB,q1,p1,p2,q0o,AV.cells,Nat.reduceAdd,Nat.reduceLeDiff,q0K,q0a,ifV,unA,q0H,q0I,q0w,AV.one,over,lcl,q0u,dr,xbt,dt h4];refine Res.eq ?_ rfl
    (repeat apply Fr.lays)
    exact Fr.refl _
   ·simp only[q7J (H:=H22) rfl,T.f77,pB,q1,p1,p2,q0o,AV.cells,Nat.reduceAdd,Nat.reduceLeDiff,q0K,q0a,ifV,unA,q0H,q0I,q0w,AV.one,over,lcl,q0u,dr,xbt,df h4,dt (show (18:Int)<n by omega)];refine Res.eq ?_ rfl
    (repeat apply Fr.lays)
    exact Fr.refl _
 ·rw[if_neg (by omega)];rw[df h]at dr;simp only[q0u]at dr;simp only[q7J (H:=H22) rfl,T.f77,pB,q1,p1,p2,q0o,AV.cells,Nat.reduceAdd,Nat.reduceLeDiff,q0K,q0a,ifV,unA,q0H,q0I,q0w,AV.one,over,lcl,q0u,dr,xbf];refine Res.eq ?_ rfl
  (repeat apply Fr.lays)
  exact Fr.refl _
end
end Go.Proofs.YtlginbmjiecglaaGreatDoor
namespace Go.Abs
section
open Go
theorem z8J {n w:Nat} {m:Mem} {b:Nat} {ex:Bool} {l:List (List AV)} (hl0:∀x∈l,x.length=n/\x.all AV.one=true) (hb:m.get b=some (.cells l.flatten false)) {xb:Nat} {new:List AV} (hx:m.get xb=some (.cells new false)) (hl:new.length=n) (ho:new.all AV.one=true)
  (hw:(l.length+1)*w<=q06) :
  ∃s' m',q0Y n w (.sl (some ⟨b,0⟩) n l.length l.length ex) (.sl (some ⟨xb,0⟩) n 1 1 true) m=some (s',m')/\q03 n m' s' (l++[new]) (some m.next)/\m'.next=m.next+1/\Fr m m' [b]:=by
 have hsrc:q3Z n (.sl (some ⟨xb,0⟩) n 1 1 true) m=some (1,new):=by
  simp only[q3Z,true_or,if_true,q0G,hx,Nat.one_mul,xnz,hl,xnr,List.drop_zero,xom];rw[xtl (by omega)]
 have hall:∀x∈l++[new],x.length=n/\x.all AV.one=true:=by
  intro x hx';simp only[xma,xms]at hx';rcases hx' with h1|rfl
  ·exact hl0 x h1
  ·exact⟨hl,ho⟩
 have hlen:(l++[new]).length=l.length+1:=by simp
 have hfl:=q1w fun x hx=>(hl0 x hx).1
 have hld:q0G m ⟨b,0⟩ (l.length*n)=some l.flatten:=by
  simp only[q0G,hb];rw[if_pos (by omega),List.drop_zero,xtl (by omega)]
 unfold q0Y;rw[hsrc];simp only[ho,not_true_eq_false,if_false,true_or,if_true];rw[if_neg (by omega),if_pos hw,hld];cases ex with
 |true=>
  simp only[if_true];refine⟨_,_,rfl,⟨hall,.inr ⟨m.next,rfl,by rw[hlen],?_⟩⟩,rfl,(Fr.alloc _ _).any _⟩
  simp[Mem.q0B,List.flatten_append]
 |false=>
  simp only[xbq,if_false,hb];refine⟨_,_,rfl,⟨hall,.inr ⟨m.next,rfl,by rw[hlen],?_⟩⟩,rfl,((Fr.put m b none).trans (Fr.alloc _ _) (by simp) (by simp))⟩
  simp[Mem.q0B,List.flatten_append]
end
end Go.Abs
namespace Go.Proofs.YtlginbmjiecglaaGreatDoor
section
set_option maxRecDepth 4000
open Go Go.Abs
section
variable {m:Mem} {b:Nat} {st:LSt} {F:List Nat}
theorem z0w (h:q0L m b st F) (w:LWf st) (name:List UInt8) :
  ∃m' F',run E22 (.fn 28) [.ptr (some ⟨b,0⟩),.str name] m=some (.tup [.int .u64 (q5a st name).1,.int .i64 (q5a st name).2.1],m')/\q0L m' b (q5a st name).2.2 F'/\Fr m m' F/\∀c,c∈F'->c∈F\/m.next<=c:=by
 have gp:=q6X (H:=H22) rfl h (by have:=w.lp;omega) name;have hlat:=w.lat;have hla:=w.la;obtain⟨sp,sq,sa,rp,rq,ra,h1,h2,h3,h4,h5,h6,h7,h8,h9,h10,hF⟩:=h.ex;have hb:=Mem.q0x h1;have a3:∀i:Nat,ld1 m (.ptr (some ⟨b,i⟩))=[sp,sq,sa,.int .u64 st.latest,.int .i64 st.most][i]?:=fun i=>q0g h1
 have gp0:=gp m (Fr.refl m);have done:∀v:AV,∃m' F',some (v,m)=some (v,m')/\q0L m' b st F'/\Fr m m' F/\∀c,c∈F'->c∈F\/m.next<=c:=fun v=>⟨m,F,rfl,h,Fr.refl' _ _,fun c hc=>.inl hc⟩
 unfold q5a;cases hk:q0O q0c name (st.q0b.map (·.name)) with
 |false=>
  rw[q8c w hk]at gp0;simp only[if_true];simp only[z4A (H:=H22) rfl,T.f28,p2,q0a,wp,gp0,dt (show (-1:Int)<0 by omega)];exact done _
 |true=>
  rw[q6W w hk]at gp0;simp only[Bool.true_eq_false,if_false];obtain⟨ax,az,ac,ae,esa⟩:=h4.len;rw[xlm]at esa;have c0:=df (show ¬((st.iP name:Nat):Int)<0 by omega);by_cases hm:st.most<=(st.q0p.length:Int)
  ·rw[if_pos (.inl hm)];subst esa;simp only[z4A (H:=H22) rfl,T.f28,p2,q0a,wp,gp0,c0];simp only[q9K (H:=H22),T.j4w,p1,q1,p2,nnA,q0a,ifV,q0e,a3,dt (show (st.q0p.length:Int)>=st.most from hm)];exact done _
  ·by_cases hlt:72057594037927935<=st.latest
   ·rw[if_pos (.inr hlt)];subst esa;simp only[z4A (H:=H22) rfl,T.f28,p2,q0a,wp,gp0,c0];simp only[q9K (H:=H22),T.j4w,p1,q1,p2,nnA,q0a,ifV,q0e,a3,df (show ¬(st.q0p.length:Int)>=st.most from hm),dt (show st.latest>=72057594037927935 from hlt)];exact done _
   ·rw[if_neg (by omega)];clear done;obtain⟨m1,hm1⟩:∃m1,m1=m.put b (some (.cells [sp,sq,sa,.int .u64 (st.latest+1),.int .i64 st.most] false)):=⟨_,rfl⟩;have s1:stV m (.ptr (some ⟨b,3⟩)) (.int .u64 (st.latest+1)) 1=some m1:=by
     have:=q1l (v:=.int .u64 (st.latest+1)) (o:=3) (n:=1) h1 rfl rfl (by simp);rw[hm1];simpa using this
    have B1:m1.get b=some (.cells [sp,sq,sa,.int .u64 (st.latest+1),.int .i64 st.most] false):=by rw[hm1];exact q0v h1
    have n1:m1.next=m.next:=by rw[hm1];rfl
    have f1:Fr m m1 [b]:=by rw[hm1];exact Fr.put _ _ _
    have h4':=h4.frame f1 (fun c hc=>by simp only[xms];rintro rfl;exact h7 (by rw[hc];simp))
    obtain⟨bc,ex,m3,g1,g2,g3,g4,_⟩:=q2n (w:=40) h4' (q1v (by rw[xlm];omega) (by decide));have B3:=g3.get B1 (by simp);have n3:=g3.next
    obtain⟨m4,hm4⟩:∃m4,m4=m3.lay (.cells (q1b.mk (st.latest+1) name ⟨0,0⟩).cells false):=⟨_,rfl⟩;have f4:Fr m3 m4 []:=by rw[hm4];exact(Fr.refl m3).lay _
    have n4:m4.next=m3.next+1:=by rw[hm4];rfl
    have X4:m4.get m3.next=some (.cells (q1b.mk (st.latest+1) name ⟨0,0⟩).cells false):=by rw[hm4];exact q0f _ _
    obtain⟨s',m5,j1,j2,j3,j4⟩:=z8J (w:=40) (ex:=ex) h4.1 (f4.get g2 (by simp)) X4 rfl rfl (q1v (by rw[xlm];omega) (by decide));have B5:=j4.get (f4.get B3 (by simp)) (by simp;omega);have s'1:=j2.one;obtain⟨m6,hm6⟩:∃m6,m6=m5.put b (some (.cells [sp,sq,s',.int .u64 (st.latest+1),.int .i64 st.most] false)):=⟨_,rfl⟩;have s6:stV m5 (.ptr (some ⟨b,2⟩)) s' 1=some m6:=by
     have:=q1l (v:=s') (vs:=[s']) (o:=2) (n:=1) B5 (q3R s'1) rfl (by simp);rw[hm6];simpa using this
    have B6:m6.get b=some (.cells [sp,sq,s',.int .u64 (st.latest+1),.int .i64 st.most] false):=by rw[hm6];exact q0v B5
    have f6:Fr m5 m6 [b]:=by rw[hm6];exact Fr.put _ _ _
    have fA:Fr m m6 [b]:=(((f1.step g3 (by simp)).step f4 (by simp)).step j4 (fun c hc=>.inr (by simp at hc;omega))).step f6 (fun c hc=>.inl hc)
    have nb:∀{r:Option Nat},b∉r.toList->∀c,r=some c->c∉[b]:=fun hr c hc=>by simp only[xms];rintro rfl;exact hr (by rw[hc];simp)
    have e4:st.q0p.map (·.cells)++[(q1b.mk (st.latest+1) name ⟨0,0⟩).cells]=(st.q0p++[q1b.mk (st.latest+1) name ⟨0,0⟩]).map (·.cells):=by simp
    rw[e4]at j2;have lp:∀c,c∈rp.toList->c<m.next:=fun c hc=>by rw[Option.mem_toList]at hc;subst hc;exact h2.lt
    have lq:∀c,c∈rq.toList->c<m.next:=fun c hc=>by rw[Option.mem_toList]at hc;subst hc;exact h3.lt
    have n6:m.next<=m4.next:=by omega
    refine⟨m6,b::(rp.toList++rq.toList++(some m4.next).toList),?_,⟨sp,sq,s',rp,rq,some m4.next,B6,h2.frame fA (nb h5),h3.frame fA (nb h6),j2.frame f6 (fun c hc=>by cases hc;simp;omega),h5,h6,by simp;omega,h8,?_,?_,rfl⟩,fA.mono (by rw[hF];simp),?_⟩
    ·have a31:∀i:Nat,ld1 m1 (.ptr (some ⟨b,i⟩))=[sp,sq,sa,.int .u64 (st.latest+1),.int .i64 st.most][i]?:=fun i=>q0g B1
     have a32:∀i:Nat,ld1 (m1.lay (.cells [] false)) (.ptr (some ⟨b,i⟩))=[sp,sq,sa,.int .u64 (st.latest+1),.int .i64 st.most][i]?:=fun i=>q0g (((Fr.refl m1).lay _).get B1 (by simp))
     have a33:∀i:Nat,ld1 m3 (.ptr (some ⟨b,i⟩))=[sp,sq,sa,.int .u64 (st.latest+1),.int .i64 st.most][i]?:=fun i=>q0g B3
     have a36:∀i:Nat,ld1 m6 (.ptr (some ⟨b,i⟩))=[sp,sq,s',.int .u64 (st.latest+1),.int .i64 st.most][i]?:=fun i=>q0g B6
     have wl:IntKind.wrap .u64 (st.latest+1)=st.latest+1:=wrap_u64 (by omega) (by omega);have bs:=q5j (n:=4) (zs:=[.int .u64 0,.str [],.int .i64 0,.int .u64 0]) (cs:=(q1b.mk (st.latest+1) name ⟨0,0⟩).cells) rfl rfl rfl;simp only[q1b.cells]at bs hm4;subst esa;simp only[z4A (H:=H22) rfl,T.f28,p2,q0a,wp,gp0,c0];simp only[q9K (H:=H22),T.j4w,p1,q1,p2,nnA,q0a,ifV,q0e,a3,df (show ¬(st.q0p.length:Int)>=st.most from hm),df (show ¬st.latest>=72057594037927935 from hlt)]
     simp only[j4x (H:=H22),T.a7M,p1,q1,p2,sB,apE,q0o,AV.cells,Nat.reduceAdd,Nat.reduceLeDiff,nnA,q0E,a3,wl,s1,a32,g1,a33,bs,<-hm4,j1,s6,a36]
    ·intro c h1' h2';simp only[Option.toList_some,xms]at h2';have:=lp c h1';omega
    ·intro c h1' h2';simp only[Option.toList_some,xms]at h2';have:=lq c h1';omega
    ·intro c hc;rw[hF];simp only[xmk0,xma,Option.toList_some,List.not_mem_nil,or_false]at hc⊢;rcases hc with hc|(hc|hc)|hc
     ·exact .inl (.inl hc)
     ·exact .inl (.inr (.inl (.inl hc)))
     ·exact .inl (.inr (.inl (.inr hc)))
     ·exact .inr (by omega)
end
end
end Go.Proofs.YtlginbmjiecglaaGreatDoor
namespace Go.Abs
section
open Go
def q8E {α:Type} (f:α->Int):List α->Int
 |[]=>0
 |a::l=>f a+q8E f l
theorem q3O {α:Type} (f:α->Int):∀(l k:List α),q8E f (l++k)=q8E f l+q8E f k
 |[],k=>by simp[q8E]
 |a::l,k=>by simp only[List.cons_append,q8E,q3O f l k];omega
theorem z0E {α:Type} (f:α->Int):∀{l:List α} {i:Nat} {y:α} (x:α),l[i]? = some y->q8E f (l.set i x)=q8E f l+(f x-f y)
 |[],_,_,_,h=>by simp at h
 |a::l,0,y,x,h=>by
  simp only[ge,xoi]at h;subst h;simp only[List.set_cons_zero,q8E];omega
 |a::l,i+1,y,x,h=>by
  simp only[ge]at h;simp only[List.set_cons_succ,q8E,z0E f x h];omega
theorem j3b {α:Type} (f:α->Int) (i:Nat) (x:α) (l:List α):q8E f (q2O i x l)=q8E f l+f x:=by
 have h:q8E f l=q8E f (l.take i)+q8E f (l.drop i):=by rw[<-q3O,List.take_append_drop]
 unfold q2O;rw[q3O,h];simp only[q8E];omega
theorem q8m {α:Type} (f:α->Int):∀{l:List α},(∀x∈l,f x=0)->q8E f l=0
 |[],_=>rfl
 |a::l,h=>by rw[q8E,h a xmc,q8m f fun x hx=>h x (List.mem_cons_of_mem _ hx)];rfl
theorem a4j {κ:Type} {lt:κ->κ->Bool} (irr:∀a,lt a a=false) {ks:List κ} (h:Srt lt ks) {i j:Nat} {k:κ} (hi:ks[i]? = some k) (hj:ks[j]? = some k):i=j:=by
 obtain⟨h1,e1⟩:=xgi.1 hi;obtain⟨h2,e2⟩:=xgi.1 hj;rcases Nat.lt_trichotomy i j with h3|h3|h3
 ·have:=q2G h h3 h2;rw[e1,e2,irr]at this;cases this
 ·exact h3
 ·have:=q2G h h3 h1;rw[e1,e2,irr]at this;cases this
theorem j1I {κ:Type} [DecidableEq κ] {lt:κ->κ->Bool} (irr:∀a,lt a a=false) {k:κ} {ks:List κ} (h:Srt lt ks):q0O lt k ks=true↔k∈ks:=by
 rw[b0E irr h,decide_eq_true_iff]
theorem j1K {κ:Type} [DecidableEq κ] {lt:κ->κ->Bool} (irr:∀a,lt a a=false) {k:κ} {ks:List κ} (h:Srt lt ks) (h':q0O lt k ks=false):k∉ks:=fun hm=>by
 rw[(j1I irr h).2 hm]at h';cases h'
theorem j6d {ps:List q0q} (h:Srt q0c (ps.map (·.name))) {k:List UInt8}:q0O q0c k (ps.map (·.name))=true↔k∈ps.map (·.name):=j1I q1g h
theorem q9Z {st:LSt} {k:List UInt8}:(st.q2o k).isSome=true↔q0O q0c k (st.q0b.map (·.name))=true:=by
 constructor
 ·intro h;cases hk:q0O q0c k (st.q0b.map (·.name)) with
  |true=>rfl
  |false=>rw[LSt.q1K hk]at h;cases h
 ·intro h;obtain⟨p,p1,_⟩:=LSt.q1p h;rw[p1];rfl
theorem q2J {st:LSt} (h:Srt q0c (st.q0b.map (·.name))) {k:List UInt8}:(st.q2o k).isSome=true↔k∈st.q0b.map (·.name):=q9Z.trans (j6d h)
def sA (n:List UInt8):List q1b->Int:=q8E fun a=>if a.q1S=n then a.bal.val else 0
def sQ (n:List UInt8):List q0N->Int:=q8E fun q=>(if q.x=n then q.inx.val else 0)+(if q.y=n then q.q18.val else 0)
def z4g (qs:List q0N) (az:List q1b) (p:q0q):Int:=p.out.val+sA p.name az+sQ p.name qs
structure LGood (st:LSt):Prop where
 w:LWf st
 am:(st.q0p.length:Int)<=st.most
 mo:1<=st.most/\st.most<=64
 a1:∀a∈st.q0p,1<=a.id/\0<=a.bal.val
 q1:∀q∈st.pairs,q.x≠q.y/\0<=q.inx.val/\q.q18.val<=0
structure q3Q (st:LSt):Prop extends LGood st where
 su:∀p∈st.q0b,z4g st.pairs st.q0p p=0
theorem LGood.q0p {st:LSt} (g:LGood st) {az:List q1b} (hid:az.map (·.id)=st.q0p.map (·.id)) (hall:∀a∈az,a.bal.ok/\1<=a.id/\a.id<=st.latest/\(st.q2o a.q1S).isSome=true/\0<=a.bal.val):LGood {st with q0p:=az}:=by
 have hl:az.length=st.q0p.length:=by have:=congrArg List.length hid;simpa using this
 exact {
  w:={sp:=g.w.sp,lp:=g.w.lp,sq:=g.w.sq,lq:=g.w.lq,sa:=by show Srt q0m (az.map (·.id));rw[hid];exact g.w.sa,la:=by show az.length<=64;rw[hl];exact g.w.la,okp:=g.w.okp,okq:=g.w.okq,
      oka:=fun a ha=>⟨(hall a ha).1,by have:=(hall a ha).2.1;omega,(hall a ha).2.2.1,(hall a ha).2.2.2.1⟩,lat:=g.w.lat}
  am:=by show (az.length:Int)<=st.most;rw[hl];exact g.am
  mo:=g.mo
  a1:=fun a ha=>⟨(hall a ha).2.1,(hall a ha).2.2.2.2⟩
  q1:=g.q1}
theorem LGood.q14 {st:LSt} (g:LGood st) {i:Nat} {a:q1b} (hi:st.q0p[i]? = some a) {n:Wd} (hn:n.ok) (h0:0<=n.val):LGood {st with q0p:=st.q0p.set i {a with bal:=n}}:=by
 have ma:=List.mem_of_getElem? hi;refine g.q0p ?_ fun x hx=>?_
 ·rw[List.map_set];exact q1V (by rw[List.getElem?_map,hi];rfl)
 ·rcases List.mem_or_eq_of_mem_set hx with hx|rfl
  ·exact⟨(g.w.oka x hx).1,(g.a1 x hx).1,(g.w.oka x hx).2.2.1,(g.w.oka x hx).2.2.2,(g.a1 x hx).2⟩
  ·exact⟨hn,(g.a1 a ma).1,(g.w.oka a ma).2.2.1,(g.w.oka a ma).2.2.2,h0⟩
theorem LGood.z2K {st:LSt} (g:LGood st) {i:Nat} {p:q0q} (hi:st.q0b[i]? = some p) {n:Wd} (hn:n.ok):LGood {st with q0b:=st.q0b.set i {p with out:=n}}:=by
 have mp:=List.mem_of_getElem? hi;have names:(st.q0b.set i {p with out:=n}).map (·.name)=st.q0b.map (·.name):=by
  rw[List.map_set];exact q1V (by rw[List.getElem?_map,hi];rfl)
 have gp:∀k,(st.q2o k).isSome=true->(LSt.q2o {st with q0b:=st.q0b.set i {p with out:=n}} k).isSome=true:=fun k hk=>by
  rw[q9Z]at hk⊢;show q0O q0c k ((st.q0b.set i {p with out:=n}).map (·.name))=true
  rw[names];exact hk
 exact {
  w:={sp:=by show Srt q0c ((st.q0b.set i {p with out:=n}).map (·.name));rw[names];exact g.w.sp
      lp:=by show (st.q0b.set i _).length<=8;rw[List.length_set];exact g.w.lp
      sq:=g.w.sq,lq:=g.w.lq,sa:=g.w.sa,la:=g.w.la
      okp:=fun x hx=>by
       rcases List.mem_or_eq_of_mem_set hx with hx|rfl
       ·exact g.w.okp x hx
       ·have:=g.w.okp p mp;exact⟨this.1,this.2.1,hn,this.2.2.2⟩
      okq:=fun q hq=>by have:=g.w.okq q hq;exact⟨this.1,this.2.1,this.2.2.1,this.2.2.2.1,gp _ this.2.2.2.2.1,gp _ this.2.2.2.2.2⟩
      oka:=fun a ha=>by have:=g.w.oka a ha;exact⟨this.1,this.2.1,this.2.2.1,gp _ this.2.2.2⟩
      lat:=g.w.lat}
  am:=g.am,mo:=g.mo,a1:=g.a1,q1:=g.q1}
theorem q3N:∀{a b c d:List UInt8},a.length=b.length->q0c (a++c) (b++d)=(q0c a b||(decide (a=b)&&q0c c d))
 |[],[],c,d,_=>by simp[q0c]
 |[],_::_,_,_,h=>by simp at h
 | _::_,[],_,_,h=>by simp at h
 |a::x,b::y,c,d,h=>by
  simp only[List.cons_append,q0c];rw[q3N (a:=x) (b:=y) (by simpa using h)];by_cases e:a=b
  ·subst e;simp
  ·simp[e]
theorem z8N:∀{l:List Nat} {lo hi:Nat},l.Pairwise (· < ·)->(∀x∈l,lo<=x/\x<hi)->l.length<=hi-lo
 |[],_,_,_,_=>by simp
 |a::l,lo,hi,h,hb=>by
  rw[List.pairwise_cons]at h;have h1:=hb a xmc;have:=z8N (lo:=a+1) (hi:=hi) h.2 fun x hx=>⟨h.1 x hx,(hb x (List.mem_cons_of_mem _ hx)).2⟩
  simp only[List.length_cons];omega
theorem j16 {ks:List (List UInt8)} (hs:Srt q0c ks) {a b:List UInt8} (ha:a∈ks) (hb:b∈ks) (h:q0c a b=true):lb q0c a ks<lb q0c b ks:=by
 obtain⟨i,hi,rfl⟩:=List.mem_iff_getElem.1 ha;obtain⟨j,hj,rfl⟩:=List.mem_iff_getElem.1 hb;have e:∀i (hi:i<ks.length),lb q0c ks[i] ks=i:=fun i hi=>q2X (Nat.le_of_lt hi) (fun j h hj=>q2G hs hj hi) (fun _=>q1g _)
 rw[e i hi,e j hj];rcases Nat.lt_trichotomy i j with h3|h3|h3
 ·exact h3
 ·subst h3;rw[q1g]at h;cases h
 ·have h4:=q2G hs h3 hi;have:=q1P _ _ _ h h4;rw[q1g]at this;cases this
theorem j15 {ks:List (List UInt8)} (hs:Srt q0c ks) {a:List UInt8} (ha:a∈ks):lb q0c a ks<ks.length:=by
 obtain⟨i,hi,rfl⟩:=List.mem_iff_getElem.1 ha;have e:lb q0c ks[i] ks=i:=q2X (Nat.le_of_lt hi) (fun j h hj=>q2G hs hj hi) (fun _=>q1g _)
 rw[e];exact hi
theorem j2u {ks:List (List UInt8)} (hs:Srt q0c ks) (hl:ks.length<=8) (h3:∀k∈ks,k.length=3) {qs:List q0N} (hq:Srt q0c (qs.map (·.key))) (hm:∀q∈qs,q.x∈ks/\q.y∈ks):qs.length<=64:=by
 have key:(qs.map fun q=>8*lb q0c q.x ks+lb q0c q.y ks).Pairwise (· < ·):=by
  rw[List.pairwise_map];unfold Srt at hq;rw[List.pairwise_map]at hq;refine List.Pairwise.imp_of_mem ?_ hq;intro a b ma mb hab;obtain⟨ax,ay⟩:=hm a ma;obtain⟨bx,bY⟩:=hm b mb;unfold q0N.key at hab;rw[q3N (by rw[h3 _ ax,h3 _ bx])]at hab;have l1:=j15 hs ay;simp only[Bool.or_eq_true,Bool.and_eq_true,decide_eq_true_eq]at hab;rcases hab with h|⟨h,h'⟩
  ·have:=j16 hs ax bx h;omega
  ·have:=j16 hs ay bY h';rw[h];omega
 have:=z8N (lo:=0) (hi:=64) key fun x hx=>by
  obtain⟨q,hq',rfl⟩:=List.mem_map.1 hx;obtain⟨ax,ay⟩:=hm q hq';have:=j15 hs ax;have:=j15 hs ay;omega
 simpa using this
theorem LGood.pairs {st:LSt} (g:LGood st) {qs:List q0N} (hs:Srt q0c (qs.map (·.key))) (hall:∀q∈qs,(q.rate.ok/\q5W q.rate q.q1h=true/\q.inx.ok/\q.q18.ok/\(st.q2o q.x).isSome=true/\(st.q2o q.y).isSome=true)/\q.x≠q.y/\0<=q.inx.val/\q.q18.val<=0) :
  LGood {st with pairs:=qs}:={
 w:={sp:=g.w.sp,lp:=g.w.lp,sq:=hs
     lq:=j2u (ks:=st.q0b.map (·.name)) g.w.sp (by rw[xlm];exact g.w.lp) (fun k hk=>by
      obtain⟨p,hp,rfl⟩:=List.mem_map.1 hk;have:=(g.w.okp p hp).2.2.2;unfold q3Y at this;simp only[Bool.and_eq_true,decide_eq_true_eq]at this;exact this.2) hs fun q hq=>⟨(q2J g.w.sp).1 (hall q hq).1.2.2.2.2.1,(q2J g.w.sp).1 (hall q hq).1.2.2.2.2.2⟩
     sa:=g.w.sa,la:=g.w.la,okp:=g.w.okp,okq:=fun q hq=>(hall q hq).1,oka:=g.w.oka,lat:=g.w.lat}
 am:=g.am,mo:=g.mo,a1:=g.a1,q1:=fun q hq=>(hall q hq).2}
theorem LGood.full {st:LSt} (g:LGood st):∀q∈st.pairs,(q.rate.ok/\q5W q.rate q.q1h=true/\q.inx.ok/\q.q18.ok/\(st.q2o q.x).isSome=true/\(st.q2o q.y).isSome=true)/\q.x≠q.y/\0<=q.inx.val/\q.q18.val<=0:=fun q hq=>⟨g.w.okq q hq,g.q1 q hq⟩
theorem z0j {α:Type} {i:Nat} {x y:α} {l:List α} (h:y∈q2O i x l):y=x\/y∈l:=by
 unfold q2O at h;simp only[xma,xmk0]at h;rcases h with h|rfl|h
 ·exact .inr (List.mem_of_mem_take h)
 ·exact .inl rfl
 ·exact .inr (List.mem_of_mem_drop h)
theorem j6h {α:Type} {i:Nat} {x y:α} {l:List α} (h:y=x\/y∈l):y∈q2O i x l:=by
 unfold q2O;rcases h with rfl|h
 ·simp
 ·rw[<-List.take_append_drop i l,xma]at h;simp only[xma,xmk0];rcases h with h|h
  ·exact .inl h
  ·exact .inr (.inr h)
theorem LGood.q5b {st:LSt} (g:LGood st) {q:q0N} (hq:(q.rate.ok/\q5W q.rate q.q1h=true/\q.inx.ok/\q.q18.ok/\(st.q2o q.x).isSome=true/\(st.q2o q.y).isSome=true)/\q.x≠q.y/\0<=q.inx.val/\q.q18.val<=0) :
  LGood (st.q5b q)/\(q0O q0c q.key (st.pairs.map (·.key))=false->(st.q5b q).pairs=q2O (st.iQ q.key) q st.pairs):=by
 cases hk:q0O q0c q.key (st.pairs.map (·.key)) with
 |true=>
  refine⟨?_,nofun⟩;have e:st.q5b q={st with pairs:=st.pairs.set (st.iQ q.key) q}:=by unfold LSt.q5b;rw[if_pos hk]
  rw[e];refine g.pairs ?_ fun x hx=>?_
  ·rw[List.map_set];unfold LSt.iQ;rw[q1V (q3T hk)];exact g.w.sq
  ·rcases List.mem_or_eq_of_mem_set hx with hx|rfl
   ·exact g.full x hx
   ·exact hq
 |false=>
  have hn:q.key∉st.pairs.map (·.key):=j1K q1g g.w.sq hk;have hs:Srt q0c ((q2O (st.iQ q.key) q st.pairs).map (·.key)):=by
   rw[q2K];exact j80 q1P q5d g.w.sq hn
  have gg:LGood {st with pairs:=q2O (st.iQ q.key) q st.pairs}:=g.pairs hs fun x hx=>by
   rcases z0j hx with rfl|hx
   ·exact hq
   ·exact g.full x hx
  have hl:=gg.w.lq;have hi:st.iQ q.key<=st.pairs.length:=by have:=z0f (lt:=q0c) q.key (st.pairs.map (·.key));rw[xlm]at this;exact this
  rw[show (LSt.pairs {st with pairs:=q2O (st.iQ q.key) q st.pairs}).length=st.pairs.length+1 from q7j hi]at hl
  have e:st.q5b q={st with pairs:=q2O (st.iQ q.key) q st.pairs}:=by
   unfold LSt.q5b;rw[if_neg (by rw[hk];decide),if_pos (by omega)]
  rw[e];exact⟨gg,fun _=>rfl⟩
end
end Go.Abs
