/- Texts of one claim, put together. -/
import Derived.Test.YtlginbmjiecglaaGreatDoorW19
namespace Go.Proofs.YtlginbmjiecglaaGreatDoor
section
set_option maxRecDepth 4000
open Go Go.Abs
section
variable {m:Mem} {b:Nat} {st:LSt} {F:List Nat}
theorem z4m {rb:Option Nat} {sa:AV} (h4:q0L 4 m sa (st.q0j.map (·.cells)) rb) (w:LWf st) {id:Int} {a:q1k} (g1:st.q7S id=some a) (hka:q0Y q0p id (st.q0j.map (·.id))=true) :
  ∃bb,sa=.sl (some ⟨bb,0⟩) 4 st.q0j.length st.q0j.length false/\bb<m.next/\ixA 4 st.q0j.length ⟨bb,0⟩ ((st.iA id:Nat):Int)=some (.ptr (some ⟨bb,st.iA id*4⟩))/\ld1 m (.ptr (some ⟨bb,st.iA id*4+1⟩))=some (.str a.q1C)/\
   ldN m (.ptr (some ⟨bb,st.iA id*4+2⟩)) 2=some (.agg [.int .i64 a.bal.hi,.int .u64 a.bal.lo])/\st.q0j[st.iA id]? = some a:=by
 obtain⟨a',q1,q2,q3,q4⟩:=LSt.q1x hka;rw[g1]at q1;cases q1;have hlt:st.iA id<st.q0j.length:=(xgi.1 q3).1;obtain⟨bb,hbb,x1,x2,x3,x4⟩:=h4.fld (i:=st.iA id) (by rw[xlm];exact hlt);have hB:bb<m.next:=by subst hbb;exact h4.lt
 rw[xlm]at x1 x2;have q5:st.q0j[st.iA id]? = some a:=q3;have ha:st.q0j[st.iA id]=a:=by have q6:=q5;rw[xgq hlt]at q6;simpa using q6
 have x5:=x3 1 (by omega);have x6:=x4 2 2 (by omega);rw[xgm,ha]at x5 x6;exact⟨bb,x1,hB,x2,x5,x6,q5⟩
theorem z09 (h:q0G m b st F) (w:LWf st) (i j:Int) {x:Wd} (hx:x.ok) (s:Int) :
  ∃m',run E22 (.fn 32) [.ptr (some ⟨b,0⟩),.int .u64 i,.int .u64 j,.agg (q0H x s)] m=some (.int .i64 (q2K st i j x s).1,m')/\q0G m' b (q2K st i j x s).2 F/\Fr m m' F:=by
 have gi:=z2a (H:=H22) rfl h (by have:=w.la;omega) i;have gj:=z2a (H:=H22) rfl h (by have:=w.la;omega) j;have hF:=h.lt;obtain⟨sp,sq,sa,rp,rq,ra,h1,h2,h3,h4,h5⟩:=h.ex;have hb:=Mem.q0v h1;have done:∀M,Fr m M []->∀v:AV,∃m',some (v,M)=some (v,m')/\q0G m' b st F/\Fr m m' F:=fun M hM v=>⟨M,rfl,h.q0k hM,hM.any F⟩
 have none_idx:∀id,st.q7S id=none->q3t (fun p:q1k=>decide (p.id=id)) st.q0j 0=-1:=by
  intro id hn;apply z04 w;cases hk:q0Y q0p id (st.q0j.map (·.id)) with
  |false=>rfl
  |true=>obtain⟨a,a1,_⟩:=LSt.q1x hk;rw[hn]at a1;cases a1
 have cm:=dt (show (-1:Int)<0 by omega);rw[z1k];rcases LSt.q1D w i with ⟨e,hn⟩|⟨a,p,e,g1,g2,hid,hka,hpn,hkp,ma,mp⟩
 ·rw[none_idx i hn]at gi;rw[e];simp only[ne_eq,show ¬(40:Int)=0 by omega,not_false_eq_true,if_true,q0H];simp (maxDischargeDepth:=20) only [q50 (H:=H22) rfl,T.f32,p2,q0N,q0b,ifV,wp,AV.one,AV.cells,lcl,gi,gj,frl,Fr.refl,cm];exact done _ ((Fr.refl m).lay _) _
 ·rw[z2i w hka]at gi;have ci:=df (show ¬((st.iA i:Nat):Int)<0 by omega);rw[e];rcases LSt.q1D w j with ⟨e',hn⟩|⟨a',p',e',g1',g2',hid',hka',hpn',hkp',ma',mp'⟩
  ·rw[none_idx j hn]at gj;rw[e'];simp only[ne_eq,not_true_eq_false,if_false,show ¬(40:Int)=0 by omega,not_false_eq_true,if_true,q0H];simp (maxDischargeDepth:=20) only [q50 (H:=H22) rfl,T.f32,p2,q0N,q0b,ifV,wp,AV.one,AV.cells,lcl,gi,gj,frl,Fr.refl,ci,cm];exact done _ ((Fr.refl m).lay _) _
  ·rw[z2i w hka']at gj;have cj:=df (show ¬((st.iA j:Nat):Int)<0 by omega);rw[e'];obtain⟨bb,x1,hB,x2,x5,x6,q5⟩:=z4m h4 w g1 hka;obtain⟨bb',y1,_,y2,y5,y6,q5'⟩:=z4m h4 w g1' hka';subst x1;cases y1;have a3:∀i:Nat,ld1 m (.ptr (some ⟨b,i⟩))=[sp,sq,.sl (some ⟨bb,0⟩) 4 st.q0j.length st.q0j.length false,.int .u64 st.latest,.int .i64 st.most][i]?:=fun i=>q0f h1
   have hij:(i=j)=(((st.iA i:Nat):Int)=((st.iA j:Nat):Int)):=by
    apply propext;constructor
    ·rintro rfl;rfl
    ·intro he;have he':st.iA i=st.iA j:=by omega
     rw[he',q5']at q5;cases q5;rw[<-hid,<-hid']
   simp only[ne_eq,not_true_eq_false,if_false,q0H];by_cases h6:i=j
   ·rw[if_pos h6];have:=hij▸h6;simp (maxDischargeDepth:=20) only [q50 (H:=H22) rfl,T.f32,p2,q0N,q0b,ifV,wp,AV.one,AV.cells,lcl,gi,gj,frl,Fr.refl,ci,cj];simp only[q4j (H:=H22),T.z1S,p2,q0b,wp,dt this];exact done _ ((Fr.refl m).lay _) _
   ·rw[if_neg h6];have h7:¬((st.iA i:Nat):Int)=((st.iA j:Nat):Int):=by rw[<-hij];exact h6
    rw[hpn,hpn'];by_cases h8:a.q1C=a'.q1C
    ·rw[if_neg (by simp[h8])];have ft:=j4z (H:=H22) rfl h w g2 hx s;have po:=fun m=>q9u (H:=H22) rfl (w.oka a ma).1 hx m
     have hsl:=j0K (a.bal.val-x.val);unfold trT;obtain⟨fe,hfe⟩:∃fe,fe=q2t p x s:=⟨_,rfl⟩;simp only[<-hfe,q0H,Wd.cells]at ft po⊢;by_cases f0:fe=0
     ·subst f0;rw[if_neg (by simp)];have xpos:0<x.val:=by
       have h1:=hfe;unfold q2t at h1;split at h1
       ·omega
       ·split at h1<;>omega
      by_cases hpr:a.bal.val<x.val
      ·rw[if_pos hpr];rw[dt (show a.bal.val-x.val<0 by omega)]at hsl;simp (maxDischargeDepth:=20) only [q50 (H:=H22) rfl,T.f32,p2,q0N,q0b,ifV,wp,AV.one,AV.cells,lcl,gi,gj,frl,Fr.refl,ci,cj];simp only[q4j (H:=H22),T.z1S,p2,q0b,wp,df h7];simp (maxDischargeDepth:=20) only [q45 (H:=H22),T.z4V,p1,q1,p2,nnA,q0b,q0d,lcl,q1o hb,a3,true_or,x2,y2,q1o hB,x5,y5,dt h8,xbt]
       simp (maxDischargeDepth:=20) only [q6k (H:=H22),T.z8Q,p1,q1,p2,nnA,q0b,Nat.reduceAdd,q0d,Nat.reduceLeDiff,lcl,q1o hb,a3,true_or,x2,q1o hB,x5,ft,frl,Fr.refl,decide_true,xbt];simp (maxDischargeDepth:=20) only [q8Q (H:=H22),T.j2u,p1,q1,p2,nnA,q0b,Nat.reduceAdd,q0d,Nat.reduceLeDiff,lcl,q1o hb,a3,true_or,x2,q1o hB,x6,po,hsl]
       exact done _ ((Fr.refl m).lay _) _
      ·rw[if_neg hpr];rw[df (show ¬a.bal.val-x.val<0 by omega)]at hsl;have su:=fun m=>q5p (H:=H22) rfl (w.oka a ma).1 hx m
       have ad:=fun m=>q5m (H:=H22) rfl (w.oka a' ma').1 hx m
       have e1:q0M (a.bal.val-x.val)=true:=by
        have h2:=Wd.q6C (w.oka a ma).1;unfold q0M at h2⊢;simp only[Bool.and_eq_true,decide_eq_true_eq]at h2⊢;omega
       simp only[Wd.cells]at ad su;have c2:=q3B (n:=a'.bal.val+x.val);rw[q1u e1]at su;unfold q3Y;rw[e1,Bool.true_and];obtain⟨nx,hnx⟩:∃nx,nx=Wd.of (a.bal.val-x.val):=⟨_,rfl⟩;rw[<-hnx]at su⊢;cases e2:q0M (a'.bal.val+x.val) with
       |false=>
        rw[e2]at c2;rw[if_neg (by simp)];simp (maxDischargeDepth:=20) only [q50 (H:=H22) rfl,T.f32,p2,q0N,q0b,ifV,wp,AV.one,AV.cells,lcl,gi,gj,frl,Fr.refl,ci,cj];simp only[q4j (H:=H22),T.z1S,p2,q0b,wp,df h7];simp (maxDischargeDepth:=20) only [q45 (H:=H22),T.z4V,p1,q1,p2,nnA,q0b,q0d,lcl,q1o hb,a3,true_or,x2,y2,q1o hB,x5,y5,dt h8,xbt]
        simp (maxDischargeDepth:=20) only [q6k (H:=H22),T.z8Q,p1,q1,p2,nnA,q0b,Nat.reduceAdd,q0d,Nat.reduceLeDiff,lcl,q1o hb,a3,true_or,x2,q1o hB,x5,ft,frl,Fr.refl,decide_true,xbt];simp (maxDischargeDepth:=20) only [q8Q (H:=H22),T.j2u,p1,q1,p2,nnA,q0b,Nat.reduceAdd,q0d,Nat.reduceLeDiff,lcl,q1o hb,a3,true_or,x2,q1o hB,x6,po,hsl]
        simp (maxDischargeDepth:=20) only [z3f (H:=H22),T.j8k,p1,q1,p2,pB,nnA,q0l,q0b,Nat.reduceAdd,q1b,AV.one,over,AV.cells,Nat.reduceLeDiff,lcl,q1o hb,z1B hb,a3,true_or,x2,y2,q1o hB,z1B hB,x6,y6,ad,su,c2,xbf];refine done _ ?_ _
        (repeat apply Fr.lays)
        exact Fr.refl _
       |true=>
        rw[if_pos rfl];rw[q1u e2]at ad;obtain⟨ny,hny⟩:∃ny,ny=Wd.of (a'.bal.val+x.val):=⟨_,rfl⟩;rw[<-hny]at ad⊢;obtain⟨M3,hM3⟩:∃M3,M3=((m.lay (.cells (q0H x s) false)).lay (.cells nx.cells false)).lay (.cells ny.cells false):=⟨_,rfl⟩;have f3:Fr m M3 []:=by rw[hM3];(repeat apply Fr.lays);exact Fr.refl _
        have hb3:=f3.get h1 (by simp);have z1:M3.get (m.next+1)=some (.cells nx.cells false):=by rw[hM3];simp[Mem.q0E]
        have z2:M3.get (m.next+1+1)=some (.cells ny.cells false):=by rw[hM3];simp[Mem.q0E]
        obtain⟨b1,m4,s1,s2,s3,s4,s5,s6⟩:=(h.q0k f3).stA hb3 (a:=a) (by rw[hid];exact q5) nx;cases s1;have hb4:=s6.trans hb3;have ids:=LSt.q5c (st:=st) (a:={a with bal:=nx}) (by show q0Y q0p a.id _=true;rw[hid];exact hka)
        have hi2:(st.q14 {a with bal:=nx}).iA a'.id=st.iA j:=by unfold LSt.iA;rw[ids,hid']
        have hl2:(st.q14 {a with bal:=nx}).q0j.length=st.q0j.length:=List.length_set ..
        obtain⟨b2,m5,t1,t2,t3,t4,t5,t6⟩:=s3.stA hb4 (a:=a') (by
         rw[hi2];show (st.q0j.set (st.iA a.id) _)[st.iA j]? = some a';rw[hid,List.getElem?_set_ne (by omega)];exact q5') ny
        rw[hl2]at t1;cases t1;rw[hid]at s2;rw[hi2]at t2;have n3:m.next<=M3.next:=f3.next
        have z4:=s4.get z2 (fun hc=>by have:=hF _ hc;omega)
        have a33:∀i:Nat,ld1 M3 (.ptr (some ⟨b,i⟩))=[sp,sq,.sl (some ⟨bb,0⟩) 4 st.q0j.length st.q0j.length false,.int .u64 st.latest,.int .i64 st.most][i]?:=fun i=>q0f hb3
        have a34:∀i:Nat,ld1 m4 (.ptr (some ⟨b,i⟩))=[sp,sq,.sl (some ⟨bb,0⟩) 4 st.q0j.length st.q0j.length false,.int .u64 st.latest,.int .i64 st.most][i]?:=fun i=>q0f hb4
        have l1:ldN M3 (.ptr (some ⟨m.next+1,0⟩)) 2=some (.agg nx.cells):=q0C z1 rfl
        have l2:ldN m4 (.ptr (some ⟨m.next+1+1,0⟩)) 2=some (.agg ny.cells):=q0C z4 rfl
        refine⟨m5,?_,t3,((f3.any F).step s4 (fun c hc=>.inl hc)).step t4 (fun c hc=>.inl hc)⟩
        simp only[q0H,Wd.cells]at hM3 l1 l2 s2 t2;simp (maxDischargeDepth:=20) only [q50 (H:=H22) rfl,T.f32,p2,q0N,q0b,ifV,wp,AV.one,AV.cells,lcl,gi,gj,frl,Fr.refl,ci,cj];simp only[q4j (H:=H22),T.z1S,p2,q0b,wp,df h7];simp (maxDischargeDepth:=20) only [q45 (H:=H22),T.z4V,p1,q1,p2,nnA,q0b,q0d,lcl,q1o hb,a3,true_or,x2,y2,q1o hB,x5,y5,dt h8,xbt]
        simp (maxDischargeDepth:=20) only [q6k (H:=H22),T.z8Q,p1,q1,p2,nnA,q0b,Nat.reduceAdd,q0d,Nat.reduceLeDiff,lcl,q1o hb,a3,true_or,x2,q1o hB,x5,ft,frl,Fr.refl,decide_true,xbt];simp (maxDischargeDepth:=20) only [q8Q (H:=H22),T.j2u,p1,q1,p2,nnA,q0b,Nat.reduceAdd,q0d,Nat.reduceLeDiff,lcl,q1o hb,a3,true_or,x2,q1o hB,x6,po,hsl]
        simp (maxDischargeDepth:=20) only [z3f (H:=H22),T.j8k,p1,q1,p2,pB,nnA,q0l,q0b,Nat.reduceAdd,q1b,AV.one,over,AV.cells,Nat.reduceLeDiff,lcl,q1o hb,z1B hb,a3,true_or,x2,y2,q1o hB,z1B hB,x6,y6,ad,su,decide_true,xbt,<-hM3];simp only[j2v (H:=H22),T.a4g,p1,q1,p2,nnA,q0d,a33,l1,true_or,if_true,x2,s2,a34,l2,y2,t2]
     ·rw[if_pos f0];simp (maxDischargeDepth:=20) only [q50 (H:=H22) rfl,T.f32,p2,q0N,q0b,ifV,wp,AV.one,AV.cells,lcl,gi,gj,frl,Fr.refl,ci,cj];simp only[q4j (H:=H22),T.z1S,p2,q0b,wp,df h7];simp (maxDischargeDepth:=20) only [q45 (H:=H22),T.z4V,p1,q1,p2,nnA,q0b,q0d,lcl,q1o hb,a3,true_or,x2,y2,q1o hB,x5,y5,dt h8,xbt]
      simp (maxDischargeDepth:=20) only [q6k (H:=H22),T.z8Q,p1,q1,p2,nnA,q0b,Nat.reduceAdd,q0d,Nat.reduceLeDiff,lcl,q1o hb,a3,true_or,x2,q1o hB,x5,ft,frl,Fr.refl,df f0,xbf];exact done _ ((Fr.refl m).lay _) _
    ·rw[if_pos h8];simp (maxDischargeDepth:=20) only [q50 (H:=H22) rfl,T.f32,p2,q0N,q0b,ifV,wp,AV.one,AV.cells,lcl,gi,gj,frl,Fr.refl,ci,cj];simp only[q4j (H:=H22),T.z1S,p2,q0b,wp,df h7];simp (maxDischargeDepth:=20) only [q45 (H:=H22),T.z4V,p1,q1,p2,nnA,q0b,q0d,lcl,q1o hb,a3,true_or,x2,y2,q1o hB,x5,y5,df h8,xbf]
     exact done _ ((Fr.refl m).lay _) _
end
end
section
set_option maxRecDepth 4000
open Go Go.Abs
theorem q7U {α:Type} {p q:α->Bool}:∀{l:List α} {i:Nat},(∀x∈l,p x=q x)->q3t p l i=q3t q l i
 |[],_,_=>rfl
 |x::l,i,h=>by
  unfold q3t;rw[h x xmc,q7U fun y hy=>h y (List.mem_cons_of_mem _ hy)]
section
variable {m:Mem} {b:Nat} {st:LSt} {F:List Nat}
theorem a7n (w:LWf st) {x y:List UInt8} (hx:(st.q3k x).isSome=true) (hy:(st.q3k y).isSome=true):q3t (fun p=>decide (p.x=x)&&decide (p.y=y)) st.pairs 0=if q0Y q0c (x++y) (st.pairs.map (·.key))=true then ((st.iQ (x++y):Nat):Int) else -1:=by
 have lx:=q1s w hx;have e:q3t (fun p:q0D=>decide (p.x=x)&&decide (p.y=y)) st.pairs 0=q3t (fun p:q0D=>decide (p.key=x++y)) st.pairs 0:=by
  apply q7U;intro q hq;have l1:=q1s w (w.okq q hq).2.2.2.2.1;rw[<-Bool.decide_and];apply decide_eq_decide.mpr;unfold q0D.key;constructor
  ·rintro⟨h1,h2⟩;rw[h1,h2]
  ·intro h;exact List.append_inj h (by omega)
 rw[e,q4k (lt:=q0c) (fun p:q0D=>p.key) (x++y) q0K st.pairs 0 w.sq,xnz]
 rfl
end
end
section
set_option maxRecDepth 4000
open Go Go.Abs
theorem j0k {w v:Wd} (hw:w.ok) (hv:v.ok) (s t n:Int) (m:Mem):Res m (run E22 (.fn 77) [.agg (q0H w s),.agg (q0H v t),.int .i64 n] m) (z2B w s v t n):=by
 have dr:=fun m=>q4r (H:=H22) rfl w s m
 have rr:=fun m=>q9A (H:=H22) rfl hv t m
 unfold z2B;by_cases h:0<=s/\s<=18
 ·rw[dt h]at dr;by_cases hn:0<=n/\n<=18
  ·rw[if_pos ⟨h,hn⟩];have cn0:=df (show ¬n<0 by omega);have cn1:=df (show ¬(18:Int)<n by omega);by_cases h2:0<w.val
   ·rw[if_pos h2];have e1:¬w.hi<0:=by
     obtain⟨x1,x2,x3,x4⟩:=hw;unfold Wd.val at h2;omega
    have e2:(decide (w.hi=0)&&decide (w.lo=0))=false:=by
     rw[<-Bool.decide_and];apply df;rintro⟨y1,y2⟩
     unfold Wd.val at h2;omega
    by_cases h3:q29 v t=0
    ·rw[if_pos h3];have hr:=q74 h3;have dm:=fun m=>z5C (H:=H22) rfl hw hv h hr.1 hn m
     obtain⟨N,hN⟩:∃N,N=z9O w.val v.val (s+t-n):=⟨_,rfl⟩;rw[<-hN]at dm⊢;clear hN;unfold q3V at dm⊢;simp only[q0H]at dr rr;simp only[q6R (H:=H22) rfl,T.f77,pB,q1,p1,p2,q0n,AV.cells,Nat.reduceAdd,Nat.reduceLeDiff,q0N,q0b,ifV,unA,q0S,q0V,q0B,AV.one,over,lcl,q0H,dr,xbt,cn0,cn1];simp only[q6r (H:=H22),T.z8Z,p1,q1,p2,q0n,AV.cells,Nat.reduceAdd,Nat.reduceLeDiff,q0b,ifV,q0S,q0V,q0T,AV.one,over,lcl,df e1,q2g,e2]
     simp only[z3H (H:=H22),T.j8G,q1,p2,p1,q0n,AV.cells,Nat.reduceAdd,Nat.reduceLeDiff,q0b,q0S,q0V,q0B,AV.one,over,lcl,rr,h3,decide_true,xbt];simp only[q0H]at dm;cases hf:q0M N with
     |true=>
      simp only[hf,if_true]at dm;simp only[z3I (H:=H22),T.j8H,q1,p1,q0l,q0S,q0V,q3N,AV.one,over,AV.cells,Nat.reduceAdd,Nat.reduceLeDiff,lcl,dm];refine Res.eq ?_ rfl
      (repeat apply Fr.lays)
      exact Fr.refl _
     |false=>
      simp only[hf,xbq,if_false]at dm;simp only[z3I (H:=H22),T.j8H,q1,p1,q0l,q0S,q0V,q3N,AV.one,over,AV.cells,Nat.reduceAdd,Nat.reduceLeDiff,lcl,dm,xbq];refine Res.eq ?_ rfl
      (repeat apply Fr.lays)
      exact Fr.refl _
    ·rw[if_neg h3];simp only[q0H]at dr rr;simp only[q6R (H:=H22) rfl,T.f77,pB,q1,p1,p2,q0n,AV.cells,Nat.reduceAdd,Nat.reduceLeDiff,q0N,q0b,ifV,unA,q0S,q0V,q0B,AV.one,over,lcl,q0H,dr,xbt,cn0,cn1];simp only[q6r (H:=H22),T.z8Z,p1,q1,p2,q0n,AV.cells,Nat.reduceAdd,Nat.reduceLeDiff,q0b,ifV,q0S,q0V,q0T,AV.one,over,lcl,df e1,q2g,e2];simp only[z3H (H:=H22),T.j8G,q1,p2,p1,q0n,AV.cells,Nat.reduceAdd,Nat.reduceLeDiff,q0b,q0S,q0V,q0B,AV.one,over,lcl,rr,df h3,xbf]
     refine Res.eq ?_ rfl
     (repeat apply Fr.lays)
     exact Fr.refl _
   ·rw[if_neg h2];simp only[q0H]at dr;by_cases g1:w.hi<0
    ·simp only[q6R (H:=H22) rfl,T.f77,pB,q1,p1,p2,q0n,AV.cells,Nat.reduceAdd,Nat.reduceLeDiff,q0N,q0b,ifV,unA,q0S,q0V,q0B,AV.one,over,lcl,q0H,dr,xbt,cn0,cn1];simp only[q6r (H:=H22),T.z8Z,p1,q1,p2,q0n,AV.cells,Nat.reduceAdd,Nat.reduceLeDiff,q0b,ifV,q0S,q0V,q0T,AV.one,over,lcl,dt g1];refine Res.eq ?_ rfl
     (repeat apply Fr.lays)
     exact Fr.refl _
    ·have g2:w.hi=0/\w.lo=0:=by
      obtain⟨x1,x2,x3,x4⟩:=hw;unfold Wd.val at h2;omega
     simp only[q6R (H:=H22) rfl,T.f77,pB,q1,p1,p2,q0n,AV.cells,Nat.reduceAdd,Nat.reduceLeDiff,q0N,q0b,ifV,unA,q0S,q0V,q0B,AV.one,over,lcl,q0H,dr,xbt,cn0,cn1];simp only[q6r (H:=H22),T.z8Z,p1,q1,p2,q0n,AV.cells,Nat.reduceAdd,Nat.reduceLeDiff,q0b,ifV,q0S,q0V,q0T,AV.one,over,lcl,df g1,q2g,dt g2.1,dt g2.2];refine Res.eq ?_ rfl
     (repeat apply Fr.lays)
     exact Fr.refl _
  ·rw[if_neg (by omega)];simp only[q0H]at dr;by_cases h4:n<0
   ·simp only[q6R (H:=H22) rfl,T.f77,pB,q1,p1,p2,q0n,AV.cells,Nat.reduceAdd,Nat.reduceLeDiff,q0N,q0b,ifV,unA,q0S,q0V,q0B,AV.one,over,lcl,q0H,dr,xbt,dt h4];refine Res.eq ?_ rfl
    (repeat apply Fr.lays)
    exact Fr.refl _
   ·simp only[q6R (H:=H22) rfl,T.f77,pB,q1,p1,p2,q0n,AV.cells,Nat.reduceAdd,Nat.reduceLeDiff,q0N,q0b,ifV,unA,q0S,q0V,q0B,AV.one,over,lcl,q0H,dr,xbt,df h4,dt (show (18:Int)<n by omega)];refine Res.eq ?_ rfl
    (repeat apply Fr.lays)
    exact Fr.refl _
 ·rw[if_neg (by omega)];rw[df h]at dr;simp only[q0H]at dr;simp only[q6R (H:=H22) rfl,T.f77,pB,q1,p1,p2,q0n,AV.cells,Nat.reduceAdd,Nat.reduceLeDiff,q0N,q0b,ifV,unA,q0S,q0V,q0B,AV.one,over,lcl,q0H,dr,xbf];refine Res.eq ?_ rfl
  (repeat apply Fr.lays)
  exact Fr.refl _
end
end Go.Proofs.YtlginbmjiecglaaGreatDoor
namespace Go.Abs
section
open Go
theorem z6f {n w:Nat} {m:Mem} {b:Nat} {ex:Bool} {l:List (List AV)} (hl0:∀x∈l,x.length=n/\x.all AV.one=true) (hb:m.get b=some (.cells l.flatten false)) {xb:Nat} {new:List AV} (hx:m.get xb=some (.cells new false)) (hl:new.length=n) (ho:new.all AV.one=true)
  (hw:(l.length+1)*w<=q0A) :
  ∃s' m',q0P n w (.sl (some ⟨b,0⟩) n l.length l.length ex) (.sl (some ⟨xb,0⟩) n 1 1 true) m=some (s',m')/\q0L n m' s' (l++[new]) (some m.next)/\m'.next=m.next+1/\Fr m m' [b]:=by
 have hsrc:q3Q n (.sl (some ⟨xb,0⟩) n 1 1 true) m=some (1,new):=by
  simp only[q3Q,true_or,if_true,q0y,hx,Nat.one_mul,xnz,hl,xnr,List.drop_zero,xom];rw[xtl (by omega)]
 have hall:∀x∈l++[new],x.length=n/\x.all AV.one=true:=by
  intro x hx';simp only[xma,xms]at hx';rcases hx' with h1|rfl
  ·exact hl0 x h1
  ·exact⟨hl,ho⟩
 have hlen:(l++[new]).length=l.length+1:=by simp
 have hfl:=q1j fun x hx=>(hl0 x hx).1
 have hld:q0y m ⟨b,0⟩ (l.length*n)=some l.flatten:=by
  simp only[q0y,hb];rw[if_pos (by omega),List.drop_zero,xtl (by omega)]
 unfold q0P;rw[hsrc];simp only[ho,not_true_eq_false,if_false,true_or,if_true];rw[if_neg (by omega),if_pos hw,hld];cases ex with
 |true=>
  simp only[if_true];refine⟨_,_,rfl,⟨hall,.inr ⟨m.next,rfl,by rw[hlen],?_⟩⟩,rfl,(Fr.alloc _ _).any _⟩
  simp[Mem.q0E,List.flatten_append]
 |false=>
  simp only[xbq,if_false,hb];refine⟨_,_,rfl,⟨hall,.inr ⟨m.next,rfl,by rw[hlen],?_⟩⟩,rfl,((Fr.put m b none).trans (Fr.alloc _ _) (by simp) (by simp))⟩
  simp[Mem.q0E,List.flatten_append]
end
end Go.Abs
namespace Go.Proofs.YtlginbmjiecglaaGreatDoor
section
set_option maxRecDepth 4000
open Go Go.Abs
section
variable {m:Mem} {b:Nat} {st:LSt} {F:List Nat}
theorem z4q (h:q0G m b st F) (w:LWf st) (name:List UInt8) :
  ∃m' F',run E22 (.fn 28) [.ptr (some ⟨b,0⟩),.str name] m=some (.tup [.int .u64 (z0U st name).1,.int .i64 (z0U st name).2.1],m')/\q0G m' b (z0U st name).2.2 F'/\Fr m m' F/\∀c,c∈F'->c∈F\/m.next<=c:=by
 have gp:=q9z (H:=H22) rfl h (by have:=w.lp;omega) name;have hlat:=w.lat;have hla:=w.la;obtain⟨sp,sq,sa,rp,rq,ra,h1,h2,h3,h4,h5,h6,h7,h8,h9,h10,hF⟩:=h.ex;have hb:=Mem.q0v h1;have a3:∀i:Nat,ld1 m (.ptr (some ⟨b,i⟩))=[sp,sq,sa,.int .u64 st.latest,.int .i64 st.most][i]?:=fun i=>q0f h1
 have gp0:=gp m (Fr.refl m);have done:∀v:AV,∃m' F',some (v,m)=some (v,m')/\q0G m' b st F'/\Fr m m' F/\∀c,c∈F'->c∈F\/m.next<=c:=fun v=>⟨m,F,rfl,h,Fr.refl' _ _,fun c hc=>.inl hc⟩
 unfold z0U;cases hk:q0Y q0c name (st.q0a.map (·.name)) with
 |false=>
  rw[z4o w hk]at gp0;simp only[if_true];simp only[z2D (H:=H22) rfl,T.f28,p2,q0b,wp,gp0,dt (show (-1:Int)<0 by omega)];exact done _
 |true=>
  rw[q9w w hk]at gp0;simp only[Bool.true_eq_false,if_false];obtain⟨ax,az,ac,ae,esa⟩:=h4.len;rw[xlm]at esa;have c0:=df (show ¬((st.iP name:Nat):Int)<0 by omega);by_cases hm:st.most<=(st.q0j.length:Int)
  ·rw[if_pos (.inl hm)];subst esa;simp only[z2D (H:=H22) rfl,T.f28,p2,q0b,wp,gp0,c0];simp only[q8N (H:=H22),T.j2o,p1,q1,p2,nnA,q0b,ifV,q0d,a3,dt (show (st.q0j.length:Int)>=st.most from hm)];exact done _
  ·by_cases hlt:72057594037927935<=st.latest
   ·rw[if_pos (.inr hlt)];subst esa;simp only[z2D (H:=H22) rfl,T.f28,p2,q0b,wp,gp0,c0];simp only[q8N (H:=H22),T.j2o,p1,q1,p2,nnA,q0b,ifV,q0d,a3,df (show ¬(st.q0j.length:Int)>=st.most from hm),dt (show st.latest>=72057594037927935 from hlt)];exact done _
   ·rw[if_neg (by omega)];clear done;obtain⟨m1,hm1⟩:∃m1,m1=m.put b (some (.cells [sp,sq,sa,.int .u64 (st.latest+1),.int .i64 st.most] false)):=⟨_,rfl⟩;have s1:stV m (.ptr (some ⟨b,3⟩)) (.int .u64 (st.latest+1)) 1=some m1:=by
     have:=q1B (v:=.int .u64 (st.latest+1)) (o:=3) (n:=1) h1 rfl rfl (by simp);rw[hm1];simpa using this
    have B1:m1.get b=some (.cells [sp,sq,sa,.int .u64 (st.latest+1),.int .i64 st.most] false):=by rw[hm1];exact q0w h1
    have n1:m1.next=m.next:=by rw[hm1];rfl
    have f1:Fr m m1 [b]:=by rw[hm1];exact Fr.put _ _ _
    have h4':=h4.frame f1 (fun c hc=>by simp only[xms];rintro rfl;exact h7 (by rw[hc];simp))
    obtain⟨bc,ex,m3,g1,g2,g3,g4,_⟩:=q2a (w:=40) h4' (q04 (by rw[xlm];omega) (by decide));have B3:=g3.get B1 (by simp);have n3:=g3.next
    obtain⟨m4,hm4⟩:∃m4,m4=m3.lay (.cells (q1k.mk (st.latest+1) name ⟨0,0⟩).cells false):=⟨_,rfl⟩;have f4:Fr m3 m4 []:=by rw[hm4];exact(Fr.refl m3).lay _
    have n4:m4.next=m3.next+1:=by rw[hm4];rfl
    have X4:m4.get m3.next=some (.cells (q1k.mk (st.latest+1) name ⟨0,0⟩).cells false):=by rw[hm4];exact q0e _ _
    obtain⟨s',m5,j1,j2,j3,j4⟩:=z6f (w:=40) (ex:=ex) h4.1 (f4.get g2 (by simp)) X4 rfl rfl (q04 (by rw[xlm];omega) (by decide));have B5:=j4.get (f4.get B3 (by simp)) (by simp;omega);have s'1:=j2.one;obtain⟨m6,hm6⟩:∃m6,m6=m5.put b (some (.cells [sp,sq,s',.int .u64 (st.latest+1),.int .i64 st.most] false)):=⟨_,rfl⟩;have s6:stV m5 (.ptr (some ⟨b,2⟩)) s' 1=some m6:=by
     have:=q1B (v:=s') (vs:=[s']) (o:=2) (n:=1) B5 (q3c s'1) rfl (by simp);rw[hm6];simpa using this
    have B6:m6.get b=some (.cells [sp,sq,s',.int .u64 (st.latest+1),.int .i64 st.most] false):=by rw[hm6];exact q0w B5
    have f6:Fr m5 m6 [b]:=by rw[hm6];exact Fr.put _ _ _
    have fA:Fr m m6 [b]:=(((f1.step g3 (by simp)).step f4 (by simp)).step j4 (fun c hc=>.inr (by simp at hc;omega))).step f6 (fun c hc=>.inl hc)
    have nb:∀{r:Option Nat},b∉r.toList->∀c,r=some c->c∉[b]:=fun hr c hc=>by simp only[xms];rintro rfl;exact hr (by rw[hc];simp)
    have e4:st.q0j.map (·.cells)++[(q1k.mk (st.latest+1) name ⟨0,0⟩).cells]=(st.q0j++[q1k.mk (st.latest+1) name ⟨0,0⟩]).map (·.cells):=by simp
    rw[e4]at j2;have lp:∀c,c∈rp.toList->c<m.next:=fun c hc=>by rw[Option.mem_toList]at hc;subst hc;exact h2.lt
    have lq:∀c,c∈rq.toList->c<m.next:=fun c hc=>by rw[Option.mem_toList]at hc;subst hc;exact h3.lt
    have n6:m.next<=m4.next:=by omega
    refine⟨m6,b::(rp.toList++rq.toList++(some m4.next).toList),?_,⟨sp,sq,s',rp,rq,some m4.next,B6,h2.frame fA (nb h5),h3.frame fA (nb h6),j2.frame f6 (fun c hc=>by cases hc;simp;omega),h5,h6,by simp;omega,h8,?_,?_,rfl⟩,fA.mono (by rw[hF];simp),?_⟩
    ·have a31:∀i:Nat,ld1 m1 (.ptr (some ⟨b,i⟩))=[sp,sq,sa,.int .u64 (st.latest+1),.int .i64 st.most][i]?:=fun i=>q0f B1
     have a32:∀i:Nat,ld1 (m1.lay (.cells [] false)) (.ptr (some ⟨b,i⟩))=[sp,sq,sa,.int .u64 (st.latest+1),.int .i64 st.most][i]?:=fun i=>q0f (((Fr.refl m1).lay _).get B1 (by simp))
     have a33:∀i:Nat,ld1 m3 (.ptr (some ⟨b,i⟩))=[sp,sq,sa,.int .u64 (st.latest+1),.int .i64 st.most][i]?:=fun i=>q0f B3
     have a36:∀i:Nat,ld1 m6 (.ptr (some ⟨b,i⟩))=[sp,sq,s',.int .u64 (st.latest+1),.int .i64 st.most][i]?:=fun i=>q0f B6
     have wl:IntKind.wrap .u64 (st.latest+1)=st.latest+1:=wrap_u64 (by omega) (by omega);have bs:=q4x (n:=4) (zs:=[.int .u64 0,.str [],.int .i64 0,.int .u64 0]) (cs:=(q1k.mk (st.latest+1) name ⟨0,0⟩).cells) rfl rfl rfl;simp only[q1k.cells]at bs hm4;subst esa;simp only[z2D (H:=H22) rfl,T.f28,p2,q0b,wp,gp0,c0];simp only[q8N (H:=H22),T.j2o,p1,q1,p2,nnA,q0b,ifV,q0d,a3,df (show ¬(st.q0j.length:Int)>=st.most from hm),df (show ¬st.latest>=72057594037927935 from hlt)]
     simp only[j2p (H:=H22),T.a4d,p1,q1,p2,sB,apE,q0n,AV.cells,Nat.reduceAdd,Nat.reduceLeDiff,nnA,q0T,a3,wl,s1,a32,g1,a33,bs,<-hm4,j1,s6,a36]
    ·intro c h1' h2';simp only[Option.toList_some,xms]at h2';have:=lp c h1';omega
    ·intro c h1' h2';simp only[Option.toList_some,xms]at h2';have:=lq c h1';omega
    ·intro c hc;rw[hF];simp only[xmk0,xma,Option.toList_some,List.not_mem_nil,or_false]at hc⊢;rcases hc with hc|(hc|hc)|hc
     ·exact .inl (.inl hc)
     ·exact .inl (.inr (.inl (.inl hc)))
     ·exact .inl (.inr (.inl (.inr hc)))
     ·exact .inr (by omega)
end
end
end Go.Proofs.YtlginbmjiecglaaGreatDoor
namespace Go.Abs
section
open Go
def q7E {α:Type} (f:α->Int):List α->Int
 |[]=>0
 |a::l=>f a+q7E f l
theorem q3H {α:Type} (f:α->Int):∀(l k:List α),q7E f (l++k)=q7E f l+q7E f k
 |[],k=>by simp[q7E]
 |a::l,k=>by simp only[List.cons_append,q7E,q3H f l k];omega
theorem q9H {α:Type} (f:α->Int):∀{l:List α} {i:Nat} {y:α} (x:α),l[i]? = some y->q7E f (l.set i x)=q7E f l+(f x-f y)
 |[],_,_,_,h=>by simp at h
 |a::l,0,y,x,h=>by
  simp only[ge,xoi]at h;subst h;simp only[List.set_cons_zero,q7E];omega
 |a::l,i+1,y,x,h=>by
  simp only[ge]at h;simp only[List.set_cons_succ,q7E,q9H f x h];omega
theorem j0Q {α:Type} (f:α->Int) (i:Nat) (x:α) (l:List α):q7E f (q2Q i x l)=q7E f l+f x:=by
 have h:q7E f l=q7E f (l.take i)+q7E f (l.drop i):=by rw[<-q3H,List.take_append_drop]
 unfold q2Q;rw[q3H,h];simp only[q7E];omega
theorem q7r {α:Type} (f:α->Int):∀{l:List α},(∀x∈l,f x=0)->q7E f l=0
 |[],_=>rfl
 |a::l,h=>by rw[q7E,h a xmc,q7r f fun x hx=>h x (List.mem_cons_of_mem _ hx)];rfl
theorem a0H {κ:Type} {lt:κ->κ->Bool} (irr:∀a,lt a a=false) {ks:List κ} (h:Srt lt ks) {i j:Nat} {k:κ} (hi:ks[i]? = some k) (hj:ks[j]? = some k):i=j:=by
 obtain⟨h1,e1⟩:=xgi.1 hi;obtain⟨h2,e2⟩:=xgi.1 hj;rcases Nat.lt_trichotomy i j with h3|h3|h3
 ·have:=q2q h h3 h2;rw[e1,e2,irr]at this;cases this
 ·exact h3
 ·have:=q2q h h3 h1;rw[e1,e2,irr]at this;cases this
theorem z9l {κ:Type} [DecidableEq κ] {lt:κ->κ->Bool} (irr:∀a,lt a a=false) {k:κ} {ks:List κ} (h:Srt lt ks):q0Y lt k ks=true↔k∈ks:=by
 rw[a7a irr h,decide_eq_true_iff]
theorem z9n {κ:Type} [DecidableEq κ] {lt:κ->κ->Bool} (irr:∀a,lt a a=false) {k:κ} {ks:List κ} (h:Srt lt ks) (h':q0Y lt k ks=false):k∉ks:=fun hm=>by
 rw[(z9l irr h).2 hm]at h';cases h'
theorem j3X {ps:List q0r} (h:Srt q0c (ps.map (·.name))) {k:List UInt8}:q0Y q0c k (ps.map (·.name))=true↔k∈ps.map (·.name):=z9l q0K h
theorem q82 {st:LSt} {k:List UInt8}:(st.q3k k).isSome=true↔q0Y q0c k (st.q0a.map (·.name))=true:=by
 constructor
 ·intro h;cases hk:q0Y q0c k (st.q0a.map (·.name)) with
  |true=>rfl
  |false=>rw[LSt.q2E hk]at h;cases h
 ·intro h;obtain⟨p,p1,_⟩:=LSt.q1I h;rw[p1];rfl
theorem q1K {st:LSt} (h:Srt q0c (st.q0a.map (·.name))) {k:List UInt8}:(st.q3k k).isSome=true↔k∈st.q0a.map (·.name):=q82.trans (j3X h)
def sA (n:List UInt8):List q1k->Int:=q7E fun a=>if a.q1C=n then a.bal.val else 0
def sQ (n:List UInt8):List q0D->Int:=q7E fun q=>(if q.x=n then q.inx.val else 0)+(if q.y=n then q.q1H.val else 0)
def z2q (qs:List q0D) (az:List q1k) (p:q0r):Int:=p.out.val+sA p.name az+sQ p.name qs
structure LGood (st:LSt):Prop where
 w:LWf st
 am:(st.q0j.length:Int)<=st.most
 mo:1<=st.most/\st.most<=64
 a1:∀a∈st.q0j,1<=a.id/\0<=a.bal.val
 q1:∀q∈st.pairs,q.x≠q.y/\0<=q.inx.val/\q.q1H.val<=0
structure q3j (st:LSt):Prop extends LGood st where
 su:∀p∈st.q0a,z2q st.pairs st.q0j p=0
theorem LGood.q0j {st:LSt} (g:LGood st) {az:List q1k} (hid:az.map (·.id)=st.q0j.map (·.id)) (hall:∀a∈az,a.bal.ok/\1<=a.id/\a.id<=st.latest/\(st.q3k a.q1C).isSome=true/\0<=a.bal.val):LGood {st with q0j:=az}:=by
 have hl:az.length=st.q0j.length:=by have:=congrArg List.length hid;simpa using this
 exact {
  w:={sp:=g.w.sp,lp:=g.w.lp,sq:=g.w.sq,lq:=g.w.lq,sa:=by show Srt q0p (az.map (·.id));rw[hid];exact g.w.sa,la:=by show az.length<=64;rw[hl];exact g.w.la,okp:=g.w.okp,okq:=g.w.okq,
      oka:=fun a ha=>⟨(hall a ha).1,by have:=(hall a ha).2.1;omega,(hall a ha).2.2.1,(hall a ha).2.2.2.1⟩,lat:=g.w.lat}
  am:=by show (az.length:Int)<=st.most;rw[hl];exact g.am
  mo:=g.mo
  a1:=fun a ha=>⟨(hall a ha).2.1,(hall a ha).2.2.2.2⟩
  q1:=g.q1}
theorem LGood.q14 {st:LSt} (g:LGood st) {i:Nat} {a:q1k} (hi:st.q0j[i]? = some a) {n:Wd} (hn:n.ok) (h0:0<=n.val):LGood {st with q0j:=st.q0j.set i {a with bal:=n}}:=by
 have ma:=List.mem_of_getElem? hi;refine g.q0j ?_ fun x hx=>?_
 ·rw[List.map_set];exact q11 (by rw[List.getElem?_map,hi];rfl)
 ·rcases List.mem_or_eq_of_mem_set hx with hx|rfl
  ·exact⟨(g.w.oka x hx).1,(g.a1 x hx).1,(g.w.oka x hx).2.2.1,(g.w.oka x hx).2.2.2,(g.a1 x hx).2⟩
  ·exact⟨hn,(g.a1 a ma).1,(g.w.oka a ma).2.2.1,(g.w.oka a ma).2.2.2,h0⟩
theorem LGood.j0I {st:LSt} (g:LGood st) {i:Nat} {p:q0r} (hi:st.q0a[i]? = some p) {n:Wd} (hn:n.ok):LGood {st with q0a:=st.q0a.set i {p with out:=n}}:=by
 have mp:=List.mem_of_getElem? hi;have names:(st.q0a.set i {p with out:=n}).map (·.name)=st.q0a.map (·.name):=by
  rw[List.map_set];exact q11 (by rw[List.getElem?_map,hi];rfl)
 have gp:∀k,(st.q3k k).isSome=true->(LSt.q3k {st with q0a:=st.q0a.set i {p with out:=n}} k).isSome=true:=fun k hk=>by
  rw[q82]at hk⊢;show q0Y q0c k ((st.q0a.set i {p with out:=n}).map (·.name))=true
  rw[names];exact hk
 exact {
  w:={sp:=by show Srt q0c ((st.q0a.set i {p with out:=n}).map (·.name));rw[names];exact g.w.sp
      lp:=by show (st.q0a.set i _).length<=8;rw[List.length_set];exact g.w.lp
      sq:=g.w.sq,lq:=g.w.lq,sa:=g.w.sa,la:=g.w.la
      okp:=fun x hx=>by
       rcases List.mem_or_eq_of_mem_set hx with hx|rfl
       ·exact g.w.okp x hx
       ·have:=g.w.okp p mp;exact⟨this.1,this.2.1,hn,this.2.2.2⟩
      okq:=fun q hq=>by have:=g.w.okq q hq;exact⟨this.1,this.2.1,this.2.2.1,this.2.2.2.1,gp _ this.2.2.2.2.1,gp _ this.2.2.2.2.2⟩
      oka:=fun a ha=>by have:=g.w.oka a ha;exact⟨this.1,this.2.1,this.2.2.1,gp _ this.2.2.2⟩
      lat:=g.w.lat}
  am:=g.am,mo:=g.mo,a1:=g.a1,q1:=g.q1}
theorem q2I:∀{a b c d:List UInt8},a.length=b.length->q0c (a++c) (b++d)=(q0c a b||(decide (a=b)&&q0c c d))
 |[],[],c,d,_=>by simp[q0c]
 |[],_::_,_,_,h=>by simp at h
 | _::_,[],_,_,h=>by simp at h
 |a::x,b::y,c,d,h=>by
  simp only[List.cons_append,q0c];rw[q2I (a:=x) (b:=y) (by simpa using h)];by_cases e:a=b
  ·subst e;simp
  ·simp[e]
theorem z6i:∀{l:List Nat} {lo hi:Nat},l.Pairwise (· < ·)->(∀x∈l,lo<=x/\x<hi)->l.length<=hi-lo
 |[],_,_,_,_=>by simp
 |a::l,lo,hi,h,hb=>by
  rw[List.pairwise_cons]at h;have h1:=hb a xmc;have:=z6i (lo:=a+1) (hi:=hi) h.2 fun x hx=>⟨h.1 x hx,(hb x (List.mem_cons_of_mem _ hx)).2⟩
  simp only[List.length_cons];omega
theorem z9H {ks:List (List UInt8)} (hs:Srt q0c ks) {a b:List UInt8} (ha:a∈ks) (hb:b∈ks) (h:q0c a b=true):lb q0c a ks<lb q0c b ks:=by
 obtain⟨i,hi,rfl⟩:=List.mem_iff_getElem.1 ha;obtain⟨j,hj,rfl⟩:=List.mem_iff_getElem.1 hb;have e:∀i (hi:i<ks.length),lb q0c ks[i] ks=i:=fun i hi=>q2G (Nat.le_of_lt hi) (fun j h hj=>q2q hs hj hi) (fun _=>q0K _)
 rw[e i hi,e j hj];rcases Nat.lt_trichotomy i j with h3|h3|h3
 ·exact h3
 ·subst h3;rw[q0K]at h;cases h
 ·have h4:=q2q hs h3 hi;have:=q05 _ _ _ h h4;rw[q0K]at this;cases this
theorem z9G {ks:List (List UInt8)} (hs:Srt q0c ks) {a:List UInt8} (ha:a∈ks):lb q0c a ks<ks.length:=by
 obtain⟨i,hi,rfl⟩:=List.mem_iff_getElem.1 ha;have e:lb q0c ks[i] ks=i:=q2G (Nat.le_of_lt hi) (fun j h hj=>q2q hs hj hi) (fun _=>q0K _)
 rw[e];exact hi
theorem z0W {ks:List (List UInt8)} (hs:Srt q0c ks) (hl:ks.length<=8) (h3:∀k∈ks,k.length=3) {qs:List q0D} (hq:Srt q0c (qs.map (·.key))) (hm:∀q∈qs,q.x∈ks/\q.y∈ks):qs.length<=64:=by
 have key:(qs.map fun q=>8*lb q0c q.x ks+lb q0c q.y ks).Pairwise (· < ·):=by
  rw[List.pairwise_map];unfold Srt at hq;rw[List.pairwise_map]at hq;refine List.Pairwise.imp_of_mem ?_ hq;intro a b ma mb hab;obtain⟨ax,ay⟩:=hm a ma;obtain⟨bx,bY⟩:=hm b mb;unfold q0D.key at hab;rw[q2I (by rw[h3 _ ax,h3 _ bx])]at hab;have l1:=z9G hs ay;simp only[Bool.or_eq_true,Bool.and_eq_true,decide_eq_true_eq]at hab;rcases hab with h|⟨h,h'⟩
  ·have:=z9H hs ax bx h;omega
  ·have:=z9H hs ay bY h';rw[h];omega
 have:=z6i (lo:=0) (hi:=64) key fun x hx=>by
  obtain⟨q,hq',rfl⟩:=List.mem_map.1 hx;obtain⟨ax,ay⟩:=hm q hq';have:=z9G hs ax;have:=z9G hs ay;omega
 simpa using this
theorem LGood.pairs {st:LSt} (g:LGood st) {qs:List q0D} (hs:Srt q0c (qs.map (·.key))) (hall:∀q∈qs,(q.rate.ok/\q4B q.rate q.q06=true/\q.inx.ok/\q.q1H.ok/\(st.q3k q.x).isSome=true/\(st.q3k q.y).isSome=true)/\q.x≠q.y/\0<=q.inx.val/\q.q1H.val<=0) :
  LGood {st with pairs:=qs}:={
 w:={sp:=g.w.sp,lp:=g.w.lp,sq:=hs
     lq:=z0W (ks:=st.q0a.map (·.name)) g.w.sp (by rw[xlm];exact g.w.lp) (fun k hk=>by
      obtain⟨p,hp,rfl⟩:=List.mem_map.1 hk;have:=(g.w.okp p hp).2.2.2;unfold q3x at this;simp only[Bool.and_eq_true,decide_eq_true_eq]at this;exact this.2) hs fun q hq=>⟨(q1K g.w.sp).1 (hall q hq).1.2.2.2.2.1,(q1K g.w.sp).1 (hall q hq).1.2.2.2.2.2⟩
     sa:=g.w.sa,la:=g.w.la,okp:=g.w.okp,okq:=fun q hq=>(hall q hq).1,oka:=g.w.oka,lat:=g.w.lat}
 am:=g.am,mo:=g.mo,a1:=g.a1,q1:=fun q hq=>(hall q hq).2}
theorem LGood.full {st:LSt} (g:LGood st):∀q∈st.pairs,(q.rate.ok/\q4B q.rate q.q06=true/\q.inx.ok/\q.q1H.ok/\(st.q3k q.x).isSome=true/\(st.q3k q.y).isSome=true)/\q.x≠q.y/\0<=q.inx.val/\q.q1H.val<=0:=fun q hq=>⟨g.w.okq q hq,g.q1 q hq⟩
theorem q9m {α:Type} {i:Nat} {x y:α} {l:List α} (h:y∈q2Q i x l):y=x\/y∈l:=by
 unfold q2Q at h;simp only[xma,xmk0]at h;rcases h with h|rfl|h
 ·exact .inr (List.mem_of_mem_take h)
 ·exact .inl rfl
 ·exact .inr (List.mem_of_mem_drop h)
theorem j30 {α:Type} {i:Nat} {x y:α} {l:List α} (h:y=x\/y∈l):y∈q2Q i x l:=by
 unfold q2Q;rcases h with rfl|h
 ·simp
 ·rw[<-List.take_append_drop i l,xma]at h;simp only[xma,xmk0];rcases h with h|h
  ·exact .inl h
  ·exact .inr (.inr h)
theorem LGood.q4N {st:LSt} (g:LGood st) {q:q0D} (hq:(q.rate.ok/\q4B q.rate q.q06=true/\q.inx.ok/\q.q1H.ok/\(st.q3k q.x).isSome=true/\(st.q3k q.y).isSome=true)/\q.x≠q.y/\0<=q.inx.val/\q.q1H.val<=0) :
  LGood (st.q4N q)/\(q0Y q0c q.key (st.pairs.map (·.key))=false->(st.q4N q).pairs=q2Q (st.iQ q.key) q st.pairs):=by
 cases hk:q0Y q0c q.key (st.pairs.map (·.key)) with
 |true=>
  refine⟨?_,nofun⟩;have e:st.q4N q={st with pairs:=st.pairs.set (st.iQ q.key) q}:=by unfold LSt.q4N;rw[if_pos hk]
  rw[e];refine g.pairs ?_ fun x hx=>?_
  ·rw[List.map_set];unfold LSt.iQ;rw[q11 (q31 hk)];exact g.w.sq
  ·rcases List.mem_or_eq_of_mem_set hx with hx|rfl
   ·exact g.full x hx
   ·exact hq
 |false=>
  have hn:q.key∉st.pairs.map (·.key):=z9n q0K g.w.sq hk;have hs:Srt q0c ((q2Q (st.iQ q.key) q st.pairs).map (·.key)):=by
   rw[q3u];exact j6r q05 q2J g.w.sq hn
  have gg:LGood {st with pairs:=q2Q (st.iQ q.key) q st.pairs}:=g.pairs hs fun x hx=>by
   rcases q9m hx with rfl|hx
   ·exact hq
   ·exact g.full x hx
  have hl:=gg.w.lq;have hi:st.iQ q.key<=st.pairs.length:=by have:=q9i (lt:=q0c) q.key (st.pairs.map (·.key));rw[xlm]at this;exact this
  rw[show (LSt.pairs {st with pairs:=q2Q (st.iQ q.key) q st.pairs}).length=st.pairs.length+1 from q6t hi]at hl
  have e:st.q4N q={st with pairs:=q2Q (st.iQ q.key) q st.pairs}:=by
   unfold LSt.q4N;rw[if_neg (by rw[hk];decide),if_pos (by omega)]
  rw[e];exact⟨gg,fun _=>rfl⟩
end
section
open Go
theorem q78 {l:List q1k} {i:Nat} {a:q1k} (h:l[i]? = some a) (v:Wd) (n:List UInt8):sA n (l.set i {a with bal:=v})=sA n l+(if a.q1C=n then v.val-a.bal.val else 0):=by
 unfold sA;rw[q9H _ _ h];by_cases e:a.q1C=n
 ·rw[if_pos e,if_pos e,if_pos e]
 ·rw[if_neg e,if_neg e,if_neg e];rfl
theorem q3j.j6x {st:LSt} (g:q3j st) {i:Nat} {p:q0r} (hi:st.q0a[i]? = some p) {n:Wd} {az:List q1k} {qs:List q0D}
  (h:n.val-p.out.val+(sA p.name az-sA p.name st.q0j)+(sQ p.name qs-sQ p.name st.pairs)=0) (ho:∀k,k≠p.name->sA k az+sQ k qs=sA k st.q0j+sQ k st.pairs):∀x∈st.q0a.set i {p with out:=n},z2q qs az x=0:=by
 intro x hx;obtain⟨j,hj⟩:=List.getElem?_of_mem hx;have gp:=g.su p (List.mem_of_getElem? hi);unfold z2q at gp⊢;rw[List.getElem?_set]at hj;by_cases e:i=j
 ·subst e;rw[if_pos rfl]at hj;split at hj
  ·cases hj;simp only;omega
  ·cases hj
 ·rw[if_neg e]at hj;have gx:=g.su x (List.mem_of_getElem? hj);unfold z2q at gx;have:=ho x.name fun e2=>e (a0H q0K g.w.sp (k:=p.name) (by rw[List.getElem?_map,hi];rfl) (by rw[List.getElem?_map,hj];simp[e2]))
  omega
theorem q3j.q7p {st:LSt} (g:q3j st) {az:List q1k} {qs:List q0D} (ho:∀k,sA k az+sQ k qs=sA k st.q0j+sQ k st.pairs):∀x∈st.q0a,z2q qs az x=0:=fun x hx=>by
 have:=g.su x hx;have:=ho x.name;unfold z2q at *;omega
theorem q3j.new (most:Int) (h:1<=most/\most<=64):q3j ⟨[],[],[],0,most⟩ where
 w:={sp:=by simp[Srt],lp:=by simp,sq:=by simp[Srt],lq:=by simp,sa:=by simp[Srt],la:=by simp,okp:=by simp,okq:=by simp,oka:=by simp,lat:=by simp}
 am:=by simp;omega
 mo:=h
 a1:=by simp
 q1:=by simp
 su:=by simp
theorem z6w {st:LSt} (g:q3j st) (name:List UInt8) {scale:Int} (h0:0<=scale):q3j (z1G st name scale).2:=by
 unfold z1G;split
 ·exact g
 split
 ·exact g
 split
 ·exact g
 split
 ·exact g
 rename_i h1 h2 h3 h4;have hk:q0Y q0c name (st.q0a.map (·.name))=false:=by simpa using h3
 have hn:name∉st.q0a.map (·.name):=z9n q0K g.w.sp hk;obtain⟨i,hi⟩:∃i,i=lb q0c name (st.q0a.map (·.name)):=⟨_,rfl⟩;have hl:i<=st.q0a.length:=by rw[hi];have:=q9i (lt:=q0c) name (st.q0a.map (·.name));rw[xlm]at this;exact this
 have hs:Srt q0c ((q2Q i (q0r.mk name scale ⟨0,0⟩) st.q0a).map (·.name)):=by
  rw[q3u,hi];exact j6r q05 q2J g.w.sp hn
 rw[<-hi];have gp:∀k,(st.q3k k).isSome=true->(LSt.q3k {st with q0a:=q2Q i ⟨name,scale,⟨0,0⟩⟩ st.q0a} k).isSome=true:=fun k hk=>by
  rw[q1K g.w.sp]at hk;rw[q1K hs];show k∈(q2Q i (q0r.mk name scale ⟨0,0⟩) st.q0a).map (·.name);rw[q3u];exact j30 (.inr hk)
 have nc:∀k,(st.q3k k).isSome=true->k≠name:=fun k hk e=>hn (by rw[<-e];exact(q1K g.w.sp).1 hk)
 exact {
  w:={sp:=hs,lp:=by show (q2Q i (q0r.mk name scale ⟨0,0⟩) st.q0a).length<=8;rw[q6t hl];omega
      sq:=g.w.sq,lq:=g.w.lq,sa:=g.w.sa,la:=g.w.la
      okp:=fun x hx=>by
       rcases q9m hx with rfl|hx
       ·exact⟨h0,by show scale<=18;omega,by unfold Wd.ok;simp,by simpa using h1⟩
       ·exact g.w.okp x hx
      okq:=fun q hq=>by have:=g.w.okq q hq;exact⟨this.1,this.2.1,this.2.2.1,this.2.2.2.1,gp _ this.2.2.2.2.1,gp _ this.2.2.2.2.2⟩
      oka:=fun a ha=>by have:=g.w.oka a ha;exact⟨this.1,this.2.1,this.2.2.1,gp _ this.2.2.2⟩
      lat:=g.w.lat}
  am:=g.am,mo:=g.mo,a1:=g.a1,q1:=g.q1
  su:=fun x hx=>by
   rcases q9m hx with rfl|hx
   ·unfold z2q;have z1:sA name st.q0j=0:=q7r _ fun a ha=>if_neg (nc _ (g.w.oka a ha).2.2.2)
    have z2:sQ name st.pairs=0:=q7r _ fun q hq=>by rw[if_neg (nc _ (g.w.okq q hq).2.2.2.2.1),if_neg (nc _ (g.w.okq q hq).2.2.2.2.2)];rfl
    simp only[z1,z2];rfl
   ·exact g.su x hx}
theorem z0V {st:LSt} (g:q3j st) (name:List UInt8):q3j (z0U st name).2.2:=by
 unfold z0U;split
 ·exact g
 split
 ·exact g
 rename_i h1 h2;have hk:q0Y q0c name (st.q0a.map (·.name))=true:=by simpa using h1
 have hp:=q82.2 hk;have l0:=g.w.lat;exact {
  w:={sp:=g.w.sp,lp:=g.w.lp,sq:=g.w.sq,lq:=g.w.lq
      sa:=by
       show Srt q0p ((st.q0j++[q1k.mk (st.latest+1) name ⟨0,0⟩]).map (·.id));unfold Srt;rw[List.map_append,List.pairwise_append];refine⟨g.w.sa,by simp,fun x hx y hy=>?_⟩
       obtain⟨a,ha,rfl⟩:=List.mem_map.1 hx;simp only[List.map_cons,List.map_nil,xms]at hy;subst hy;have:=(g.w.oka a ha).2.2.1;simp[q0p];omega
      la:=by show (st.q0j++[q1k.mk (st.latest+1) name ⟨0,0⟩]).length<=64;rw[xla0];have:=g.mo;simp;omega
      okp:=g.w.okp,okq:=g.w.okq
      oka:=fun a ha=>by
       have hx:a∈st.q0j++[q1k.mk (st.latest+1) name ⟨0,0⟩]:=ha;rw[xma,xms]at hx;rcases hx with hx|rfl
       ·have:=g.w.oka a hx;exact⟨this.1,this.2.1,by show a.id<=st.latest+1;omega,this.2.2.2⟩
       ·exact⟨by unfold Wd.ok;simp,by show 0<=st.latest+1;omega,Int.le_refl _,hp⟩
      lat:=by show 0<=st.latest+1/\st.latest+1<=72057594037927935;omega}
  am:=by show ((st.q0j++[q1k.mk (st.latest+1) name ⟨0,0⟩]).length:Int)<=st.most;rw[xla0];simp;omega
  mo:=g.mo
  a1:=fun a ha=>by
   have hx:a∈st.q0j++[q1k.mk (st.latest+1) name ⟨0,0⟩]:=ha;rw[xma,xms]at hx;rcases hx with hx|rfl
   ·exact g.a1 a hx
   ·exact⟨by show 1<=st.latest+1;omega,by show (0:Int)<=(Wd.mk 0 0).val;simp[Wd.val]⟩
  q1:=g.q1
  su:=g.q7p fun k=>by
   show sA k (st.q0j++[q1k.mk (st.latest+1) name ⟨0,0⟩])+_=_;unfold sA;rw[q3H];simp only[q7E,show (Wd.mk 0 0).val=0 from by simp[Wd.val],ite_self];omega}
theorem q4Y {p:q0r} {w:Wd} {s:Int} (h:q2t p w s=0):s=p.scale/\0<w.val:=by
 unfold q2t at h;split at h
 ·omega
 ·split at h
  ·omega
  ·omega
theorem LSt.q1L {st:LSt} {id:Int} {a:q1k} (h:st.q7S id=some a):a.id=id/\st.q0j[st.iA a.id]? = some a:=by
 cases hk:q0Y q0p id (st.q0j.map (·.id)) with
 |false=>rw[LSt.q3Z hk]at h;cases h
 |true=>
  obtain⟨a',a1,a2,a3,_⟩:=LSt.q1x hk;rw[h]at a1;cases a1;exact⟨a2,by rw[a2];exact a3⟩
theorem LSt.z1T {st:LSt} {k:List UInt8} {p:q0r} (h:st.q3k k=some p):p.name=k/\st.q0a[st.iP p.name]? = some p:=by
 cases hk:q0Y q0c k (st.q0a.map (·.name)) with
 |false=>rw[LSt.q2E hk]at h;cases h
 |true=>
  obtain⟨a',a1,a2,a3,_⟩:=LSt.q1I hk;rw[h]at a1;cases a1;exact⟨a2,by rw[a2];exact a3⟩
theorem LSt.z1U {st:LSt} {k:List UInt8} {p:q0D} (h:st.z9i k=some p):p.key=k/\st.pairs[st.iQ p.key]? = some p/\q0Y q0c k (st.pairs.map (·.key))=true:=by
 cases hk:q0Y q0c k (st.pairs.map (·.key)) with
 |false=>rw[LSt.q61 hk]at h;cases h
 |true=>
  obtain⟨a',a1,a2,a3,_⟩:=LSt.q5a hk;rw[h]at a1;cases a1;exact⟨a2,by rw[a2];exact a3,rfl⟩
theorem q4X {x y w:Wd} (h:q3Y x y w=true):q0M (x.val-w.val)=true/\q0M (y.val+w.val)=true:=by
 unfold q3Y at h;rwa [Bool.and_eq_true]at h
theorem q5Y {st:LSt} (g:q3j st) (id:Int) (x:Wd) (s:Int):q3j (q3p st id x s).2:=by
 unfold q3p;rcases LSt.q1D g.w id with ⟨e,_⟩|⟨a,p,e,ga,gp,hid,hka,hpn,hkp,ma,mp⟩
 ·rw[e];exact g
 ·rw[e];simp only[ne_eq,not_true_eq_false,if_false];split
  ·exact g
  split
  ·rename_i h1 h2;obtain⟨f1,f2⟩:=q4X h2;have hf:q2t p x s=0:=by simpa using h1
   have hx:=(q4Y hf).2;have ga2:=(LSt.q1L ga).2;have gp2:=(LSt.z1T gp).2;have h0:=(g.a1 a ma).2;have g1:=g.toLGood.q14 ga2 (Wd.q3y f2) (by rw[Wd.q1t];omega);have g2:=g1.j0I (i:=st.iP p.name) (p:=p) gp2 (Wd.q3y f1);refine {toLGood:=g2,su:=?_};refine g.j6x gp2 (az:=st.q0j.set (st.iA a.id) {a with bal:=Wd.of (a.bal.val+x.val)}) (qs:=st.pairs) ?_ fun k hk=>?_
   ·rw[q78 ga2,Wd.q1t,Wd.q1t,if_pos hpn.symm];omega
   ·rw[q78 ga2,if_neg (fun e=>hk (by rw[<-e,hpn]))];omega
  ·exact g
theorem q9L {st:LSt} (g:q3j st) (id:Int) (x:Wd) (s:Int):q3j (q2M st id x s).2:=by
 unfold q2M;rcases LSt.q1D g.w id with ⟨e,_⟩|⟨a,p,e,ga,gp,hid,hka,hpn,hkp,ma,mp⟩
 ·rw[e];exact g
 ·rw[e];simp only[ne_eq,not_true_eq_false,if_false];split
  ·exact g
  split
  ·exact g
  split
  ·rename_i h1 h3 h2;obtain⟨f1,f2⟩:=q4X h2;have ga2:=(LSt.q1L ga).2;have gp2:=(LSt.z1T gp).2;have g1:=g.toLGood.q14 ga2 (Wd.q3y f1) (by rw[Wd.q1t];omega);have g2:=g1.j0I (i:=st.iP p.name) (p:=p) gp2 (Wd.q3y f2);refine {toLGood:=g2,su:=?_};refine g.j6x gp2 (az:=st.q0j.set (st.iA a.id) {a with bal:=Wd.of (a.bal.val-x.val)}) (qs:=st.pairs) ?_ fun k hk=>?_
   ·rw[q78 ga2,Wd.q1t,Wd.q1t,if_pos hpn.symm];omega
   ·rw[q78 ga2,if_neg (fun e=>hk (by rw[<-e,hpn]))];omega
  ·exact g
theorem LGood.a7u {st:LSt} (g:LGood st) {a a':q1k} {i j:Int} (ga:st.q7S i=some a) (ga':st.q7S j=some a') (hij:i≠j) {n n':Wd} (hn:n.ok) (hn':n'.ok) (h0:0<=n.val) (h0':0<=n'.val) :
  LGood ((st.q14 {a with bal:=n}).q14 {a' with bal:=n'})/\(∀k,sA k ((st.q14 {a with bal:=n}).q14 {a' with bal:=n'}).q0j=sA k st.q0j+(if a.q1C=k then n.val-a.bal.val else 0)+(if a'.q1C=k then n'.val-a'.bal.val else 0)):=by
 obtain⟨e1,g1⟩:=LSt.q1L ga;obtain⟨e2,g2⟩:=LSt.q1L ga';have ne:st.iA a.id≠st.iA a'.id:=fun e=>by
  rw[e,g2]at g1;cases g1;exact hij (e1.symm.trans e2)
 have hka:q0Y q0p a.id (st.q0j.map (·.id))=true:=by
  cases hk:q0Y q0p a.id (st.q0j.map (·.id)) with
  |true=>rfl
  |false=>rw[<-e1,LSt.q3Z hk]at ga;cases ga
 have hi2:(st.q14 {a with bal:=n}).iA a'.id=st.iA a'.id:=by
  unfold LSt.iA;rw[LSt.q5c (st:=st) (a:={a with bal:=n}) hka]
 have q2:(st.q14 {a with bal:=n}).q0j[st.iA a'.id]? = some a':=by
  show (st.q0j.set (st.iA a.id) _)[st.iA a'.id]? = _;rw[List.getElem?_set_ne ne];exact g2
 have l1:LGood (st.q14 {a with bal:=n}):=g.q14 g1 hn h0
 have l2:=l1.q14 q2 hn' h0';refine⟨?_,fun k=>?_⟩
 ·show LGood {(st.q14 {a with bal:=n}) with q0j:=(st.q14 {a with bal:=n}).q0j.set ((st.q14 {a with bal:=n}).iA a'.id) {a' with bal:=n'}}
  rw[hi2];exact l2
 ·show sA k ((st.q14 {a with bal:=n}).q0j.set ((st.q14 {a with bal:=n}).iA a'.id) {a' with bal:=n'})=_
  rw[hi2,q78 q2];show sA k (st.q0j.set (st.iA a.id) {a with bal:=n})+_=_
  rw[q78 g1]
theorem q9J {st:LSt} (g:q3j st) (i j:Int) (x:Wd) (s:Int):q3j (q2K st i j x s).2:=by
 unfold q2K;rcases LSt.q1D g.w i with ⟨e,_⟩|⟨a,p,e,ga,gp,hid,hka,hpn,hkp,ma,mp⟩
 ·rw[e];exact g
 ·rcases LSt.q1D g.w j with ⟨e',_⟩|⟨a',p',e',ga',gp',hid',hka',hpn',hkp',ma',mp'⟩
  ·rw[e,e'];exact g
  ·rw[e,e'];simp only[ne_eq,not_true_eq_false,if_false];split
   ·exact g
   split
   ·exact g
   split
   ·exact g
   split
   ·exact g
   split
   ·rename_i h1 h2 h3 h4 h5;obtain⟨f1,f2⟩:=q4X h5;have hf:q2t p x s=0:=by simpa using h3
    have hx:=(q4Y hf).2;have hnn:p.name=p'.name:=by simpa using h2
    obtain⟨l1,l2⟩:=g.toLGood.a7u ga ga' h1 (Wd.q3y f1) (Wd.q3y f2) (by rw[Wd.q1t];omega) (by rw[Wd.q1t];have:=(g.a1 a' ma').2;omega);refine {toLGood:=l1,su:=g.q7p fun k=>?_}
    rw[l2,Wd.q1t,Wd.q1t,<-hpn,<-hpn',hnn];show _+sQ k st.pairs=_;split<;>omega
   ·exact g
theorem j6v {l:List q0D} {i:Nat} {q:q0D} (h:l[i]? = some q) {q':q0D} (hx:q'.x=q.x) (hy:q'.y=q.y) (n:List UInt8) :
  sQ n (l.set i q')=sQ n l+(if q.x=n then q'.inx.val-q.inx.val else 0)+(if q.y=n then q'.q1H.val-q.q1H.val else 0):=by
 unfold sQ;rw[q9H _ _ h];simp only[hx,hy];split<;>split<;>omega
theorem q5o {w:Wd} {s:Int} (h:q5n w s=0):q4B w s=true:=by
 unfold q5n at h;unfold q4B;split at h
 ·rename_i h1;split at h
  ·exact dt ⟨h1,by assumption⟩
  ·omega
 ·omega
theorem j0e {st:LSt} (g:q3j st) (x y:List UInt8) {r:Wd} (hr:r.ok) (s:Int):q3j (z2d st x y r s).2:=by
 unfold z2d;split
 ·exact g
 split
 ·exact g
 split
 ·exact g
 rename_i h1 h2 h3;have hrr:=q5o (by simpa using h3);have hxs:(st.q3k x).isSome=true:=by cases e:(st.q3k x).isSome with|true=>rfl|false=>exact absurd (.inl e) h1
 have hys:(st.q3k y).isSome=true:=by cases e:(st.q3k y).isSome with|true=>rfl|false=>exact absurd (.inr e) h1
 cases hq:st.z9i (x++y) with
 |none=>
  obtain⟨l1,l2⟩:=g.toLGood.q4N (q:={q9N with x:=x,y:=y,rate:=r,q06:=s}) ⟨⟨hr,hrr,by simp[q9N,Wd.ok],by simp[q9N,Wd.ok],hxs,hys⟩,h2,by simp[q9N,Wd.val],by simp[q9N,Wd.val]⟩
  have hk:q0Y q0c (x++y) (st.pairs.map (·.key))=false:=by
   cases hk:q0Y q0c (x++y) (st.pairs.map (·.key)) with
   |false=>rfl
   |true=>obtain⟨q,q1,_⟩:=LSt.q5a hk;rw[hq]at q1;cases q1
  refine {toLGood:=l1,su:=?_};rw[show (LSt.q4N st {(none.getD q9N) with x:=x,y:=y,rate:=r,q06:=s}).pairs=_ from l2 hk]
  refine g.q7p fun k=>?_
  show sA k st.q0j+_=_;unfold sQ;rw[j0Q];simp only[q9N,show (Wd.mk 0 0).val=0 from by simp[Wd.val],ite_self];omega
 |some q=>
  obtain⟨e1,e2,e3⟩:=LSt.z1U hq;have mq:=List.mem_of_getElem? e2;have l3:=g.w.okq q mq;have l4:=g.q1 q mq;obtain⟨l1,_⟩:=g.toLGood.q4N (q:={q with x:=x,y:=y,rate:=r,q06:=s}) ⟨⟨hr,hrr,l3.2.2.1,l3.2.2.2.1,hxs,hys⟩,h2,l4.2⟩
  refine {toLGood:=l1,su:=?_};have hlen:∀k,(st.q3k k).isSome=true->k.length=3:=fun k hk=>by
   have:=(q1K g.w.sp).1 hk;obtain⟨p,hp,rfl⟩:=List.mem_map.1 this;have:=(g.w.okp p hp).2.2.2;unfold q3x at this;simp only[Bool.and_eq_true,decide_eq_true_eq]at this;exact this.2
  have hxy:q.x=x/\q.y=y:=List.append_inj e1 (by rw[hlen _ l3.2.2.2.2.1,hlen _ hxs]);refine g.q7p fun k=>?_
  show sA k st.q0j+sQ k (if q0Y q0c (x++y) (st.pairs.map (·.key))=true then _ else _)=_
  rw[if_pos e3];show sA k st.q0j+sQ k (st.pairs.set (st.iQ (x++y)) {q with x:=x,y:=y,rate:=r,q06:=s})=_
  rw[<-e1,j6v e2 (q':={q with x:=x,y:=y,rate:=r,q06:=s}) hxy.1.symm hxy.2.symm]
  simp only[Int.sub_self,ite_self];omega
end
section
open Go
def q3K (n:Nat) (m:Mem) (s:AV) (l:List (List AV)):Prop:=
 (∀x∈l,x.length=n/\x.all AV.one=true)/\
 ((l=[]/\∃sz cap ex,s=.sl none sz 0 cap ex)\/
  ∃b o sz cap ex ro cs,s=.sl (some ⟨b,o⟩) sz l.length cap ex/\(n=sz\/ex=true)/\m.get b=some (.cells cs ro)/\o+l.length*n<=cs.length/\(cs.drop o).take (l.length*n)=l.flatten)
section
variable {n:Nat} {m m':Mem} {s:AV} {l:List (List AV)}
theorem q0L.v {rb:Option Nat} (h:q0L n m s l rb):q3K n m s l:=by
 have hl:=q1j h.lens;rcases h with ⟨h0,(⟨rfl,_,sz,ex,rfl⟩|⟨b,rfl,_,rfl,h3⟩)|⟨b,_,rfl,h3⟩⟩
 ·exact⟨h0,.inl ⟨rfl,_,_,_,rfl⟩⟩
 ·exact⟨h0,.inr ⟨b,0,_,_,_,_,_,rfl,.inl rfl,h3,by simp,by simp⟩⟩
 ·exact⟨h0,.inr ⟨b,0,_,_,_,_,_,rfl,.inl rfl,h3,by omega,by rw[List.drop_zero,xtl (by omega)]⟩⟩
theorem q3K.lens (h:q3K n m s l):∀x∈l,x.length=n:=fun x hx=>(h.1 x hx).1
theorem q3K.a3l {S:List Nat} (h:q3K n m s l) (hf:Fr m m' S) (hS:∀c,c∈S->m.next<=c):q3K n m' s l:=by
 rcases h with ⟨h0,h|⟨b,o,sz,cap,ex,ro,cs,h1,h2,h3,h4⟩⟩
 ·exact⟨h0,.inl h⟩
 ·exact⟨h0,.inr ⟨b,o,sz,cap,ex,ro,cs,h1,h2,hf.get h3 (fun hc=>by have:=hS b hc;have:=Mem.q0v h3;omega),h4⟩⟩
theorem q3K.q0k (h:q3K n m s l) (hf:Fr m m' []):q3K n m' s l:=h.a3l hf (by simp)
theorem q3K.len (h:q3K n m s l):∃a sz cap ex,s=.sl a sz l.length cap ex:=by
 rcases h with ⟨_,⟨rfl,sz,cap,ex,rfl⟩|⟨b,o,sz,cap,ex,_,_,rfl,_⟩⟩
 ·exact⟨_,_,_,_,rfl⟩
 ·exact⟨_,_,_,_,rfl⟩
theorem q3K.one (h:q3K n m s l):s.one=true:=by
 obtain⟨a,sz,cap,ex,rfl⟩:=h.len;rfl
theorem q3K.ones (h:q3K n m s l):l.flatten.all AV.one=true:=q6T fun x hx=>(h.1 x hx).2
theorem q3K.fld (h:q3K n m s l) {i:Nat} (hi:i<l.length) :
  ∃b o sz cap ex,s=.sl (some ⟨b,o⟩) sz l.length cap ex/\(n=sz\/ex=true)/\b<m.next/\ixA n l.length ⟨b,o⟩ (i:Int)=some (.ptr (some ⟨b,o+i*n⟩))/\(∀k,k<n->ld1 m (.ptr (some ⟨b,o+i*n+k⟩))=l[i][k]?)/\
   (∀k j,k+j<=n->ldN m (.ptr (some ⟨b,o+i*n+k⟩)) j=some (.agg ((l[i].drop k).take j)))/\ldN m (.ptr (some ⟨b,o+i*n⟩)) n=some (.agg l[i]):=by
 have hl:=h.lens;rcases h with ⟨h0,⟨rfl,_⟩|⟨b,o,sz,cap,ex,ro,cs,rfl,h2,h3,h4,h5⟩⟩
 ·simp at hi
 ·have hli:l[i].length=n:=hl _ (List.getElem_mem hi);have hle:(i+1)*n<=l.length*n:=Nat.mul_le_mul_right n hi;rw[Nat.succ_mul]at hle;have hd:l.flatten.drop (i*n)=l[i]++(l.drop (i+1)).flatten:=by
   rw[q1T i hl,List.drop_eq_getElem_cons hi,List.flatten_cons]
  have key:∀k,k<n->cs[o+i*n+k]? = l[i][k]?:=fun k hk=>by
   have e1:((cs.drop o).take (l.length*n))[i*n+k]? = cs[o+i*n+k]?:=by
    rw[List.getElem?_take,if_pos (by omega),List.getElem?_drop,Nat.add_assoc]
   rw[<-e1,h5,<-List.getElem?_drop,hd,List.getElem?_append_left (by omega)]
  have seg:∀k j,k+j<=n->(cs.drop (o+i*n+k)).take j=(l[i].drop k).take j:=fun k j hkj=>by
   apply List.ext_getElem?;intro t;rw[List.getElem?_take,List.getElem?_take];split
   ·rw[List.getElem?_drop,List.getElem?_drop,Nat.add_assoc,key _ (by omega)]
   ·rfl
  refine⟨b,o,sz,cap,ex,rfl,h2,Mem.q0v h3,by simp[ixA,hi],fun k hk=>?_,fun k j hkj=>?_,?_⟩
  ·rw[q0f h3,key k hk]
  ·rw[q1a h3 (by omega),seg k j hkj]
  ·have:=seg 0 n (by omega);rw[xna,List.drop_zero,xtl (l:=l[i]) (by omega)]at this;rw[q1a h3 (by omega),this]
theorem q3K.src (h:q3K n m s l):q3Q n s m=some (l.length,l.flatten):=by
 have hfl:=q1j h.lens;rcases h with ⟨h0,⟨rfl,sz,cap,ex,rfl⟩|⟨b,o,sz,cap,ex,ro,cs,rfl,h2,h3,h4,h5⟩⟩
 ·rfl
 ·simp only[q3Q,q0y,h3];rw[if_pos (h2.imp Eq.symm id),if_pos h4,h5];rfl
end
def q2n (ok:Nat->Bool):Nat->Nat->Bool
 | 0,_=>true
 |d+1,i=>ok i&&q2n ok d (i+1)
theorem q3m (ok:Nat->Bool):∀(d i:Nat),q2n ok d i=true↔∀j,i<=j->j<i+d->ok j=true
 | 0,i=>by simp[q2n];omega
 |d+1,i=>by
  rw[q2n,Bool.and_eq_true,q3m ok d (i+1)];constructor
  ·rintro⟨h1,h2⟩ j h3 h4
   by_cases e:j=i
   ·subst e;exact h1
   ·exact h2 j (by omega) (by omega)
  ·intro h;exact⟨h i (xnr _) (by omega),fun j h3 h4=>h j (by omega) (by omega)⟩
theorem Res.eq' {m M:Mem} {v w:AV} (h:Fr m M []) (e:v=w):Res m (some (v,M)) w:=Res.eq h e
theorem Res.step {m m1:Mem} {r:R} {v:AV} (h:Fr m m1 []) (h':Res m1 r v):Res m r v:=by
 obtain⟨m',e,f⟩:=h';exact⟨m',e,h.step0 f⟩
structure BkV (m:Mem) (sp sq sa:AV) (st:LSt):Prop where
 p:q3K 4 m sp (st.q0a.map (·.cells))
 q:q3K 9 m sq (st.pairs.map (·.cells))
 a:q3K 4 m sa (st.q0j.map (·.cells))
theorem BkV.q0k {m m':Mem} {sp sq sa:AV} {st:LSt} (h:BkV m sp sq sa st) (hf:Fr m m' []):BkV m' sp sq sa st:=⟨h.p.q0k hf,h.q.q0k hf,h.a.q0k hf⟩
theorem BkV.one {m:Mem} {sp sq sa:AV} {st:LSt} (h:BkV m sp sq sa st) (n:Int):[sp,sq,sa,.int .u64 n].all AV.one=true:=by
 rw[List.all_cons,List.all_cons,List.all_cons,h.p.one,h.q.one,h.a.one];rfl
theorem q0G.v {m:Mem} {b:Nat} {st:LSt} {F:List Nat} (h:q0G m b st F):∃sp sq sa,m.get b=some (.cells [sp,sq,sa,.int .u64 st.latest,.int .i64 st.most] false)/\BkV m sp sq sa st:=by
 obtain⟨sp,sq,sa,rp,rq,ra,h1,h2,h3,h4,_⟩:=h.ex;exact⟨sp,sq,sa,h1,h2.v,h3.v,h4.v⟩
theorem on1:(∀(k:IntKind) (n:Int),(AV.int k n).one=true)/\(∀s:List UInt8,(AV.str s).one=true)/\(∀b:Bool,(AV.bool b).one=true)/\(∀a:Option AA,(AV.ptr a).one=true)/\(∀(a:Option AA) (s n c:Nat) (e:Bool),(AV.sl a s n c e).one=true):=⟨fun _ _=>rfl,fun _=>rfl,fun _=>rfl,fun _=>rfl,fun _ _ _ _ _=>rfl⟩
end
end Go.Abs
