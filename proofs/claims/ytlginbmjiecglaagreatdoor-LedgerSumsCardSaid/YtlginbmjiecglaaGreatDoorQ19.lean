/- Texts of one claim, put together. -/
import Derived.Test.YtlginbmjiecglaaGreatDoorQ18
namespace Go.Proofs.YtlginbmjiecglaaGreatDoor
section
set_option maxRecDepth 4000
open Go Go.Abs
section
variable {m:Mem} {b:Nat} {st:LSt} {F:List Nat}
theorem z7m (h:q0l m b st F) (w:LWf st) (id:Int) {x:Wd} (hx:x.ok) (s:Int) :
  ∃m' F',run E18 (.fn 44) [.ptr (some ⟨b,0⟩),.int .u64 id,.agg (q0u x s)] m=some (.int .i64 (q1N st id x s).1,m')/\q0l m' b (q1N st id x s).2 F'/\Fr m m' F/\∀c,c∈F'->c∈F\/m.next<=c:=by
 have om:=q78 (H:=H18) rfl h w id;have hlt:=h.lt;unfold q1N;rcases LSt.q1f w id with ⟨e,_⟩|⟨a,p,e,ga,gp,hid,hka,hpn,hkp,ma,mp⟩
 ·rw[e]at om⊢;simp only[q0u,j2g,z6y,q1b.cells,q0q.cells]at om⊢;simp (maxDischargeDepth:=20) only [z08 (H:=H18) rfl,T.f44,p1,pB,p2,q1,q0K,q0d,q0a,AV.one,over,AV.cells,Nat.reduceAdd,Nat.reduceLeDiff,lcl,om,frl,Fr.refl,df (show ¬(40:Int)=0 by omega),q5H (H:=H18),T.z3m,q0e,q5I (H:=H18),T.z3n,nnA,q0e,q5J (H:=H18),T.z3o,wp];refine⟨_,F,rfl,?_,?_,fun c hc=>.inl hc⟩
  ·simp only[ne_eq,show ¬(40:Int)=0 by omega,not_false_eq_true,if_true];exact h.q0h ((((Fr.refl m).lay _).lay _).lay _)
  ·exact((((Fr.refl m).lay _).lay _).lay _).any F
 ·rw[e]at om⊢;have ft:=fun m=>q9D (H:=H18) rfl p hx s m
  obtain⟨fe,hfe⟩:∃fe,fe=q1W p x s:=⟨_,rfl⟩;simp only[<-hfe,q0u,q1b.cells,q0q.cells]at om ft⊢;simp only[ne_eq,not_true_eq_false,if_false];by_cases f0:fe=0
  ·subst f0;have hpo:=(w.okp p mp).2.2.1;have hab:=(w.oka a ma).1;have su:=fun m=>j3a (H:=H18) rfl hpo hx m
   have ad:=fun m=>z0L (H:=H18) rfl hab hx m
   simp only[Wd.cells]at su ad;have c1:=q1O (n:=p.out.val-x.val);have c2:=q1O (n:=a.bal.val+x.val);unfold q2B;cases e1:q0Q (p.out.val-x.val) with
   |false=>
    rw[e1]at c1;simp (maxDischargeDepth:=20) only [z08 (H:=H18) rfl,T.f44,p1,pB,p2,q1,q0K,q0d,q0a,AV.one,over,AV.cells,Nat.reduceAdd,Nat.reduceLeDiff,lcl,om,frl,Fr.refl,decide_true,ft,q5H (H:=H18),T.z3m,q0e,q5q (H:=H18) rfl,T.f57,nnA,ifV,su,ad,c1,xbf,q5I (H:=H18),T.z3n,q0e,df (show ¬(20:Int)=0 by omega),q5J (H:=H18),T.z3o,wp,Bool.false_and,xbq]
    refine⟨_,F,rfl,h.q0h ?_,Fr.any F ?_,fun c hc=>.inl hc⟩
    all_goals ((repeat apply Fr.lays);exact Fr.refl _)
   |true=>
    rw[e1]at c1;cases e2:q0Q (a.bal.val+x.val) with
    |false=>
     rw[e2]at c2;simp (maxDischargeDepth:=20) only [z08 (H:=H18) rfl,T.f44,p1,pB,p2,q1,q0K,q0d,q0a,AV.one,over,AV.cells,Nat.reduceAdd,Nat.reduceLeDiff,lcl,om,frl,Fr.refl,decide_true,ft,q5H (H:=H18),T.z3m,q0e,q5q (H:=H18) rfl,T.f57,nnA,ifV,su,ad,c1,c2,xbt,xbf,q5I (H:=H18),T.z3n,q0e,df (show ¬(20:Int)=0 by omega),q5J (H:=H18),T.z3o,wp,Bool.and_false,xbq]
     refine⟨_,F,rfl,h.q0h ?_,Fr.any F ?_,fun c hc=>.inl hc⟩
     all_goals ((repeat apply Fr.lays);exact Fr.refl _)
    |true=>
     rw[e2]at c2;rw[q1a e1]at su;rw[q1a e2]at ad;obtain⟨nx,hnx⟩:∃nx,nx=Wd.of (p.out.val-x.val):=⟨_,rfl⟩;obtain⟨ny,hny⟩:∃ny,ny=Wd.of (a.bal.val+x.val):=⟨_,rfl⟩;rw[<-hnx]at su⊢;rw[<-hny]at ad⊢;obtain⟨M6,hM6⟩:∃M6,M6=(((((m.lay (.cells [.int .i64 x.hi,.int .u64 x.lo,.int .i64 s] false)).lay (.cells (q1b.mk a.id a.q1S ny).cells false)).lay (.cells (q0q.mk p.name p.scale nx).cells false)).lay (.cells x.cells false)).lay (.cells nx.cells false)).lay (.cells ny.cells false):=⟨_,rfl⟩
     have f6:Fr m M6 []:=by rw[hM6];(repeat apply Fr.lays);exact Fr.refl _
     have n6:m.next<=M6.next:=f6.next
     have p6:M6.get (m.next+1+1)=some (.cells (q0q.mk p.name p.scale nx).cells false):=by rw[hM6];simp[Mem.q0B]
     obtain⟨m7,F7,g1,g2,g3,g4⟩:=q6u (h.q0h f6) w.sa w.la (q1b.mk a.id a.q1S ny) (by rw[hid];exact hka);obtain⟨tp,tq,ta,FP,FQ,FA,k1,_⟩:=g2.ex;have p7:=g3.get p6 (fun hc=>by have:=hlt _ hc;omega)
     have a7:∀i:Nat,ld1 m7 (.ptr (some ⟨b,i⟩))=[.int .i64 st.most,.ptr (some ⟨tp,0⟩),.ptr (some ⟨tq,0⟩),.ptr (some ⟨ta,0⟩),.int .u64 st.latest][i]?:=fun i=>q0g k1
     have b7:∀i:Nat,ld1 m7 (.ptr (some ⟨m.next+1+1,i⟩))=(q0q.mk p.name p.scale nx).cells[i]?:=fun i=>q0g p7
     have d7:ldN m7 (.ptr (some ⟨m.next+1+1,0⟩)) 4=some (.agg (q0q.mk p.name p.scale nx).cells):=q0A p7 rfl
     obtain⟨m8,F8,j1,j2,j3,j4⟩:=j22 g2 w.sp w.lp (q0q.mk p.name p.scale nx) hkp k1;rw[hM6]at g1;simp only[q1b.cells,q0q.cells,Wd.cells]at g1 j1 a7 b7 d7;simp (maxDischargeDepth:=20) only [z08 (H:=H18) rfl,T.f44,p1,pB,p2,q1,q0K,q0d,q0a,AV.one,over,AV.cells,Nat.reduceAdd,Nat.reduceLeDiff,lcl,om,frl,Fr.refl,decide_true,ft,q5H (H:=H18),T.z3m,q0e,q5q (H:=H18) rfl,T.f57,nnA,ifV,su,ad,xbt,q9U (H:=H18),T.j1x,wp,q5I (H:=H18),T.z3n,q0e,g1,a7,b7,d7,j1,q5J (H:=H18),T.z3o,wp]
     exact⟨m8,F8,rfl,j2,((f6.any F).step g3 (fun c hc=>.inl hc)).step j3 (fun c hc=>(g4 c hc).imp (fun h=>h) (fun h=>xnt0 n6 h)),fun c hc=>by
      rcases j4 c hc with h1|h1
      ·exact(g4 c h1).imp (fun h=>h) (fun h=>xnt0 n6 h)
      ·exact .inr (xnt0 n6 (xnt0 g3.next h1))⟩
  ·rw[if_pos f0];simp (maxDischargeDepth:=20) only [z08 (H:=H18) rfl,T.f44,p1,pB,p2,q1,q0K,q0d,q0a,AV.one,over,AV.cells,Nat.reduceAdd,Nat.reduceLeDiff,lcl,om,frl,Fr.refl,decide_true,ft,df f0,q5H (H:=H18),T.z3m,q0e,q5I (H:=H18),T.z3n,nnA,q0e,q5J (H:=H18),T.z3o,wp];exact⟨_,F,rfl,h.q0h ((((Fr.refl m).lay _).lay _).lay _),((((Fr.refl m).lay _).lay _).lay _).any F,fun c hc=>.inl hc⟩
end
end
section
set_option maxRecDepth 4000
open Go Go.Abs
theorem q75 {s:List UInt8} (h:q3Y s=true):s.length=3:=by
 unfold q3Y at h;simp only[Bool.and_eq_true,decide_eq_true_eq]at h;exact h.2
theorem q1j {st:LSt} (w:LWf st) {k:List UInt8} (h:(st.q2o k).isSome=true):k.length=3:=by
 cases hk:q0O q0c k (st.q0b.map (·.name)) with
 |false=>rw[LSt.q1K hk]at h;simp at h
 |true=>
  obtain⟨p,p1,p2,p3,p4⟩:=LSt.q1p hk;rw[<-p2];exact q75 (w.okp p p4).2.2.2
section
variable {m:Mem} {b:Nat} {st:LSt} {F:List Nat}
theorem z7b (h:q0l m b st F) (w:LWf st) (id:Int) :
  Res m (run E18 (.fn 17) [.ptr (some ⟨b,0⟩),.int .u64 id] m) (.tup [.agg (q0u (q0D st id).1 (q0D st id).2.1),.int .i64 (q0D st id).2.2]):=by
 have om:=q78 (H:=H18) rfl h w id;unfold q0D;obtain⟨o,ho⟩:∃o,o=st.of id:=⟨_,rfl⟩;rw[<-ho]at om⊢;obtain⟨a,p,e⟩:=o;simp only[q1b.cells,q0q.cells]at om;by_cases he:e=0
 ·subst he;simp (maxDischargeDepth:=20) only [j7o (H:=H18) rfl,T.f17,pB,p1,p2,q0o,AV.cells,Nat.reduceAdd,Nat.reduceLeDiff,q0d,q0a,q0H,q0I,q0w,AV.one,over,lcl,om,frl,Fr.refl,decide_true,xbt];simp only[j4i (H:=H18),T.a7D,p1,q1,q0o,AV.cells,Nat.reduceAdd,Nat.reduceLeDiff,q0H,q0I,q0E,AV.one,over,lcl];refine Res.eq ?_ (by simp[q0u])
  (repeat apply Fr.lays)
  exact Fr.refl _
 ·simp (maxDischargeDepth:=20) only [j7o (H:=H18) rfl,T.f17,pB,p1,p2,q0o,AV.cells,Nat.reduceAdd,Nat.reduceLeDiff,q0d,q0a,q0H,q0I,q0w,AV.one,over,lcl,om,frl,Fr.refl,df he,xbf];refine Res.eq ?_ (by simp[q0u,he])
  (repeat apply Fr.lays)
  exact Fr.refl _
theorem z7c (h:q0l m b st F) (w:LWf st) (x y:List UInt8) (hxy:x.length+y.length<=4611686018427387904) :
  Res m (run E18 (.fn 66) [.ptr (some ⟨b,0⟩),.str x,.str y] m) (.tup [.agg (q0u (q0T st x y).1 (q0T st x y).2.1),.int .i64 (q0T st x y).2.2]):=by
 obtain⟨tp,tq,ta,FP,FQ,FA,h1,h2,h3,h4,h5,h6,h7,h8,h9,h10,rfl⟩:=h.ex;have hb:=Mem.q0x h1;have a3:∀i:Nat,ld1 m (.ptr (some ⟨b,i⟩))=[.int .i64 st.most,.ptr (some ⟨tp,0⟩),.ptr (some ⟨tq,0⟩),.ptr (some ⟨ta,0⟩),.int .u64 st.latest][i]?:=fun i=>q0g h1
 have gx:=q6j (H:=H18) rfl w h2 x;have gy:=q6j (H:=H18) rfl w h2 y;have gq:=z3x (H:=H18) rfl w h3 (x++y);have sa:=q5i (P:=Tryz.prog) 9 x y hxy;unfold q0T;simp only[q0q.cells,q0N.cells]at gx gy gq;cases hx:st.q2o x with
 |none=>
  rw[hx]at gx;simp only[Option.isSome_none,Option.getD_none]at gx;simp (maxDischargeDepth:=20) only [z4D (H:=H18) rfl,T.f66,pB,p1,q1,p2,q0o,AV.cells,Nat.reduceAdd,Nat.reduceLeDiff,nnA,q0d,q0a,ifV,unA,q0H,q0I,q0E,AV.one,over,lcl,q1d hb,q3k hb,q6B hb,a3,gx,gy,sa,gq,frl,Fr.refl,xbf]
  refine Res.eq ?_ (by simp[q0u])
  (repeat apply Fr.lays)
  exact Fr.refl _
 |some p=>
  rw[hx]at gx;simp only[Option.isSome_some,Option.getD_some]at gx;cases hy:st.q2o y with
  |none=>
   rw[hy]at gy;simp only[Option.isSome_none,Option.getD_none]at gy;simp (maxDischargeDepth:=20) only [z4D (H:=H18) rfl,T.f66,pB,p1,q1,p2,q0o,AV.cells,Nat.reduceAdd,Nat.reduceLeDiff,nnA,q0d,q0a,ifV,unA,q0H,q0I,q0E,AV.one,over,lcl,q1d hb,q3k hb,q6B hb,a3,gx,gy,sa,gq,frl,Fr.refl,xbf,xbt]
   refine Res.eq ?_ (by simp[q0u])
   (repeat apply Fr.lays)
   exact Fr.refl _
  |some q=>
   rw[hy]at gy;simp only[Option.isSome_some,Option.getD_some]at gy;cases hq:st.z1L (x++y) with
   |none=>
    rw[hq]at gq;simp only[Option.isSome_none,Option.getD_none]at gq;simp (maxDischargeDepth:=20) only [z4D (H:=H18) rfl,T.f66,pB,p1,q1,p2,q0o,AV.cells,Nat.reduceAdd,Nat.reduceLeDiff,nnA,q0d,q0a,ifV,unA,q0H,q0I,q0E,AV.one,over,lcl,q1d hb,q3k hb,q6B hb,a3,gx,gy,sa,gq,frl,Fr.refl,xbf,xbt]
    refine Res.eq ?_ (by simp[q0u])
    (repeat apply Fr.lays)
    exact Fr.refl _
   |some r=>
    rw[hq]at gq;simp only[Option.isSome_some,Option.getD_some]at gq;simp (maxDischargeDepth:=20) only [z4D (H:=H18) rfl,T.f66,pB,p1,q1,p2,q0o,AV.cells,Nat.reduceAdd,Nat.reduceLeDiff,nnA,q0d,q0a,ifV,unA,q0H,q0I,q0E,AV.one,over,lcl,q1d hb,q3k hb,q6B hb,a3,gx,gy,sa,gq,frl,Fr.refl,xbt]
    simp only[j5k (H:=H18),T.a8n,p1,q1,q0o,AV.cells,Nat.reduceAdd,Nat.reduceLeDiff,q0H,q0I,q0E,AV.one,over,lcl];refine Res.eq ?_ (by simp[q0u])
    (repeat apply Fr.lays)
    exact Fr.refl _
theorem a3F (h:q0l m b st F) (w:LWf st) (x y:List UInt8) {r:Wd} (hr:r.ok) (s:Int) :
  ∃m' F',run E18 (.fn 62) [.ptr (some ⟨b,0⟩),.str x,.str y,.agg (q0u r s)] m=some (.int .i64 (q6r st x y r s).1,m')/\q0l m' b (q6r st x y r s).2 F'/\Fr m m' F/\∀c,c∈F'->c∈F\/m.next<=c:=by
 have h':=h;obtain⟨tp,tq,ta,FP,FQ,FA,h1,h2,h3,h4,h5,h6,h7,h8,h9,h10,e⟩:=h.ex;have hb:=Mem.q0x h1;have a3:∀i:Nat,ld1 m (.ptr (some ⟨b,i⟩))=[.int .i64 st.most,.ptr (some ⟨tp,0⟩),.ptr (some ⟨tq,0⟩),.ptr (some ⟨ta,0⟩),.int .u64 st.latest][i]?:=fun i=>q0g h1
 have gx:=q6j (H:=H18) rfl w h2 x;have gy:=q6j (H:=H18) rfl w h2 y;have rr:=fun m=>q8d (H:=H18) rfl hr s m
 unfold q6r;rw[show q4H r s=q2Z r s from rfl];simp only[q0q.cells,q0u]at gx gy rr⊢;cases hx:(st.q2o x).isSome with
 |false=>
  rw[hx]at gx;simp (maxDischargeDepth:=20) only [z09 (H:=H18) rfl,T.f62,p1,q1,pB,p2,q0K,nnA,q0d,q0a,ifV,unA,Nat.reduceAdd,q0F,AV.one,over,AV.cells,Nat.reduceLeDiff,lcl,q1d hb,q3k hb,a3,gx,gy,frl,Fr.refl,xbf,true_or];refine⟨_,F,rfl,h'.q0h ?_,Fr.any F ?_,fun c hc=>.inl hc⟩
  all_goals ((repeat apply Fr.lays);exact Fr.refl _)
 |true=>
  rw[hx]at gx;cases hy:(st.q2o y).isSome with
  |false=>
   rw[hy]at gy;simp (maxDischargeDepth:=20) only [z09 (H:=H18) rfl,T.f62,p1,q1,pB,p2,q0K,nnA,q0d,q0a,ifV,unA,Nat.reduceAdd,q0F,AV.one,over,AV.cells,Nat.reduceLeDiff,lcl,q1d hb,q3k hb,a3,gx,gy,frl,Fr.refl,xbf,xbt,or_true];refine⟨_,F,rfl,h'.q0h ?_,Fr.any F ?_,fun c hc=>.inl hc⟩
   all_goals ((repeat apply Fr.lays);exact Fr.refl _)
  |true=>
   rw[hy]at gy;have hlx:=q1j w hx;have hly:=q1j w hy;have sa:=q5i (P:=Tryz.prog) 9 x y (by omega);have gq:=z3x (H:=H18) rfl w h3 (x++y);simp only[Bool.true_eq_false,or_self,if_false];by_cases hxy:x=y
   ·rw[if_pos hxy];simp (maxDischargeDepth:=20) only [z09 (H:=H18) rfl,T.f62,p1,q1,pB,p2,q0K,nnA,q0d,q0a,ifV,unA,Nat.reduceAdd,q0F,AV.one,over,AV.cells,Nat.reduceLeDiff,lcl,q1d hb,q3k hb,a3,gx,gy,frl,Fr.refl,xbt,dt hxy];refine⟨_,F,rfl,h'.q0h ?_,Fr.any F ?_,fun c hc=>.inl hc⟩
    all_goals ((repeat apply Fr.lays);exact Fr.refl _)
   ·rw[if_neg hxy];obtain⟨re,hre⟩:∃re,re=q2Z r s:=⟨_,rfl⟩;rw[<-hre]at rr⊢;by_cases hz:re=0
    ·subst hz;obtain⟨q,hq⟩:∃q,q=(st.z1L (x++y)).getD q8C:=⟨_,rfl⟩;rw[<-hq]at gq⊢;obtain⟨M4,hM4⟩:∃M4,M4=(((m.lay (.cells [.int .i64 r.hi,.int .u64 r.lo,.int .i64 s] false)).lay (.cells ((st.q2o x).getD z6y).cells false)).lay (.cells ((st.q2o y).getD z6y).cells false)).lay (.cells (q0N.mk x y r s q.inx q.q18).cells false):=⟨_,rfl⟩;have f4:Fr m M4 []:=by rw[hM4];(repeat apply Fr.lays);exact Fr.refl _
     obtain⟨r',m5,F5,j1,j2,j3,j4⟩:=z0r (h'.q0h f4) w.sq w.lq (q0N.mk x y r s q.inx q.q18) (f4.get h1 (by simp));rw[hM4]at j1;simp only[q0q.cells,q0N.cells,q0N.key]at j1 gq;simp (maxDischargeDepth:=20) only [z09 (H:=H18) rfl,T.f62,p1,q1,pB,p2,q0K,nnA,q0d,q0a,ifV,unA,Nat.reduceAdd,q0F,AV.one,over,AV.cells,Nat.reduceLeDiff,lcl,q1d hb,q3k hb,q6B hb,z2D hb,a3,gx,gy,frl,Fr.refl,xbt,df hxy,z5M (H:=H18),T.a1p,rr,decide_true,j5f (H:=H18),T.a8j,q0F,sa,gq,j1]
     refine⟨m5,F5,by simp,by simpa using j2,(f4.any F).step j3 (fun c hc=>.inl hc),fun c hc=>(j4 c hc).imp (fun h=>h) (fun h=>xnt0 f4.next h)⟩
    ·rw[if_pos hz];simp (maxDischargeDepth:=20) only [z09 (H:=H18) rfl,T.f62,p1,q1,pB,p2,q0K,nnA,q0d,q0a,ifV,unA,Nat.reduceAdd,AV.one,over,AV.cells,Nat.reduceLeDiff,lcl,q1d hb,q3k hb,a3,gx,gy,frl,Fr.refl,xbt,df hxy,z5M (H:=H18),T.a1p,wp,rr,df hz,xbf];refine⟨_,F,rfl,h'.q0h ?_,Fr.any F ?_,fun c hc=>.inl hc⟩
     all_goals ((repeat apply Fr.lays);exact Fr.refl _)
end
end
section
set_option maxRecDepth 8000
open Go Go.Abs
theorem z0n {M:Mem} {b1 o1 b2 o2:Nat} {c1 c2:List AV} (g1:M.get b1=some (.cells c1 false)) (g2:M.get b2=some (.cells c2 false)) (hne:b1≠b2) {x y w:Wd} (hx:x.ok) (hy:y.ok) (hw:w.ok)
  (l1:o1+2<=c1.length) (l2:o2+2<=c2.length) (e1:(c1.drop o1).take 2=x.cells) (e2:(c2.drop o2).take 2=y.cells) :
  (q2B x y w=false->Res M (run E18 (.fn 57) [.ptr (some ⟨b1,o1⟩),.ptr (some ⟨b2,o2⟩),.agg w.cells] M) (.int .i64 20))/\
  (q2B x y w=true->∃M',run E18 (.fn 57) [.ptr (some ⟨b1,o1⟩),.ptr (some ⟨b2,o2⟩),.agg w.cells] M=some (.int .i64 0,M')/\
   M'.get b1=some (.cells (c1.take o1++(Wd.of (x.val-w.val)).cells++c1.drop (o1+2)) false)/\M'.get b2=some (.cells (c2.take o2++(Wd.of (y.val+w.val)).cells++c2.drop (o2+2)) false)/\Fr M M' [b1,b2]):=by
 have hb1:=Mem.q0x g1;have hb2:=Mem.q0x g2;have su:=fun m=>j3a (H:=H18) rfl hx hw m
 have ad:=fun m=>z0L (H:=H18) rfl hy hw m
 have k1:=q1O (n:=x.val-w.val);have k2:=q1O (n:=y.val+w.val);have r1:=q00 (o:=o1) (n:=2) g1 l1;have r2:=q00 (o:=o2) (n:=2) g2 l2;rw[e1]at r1;rw[e2]at r2;simp only[Wd.cells]at su ad r1 r2;have bb:=hne;constructor
 ·intro hf;unfold q2B at hf;simp only[Wd.cells];cases f1:q0Q (x.val-w.val) with
  |false=>
   rw[f1]at k1;simp only[q5q (H:=H18) rfl,T.f57,p1,q1,pB,p2,q0K,nnA,q0d,q0a,ifV,q02,AV.one,over,AV.cells,Nat.reduceAdd,Nat.reduceLeDiff,lcl,q1d hb1,q1d hb2,q3k hb2,r1,r2,su,ad,k1,xbf];refine Res.eq ?_ rfl
   (repeat apply Fr.lays)
   exact Fr.refl _
  |true=>
   rw[f1,Bool.true_and]at hf;rw[f1]at k1;rw[hf]at k2;simp only[q5q (H:=H18) rfl,T.f57,p1,q1,pB,p2,q0K,nnA,q0d,q0a,ifV,q02,AV.one,over,AV.cells,Nat.reduceAdd,Nat.reduceLeDiff,lcl,q1d hb1,q1d hb2,q3k hb2,r1,r2,su,ad,k1,k2,xbf,xbt];refine Res.eq ?_ rfl
   (repeat apply Fr.lays)
   exact Fr.refl _
 ·intro hf;unfold q2B at hf;rw[Bool.and_eq_true]at hf;rw[hf.1]at k1;rw[hf.2]at k2;rw[q1a hf.1]at su;rw[q1a hf.2]at ad;obtain⟨nx,hnx⟩:∃nx,nx=Wd.of (x.val-w.val):=⟨_,rfl⟩;obtain⟨ny,hny⟩:∃ny,ny=Wd.of (y.val+w.val):=⟨_,rfl⟩;rw[<-hnx]at su⊢;rw[<-hny]at ad⊢;have s1:=q1l (v:=.agg nx.cells) (vs:=nx.cells) (o:=o1) (n:=2) g1 rfl rfl l1;obtain⟨M1,hM1⟩:∃M1,M1=M.put b1 (some (.cells (c1.take o1++nx.cells++c1.drop (o1+2)) false)):=⟨_,rfl⟩
  have s1':stV M (.ptr (some ⟨b1,o1⟩)) (.agg [.int .i64 nx.hi,.int .u64 nx.lo]) 2=some M1:=by rw[hM1];exact s1
  have q1:M1.get b1=some (.cells (c1.take o1++nx.cells++c1.drop (o1+2)) false):=by rw[hM1];exact q0v g1
  have q2:M1.get b2=some (.cells c2 false):=by rw[hM1,q1U (fun h=>hne h.symm)];exact g2
  have n1:M1.next=M.next:=by rw[hM1];rfl
  have s2:=q1l (v:=.agg ny.cells) (vs:=ny.cells) (o:=o2) (n:=2) q2 rfl rfl l2;obtain⟨M2,hM2⟩:∃M2,M2=M1.put b2 (some (.cells (c2.take o2++ny.cells++c2.drop (o2+2)) false)):=⟨_,rfl⟩;have s2':stV M1 (.ptr (some ⟨b2,o2⟩)) (.agg [.int .i64 ny.hi,.int .u64 ny.lo]) 2=some M2:=by rw[hM2];exact s2
  have p1:M2.get b1=some (.cells (c1.take o1++nx.cells++c1.drop (o1+2)) false):=by rw[hM2,q1U hne];exact q1
  have p2:M2.get b2=some (.cells (c2.take o2++ny.cells++c2.drop (o2+2)) false):=by rw[hM2];exact q0v q2
  have n2:M2.next=M.next:=by rw[hM2];exact n1
  have f2:Fr M M2 [b1,b2]:=by
   rw[hM2,hM1];exact((Fr.refl' M [b1,b2]).put' (.inl (by simp))).put' (.inl (by simp))
  have hb1':b1<M2.next:=by omega
  have hb2':b2<M2.next:=by omega
  refine⟨((M2.lay (.cells w.cells false)).lay (.cells nx.cells false)).lay (.cells ny.cells false),?_,?_,?_,?_⟩
  ·simp only[Wd.cells];simp only[q5q (H:=H18) rfl,T.f57,pB,q0K,nnA,q0d,q0a,ifV,q02,AV.one,over,AV.cells,Nat.reduceAdd,Nat.reduceLeDiff,lcl,q1d hb1,q1d hb2,q3k hb2,r1,r2,su,ad,decide_true,xbt];simp only[q9U (H:=H18),T.j1x,nnA,wp,AV.one,over,AV.cells,Nat.reduceAdd,Nat.reduceLeDiff,lcl,q1d hb1,q3k hb1,q6B hb1,q1d hb2,q3k hb2,q6B hb2,s1',s2',n1]
  ·simp only[Mem.q0B,Mem.q0t,q1d hb1',q3k hb1',q6B hb1',if_false];exact p1
  ·simp only[Mem.q0B,Mem.q0t,q1d hb2',q3k hb2',q6B hb2',if_false];exact p2
  ·exact((f2.lay _).lay _).lay _
end
section
set_option maxRecDepth 8000
open Go Go.Abs
def q2y (w:Wd) (s:Int) (v:Wd) (t:Int) (n:Int):Wd×Int×Int:=
 if (0<=s/\s<=18)/\(0<=n/\n<=18) then
  if 0<w.val then
   if q2Z v t=0 then (if q0Q (z3J w.val v.val (s+t-n))=true then (Wd.of (z3J w.val v.val (s+t-n)),n,0) else (⟨0,0⟩,0,20)) else (⟨0,0⟩,0,q2Z v t)
  else (⟨0,0⟩,0,43)
 else (⟨0,0⟩,0,21)
theorem q7E (w:Wd) (s:Int) (v:Wd) (t:Int) (n:Int):q5l w s v t n=.tup [.agg (q0u (q2y w s v t n).1 (q2y w s v t n).2.1),.int .i64 (q2y w s v t n).2.2]:=by
 unfold q5l q2y q2A
 (repeat' split)<;>rfl
theorem z0Z (w:Wd) (s:Int) (v:Wd) (t:Int) (n:Int):(q2y w s v t n).1.ok:=by
 unfold q2y
 (repeat' split)<;>first|exact j9d|exact Wd.q25 (by assumption)
def q7C (st:LSt) (a:q1b) (p:q0q) (a':q1b) (p':q0q) (q:q0N) (w:Wd) (s:Int):Wd×Int×Int×LSt:=
 if q1W p w s≠0 then (⟨0,0⟩,0,q1W p w s,st) else
 if a.bal.val<w.val then (⟨0,0⟩,0,42,st) else
 let g:=q2y w s q.rate q.q1h p'.scale
 if g.2.2≠0 then (⟨0,0⟩,0,g.2.2,st) else
 if q2B a.bal q.inx w=false\/q2B q.q18 a'.bal g.1=false then (⟨0,0⟩,0,20,st) else
 (g.1,g.2.1,0,((st.q14 {a with bal:=Wd.of (a.bal.val-w.val)}).q14 {a' with bal:=Wd.of (a'.bal.val+g.1.val)}).q5b {q with inx:=Wd.of (q.inx.val+w.val),q18:=Wd.of (q.q18.val-g.1.val)})
def q0P (st:LSt) (a b:Int) (w:Wd) (s:Int):Wd×Int×Int×LSt:=
 let o:=st.of a
 let p:=st.of b
 if o.2.2≠0 then (⟨0,0⟩,0,o.2.2,st) else
 if p.2.2≠0 then (⟨0,0⟩,0,p.2.2,st) else
 if o.2.1.name=p.2.1.name then (⟨0,0⟩,0,45,st) else
 match st.z1L (o.2.1.name++p.2.1.name) with
 |none=>(⟨0,0⟩,0,44,st)
 |some q=>q7C st o.1 o.2.1 p.1 p.2.1 q w s
def z3:List AV:=[.int .i64 0,.int .u64 0,.int .i64 0]
theorem q7D {M:Mem} {n:Nat} {e:Int} (he:e≠0) (h8:M.get (n+1)=some (.cells z3 false)) (t0 t10 t13 t16 t18:AV) :
  ∃M',D18.gor 258052 [t0,.ptr (some ⟨n+1,0⟩),t10,.int .i64 e,t13,t16,t18] M=some (.tup [.agg z3,.int .i64 e],M')/\Fr M M' [n+1]:=by
 have s1:=q0X (n:=3) (v:=z3) h8 rfl rfl rfl;have l1:ldN (M.put (n+1) (some (.cells z3 false))) (.ptr (some ⟨n+1,0⟩)) 3=some (.agg z3):=q0A (q0v h8) rfl;refine⟨M.put (n+1) (some (.cells z3 false)),?_,Fr.put _ _ _⟩;simp only[z3]at s1 l1⊢;simp only[z5O (H:=H18),T.a1r,p2,p1,q0o,q0a,q0H,q0I,q0w,df he,xbf,s1,l1]
theorem z0Y {M:Mem} {n:Nat} {e:Int} (he:e≠0) (h8:M.get (n+1)=some (.cells z3 false)) (t0 t7 t10 t13 t16 t18:AV) :
  ∃M',D18.gor 258050 [t0,t7,.ptr (some ⟨n+1,0⟩),t10,.int .i64 e,t13,t16,t18] M=some (.tup [.agg z3,.int .i64 e],M')/\Fr M M' [n+1]:=by
 simp only[q7g (H:=H18),T.j1y,p2,p1,q1,q0a,q0e,df he,q7h (H:=H18),T.j1z,q0e];exact q7D he h8 _ _ _ _ _
theorem z0X {M:Mem} {n:Nat} {e:Int} (he:e≠0) (h8:M.get (n+1)=some (.cells z3 false)) (t0 t7 t10 t13 t14 t16:AV) :
  ∃M',D18.gor 258049 [t0,t7,.ptr (some ⟨n+1,0⟩),t10,.int .i64 e,t13,t14,t16] M=some (.tup [.agg z3,.int .i64 e],M')/\Fr M M' [n+1]:=by
 have hl:=Mem.q0x h8;have h8':(M.lay (.cells z3 false)).get (n+1)=some (.cells z3 false):=by rw[q3U (by omega)];exact h8
 obtain⟨M',g1,g2⟩:=z0Y (M:=M.lay (.cells z3 false)) he h8' t0 t7 t10 t13 t16 (.ptr (some ⟨M.next,0⟩))
 refine⟨M',?_,((Fr.refl' M [n+1]).lay _).step g2 (fun c hc=>.inl hc)⟩
 simp only[z3]at g1⊢;simp only[z5N (H:=H18),T.a1q,pB,p2,q1,p1,q0d,q0a,q0F,df he];exact g1
section
variable {M:Mem} {n b:Nat} {st:LSt} {F:List Nat}
theorem j3y (h:q0l M b st F) (w:LWf st) (hF:∀c,c∈F->c<n) {a a':q1b} {q:q0N} {gw:Wd} {gs:Int} {g:Nat}
  (ha:q0O q0m a.id (st.q0p.map (·.id))=true) (ha':q0O q0m a'.id (st.q0p.map (·.id))=true) (hk:(st.q2o q.x).isSome=true/\(st.q2o q.y).isSome=true)
  (h8:M.get (n+1)=some (.cells z3 false)) (hX:M.get (n+1+1)=some (.cells a.cells false)) (hY:M.get (n+1+1+1+1)=some (.cells a'.cells false)) (hQ:M.get (n+1+1+1+1+1+1)=some (.cells q.cells false))
  (hg:M.get g=some (.cells (q0u gw gs) false)) (hgn:n+1+1+1+1+1+1<g) :
  ∃m' F',D18.gor 258053 [.ptr (some ⟨b,0⟩),.ptr (some ⟨n+1,0⟩),.ptr (some ⟨n+1+1,0⟩),.ptr (some ⟨n+1+1+1+1,0⟩),.ptr (some ⟨n+1+1+1+1+1+1,0⟩),.ptr (some ⟨g,0⟩)] M=some (.tup [.agg (q0u gw gs),.int .i64 0],m')/\
   q0l m' b (((st.q14 a).q14 a').q5b q) F'/\Fr M m' ((n+1)::F)/\∀c,c∈F'->c∈F\/M.next<=c:=by
 have nF:∀k,n<=k->k∉F:=fun k hk hc=>by have:=hF k hc;omega
 obtain⟨m1,F1,g1,g2,g3,g4⟩:=q6u h w.sa w.la a ha;have nF1:∀k,n<=k->k<M.next->k∉F1:=fun k hk hk2 hc=>by rcases g4 k hc with h1|h1;exact nF k hk h1;omega
 have ids:=LSt.q3d ha;obtain⟨m2,F2,j1,j2,j3,j4⟩:=q6u g2 (by rw[ids];exact w.sa) (by show (st.q0p.set _ _).length<=64;rw[List.length_set];exact w.la) a' (by rw[ids];exact ha');have nF2:∀k,n<=k->k<M.next->k∉F2:=fun k hk hk2 hc=>by
  rcases j4 k hc with h1|h1
  ·exact nF1 k hk hk2 h1
  ·have:=g3.next;omega
 obtain⟨tp,tq,ta,FP,FQ,FA,k1,_⟩:=j2.ex;obtain⟨r,m3,F3,i1,i2,i3,i4⟩:=z0r j2 w.sq w.lq q k1;have l8:=Mem.q0x h8;have lX:=Mem.q0x hX;have lY:=Mem.q0x hY;have lQ:=Mem.q0x hQ;have lg:=Mem.q0x hg;have y1:=g3.get hY (nF _ (by omega));have q2:=j3.get (g3.get hQ (nF _ (by omega))) (nF1 _ (by omega) (by omega));have t3:=i3.get (j3.get (g3.get hg (nF _ (by omega))) (nF1 _ (by omega) (by omega))) (nF2 _ (by omega) (by omega))
 have e3:=i3.get (j3.get (g3.get h8 (nF _ (by omega))) (nF1 _ (by omega) (by omega))) (nF2 _ (by omega) (by omega));have dX:ldN M (.ptr (some ⟨n+1+1,0⟩)) 4=some (.agg a.cells):=q0A hX rfl;have dY:ldN m1 (.ptr (some ⟨n+1+1+1+1,0⟩)) 4=some (.agg a'.cells):=q0A y1 rfl;have dQ:ldN m2 (.ptr (some ⟨n+1+1+1+1+1+1,0⟩)) 9=some (.agg q.cells):=q0A q2 rfl;have bQ:∀i:Nat,ld1 m2 (.ptr (some ⟨n+1+1+1+1+1+1,i⟩))=q.cells[i]?:=fun i=>q0g q2
 have a2:∀i:Nat,ld1 m2 (.ptr (some ⟨b,i⟩))=[.int .i64 st.most,.ptr (some ⟨tp,0⟩),.ptr (some ⟨tq,0⟩),.ptr (some ⟨ta,0⟩),.int .u64 st.latest][i]?:=fun i=>q0g k1
 have dg:ldN m3 (.ptr (some ⟨g,0⟩)) 3=some (.agg (q0u gw gs)):=q0A t3 rfl;have s8:=q0X (n:=3) (v:=q0u gw gs) e3 rfl rfl rfl;have d8:ldN (m3.put (n+1) (some (.cells (q0u gw gs) false))) (.ptr (some ⟨n+1,0⟩)) 3=some (.agg (q0u gw gs)):=q0A (q0v e3) rfl;have sa:=q5i (P:=Tryz.prog) 9 q.x q.y (by have:=q1j w hk.1;have:=q1j w hk.2;omega);have f3:Fr M m3 ((n+1)::F):=(((g3.mono (by simp +contextual)).step j3 (fun c hc=>by rcases g4 c hc with h1|h1;exact .inl (by simp[h1]);exact .inr h1)).step i3 (fun c hc=>by
  rcases j4 c hc with h1|h1
  ·rcases g4 c h1 with h2|h2
   ·exact .inl (by simp[h2])
   ·exact .inr h2
  ·exact .inr (xnt0 g3.next h1)))
 refine⟨m3.put (n+1) (some (.cells (q0u gw gs) false)),F3,?_,i2.frame (Fr.put _ _ _) ?_,f3.put' (.inl (by simp)),?_⟩
 ·simp only[q0u,q1b.cells,q0N.cells,q0N.key]at dX dY dQ bQ g1 j1 i1 dg s8 d8⊢;simp only[j5h (H:=H18),T.a8k,q1,p1,p2,nnA,q0H,q0I,q0e,dX,g1,dY,j1,a2,bQ,dQ,sa,i1,dg,s8,d8]
 ·intro c hc hm;simp only[xms]at hm;subst hm;rcases i4 _ hc with h1|h1
  ·exact nF2 _ (by omega) l8 h1
  ·have:=g3.next;have:=j3.next;omega
 ·intro c hc;rcases i4 c hc with h1|h1
  ·rcases j4 c h1 with h2|h2
   ·exact g4 c h2
   ·exact .inr (xnt0 g3.next h2)
  ·exact .inr (xnt0 g3.next (xnt0 j3.next h1))
end
end
section
set_option maxRecDepth 8000
open Go Go.Abs
section
variable {M:Mem} {n b:Nat} {st:LSt} {F:List Nat}
theorem z9a (h:q0l M b st F) (w:LWf st) (hF:∀c,c∈F->c<n) {a a':q1b} {p p':q0q} {q:q0N} (ma:a∈st.q0p) (mp:p∈st.q0b) (ma':a'∈st.q0p) (mp':p'∈st.q0b) (mq:q∈st.pairs)
  (ha:q0O q0m a.id (st.q0p.map (·.id))=true) (ha':q0O q0m a'.id (st.q0p.map (·.id))=true) {x:Wd} (hx:x.ok) (s:Int)
  (hA:M.get n=some (.cells (q0u x s) false)) (h8:M.get (n+1)=some (.cells z3 false)) (hX:M.get (n+1+1)=some (.cells a.cells false)) (hP:M.get (n+1+1+1)=some (.cells p.cells false)) (hY:M.get (n+1+1+1+1)=some (.cells a'.cells false)) (hR:M.get (n+1+1+1+1+1)=some (.cells p'.cells false)) (hQ:M.get (n+1+1+1+1+1+1)=some (.cells q.cells false)) :
  ∃m' F',D18.gor 258048 [.ptr (some ⟨b,0⟩),.ptr (some ⟨n,0⟩),.ptr (some ⟨n+1,0⟩),.ptr (some ⟨n+1+1,0⟩),.ptr (some ⟨n+1+1+1,0⟩),.ptr (some ⟨n+1+1+1+1,0⟩),.ptr (some ⟨n+1+1+1+1+1,0⟩),.ptr (some ⟨n+1+1+1+1+1+1,0⟩)] M =
    some (.tup [.agg (q0u (q7C st a p a' p' q x s).1 (q7C st a p a' p' q x s).2.1),.int .i64 (q7C st a p a' p' q x s).2.2.1],m')/\
   q0l m' b (q7C st a p a' p' q x s).2.2.2 F'/\Fr M m' ((n+1)::(n+1+1)::(n+1+1+1+1)::(n+1+1+1+1+1+1)::F)/\∀c,c∈F'->c∈F\/M.next<=c:=by
 have lQ:=Mem.q0x hQ;have nF:∀k,n<=k->k∉F:=fun k hk hc=>by have:=hF k hc;omega
 have done:∀(M1 M2:Mem) (v w:AV),v=w->Fr M M1 []->Fr M1 M2 [n+1]->∃m' F',some (v,M2)=some (w,m')/\q0l m' b st F'/\Fr M m' ((n+1)::(n+1+1)::(n+1+1+1+1)::(n+1+1+1+1+1+1)::F)/\∀c,c∈F'->c∈F\/M.next<=c:=by
  intro M1 M2 v w hv h1 h2;subst hv;refine⟨M2,F,rfl,(h.q0h h1).frame h2 (fun c hc hm=>?_),(h1.any _).step h2 (fun c hc=>?_),fun c hc=>.inl hc⟩
  ·simp only[xms]at hm;subst hm;exact nF _ (by omega) hc
  ·simp only[xms]at hc;subst hc;exact .inl (by simp)
 have dA:ldN M (.ptr (some ⟨n,0⟩)) 3=some (.agg (q0u x s)):=q0A hA rfl;have dX:ldN M (.ptr (some ⟨n+1+1,0⟩)) 4=some (.agg a.cells):=q0A hX rfl;have dP:ldN M (.ptr (some ⟨n+1+1+1,0⟩)) 4=some (.agg p.cells):=q0A hP rfl;have ft:=fun m=>q9D (H:=H18) rfl p hx s m
 have po:=fun m=>z3N (H:=H18) rfl a (w.oka a ma).1 hx s m
 unfold q7C;obtain⟨fe,hfe⟩:∃fe,fe=q1W p x s:=⟨_,rfl⟩;rw[<-hfe]at ft⊢;by_cases f0:fe=0
 ·subst f0;rw[if_neg (by simp)];by_cases hp:a.bal.val<x.val
  ·rw[if_pos hp];rw[dt hp]at po;obtain⟨M',g1,g2⟩:=z0X (M:=M) (e:=42) (by omega) h8 (.ptr (some ⟨b,0⟩)) (.ptr (some ⟨n,0⟩)) (.ptr (some ⟨n+1+1,0⟩)) (.ptr (some ⟨n+1+1+1+1,0⟩)) (.ptr (some ⟨n+1+1+1+1+1,0⟩)) (.ptr (some ⟨n+1+1+1+1+1+1,0⟩));simp only[q9V (H:=H18),T.j5g,q1,p2,q0a,ifV,wp,dA,dP,ft,dX,po,decide_true,g1];exact done M M' _ _ rfl (Fr.refl M) g2
  ·rw[if_neg hp];rw[df hp]at po;have cr:=fun m=>j3z (H:=H18) rfl hx (w.okq q mq).1 s q.q1h p'.scale m
   rw[q7E]at cr;have gok:=z0Z x s q.rate q.q1h p'.scale;obtain⟨g,hg⟩:∃g,g=q2y x s q.rate q.q1h p'.scale:=⟨_,rfl⟩;rw[<-hg]at cr gok⊢;obtain⟨gw,gs,gc⟩:=g;simp only at gok cr⊢;obtain⟨M1,hM1⟩:∃M1,M1=M.lay (.cells z3 false):=⟨_,rfl⟩;obtain⟨M2,hM2⟩:∃M2,M2=M.lay (.cells (q0u gw gs) false):=⟨_,rfl⟩;have f1:Fr M M1 []:=by rw[hM1];exact(Fr.refl M).lay _
   have f2:Fr M M2 []:=by rw[hM2];exact(Fr.refl M).lay _
   have dA1:ldN M1 (.ptr (some ⟨n,0⟩)) 3=some (.agg (q0u x s)):=q0A (f1.get hA (by simp)) rfl;have bR1:∀i:Nat,ld1 M1 (.ptr (some ⟨n+1+1+1+1+1,i⟩))=p'.cells[i]?:=fun i=>q0g (f1.get hR (by simp))
   have dQ1:ldN M1 (.ptr (some ⟨n+1+1+1+1+1+1,2⟩)) 3=some (.agg (q0u q.rate q.q1h)):=by rw[q00 (f1.get hQ (by simp)) (by simp)];rfl
   have s1:stV M1 (.ptr (some ⟨M.next,0⟩)) (.agg (q0u gw gs)) 3=some M2:=by
    rw[hM1,hM2,q0X (n:=3) (v:=q0u gw gs) (q0f M _) rfl rfl rfl,q1c]
   have h82:=f2.get h8 (by simp);have step1:D18.gor 258048 [.ptr (some ⟨b,0⟩),.ptr (some ⟨n,0⟩),.ptr (some ⟨n+1,0⟩),.ptr (some ⟨n+1+1,0⟩),.ptr (some ⟨n+1+1+1,0⟩),.ptr (some ⟨n+1+1+1+1,0⟩),.ptr (some ⟨n+1+1+1+1+1,0⟩),.ptr (some ⟨n+1+1+1+1+1+1,0⟩)] M =
     D18.gor 258050 [.ptr (some ⟨b,0⟩),.ptr (some ⟨n,0⟩),.ptr (some ⟨n+1,0⟩),.ptr (some ⟨n+1+1,0⟩),.int .i64 gc,.ptr (some ⟨n+1+1+1+1,0⟩),.ptr (some ⟨n+1+1+1+1+1+1,0⟩),.ptr (some ⟨M.next,0⟩)] M2:=by
    simp only[q9V (H:=H18),T.j5g,q1,p2,q0a,ifV,wp,dA,dP,ft,dX,po,decide_true];simp only[z3]at hM1;simp only[q0q.cells]at bR1;simp only[z5N (H:=H18),T.a1q,pB,p2,q1,p1,q0d,q0a,q0F,decide_true,<-hM1,dA1,dQ1,bR1,cr,s1]
   rw[step1];by_cases g0:gc=0
   ·subst g0;rw[if_neg (by simp)];have hA2:=f2.get hA (by simp);have hX2:=f2.get hX (by simp);have hY2:=f2.get hY (by simp);have hQ2:=f2.get hQ (by simp);have hG2:M2.get M.next=some (.cells (q0u gw gs) false):=by rw[hM2];exact q0f _ _
    have dA2:ldN M2 (.ptr (some ⟨n,0⟩)) 2=some (.agg x.cells):=by rw[q00 hA2 (by simp[q0u])];rfl
    obtain⟨mv1,mv2⟩:=z0n hX2 hQ2 (by omega) (w.oka a ma).1 (w.okq q mq).2.2.1 hx (o1:=2) (o2:=5) (by simp) (by simp) rfl rfl;cases e1:q2B a.bal q.inx x with
    |false=>
     rw[if_pos (.inl rfl)];obtain⟨M3,g1,g2⟩:=mv1 e1;obtain⟨M',j1,j2⟩:=q7D (M:=M3) (e:=20) (by omega) (g2.get h82 (by simp)) (.ptr (some ⟨b,0⟩)) (.ptr (some ⟨n+1+1,0⟩)) (.ptr (some ⟨n+1+1+1+1,0⟩)) (.ptr (some ⟨n+1+1+1+1+1+1,0⟩)) (.ptr (some ⟨M.next,0⟩))
     simp only[q7g (H:=H18),T.j1y,p2,p1,q1,q0a,q0e,decide_true,dA2,g1,q7h (H:=H18),T.j1z,q0e,df (show ¬(20:Int)=0 by omega),j1];exact done M3 M' _ _ rfl (f2.step0 g2) j2
    |true=>
     obtain⟨M3,g1,g2,g3,g4⟩:=mv2 e1;have hG3:=g4.get hG2 (by simp only[xmk0,List.not_mem_nil,or_false,not_or];omega);have h83:=g4.get h82 (by simp only[xmk0,List.not_mem_nil,or_false,not_or];omega);have hY3:=g4.get hY2 (by simp only[xmk0,List.not_mem_nil,or_false,not_or];omega);have dG3:ldN M3 (.ptr (some ⟨M.next,0⟩)) 2=some (.agg gw.cells):=by rw[q00 hG3 (by simp[q0u])];rfl
     have f3:Fr M M3 [n+1+1,n+1+1+1+1+1+1]:=(f2.any _).step g4 (fun c hc=>.inl hc)
     obtain⟨mv3,mv4⟩:=z0n g3 hY3 (by omega) (w.okq q mq).2.2.2.1 (w.oka a' ma').1 gok (o1:=7) (o2:=2) (by simp[Wd.cells]) (by simp) rfl rfl;have f13:Fr M M3 ((n+1)::(n+1+1)::(n+1+1+1+1)::(n+1+1+1+1+1+1)::F):=f3.mono (by simp +contextual);have hL3:q0l M3 b st F:=h.frame f3 (fun c hc hm=>by
      have:=hF c hc;simp only[xmk0,List.not_mem_nil,or_false]at hm;omega)
     cases e2:q2B q.q18 a'.bal gw with
     |false=>
      rw[if_pos (.inr rfl)];obtain⟨M4,k1,k2⟩:=mv3 e2;obtain⟨M',j1,j2⟩:=q7D (M:=M4) (e:=20) (by omega) (k2.get h83 (by simp)) (.ptr (some ⟨b,0⟩)) (.ptr (some ⟨n+1+1,0⟩)) (.ptr (some ⟨n+1+1+1+1,0⟩)) (.ptr (some ⟨n+1+1+1+1+1+1,0⟩)) (.ptr (some ⟨M.next,0⟩))
      simp only[q7g (H:=H18),T.j1y,p2,p1,q1,q0a,q0e,decide_true,dA2,g1,q7h (H:=H18),T.j1z,q0e,dG3,k1,j1];refine⟨M',F,rfl,(hL3.q0h k2).frame j2 (fun c hc hm=>?_),(f13.step0 k2).step j2 (fun c hc=>?_),fun c hc=>.inl hc⟩
      ·simp only[xms]at hm;subst hm;exact nF _ (by omega) hc
      ·simp only[xms]at hc;subst hc;exact .inl (by simp)
     |true=>
      rw[if_neg (by simp)];obtain⟨M4,k1,k2,k3,k4⟩:=mv4 e2;have f4:Fr M M4 ((n+1)::(n+1+1)::(n+1+1+1+1)::(n+1+1+1+1+1+1)::F):=f13.step k4 (fun c hc=>.inl (by
       simp only[xmk0,List.not_mem_nil,or_false]at hc;rcases hc with rfl|rfl<;>simp))
      have hL4:q0l M4 b st F:=hL3.frame k4 (fun c hc hm=>by
       have:=hF c hc;simp only[xmk0,List.not_mem_nil,or_false]at hm;omega)
      have n4:M.next<=M4.next:=f4.next
      obtain⟨m',F',t1,t2,t3,t4⟩:=j3y (g:=M.next) hL4 w hF (a:={a with bal:=Wd.of (a.bal.val-x.val)}) (a':={a' with bal:=Wd.of (a'.bal.val+gw.val)}) (q:={q with inx:=Wd.of (q.inx.val+x.val),q18:=Wd.of (q.q18.val-gw.val)})
       ha ha' (w.okq q mq).2.2.2.2 (k4.get h83 (by simp only[xmk0,List.not_mem_nil,or_false,not_or];omega)) (k4.get g2 (by simp only[xmk0,List.not_mem_nil,or_false,not_or];omega)) k3 k2 (k4.get hG3 (by simp only[xmk0,List.not_mem_nil,or_false,not_or];omega)) lQ
      simp only[q7g (H:=H18),T.j1y,p2,p1,q1,q0a,decide_true,dA2,g1,q7h (H:=H18),T.j1z,dG3,k1,z5O (H:=H18),T.a1r,q0o,q0H,q0I,q0w,xbt,t1];refine⟨m',F',rfl,t2,f4.step t3 (fun c hc=>.inl ?_),fun c hc=>(t4 c hc).imp (fun h=>h) (fun h=>xnt0 n4 h)⟩
      simp only[xmk0]at hc⊢;rcases hc with rfl|hc
      ·exact .inl rfl
      ·exact .inr (.inr (.inr (.inr hc)))
   ·rw[if_pos g0];obtain⟨M',j1,j2⟩:=z0Y (M:=M2) g0 h82 (.ptr (some ⟨b,0⟩)) (.ptr (some ⟨n,0⟩)) (.ptr (some ⟨n+1+1,0⟩)) (.ptr (some ⟨n+1+1+1+1,0⟩)) (.ptr (some ⟨n+1+1+1+1+1+1,0⟩)) (.ptr (some ⟨M.next,0⟩))
    rw[j1];exact done M2 M' _ _ rfl f2 j2
 ·rw[if_pos f0];obtain⟨M',g1,g2⟩:=z0X (M:=M) f0 h8 (.ptr (some ⟨b,0⟩)) (.ptr (some ⟨n,0⟩)) (.ptr (some ⟨n+1+1,0⟩)) (.ptr (some ⟨n+1+1+1+1,0⟩)) (.ptr (some ⟨n+1+1+1+1+1,0⟩)) (.ptr (some ⟨n+1+1+1+1+1+1,0⟩));simp only[q9V (H:=H18),T.j5g,q1,p2,q0a,ifV,wp,dA,dP,ft,df f0,g1];exact done M M' _ _ rfl (Fr.refl M) g2
end
section
variable {m:Mem} {b:Nat} {st:LSt} {F:List Nat}
theorem z7l (h:q0l m b st F) (w:LWf st) (i j:Int) {x:Wd} (hx:x.ok) (s:Int) :
  ∃m' F',run E18 (.fn 63) [.ptr (some ⟨b,0⟩),.int .u64 i,.int .u64 j,.agg (q0u x s)] m=some (.tup [.agg (q0u (q0P st i j x s).1 (q0P st i j x s).2.1),.int .i64 (q0P st i j x s).2.2.1],m')/\
   q0l m' b (q0P st i j x s).2.2.2 F'/\Fr m m' F/\∀c,c∈F'->c∈F\/m.next<=c:=by
 obtain⟨tp,tq,ta,FP,FQ,FA,h1,h2,h3,h4,h5,h6,h7,h8,h9,h10,e⟩:=h.ex;have hb:=Mem.q0x h1;have hlt:=h.lt;have a3:∀i:Nat,ld1 m (.ptr (some ⟨b,i⟩))=[.int .i64 st.most,.ptr (some ⟨tp,0⟩),.ptr (some ⟨tq,0⟩),.ptr (some ⟨ta,0⟩),.int .u64 st.latest][i]?:=fun i=>q0g h1
 have om:=q78 (H:=H18) rfl h w i;have on:=q78 (H:=H18) rfl h w j;have len:∀id,(st.of id).2.1.name.length<=3:=by
  intro id;rcases LSt.q1f w id with ⟨e,_⟩|⟨a,p,e,_,_,_,_,_,_,_,mp⟩
  ·rw[e];exact Nat.zero_le _
  ·rw[e];exact Nat.le_of_eq (q75 (w.okp p mp).2.2.2)
 have gq:=z3x (H:=H18) rfl w h3 ((st.of i).2.1.name++(st.of j).2.1.name);have sa:=q5i (P:=Tryz.prog) 9 (st.of i).2.1.name (st.of j).2.1.name (by have:=len i;have:=len j;omega);have done:∀M,Fr m M []->∀v w:AV,v=w->∃m' F',some (v,M)=some (w,m')/\q0l m' b st F'/\Fr m m' F/\∀c,c∈F'->c∈F\/m.next<=c:=fun M hM v w hv=>⟨M,F,by rw[hv],h.q0h hM,hM.any F,fun c hc=>.inl hc⟩
 have ci:=LSt.q1f w i;have cj:=LSt.q1f w j;obtain⟨o,ho⟩:∃o,o=st.of i:=⟨_,rfl⟩;obtain⟨o',ho'⟩:∃o',o'=st.of j:=⟨_,rfl⟩;rw[<-ho]at om gq sa ci;rw[<-ho']at on gq sa cj;clear len;obtain⟨a,p,e⟩:=o;obtain⟨a',p',e'⟩:=o';simp only at om on gq sa;obtain⟨qo,hqo⟩:∃qo,qo=st.z1L (p.name++p'.name):=⟨_,rfl⟩;rw[<-hqo]at gq;obtain⟨qv,hqv⟩:∃qv,qv=qo.getD q8C:=⟨_,rfl⟩;obtain⟨qb,hqb⟩:∃qb,qb=qo.isSome:=⟨_,rfl⟩
 rw[<-hqv,<-hqb]at gq;obtain⟨M,hM⟩:∃M,M=((((((m.lay (.cells (q0u x s) false)).lay (.cells z3 false)).lay (.cells a.cells false)).lay (.cells p.cells false)).lay (.cells a'.cells false)).lay (.cells p'.cells false)).lay (.cells qv.cells false):=⟨_,rfl⟩;have fM:Fr m M []:=by rw[hM];(repeat apply Fr.lays);exact Fr.refl _
 have m0:M.get m.next=some (.cells (q0u x s) false):=by rw[hM];simp only[Mem.q0B,Mem.q0t,nn1,nn2,nn3,nn4,nn5,nn6,if_true,if_false]
 have m1:M.get (m.next+1)=some (.cells (z3) false):=by rw[hM];simp[Mem.q0B]
 have m2:M.get (m.next+1+1)=some (.cells (a.cells) false):=by rw[hM];simp[Mem.q0B]
 have m3:M.get (m.next+1+1+1)=some (.cells (p.cells) false):=by rw[hM];simp[Mem.q0B]
 have m4:M.get (m.next+1+1+1+1)=some (.cells (a'.cells) false):=by rw[hM];simp[Mem.q0B]
 have m5:M.get (m.next+1+1+1+1+1)=some (.cells (p'.cells) false):=by rw[hM];simp[Mem.q0B]
 have m6:M.get (m.next+1+1+1+1+1+1)=some (.cells (qv.cells) false):=by rw[hM];simp[Mem.q0B]
 have s8:=q0X (n:=3) (v:=z3) m1 rfl rfl rfl;have l8:ldN (M.put (m.next+1) (some (.cells z3 false))) (.ptr (some ⟨m.next+1,0⟩)) 3=some (.agg z3):=q0A (q0v m1) rfl
 have bP:∀i:Nat,ld1 M (.ptr (some ⟨m.next+1+1+1,i⟩))=p.cells[i]?:=fun i=>q0g m3
 have bR:∀i:Nat,ld1 M (.ptr (some ⟨m.next+1+1+1+1+1,i⟩))=p'.cells[i]?:=fun i=>q0g m5
 have fE:Fr m (M.put (m.next+1) (some (.cells z3 false))) []:=fM.put' (.inr (by omega))
 simp only[q0u,z3,q1b.cells,q0q.cells,q0N.cells]at om on gq sa hM s8 l8 bP bR fE⊢;simp (maxDischargeDepth:=20) only [a5L (H:=H18) rfl,T.f63,pB,p1,q1,p2,q0o,AV.cells,Nat.reduceAdd,Nat.reduceLeDiff,q0K,nnA,q0d,q0a,unA,q0H,q0I,q0E,AV.one,over,lcl,q1d hb,q3k hb,q6B hb,z2D hb,z2E hb,z2F hb,a3,om,on,sa,gq,frl,Fr.refl,<-hM]
 unfold q0P;rw[<-ho,<-ho'];simp only;rcases ci with ⟨ci,_⟩|⟨a0,p0,ci,ga,gp,hid,hka,hpn,hkp,ma,mp⟩
 ·obtain⟨rfl,rfl,rfl⟩:a=j2g/\p=z6y/\e=40:=by simpa using ci
  simp only[ne_eq,show ¬(40:Int)=0 by omega,not_false_eq_true,if_true,s8,l8,Option.bind_some,decide_false,xbf];exact done _ fE _ _ rfl
 ·obtain⟨rfl,rfl,rfl⟩:a=a0/\p=p0/\e=0:=by simpa using ci
  simp only[decide_true,xbt,ne_eq,not_true_eq_false,if_false];rcases cj with ⟨cj,_⟩|⟨a1,p1,cj,ga',gp',hid',hka',hpn',hkp',ma',mp'⟩
  ·obtain⟨rfl,rfl,rfl⟩:a'=j2g/\p'=z6y/\e'=40:=by simpa using cj
   simp only[show ¬(40:Int)=0 by omega,not_false_eq_true,if_true,s8,l8,Option.bind_some,decide_false,xbf];exact done _ fE _ _ rfl
  ·obtain⟨rfl,rfl,rfl⟩:a'=a1/\p'=p1/\e'=0:=by simpa using cj
   simp only[decide_true,xbt,not_true_eq_false,if_false];by_cases hn:p.name=p'.name
   ·rw[if_pos hn];simp only[ge,s8,l8,bP,bR,q4r,Option.bind_some,dt hn];exact done _ fE _ _ rfl
   ·rw[if_neg hn,<-hqo];simp only[ge,bP,bR,q4r,Option.bind_some,df hn];cases qo with
    |none=>
     simp only[hqb,Option.isSome_none,s8,l8,Option.bind_some,xbf];exact done _ fE _ _ rfl
    |some q=>
     have hkq:q0O q0c (p.name++p'.name) (st.pairs.map (·.key))=true:=by
      cases hk:q0O q0c (p.name++p'.name) (st.pairs.map (·.key)) with
      |true=>rfl
      |false=>rw[LSt.q3o hk]at hqo;cases hqo
     obtain⟨q',q1,q2,q3,q4⟩:=LSt.q2V hkq;rw[<-hqo]at q1;cases q1;simp only[hqb,Option.isSome_some,xbt];have hqv':qv=q:=by rw[hqv];rfl
     subst hqv';obtain⟨m',F',t1,t2,t3,t4⟩:=z9a (h.q0h fM) w hlt ma mp ma' mp' q4 (by rw[hid];exact hka) (by rw[hid'];exact hka') hx s
      m0 m1 m2 m3 m4 m5 m6
     rw[t1];refine⟨m',F',rfl,t2,(fM.any F).step t3 (fun c hc=>?_),fun c hc=>(t4 c hc).imp (fun h=>h) (fun h=>xnt0 fM.next h)⟩
     simp only[xmk0]at hc;rcases hc with rfl|rfl|rfl|rfl|hc
     ·exact .inr (by omega)
     ·exact .inr (by omega)
     ·exact .inr (by omega)
     ·exact .inr (by omega)
     ·exact .inl hc
end
end
end Go.Proofs.YtlginbmjiecglaaGreatDoor
namespace Go.Abs
section
open Go
noncomputable def Ry (P:Program) (E:Env) (b:Nat):Do:=
 ⟨run E,fun k _ m=>fin P (.rd b) (Nat.casesOn (motive:=fun _=>Option Jmp) k none fun k=>Nat.casesOn (motive:=fun _=>Option Jmp) k (some .ret) fun id=>some (.exit id)) [] m,fun _ _ _ _=>none⟩
theorem z0x {E:Env} {f i b:Nat} {args t:List AV} {m:Mem} {st:LoopState} {pe:Option Jmp} (hm:m.get b=some (.loop {q0C E f i t with state:=st,pending:=pe})) (hl:args.length=(q0C E f i t).params.length) {n:Nat} {r:AV×Mem}
  (h:goF E (run E) (.rd b) n [.code (q0C E f i t).assign,.beginRound,.code (q0C E f i t).body] (z2U (q0C E f i t).params args t) m=some r):run E (.yl b) args m=some r:=by
 have ht:(q0C E f i t).tmps=t:=by unfold q0C;split<;>rfl
 rw[z2p,q3r,hm];simp only;rw[if_pos hl,ht];exact Le.goF (fun _ _ _=>Le.refl _) _ _ _ _ _ _ h
theorem q4D (E:Env) (f i:Nat) (t:List AV):q0C E f i t={q0C E f i []with tmps:=t}:=by unfold q0C;split<;>rfl
theorem z0i {E E':Env} (h:E.B=E'.B) {f i:Nat} {t:List AV}:q0C E f i t=q0C E' f i t:=by unfold q0C codeOf;rw[h]
end
end Go.Abs
namespace Go.Proofs.YtlginbmjiecglaaGreatDoor.T
noncomputable section
open Go Go.Abs Go.Proofs.YtlginbmjiecglaaGreatDoor
set_option maxRecDepth 10000
variable {H:FuncId->Option (List AV->Mem->R)}
def a4w (b:Nat):List AV->CM:=apS fun _=>apS fun u1=>apS fun _=>apS fun _=>apS fun t3=>apS fun _=>apS fun _=>apS fun _=>apS fun _=>apS fun _=>apS fun _=>apS fun _=>ap0<|
 CM.al (some (.cells [(.str []),(.int .i64 0),(.int .i64 0),(.int .u64 0)] false,pB)) fun x0=>
 CM.st (fun m=>stV m x0 u1 4)<|
 CM.st (q3j (.rd b))<|
 CM.pu (p1 (fun a=>q0j Tryz.prog 28 a 0) t3) fun x2=>
 CM.rm (q1 (q1E Tryz.prog 23) x2 ) fun x3=>
 CM.rm (q1 (q1E Tryz.prog 56) x0 ) fun x4=>
 CM.al (bsA 4 1 [(.str []),(.int .i64 0),(.int .i64 0),(.int .u64 0)] [(0,x4)]) fun x5=>
 CM.ef (apE 4 40 x3 x5) fun x6=>
 CM.pu (p1 (fun a=>q0j Tryz.prog 28 a 0) t3) fun x7=>
 CM.st (fun m=>stV m x7 x6 1)<|
 CM.go 0 []
theorem j7e (b:Nat) (u0:AV) (u1:AV) (t0:AV) (t2:AV) (t3:AV) (t5:AV) (t7:AV) (t9:AV) (t19:AV) (t21:AV) (t34:AV) (t47:AV) (m:Mem):goF (EH H) (run (EH H)) (.rd b) 400 [.code (q0C (EH H) 16 0 []).assign,.beginRound,.code (q0C (EH H) 16 0 []).body] (z2U (q0C (EH H) 16 0 []).params [u0,u1] ([t0,uu,t2,t3,uu,t5,uu,t7,uu,t9,uu,uu,uu,uu,uu,uu,uu,uu,uu,t19,uu,t21,uu,uu,uu,uu,uu,uu,uu,uu,uu,uu,uu,uu,t34,uu,uu,uu,uu,uu,uu,uu,uu,uu,uu,uu,uu,t47]++List.replicate 7 uu)) m=q0k (Ry Tryz.prog (EH H) b) (a4w b [u0,u1,t0,t2,t3,t5,t7,t9,t19,t21,t34,t47]) m:=by kernel_rfl
def a4x (b:Nat):List AV->CM:=apS fun _=>apS fun u1=>apS fun _=>apS fun _=>apS fun t3=>apS fun _=>apS fun _=>apS fun _=>apS fun _=>apS fun _=>ap0<|
 CM.al (some (.cells [(.str []),(.str []),(.int .i64 0),(.int .u64 0),(.int .i64 0),(.int .i64 0),(.int .u64 0),(.int .i64 0),(.int .u64 0)] false,pB)) fun x0=>
 CM.st (fun m=>stV m x0 u1 9)<|
 CM.st (q3j (.rd b))<|
 CM.pu (p1 (fun a=>q0j Tryz.prog 28 a 1) t3) fun x2=>
 CM.rm (q1 (q1E Tryz.prog 24) x2 ) fun x3=>
 CM.rm (q1 (q1E Tryz.prog 74) x0 ) fun x4=>
 CM.al (bsA 9 1 [(.str []),(.str []),(.int .i64 0),(.int .u64 0),(.int .i64 0),(.int .i64 0),(.int .u64 0),(.int .i64 0),(.int .u64 0)] [(0,x4)]) fun x5=>
 CM.ef (apE 9 88 x3 x5) fun x6=>
 CM.pu (p1 (fun a=>q0j Tryz.prog 28 a 1) t3) fun x7=>
 CM.st (fun m=>stV m x7 x6 1)<|
 CM.go 0 []
theorem j7g (b:Nat) (u0:AV) (u1:AV) (t0:AV) (t2:AV) (t3:AV) (t7:AV) (t9:AV) (t32:AV) (t34:AV) (t47:AV) (m:Mem):goF (EH H) (run (EH H)) (.rd b) 400 [.code (q0C (EH H) 16 1 []).assign,.beginRound,.code (q0C (EH H) 16 1 []).body] (z2U (q0C (EH H) 16 1 []).params [u0,u1] ([t0,uu,t2,t3,uu,uu,uu,t7,uu,t9,uu,uu,uu,uu,uu,uu,uu,uu,uu,uu,uu,uu,uu,uu,uu,uu,uu,uu,uu,uu,uu,uu,t32,uu,t34,uu,uu,uu,uu,uu,uu,uu,uu,uu,uu,uu,uu,t47]++List.replicate 7 uu)) m=q0k (Ry Tryz.prog (EH H) b) (a4x b [u0,u1,t0,t2,t3,t7,t9,t32,t34,t47]) m:=by kernel_rfl
def a4y (b:Nat):List AV->CM:=apS fun _=>apS fun u1=>apS fun _=>apS fun t3=>apS fun _=>apS fun _=>apS fun _=>ap0<|
 CM.al (some (.cells [(.int .u64 0),(.str []),(.int .i64 0),(.int .u64 0)] false,pB)) fun x0=>
 CM.st (fun m=>stV m x0 u1 4)<|
 CM.st (q3j (.rd b))<|
 CM.pu (p1 (fun a=>q0j Tryz.prog 28 a 2) t3) fun x2=>
 CM.rm (q1 (q1E Tryz.prog 25) x2 ) fun x3=>
 CM.rm (q1 (q1E Tryz.prog 54) x0 ) fun x4=>
 CM.al (bsA 4 1 [(.int .u64 0),(.str []),(.int .i64 0),(.int .u64 0)] [(0,x4)]) fun x5=>
 CM.ef (apE 4 40 x3 x5) fun x6=>
 CM.pu (p1 (fun a=>q0j Tryz.prog 28 a 2) t3) fun x7=>
 CM.st (fun m=>stV m x7 x6 1)<|
 CM.go 0 []
theorem j7i (b:Nat) (u0:AV) (u1:AV) (t2:AV) (t3:AV) (t9:AV) (t45:AV) (t47:AV) (m:Mem):goF (EH H) (run (EH H)) (.rd b) 400 [.code (q0C (EH H) 16 2 []).assign,.beginRound,.code (q0C (EH H) 16 2 []).body] (z2U (q0C (EH H) 16 2 []).params [u0,u1] ([uu,uu,t2,t3,uu,uu,uu,uu,uu,t9,uu,uu,uu,uu,uu,uu,uu,uu,uu,uu,uu,uu,uu,uu,uu,uu,uu,uu,uu,uu,uu,uu,uu,uu,uu,uu,uu,uu,uu,uu,uu,uu,uu,uu,uu,t45,uu,t47]++List.replicate 7 uu)) m=q0k (Ry Tryz.prog (EH H) b) (a4y b [u0,u1,t2,t3,t9,t45,t47]) m:=by kernel_rfl
end
end Go.Proofs.YtlginbmjiecglaaGreatDoor.T
namespace Go.Proofs.YtlginbmjiecglaaGreatDoor
section
open Go Go.Abs Go.Proofs.YtlginbmjiecglaaGreatDoor.T
set_option maxRecDepth 10000
variable {H:FuncId->Option (List AV->Mem->R)}
theorem j7d {b:Nat} (u0 u1 t0 t2 t3 t5 t7 t9 t19 t21 t34 t47:AV) {m:Mem} {st:LoopState} {pe:Option Jmp} (hm:m.get b=some (.loop {q0C (T.EH fun _=>none) 16 0 (([t0,uu,t2,t3,uu,t5,uu,t7,uu,t9,uu,uu,uu,uu,uu,uu,uu,uu,uu,t19,uu,t21,uu,uu,uu,uu,uu,uu,uu,uu,uu,uu,uu,uu,t34,uu,uu,uu,uu,uu,uu,uu,uu,uu,uu,uu,uu,t47]++List.replicate 7 uu)) with state:=st,pending:=pe})) {r:AV×Mem} (h:q0k (Ry Tryz.prog (T.EH H) b) (T.a4w b [u0,u1,t0,t2,t3,t5,t7,t9,t19,t21,t34,t47]) m=some r):run (T.EH H) (.yl b) [u0,u1] m=some r:=by
 rw[z0i (show (T.EH fun _=>none).B=(T.EH H).B from rfl)]at hm
 refine z0x hm (by rw[q4D];kernel_rfl) (n:=400) ?_;rw[q4D];exact(T.j7e b u0 u1 t0 t2 t3 t5 t7 t9 t19 t21 t34 t47 m).trans h
theorem j7f {b:Nat} (u0 u1 t0 t2 t3 t7 t9 t32 t34 t47:AV) {m:Mem} {st:LoopState} {pe:Option Jmp} (hm:m.get b=some (.loop {q0C (T.EH fun _=>none) 16 1 (([t0,uu,t2,t3,uu,uu,uu,t7,uu,t9,uu,uu,uu,uu,uu,uu,uu,uu,uu,uu,uu,uu,uu,uu,uu,uu,uu,uu,uu,uu,uu,uu,t32,uu,t34,uu,uu,uu,uu,uu,uu,uu,uu,uu,uu,uu,uu,t47]++List.replicate 7 uu)) with state:=st,pending:=pe})) {r:AV×Mem} (h:q0k (Ry Tryz.prog (T.EH H) b) (T.a4x b [u0,u1,t0,t2,t3,t7,t9,t32,t34,t47]) m=some r):run (T.EH H) (.yl b) [u0,u1] m=some r:=by
 rw[z0i (show (T.EH fun _=>none).B=(T.EH H).B from rfl)]at hm
 refine z0x hm (by rw[q4D];kernel_rfl) (n:=400) ?_;rw[q4D];exact(T.j7g b u0 u1 t0 t2 t3 t7 t9 t32 t34 t47 m).trans h
theorem j7h {b:Nat} (u0 u1 t2 t3 t9 t45 t47:AV) {m:Mem} {st:LoopState} {pe:Option Jmp} (hm:m.get b=some (.loop {q0C (T.EH fun _=>none) 16 2 (([uu,uu,t2,t3,uu,uu,uu,uu,uu,t9,uu,uu,uu,uu,uu,uu,uu,uu,uu,uu,uu,uu,uu,uu,uu,uu,uu,uu,uu,uu,uu,uu,uu,uu,uu,uu,uu,uu,uu,uu,uu,uu,uu,uu,uu,t45,uu,t47]++List.replicate 7 uu)) with state:=st,pending:=pe})) {r:AV×Mem} (h:q0k (Ry Tryz.prog (T.EH H) b) (T.a4y b [u0,u1,t2,t3,t9,t45,t47]) m=some r):run (T.EH H) (.yl b) [u0,u1] m=some r:=by
 rw[z0i (show (T.EH fun _=>none).B=(T.EH H).B from rfl)]at hm
 refine z0x hm (by rw[q4D];kernel_rfl) (n:=400) ?_;rw[q4D];exact(T.j7i b u0 u1 t2 t3 t9 t45 t47 m).trans h
end
end Go.Proofs.YtlginbmjiecglaaGreatDoor
namespace Go.Abs
section
open Go
theorem q3y {n w:Nat} (hn:0<n) {m:Mem} {s:AV} {l:List (List AV)} {rb:Option Nat} (h:q03 n m s l rb) {xb:Nat} {new:List AV} (hx:m.get xb=some (.cells new false)) (hl:new.length=n) (ho:new.all AV.one=true)
  (hb:(l.length+1)*w<=q06) :
  ∃s' m',q0Y n w s (.sl (some ⟨xb,0⟩) n 1 1 true) m=some (s',m')/\q03 n m' s' (l++[new]) (some m.next)/\m'.next=m.next+1/\Fr m m' rb.toList:=by
 have hsrc:q3Z n (.sl (some ⟨xb,0⟩) n 1 1 true) m=some (1,new):=by
  simp only[q3Z,true_or,if_true,q0G,hx,Nat.one_mul,xnz,hl,xnr,List.drop_zero,xom];rw[xtl (by omega)]
 have hall:∀x∈l++[new],x.length=n/\x.all AV.one=true:=by
  intro x hx';simp only[xma,xms]at hx';rcases hx' with h1|rfl
  ·exact h.1 x h1
  ·exact⟨hl,ho⟩
 have hlens:=h.lens;have hlen:(l++[new]).length=l.length+1:=by simp
 have hfl:=q1w hlens;unfold q0Y;rw[hsrc];simp only[ho,not_true_eq_false,if_false];rcases h.2 with (⟨rfl,rfl,sz,ex,rfl⟩|⟨b,rfl,rfl,rfl,h3⟩)|⟨b,rfl,rfl,h3⟩
 ·simp only[Nat.one_ne_zero,if_false];rw[if_pos (by simpa using hb)];exact⟨_,_,rfl,⟨hall,.inr ⟨m.next,rfl,by simp,by simp[Mem.q0B]⟩⟩,rfl,Fr.alloc _ _⟩
 ·simp only[true_or,if_true];have hld:q0G m ⟨b,0⟩ (0*n)=some []:=by simp[q0G,h3]
  rw[if_neg (by omega),if_pos (by simpa using hb),hld];simp only;refine⟨_,_,rfl,⟨hall,.inr ⟨m.next,rfl,by simp,by simp[Mem.q0B]⟩⟩,rfl,(Fr.alloc _ _).mono (by simp)⟩
 ·simp only[true_or,if_true];have hld:q0G m ⟨b,0⟩ (l.length*n)=some l.flatten:=by
   simp only[q0G,h3];rw[if_pos (by omega),List.drop_zero,xtl (by omega)]
  rw[if_neg (by omega),if_pos hb,hld];simp only[xbq,if_false,h3];refine⟨_,_,rfl,⟨hall,.inr ⟨m.next,rfl,by rw[hlen],?_⟩⟩,rfl,((Fr.put m b none).trans (Fr.alloc _ _) (by simp) (by simp))⟩
  simp[Mem.q0B,List.flatten_append]
theorem q2n {n w:Nat} {m:Mem} {s:AV} {l:List (List AV)} {rb:Option Nat} (h:q03 n m s l rb) (hb:l.length*w<=q06) :
  ∃b ex m',q0Y n w (.sl (some ⟨m.next,0⟩) n 0 0 true) s (m.lay (.cells [] false))=some (.sl (some ⟨b,0⟩) n l.length l.length ex,m')/\m'.get b=some (.cells l.flatten false)/\Fr m m' []/\m.next<=b/\(0<l.length->ex=false):=by
 have f1:Fr m (m.lay (.cells [] false)) []:=(Fr.refl m).lay _;have h':=h.frame f1 (by simp);have ones:l.flatten.all AV.one=true:=q7L fun x hx=>(h.1 x hx).2
 have hfl:=q1w h.lens;have hl0:=q0f m (.cells [] false);have src:q3Z n s (m.lay (.cells [] false))=some (l.length,l.flatten):=by
  rcases h'.2 with (⟨rfl,rfl,sz,ex,rfl⟩|⟨b,rfl,rfl,rfl,h3⟩)|⟨b,rfl,rfl,h3⟩
  ·rfl
  ·simp[q3Z,q0G,h3]
  ·simp only[q3Z,true_or,if_true,q0G,h3];rw[if_pos (by omega),List.drop_zero,xtl (by omega)];rfl
 unfold q0Y;rw[src];simp only[ones,not_true_eq_false,if_false,true_or,if_true,xnz,Nat.zero_mul];by_cases h0:l.length=0
 ·have hl:l=[]:=List.length_eq_zero_iff.1 h0;subst hl;rw[if_pos (by simp)];have hst:q1t (m.lay (.cells [] false)) ⟨m.next,0+0⟩ ([]:List (List AV)).flatten=some (m.lay (.cells [] false)):=by
   simp only[q1t,hl0];rw[if_pos (by simp)];congr 1;exact q1c m _ _
  simp only[xna]at hst;refine⟨m.next,true,m.lay (.cells [] false),?_,hl0,f1,xnr _,by simp⟩
  rw[hst];rfl
 ·rw[if_neg (by omega),if_pos hb];have hld:q0G (m.lay (.cells [] false)) ⟨m.next,0⟩ 0=some []:=by simp only[q0G,hl0];simp
  rw[hld];simp only[List.nil_append];exact⟨_,_,_,rfl,q0f _ _,f1.lay _,by simp,fun _=>rfl⟩
theorem q4d (E:Env) (f i:Nat) (t:List AV):q0C E f i t={q0C E f i t with state:=.ready,pending:=none}:=by unfold q0C;split<;>rfl
theorem q1v {n w:Nat} (h:n<=4096) (hw:w<=100):n*w<=q06:=xnt0 (Nat.mul_le_mul h hw) (by decide)
end
end Go.Abs
