/- Texts of one claim, put together. -/
import Derived.Test.YtlginbmjiecglaaGreatDoorQ20
namespace Go.Proofs.YtlginbmjiecglaaGreatDoor
section
set_option maxRecDepth 4000
open Go Go.Abs
section
variable {m:Mem} {b:Nat} {st:LSt} {F:List Nat}
set_option maxHeartbeats 1000000 in
theorem z4k (h:q0l m b st F) (w:LWf st) (id:Int) {x:Wd} (hx:x.ok) (s:Int) :
  ∃m' F',run E18 (.fn 61) [.ptr (some ⟨b,0⟩),.int .u64 id,.agg (q0u x s)] m=some (.int .i64 (q1y st id x s).1,m')/\q0l m' b (q1y st id x s).2 F'/\Fr m m' F/\∀c,c∈F'->c∈F\/m.next<=c:=by
 have om:=q78 (H:=H18) rfl h w id;have hlt:=h.lt;unfold q1y;rcases LSt.q1f w id with ⟨e,_⟩|⟨a,p,e,ga,gp,hid,hka,hpn,hkp,ma,mp⟩
 ·rw[e]at om⊢;simp only[q0u,j2g,z6y,q1b.cells,q0q.cells]at om⊢;simp (maxDischargeDepth:=20) only [q8S (H:=H18) rfl,T.f61,p1,pB,p2,q1,q0K,q0d,q0a,AV.one,over,AV.cells,Nat.reduceAdd,Nat.reduceLeDiff,lcl,om,frl,Fr.refl,df (show ¬(40:Int)=0 by omega),q4x (H:=H18),T.z3p,ifV,wp,q4y (H:=H18),T.z3q,q0e,q4A (H:=H18),T.z3r,nnA,q0e,q4B (H:=H18),T.z3s,wp]
  refine⟨_,F,rfl,?_,?_,fun c hc=>.inl hc⟩
  ·simp only[ne_eq,show ¬(40:Int)=0 by omega,not_false_eq_true,if_true];exact h.q0h ((((Fr.refl m).lay _).lay _).lay _)
  ·exact((((Fr.refl m).lay _).lay _).lay _).any F
 ·rw[e]at om⊢;have ft:=fun m=>q9D (H:=H18) rfl p hx s m
  obtain⟨fe,hfe⟩:∃fe,fe=q1W p x s:=⟨_,rfl⟩;simp only[<-hfe,q0u,q1b.cells,q0q.cells]at om ft⊢;simp only[ne_eq,not_true_eq_false,if_false];by_cases f0:fe=0
  ·subst f0;have hpo:=(w.okp p mp).2.2.1;have hab:=(w.oka a ma).1;have su:=fun m=>j3a (H:=H18) rfl hab hx m
   have ad:=fun m=>z0L (H:=H18) rfl hpo hx m
   simp only[Wd.cells]at su ad;have po:=fun m=>z3N (H:=H18) rfl a hab hx s m
   simp only[q0u,q1b.cells]at po;by_cases hpr:a.bal.val<x.val
   ·rw[if_pos hpr];rw[dt hpr]at po;simp (maxDischargeDepth:=20) only [q8S (H:=H18) rfl,T.f61,p1,pB,p2,q1,q0K,q0d,q0a,AV.one,over,AV.cells,Nat.reduceAdd,Nat.reduceLeDiff,lcl,om,frl,Fr.refl,decide_true,ft,q4x (H:=H18),T.z3p,ifV,wp,po,q4y (H:=H18),T.z3q,q0e,df (show ¬(42:Int)=0 by omega),q4A (H:=H18),T.z3r,nnA,q0e,q4B (H:=H18),T.z3s,wp];exact⟨_,F,rfl,h.q0h ((((Fr.refl m).lay _).lay _).lay _),((((Fr.refl m).lay _).lay _).lay _).any F,fun c hc=>.inl hc⟩
   rw[if_neg hpr];rw[df hpr]at po;have c1:=q1O (n:=a.bal.val-x.val);have c2:=q1O (n:=p.out.val+x.val);unfold q2B;cases e1:q0Q (a.bal.val-x.val) with
   |false=>
    rw[e1]at c1;simp (maxDischargeDepth:=20) only [q8S (H:=H18) rfl,T.f61,p1,pB,p2,q1,q0K,q0d,q0a,AV.one,over,AV.cells,Nat.reduceAdd,Nat.reduceLeDiff,lcl,om,frl,Fr.refl,decide_true,ft,q4x (H:=H18),T.z3p,ifV,wp,po,q4y (H:=H18),T.z3q,q0e,q5q (H:=H18) rfl,T.f57,nnA,su,ad,c1,xbf,q4A (H:=H18),T.z3r,q0e,df (show ¬(20:Int)=0 by omega),q4B (H:=H18),T.z3s,wp,Bool.false_and,xbq]
    refine⟨_,F,rfl,h.q0h ?_,Fr.any F ?_,fun c hc=>.inl hc⟩
    all_goals ((repeat apply Fr.lays);exact Fr.refl _)
   |true=>
    rw[e1]at c1;cases e2:q0Q (p.out.val+x.val) with
    |false=>
     rw[e2]at c2;simp (maxDischargeDepth:=20) only [q8S (H:=H18) rfl,T.f61,p1,pB,p2,q1,q0K,q0d,q0a,AV.one,over,AV.cells,Nat.reduceAdd,Nat.reduceLeDiff,lcl,om,frl,Fr.refl,decide_true,ft,q4x (H:=H18),T.z3p,ifV,wp,po,q4y (H:=H18),T.z3q,q0e,q5q (H:=H18) rfl,T.f57,nnA,su,ad,c1,c2,xbt,xbf,q4A (H:=H18),T.z3r,q0e,df (show ¬(20:Int)=0 by omega),q4B (H:=H18),T.z3s,wp,Bool.and_false,xbq]
     refine⟨_,F,rfl,h.q0h ?_,Fr.any F ?_,fun c hc=>.inl hc⟩
     all_goals ((repeat apply Fr.lays);exact Fr.refl _)
    |true=>
     rw[e2]at c2;rw[q1a e1]at su;rw[q1a e2]at ad;obtain⟨nx,hnx⟩:∃nx,nx=Wd.of (a.bal.val-x.val):=⟨_,rfl⟩;obtain⟨ny,hny⟩:∃ny,ny=Wd.of (p.out.val+x.val):=⟨_,rfl⟩;rw[<-hnx]at su⊢;rw[<-hny]at ad⊢;obtain⟨M6,hM6⟩:∃M6,M6=(((((m.lay (.cells [.int .i64 x.hi,.int .u64 x.lo,.int .i64 s] false)).lay (.cells (q1b.mk a.id a.q1S nx).cells false)).lay (.cells (q0q.mk p.name p.scale ny).cells false)).lay (.cells x.cells false)).lay (.cells nx.cells false)).lay (.cells ny.cells false):=⟨_,rfl⟩
     have f6:Fr m M6 []:=by rw[hM6];(repeat apply Fr.lays);exact Fr.refl _
     have n6:m.next<=M6.next:=f6.next
     have p6:M6.get (m.next+1+1)=some (.cells (q0q.mk p.name p.scale ny).cells false):=by rw[hM6];simp[Mem.q0B]
     obtain⟨m7,F7,g1,g2,g3,g4⟩:=q6u (h.q0h f6) w.sa w.la (q1b.mk a.id a.q1S nx) (by rw[hid];exact hka);obtain⟨tp,tq,ta,FP,FQ,FA,k1,_⟩:=g2.ex;have p7:=g3.get p6 (fun hc=>by have:=hlt _ hc;omega)
     have a7:∀i:Nat,ld1 m7 (.ptr (some ⟨b,i⟩))=[.int .i64 st.most,.ptr (some ⟨tp,0⟩),.ptr (some ⟨tq,0⟩),.ptr (some ⟨ta,0⟩),.int .u64 st.latest][i]?:=fun i=>q0g k1
     have b7:∀i:Nat,ld1 m7 (.ptr (some ⟨m.next+1+1,i⟩))=(q0q.mk p.name p.scale ny).cells[i]?:=fun i=>q0g p7
     have d7:ldN m7 (.ptr (some ⟨m.next+1+1,0⟩)) 4=some (.agg (q0q.mk p.name p.scale ny).cells):=q0A p7 rfl
     obtain⟨m8,F8,j1,j2,j3,j4⟩:=j22 g2 w.sp w.lp (q0q.mk p.name p.scale ny) hkp k1;rw[hM6]at g1;simp only[q1b.cells,q0q.cells,Wd.cells]at g1 j1 a7 b7 d7;simp (maxDischargeDepth:=20) only [q8S (H:=H18) rfl,T.f61,p1,pB,p2,q1,q0K,q0d,q0a,AV.one,over,AV.cells,Nat.reduceAdd,Nat.reduceLeDiff,lcl,om,frl,Fr.refl,decide_true,ft,q4x (H:=H18),T.z3p,ifV,wp,po,q4y (H:=H18),T.z3q,q0e,q5q (H:=H18) rfl,T.f57,nnA,su,ad,xbt,q9U (H:=H18),T.j1x,wp,q4A (H:=H18),T.z3r,q0e,g1,a7,b7,d7,j1,q4B (H:=H18),T.z3s,wp]
     exact⟨m8,F8,rfl,j2,((f6.any F).step g3 (fun c hc=>.inl hc)).step j3 (fun c hc=>(g4 c hc).imp (fun h=>h) (fun h=>xnt0 n6 h)),fun c hc=>by
      rcases j4 c hc with h1|h1
      ·exact(g4 c h1).imp (fun h=>h) (fun h=>xnt0 n6 h)
      ·exact .inr (xnt0 n6 (xnt0 g3.next h1))⟩
  ·rw[if_pos f0];simp (maxDischargeDepth:=20) only [q8S (H:=H18) rfl,T.f61,p1,pB,p2,q1,q0K,q0d,q0a,AV.one,over,AV.cells,Nat.reduceAdd,Nat.reduceLeDiff,lcl,om,frl,Fr.refl,decide_true,ft,df f0,q4x (H:=H18),T.z3p,ifV,wp,q4y (H:=H18),T.z3q,q0e,q4A (H:=H18),T.z3r,nnA,q0e,q4B (H:=H18),T.z3s,wp];exact⟨_,F,rfl,h.q0h ((((Fr.refl m).lay _).lay _).lay _),((((Fr.refl m).lay _).lay _).lay _).any F,fun c hc=>.inl hc⟩
theorem z7R (h:q0l m b st F) (w:LWf st) (x:List UInt8) :
  Res m (run E18 (.fn 45) [.ptr (some ⟨b,0⟩),.str x] m) (.tup [.agg (q0u (q0U st x).1 (q0U st x).2.1),.int .i64 (q0U st x).2.2]):=by
 obtain⟨tp,tq,ta,FP,FQ,FA,h1,h2,h3,h4,h5,h6,h7,h8,h9,h10,rfl⟩:=h.ex;have hb:=Mem.q0x h1;have a3:∀i:Nat,ld1 m (.ptr (some ⟨b,i⟩))=[.int .i64 st.most,.ptr (some ⟨tp,0⟩),.ptr (some ⟨tq,0⟩),.ptr (some ⟨ta,0⟩),.int .u64 st.latest][i]?:=fun i=>q0g h1
 have gx:=q6j (H:=H18) rfl w h2 x;unfold q0U;simp only[q0q.cells]at gx;cases hx:st.q2o x with
 |none=>
  rw[hx]at gx;simp only[Option.isSome_none,Option.getD_none]at gx;simp (maxDischargeDepth:=20) only [j7B (H:=H18) rfl,T.f45,pB,p1,q1,q0o,AV.cells,Nat.reduceAdd,Nat.reduceLeDiff,nnA,q0d,q0a,unA,q0H,q0I,q0E,AV.one,over,lcl,q1d hb,a3,gx,frl,Fr.refl,xbf];refine Res.eq ?_ (by simp[q0u])
  (repeat apply Fr.lays)
  exact Fr.refl _
 |some p=>
  rw[hx]at gx;simp only[Option.isSome_some,Option.getD_some]at gx;simp (maxDischargeDepth:=20) only [j7B (H:=H18) rfl,T.f45,pB,p1,q1,q0o,AV.cells,Nat.reduceAdd,Nat.reduceLeDiff,nnA,q0d,q0a,unA,q0H,q0I,q0E,AV.one,over,lcl,q1d hb,a3,gx,frl,Fr.refl,xbt];simp only[j4Z (H:=H18),T.a1d,p1,q1,q0o,AV.cells,Nat.reduceAdd,Nat.reduceLeDiff,q0H,q0I,q0E,AV.one,over,lcl]
  refine Res.eq ?_ (by simp[q0u])
  (repeat apply Fr.lays)
  exact Fr.refl _
end
end
section
set_option maxRecDepth 8000
open Go Go.Abs
def trT (st:LSt) (a:q1b) (p:q0q) (a':q1b) (w:Wd) (s:Int):Int×LSt:=
 if q1W p w s≠0 then (q1W p w s,st) else
 if a.bal.val<w.val then (42,st) else
 if q2B a.bal a'.bal w=true then (0,(st.q14 {a with bal:=Wd.of (a.bal.val-w.val)}).q14 {a' with bal:=Wd.of (a'.bal.val+w.val)}) else (20,st)
section
variable {M:Mem} {n b:Nat} {st:LSt} {F:List Nat}
theorem a4p (h:q0l M b st F) (w:LWf st) (hF:∀c,c∈F->c<n) {a a':q1b} {p:q0q} (ma:a∈st.q0p) (ma':a'∈st.q0p) (mp:p∈st.q0b)
  (ha:q0O q0m a.id (st.q0p.map (·.id))=true) (ha':q0O q0m a'.id (st.q0p.map (·.id))=true) {x:Wd} (hx:x.ok) (s:Int)
  (hA:M.get n=some (.cells (q0u x s) false)) (hX:M.get (n+1)=some (.cells a.cells false)) (hP:M.get (n+1+1)=some (.cells p.cells false)) (hY:M.get (n+1+1+1)=some (.cells a'.cells false)) :
  ∃m' F',D18.gor 77824 [.ptr (some ⟨b,0⟩),.ptr (some ⟨n,0⟩),.ptr (some ⟨n+1,0⟩),.ptr (some ⟨n+1+1,0⟩),.ptr (some ⟨n+1+1+1,0⟩)] M=some (.int .i64 (trT st a p a' x s).1,m')/\
   q0l m' b (trT st a p a' x s).2 F'/\Fr M m' ((n+1)::(n+1+1+1)::F)/\∀c,c∈F'->c∈F\/M.next<=c:=by
 have nF:∀k,n<=k->k∉F:=fun k hk hc=>by have:=hF k hc;omega
 have dA:ldN M (.ptr (some ⟨n,0⟩)) 3=some (.agg (q0u x s)):=q0A hA rfl;have dA2:ldN M (.ptr (some ⟨n,0⟩)) 2=some (.agg x.cells):=by rw[q00 hA (by simp[q0u])];rfl
 have dX:ldN M (.ptr (some ⟨n+1,0⟩)) 4=some (.agg a.cells):=q0A hX rfl;have dP:ldN M (.ptr (some ⟨n+1+1,0⟩)) 4=some (.agg p.cells):=q0A hP rfl;have ft:=fun m=>q9D (H:=H18) rfl p hx s m
 have po:=fun m=>z3N (H:=H18) rfl a (w.oka a ma).1 hx s m
 have done:∀(M1:Mem) (v:AV),Fr M M1 []->∃m' F',some (v,M1)=some (v,m')/\q0l m' b st F'/\Fr M m' ((n+1)::(n+1+1+1)::F)/\∀c,c∈F'->c∈F\/M.next<=c:=
  fun M1 v h1=>⟨M1,F,rfl,h.q0h h1,h1.any _,fun c hc=>.inl hc⟩
 unfold trT;obtain⟨fe,hfe⟩:∃fe,fe=q1W p x s:=⟨_,rfl⟩;rw[<-hfe]at ft⊢;by_cases f0:fe=0
 ·subst f0;rw[if_neg (by simp)];by_cases hp:a.bal.val<x.val
  ·rw[if_pos hp];rw[dt hp]at po;simp only[q64 (H:=H18),T.j1i,q1,p2,q0a,ifV,wp,dA,dP,ft,dX,po,decide_true,q65 (H:=H18),T.j1j,p1,q0e,q66 (H:=H18),T.j1k,wp,q67 (H:=H18),T.j1l,wp,df (show ¬(42:Int)=0 by omega)];exact done M _ (Fr.refl M)
  ·rw[if_neg hp];rw[df hp]at po;obtain⟨mv1,mv2⟩:=z0n hX hY (by omega) (w.oka a ma).1 (w.oka a' ma').1 hx (o1:=2) (o2:=2) (by simp) (by simp) rfl rfl;cases e1:q2B a.bal a'.bal x with
   |false=>
    rw[if_neg (by simp)];obtain⟨M3,g1,g2⟩:=mv1 e1;simp only[q64 (H:=H18),T.j1i,q1,p2,q0a,ifV,wp,dA,dP,ft,dX,po,decide_true,q65 (H:=H18),T.j1j,p1,q0e,dA2,g1,q66 (H:=H18),T.j1k,wp,q67 (H:=H18),T.j1l,wp,df (show ¬(20:Int)=0 by omega)];exact done M3 _ g2
   |true=>
    rw[if_pos rfl];obtain⟨M3,g1,g2,g3,g4⟩:=mv2 e1;have f3:Fr M M3 ((n+1)::(n+1+1+1)::F):=g4.mono (by simp +contextual);have hL3:q0l M3 b st F:=h.frame g4 (fun c hc hm=>by
     have:=hF c hc;simp only[xmk0,List.not_mem_nil,or_false]at hm;omega)
    have n3:=g4.next
    have lY:=Mem.q0x hY;obtain⟨m1,F1,j1,j2,j3,j4⟩:=q6u hL3 w.sa w.la {a with bal:=Wd.of (a.bal.val-x.val)} ha
    have ids:=LSt.q3d (st:=st) (a:={a with bal:=Wd.of (a.bal.val-x.val)}) ha
    obtain⟨m2,F2,i1,i2,i3,i4⟩:=q6u j2 (by rw[ids];exact w.sa) (by show (st.q0p.set _ _).length<=64;rw[List.length_set];exact w.la) {a' with bal:=Wd.of (a'.bal.val+x.val)} (by rw[ids];exact ha')
    have y1:=j3.get g3 (nF _ (by omega));have d3:ldN M3 (.ptr (some ⟨n+1,0⟩)) 4=some (.agg (q1b.mk a.id a.q1S (Wd.of (a.bal.val-x.val))).cells):=q0A g2 rfl;have d4:ldN m1 (.ptr (some ⟨n+1+1+1,0⟩)) 4=some (.agg (q1b.mk a'.id a'.q1S (Wd.of (a'.bal.val+x.val))).cells):=q0A y1 rfl;refine⟨m2,F2,?_,i2,(f3.step j3 (fun c hc=>.inl (by simp[hc]))).step i3 (fun c hc=>?_),fun c hc=>?_⟩
    ·simp only[q64 (H:=H18),T.j1i,q1,p2,q0a,ifV,wp,dA,dP,ft,dX,po,decide_true,q65 (H:=H18),T.j1j,p1,q0e,dA2,g1,q66 (H:=H18),T.j1k,wp,d3,j1,d4,i1,q67 (H:=H18),T.j1l,wp]
    ·rcases j4 c hc with h1|h1
     ·exact .inl (by simp[h1])
     ·exact .inr (xnt0 n3 h1)
    ·rcases i4 c hc with h1|h1
     ·exact(j4 c h1).imp (fun h=>h) (fun h=>xnt0 n3 h)
     ·exact .inr (xnt0 n3 (xnt0 j3.next h1))
 ·rw[if_pos f0];simp only[q64 (H:=H18),T.j1i,q1,p2,q0a,ifV,wp,dA,dP,ft,df f0,q65 (H:=H18),T.j1j,p1,q0e,q66 (H:=H18),T.j1k,wp,q67 (H:=H18),T.j1l,wp];exact done M _ (Fr.refl M)
end
section
variable {m:Mem} {b:Nat} {st:LSt} {F:List Nat}
theorem q6N (st:LSt) (i j:Int) (x:Wd) (s:Int):q1F st i j x s=(if (st.of i).2.2≠0 then ((st.of i).2.2,st) else if (st.of j).2.2≠0 then ((st.of j).2.2,st) else if i=j then (45,st) else
  if (st.of i).2.1.name≠(st.of j).2.1.name then (41,st) else trT st (st.of i).1 (st.of i).2.1 (st.of j).1 x s):=rfl
theorem z4i (h:q0l m b st F) (w:LWf st) (i j:Int) {x:Wd} (hx:x.ok) (s:Int) :
  ∃m' F',run E18 (.fn 19) [.ptr (some ⟨b,0⟩),.int .u64 i,.int .u64 j,.agg (q0u x s)] m=some (.int .i64 (q1F st i j x s).1,m')/\q0l m' b (q1F st i j x s).2 F'/\Fr m m' F/\∀c,c∈F'->c∈F\/m.next<=c:=by
 have hlt:=h.lt;have om:=q78 (H:=H18) rfl h w i;have on:=q78 (H:=H18) rfl h w j;have done:∀M,Fr m M []->∀v:AV,∃m' F',some (v,M)=some (v,m')/\q0l m' b st F'/\Fr m m' F/\∀c,c∈F'->c∈F\/m.next<=c:=fun M hM v=>⟨M,F,rfl,h.q0h hM,hM.any F,fun c hc=>.inl hc⟩
 have ci:=LSt.q1f w i;have cj:=LSt.q1f w j;rw[q6N];obtain⟨o,ho⟩:∃o,o=st.of i:=⟨_,rfl⟩;obtain⟨o',ho'⟩:∃o',o'=st.of j:=⟨_,rfl⟩;rw[<-ho]at om ci⊢;rw[<-ho']at on cj⊢;clear ho ho';obtain⟨a,p,e⟩:=o;obtain⟨a',p',e'⟩:=o';simp only at om on⊢;obtain⟨M,hM⟩:∃M,M=((((m.lay (.cells (q0u x s) false)).lay (.cells a.cells false)).lay (.cells p.cells false)).lay (.cells a'.cells false)).lay (.cells p'.cells false):=⟨_,rfl⟩
 have fM:Fr m M []:=by rw[hM];(repeat apply Fr.lays);exact Fr.refl _
 have m0:M.get m.next=some (.cells (q0u x s) false):=by rw[hM];simp only[Mem.q0B,Mem.q0t,nn1,nn2,nn3,nn4,if_true,if_false]
 have m1:M.get (m.next+1)=some (.cells a.cells false):=by rw[hM];simp[Mem.q0B]
 have m2:M.get (m.next+1+1)=some (.cells p.cells false):=by rw[hM];simp[Mem.q0B]
 have m3:M.get (m.next+1+1+1)=some (.cells a'.cells false):=by rw[hM];simp[Mem.q0B]
 have m4:M.get (m.next+1+1+1+1)=some (.cells p'.cells false):=by rw[hM];simp[Mem.q0B]
 have bP:∀i:Nat,ld1 M (.ptr (some ⟨m.next+1+1,i⟩))=p.cells[i]?:=fun i=>q0g m2
 have bR:∀i:Nat,ld1 M (.ptr (some ⟨m.next+1+1+1+1,i⟩))=p'.cells[i]?:=fun i=>q0g m4
 simp only[q0u,q1b.cells,q0q.cells]at om on hM bP bR⊢;simp (maxDischargeDepth:=20) only [a5s (H:=H18) rfl,T.f19,p1,pB,p2,q1,q0K,q0d,q0a,Nat.reduceAdd,q0F,AV.one,over,AV.cells,Nat.reduceLeDiff,lcl,om,on,frl,Fr.refl,<-hM];rcases ci with ⟨ci,_⟩|⟨a0,p0,ci,ga,gp,hid,hka,hpn,hkp,ma,mp⟩
 ·obtain⟨rfl,rfl,rfl⟩:a=j2g/\p=z6y/\e=40:=by simpa using ci
  simp only[ne_eq,show ¬(40:Int)=0 by omega,not_false_eq_true,if_true,decide_false,xbf];exact done _ fM _
 ·obtain⟨rfl,rfl,rfl⟩:a=a0/\p=p0/\e=0:=by simpa using ci
  simp only[decide_true,xbt,ne_eq,not_true_eq_false,if_false];rcases cj with ⟨cj,_⟩|⟨a1,p1,cj,ga',gp',hid',hka',hpn',hkp',ma',mp'⟩
  ·obtain⟨rfl,rfl,rfl⟩:a'=j2g/\p'=z6y/\e'=40:=by simpa using cj
   simp only[show ¬(40:Int)=0 by omega,not_false_eq_true,if_true,decide_false,xbf];exact done _ fM _
  ·obtain⟨rfl,rfl,rfl⟩:a'=a1/\p'=p1/\e'=0:=by simpa using cj
   simp only[decide_true,xbt,not_true_eq_false,if_false];by_cases hij:i=j
   ·rw[if_pos hij];simp only[dt hij];exact done _ fM _
   ·rw[if_neg hij];simp only[df hij];by_cases hn:p.name=p'.name
    ·rw[if_neg (by simp[hn])];simp only[dt hn,xbt];obtain⟨m',F',t1,t2,t3,t4⟩:=a4p (h.q0h fM) w hlt ma ma' mp (by rw[hid];exact hka) (by rw[hid'];exact hka') hx s m0 m1 m2 m3;rw[t1];refine⟨m',F',rfl,t2,(fM.any F).step t3 (fun c hc=>?_),fun c hc=>(t4 c hc).imp (fun h=>h) (fun h=>xnt0 fM.next h)⟩
     simp only[xmk0]at hc;rcases hc with rfl|rfl|hc
     ·exact .inr (by omega)
     ·exact .inr (by omega)
     ·exact .inl hc
    ·rw[if_pos hn];simp only[df hn,xbf];exact done _ fM _
end
end
section
set_option maxRecDepth 4000
open Go Go.Abs
theorem j2N {a b:Wd} (ha:a.ok) (hb:b.ok) {s t to:Int} (hs:0<=s/\s<=18) (ht:0<=t/\t<=18) (hto:0<=to/\to<=18) (m:Mem) :
  Res m (run E18 (.fn 117) [.agg (q0u a s),.agg (q0u b t),.int .i64 to] m) (q2A (z3J a.val b.val (s+t-to)) to):=by
 have r1:=fun m=>q4I (H:=H18) rfl a s m
 have r2:=fun m=>q4I (H:=H18) rfl b t m
 rw[dt hs]at r1;rw[dt ht]at r2;have o1:=fun m=>q3V (H:=H18) rfl ha m
 have o2:=fun m=>q3V (H:=H18) rfl hb m
 have ti:=fun m=>z2o (H:=H18) rfl (b07 ha) (b2j hb) m
 have ro:=fun m=>j2S (H:=H18) rfl (j9c ha hb) (k:=s+t-to) (by omega) (by omega) m
 have rd:=fun m=>a3I (H:=H18) rfl (j2O (j9c ha hb) (k:=s+t-to) (by omega)) to m
 rw[a3R]at ro rd;have hk1:IntKind.wrap .i64 (s+t)=s+t:=wrap_i64 (by omega) (by omega);have hk2:IntKind.wrap .i64 (s+t-to)=s+t-to:=wrap_i64 (by omega) (by omega);obtain⟨ah,al⟩:=a;obtain⟨bh,bl⟩:=b;obtain⟨N,hN⟩:∃N,N=z3J (Wd.mk ah al).val (Wd.mk bh bl).val (s+t-to):=⟨_,rfl⟩;rw[<-hN]at ro rd⊢;simp only[q0u,Wd.cells]at r1 r2 o1 o2;simp only[q0u,j97 (H:=H18) rfl,T.f117,pB,q1,p1,p2,q0o,AV.cells,Nat.reduceAdd,Nat.reduceLeDiff,q0K,q0a,ifV,unA,q0H,q0I,q0w,AV.one,over,lcl,r1,r2,xbt,df (show ¬to<0 by omega),df (show ¬(18:Int)<to by omega)]
 unfold q2A at rd⊢;cases hf:q0Q N with
 |true=>
  simp only[hf,if_true,q0u]at rd⊢;simp only[z1i (H:=H18),T.j0e,p1,q1,p2,q0d,q0H,q0I,Nat.reduceAdd,q0F,AV.one,over,AV.cells,Nat.reduceLeDiff,lcl,o1,o2,ti,hk1,hk2,ro,rd];refine Res.eq ?_ rfl
  (repeat apply Fr.lays)
  exact Fr.refl _
 |false=>
  simp only[hf,xbq,if_false,q0u]at rd⊢;simp only[z1i (H:=H18),T.j0e,p1,q1,p2,q0d,q0H,q0I,Nat.reduceAdd,q0F,AV.one,over,AV.cells,Nat.reduceLeDiff,lcl,o1,o2,ti,hk1,hk2,ro,rd];refine Res.eq ?_ rfl
  (repeat apply Fr.lays)
  exact Fr.refl _
theorem j9K (a b c d e f:Int):q0S Tryz.prog .eql 45 (.agg [.int .i64 a,.int .u64 b,.int .i64 c]) (.agg [.int .i64 d,.int .u64 e,.int .i64 f])=some (.bool ((decide (a=d)&&decide (b=e))&&decide (c=f))):=by
 have h:eqA Tryz.prog 50 45 (.agg [.int .i64 a,.int .u64 b,.int .i64 c]) (.agg [.int .i64 d,.int .u64 e,.int .i64 f])=(match (match (a==d) with|true=>(match (b==e) with|true=>some true|false=>some false)|false=>some false) with|some true=>(match (c==f) with|true=>some true|false=>some false)|some false=>some false|none=>none):=by kernel_rfl
 have h2:q0S Tryz.prog .eql 45 (.agg [.int .i64 a,.int .u64 b,.int .i64 c]) (.agg [.int .i64 d,.int .u64 e,.int .i64 f])=(match eqA Tryz.prog 50 45 (.agg [.int .i64 a,.int .u64 b,.int .i64 c]) (.agg [.int .i64 d,.int .u64 e,.int .i64 f]) with|some b=>some (.bool b)|none=>none):=by kernel_rfl
 rw[h2,h,show (a==d)=decide (a=d) from rfl,show (b==e)=decide (b=e) from rfl,show (c==f)=decide (c=f) from rfl];cases decide (a=d)<;>cases decide (b=e)<;>cases decide (c=f)<;>rfl
def S19:List FuncId:=[18,117,17,66,45]
def R19:List FuncId:=[44,62,63,16,61,19]
noncomputable def H19:FuncId->Option (List AV->Mem->R):=q4a E18 S19 R19
noncomputable abbrev E19:Env:=T.EH H19
theorem a4J:q1u E19:=q2N a4I S19 R19
noncomputable abbrev D19:Do:=T.Rl H19
section
variable {H:FuncId->Option (List AV->Mem->R)} {m:Mem} {b:Nat} {st:LSt} {F:List Nat}
theorem z2h {f:FuncId} (h:H f=some (run E18 (.fn f))) (xs:List AV) (m:Mem):run (T.EH H) (.fn f) xs m=run E18 (.fn f) xs m:=q08 h xs m
theorem z8g (h:H 117=some (q0y E18 117)) {a b:Wd} (ha:a.ok) (hb:b.ok) {s t to:Int} (hs:0<=s/\s<=18) (ht:0<=t/\t<=18) (hto:0<=to/\to<=18) (m:Mem) :
  run (T.EH H) (.fn 117) [.agg (q0u a s),.agg (q0u b t),.int .i64 to] m=some (q2A (z3J a.val b.val (s+t-to)) to,m):=
 q0r h (q3B _ _) fun m2 _ _=>j2N ha hb hs ht hto m2
theorem a3t (hh:H 45=some (q0y E18 45)) (h:q0l m b st F) (w:LWf st) (x:List UInt8) (M:Mem) (hM:Fr m M []) :
  run (T.EH H) (.fn 45) [.ptr (some ⟨b,0⟩),.str x] M=some (.tup [.agg (q0u (q0U st x).1 (q0U st x).2.1),.int .i64 (q0U st x).2.2],M):=
 q0r hh (by simp[AV.flat,AV.lt,AV.lts,q0u]) fun m2 h1 h2=>z7R ((h.q0h hM).q0h (Fr.same h1 h2)) w x
theorem a5c (hh:H 17=some (q0y E18 17)) (h:q0l m b st F) (w:LWf st) (id:Int) (M:Mem) (hM:Fr m M []) :
  run (T.EH H) (.fn 17) [.ptr (some ⟨b,0⟩),.int .u64 id] M=some (.tup [.agg (q0u (q0D st id).1 (q0D st id).2.1),.int .i64 (q0D st id).2.2],M):=
 q0r hh (by simp[AV.flat,AV.lt,AV.lts,q0u]) fun m2 h1 h2=>z7b ((h.q0h hM).q0h (Fr.same h1 h2)) w id
theorem j9v (hh:H 66=some (q0y E18 66)) (h:q0l m b st F) (w:LWf st) (x y:List UInt8) (hxy:x.length+y.length<=4611686018427387904) (M:Mem) (hM:Fr m M []) :
  run (T.EH H) (.fn 66) [.ptr (some ⟨b,0⟩),.str x,.str y] M=some (.tup [.agg (q0u (q0T st x y).1 (q0T st x y).2.1),.int .i64 (q0T st x y).2.2],M):=
 q0r hh (by simp[AV.flat,AV.lt,AV.lts,q0u]) fun m2 h1 h2=>z7c ((h.q0h hM).q0h (Fr.same h1 h2)) w x y hxy
end
end
end Go.Proofs.YtlginbmjiecglaaGreatDoor
namespace Go.Abs
section
open Go
theorem q03.fld {n:Nat} {m:Mem} {s:AV} {l:List (List AV)} {rb:Option Nat} (h:q03 n m s l rb) {i:Nat} (hi:i<l.length) :
  ∃b,rb=some b/\s=.sl (some ⟨b,0⟩) n l.length l.length false/\ixA n l.length ⟨b,0⟩ (i:Int)=some (.ptr (some ⟨b,i*n⟩))/\(∀o,o<n->ld1 m (.ptr (some ⟨b,i*n+o⟩))=l[i][o]?)/\
   (∀o k,o+k<=n->ldN m (.ptr (some ⟨b,i*n+o⟩)) k=some (.agg ((l[i].drop o).take k))):=by
 have hl:=h.lens;obtain⟨b,h1,h2,h3,h4,h5⟩:=h.at hi;have hli:l[i].length=n:=hl _ (List.getElem_mem hi);have hd:l.flatten.drop (i*n)=l[i]++(l.drop (i+1)).flatten:=by
  rw[q2b i hl,List.drop_eq_getElem_cons hi,List.flatten_cons]
 have hfl:=q1w hl;have hle:(i+1)*n<=l.length*n:=Nat.mul_le_mul_right n hi;rw[Nat.succ_mul]at hle;refine⟨b,h1,h2,h4,fun o ho=>?_,fun o k hk=>?_⟩
 ·rw[q0g h3,<-List.getElem?_drop,hd,List.getElem?_append_left (by omega)]
 ·rw[q00 h3 (by omega),<-List.drop_drop,hd,List.drop_append_of_le_length (by omega),List.take_append_of_le_length (by rw[xld0];omega)]
def q4W {α:Type} (p:α->Bool):List α->Nat->Int
 |[],_=>-1
 |x::l,i=>if p x then (i:Int) else q4W p l (i+1)
theorem q4C {α κ:Type} [DecidableEq κ] {lt:κ->κ->Bool} (f:α->κ) (k:κ) (irr:∀a,lt a a=false):∀(l:List α) (i:Nat),Srt lt (l.map f)->q4W (fun x=>decide (f x=k)) l i=if q0O lt k (l.map f)=true then ((i+lb lt k (l.map f):Nat):Int) else -1
 |[],i,_=>by simp[q4W,q0O]
 |x::l,i,hs=>by
  unfold q4W;have hs':Srt lt (l.map f):=by unfold Srt at hs⊢;rw[List.map_cons,List.pairwise_cons]at hs;exact hs.2
  have hx:∀y∈l.map f,lt (f x) y=true:=by unfold Srt at hs;rw[List.map_cons,List.pairwise_cons]at hs;exact hs.1
  have ih:=q4C f k irr l (i+1) hs';by_cases e:f x=k
  ·rw[if_pos (dt e)];have hlb:lb lt k ((x::l).map f)=0:=by
    unfold lb;rw[List.map_cons,List.takeWhile_cons,e,irr];simp
   have hh:q0O lt k ((x::l).map f)=true:=by unfold q0O;rw[hlb];simp[e]
   rw[if_pos hh,hlb];rfl
  ·rw[if_neg (by simpa using e),ih];by_cases h2:lt (f x) k=true
   ·have hlb:lb lt k ((x::l).map f)=lb lt k (l.map f)+1:=by
     unfold lb;rw[List.map_cons,List.takeWhile_cons,if_pos h2,List.length_cons]
    have hh:q0O lt k ((x::l).map f)=q0O lt k (l.map f):=by
     unfold q0O;rw[hlb,List.map_cons,xgs]
    rw[hh,hlb];by_cases h3:q0O lt k (l.map f)=true
    ·rw[if_pos h3,if_pos h3];congr 1;omega
    ·rw[if_neg h3,if_neg h3]
   ·have hlb:lb lt k ((x::l).map f)=0:=by
     unfold lb;rw[List.map_cons,List.takeWhile_cons,if_neg h2];rfl
    have hh:q0O lt k ((x::l).map f)=false:=by unfold q0O;rw[hlb];simp[e]
    rw[hh];have hn:q0O lt k (l.map f)=false:=by
     cases h3:q0O lt k (l.map f) with
     |false=>rfl
     |true=>
      have:=hx k (List.mem_of_getElem? (q3T h3));exact absurd this h2
    rw[hn];simp
structure q0L (m:Mem) (b:Nat) (st:LSt) (F:List Nat):Prop where
 ex:∃sp sq sa rp rq ra,m.get b=some (.cells [sp,sq,sa,.int .u64 st.latest,.int .i64 st.most] false)/\q03 4 m sp (st.q0b.map (·.cells)) rp/\q03 9 m sq (st.pairs.map (·.cells)) rq/\q03 4 m sa (st.q0p.map (·.cells)) ra/\
  b∉rp.toList/\b∉rq.toList/\b∉ra.toList/\Dj rp.toList rq.toList/\Dj rp.toList ra.toList/\Dj rq.toList ra.toList/\F=b::(rp.toList++rq.toList++ra.toList)
theorem q0L.frame {m m':Mem} {b:Nat} {st:LSt} {F S:List Nat} (h:q0L m b st F) (hf:Fr m m' S) (hd:∀c,c∈F->c∉S):q0L m' b st F:=by
 obtain⟨sp,sq,sa,rp,rq,ra,h1,h2,h3,h4,h5,h6,h7,h8,h9,h10,rfl⟩:=h.ex;exact⟨sp,sq,sa,rp,rq,ra,hf.get h1 (hd _ (by simp)),h2.frame hf (fun c hc=>hd c (by simp[hc])),h3.frame hf (fun c hc=>hd c (by simp[hc])),h4.frame hf (fun c hc=>hd c (by simp[hc])),h5,h6,h7,h8,h9,h10,rfl⟩
theorem q0L.q0h {m m':Mem} {b:Nat} {st:LSt} {F:List Nat} (h:q0L m b st F) (hf:Fr m m' []):q0L m' b st F:=h.frame hf (by simp)
end
end Go.Abs
namespace Go.Proofs.YtlginbmjiecglaaGreatDoor
section
set_option maxRecDepth 4000
open Go Go.Abs
section
variable {m:Mem} {b:Nat} {st:LSt} {F:List Nat}
theorem z4b (h:q0L m b st F) (hn:st.q0b.length<=1000) (k:List UInt8):∀(d i:Nat),i+d=st.q0b.length->
  D19.gor 147456 [.ptr (some ⟨b,0⟩),.str k,.int .i64 (i:Int)] m=some (.int .i64 (q4W (fun p=>decide (p.name=k)) (st.q0b.drop i) i),m):=by
 obtain⟨sp,sq,sa,rp,rq,ra,h1,h2,h3,h4,h5⟩:=h.ex;have a3:∀i:Nat,ld1 m (.ptr (some ⟨b,i⟩))=[sp,sq,sa,.int .u64 st.latest,.int .i64 st.most][i]?:=fun i=>q0g h1
 intro d;induction d with
 |zero=>
  intro i hi;have:i=st.q0b.length:=by omega
  subst this;obtain⟨a,sz,cap,ex,e⟩:=h2.len;rw[xlm]at e;subst e;rw[List.drop_length];simp only[z5k (H:=H19),T.a07,p1,q1,p2,nnA,q0a,q0e,a3,df (show ¬((st.q0b.length:Nat):Int)<(st.q0b.length:Int) by omega),j4Q (H:=H19),T.a7Y,wp,q4W]
 |succ d ih=>
  intro i hi;have hlt:i<st.q0b.length:=by omega
  obtain⟨bb,_,e,e2,e3,_⟩:=h2.fld (i:=i) (by rw[xlm];exact hlt);rw[xlm]at e e2;subst e;have e4:=e3 0 (by omega);rw[xgm]at e4;rw[List.drop_eq_getElem_cons hlt];unfold q4W;simp only[xna,q0q.cells]at e4;simp only[z5k (H:=H19),T.a07,p1,q1,p2,nnA,q0a,q0e,a3,dt (show (i:Int)<(st.q0b.length:Int) by omega)];simp only[j4O (H:=H19),T.a7W,p1,q1,p2,nnA,q0a,q0e,a3,true_or,if_true,e2,e4]
  by_cases hk:st.q0b[i].name=k
  ·simp only[dt hk,if_true]
  ·simp only[df hk,xbq,if_false];simp only[j4P (H:=H19),T.a7X,p2,wp,show (i:Int)+1=((i+1:Nat):Int) by omega,wrap_i64 (n:=((i+1:Nat):Int)) (by omega) (by omega)];exact ih (i+1) (by omega)
theorem j2Q (h:q0L m b st F) (hn:st.q0b.length<=1000) (k:List UInt8):run E19 (.fn 36) [.ptr (some ⟨b,0⟩),.str k] m=some (.int .i64 (q4W (fun p=>decide (p.name=k)) st.q0b 0),m):=by
 have:=z4b h hn k st.q0b.length 0 (by omega);rw[List.drop_zero]at this;simp only[a5y (H:=H19) rfl,T.f36,wp];exact this
theorem j2B (h:q0L m b st F) (hn:st.q0p.length<=1000) (k:Int):∀(d i:Nat),i+d=st.q0p.length->
  D19.gor 290816 [.ptr (some ⟨b,0⟩),.int .u64 k,.int .i64 (i:Int)] m=some (.int .i64 (q4W (fun p=>decide (p.id=k)) (st.q0p.drop i) i),m):=by
 obtain⟨sp,sq,sa,rp,rq,ra,h1,h2,h3,h4,h5⟩:=h.ex;have a3:∀i:Nat,ld1 m (.ptr (some ⟨b,i⟩))=[sp,sq,sa,.int .u64 st.latest,.int .i64 st.most][i]?:=fun i=>q0g h1
 intro d;induction d with
 |zero=>
  intro i hi;have:i=st.q0p.length:=by omega
  subst this;obtain⟨a,sz,cap,ex,e⟩:=h4.len;rw[xlm]at e;subst e;rw[List.drop_length];simp only[z5S (H:=H19),T.a1x,p1,q1,p2,nnA,q0a,q0e,a3,df (show ¬((st.q0p.length:Nat):Int)<(st.q0p.length:Int) by omega),j5p (H:=H19),T.a8s,wp,q4W]
 |succ d ih=>
  intro i hi;have hlt:i<st.q0p.length:=by omega
  obtain⟨bb,_,e,e2,e3,_⟩:=h4.fld (i:=i) (by rw[xlm];exact hlt);rw[xlm]at e e2;subst e;have e4:=e3 0 (by omega);rw[xgm]at e4;rw[List.drop_eq_getElem_cons hlt];unfold q4W;simp only[xna,q1b.cells]at e4;simp only[z5S (H:=H19),T.a1x,p1,q1,p2,nnA,q0a,q0e,a3,dt (show (i:Int)<(st.q0p.length:Int) by omega)];simp only[j5n (H:=H19),T.a8q,p1,q1,p2,nnA,q0a,q0e,a3,true_or,if_true,e2,e4]
  by_cases hk:st.q0p[i].id=k
  ·simp only[dt hk,if_true]
  ·simp only[df hk,xbq,if_false];simp only[j5o (H:=H19),T.a8r,p2,wp,show (i:Int)+1=((i+1:Nat):Int) by omega,wrap_i64 (n:=((i+1:Nat):Int)) (by omega) (by omega)];exact ih (i+1) (by omega)
theorem a3D (h:q0L m b st F) (hn:st.q0p.length<=1000) (k:Int):run E19 (.fn 71) [.ptr (some ⟨b,0⟩),.int .u64 k] m=some (.int .i64 (q4W (fun p=>decide (p.id=k)) st.q0p 0),m):=by
 have:=j2B h hn k st.q0p.length 0 (by omega);rw[List.drop_zero]at this;simp only[a5N (H:=H19) rfl,T.f71,wp];exact this
theorem z8h (h:q0L m b st F) (hn:st.pairs.length<=1000) (x y:List UInt8):∀(d i:Nat),i+d=st.pairs.length->
  D19.gor 311296 [.ptr (some ⟨b,0⟩),.str x,.str y,.int .i64 (i:Int)] m=some (.int .i64 (q4W (fun p=>decide (p.x=x)&&decide (p.y=y)) (st.pairs.drop i) i),m):=by
 obtain⟨sp,sq,sa,rp,rq,ra,h1,h2,h3,h4,h5⟩:=h.ex;have a3:∀i:Nat,ld1 m (.ptr (some ⟨b,i⟩))=[sp,sq,sa,.int .u64 st.latest,.int .i64 st.most][i]?:=fun i=>q0g h1
 intro d;induction d with
 |zero=>
  intro i hi;have:i=st.pairs.length:=by omega
  subst this;obtain⟨a,sz,cap,ex,e⟩:=h3.len;rw[xlm]at e;subst e;rw[List.drop_length];simp only[z5T (H:=H19),T.a1y,p1,q1,p2,nnA,q0a,q0e,a3,df (show ¬((st.pairs.length:Nat):Int)<(st.pairs.length:Int) by omega),j5u (H:=H19),T.a8w,wp,q4W]
 |succ d ih=>
  intro i hi;have hlt:i<st.pairs.length:=by omega
  obtain⟨bb,_,e,e2,e3,_⟩:=h3.fld (i:=i) (by rw[xlm];exact hlt);rw[xlm]at e e2;subst e;have e4:=e3 0 (by omega);have e5:=e3 1 (by omega);rw[xgm]at e4 e5;rw[List.drop_eq_getElem_cons hlt];unfold q4W;simp only[ge,xna,q0N.cells]at e4 e5;simp only[z5T (H:=H19),T.a1y,p1,q1,p2,nnA,q0a,q0e,a3,dt (show (i:Int)<(st.pairs.length:Int) by omega)];have tl:=ih (i+1) (by omega);have st2:D19.gor 311298 [.ptr (some ⟨b,0⟩),.str x,.str y,.int .i64 (i:Int)] m=some (.int .i64 (q4W (fun p=>decide (p.x=x)&&decide (p.y=y)) (st.pairs.drop (i+1)) (i+1)),m):=by
   simp only[j5t (H:=H19),T.a8v,p2,wp,show (i:Int)+1=((i+1:Nat):Int) by omega,wrap_i64 (n:=((i+1:Nat):Int)) (by omega) (by omega)];exact tl
  simp only[j5s (H:=H19),T.a8u,p1,q1,p2,nnA,q0a,ifV,q0e,a3,true_or,if_true,e2,e4,e5,st2];by_cases hx:st.pairs[i].x=x
  ·by_cases hy:st.pairs[i].y=y
   ·simp only[dt hx,dt hy,Bool.and_self,if_true]
   ·simp only[dt hx,df hy,Bool.and_false,xbq,if_false]
  ·simp only[df hx,Bool.false_and,xbq,if_false]
theorem j6R (h:q0L m b st F) (hn:st.pairs.length<=1000) (x y:List UInt8):run E19 (.fn 76) [.ptr (some ⟨b,0⟩),.str x,.str y] m=some (.int .i64 (q4W (fun p=>decide (p.x=x)&&decide (p.y=y)) st.pairs 0),m):=by
 have:=z8h h hn x y st.pairs.length 0 (by omega);rw[List.drop_zero]at this;simp only[a5R (H:=H19) rfl,T.f76,wp];exact this
end
end
section
set_option maxRecDepth 4000
open Go Go.Abs
theorem j6P (s:List UInt8) (hl:s.length<4611686018427387904) (m:Mem):run E19 (.fn 35) [.str s] m=some (.bool (q3Y s),m):=by
 by_cases h3:s.length=3
 ·match s,h3 with
  |[a,b,c],_=>
   have w1:IntKind.wrap .i64 (0+1)=1:=wrap_i64 (by omega) (by omega);have w2:IntKind.wrap .i64 (1+1)=2:=wrap_i64 (by omega) (by omega);have w3:IntKind.wrap .i64 (2+1)=3:=wrap_i64 (by omega) (by omega);have c0:decide ((0:Int)<3)=true:=by decide
   have c1:decide ((1:Int)<3)=true:=by decide
   have c2:decide ((2:Int)<3)=true:=by decide
   have c3:decide ((3:Int)<3)=false:=by decide
   have d3:decide ((([a,b,c]:List UInt8).length:Int)=3)=true:=by simp
   have n0:(0:Int).toNat=0:=rfl;have n1:(1:Int).toNat=1:=rfl;have n2:(2:Int).toNat=2:=rfl;have pz0:(0:Int)<=0:=by omega
   have pz1:(0:Int)<=1:=by omega
   have pz2:(0:Int)<=2:=by omega
   have key:∀x:UInt8,(decide (65<=x.toNat)&&decide (x.toNat<=90))=(!decide ((x.toNat:Int)<65)&&!decide ((90:Int)<(x.toNat:Int))):=by
    intro x;rw[<-decide_not,<-decide_not];congr 1<;>(apply decide_eq_decide.mpr;omega)
   unfold q3Y;simp only[List.all_cons,List.all_nil,key,List.length_cons,List.length_nil];simp only[j7t (H:=H19) rfl,T.f35,p1,p2,q0a,wp,d3,xbt,j4K (H:=H19),T.a7U,wp];simp only[q7e (H:=H19),T.j1v,p2,q0a,wp,c0];simp only[ge,q9Q (H:=H19),T.j4L,p2,q0a,ifV,q54,if_pos pz0,n0];by_cases a1:(a.toNat:Int)<65
   ·simp[a1]
   ·by_cases a2:(90:Int)<(a.toNat:Int)
    ·simp[a1,a2]
    ·simp only[df a1,df a2];simp only[q9R (H:=H19),T.j4M,p2,wp,w1];simp only[q7e (H:=H19),T.j1v,p2,q0a,wp,c1];simp only[ge,q9Q (H:=H19),T.j4L,p2,q0a,ifV,q54,if_pos pz1,n1];by_cases b1:(b.toNat:Int)<65
     ·simp[b1]
     ·by_cases b2:(90:Int)<(b.toNat:Int)
      ·simp[b1,b2]
      ·simp only[df b1,df b2];simp only[q9R (H:=H19),T.j4M,p2,wp,w2];simp only[q7e (H:=H19),T.j1v,p2,q0a,wp,c2];simp only[ge,q9Q (H:=H19),T.j4L,p2,q0a,ifV,q54,if_pos pz2,n2]
       try simp only[z8S,z8R,Option.bind_some]
       by_cases e1:(c.toNat:Int)<65
       ·simp[e1]
       ·by_cases e2:(90:Int)<(c.toNat:Int)
        ·simp[e1,e2]
        ·simp only[df e1,df e2];simp only[q9R (H:=H19),T.j4M,p2,wp,w3];simp only[q7e (H:=H19),T.j1v,p2,q0a,wp,c3];simp[j4N (H:=H19),T.a7V,wp]
 ·have e:decide ((s.length:Int)=3)=false:=df (by omega);unfold q3Y;rw[df h3,Bool.and_false];simp only[j7t (H:=H19) rfl,T.f35,p1,p2,q0a,wp,e,xbf]
def S20:List FuncId:=[36,71,76,35]
noncomputable def H20:FuncId->Option (List AV->Mem->R):=q1L E19 S20
noncomputable abbrev E20:Env:=T.EH H20
theorem a4K:q1u E20:=q0Z a4J S20
section
variable {H:FuncId->Option (List AV->Mem->R)} {m:Mem} {b:Nat} {st:LSt} {F:List Nat}
theorem q6X (hh:H 36=some (q0y E19 36)) (h:q0L m b st F) (hn:st.q0b.length<=1000) (k:List UInt8) (M:Mem) (hM:Fr m M []):run (T.EH H) (.fn 36) [.ptr (some ⟨b,0⟩),.str k] M=some (.int .i64 (q4W (fun p=>decide (p.name=k)) st.q0b 0),M):=
 q0r hh (by simp[AV.flat,AV.lt]) fun m2 h1 h2=>⟨m2,j2Q ((h.q0h hM).q0h (Fr.same h1 h2)) hn k,Fr.refl _⟩
theorem z3R (hh:H 71=some (q0y E19 71)) (h:q0L m b st F) (hn:st.q0p.length<=1000) (k:Int) (M:Mem) (hM:Fr m M []):run (T.EH H) (.fn 71) [.ptr (some ⟨b,0⟩),.int .u64 k] M=some (.int .i64 (q4W (fun p=>decide (p.id=k)) st.q0p 0),M):=
 q0r hh (by simp[AV.flat,AV.lt]) fun m2 h1 h2=>⟨m2,a3D ((h.q0h hM).q0h (Fr.same h1 h2)) hn k,Fr.refl _⟩
theorem a3U (hh:H 76=some (q0y E19 76)) (h:q0L m b st F) (hn:st.pairs.length<=1000) (x y:List UInt8) (M:Mem) (hM:Fr m M []):run (T.EH H) (.fn 76) [.ptr (some ⟨b,0⟩),.str x,.str y] M=some (.int .i64 (q4W (fun p=>decide (p.x=x)&&decide (p.y=y)) st.pairs 0),M):=
 q0r hh (by simp[AV.flat,AV.lt]) fun m2 h1 h2=>⟨m2,j6R ((h.q0h hM).q0h (Fr.same h1 h2)) hn x y,Fr.refl _⟩
theorem j6O (hh:H 35=some (q0y E19 35)) (s:List UInt8) (hl:s.length<4611686018427387904) (m:Mem):run (T.EH H) (.fn 35) [.str s] m=some (.bool (q3Y s),m):=
 q0r hh (by simp[AV.flat,AV.lt]) fun m2 _ _=>⟨m2,j6P s hl m2,Fr.refl _⟩
end
end
section
set_option maxRecDepth 4000
open Go Go.Abs
theorem j7c {a b:Wd} (ha:a.ok) (hb:b.ok):(a.val+b.val).natAbs<4294967296 ^ 16:=by
 have h1:=q55 ha;have h2:=q55 hb;exact Nat.lt_of_le_of_lt (show (a.val+b.val).natAbs<=340282366920938463463374607431768211456 by omega) (by decide)
theorem z6U {a b:Wd} (ha:a.ok) (hb:b.ok):(a.val+-b.val).natAbs<4294967296 ^ 16:=by
 have h1:=q55 ha;have h2:=q55 hb;exact Nat.lt_of_le_of_lt (show (a.val+-b.val).natAbs<=340282366920938463463374607431768211456 by omega) (by decide)
theorem j6H {a b:Wd} (ha:a.ok) (hb:b.ok) (m:Mem):Res m (run E20 (.fn 73) [.agg a.cells,.agg b.cells] m) (.tup [.agg (Wd.res (a.val+b.val)).1.cells,.int .i64 (Wd.res (a.val+b.val)).2]):=by
 have oa:=fun m=>q3V (H:=H20) rfl ha m
 have ob:=fun m=>q3V (H:=H20) rfl hb m
 have su:=fun m=>q6t (H:=H20) rfl (q21 ha) (q21 hb) m
 have wi:=fun m=>j2Y (H:=H20) rfl (j7c ha hb) m
 simp only[Wd.cells]at oa ob wi⊢;simp only[a5O (H:=H20) rfl,T.f73,pB,q1,p1,q0K,q0d,q0H,q0I,q02,AV.one,over,AV.cells,Nat.reduceAdd,Nat.reduceLeDiff,lcl,oa,ob,su,wi];refine Res.eq ?_ rfl
 (repeat apply Fr.lays)
 exact Fr.refl _
theorem j6V {a b:Wd} (ha:a.ok) (hb:b.ok) (m:Mem):Res m (run E20 (.fn 74) [.agg a.cells,.agg b.cells] m) (.tup [.agg (Wd.res (a.val-b.val)).1.cells,.int .i64 (Wd.res (a.val-b.val)).2]):=by
 have oa:=fun m=>q3V (H:=H20) rfl ha m
 have ob:=fun m=>q3V (H:=H20) rfl hb m
 have mi:=fun m=>z2n (H:=H20) rfl (x:=b.val) (q3e (q21 hb) (by omega)) m
 have su:=fun m=>q6t (H:=H20) rfl (y:=-b.val) (q21 ha) (by rw[Int.natAbs_neg];exact q21 hb) m
 have wi:=fun m=>j2Y (H:=H20) rfl (z6U ha hb) m
 rw[show a.val-b.val=a.val+-b.val by omega];simp only[Wd.cells]at oa ob wi⊢;simp only[a5P (H:=H20) rfl,T.f74,pB,q1,p1,q0K,q0d,q0H,q0I,q02,AV.one,over,AV.cells,Nat.reduceAdd,Nat.reduceLeDiff,lcl,oa,ob,mi,su,wi];refine Res.eq ?_ rfl
 (repeat apply Fr.lays)
 exact Fr.refl _
theorem j6J {a b:Wd} (ha:a.ok) (hb:b.ok) (m:Mem):Res m (run E20 (.fn 116) [.agg (q1J a.val),.agg (q1J b.val)] m) (.int .i64 (sgn (a.val-b.val))):=by
 have mi:=fun m=>z2n (H:=H20) rfl (x:=b.val) (q3e (q21 hb) (by omega)) m
 have su:=fun m=>q6t (H:=H20) rfl (y:=-b.val) (q21 ha) (by rw[Int.natAbs_neg];exact q21 hb) m
 have zr:=fun m=>q4J (H:=H20) rfl (z6U ha hb) m
 rw[show a.val-b.val=a.val+-b.val by omega];obtain⟨d,hd⟩:∃d,d=a.val+-b.val:=⟨_,rfl⟩;rw[<-hd]at su zr⊢;clear hd;unfold sgn;simp only[q1J]at mi su⊢;by_cases h0:d=0
 ·have hz:decide (d.natAbs=0)=true:=dt (by omega);rw[hz]at zr;rw[if_neg (by omega),if_pos h0];simp only[z3j (H:=H20) rfl,T.f116,q1,pB,p1,q0K,q0a,Nat.reduceAdd,q0e,AV.one,AV.cells,Nat.reduceLeDiff,lcd,z16,mi,su,zr];refine Res.eq ?_ rfl
  (repeat apply Fr.lays)
  exact Fr.refl _
 ·have hz:decide (d.natAbs=0)=false:=df (by omega);rw[hz]at zr;by_cases hn:d<0
  ·rw[if_pos hn];simp only[z3j (H:=H20) rfl,T.f116,q1,pB,p1,q0K,q0a,Nat.reduceAdd,q0e,AV.one,AV.cells,Nat.reduceLeDiff,lcd,z16,mi,su,zr,z1h (H:=H20),T.j0c,q0e,dt hn];refine Res.eq ?_ rfl
   (repeat apply Fr.lays)
   exact Fr.refl _
  ·rw[if_neg hn,if_neg h0];simp only[z3j (H:=H20) rfl,T.f116,q1,pB,p1,q0K,q0a,Nat.reduceAdd,q0e,AV.one,AV.cells,Nat.reduceLeDiff,lcd,z16,mi,su,zr,z1h (H:=H20),T.j0c,q0e,df hn,j0d (H:=H20),T.j8e,wp];refine Res.eq ?_ rfl
   (repeat apply Fr.lays)
   exact Fr.refl _
theorem j6S {w:Wd} (hw:w.ok) (s:Int) (m:Mem):Res m (run E20 (.fn 37) [.agg (q0u w s)] m) (.int .i64 (q2Z w s)):=by
 have rr:=fun m=>q4I (H:=H20) rfl w s m
 unfold q2Z;obtain⟨wh,wl⟩:=w;obtain⟨w1,w2,w3,w4⟩:=hw;simp only at w1 w2 w3 w4;have hv:(Wd.mk wh wl).val=wh*18446744073709551616+wl:=rfl;rw[hv];simp only[q0u]at rr⊢;by_cases h:0<=s/\s<=18
 ·rw[if_pos h];rw[dt h]at rr;by_cases h1:wh<0
  ·rw[if_neg (by omega)];simp only[z4C (H:=H20) rfl,T.f37,q1,p1,q0K,q0a,unA,wp,AV.one,AV.cells,Nat.reduceAdd,Nat.reduceLeDiff,lcl,rr,xbt];simp only[q9S (H:=H20),T.j4R,p1,q1,p2,q0o,Nat.reduceAdd,Nat.reduceLeDiff,q0a,ifV,q0E,lcl,dt h1];refine Res.eq ?_ rfl
   (repeat apply Fr.lays)
   exact Fr.refl _
  ·by_cases h2:wh=0/\wl=0
   ·rw[if_neg (by omega)];simp only[z4C (H:=H20) rfl,T.f37,q1,p1,q0K,q0a,unA,wp,AV.one,AV.cells,Nat.reduceAdd,Nat.reduceLeDiff,lcl,rr,xbt];simp only[q9S (H:=H20),T.j4R,p1,q1,p2,q0o,Nat.reduceAdd,Nat.reduceLeDiff,q0a,ifV,q0E,lcl,df h1,q2M,dt h2.1,dt h2.2];refine Res.eq ?_ rfl
    (repeat apply Fr.lays)
    exact Fr.refl _
   ·rw[if_pos (by omega)];have e:(decide (wh=0)&&decide (wl=0))=false:=by
     rw[<-Bool.decide_and];exact df h2
    simp only[z4C (H:=H20) rfl,T.f37,q1,p1,q0K,q0a,unA,wp,AV.one,AV.cells,Nat.reduceAdd,Nat.reduceLeDiff,lcl,rr,xbt];simp only[q9S (H:=H20),T.j4R,p1,q1,p2,q0o,Nat.reduceAdd,Nat.reduceLeDiff,q0a,ifV,lcl,df h1,q2M,e,j4S (H:=H20),T.a7Z,wp];refine Res.eq ?_ rfl
    (repeat apply Fr.lays)
    exact Fr.refl _
 ·rw[if_neg h];rw[df h]at rr;simp only[z4C (H:=H20) rfl,T.f37,q1,p1,q0K,q0a,unA,wp,AV.one,AV.cells,Nat.reduceAdd,Nat.reduceLeDiff,lcl,rr,xbf];refine Res.eq ?_ rfl
  (repeat apply Fr.lays)
  exact Fr.refl _
def S21:List FuncId:=[73,74,116,37]
noncomputable def H21:FuncId->Option (List AV->Mem->R):=q1L E20 S21
noncomputable abbrev E21:Env:=T.EH H21
theorem a4L:q1u E21:=q0Z a4K S21
section
variable {H:FuncId->Option (List AV->Mem->R)}
theorem q5T (h:H 73=some (q0y E20 73)) {a b:Wd} (ha:a.ok) (hb:b.ok) (m:Mem):run (T.EH H) (.fn 73) [.agg a.cells,.agg b.cells] m=some (.tup [.agg (Wd.res (a.val+b.val)).1.cells,.int .i64 (Wd.res (a.val+b.val)).2],m):=
 q0r h (by simp[AV.flat,AV.lt,AV.lts,Wd.cells]) fun m2 _ _=>j6H ha hb m2
theorem q5X (h:H 74=some (q0y E20 74)) {a b:Wd} (ha:a.ok) (hb:b.ok) (m:Mem):run (T.EH H) (.fn 74) [.agg a.cells,.agg b.cells] m=some (.tup [.agg (Wd.res (a.val-b.val)).1.cells,.int .i64 (Wd.res (a.val-b.val)).2],m):=
 q0r h (by simp[AV.flat,AV.lt,AV.lts,Wd.cells]) fun m2 _ _=>j6V ha hb m2
theorem j6I (h:H 116=some (q0y E20 116)) {a b:Wd} (ha:a.ok) (hb:b.ok) (m:Mem):run (T.EH H) (.fn 116) [.agg (q1J a.val),.agg (q1J b.val)] m=some (.int .i64 (sgn (a.val-b.val)),m):=
 q0r h (by simp[AV.flat,AV.lt]) fun m2 _ _=>j6J ha hb m2
theorem z6G (h:H 37=some (q0y E20 37)) {w:Wd} (hw:w.ok) (s:Int) (m:Mem):run (T.EH H) (.fn 37) [.agg (q0u w s)] m=some (.int .i64 (q2Z w s),m):=
 q0r h (by simp[AV.flat,AV.lt]) fun m2 _ _=>j6S hw s m2
end
theorem j6K {a b:Wd} (ha:a.ok) (hb:b.ok) (m:Mem):Res m (run E21 (.fn 75) [.agg a.cells,.agg b.cells] m) (.int .i64 (sgn (a.val-b.val))):=by
 have oa:=fun m=>q3V (H:=H21) rfl ha m
 have ob:=fun m=>q3V (H:=H21) rfl hb m
 have cb:=fun m=>j6I (H:=H21) rfl ha hb m
 simp only[Wd.cells]at oa ob⊢;simp only[a5Q (H:=H21) rfl,T.f75,q1,q0K,wp,AV.one,AV.cells,Nat.reduceAdd,Nat.reduceLeDiff,lcl,oa,ob,cb];refine Res.eq ?_ rfl
 (repeat apply Fr.lays)
 exact Fr.refl _
end
section
set_option maxRecDepth 4000
open Go Go.Abs
section
variable {m:Mem} {b:Nat} {st:LSt} {F:List Nat}
theorem q6W (w:LWf st) {k:List UInt8} (h:q0O q0c k (st.q0b.map (·.name))=true):q4W (fun p=>decide (p.name=k)) st.q0b 0=((st.iP k:Nat):Int):=by
 rw[q4C (lt:=q0c) (fun p:q0q=>p.name) k q1g st.q0b 0 w.sp,if_pos h,xnz];rfl
theorem q8c (w:LWf st) {k:List UInt8} (h:q0O q0c k (st.q0b.map (·.name))=false):q4W (fun p=>decide (p.name=k)) st.q0b 0=-1:=by
 rw[q4C (lt:=q0c) (fun p:q0q=>p.name) k q1g st.q0b 0 w.sp,if_neg (by rw[h];decide)]
theorem z3X (w:LWf st) {k:Int} (h:q0O q0m k (st.q0p.map (·.id))=true):q4W (fun p=>decide (p.id=k)) st.q0p 0=((st.iA k:Nat):Int):=by
 rw[q4C (lt:=q0m) (fun p:q1b=>p.id) k q7Y st.q0p 0 w.sa,if_pos h,xnz];rfl
theorem z2l (w:LWf st) {k:Int} (h:q0O q0m k (st.q0p.map (·.id))=false):q4W (fun p=>decide (p.id=k)) st.q0p 0=-1:=by
 rw[q4C (lt:=q0m) (fun p:q1b=>p.id) k q7Y st.q0p 0 w.sa,if_neg (by rw[h];decide)]
theorem z3Z (h:q0L m b st F) (w:LWf st) (x:List UInt8) :
  Res m (run E21 (.fn 65) [.ptr (some ⟨b,0⟩),.str x] m) (.tup [.agg (q0u (q0U st x).1 (q0U st x).2.1),.int .i64 (q0U st x).2.2]):=by
 have gp:=q6X (H:=H21) rfl h (by have:=w.lp;omega) x;obtain⟨sp,sq,sa,rp,rq,ra,h1,h2,h3,h4,h5⟩:=h.ex;have hb:=Mem.q0x h1;have a3:∀i:Nat,ld1 m (.ptr (some ⟨b,i⟩))=[sp,sq,sa,.int .u64 st.latest,.int .i64 st.most][i]?:=fun i=>q0g h1
 unfold q0U;cases hk:q0O q0c x (st.q0b.map (·.name)) with
 |false=>
  rw[q8c w hk]at gp;rw[LSt.q1K hk];simp (maxDischargeDepth:=20) only [j7L (H:=H21) rfl,T.f65,pB,p2,p1,q0o,AV.cells,Nat.reduceAdd,Nat.reduceLeDiff,q0a,q0H,q0I,q0w,AV.one,over,lcl,gp,frl,Fr.refl,dt (show (-1:Int)<0 by omega)];refine Res.eq ?_ (by simp[q0u])
  (repeat apply Fr.lays)
  exact Fr.refl _
 |true=>
  obtain⟨p,p1,p2,p3,p4⟩:=LSt.q1p hk;rw[q6W w hk]at gp;rw[p1];have hlt:st.iP x<st.q0b.length:=(xgi.1 p3).1;obtain⟨bb,hbb,e,e2,e3,e4⟩:=h2.fld (i:=st.iP x) (by rw[xlm];exact hlt);have hB:bb<m.next:=by subst hbb;exact h2.lt
  rw[xlm]at e e2;subst e;have hp:st.q0b[st.iP x]=p:=by have p5:st.q0b[st.iP x]? = some p:=p3;rw[xgq hlt]at p5;simpa using p5
  have e5:=e3 1 (by omega);have e6:=e4 2 2 (by omega);rw[xgm,hp]at e5 e6;simp only[ge,q0q.cells,List.drop_succ_cons,List.drop_zero,List.take_succ_cons,List.take_zero]at e5 e6;simp (maxDischargeDepth:=20) only [j7L (H:=H21) rfl,T.f65,pB,q0o,q0a,q0H,q0I,q0w,lcl,gp,frl,Fr.refl,df (show ¬((st.iP x:Nat):Int)<0 by omega)];simp only[j5j (H:=H21),T.a8m,q1,q0o,AV.cells,Nat.reduceAdd,Nat.reduceLeDiff,nnA,q0H,q0I,q0E,AV.one,over,lcl,q1d hb,a3,true_or,e2,q1d hB,e5,e6]
  refine Res.eq ?_ (by simp[q0u])
  (repeat apply Fr.lays)
  exact Fr.refl _
theorem z3T (h:q0L m b st F) (w:LWf st) (id:Int) :
  Res m (run E21 (.fn 64) [.ptr (some ⟨b,0⟩),.int .u64 id] m) (.tup [.agg (q0u (q0D st id).1 (q0D st id).2.1),.int .i64 (q0D st id).2.2]):=by
 have ga:=z3R (H:=H21) rfl h (by have:=w.la;omega) id;have gpp:=fun k=>q6X (H:=H21) rfl h (by have:=w.lp;omega) k
 obtain⟨sp,sq,sa,rp,rq,ra,h1,h2,h3,h4,h5⟩:=h.ex;have hb:=Mem.q0x h1;have a3:∀i:Nat,ld1 m (.ptr (some ⟨b,i⟩))=[sp,sq,sa,.int .u64 st.latest,.int .i64 st.most][i]?:=fun i=>q0g h1
 unfold q0D;rcases LSt.q1f w id with ⟨e,hn⟩|⟨a,p,e,g1,g2,hid,hka,hpn,hkp,ma,mp⟩
 ·have hk:q0O q0m id (st.q0p.map (·.id))=false:=by
   cases hk:q0O q0m id (st.q0p.map (·.id)) with
   |false=>rfl
   |true=>obtain⟨a,a1,_⟩:=LSt.q1D hk;rw[hn]at a1;cases a1
  rw[z2l w hk]at ga;rw[e];simp (maxDischargeDepth:=20) only [j7K (H:=H21) rfl,T.f64,pB,p2,p1,q0o,AV.cells,Nat.reduceAdd,Nat.reduceLeDiff,q0a,q0H,q0I,q0w,AV.one,over,lcl,ga,frl,Fr.refl,dt (show (-1:Int)<0 by omega)];refine Res.eq ?_ (by simp[q0u])
  (repeat apply Fr.lays)
  exact Fr.refl _
 ·rw[z3X w hka]at ga;rw[e];obtain⟨a',q1,q2,q3,q4⟩:=LSt.q1D hka;rw[g1]at q1;cases q1;have hlt:st.iA id<st.q0p.length:=(xgi.1 q3).1;obtain⟨bb,hbb,x1,x2,x3,x4⟩:=h4.fld (i:=st.iA id) (by rw[xlm];exact hlt);have hB:bb<m.next:=by subst hbb;exact h4.lt
  rw[xlm]at x1 x2;subst x1;have ha:st.q0p[st.iA id]=a:=by have q5:st.q0p[st.iA id]? = some a:=q3;rw[xgq hlt]at q5;simpa using q5
  have x5:=x3 1 (by omega);have x6:=x4 2 2 (by omega);rw[xgm,ha]at x5 x6;rw[hpn]at hkp;have gp:=gpp a.q1S;rw[q6W w hkp]at gp;obtain⟨p',p1,p2,p3,p4⟩:=LSt.q1p hkp;rw[g2]at p1;cases p1;have hlt2:st.iP a.q1S<st.q0b.length:=(xgi.1 p3).1;obtain⟨bc,hbc,y1,y2,y3,y4⟩:=h2.fld (i:=st.iP a.q1S) (by rw[xlm];exact hlt2);have hC:bc<m.next:=by subst hbc;exact h2.lt
  rw[xlm]at y1 y2;subst y1;have hp:st.q0b[st.iP a.q1S]=p:=by have p5:st.q0b[st.iP a.q1S]? = some p:=p3;rw[xgq hlt2]at p5;simpa using p5
  have y5:=y3 1 (by omega);rw[xgm,hp]at y5;simp only[ge,q1b.cells,q0q.cells,List.drop_succ_cons,List.drop_zero,List.take_succ_cons,List.take_zero]at x5 x6 y5;simp (maxDischargeDepth:=20) only [j7K (H:=H21) rfl,T.f64,pB,p1,q0o,q0a,q0H,q0I,q0w,lcl,ga,frl,Fr.refl,df (show ¬((st.iA id:Nat):Int)<0 by omega)];simp (maxDischargeDepth:=20) only [j5i (H:=H21),T.a8l,p1,q1,q0o,AV.cells,Nat.reduceAdd,Nat.reduceLeDiff,nnA,q0H,q0I,q0E,AV.one,over,lcl,q1d hb,a3,true_or,x2,q1d hB,x5,x6,gp,frl,Fr.refl,y2,q1d hC,y5]
  refine Res.eq ?_ (by simp[q0u])
  (repeat apply Fr.lays)
  exact Fr.refl _
end
end
section
set_option maxRecDepth 4000
open Go Go.Abs
section
variable {m:Mem} {b:Nat} {st:LSt} {F:List Nat}
theorem j6M (h:q0L m b st F) (w:LWf st) {k:List UInt8} {p:q0q} (hp:st.q2o k=some p) {x:Wd} (hx:x.ok) (s:Int) :
  Res m (run E21 (.fn 72) [.ptr (some ⟨b,0⟩),.str k,.agg (q0u x s)] m) (.int .i64 (q1W p x s)):=by
 have gp:=q6X (H:=H21) rfl h (by have:=w.lp;omega) k;obtain⟨sp,sq,sa,rp,rq,ra,h1,h2,h3,h4,h5⟩:=h.ex;have hb:=Mem.q0x h1;have a3:∀i:Nat,ld1 m (.ptr (some ⟨b,i⟩))=[sp,sq,sa,.int .u64 st.latest,.int .i64 st.most][i]?:=fun i=>q0g h1
 have hk:q0O q0c k (st.q0b.map (·.name))=true:=by
  cases hk:q0O q0c k (st.q0b.map (·.name)) with
  |true=>rfl
  |false=>rw[LSt.q1K hk]at hp;cases hp
 obtain⟨p',p1',p2',p3,p4⟩:=LSt.q1p hk;rw[hp]at p1';cases p1';rw[q6W w hk]at gp;have hlt:st.iP k<st.q0b.length:=(xgi.1 p3).1;obtain⟨bb,hbb,e,e2,e3,e4⟩:=h2.fld (i:=st.iP k) (by rw[xlm];exact hlt);have hB:bb<m.next:=by subst hbb;exact h2.lt
 rw[xlm]at e e2;subst e;have hpp:st.q0b[st.iP k]=p:=by have p5:st.q0b[st.iP k]? = some p:=p3;rw[xgq hlt]at p5;simpa using p5
 have e5:=e3 1 (by omega);rw[xgm,hpp]at e5;simp only[ge,q0q.cells]at e5;unfold q1W;obtain⟨xh,xl⟩:=x;obtain⟨x1,x2,x3,x4⟩:=hx;simp only at x1 x2 x3 x4;have hv:(Wd.mk xh xl).val=xh*18446744073709551616+xl:=rfl;rw[hv];simp only[q0u];by_cases h0:s=p.scale
 ·rw[if_neg (by simp[h0])];by_cases g1:xh<0
  ·rw[if_pos (by omega)];simp (maxDischargeDepth:=20) only [z4F (H:=H21) rfl,T.f72,p1,q1,p2,q0K,nnA,q0a,q0e,AV.one,AV.cells,lcl,q1d hb,a3,gp,frl,Fr.refl,true_or,e2,q1d hB,e5,dt h0,xbt];simp only[q9W (H:=H21),T.j5q,p1,q1,p2,q0o,Nat.reduceAdd,Nat.reduceLeDiff,q0a,ifV,q0E,lcl,dt g1];refine Res.eq ?_ rfl
   (repeat apply Fr.lays)
   exact Fr.refl _
  ·by_cases g2:xh=0/\xl=0
   ·rw[if_pos (by omega)];simp (maxDischargeDepth:=20) only [z4F (H:=H21) rfl,T.f72,p1,q1,p2,q0K,nnA,q0a,q0e,AV.one,AV.cells,lcl,q1d hb,a3,gp,frl,Fr.refl,true_or,e2,q1d hB,e5,dt h0,xbt];simp only[q9W (H:=H21),T.j5q,p1,q1,p2,q0o,Nat.reduceAdd,Nat.reduceLeDiff,q0a,ifV,q0E,lcl,df g1,q2M,dt g2.1,dt g2.2]
    refine Res.eq ?_ rfl
    (repeat apply Fr.lays)
    exact Fr.refl _
   ·rw[if_neg (by omega)];have e:(decide (xh=0)&&decide (xl=0))=false:=by
     rw[<-Bool.decide_and];exact df g2
    simp (maxDischargeDepth:=20) only [z4F (H:=H21) rfl,T.f72,p1,q1,p2,q0K,nnA,q0a,q0e,AV.one,AV.cells,lcl,q1d hb,a3,gp,frl,Fr.refl,true_or,e2,q1d hB,e5,dt h0,xbt];simp only[q9W (H:=H21),T.j5q,p1,q1,p2,q0o,Nat.reduceAdd,Nat.reduceLeDiff,q0a,ifV,lcl,df g1,q2M,e,j5r (H:=H21),T.a8t,wp]
    refine Res.eq ?_ rfl
    (repeat apply Fr.lays)
    exact Fr.refl _
 ·rw[if_pos h0];simp (maxDischargeDepth:=20) only [z4F (H:=H21) rfl,T.f72,p1,q1,p2,q0K,nnA,q0a,q0e,AV.one,AV.cells,lcl,q1d hb,a3,gp,frl,Fr.refl,true_or,e2,q1d hB,e5,df h0,xbf];refine Res.eq ?_ rfl
  (repeat apply Fr.lays)
  exact Fr.refl _
end
end
end Go.Proofs.YtlginbmjiecglaaGreatDoor
namespace Go.Abs
section
open Go
theorem q03.sto {n:Nat} {m:Mem} {s:AV} {l:List (List AV)} {rb:Option Nat} (h:q03 n m s l rb) {i:Nat} (hi:i<l.length) {o:Nat} {vs:List AV} (ho:o+vs.length<=n) (hv:vs.all AV.one=true) :
  ∃b,rb=some b/\stV m (.ptr (some ⟨b,i*n+o⟩)) (.agg vs) vs.length=some (m.put b (some (.cells (l.set i (l[i].take o++vs++l[i].drop (o+vs.length))).flatten false)))/\
   q03 n (m.put b (some (.cells (l.set i (l[i].take o++vs++l[i].drop (o+vs.length))).flatten false))) s (l.set i (l[i].take o++vs++l[i].drop (o+vs.length))) rb:=by
 have hl:=h.lens;obtain⟨b,h1,h2,h3,h4,h5⟩:=h.at hi;have hli:l[i].length=n:=hl _ (List.getElem_mem hi);have hfl:=q1w hl;have hle:(i+1)*n<=l.length*n:=Nat.mul_le_mul_right n hi;rw[Nat.succ_mul]at hle;have hd:l.flatten.drop (i*n)=l[i]++(l.drop (i+1)).flatten:=by
  rw[q2b i hl,List.drop_eq_getElem_cons hi,List.flatten_cons]
 have hlen:(l[i].take o++vs++l[i].drop (o+vs.length)).length=n:=by
  simp only[xla0,xlt0,xld0];omega
 have hone:(l[i].take o++vs++l[i].drop (o+vs.length)).all AV.one=true:=by
  have hx:=(h.1 _ (List.getElem_mem hi)).2;rw[List.all_append,List.all_append,hv,Bool.and_true,Bool.and_eq_true];exact⟨List.all_eq_true.2 fun v hv'=>List.all_eq_true.1 hx v (List.mem_of_mem_take hv'),List.all_eq_true.2 fun v hv'=>List.all_eq_true.1 hx v (List.mem_of_mem_drop hv')⟩
 have key:l.flatten.take (i*n+o)++vs++l.flatten.drop (i*n+o+vs.length)=(l.set i (l[i].take o++vs++l[i].drop (o+vs.length))).flatten:=by
  rw[<-z4G hl hi,List.take_add,hd,List.take_append_of_le_length (by omega),Nat.add_assoc,<-List.drop_drop,hd,List.drop_append_of_le_length (by omega)];have e:l.flatten.drop (i*n+n)=(l.drop (i+1)).flatten:=by rw[<-Nat.succ_mul];exact q2b (i+1) hl
  rw[e];simp only[List.append_assoc]
 have hst:=q1l (v:=.agg vs) (vs:=vs) (o:=i*n+o) (n:=vs.length) h3 (q1e hv) rfl (by omega);rw[key]at hst;refine⟨b,h1,hst,fun x hx=>?_,.inr ⟨b,h1,by simpa using h2,q0v h3⟩⟩
 rcases List.mem_or_eq_of_mem_set hx with hx|rfl
 ·exact h.1 x hx
 ·exact⟨hlen,hone⟩
theorem q0L.lt {m:Mem} {b:Nat} {st:LSt} {F:List Nat} (h:q0L m b st F):∀c,c∈F->c<m.next:=by
 obtain⟨sp,sq,sa,rp,rq,ra,h1,h2,h3,h4,h5,h6,h7,h8,h9,h10,rfl⟩:=h.ex;intro c hc;simp only[xmk0,xma,Option.mem_toList]at hc;rcases hc with rfl|(hc|hc)|hc
 ·exact Mem.q0x h1
 ·subst hc;exact h2.lt
 ·subst hc;exact h3.lt
 ·subst hc;exact h4.lt
theorem q0L.stA {m:Mem} {b:Nat} {st:LSt} {F:List Nat} (h:q0L m b st F) {sp sq sa:AV} (hb:m.get b=some (.cells [sp,sq,sa,.int .u64 st.latest,.int .i64 st.most] false)) {a:q1b} (ga:st.q0p[st.iA a.id]? = some a) (ny:Wd) :
  ∃bb m1,sa=.sl (some ⟨bb,0⟩) 4 st.q0p.length st.q0p.length false/\stV m (.ptr (some ⟨bb,st.iA a.id*4+2⟩)) (.agg ny.cells) 2=some m1/\q0L m1 b (st.q14 {a with bal:=ny}) F/\Fr m m1 F/\m1.next=m.next/\m1.get b=m.get b:=by
 obtain⟨sp',sq',sa',rp,rq,ra,h1,h2,h3,h4,h5,h6,h7,h8,h9,h10,rfl⟩:=h.ex;rw[h1]at hb;simp only[xoi,Blk.cells.injEq,List.cons.injEq,and_true]at hb;obtain⟨rfl,rfl,rfl⟩:=hb;obtain⟨hlt,hga⟩:=xgi.1 ga;obtain⟨bb,e1,e2,e3⟩:=h4.sto (i:=st.iA a.id) (by rw[xlm];exact hlt) (o:=2) (vs:=ny.cells) (by simp[Wd.cells]) rfl;obtain⟨bb',f1,f2,_⟩:=h4.fld (i:=st.iA a.id) (by rw[xlm];exact hlt);rw[e1]at f1;cases f1
 have hv:(st.q0p.map (·.cells)).set (st.iA a.id) (((st.q0p.map fun x:q1b=>x.cells)[st.iA a.id]'(by rw[xlm];exact hlt)).take 2++ny.cells++((st.q0p.map fun x:q1b=>x.cells)[st.iA a.id]'(by rw[xlm];exact hlt)).drop (2+ny.cells.length))=(st.q14 {a with bal:=ny}).q0p.map (·.cells):=by
  rw[xgm,hga];unfold LSt.q14;rw[List.map_set];rfl
 rw[hv]at e2 e3;have hbb:bb≠b:=fun e=>h7 (by rw[e1,e];simp)
 have hf:Fr m (m.put bb (some (.cells ((st.q14 {a with bal:=ny}).q0p.map (·.cells)).flatten false))) [bb]:=Fr.put _ _ _
 refine⟨bb,_,by simpa using f2,e2,⟨sp',sq',sa',rp,rq,ra,hf.get h1 (by simp;exact fun e=>hbb e.symm),h2.frame hf (fun c hc=>?_),h3.frame hf (fun c hc=>?_),e3,h5,h6,h7,h8,h9,h10,rfl⟩,hf.mono (fun c hc=>?_),rfl,?_⟩
 ·simp only[xms];rintro rfl;exact h9 c (by rw[hc];simp) (by rw[e1];simp)
 ·simp only[xms];rintro rfl;exact h10 c (by rw[hc];simp) (by rw[e1];simp)
 ·simp only[xms]at hc;subst hc;rw[e1];simp
 ·exact q1U (fun e=>hbb e.symm)
theorem q0L.stP {m:Mem} {b:Nat} {st:LSt} {F:List Nat} (h:q0L m b st F) {sp sq sa:AV} (hb:m.get b=some (.cells [sp,sq,sa,.int .u64 st.latest,.int .i64 st.most] false)) {a:q0q} (ga:st.q0b[st.iP a.name]? = some a) (ny:Wd) :
  ∃bb m1,sp=.sl (some ⟨bb,0⟩) 4 st.q0b.length st.q0b.length false/\stV m (.ptr (some ⟨bb,st.iP a.name*4+2⟩)) (.agg ny.cells) 2=some m1/\q0L m1 b (st.z2K {a with out:=ny}) F/\Fr m m1 F/\m1.next=m.next/\m1.get b=m.get b:=by
 obtain⟨sp',sq',sa',rp,rq,ra,h1,h2,h3,h4,h5,h6,h7,h8,h9,h10,rfl⟩:=h.ex;rw[h1]at hb;simp only[xoi,Blk.cells.injEq,List.cons.injEq,and_true]at hb;obtain⟨rfl,rfl,rfl⟩:=hb;obtain⟨hlt,hga⟩:=xgi.1 ga;obtain⟨bb,e1,e2,e3⟩:=h2.sto (i:=st.iP a.name) (by rw[xlm];exact hlt) (o:=2) (vs:=ny.cells) (by simp[Wd.cells]) rfl;obtain⟨bb',f1,f2,_⟩:=h2.fld (i:=st.iP a.name) (by rw[xlm];exact hlt);rw[e1]at f1;cases f1
 have hv:(st.q0b.map (·.cells)).set (st.iP a.name) (((st.q0b.map fun x:q0q=>x.cells)[st.iP a.name]'(by rw[xlm];exact hlt)).take 2++ny.cells++((st.q0b.map fun x:q0q=>x.cells)[st.iP a.name]'(by rw[xlm];exact hlt)).drop (2+ny.cells.length))=(st.z2K {a with out:=ny}).q0b.map (·.cells):=by
  rw[xgm,hga];unfold LSt.z2K;rw[List.map_set];rfl
 rw[hv]at e2 e3;have hbb:bb≠b:=fun e=>h5 (by rw[e1,e];simp)
 have hf:Fr m (m.put bb (some (.cells ((st.z2K {a with out:=ny}).q0b.map (·.cells)).flatten false))) [bb]:=Fr.put _ _ _
 refine⟨bb,_,by simpa using f2,e2,⟨sp',sq',sa',rp,rq,ra,hf.get h1 (by simp;exact fun e=>hbb e.symm),e3,h3.frame hf (fun c hc=>?_),h4.frame hf (fun c hc=>?_),h5,h6,h7,h8,h9,h10,rfl⟩,hf.mono (fun c hc=>?_),rfl,?_⟩
 ·simp only[xms];rintro rfl;exact h8 c (by rw[e1];simp) (by rw[hc];simp)
 ·simp only[xms];rintro rfl;exact h9 c (by rw[e1];simp) (by rw[hc];simp)
 ·simp only[xms]at hc;subst hc;rw[e1];simp
 ·exact q1U (fun e=>hbb e.symm)
end
end Go.Abs
