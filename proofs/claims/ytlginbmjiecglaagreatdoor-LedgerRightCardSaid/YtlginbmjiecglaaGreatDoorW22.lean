/- Texts of one claim, put together. -/
import Derived.Test.YtlginbmjiecglaaGreatDoorW21
namespace Go.Proofs.YtlginbmjiecglaaGreatDoor
section
set_option maxRecDepth 4000
open Go Go.Abs
def S23:List FuncId:=[77,67,15]
def R23:List FuncId:=[29,31,32,27,28,33]
noncomputable def H23:FuncId->Option (List AV->Mem->R):=q33 E22 S23 R23
noncomputable abbrev E23:Env:=T.EH H23
theorem a1d:q1i E23:=q2v a1c S23 R23
noncomputable abbrev D23:Do:=T.Rl H23
section
variable {H:FuncId->Option (List AV->Mem->R)} {m:Mem} {b:Nat} {st:LSt} {F:List Nat}
theorem z00 {f:FuncId} (h:H f=some (run E22 (.fn f))) (xs:List AV) (m:Mem):run (T.EH H) (.fn f) xs m=run E22 (.fn f) xs m:=q00 h xs m
theorem j0G (hh:H 15=some (q0x E22 15)) {sp sq sa tp tq ta:AV} {s t:LSt} (hs:BkV m sp sq sa s) (ht:BkV m tp tq ta t) (hn:q8a s) (M:Mem) (hM:Fr m M []) :
  run (T.EH H) (.fn 15) [.agg [sp,sq,sa,.int .u64 s.latest],.agg [tp,tq,ta,.int .u64 t.latest]] M=some (.bool (q9C s t),M):=
 q0s hh (by simp[AV.flat,AV.lt]) fun m2 h1 h2=>a0A ((hs.q0k hM).q0k (Fr.same h1 h2)) ((ht.q0k hM).q0k (Fr.same h1 h2)) hn
end
theorem j0j {H:FuncId->Option (List AV->Mem->R)} (h:H 77=some (q0x E22 77)) {w v:Wd} (hw:w.ok) (hv:v.ok) (s t n:Int) (m:Mem) :
  run (T.EH H) (.fn 77) [.agg (q0H w s),.agg (q0H v t),.int .i64 n] m=some (.tup [.agg (q0H (q2o w s v t n).1 (q2o w s v t n).2.1),.int .i64 (q2o w s v t n).2.2],m):=by
 rw[<-q9Z];exact q0s h (by rw[q9Z];simp[AV.flat,AV.lt,AV.lts,q0H]) fun m2 _ _=>j0k hw hv s t n m2
theorem uA:∃e,Tryz.prog.underlying 25=some (.slice e)/\szT Tryz.prog e=some 4:=⟨54,by kernel_rfl,by kernel_rfl⟩
theorem LSt.j0H {st:LSt} {a a':q1k} {i j:Int} (ga:st.q7S i=some a) (ga':st.q7S j=some a') (hij:i≠j) (n n':Wd):(st.q14 {a with bal:=n}).q14 {a' with bal:=n'}=(st.q14 {a' with bal:=n'}).q14 {a with bal:=n}:=by
 obtain⟨e1,g1⟩:=LSt.q1L ga;obtain⟨e2,g2⟩:=LSt.q1L ga';have ne:st.iA a.id≠st.iA a'.id:=fun e=>by
  rw[e,g2]at g1;cases g1;exact hij (e1.symm.trans e2)
 have hk:∀{i:Int} {a:q1k},st.q7S i=some a->q0Y q0p a.id (st.q0j.map (·.id))=true:=fun {i a} ga=>by
  have e1:=(LSt.q1L ga).1;cases hk:q0Y q0p a.id (st.q0j.map (·.id)) with
  |true=>rfl
  |false=>rw[<-e1,LSt.q3Z hk]at ga;cases ga
 have k1:=hk ga;have k2:=hk ga';have h1:(st.q14 {a with bal:=n}).iA a'.id=st.iA a'.id:=by
  unfold LSt.iA;rw[LSt.q5c (st:=st) (a:={a with bal:=n}) k1]
 have h2:(st.q14 {a' with bal:=n'}).iA a.id=st.iA a.id:=by
  unfold LSt.iA;rw[LSt.q5c (st:=st) (a:={a' with bal:=n'}) k2]
 show ({st with q0j:=(st.q0j.set (st.iA a.id) {a with bal:=n}).set ((st.q14 {a with bal:=n}).iA a'.id) {a' with bal:=n'}}:LSt)={st with q0j:=(st.q0j.set (st.iA a'.id) {a' with bal:=n'}).set ((st.q14 {a' with bal:=n'}).iA a.id) {a with bal:=n}}
 rw[h1,h2,List.set_comm _ _ ne]
section
variable {m:Mem} {b:Nat} {st:LSt} {F:List Nat}
theorem j0i {M:Mem} {n:Nat} (h:q0G M b st F) (hF:∀c,c∈F->c<n) {i j:Int} {a a':q1k} {q:q0D} (ga:st.q7S i=some a) (ga':st.q7S j=some a') (hij:i≠j) {k:List UInt8} (gq:st.z9i k=some q) {x:Wd} (hab:a.bal.ok) (hx:x.ok) {s:Int}
  (hfx:q0M (a.bal.val-x.val)=true) {gw nin nout nto:Wd} {gs:Int} (hD:M.get n=some (.cells (q0H x s) false)) (hZ:M.get (n+1)=some (.cells z3 false)) (hG:M.get (n+2)=some (.cells (q0H gw gs) false))
  (h3:M.get (n+3)=some (.cells nin.cells false)) (h4:M.get (n+4)=some (.cells nout.cells false)) (h5:M.get (n+5)=some (.cells nto.cells false)) :
  ∃m',D23.gor 139270 [.ptr (some ⟨b,0⟩),.ptr (some ⟨n,0⟩),.ptr (some ⟨n+1,0⟩),.int .i64 ((st.iA i:Nat):Int),.int .i64 ((st.iA j:Nat):Int),.int .i64 ((st.iQ k:Nat):Int),.ptr (some ⟨n+2,0⟩),.ptr (some ⟨n+3,0⟩),.ptr (some ⟨n+4,0⟩),.ptr (some ⟨n+5,0⟩)] M=some (.tup [.agg (q0H gw gs),.int .i64 0],m')/\
   q0G m' b (((st.q14 {a with bal:=Wd.of (a.bal.val-x.val)}).q14 {a' with bal:=nto}).q4N {q with inx:=nin,q1H:=nout}) F/\Fr M m' ((n+1)::F):=by
 obtain⟨e1,g1⟩:=LSt.q1L ga;obtain⟨e2,g2⟩:=LSt.q1L ga';obtain⟨e3,g3,g4⟩:=LSt.z1U gq;obtain⟨sp,sq,sa,rp,rq,ra,k1,k2,k3,k4,k5⟩:=h.ex;obtain⟨ea,uA1,uA2⟩:=uA;rw[e1]at g1;rw[e2]at g2;rw[e3]at g3;obtain⟨ba,r1,r2,r3,r4,r5⟩:=k4.reads uA1 uA2 (f:=q1k.cells) g1;obtain⟨ba',r1',r2',r3',r4',r5'⟩:=k4.reads uA1 uA2 (f:=q1k.cells) g2;rw[r1]at r1';cases r1';obtain⟨nf,hnf⟩:∃nf,nf=Wd.of (a.bal.val-x.val):=⟨_,rfl⟩
 have su:=fun m=>q5p (H:=H23) rfl hab hx m
 rw[q1u hfx,<-hnf]at su;rw[<-hnf];obtain⟨M1,hM1⟩:∃M1,M1=M.lay (.cells nf.cells false):=⟨_,rfl⟩;have f1:Fr M M1 []:=by rw[hM1];exact(Fr.refl M).lay _
 have lZ:=Mem.q0v h5;have kb1:=f1.get k1 (by simp);have nF:∀c,n<=c->c∉F:=fun c hc hm=>by have:=hF c hm;omega
 obtain⟨b1,m1,i1,i2,i3,i4,i5,i6⟩:=q0G.stQ (h.q0k f1) kb1 (i:=st.iQ k) (q:=q) (q':={q with inx:=nin}) g3 (o:=5) (vs:=nin.cells) (by simp[Wd.cells]) rfl (by simp[q0D.cells,Wd.cells])
 have kb2:=i6.trans kb1;obtain⟨b2,m2,j1,j2,j3,j4,j5,j6⟩:=q0G.stQ i3 kb2 (i:=st.iQ k) (q:={q with inx:=nin}) (q':={q with inx:=nin,q1H:=nout}) (by
  show (st.pairs.set _ _)[_]? = _;rw[List.getElem?_set_self (xgi.1 g3).1]) (o:=7) (vs:=nout.cells) (by simp[Wd.cells]) rfl (by simp[q0D.cells,Wd.cells])
 have kb3:=j6.trans kb2;obtain⟨st2,hst2⟩:∃st2,st2=({st with pairs:=st.pairs.set (st.iQ k) {q with inx:=nin,q1H:=nout}}:LSt):=⟨_,rfl⟩
 have j3':q0G m2 b st2 F:=by rw[hst2];simpa only [List.set_set]using j3
 have ga2:st2.q7S i=some a:=by rw[hst2];exact ga
 have ga2':st2.q7S j=some a':=by rw[hst2];exact ga'
 obtain⟨b3,m3,l1,l2,l3,l4,l5,l6⟩:=j3'.stA (by rw[hst2];exact kb3) (a:=a') (LSt.q1L ga2').2 nto;have kb4:=l6.trans kb3;have hkj:q0Y q0p a'.id (st2.q0j.map (·.id))=true:=by
  cases hk:q0Y q0p a'.id (st2.q0j.map (·.id)) with
  |true=>rfl
  |false=>have:=LSt.q3Z hk;rw[e2,ga2']at this;cases this
 have ne:st2.iA a.id≠st2.iA a'.id:=fun e=>by
  have h1:=(LSt.q1L ga2).2;rw[e,(LSt.q1L ga2').2]at h1;cases h1;exact hij (e1.symm.trans e2)
 have hi2:(st2.q14 {a' with bal:=nto}).iA a.id=st2.iA a.id:=by
  unfold LSt.iA;rw[LSt.q5c (st:=st2) (a:={a' with bal:=nto}) hkj]
 have hl2:(st2.q14 {a' with bal:=nto}).q0j.length=st2.q0j.length:=List.length_set ..
 obtain⟨b4,m4,o1,o2,o3,o4,o5,o6⟩:=l3.stA (by rw[hst2];exact kb4) (a:=a) (by
  rw[hi2];show (st2.q0j.set _ _)[_]? = _;rw[List.getElem?_set_ne (fun e=>ne e.symm)];exact(LSt.q1L ga2).2) nf
 have kb5:=o6.trans kb4;have fin:(st2.q14 {a' with bal:=nto}).q14 {a with bal:=nf}=((st.q14 {a with bal:=nf}).q14 {a' with bal:=nto}).q4N {q with inx:=nin,q1H:=nout}:=by
  rw[<-LSt.j0H ga2 ga2' hij,hst2];have hk:q0Y q0c (q0D.key {q with inx:=nin,q1H:=nout}) (st.pairs.map (·.key))=true:=by rw[<-e3]at g4;exact g4
  unfold LSt.q4N;have hp:(LSt.pairs ((st.q14 {a with bal:=nf}).q14 {a' with bal:=nto}))=st.pairs:=rfl
  rw[hp,if_pos hk];show _=({((st.q14 {a with bal:=nf}).q14 {a' with bal:=nto}) with pairs:=st.pairs.set (st.iQ q.key) {q with inx:=nin,q1H:=nout}}:LSt)
  rw[e3];rfl
 rw[fin]at o3;have c1:st2.iA a'.id=st.iA j:=by rw[e2,hst2];rfl
 have c2:st2.iA a.id=st.iA i:=by rw[e1,hst2];rfl
 rw[c1]at l2;rw[hi2,c2]at o2;have eb:b3=ba/\b4=ba:=by
  obtain⟨_,_,_,_,_,ra2,z1,_,_,z4,_⟩:=j3'.ex;rcases k4.2 with (⟨_,z,_⟩|⟨bz,_,z,zz,_⟩)|⟨bz,z,zz,_⟩
  ·rw[r1]at z;cases z
  ·rw[r1]at z;cases z;rw[zz]at l1 o1
   first
    |(simp only[AV.sl.injEq,xoi,AA.mk.injEq,and_true]at l1 o1;exact⟨l1.1.symm,o1.1.symm⟩)
    |(simp at l1)
    |(simp at l1 o1;exact⟨l1.1.symm,o1.1.symm⟩)
  ·rw[r1]at z;cases z;rw[zz]at l1 o1;simp only[AV.sl.injEq,xoi,AA.mk.injEq,and_true]at l1 o1;exact⟨l1.1.symm,o1.1.symm⟩
 obtain⟨rfl,rfl⟩:=eb;have eq2:b2=b1:=by
  have h1:=i1 .i64;have h2:=j1 .i64;rw[h1]at h2;simp only[xoi,AV.ptr.injEq,AA.mk.injEq,and_true]at h2;exact h2.symm
 subst eq2;have fx1:Fr M m1 F:=(f1.any F).step i4 (fun c hc=>.inl hc)
 have fx2:Fr M m2 F:=fx1.step j4 (fun c hc=>.inl hc)
 have fx3:Fr M m3 F:=fx2.step l4 (fun c hc=>.inl hc)
 have fx4:Fr M m4 F:=fx3.step o4 (fun c hc=>.inl hc)
 have n1:=f1.next
 have nm1:M1.get M.next=some (.cells nf.cells false):=by rw[hM1];exact q0e _ _
 have lF:∀c,c∈F->c<M.next:=fun c hc=>by have:=hF c hc;omega
 have nm4:=o4.get (l4.get (j4.get (i4.get nm1 (fun hc=>by have:=lF _ hc;omega)) (fun hc=>by have:=lF _ hc;omega)) (fun hc=>by have:=lF _ hc;omega)) (fun hc=>by have:=lF _ hc;omega)
 have nm3:=l4.get (j4.get (i4.get nm1 (fun hc=>by have:=lF _ hc;omega)) (fun hc=>by have:=lF _ hc;omega)) (fun hc=>by have:=lF _ hc;omega)
 have d0:ldN M (.ptr (some ⟨n,0⟩)) 2=some (.agg x.cells):=by rw[q1a hD (by simp[q0H])];rfl
 have d1:ldN M1 (.ptr (some ⟨n+3,0⟩)) 2=some (.agg nin.cells):=q0C (f1.get h3 (by simp)) rfl;have d2:ldN m1 (.ptr (some ⟨n+4,0⟩)) 2=some (.agg nout.cells):=q0C (fx1.get h4 (nF _ (by omega))) rfl;have d3:ldN m2 (.ptr (some ⟨n+5,0⟩)) 2=some (.agg nto.cells):=q0C (fx2.get h5 (nF _ (by omega))) rfl;have d4:ldN m3 (.ptr (some ⟨M.next,0⟩)) 2=some (.agg nf.cells):=q0C nm3 rfl
 have d5:ldN m4 (.ptr (some ⟨n+2,0⟩)) 3=some (.agg (q0H gw gs)):=q0C (fx4.get hG (nF _ (by omega))) rfl;have z4:=fx4.get hZ (nF _ (by omega));have s8:=q07 (n:=3) (v:=q0H gw gs) z4 rfl rfl rfl;have l8:ldN (m4.put (n+1) (some (.cells (q0H gw gs) false))) (.ptr (some ⟨n+1,0⟩)) 3=some (.agg (q0H gw gs)):=q0C (q0w z4) rfl;have a0:∀i:Nat,ld1 M (.ptr (some ⟨b,i⟩))=[sp,sq,sa,.int .u64 st.latest,.int .i64 st.most][i]?:=fun i=>q0f k1
 have a1:∀i:Nat,ld1 M1 (.ptr (some ⟨b,i⟩))=[sp,sq,sa,.int .u64 st.latest,.int .i64 st.most][i]?:=fun i=>q0f kb1
 have a2:∀i:Nat,ld1 m1 (.ptr (some ⟨b,i⟩))=[sp,sq,sa,.int .u64 st.latest,.int .i64 st.most][i]?:=fun i=>q0f kb2
 have a3:∀i:Nat,ld1 m2 (.ptr (some ⟨b,i⟩))=[sp,sq,sa,.int .u64 st.latest,.int .i64 st.most][i]?:=fun i=>q0f kb3
 have a4:∀i:Nat,ld1 m3 (.ptr (some ⟨b,i⟩))=[sp,sq,sa,.int .u64 st.latest,.int .i64 st.most][i]?:=fun i=>q0f kb4
 have s0:stV (M.lay (.cells [.int .i64 0,.int .u64 0] false)) (.ptr (some ⟨M.next,0⟩)) (.agg nf.cells) 2=some M1:=by rw[q07 (n:=2) (q0e M _) rfl rfl rfl,q03,hM1]
 have bal:=r5 M (Fr.refl M) 2 2 (by omega);refine⟨_,?_,o3.frame (Fr.put m4 (n+1) (some (.cells (q0H gw gs) false))) (fun c hc=>by simp only[xms];rintro rfl;exact nF _ (by omega) hc),((fx4.mono (T:=(n+1)::F) (by simp +contextual)).put' (.inl (by simp)))⟩
 simp only[q1k.cells,Wd.cells,q0H,List.drop_succ_cons,List.drop_zero,List.take_succ_cons,List.take_zero,List.length_cons,List.length_nil,xnz,Nat.reduceAdd]at bal d0 d1 d2 d3 d4 d5 s0 s8 l8 i2 j2 l2 o2 su⊢;simp only[j2B (H:=H23),T.a4k,p1,q1,p2,pB,nnA,q0l,q0S,q0V,q1b,a0,a1,a2,a3,a4,r3,r3',i1,bal,d0,su,s0,d1,d2,d3,d4,d5,i2,j2,l2,o2,s8,l8]
end
end
section
set_option maxRecDepth 4000
set_option maxHeartbeats 400000
open Go Go.Abs
theorem z1J (st:LSt) (i j:Int) (x:Wd) (s:Int):q2r st i j x s=(if (st.of i).2.2≠0 then (⟨0,0⟩,0,(st.of i).2.2,st) else if (st.of j).2.2≠0 then (⟨0,0⟩,0,(st.of j).2.2,st) else
  if (st.of i).2.1.name=(st.of j).2.1.name then (⟨0,0⟩,0,45,st) else match st.z9i ((st.of i).2.1.name++(st.of j).2.1.name) with|none=>(⟨0,0⟩,0,44,st)|some q=>z6A st (st.of i).1 (st.of i).2.1 (st.of j).1 (st.of j).2.1 q x s):=rfl
section
variable {m:Mem} {b:Nat} {st:LSt} {F:List Nat}
theorem z2g (h:q0G m b st F) (w:LWf st) (i j:Int) {x:Wd} (hx:x.ok) (s:Int) :
  ∃m',run E23 (.fn 34) [.ptr (some ⟨b,0⟩),.int .u64 i,.int .u64 j,.agg (q0H x s)] m=some (.tup [.agg (q0H (q2r st i j x s).1 (q2r st i j x s).2.1),.int .i64 (q2r st i j x s).2.2.1],m')/\q0G m' b (q2r st i j x s).2.2.2 F/\Fr m m' F:=by
 have hF:=h.lt;obtain⟨M,hM⟩:∃M,M=(m.lay (.cells (q0H x s) false)).lay (.cells z3 false):=⟨_,rfl⟩;have fM:Fr m M []:=by rw[hM];(repeat apply Fr.lays);exact Fr.refl _
 have hR:=h.q0k fM;have hD:M.get m.next=some (.cells (q0H x s) false):=by rw[hM];simp only[Mem.q0E,Mem.q0q,nn1,if_true,if_false]
 have hZ:M.get (m.next+1)=some (.cells z3 false):=by rw[hM];simp[Mem.q0E]
 have nM:M.next=m.next+1+1:=by rw[hM];rfl
 have gi:=z2a (H:=H23) rfl hR (by have:=w.la;omega) i M (Fr.refl _);have gj:=z2a (H:=H23) rfl hR (by have:=w.la;omega) j M (Fr.refl _);have none_idx:∀id,st.q7S id=none->q3t (fun p:q1k=>decide (p.id=id)) st.q0j 0=-1:=by
  intro id hn;apply z04 w;cases hk:q0Y q0p id (st.q0j.map (·.id)) with
  |false=>rfl
  |true=>obtain⟨a,a1,_⟩:=LSt.q1x hk;rw[hn]at a1;cases a1
 have cm:=dt (show (-1:Int)<0 by omega);have er:∀{M':Mem},M'.get (m.next+1)=some (.cells z3 false)->stV M' (.ptr (some ⟨m.next+1,0⟩)) (.agg z3) 3=some (M'.put (m.next+1) (some (.cells z3 false)))/\ldN (M'.put (m.next+1) (some (.cells z3 false))) (.ptr (some ⟨m.next+1,0⟩)) 3=some (.agg z3):=
  fun hz=>⟨q07 (n:=3) hz rfl rfl rfl,q0C (q0w hz) rfl⟩
 have done:∀{M':Mem} {c:Int},Fr m M' []->∃m',some (AV.tup [.agg z3,.int .i64 c],M'.put (m.next+1) (some (.cells z3 false)))=some (AV.tup [.agg (q0H ⟨0,0⟩ 0),.int .i64 c],m')/\q0G m' b st F/\Fr m m' F:=fun {M' c} hf=>
  ⟨_,rfl,h.frame (hf.put' (S:=[]) (b:=m.next+1) (.inr (by omega))) (by simp),(hf.put' (.inr (by omega))).any F⟩
 obtain⟨es,el⟩:=er hZ;simp only[z3]at es el done hM;simp only[q0H]at hM;rw[z1J];simp only[z3,q0H]at *;rcases LSt.q1D w i with ⟨e,hn⟩|⟨a,p,e,g1,g2,hid,hka,hpn,hkp,ma,mp⟩
 ·rw[none_idx i hn]at gi;rw[e];simp only[ne_eq,show ¬(40:Int)=0 by omega,not_false_eq_true,if_true];simp only[z2E (H:=H23) rfl,T.f34,pB,p2,p1,q0n,AV.cells,q0N,q0b,ifV,q0S,q0V,q0B,AV.one,lcs,Mem.q0q,<-hM,gi,gj,cm,es,el];exact done fM
 ·rw[z2i w hka]at gi;have ci:=df (show ¬((st.iA i:Nat):Int)<0 by omega);rw[e];rcases LSt.q1D w j with ⟨e',hn⟩|⟨a',p',e',g1',g2',hid',hka',hpn',hkp',ma',mp'⟩
  ·rw[none_idx j hn]at gj;rw[e'];simp only[ne_eq,not_true_eq_false,if_false,show ¬(40:Int)=0 by omega,not_false_eq_true,if_true];simp only[z2E (H:=H23) rfl,T.f34,pB,p2,p1,q0n,AV.cells,q0N,q0b,ifV,q0S,q0V,q0B,AV.one,lcs,Mem.q0q,<-hM,gi,gj,ci,cm,es,el];exact done fM
  ·rw[z2i w hka']at gj;have cj:=df (show ¬((st.iA j:Nat):Int)<0 by omega);rw[e'];obtain⟨sp,sq,sa,rp,rq,ra,k1,k2,k3,k4,k5⟩:=hR.ex;have a3:∀i:Nat,ld1 M (.ptr (some ⟨b,i⟩))=[sp,sq,sa,.int .u64 st.latest,.int .i64 st.most][i]?:=fun i=>q0f k1
   obtain⟨ea,uA1,uA2⟩:=uA;obtain⟨ba,r1,r2,r3,r4,r5⟩:=k4.reads uA1 uA2 (f:=q1k.cells) (i:=st.iA i) (by have:=(LSt.q1L g1).2;rw[hid]at this;exact this);obtain⟨ba',r1',r2',r3',r4',r5'⟩:=k4.reads uA1 uA2 (f:=q1k.cells) (i:=st.iA j) (by have:=(LSt.q1L g1').2;rw[hid']at this;exact this);have c0:=r4 M (Fr.refl _) 1 (by omega);have c0':=r4' M (Fr.refl _) 1 (by omega);simp only[ge,q1k.cells]at c0 c0'
   simp only[ne_eq,not_true_eq_false,if_false];rw[hpn,hpn'];by_cases hnn:a.q1C=a'.q1C
   ·rw[if_pos hnn];simp only[z2E (H:=H23) rfl,T.f34,pB,p2,p1,q0n,AV.cells,q0N,q0b,ifV,q0S,q0V,q0B,AV.one,lcs,Mem.q0q,<-hM,gi,gj,ci,cj];simp only[z3h (H:=H23),T.j8m,p1,q1,p2,q0n,nnA,q0b,q0S,q0V,q0T,a3,r3,r3',c0,c0',dt hnn,es,el];exact done fM
   ·rw[if_neg hnn];have sx:(st.q3k a.q1C).isSome=true:=by rw[g2];rfl
    have sy:(st.q3k a'.q1C).isSome=true:=by rw[g2'];rfl
    have gq:=a7s (H:=H23) rfl hR (by have:=w.lq;omega) a.q1C a'.q1C M (Fr.refl _);rw[a7n w sx sy]at gq;have l0:run E23 (.fn 34) [.ptr (some ⟨b,0⟩),.int .u64 i,.int .u64 j,.agg [.int .i64 x.hi,.int .u64 x.lo,.int .i64 s]] m=D23.gor 139265 [.ptr (some ⟨b,0⟩),.ptr (some ⟨m.next,0⟩),.ptr (some ⟨m.next+1,0⟩),.int .i64 ((st.iA i:Nat):Int),.int .i64 ((st.iA j:Nat):Int),.str a.q1C,.str a'.q1C] M:=by
     simp only[z2E (H:=H23) rfl,T.f34,pB,p2,p1,q0n,AV.cells,q0N,q0b,ifV,q0S,q0V,q0B,AV.one,lcs,Mem.q0q,<-hM,gi,gj,ci,cj];simp only[z3h (H:=H23),T.j8m,p1,q1,p2,q0n,nnA,q0b,q0S,q0V,q0T,a3,r3,r3',c0,c0',df hnn]
    rw[l0];clear l0 gi gj;cases hq:q0Y q0c (a.q1C++a'.q1C) (st.pairs.map (·.key)) with
    |false=>
     rw[if_neg (by rw[hq];decide)]at gq;rw[LSt.q61 hq];simp only[q47 (H:=H23),T.z4X,p2,p1,q0n,q0b,q0S,q0V,q0B,gq,cm,es,el];exact done fM
    |true=>
     rw[if_pos hq]at gq;obtain⟨q,q1,q2,q3,q4⟩:=LSt.q5a hq;rw[q1];dsimp only;have cq:=df (show ¬((st.iQ (a.q1C++a'.q1C):Nat):Int)<0 by omega);have ft:=j4z (H:=H23) rfl hR w g2 hx s M (Fr.refl _);have lD:ldN M (.ptr (some ⟨m.next,0⟩)) 3=some (.agg (q0H x s)):=q0C hD rfl
     have lD2:ldN M (.ptr (some ⟨m.next,0⟩)) 2=some (.agg x.cells):=by rw[q1a hD (by simp)];rfl
     simp only[q0H,Wd.cells]at lD lD2 ft;unfold z6A;obtain⟨fe,hfe⟩:∃fe,fe=q2t p x s:=⟨_,rfl⟩;rw[<-hfe]at ft⊢;by_cases f0:fe=0
     ·subst f0;rw[if_neg (by simp)];have xpos:=(q4Y hfe.symm).2;have po:=q9u (H:=H23) rfl (w.oka a ma).1 hx M;have hsl:=j0K (a.bal.val-x.val);have b0:=r5 M (Fr.refl _) 2 2 (by omega);simp only[q1k.cells,List.drop_succ_cons,List.drop_zero,List.take_succ_cons,List.take_zero]at b0;simp only[Wd.cells]at po;by_cases hpr:a.bal.val<x.val
      ·rw[if_pos hpr];rw[dt (show a.bal.val-x.val<0 by omega)]at hsl;simp only[q47 (H:=H23),T.z4X,p2,p1,q0n,q0b,q0S,q0V,q0B,gq,cq];simp only[q6m (H:=H23),T.z8S,p2,p1,q0n,q0b,q0S,q0V,q0B,lD,ft,decide_true,xbt];simp only[q8S (H:=H23),T.j2A,p1,p2,q0n,nnA,q0b,q0S,q0V,q0T,a3,r3,b0,lD2,po,hsl,es,el]
       exact done fM
      ·rw[if_neg hpr];rw[df (show ¬a.bal.val-x.val<0 by omega)]at hsl;have efx:q0M (a.bal.val-x.val)=true:=by
        have h2:=Wd.q6C (w.oka a ma).1;unfold q0M at h2⊢;simp only[Bool.and_eq_true,decide_eq_true_eq]at h2⊢;omega
       obtain⟨eq',uQ1,uQ2⟩:=uQ;obtain⟨eP,uP1,uP2⟩:=uP;obtain⟨bq,t1,t2,t3,t4,t5⟩:=k3.reads uQ1 uQ2 (f:=q0D.cells) (i:=st.iQ (a.q1C++a'.q1C)) q3;have gp:=q9z (H:=H23) rfl hR (by have:=w.lp;omega) a'.q1C M (Fr.refl _);rw[q9w w (by rw[<-hpn'];exact hkp')]at gp;have gpa:=(LSt.z1T g2').2;rw[hpn']at gpa;obtain⟨bp,v1,v2,v3,v4,v5⟩:=k2.reads uP1 uP2 (f:=q0r.cells) gpa;have w0:=v4 M (Fr.refl _) 1 (by omega)
       have t0:=t5 M (Fr.refl _) 2 3 (by omega);simp only[ge,q0r.cells,q0D.cells,List.drop_succ_cons,List.drop_zero,List.take_succ_cons,List.take_zero]at w0 t0;have okq:=w.okq q q4;have cr:=j0j (H:=H23) rfl hx okq.1 s q.q06 p'.scale M;have crok:=z6C x s q.rate q.q06 p'.scale;obtain⟨cd,hcd⟩:∃cd,cd=q2o x s q.rate q.q06 p'.scale:=⟨_,rfl⟩;rw[<-hcd]at cr crok⊢;obtain⟨gw,gs,ge'⟩:=cd
       obtain⟨M3,hM3⟩:∃M3,M3=M.lay (.cells (q0H gw gs) false):=⟨_,rfl⟩;have f3:Fr M M3 []:=by rw[hM3];exact(Fr.refl M).lay _
       have s3:stV (M.lay (.cells [.int .i64 0,.int .u64 0,.int .i64 0] false)) (.ptr (some ⟨M.next,0⟩)) (.agg (q0H gw gs)) 3=some M3:=by rw[q07 (n:=3) (q0e M _) rfl rfl rfl,q03,hM3]
       obtain⟨es3,el3⟩:=er (f3.get hZ (by simp));simp only[q0H]at cr s3 crok
       try dsimp only
       by_cases hge:ge'=0
       ·subst hge;rw[if_neg (by simp)];have n3:M3.next=m.next+1+1+1:=by rw[hM3];show M.next+1=_;rw[nM]
        have hG:M3.get (m.next+2)=some (.cells (q0H gw gs) false):=by rw[hM3,show m.next+2=M.next by omega];exact q0e _ _
        have a33:∀i:Nat,ld1 M3 (.ptr (some ⟨b,i⟩))=[sp,sq,sa,.int .u64 st.latest,.int .i64 st.most][i]?:=fun i=>q0f (f3.get k1 (by simp))
        obtain⟨nin,hnin⟩:∃nin,nin=(Wd.res (q.inx.val+x.val)).1:=⟨_,rfl⟩;obtain⟨nout,hnout⟩:∃nout,nout=(Wd.res (q.q1H.val-gw.val)).1:=⟨_,rfl⟩;obtain⟨nto,hnto⟩:∃nto,nto=(Wd.res (a'.bal.val+gw.val)).1:=⟨_,rfl⟩;have y1:=fun m=>q5m (H:=H23) rfl okq.2.2.1 hx m
        have y2:=fun m=>q5p (H:=H23) rfl okq.2.2.2.1 crok m
        have y3:=fun m=>q5m (H:=H23) rfl (w.oka a' ma').1 crok m
        have d1:=q3B (n:=q.inx.val+x.val);have d2:=q3B (n:=q.q1H.val-gw.val);have d3:=q3B (n:=a'.bal.val+gw.val);rw[<-hnin]at y1;rw[<-hnout]at y2;rw[<-hnto]at y3;obtain⟨M4,hM4⟩:∃M4,M4=M3.lay (.cells nin.cells false):=⟨_,rfl⟩;obtain⟨M5,hM5⟩:∃M5,M5=M4.lay (.cells nout.cells false):=⟨_,rfl⟩;obtain⟨M6,hM6⟩:∃M6,M6=M5.lay (.cells nto.cells false):=⟨_,rfl⟩;have g4:Fr M3 M4 []:=by rw[hM4];exact(Fr.refl _).lay _
        have g5:Fr M4 M5 []:=by rw[hM5];exact(Fr.refl _).lay _
        have g6:Fr M5 M6 []:=by rw[hM6];exact(Fr.refl _).lay _
        have n4:M4.next=m.next+4:=by rw[hM4];show M3.next+1=_;omega
        have n5:M5.next=m.next+5:=by rw[hM5];show M4.next+1=_;omega
        have s4:stV (M3.lay (.cells [.int .i64 0,.int .u64 0] false)) (.ptr (some ⟨M3.next,0⟩)) (.agg nin.cells) 2=some M4:=by rw[q07 (n:=2) (q0e M3 _) rfl rfl rfl,q03,hM4]
        have s5:stV (M4.lay (.cells [.int .i64 0,.int .u64 0] false)) (.ptr (some ⟨M4.next,0⟩)) (.agg nout.cells) 2=some M5:=by rw[q07 (n:=2) (q0e M4 _) rfl rfl rfl,q03,hM5]
        have s6:stV (M5.lay (.cells [.int .i64 0,.int .u64 0] false)) (.ptr (some ⟨M5.next,0⟩)) (.agg nto.cells) 2=some M6:=by rw[q07 (n:=2) (q0e M5 _) rfl rfl rfl,q03,hM6]
        have F4:=f3.step0 g4;have F5:=F4.step0 g5;have F6:=F5.step0 g6;have G6:Fr M3 M6 []:=(g4.step0 g5).step0 g6;obtain⟨es6,el6⟩:=er (F6.get hZ (by simp));have u1:=t5 M3 f3 5 2 (by omega);have u2:=t5 M4 F4 7 2 (by omega);have u3:=r5' M5 F5 2 2 (by omega);simp only[q1k.cells,q0D.cells,List.drop_succ_cons,List.drop_zero,List.take_succ_cons,List.take_zero]at u1 u2 u3;have a34:∀i:Nat,ld1 M4 (.ptr (some ⟨b,i⟩))=[sp,sq,sa,.int .u64 st.latest,.int .i64 st.most][i]?:=fun i=>q0f (F4.get k1 (by simp))
        have a35:∀i:Nat,ld1 M5 (.ptr (some ⟨b,i⟩))=[sp,sq,sa,.int .u64 st.latest,.int .i64 st.most][i]?:=fun i=>q0f (F5.get k1 (by simp))
        have e3:ldN M3 (.ptr (some ⟨m.next,0⟩)) 2=some (.agg x.cells):=by rw[q1a (f3.get hD (by simp)) (by simp)];rfl
        have e4:ldN M4 (.ptr (some ⟨m.next+2,0⟩)) 2=some (.agg gw.cells):=by rw[q1a (g4.get hG (by simp)) (by simp[q0H])];rfl
        have e5:ldN M5 (.ptr (some ⟨m.next+2,0⟩)) 2=some (.agg gw.cells):=by rw[q1a ((g4.step0 g5).get hG (by simp)) (by simp[q0H])];rfl
        have mn:M.next=m.next+2:=by omega
        rw[mn]at s3;have st5:∀v:Bool,(q0M (q.inx.val+x.val)&&(q0M (q.q1H.val-gw.val)&&q0M (a'.bal.val+gw.val)))=v->D23.gor 139269 [.ptr (some ⟨b,0⟩),.ptr (some ⟨m.next,0⟩),.ptr (some ⟨m.next+1,0⟩),.int .i64 ((st.iA i:Nat):Int),.int .i64 ((st.iA j:Nat):Int),.int .i64 ((st.iQ (a.q1C++a'.q1C):Nat):Int),.ptr (some ⟨m.next+2,0⟩)] M3 =
          if v=true then D23.gor 139270 [.ptr (some ⟨b,0⟩),.ptr (some ⟨m.next,0⟩),.ptr (some ⟨m.next+1,0⟩),.int .i64 ((st.iA i:Nat):Int),.int .i64 ((st.iA j:Nat):Int),.int .i64 ((st.iQ (a.q1C++a'.q1C):Nat):Int),.ptr (some ⟨m.next+2,0⟩),.ptr (some ⟨M3.next,0⟩),.ptr (some ⟨M4.next,0⟩),.ptr (some ⟨M5.next,0⟩)] M6
          else some (.tup [.agg [.int .i64 0,.int .u64 0,.int .i64 0],.int .i64 20],M6.put (m.next+1) (some (.cells [.int .i64 0,.int .u64 0,.int .i64 0] false))):=by
         intro v hv;simp only[Wd.cells]at y1 y2 y3 s4 s5 s6 e3 e4 e5;cases h1:q0M (q.inx.val+x.val) with
         |false=>
          rw[h1]at d1 hv;rw[Bool.false_and]at hv;subst hv;simp only[q6n (H:=H23),T.z8T,p1,p2,pB,q0n,nnA,q0l,q0b,ifV,q0S,q0V,q0T,a33,a34,a35,t3,r3',u1,u2,u3,e3,e4,e5,y1,y2,y3,s4,s5,s6,d1,xbf,es6,el6,xbq,if_false]
         |true=>
          rw[h1]at d1 hv;rw[Bool.true_and]at hv;cases h2:q0M (q.q1H.val-gw.val) with
          |false=>
           rw[h2]at d2 hv;rw[Bool.false_and]at hv;subst hv;simp only[q6n (H:=H23),T.z8T,p1,p2,pB,q0n,nnA,q0l,q0b,ifV,q0S,q0V,q0T,a33,a34,a35,t3,r3',u1,u2,u3,e3,e4,e5,y1,y2,y3,s4,s5,s6,d1,d2,xbt,xbf,es6,el6,xbq,if_false]
          |true=>
           rw[h2]at d2 hv;rw[Bool.true_and]at hv;rw[hv]at d3;cases v with
           |false=>simp only[q6n (H:=H23),T.z8T,p1,p2,pB,q0n,nnA,q0l,q0b,ifV,q0S,q0V,q0T,a33,a34,a35,t3,r3',u1,u2,u3,e3,e4,e5,y1,y2,y3,s4,s5,s6,d1,d2,d3,xbt,xbf,es6,el6,xbq,if_false]
           |true=>simp only[q6n (H:=H23),T.z8T,p1,p2,pB,q0n,nnA,q0l,q0b,ifV,q0S,q0V,q0T,a33,a34,a35,t3,r3',u1,u2,u3,e3,e4,e5,y1,y2,y3,s4,s5,s6,d1,d2,d3,xbt]
        simp only[q47 (H:=H23),T.z4X,p2,p1,q0n,q0b,q0S,q0V,q0B,gq,cq];simp only[q6m (H:=H23),T.z8S,p2,p1,q0n,q0b,q0S,q0V,q0B,lD,ft,decide_true,xbt];simp only[q8S (H:=H23),T.j2A,p1,p2,q0n,nnA,q0b,q0S,q0V,q0T,a3,r3,b0,lD2,po,hsl]
        simp only[z3i (H:=H23),T.j8n,p1,p2,pB,q0n,nnA,q0l,q0b,q0S,q0V,q0T,lD,a3,t3,t0,gp,v3,w0,cr,s3,decide_true,xbt,mn];rw[st5 _ rfl];cases hv:(q0M (q.inx.val+x.val)&&(q0M (q.q1H.val-gw.val)&&q0M (a'.bal.val+gw.val))) with
        |false=>
         rw[if_neg (by simp),if_pos (by unfold q3Y;rw[efx,Bool.true_and];revert hv;cases q0M (q.inx.val+x.val)<;>cases q0M (q.q1H.val-gw.val)<;>cases q0M (a'.bal.val+gw.val)<;>simp)];exact done (fM.step0 F6)
        |true=>
         simp only[Bool.and_eq_true]at hv;rw[if_pos rfl,if_neg (by unfold q3Y;rw[efx,hv.1,hv.2.1,hv.2.2];simp)];rw[q1u hv.1]at hnin;rw[q1u hv.2.1]at hnout;rw[q1u hv.2.2]at hnto;have hij:i≠j:=fun h=>hnn (by rw[h,g1']at g1;cases g1;rfl)
         have p3:M6.get (m.next+3)=some (.cells nin.cells false):=(g5.step0 g6).get (by rw[hM4,show m.next+3=M3.next by omega];exact q0e _ _) (by simp)
         have p4:M6.get (m.next+4)=some (.cells nout.cells false):=g6.get (by rw[hM5,show m.next+4=M4.next by omega];exact q0e _ _) (by simp)
         have p5:M6.get (m.next+5)=some (.cells nto.cells false):=by rw[hM6,show m.next+5=M5.next by omega];exact q0e _ _
         obtain⟨m',o1,o2,o3⟩:=j0i (hR.q0k F6) hF g1 g1' hij q1 (w.oka a ma).1 hx (s:=s) efx (F6.get hD (by simp)) (F6.get hZ (by simp)) (G6.get hG (by simp)) p3 p4 p5;rw[show M3.next=m.next+3 by omega,n4,n5,o1]
         simp only[hnin,hnout,hnto]at o2;refine⟨m',rfl,o2,((fM.step0 F6).any F).step o3 (fun c hc=>?_)⟩
         simp only[xmk0]at hc;rcases hc with rfl|hc
         ·exact .inr (by omega)
         ·exact .inl hc
       ·rw[if_pos hge];simp only[q47 (H:=H23),T.z4X,p2,p1,q0n,q0b,q0S,q0V,q0B,gq,cq];simp only[q6m (H:=H23),T.z8S,p2,p1,q0n,q0b,q0S,q0V,q0B,lD,ft,decide_true,xbt];simp only[q8S (H:=H23),T.j2A,p1,p2,q0n,nnA,q0b,q0S,q0V,q0T,a3,r3,b0,lD2,po,hsl]
        simp only[z3i (H:=H23),T.j8n,p1,p2,pB,q0n,nnA,q0l,q0b,q0S,q0V,q0T,lD,a3,t3,t0,gp,v3,w0,cr,s3,df hge,xbf,es3,el3];exact done (fM.step0 f3)
     ·rw[if_pos f0];simp only[q47 (H:=H23),T.z4X,p2,p1,q0n,q0b,q0S,q0V,q0B,gq,cq];simp only[q6m (H:=H23),T.z8S,p2,p1,q0n,q0b,q0S,q0V,q0B,lD,ft,df f0,xbf,es,el];exact done fM
end
end
noncomputable section
set_option maxRecDepth 4000
open Go Go.Abs
theorem j4g (m:Mem) (k:Int) {n:Int} (h0:0<n) (h1:n<=4611686018427387904):run E23 (.fn 10) [.int .i64 k,.int .i64 n] m=some (.int .i64 (k % n),m):=by
 have e:k.tmod n=if 0<=k then k % n else if k % n=0 then 0 else k % n-n:=by
  rw[Int.tmod_eq_emod];split
  ·rename_i h;rcases h with h|h
   ·rw[if_pos h];omega
   ·by_cases h2:0<=k
    ·rw[if_pos h2];omega
    ·rw[if_neg h2,if_pos (Int.emod_eq_zero_of_dvd h),Int.emod_eq_zero_of_dvd h];omega
  ·rename_i h;rw[if_neg (fun h2=>h (.inl h2))]
   have:¬k % n=0:=fun h2=>h (.inr (Int.dvd_of_emod_eq_zero h2))
   rw[if_neg this];have:=Int.natAbs_of_nonneg (show 0<=n by omega);omega
 have p0:=Int.emod_nonneg k (show n≠0 by omega);have p1:=Int.emod_lt_of_pos k h0;simp only[a1C (H:=H23) rfl,T.f10,p2,q0b,wp,q27 _ _ _ _ (show n≠0 by omega)];by_cases hn:k.tmod n<0
 ·simp only[dt hn,z2K (H:=H23),T.j73,wp];have e2:k.tmod n+n=k % n:=by
   rw[e]at hn⊢;split at hn
   ·omega
   ·split at hn
    ·omega
    ·rename_i g1 g2;rw[if_neg g1,if_neg g2];omega
  rw[e2,wrap_i64 (by omega) (by omega)]
 ·simp only[df hn,z2K (H:=H23),T.j73,wp];have e2:k.tmod n=k % n:=by
   rw[e]at hn⊢;split at hn
   ·rename_i g1;rw[if_pos g1]
   ·split at hn
    ·rename_i g1 g2;rw[if_neg g1,if_pos g2,g2]
    ·omega
  rw[e2]
def S24:List FuncId:=[10]
def R24:List FuncId:=[34]
def H24:FuncId->Option (List AV->Mem->R):=q33 E23 S24 R24
abbrev E24:Env:=T.EH H24
theorem a1e:q1i E24:=q2v a1d S24 R24
theorem a8X {H:FuncId->Option (List AV->Mem->R)} {f:FuncId} (h:H f=some (run E23 (.fn f))) (xs:List AV) (m:Mem):run (T.EH H) (.fn f) xs m=run E23 (.fn f) xs m:=q00 h xs m
theorem q0Z {H:FuncId->Option (List AV->Mem->R)} (h:H 10=some (q0x E23 10)) (m:Mem) (k:Int) {n:Int} (h0:0<n) (h1:n<=4611686018427387904):run (T.EH H) (.fn 10) [.int .i64 k,.int .i64 n] m=some (.int .i64 (k % n),m):=
 q0s h (by simp[AV.flat,AV.lt]) fun m2 _ _=>⟨m2,j4g m2 k h0 h1,Fr.refl _⟩
def q1G (n:Int):Wd×Int:=
 if (n.tdiv 7) % 24=0 then (⟨0,n % 5000⟩,(n.tdiv 13) % 19) else if (n.tdiv 7) % 24=1 then (⟨9223372036854775807,18446744073709551615⟩,2) else
 if (n.tdiv 7) % 24=2 then (⟨-1,18446744073709551615⟩,2) else if (n.tdiv 7) % 24=3 then (⟨n % 4611686018427387904,n % 5000⟩,2) else (⟨0,n % 5000⟩,2)
theorem q7J (n:Int):(q1G n).1.ok:=by
 unfold q1G Wd.ok
 (repeat' split)<;>(simp only;omega)
theorem q8f {n k:Int} (h1:-9223372036854775808<=n) (h2:n<9223372036854775808) (hk:2<=k):IntKind.wrap .i64 (n.tdiv k)=n.tdiv k:=by
 have h3:(n.tdiv k).natAbs<=n.natAbs:=by
  rw[Int.natAbs_tdiv];exact Nat.div_le_self _ _
 have h4:(n.tdiv k).natAbs<=n.natAbs / 2:=by
  rw[Int.natAbs_tdiv];exact Nat.div_le_div_left (by omega) (by omega)
 exact wrap_i64 (by omega) (by omega)
theorem a1p {n:Int} (h1:-9223372036854775808<=n) (h2:n<9223372036854775808) (m:Mem):Res m (run E24 (.fn 26) [.int .i64 n] m) (.agg (q0H (q1G n).1 (q1G n).2)):=by
 have p1:=fun m=>q0Z (H:=H24) rfl m n (n:=5000) (by omega) (by omega)
 have p2:=fun m=>q0Z (H:=H24) rfl m (n.tdiv 7) (n:=24) (by omega) (by omega)
 have p3:=fun m=>q0Z (H:=H24) rfl m (n.tdiv 13) (n:=19) (by omega) (by omega)
 have p4:=fun m=>q0Z (H:=H24) rfl m n (n:=4611686018427387904) (by omega) (by omega)
 have q7:=q26 (P:=Tryz.prog) 3 .i64 n 7 (by omega);have q13:=q26 (P:=Tryz.prog) 3 .i64 n 13 (by omega);rw[q8f h1 h2 (by omega)]at q7 q13;have wl:IntKind.wrap .u64 (n % 5000)=n % 5000:=wrap_u64 (by omega) (by omega);unfold q1G;obtain⟨k,hk⟩:∃k,k=(n.tdiv 7) % 24:=⟨_,rfl⟩;rw[<-hk]at p2⊢;by_cases k0:k=0
 ·rw[if_pos k0];simp only[q94 (H:=H24) rfl,T.f26,pB,p1,p2,q0n,AV.cells,Nat.reduceAdd,Nat.reduceLeDiff,q0b,q0T,AV.one,over,lcl,p3,p4,q7,q13,wl,dt k0,q0H];simp only[q44 (H:=H24),T.z4U,q1,q0S,q0V,wp,AV.one,over,AV.cells,Nat.reduceAdd,Nat.reduceLeDiff,lcl];refine Res.eq ?_ rfl
  (repeat apply Fr.lays)
  exact Fr.refl _
 ·rw[if_neg k0];by_cases k1:k=1
  ·rw[if_pos k1];simp only[q94 (H:=H24) rfl,T.f26,pB,p1,p2,q0n,AV.cells,Nat.reduceAdd,Nat.reduceLeDiff,q0b,q0T,AV.one,over,lcl,p3,p4,q7,q13,wl,df k0,dt k1,q0H];simp only[q44 (H:=H24),T.z4U,q1,q0S,q0V,wp,AV.one,over,AV.cells,Nat.reduceAdd,Nat.reduceLeDiff,lcl];refine Res.eq ?_ rfl
   (repeat apply Fr.lays)
   exact Fr.refl _
  ·rw[if_neg k1];by_cases k2:k=2
   ·rw[if_pos k2];simp only[q94 (H:=H24) rfl,T.f26,pB,p1,p2,q0n,AV.cells,Nat.reduceAdd,Nat.reduceLeDiff,q0b,q0T,AV.one,over,lcl,p3,p4,q7,q13,wl,df k0,df k1,dt k2,q0H];simp only[q44 (H:=H24),T.z4U,q1,q0S,q0V,wp,AV.one,over,AV.cells,Nat.reduceAdd,Nat.reduceLeDiff,lcl];refine Res.eq ?_ rfl
    (repeat apply Fr.lays)
    exact Fr.refl _
   ·rw[if_neg k2];by_cases k3:k=3
    ·rw[if_pos k3];simp only[q94 (H:=H24) rfl,T.f26,pB,p1,p2,q0n,AV.cells,Nat.reduceAdd,Nat.reduceLeDiff,q0b,q0T,AV.one,over,lcl,p3,p4,q7,q13,wl,df k0,df k1,df k2,dt k3,q0H];simp only[q44 (H:=H24),T.z4U,q1,q0S,q0V,wp,AV.one,over,AV.cells,Nat.reduceAdd,Nat.reduceLeDiff,lcl];refine Res.eq ?_ rfl
     (repeat apply Fr.lays)
     exact Fr.refl _
    ·rw[if_neg k3];simp only[q94 (H:=H24) rfl,T.f26,pB,p1,p2,q0n,AV.cells,Nat.reduceAdd,Nat.reduceLeDiff,q0b,q0T,AV.one,over,lcl,p3,p4,q7,q13,wl,df k0,df k1,df k2,df k3,q0H];simp only[q44 (H:=H24),T.z4U,q1,q0S,q0V,wp,AV.one,over,AV.cells,Nat.reduceAdd,Nat.reduceLeDiff,lcl];refine Res.eq ?_ rfl
     (repeat apply Fr.lays)
     exact Fr.refl _
def S25:List FuncId:=[26]
def H25:FuncId->Option (List AV->Mem->R):=q1y E24 S25
abbrev E25:Env:=T.EH H25
theorem a1f:q1i E25:=q0Q a1e S25
theorem z6e {H:FuncId->Option (List AV->Mem->R)} (h:H 26=some (q0x E24 26)) {n:Int} (h1:-9223372036854775808<=n) (h2:n<9223372036854775808) (m:Mem):run (T.EH H) (.fn 26) [.int .i64 n] m=some (.agg (q0H (q1G n).1 (q1G n).2),m):=
 q0s h (by simp[AV.flat,AV.lt,AV.lts,q0H]) fun m2 _ _=>a1p h1 h2 m2
theorem a3k {m:Mem} {b:Nat} {st:LSt} {F:List Nat} (h:q0G m b st F) (w:LWf st) (id:Int) {n:Int} (h1:-9223372036854775808<=n) (h2:n<9223372036854775808) :
  Res m (run E25 (.fn 30) [.ptr (some ⟨b,0⟩),.int .u64 id,.int .i64 n] m) (.agg (q0H (q1G n).1 (q2c st id).2.1)):=by
 have ba:=a8Y (H:=H25) rfl h w id;have am:=fun m=>z6e (H:=H25) rfl h1 h2 m
 have hb:b<m.next:=by obtain⟨_,_,_,e,_⟩:=h.v;exact Mem.q0v e
 simp only[q0H]at ba am⊢;simp (maxDischargeDepth:=20) only [a1L (H:=H25) rfl,T.f30,pB,p1,q1,q0l,q0S,q0V,Nat.reduceAdd,q1b,AV.one,over,AV.cells,Nat.reduceLeDiff,lcl,ba,am,frl,Fr.refl];refine Res.eq ?_ rfl
 (repeat apply Fr.lays)
 exact Fr.refl _
def S26:List FuncId:=[30]
def H26:FuncId->Option (List AV->Mem->R):=q1y E25 S26
abbrev E26:Env:=T.EH H26
theorem a1g:q1i E26:=q0Q a1f S26
abbrev D26:Do:=T.Rl H26
theorem a3j {H:FuncId->Option (List AV->Mem->R)} (hh:H 30=some (q0x E25 30)) {m:Mem} {b:Nat} {st:LSt} {F:List Nat} (h:q0G m b st F) (w:LWf st) (id:Int) {n:Int} (h1:-9223372036854775808<=n) (h2:n<9223372036854775808) (M:Mem) (hM:Fr m M []) :
  run (T.EH H) (.fn 30) [.ptr (some ⟨b,0⟩),.int .u64 id,.int .i64 n] M=some (.agg (q0H (q1G n).1 (q2c st id).2.1),M):=
 q0s hh (by simp[AV.flat,AV.lt,AV.lts,q0H]) fun m2 g1 g2=>a3k ((h.q0k hM).q0k (Fr.same g1 g2)) w id h1 h2
end
section
set_option maxRecDepth 8000
set_option maxHeartbeats 1000000
open Go Go.Abs
def z9T:List UInt8:=[69,85,82]
def z9U:List UInt8:=[74,80,89]
def z9V:List UInt8:=[85,83,68]
def z4M:List AV:=[.str z9T,.str z9U,.str z9V]
def q9X (k:Int):List UInt8:=if k=0 then z9T else if k=1 then z9U else z9V
theorem z6z {m:Mem} {cb:Nat} {ro:Bool} (h:m.get cb=some (.cells z4M ro)) {k:Int} (h0:0<=k) (h3:k<3):ixA 1 3 ⟨cb,0⟩ k=some (.ptr (some ⟨cb,k.toNat⟩))/\ld1 m (.ptr (some ⟨cb,k.toNat⟩))=some (.str (q9X k)):=by
 have:k=0\/k=1\/k=2:=by omega
 refine⟨by simp[ixA,h0,h3],?_⟩;rw[q0f h];rcases this with rfl|rfl|rfl<;>rfl
theorem z6y (k:Int):(q9X k).length=3:=by unfold q9X;(repeat' split)<;>rfl
theorem z4N (st:LSt) (n:List UInt8) (s:Int):(z1G st n s).2.most=st.most:=by unfold z1G;(repeat' split)<;>rfl
theorem q72 (st:LSt) (n:List UInt8):(z0U st n).2.2.most=st.most:=by unfold z0U;(repeat' split)<;>rfl
theorem q4T (st:LSt) (i:Int) (x:Wd) (s:Int):(q3p st i x s).2.most=st.most:=by unfold q3p;dsimp only;(repeat' split)<;>rfl
theorem q7G (st:LSt) (i:Int) (x:Wd) (s:Int):(q2M st i x s).2.most=st.most:=by unfold q2M;dsimp only;(repeat' split)<;>rfl
theorem q7F (st:LSt) (i j:Int) (x:Wd) (s:Int):(q2K st i j x s).2.most=st.most:=by unfold q2K;dsimp only;(repeat' split)<;>rfl
theorem z5v (st:LSt) (x y:List UInt8) (r:Wd) (s:Int):(z2d st x y r s).2.most=st.most:=by unfold z2d;(repeat' split)<;>rfl
theorem q8w (st:LSt) (i j:Int) (x:Wd) (s:Int):(q2r st i j x s).2.2.2.most=st.most:=by
 unfold q2r z6A;dsimp only
 (repeat' split)<;>first|rfl|(unfold LSt.q4N;rfl)
def i64 (n:Int):Prop:=-9223372036854775808<=n/\n<9223372036854775808
def j6L (a:Int×Int×Int×Int):List AV:=[.int .i64 a.1,.int .i64 a.2.1,.int .i64 a.2.2.1,.int .i64 a.2.2.2]
section
variable {M:Mem} {b:Nat} {st:LSt} {F:List Nat}
theorem z4J (h:q0G M b st F) (g:q3j st) {sl t4:AV} {i:Nat} {a:Int×Int×Int×Int} {bs o:Nat} (hco:∃ro,M.get 1=some (.cells z4M ro))
  (hix:q0F Tryz.prog 22 sl (.int .i64 (i:Int))=some (.ptr (some ⟨bs,o⟩))) (hld:ldN M (.ptr (some ⟨bs,o⟩)) 4=some (.agg (j6L a))) (hN:i64 a.2.2.2) :
  ∃M3 st' F',D26.gor 36865 [sl,t4,.ptr (some ⟨b,0⟩),.int .i64 (i:Int)] M=D26.gor 36866 [sl,t4,.ptr (some ⟨b,0⟩),.int .i64 (i:Int)] M3/\q0G M3 b st' F'/\q3j st'/\st'.most=st.most/\Fr M M3 F/\∀c,c∈F'->c∈F\/M.next<=c:=by
 obtain⟨w,A,B,N⟩:=a;obtain⟨ro,hco⟩:=hco;simp only[j6L]at hld hN;obtain⟨M2,hM2⟩:∃M2,M2=M.lay (.cells [.int .i64 w,.int .i64 A,.int .i64 B,.int .i64 N] false):=⟨_,rfl⟩;have f2:Fr M M2 []:=by rw[hM2];exact(Fr.refl M).lay _
 have s2:stV (M.lay (.cells [.int .i64 0,.int .i64 0,.int .i64 0,.int .i64 0] false)) (.ptr (some ⟨M.next,0⟩)) (.agg [.int .i64 w,.int .i64 A,.int .i64 B,.int .i64 N]) 4=some M2:=by rw[q07 (n:=4) (q0e M _) rfl rfl rfl,q03,hM2]
 have a2:∀i:Nat,ld1 M2 (.ptr (some ⟨M.next,i⟩))=[AV.int .i64 w,.int .i64 A,.int .i64 B,.int .i64 N][i]?:=fun i=>by rw[hM2];exact q0f (q0e M _)
 have hR:=h.q0k f2;have co:=f2.get hco (by simp);have pA5:=fun m=>q0Z (H:=H26) rfl m A (n:=5) (by omega) (by omega)
 have pB5:=fun m=>q0Z (H:=H26) rfl m B (n:=5) (by omega) (by omega)
 have pw:=fun m=>q0Z (H:=H26) rfl m w (n:=9) (by omega) (by omega)
 have pA3:=fun m=>q0Z (H:=H26) rfl m A (n:=3) (by omega) (by omega)
 have pB3:=fun m=>q0Z (H:=H26) rfl m B (n:=3) (by omega) (by omega)
 have pN4:=fun m=>q0Z (H:=H26) rfl m N (n:=4) (by omega) (by omega)
 obtain⟨iA,lA⟩:=z6z co (k:=A % 3) (by omega) (by omega);obtain⟨iB,lB⟩:=z6z co (k:=B % 3) (by omega) (by omega);have wA1:IntKind.wrap .i64 (1+A % 5)=1+A % 5:=wrap_i64 (by omega) (by omega);have wA2:IntKind.wrap .u64 (1+A % 5)=1+A % 5:=wrap_u64 (by omega) (by omega);have wB1:IntKind.wrap .i64 (1+B % 5)=1+B % 5:=wrap_i64 (by omega) (by omega);have wB2:IntKind.wrap .u64 (1+B % 5)=1+B % 5:=wrap_u64 (by omega) (by omega)
 have wN:IntKind.wrap .u64 (N % 4)=N % 4:=wrap_u64 (by omega) (by omega);have ft:=a3j (H:=H26) rfl hR g.w (1+A % 5) hN.1 hN.2 M2 (Fr.refl _);have am:=z6e (H:=H26) rfl hN.1 hN.2 M2;have dok:=q7J N;obtain⟨D,hD⟩:∃D,D=q1G N:=⟨_,rfl⟩;rw[<-hD]at ft am dok;obtain⟨s,hs⟩:∃s,s=(q2c st (1+A % 5)).2.1:=⟨_,rfl⟩;rw[<-hs]at ft;simp only[q0H]at ft am;obtain⟨k,hk⟩:∃k,k=w % 9:=⟨_,rfl⟩;have hk9:k=0\/k=1\/k=2\/k=3\/k=4\/k=5\/k=6\/k=7\/k=8:=by omega
 rw[<-hk]at pw;clear hk;have fin:∀{M3:Mem} {st':LSt} {F':List Nat},D26.gor 36865 [sl,t4,.ptr (some ⟨b,0⟩),.int .i64 (i:Int)] M=D26.gor 36866 [sl,t4,.ptr (some ⟨b,0⟩),.int .i64 (i:Int)] M3->q0G M3 b st' F'->q3j st'->st'.most=st.most->Fr M2 M3 F->(∀c,c∈F'->c∈F\/M2.next<=c)->
   ∃M3 st' F',D26.gor 36865 [sl,t4,.ptr (some ⟨b,0⟩),.int .i64 (i:Int)] M=D26.gor 36866 [sl,t4,.ptr (some ⟨b,0⟩),.int .i64 (i:Int)] M3/\q0G M3 b st' F'/\q3j st'/\st'.most=st.most/\Fr M M3 F/\∀c,c∈F'->c∈F\/M.next<=c:=fun {M3 st' F'} e1 e2 e3 e4 e5 e6=>
  ⟨M3,st',F',e1,e2,e3,e4,(f2.any F).step e5 (fun c hc=>.inl hc),fun c hc=>(e6 c hc).imp id (fun h=>xnt0 f2.next h)⟩
 rcases hk9 with rfl|rfl|rfl|rfl|rfl|rfl|rfl|rfl|rfl
 ·obtain⟨M3,F',c1,c2,c3,c4⟩:=j4x hR g.w (q9X (A % 3)) (by rw[z6y];omega) (scale:=N % 4) (by omega);have c1':=(z00 (H:=H26) (f:=27) rfl _ _).trans c1;refine fin ?_ c2 (z6w g _ (by omega)) (z4N _ _ _) c3 c4;simp only[q3s (H:=H26),T.j01,p2,q1,pB,p1,q0b,q0d,hix,hld,s2,a2,pA5,pB5,pw,wA1,wA2,wB1,wB2,pA3,iA,lA,pN4,wN,if_true,Int.reduceEq,decide_true,decide_false,c1']
 ·obtain⟨M3,F',c1,c2,c3,c4⟩:=z4q hR g.w (q9X (A % 3));have c1':=(z00 (H:=H26) (f:=28) rfl _ _).trans c1;refine fin ?_ c2 (z0V g _) (q72 _ _) c3 c4;simp only[q3s (H:=H26),T.j01,p2,q1,pB,p1,q0b,q0d,hix,hld,s2,a2,pA5,pB5,pw,wA1,wA2,wB1,wB2,pA3,iA,lA,if_true,Int.reduceEq,decide_true,decide_false,c1']
 ·obtain⟨M3,F',c1,c2,c3,c4⟩:=z4q hR g.w (q9X (A % 3));have c1':=(z00 (H:=H26) (f:=28) rfl _ _).trans c1;refine fin ?_ c2 (z0V g _) (q72 _ _) c3 c4;simp only[q3s (H:=H26),T.j01,p2,q1,pB,p1,q0b,q0d,hix,hld,s2,a2,pA5,pB5,pw,wA1,wA2,wB1,wB2,pA3,iA,lA,if_true,Int.reduceEq,decide_true,decide_false,c1']
 ·obtain⟨M3,c1,c2,c3⟩:=q7h hR g.w (1+A % 5) dok s;have c1':=(z00 (H:=H26) (f:=29) rfl _ _).trans c1;refine fin ?_ c2 (q5Y g _ _ _) (q4T _ _ _ _) c3 (fun c hc=>.inl hc)
  simp only[q0H]at c1';simp only[q3s (H:=H26),T.j01,p2,q1,pB,p1,q0b,q0d,hix,hld,s2,a2,pA5,pB5,pw,wA1,wA2,wB1,wB2,ft,Int.reduceEq,decide_true,decide_false,c1']
 ·obtain⟨M3,c1,c2,c3⟩:=q7h hR g.w (1+A % 5) dok s;have c1':=(z00 (H:=H26) (f:=29) rfl _ _).trans c1;refine fin ?_ c2 (q5Y g _ _ _) (q4T _ _ _ _) c3 (fun c hc=>.inl hc)
  simp only[q0H]at c1';simp only[q3s (H:=H26),T.j01,p2,q1,pB,p1,q0b,q0d,hix,hld,s2,a2,pA5,pB5,pw,wA1,wA2,wB1,wB2,ft,Int.reduceEq,decide_true,decide_false,c1']
 ·obtain⟨M3,c1,c2,c3⟩:=z1b hR g.w (1+A % 5) dok s;have c1':=(z00 (H:=H26) (f:=31) rfl _ _).trans c1;refine fin ?_ c2 (q9L g _ _ _) (q7G _ _ _ _) c3 (fun c hc=>.inl hc)
  simp only[q0H]at c1';simp only[q3s (H:=H26),T.j01,p2,q1,pB,p1,q0b,q0d,hix,hld,s2,a2,pA5,pB5,pw,wA1,wA2,wB1,wB2,ft,Int.reduceEq,decide_true,decide_false,c1']
 ·obtain⟨M3,c1,c2,c3⟩:=z09 hR g.w (1+A % 5) (1+B % 5) dok s;have c1':=(z00 (H:=H26) (f:=32) rfl _ _).trans c1;refine fin ?_ c2 (q9J g _ _ _ _) (q7F _ _ _ _ _) c3 (fun c hc=>.inl hc)
  simp only[q0H]at c1';simp only[q3s (H:=H26),T.j01,p2,q1,pB,p1,q0b,q0d,hix,hld,s2,a2,pA5,pB5,pw,wA1,wA2,wB1,wB2,ft,Int.reduceEq,decide_true,decide_false,c1']
 ·obtain⟨M3,F',c1,c2,c3,c4⟩:=a7t hR g.toLGood (q9X (A % 3)) (q9X (B % 3)) dok D.2;have c1':=(z00 (H:=H26) (f:=33) rfl _ _).trans c1;refine fin ?_ c2 (j0e g _ _ dok _) (z5v _ _ _ _ _) c3 c4;simp only[q0H]at c1';simp only[q3s (H:=H26),T.j01,p2,q1,pB,p1,q0b,q0d,hix,hld,s2,a2,pA5,pB5,pw,wA1,wA2,wB1,wB2,pA3,pB3,iA,lA,iB,lB,am,if_true,Int.reduceEq,decide_true,decide_false,c1']
 ·obtain⟨M3,c1,c2,c3⟩:=z2g hR g.w (1+A % 5) (1+B % 5) dok s;have c1':=(a8X (H:=H26) (f:=34) rfl _ _).trans c1;refine fin ?_ c2 (q9Y g _ _ _ _) (q8w _ _ _ _ _) c3 (fun c hc=>.inl hc)
  simp only[q0H]at c1';simp only[q3s (H:=H26),T.j01,p2,q1,pB,p1,q0b,q0d,hix,hld,s2,a2,pA5,pB5,pw,wA1,wA2,wB1,wB2,ft,Int.reduceEq,decide_false,c1']
end
end
end Go.Proofs.YtlginbmjiecglaaGreatDoor
namespace Go.Abs
section
open Go
def z5U (n:Nat) (m:Mem) (s:AV) (l:List (List AV)):Prop:=q3K n m s l\/(l=[]/\∃a sz cap ex,s=.sl a sz 0 cap ex)
section
variable {P:Program} {t e:TypeId} {n:Nat} {m m':Mem} {s:AV} {l:List (List AV)}
theorem z5U.q0k (h:z5U n m s l) (hf:Fr m m' []):z5U n m' s l:=h.imp (fun h=>h.q0k hf) id
theorem z5U.q1M (ht:P.underlying t=some (.slice e)) (h:z5U n m s l):q1M P t s=some (.int .i64 (l.length:Int)):=by
 rcases h with h|⟨rfl,a,sz,cap,ex,rfl⟩
 ·exact h.q1M ht
 ·exact z0L ht ..
theorem z5U.ixT (ht:P.underlying t=some (.slice e)) (hs:szT P e=some n) (h:z5U n m s l) {i:Nat} (hi:i<l.length) :
  ∃b o,b<m.next/\(∀k:IntKind,q0F P t s (.int k (i:Int))=some (.ptr (some ⟨b,o⟩)))/\(∀k,k<n->ld1 m (.ptr (some ⟨b,o+k⟩))=l[i][k]?)/\(∀k j,k+j<=n->ldN m (.ptr (some ⟨b,o+k⟩)) j=some (.agg ((l[i].drop k).take j)))/\ldN m (.ptr (some ⟨b,o⟩)) n=some (.agg l[i]):=by
 rcases h with h|⟨rfl,_⟩
 ·exact h.ixT ht hs hi
 ·simp at hi
end
theorem z2k {n:Nat} {cs:List AV} {o:Nat} (f:Nat->List AV):∀(len:Nat),(∀i,i<len->(cs.drop (o+i*n)).take n=f i)->(cs.drop o).take (len*n)=((List.range len).map f).flatten
 | 0,_=>by simp
 |len+1,h=>by
  rw[Nat.succ_mul,List.take_add,z2k f len (fun i hi=>h i (by omega)),List.drop_drop,h len (by omega),List.range_succ,List.map_append,List.flatten_append]
  simp
section
variable {P:Program} {W:World} {H:Type} {enc:TypeId×Value->H} {t e:TypeId} {v:Value} {base:Nat}
theorem j09 {α:Type} [Inhabited α] {f:α->List AV} {Q:α->Prop} {n:Nat} (hn0:0<n) {d:DataW H} {p:List MemPlace} (ht:P.underlying t=some (.slice e)) (hn:P.cellsOf e=n) (h:Value.okWide P W .any base t v) (hr:DataW.Trod enc P W 0 (fun _=>true) true t v d p)
  (hel:∀(m:Nat) (cs:List Value) (y:DataW H×List MemPlace),cs.length=n->DataW.trod enc P W 0 (fun _=>true) true m e cs=some y->∃a,cs.map (absP W)=f a/\Q a) (hf:∀a,(f a).length=n/\(f a).all AV.one=true) :
  ∃l:List α,z5U n (q8k W) (z1p W v) (l.map f)/\∀a∈l,Q a:=by
 rcases z6h ht h hr with h|⟨a,len,cap,cs,h1,h2,h3,m,h4⟩
 ·exact⟨[],.inl ⟨by simp,.inl ⟨rfl,_,_,_,h⟩⟩,by simp⟩
 ·rw[hn]at h4;have h5:∀i,i<len->∃x,((cs.drop (a.o+i*n)).take n).map (absP W)=f x/\Q x:=fun i hi=>by
   obtain⟨h6,y,h7⟩:=h4 i (by omega);exact hel m _ y h6 h7
  obtain⟨g,hg⟩:=Go.Deep.choose_lt h5;by_cases h0:len=0
  ·subst h0;exact⟨[],.inr ⟨rfl,some a,0,cap,true,h1⟩,by simp⟩
  refine⟨(List.range len).map g,.inl ⟨fun x hx=>?_,.inr ⟨a.b,a.o,0,cap,true,true,cs.map (absP W),?_,.inr rfl,h3,?_,?_⟩⟩,fun x hx=>?_⟩
  ·obtain⟨y,_,rfl⟩:=List.mem_map.1 hx;exact hf y
  ·simpa using h1
  ·have h6:=(h4 (len-1) (by omega)).1;simp only[xlt0,xld0]at h6;simp only[xlm,List.length_range];have e:len*n=(len-1)*n+n:=by rw[<-Nat.succ_mul];congr 1;omega
   omega
  ·rw[xlm,xlm,List.length_range,List.map_map];have:=z2k (cs:=cs.map (absP W)) (o:=a.o) (n:=n) (fun i=>f (g i)) len fun i hi=>by
    rw[<-List.map_drop,<-List.map_take];exact(hg i hi).1
   exact this
  ·obtain⟨i,hi,rfl⟩:=List.mem_map.1 hx;exact(hg i (List.mem_range.1 hi)).2
end
end
end Go.Abs
namespace Go.Proofs.YtlginbmjiecglaaGreatDoor
section
set_option maxRecDepth 4000
open Go Go.Abs
theorem b0e:∃e,Tryz.prog.underlying 22=some (.slice e)/\szT Tryz.prog e=some 4:=⟨77,by kernel_rfl,by kernel_rfl⟩
theorem z5a {m0:Mem} {sl t4:AV} {acts:List (Int×Int×Int×Int)} (hv:z5U 4 m0 sl (acts.map j6L)) (hN:∀a∈acts,i64 a.2.2.2) (hco:∃ro,m0.get 1=some (.cells z4M ro)) {b:Nat}:∀(d i:Nat) (M:Mem) (st:LSt) (F:List Nat),i+d=60->Fr m0 M []->q0G M b st F->q3j st->(∀c,c∈F->m0.next<=c)->
  ∃M' st' F',D26.gor 36864 [sl,t4,.ptr (some ⟨b,0⟩),.int .i64 (i:Int)] M=D26.gor 36867 [t4,.ptr (some ⟨b,0⟩)] M'/\q0G M' b st' F'/\q3j st'/\st'.most=st.most/\Fr m0 M' []/\∀c,c∈F'->m0.next<=c:=by
 obtain⟨e,he,hs⟩:=b0e;have hlen:=hv.q1M he;rw[xlm]at hlen;intro d;induction d with
 |zero=>
  intro i M st F hi fM hR g hF;have:i=60:=by omega
  subst this;refine⟨M,st,F,?_,hR,g,rfl,fM,hF⟩;have c2:decide (((60:Nat):Int)<60)=false:=by decide
  by_cases h:((60:Nat):Int)<(acts.length:Int)
  ·simp only[q81 (H:=H26),T.a5u,p1,p2,q0b,ifV,wp,hlen,dt h,c2]
  ·simp only[q81 (H:=H26),T.a5u,p1,p2,q0b,ifV,wp,hlen,df h]
 |succ d ih=>
  intro i M st F hi fM hR g hF;by_cases h:i<acts.length
  ·obtain⟨bs,o,_,x2,_,_,x5⟩:=(hv.q0k fM).ixT he hs (i:=i) (by rw[xlm];exact h);rw[xgm]at x5;obtain⟨ro,hco'⟩:=hco;obtain⟨M3,st',F',e1,e2,e3,e4,e5,e6⟩:=z4J hR g (sl:=sl) (t4:=t4) ⟨ro,fM.get hco' (by simp)⟩ (x2 .i64) x5 (hN _ (List.getElem_mem h));have f3:Fr m0 M3 []:=fM.step e5 (fun c hc=>.inr (hF c hc))
   obtain⟨M4,st4,F4,r1,r2,r3,r4,r5,r6⟩:=ih (i+1) M3 st' F' (by omega) f3 e2 e3 (fun c hc=>by rcases e6 c hc with h|h;exact hF c h;exact xnt0 fM.next h)
   refine⟨M4,st4,F4,?_,r2,r3,r4.trans e4,r5,r6⟩;simp only[q81 (H:=H26),T.a5u,p1,p2,q0b,ifV,wp,hlen,dt (show (i:Int)<(acts.length:Int) by omega),dt (show (i:Int)<60 by omega)];rw[e1];simp only[j8P (H:=H26),T.a9i,p2,wp,show (i:Int)+1=((i+1:Nat):Int) by omega,wrap_i64 (n:=((i+1:Nat):Int)) (by omega) (by omega)];exact r1
  ·refine⟨M,st,F,?_,hR,g,rfl,fM,hF⟩;simp only[q81 (H:=H26),T.a5u,p1,p2,q0b,ifV,wp,hlen,df (show ¬(i:Int)<(acts.length:Int) by omega)]
structure BkN (n:Nat) (m:Mem) (sp sq sa:AV) (st:LSt):Prop where
 ex:∃rp rq ra,q0L 4 m sp (st.q0a.map (·.cells)) rp/\q0L 9 m sq (st.pairs.map (·.cells)) rq/\q0L 4 m sa (st.q0j.map (·.cells)) ra/\Dj rp.toList rq.toList/\Dj rp.toList ra.toList/\Dj rq.toList ra.toList/\(∀c,c∈rp.toList++rq.toList++ra.toList->n<=c)
theorem BkN.v {n:Nat} {m:Mem} {sp sq sa:AV} {st:LSt} (h:BkN n m sp sq sa st):BkV m sp sq sa st:=by
 obtain⟨rp,rq,ra,h1,h2,h3,_⟩:=h.ex;exact⟨h1.v,h2.v,h3.v⟩
theorem j3Z {m:Mem} {sl:AV} {acts:List (Int×Int×Int×Int)} (hv:z5U 4 m sl (acts.map j6L)) (hN:∀a∈acts,i64 a.2.2.2) (hco:∃ro,m.get 1=some (.cells z4M ro)) {most:Int} (hm:1<=most/\most<=64) :
  ∃st sp sq sa m',run E26 (.fn 9) [sl,.int .i64 most] m=some (.agg [sp,sq,sa,.int .u64 st.latest],m')/\q3j st/\st.most=most/\BkN m.next m' sp sq sa st/\Fr m m' []:=by
 obtain⟨m0,hm0⟩:∃m0,m0=m.lay (.cells [.sl none 0 0 0 true,.sl none 0 0 0 true,.sl none 0 0 0 true,.int .u64 0] false):=⟨_,rfl⟩;have f0:Fr m m0 []:=by rw[hm0];exact(Fr.refl m).lay _
 have n0:m0.next=m.next+1:=by rw[hm0];rfl
 have Z0:m0.get m.next=some (.cells [.sl none 0 0 0 true,.sl none 0 0 0 true,.sl none 0 0 0 true,.int .u64 0] false):=by rw[hm0];exact q0e _ _
 obtain⟨M,hM⟩:∃M,M=m0.lay (.cells [.sl none 0 0 0 true,.sl none 0 0 0 true,.sl none 0 0 0 true,.int .u64 0,.int .i64 most] false):=⟨_,rfl⟩;have fM:Fr m0 M []:=by rw[hM];exact(Fr.refl m0).lay _
 have B0:M.get m0.next=some (.cells [.sl none 0 0 0 true,.sl none 0 0 0 true,.sl none 0 0 0 true,.int .u64 0,.int .i64 most] false):=by rw[hM];exact q0e _ _
 have hR:q0G M m0.next ⟨[],[],[],0,most⟩ [m0.next]:=⟨_,_,_,none,none,none,B0,q0L.nil _ _ _ _,q0L.nil _ _ _ _,q0L.nil _ _ _ _,by simp,by simp,by simp,by simp[Dj],by simp[Dj],by simp[Dj],rfl⟩
 obtain⟨ro,hco'⟩:=hco;obtain⟨M',st,F',r1,r2,r3,r4,r5,r6⟩:=z5a (t4:=.ptr (some ⟨m.next,0⟩)) (hv.q0k f0) hN ⟨ro,f0.get hco' (by simp)⟩ 60 0 M _ _ rfl fM hR (q3j.new most hm) (by simp)
 obtain⟨sp,sq,sa,rp,rq,ra,h1,h2,h3,h4,h5,h6,h7,h8,h9,h10,hF⟩:=r2.ex;have Z':=r5.get Z0 (by simp);have o1:[sp,sq,sa,AV.int .u64 st.latest].all AV.one=true:=by rw[List.all_cons,List.all_cons,List.all_cons,h2.one,h3.one,h4.one];rfl
 have lB:ldN M' (.ptr (some ⟨m0.next,0⟩)) 4=some (.agg [sp,sq,sa,.int .u64 st.latest]):=by rw[q1a h1 (by simp)];rfl
 have s4:=q07 (n:=4) (v:=[sp,sq,sa,AV.int .u64 st.latest]) Z' rfl rfl o1;have l4:ldN (M'.put m.next (some (.cells [sp,sq,sa,.int .u64 st.latest] false))) (.ptr (some ⟨m.next,0⟩)) 4=some (.agg [sp,sq,sa,.int .u64 st.latest]):=q0C (q0w Z') rfl
 have fp:Fr M' (M'.put m.next (some (.cells [sp,sq,sa,.int .u64 st.latest] false))) [m.next]:=Fr.put _ _ _
 have nb:∀{r:Option Nat},(∀c,c∈r.toList->c∈F')->∀c,r=some c->c∉[m.next]:=fun hr c hc=>by
  have:=r6 c (hr c (by rw[hc];simp));simp;omega
 have in1:∀c,c∈rp.toList->c∈F':=fun c hc=>by rw[hF];simp only[xmk0,xma];exact .inr (.inl (.inl hc))
 have in2:∀c,c∈rq.toList->c∈F':=fun c hc=>by rw[hF];simp only[xmk0,xma];exact .inr (.inl (.inr hc))
 have in3:∀c,c∈ra.toList->c∈F':=fun c hc=>by rw[hF];simp only[xmk0,xma];exact .inr (.inr hc)
 refine⟨st,sp,sq,sa,_,?_,r3,r4,⟨rp,rq,ra,h2.frame fp (nb in1),h3.frame fp (nb in2),h4.frame fp (nb in3),h8,h9,h10,fun c hc=>?_⟩,(f0.step0 r5).put' (.inr (xnr _))⟩
 ·have nx:m.next+1=m0.next:=n0.symm
  simp only[Int.natCast_zero]at r1;simp only[a8j (H:=H26) rfl,T.f9,pB,p1,q0n,AV.cells,Nat.reduceAdd,Nat.reduceLeDiff,q0N,q0B,AV.one,lcs,ge,Mem.q0q,<-hm0,<-hM,nx,r1];simp only[j8Q (H:=H26),T.a9j,p1,q1,nnA,q0S,q0V,q0d,lB,s4,l4]
 ·simp only[xma]at hc;have:c∈F':=by
   rcases hc with (hc|hc)|hc
   ·exact in1 c hc
   ·exact in2 c hc
   ·exact in3 c hc
  have:=r6 c this;omega
end
end Go.Proofs.YtlginbmjiecglaaGreatDoor
