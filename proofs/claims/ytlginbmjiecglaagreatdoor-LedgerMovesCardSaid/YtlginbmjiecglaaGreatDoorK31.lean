/- Texts of one claim, put together. -/
import Derived.Test.YtlginbmjiecglaaGreatDoorK0
import Derived.Test.YtlginbmjiecglaaGreatDoorK19
import Derived.Test.YtlginbmjiecglaaGreatDoorK25
import Derived.Test.YtlginbmjiecglaaGreatDoorK27
import Derived.Test.YtlginbmjiecglaaGreatDoorK30
namespace Go.Proofs.YtlginbmjiecglaaGreatDoor
section
set_option maxRecDepth 4000
open Go Go.Abs
section
variable {m:Mem} {b:Nat} {st:LSt} {F:List Nat}
theorem uP:∃e,Tryz.prog.underlying 23=some (.slice e)∧szT Tryz.prog e=some 4:=⟨56,by kernel_rfl,by kernel_rfl⟩
theorem rcoin_loop (h:RefAt m b st F) (w:LWf st) (name:List UInt8) (t2:AV):∀(d k:Nat),k+d=lb q0c name (st.q0b.map (·.name))→
  D22.gor 110593 [.ptr (some ⟨b,0⟩),.str name,t2,.int .i64 (k:Int)] m=D22.gor 110595 [.ptr (some ⟨b,0⟩),.str name,t2,.int .i64 ((lb q0c name (st.q0b.map (·.name)):Nat):Int)] m:=by
 obtain⟨sp,sq,sa,rp,rq,ra,h1,h2,h3,h4,h5⟩:=h.ex
 have a3:∀i:Nat,ld1 m (.ptr (some ⟨b,i⟩))=[sp,sq,sa,.int .u64 st.latest,.int .i64 st.most][i]?:=fun i=>q0j h1
 obtain⟨e,he,hs⟩:=uP
 have hle:=z7s (lt:=q0c) name (st.q0b.map (·.name))
 rw[List.length_map]at hle
 have hlp:=w.lp
 have hlen:=h2.v.q4n he
 rw[List.length_map]at hlen
 intro d
 induction d with
 |zero=>
  intro k hk
  have:k=lb q0c name (st.q0b.map (·.name)):=by omega
  rw[←this]
  by_cases hlt:k<st.q0b.length
  ·obtain⟨bb,o,_,x2,x3,_,_⟩:=h2.v.ixT he hs (i:=k) (by rw[List.length_map];exact hlt)
   have x4:=x3 0 (by omega)
   rw[List.getElem_map]at x4
   have hat:=lb_at (lt:=q0c) (k:=name) (ks:=st.q0b.map (·.name)) (by rw[List.length_map];omega)
   simp only[←this,List.getElem_map]at hat
   simp only[ge,PurseV.cells,Nat.add_zero]at x4
   simp only[z6q (H:=H22),T.g27_1,p1,q1,p2,nnA,q0a,ifV,j4u,a3,hlen,dt (show (k:Int)<(st.q0b.length:Int) by omega),x2,x4,hat]
  ·simp only[z6q (H:=H22),T.g27_1,p1,q1,p2,nnA,q0a,ifV,j4u,a3,hlen,df (show ¬(k:Int)<(st.q0b.length:Int) by omega)]
 |succ d ih=>
  intro k hk
  have hlt:k<st.q0b.length:=by omega
  obtain⟨bb,o,_,x2,x3,_,_⟩:=h2.v.ixT he hs (i:=k) (by rw[List.length_map];exact hlt)
  have x4:=x3 0 (by omega)
  rw[List.getElem_map]at x4
  have hbe:=z1n (lt:=q0c) (k:=name) (ks:=st.q0b.map (·.name)) (j:=k) (by rw[List.length_map];omega) (by omega)
  rw[List.getElem_map]at hbe
  simp only[ge,PurseV.cells,Nat.add_zero]at x4
  simp only[z6q (H:=H22),T.g27_1,p1,q1,p2,nnA,q0a,ifV,j4u,a3,hlen,dt (show (k:Int)<(st.q0b.length:Int) by omega),x2,x4,hbe]
  simp only[g27_2_is (H:=H22),T.g27_2,p2,w_g27_2,show (k:Int)+1=((k+1:Nat):Int) by omega,wrap_i64 (n:=((k+1:Nat):Int)) (by omega) (by omega)]
  exact ih (k+1) (by omega)
theorem RefAt.q0b {sp sq sa sp':AV} {rq ra:Option Nat} {r:Nat} {ps:List PurseV} {m':Mem} (h1:m.get b=some (.cells [sp,sq,sa,.int .u64 st.latest,.int .i64 st.most] false)) (h3:q1s 9 m sq (st.pairs.map (·.cells)) rq) (h4:q1s 4 m sa (st.q0n.map (·.cells)) ra)
  (h6:b∉rq.toList) (h7:b∉ra.toList) (h10:Dj rq.toList ra.toList) (hf:Fr m m' []) (hr:q1s 4 m' sp' (ps.map (·.cells)) (some r)) (hn:m.next≤r) :
  ∃m2 F',stV m' (.ptr (some ⟨b,0⟩)) sp' 1=some m2∧RefAt m2 b {st with q0b:=ps} F'∧Fr m m2 [b]∧∀c,c∈F'→c=b∨c∈rq.toList∨c∈ra.toList∨m.next≤c:=by
 have B:=hf.get h1 (by simp)
 have hb:=Mem.q0w h1
 have s1:=hr.one
 have lq:∀c,c∈rq.toList→c<m.next:=fun c hc=>by rw[Option.mem_toList]at hc;subst hc;exact h3.lt
 have la:∀c,c∈ra.toList→c<m.next:=fun c hc=>by rw[Option.mem_toList]at hc;subst hc;exact h4.lt
 have sv:stV m' (.ptr (some ⟨b,0⟩)) sp' 1=some (m'.put b (some (.cells [sp',sq,sa,.int .u64 st.latest,.int .i64 st.most] false))):=by
  have:=q3l (v:=sp') (vs:=[sp']) (o:=0) (n:=1) B (q8r s1) rfl (by simp)
  simpa using this
 have fp:Fr m' (m'.put b (some (.cells [sp',sq,sa,.int .u64 st.latest,.int .i64 st.most] false))) [b]:=Fr.put _ _ _
 have fA:Fr m (m'.put b (some (.cells [sp',sq,sa,.int .u64 st.latest,.int .i64 st.most] false))) [b]:=(hf.any _).step fp (fun c hc=>.inl hc)
 have nb:∀{r:Option Nat},b∉r.toList→∀c,r=some c→c∉[b]:=fun hr c hc=>by simp only[List.mem_singleton];rintro rfl;exact hr (by rw[hc];simp)
 refine⟨_,b::((some r).toList++rq.toList++ra.toList),sv,⟨sp',sq,sa,some r,rq,ra,q05 B,hr.frame fp (fun c hc=>by cases hc;simp;omega),h3.frame fA (nb h6),h4.frame fA (nb h7),by simp;omega,h6,h7,?_,?_,h10,rfl⟩,fA,?_⟩
 ·intro c h1' h2';simp only[Option.toList_some,List.mem_singleton]at h1';have:=lq c h2';omega
 ·intro c h1' h2';simp only[Option.toList_some,List.mem_singleton]at h1';have:=la c h2';omega
 ·intro c hc
  simp only[List.mem_cons,List.mem_append,Option.toList_some,List.not_mem_nil,or_false]at hc
  rcases hc with hc|(hc|hc)|hc
  ·exact .inl hc
  ·exact .inr (.inr (.inr (by omega)))
  ·exact .inr (.inl hc)
  ·exact .inr (.inr (.inl hc))
theorem rcoin_is (h:RefAt m b st F) (w:LWf st) (name:List UInt8) (hn:name.length<4611686018427387904) {scale:Int} (h0:0≤scale) :
  ∃m' F',run E22 (.fn 27) [.ptr (some ⟨b,0⟩),.str name,.int .u64 scale] m=some (.int .i64 (j27 st name scale).1,m')∧RefAt m' b (j27 st name scale).2 F'∧Fr m m' F∧∀c,c∈F'→c∈F∨m.next≤c:=by
 have rn:=fun m=>rname_at (H:=H22) rfl name hn m
 have gp:=z8i (H:=H22) rfl h (by have:=w.lp;omega) name
 have gp0:=gp m (Fr.refl m)
 have hlp:=w.lp
 have lo:=rcoin_loop h w name (.int .u64 scale)
 obtain⟨sp,sq,sa,rp,rq,ra,h1,h2,h3,h4,h5,h6,h7,h8,h9,h10,hF⟩:=h.ex
 have hb:=Mem.q0w h1
 have a3:∀i:Nat,ld1 m (.ptr (some ⟨b,i⟩))=[sp,sq,sa,.int .u64 st.latest,.int .i64 st.most][i]?:=fun i=>q0j h1
 obtain⟨e,he,hs⟩:=uP
 have hlen:=h2.v.q4n he
 rw[List.length_map]at hlen
 have done:∀v:AV,∃m' F',some (v,m)=some (v,m')∧RefAt m' b st F'∧Fr m m' F∧∀c,c∈F'→c∈F∨m.next≤c:=fun v=>⟨m,F,rfl,h,Fr.refl' _ _,fun c hc=>.inl hc⟩
 unfold j27
 cases hnb:q66 name with
 |false=>
  rw[hnb]at rn
  rw[if_pos rfl]
  simp only[z97 (H:=H22) rfl,T.f27,p1,p2,q1,nnA,q0a,unA,w_f27,rn,Bool.not_false]
  exact done _
 |true=>
  rw[hnb]at rn
  rw[if_neg (by decide)]
  by_cases hsc:18<scale
  ·rw[if_pos hsc]
   simp only[z97 (H:=H22) rfl,T.f27,p1,p2,q1,nnA,q0a,unA,w_f27,rn,Bool.not_true,dt hsc]
   exact done _
  ·rw[if_neg hsc]
   cases hk:q1d q0c name (st.q0b.map (·.name)) with
   |true=>
    rw[z8g w hk]at gp0
    rw[if_pos rfl]
    simp only[z97 (H:=H22) rfl,T.f27,p1,p2,q1,nnA,q0a,unA,w_f27,rn,Bool.not_true,df hsc,gp0,dt (show (0:Int)≤((st.iP name:Nat):Int) by omega)]
    exact done _
   |false=>
    rw[j74 w hk]at gp0
    rw[if_neg (by decide)]
    by_cases h8p:8≤st.q0b.length
    ·rw[if_pos h8p]
     simp only[z97 (H:=H22) rfl,T.f27,p1,p2,q1,nnA,q0a,unA,w_f27,rn,Bool.not_true,df hsc,gp0,df (show ¬(0:Int)≤-1 by omega),a3,hlen,dt (show (8:Int)≤(st.q0b.length:Int) by omega)]
     exact done _
    ·rw[if_neg h8p]
     obtain⟨k,hk'⟩:∃k,k=lb q0c name (st.q0b.map (·.name)):=⟨_,rfl⟩
     have l0:=lo k 0 (by omega)
     rw[←hk']at l0⊢
     have hkl:k≤(st.q0b.map (·.cells)).length:=by rw[List.length_map,hk'];have:=z7s (lt:=q0c) name (st.q0b.map (·.name));rw[List.length_map]at this;exact this
     obtain⟨u1,u2⟩:=h2.upTo he hs hkl
     obtain⟨v1,v2⟩:=h2.j0d he hs hkl
     obtain⟨s1,m1,s2,m2,s3,m3,r,q1,q2,q3,q4,f1,f2,f3,q5⟩:=j7p (w:=40) (by omega) h2 hkl u2 v2 (new:=(PurseV.mk name scale ⟨0,0⟩).cells) rfl rfl (q26 (by rw[List.length_map];omega) (by decide))
     rw[←q55 (·.cells) k (PurseV.mk name scale ⟨0,0⟩)]at q4
     obtain⟨m4,F',z1,z2,z3,z4⟩:=RefAt.q0b h1 h3 h4 h6 h7 h10 f3 q4 q5
     have a31:∀i:Nat,ld1 m1 (.ptr (some ⟨b,i⟩))=[sp,sq,sa,.int .u64 st.latest,.int .i64 st.most][i]?:=fun i=>q0j (f1.get h1 (by simp))
     have a32:∀i:Nat,ld1 m2 (.ptr (some ⟨b,i⟩))=[sp,sq,sa,.int .u64 st.latest,.int .i64 st.most][i]?:=fun i=>q0j (f2.get h1 (by simp))
     have a33:∀i:Nat,ld1 (m1.lay (.cells (PurseV.mk name scale ⟨0,0⟩).cells false)) (.ptr (some ⟨b,i⟩))=[sp,sq,sa,.int .u64 st.latest,.int .i64 st.most][i]?:=fun i=>q0j ((f1.step0 ((Fr.refl m1).lay _)).get h1 (by simp))
     refine⟨m4,F',?_,z2,z3.mono (by rw[hF];simp),fun c hc=>?_⟩
     ·simp only[z97 (H:=H22) rfl,T.f27,p1,p2,nnA,q0a,unA,w_f27,rn,Bool.not_true,df hsc,gp0,df (show ¬(0:Int)≤-1 by omega),a3,hlen,df (show ¬(8:Int)≤(st.q0b.length:Int) by omega)]
      simp only[Int.natCast_zero]at l0
      have bs:=q8q (n:=4) (zs:=[.str [],.int .i64 0,.int .i64 0,.int .u64 0]) (cs:=(PurseV.mk name scale ⟨0,0⟩).cells) rfl rfl rfl
      simp only[PurseV.cells]at bs q2 a33
      have ws:IntKind.wrap .i64 scale=scale:=wrap_i64 (by omega) (by omega)
      simp only[g27_0_is (H:=H22),T.g27_0,w_g27_0,l0]
      simp only[g27_3_is (H:=H22),T.g27_3,p1,q1,p2,apE,q0r,AV.cells,Nat.reduceAdd,Nat.reduceLeDiff,nnA,w_g27_3,a3,u1,ws,bs,a33,q2,a32,v1,q3,z1]
     ·rcases z4 c hc with h|h|h|h
      ·exact .inl (by rw[hF,h];simp)
      ·exact .inl (by rw[hF];simp[h])
      ·exact .inl (by rw[hF];simp[h])
      ·exact .inr h
end
end
section
set_option maxRecDepth 4000
open Go Go.Abs
section
variable {m:Mem} {b:Nat} {st:LSt} {F:List Nat}
theorem uQ:∃e,Tryz.prog.underlying 24=some (.slice e)∧szT Tryz.prog e=some 9:=⟨74,by kernel_rfl,by kernel_rfl⟩
theorem RefAt.stQ (h:RefAt m b st F) {sp sq sa:AV} (hb:m.get b=some (.cells [sp,sq,sa,.int .u64 st.latest,.int .i64 st.most] false)) {i:Nat} {q q':PairV} (gq:st.pairs[i]? = some q) {o:Nat} {vs:List AV} (ho:o+vs.length≤9) (hv:vs.all AV.one=true)
  (hq':q.cells.take o++vs++q.cells.drop (o+vs.length)=q'.cells) :
  ∃bb m1,(∀k:IntKind,q09 Tryz.prog 24 sq (.int k (i:Int))=some (.ptr (some ⟨bb,i*9⟩)))∧stV m (.ptr (some ⟨bb,i*9+o⟩)) (.agg vs) vs.length=some m1∧RefAt m1 b {st with pairs:=st.pairs.set i q'} F∧Fr m m1 F∧m1.next=m.next∧m1.get b=m.get b:=by
 obtain⟨sp',sq',sa',rp,rq,ra,h1,h2,h3,h4,h5,h6,h7,h8,h9,h10,rfl⟩:=h.ex
 rw[h1]at hb
 simp only[Option.some.injEq,Blk.cells.injEq,List.cons.injEq,and_true]at hb
 obtain⟨rfl,rfl,rfl⟩:=hb
 obtain⟨hlt,hga⟩:=List.getElem?_eq_some_iff.1 gq
 obtain⟨bb,e1,e2,e3⟩:=h3.sto (i:=i) (by rw[List.length_map];exact hlt) (o:=o) (vs:=vs) ho hv
 obtain⟨e,he,hs⟩:=uQ
 obtain⟨bb',f1,f2⟩:=h3.ixT he hs (i:=i) (by rw[List.length_map];exact hlt)
 rw[e1]at f1
 cases f1
 have hv':(st.pairs.map (·.cells)).set i (((st.pairs.map fun x:PairV=>x.cells)[i]'(by rw[List.length_map];exact hlt)).take o++vs++((st.pairs.map fun x:PairV=>x.cells)[i]'(by rw[List.length_map];exact hlt)).drop (o+vs.length))=(st.pairs.set i q').map (·.cells):=by
  rw[List.getElem_map,hga,hq',List.map_set]
 rw[hv']at e2 e3
 have hbb:bb≠b:=fun e=>h6 (by rw[e1,e];simp)
 have hf:Fr m (m.put bb (some (.cells ((st.pairs.set i q').map (·.cells)).flatten false))) [bb]:=Fr.put _ _ _
 refine⟨bb,_,f2,e2,⟨sp',sq',sa',rp,rq,ra,hf.get h1 (by simp;exact fun e=>hbb e.symm),h2.frame hf (fun c hc=>?_),e3,h4.frame hf (fun c hc=>?_),h5,h6,h7,h8,h9,h10,rfl⟩,hf.mono (fun c hc=>?_),rfl,?_⟩
 ·simp only[List.mem_singleton];rintro rfl;exact h8 c (by rw[hc];simp) (by rw[e1];simp)
 ·simp only[List.mem_singleton];rintro rfl;exact h10 c (by rw[e1];simp) (by rw[hc];simp)
 ·simp only[List.mem_singleton]at hc;subst hc;rw[e1];simp
 ·exact q3e (fun e=>hbb e.symm)
theorem RefAt.pairs {sp sq sa sq':AV} {rp ra:Option Nat} {r:Nat} {qs:List PairV} {m':Mem} (h1:m.get b=some (.cells [sp,sq,sa,.int .u64 st.latest,.int .i64 st.most] false)) (h2:q1s 4 m sp (st.q0b.map (·.cells)) rp) (h4:q1s 4 m sa (st.q0n.map (·.cells)) ra)
  (h5:b∉rp.toList) (h7:b∉ra.toList) (h9:Dj rp.toList ra.toList) (hf:Fr m m' []) (hr:q1s 9 m' sq' (qs.map (·.cells)) (some r)) (hn:m.next≤r) :
  ∃m2 F',stV m' (.ptr (some ⟨b,1⟩)) sq' 1=some m2∧RefAt m2 b {st with pairs:=qs} F'∧Fr m m2 [b]∧∀c,c∈F'→c=b∨c∈rp.toList∨c∈ra.toList∨m.next≤c:=by
 have B:=hf.get h1 (by simp)
 have hb:=Mem.q0w h1
 have s1:=hr.one
 have lp:∀c,c∈rp.toList→c<m.next:=fun c hc=>by rw[Option.mem_toList]at hc;subst hc;exact h2.lt
 have la:∀c,c∈ra.toList→c<m.next:=fun c hc=>by rw[Option.mem_toList]at hc;subst hc;exact h4.lt
 have sv:stV m' (.ptr (some ⟨b,1⟩)) sq' 1=some (m'.put b (some (.cells [sp,sq',sa,.int .u64 st.latest,.int .i64 st.most] false))):=by
  have:=q3l (v:=sq') (vs:=[sq']) (o:=1) (n:=1) B (q8r s1) rfl (by simp)
  simpa using this
 have fp:Fr m' (m'.put b (some (.cells [sp,sq',sa,.int .u64 st.latest,.int .i64 st.most] false))) [b]:=Fr.put _ _ _
 have fA:Fr m (m'.put b (some (.cells [sp,sq',sa,.int .u64 st.latest,.int .i64 st.most] false))) [b]:=(hf.any _).step fp (fun c hc=>.inl hc)
 have nb:∀{r:Option Nat},b∉r.toList→∀c,r=some c→c∉[b]:=fun hr c hc=>by simp only[List.mem_singleton];rintro rfl;exact hr (by rw[hc];simp)
 refine⟨_,b::(rp.toList++(some r).toList++ra.toList),sv,⟨sp,sq',sa,rp,some r,ra,q05 B,h2.frame fA (nb h5),hr.frame fp (fun c hc=>by cases hc;simp;omega),h4.frame fA (nb h7),h5,by simp;omega,h7,?_,h9,?_,rfl⟩,fA,?_⟩
 ·intro c h1' h2';simp only[Option.toList_some,List.mem_singleton]at h2';have:=lp c h1';omega
 ·intro c h1' h2';simp only[Option.toList_some,List.mem_singleton]at h1';have:=la c h2';omega
 ·intro c hc
  simp only[List.mem_cons,List.mem_append,Option.toList_some,List.not_mem_nil,or_false]at hc
  rcases hc with hc|(hc|hc)|hc
  ·exact .inl hc
  ·exact .inr (.inl hc)
  ·exact .inr (.inr (.inr (by omega)))
  ·exact .inr (.inr (.inl hc))
theorem rrt_loop (h:RefAt m b st F) (w:LWf st) {x y:List UInt8} (hx:x.length=3) (t7:AV):∀(d k:Nat),k+d=lb q0c (x++y) (st.pairs.map (·.key))→
  D22.gor 135172 [.ptr (some ⟨b,0⟩),.str x,.str y,t7,.int .i64 (k:Int)] m=D22.gor 135174 [.ptr (some ⟨b,0⟩),.str x,.str y,t7,.int .i64 ((lb q0c (x++y) (st.pairs.map (·.key)):Nat):Int)] m:=by
 obtain⟨sp,sq,sa,rp,rq,ra,h1,h2,h3,h4,h5⟩:=h.ex
 have a3:∀i:Nat,ld1 m (.ptr (some ⟨b,i⟩))=[sp,sq,sa,.int .u64 st.latest,.int .i64 st.most][i]?:=fun i=>q0j h1
 obtain⟨e,he,hs⟩:=uQ
 have hle:=z7s (lt:=q0c) (x++y) (st.pairs.map (·.key))
 rw[List.length_map]at hle
 have hlq:=w.lq
 have hlen:=h3.v.q4n he
 rw[List.length_map]at hlen
 have key:∀k (hlt:k<st.pairs.length),q0c st.pairs[k].key (x++y)=(q0c st.pairs[k].x x||(decide (st.pairs[k].x=x)&&q0c st.pairs[k].y y)):=fun k hlt=>by
  have:=q2s w (w.okq st.pairs[k] (List.getElem_mem hlt)).2.2.2.2.1
  unfold PairV.key
  rw[q6e (by omega)]
 intro d
 induction d with
 |zero=>
  intro k hk
  have:k=lb q0c (x++y) (st.pairs.map (·.key)):=by omega
  rw[←this]
  by_cases hlt:k<st.pairs.length
  ·obtain⟨bb,o,_,x2,x3,_,_⟩:=h3.v.ixT he hs (i:=k) (by rw[List.length_map];exact hlt)
   have x4:=x3 0 (by omega)
   have x5:=x3 1 (by omega)
   rw[List.getElem_map]at x4 x5
   have hat:=lb_at (lt:=q0c) (k:=x++y) (ks:=st.pairs.map (·.key)) (by rw[List.length_map];omega)
   simp only[←this,List.getElem_map]at hat
   rw[key k hlt,Bool.or_eq_false_iff]at hat
   simp only[ge,PairV.cells,Nat.add_zero]at x4 x5
   by_cases hxx:st.pairs[k].x=x
   ·have h9:=hat.2
    rw[dt hxx,Bool.true_and]at h9
    simp only[q84 (H:=H22),T.j9q,p1,q1,p2,nnA,q0a,ifV,z3q,a3,hlen,dt (show (k:Int)<(st.pairs.length:Int) by omega),x2,x4,x5,hat.1,dt hxx,h9]
   ·simp only[q84 (H:=H22),T.j9q,p1,q1,p2,nnA,q0a,ifV,z3q,a3,hlen,dt (show (k:Int)<(st.pairs.length:Int) by omega),x2,x4,x5,hat.1,df hxx]
  ·simp only[q84 (H:=H22),T.j9q,p1,q1,p2,nnA,q0a,ifV,z3q,a3,hlen,df (show ¬(k:Int)<(st.pairs.length:Int) by omega)]
 |succ d ih=>
  intro k hk
  have hlt:k<st.pairs.length:=by omega
  obtain⟨bb,o,_,x2,x3,_,_⟩:=h3.v.ixT he hs (i:=k) (by rw[List.length_map];exact hlt)
  have x4:=x3 0 (by omega)
  have x5:=x3 1 (by omega)
  rw[List.getElem_map]at x4 x5
  have hbe:=z1n (lt:=q0c) (k:=x++y) (ks:=st.pairs.map (·.key)) (j:=k) (by rw[List.length_map];omega) (by omega)
  rw[List.getElem_map,key k hlt]at hbe
  simp only[ge,PairV.cells,Nat.add_zero]at x4 x5
  have nx:D22.gor 135173 [.ptr (some ⟨b,0⟩),.str x,.str y,t7,.int .i64 (k:Int)] m=D22.gor 135174 [.ptr (some ⟨b,0⟩),.str x,.str y,t7,.int .i64 ((lb q0c (x++y) (st.pairs.map (·.key)):Nat):Int)] m:=by
   simp only[g33_5_is (H:=H22),T.g33_5,p2,w_g33_5,show (k:Int)+1=((k+1:Nat):Int) by omega,wrap_i64 (n:=((k+1:Nat):Int)) (by omega) (by omega)]
   exact ih (k+1) (by omega)
  cases hxl:q0c st.pairs[k].x x with
  |true=>simp only[q84 (H:=H22),T.j9q,p1,q1,p2,nnA,q0a,ifV,z3q,a3,hlen,dt (show (k:Int)<(st.pairs.length:Int) by omega),x2,x4,x5,hxl,nx]
  |false=>
   rw[hxl,Bool.false_or,Bool.and_eq_true]at hbe
   simp only[q84 (H:=H22),T.j9q,p1,q1,p2,nnA,q0a,ifV,z3q,a3,hlen,dt (show (k:Int)<(st.pairs.length:Int) by omega),x2,x4,x5,hxl,hbe.1,hbe.2,nx]
theorem rrt_is (h:RefAt m b st F) (g:LGood st) (x y:List UInt8) {r:Wd} (hr:r.ok) (s:Int) :
  ∃m' F',run E22 (.fn 33) [.ptr (some ⟨b,0⟩),.str x,.str y,.agg (q02 r s)] m=some (.int .i64 (j39 st x y r s).1,m')∧RefAt m' b (j39 st x y r s).2 F'∧Fr m m' F∧∀c,c∈F'→c∈F∨m.next≤c:=by
 have w:=g.w
 have hF:=h.lt
 obtain⟨M,hM⟩:∃M,M=m.lay (.cells (q02 r s) false):=⟨_,rfl⟩
 have fM:Fr m M []:=by rw[hM];exact(Fr.refl m).lay _
 have hR:=h.q0p fM
 have gx:=z8i (H:=H22) rfl hR (by have:=w.lp;omega) x M (Fr.refl _)
 have gy:=z8i (H:=H22) rfl hR (by have:=w.lp;omega) y M (Fr.refl _)
 have gq:=rq_at (H:=H22) rfl hR (by have:=w.lq;omega) x y M (Fr.refl _)
 have rr:=j76 (H:=H22) rfl hr s M
 have hD:M.get m.next=some (.cells (q02 r s) false):=by rw[hM];exact q0d _ _
 have lD:ldN M (.ptr (some ⟨m.next,0⟩)) 3=some (.agg (q02 r s)):=q1b hD rfl
 have done:∀v:AV,∃m' F',some (v,M)=some (v,m')∧RefAt m' b st F'∧Fr m m' F∧∀c,c∈F'→c∈F∨m.next≤c:=fun v=>⟨M,F,rfl,hR,fM.any F,fun c hc=>.inl hc⟩
 have cm:=dt (show (-1:Int)<0 by omega)
 unfold j39
 rw[show q9j r s=q5r r s from rfl]
 simp only[q02]at hM lD rr⊢
 cases hx:q1d q0c x (st.q0b.map (·.name)) with
 |false=>
  rw[j74 w hx]at gx
  rw[LSt.q4h hx]
  rw[if_pos (.inl rfl)]
  simp only[z4q (H:=H22) rfl,T.f33,p2,q1h,q0a,ifV,w_f33,AV.cells,AV.one,lcs,if_true,Option.map_some,←hM,gx,cm]
  exact done _
 |true=>
  obtain⟨p,p1,p2,p3,p4⟩:=LSt.q2v hx
  rw[z8g w hx]at gx
  have cx:=df (show ¬((st.iP x:Nat):Int)<0 by omega)
  have sx:(st.q5l x).isSome=true:=by rw[p1];rfl
  cases hy:q1d q0c y (st.q0b.map (·.name)) with
  |false=>
   rw[j74 w hy]at gy
   rw[LSt.q4h hy,if_pos (.inr rfl)]
   simp only[z4q (H:=H22) rfl,T.f33,q1h,q0a,ifV,w_f33,AV.cells,AV.one,lcs,if_true,Option.map_some,←hM,gx,gy,cm,cx]
   exact done _
  |true=>
   obtain⟨p',p1',_⟩:=LSt.q2v hy
   rw[z8g w hy]at gy
   have cy:=df (show ¬((st.iP y:Nat):Int)<0 by omega)
   have sy:(st.q5l y).isSome=true:=by rw[p1'];rfl
   rw[if_neg (by rw[sx,sy];simp)]
   by_cases hxy:x=y
   ·rw[if_pos hxy]
    simp only[z4q (H:=H22) rfl,T.f33,q1h,q0a,ifV,w_f33,AV.cells,AV.one,lcs,if_true,Option.map_some,←hM,gx,gy,cx,cy]
    simp only[z1g (H:=H22),T.g33_0,q0a,z9c,dt hxy]
    exact done _
   ·rw[if_neg hxy]
    by_cases hz:q5r r s=0
    ·rw[if_neg (by simp[hz])]
     rw[hz]at rr
     rw[ridxQ w sx sy]at gq
     have hrr:q9l r s=true:=q9k hz
     cases hq:q1d q0c (x++y) (st.pairs.map (·.key)) with
     |true=>
      obtain⟨q,q1,q2,q3,q4⟩:=LSt.q88 hq
      have l3:=w.okq q q4
      have hxq:q.x=x∧q.y=y:=List.append_inj q2 (by rw[q2s w l3.2.2.2.2.1,q2s w sx])
      have q3':st.pairs[st.iQ (x++y)]? = some q:=q3
      rw[if_pos hq]at gq
      obtain⟨sp,sq,sa,hb,_⟩:=hR.v
      have a3:∀i:Nat,ld1 M (.ptr (some ⟨b,i⟩))=[sp,sq,sa,.int .u64 st.latest,.int .i64 st.most][i]?:=fun i=>q0j hb
      obtain⟨bb,m1,i1,i2,i3,i4,_,_⟩:=RefAt.stQ hR hb (q':={q with x:=x,y:=y,rate:=r,rscale:=s}) q3' (o:=2) (vs:=q02 r s) (by simp[q02]) rfl (by simp[PairV.cells,q02,hxq.1,hxq.2])
      refine⟨m1,F,?_,?_,(fM.any F).step i4 (fun c hc=>.inl hc),fun c hc=>.inl hc⟩
      ·simp only[q02,List.length_cons,List.length_nil,Nat.zero_add,Nat.reduceAdd]at i2
       simp only[z4q (H:=H22) rfl,T.f33,q1h,q0a,ifV,w_f33,AV.cells,AV.one,lcs,if_true,Option.map_some,←hM,gx,gy,cx,cy]
       simp only[z1g (H:=H22),T.g33_0,q0a,z9c,df hxy]
       simp only[z6v (H:=H22),T.g33_1,q0a,j4z,lD,rr,decide_true,Bool.not_true]
       simp only[j6b (H:=H22),T.g33_2,nnA,q0a,w_g33_2,gq,dt (show (0:Int)≤((st.iQ (x++y):Nat):Int) by omega),a3,lD,i1,i2]
      ·rw[q1]
       show RefAt m1 b (st.q8h _) F
       have e:st.q8h {q with x:=x,y:=y,rate:=r,rscale:=s}={st with pairs:=st.pairs.set (st.iQ (x++y)) {q with x:=x,y:=y,rate:=r,rscale:=s}}:=by
        have hq':q1d q0c (PairV.key {q with x:=x,y:=y,rate:=r,rscale:=s}) (st.pairs.map (·.key))=true:=hq
        unfold LSt.q8h;rw[if_pos hq'];rfl
       rw[show (some q).getD z9l=q from rfl,e]
       exact i3
     |false=>
      rw[if_neg (by rw[hq];decide)]at gq
      rw[LSt.z2o hq]
      obtain⟨sp,sq,sa,rp,rq,ra,h1,h2,h3,h4,h5,h6,h7,h8,h9,h10,eF⟩:=hR.ex
      have a3:∀i:Nat,ld1 M (.ptr (some ⟨b,i⟩))=[sp,sq,sa,.int .u64 st.latest,.int .i64 st.most][i]?:=fun i=>q0j h1
      obtain⟨e,he,hs⟩:=uQ
      obtain⟨k,hk'⟩:∃k,k=lb q0c (x++y) (st.pairs.map (·.key)):=⟨_,rfl⟩
      have l0:=rrt_loop hR w (q2s w sx) (y:=y) (.ptr (some ⟨m.next,0⟩)) k 0 (by omega)
      rw[←hk']at l0
      have hkl:k≤(st.pairs.map (·.cells)).length:=by rw[List.length_map,hk'];have:=z7s (lt:=q0c) (x++y) (st.pairs.map (·.key));rw[List.length_map]at this;exact this
      obtain⟨u1,u2⟩:=h3.upTo he hs hkl
      obtain⟨v1,v2⟩:=h3.j0d he hs hkl
      have hlq:=w.lq
      obtain⟨s1,m1,s2,m2,s3,m3,rr3,q1,q2,q3,q4,f1,f2,f3,q5⟩:=j7p (w:=88) (by omega) h3 hkl u2 v2 (new:=(PairV.mk x y r s ⟨0,0⟩ ⟨0,0⟩).cells) rfl rfl (q26 (by rw[List.length_map];omega) (by decide))
      rw[←q55 (·.cells) k (PairV.mk x y r s ⟨0,0⟩ ⟨0,0⟩)]at q4
      obtain⟨m4,F',z1,z2,z3,z4⟩:=RefAt.pairs h1 h2 h4 h5 h7 h9 f3 q4 q5
      obtain⟨_,pq⟩:=g.q8h (q:={z9l with x:=x,y:=y,rate:=r,rscale:=s}) ⟨⟨hr,hrr,by simp[z9l,Wd.ok],by simp[z9l,Wd.ok],sx,sy⟩,hxy,by simp[z9l,Wd.val],by simp[z9l,Wd.val]⟩
      have pq':=pq hq
      have e:st.q8h {z9l with x:=x,y:=y,rate:=r,rscale:=s}={st with pairs:=q47 k (PairV.mk x y r s ⟨0,0⟩ ⟨0,0⟩) st.pairs}:=by
       rw[hk']
       show ({st with pairs:=(st.q8h {z9l with x:=x,y:=y,rate:=r,rscale:=s}).pairs}:LSt)=_
       rw[pq'];rfl
      have a31:∀i:Nat,ld1 m1 (.ptr (some ⟨b,i⟩))=[sp,sq,sa,.int .u64 st.latest,.int .i64 st.most][i]?:=fun i=>q0j (f1.get h1 (by simp))
      have a32:∀i:Nat,ld1 m2 (.ptr (some ⟨b,i⟩))=[sp,sq,sa,.int .u64 st.latest,.int .i64 st.most][i]?:=fun i=>q0j (f2.get h1 (by simp))
      have a33:∀i:Nat,ld1 (m1.lay (.cells (PairV.mk x y r s ⟨0,0⟩ ⟨0,0⟩).cells false)) (.ptr (some ⟨b,i⟩))=[sp,sq,sa,.int .u64 st.latest,.int .i64 st.most][i]?:=fun i=>q0j ((f1.step0 ((Fr.refl m1).lay _)).get h1 (by simp))
      have lD1:ldN m1 (.ptr (some ⟨m.next,0⟩)) 3=some (.agg (q02 r s)):=q1b (f1.get hD (by simp)) rfl
      have nM:=fM.next
      refine⟨m4,F',?_,?_,(fM.any F).step z3 (fun c hc=>.inl (by rw[eF];simp only[List.mem_singleton]at hc;simp[hc])),fun c hc=>?_⟩
      ·have bs:=q8q (n:=9) (zs:=[.str [],.str [],.int .i64 0,.int .u64 0,.int .i64 0,.int .i64 0,.int .u64 0,.int .i64 0,.int .u64 0]) (cs:=(PairV.mk x y r s ⟨0,0⟩ ⟨0,0⟩).cells) rfl rfl rfl
       simp only[PairV.cells]at bs q2 a33
       simp only[q02]at lD1
       simp only[Int.natCast_zero]at l0
       simp only[z4q (H:=H22) rfl,T.f33,q1h,q0a,ifV,w_f33,AV.cells,AV.one,lcs,if_true,Option.map_some,←hM,gx,gy,cx,cy]
       simp only[z1g (H:=H22),T.g33_0,q0a,z9c,df hxy]
       simp only[z6v (H:=H22),T.g33_1,q0a,j4z,lD,rr,decide_true,Bool.not_true]
       simp only[j6b (H:=H22),T.g33_2,nnA,q0a,w_g33_2,gq,df (show ¬(0:Int)≤-1 by omega)]
       simp only[g33_3_is (H:=H22),T.g33_3,w_g33_3,l0]
       simp only[g33_6_is (H:=H22),T.g33_6,q1,apE,q0r,AV.cells,Nat.reduceAdd,Nat.reduceLeDiff,nnA,w_g33_6,a3,u1,lD,lD1,AV.one,lcs,bs,a33,q2,a32,v1,q3,z1]
      ·rw[show (none:Option PairV).getD z9l=z9l from rfl,e]
       exact z2
      ·rcases z4 c hc with h|h|h|h
       ·exact .inl (by rw[eF,h];simp)
       ·exact .inl (by rw[eF];simp[h])
       ·exact .inl (by rw[eF];simp[h])
       ·exact .inr (by omega)
    ·rw[if_pos hz]
     simp only[z4q (H:=H22) rfl,T.f33,q1h,q0a,ifV,w_f33,AV.cells,AV.one,lcs,if_true,Option.map_some,←hM,gx,gy,cx,cy]
     simp only[z1g (H:=H22),T.g33_0,q0a,z9c,df hxy]
     simp only[z6v (H:=H22),T.g33_1,q1,q0a,j4z,lD,rr,df hz,Bool.not_false]
     exact done _
end
end
section
open Go Go.Abs
theorem mulV_nn {x y:Int} (k:Int) (hx:0<x) (hy:0<y):0≤mulV x y k:=by
 have h0:0≤x*y:=Int.mul_nonneg (by omega) (by omega)
 unfold mulV
 split
 ·unfold scF
  rw[df (show ¬x<0 by omega),df (show ¬y<0 by omega),if_neg (by decide)]
  have e1:q3a x=x:=if_neg (by omega)
  have e2:q3a y=y:=if_neg (by omega)
  rw[e1,e2]
  exact rhe_nn h0 k.toNat
 ·have t0:=q6g (-k).toNat
  exact Int.mul_nonneg h0 (by omega)
theorem crossD_nn {w:Wd} {s:Int} {v:Wd} {t n:Int} (h:(q4l w s v t n).2.2=0):0≤(q4l w s v t n).1.val:=by
 unfold q4l at h⊢
 split
 ·split
  ·split
   ·rename_i h2 h3
    have:=mulV_nn (s+t-n) h2 (z5h h3).2
    split
    ·rw[Wd.q18];exact this
    ·simp[Wd.val]
   ·simp[Wd.val]
  ·simp[Wd.val]
 ·simp[Wd.val]
theorem z9y {st:LSt} (g:LInv st) (i j:Int) (x:Wd) (s:Int):LInv (q4p st i j x s).2.2.2:=by
 unfold q4p
 rcases LSt.q10 g.w i with ⟨e,_⟩|⟨a,p,e,ga,gp,hid,hka,hpn,hkp,ma,mp⟩
 ·rw[e];exact g
 ·rcases LSt.q10 g.w j with ⟨e',_⟩|⟨a',p',e',ga',gp',hid',hka',hpn',hkp',ma',mp'⟩
  ·rw[e,e'];exact g
  ·rw[e,e']
   simp only[ne_eq,not_true_eq_false,if_false]
   split
   ·exact g
   rename_i hnn
   cases hq:st.getQ (p.name++p'.name) with
   |none=>exact g
   |some q=>
    simp only
    unfold convT
    split
    ·exact g
    split
    ·exact g
    dsimp only
    split
    ·exact g
    split
    ·exact g
    rename_i h1 h2 h3 h4
    have hf:q3b p x s=0:=by simpa using h1
    have hx:=(q6y hf).2
    have h3':(q4l x s q.rate q.rscale p'.scale).2.2=0:=by simpa using h3
    have hg:=crossD_nn h3'
    obtain⟨gw,hgw⟩:∃gw,gw=(q4l x s q.rate q.rscale p'.scale).1:=⟨_,rfl⟩
    rw[←hgw]at h4 hg⊢
    have f1:q4r a.bal q.inx x=true:=by cases h:q4r a.bal q.inx x with|true=>rfl|false=>exact absurd (.inl h) h4
    have f2:q4r q.outy a'.bal gw=true:=by cases h:q4r q.outy a'.bal gw with|true=>rfl|false=>exact absurd (.inr h) h4
    obtain⟨f3,f4⟩:=q7l f1
    obtain⟨f5,f6⟩:=q7l f2
    have hij:i≠j:=fun h=>hnn (by rw[h,e']at e;cases e;rfl)
    obtain⟨l1,l2⟩:=g.toLGood.setAA ga ga' hij (Wd.q44 f3) (Wd.q44 f6) (by rw[Wd.q18];omega) (by rw[Wd.q18];have:=(g.a1 a' ma').2;omega)
    obtain⟨q1,q2,q3⟩:=LSt.j3r hq
    have mq:=List.mem_of_getElem? q2
    have l3:=g.w.okq q mq
    have l4:=g.q1 q mq
    have np:q66 p.name=true:=(g.w.okp p mp).2.2.2
    have hxy:q.x=p.name∧q.y=p'.name:=List.append_inj q1 (by rw[q2s g.w l3.2.2.2.2.1,j1l np])
    obtain⟨l5,_⟩:=l1.q8h (q:={q with inx:=Wd.of (q.inx.val+x.val),outy:=Wd.of (q.outy.val-gw.val)}) ⟨⟨l3.1,l3.2.1,Wd.q44 f4,Wd.q44 f5,l3.2.2.2.2.1,l3.2.2.2.2.2⟩,l4.1,by rw[Wd.q18];omega,by rw[Wd.q18];omega⟩
    refine {toLGood:=l5,su:=?_}
    have hk:q1d q0c q.key (st.pairs.map (·.key))=true:=by rw[q1];exact q3
    refine g.z3l fun k=>?_
    show sA k ((st.q25 {a with bal:=Wd.of (a.bal.val-x.val)}).q25 {a' with bal:=Wd.of (a'.bal.val+gw.val)}).q0n+sQ k (if q1d q0c q.key (st.pairs.map (·.key))=true then _ else _)=_
    rw[if_pos hk]
    show _+sQ k (st.pairs.set (st.iQ q.key) _)=_
    rw[sQ_set q2 (q':={q with inx:=Wd.of (q.inx.val+x.val),outy:=Wd.of (q.outy.val-gw.val)}) rfl rfl,l2]
    simp only[Wd.q18,hxy.1,hxy.2,←hpn,←hpn']
    split<;>split<;>omega
end
section
set_option maxRecDepth 4000
open Go Go.Abs
def S23:List FuncId:=[77,67,15]
def R23:List FuncId:=[29,31,32,27,28,33]
noncomputable def H23:FuncId→Option (List AV→Mem→R):=q62 E22 S23 R23
noncomputable abbrev E23:Env:=T.EH H23
theorem E23_ok:EnvOk E23:=q4v E22_ok S23 R23
noncomputable abbrev D23:Do:=T.Rl H23
section
variable {H:FuncId→Option (List AV→Mem→R)} {m:Mem} {b:Nat} {st:LSt} {F:List Nat}
theorem j1w {f:FuncId} (h:H f=some (run E22 (.fn f))) (xs:List AV) (m:Mem):run (T.EH H) (.fn f) xs m=run E22 (.fn f) xs m:=q1t h xs m
theorem same_at (hh:H 15=some (q0v E22 15)) {sp sq sa tp tq ta:AV} {s t:LSt} (hs:BkV m sp sq sa s) (ht:BkV m tp tq ta t) (hn:j2h s) (M:Mem) (hM:Fr m M []) :
  run (T.EH H) (.fn 15) [.agg [sp,sq,sa,.int .u64 s.latest],.agg [tp,tq,ta,.int .u64 t.latest]] M=some (.bool (z8k s t),M):=
 q0s hh (by simp[AV.flat,AV.lt]) fun m2 h1 h2=>same_is ((hs.q0p hM).q0p (Fr.same h1 h2)) ((ht.q0p hM).q0p (Fr.same h1 h2)) hn
end
theorem rcross_at {H:FuncId→Option (List AV→Mem→R)} (h:H 77=some (q0v E22 77)) {w v:Wd} (hw:w.ok) (hv:v.ok) (s t n:Int) (m:Mem) :
  run (T.EH H) (.fn 77) [.agg (q02 w s),.agg (q02 v t),.int .i64 n] m=some (.tup [.agg (q02 (q4l w s v t n).1 (q4l w s v t n).2.1),.int .i64 (q4l w s v t n).2.2],m):=by
 rw[←z9z]
 exact q0s h (by rw[z9z];simp[AV.flat,AV.lt,AV.lts,q02]) fun m2 _ _=>rcross_is hw hv s t n m2
theorem uA:∃e,Tryz.prog.underlying 25=some (.slice e)∧szT Tryz.prog e=some 4:=⟨54,by kernel_rfl,by kernel_rfl⟩
theorem LSt.setA_comm {st:LSt} {a a':AccV} {i j:Int} (ga:st.q7y i=some a) (ga':st.q7y j=some a') (hij:i≠j) (n n':Wd):(st.q25 {a with bal:=n}).q25 {a' with bal:=n'}=(st.q25 {a' with bal:=n'}).q25 {a with bal:=n}:=by
 obtain⟨e1,g1⟩:=LSt.q2i ga
 obtain⟨e2,g2⟩:=LSt.q2i ga'
 have ne:st.iA a.id≠st.iA a'.id:=fun e=>by
  rw[e,g2]at g1;cases g1;exact hij (e1.symm.trans e2)
 have hk:∀{i:Int} {a:AccV},st.q7y i=some a→q1d q0f a.id (st.q0n.map (·.id))=true:=fun {i a} ga=>by
  have e1:=(LSt.q2i ga).1
  cases hk:q1d q0f a.id (st.q0n.map (·.id)) with
  |true=>rfl
  |false=>rw[←e1,LSt.q3p hk]at ga;cases ga
 have k1:=hk ga
 have k2:=hk ga'
 have h1:(st.q25 {a with bal:=n}).iA a'.id=st.iA a'.id:=by
  unfold LSt.iA
  rw[LSt.q39 (st:=st) (a:={a with bal:=n}) k1]
 have h2:(st.q25 {a' with bal:=n'}).iA a.id=st.iA a.id:=by
  unfold LSt.iA
  rw[LSt.q39 (st:=st) (a:={a' with bal:=n'}) k2]
 show ({st with q0n:=(st.q0n.set (st.iA a.id) {a with bal:=n}).set ((st.q25 {a with bal:=n}).iA a'.id) {a' with bal:=n'}}:LSt)={st with q0n:=(st.q0n.set (st.iA a'.id) {a' with bal:=n'}).set ((st.q25 {a' with bal:=n'}).iA a.id) {a with bal:=n}}
 rw[h1,h2,List.set_comm _ _ ne]
section
variable {m:Mem} {b:Nat} {st:LSt} {F:List Nat}
theorem rconv_put {M:Mem} {n:Nat} (h:RefAt M b st F) (hF:∀c,c∈F→c<n) {i j:Int} {a a':AccV} {q:PairV} (ga:st.q7y i=some a) (ga':st.q7y j=some a') (hij:i≠j) {k:List UInt8} (gq:st.getQ k=some q) {x:Wd} (hab:a.bal.ok) (hx:x.ok) {s:Int}
  (hfx:q1c (a.bal.val-x.val)=true) {gw nin nout nto:Wd} {gs:Int} (hD:M.get n=some (.cells (q02 x s) false)) (hZ:M.get (n+1)=some (.cells z3 false)) (hG:M.get (n+2)=some (.cells (q02 gw gs) false))
  (h3:M.get (n+3)=some (.cells nin.cells false)) (h4:M.get (n+4)=some (.cells nout.cells false)) (h5:M.get (n+5)=some (.cells nto.cells false)) :
  ∃m',D23.gor 139270 [.ptr (some ⟨b,0⟩),.ptr (some ⟨n,0⟩),.ptr (some ⟨n+1,0⟩),.int .i64 ((st.iA i:Nat):Int),.int .i64 ((st.iA j:Nat):Int),.int .i64 ((st.iQ k:Nat):Int),.ptr (some ⟨n+2,0⟩),.ptr (some ⟨n+3,0⟩),.ptr (some ⟨n+4,0⟩),.ptr (some ⟨n+5,0⟩)] M=some (.tup [.agg (q02 gw gs),.int .i64 0],m')∧
   RefAt m' b (((st.q25 {a with bal:=Wd.of (a.bal.val-x.val)}).q25 {a' with bal:=nto}).q8h {q with inx:=nin,outy:=nout}) F∧Fr M m' ((n+1)::F):=by
 obtain⟨e1,g1⟩:=LSt.q2i ga
 obtain⟨e2,g2⟩:=LSt.q2i ga'
 obtain⟨e3,g3,g4⟩:=LSt.j3r gq
 obtain⟨sp,sq,sa,rp,rq,ra,k1,k2,k3,k4,k5⟩:=h.ex
 obtain⟨ea,uA1,uA2⟩:=uA
 rw[e1]at g1
 rw[e2]at g2
 rw[e3]at g3
 obtain⟨ba,r1,r2,r3,r4,r5⟩:=k4.reads uA1 uA2 (f:=AccV.cells) g1
 obtain⟨ba',r1',r2',r3',r4',r5'⟩:=k4.reads uA1 uA2 (f:=AccV.cells) g2
 rw[r1]at r1'
 cases r1'
 obtain⟨nf,hnf⟩:∃nf,nf=Wd.of (a.bal.val-x.val):=⟨_,rfl⟩
 have su:=fun m=>q9m (H:=H23) rfl hab hx m
 rw[q2b hfx,←hnf]at su
 rw[←hnf]
 obtain⟨M1,hM1⟩:∃M1,M1=M.lay (.cells nf.cells false):=⟨_,rfl⟩
 have f1:Fr M M1 []:=by rw[hM1];exact(Fr.refl M).lay _
 have lZ:=Mem.q0w h5
 have kb1:=f1.get k1 (by simp)
 have nF:∀c,n≤c→c∉F:=fun c hc hm=>by have:=hF c hm;omega
 obtain⟨b1,m1,i1,i2,i3,i4,i5,i6⟩:=RefAt.stQ (h.q0p f1) kb1 (i:=st.iQ k) (q:=q) (q':={q with inx:=nin}) g3 (o:=5) (vs:=nin.cells) (by simp[Wd.cells]) rfl (by simp[PairV.cells,Wd.cells])
 have kb2:=i6.trans kb1
 obtain⟨b2,m2,j1,j2,j3,j4,j5,j6⟩:=RefAt.stQ i3 kb2 (i:=st.iQ k) (q:={q with inx:=nin}) (q':={q with inx:=nin,outy:=nout}) (by
  show (st.pairs.set _ _)[_]? = _
  rw[List.getElem?_set_self (List.getElem?_eq_some_iff.1 g3).1]) (o:=7) (vs:=nout.cells) (by simp[Wd.cells]) rfl (by simp[PairV.cells,Wd.cells])
 have kb3:=j6.trans kb2
 obtain⟨st2,hst2⟩:∃st2,st2=({st with pairs:=st.pairs.set (st.iQ k) {q with inx:=nin,outy:=nout}}:LSt):=⟨_,rfl⟩
 have j3':RefAt m2 b st2 F:=by rw[hst2];simpa only [List.set_set]using j3
 have ga2:st2.q7y i=some a:=by rw[hst2];exact ga
 have ga2':st2.q7y j=some a':=by rw[hst2];exact ga'
 obtain⟨b3,m3,l1,l2,l3,l4,l5,l6⟩:=j3'.stA (by rw[hst2];exact kb3) (a:=a') (LSt.q2i ga2').2 nto
 have kb4:=l6.trans kb3
 have hkj:q1d q0f a'.id (st2.q0n.map (·.id))=true:=by
  cases hk:q1d q0f a'.id (st2.q0n.map (·.id)) with
  |true=>rfl
  |false=>have:=LSt.q3p hk;rw[e2,ga2']at this;cases this
 have ne:st2.iA a.id≠st2.iA a'.id:=fun e=>by
  have h1:=(LSt.q2i ga2).2
  rw[e,(LSt.q2i ga2').2]at h1;cases h1;exact hij (e1.symm.trans e2)
 have hi2:(st2.q25 {a' with bal:=nto}).iA a.id=st2.iA a.id:=by
  unfold LSt.iA
  rw[LSt.q39 (st:=st2) (a:={a' with bal:=nto}) hkj]
 have hl2:(st2.q25 {a' with bal:=nto}).q0n.length=st2.q0n.length:=List.length_set ..
 obtain⟨b4,m4,o1,o2,o3,o4,o5,o6⟩:=l3.stA (by rw[hst2];exact kb4) (a:=a) (by
  rw[hi2]
  show (st2.q0n.set _ _)[_]? = _
  rw[List.getElem?_set_ne (fun e=>ne e.symm)];exact(LSt.q2i ga2).2) nf
 have kb5:=o6.trans kb4
 have fin:(st2.q25 {a' with bal:=nto}).q25 {a with bal:=nf}=((st.q25 {a with bal:=nf}).q25 {a' with bal:=nto}).q8h {q with inx:=nin,outy:=nout}:=by
  rw[←LSt.setA_comm ga2 ga2' hij,hst2]
  have hk:q1d q0c (PairV.key {q with inx:=nin,outy:=nout}) (st.pairs.map (·.key))=true:=by rw[←e3]at g4;exact g4
  unfold LSt.q8h
  have hp:(LSt.pairs ((st.q25 {a with bal:=nf}).q25 {a' with bal:=nto}))=st.pairs:=rfl
  rw[hp,if_pos hk]
  show _=({((st.q25 {a with bal:=nf}).q25 {a' with bal:=nto}) with pairs:=st.pairs.set (st.iQ q.key) {q with inx:=nin,outy:=nout}}:LSt)
  rw[e3];rfl
 rw[fin]at o3
 have c1:st2.iA a'.id=st.iA j:=by rw[e2,hst2];rfl
 have c2:st2.iA a.id=st.iA i:=by rw[e1,hst2];rfl
 rw[c1]at l2
 rw[hi2,c2]at o2
 have eb:b3=ba∧b4=ba:=by
  obtain⟨_,_,_,_,_,ra2,z1,_,_,z4,_⟩:=j3'.ex
  rcases k4.2 with ⟨_,z,_⟩|⟨bz,z,zz,_⟩
  ·rw[r1]at z;cases z
  ·rw[r1]at z
   cases z
   rw[zz]at l1 o1
   simp only[AV.sl.injEq,Option.some.injEq,AA.mk.injEq,and_true]at l1 o1
   exact⟨l1.1.symm,o1.1.symm⟩
 obtain⟨rfl,rfl⟩:=eb
 have eq2:b2=b1:=by
  have h1:=i1 .i64
  have h2:=j1 .i64
  rw[h1]at h2
  simp only[Option.some.injEq,AV.ptr.injEq,AA.mk.injEq,and_true]at h2
  exact h2.symm
 subst eq2
 have fx1:Fr M m1 F:=(f1.any F).step i4 (fun c hc=>.inl hc)
 have fx2:Fr M m2 F:=fx1.step j4 (fun c hc=>.inl hc)
 have fx3:Fr M m3 F:=fx2.step l4 (fun c hc=>.inl hc)
 have fx4:Fr M m4 F:=fx3.step o4 (fun c hc=>.inl hc)
 have n1:=f1.next
 have nm1:M1.get M.next=some (.cells nf.cells false):=by rw[hM1];exact q0d _ _
 have lF:∀c,c∈F→c<M.next:=fun c hc=>by have:=hF c hc;omega
 have nm4:=o4.get (l4.get (j4.get (i4.get nm1 (fun hc=>by have:=lF _ hc;omega)) (fun hc=>by have:=lF _ hc;omega)) (fun hc=>by have:=lF _ hc;omega)) (fun hc=>by have:=lF _ hc;omega)
 have nm3:=l4.get (j4.get (i4.get nm1 (fun hc=>by have:=lF _ hc;omega)) (fun hc=>by have:=lF _ hc;omega)) (fun hc=>by have:=lF _ hc;omega)
 have d0:ldN M (.ptr (some ⟨n,0⟩)) 2=some (.agg x.cells):=by rw[q1v hD (by simp[q02])];rfl
 have d1:ldN M1 (.ptr (some ⟨n+3,0⟩)) 2=some (.agg nin.cells):=q1b (f1.get h3 (by simp)) rfl
 have d2:ldN m1 (.ptr (some ⟨n+4,0⟩)) 2=some (.agg nout.cells):=q1b (fx1.get h4 (nF _ (by omega))) rfl
 have d3:ldN m2 (.ptr (some ⟨n+5,0⟩)) 2=some (.agg nto.cells):=q1b (fx2.get h5 (nF _ (by omega))) rfl
 have d4:ldN m3 (.ptr (some ⟨M.next,0⟩)) 2=some (.agg nf.cells):=q1b nm3 rfl
 have d5:ldN m4 (.ptr (some ⟨n+2,0⟩)) 3=some (.agg (q02 gw gs)):=q1b (fx4.get hG (nF _ (by omega))) rfl
 have z4:=fx4.get hZ (nF _ (by omega))
 have s8:=q1w (n:=3) (v:=q02 gw gs) z4 rfl rfl rfl
 have l8:ldN (m4.put (n+1) (some (.cells (q02 gw gs) false))) (.ptr (some ⟨n+1,0⟩)) 3=some (.agg (q02 gw gs)):=q1b (q05 z4) rfl
 have a0:∀i:Nat,ld1 M (.ptr (some ⟨b,i⟩))=[sp,sq,sa,.int .u64 st.latest,.int .i64 st.most][i]?:=fun i=>q0j k1
 have a1:∀i:Nat,ld1 M1 (.ptr (some ⟨b,i⟩))=[sp,sq,sa,.int .u64 st.latest,.int .i64 st.most][i]?:=fun i=>q0j kb1
 have a2:∀i:Nat,ld1 m1 (.ptr (some ⟨b,i⟩))=[sp,sq,sa,.int .u64 st.latest,.int .i64 st.most][i]?:=fun i=>q0j kb2
 have a3:∀i:Nat,ld1 m2 (.ptr (some ⟨b,i⟩))=[sp,sq,sa,.int .u64 st.latest,.int .i64 st.most][i]?:=fun i=>q0j kb3
 have a4:∀i:Nat,ld1 m3 (.ptr (some ⟨b,i⟩))=[sp,sq,sa,.int .u64 st.latest,.int .i64 st.most][i]?:=fun i=>q0j kb4
 have s0:stV (M.lay (.cells [.int .i64 0,.int .u64 0] false)) (.ptr (some ⟨M.next,0⟩)) (.agg nf.cells) 2=some M1:=by rw[q1w (n:=2) (q0d M _) rfl rfl rfl,q1m,hM1]
 have bal:=r5 M (Fr.refl M) 2 2 (by omega)
 refine⟨_,?_,o3.frame (Fr.put m4 (n+1) (some (.cells (q02 gw gs) false))) (fun c hc=>by simp only[List.mem_singleton];rintro rfl;exact nF _ (by omega) hc),((fx4.mono (T:=(n+1)::F) (by simp +contextual)).put' (.inl (by simp)))⟩
 simp only[AccV.cells,Wd.cells,q02,List.drop_succ_cons,List.drop_zero,List.take_succ_cons,List.take_zero,List.length_cons,List.length_nil,Nat.zero_add,Nat.reduceAdd]at bal d0 d1 d2 d3 d4 d5 s0 s8 l8 i2 j2 l2 o2 su⊢
 simp only[g34_6_is (H:=H23),T.g34_6,p1,q1,p2,pB,nnA,q0g,q1g,q1i,w_g34_6,a0,a1,a2,a3,a4,r3,r3',i1,bal,d0,su,s0,d1,d2,d3,d4,d5,i2,j2,l2,o2,s8,l8]
end
end
end Go.Proofs.YtlginbmjiecglaaGreatDoor
