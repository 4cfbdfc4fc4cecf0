/- Texts of one claim, put together. -/
import Derived.Test.YtlginbmjiecglaaGreatDoorQ23
namespace Go.Proofs.YtlginbmjiecglaaGreatDoor
section
set_option maxRecDepth 4000
open Go Go.Abs
section
variable {m:Mem} {b:Nat} {st:LSt} {F:List Nat}
theorem uQ:∃e,Tryz.prog.underlying 24=some (.slice e)/\szT Tryz.prog e=some 9:=⟨74,by kernel_rfl,by kernel_rfl⟩
theorem q0L.stQ (h:q0L m b st F) {sp sq sa:AV} (hb:m.get b=some (.cells [sp,sq,sa,.int .u64 st.latest,.int .i64 st.most] false)) {i:Nat} {q q':q0N} (gq:st.pairs[i]? = some q) {o:Nat} {vs:List AV} (ho:o+vs.length<=9) (hv:vs.all AV.one=true)
  (hq':q.cells.take o++vs++q.cells.drop (o+vs.length)=q'.cells) :
  ∃bb m1,(∀k:IntKind,q0M Tryz.prog 24 sq (.int k (i:Int))=some (.ptr (some ⟨bb,i*9⟩)))/\stV m (.ptr (some ⟨bb,i*9+o⟩)) (.agg vs) vs.length=some m1/\q0L m1 b {st with pairs:=st.pairs.set i q'} F/\Fr m m1 F/\m1.next=m.next/\m1.get b=m.get b:=by
 obtain⟨sp',sq',sa',rp,rq,ra,h1,h2,h3,h4,h5,h6,h7,h8,h9,h10,rfl⟩:=h.ex;rw[h1]at hb;simp only[xoi,Blk.cells.injEq,List.cons.injEq,and_true]at hb;obtain⟨rfl,rfl,rfl⟩:=hb;obtain⟨hlt,hga⟩:=xgi.1 gq;obtain⟨bb,e1,e2,e3⟩:=h3.sto (i:=i) (by rw[xlm];exact hlt) (o:=o) (vs:=vs) ho hv;obtain⟨e,he,hs⟩:=uQ;obtain⟨bb',f1,f2⟩:=h3.ixT he hs (i:=i) (by rw[xlm];exact hlt);rw[e1]at f1;cases f1;have hv':(st.pairs.map (·.cells)).set i (((st.pairs.map fun x:q0N=>x.cells)[i]'(by rw[xlm];exact hlt)).take o++vs++((st.pairs.map fun x:q0N=>x.cells)[i]'(by rw[xlm];exact hlt)).drop (o+vs.length))=(st.pairs.set i q').map (·.cells):=by
  rw[xgm,hga,hq',List.map_set]
 rw[hv']at e2 e3;have hbb:bb≠b:=fun e=>h6 (by rw[e1,e];simp)
 have hf:Fr m (m.put bb (some (.cells ((st.pairs.set i q').map (·.cells)).flatten false))) [bb]:=Fr.put _ _ _;refine⟨bb,_,f2,e2,⟨sp',sq',sa',rp,rq,ra,hf.get h1 (by simp;exact fun e=>hbb e.symm),h2.frame hf (fun c hc=>?_),e3,h4.frame hf (fun c hc=>?_),h5,h6,h7,h8,h9,h10,rfl⟩,hf.mono (fun c hc=>?_),rfl,?_⟩
 ·simp only[xms];rintro rfl;exact h8 c (by rw[hc];simp) (by rw[e1];simp)
 ·simp only[xms];rintro rfl;exact h10 c (by rw[e1];simp) (by rw[hc];simp)
 ·simp only[xms]at hc;subst hc;rw[e1];simp
 ·exact q1U (fun e=>hbb e.symm)
theorem q0L.pairs {sp sq sa sq':AV} {rp ra:Option Nat} {r:Nat} {qs:List q0N} {m':Mem} (h1:m.get b=some (.cells [sp,sq,sa,.int .u64 st.latest,.int .i64 st.most] false)) (h2:q03 4 m sp (st.q0b.map (·.cells)) rp) (h4:q03 4 m sa (st.q0p.map (·.cells)) ra)
  (h5:b∉rp.toList) (h7:b∉ra.toList) (h9:Dj rp.toList ra.toList) (hf:Fr m m' []) (hr:q03 9 m' sq' (qs.map (·.cells)) (some r)) (hn:m.next<=r) :
  ∃m2 F',stV m' (.ptr (some ⟨b,1⟩)) sq' 1=some m2/\q0L m2 b {st with pairs:=qs} F'/\Fr m m2 [b]/\∀c,c∈F'->c=b\/c∈rp.toList\/c∈ra.toList\/m.next<=c:=by
 have B:=hf.get h1 (by simp);have hb:=Mem.q0x h1;have s1:=hr.one;have lp:∀c,c∈rp.toList->c<m.next:=fun c hc=>by rw[Option.mem_toList]at hc;subst hc;exact h2.lt
 have la:∀c,c∈ra.toList->c<m.next:=fun c hc=>by rw[Option.mem_toList]at hc;subst hc;exact h4.lt
 have sv:stV m' (.ptr (some ⟨b,1⟩)) sq' 1=some (m'.put b (some (.cells [sp,sq',sa,.int .u64 st.latest,.int .i64 st.most] false))):=by
  have:=q1l (v:=sq') (vs:=[sq']) (o:=1) (n:=1) B (q3R s1) rfl (by simp);simpa using this
 have fp:Fr m' (m'.put b (some (.cells [sp,sq',sa,.int .u64 st.latest,.int .i64 st.most] false))) [b]:=Fr.put _ _ _;have fA:Fr m (m'.put b (some (.cells [sp,sq',sa,.int .u64 st.latest,.int .i64 st.most] false))) [b]:=(hf.any _).step fp (fun c hc=>.inl hc)
 have nb:∀{r:Option Nat},b∉r.toList->∀c,r=some c->c∉[b]:=fun hr c hc=>by simp only[xms];rintro rfl;exact hr (by rw[hc];simp)
 refine⟨_,b::(rp.toList++(some r).toList++ra.toList),sv,⟨sp,sq',sa,rp,some r,ra,q0v B,h2.frame fA (nb h5),hr.frame fp (fun c hc=>by cases hc;simp;omega),h4.frame fA (nb h7),h5,by simp;omega,h7,?_,h9,?_,rfl⟩,fA,?_⟩
 ·intro c h1' h2';simp only[Option.toList_some,xms]at h2';have:=lp c h1';omega
 ·intro c h1' h2';simp only[Option.toList_some,xms]at h1';have:=la c h2';omega
 ·intro c hc;simp only[xmk0,xma,Option.toList_some,List.not_mem_nil,or_false]at hc;rcases hc with hc|(hc|hc)|hc
  ·exact .inl hc
  ·exact .inr (.inl hc)
  ·exact .inr (.inr (.inr (by omega)))
  ·exact .inr (.inr (.inl hc))
theorem j6T (h:q0L m b st F) (w:LWf st) {x y:List UInt8} (hx:x.length=3) (t7:AV):∀(d k:Nat),k+d=lb q0c (x++y) (st.pairs.map (·.key))->
  D22.gor 135172 [.ptr (some ⟨b,0⟩),.str x,.str y,t7,.int .i64 (k:Int)] m=D22.gor 135174 [.ptr (some ⟨b,0⟩),.str x,.str y,t7,.int .i64 ((lb q0c (x++y) (st.pairs.map (·.key)):Nat):Int)] m:=by
 obtain⟨sp,sq,sa,rp,rq,ra,h1,h2,h3,h4,h5⟩:=h.ex;have a3:∀i:Nat,ld1 m (.ptr (some ⟨b,i⟩))=[sp,sq,sa,.int .u64 st.latest,.int .i64 st.most][i]?:=fun i=>q0g h1
 obtain⟨e,he,hs⟩:=uQ;have hle:=z0f (lt:=q0c) (x++y) (st.pairs.map (·.key));rw[xlm]at hle;have hlq:=w.lq;have hlen:=h3.v.q2s he;rw[xlm]at hlen;have key:∀k (hlt:k<st.pairs.length),q0c st.pairs[k].key (x++y)=(q0c st.pairs[k].x x||(decide (st.pairs[k].x=x)&&q0c st.pairs[k].y y)):=fun k hlt=>by
  have:=q1j w (w.okq st.pairs[k] (List.getElem_mem hlt)).2.2.2.2.1;unfold q0N.key;rw[q3N (by omega)]
 intro d;induction d with
 |zero=>
  intro k hk;have:k=lb q0c (x++y) (st.pairs.map (·.key)):=by omega
  rw[<-this];by_cases hlt:k<st.pairs.length
  ·obtain⟨bb,o,_,x2,x3,_,_⟩:=h3.v.ixT he hs (i:=k) (by rw[xlm];exact hlt);have x4:=x3 0 (by omega);have x5:=x3 1 (by omega);rw[xgm]at x4 x5;have hat:=j6m (lt:=q0c) (k:=x++y) (ks:=st.pairs.map (·.key)) (by rw[xlm];omega);simp only[<-this,xgm]at hat;rw[key k hlt,Bool.or_eq_false_iff]at hat;simp only[ge,q0N.cells,xna]at x4 x5;by_cases hxx:st.pairs[k].x=x
   ·have h9:=hat.2;rw[dt hxx,Bool.true_and]at h9;simp only[q5F (H:=H22),T.z7v,p1,q1,p2,nnA,q0a,ifV,q0e,a3,hlen,dt (show (k:Int)<(st.pairs.length:Int) by omega),x2,x4,x5,hat.1,dt hxx,h9]
   ·simp only[q5F (H:=H22),T.z7v,p1,q1,p2,nnA,q0a,ifV,q0e,a3,hlen,dt (show (k:Int)<(st.pairs.length:Int) by omega),x2,x4,x5,hat.1,df hxx]
  ·simp only[q5F (H:=H22),T.z7v,p1,q1,p2,nnA,q0a,ifV,q0e,a3,hlen,df (show ¬(k:Int)<(st.pairs.length:Int) by omega)]
 |succ d ih=>
  intro k hk;have hlt:k<st.pairs.length:=by omega
  obtain⟨bb,o,_,x2,x3,_,_⟩:=h3.v.ixT he hs (i:=k) (by rw[xlm];exact hlt);have x4:=x3 0 (by omega);have x5:=x3 1 (by omega);rw[xgm]at x4 x5;have hbe:=q7l (lt:=q0c) (k:=x++y) (ks:=st.pairs.map (·.key)) (j:=k) (by rw[xlm];omega) (by omega);rw[xgm,key k hlt]at hbe;simp only[ge,q0N.cells,xna]at x4 x5;have nx:D22.gor 135173 [.ptr (some ⟨b,0⟩),.str x,.str y,t7,.int .i64 (k:Int)] m=D22.gor 135174 [.ptr (some ⟨b,0⟩),.str x,.str y,t7,.int .i64 ((lb q0c (x++y) (st.pairs.map (·.key)):Nat):Int)] m:=by
   simp only[j4G (H:=H22),T.a7R,p2,wp,show (k:Int)+1=((k+1:Nat):Int) by omega,wrap_i64 (n:=((k+1:Nat):Int)) (by omega) (by omega)];exact ih (k+1) (by omega)
  cases hxl:q0c st.pairs[k].x x with
  |true=>simp only[q5F (H:=H22),T.z7v,p1,q1,p2,nnA,q0a,ifV,q0e,a3,hlen,dt (show (k:Int)<(st.pairs.length:Int) by omega),x2,x4,x5,hxl,nx]
  |false=>
   rw[hxl,Bool.false_or,Bool.and_eq_true]at hbe;simp only[q5F (H:=H22),T.z7v,p1,q1,p2,nnA,q0a,ifV,q0e,a3,hlen,dt (show (k:Int)<(st.pairs.length:Int) by omega),x2,x4,x5,hxl,hbe.1,hbe.2,nx]
theorem j84 (h:q0L m b st F) (g:LGood st) (x y:List UInt8) {r:Wd} (hr:r.ok) (s:Int) :
  ∃m' F',run E22 (.fn 33) [.ptr (some ⟨b,0⟩),.str x,.str y,.agg (q0u r s)] m=some (.int .i64 (q6r st x y r s).1,m')/\q0L m' b (q6r st x y r s).2 F'/\Fr m m' F/\∀c,c∈F'->c∈F\/m.next<=c:=by
 have w:=g.w;have hF:=h.lt;obtain⟨M,hM⟩:∃M,M=m.lay (.cells (q0u r s) false):=⟨_,rfl⟩;have fM:Fr m M []:=by rw[hM];exact(Fr.refl m).lay _
 have hR:=h.q0h fM;have gx:=q6X (H:=H22) rfl hR (by have:=w.lp;omega) x M (Fr.refl _);have gy:=q6X (H:=H22) rfl hR (by have:=w.lp;omega) y M (Fr.refl _);have gq:=a3U (H:=H22) rfl hR (by have:=w.lq;omega) x y M (Fr.refl _);have rr:=z6G (H:=H22) rfl hr s M;have hD:M.get m.next=some (.cells (q0u r s) false):=by rw[hM];exact q0f _ _
 have lD:ldN M (.ptr (some ⟨m.next,0⟩)) 3=some (.agg (q0u r s)):=q0A hD rfl
 have done:∀v:AV,∃m' F',some (v,M)=some (v,m')/\q0L m' b st F'/\Fr m m' F/\∀c,c∈F'->c∈F\/m.next<=c:=fun v=>⟨M,F,rfl,hR,fM.any F,fun c hc=>.inl hc⟩
 have cm:=dt (show (-1:Int)<0 by omega);unfold q6r;rw[show q4H r s=q2Z r s from rfl];simp only[q0u]at hM lD rr⊢;cases hx:q0O q0c x (st.q0b.map (·.name)) with
 |false=>
  rw[q8c w hx]at gx;rw[LSt.q1K hx];rw[if_pos (.inl rfl)];simp only[q8R (H:=H22) rfl,T.f33,p2,q0K,q0a,ifV,wp,AV.cells,AV.one,lcs,if_true,xom,<-hM,gx,cm];exact done _
 |true=>
  obtain⟨p,p1,p2,p3,p4⟩:=LSt.q1p hx;rw[q6W w hx]at gx;have cx:=df (show ¬((st.iP x:Nat):Int)<0 by omega);have sx:(st.q2o x).isSome=true:=by rw[p1];rfl
  cases hy:q0O q0c y (st.q0b.map (·.name)) with
  |false=>
   rw[q8c w hy]at gy;rw[LSt.q1K hy,if_pos (.inr rfl)];simp only[q8R (H:=H22) rfl,T.f33,q0K,q0a,ifV,wp,AV.cells,AV.one,lcs,if_true,xom,<-hM,gx,gy,cm,cx];exact done _
  |true=>
   obtain⟨p',p1',_⟩:=LSt.q1p hy;rw[q6W w hy]at gy;have cy:=df (show ¬((st.iP y:Nat):Int)<0 by omega);have sy:(st.q2o y).isSome=true:=by rw[p1'];rfl
   rw[if_neg (by rw[sx,sy];simp)];by_cases hxy:x=y
   ·rw[if_pos hxy];simp only[q8R (H:=H22) rfl,T.f33,q0K,q0a,ifV,wp,AV.cells,AV.one,lcs,if_true,xom,<-hM,gx,gy,cx,cy];simp only[q7b (H:=H22),T.j1s,q0a,wp,dt hxy];exact done _
   ·rw[if_neg hxy];by_cases hz:q2Z r s=0
    ·rw[if_neg (by simp[hz])];rw[hz]at rr;rw[a3O w sx sy]at gq;have hrr:q5W r s=true:=q5U hz;cases hq:q0O q0c (x++y) (st.pairs.map (·.key)) with
     |true=>
      obtain⟨q,q1,q2,q3,q4⟩:=LSt.q2V hq;have l3:=w.okq q q4;have hxq:q.x=x/\q.y=y:=List.append_inj q2 (by rw[q1j w l3.2.2.2.2.1,q1j w sx]);have q3':st.pairs[st.iQ (x++y)]? = some q:=q3;rw[if_pos hq]at gq;obtain⟨sp,sq,sa,hb,_⟩:=hR.v;have a3:∀i:Nat,ld1 M (.ptr (some ⟨b,i⟩))=[sp,sq,sa,.int .u64 st.latest,.int .i64 st.most][i]?:=fun i=>q0g hb
      obtain⟨bb,m1,i1,i2,i3,i4,_,_⟩:=q0L.stQ hR hb (q':={q with x:=x,y:=y,rate:=r,q1h:=s}) q3' (o:=2) (vs:=q0u r s) (by simp[q0u]) rfl (by simp[q0N.cells,q0u,hxq.1,hxq.2])
      refine⟨m1,F,?_,?_,(fM.any F).step i4 (fun c hc=>.inl hc),fun c hc=>.inl hc⟩
      ·simp only[q0u,List.length_cons,List.length_nil,xnz,Nat.reduceAdd]at i2;simp only[q8R (H:=H22) rfl,T.f33,q0K,q0a,ifV,wp,AV.cells,AV.one,lcs,if_true,xom,<-hM,gx,gy,cx,cy];simp only[q7b (H:=H22),T.j1s,q0a,wp,df hxy];simp only[q9O (H:=H22),T.j4E,q0a,wp,lD,rr,decide_true,xbt];simp only[z5h (H:=H22),T.a04,nnA,q0a,q0e,gq,dt (show (0:Int)<=((st.iQ (x++y):Nat):Int) by omega),a3,lD,i1,i2]
      ·rw[q1];show q0L m1 b (st.q5b _) F;have e:st.q5b {q with x:=x,y:=y,rate:=r,q1h:=s}={st with pairs:=st.pairs.set (st.iQ (x++y)) {q with x:=x,y:=y,rate:=r,q1h:=s}}:=by
        have hq':q0O q0c (q0N.key {q with x:=x,y:=y,rate:=r,q1h:=s}) (st.pairs.map (·.key))=true:=hq
        unfold LSt.q5b;rw[if_pos hq'];rfl
       rw[show (some q).getD q8C=q from rfl,e];exact i3
     |false=>
      rw[if_neg (by rw[hq];decide)]at gq;rw[LSt.q3o hq];obtain⟨sp,sq,sa,rp,rq,ra,h1,h2,h3,h4,h5,h6,h7,h8,h9,h10,eF⟩:=hR.ex;have a3:∀i:Nat,ld1 M (.ptr (some ⟨b,i⟩))=[sp,sq,sa,.int .u64 st.latest,.int .i64 st.most][i]?:=fun i=>q0g h1
      obtain⟨e,he,hs⟩:=uQ;obtain⟨k,hk'⟩:∃k,k=lb q0c (x++y) (st.pairs.map (·.key)):=⟨_,rfl⟩;have l0:=j6T hR w (q1j w sx) (y:=y) (.ptr (some ⟨m.next,0⟩)) k 0 (by omega)
      rw[<-hk']at l0;have hkl:k<=(st.pairs.map (·.cells)).length:=by rw[xlm,hk'];have:=z0f (lt:=q0c) (x++y) (st.pairs.map (·.key));rw[xlm]at this;exact this
      obtain⟨u1,u2⟩:=h3.upTo he hs hkl;obtain⟨v1,v2⟩:=h3.q8z he hs hkl;have hlq:=w.lq;obtain⟨s1,m1,s2,m2,s3,m3,rr3,q1,q2,q3,q4,f1,f2,f3,q5⟩:=z6p (w:=88) (by omega) h3 hkl u2 v2 (new:=(q0N.mk x y r s ⟨0,0⟩ ⟨0,0⟩).cells) rfl rfl (q1v (by rw[xlm];omega) (by decide));rw[<-q2K (·.cells) k (q0N.mk x y r s ⟨0,0⟩ ⟨0,0⟩)]at q4;obtain⟨m4,F',z1,z2,z3,z4⟩:=q0L.pairs h1 h2 h4 h5 h7 h9 f3 q4 q5
      obtain⟨_,pq⟩:=g.q5b (q:={q8C with x:=x,y:=y,rate:=r,q1h:=s}) ⟨⟨hr,hrr,by simp[q8C,Wd.ok],by simp[q8C,Wd.ok],sx,sy⟩,hxy,by simp[q8C,Wd.val],by simp[q8C,Wd.val]⟩
      have pq':=pq hq;have e:st.q5b {q8C with x:=x,y:=y,rate:=r,q1h:=s}={st with pairs:=q2O k (q0N.mk x y r s ⟨0,0⟩ ⟨0,0⟩) st.pairs}:=by
       rw[hk'];show ({st with pairs:=(st.q5b {q8C with x:=x,y:=y,rate:=r,q1h:=s}).pairs}:LSt)=_
       rw[pq'];rfl
      have a31:∀i:Nat,ld1 m1 (.ptr (some ⟨b,i⟩))=[sp,sq,sa,.int .u64 st.latest,.int .i64 st.most][i]?:=fun i=>q0g (f1.get h1 (by simp))
      have a32:∀i:Nat,ld1 m2 (.ptr (some ⟨b,i⟩))=[sp,sq,sa,.int .u64 st.latest,.int .i64 st.most][i]?:=fun i=>q0g (f2.get h1 (by simp))
      have a33:∀i:Nat,ld1 (m1.lay (.cells (q0N.mk x y r s ⟨0,0⟩ ⟨0,0⟩).cells false)) (.ptr (some ⟨b,i⟩))=[sp,sq,sa,.int .u64 st.latest,.int .i64 st.most][i]?:=fun i=>q0g ((f1.step0 ((Fr.refl m1).lay _)).get h1 (by simp))
      have lD1:ldN m1 (.ptr (some ⟨m.next,0⟩)) 3=some (.agg (q0u r s)):=q0A (f1.get hD (by simp)) rfl
      have nM:=fM.next
      refine⟨m4,F',?_,?_,(fM.any F).step z3 (fun c hc=>.inl (by rw[eF];simp only[xms]at hc;simp[hc])),fun c hc=>?_⟩
      ·have bs:=q5j (n:=9) (zs:=[.str [],.str [],.int .i64 0,.int .u64 0,.int .i64 0,.int .i64 0,.int .u64 0,.int .i64 0,.int .u64 0]) (cs:=(q0N.mk x y r s ⟨0,0⟩ ⟨0,0⟩).cells) rfl rfl rfl;simp only[q0N.cells]at bs q2 a33;simp only[q0u]at lD1;simp only[Int.natCast_zero]at l0;simp only[q8R (H:=H22) rfl,T.f33,q0K,q0a,ifV,wp,AV.cells,AV.one,lcs,if_true,xom,<-hM,gx,gy,cx,cy]
       simp only[q7b (H:=H22),T.j1s,q0a,wp,df hxy];simp only[q9O (H:=H22),T.j4E,q0a,wp,lD,rr,decide_true,xbt];simp only[z5h (H:=H22),T.a04,nnA,q0a,q0e,gq,df (show ¬(0:Int)<=-1 by omega)];simp only[j4F (H:=H22),T.a7Q,wp,l0];simp only[j4H (H:=H22),T.a7S,q1,apE,q0o,AV.cells,Nat.reduceAdd,Nat.reduceLeDiff,nnA,a4r,a3,u1,lD,lD1,AV.one,lcs,bs,a33,q2,a32,v1,q3,z1]
      ·rw[show (none:Option q0N).getD q8C=q8C from rfl,e];exact z2
      ·rcases z4 c hc with h|h|h|h
       ·exact .inl (by rw[eF,h];simp)
       ·exact .inl (by rw[eF];simp[h])
       ·exact .inl (by rw[eF];simp[h])
       ·exact .inr (by omega)
    ·rw[if_pos hz];simp only[q8R (H:=H22) rfl,T.f33,q0K,q0a,ifV,wp,AV.cells,AV.one,lcs,if_true,xom,<-hM,gx,gy,cx,cy];simp only[q7b (H:=H22),T.j1s,q0a,wp,df hxy];simp only[q9O (H:=H22),T.j4E,q1,q0a,wp,lD,rr,df hz,xbf];exact done _
end
end
section
open Go Go.Abs
theorem a3n {x y:Int} (k:Int) (hx:0<x) (hy:0<y):0<=z3J x y k:=by
 have h0:0<=x*y:=Int.mul_nonneg (by omega) (by omega);unfold z3J;split
 ·unfold scF;rw[df (show ¬x<0 by omega),df (show ¬y<0 by omega),if_neg (by decide)];have e1:q1H x=x:=if_neg (by omega);have e2:q1H y=y:=if_neg (by omega);rw[e1,e2];exact j2I h0 k.toNat
 ·have t0:=q1Q (-k).toNat;exact Int.mul_nonneg h0 (by omega)
theorem z9b {w:Wd} {s:Int} {v:Wd} {t n:Int} (h:(q2y w s v t n).2.2=0):0<=(q2y w s v t n).1.val:=by
 unfold q2y at h⊢;split
 ·split
  ·split
   ·rename_i h2 h3;have:=a3n (s+t-n) h2 (q6q h3).2;split
    ·rw[Wd.q1B];exact this
    ·simp[Wd.val]
   ·simp[Wd.val]
  ·simp[Wd.val]
 ·simp[Wd.val]
theorem q6E {st:LSt} (g:q3Q st) (i j:Int) (x:Wd) (s:Int):q3Q (q0P st i j x s).2.2.2:=by
 unfold q0P;rcases LSt.q1f g.w i with ⟨e,_⟩|⟨a,p,e,ga,gp,hid,hka,hpn,hkp,ma,mp⟩
 ·rw[e];exact g
 ·rcases LSt.q1f g.w j with ⟨e',_⟩|⟨a',p',e',ga',gp',hid',hka',hpn',hkp',ma',mp'⟩
  ·rw[e,e'];exact g
  ·rw[e,e'];simp only[ne_eq,not_true_eq_false,if_false];split
   ·exact g
   rename_i hnn;cases hq:st.z1L (p.name++p'.name) with
   |none=>exact g
   |some q=>
    simp only;unfold q7C;split
    ·exact g
    split
    ·exact g
    dsimp only;split
    ·exact g
    split
    ·exact g
    rename_i h1 h2 h3 h4;have hf:q1W p x s=0:=by simpa using h1
    have hx:=(q5t hf).2;have h3':(q2y x s q.rate q.q1h p'.scale).2.2=0:=by simpa using h3
    have hg:=z9b h3';obtain⟨gw,hgw⟩:∃gw,gw=(q2y x s q.rate q.q1h p'.scale).1:=⟨_,rfl⟩;rw[<-hgw]at h4 hg⊢;have f1:q2B a.bal q.inx x=true:=by cases h:q2B a.bal q.inx x with|true=>rfl|false=>exact absurd (.inl h) h4
    have f2:q2B q.q18 a'.bal gw=true:=by cases h:q2B q.q18 a'.bal gw with|true=>rfl|false=>exact absurd (.inr h) h4
    obtain⟨f3,f4⟩:=q5s f1;obtain⟨f5,f6⟩:=q5s f2;have hij:i≠j:=fun h=>hnn (by rw[h,e']at e;cases e;rfl)
    obtain⟨l1,l2⟩:=g.toLGood.b0V ga ga' hij (Wd.q25 f3) (Wd.q25 f6) (by rw[Wd.q1B];omega) (by rw[Wd.q1B];have:=(g.a1 a' ma').2;omega);obtain⟨q1,q2,q3⟩:=LSt.z3w hq;have mq:=List.mem_of_getElem? q2;have l3:=g.w.okq q mq;have l4:=g.q1 q mq;have np:q3Y p.name=true:=(g.w.okp p mp).2.2.2;have hxy:q.x=p.name/\q.y=p'.name:=List.append_inj q1 (by rw[q1j g.w l3.2.2.2.2.1,q75 np])
    obtain⟨l5,_⟩:=l1.q5b (q:={q with inx:=Wd.of (q.inx.val+x.val),q18:=Wd.of (q.q18.val-gw.val)}) ⟨⟨l3.1,l3.2.1,Wd.q25 f4,Wd.q25 f5,l3.2.2.2.2.1,l3.2.2.2.2.2⟩,l4.1,by rw[Wd.q1B];omega,by rw[Wd.q1B];omega⟩
    refine {toLGood:=l5,su:=?_};have hk:q0O q0c q.key (st.pairs.map (·.key))=true:=by rw[q1];exact q3
    refine g.q8k fun k=>?_
    show sA k ((st.q14 {a with bal:=Wd.of (a.bal.val-x.val)}).q14 {a' with bal:=Wd.of (a'.bal.val+gw.val)}).q0p+sQ k (if q0O q0c q.key (st.pairs.map (·.key))=true then _ else _)=_
    rw[if_pos hk];show _+sQ k (st.pairs.set (st.iQ q.key) _)=_;rw[j85 q2 (q':={q with inx:=Wd.of (q.inx.val+x.val),q18:=Wd.of (q.q18.val-gw.val)}) rfl rfl,l2]
    simp only[Wd.q1B,hxy.1,hxy.2,<-hpn,<-hpn'];split<;>split<;>omega
end
section
set_option maxRecDepth 4000
open Go Go.Abs
def S23:List FuncId:=[77,67,15]
def R23:List FuncId:=[29,31,32,27,28,33]
noncomputable def H23:FuncId->Option (List AV->Mem->R):=q4a E22 S23 R23
noncomputable abbrev E23:Env:=T.EH H23
theorem a4N:q1u E23:=q2N a4M S23 R23
noncomputable abbrev D23:Do:=T.Rl H23
section
variable {H:FuncId->Option (List AV->Mem->R)} {m:Mem} {b:Nat} {st:LSt} {F:List Nat}
theorem q5V {f:FuncId} (h:H f=some (run E22 (.fn f))) (xs:List AV) (m:Mem):run (T.EH H) (.fn f) xs m=run E22 (.fn f) xs m:=q08 h xs m
theorem b0P (hh:H 67=some (q0y E22 67)) (h:q0L m b st F) (w:LWf st) (x y:List UInt8) (M:Mem) (hM:Fr m M []):run (T.EH H) (.fn 67) [.ptr (some ⟨b,0⟩),.str x,.str y] M=some (.tup [.agg (q0u (q0T st x y).1 (q0T st x y).2.1),.int .i64 (q0T st x y).2.2],M):=
 q0r hh (by simp[AV.flat,AV.lt,AV.lts,q0u]) fun m2 h1 h2=>z3U ((h.q0h hM).q0h (Fr.same h1 h2)) w x y
theorem a4b (hh:H 15=some (q0y E22 15)) {sp sq sa tp tq ta:AV} {s t:LSt} (hs:BkV m sp sq sa s) (ht:BkV m tp tq ta t) (hn:q8i s) (M:Mem) (hM:Fr m M []) :
  run (T.EH H) (.fn 15) [.agg [sp,sq,sa,.int .u64 s.latest],.agg [tp,tq,ta,.int .u64 t.latest]] M=some (.bool (z0z s t),M):=
 q0r hh (by simp[AV.flat,AV.lt]) fun m2 h1 h2=>a4c ((hs.q0h hM).q0h (Fr.same h1 h2)) ((ht.q0h hM).q0h (Fr.same h1 h2)) hn
end
theorem j2F {H:FuncId->Option (List AV->Mem->R)} (h:H 77=some (q0y E22 77)) {w v:Wd} (hw:w.ok) (hv:v.ok) (s t n:Int) (m:Mem) :
  run (T.EH H) (.fn 77) [.agg (q0u w s),.agg (q0u v t),.int .i64 n] m=some (.tup [.agg (q0u (q2y w s v t n).1 (q2y w s v t n).2.1),.int .i64 (q2y w s v t n).2.2],m):=by
 rw[<-q7E];exact q0r h (by rw[q7E];simp[AV.flat,AV.lt,AV.lts,q0u]) fun m2 _ _=>j2G hw hv s t n m2
theorem uA:∃e,Tryz.prog.underlying 25=some (.slice e)/\szT Tryz.prog e=some 4:=⟨54,by kernel_rfl,by kernel_rfl⟩
theorem LSt.j21 {st:LSt} {a a':q1b} {i j:Int} (ga:st.q7U i=some a) (ga':st.q7U j=some a') (hij:i≠j) (n n':Wd):(st.q14 {a with bal:=n}).q14 {a' with bal:=n'}=(st.q14 {a' with bal:=n'}).q14 {a with bal:=n}:=by
 obtain⟨e1,g1⟩:=LSt.q1X ga;obtain⟨e2,g2⟩:=LSt.q1X ga';have ne:st.iA a.id≠st.iA a'.id:=fun e=>by
  rw[e,g2]at g1;cases g1;exact hij (e1.symm.trans e2)
 have hk:∀{i:Int} {a:q1b},st.q7U i=some a->q0O q0m a.id (st.q0p.map (·.id))=true:=fun {i a} ga=>by
  have e1:=(LSt.q1X ga).1;cases hk:q0O q0m a.id (st.q0p.map (·.id)) with
  |true=>rfl
  |false=>rw[<-e1,LSt.q3n hk]at ga;cases ga
 have k1:=hk ga;have k2:=hk ga';have h1:(st.q14 {a with bal:=n}).iA a'.id=st.iA a'.id:=by
  unfold LSt.iA;rw[LSt.q3d (st:=st) (a:={a with bal:=n}) k1]
 have h2:(st.q14 {a' with bal:=n'}).iA a.id=st.iA a.id:=by
  unfold LSt.iA;rw[LSt.q3d (st:=st) (a:={a' with bal:=n'}) k2]
 show ({st with q0p:=(st.q0p.set (st.iA a.id) {a with bal:=n}).set ((st.q14 {a with bal:=n}).iA a'.id) {a' with bal:=n'}}:LSt)={st with q0p:=(st.q0p.set (st.iA a'.id) {a' with bal:=n'}).set ((st.q14 {a' with bal:=n'}).iA a.id) {a with bal:=n}}
 rw[h1,h2,List.set_comm _ _ ne]
section
variable {m:Mem} {b:Nat} {st:LSt} {F:List Nat}
theorem j2E {M:Mem} {n:Nat} (h:q0L M b st F) (hF:∀c,c∈F->c<n) {i j:Int} {a a':q1b} {q:q0N} (ga:st.q7U i=some a) (ga':st.q7U j=some a') (hij:i≠j) {k:List UInt8} (gq:st.z1L k=some q) {x:Wd} (hab:a.bal.ok) (hx:x.ok) {s:Int}
  (hfx:q0Q (a.bal.val-x.val)=true) {gw nin nout nto:Wd} {gs:Int} (hD:M.get n=some (.cells (q0u x s) false)) (hZ:M.get (n+1)=some (.cells z3 false)) (hG:M.get (n+2)=some (.cells (q0u gw gs) false))
  (h3:M.get (n+3)=some (.cells nin.cells false)) (h4:M.get (n+4)=some (.cells nout.cells false)) (h5:M.get (n+5)=some (.cells nto.cells false)) :
  ∃m',D23.gor 139270 [.ptr (some ⟨b,0⟩),.ptr (some ⟨n,0⟩),.ptr (some ⟨n+1,0⟩),.int .i64 ((st.iA i:Nat):Int),.int .i64 ((st.iA j:Nat):Int),.int .i64 ((st.iQ k:Nat):Int),.ptr (some ⟨n+2,0⟩),.ptr (some ⟨n+3,0⟩),.ptr (some ⟨n+4,0⟩),.ptr (some ⟨n+5,0⟩)] M=some (.tup [.agg (q0u gw gs),.int .i64 0],m')/\
   q0L m' b (((st.q14 {a with bal:=Wd.of (a.bal.val-x.val)}).q14 {a' with bal:=nto}).q5b {q with inx:=nin,q18:=nout}) F/\Fr M m' ((n+1)::F):=by
 obtain⟨e1,g1⟩:=LSt.q1X ga;obtain⟨e2,g2⟩:=LSt.q1X ga';obtain⟨e3,g3,g4⟩:=LSt.z3w gq;obtain⟨sp,sq,sa,rp,rq,ra,k1,k2,k3,k4,k5⟩:=h.ex;obtain⟨ea,uA1,uA2⟩:=uA;rw[e1]at g1;rw[e2]at g2;rw[e3]at g3;obtain⟨ba,r1,r2,r3,r4,r5⟩:=k4.reads uA1 uA2 (f:=q1b.cells) g1;obtain⟨ba',r1',r2',r3',r4',r5'⟩:=k4.reads uA1 uA2 (f:=q1b.cells) g2;rw[r1]at r1';cases r1';obtain⟨nf,hnf⟩:∃nf,nf=Wd.of (a.bal.val-x.val):=⟨_,rfl⟩
 have su:=fun m=>q5X (H:=H23) rfl hab hx m
 rw[q1a hfx,<-hnf]at su;rw[<-hnf];obtain⟨M1,hM1⟩:∃M1,M1=M.lay (.cells nf.cells false):=⟨_,rfl⟩;have f1:Fr M M1 []:=by rw[hM1];exact(Fr.refl M).lay _
 have lZ:=Mem.q0x h5;have kb1:=f1.get k1 (by simp);have nF:∀c,n<=c->c∉F:=fun c hc hm=>by have:=hF c hm;omega
 obtain⟨b1,m1,i1,i2,i3,i4,i5,i6⟩:=q0L.stQ (h.q0h f1) kb1 (i:=st.iQ k) (q:=q) (q':={q with inx:=nin}) g3 (o:=5) (vs:=nin.cells) (by simp[Wd.cells]) rfl (by simp[q0N.cells,Wd.cells])
 have kb2:=i6.trans kb1;obtain⟨b2,m2,j1,j2,j3,j4,j5,j6⟩:=q0L.stQ i3 kb2 (i:=st.iQ k) (q:={q with inx:=nin}) (q':={q with inx:=nin,q18:=nout}) (by
  show (st.pairs.set _ _)[_]? = _;rw[List.getElem?_set_self (xgi.1 g3).1]) (o:=7) (vs:=nout.cells) (by simp[Wd.cells]) rfl (by simp[q0N.cells,Wd.cells])
 have kb3:=j6.trans kb2;obtain⟨st2,hst2⟩:∃st2,st2=({st with pairs:=st.pairs.set (st.iQ k) {q with inx:=nin,q18:=nout}}:LSt):=⟨_,rfl⟩
 have j3':q0L m2 b st2 F:=by rw[hst2];simpa only [List.set_set]using j3
 have ga2:st2.q7U i=some a:=by rw[hst2];exact ga
 have ga2':st2.q7U j=some a':=by rw[hst2];exact ga'
 obtain⟨b3,m3,l1,l2,l3,l4,l5,l6⟩:=j3'.stA (by rw[hst2];exact kb3) (a:=a') (LSt.q1X ga2').2 nto;have kb4:=l6.trans kb3;have hkj:q0O q0m a'.id (st2.q0p.map (·.id))=true:=by
  cases hk:q0O q0m a'.id (st2.q0p.map (·.id)) with
  |true=>rfl
  |false=>have:=LSt.q3n hk;rw[e2,ga2']at this;cases this
 have ne:st2.iA a.id≠st2.iA a'.id:=fun e=>by
  have h1:=(LSt.q1X ga2).2;rw[e,(LSt.q1X ga2').2]at h1;cases h1;exact hij (e1.symm.trans e2)
 have hi2:(st2.q14 {a' with bal:=nto}).iA a.id=st2.iA a.id:=by
  unfold LSt.iA;rw[LSt.q3d (st:=st2) (a:={a' with bal:=nto}) hkj]
 have hl2:(st2.q14 {a' with bal:=nto}).q0p.length=st2.q0p.length:=List.length_set ..
 obtain⟨b4,m4,o1,o2,o3,o4,o5,o6⟩:=l3.stA (by rw[hst2];exact kb4) (a:=a) (by
  rw[hi2];show (st2.q0p.set _ _)[_]? = _;rw[List.getElem?_set_ne (fun e=>ne e.symm)];exact(LSt.q1X ga2).2) nf
 have kb5:=o6.trans kb4;have fin:(st2.q14 {a' with bal:=nto}).q14 {a with bal:=nf}=((st.q14 {a with bal:=nf}).q14 {a' with bal:=nto}).q5b {q with inx:=nin,q18:=nout}:=by
  rw[<-LSt.j21 ga2 ga2' hij,hst2];have hk:q0O q0c (q0N.key {q with inx:=nin,q18:=nout}) (st.pairs.map (·.key))=true:=by rw[<-e3]at g4;exact g4
  unfold LSt.q5b;have hp:(LSt.pairs ((st.q14 {a with bal:=nf}).q14 {a' with bal:=nto}))=st.pairs:=rfl
  rw[hp,if_pos hk];show _=({((st.q14 {a with bal:=nf}).q14 {a' with bal:=nto}) with pairs:=st.pairs.set (st.iQ q.key) {q with inx:=nin,q18:=nout}}:LSt)
  rw[e3];rfl
 rw[fin]at o3;have c1:st2.iA a'.id=st.iA j:=by rw[e2,hst2];rfl
 have c2:st2.iA a.id=st.iA i:=by rw[e1,hst2];rfl
 rw[c1]at l2;rw[hi2,c2]at o2;have eb:b3=ba/\b4=ba:=by
  obtain⟨_,_,_,_,_,ra2,z1,_,_,z4,_⟩:=j3'.ex;rcases k4.2 with (⟨_,z,_⟩|⟨bz,_,z,zz,_⟩)|⟨bz,z,zz,_⟩
  ·rw[r1]at z;cases z
  ·rw[r1]at z;cases z;rw[zz]at l1 o1
   first
    |(simp only[AV.sl.injEq,xoi,AA.mk.injEq,and_true]at l1 o1;exact⟨l1.1.symm,o1.1.symm⟩)
    |(simp at l1)
    |(simp at l1 o1;exact⟨l1.1.symm,o1.1.symm⟩)
  ·rw[r1]at z;cases z;rw[zz]at l1 o1;simp only[AV.sl.injEq,xoi,AA.mk.injEq,and_true]at l1 o1;exact⟨l1.1.symm,o1.1.symm⟩
 obtain⟨rfl,rfl⟩:=eb;have eq2:b2=b1:=by
  have h1:=i1 .i64;have h2:=j1 .i64;rw[h1]at h2;simp only[xoi,AV.ptr.injEq,AA.mk.injEq,and_true]at h2;exact h2.symm
 subst eq2;have fx1:Fr M m1 F:=(f1.any F).step i4 (fun c hc=>.inl hc)
 have fx2:Fr M m2 F:=fx1.step j4 (fun c hc=>.inl hc)
 have fx3:Fr M m3 F:=fx2.step l4 (fun c hc=>.inl hc)
 have fx4:Fr M m4 F:=fx3.step o4 (fun c hc=>.inl hc)
 have n1:=f1.next
 have nm1:M1.get M.next=some (.cells nf.cells false):=by rw[hM1];exact q0f _ _
 have lF:∀c,c∈F->c<M.next:=fun c hc=>by have:=hF c hc;omega
 have nm4:=o4.get (l4.get (j4.get (i4.get nm1 (fun hc=>by have:=lF _ hc;omega)) (fun hc=>by have:=lF _ hc;omega)) (fun hc=>by have:=lF _ hc;omega)) (fun hc=>by have:=lF _ hc;omega)
 have nm3:=l4.get (j4.get (i4.get nm1 (fun hc=>by have:=lF _ hc;omega)) (fun hc=>by have:=lF _ hc;omega)) (fun hc=>by have:=lF _ hc;omega)
 have d0:ldN M (.ptr (some ⟨n,0⟩)) 2=some (.agg x.cells):=by rw[q00 hD (by simp[q0u])];rfl
 have d1:ldN M1 (.ptr (some ⟨n+3,0⟩)) 2=some (.agg nin.cells):=q0A (f1.get h3 (by simp)) rfl;have d2:ldN m1 (.ptr (some ⟨n+4,0⟩)) 2=some (.agg nout.cells):=q0A (fx1.get h4 (nF _ (by omega))) rfl;have d3:ldN m2 (.ptr (some ⟨n+5,0⟩)) 2=some (.agg nto.cells):=q0A (fx2.get h5 (nF _ (by omega))) rfl;have d4:ldN m3 (.ptr (some ⟨M.next,0⟩)) 2=some (.agg nf.cells):=q0A nm3 rfl
 have d5:ldN m4 (.ptr (some ⟨n+2,0⟩)) 3=some (.agg (q0u gw gs)):=q0A (fx4.get hG (nF _ (by omega))) rfl;have z4:=fx4.get hZ (nF _ (by omega));have s8:=q0X (n:=3) (v:=q0u gw gs) z4 rfl rfl rfl;have l8:ldN (m4.put (n+1) (some (.cells (q0u gw gs) false))) (.ptr (some ⟨n+1,0⟩)) 3=some (.agg (q0u gw gs)):=q0A (q0v z4) rfl;have a0:∀i:Nat,ld1 M (.ptr (some ⟨b,i⟩))=[sp,sq,sa,.int .u64 st.latest,.int .i64 st.most][i]?:=fun i=>q0g k1
 have a1:∀i:Nat,ld1 M1 (.ptr (some ⟨b,i⟩))=[sp,sq,sa,.int .u64 st.latest,.int .i64 st.most][i]?:=fun i=>q0g kb1
 have a2:∀i:Nat,ld1 m1 (.ptr (some ⟨b,i⟩))=[sp,sq,sa,.int .u64 st.latest,.int .i64 st.most][i]?:=fun i=>q0g kb2
 have a3:∀i:Nat,ld1 m2 (.ptr (some ⟨b,i⟩))=[sp,sq,sa,.int .u64 st.latest,.int .i64 st.most][i]?:=fun i=>q0g kb3
 have a4:∀i:Nat,ld1 m3 (.ptr (some ⟨b,i⟩))=[sp,sq,sa,.int .u64 st.latest,.int .i64 st.most][i]?:=fun i=>q0g kb4
 have s0:stV (M.lay (.cells [.int .i64 0,.int .u64 0] false)) (.ptr (some ⟨M.next,0⟩)) (.agg nf.cells) 2=some M1:=by rw[q0X (n:=2) (q0f M _) rfl rfl rfl,q1c,hM1]
 have bal:=r5 M (Fr.refl M) 2 2 (by omega);refine⟨_,?_,o3.frame (Fr.put m4 (n+1) (some (.cells (q0u gw gs) false))) (fun c hc=>by simp only[xms];rintro rfl;exact nF _ (by omega) hc),((fx4.mono (T:=(n+1)::F) (by simp +contextual)).put' (.inl (by simp)))⟩
 simp only[q1b.cells,Wd.cells,q0u,List.drop_succ_cons,List.drop_zero,List.take_succ_cons,List.take_zero,List.length_cons,List.length_nil,xnz,Nat.reduceAdd]at bal d0 d1 d2 d3 d4 d5 s0 s8 l8 i2 j2 l2 o2 su⊢;simp only[j4J (H:=H23),T.a7T,p1,q1,p2,pB,nnA,q0d,q0H,q0I,q0F,a0,a1,a2,a3,a4,r3,r3',i1,bal,d0,su,s0,d1,d2,d3,d4,d5,i2,j2,l2,o2,s8,l8]
end
end
section
set_option maxRecDepth 4000
set_option maxHeartbeats 400000
open Go Go.Abs
theorem z3b (st:LSt) (i j:Int) (x:Wd) (s:Int):q0P st i j x s=(if (st.of i).2.2≠0 then (⟨0,0⟩,0,(st.of i).2.2,st) else if (st.of j).2.2≠0 then (⟨0,0⟩,0,(st.of j).2.2,st) else
  if (st.of i).2.1.name=(st.of j).2.1.name then (⟨0,0⟩,0,45,st) else match st.z1L ((st.of i).2.1.name++(st.of j).2.1.name) with|none=>(⟨0,0⟩,0,44,st)|some q=>q7C st (st.of i).1 (st.of i).2.1 (st.of j).1 (st.of j).2.1 q x s):=rfl
section
variable {m:Mem} {b:Nat} {st:LSt} {F:List Nat}
theorem q8a (h:q0L m b st F) (w:LWf st) (i j:Int) {x:Wd} (hx:x.ok) (s:Int) :
  ∃m',run E23 (.fn 34) [.ptr (some ⟨b,0⟩),.int .u64 i,.int .u64 j,.agg (q0u x s)] m=some (.tup [.agg (q0u (q0P st i j x s).1 (q0P st i j x s).2.1),.int .i64 (q0P st i j x s).2.2.1],m')/\q0L m' b (q0P st i j x s).2.2.2 F/\Fr m m' F:=by
 have hF:=h.lt;obtain⟨M,hM⟩:∃M,M=(m.lay (.cells (q0u x s) false)).lay (.cells z3 false):=⟨_,rfl⟩;have fM:Fr m M []:=by rw[hM];(repeat apply Fr.lays);exact Fr.refl _
 have hR:=h.q0h fM;have hD:M.get m.next=some (.cells (q0u x s) false):=by rw[hM];simp only[Mem.q0B,Mem.q0t,nn1,if_true,if_false]
 have hZ:M.get (m.next+1)=some (.cells z3 false):=by rw[hM];simp[Mem.q0B]
 have nM:M.next=m.next+1+1:=by rw[hM];rfl
 have gi:=z3R (H:=H23) rfl hR (by have:=w.la;omega) i M (Fr.refl _);have gj:=z3R (H:=H23) rfl hR (by have:=w.la;omega) j M (Fr.refl _);have none_idx:∀id,st.q7U id=none->q4W (fun p:q1b=>decide (p.id=id)) st.q0p 0=-1:=by
  intro id hn;apply z2l w;cases hk:q0O q0m id (st.q0p.map (·.id)) with
  |false=>rfl
  |true=>obtain⟨a,a1,_⟩:=LSt.q1D hk;rw[hn]at a1;cases a1
 have cm:=dt (show (-1:Int)<0 by omega);have er:∀{M':Mem},M'.get (m.next+1)=some (.cells z3 false)->stV M' (.ptr (some ⟨m.next+1,0⟩)) (.agg z3) 3=some (M'.put (m.next+1) (some (.cells z3 false)))/\ldN (M'.put (m.next+1) (some (.cells z3 false))) (.ptr (some ⟨m.next+1,0⟩)) 3=some (.agg z3):=
  fun hz=>⟨q0X (n:=3) hz rfl rfl rfl,q0A (q0v hz) rfl⟩
 have done:∀{M':Mem} {c:Int},Fr m M' []->∃m',some (AV.tup [.agg z3,.int .i64 c],M'.put (m.next+1) (some (.cells z3 false)))=some (AV.tup [.agg (q0u ⟨0,0⟩ 0),.int .i64 c],m')/\q0L m' b st F/\Fr m m' F:=fun {M' c} hf=>
  ⟨_,rfl,h.frame (hf.put' (S:=[]) (b:=m.next+1) (.inr (by omega))) (by simp),(hf.put' (.inr (by omega))).any F⟩
 obtain⟨es,el⟩:=er hZ;simp only[z3]at es el done hM;simp only[q0u]at hM;rw[z3b];simp only[z3,q0u]at *;rcases LSt.q1f w i with ⟨e,hn⟩|⟨a,p,e,g1,g2,hid,hka,hpn,hkp,ma,mp⟩
 ·rw[none_idx i hn]at gi;rw[e];simp only[ne_eq,show ¬(40:Int)=0 by omega,not_false_eq_true,if_true];simp only[z4B (H:=H23) rfl,T.f34,pB,p2,p1,q0o,AV.cells,q0K,q0a,ifV,q0H,q0I,q0w,AV.one,lcs,Mem.q0t,<-hM,gi,gj,cm,es,el];exact done fM
 ·rw[z3X w hka]at gi;have ci:=df (show ¬((st.iA i:Nat):Int)<0 by omega);rw[e];rcases LSt.q1f w j with ⟨e',hn⟩|⟨a',p',e',g1',g2',hid',hka',hpn',hkp',ma',mp'⟩
  ·rw[none_idx j hn]at gj;rw[e'];simp only[ne_eq,not_true_eq_false,if_false,show ¬(40:Int)=0 by omega,not_false_eq_true,if_true];simp only[z4B (H:=H23) rfl,T.f34,pB,p2,p1,q0o,AV.cells,q0K,q0a,ifV,q0H,q0I,q0w,AV.one,lcs,Mem.q0t,<-hM,gi,gj,ci,cm,es,el];exact done fM
  ·rw[z3X w hka']at gj;have cj:=df (show ¬((st.iA j:Nat):Int)<0 by omega);rw[e'];obtain⟨sp,sq,sa,rp,rq,ra,k1,k2,k3,k4,k5⟩:=hR.ex;have a3:∀i:Nat,ld1 M (.ptr (some ⟨b,i⟩))=[sp,sq,sa,.int .u64 st.latest,.int .i64 st.most][i]?:=fun i=>q0g k1
   obtain⟨ea,uA1,uA2⟩:=uA;obtain⟨ba,r1,r2,r3,r4,r5⟩:=k4.reads uA1 uA2 (f:=q1b.cells) (i:=st.iA i) (by have:=(LSt.q1X g1).2;rw[hid]at this;exact this);obtain⟨ba',r1',r2',r3',r4',r5'⟩:=k4.reads uA1 uA2 (f:=q1b.cells) (i:=st.iA j) (by have:=(LSt.q1X g1').2;rw[hid']at this;exact this);have c0:=r4 M (Fr.refl _) 1 (by omega);have c0':=r4' M (Fr.refl _) 1 (by omega);simp only[ge,q1b.cells]at c0 c0'
   simp only[ne_eq,not_true_eq_false,if_false];rw[hpn,hpn'];by_cases hnn:a.q1S=a'.q1S
   ·rw[if_pos hnn];simp only[z4B (H:=H23) rfl,T.f34,pB,p2,p1,q0o,AV.cells,q0K,q0a,ifV,q0H,q0I,q0w,AV.one,lcs,Mem.q0t,<-hM,gi,gj,ci,cj];simp only[z5i (H:=H23),T.a05,p1,q1,p2,q0o,nnA,q0a,q0H,q0I,q0E,a3,r3,r3',c0,c0',dt hnn,es,el];exact done fM
   ·rw[if_neg hnn];have sx:(st.q2o a.q1S).isSome=true:=by rw[g2];rfl
    have sy:(st.q2o a'.q1S).isSome=true:=by rw[g2'];rfl
    have gq:=a3U (H:=H23) rfl hR (by have:=w.lq;omega) a.q1S a'.q1S M (Fr.refl _);rw[a3O w sx sy]at gq;have l0:run E23 (.fn 34) [.ptr (some ⟨b,0⟩),.int .u64 i,.int .u64 j,.agg [.int .i64 x.hi,.int .u64 x.lo,.int .i64 s]] m=D23.gor 139265 [.ptr (some ⟨b,0⟩),.ptr (some ⟨m.next,0⟩),.ptr (some ⟨m.next+1,0⟩),.int .i64 ((st.iA i:Nat):Int),.int .i64 ((st.iA j:Nat):Int),.str a.q1S,.str a'.q1S] M:=by
     simp only[z4B (H:=H23) rfl,T.f34,pB,p2,p1,q0o,AV.cells,q0K,q0a,ifV,q0H,q0I,q0w,AV.one,lcs,Mem.q0t,<-hM,gi,gj,ci,cj];simp only[z5i (H:=H23),T.a05,p1,q1,p2,q0o,nnA,q0a,q0H,q0I,q0E,a3,r3,r3',c0,c0',df hnn]
    rw[l0];clear l0 gi gj;cases hq:q0O q0c (a.q1S++a'.q1S) (st.pairs.map (·.key)) with
    |false=>
     rw[if_neg (by rw[hq];decide)]at gq;rw[LSt.q3o hq];simp only[q5G (H:=H23),T.z7w,p2,p1,q0o,q0a,q0H,q0I,q0w,gq,cm,es,el];exact done fM
    |true=>
     rw[if_pos hq]at gq;obtain⟨q,q1,q2,q3,q4⟩:=LSt.q2V hq;rw[q1];dsimp only;have cq:=df (show ¬((st.iQ (a.q1S++a'.q1S):Nat):Int)<0 by omega);have ft:=j6L (H:=H23) rfl hR w g2 hx s M (Fr.refl _);have lD:ldN M (.ptr (some ⟨m.next,0⟩)) 3=some (.agg (q0u x s)):=q0A hD rfl
     have lD2:ldN M (.ptr (some ⟨m.next,0⟩)) 2=some (.agg x.cells):=by rw[q00 hD (by simp)];rfl
     simp only[q0u,Wd.cells]at lD lD2 ft;unfold q7C;obtain⟨fe,hfe⟩:∃fe,fe=q1W p x s:=⟨_,rfl⟩;rw[<-hfe]at ft⊢;by_cases f0:fe=0
     ·subst f0;rw[if_neg (by simp)];have xpos:=(q5t hfe.symm).2;have po:=z0t (H:=H23) rfl (w.oka a ma).1 hx M;have hsl:=z6M (a.bal.val-x.val);have b0:=r5 M (Fr.refl _) 2 2 (by omega);simp only[q1b.cells,List.drop_succ_cons,List.drop_zero,List.take_succ_cons,List.take_zero]at b0;simp only[Wd.cells]at po;by_cases hpr:a.bal.val<x.val
      ·rw[if_pos hpr];rw[dt (show a.bal.val-x.val<0 by omega)]at hsl;simp only[q5G (H:=H23),T.z7w,p2,p1,q0o,q0a,q0H,q0I,q0w,gq,cq];simp only[q7c (H:=H23),T.j1t,p2,p1,q0o,q0a,q0H,q0I,q0w,lD,ft,decide_true,xbt];simp only[q9P (H:=H23),T.j4I,p1,p2,q0o,nnA,q0a,q0H,q0I,q0E,a3,r3,b0,lD2,po,hsl,es,el]
       exact done fM
      ·rw[if_neg hpr];rw[df (show ¬a.bal.val-x.val<0 by omega)]at hsl;have efx:q0Q (a.bal.val-x.val)=true:=by
        have h2:=Wd.q7t (w.oka a ma).1;unfold q0Q at h2⊢;simp only[Bool.and_eq_true,decide_eq_true_eq]at h2⊢;omega
       obtain⟨eq',uQ1,uQ2⟩:=uQ;obtain⟨eP,uP1,uP2⟩:=uP;obtain⟨bq,t1,t2,t3,t4,t5⟩:=k3.reads uQ1 uQ2 (f:=q0N.cells) (i:=st.iQ (a.q1S++a'.q1S)) q3;have gp:=q6X (H:=H23) rfl hR (by have:=w.lp;omega) a'.q1S M (Fr.refl _);rw[q6W w (by rw[<-hpn'];exact hkp')]at gp;have gpa:=(LSt.z3u g2').2;rw[hpn']at gpa;obtain⟨bp,v1,v2,v3,v4,v5⟩:=k2.reads uP1 uP2 (f:=q0q.cells) gpa;have w0:=v4 M (Fr.refl _) 1 (by omega)
       have t0:=t5 M (Fr.refl _) 2 3 (by omega);simp only[ge,q0q.cells,q0N.cells,List.drop_succ_cons,List.drop_zero,List.take_succ_cons,List.take_zero]at w0 t0;have okq:=w.okq q q4;have cr:=j2F (H:=H23) rfl hx okq.1 s q.q1h p'.scale M;have crok:=z0Z x s q.rate q.q1h p'.scale;obtain⟨cd,hcd⟩:∃cd,cd=q2y x s q.rate q.q1h p'.scale:=⟨_,rfl⟩;rw[<-hcd]at cr crok⊢;obtain⟨gw,gs,ge'⟩:=cd
       obtain⟨M3,hM3⟩:∃M3,M3=M.lay (.cells (q0u gw gs) false):=⟨_,rfl⟩;have f3:Fr M M3 []:=by rw[hM3];exact(Fr.refl M).lay _
       have s3:stV (M.lay (.cells [.int .i64 0,.int .u64 0,.int .i64 0] false)) (.ptr (some ⟨M.next,0⟩)) (.agg (q0u gw gs)) 3=some M3:=by rw[q0X (n:=3) (q0f M _) rfl rfl rfl,q1c,hM3]
       obtain⟨es3,el3⟩:=er (f3.get hZ (by simp));simp only[q0u]at cr s3 crok
       try dsimp only
       by_cases hge:ge'=0
       ·subst hge;rw[if_neg (by simp)];have n3:M3.next=m.next+1+1+1:=by rw[hM3];show M.next+1=_;rw[nM]
        have hG:M3.get (m.next+2)=some (.cells (q0u gw gs) false):=by rw[hM3,show m.next+2=M.next by omega];exact q0f _ _
        have a33:∀i:Nat,ld1 M3 (.ptr (some ⟨b,i⟩))=[sp,sq,sa,.int .u64 st.latest,.int .i64 st.most][i]?:=fun i=>q0g (f3.get k1 (by simp))
        obtain⟨nin,hnin⟩:∃nin,nin=(Wd.res (q.inx.val+x.val)).1:=⟨_,rfl⟩;obtain⟨nout,hnout⟩:∃nout,nout=(Wd.res (q.q18.val-gw.val)).1:=⟨_,rfl⟩;obtain⟨nto,hnto⟩:∃nto,nto=(Wd.res (a'.bal.val+gw.val)).1:=⟨_,rfl⟩;have y1:=fun m=>q5T (H:=H23) rfl okq.2.2.1 hx m
        have y2:=fun m=>q5X (H:=H23) rfl okq.2.2.2.1 crok m
        have y3:=fun m=>q5T (H:=H23) rfl (w.oka a' ma').1 crok m
        have d1:=q1O (n:=q.inx.val+x.val);have d2:=q1O (n:=q.q18.val-gw.val);have d3:=q1O (n:=a'.bal.val+gw.val);rw[<-hnin]at y1;rw[<-hnout]at y2;rw[<-hnto]at y3;obtain⟨M4,hM4⟩:∃M4,M4=M3.lay (.cells nin.cells false):=⟨_,rfl⟩;obtain⟨M5,hM5⟩:∃M5,M5=M4.lay (.cells nout.cells false):=⟨_,rfl⟩;obtain⟨M6,hM6⟩:∃M6,M6=M5.lay (.cells nto.cells false):=⟨_,rfl⟩;have g4:Fr M3 M4 []:=by rw[hM4];exact(Fr.refl _).lay _
        have g5:Fr M4 M5 []:=by rw[hM5];exact(Fr.refl _).lay _
        have g6:Fr M5 M6 []:=by rw[hM6];exact(Fr.refl _).lay _
        have n4:M4.next=m.next+4:=by rw[hM4];show M3.next+1=_;omega
        have n5:M5.next=m.next+5:=by rw[hM5];show M4.next+1=_;omega
        have s4:stV (M3.lay (.cells [.int .i64 0,.int .u64 0] false)) (.ptr (some ⟨M3.next,0⟩)) (.agg nin.cells) 2=some M4:=by rw[q0X (n:=2) (q0f M3 _) rfl rfl rfl,q1c,hM4]
        have s5:stV (M4.lay (.cells [.int .i64 0,.int .u64 0] false)) (.ptr (some ⟨M4.next,0⟩)) (.agg nout.cells) 2=some M5:=by rw[q0X (n:=2) (q0f M4 _) rfl rfl rfl,q1c,hM5]
        have s6:stV (M5.lay (.cells [.int .i64 0,.int .u64 0] false)) (.ptr (some ⟨M5.next,0⟩)) (.agg nto.cells) 2=some M6:=by rw[q0X (n:=2) (q0f M5 _) rfl rfl rfl,q1c,hM6]
        have F4:=f3.step0 g4;have F5:=F4.step0 g5;have F6:=F5.step0 g6;have G6:Fr M3 M6 []:=(g4.step0 g5).step0 g6;obtain⟨es6,el6⟩:=er (F6.get hZ (by simp));have u1:=t5 M3 f3 5 2 (by omega);have u2:=t5 M4 F4 7 2 (by omega);have u3:=r5' M5 F5 2 2 (by omega);simp only[q1b.cells,q0N.cells,List.drop_succ_cons,List.drop_zero,List.take_succ_cons,List.take_zero]at u1 u2 u3;have a34:∀i:Nat,ld1 M4 (.ptr (some ⟨b,i⟩))=[sp,sq,sa,.int .u64 st.latest,.int .i64 st.most][i]?:=fun i=>q0g (F4.get k1 (by simp))
        have a35:∀i:Nat,ld1 M5 (.ptr (some ⟨b,i⟩))=[sp,sq,sa,.int .u64 st.latest,.int .i64 st.most][i]?:=fun i=>q0g (F5.get k1 (by simp))
        have e3:ldN M3 (.ptr (some ⟨m.next,0⟩)) 2=some (.agg x.cells):=by rw[q00 (f3.get hD (by simp)) (by simp)];rfl
        have e4:ldN M4 (.ptr (some ⟨m.next+2,0⟩)) 2=some (.agg gw.cells):=by rw[q00 (g4.get hG (by simp)) (by simp[q0u])];rfl
        have e5:ldN M5 (.ptr (some ⟨m.next+2,0⟩)) 2=some (.agg gw.cells):=by rw[q00 ((g4.step0 g5).get hG (by simp)) (by simp[q0u])];rfl
        have mn:M.next=m.next+2:=by omega
        rw[mn]at s3;have st5:∀v:Bool,(q0Q (q.inx.val+x.val)&&(q0Q (q.q18.val-gw.val)&&q0Q (a'.bal.val+gw.val)))=v->D23.gor 139269 [.ptr (some ⟨b,0⟩),.ptr (some ⟨m.next,0⟩),.ptr (some ⟨m.next+1,0⟩),.int .i64 ((st.iA i:Nat):Int),.int .i64 ((st.iA j:Nat):Int),.int .i64 ((st.iQ (a.q1S++a'.q1S):Nat):Int),.ptr (some ⟨m.next+2,0⟩)] M3 =
          if v=true then D23.gor 139270 [.ptr (some ⟨b,0⟩),.ptr (some ⟨m.next,0⟩),.ptr (some ⟨m.next+1,0⟩),.int .i64 ((st.iA i:Nat):Int),.int .i64 ((st.iA j:Nat):Int),.int .i64 ((st.iQ (a.q1S++a'.q1S):Nat):Int),.ptr (some ⟨m.next+2,0⟩),.ptr (some ⟨M3.next,0⟩),.ptr (some ⟨M4.next,0⟩),.ptr (some ⟨M5.next,0⟩)] M6
          else some (.tup [.agg [.int .i64 0,.int .u64 0,.int .i64 0],.int .i64 20],M6.put (m.next+1) (some (.cells [.int .i64 0,.int .u64 0,.int .i64 0] false))):=by
         intro v hv;simp only[Wd.cells]at y1 y2 y3 s4 s5 s6 e3 e4 e5;cases h1:q0Q (q.inx.val+x.val) with
         |false=>
          rw[h1]at d1 hv;rw[Bool.false_and]at hv;subst hv;simp only[q7d (H:=H23),T.j1u,p1,p2,pB,q0o,nnA,q0d,q0a,ifV,q0H,q0I,q0E,a33,a34,a35,t3,r3',u1,u2,u3,e3,e4,e5,y1,y2,y3,s4,s5,s6,d1,xbf,es6,el6,xbq,if_false]
         |true=>
          rw[h1]at d1 hv;rw[Bool.true_and]at hv;cases h2:q0Q (q.q18.val-gw.val) with
          |false=>
           rw[h2]at d2 hv;rw[Bool.false_and]at hv;subst hv;simp only[q7d (H:=H23),T.j1u,p1,p2,pB,q0o,nnA,q0d,q0a,ifV,q0H,q0I,q0E,a33,a34,a35,t3,r3',u1,u2,u3,e3,e4,e5,y1,y2,y3,s4,s5,s6,d1,d2,xbt,xbf,es6,el6,xbq,if_false]
          |true=>
           rw[h2]at d2 hv;rw[Bool.true_and]at hv;rw[hv]at d3;cases v with
           |false=>simp only[q7d (H:=H23),T.j1u,p1,p2,pB,q0o,nnA,q0d,q0a,ifV,q0H,q0I,q0E,a33,a34,a35,t3,r3',u1,u2,u3,e3,e4,e5,y1,y2,y3,s4,s5,s6,d1,d2,d3,xbt,xbf,es6,el6,xbq,if_false]
           |true=>simp only[q7d (H:=H23),T.j1u,p1,p2,pB,q0o,nnA,q0d,q0a,ifV,q0H,q0I,q0E,a33,a34,a35,t3,r3',u1,u2,u3,e3,e4,e5,y1,y2,y3,s4,s5,s6,d1,d2,d3,xbt]
        simp only[q5G (H:=H23),T.z7w,p2,p1,q0o,q0a,q0H,q0I,q0w,gq,cq];simp only[q7c (H:=H23),T.j1t,p2,p1,q0o,q0a,q0H,q0I,q0w,lD,ft,decide_true,xbt];simp only[q9P (H:=H23),T.j4I,p1,p2,q0o,nnA,q0a,q0H,q0I,q0E,a3,r3,b0,lD2,po,hsl]
        simp only[z5j (H:=H23),T.a06,p1,p2,pB,q0o,nnA,q0d,q0a,q0H,q0I,q0E,lD,a3,t3,t0,gp,v3,w0,cr,s3,decide_true,xbt,mn];rw[st5 _ rfl];cases hv:(q0Q (q.inx.val+x.val)&&(q0Q (q.q18.val-gw.val)&&q0Q (a'.bal.val+gw.val))) with
        |false=>
         rw[if_neg (by simp),if_pos (by unfold q2B;rw[efx,Bool.true_and];revert hv;cases q0Q (q.inx.val+x.val)<;>cases q0Q (q.q18.val-gw.val)<;>cases q0Q (a'.bal.val+gw.val)<;>simp)];exact done (fM.step0 F6)
        |true=>
         simp only[Bool.and_eq_true]at hv;rw[if_pos rfl,if_neg (by unfold q2B;rw[efx,hv.1,hv.2.1,hv.2.2];simp)];rw[q1a hv.1]at hnin;rw[q1a hv.2.1]at hnout;rw[q1a hv.2.2]at hnto;have hij:i≠j:=fun h=>hnn (by rw[h,g1']at g1;cases g1;rfl)
         have p3:M6.get (m.next+3)=some (.cells nin.cells false):=(g5.step0 g6).get (by rw[hM4,show m.next+3=M3.next by omega];exact q0f _ _) (by simp)
         have p4:M6.get (m.next+4)=some (.cells nout.cells false):=g6.get (by rw[hM5,show m.next+4=M4.next by omega];exact q0f _ _) (by simp)
         have p5:M6.get (m.next+5)=some (.cells nto.cells false):=by rw[hM6,show m.next+5=M5.next by omega];exact q0f _ _
         obtain⟨m',o1,o2,o3⟩:=j2E (hR.q0h F6) hF g1 g1' hij q1 (w.oka a ma).1 hx (s:=s) efx (F6.get hD (by simp)) (F6.get hZ (by simp)) (G6.get hG (by simp)) p3 p4 p5;rw[show M3.next=m.next+3 by omega,n4,n5,o1]
         simp only[hnin,hnout,hnto]at o2;refine⟨m',rfl,o2,((fM.step0 F6).any F).step o3 (fun c hc=>?_)⟩
         simp only[xmk0]at hc;rcases hc with rfl|hc
         ·exact .inr (by omega)
         ·exact .inl hc
       ·rw[if_pos hge];simp only[q5G (H:=H23),T.z7w,p2,p1,q0o,q0a,q0H,q0I,q0w,gq,cq];simp only[q7c (H:=H23),T.j1t,p2,p1,q0o,q0a,q0H,q0I,q0w,lD,ft,decide_true,xbt];simp only[q9P (H:=H23),T.j4I,p1,p2,q0o,nnA,q0a,q0H,q0I,q0E,a3,r3,b0,lD2,po,hsl]
        simp only[z5j (H:=H23),T.a06,p1,p2,pB,q0o,nnA,q0d,q0a,q0H,q0I,q0E,lD,a3,t3,t0,gp,v3,w0,cr,s3,df hge,xbf,es3,el3];exact done (fM.step0 f3)
     ·rw[if_pos f0];simp only[q5G (H:=H23),T.z7w,p2,p1,q0o,q0a,q0H,q0I,q0w,gq,cq];simp only[q7c (H:=H23),T.j1t,p2,p1,q0o,q0a,q0H,q0I,q0w,lD,ft,df f0,xbf,es,el];exact done fM
end
end
noncomputable section
set_option maxRecDepth 4000
open Go Go.Abs
theorem j6z (m:Mem) (k:Int) {n:Int} (h0:0<n) (h1:n<=4611686018427387904):run E23 (.fn 10) [.int .i64 k,.int .i64 n] m=some (.int .i64 (k % n),m):=by
 have e:k.tmod n=if 0<=k then k % n else if k % n=0 then 0 else k % n-n:=by
  rw[Int.tmod_eq_emod];split
  ·rename_i h;rcases h with h|h
   ·rw[if_pos h];omega
   ·by_cases h2:0<=k
    ·rw[if_pos h2];omega
    ·rw[if_neg h2,if_pos (Int.emod_eq_zero_of_dvd h),Int.emod_eq_zero_of_dvd h];omega
  ·rename_i h;rw[if_neg (fun h2=>h (.inl h2))]
   have:¬k % n=0:=fun h2=>h (.inr (Int.dvd_of_emod_eq_zero h2))
   rw[if_neg this];have:=Int.natAbs_of_nonneg (show 0<=n by omega);omega
 have p0:=Int.emod_nonneg k (show n≠0 by omega);have p1:=Int.emod_lt_of_pos k h0;simp only[a5m (H:=H23) rfl,T.f10,p2,q0a,wp,q2a _ _ _ _ (show n≠0 by omega)];by_cases hn:k.tmod n<0
 ·simp only[dt hn,z4J (H:=H23),T.a0L,wp];have e2:k.tmod n+n=k % n:=by
   rw[e]at hn⊢;split at hn
   ·omega
   ·split at hn
    ·omega
    ·rename_i g1 g2;rw[if_neg g1,if_neg g2];omega
  rw[e2,wrap_i64 (by omega) (by omega)]
 ·simp only[df hn,z4J (H:=H23),T.a0L,wp];have e2:k.tmod n=k % n:=by
   rw[e]at hn⊢;split at hn
   ·rename_i g1;rw[if_pos g1]
   ·split at hn
    ·rename_i g1 g2;rw[if_neg g1,if_pos g2,g2]
    ·omega
  rw[e2]
def S24:List FuncId:=[10]
def R24:List FuncId:=[34]
def H24:FuncId->Option (List AV->Mem->R):=q4a E23 S24 R24
abbrev E24:Env:=T.EH H24
theorem a4O:q1u E24:=q2N a4N S24 R24
theorem b0O {H:FuncId->Option (List AV->Mem->R)} {f:FuncId} (h:H f=some (run E23 (.fn f))) (xs:List AV) (m:Mem):run (T.EH H) (.fn f) xs m=run E23 (.fn f) xs m:=q08 h xs m
theorem q1k {H:FuncId->Option (List AV->Mem->R)} (h:H 10=some (q0y E23 10)) (m:Mem) (k:Int) {n:Int} (h0:0<n) (h1:n<=4611686018427387904):run (T.EH H) (.fn 10) [.int .i64 k,.int .i64 n] m=some (.int .i64 (k % n),m):=
 q0r h (by simp[AV.flat,AV.lt]) fun m2 _ _=>⟨m2,j6z m2 k h0 h1,Fr.refl _⟩
def q19 (n:Int):Wd×Int:=
 if (n.tdiv 7) % 24=0 then (⟨0,n % 5000⟩,(n.tdiv 13) % 19) else if (n.tdiv 7) % 24=1 then (⟨9223372036854775807,18446744073709551615⟩,2) else
 if (n.tdiv 7) % 24=2 then (⟨-1,18446744073709551615⟩,2) else if (n.tdiv 7) % 24=3 then (⟨n % 4611686018427387904,n % 5000⟩,2) else (⟨0,n % 5000⟩,2)
theorem q8M (n:Int):(q19 n).1.ok:=by
 unfold q19 Wd.ok
 (repeat' split)<;>(simp only;omega)
theorem q9c {n k:Int} (h1:-9223372036854775808<=n) (h2:n<9223372036854775808) (hk:2<=k):IntKind.wrap .i64 (n.tdiv k)=n.tdiv k:=by
 have h3:(n.tdiv k).natAbs<=n.natAbs:=by
  rw[Int.natAbs_tdiv];exact Nat.div_le_self _ _
 have h4:(n.tdiv k).natAbs<=n.natAbs / 2:=by
  rw[Int.natAbs_tdiv];exact Nat.div_le_div_left (by omega) (by omega)
 exact wrap_i64 (by omega) (by omega)
theorem a4Z {n:Int} (h1:-9223372036854775808<=n) (h2:n<9223372036854775808) (m:Mem):Res m (run E24 (.fn 26) [.int .i64 n] m) (.agg (q0u (q19 n).1 (q19 n).2)):=by
 have p1:=fun m=>q1k (H:=H24) rfl m n (n:=5000) (by omega) (by omega)
 have p2:=fun m=>q1k (H:=H24) rfl m (n.tdiv 7) (n:=24) (by omega) (by omega)
 have p3:=fun m=>q1k (H:=H24) rfl m (n.tdiv 13) (n:=19) (by omega) (by omega)
 have p4:=fun m=>q1k (H:=H24) rfl m n (n:=4611686018427387904) (by omega) (by omega)
 have q7:=q2D (P:=Tryz.prog) 3 .i64 n 7 (by omega);have q13:=q2D (P:=Tryz.prog) 3 .i64 n 13 (by omega);rw[q9c h1 h2 (by omega)]at q7 q13;have wl:IntKind.wrap .u64 (n % 5000)=n % 5000:=wrap_u64 (by omega) (by omega);unfold q19;obtain⟨k,hk⟩:∃k,k=(n.tdiv 7) % 24:=⟨_,rfl⟩;rw[<-hk]at p2⊢;by_cases k0:k=0
 ·rw[if_pos k0];simp only[z04 (H:=H24) rfl,T.f26,pB,p1,p2,q0o,AV.cells,Nat.reduceAdd,Nat.reduceLeDiff,q0a,q0E,AV.one,over,lcl,p3,p4,q7,q13,wl,dt k0,q0u];simp only[q5D (H:=H24),T.z7t,q1,q0H,q0I,wp,AV.one,over,AV.cells,Nat.reduceAdd,Nat.reduceLeDiff,lcl];refine Res.eq ?_ rfl
  (repeat apply Fr.lays)
  exact Fr.refl _
 ·rw[if_neg k0];by_cases k1:k=1
  ·rw[if_pos k1];simp only[z04 (H:=H24) rfl,T.f26,pB,p1,p2,q0o,AV.cells,Nat.reduceAdd,Nat.reduceLeDiff,q0a,q0E,AV.one,over,lcl,p3,p4,q7,q13,wl,df k0,dt k1,q0u];simp only[q5D (H:=H24),T.z7t,q1,q0H,q0I,wp,AV.one,over,AV.cells,Nat.reduceAdd,Nat.reduceLeDiff,lcl];refine Res.eq ?_ rfl
   (repeat apply Fr.lays)
   exact Fr.refl _
  ·rw[if_neg k1];by_cases k2:k=2
   ·rw[if_pos k2];simp only[z04 (H:=H24) rfl,T.f26,pB,p1,p2,q0o,AV.cells,Nat.reduceAdd,Nat.reduceLeDiff,q0a,q0E,AV.one,over,lcl,p3,p4,q7,q13,wl,df k0,df k1,dt k2,q0u];simp only[q5D (H:=H24),T.z7t,q1,q0H,q0I,wp,AV.one,over,AV.cells,Nat.reduceAdd,Nat.reduceLeDiff,lcl];refine Res.eq ?_ rfl
    (repeat apply Fr.lays)
    exact Fr.refl _
   ·rw[if_neg k2];by_cases k3:k=3
    ·rw[if_pos k3];simp only[z04 (H:=H24) rfl,T.f26,pB,p1,p2,q0o,AV.cells,Nat.reduceAdd,Nat.reduceLeDiff,q0a,q0E,AV.one,over,lcl,p3,p4,q7,q13,wl,df k0,df k1,df k2,dt k3,q0u];simp only[q5D (H:=H24),T.z7t,q1,q0H,q0I,wp,AV.one,over,AV.cells,Nat.reduceAdd,Nat.reduceLeDiff,lcl];refine Res.eq ?_ rfl
     (repeat apply Fr.lays)
     exact Fr.refl _
    ·rw[if_neg k3];simp only[z04 (H:=H24) rfl,T.f26,pB,p1,p2,q0o,AV.cells,Nat.reduceAdd,Nat.reduceLeDiff,q0a,q0E,AV.one,over,lcl,p3,p4,q7,q13,wl,df k0,df k1,df k2,df k3,q0u];simp only[q5D (H:=H24),T.z7t,q1,q0H,q0I,wp,AV.one,over,AV.cells,Nat.reduceAdd,Nat.reduceLeDiff,lcl];refine Res.eq ?_ rfl
     (repeat apply Fr.lays)
     exact Fr.refl _
def S25:List FuncId:=[26]
def H25:FuncId->Option (List AV->Mem->R):=q1L E24 S25
abbrev E25:Env:=T.EH H25
theorem a4P:q1u E25:=q0Z a4O S25
theorem z8I {H:FuncId->Option (List AV->Mem->R)} (h:H 26=some (q0y E24 26)) {n:Int} (h1:-9223372036854775808<=n) (h2:n<9223372036854775808) (m:Mem):run (T.EH H) (.fn 26) [.int .i64 n] m=some (.agg (q0u (q19 n).1 (q19 n).2),m):=
 q0r h (by simp[AV.flat,AV.lt,AV.lts,q0u]) fun m2 _ _=>a4Z h1 h2 m2
theorem a6X {m:Mem} {b:Nat} {st:LSt} {F:List Nat} (h:q0L m b st F) (w:LWf st) (id:Int) {n:Int} (h1:-9223372036854775808<=n) (h2:n<9223372036854775808) :
  Res m (run E25 (.fn 30) [.ptr (some ⟨b,0⟩),.int .u64 id,.int .i64 n] m) (.agg (q0u (q19 n).1 (q0D st id).2.1)):=by
 have ba:=a3G (H:=H25) rfl h w id;have am:=fun m=>z8I (H:=H25) rfl h1 h2 m
 have hb:b<m.next:=by obtain⟨_,_,_,e,_⟩:=h.v;exact Mem.q0x e
 simp only[q0u]at ba am⊢;simp (maxDischargeDepth:=20) only [a5x (H:=H25) rfl,T.f30,pB,p1,q1,q0d,q0H,q0I,Nat.reduceAdd,q0F,AV.one,over,AV.cells,Nat.reduceLeDiff,lcl,ba,am,frl,Fr.refl];refine Res.eq ?_ rfl
 (repeat apply Fr.lays)
 exact Fr.refl _
def S26:List FuncId:=[30]
def H26:FuncId->Option (List AV->Mem->R):=q1L E25 S26
abbrev E26:Env:=T.EH H26
theorem a4Q:q1u E26:=q0Z a4P S26
abbrev D26:Do:=T.Rl H26
theorem a6W {H:FuncId->Option (List AV->Mem->R)} (hh:H 30=some (q0y E25 30)) {m:Mem} {b:Nat} {st:LSt} {F:List Nat} (h:q0L m b st F) (w:LWf st) (id:Int) {n:Int} (h1:-9223372036854775808<=n) (h2:n<9223372036854775808) (M:Mem) (hM:Fr m M []) :
  run (T.EH H) (.fn 30) [.ptr (some ⟨b,0⟩),.int .u64 id,.int .i64 n] M=some (.agg (q0u (q19 n).1 (q0D st id).2.1),M):=
 q0r hh (by simp[AV.flat,AV.lt,AV.lts,q0u]) fun m2 g1 g2=>a6X ((h.q0h hM).q0h (Fr.same g1 g2)) w id h1 h2
end
end Go.Proofs.YtlginbmjiecglaaGreatDoor
