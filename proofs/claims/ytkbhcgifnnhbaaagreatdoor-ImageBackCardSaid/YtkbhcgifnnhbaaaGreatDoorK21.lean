/- Texts of one claim, put together. -/
import Derived.Test.YtkbhcgifnnhbaaaGreatDoorK20
namespace Go.Proofs.YtkbhcgifnnhbaaaGreatDoor
set_option maxRecDepth 4000
open Go Go.Abs
section
section
variable {m:Mem} {b:Nat} {st:LSt} {F:List Nat}
theorem uQ:∃e,TP.underlying 25=some (.slice e)/\szT TP e=some 9:=⟨158,by kernel_rfl,by kernel_rfl⟩
theorem q0I.stQ (h:q0I m b st F) {sp sq sa:AV} (hb:m.get b=some (.cells [sp,sq,sa,.int .u64 st.latest,.int .i64 st.most] false)) {i:Nat} {q q':q0D} (gq:st.pairs[i]? = some q) {o:Nat} {vs:List AV} (ho:o+vs.length<=9) (hv:vs.all AV.one=true)
  (hq':q.cells.take o++vs++q.cells.drop (o+vs.length)=q'.cells) :
  ∃bb m1,(∀k:IntKind,q0A TP 25 sq (.int k (i:Int))=some (.ptr (some ⟨bb,i*9⟩)))/\stV m (.ptr (some ⟨bb,i*9+o⟩)) (.agg vs) vs.length=some m1/\q0I m1 b {st with pairs:=st.pairs.set i q'} F/\Fr m m1 F/\m1.next=m.next/\m1.get b=m.get b:=by
 obtain⟨sp',sq',sa',rp,rq,ra,h1,h2,h3,h4,h5,h6,h7,h8,h9,h10,rfl⟩:=h.ex;rw[h1]at hb;simp only[xoi,Blk.cells.injEq,xDj,xFb]at hb;obtain⟨rfl,rfl,rfl⟩:=hb;obtain⟨hlt,hga⟩:=xgi.1 gq;obtain⟨bb,e1,e2,e3⟩:=h3.sto (i:=i) (by rw[xlm];exact hlt) (o:=o) (vs:=vs) ho hv;obtain⟨e,he,hs⟩:=uQ;obtain⟨bb',f1,f2⟩:=h3.ixT he hs (i:=i) (by rw[xlm];exact hlt);rw[e1]at f1;cases f1;have hv':(st.pairs.map (·.cells)).set i (((st.pairs.map fun x:q0D=>x.cells)[i]'(by rw[xlm];exact hlt)).take o++vs++((st.pairs.map fun x:q0D=>x.cells)[i]'(by rw[xlm];exact hlt)).drop (o+vs.length))=(st.pairs.set i q').map (·.cells):=by
  rw[xgm,hga,hq',xFv]
 rw[hv']at e2 e3;have hbb:bb≠b:=fun e=>h6 (by rw[e1,e];simp)
 have hf:Fr m (m.put bb (some (.cells ((st.pairs.set i q').map (·.cells)).flatten false))) [bb]:=Fr.put _ _ _;refine⟨bb,_,f2,e2,⟨sp',sq',sa',rp,rq,ra,hf.get h1 (by simp;exact fun e=>hbb e.symm),h2.frame hf (fun c hc=>?_),e3,h4.frame hf (fun c hc=>?_),h5,h6,h7,h8,h9,h10,rfl⟩,hf.mono (fun c hc=>?_),rfl,?_⟩
 ·simp only[xms];rintro rfl;exact h8 c (by rw[hc];simp) (by rw[e1];simp)
 ·simp only[xms];rintro rfl;exact h10 c (by rw[e1];simp) (by rw[hc];simp)
 ·simp only[xms]at hc;subst hc;rw[e1];simp
 ·exact z9T (fun e=>hbb e.symm)
theorem q0I.pairs {sp sq sa sq':AV} {rp ra:Option Nat} {r:Nat} {qs:List q0D} {m':Mem} (h1:m.get b=some (.cells [sp,sq,sa,.int .u64 st.latest,.int .i64 st.most] false)) (h2:q08 4 m sp (st.q0d.map (·.cells)) rp) (h4:q08 4 m sa (st.q0s.map (·.cells)) ra)
  (h5:b∉rp.toList) (h7:b∉ra.toList) (h9:Dj rp.toList ra.toList) (hf:Fr m m' []) (hr:q08 9 m' sq' (qs.map (·.cells)) (some r)) (hn:m.next<=r) :
  ∃m2 F',stV m' (.ptr (some ⟨b,1⟩)) sq' 1=some m2/\q0I m2 b {st with pairs:=qs} F'/\Fr m m2 [b]/\∀c,c∈F'->c=b\/c∈rp.toList\/c∈ra.toList\/m.next<=c:=by
 have B:=hf.get h1 (by simp);have hb:=Mem.q0u h1;have s1:=hr.one;have lp:∀c,c∈rp.toList->c<m.next:=fun c hc=>by rw[xAw]at hc;subst hc;exact h2.lt
 have la:∀c,c∈ra.toList->c<m.next:=fun c hc=>by rw[xAw]at hc;subst hc;exact h4.lt
 have sv:stV m' (.ptr (some ⟨b,1⟩)) sq' 1=some (m'.put b (some (.cells [sp,sq',sa,.int .u64 st.latest,.int .i64 st.most] false))):=by
  have:=q1B (v:=sq') (vs:=[sq']) (o:=1) (n:=1) B (q3k s1) rfl (by simp);simpa using this
 have fp:Fr m' (m'.put b (some (.cells [sp,sq',sa,.int .u64 st.latest,.int .i64 st.most] false))) [b]:=Fr.put _ _ _;have fA:Fr m (m'.put b (some (.cells [sp,sq',sa,.int .u64 st.latest,.int .i64 st.most] false))) [b]:=(hf.any _).step fp (fun c hc=>.inl hc)
 have nb:∀{r:Option Nat},b∉r.toList->∀c,r=some c->c∉[b]:=fun hr c hc=>by simp only[xms];rintro rfl;exact hr (by rw[hc];simp)
 refine⟨_,b::(rp.toList++(some r).toList++ra.toList),sv,⟨sp,sq',sa,rp,some r,ra,q0x B,h2.frame fA (nb h5),hr.frame fp (fun c hc=>by cases hc;simp;omega),h4.frame fA (nb h7),h5,by simp;omega,h7,?_,h9,?_,rfl⟩,fA,?_⟩
 ·intro c h1' h2';simp only[xCo,xms]at h2';have:=lp c h1';omega
 ·intro c h1' h2';simp only[xCo,xms]at h1';have:=la c h2';omega
 ·intro c hc;simp only[xmk0,xma,xCo,xFq,or_false]at hc;rcases hc with hc|(hc|hc)|hc
  ·exact .inl hc
  ·exact .inr (.inl hc)
  ·exact .inr (.inr (.inr (by omega)))
  ·exact .inr (.inr (.inl hc))
theorem a4v (h:q0I m b st F) (w:LWf st) {x y:List UInt8} (hx:x.length=3) (t7:AV):∀(d k:Nat),k+d=lb q0g (x++y) (st.pairs.map (·.key))->
  D22.gor 290820 [.ptr (some ⟨b,0⟩),.str x,.str y,t7,.int .i64 (k:Int)] m=D22.gor 290822 [.ptr (some ⟨b,0⟩),.str x,.str y,t7,.int .i64 ((lb q0g (x++y) (st.pairs.map (·.key)):Nat):Int)] m:=by
 obtain⟨sp,sq,sa,rp,rq,ra,h1,h2,h3,h4,h5⟩:=h.ex;have a3:∀i:Nat,ld1 m (.ptr (some ⟨b,i⟩))=[sp,sq,sa,.int .u64 st.latest,.int .i64 st.most][i]?:=fun i=>q0e h1
 obtain⟨e,he,hs⟩:=uQ;have hle:=j03 (lt:=q0g) (x++y) (st.pairs.map (·.key));rw[xlm]at hle;have hlq:=w.lq;have hlen:=h3.v.q2e he;rw[xlm]at hlen;have key:∀k (hlt:k<st.pairs.length),q0g st.pairs[k].key (x++y)=(q0g st.pairs[k].x x||(decide (st.pairs[k].x=x)&&q0g st.pairs[k].y y)):=fun k hlt=>by
  have:=q1G w (w.okq st.pairs[k] (xAf hlt)).2.2.2.2.1;unfold q0D.key;rw[q3O (by omega)]
 intro d;induction d with
 |zero=>
  intro k hk;have:k=lb q0g (x++y) (st.pairs.map (·.key)):=by omega
  rw[<-this];by_cases hlt:k<st.pairs.length
  ·obtain⟨bb,o,_,x2,x3,_,_⟩:=h3.v.ixT he hs (i:=k) (by rw[xlm];exact hlt);have x4:=x3 0 (by omega);have x5:=x3 1 (by omega);rw[xgm]at x4 x5;have hat:=a3y (lt:=q0g) (k:=x++y) (ks:=st.pairs.map (·.key)) (by rw[xlm];omega);simp only[<-this,xgm]at hat;rw[key k hlt,xFp]at hat;simp only[ge,q0D.cells,xna]at x4 x5;by_cases hxx:st.pairs[k].x=x
   ·have h9:=hat.2;rw[dt hxx,xAs]at h9;simp only[q6L (H:=H22),z6p,p1,q1,p2,nnA,q0b,ifV,q1M,a3,hlen,dt (show (k:Int)<(st.pairs.length:Int) by omega),x2,x4,x5,hat.1,dt hxx,h9]
   ·simp only[q6L (H:=H22),z6p,p1,q1,p2,nnA,q0b,ifV,q1M,a3,hlen,dt (show (k:Int)<(st.pairs.length:Int) by omega),x2,x4,x5,hat.1,df hxx]
  ·simp only[q6L (H:=H22),z6p,p1,q1,p2,nnA,q0b,ifV,q1M,a3,hlen,df (show ¬(k:Int)<(st.pairs.length:Int) by omega)]
 |succ d ih=>
  intro k hk;have hlt:k<st.pairs.length:=by omega
  obtain⟨bb,o,_,x2,x3,_,_⟩:=h3.v.ixT he hs (i:=k) (by rw[xlm];exact hlt);have x4:=x3 0 (by omega);have x5:=x3 1 (by omega);rw[xgm]at x4 x5;have hbe:=q8l (lt:=q0g) (k:=x++y) (ks:=st.pairs.map (·.key)) (j:=k) (by rw[xlm];omega) (by omega);rw[xgm,key k hlt]at hbe;simp only[ge,q0D.cells,xna]at x4 x5;have nx:D22.gor 290821 [.ptr (some ⟨b,0⟩),.str x,.str y,t7,.int .i64 (k:Int)] m=D22.gor 290822 [.ptr (some ⟨b,0⟩),.str x,.str y,t7,.int .i64 ((lb q0g (x++y) (st.pairs.map (·.key)):Nat):Int)] m:=by
   simp only[a2L (H:=H22),a7F,p2,q1M,show (k:Int)+1=((k+1:Nat):Int) by omega,wrap_i64 (n:=((k+1:Nat):Int)) (by omega) (by omega)];exact ih (k+1) (by omega)
  cases hxl:q0g st.pairs[k].x x with
  |true=>simp only[q6L (H:=H22),z6p,p1,q1,p2,nnA,q0b,ifV,q1M,a3,hlen,dt (show (k:Int)<(st.pairs.length:Int) by omega),x2,x4,x5,hxl,nx]
  |false=>
   rw[hxl,Bool.false_or,xAc]at hbe;simp only[q6L (H:=H22),z6p,p1,q1,p2,nnA,q0b,ifV,q1M,a3,hlen,dt (show (k:Int)<(st.pairs.length:Int) by omega),x2,x4,x5,hxl,hbe.1,hbe.2,nx]
theorem b45 (h:q0I m b st F) (g:LGood st) (x y:List UInt8) {r:Wd} (hr:r.ok) (s:Int) :
  ∃m' F',run E22 (.fn 71) [.ptr (some ⟨b,0⟩),.str x,.str y,.agg (q0O r s)] m=some (.int .i64 (z7n st x y r s).1,m')/\q0I m' b (z7n st x y r s).2 F'/\Fr m m' F/\∀c,c∈F'->c∈F\/m.next<=c:=by
 have w:=g.w;have hF:=h.lt;obtain⟨M,hM⟩:∃M,M=m.lay (.cells (q0O r s) false):=⟨_,rfl⟩;have fM:Fr m M []:=by rw[hM];exact(Fr.refl m).lay _
 have hR:=h.q0m fM;have gx:=z2w (H:=H22) rfl hR (by have:=w.lp;omega) x M (Fr.refl _);have gy:=z2w (H:=H22) rfl hR (by have:=w.lp;omega) y M (Fr.refl _);have gq:=b44 (H:=H22) rfl hR (by have:=w.lq;omega) x y M (Fr.refl _);have rr:=z97 (H:=H22) rfl hr s M;have hD:M.get m.next=some (.cells (q0O r s) false):=by rw[hM];exact q0k _ _
 have lD:ldN M (.ptr (some ⟨m.next,0⟩)) 3=some (.agg (q0O r s)):=q0X hD rfl
 have done:∀v:AV,∃m' F',some (v,M)=some (v,m')/\q0I m' b st F'/\Fr m m' F/\∀c,c∈F'->c∈F\/m.next<=c:=fun v=>⟨M,F,rfl,hR,fM.any F,fun c hc=>.inl hc⟩
 have cm:=dt (show (-1:Int)<0 by omega);unfold z7n;rw[show q63 r s=q4p r s from rfl];simp only[q0O]at hM lD rr⊢;cases hx:q1u q0g x (st.q0d.map (·.name)) with
 |false=>
  rw[z94 w hx]at gx;rw[LSt.q3H hx];rw[xAb (.inl rfl)];simp only[z0D (H:=H22) rfl,F71,p2,q00,q0b,ifV,q1M,AV.cells,AV.one,lcs,<-hM,gx,cm];exact done _
 |true=>
  obtain⟨p,p1,p2,p3,p4⟩:=LSt.q2c hx;rw[z2v w hx]at gx;have cx:=df (show ¬((st.iP x:Nat):Int)<0 by omega);have sx:(st.q4r x).isSome=true:=by rw[p1];rfl
  cases hy:q1u q0g y (st.q0d.map (·.name)) with
  |false=>
   rw[z94 w hy]at gy;rw[LSt.q3H hy,xAb (.inr rfl)];simp only[z0D (H:=H22) rfl,F71,q00,q0b,ifV,q1M,AV.cells,AV.one,lcs,<-hM,gx,gy,cm,cx];exact done _
  |true=>
   obtain⟨p',p1',_⟩:=LSt.q2c hy;rw[z2v w hy]at gy;have cy:=df (show ¬((st.iP y:Nat):Int)<0 by omega);have sy:(st.q4r y).isSome=true:=by rw[p1'];rfl
   rw[xAa (by rw[sx,sy];simp)];by_cases hxy:x=y
   ·rw[xAb hxy];simp only[z0D (H:=H22) rfl,F71,q00,q0b,ifV,q1M,AV.cells,AV.one,lcs,<-hM,gx,gy,cx,cy];simp only[q8i (H:=H22),j0x,q0b,q1M,dt hxy];exact done _
   ·rw[xAa hxy];by_cases hz:q4p r s=0
    ·rw[xAa (by simp[hz])];rw[hz]at rr;rw[b42 w sx sy]at gq;have hrr:q5i r s=true:=q64 hz;cases hq:q1u q0g (x++y) (st.pairs.map (·.key)) with
     |true=>
      obtain⟨q,q1,q2,q3,q4⟩:=LSt.q6O hq;have l3:=w.okq q q4;have hxq:q.x=x/\q.y=y:=List.append_inj q2 (by rw[q1G w l3.2.2.2.2.1,q1G w sx]);have q3':st.pairs[st.iQ (x++y)]? = some q:=q3;rw[xAb hq]at gq;obtain⟨sp,sq,sa,hb,_⟩:=hR.v;have a3:∀i:Nat,ld1 M (.ptr (some ⟨b,i⟩))=[sp,sq,sa,.int .u64 st.latest,.int .i64 st.most][i]?:=fun i=>q0e hb
      obtain⟨bb,m1,i1,i2,i3,i4,_,_⟩:=q0I.stQ hR hb (q':={q with x:=x,y:=y,rate:=r,q0V:=s}) q3' (o:=2) (vs:=q0O r s) (by simp[q0O]) rfl (by simp[q0D.cells,q0O,hxq.1,hxq.2])
      refine⟨m1,F,?_,?_,(fM.any F).step i4 (fun c hc=>.inl hc),fun c hc=>.inl hc⟩
      ·simp only[q0O,xAi,xAv,xnz,Nat.reduceAdd]at i2;simp only[z0D (H:=H22) rfl,F71,q00,q0b,ifV,q1M,AV.cells,AV.one,lcs,<-hM,gx,gy,cx,cy];simp only[q8i (H:=H22),j0x,q0b,q1M,df hxy];simp only[z1L (H:=H22),j3y,q0b,q1M,lD,rr,xAn,xbt];simp only[z9s (H:=H22),a07,nnA,q0b,q1M,gq,dt (show (0:Int)<=((st.iQ (x++y):Nat):Int) by omega),a3,lD,i1,i2]
      ·rw[q1];show q0I m1 b (st.q9G _) F;have e:st.q9G {q with x:=x,y:=y,rate:=r,q0V:=s}={st with pairs:=st.pairs.set (st.iQ (x++y)) {q with x:=x,y:=y,rate:=r,q0V:=s}}:=by
        have hq':q1u q0g (q0D.key {q with x:=x,y:=y,rate:=r,q0V:=s}) (st.pairs.map (·.key))=true:=hq
        unfold LSt.q9G;rw[xAb hq'];rfl
       rw[show (some q).getD z2L=q from rfl,e];exact i3
     |false=>
      rw[xAa (by rw[hq];decide)]at gq;rw[LSt.q9f hq];obtain⟨sp,sq,sa,rp,rq,ra,h1,h2,h3,h4,h5,h6,h7,h8,h9,h10,eF⟩:=hR.ex;have a3:∀i:Nat,ld1 M (.ptr (some ⟨b,i⟩))=[sp,sq,sa,.int .u64 st.latest,.int .i64 st.most][i]?:=fun i=>q0e h1
      obtain⟨e,he,hs⟩:=uQ;obtain⟨k,hk'⟩:∃k,k=lb q0g (x++y) (st.pairs.map (·.key)):=⟨_,rfl⟩;have l0:=a4v hR w (q1G w sx) (y:=y) (.ptr (some ⟨m.next,0⟩)) k 0 (by omega)
      rw[<-hk']at l0;have hkl:k<=(st.pairs.map (·.cells)).length:=by rw[xlm,hk'];have:=j03 (lt:=q0g) (x++y) (st.pairs.map (·.key));rw[xlm]at this;exact this
      obtain⟨u1,u2⟩:=h3.upTo he hs hkl;obtain⟨v1,v2⟩:=h3.q99 he hs hkl;have hlq:=w.lq;obtain⟨s1,m1,s2,m2,s3,m3,rr3,q1,q2,q3,q4,f1,f2,f3,q5⟩:=z9H (w:=88) (by omega) h3 hkl u2 v2 (new:=(q0D.mk x y r s ⟨0,0⟩ ⟨0,0⟩).cells) rfl rfl (q4u (by rw[xlm];omega) (by decide));rw[<-q6R (·.cells) k (q0D.mk x y r s ⟨0,0⟩ ⟨0,0⟩)]at q4;obtain⟨m4,F',z1,z2,z3,z4⟩:=q0I.pairs h1 h2 h4 h5 h7 h9 f3 q4 q5
      obtain⟨_,pq⟩:=g.q9G (q:={z2L with x:=x,y:=y,rate:=r,q0V:=s}) ⟨⟨hr,hrr,by simp[z2L,Wd.ok],by simp[z2L,Wd.ok],sx,sy⟩,hxy,by simp[z2L,Wd.val],by simp[z2L,Wd.val]⟩
      have pq':=pq hq;have e:st.q9G {z2L with x:=x,y:=y,rate:=r,q0V:=s}={st with pairs:=q7P k (q0D.mk x y r s ⟨0,0⟩ ⟨0,0⟩) st.pairs}:=by
       rw[hk'];show ({st with pairs:=(st.q9G {z2L with x:=x,y:=y,rate:=r,q0V:=s}).pairs}:LSt)=_
       rw[pq'];rfl
      have a31:∀i:Nat,ld1 m1 (.ptr (some ⟨b,i⟩))=[sp,sq,sa,.int .u64 st.latest,.int .i64 st.most][i]?:=fun i=>q0e (f1.get h1 (by simp))
      have a32:∀i:Nat,ld1 m2 (.ptr (some ⟨b,i⟩))=[sp,sq,sa,.int .u64 st.latest,.int .i64 st.most][i]?:=fun i=>q0e (f2.get h1 (by simp))
      have a33:∀i:Nat,ld1 (m1.lay (.cells (q0D.mk x y r s ⟨0,0⟩ ⟨0,0⟩).cells false)) (.ptr (some ⟨b,i⟩))=[sp,sq,sa,.int .u64 st.latest,.int .i64 st.most][i]?:=fun i=>q0e ((f1.step0 ((Fr.refl m1).lay _)).get h1 (by simp))
      have lD1:ldN m1 (.ptr (some ⟨m.next,0⟩)) 3=some (.agg (q0O r s)):=q0X (f1.get hD (by simp)) rfl
      have nM:=fM.next
      refine⟨m4,F',?_,?_,(fM.any F).step z3 (fun c hc=>.inl (by rw[eF];simp only[xms]at hc;simp[hc])),fun c hc=>?_⟩
      ·have bs:=q40 (n:=9) (zs:=[.str [],.str [],.int .i64 0,.int .u64 0,.int .i64 0,.int .i64 0,.int .u64 0,.int .i64 0,.int .u64 0]) (cs:=(q0D.mk x y r s ⟨0,0⟩ ⟨0,0⟩).cells) rfl rfl rfl;simp only[q0D.cells]at bs q2 a33;simp only[q0O]at lD1;simp only[xAz]at l0;simp only[z0D (H:=H22) rfl,F71,q00,q0b,ifV,q1M,AV.cells,AV.one,lcs,<-hM,gx,gy,cx,cy];simp only[q8i (H:=H22),j0x,q0b,q1M,df hxy]
       simp only[z1L (H:=H22),j3y,q0b,q1M,lD,rr,xAn,xbt];simp only[z9s (H:=H22),a07,nnA,q0b,q1M,gq,df (show ¬(0:Int)<=-1 by omega)];simp only[a2K (H:=H22),a7E,q1M,l0];simp only[a2M (H:=H22),a7G,q1,apE,q0p,AV.cells,Nat.reduceAdd,Nat.reduceLeDiff,nnA,q1M,a3,u1,lD,lD1,AV.one,lcs,bs,a33,q2,a32,v1,q3,z1]
      ·rw[show (none:Option q0D).getD z2L=z2L from rfl,e];exact z2
      ·rcases z4 c hc with h|h|h|h
       ·exact .inl (by rw[eF,h];simp)
       ·exact .inl (by rw[eF];simp[h])
       ·exact .inl (by rw[eF];simp[h])
       ·exact .inr (by omega)
    ·rw[xAb hz];simp only[z0D (H:=H22) rfl,F71,q00,q0b,ifV,q1M,AV.cells,AV.one,lcs,<-hM,gx,gy,cx,cy];simp only[q8i (H:=H22),j0x,q0b,q1M,df hxy];simp only[z1L (H:=H22),j3y,q1,q0b,q1M,lD,rr,df hz,xbf];exact done _
end
end
section
open Go Go.Abs
theorem b0M {x y:Int} (k:Int) (hx:0<x) (hy:0<y):0<=j9n x y k:=by
 have h0:0<=x*y:=xCh (by omega) (by omega);unfold j9n;split
 ·unfold scF;rw[df (show ¬x<0 by omega),df (show ¬y<0 by omega),xAa (by decide)];have e1:q17 x=x:=xAa (by omega);have e2:q17 y=y:=xAa (by omega);rw[e1,e2];exact a6H h0 k.toNat
 ·have t0:=q4N (-k).toNat;exact xCh h0 (by omega)
theorem j4d {w:Wd} {s:Int} {v:Wd} {t n:Int} (h:(q3l w s v t n).2.2=0):0<=(q3l w s v t n).1.val:=by
 unfold q3l at h⊢;split
 ·split
  ·split
   ·rename_i h2 h3;have:=b0M (s+t-n) h2 (z0Z h3).2;split
    ·rw[Wd.q1N];exact this
    ·simp[Wd.val]
   ·simp[Wd.val]
  ·simp[Wd.val]
 ·simp[Wd.val]
theorem z3D {st:LSt} (g:q5S st) (i j:Int) (x:Wd) (s:Int):q5S (q3m st i j x s).2.2.2:=by
 unfold q3m;rcases LSt.q1W g.w i with ⟨e,_⟩|⟨a,p,e,ga,gp,hid,hka,hpn,hkp,ma,mp⟩
 ·rw[e];exact g
 ·rcases LSt.q1W g.w j with ⟨e',_⟩|⟨a',p',e',ga',gp',hid',hka',hpn',hkp',ma',mp'⟩
  ·rw[e,e'];exact g
  ·rw[e,e'];simp only[ne_eq,xAq,xAh];split
   ·exact g
   rename_i hnn;cases hq:st.j6N (p.name++p'.name) with
   |none=>exact g
   |some q=>
    simp only;unfold j4c;split
    ·exact g
    split
    ·exact g
    dsimp only;split
    ·exact g
    split
    ·exact g
    rename_i h1 h2 h3 h4;have hf:q3n p x s=0:=by simpa using h1
    have hx:=(q6D hf).2;have h3':(q3l x s q.rate q.q0V p'.scale).2.2=0:=by simpa using h3
    have hg:=j4d h3';obtain⟨gw,hgw⟩:∃gw,gw=(q3l x s q.rate q.q0V p'.scale).1:=⟨_,rfl⟩;rw[<-hgw]at h4 hg⊢;have f1:q45 a.bal q.inx x=true:=by cases h:q45 a.bal q.inx x with|true=>rfl|false=>exact absurd (.inl h) h4
    have f2:q45 q.q2I a'.bal gw=true:=by cases h:q45 q.q2I a'.bal gw with|true=>rfl|false=>exact absurd (.inr h) h4
    obtain⟨f3,f4⟩:=q6C f1;obtain⟨f5,f6⟩:=q6C f2;have hij:i≠j:=fun h=>hnn (by rw[h,e']at e;cases e;rfl)
    obtain⟨l1,l2⟩:=g.toLGood.b46 ga ga' hij (Wd.q4D f3) (Wd.q4D f6) (by rw[Wd.q1N];omega) (by rw[Wd.q1N];have:=(g.a1 a' ma').2;omega);obtain⟨q1,q2,q3⟩:=LSt.z6Z hq;have mq:=xCa q2;have l3:=g.w.okq q mq;have l4:=g.q1 q mq;have np:q4R p.name=true:=(g.w.okp p mp).2.2.2;have hxy:q.x=p.name/\q.y=p'.name:=List.append_inj q1 (by rw[q1G g.w l3.2.2.2.2.1,q9y np]);obtain⟨l5,_⟩:=l1.q9G (q:={q with inx:=Wd.of (q.inx.val+x.val),q2I:=Wd.of (q.q2I.val-gw.val)}) ⟨⟨l3.1,l3.2.1,Wd.q4D f4,Wd.q4D f5,l3.2.2.2.2.1,l3.2.2.2.2.2⟩,l4.1,by rw[Wd.q1N];omega,by rw[Wd.q1N];omega⟩
    refine {toLGood:=l5,su:=?_};have hk:q1u q0g q.key (st.pairs.map (·.key))=true:=by rw[q1];exact q3
    refine g.q9Q fun k=>?_
    show sA k ((st.q2U {a with bal:=Wd.of (a.bal.val-x.val)}).q2U {a' with bal:=Wd.of (a'.bal.val+gw.val)}).q0s+sQ k (if q1u q0g q.key (st.pairs.map (·.key))=true then _ else _)=_
    rw[xAb hk];show _+sQ k (st.pairs.set (st.iQ q.key) _)=_;rw[a6I q2 (q':={q with inx:=Wd.of (q.inx.val+x.val),q2I:=Wd.of (q.q2I.val-gw.val)}) rfl rfl,l2]
    simp only[Wd.q1N,hxy.1,hxy.2,<-hpn,<-hpn'];split<;>split<;>omega
end
section
def S23:List FuncId:=[151,190,21]
def R23:List FuncId:=[67,69,70,65,66,71]
noncomputable def H23:FuncId->Option (List AV->Mem->R):=q5a E22 S23 R23
noncomputable abbrev E23:Env:=Ea H23
theorem b2w:q07 E23:=q3t b2v S23 R23
noncomputable abbrev D23:Do:=Da H23
section
variable {H:FuncId->Option (List AV->Mem->R)} {m:Mem} {b:Nat} {st:LSt} {F:List Nat}
theorem z5B {f:FuncId} (h:H f=some (run E22 (.fn f))) (xs:List AV) (m:Mem):run (Ea H) (.fn f) xs m=run E22 (.fn f) xs m:=q1x h xs m
theorem b1j (hh:H 21=some (q0B E22 21)) {sp sq sa tp tq ta:AV} {s t:LSt} (hs:BkV m sp sq sa s) (ht:BkV m tp tq ta t) (hn:z5T s) (M:Mem) (hM:Fr m M []) :
  run (Ea H) (.fn 21) [.agg [sp,sq,sa,.int .u64 s.latest],.agg [tp,tq,ta,.int .u64 t.latest]] M=some (.bool (z2z s t),M):=
 q0w hh (by simp[AV.flat,AV.lt]) fun m2 h1 h2=>b1k ((hs.q0m hM).q0m (Fr.same h1 h2)) ((ht.q0m hM).q0m (Fr.same h1 h2)) hn
end
theorem j9V {H:FuncId->Option (List AV->Mem->R)} (h:H 151=some (q0B E22 151)) {w v:Wd} (hw:w.ok) (hv:v.ok) (s t n:Int) (m:Mem) :
  run (Ea H) (.fn 151) [.agg (q0O w s),.agg (q0O v t),.int .i64 n] m=some (.tup [.agg (q0O (q3l w s v t n).1 (q3l w s v t n).2.1),.int .i64 (q3l w s v t n).2.2],m):=by
 rw[<-z3E];exact q0w h (by rw[z3E];simp[AV.flat,AV.lt,AV.lts,q0O]) fun m2 _ _=>j9W hw hv s t n m2
theorem uA:∃e,TP.underlying 26=some (.slice e)/\szT TP e=some 4:=⟨162,by kernel_rfl,by kernel_rfl⟩
theorem LSt.a0n {st:LSt} {a a':q1v} {i j:Int} (ga:st.z0F i=some a) (ga':st.z0F j=some a') (hij:i≠j) (n n':Wd):(st.q2U {a with bal:=n}).q2U {a' with bal:=n'}=(st.q2U {a' with bal:=n'}).q2U {a with bal:=n}:=by
 obtain⟨e1,g1⟩:=LSt.q2h ga;obtain⟨e2,g2⟩:=LSt.q2h ga';have ne:st.iA a.id≠st.iA a'.id:=fun e=>by
  rw[e,g2]at g1;cases g1;exact hij (e1.symm.trans e2)
 have hk:∀{i:Int} {a:q1v},st.z0F i=some a->q1u q0F a.id (st.q0s.map (·.id))=true:=fun {i a} ga=>by
  have e1:=(LSt.q2h ga).1;cases hk:q1u q0F a.id (st.q0s.map (·.id)) with
  |true=>rfl
  |false=>rw[<-e1,LSt.q49 hk]at ga;cases ga
 have k1:=hk ga;have k2:=hk ga';have h1:(st.q2U {a with bal:=n}).iA a'.id=st.iA a'.id:=by
  unfold LSt.iA;rw[LSt.q6Q (st:=st) (a:={a with bal:=n}) k1]
 have h2:(st.q2U {a' with bal:=n'}).iA a.id=st.iA a.id:=by
  unfold LSt.iA;rw[LSt.q6Q (st:=st) (a:={a' with bal:=n'}) k2]
 show ({st with q0s:=(st.q0s.set (st.iA a.id) {a with bal:=n}).set ((st.q2U {a with bal:=n}).iA a'.id) {a' with bal:=n'}}:LSt)={st with q0s:=(st.q0s.set (st.iA a'.id) {a' with bal:=n'}).set ((st.q2U {a' with bal:=n'}).iA a.id) {a with bal:=n}}
 rw[h1,h2,List.set_comm _ _ ne]
section
variable {m:Mem} {b:Nat} {st:LSt} {F:List Nat}
theorem j9U {M:Mem} {n:Nat} (h:q0I M b st F) (hF:∀c,c∈F->c<n) {i j:Int} {a a':q1v} {q:q0D} (ga:st.z0F i=some a) (ga':st.z0F j=some a') (hij:i≠j) {k:List UInt8} (gq:st.j6N k=some q) {x:Wd} (hab:a.bal.ok) (hx:x.ok) {s:Int}
  (hfx:q0Q (a.bal.val-x.val)=true) {gw nin nout nto:Wd} {gs:Int} (hD:M.get n=some (.cells (q0O x s) false)) (hZ:M.get (n+1)=some (.cells z3 false)) (hG:M.get (n+2)=some (.cells (q0O gw gs) false))
  (h3:M.get (n+3)=some (.cells nin.cells false)) (h4:M.get (n+4)=some (.cells nout.cells false)) (h5:M.get (n+5)=some (.cells nto.cells false)) :
  ∃m',D23.gor 299014 [.ptr (some ⟨b,0⟩),.ptr (some ⟨n,0⟩),.ptr (some ⟨n+1,0⟩),.int .i64 ((st.iA i:Nat):Int),.int .i64 ((st.iA j:Nat):Int),.int .i64 ((st.iQ k:Nat):Int),.ptr (some ⟨n+2,0⟩),.ptr (some ⟨n+3,0⟩),.ptr (some ⟨n+4,0⟩),.ptr (some ⟨n+5,0⟩)] M=some (.tup [.agg (q0O gw gs),.int .i64 0],m')/\
   q0I m' b (((st.q2U {a with bal:=Wd.of (a.bal.val-x.val)}).q2U {a' with bal:=nto}).q9G {q with inx:=nin,q2I:=nout}) F/\Fr M m' ((n+1)::F):=by
 obtain⟨e1,g1⟩:=LSt.q2h ga;obtain⟨e2,g2⟩:=LSt.q2h ga';obtain⟨e3,g3,g4⟩:=LSt.z6Z gq;obtain⟨sp,sq,sa,rp,rq,ra,k1,k2,k3,k4,k5⟩:=h.ex;obtain⟨ea,uA1,uA2⟩:=uA;rw[e1]at g1;rw[e2]at g2;rw[e3]at g3;obtain⟨ba,r1,r2,r3,r4,r5⟩:=k4.reads uA1 uA2 (f:=q1v.cells) g1;obtain⟨ba',r1',r2',r3',r4',r5'⟩:=k4.reads uA1 uA2 (f:=q1v.cells) g2;rw[r1]at r1';cases r1';obtain⟨nf,hnf⟩:∃nf,nf=Wd.of (a.bal.val-x.val):=⟨_,rfl⟩
 have su:=fun m=>q67 (H:=H23) rfl hab hx m
 rw[q1O hfx,<-hnf]at su;rw[<-hnf];obtain⟨M1,hM1⟩:∃M1,M1=M.lay (.cells nf.cells false):=⟨_,rfl⟩;have f1:Fr M M1 []:=by rw[hM1];exact(Fr.refl M).lay _
 have lZ:=Mem.q0u h5;have kb1:=f1.get k1 (by simp);have nF:∀c,n<=c->c∉F:=fun c hc hm=>by have:=hF c hm;omega
 obtain⟨b1,m1,i1,i2,i3,i4,i5,i6⟩:=q0I.stQ (h.q0m f1) kb1 (i:=st.iQ k) (q:=q) (q':={q with inx:=nin}) g3 (o:=5) (vs:=nin.cells) (by simp[Wd.cells]) rfl (by simp[q0D.cells,Wd.cells])
 have kb2:=i6.trans kb1;obtain⟨b2,m2,j1,j2,j3,j4,j5,j6⟩:=q0I.stQ i3 kb2 (i:=st.iQ k) (q:={q with inx:=nin}) (q':={q with inx:=nin,q2I:=nout}) (by
  show (st.pairs.set _ _)[_]? = _;rw[List.getElem?_set_self (xgi.1 g3).1]) (o:=7) (vs:=nout.cells) (by simp[Wd.cells]) rfl (by simp[q0D.cells,Wd.cells])
 have kb3:=j6.trans kb2;obtain⟨st2,hst2⟩:∃st2,st2=({st with pairs:=st.pairs.set (st.iQ k) {q with inx:=nin,q2I:=nout}}:LSt):=⟨_,rfl⟩
 have j3':q0I m2 b st2 F:=by rw[hst2];simpa only [List.set_set]using j3
 have ga2:st2.z0F i=some a:=by rw[hst2];exact ga
 have ga2':st2.z0F j=some a':=by rw[hst2];exact ga'
 obtain⟨b3,m3,l1,l2,l3,l4,l5,l6⟩:=j3'.stA (by rw[hst2];exact kb3) (a:=a') (LSt.q2h ga2').2 nto;have kb4:=l6.trans kb3;have hkj:q1u q0F a'.id (st2.q0s.map (·.id))=true:=by
  cases hk:q1u q0F a'.id (st2.q0s.map (·.id)) with
  |true=>rfl
  |false=>have:=LSt.q49 hk;rw[e2,ga2']at this;cases this
 have ne:st2.iA a.id≠st2.iA a'.id:=fun e=>by
  have h1:=(LSt.q2h ga2).2;rw[e,(LSt.q2h ga2').2]at h1;cases h1;exact hij (e1.symm.trans e2)
 have hi2:(st2.q2U {a' with bal:=nto}).iA a.id=st2.iA a.id:=by
  unfold LSt.iA;rw[LSt.q6Q (st:=st2) (a:={a' with bal:=nto}) hkj]
 have hl2:(st2.q2U {a' with bal:=nto}).q0s.length=st2.q0s.length:=List.length_set ..
 obtain⟨b4,m4,o1,o2,o3,o4,o5,o6⟩:=l3.stA (by rw[hst2];exact kb4) (a:=a) (by
  rw[hi2];show (st2.q0s.set _ _)[_]? = _;rw[xFo (fun e=>ne e.symm)];exact(LSt.q2h ga2).2) nf
 have kb5:=o6.trans kb4;have fin:(st2.q2U {a' with bal:=nto}).q2U {a with bal:=nf}=((st.q2U {a with bal:=nf}).q2U {a' with bal:=nto}).q9G {q with inx:=nin,q2I:=nout}:=by
  rw[<-LSt.a0n ga2 ga2' hij,hst2];have hk:q1u q0g (q0D.key {q with inx:=nin,q2I:=nout}) (st.pairs.map (·.key))=true:=by rw[<-e3]at g4;exact g4
  unfold LSt.q9G;have hp:(LSt.pairs ((st.q2U {a with bal:=nf}).q2U {a' with bal:=nto}))=st.pairs:=rfl
  rw[hp,xAb hk];show _=({((st.q2U {a with bal:=nf}).q2U {a' with bal:=nto}) with pairs:=st.pairs.set (st.iQ q.key) {q with inx:=nin,q2I:=nout}}:LSt)
  rw[e3];rfl
 rw[fin]at o3;have c1:st2.iA a'.id=st.iA j:=by rw[e2,hst2];rfl
 have c2:st2.iA a.id=st.iA i:=by rw[e1,hst2];rfl
 rw[c1]at l2;rw[hi2,c2]at o2;have eb:b3=ba/\b4=ba:=by
  obtain⟨_,_,_,_,_,ra2,z1,_,_,z4,_⟩:=j3'.ex;rcases k4.2 with (⟨_,z,_⟩|⟨bz,_,z,zz,_⟩)|⟨bz,z,zz,_⟩
  ·rw[r1]at z;cases z
  ·rw[r1]at z;cases z;rw[zz]at l1 o1
   first
    |(simp only[AV.sl.injEq,xoi,AA.mk.injEq,xFb]at l1 o1;exact⟨l1.1.symm,o1.1.symm⟩)
    |(simp at l1)
    |(simp at l1 o1;exact⟨l1.1.symm,o1.1.symm⟩)
  ·rw[r1]at z;cases z;rw[zz]at l1 o1;simp only[AV.sl.injEq,xoi,AA.mk.injEq,xFb]at l1 o1;exact⟨l1.1.symm,o1.1.symm⟩
 obtain⟨rfl,rfl⟩:=eb;have eq2:b2=b1:=by
  have h1:=i1 .i64;have h2:=j1 .i64;rw[h1]at h2;simp only[xoi,AV.ptr.injEq,AA.mk.injEq,xFb]at h2;exact h2.symm
 subst eq2;have fx1:Fr M m1 F:=(f1.any F).step i4 (fun c hc=>.inl hc)
 have fx2:Fr M m2 F:=fx1.step j4 (fun c hc=>.inl hc)
 have fx3:Fr M m3 F:=fx2.step l4 (fun c hc=>.inl hc)
 have fx4:Fr M m4 F:=fx3.step o4 (fun c hc=>.inl hc)
 have n1:=f1.next
 have nm1:M1.get M.next=some (.cells nf.cells false):=by rw[hM1];exact q0k _ _
 have lF:∀c,c∈F->c<M.next:=fun c hc=>by have:=hF c hc;omega
 have nm4:=o4.get (l4.get (j4.get (i4.get nm1 (fun hc=>by have:=lF _ hc;omega)) (fun hc=>by have:=lF _ hc;omega)) (fun hc=>by have:=lF _ hc;omega)) (fun hc=>by have:=lF _ hc;omega)
 have nm3:=l4.get (j4.get (i4.get nm1 (fun hc=>by have:=lF _ hc;omega)) (fun hc=>by have:=lF _ hc;omega)) (fun hc=>by have:=lF _ hc;omega)
 have d0:ldN M (.ptr (some ⟨n,0⟩)) 2=some (.agg x.cells):=by rw[q1b hD (by simp[q0O])];rfl
 have d1:ldN M1 (.ptr (some ⟨n+3,0⟩)) 2=some (.agg nin.cells):=q0X (f1.get h3 (by simp)) rfl;have d2:ldN m1 (.ptr (some ⟨n+4,0⟩)) 2=some (.agg nout.cells):=q0X (fx1.get h4 (nF _ (by omega))) rfl;have d3:ldN m2 (.ptr (some ⟨n+5,0⟩)) 2=some (.agg nto.cells):=q0X (fx2.get h5 (nF _ (by omega))) rfl;have d4:ldN m3 (.ptr (some ⟨M.next,0⟩)) 2=some (.agg nf.cells):=q0X nm3 rfl
 have d5:ldN m4 (.ptr (some ⟨n+2,0⟩)) 3=some (.agg (q0O gw gs)):=q0X (fx4.get hG (nF _ (by omega))) rfl;have z4:=fx4.get hZ (nF _ (by omega));have s8:=q14 (n:=3) (v:=q0O gw gs) z4 rfl rfl rfl;have l8:ldN (m4.put (n+1) (some (.cells (q0O gw gs) false))) (.ptr (some ⟨n+1,0⟩)) 3=some (.agg (q0O gw gs)):=q0X (q0x z4) rfl;have a0:∀i:Nat,ld1 M (.ptr (some ⟨b,i⟩))=[sp,sq,sa,.int .u64 st.latest,.int .i64 st.most][i]?:=fun i=>q0e k1
 have a1:∀i:Nat,ld1 M1 (.ptr (some ⟨b,i⟩))=[sp,sq,sa,.int .u64 st.latest,.int .i64 st.most][i]?:=fun i=>q0e kb1
 have a2:∀i:Nat,ld1 m1 (.ptr (some ⟨b,i⟩))=[sp,sq,sa,.int .u64 st.latest,.int .i64 st.most][i]?:=fun i=>q0e kb2
 have a3:∀i:Nat,ld1 m2 (.ptr (some ⟨b,i⟩))=[sp,sq,sa,.int .u64 st.latest,.int .i64 st.most][i]?:=fun i=>q0e kb3
 have a4:∀i:Nat,ld1 m3 (.ptr (some ⟨b,i⟩))=[sp,sq,sa,.int .u64 st.latest,.int .i64 st.most][i]?:=fun i=>q0e kb4
 have s0:stV (M.lay (.cells [.int .i64 0,.int .u64 0] false)) (.ptr (some ⟨M.next,0⟩)) (.agg nf.cells) 2=some M1:=by rw[q14 (n:=2) (q0k M _) rfl rfl rfl,q1S,hM1]
 have bal:=r5 M (Fr.refl M) 2 2 (by omega);refine⟨_,?_,o3.frame (Fr.put m4 (n+1) (some (.cells (q0O gw gs) false))) (fun c hc=>by simp only[xms];rintro rfl;exact nF _ (by omega) hc),((fx4.mono (T:=(n+1)::F) (by simp +contextual)).put' (.inl (by simp)))⟩
 simp only[q1v.cells,Wd.cells,q0O,xBh,xAp,xBk,xBp,xAi,xAv,xnz,Nat.reduceAdd]at bal d0 d1 d2 d3 d4 d5 s0 s8 l8 i2 j2 l2 o2 su⊢;simp only[a2N (H:=H23),a7H,p1,q1,p2,pB,nnA,q0q,q0P,q0T,q0r,a0,a1,a2,a3,a4,r3,r3',i1,bal,d0,su,s0,d1,d2,d3,d4,d5,i2,j2,l2,o2,s8,l8]
end
end
section
set_option maxRecDepth 4000
set_option maxHeartbeats 400000
open Go Go.Abs
theorem z6J (st:LSt) (i j:Int) (x:Wd) (s:Int):q3m st i j x s=(if (st.of i).2.2≠0 then (⟨0,0⟩,0,(st.of i).2.2,st) else if (st.of j).2.2≠0 then (⟨0,0⟩,0,(st.of j).2.2,st) else
  if (st.of i).2.1.name=(st.of j).2.1.name then (⟨0,0⟩,0,45,st) else match st.j6N ((st.of i).2.1.name++(st.of j).2.1.name) with|none=>(⟨0,0⟩,0,44,st)|some q=>j4c st (st.of i).1 (st.of i).2.1 (st.of j).1 (st.of j).2.1 q x s):=rfl
section
variable {m:Mem} {b:Nat} {st:LSt} {F:List Nat}
theorem z7q (h:q0I m b st F) (w:LWf st) (i j:Int) {x:Wd} (hx:x.ok) (s:Int) :
  ∃m',run E23 (.fn 73) [.ptr (some ⟨b,0⟩),.int .u64 i,.int .u64 j,.agg (q0O x s)] m=some (.tup [.agg (q0O (q3m st i j x s).1 (q3m st i j x s).2.1),.int .i64 (q3m st i j x s).2.2.1],m')/\q0I m' b (q3m st i j x s).2.2.2 F/\Fr m m' F:=by
 have hF:=h.lt;obtain⟨M,hM⟩:∃M,M=(m.lay (.cells (q0O x s) false)).lay (.cells z3 false):=⟨_,rfl⟩;have fM:Fr m M []:=by rw[hM];(repeat apply Fr.lays);exact Fr.refl _
 have hR:=h.q0m fM;have hD:M.get m.next=some (.cells (q0O x s) false):=by rw[hM];simp only[Mem.q0J,Mem.q0G,nn1,xAd,xAh]
 have hZ:M.get (m.next+1)=some (.cells z3 false):=by rw[hM];simp[Mem.q0J]
 have nM:M.next=m.next+1+1:=by rw[hM];rfl
 have gi:=z7k (H:=H23) rfl hR (by have:=w.la;omega) i M (Fr.refl _);have gj:=z7k (H:=H23) rfl hR (by have:=w.la;omega) j M (Fr.refl _);have none_idx:∀id,st.z0F id=none->q52 (fun p:q1v=>decide (p.id=id)) st.q0s 0=-1:=by
  intro id hn;apply z5I w;cases hk:q1u q0F id (st.q0s.map (·.id)) with
  |false=>rfl
  |true=>obtain⟨a,a1,_⟩:=LSt.q1Q hk;rw[hn]at a1;cases a1
 have cm:=dt (show (-1:Int)<0 by omega);have er:∀{M':Mem},M'.get (m.next+1)=some (.cells z3 false)->stV M' (.ptr (some ⟨m.next+1,0⟩)) (.agg z3) 3=some (M'.put (m.next+1) (some (.cells z3 false)))/\ldN (M'.put (m.next+1) (some (.cells z3 false))) (.ptr (some ⟨m.next+1,0⟩)) 3=some (.agg z3):=
  fun hz=>⟨q14 (n:=3) hz rfl rfl rfl,q0X (q0x hz) rfl⟩
 have done:∀{M':Mem} {c:Int},Fr m M' []->∃m',some (AV.tup [.agg z3,.int .i64 c],M'.put (m.next+1) (some (.cells z3 false)))=some (AV.tup [.agg (q0O ⟨0,0⟩ 0),.int .i64 c],m')/\q0I m' b st F/\Fr m m' F:=fun {M' c} hf=>
  ⟨_,rfl,h.frame (hf.put' (S:=[]) (b:=m.next+1) (.inr (by omega))) (by simp),(hf.put' (.inr (by omega))).any F⟩
 obtain⟨es,el⟩:=er hZ;simp only[z3]at es el done hM;simp only[q0O]at hM;rw[z6J];simp only[z3,q0O]at *;rcases LSt.q1W w i with ⟨e,hn⟩|⟨a,p,e,g1,g2,hid,hka,hpn,hkp,ma,mp⟩
 ·rw[none_idx i hn]at gi;rw[e];simp only[ne_eq,show ¬(40:Int)=0 by omega,xCu,xAd];simp only[z9b (H:=H23) rfl,F73,pB,p2,q0p,AV.cells,q00,q0b,ifV,q0P,q0T,q0r,AV.one,lcs,Mem.q0G,<-hM,gi,gj,cm,es,el];exact done fM
 ·rw[z7u w hka]at gi;have ci:=df (show ¬((st.iA i:Nat):Int)<0 by omega);rw[e];rcases LSt.q1W w j with ⟨e',hn⟩|⟨a',p',e',g1',g2',hid',hka',hpn',hkp',ma',mp'⟩
  ·rw[none_idx j hn]at gj;rw[e'];simp only[ne_eq,xAq,xAh,show ¬(40:Int)=0 by omega,xCu,xAd];simp only[z9b (H:=H23) rfl,F73,pB,p2,q0p,AV.cells,q00,q0b,ifV,q0P,q0T,q0r,AV.one,lcs,Mem.q0G,<-hM,gi,gj,ci,cm,es,el];exact done fM
  ·rw[z7u w hka']at gj;have cj:=df (show ¬((st.iA j:Nat):Int)<0 by omega);rw[e'];obtain⟨sp,sq,sa,rp,rq,ra,k1,k2,k3,k4,k5⟩:=hR.ex;have a3:∀i:Nat,ld1 M (.ptr (some ⟨b,i⟩))=[sp,sq,sa,.int .u64 st.latest,.int .i64 st.most][i]?:=fun i=>q0e k1
   obtain⟨ea,uA1,uA2⟩:=uA;obtain⟨ba,r1,r2,r3,r4,r5⟩:=k4.reads uA1 uA2 (f:=q1v.cells) (i:=st.iA i) (by have:=(LSt.q2h g1).2;rw[hid]at this;exact this);obtain⟨ba',r1',r2',r3',r4',r5'⟩:=k4.reads uA1 uA2 (f:=q1v.cells) (i:=st.iA j) (by have:=(LSt.q2h g1').2;rw[hid']at this;exact this);have c0:=r4 M (Fr.refl _) 1 (by omega);have c0':=r4' M (Fr.refl _) 1 (by omega);simp only[ge,q1v.cells]at c0 c0'
   simp only[ne_eq,xAq,xAh];rw[hpn,hpn'];by_cases hnn:a.q1U=a'.q1U
   ·rw[xAb hnn];simp only[z9b (H:=H23) rfl,F73,pB,p2,q0p,AV.cells,q00,q0b,ifV,q0P,q0T,q0r,AV.one,lcs,Mem.q0G,<-hM,gi,gj,ci,cj];simp only[z9t (H:=H23),a08,p1,q1,p2,q0p,nnA,q0b,q0P,q0T,q0r,a3,r3,r3',c0,c0',dt hnn,es,el];exact done fM
   ·rw[xAa hnn];have sx:(st.q4r a.q1U).isSome=true:=by rw[g2];rfl
    have sy:(st.q4r a'.q1U).isSome=true:=by rw[g2'];rfl
    have gq:=b44 (H:=H23) rfl hR (by have:=w.lq;omega) a.q1U a'.q1U M (Fr.refl _);rw[b42 w sx sy]at gq;have l0:run E23 (.fn 73) [.ptr (some ⟨b,0⟩),.int .u64 i,.int .u64 j,.agg [.int .i64 x.hi,.int .u64 x.lo,.int .i64 s]] m=D23.gor 299009 [.ptr (some ⟨b,0⟩),.ptr (some ⟨m.next,0⟩),.ptr (some ⟨m.next+1,0⟩),.int .i64 ((st.iA i:Nat):Int),.int .i64 ((st.iA j:Nat):Int),.str a.q1U,.str a'.q1U] M:=by
     simp only[z9b (H:=H23) rfl,F73,pB,p2,q0p,AV.cells,q00,q0b,ifV,q0P,q0T,q0r,AV.one,lcs,Mem.q0G,<-hM,gi,gj,ci,cj];simp only[z9t (H:=H23),a08,p1,q1,p2,q0p,nnA,q0b,q0P,q0T,q0r,a3,r3,r3',c0,c0',df hnn]
    rw[l0];clear l0 gi gj;cases hq:q1u q0g (a.q1U++a'.q1U) (st.pairs.map (·.key)) with
    |false=>
     rw[xAa (by rw[hq];decide)]at gq;rw[LSt.q9f hq];simp only[q6N (H:=H23),z6r,p2,q0p,q0b,q0P,q0T,q0r,gq,cm,es,el];exact done fM
    |true=>
     rw[xAb hq]at gq;obtain⟨q,q1,q2,q3,q4⟩:=LSt.q6O hq;rw[q1];dsimp only;have cq:=df (show ¬((st.iQ (a.q1U++a'.q1U):Nat):Int)<0 by omega);have ft:=a4l (H:=H23) rfl hR w g2 hx s M (Fr.refl _);have lD:ldN M (.ptr (some ⟨m.next,0⟩)) 3=some (.agg (q0O x s)):=q0X hD rfl
     have lD2:ldN M (.ptr (some ⟨m.next,0⟩)) 2=some (.agg x.cells):=by rw[q1b hD (by simp)];rfl
     simp only[q0O,Wd.cells]at lD lD2 ft;unfold j4c;obtain⟨fe,hfe⟩:∃fe,fe=q3n p x s:=⟨_,rfl⟩;rw[<-hfe]at ft⊢;by_cases f0:fe=0
     ·subst f0;rw[xAa (by simp)];have xpos:=(q6D hfe.symm).2;have po:=z2r (H:=H23) rfl (w.oka a ma).1 hx M;have hsl:=a0p (a.bal.val-x.val);have b0:=r5 M (Fr.refl _) 2 2 (by omega);simp only[q1v.cells,xBh,xAp,xBk,xBp]at b0;simp only[Wd.cells]at po;by_cases hpr:a.bal.val<x.val
      ·rw[xAb hpr];rw[dt (show a.bal.val-x.val<0 by omega)]at hsl;simp only[q6N (H:=H23),z6r,p2,q0p,q0b,q0P,q0T,q0r,gq,cq];simp only[q8j (H:=H23),j0y,p2,q0p,q0b,q0P,q0T,q0r,lD,ft,xAn,xbt];simp only[z1M (H:=H23),j3z,p1,p2,q0p,nnA,q0b,q0P,q0T,q0r,a3,r3,b0,lD2,po,hsl,es,el]
       exact done fM
      ·rw[xAa hpr];rw[df (show ¬a.bal.val-x.val<0 by omega)]at hsl;have efx:q0Q (a.bal.val-x.val)=true:=by
        have h2:=Wd.q8x (w.oka a ma).1;unfold q0Q at h2⊢;simp only[xAc,xAj]at h2⊢;omega
       obtain⟨eq',uQ1,uQ2⟩:=uQ;obtain⟨eP,uP1,uP2⟩:=uP;obtain⟨bq,t1,t2,t3,t4,t5⟩:=k3.reads uQ1 uQ2 (f:=q0D.cells) (i:=st.iQ (a.q1U++a'.q1U)) q3;have gp:=z2w (H:=H23) rfl hR (by have:=w.lp;omega) a'.q1U M (Fr.refl _);rw[z2v w (by rw[<-hpn'];exact hkp')]at gp;have gpa:=(LSt.z6Y g2').2;rw[hpn']at gpa;obtain⟨bp,v1,v2,v3,v4,v5⟩:=k2.reads uP1 uP2 (f:=q0v.cells) gpa;have w0:=v4 M (Fr.refl _) 1 (by omega)
       have t0:=t5 M (Fr.refl _) 2 3 (by omega);simp only[ge,q0v.cells,q0D.cells,xBh,xAp,xBk,xBp]at w0 t0;have okq:=w.okq q q4;have cr:=j9V (H:=H23) rfl hx okq.1 s q.q0V p'.scale M;have crok:=j4e x s q.rate q.q0V p'.scale;obtain⟨cd,hcd⟩:∃cd,cd=q3l x s q.rate q.q0V p'.scale:=⟨_,rfl⟩;rw[<-hcd]at cr crok⊢;obtain⟨gw,gs,ge'⟩:=cd;obtain⟨M3,hM3⟩:∃M3,M3=M.lay (.cells (q0O gw gs) false):=⟨_,rfl⟩
       have f3:Fr M M3 []:=by rw[hM3];exact(Fr.refl M).lay _
       have s3:stV (M.lay (.cells [.int .i64 0,.int .u64 0,.int .i64 0] false)) (.ptr (some ⟨M.next,0⟩)) (.agg (q0O gw gs)) 3=some M3:=by rw[q14 (n:=3) (q0k M _) rfl rfl rfl,q1S,hM3]
       obtain⟨es3,el3⟩:=er (f3.get hZ (by simp));simp only[q0O]at cr s3 crok
       try dsimp only
       by_cases hge:ge'=0
       ·subst hge;rw[xAa (by simp)];have n3:M3.next=m.next+1+1+1:=by rw[hM3];show M.next+1=_;rw[nM]
        have hG:M3.get (m.next+2)=some (.cells (q0O gw gs) false):=by rw[hM3,show m.next+2=M.next by omega];exact q0k _ _
        have a33:∀i:Nat,ld1 M3 (.ptr (some ⟨b,i⟩))=[sp,sq,sa,.int .u64 st.latest,.int .i64 st.most][i]?:=fun i=>q0e (f3.get k1 (by simp))
        obtain⟨nin,hnin⟩:∃nin,nin=(Wd.res (q.inx.val+x.val)).1:=⟨_,rfl⟩;obtain⟨nout,hnout⟩:∃nout,nout=(Wd.res (q.q2I.val-gw.val)).1:=⟨_,rfl⟩;obtain⟨nto,hnto⟩:∃nto,nto=(Wd.res (a'.bal.val+gw.val)).1:=⟨_,rfl⟩;have y1:=fun m=>q62 (H:=H23) rfl okq.2.2.1 hx m
        have y2:=fun m=>q67 (H:=H23) rfl okq.2.2.2.1 crok m
        have y3:=fun m=>q62 (H:=H23) rfl (w.oka a' ma').1 crok m
        have d1:=q4G (n:=q.inx.val+x.val);have d2:=q4G (n:=q.q2I.val-gw.val);have d3:=q4G (n:=a'.bal.val+gw.val);rw[<-hnin]at y1;rw[<-hnout]at y2;rw[<-hnto]at y3;obtain⟨M4,hM4⟩:∃M4,M4=M3.lay (.cells nin.cells false):=⟨_,rfl⟩;obtain⟨M5,hM5⟩:∃M5,M5=M4.lay (.cells nout.cells false):=⟨_,rfl⟩;obtain⟨M6,hM6⟩:∃M6,M6=M5.lay (.cells nto.cells false):=⟨_,rfl⟩;have g4:Fr M3 M4 []:=by rw[hM4];exact(Fr.refl _).lay _
        have g5:Fr M4 M5 []:=by rw[hM5];exact(Fr.refl _).lay _
        have g6:Fr M5 M6 []:=by rw[hM6];exact(Fr.refl _).lay _
        have n4:M4.next=m.next+4:=by rw[hM4];show M3.next+1=_;omega
        have n5:M5.next=m.next+5:=by rw[hM5];show M4.next+1=_;omega
        have s4:stV (M3.lay (.cells [.int .i64 0,.int .u64 0] false)) (.ptr (some ⟨M3.next,0⟩)) (.agg nin.cells) 2=some M4:=by rw[q14 (n:=2) (q0k M3 _) rfl rfl rfl,q1S,hM4]
        have s5:stV (M4.lay (.cells [.int .i64 0,.int .u64 0] false)) (.ptr (some ⟨M4.next,0⟩)) (.agg nout.cells) 2=some M5:=by rw[q14 (n:=2) (q0k M4 _) rfl rfl rfl,q1S,hM5]
        have s6:stV (M5.lay (.cells [.int .i64 0,.int .u64 0] false)) (.ptr (some ⟨M5.next,0⟩)) (.agg nto.cells) 2=some M6:=by rw[q14 (n:=2) (q0k M5 _) rfl rfl rfl,q1S,hM6]
        have F4:=f3.step0 g4;have F5:=F4.step0 g5;have F6:=F5.step0 g6;have G6:Fr M3 M6 []:=(g4.step0 g5).step0 g6;obtain⟨es6,el6⟩:=er (F6.get hZ (by simp));have u1:=t5 M3 f3 5 2 (by omega);have u2:=t5 M4 F4 7 2 (by omega);have u3:=r5' M5 F5 2 2 (by omega);simp only[q1v.cells,q0D.cells,xBh,xAp,xBk,xBp]at u1 u2 u3;have a34:∀i:Nat,ld1 M4 (.ptr (some ⟨b,i⟩))=[sp,sq,sa,.int .u64 st.latest,.int .i64 st.most][i]?:=fun i=>q0e (F4.get k1 (by simp))
        have a35:∀i:Nat,ld1 M5 (.ptr (some ⟨b,i⟩))=[sp,sq,sa,.int .u64 st.latest,.int .i64 st.most][i]?:=fun i=>q0e (F5.get k1 (by simp))
        have e3:ldN M3 (.ptr (some ⟨m.next,0⟩)) 2=some (.agg x.cells):=by rw[q1b (f3.get hD (by simp)) (by simp)];rfl
        have e4:ldN M4 (.ptr (some ⟨m.next+2,0⟩)) 2=some (.agg gw.cells):=by rw[q1b (g4.get hG (by simp)) (by simp[q0O])];rfl
        have e5:ldN M5 (.ptr (some ⟨m.next+2,0⟩)) 2=some (.agg gw.cells):=by rw[q1b ((g4.step0 g5).get hG (by simp)) (by simp[q0O])];rfl
        have mn:M.next=m.next+2:=by omega
        rw[mn]at s3;have st5:∀v:Bool,(q0Q (q.inx.val+x.val)&&(q0Q (q.q2I.val-gw.val)&&q0Q (a'.bal.val+gw.val)))=v->D23.gor 299013 [.ptr (some ⟨b,0⟩),.ptr (some ⟨m.next,0⟩),.ptr (some ⟨m.next+1,0⟩),.int .i64 ((st.iA i:Nat):Int),.int .i64 ((st.iA j:Nat):Int),.int .i64 ((st.iQ (a.q1U++a'.q1U):Nat):Int),.ptr (some ⟨m.next+2,0⟩)] M3 =
          if v=true then D23.gor 299014 [.ptr (some ⟨b,0⟩),.ptr (some ⟨m.next,0⟩),.ptr (some ⟨m.next+1,0⟩),.int .i64 ((st.iA i:Nat):Int),.int .i64 ((st.iA j:Nat):Int),.int .i64 ((st.iQ (a.q1U++a'.q1U):Nat):Int),.ptr (some ⟨m.next+2,0⟩),.ptr (some ⟨M3.next,0⟩),.ptr (some ⟨M4.next,0⟩),.ptr (some ⟨M5.next,0⟩)] M6
          else some (.tup [.agg [.int .i64 0,.int .u64 0,.int .i64 0],.int .i64 20],M6.put (m.next+1) (some (.cells [.int .i64 0,.int .u64 0,.int .i64 0] false))):=by
         intro v hv;simp only[Wd.cells]at y1 y2 y3 s4 s5 s6 e3 e4 e5;cases h1:q0Q (q.inx.val+x.val) with
         |false=>
          rw[h1]at d1 hv;rw[xAt]at hv;subst hv;simp only[q8k (H:=H23),j0z,p1,p2,pB,q0p,nnA,q0q,q0b,ifV,q0P,q0T,q0r,a33,a34,a35,t3,r3',u1,u2,u3,e3,e4,e5,y1,y2,y3,s4,s5,s6,d1,xbf,es6,el6,xbq,xAh]
         |true=>
          rw[h1]at d1 hv;rw[xAs]at hv;cases h2:q0Q (q.q2I.val-gw.val) with
          |false=>
           rw[h2]at d2 hv;rw[xAt]at hv;subst hv;simp only[q8k (H:=H23),j0z,p1,p2,pB,q0p,nnA,q0q,q0b,ifV,q0P,q0T,q0r,a33,a34,a35,t3,r3',u1,u2,u3,e3,e4,e5,y1,y2,y3,s4,s5,s6,d1,d2,xbt,xbf,es6,el6,xbq,xAh]
          |true=>
           rw[h2]at d2 hv;rw[xAs]at hv;rw[hv]at d3;cases v with
           |false=>simp only[q8k (H:=H23),j0z,p1,p2,pB,q0p,nnA,q0q,q0b,ifV,q0P,q0T,q0r,a33,a34,a35,t3,r3',u1,u2,u3,e3,e4,e5,y1,y2,y3,s4,s5,s6,d1,d2,d3,xbt,xbf,es6,el6,xbq,xAh]
           |true=>simp only[q8k (H:=H23),j0z,p1,p2,pB,q0p,nnA,q0q,q0b,ifV,q0P,q0T,q0r,a33,a34,a35,t3,r3',u1,u2,u3,e3,e4,e5,y1,y2,y3,s4,s5,s6,d1,d2,d3,xbt]
        simp only[q6N (H:=H23),z6r,p2,q0p,q0b,q0P,q0T,q0r,gq,cq];simp only[q8j (H:=H23),j0y,p2,q0p,q0b,q0P,q0T,q0r,lD,ft,xAn,xbt];simp only[z1M (H:=H23),j3z,p1,p2,q0p,nnA,q0b,q0P,q0T,q0r,a3,r3,b0,lD2,po,hsl];simp only[z9u (H:=H23),a09,p1,p2,pB,q0p,nnA,q0q,q0b,q0P,q0T,q0r,lD,a3,t3,t0,gp,v3,w0,cr,s3,xAn,xbt,mn]
        rw[st5 _ rfl];cases hv:(q0Q (q.inx.val+x.val)&&(q0Q (q.q2I.val-gw.val)&&q0Q (a'.bal.val+gw.val))) with
        |false=>
         rw[xAa (by simp),xAb (by unfold q45;rw[efx,xAs];revert hv;cases q0Q (q.inx.val+x.val)<;>cases q0Q (q.q2I.val-gw.val)<;>cases q0Q (a'.bal.val+gw.val)<;>simp)];exact done (fM.step0 F6)
        |true=>
         simp only[xAc]at hv;rw[xAb rfl,xAa (by unfold q45;rw[efx,hv.1,hv.2.1,hv.2.2];simp)];rw[q1O hv.1]at hnin;rw[q1O hv.2.1]at hnout;rw[q1O hv.2.2]at hnto;have hij:i≠j:=fun h=>hnn (by rw[h,g1']at g1;cases g1;rfl)
         have p3:M6.get (m.next+3)=some (.cells nin.cells false):=(g5.step0 g6).get (by rw[hM4,show m.next+3=M3.next by omega];exact q0k _ _) (by simp)
         have p4:M6.get (m.next+4)=some (.cells nout.cells false):=g6.get (by rw[hM5,show m.next+4=M4.next by omega];exact q0k _ _) (by simp)
         have p5:M6.get (m.next+5)=some (.cells nto.cells false):=by rw[hM6,show m.next+5=M5.next by omega];exact q0k _ _
         obtain⟨m',o1,o2,o3⟩:=j9U (hR.q0m F6) hF g1 g1' hij q1 (w.oka a ma).1 hx (s:=s) efx (F6.get hD (by simp)) (F6.get hZ (by simp)) (G6.get hG (by simp)) p3 p4 p5;rw[show M3.next=m.next+3 by omega,n4,n5,o1]
         simp only[hnin,hnout,hnto]at o2;refine⟨m',rfl,o2,((fM.step0 F6).any F).step o3 (fun c hc=>?_)⟩
         simp only[xmk0]at hc;rcases hc with rfl|hc
         ·exact .inr (by omega)
         ·exact .inl hc
       ·rw[xAb hge];simp only[q6N (H:=H23),z6r,p2,q0p,q0b,q0P,q0T,q0r,gq,cq];simp only[q8j (H:=H23),j0y,p2,q0p,q0b,q0P,q0T,q0r,lD,ft,xAn,xbt];simp only[z1M (H:=H23),j3z,p1,p2,q0p,nnA,q0b,q0P,q0T,q0r,a3,r3,b0,lD2,po,hsl];simp only[z9u (H:=H23),a09,p1,p2,pB,q0p,nnA,q0q,q0b,q0P,q0T,q0r,lD,a3,t3,t0,gp,v3,w0,cr,s3,df hge,xbf,es3,el3]
        exact done (fM.step0 f3)
     ·rw[xAb f0];simp only[q6N (H:=H23),z6r,p2,q0p,q0b,q0P,q0T,q0r,gq,cq];simp only[q8j (H:=H23),j0y,p2,q0p,q0b,q0P,q0T,q0r,lD,ft,df f0,xbf,es,el];exact done fM
end
end
noncomputable section
theorem a3T (m:Mem) (k:Int) {n:Int} (h0:0<n) (h1:n<=4611686018427387904):run E23 (.fn 34) [.int .i64 k,.int .i64 n] m=some (.int .i64 (k % n),m):=by
 have e:k.tmod n=if 0<=k then k % n else if k % n=0 then 0 else k % n-n:=by
  rw[Int.tmod_eq_emod];split
  ·rename_i h;rcases h with h|h
   ·rw[xAb h];omega
   ·by_cases h2:0<=k
    ·rw[xAb h2];omega
    ·rw[xAa h2,xAb (Int.emod_eq_zero_of_dvd h),Int.emod_eq_zero_of_dvd h];omega
  ·rename_i h;rw[xAa (fun h2=>h (.inl h2))]
   have:¬k % n=0:=fun h2=>h (.inr (Int.dvd_of_emod_eq_zero h2))
   rw[xAa this];have:=Int.natAbs_of_nonneg (show 0<=n by omega);omega
 have p0:=xEm k (show n≠0 by omega);have p1:=xDm k h0;simp only[b3R (H:=H23) rfl,F34,p2,q0b,q0y,q2f _ _ _ _ (show n≠0 by omega)];by_cases hn:k.tmod n<0
 ·simp only[dt hn,z9p (H:=H23),a04,q0y];have e2:k.tmod n+n=k % n:=by
   rw[e]at hn⊢;split at hn
   ·omega
   ·split at hn
    ·omega
    ·rename_i g1 g2;rw[xAa g1,xAa g2];omega
  rw[e2,wrap_i64 (by omega) (by omega)]
 ·simp only[df hn,z9p (H:=H23),a04,q0y];have e2:k.tmod n=k % n:=by
   rw[e]at hn⊢;split at hn
   ·rename_i g1;rw[xAb g1]
   ·split at hn
    ·rename_i g1 g2;rw[xAa g1,xAb g2,g2]
    ·omega
  rw[e2]
def S24:List FuncId:=[34]
def R24:List FuncId:=[73]
def H24:FuncId->Option (List AV->Mem->R):=q5a E23 S24 R24
abbrev E24:Env:=Ea H24
theorem b2x:q07 E24:=q3t b2w S24 R24
theorem b76 {H:FuncId->Option (List AV->Mem->R)} {f:FuncId} (h:H f=some (run E23 (.fn f))) (xs:List AV) (m:Mem):run (Ea H) (.fn f) xs m=run E23 (.fn f) xs m:=q1x h xs m
theorem q2D {H:FuncId->Option (List AV->Mem->R)} (h:H 34=some (q0B E23 34)) (m:Mem) (k:Int) {n:Int} (h0:0<n) (h1:n<=4611686018427387904):run (Ea H) (.fn 34) [.int .i64 k,.int .i64 n] m=some (.int .i64 (k % n),m):=
 q0w h (by simp[AV.flat,AV.lt]) fun m2 _ _=>⟨m2,a3T m2 k h0 h1,Fr.refl _⟩
def q18 (n:Int):Wd×Int:=
 if (n.tdiv 7) % 24=0 then (⟨0,n % 5000⟩,(n.tdiv 13) % 19) else if (n.tdiv 7) % 24=1 then (⟨9223372036854775807,18446744073709551615⟩,2) else
 if (n.tdiv 7) % 24=2 then (⟨-1,18446744073709551615⟩,2) else if (n.tdiv 7) % 24=3 then (⟨n % 4611686018427387904,n % 5000⟩,2) else (⟨0,n % 5000⟩,2)
theorem z0q (n:Int):(q18 n).1.ok:=by
 unfold q18 Wd.ok
 (repeat' split)<;>(simp only;omega)
theorem j1E {n k:Int} (h1:-9223372036854775808<=n) (h2:n<9223372036854775808) (hk:2<=k):IntKind.wrap .i64 (n.tdiv k)=n.tdiv k:=by
 have h3:(n.tdiv k).natAbs<=n.natAbs:=by
  rw[Int.natAbs_tdiv];exact Nat.div_le_self _ _
 have h4:(n.tdiv k).natAbs<=n.natAbs / 2:=by
  rw[Int.natAbs_tdiv];exact Nat.div_le_div_left (by omega) (by omega)
 exact wrap_i64 (by omega) (by omega)
theorem b2R {n:Int} (h1:-9223372036854775808<=n) (h2:n<9223372036854775808) (m:Mem):Res m (run E24 (.fn 72) [.int .i64 n] m) (.agg (q0O (q18 n).1 (q18 n).2)):=by
 have p1:=fun m=>q2D (H:=H24) rfl m n (n:=5000) (by omega) (by omega)
 have p2:=fun m=>q2D (H:=H24) rfl m (n.tdiv 7) (n:=24) (by omega) (by omega)
 have p3:=fun m=>q2D (H:=H24) rfl m (n.tdiv 13) (n:=19) (by omega) (by omega)
 have p4:=fun m=>q2D (H:=H24) rfl m n (n:=4611686018427387904) (by omega) (by omega)
 have q7:=q4t (P:=TP) 3 .i64 n 7 (by omega);have q13:=q4t (P:=TP) 3 .i64 n 13 (by omega);rw[j1E h1 h2 (by omega)]at q7 q13;have wl:IntKind.wrap .u64 (n % 5000)=n % 5000:=wrap_u64 (by omega) (by omega);unfold q18;obtain⟨k,hk⟩:∃k,k=(n.tdiv 7) % 24:=⟨_,rfl⟩;rw[<-hk]at p2⊢;by_cases k0:k=0
 ·rw[xAb k0];simp only[z3O (H:=H24) rfl,F72,Int.reduceNegSucc,pB,p1,p2,q0p,AV.cells,Nat.reduceAdd,Nat.reduceLeDiff,q0b,q0r,AV.one,over,lcl,p3,p4,q7,q13,wl,dt k0,q0O];simp only[q6M (H:=H24),z6q,q1,q0P,q0T,q0r,AV.one,over,AV.cells,Nat.reduceAdd,Nat.reduceLeDiff,lcl];refine Res.eq ?_ rfl
  (repeat apply Fr.lays)
  exact Fr.refl _
 ·rw[xAa k0];by_cases k1:k=1
  ·rw[xAb k1];simp only[z3O (H:=H24) rfl,F72,Int.reduceNegSucc,pB,p1,p2,q0p,AV.cells,Nat.reduceAdd,Nat.reduceLeDiff,q0b,q0r,AV.one,over,lcl,p3,p4,q7,q13,wl,df k0,dt k1,q0O];simp only[q6M (H:=H24),z6q,q1,q0P,q0T,q0r,AV.one,over,AV.cells,Nat.reduceAdd,Nat.reduceLeDiff,lcl];refine Res.eq ?_ rfl
   (repeat apply Fr.lays)
   exact Fr.refl _
  ·rw[xAa k1];by_cases k2:k=2
   ·rw[xAb k2];simp only[z3O (H:=H24) rfl,F72,Int.reduceNegSucc,pB,p1,p2,q0p,AV.cells,Nat.reduceAdd,Nat.reduceLeDiff,q0b,q0r,AV.one,over,lcl,p3,p4,q7,q13,wl,df k0,df k1,dt k2,q0O];simp only[q6M (H:=H24),z6q,q1,q0P,q0T,q0r,AV.one,over,AV.cells,Nat.reduceAdd,Nat.reduceLeDiff,lcl];refine Res.eq ?_ rfl
    (repeat apply Fr.lays)
    exact Fr.refl _
   ·rw[xAa k2];by_cases k3:k=3
    ·rw[xAb k3];simp only[z3O (H:=H24) rfl,F72,Int.reduceNegSucc,pB,p1,p2,q0p,AV.cells,Nat.reduceAdd,Nat.reduceLeDiff,q0b,q0r,AV.one,over,lcl,p3,p4,q7,q13,wl,df k0,df k1,df k2,dt k3,q0O];simp only[q6M (H:=H24),z6q,q1,q0P,q0T,q0r,AV.one,over,AV.cells,Nat.reduceAdd,Nat.reduceLeDiff,lcl];refine Res.eq ?_ rfl
     (repeat apply Fr.lays)
     exact Fr.refl _
    ·rw[xAa k3];simp only[z3O (H:=H24) rfl,F72,Int.reduceNegSucc,pB,p1,p2,q0p,AV.cells,Nat.reduceAdd,Nat.reduceLeDiff,q0b,q0r,AV.one,over,lcl,p3,p4,q7,q13,wl,df k0,df k1,df k2,df k3,q0O];simp only[q6M (H:=H24),z6q,q1,q0P,q0T,q0r,AV.one,over,AV.cells,Nat.reduceAdd,Nat.reduceLeDiff,lcl];refine Res.eq ?_ rfl
     (repeat apply Fr.lays)
     exact Fr.refl _
def S25:List FuncId:=[72]
def H25:FuncId->Option (List AV->Mem->R):=q1R E24 S25
abbrev E25:Env:=Ea H25
theorem b2y:q07 E25:=q0U b2x S25
theorem j3E {H:FuncId->Option (List AV->Mem->R)} (h:H 72=some (q0B E24 72)) {n:Int} (h1:-9223372036854775808<=n) (h2:n<9223372036854775808) (m:Mem):run (Ea H) (.fn 72) [.int .i64 n] m=some (.agg (q0O (q18 n).1 (q18 n).2),m):=
 q0w h (by simp[AV.flat,AV.lt,AV.lts,q0O]) fun m2 _ _=>b2R h1 h2 m2
theorem b4q {m:Mem} {b:Nat} {st:LSt} {F:List Nat} (h:q0I m b st F) (w:LWf st) (id:Int) {n:Int} (h1:-9223372036854775808<=n) (h2:n<9223372036854775808) :
  Res m (run E25 (.fn 68) [.ptr (some ⟨b,0⟩),.int .u64 id,.int .i64 n] m) (.agg (q0O (q18 n).1 (q2Z st id).2.1)):=by
 have ba:=b77 (H:=H25) rfl h w id;have am:=fun m=>j3E (H:=H25) rfl h1 h2 m
 have hb:b<m.next:=by obtain⟨_,_,_,e,_⟩:=h.v;exact Mem.q0u e
 simp only[q0O]at ba am⊢;simp (maxDischargeDepth:=20) only [b3S (H:=H25) rfl,F68,pB,p1,q1,q0q,q0P,q0T,Nat.reduceAdd,a0F,AV.one,over,AV.cells,Nat.reduceLeDiff,lcl,ba,am,frl,Fr.refl];refine Res.eq ?_ rfl
 (repeat apply Fr.lays)
 exact Fr.refl _
def S26:List FuncId:=[68]
def H26:FuncId->Option (List AV->Mem->R):=q1R E25 S26
abbrev E26:Env:=Ea H26
theorem b2z:q07 E26:=q0U b2y S26
abbrev D26:Do:=Da H26
theorem b4p {H:FuncId->Option (List AV->Mem->R)} (hh:H 68=some (q0B E25 68)) {m:Mem} {b:Nat} {st:LSt} {F:List Nat} (h:q0I m b st F) (w:LWf st) (id:Int) {n:Int} (h1:-9223372036854775808<=n) (h2:n<9223372036854775808) (M:Mem) (hM:Fr m M []) :
  run (Ea H) (.fn 68) [.ptr (some ⟨b,0⟩),.int .u64 id,.int .i64 n] M=some (.agg (q0O (q18 n).1 (q2Z st id).2.1),M):=
 q0w hh (by simp[AV.flat,AV.lt,AV.lts,q0O]) fun m2 g1 g2=>b4q ((h.q0m hM).q0m (Fr.same g1 g2)) w id h1 h2
end
section
set_option maxRecDepth 8000
set_option maxHeartbeats 1000000
open Go Go.Abs
def b0O:List UInt8:=[69,85,82]
def b0P:List UInt8:=[74,80,89]
def b0Q:List UInt8:=[85,83,68]
def j0M:List AV:=[.str b0O,.str b0P,.str b0Q]
def z3C (k:Int):List UInt8:=if k=0 then b0O else if k=1 then b0P else b0Q
theorem j4b {m:Mem} {cb:Nat} {ro:Bool} (h:m.get cb=some (.cells j0M ro)) {k:Int} (h0:0<=k) (h3:k<3):ixA 1 3 ⟨cb,0⟩ k=some (.ptr (some ⟨cb,k.toNat⟩))/\ld1 m (.ptr (some ⟨cb,k.toNat⟩))=some (.str (z3C k)):=by
 have:k=0\/k=1\/k=2:=by omega
 refine⟨by simp[ixA,h0,h3],?_⟩;rw[q0e h];rcases this with rfl|rfl|rfl<;>rfl
theorem j4a (k:Int):(z3C k).length=3:=by unfold z3C;(repeat' split)<;>rfl
theorem j0N (st:LSt) (n:List UInt8) (s:Int):(z6H st n s).2.most=st.most:=by unfold z6H;(repeat' split)<;>rfl
theorem z0W (st:LSt) (n:List UInt8):(z5m st n).2.2.most=st.most:=by unfold z5m;(repeat' split)<;>rfl
theorem q6v (st:LSt) (i:Int) (x:Wd) (s:Int):(q4y st i x s).2.most=st.most:=by unfold q4y;dsimp only;(repeat' split)<;>rfl
theorem z0h (st:LSt) (i:Int) (x:Wd) (s:Int):(q3R st i x s).2.most=st.most:=by unfold q3R;dsimp only;(repeat' split)<;>rfl
theorem z0g (st:LSt) (i j:Int) (x:Wd) (s:Int):(q3P st i j x s).2.most=st.most:=by unfold q3P;dsimp only;(repeat' split)<;>rfl
theorem j1j (st:LSt) (x y:List UInt8) (r:Wd) (s:Int):(z7n st x y r s).2.most=st.most:=by unfold z7n;(repeat' split)<;>rfl
theorem z1q (st:LSt) (i j:Int) (x:Wd) (s:Int):(q3m st i j x s).2.2.2.most=st.most:=by
 unfold q3m j4c;dsimp only
 (repeat' split)<;>first|rfl|(unfold LSt.q9G;rfl)
def i64 (n:Int):Prop:=-9223372036854775808<=n/\n<9223372036854775808
def a8j (a:Int×Int×Int×Int):List AV:=[.int .i64 a.1,.int .i64 a.2.1,.int .i64 a.2.2.1,.int .i64 a.2.2.2]
section
variable {M:Mem} {b:Nat} {st:LSt} {F:List Nat}
theorem j0H (h:q0I M b st F) (g:q5S st) {sl t4:AV} {i:Nat} {a:Int×Int×Int×Int} {bs o:Nat} (hco:∃ro,M.get 0=some (.cells j0M ro))
  (hix:q0A TP 22 sl (.int .i64 (i:Int))=some (.ptr (some ⟨bs,o⟩))) (hld:ldN M (.ptr (some ⟨bs,o⟩)) 4=some (.agg (a8j a))) (hN:i64 a.2.2.2) :
  ∃M3 st' F',D26.gor 57345 [sl,t4,.ptr (some ⟨b,0⟩),.int .i64 (i:Int)] M=D26.gor 57346 [sl,t4,.ptr (some ⟨b,0⟩),.int .i64 (i:Int)] M3/\q0I M3 b st' F'/\q5S st'/\st'.most=st.most/\Fr M M3 F/\∀c,c∈F'->c∈F\/M.next<=c:=by
 obtain⟨w,A,B,N⟩:=a;obtain⟨ro,hco⟩:=hco;simp only[a8j]at hld hN;obtain⟨M2,hM2⟩:∃M2,M2=M.lay (.cells [.int .i64 w,.int .i64 A,.int .i64 B,.int .i64 N] false):=⟨_,rfl⟩;have f2:Fr M M2 []:=by rw[hM2];exact(Fr.refl M).lay _
 have s2:stV (M.lay (.cells [.int .i64 0,.int .i64 0,.int .i64 0,.int .i64 0] false)) (.ptr (some ⟨M.next,0⟩)) (.agg [.int .i64 w,.int .i64 A,.int .i64 B,.int .i64 N]) 4=some M2:=by rw[q14 (n:=4) (q0k M _) rfl rfl rfl,q1S,hM2]
 have a2:∀i:Nat,ld1 M2 (.ptr (some ⟨M.next,i⟩))=[AV.int .i64 w,.int .i64 A,.int .i64 B,.int .i64 N][i]?:=fun i=>by rw[hM2];exact q0e (q0k M _)
 have hR:=h.q0m f2;have co:=f2.get hco (by simp);have pA5:=fun m=>q2D (H:=H26) rfl m A (n:=5) (by omega) (by omega)
 have pB5:=fun m=>q2D (H:=H26) rfl m B (n:=5) (by omega) (by omega)
 have pw:=fun m=>q2D (H:=H26) rfl m w (n:=9) (by omega) (by omega)
 have pA3:=fun m=>q2D (H:=H26) rfl m A (n:=3) (by omega) (by omega)
 have pB3:=fun m=>q2D (H:=H26) rfl m B (n:=3) (by omega) (by omega)
 have pN4:=fun m=>q2D (H:=H26) rfl m N (n:=4) (by omega) (by omega)
 obtain⟨iA,lA⟩:=j4b co (k:=A % 3) (by omega) (by omega);obtain⟨iB,lB⟩:=j4b co (k:=B % 3) (by omega) (by omega);have wA1:IntKind.wrap .i64 (1+A % 5)=1+A % 5:=wrap_i64 (by omega) (by omega);have wA2:IntKind.wrap .u64 (1+A % 5)=1+A % 5:=wrap_u64 (by omega) (by omega);have wB1:IntKind.wrap .i64 (1+B % 5)=1+B % 5:=wrap_i64 (by omega) (by omega);have wB2:IntKind.wrap .u64 (1+B % 5)=1+B % 5:=wrap_u64 (by omega) (by omega)
 have wN:IntKind.wrap .u64 (N % 4)=N % 4:=wrap_u64 (by omega) (by omega);have ft:=b4p (H:=H26) rfl hR g.w (1+A % 5) hN.1 hN.2 M2 (Fr.refl _);have am:=j3E (H:=H26) rfl hN.1 hN.2 M2;have dok:=z0q N;obtain⟨D,hD⟩:∃D,D=q18 N:=⟨_,rfl⟩;rw[<-hD]at ft am dok;obtain⟨s,hs⟩:∃s,s=(q2Z st (1+A % 5)).2.1:=⟨_,rfl⟩;rw[<-hs]at ft;simp only[q0O]at ft am;obtain⟨k,hk⟩:∃k,k=w % 9:=⟨_,rfl⟩;have hk9:k=0\/k=1\/k=2\/k=3\/k=4\/k=5\/k=6\/k=7\/k=8:=by omega
 rw[<-hk]at pw;clear hk;have fin:∀{M3:Mem} {st':LSt} {F':List Nat},D26.gor 57345 [sl,t4,.ptr (some ⟨b,0⟩),.int .i64 (i:Int)] M=D26.gor 57346 [sl,t4,.ptr (some ⟨b,0⟩),.int .i64 (i:Int)] M3->q0I M3 b st' F'->q5S st'->st'.most=st.most->Fr M2 M3 F->(∀c,c∈F'->c∈F\/M2.next<=c)->
   ∃M3 st' F',D26.gor 57345 [sl,t4,.ptr (some ⟨b,0⟩),.int .i64 (i:Int)] M=D26.gor 57346 [sl,t4,.ptr (some ⟨b,0⟩),.int .i64 (i:Int)] M3/\q0I M3 b st' F'/\q5S st'/\st'.most=st.most/\Fr M M3 F/\∀c,c∈F'->c∈F\/M.next<=c:=fun {M3 st' F'} e1 e2 e3 e4 e5 e6=>
  ⟨M3,st',F',e1,e2,e3,e4,(f2.any F).step e5 (fun c hc=>.inl hc),fun c hc=>(e6 c hc).imp id (fun h=>xnt0 f2.next h)⟩
 rcases hk9 with rfl|rfl|rfl|rfl|rfl|rfl|rfl|rfl|rfl
 ·obtain⟨M3,F',c1,c2,c3,c4⟩:=a4h hR g.w (z3C (A % 3)) (by rw[j4a];omega) (scale:=N % 4) (by omega);have c1':=(z5B (H:=H26) (f:=65) rfl _ _).trans c1;refine fin ?_ c2 (j39 g _ (by omega)) (j0N _ _ _) c3 c4;simp only[q3o (H:=H26),q8B,p2,q1,pB,p1,q0b,q0r,hix,hld,s2,a2,pA5,pB5,pw,wA1,wA2,wB1,wB2,pA3,iA,lA,pN4,wN,Int.reduceEq,xAn,xDh,c1']
 ·obtain⟨M3,F',c1,c2,c3,c4⟩:=z96 hR g.w (z3C (A % 3));have c1':=(z5B (H:=H26) (f:=66) rfl _ _).trans c1;refine fin ?_ c2 (z5n g _) (z0W _ _) c3 c4;simp only[q3o (H:=H26),q8B,p2,q1,pB,p1,q0b,q0r,hix,hld,s2,a2,pA5,pB5,pw,wA1,wA2,wB1,wB2,pA3,iA,lA,Int.reduceEq,xAn,xDh,c1']
 ·obtain⟨M3,F',c1,c2,c3,c4⟩:=z96 hR g.w (z3C (A % 3));have c1':=(z5B (H:=H26) (f:=66) rfl _ _).trans c1;refine fin ?_ c2 (z5n g _) (z0W _ _) c3 c4;simp only[q3o (H:=H26),q8B,p2,q1,pB,p1,q0b,q0r,hix,hld,s2,a2,pA5,pB5,pw,wA1,wA2,wB1,wB2,pA3,iA,lA,Int.reduceEq,xAn,xDh,c1']
 ·obtain⟨M3,c1,c2,c3⟩:=q9I hR g.w (1+A % 5) dok s;have c1':=(z5B (H:=H26) (f:=67) rfl _ _).trans c1;refine fin ?_ c2 (q7M g _ _ _) (q6v _ _ _ _) c3 (fun c hc=>.inl hc)
  simp only[q0O]at c1';simp only[q3o (H:=H26),q8B,p2,q1,pB,p1,q0b,q0r,hix,hld,s2,a2,pA5,pB5,pw,wA1,wA2,wB1,wB2,ft,Int.reduceEq,xAn,xDh,c1']
 ·obtain⟨M3,c1,c2,c3⟩:=q9I hR g.w (1+A % 5) dok s;have c1':=(z5B (H:=H26) (f:=67) rfl _ _).trans c1;refine fin ?_ c2 (q7M g _ _ _) (q6v _ _ _ _) c3 (fun c hc=>.inl hc)
  simp only[q0O]at c1';simp only[q3o (H:=H26),q8B,p2,q1,pB,p1,q0b,q0r,hix,hld,s2,a2,pA5,pB5,pw,wA1,wA2,wB1,wB2,ft,Int.reduceEq,xAn,xDh,c1']
 ·obtain⟨M3,c1,c2,c3⟩:=z5P hR g.w (1+A % 5) dok s;have c1':=(z5B (H:=H26) (f:=69) rfl _ _).trans c1;refine fin ?_ c2 (z2I g _ _ _) (z0h _ _ _ _) c3 (fun c hc=>.inl hc)
  simp only[q0O]at c1';simp only[q3o (H:=H26),q8B,p2,q1,pB,p1,q0b,q0r,hix,hld,s2,a2,pA5,pB5,pw,wA1,wA2,wB1,wB2,ft,Int.reduceEq,xAn,xDh,c1']
 ·obtain⟨M3,c1,c2,c3⟩:=z5O hR g.w (1+A % 5) (1+B % 5) dok s;have c1':=(z5B (H:=H26) (f:=70) rfl _ _).trans c1;refine fin ?_ c2 (z2D g _ _ _ _) (z0g _ _ _ _ _) c3 (fun c hc=>.inl hc)
  simp only[q0O]at c1';simp only[q3o (H:=H26),q8B,p2,q1,pB,p1,q0b,q0r,hix,hld,s2,a2,pA5,pB5,pw,wA1,wA2,wB1,wB2,ft,Int.reduceEq,xAn,xDh,c1']
 ·obtain⟨M3,F',c1,c2,c3,c4⟩:=b45 hR g.toLGood (z3C (A % 3)) (z3C (B % 3)) dok D.2;have c1':=(z5B (H:=H26) (f:=71) rfl _ _).trans c1;refine fin ?_ c2 (j9S g _ _ dok _) (j1j _ _ _ _ _) c3 c4;simp only[q0O]at c1';simp only[q3o (H:=H26),q8B,p2,q1,pB,p1,q0b,q0r,hix,hld,s2,a2,pA5,pB5,pw,wA1,wA2,wB1,wB2,pA3,pB3,iA,lA,iB,lB,am,Int.reduceEq,xAn,xDh,c1']
 ·obtain⟨M3,c1,c2,c3⟩:=z7q hR g.w (1+A % 5) (1+B % 5) dok s;have c1':=(b76 (H:=H26) (f:=73) rfl _ _).trans c1;refine fin ?_ c2 (z3D g _ _ _ _) (z1q _ _ _ _ _) c3 (fun c hc=>.inl hc)
  simp only[q0O]at c1';simp only[q3o (H:=H26),q8B,p2,q1,pB,p1,q0b,q0r,hix,hld,s2,a2,pA5,pB5,pw,wA1,wA2,wB1,wB2,ft,Int.reduceEq,xDh,c1']
end
end
end Go.Proofs.YtkbhcgifnnhbaaaGreatDoor
