/- Texts of one claim, put together. -/
import Derived.Test.YtkbhcgifnnhbaaaGreatDoorK22
namespace Go.Proofs.YtkbhcgifnnhbaaaGreatDoor
open Go Go.Abs
section
theorem q4L {κ:Type} {lt:κ->κ->Bool} (tr:∀a b c,lt a b=true->lt b c=true->lt a c=true):∀{l:List κ},(∀i (h:i+1<l.length),lt (l[i]'(by omega)) l[i+1]=true)->Srt lt l
 |[],_=>by simp[Srt]
 |[a],_=>by simp[Srt]
 |a::b::l,h=>by
  have ih:Srt lt (b::l):=q4L tr fun i hi=>h (i+1) (by simpa using hi)
  have h0:=h 0 (by simp);simp only[xDv,xEz,xnz]at h0;unfold Srt at ih⊢;rw[xEd];refine⟨fun x hx=>?_,ih⟩
  rw[xEd]at ih;cases hx with
  |head=>exact h0
  |tail _ hx=>exact tr _ _ _ h0 (ih.1 x hx)
theorem nb3 {s:List UInt8} (h:q4R s=true):s.length=3:=by
 unfold q4R at h;simp only[xAc,xAj]at h;exact h.2
theorem q6Y {α:Type} {l:List α} {i:Nat} (hi:i<l.length) {r:α->Bool}:q73 l i r=true↔∀(h:0<i),r (l[i-1]'(by omega))=true:=by
 unfold q73;rw[xgq (by omega)];by_cases h:i=0
 ·subst h;simp
 ·rw[df h,Bool.false_or];exact⟨fun h _=>h,fun h'=>h' (by omega)⟩
theorem z00 (w:Wd) (s:Int):decide (q4p w s=0)=q5i w s:=by
 unfold q4p q5i;apply decide_eq_decide.mpr;split
 ·split<;>omega
 ·omega
theorem z5K {st:LSt} (g:q5S st):q5h st=true:=by
 have w:=g.w;unfold q5h;simp only[xAc,xAj];refine⟨g.mo.1,g.mo.2,w.lp,g.am,?_,?_,⟨?_,w.lat.2⟩,?_⟩
 ·rw[q2t];intro j _ hj;have hj':j<st.q0d.length:=by omega
  unfold z7j;rw[xgq hj'];have hp:=w.okp _ (xAf hj');unfold z1U;simp only[xAc,xAj];refine⟨hp.2.2.2,?_,hp.1,hp.2.1⟩;rw[q6Y hj'];intro h;have:=q5k w.sp (i:=j-1) (j:=j) (by omega) (by rw[xlm];exact hj')
  rwa [xgm,xgm]at this
 ·rw[q2t];intro j _ hj;have hj':j<st.pairs.length:=by omega
  unfold z2h;rw[xgq hj'];have mq:=xAf hj';have hq:=w.okq _ mq;have hq1:=g.q1 _ mq;show z0a st j st.pairs[j]=true;unfold z0a;rw[z00];simp only[xAc,xAj,Bool.not_eq_true',xCl];refine⟨?_,(q2d w.sp).1 hq.2.2.2.2.1,(q2d w.sp).1 hq.2.2.2.2.2,hq1.1,hq.2.1,hq1.2.1,hq1.2.2⟩;rw[q6Y hj'];intro h;have:=q5k w.sq (i:=j-1) (j:=j) (by omega) (by rw[xlm];exact hj');rw[xgm,xgm]at this
  unfold q0D.key at this
  rwa [q3O (by rw[q1G w (w.okq _ (xAf (show j-1<st.pairs.length by omega))).2.2.2.2.1,q1G w hq.2.2.2.2.1])]at this
 ·rw[q2t];intro j _ hj;have hj':j<st.q0s.length:=by omega
  unfold z2g;rw[xgq hj'];have ma:=xAf hj';have ha:=w.oka _ ma;have ha1:=g.a1 _ ma;unfold j6P;simp only[xAc,xAj];refine⟨?_,ha.2.2.1,(q2d w.sp).1 ha.2.2.2,ha1.2⟩;rw[xgq (by omega)];by_cases h:j=0
  ·subst h;simp only[xAd];omega
  ·simp only[xAa h];have:=q5k w.sa (i:=j-1) (j:=j) (by omega) (by rw[xlm];exact hj');rw[xgm,xgm]at this;simpa[q0F]using this
 ·rw[q2t];intro j _ hj;have hj':j<st.q0d.length:=by omega
  unfold j1d;rw[xgq hj'];exact dt (g.su _ (xAf hj'))
theorem z4Y {st:LSt} (ok:q8z st) (h:q5h st=true):q5S st:=by
 unfold q5h at h;simp only[xAc,xAj,q2t]at h;obtain⟨m1,m2,lp,la,hp,hq,⟨ha,hlat⟩,hs⟩:=h;have P:∀j (hj:j<st.q0d.length),z1U st j st.q0d[j]=true:=fun j hj=>by
  have:=hp j (by omega) (by omega);unfold z7j at this
  rwa [xgq hj]at this
 have Q:∀j (hj:j<st.pairs.length),z0a st j st.pairs[j]=true:=fun j hj=>by
  have:=hq j (by omega) (by omega);unfold z2h at this
  rwa [xgq hj]at this
 have A:∀j (hj:j<st.q0s.length),j6P st j st.q0s[j]=true:=fun j hj=>by
  have:=ha j (by omega) (by omega);unfold z2g at this
  rwa [xgq hj]at this
 have P':∀p∈st.q0d,q4R p.name=true/\0<=p.scale/\p.scale<=18:=fun p hp=>by
  obtain⟨j,hj,rfl⟩:=xBg.1 hp;have:=P j hj;unfold z1U at this;simp only[xAc,xAj]at this;exact⟨this.1,this.2.2⟩
 have n3:∀k∈st.q0d.map (·.name),k.length=3:=fun k hk=>by
  obtain⟨p,hp,rfl⟩:=xBr.1 hk;exact nb3 (P' p hp).1
 have sp:Srt q0g (st.q0d.map (·.name)):=q4L q1Y fun i hi=>by
  rw[xlm]at hi;have:=P (i+1) hi;unfold z1U at this;simp only[xAc]at this;have:=(q6Y hi).1 this.2.1 (by omega);simpa using this
 have Q':∀q∈st.pairs,q.x∈st.q0d.map (·.name)/\q.y∈st.q0d.map (·.name)/\q.x≠q.y/\q5i q.rate q.q0V=true/\0<=q.inx.val/\q.q2I.val<=0:=fun q hq=>by
  obtain⟨j,hj,rfl⟩:=xBg.1 hq;have:=Q j hj;unfold z0a at this;rw[z00]at this;simp only[xAc,xAj,Bool.not_eq_true',xCl]at this;exact this.2
 have sq:Srt q0g (st.pairs.map (·.key)):=q4L q1Y fun i hi=>by
  rw[xlm]at hi;have:=Q (i+1) hi;unfold z0a at this;rw[xAc]at this;have:=(q6Y hi).1 this.1 (by omega);simp only[xFc]at this;rw[xgm,xgm];unfold q0D.key;rw[q3O (by rw[n3 _ (Q' _ (xAf (show i<st.pairs.length by omega))).1,n3 _ (Q' _ (xAf hi)).1])];exact this
 have Aw:∀j (hj:j<st.q0s.length),(∀h:0<j,(st.q0s[j-1]'(by omega)).id<st.q0s[j].id)/\1<=st.q0s[j].id/\st.q0s[j].id<=st.latest/\st.q0s[j].q1U∈st.q0d.map (·.name)/\0<=st.q0s[j].bal.val:=fun j hj=>by
  have:=A j hj;unfold j6P at this;simp only[xAc,xAj]at this;rw[xgq (by omega)]at this;by_cases h:j=0
  ·subst h;simp only[xAd]at this;exact⟨fun h=>absurd h (by omega),by omega,this.2.1,this.2.2.1,this.2.2.2⟩
  ·simp only[xAa h]at this;have h2:=(ok.a _ (xAf (show j-1<st.q0s.length by omega))).2.1;exact⟨fun _=>this.1,by omega,this.2.1,this.2.2.1,this.2.2.2⟩
 have A':∀a∈st.q0s,1<=a.id/\a.id<=st.latest/\a.q1U∈st.q0d.map (·.name)/\0<=a.bal.val:=fun a hm=>by
  obtain⟨j,hj,rfl⟩:=xBg.1 hm;exact(Aw j hj).2
 have sa:Srt q0F (st.q0s.map (·.id)):=q4L z14 fun i hi=>by
  rw[xlm]at hi;have:=(Aw (i+1) hi).1 (by omega);simp only[xFc]at this;rw[xgm,xgm];exact dt this
 exact {
  w:={sp:=sp,lp:=lp,sq:=sq,lq:=z5s sp (by rw[xlm];exact lp) n3 sq fun q hq=>⟨(Q' q hq).1,(Q' q hq).2.1⟩,sa:=sa,la:=by omega
      okp:=fun p hp=>⟨(P' p hp).2.1,(P' p hp).2.2,(ok.p p hp).1,(P' p hp).1⟩
      okq:=fun q hq=>⟨(ok.q q hq).1,(Q' q hq).2.2.2.1,(ok.q q hq).2.1,(ok.q q hq).2.2.1,(q2d sp).2 (Q' q hq).1,(q2d sp).2 (Q' q hq).2.1⟩
      oka:=fun a ha=>⟨(ok.a a ha).1,(ok.a a ha).2.1,(A' a ha).2.1,(q2d sp).2 (A' a ha).2.2.1⟩
      lat:=⟨ok.lat.1,hlat⟩}
  am:=la,mo:=⟨m1,m2⟩
  a1:=fun a ha=>⟨(A' a ha).1,(A' a ha).2.2.2⟩
  q1:=fun q hq=>⟨(Q' q hq).2.2.1,(Q' q hq).2.2.2.2⟩
  su:=fun p hp=>by
   obtain⟨j,hj,rfl⟩:=xBg.1 hp;have:=hs j (by omega) (by omega);unfold j1d at this;rw[xgq hj]at this;exact xCk this}
theorem j9D {st:LSt} (g:q5S st):q8z st where
 small:=⟨by have:=g.w.lp;omega,by have:=g.w.lq;omega,by have:=g.w.la;omega⟩
 p:=fun p hp=>⟨(g.w.okp p hp).2.2.1,by have:=nb3 (g.w.okp p hp).2.2.2;omega⟩
 q:=fun q hq=>by
  have h:=g.w.okq q hq;exact⟨h.1,h.2.2.1,h.2.2.2.1,by have:=q1G g.w h.2.2.2.2.1;omega,by have:=q1G g.w h.2.2.2.2.2;omega⟩
 a:=fun a ha=>by
  have h:=g.w.oka a ha;have:=g.w.lat;exact⟨h.1,h.2.1,by omega,by have:=q1G g.w h.2.2.2;omega⟩
 lat:=by have:=g.w.lat;omega
end
section
set_option maxRecDepth 4000
open Go Go.Abs
def S29:List FuncId:=[74]
noncomputable def H29:FuncId->Option (List AV->Mem->R):=q1R E28 S29
noncomputable abbrev E29:Env:=Ea H29
theorem b2C:q07 E29:=q0U b2B S29
theorem z95 {H:FuncId->Option (List AV->Mem->R)} (hh:H 74=some (q0B E28 74)) {m:Mem} {sp sq sa:AV} {st:LSt} (hb:BkV m sp sq sa st) (ok:q8z st) (M:Mem) (hM:Fr m M []):run (Ea H) (.fn 74) [.agg [sp,sq,sa,.int .u64 st.latest],.int .i64 st.most] M=some (.bool (q5h st),M):=
 q0w hh (by simp[AV.flat,AV.lt]) fun m2 h1 h2=>a4o ((hb.q0m hM).q0m (Fr.same h1 h2)) ok
section
variable {m:Mem} {b:Nat} {st:LSt} {F:List Nat}
end
section
variable {m:Mem} {sp sq sa:AV} {st:LSt} {b:Nat}
end
end
section
set_option maxRecDepth 4000
open Go Go.Abs
def S30:List FuncId:=[]
def R30:List FuncId:=[132]
noncomputable def H30:FuncId->Option (List AV->Mem->R):=q5a E29 S30 R30
noncomputable abbrev E30:Env:=Ea H30
theorem b2D:q07 E30:=q3t b2C S30 R30
end
section
set_option maxRecDepth 8000
set_option maxHeartbeats 1000000
open Go Go.Abs
theorem b3z {m:Mem} {sp sq sa:AV} {st:LSt} (h:BkV m sp sq sa st) (hp:st.q0d.length*40<=q0j) (hq:st.pairs.length*88<=q0j) (ha:st.q0s.length*40<=q0j) :
  ∃tp tq ta rp rq ra m',run E30 (.fn 16) [.agg [sp,sq,sa,.int .u64 st.latest]] m=some (.agg [tp,tq,ta,.int .u64 st.latest],m')/\
   q08 4 m' tp (st.q0d.map (·.cells)) (some rp)/\q08 9 m' tq (st.pairs.map (·.cells)) (some rq)/\q08 4 m' ta (st.q0s.map (·.cells)) (some ra)/\Fr m m' []/\m.next<=rp/\m.next<=rq/\m.next<=ra/\rp≠rq/\rp≠ra/\rq≠ra:=by
 obtain⟨M0,hM0⟩:∃M0,M0=m.lay (.cells [sp,sq,sa,.int .u64 st.latest] false):=⟨_,rfl⟩;obtain⟨M1,hM1⟩:∃M1,M1=M0.lay (.cells [.sl none 0 0 0 true,.sl none 0 0 0 true,.sl none 0 0 0 true,.int .u64 0] false):=⟨_,rfl⟩;obtain⟨M2,hM2⟩:∃M2,M2=M1.lay (.cells [] false):=⟨_,rfl⟩;have n0:M0.next=m.next+1:=by rw[hM0];rfl
 have n1:M1.next=m.next+2:=by rw[hM1];show M0.next+1=_;omega
 have n2:M2.next=m.next+3:=by rw[hM2];show M1.next+1=_;omega
 have f0:Fr m M0 []:=by rw[hM0];exact(Fr.refl _).lay _
 have f1:Fr M0 M1 []:=by rw[hM1];exact(Fr.refl _).lay _
 have f2:Fr M1 M2 []:=by rw[hM2];exact(Fr.refl _).lay _
 have F2:Fr m M2 []:=(f0.step0 f1).step0 f2;have g2:M2.get m.next=some (.cells [sp,sq,sa,.int .u64 st.latest] false):=(f1.step0 f2).get (by rw[hM0];exact q0k _ _) (by simp)
 have k2:M2.get (m.next+1)=some (.cells [.sl none 0 0 0 true,.sl none 0 0 0 true,.sl none 0 0 0 true,.int .u64 0] false):=f2.get (by rw[hM1,<-n0];exact q0k _ _) (by simp)
 have l2:M2.get (m.next+2)=some (.cells [] false):=by rw[hM2,<-n1];exact q0k _ _
 have v2:=h.q0m F2;have a2:∀i:Nat,ld1 M2 (.ptr (some ⟨m.next,i⟩))=[sp,sq,sa,AV.int .u64 st.latest][i]?:=fun i=>q0e g2
 obtain⟨tp,M3,rp,x3,t3,f3,r3⟩:=q3B (w:=40) (q08.lit 4 l2) v2.p (by simpa using hp);rw[xAm]at t3;have p3:=f3.next
 have o3:=t3.one;have lt3:=t3.lt;have g3:=f3.get g2 (by simp);have k3:=f3.get k2 (by simp);obtain⟨M4,hM4⟩:∃M4,M4=M3.put m.next (some (.cells [tp,sq,sa,.int .u64 st.latest] false)):=⟨_,rfl⟩
 have s4:stV M3 (.ptr (some ⟨m.next,0⟩)) tp 1=some M4:=by
  have:=q1B (v:=tp) (vs:=[tp]) (o:=0) (n:=1) g3 (q3k o3) rfl (by simp);rw[hM4];simpa using this
 have f4:Fr M3 M4 [m.next]:=by rw[hM4];exact Fr.put _ _ _
 have g4:M4.get m.next=some (.cells [tp,sq,sa,.int .u64 st.latest] false):=by rw[hM4];exact q0x g3
 have n4:M4.next=M3.next:=by rw[hM4];rfl
 have k4:=f4.get k3 (by simp);have t4:=t3.frame f4 (by rintro _ ⟨⟩;simp only[xms];omega)
 obtain⟨M5,hM5⟩:∃M5,M5=M4.lay (.cells [] false):=⟨_,rfl⟩;have f5:Fr M4 M5 []:=by rw[hM5];exact(Fr.refl _).lay _
 have n5:M5.next=M4.next+1:=by rw[hM5];rfl
 have F5:Fr m M5 []:=(((F2.step f3 (by simp)).step f4 (by simp)).step0 f5);have g5:=f5.get g4 (by simp);have k5:=f5.get k4 (by simp);have t5:=t4.frame f5 (by simp);have l5:M5.get M4.next=some (.cells [] false):=by rw[hM5];exact q0k _ _
 have v5:=h.q0m F5;have a5:∀i:Nat,ld1 M5 (.ptr (some ⟨m.next,i⟩))=[tp,sq,sa,AV.int .u64 st.latest][i]?:=fun i=>q0e g5
 obtain⟨tq,M6,rq,x6,u6,f6,r6⟩:=q3B (w:=88) (q08.lit 9 l5) v5.q (by simpa using hq);rw[xAm]at u6;have p6:=f6.next
 have o6:=u6.one;have lt6:=u6.lt;have g6:=f6.get g5 (by simp;omega);have k6:=f6.get k5 (by simp;omega);have t6:=t5.frame f6 (by rintro _ ⟨⟩;simp only[xms];omega)
 obtain⟨M7,hM7⟩:∃M7,M7=M6.put m.next (some (.cells [tp,tq,sa,.int .u64 st.latest] false)):=⟨_,rfl⟩
 have s7:stV M6 (.ptr (some ⟨m.next,1⟩)) tq 1=some M7:=by
  have:=q1B (v:=tq) (vs:=[tq]) (o:=1) (n:=1) g6 (q3k o6) rfl (by simp);rw[hM7];simpa using this
 have f7:Fr M6 M7 [m.next]:=by rw[hM7];exact Fr.put _ _ _
 have g7:M7.get m.next=some (.cells [tp,tq,sa,.int .u64 st.latest] false):=by rw[hM7];exact q0x g6
 have n7:M7.next=M6.next:=by rw[hM7];rfl
 have k7:=f7.get k6 (by simp);have t7:=t6.frame f7 (by rintro _ ⟨⟩;simp only[xms];omega)
 have u7:=u6.frame f7 (by rintro _ ⟨⟩;simp only[xms];omega)
 obtain⟨M8,hM8⟩:∃M8,M8=M7.lay (.cells [] false):=⟨_,rfl⟩;have f8:Fr M7 M8 []:=by rw[hM8];exact(Fr.refl _).lay _
 have n8:M8.next=M7.next+1:=by rw[hM8];rfl
 have F8:Fr m M8 []:=(((F5.step f6 (by simp;omega)).step f7 (by simp)).step0 f8);have g8:=f8.get g7 (by simp);have k8:=f8.get k7 (by simp);have t8:=t7.frame f8 (by simp);have u8:=u7.frame f8 (by simp);have l8:M8.get M7.next=some (.cells [] false):=by rw[hM8];exact q0k _ _
 have v8:=h.q0m F8;have a8:∀i:Nat,ld1 M8 (.ptr (some ⟨m.next,i⟩))=[tp,tq,sa,AV.int .u64 st.latest][i]?:=fun i=>q0e g8
 obtain⟨ta,M9,ra,x9,w9,f9,r9⟩:=q3B (w:=40) (q08.lit 4 l8) v8.a (by simpa using ha);rw[xAm]at w9;have p9:=f9.next
 have o9:=w9.one;have lt9:=w9.lt;have g9:=f9.get g8 (by simp;omega);have k9:=f9.get k8 (by simp;omega);have t9:=t8.frame f9 (by rintro _ ⟨⟩;simp only[xms];omega)
 have u9:=u8.frame f9 (by rintro _ ⟨⟩;simp only[xms];omega)
 obtain⟨M10,hM10⟩:∃M10,M10=M9.put m.next (some (.cells [tp,tq,ta,.int .u64 st.latest] false)):=⟨_,rfl⟩
 have s10:stV M9 (.ptr (some ⟨m.next,2⟩)) ta 1=some M10:=by
  have:=q1B (v:=ta) (vs:=[ta]) (o:=2) (n:=1) g9 (q3k o9) rfl (by simp);rw[hM10];simpa using this
 have f10:Fr M9 M10 [m.next]:=by rw[hM10];exact Fr.put _ _ _
 have g10:M10.get m.next=some (.cells [tp,tq,ta,.int .u64 st.latest] false):=by rw[hM10];exact q0x g9
 have k10:=f10.get k9 (by simp);have t10:=t9.frame f10 (by rintro _ ⟨⟩;simp only[xms];omega)
 have u10:=u9.frame f10 (by rintro _ ⟨⟩;simp only[xms];omega)
 have w10:=w9.frame f10 (by rintro _ ⟨⟩;simp only[xms];omega)
 have ones:[tp,tq,ta,AV.int .u64 st.latest].all AV.one=true:=by
  simp only[xBq,xCw,o3,o6,o9,on1,Bool.and_true]
 have l10:ldN M10 (.ptr (some ⟨m.next,0⟩)) 4=some (.agg [tp,tq,ta,.int .u64 st.latest]):=q0X g10 rfl
 obtain⟨M11,hM11⟩:∃M11,M11=M10.put (m.next+1) (some (.cells [tp,tq,ta,.int .u64 st.latest] false)):=⟨_,rfl⟩
 have s11:stV M10 (.ptr (some ⟨m.next+1,0⟩)) (.agg [tp,tq,ta,.int .u64 st.latest]) 4=some M11:=by rw[q14 (n:=4) k10 rfl rfl ones,hM11]
 have f11:Fr M10 M11 [m.next+1]:=by rw[hM11];exact Fr.put _ _ _
 have k11:M11.get (m.next+1)=some (.cells [tp,tq,ta,.int .u64 st.latest] false):=by rw[hM11];exact q0x k10
 have l11:ldN M11 (.ptr (some ⟨m.next+1,0⟩)) 4=some (.agg [tp,tq,ta,.int .u64 st.latest]):=q0X k11 rfl
 have t11:=t10.frame f11 (by rintro _ ⟨⟩;simp only[xms];omega)
 have u11:=u10.frame f11 (by rintro _ ⟨⟩;simp only[xms];omega)
 have w11:=w10.frame f11 (by rintro _ ⟨⟩;simp only[xms];omega)
 have F11:Fr m M11 []:=((F8.step f9 (by simp;omega)).step f10 (by simp)).step f11 (by simp);refine⟨tp,tq,ta,rp,rq,ra,M11,?_,t11,u11,w11,F11,by omega,by omega,by omega,by omega,by omega,by omega⟩;simp only[b3N (H:=H30) rfl,F16,pB,p1,q1,apE,q00,q0P,q0T,a0F,AV.cells,on1,lcs,ge,xAd,xom,Mem.q0G,h.p.one,h.q.one,h.a.one,bs0,<-hM0,<-hM1,<-hM2,a2,x3,s4,<-hM5,a5,x6,s7,<-hM8,a8,x9,s10,l10,s11,l11]
theorem a8D {m:Mem} {sp sq sa:AV} {st:LSt} (h:BkV m sp sq sa st) (w:LWf st) :
  ∃tp tq ta rp rq ra m',run E30 (.fn 16) [.agg [sp,sq,sa,.int .u64 st.latest]] m=some (.agg [tp,tq,ta,.int .u64 st.latest],m')/\
   q08 4 m' tp (st.q0d.map (·.cells)) (some rp)/\q08 9 m' tq (st.pairs.map (·.cells)) (some rq)/\q08 4 m' ta (st.q0s.map (·.cells)) (some ra)/\Fr m m' []/\m.next<=rp/\m.next<=rq/\m.next<=ra/\rp≠rq/\rp≠ra/\rq≠ra:=
 b3z h (q4u (by have:=w.lp;omega) (by decide)) (q4u (by have:=w.lq;omega) (by decide)) (q4u (by have:=w.la;omega) (by decide))
end
end Go.Proofs.YtkbhcgifnnhbaaaGreatDoor
namespace Go.Abs
open Go
section
def vnF:Nat->Nat->List UInt8
 | 0,n=>[UInt8.ofNat n]
 |k+1,n=>if n<128 then [UInt8.ofNat n] else UInt8.ofNat (n % 128+128)::vnF k (n / 128)
def q5R (n:Int):List UInt8:=vnF 9 n.toNat
def zig (n:Int):Int:=if n<0 then -2*n-1 else 2*n
def zag (n:Int):Int:=if n % 2=1 then -(n / 2)-1 else n / 2
def a0S (n:Int):List UInt8:=q5R (zig n)
def q1Z (l:List UInt8):List UInt8:=q5R l.length++l
def q2J (n:Int):List UInt8:=[UInt8.ofNat n.toNat]
theorem a0E:∀k n,1<=(vnF k n).length/\(vnF k n).length<=k+1
 | 0,n=>by simp[vnF]
 |k+1,n=>by
  unfold vnF;split
  ·simp
  ·have:=a0E k (n / 128);simp only[xAi];omega
theorem q0N (n:Int):1<=(q5R n).length/\(q5R n).length<=10:=a0E 9 _
theorem b1H (n:Int):zag (zig n)=n:=by
 unfold zig zag;split<;>split<;>omega
theorem b1I {n:Int} (h:0<=n):zig (zag n)=n:=by
 unfold zag;split
 ·unfold zig;rw[xAb (by omega)];omega
 ·unfold zig;rw[xAa (by omega)];omega
theorem z6k {n:Int} (h1:-9223372036854775808<=n) (h2:n<9223372036854775808):0<=zig n/\zig n<18446744073709551616:=by
 unfold zig;split<;>omega
theorem z6j {n:Int} (h1:0<=n) (h2:n<18446744073709551616):-9223372036854775808<=zag n/\zag n<9223372036854775808:=by
 unfold zag;split<;>omega
def pnL:Nat->Int->List UInt8->Int×Int×Nat
 | _,_,[]=>(0,10,0)
 |i,a,x::l=>
  if i=9/\1<x.toNat then (0,11,0)
  else if 128<=x.toNat then pnL (i+1) (a+(x.toNat % 128:Nat)*128 ^ i) l
  else if x.toNat=0/\0<i then (0,11,0)
  else (a+(x.toNat % 128:Nat)*128 ^ i,0,i+1)
theorem ofNat_lt {n:Nat} (h:n<256):(UInt8.ofNat n).toNat=n:=by simp;omega
theorem toNat_lt (x:UInt8):x.toNat<256:=by have:=x.toNat_lt;omega
theorem j9M:∀(k i:Nat) (a:Int) (n:Nat) (r:List UInt8),i+k=9->n<2 ^ (7*k+1)->(0<i->0<n)->
  pnL i a (vnF k n++r)=(a+n*128 ^ i,0,i+(vnF k n).length)
 | 0,i,a,n,r,h,hn,h0=>by
  have hi:i=9:=by omega
  subst hi;have hn2:n<2:=by simpa using hn
  have:=h0 (by omega);have e:n=1:=by omega
  subst e;simp[vnF,pnL]
 |k+1,i,a,n,r,h,hn,h0=>by
  have hi:i≠9:=by omega
  unfold vnF;by_cases hl:n<128
  ·rw[xAb hl];simp only[xAy,xAm,pnL,hi,false_and,xAh,ofNat_lt (show n<256 by omega)];rw[xAa (by omega),xAa (by omega)];simp[xDx hl]
  ·rw[xAa hl];have h1:n % 128+128<256:=by omega
   simp only[xAy,pnL,hi,false_and,xAh,ofNat_lt h1];rw[xAb (by omega),j9M k (i+1) _ (n / 128) r (by omega) ?_ (fun _=>by omega)]
   ·have e1:(n % 128+128) % 128=n % 128:=by omega
    have e2:(n:Int)=(n % 128:Nat)+128*(n / 128:Nat):=by omega
    rw[e1,xAi];refine Prod.ext ?_ (Prod.ext rfl ?_)
    ·show a+((n % 128:Nat):Int)*128 ^ i+((n / 128:Nat):Int)*128 ^ (i+1)=a+n*128 ^ i;rw[Int.pow_succ,e2];generalize (128:Int) ^ i=p;have:((n % 128:Nat)+128*(n / 128:Nat):Int)*p=((n % 128:Nat):Int)*p+((n / 128:Nat):Int)*(p*128):=by
      rw[xDt,xDk p 128,<-xBo,xDk _ 128]
     omega
    ·show i+1+_=i+(_+1);omega
   ·have e:2 ^ (7*(k+1)+1)=128*2 ^ (7*k+1):=by
     rw[show 7*(k+1)+1=7+(7*k+1) by omega,xEi]
    rw[e]at hn;exact Nat.div_lt_of_lt_mul hn
theorem a3V {n:Int} (h1:0<=n) (h2:n<18446744073709551616) (r:List UInt8):pnL 0 0 (q5R n++r)=(n,0,(q5R n).length):=by
 unfold q5R;rw[j9M 9 0 0 n.toNat r rfl (by simp;omega) (by omega)];simp;omega
theorem j9L:∀(l:List UInt8) (k i:Nat) (a v:Int) (u:Nat),i+k=9->pnL i a l=(v,0,u)->
  ∃n:Nat,v=a+n*128 ^ i/\n<2 ^ (7*k+1)/\(0<i->0<n)/\u=i+(vnF k n).length/\l.take (vnF k n).length=vnF k n
 |[],k,i,a,v,u,h,e=>by simp[pnL]at e
 |x::l,k,i,a,v,u,h,e=>by
  have hx:=toNat_lt x;have hox:UInt8.ofNat x.toNat=x:=by simp
  unfold pnL at e;by_cases c1:i=9/\1<x.toNat
  ·rw[xAb c1]at e;cases e
  ·rw[xAa c1]at e;by_cases c2:128<=x.toNat
   ·rw[xAb c2]at e;obtain⟨k,rfl⟩:∃j,k=j+1:=⟨k-1,by omega⟩;obtain⟨n,e1,e2,e3,e4,e5⟩:=j9L l k (i+1) _ v u (by omega) e;have hn:=e3 (by omega);have hvn:vnF (k+1) (x.toNat % 128+128*n)=x::vnF k n:=by
     rw[vnF,xAa (by omega)];congr 1
     ·rw[show (x.toNat % 128+128*n) % 128+128=x.toNat by omega,hox]
     ·congr 1;omega
    refine⟨x.toNat % 128+128*n,?_,?_,fun _=>by omega,?_,?_⟩
    ·rw[e1,Int.pow_succ];generalize (128:Int) ^ i=p;have:((x.toNat % 128+128*n:Nat):Int)*p=((x.toNat % 128:Nat):Int)*p+(n:Int)*(p*128):=by
      rw[Int.natCast_add,xDt,xDk p 128,<-xBo,Int.natCast_mul,xDk (n:Int) 128];rfl
     omega
    ·have e:2 ^ (7*(k+1)+1)=128*2 ^ (7*k+1):=by
      rw[show 7*(k+1)+1=7+(7*k+1) by omega,xEi]
     rw[e];omega
    ·rw[hvn,xAi];omega
    ·rw[hvn,xAi,xBk,e5]
   ·rw[xAa c2]at e;by_cases c3:x.toNat=0/\0<i
    ·rw[xAb c3]at e;cases e
    ·rw[xAa c3]at e;simp only[xBt,true_and]at e;have hvn:vnF k x.toNat=[x]:=by
      cases k with
      |zero=>rw[vnF,hox]
      |succ k=>rw[vnF,xAb (by omega),hox]
     refine⟨x.toNat,?_,?_,fun _=>by omega,?_,?_⟩
     ·rw[<-e.1,xDx (by omega)]
     ·cases k with
      |zero=>
       have:i=9:=by omega
       have:¬1<x.toNat:=fun h=>c1 ⟨this,h⟩
       simp;omega
      |succ k=>
       have e:2 ^ (7*(k+1)+1)=128*2 ^ (7*k+1):=by
        rw[show 7*(k+1)+1=7+(7*k+1) by omega,xEi]
       have:=Nat.pos_of_ne_zero (show 2 ^ (7*k+1)≠0 by simp);omega
     ·rw[hvn,<-e.2];rfl
     ·rw[hvn];rfl
theorem z2n {l:List UInt8} {v:Int} {u:Nat} (h:pnL 0 0 l=(v,0,u)):0<=v/\v<18446744073709551616/\u=(q5R v).length/\l.take u=q5R v:=by
 obtain⟨n,e1,e2,_,e4,e5⟩:=j9L l 9 0 0 v u rfl h;have e6:v=n:=by simpa using e1
 subst e6;have e2':n<18446744073709551616:=by simpa using e2
 rw[xnz]at e4;exact⟨by omega,by omega,e4,by rw[e4];exact e5⟩
structure RS where
 at_:Nat
 bad:Int
def q1L (B:List UInt8) (most:Int) (s:RS):Int×RS:=
 if s.bad≠0 then (0,s) else
 match B[s.at_]? with
 |none=>(0,{s with bad:=10})
 |some x=>if most<x.toNat then (0,{s with bad:=12}) else (x.toNat,{s with at_:=s.at_+1})
def q1a (B:List UInt8) (most:Int) (s:RS):Int×RS:=
 if s.bad≠0 then (0,s) else
 let r:=pnL 0 0 (B.drop s.at_)
 if r.2.1≠0 then (0,{s with bad:=r.2.1})
 else if most<r.1 then (0,{s with bad:=12})
 else (r.1,{s with at_:=s.at_+r.2.2})
def z0e (B:List UInt8) (s:RS):Int×RS:=(zag (q1a B 18446744073709551615 s).1,(q1a B 18446744073709551615 s).2)
def q1g (B:List UInt8) (most:Int) (s:RS):List UInt8×RS:=
 let r:=q1a B most s
 if r.2.bad≠0 then ([],r.2)
 else if ((B.length-r.2.at_:Nat):Int)<r.1 then ([],⟨s.at_,10⟩)
 else ((B.drop r.2.at_).take r.1.toNat,{r.2 with at_:=r.2.at_+r.1.toNat})
def q7A (B:List UInt8) (s:RS):Int:=if s.bad=0/\s.at_<B.length then 11 else s.bad
end
section
structure Cod {α:Type} (f:List UInt8->RS->α×RS) (enc:α->List UInt8) (Q:α->Prop):Prop where
 fwd:∀(B:List UInt8) (at_:Nat) (a:α) (post:List UInt8),B.drop at_=enc a++post->Q a->f B ⟨at_,0⟩=(a,⟨at_+(enc a).length,0⟩)
 bwd:∀(B:List UInt8) (at_:Nat) (a:α) (s':RS),at_<=B.length->f B ⟨at_,0⟩=(a,s')->s'.bad=0->Q a/\s'.at_=at_+(enc a).length/\s'.at_<=B.length/\∃post,B.drop at_=enc a++post
 stk:∀(B:List UInt8) (s:RS),s.bad≠0->(f B s).2=s
theorem q5B {B:List UInt8} {k:Nat} {x y:List UInt8} (h:B.drop k=x++y):B.drop (k+x.length)=y:=by
 rw[<-xEx,h,List.drop_left]
theorem q79 (m:Int) (hm:m<256):Cod (fun B s=>q1L B m s) q2J (fun n=>0<=n/\n<=m) where
 fwd:=fun B k a post h hq=>by
  have e:B[k]? = some (UInt8.ofNat a.toNat):=by
   have:=xFa (fun l:List UInt8=>l[0]?) h
   simpa[q2J]using this
  have e2:((UInt8.ofNat a.toNat).toNat:Int)=a:=by rw[ofNat_lt (by omega)];omega
  simp only[q1L,ne_eq,xAq,xAh,e,e2];rw[xAa (by omega)];simp[q2J]
 bwd:=fun B k a s' hk h hb=>by
  simp only[q1L,ne_eq,xAq,xAh]at h;cases e:B[k]? with
  |none=>rw[e]at h;simp only[xBt]at h;rw[<-h.2]at hb;simp at hb
  |some x=>
   rw[e]at h;simp only at h;by_cases c:m<x.toNat
   ·rw[xAb c]at h;simp only[xBt]at h;rw[<-h.2]at hb;simp at hb
   ·rw[xAa c]at h;simp only[xBt]at h;obtain⟨rfl,rfl⟩:=h;obtain⟨h1,h2⟩:=xgi.1 e;refine⟨by omega,by simp[q2J],by simp;omega,B.drop (k+1),?_⟩;rw[xAk h1,h2];simp[q2J]
 stk:=fun B s h=>by simp[q1L,h]
theorem q2g (m:Int) (hm:m<18446744073709551616):Cod (fun B s=>q1a B m s) q5R (fun n=>0<=n/\n<=m) where
 fwd:=fun B k a post h hq=>by
  simp only[q1a,ne_eq,xAq,xAh,h,a3V hq.1 (show a<18446744073709551616 by omega)];rw[xAa (by omega)]
 bwd:=fun B k a s' hk h hb=>by
  simp only[q1a,ne_eq,xAq,xAh]at h;cases e:pnL 0 0 (B.drop k) with
  |mk v r=>
   obtain⟨er,u⟩:=r;rw[e]at h;simp only at h;by_cases c:er=0
   ·subst c;simp only[xAq,xAh]at h;by_cases c2:m<v
    ·rw[xAb c2]at h;simp only[xBt]at h;rw[<-h.2]at hb;simp at hb
    ·rw[xAa c2]at h;simp only[xBt]at h;obtain⟨rfl,rfl⟩:=h;obtain⟨h1,h2,h3,h4⟩:=z2n e;have hl:u<=(B.drop k).length:=by
      have:=xFa List.length h4;rw[xlt0,<-h3]at this;omega
     rw[xld0]at hl;refine⟨⟨h1,by omega⟩,by simp only[h3],by simp only;omega,(B.drop k).drop u,?_⟩;rw[<-h4,xEc]
   ·rw[xAb c]at h;simp only[xBt]at h;rw[<-h.2]at hb;exact absurd hb c
 stk:=fun B s h=>by simp[q1a,h]
theorem Cod.imp {α:Type} {f:List UInt8->RS->α×RS} {enc:α->List UInt8} {Q:α->Prop} (h:Cod f enc Q) {β:Type} (φ:α->β) (ψ:β->α) (h1:∀a,Q a->ψ (φ a)=a) (R:β->Prop) (h2:∀b,R b->Q (ψ b)/\φ (ψ b)=b) (h3:∀a,Q a->R (φ a)) :
  Cod (fun B s=>(φ (f B s).1,(f B s).2)) (fun b=>enc (ψ b)) R where
 fwd:=fun B k b post e hb=>by
  obtain⟨q,e2⟩:=h2 b hb;simp only[h.fwd B k (ψ b) post e q,e2]
 bwd:=fun B k b s' hk e hb=>by
  cases hf:f B ⟨k,0⟩ with
  |mk a s1=>
   rw[hf]at e;simp only[xBt]at e;obtain⟨rfl,rfl⟩:=e;obtain⟨q,r1,r2,r3⟩:=h.bwd B k a s1 hk hf hb;rw[h1 a q];exact⟨h3 a q,r1,r2,r3⟩
 stk:=fun B s hs=>h.stk B s hs
theorem Cod.seq {α β:Type} {f:List UInt8->RS->α×RS} {g:List UInt8->RS->β×RS} {ea:α->List UInt8} {eb:β->List UInt8} {Q:α->Prop} {R:β->Prop} (h:Cod f ea Q) (h':Cod g eb R) :
  Cod (fun B s=>(((f B s).1,(g B (f B s).2).1),(g B (f B s).2).2)) (fun x=>ea x.1++eb x.2) (fun x=>Q x.1/\R x.2) where
 fwd:=fun B k x post e hx=>by
  rw[xAg]at e;have e1:=h.fwd B k x.1 _ e hx.1;have e2:=h'.fwd B (k+(ea x.1).length) x.2 post (q5B e) hx.2;simp only[e1,e2,xla0,xEq]
 bwd:=fun B k x s' hk e hb=>by
  cases hf:f B ⟨k,0⟩ with
  |mk a s1=>
   rw[hf]at e;simp only at e;cases hg:g B s1 with
   |mk b s2=>
    rw[hg]at e;simp only[xBt]at e;obtain⟨rfl,rfl⟩:=e;have hb1:s1.bad=0:=by
     by_cases c:s1.bad=0
     ·exact c
     ·have:=h'.stk B s1 c;rw[hg]at this;simp only at this;rw[this]at hb;exact absurd hb c
    obtain⟨q1,r1,r2,p1,r3⟩:=h.bwd B k a s1 hk hf hb1;have hs1:s1=⟨s1.at_,0⟩:=by cases s1;simp only at hb1;rw[hb1]
    obtain⟨q2,t1,t2,p2,t3⟩:=h'.bwd B s1.at_ b s2 r2 (by rw[<-hs1];exact hg) hb;refine⟨⟨q1,q2⟩,?_,t2,p2,?_⟩
    ·simp only[xla0];omega
    ·rw[r3,xAg];congr 1;rw[r1]at t3;rw[<-t3];exact(q5B r3).symm
 stk:=fun B s hs=>by
  simp only;rw[h.stk B s hs,h'.stk B s hs]
def q2K {α:Type} (f:RS->α×RS):Nat->RS->List α×RS
 | 0,s=>([],s)
 |n+1,s=>((f s).1::(q2K f n (f s).2).1,(q2K f n (f s).2).2)
theorem q5g {α:Type} {f:RS->α×RS} (h:∀s,s.bad≠0->(f s).2=s):∀n s,s.bad≠0->(q2K f n s).2=s
 | 0,s,_=>rfl
 |n+1,s,hs=>by
  unfold q2K;rw[h s hs];exact q5g h n s hs
theorem z5x {α:Type} (f:RS->α×RS):∀n s,(q2K f n s).1.length=n
 | 0,s=>rfl
 |n+1,s=>by unfold q2K;simp[z5x f n]
theorem z1p {α:Type} {f:List UInt8->RS->α×RS} {enc:α->List UInt8} {Q:α->Prop} (h:Cod f enc Q):∀n:Nat,
  Cod (fun B s=>q2K (f B) n s) (fun l=>l.flatMap enc) (fun l=>l.length=n/\∀a∈l,Q a)
 | 0=>{
  fwd:=fun B k l post e hl=>by
   have:l=[]:=xBc.1 hl.1;subst this;rfl
  bwd:=fun B k l s' hk e hb=>by
   simp only[q2K,xBt]at e;obtain⟨rfl,rfl⟩:=e;exact⟨⟨rfl,by simp⟩,rfl,hk,_,rfl⟩
  stk:=fun B s hs=>rfl}
 |n+1=>by
  have ih:=z1p h n;have h2:=h.seq ih;exact {
   fwd:=fun B k l post e hl=>by
    cases l with
    |nil=>exact absurd hl.1 (by simp)
    |cons a l=>
     have:=h2.fwd B k (a,l) post (by simpa[xCm]using e) ⟨hl.2 a xmc,by simpa using hl.1,fun b hb=>hl.2 b (xBa _ hb)⟩
     simp only[xBt]at this;simp only[q2K,this,xCm]
   bwd:=fun B k l s' hk e hb=>by
    simp only[q2K,xBt]at e;obtain⟨rfl,rfl⟩:=e;obtain⟨⟨q1,q2⟩,r1,r2,p,r3⟩:=h2.bwd B k _ _ hk rfl hb;refine⟨⟨?_,fun b hb=>?_⟩,?_,r2,p,?_⟩
    ·rw[xAi,q2.1]
    ·rcases xmk0.1 hb with rfl|hb
     ·exact q1
     ·exact q2.2 b hb
    ·rw[r1,xCm]
    ·rw[r3,xCm]
   stk:=fun B s hs=>q5g (h.stk B) (n+1) s hs}
def q60 {α:Type} (m:Int) (f:List UInt8->RS->α×RS) (B:List UInt8) (s:RS):List α×RS:=q2K (f B) (q1a B m s).1.toNat (q1a B m s).2
def q1C {α:Type} (enc:α->List UInt8) (l:List α):List UInt8:=q5R l.length++l.flatMap enc
theorem q6t {α:Type} {f:List UInt8->RS->α×RS} {enc:α->List UInt8} {Q:α->Prop} (h:Cod f enc Q) {m:Int} (hm:m<18446744073709551616):Cod (q60 m f) (q1C enc) (fun l=>(l.length:Int)<=m/\∀a∈l,Q a) where
 fwd:=fun B k l post e hl=>by
  unfold q1C at e⊢;rw[xAg]at e;have e1:=(q2g m hm).fwd B k l.length _ e ⟨by omega,hl.1⟩;have e2:=(z1p h l.length).fwd B (k+(q5R l.length).length) l post (q5B e) ⟨rfl,hl.2⟩;simp only[q60,e1,xCg,e2,xla0,xEq]
 bwd:=fun B k l s' hk e hb=>by
  unfold q60 at e;cases hn:q1a B m ⟨k,0⟩ with
  |mk n s1=>
   rw[hn]at e;simp only at e;have hb1:s1.bad=0:=by
    by_cases c:s1.bad=0
    ·exact c
    ·have:=q5g (h.stk B) n.toNat s1 c;rw[e]at this;simp only at this;rw[this]at hb;exact absurd hb c
   obtain⟨q1,r1,r2,p1,r3⟩:=(q2g m hm).bwd B k n s1 hk hn hb1;have hs1:s1=⟨s1.at_,0⟩:=by cases s1;simp only at hb1;rw[hb1]
   obtain⟨q2,t1,t2,p2,t3⟩:=(z1p h n.toNat).bwd B s1.at_ l s' r2 (by rw[<-hs1];exact e) hb;have hnl:(l.length:Int)=n:=by rw[q2.1];omega
   unfold q1C;refine⟨⟨by omega,q2.2⟩,?_,t2,p2,?_⟩
   ·rw[hnl,xla0];omega
   ·rw[hnl,r3,xAg];congr 1;rw[r1]at t3;rw[<-t3];exact(q5B r3).symm
 stk:=fun B s hs=>by
  unfold q60;have e:(q1a B m s).2=s:=(q2g m hm).stk B s hs;rw[e];exact q5g (h.stk B) _ s hs
theorem a8B:Cod (fun B s=>z0e B s) a0S (fun n=>-9223372036854775808<=n/\n<9223372036854775808):=
 (q2g 18446744073709551615 (by decide)).imp zag zig (fun a h=>b1I h.1) _ (fun b hb=>⟨by have:=z6k hb.1 hb.2;omega,b1H b⟩) (fun a h=>z6j h.1 (by omega))
theorem q4w (m:Int) (h0:0<=m) (hm:m<18446744073709551616):Cod (fun B s=>q1g B m s) q1Z (fun l=>(l.length:Int)<=m) where
 fwd:=fun B k l post e hl=>by
  unfold q1Z at e⊢;rw[xAg]at e;have e1:=(q2g m hm).fwd B k l.length _ e ⟨by omega,hl⟩;have e2:=q5B e;have e3:l.length<=B.length-(k+(q5R l.length).length):=by
   have:=xFa List.length e2;rw[xld0,xla0]at this;omega
  simp only[q1g,e1,ne_eq,xAq,xAh];rw[xAa (by omega),e2];simp[xEq]
 bwd:=fun B k l s' hk e hb=>by
  simp only[q1g]at e;cases hn:q1a B m ⟨k,0⟩ with
  |mk n s1=>
   rw[hn]at e;simp only at e;by_cases hb1:s1.bad=0
   ·rw[xAa (by simpa using hb1)]at e;obtain⟨q1,r1,r2,p1,r3⟩:=(q2g m hm).bwd B k n s1 hk hn hb1;by_cases c:((B.length-s1.at_:Nat):Int)<n
    ·rw[xAb c]at e;simp only[xBt]at e;rw[<-e.2]at hb;simp at hb
    ·rw[xAa c]at e;simp only[xBt]at e;obtain⟨rfl,rfl⟩:=e;have hl:((B.drop s1.at_).take n.toNat).length=n.toNat:=by rw[xlt0,xld0];omega
     have hnl:(((B.drop s1.at_).take n.toNat).length:Int)=n:=by rw[hl];omega
     unfold q1Z;refine⟨by omega,?_,by simp only;omega,(B.drop s1.at_).drop n.toNat,?_⟩
     ·rw[hnl,xla0,hl];simp only;omega
     ·rw[hnl,r3,xAg];congr 1;rw[xEc,<-q5B r3,<-r1]
   ·rw[xAb (by simpa using hb1)]at e;simp only[xBt]at e;rw[<-e.2]at hb;exact absurd hb hb1
 stk:=fun B s hs=>by
  have e:=(q2g m hm).stk B s hs;simp only[q1g];rw[e,xAb (by simpa using hs)]
end
section
structure q5W where
 code:Int
 value:Int
 am:Wd
 scale:Int
 deriving DecidableEq
structure q1d where
 seq:Int
 rep:q5W
 deriving DecidableEq
structure q0L where
 id:Int
 seq:Int
 used:Int
 kept:List q1d
 deriving DecidableEq
def q5W.cells (r:q5W):List AV:=[.int .i64 r.code,.int .u64 r.value,.int .i64 r.am.hi,.int .u64 r.am.lo,.int .i64 r.scale]
def q1d.cells (k:q1d):List AV:=.int .u64 k.seq::k.rep.cells
def j1H:q5W:=⟨0,0,⟨0,0⟩,0⟩
abbrev q0M:Int:=18446744073709551615
def q3g (w:Wd):List UInt8:=a0S w.hi++q5R w.lo
def q3e (B:List UInt8) (s:RS):Wd×RS:=(⟨(z0e B s).1,(q1a B q0M (z0e B s).2).1⟩,(q1a B q0M (z0e B s).2).2)
theorem q5x:Cod q3e q3g Wd.ok:=
 (a8B.seq (q2g q0M (by decide))).imp (fun x=>(⟨x.1,x.2⟩:Wd)) (fun w:Wd=>(w.hi,w.lo)) (fun _ _=>rfl) Wd.ok (fun b hb=>⟨⟨⟨hb.1,hb.2.1⟩,hb.2.2.1,by have:=hb.2.2.2;show b.lo<=18446744073709551615;omega⟩,rfl⟩) (fun a h=>⟨h.1.1,h.1.2,h.2.1,by have:=h.2.2;show a.2<18446744073709551616;have:a.2<=18446744073709551615:=h.2.2;omega⟩)
def z6f (r:q5W):List UInt8:=q2J r.code++(q5R r.value++(q2J r.scale++q3g r.am))
def b5B (B:List UInt8) (s:RS):q5W×RS:=
 let c:=q1L B 99 s
 let v:=q1a B q0M c.2
 let k:=q1L B 18 v.2
 let w:=q3e B k.2
 (⟨c.1,v.1,w.1,k.1⟩,w.2)
def q5W.ok (r:q5W):Prop:=(0<=r.code/\r.code<=99)/\(0<=r.value/\r.value<=q0M)/\(0<=r.scale/\r.scale<=18)/\r.am.ok
theorem j38:Cod b5B z6f q5W.ok:=
 ((q79 99 (by decide)).seq ((q2g q0M (by decide)).seq ((q79 18 (by decide)).seq q5x))).imp (fun x=>(⟨x.1,x.2.1,x.2.2.2,x.2.2.1⟩:q5W)) (fun r:q5W=>(r.code,r.value,r.scale,r.am)) (fun _ _=>rfl) _ (fun b hb=>⟨hb,rfl⟩) (fun a h=>h)
def q95 (t:List UInt8):q5W×Int:=
 let r:=b5B t ⟨0,0⟩
 let e:=q7A t r.2
 if e≠0 then (j1H,e) else (r.1,0)
theorem a1T {r:q5W} (h:r.ok):q95 (z6f r)=(r,0):=by
 have e:=j38.fwd (z6f r) 0 r [] (by simp) h;unfold q95;simp only[e,q7A];simp
theorem a1U {t:List UInt8} {r:q5W} (h:q95 t=(r,0)):r.ok/\t=z6f r:=by
 unfold q95 at h;cases hr:b5B t ⟨0,0⟩ with
 |mk a s=>
  rw[hr]at h;simp only at h;by_cases c:q7A t s=0
  ·rw[xAa (by simpa using c)]at h;simp only[xBt,xFb]at h;subst h;unfold q7A at c;have hb:s.bad=0:=by
    by_cases c2:s.bad=0
    ·exact c2
    ·rw[xAa (fun h=>c2 h.1)]at c;exact c
   obtain⟨q,r1,r2,p,r3⟩:=j38.bwd t 0 a s (by omega) hr hb;have hat:¬s.at_<t.length:=fun h'=>by rw[xAb ⟨hb,h'⟩]at c;cases c
   refine⟨q,?_⟩;rw[xAp]at r3;have hp:p=[]:=by
    have:=xFa List.length r3;rw[xla0]at this;exact xBc.1 (by omega)
   rw[r3,hp,xBe]
  ·rw[xAb c]at h;simp only[xBt]at h;exact absurd h.2 c
theorem j0n (r:q5W):(z6f r).length<=32:=by
 unfold z6f q3g q2J a0S;have:=q0N r.value;have:=q0N (zig r.am.hi);have:=q0N r.am.lo;simp only[xla0,xAi,xAv];omega
def b0W (B:List UInt8) (s:RS):q5W×RS:=
 let t:=q1g B 64 s
 if t.2.bad≠0 then (j1H,t.2) else
 let d:=q95 t.1
 (d.1,if d.2≠0 then ⟨t.2.at_,d.2⟩ else t.2)
theorem a8C:Cod b0W (fun r=>q1Z (z6f r)) q5W.ok where
 fwd:=fun B k r post e hr=>by
  have e1:=(q4w 64 (by decide) (by decide)).fwd B k (z6f r) post e (by have:=j0n r;omega);simp only[b0W,e1,a1T hr];simp
 bwd:=fun B k r s' hk e hb=>by
  cases ht:q1g B 64 ⟨k,0⟩ with
  |mk t s1=>
   simp only[b0W,ht]at e;by_cases c:s1.bad=0
   ·rw[xAa (by simpa using c)]at e;cases hd:q95 t with
    |mk d er=>
     rw[hd]at e;simp only[xBt]at e;obtain⟨rfl,rfl⟩:=e;by_cases c2:er=0
     ·subst c2;rw[xAa (by simp)]at hb⊢;obtain⟨q,r1,r2,p,r3⟩:=(q4w 64 (by decide) (by decide)).bwd B k t s1 hk ht hb;obtain⟨q2,rfl⟩:=a1U hd;exact⟨q2,r1,r2,p,r3⟩
     ·rw[xAb c2]at hb;exact absurd hb c2
   ·rw[xAb c]at e;simp only[xBt]at e;rw[<-e.2]at hb;exact absurd hb c
 stk:=fun B s hs=>by
  have e:=(q4w 64 (by decide) (by decide)).stk B s hs;simp only[b0W];rw[xAb (by rw[e];exact hs)];exact e
def q9T (k:q1d):List UInt8:=q5R k.seq++q1Z (z6f k.rep)
def j9O (B:List UInt8) (s:RS):q1d×RS:=(⟨(q1a B q0M s).1,(b0W B (q1a B q0M s).2).1⟩,(b0W B (q1a B q0M s).2).2)
def q1d.ok (k:q1d):Prop:=(0<=k.seq/\k.seq<=q0M)/\k.rep.ok
theorem z8V:Cod j9O q9T q1d.ok:=
 ((q2g q0M (by decide)).seq a8C).imp (fun x=>(⟨x.1,x.2⟩:q1d)) (fun k:q1d=>(k.seq,k.rep)) (fun _ _=>rfl) _ (fun b hb=>⟨hb,rfl⟩) (fun a h=>h)
def q7G (s:q0L):List UInt8:=q5R s.id++(q5R s.seq++(q5R s.used++q1C q9T s.kept))
def z5y (B:List UInt8) (s:RS):q0L×RS:=
 let i:=q1a B q0M s
 let q:=q1a B q0M i.2
 let u:=q1a B q0M q.2
 let k:=q60 4 j9O B u.2
 (⟨i.1,q.1,u.1,k.1⟩,k.2)
def q0L.ok (s:q0L):Prop:=(0<=s.id/\s.id<=q0M)/\(0<=s.seq/\s.seq<=q0M)/\(0<=s.used/\s.used<=q0M)/\(s.kept.length:Int)<=4/\∀k∈s.kept,k.ok
theorem z8W:Cod z5y q7G q0L.ok:=
 ((q2g q0M (by decide)).seq ((q2g q0M (by decide)).seq ((q2g q0M (by decide)).seq (q6t z8V (m:=4) (by decide))))).imp (fun x=>(⟨x.1,x.2.1,x.2.2.1,x.2.2.2⟩:q0L)) (fun k:q0L=>(k.id,k.seq,k.used,k.kept)) (fun _ _=>rfl) _ (fun b hb=>⟨hb,rfl⟩) (fun a h=>h)
def q5o (p:q0v):List UInt8:=q1Z p.name++(q2J p.scale++q3g p.out)
def q53 (B:List UInt8) (s:RS):q0v×RS:=
 let n:=q1g B 3 s
 let k:=q1L B 18 n.2
 let w:=q3e B k.2
 (⟨n.1,k.1,w.1⟩,w.2)
theorem j37:Cod q53 q5o (fun p=>(p.name.length:Int)<=3/\(0<=p.scale/\p.scale<=18)/\p.out.ok):=
 ((q4w 3 (by decide) (by decide)).seq ((q79 18 (by decide)).seq q5x)).imp (fun x=>(⟨x.1,x.2.1,x.2.2⟩:q0v)) (fun p:q0v=>(p.name,p.scale,p.out)) (fun _ _=>rfl) _ (fun b hb=>⟨hb,rfl⟩) (fun a h=>h)
def q9U (p:q0D):List UInt8:=q1Z p.x++(q1Z p.y++(q2J p.q0V++(q3g p.rate++(q3g p.inx++q3g p.q2I))))
def z2p (B:List UInt8) (s:RS):q0D×RS:=
 let x:=q1g B 3 s
 let y:=q1g B 3 x.2
 let k:=q1L B 18 y.2
 let r:=q3e B k.2
 let i:=q3e B r.2
 let o:=q3e B i.2
 (⟨x.1,y.1,r.1,k.1,i.1,o.1⟩,o.2)
theorem a1Q:Cod z2p q9U (fun p=>(p.x.length:Int)<=3/\(p.y.length:Int)<=3/\(0<=p.q0V/\p.q0V<=18)/\p.rate.ok/\p.inx.ok/\p.q2I.ok):=
 ((q4w 3 (by decide) (by decide)).seq ((q4w 3 (by decide) (by decide)).seq ((q79 18 (by decide)).seq (q5x.seq (q5x.seq q5x))))).imp (fun x=>(⟨x.1,x.2.1,x.2.2.2.1,x.2.2.1,x.2.2.2.2.1,x.2.2.2.2.2⟩:q0D)) (fun p:q0D=>(p.x,p.y,p.q0V,p.rate,p.inx,p.q2I)) (fun _ _=>rfl) _ (fun b hb=>⟨hb,rfl⟩) (fun a h=>h)
def j1S (a:q1v):List UInt8:=q5R a.id++(q1Z a.q1U++q3g a.bal)
def a3Z (B:List UInt8) (s:RS):q1v×RS:=
 let i:=q1a B q0M s
 let n:=q1g B 3 i.2
 let w:=q3e B n.2
 (⟨i.1,n.1,w.1⟩,w.2)
theorem a8z:Cod a3Z j1S (fun a=>(0<=a.id/\a.id<=q0M)/\(a.q1U.length:Int)<=3/\a.bal.ok):=
 ((q2g q0M (by decide)).seq ((q4w 3 (by decide) (by decide)).seq q5x)).imp (fun x=>(⟨x.1,x.2.1,x.2.2⟩:q1v)) (fun p:q1v=>(p.id,p.q1U,p.bal)) (fun _ _=>rfl) _ (fun b hb=>⟨hb,rfl⟩) (fun a h=>h)
def a0D (b:LSt):List UInt8:=q1C q5o b.q0d++(q1C q9U b.pairs++(q5R b.latest++q1C j1S b.q0s))
def q5T (B:List UInt8) (s:RS):LSt×RS:=
 let p:=q60 8 q53 B s
 let q:=q60 64 z2p B p.2
 let n:=q1a B q0M q.2
 let a:=q60 64 a3Z B n.2
 (⟨p.1,q.1,a.1,n.1,64⟩,a.2)
def q8A (b:LSt):Prop:=((b.q0d.length:Int)<=8/\∀p∈b.q0d,(p.name.length:Int)<=3/\(0<=p.scale/\p.scale<=18)/\p.out.ok)/\
 ((b.pairs.length:Int)<=64/\∀p∈b.pairs,(p.x.length:Int)<=3/\(p.y.length:Int)<=3/\(0<=p.q0V/\p.q0V<=18)/\p.rate.ok/\p.inx.ok/\p.q2I.ok)/\(0<=b.latest/\b.latest<=q0M)/\
 ((b.q0s.length:Int)<=64/\∀a∈b.q0s,(0<=a.id/\a.id<=q0M)/\(a.q1U.length:Int)<=3/\a.bal.ok)
theorem a1P:Cod q5T a0D (fun b=>q8A b/\b.most=64):=
 ((q6t j37 (m:=8) (by decide)).seq ((q6t a1Q (m:=64) (by decide)).seq ((q2g q0M (by decide)).seq (q6t a8z (m:=64) (by decide))))).imp (fun x=>(⟨x.1,x.2.1,x.2.2.2,x.2.2.1,64⟩:LSt)) (fun b:LSt=>(b.q0d,b.pairs,b.latest,b.q0s)) (fun _ _=>rfl) _ (fun b hb=>⟨hb.1,by cases b;simp only at hb;simp[hb.2]⟩) (fun a h=>⟨h,rfl⟩)
def z2F (b:LSt) (l:List q0L):List UInt8:=a0D b++q1C q7G l
def z9U (B:List UInt8) (s:RS):(LSt×List q0L)×RS:=(((q5T B s).1,(q60 16 z5y B (q5T B s).2).1),(q60 16 z5y B (q5T B s).2).2)
theorem a8A:Cod z9U (fun x=>z2F x.1 x.2) (fun x=>(q8A x.1/\x.1.most=64)/\(x.2.length:Int)<=16/\∀s∈x.2,s.ok):=a1P.seq (q6t z8W (m:=16) (by decide))
theorem q8Z {α:Type} {f:α->List UInt8} {k:Nat}:∀{l:List α},(∀a∈l,(f a).length<=k)->(l.flatMap f).length<=l.length*k
 |[],_=>by simp
 |a::l,h=>by
  have h1:=h a xmc;have h2:=q8Z (l:=l) fun b hb=>h b (xBa _ hb)
  rw[xCm,xla0,xAi,xCi];omega
theorem q5n {α:Type} {f:α->List UInt8} {k n:Nat} {l:List α} (h:∀a∈l,(f a).length<=k) (hl:l.length<=n):(q1C f l).length<=10+n*k:=by
 unfold q1C;have h1:=q0N l.length;have h2:=q8Z h;have h3:=xAo k hl;rw[xla0];omega
theorem q3Q (w:Wd):(q3g w).length<=20:=by
 unfold q3g a0S;have:=q0N (zig w.hi);have:=q0N w.lo;rw[xla0];omega
theorem q5p {l:List UInt8} {n:Nat} (h:l.length<=n):(q1Z l).length<=10+n:=by
 unfold q1Z;have:=q0N l.length;rw[xla0];omega
theorem z2G {b:LSt} {l:List q0L} (h:q8A b) (hl:(l.length:Int)<=16) (hs:∀s∈l,s.ok):(z2F b l).length<=32768:=by
 obtain⟨⟨p1,p2⟩,⟨q1,q2⟩,_,a1,a2⟩:=h;have hp:=q5n (f:=q5o) (k:=34) (n:=8) (l:=b.q0d) (fun p hp=>by
  have h1:=q5p (l:=p.name) (n:=3) (by have:=(p2 p hp).1;omega);have h2:=q3Q p.out;unfold q5o q2J;simp only[xla0,xAi,xAv];omega) (by omega)
 have hq:=q5n (f:=q9U) (k:=87) (n:=64) (l:=b.pairs) (fun p hp=>by
  have h1:=q5p (l:=p.x) (n:=3) (by have:=(q2 p hp).1;omega);have h0:=q5p (l:=p.y) (n:=3) (by have:=(q2 p hp).2.1;omega);have h2:=q3Q p.rate;have h3:=q3Q p.inx;have h4:=q3Q p.q2I;unfold q9U q2J;simp only[xla0,xAi,xAv];omega) (by omega)
 have ha:=q5n (f:=j1S) (k:=43) (n:=64) (l:=b.q0s) (fun p hp=>by
  have h1:=q5p (l:=p.q1U) (n:=3) (by have:=(a2 p hp).2.1;omega);have h2:=q3Q p.bal;have h3:=q0N p.id;unfold j1S;simp only[xla0];omega) (by omega)
 have hz:=q5n (f:=q7G) (k:=248) (n:=16) (l:=l) (fun s h=>by
  have hk:=q5n (f:=q9T) (k:=52) (n:=4) (l:=s.kept) (fun k hk=>by
   have h1:=q5p (l:=z6f k.rep) (n:=32) (j0n _);have h2:=q0N k.seq;unfold q9T;simp only[xla0];omega) (by have:=(hs s h).2.2.2.1;omega)
  have h1:=q0N s.id;have h2:=q0N s.seq;have h3:=q0N s.used;unfold q7G;simp only[xla0];omega) (by omega)
 have hn:=q0N b.latest;unfold z2F a0D;simp only[xla0];omega
end
section
structure PS where
 rs:RS
 e:Int
def PS.c (s:PS):RS:=if s.e≠0 then ⟨s.rs.at_,s.e⟩ else s.rs
theorem PS.c0 (s:RS):PS.c ⟨s,0⟩=s:=by simp[PS.c]
def q2Q {α:Type} (f:RS->α×PS):Nat->PS->List α×PS
 | 0,s=>([],s)
 |n+1,s=>if s.e≠0 then ([],s) else ((f s.rs).1::(q2Q f n (f s.rs).2).1,(q2Q f n (f s.rs).2).2)
def z5p {α:Type} (m:Int) (f:List UInt8->RS->α×PS) (B:List UInt8) (s:RS):List α×PS:=q2Q (f B) (q1a B m s).1.toNat ⟨(q1a B m s).2,0⟩
theorem PS.cz (s:PS) (h:s.e=0):s.c=s.rs:=by simp[PS.c,h]
theorem z5r {α:Type} {f:RS->α×PS} {g:RS->α×RS} (h:∀s,(g s).2=(f s).2.c/\((f s).2.e=0->(g s).1=(f s).1)) (hs:∀s,s.bad≠0->(g s).2=s) :
  ∀n s,(q2K g n s.c).2=(q2Q f n s).2.c/\((q2Q f n s).2.e=0->(q2K g n s.c).1=(q2Q f n s).1)
 | 0,s=>⟨rfl,fun _=>rfl⟩
 |n+1,s=>by
  by_cases he:s.e=0
  ·obtain⟨h1,h2⟩:=h s.rs;obtain⟨h3,h4⟩:=z5r h hs n (f s.rs).2;unfold q2K q2Q;rw[xAa (by simpa using he),s.cz he,h1];refine⟨h3,fun h5=>?_⟩
   have h5':(q2Q f n (f s.rs).2).2.e=0:=h5;have h6:(f s.rs).2.e=0:=by
    by_cases c:(f s.rs).2.e=0
    ·exact c
    ·cases n with
     |zero=>exact h5'
     |succ n=>unfold q2Q at h5';rw[xAb c]at h5';exact h5'
   show (g s.rs).1::(q2K g n (f s.rs).2.c).1=(f s.rs).1::(q2Q f n (f s.rs).2).1;rw[h4 h5',h2 h6]
  ·have hc:s.c.bad≠0:=by unfold PS.c;rw[xAb he];exact he
   rw[q5g hs (n+1) s.c hc];unfold q2Q;rw[xAb he];exact⟨rfl,fun h=>absurd h he⟩
def noE {α:Type} (g:RS->α×RS) (s:RS):α×PS:=((g s).1,⟨(g s).2,0⟩)
theorem j9H {α:Type} (g:RS->α×RS):∀n s,q2Q (noE g) n ⟨s,0⟩=((q2K g n s).1,⟨(q2K g n s).2,0⟩)
 | 0,s=>rfl
 |n+1,s=>by
  unfold q2Q q2K;rw[xAa (by simp)];simp only[noE];rw[j9H g n]
def q4o (B:List UInt8) (s:RS):q1d×PS:=
 let q:=q1a B q0M s
 let t:=q1g B 64 q.2
 if t.2.bad≠0 then (⟨q.1,j1H⟩,⟨t.2,0⟩) else
 (⟨q.1,(q95 t.1).1⟩,⟨t.2,(q95 t.1).2⟩)
theorem j9G (B:List UInt8) (s:RS):(j9O B s).2=(q4o B s).2.c/\((q4o B s).2.e=0->(j9O B s).1=(q4o B s).1):=by
 unfold j9O q4o b0W;obtain⟨q,hq⟩:∃q,q=q1a B q0M s:=⟨_,rfl⟩;obtain⟨t,ht⟩:∃t,t=q1g B 64 q.2:=⟨_,rfl⟩;simp only[<-hq,<-ht];by_cases hb:t.2.bad=0
 ·simp only[hb,ne_eq,xAq,xAh,PS.c];by_cases he:(q95 t.1).2=0
  ·simp[he]
  ·simp[he]
 ·simp[hb,PS.c]
def q7z (B:List UInt8) (s:RS):q0L×PS:=
 let i:=q1a B q0M s
 let q:=q1a B q0M i.2
 let u:=q1a B q0M q.2
 let k:=z5p 4 q4o B u.2
 (⟨i.1,q.1,u.1,k.1⟩,k.2)
theorem z5q {α:Type} {m:Int} {f:List UInt8->RS->α×PS} {g:List UInt8->RS->α×RS} {B:List UInt8} (h:∀s,(g B s).2=(f B s).2.c/\((f B s).2.e=0->(g B s).1=(f B s).1)) (hs:∀s,s.bad≠0->(g B s).2=s) (s:RS) :
  (q60 m g B s).2=(z5p m f B s).2.c/\((z5p m f B s).2.e=0->(q60 m g B s).1=(z5p m f B s).1):=by
 have:=z5r h hs (q1a B m s).1.toNat ⟨(q1a B m s).2,0⟩;rw[PS.c0]at this;exact this
theorem j9J (B:List UInt8) (s:RS):(z5y B s).2=(q7z B s).2.c/\((q7z B s).2.e=0->(z5y B s).1=(q7z B s).1):=by
 unfold z5y q7z;have h:=z5q (m:=4) (j9G B) (z8V.stk B) (q1a B q0M (q1a B q0M (q1a B q0M s).2).2).2;exact⟨h.1,fun he=>by simp only at he⊢;rw[h.2 he]⟩
def q3N (B:List UInt8) (s:RS):List q0L×PS:=z5p 16 q7z B s
theorem z2k (B:List UInt8) (s:RS):(q60 16 z5y B s).2=(q3N B s).2.c/\((q3N B s).2.e=0->(q60 16 z5y B s).1=(q3N B s).1):=z5q (j9J B) (z8W.stk B) s
theorem b7p (B:List UInt8) (s:PS):q7A B s.c=if s.e≠0 then s.e else q7A B s.rs:=by
 unfold PS.c q7A;by_cases h:s.e=0
 ·simp[h]
 ·simp[h]
end
section
def j6Q (s:q0L) (i:Nat) (k:q1d):Bool:=decide (k.seq=s.seq-s.kept.length+i+1)&&(decide (0<=k.rep.code)&&(decide (k.rep.code<=99)&&(decide (0<=k.rep.scale)&&decide (k.rep.scale<=18))))
def z0V (s:q0L) (i:Nat):Bool:=match s.kept[i]? with|some k=>j6Q s i k|none=>false
def q65 (s:q0L):Bool:=decide ((s.kept.length:Int)=if s.seq<=4 then s.seq else 4)&&q3S (z0V s) s.kept.length 0
def q3A (l:List q0L):Nat->Int
 | 0=>0
 |j+1=>match l[j]? with|some x=>x.id|none=>0
def j0S (l:List q0L) (i:Nat) (s:q0L):Bool:=decide (q3A l i<s.id)&&(decide (s.id<=72057594037927935)&&(decide (s.seq<=72057594037927935)&&(decide (s.used<=72057594037927935)&&q65 s)))
def q5d (l:List q0L) (i:Nat):Bool:=match l[i]? with|some s=>j0S l i s|none=>false
def q66 (most:Int) (l:List q0L):Bool:=decide (1<=most)&&(decide (most<=16)&&(decide ((l.length:Int)<=most)&&q3S (q5d l) l.length 0))
structure q5W.ty (r:q5W):Prop where
 c:-9223372036854775808<=r.code/\r.code<9223372036854775808
 v:0<=r.value/\r.value<18446744073709551616
 a:r.am.ok
 s:-9223372036854775808<=r.scale/\r.scale<9223372036854775808
def q1d.ty (k:q1d):Prop:=(0<=k.seq/\k.seq<18446744073709551616)/\k.rep.ty
structure q0L.ty (s:q0L):Prop where
 i:0<=s.id/\s.id<18446744073709551616
 q:0<=s.seq/\s.seq<18446744073709551616
 u:0<=s.used/\s.used<18446744073709551616
 k:∀k∈s.kept,k.ty
theorem j90 {s:q0L} (h:q65 s=true) (hk:∀k∈s.kept,k.ty):(s.kept.length:Int)<=4/\∀k∈s.kept,k.ok:=by
 unfold q65 at h;simp only[xAc,xAj,q2t]at h;refine⟨by have:=h.1;split at this<;>omega,fun k hm=>?_⟩
 obtain⟨i,hi,rfl⟩:=xBg.1 hm;have g:=h.2 i (by omega) (by omega);unfold z0V at g;rw[xgq hi]at g;simp only[j6Q,xAc,xAj]at g;obtain⟨t1,t2⟩:=hk _ hm;obtain⟨_,g1,g2,g3,g4⟩:=g;have a1:=t1.2;have a2:=t2.v.2;exact⟨⟨t1.1,by show _<=(18446744073709551615:Int);omega⟩,⟨g1,g2⟩,⟨t2.v.1,by show _<=(18446744073709551615:Int);omega⟩,⟨g3,g4⟩,t2.a⟩
theorem z5J {most:Int} {l:List q0L} (h:q66 most l=true) (ht:∀s∈l,s.ty):(l.length:Int)<=16/\∀s∈l,s.ok:=by
 unfold q66 at h;simp only[xAc,xAj,q2t]at h;refine⟨by omega,fun s hm=>?_⟩
 obtain⟨i,hi,rfl⟩:=xBg.1 hm;have g:=h.2.2.2 i (by omega) (by omega);unfold q5d at g;rw[xgq hi]at g;simp only[j0S,xAc,xAj]at g;have t:=ht _ hm;obtain⟨g1,g2,g3,g4,g5⟩:=g;have k:=j90 g5 t.k;exact⟨⟨t.i.1,by show _<=(18446744073709551615:Int);omega⟩,⟨t.q.1,by show _<=(18446744073709551615:Int);omega⟩,⟨t.u.1,by show _<=(18446744073709551615:Int);omega⟩,k⟩
end
end Go.Abs
namespace Go.Proofs.YtkbhcgifnnhbaaaGreatDoor
open Go Go.Abs
section
noncomputable abbrev H50:FuncId->Option (List AV->Mem->R):=H30
noncomputable abbrev E50:Env:=Ea H50
noncomputable abbrev D50:Do:=Da H50
end
section
open Go Go.Abs
set_option maxRecDepth 20000
set_option maxHeartbeats 400000
def q5v (m:Mem) (b:Nat) (bs:List UInt8) (F:List Nat):Prop:=∃s rb,m.get b=some (.cells [s] false)/\Row m s (u8 bs) rb/\rb≠some b/\F=b::rb.toList
theorem q9S (l:List UInt8):(u8 l).all AV.one=true:=by
 rw[xBd];intro v hv;obtain⟨c,_,rfl⟩:=xBr.1 hv;rfl
theorem a6R (a b:List UInt8):u8 a++u8 b=u8 (a++b):=by simp[u8]
section
variable {m m' m1:Mem} {b:Nat} {bs:List UInt8} {F S:List Nat}
theorem q5v.frame (h:q5v m b bs F) (hf:Fr m m' S) (hd:∀c∈F,c∉S):q5v m' b bs F:=by
 obtain⟨s,rb,h1,h2,h3,rfl⟩:=h;exact⟨s,rb,hf.get h1 (hd b (by simp)),h2.frame hf (fun c hc=>hd c (by simp[hc])),h3,rfl⟩
theorem q5v.q0m (h:q5v m b bs F) (hf:Fr m m' []):q5v m' b bs F:=h.frame hf (by simp)
theorem q5v.lt (h:q5v m b bs F):∀c∈F,c<m.next:=by
 obtain⟨s,rb,h1,h2,h3,rfl⟩:=h;intro c hc;simp only[xmk0,xAw]at hc;rcases hc with rfl|hc
 ·exact Mem.q0u h1
 ·subst hc;exact h2.lt
theorem row_one {m:Mem} {s:AV} {l:List AV} {rb:Option Nat} (h:Row m s l rb):s.one=true:=by
 rcases h with ⟨⟨sz,ex,rfl⟩,_⟩|⟨b,sp,ex,_,rfl,_⟩<;>rfl
theorem z7H (h:q5v m b bs F) (hf:Fr m m1 []) {x:AV} {new:List UInt8} (hx:Sl m1 x (u8 new)) (hl:bs.length+new.length<=q0j) :
  ∃s s' m2 m3 F',ld1 m1 (.ptr (some ⟨b,0⟩))=some s/\q0H 1 1 s x m1=some (s',m2)/\stV m2 (.ptr (some ⟨b,0⟩)) s' 1=some m3/\q5v m3 b (bs++new) F'/\Fr m m3 F/\∀c∈F',c∈F\/m.next<=c:=by
 obtain⟨s,rb,h1,h2,h3,rfl⟩:=h;have g1:=hf.get h1 (by simp);obtain⟨s',m2,rb',a1,a2,a3,a4⟩:=q4h (w:=1) (h2.frame hf (by simp)) hx (q9S new) (by simpa using hl);have hb:b∉rb.toList:=by cases rb with
  |none=>simp
  |some c=>simp;intro e;exact h3 (by rw[e])
 have g2:=a3.get g1 hb;have hlt:=Mem.q0u h1;have hn:=hf.next
 have hst:=q1B (v:=s') (vs:=[s']) (o:=0) (n:=1) g2 (q3k (row_one a2)) rfl (by simp);have hst':stV m2 (.ptr (some ⟨b,0⟩)) s' 1=some (m2.put b (some (.cells [s'] false))):=by simpa using hst
 have hrb':rb'≠some b:=by
  rcases a4 with rfl|rfl
  ·exact h3
  ·intro e;cases e;omega
 have fp:Fr m2 (m2.put b (some (.cells [s'] false))) [b]:=Fr.put _ _ _;have f3:Fr m m2 (b::rb.toList):=(hf.any _).step a3 (fun c hc=>.inl (by simp at hc⊢;exact .inr hc))
 refine⟨s,s',m2,_,_,by rw[q0e g1];rfl,a1,hst',⟨s',rb',q0x g2,?_,hrb',rfl⟩,f3.step fp (by simp),fun c hc=>?_⟩
 ·rw[<-a6R];exact a2.frame fp (fun c hc=>by simp;rintro rfl;exact hrb' hc)
 ·simp only[xmk0,xAw]at hc⊢;rcases hc with rfl|hc
  ·exact .inl (.inl rfl)
  ·rcases a4 with rfl|rfl
   ·exact .inl (.inr hc)
   ·cases hc;exact .inr hn
theorem a0u (m:Mem) (v:AV):Sl (m.lay (.cells [v] false)) (.sl (some ⟨m.next,0⟩) 1 1 1 true) [v]:=.inr ⟨_,_,_,_,_,_,rfl,.inl rfl,by simp,q0k _ _,by simp,rfl⟩
theorem a4N (h:q5v m b bs F) (c:UInt8) (hl:bs.length+1<=q0j) :
  ∃m' F',run E50 (.fn 83) [.ptr (some ⟨b,0⟩),.int .u8 (c.toNat:Int)] m=some (.undef,m')/\q5v m' b (bs++[c]) F'/\Fr m m' F/\∀x∈F',x∈F\/m.next<=x:=by
 obtain⟨s,s',m2,m3,F',e1,e2,e3,r⟩:=z7H h ((Fr.refl m).lay (.cells [.int .u8 (c.toNat:Int)] false)) (new:=[c]) (a0u m _) hl;refine⟨m3,F',?_,r⟩;have e1':ld1 m (.ptr (some ⟨b,0⟩))=some s:=by
  have hb:b<m.next:=h.lt b (by obtain⟨_,_,_,_,_,rfl⟩:=h;simp)
  rw[<-e1];simp only[ld1,j9b (show b≠m.next by omega)]
 simp only[b30 (H:=H50) rfl,F83,p1,q1,apE,nnA,q0f,e1',z6A (show (AV.int .u8 (c.toNat:Int)).one=true from rfl),e2,e3]
end
end
end Go.Proofs.YtkbhcgifnnhbaaaGreatDoor
