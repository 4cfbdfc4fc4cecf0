/- Texts of one claim, put together. -/
import Derived.Test.YtlginbmjiecglaaGreatDoorW23
namespace Go.Proofs.YtlginbmjiecglaaGreatDoor
section
open Go Go.Abs
theorem q3G {κ:Type} {lt:κ->κ->Bool} (tr:∀a b c,lt a b=true->lt b c=true->lt a c=true):∀{l:List κ},(∀i (h:i+1<l.length),lt (l[i]'(by omega)) l[i+1]=true)->Srt lt l
 |[],_=>by simp[Srt]
 |[a],_=>by simp[Srt]
 |a::b::l,h=>by
  have ih:Srt lt (b::l):=q3G tr fun i hi=>h (i+1) (by simpa using hi)
  have h0:=h 0 (by simp);simp only[List.getElem_cons_zero,List.getElem_cons_succ,xnz]at h0;unfold Srt at ih⊢;rw[List.pairwise_cons];refine⟨fun x hx=>?_,ih⟩
  rw[List.pairwise_cons]at ih;cases hx with
  |head=>exact h0
  |tail _ hx=>exact tr _ _ _ h0 (ih.1 x hx)
theorem nb3 {s:List UInt8} (h:q3x s=true):s.length=3:=by
 unfold q3x at h;simp only[Bool.and_eq_true,decide_eq_true_eq]at h;exact h.2
theorem q5j {α:Type} {l:List α} {i:Nat} (hi:i<l.length) {r:α->Bool}:q2R l i r=true↔∀(h:0<i),r (l[i-1]'(by omega))=true:=by
 unfold q2R;rw[xgq (by omega)];by_cases h:i=0
 ·subst h;simp
 ·rw[df h,Bool.false_or];exact⟨fun h _=>h,fun h'=>h' (by omega)⟩
theorem q75 (w:Wd) (s:Int):decide (q29 w s=0)=q4B w s:=by
 unfold q29 q4B;apply decide_eq_decide.mpr;split
 ·split<;>omega
 ·omega
theorem z05 {st:LSt} (g:q3j st):q2p st=true:=by
 have w:=g.w;unfold q2p;simp only[Bool.and_eq_true,decide_eq_true_eq];refine⟨g.mo.1,g.mo.2,w.lp,g.am,?_,?_,⟨?_,w.lat.2⟩,?_⟩
 ·rw[q3m];intro j _ hj;have hj':j<st.q0a.length:=by omega
  unfold q7f;rw[xgq hj'];have hp:=w.okp _ (List.getElem_mem hj');unfold q5J;simp only[Bool.and_eq_true,decide_eq_true_eq];refine⟨hp.2.2.2,?_,hp.1,hp.2.1⟩;rw[q5j hj'];intro h;have:=q2q w.sp (i:=j-1) (j:=j) (by omega) (by rw[xlm];exact hj')
  rwa [xgm,xgm]at this
 ·rw[q3m];intro j _ hj;have hj':j<st.pairs.length:=by omega
  unfold q5P;rw[xgq hj'];have mq:=List.getElem_mem hj';have hq:=w.okq _ mq;have hq1:=g.q1 _ mq;show q5b st j st.pairs[j]=true;unfold q5b;rw[q75];simp only[Bool.and_eq_true,decide_eq_true_eq,Bool.not_eq_true',decide_eq_false_iff_not];refine⟨?_,(q1K w.sp).1 hq.2.2.2.2.1,(q1K w.sp).1 hq.2.2.2.2.2,hq1.1,hq.2.1,hq1.2.1,hq1.2.2⟩;rw[q5j hj'];intro h;have:=q2q w.sq (i:=j-1) (j:=j) (by omega) (by rw[xlm];exact hj')
  rw[xgm,xgm]at this;unfold q0D.key at this
  rwa [q2I (by rw[q1s w (w.okq _ (List.getElem_mem (show j-1<st.pairs.length by omega))).2.2.2.2.1,q1s w hq.2.2.2.2.1])]at this
 ·rw[q3m];intro j _ hj;have hj':j<st.q0j.length:=by omega
  unfold q5O;rw[xgq hj'];have ma:=List.getElem_mem hj';have ha:=w.oka _ ma;have ha1:=g.a1 _ ma;unfold q86;simp only[Bool.and_eq_true,decide_eq_true_eq];refine⟨?_,ha.2.2.1,(q1K w.sp).1 ha.2.2.2,ha1.2⟩;rw[xgq (by omega)];by_cases h:j=0
  ·subst h;simp only[if_true];omega
  ·simp only[if_neg h];have:=q2q w.sa (i:=j-1) (j:=j) (by omega) (by rw[xlm];exact hj');rw[xgm,xgm]at this;simpa[q0p]using this
 ·rw[q3m];intro j _ hj;have hj':j<st.q0a.length:=by omega
  unfold q7D;rw[xgq hj'];exact dt (g.su _ (List.getElem_mem hj'))
theorem z0G {st:LSt} (ok:q2P st) (h:q2p st=true):q3j st:=by
 unfold q2p at h;simp only[Bool.and_eq_true,decide_eq_true_eq,q3m]at h;obtain⟨m1,m2,lp,la,hp,hq,⟨ha,hlat⟩,hs⟩:=h;have P:∀j (hj:j<st.q0a.length),q5J st j st.q0a[j]=true:=fun j hj=>by
  have:=hp j (by omega) (by omega);unfold q7f at this
  rwa [xgq hj]at this
 have Q:∀j (hj:j<st.pairs.length),q5b st j st.pairs[j]=true:=fun j hj=>by
  have:=hq j (by omega) (by omega);unfold q5P at this
  rwa [xgq hj]at this
 have A:∀j (hj:j<st.q0j.length),q86 st j st.q0j[j]=true:=fun j hj=>by
  have:=ha j (by omega) (by omega);unfold q5O at this
  rwa [xgq hj]at this
 have P':∀p∈st.q0a,q3x p.name=true/\0<=p.scale/\p.scale<=18:=fun p hp=>by
  obtain⟨j,hj,rfl⟩:=List.mem_iff_getElem.1 hp;have:=P j hj;unfold q5J at this;simp only[Bool.and_eq_true,decide_eq_true_eq]at this;exact⟨this.1,this.2.2⟩
 have n3:∀k∈st.q0a.map (·.name),k.length=3:=fun k hk=>by
  obtain⟨p,hp,rfl⟩:=List.mem_map.1 hk;exact nb3 (P' p hp).1
 have sp:Srt q0c (st.q0a.map (·.name)):=q3G q05 fun i hi=>by
  rw[xlm]at hi;have:=P (i+1) hi;unfold q5J at this;simp only[Bool.and_eq_true]at this;have:=(q5j hi).1 this.2.1 (by omega);simpa using this
 have Q':∀q∈st.pairs,q.x∈st.q0a.map (·.name)/\q.y∈st.q0a.map (·.name)/\q.x≠q.y/\q4B q.rate q.q06=true/\0<=q.inx.val/\q.q1H.val<=0:=fun q hq=>by
  obtain⟨j,hj,rfl⟩:=List.mem_iff_getElem.1 hq;have:=Q j hj;unfold q5b at this;rw[q75]at this;simp only[Bool.and_eq_true,decide_eq_true_eq,Bool.not_eq_true',decide_eq_false_iff_not]at this;exact this.2
 have sq:Srt q0c (st.pairs.map (·.key)):=q3G q05 fun i hi=>by
  rw[xlm]at hi;have:=Q (i+1) hi;unfold q5b at this;rw[Bool.and_eq_true]at this;have:=(q5j hi).1 this.1 (by omega);simp only[Nat.add_sub_cancel]at this;rw[xgm,xgm];unfold q0D.key;rw[q2I (by rw[n3 _ (Q' _ (List.getElem_mem (show i<st.pairs.length by omega))).1,n3 _ (Q' _ (List.getElem_mem hi)).1])];exact this
 have Aw:∀j (hj:j<st.q0j.length),(∀h:0<j,(st.q0j[j-1]'(by omega)).id<st.q0j[j].id)/\1<=st.q0j[j].id/\st.q0j[j].id<=st.latest/\st.q0j[j].q1C∈st.q0a.map (·.name)/\0<=st.q0j[j].bal.val:=fun j hj=>by
  have:=A j hj;unfold q86 at this;simp only[Bool.and_eq_true,decide_eq_true_eq]at this;rw[xgq (by omega)]at this;by_cases h:j=0
  ·subst h;simp only[if_true]at this;exact⟨fun h=>absurd h (by omega),by omega,this.2.1,this.2.2.1,this.2.2.2⟩
  ·simp only[if_neg h]at this;have h2:=(ok.a _ (List.getElem_mem (show j-1<st.q0j.length by omega))).2.1;exact⟨fun _=>this.1,by omega,this.2.1,this.2.2.1,this.2.2.2⟩
 have A':∀a∈st.q0j,1<=a.id/\a.id<=st.latest/\a.q1C∈st.q0a.map (·.name)/\0<=a.bal.val:=fun a hm=>by
  obtain⟨j,hj,rfl⟩:=List.mem_iff_getElem.1 hm;exact(Aw j hj).2
 have sa:Srt q0p (st.q0j.map (·.id)):=q3G q3v fun i hi=>by
  rw[xlm]at hi;have:=(Aw (i+1) hi).1 (by omega);simp only[Nat.add_sub_cancel]at this;rw[xgm,xgm];exact dt this
 exact {
  w:={sp:=sp,lp:=lp,sq:=sq,lq:=z0W sp (by rw[xlm];exact lp) n3 sq fun q hq=>⟨(Q' q hq).1,(Q' q hq).2.1⟩,sa:=sa,la:=by omega
      okp:=fun p hp=>⟨(P' p hp).2.1,(P' p hp).2.2,(ok.p p hp).1,(P' p hp).1⟩
      okq:=fun q hq=>⟨(ok.q q hq).1,(Q' q hq).2.2.2.1,(ok.q q hq).2.1,(ok.q q hq).2.2.1,(q1K sp).2 (Q' q hq).1,(q1K sp).2 (Q' q hq).2.1⟩
      oka:=fun a ha=>⟨(ok.a a ha).1,(ok.a a ha).2.1,(A' a ha).2.1,(q1K sp).2 (A' a ha).2.2.1⟩
      lat:=⟨ok.lat.1,hlat⟩}
  am:=la,mo:=⟨m1,m2⟩
  a1:=fun a ha=>⟨(A' a ha).1,(A' a ha).2.2.2⟩
  q1:=fun q hq=>⟨(Q' q hq).2.2.1,(Q' q hq).2.2.2.2⟩
  su:=fun p hp=>by
   obtain⟨j,hj,rfl⟩:=List.mem_iff_getElem.1 hp;have:=hs j (by omega) (by omega);unfold q7D at this;rw[xgq hj]at this;exact of_decide_eq_true this}
theorem z0T {st:LSt} (g:q3j st):q2P st where
 small:=⟨by have:=g.w.lp;omega,by have:=g.w.lq;omega,by have:=g.w.la;omega⟩
 p:=fun p hp=>⟨(g.w.okp p hp).2.2.1,by have:=nb3 (g.w.okp p hp).2.2.2;omega⟩
 q:=fun q hq=>by
  have h:=g.w.okq q hq;exact⟨h.1,h.2.2.1,h.2.2.2.1,by have:=q1s g.w h.2.2.2.2.1;omega,by have:=q1s g.w h.2.2.2.2.2;omega⟩
 a:=fun a ha=>by
  have h:=g.w.oka a ha;have:=g.w.lat;exact⟨h.1,h.2.1,by omega,by have:=q1s g.w h.2.2.2;omega⟩
 lat:=by have:=g.w.lat;omega
end
section
set_option maxRecDepth 4000
open Go Go.Abs
def S29:List FuncId:=[14]
noncomputable def H29:FuncId->Option (List AV->Mem->R):=q1y E28 S29
noncomputable abbrev E29:Env:=T.EH H29
theorem a1j:q1i E29:=q0Q a1i S29
noncomputable abbrev D29:Do:=T.Rl H29
theorem q9x {H:FuncId->Option (List AV->Mem->R)} (hh:H 14=some (q0x E28 14)) {m:Mem} {sp sq sa:AV} {st:LSt} (hb:BkV m sp sq sa st) (ok:q2P st) (M:Mem) (hM:Fr m M []):run (T.EH H) (.fn 14) [.agg [sp,sq,sa,.int .u64 st.latest],.int .i64 st.most] M=some (.bool (q2p st),M):=
 q0s hh (by simp[AV.flat,AV.lt]) fun m2 h1 h2=>j4C ((hb.q0k hM).q0k (Fr.same h1 h2)) ok
section
variable {m:Mem} {b:Nat} {st:LSt} {F:List Nat}
theorem j6N (h:q0u m b st F) (hs:Srt q0c (st.q0a.map (·.name))) (p:q0r) (hl:st.q0a.length<8) (hp:∀x∈st.q0a.map (·.name),q0c x p.name=true) {tp tq ta:AV}
  (hb:m.get b=some (.cells [.int .i64 st.most,tp,tq,ta,.int .u64 st.latest] false)) :
  ∃r m' F',run E29 (.fn 39) [tp,.str p.name,.agg p.cells] m=some (r,m')/\q0u m' b {st with q0a:=st.q0a++[p]} F'/\Fr m m' F/\∀c,c∈F'->c∈F\/m.next<=c:=by
 obtain⟨tp',tq',ta',FP,FQ,FA,h1,h2,h3,h4,h5,h6,h7,h8,h9,h10,rfl⟩:=h.ex;rw[h1]at hb;simp only[xoi,Blk.cells.injEq,List.cons.injEq,and_true,true_and]at hb;obtain⟨rfl,rfl,rfl⟩:=hb;obtain⟨m1,FP',g1,g2,g3,g4⟩:=a0d h2 hs (by simp;omega) p.name (v:=p.cells) rfl rfl;have hlt:((st.q0a.length:Nat):Int)<8:=by omega
 simp only[j4k,j4o,z1W hp,z4g hp,xbq,if_false,xlm,if_pos hlt]at g2;have e1:q2Q st.q0a.length p.name (st.q0a.map (·.name))=(st.q0a++[p]).map (·.name):=by
  have:=q5d p.name (st.q0a.map (·.name));simp only[xlm]at this;rw[this];simp
 have e2:q2Q st.q0a.length p.cells (st.q0a.map (·.cells))=(st.q0a++[p]).map (·.cells):=by
  have:=q5d p.cells (st.q0a.map (·.cells));simp only[xlm]at this;rw[this];simp
 rw[e1,e2]at g2;obtain⟨F',q1,q2,q3⟩:=q0u.q0a (ps:=st.q0a++[p]) h1 h2 h3 h4 h5 h6 h7 h8 h9 h10 g3 g2 g4;exact⟨_,m1,F',(q7g (H:=H29) rfl _ _).trans g1,q1,q2,q3⟩
theorem j6M (h:q0u m b st F) (hs:Srt q0p (st.q0j.map (·.id))) (p:q1k) (hl:(st.q0j.length:Int)<st.most) (hl2:st.q0j.length<64) (hp:∀x∈st.q0j.map (·.id),q0p x p.id=true) {tp tq ta:AV}
  (hb:m.get b=some (.cells [.int .i64 st.most,tp,tq,ta,.int .u64 st.latest] false)) :
  ∃r m' F',run E29 (.fn 41) [ta,.int .u64 p.id,.agg p.cells] m=some (r,m')/\q0u m' b {st with q0j:=st.q0j++[p]} F'/\Fr m m' F/\∀c,c∈F'->c∈F\/m.next<=c:=by
 obtain⟨tp',tq',ta',FP,FQ,FA,h1,h2,h3,h4,h5,h6,h7,h8,h9,h10,rfl⟩:=h.ex;rw[h1]at hb;simp only[xoi,Blk.cells.injEq,List.cons.injEq,and_true,true_and]at hb;obtain⟨rfl,rfl,rfl⟩:=hb;obtain⟨m1,FA',g1,g2,g3,g4⟩:=a0b h4 hs (by simp;omega) p.id (v:=p.cells) rfl rfl;simp only[j4k,j4o,z1W hp,z4g hp,xbq,if_false,xlm,if_pos hl]at g2;have e1:q2Q st.q0j.length p.id (st.q0j.map (·.id))=(st.q0j++[p]).map (·.id):=by
  have:=q5d p.id (st.q0j.map (·.id));simp only[xlm]at this;rw[this];simp
 have e2:q2Q st.q0j.length p.cells (st.q0j.map (·.cells))=(st.q0j++[p]).map (·.cells):=by
  have:=q5d p.cells (st.q0j.map (·.cells));simp only[xlm]at this;rw[this];simp
 rw[e1,e2]at g2;obtain⟨F',q1,q2,q3⟩:=q0u.q0j (az:=st.q0j++[p]) h1 h2 h3 h4 h5 h6 h7 h8 h9 h10 g3 g2 g4;exact⟨_,m1,F',(q7g (H:=H29) rfl _ _).trans g1,q1,q2,q3⟩
theorem j6O (h:q0u m b st F) (hs:Srt q0c (st.pairs.map (·.key))) (p:q0D) (hl:st.pairs.length<64) (hp:∀x∈st.pairs.map (·.key),q0c x p.key=true) {tp tq ta:AV}
  (hb:m.get b=some (.cells [.int .i64 st.most,tp,tq,ta,.int .u64 st.latest] false)) :
  ∃r m' F',run E29 (.fn 40) [tq,.str p.key,.agg p.cells] m=some (r,m')/\q0u m' b {st with pairs:=st.pairs++[p]} F'/\Fr m m' F/\∀c,c∈F'->c∈F\/m.next<=c:=by
 obtain⟨r,m1,F',g1,g2,g3,g4⟩:=j4m h hs (by omega) p hb;have e:st.q4N p={st with pairs:=st.pairs++[p]}:=by
  unfold LSt.q4N LSt.iQ;rw[if_neg (by rw[z1W hp];decide),if_pos hl,z4g hp,xlm,q5d]
 rw[e]at g2;exact⟨r,m1,F',((q7g (H:=H29) rfl _ _).trans (q7g (H:=H18) rfl _ _).symm).trans g1,g2,g3,g4⟩
end
theorem q9E {κ:Type} {lt:κ->κ->Bool} {l:List κ} (h:Srt lt l) (k:Nat):Srt lt (l.take k):=List.Pairwise.sublist (List.take_sublist _ _) h
theorem q7o {κ:Type} {lt:κ->κ->Bool} {l:List κ} (h:Srt lt l) {k:Nat} (hk:k<l.length):∀x∈l.take k,lt x l[k]=true:=by
 intro x hx;obtain⟨i,hi,rfl⟩:=List.mem_iff_getElem.1 hx;rw[xlt0]at hi;rw[List.getElem_take];exact q2q h (by omega) hk
theorem q5U {α:Type} {l:List α} {i:Nat} (h:i<l.length):l.take i++[l[i]]=l.take (i+1):=by rw[List.take_add_one,xgq h];rfl
section
variable {m:Mem} {sp sq sa:AV} {st:LSt} {b:Nat}
theorem a3n (hb:BkV m sp sq sa st) (g:q3j st) (t2:AV):∀(d i:Nat) (M:Mem) (F:List Nat),i+d=st.q0a.length->Fr m M []->q0u M b ⟨st.q0a.take i,[],[],0,st.most⟩ F->(∀c,c∈F->m.next<=c)->
  ∃M' F',D29.gor 49154 [t2,.ptr (some ⟨b,0⟩),sp,.int .i64 (st.q0a.length:Int),.int .i64 (i:Int)] M=D29.gor 49157 [t2,.ptr (some ⟨b,0⟩)] M'/\q0u M' b ⟨st.q0a,[],[],0,st.most⟩ F'/\Fr m M' []/\(∀c,c∈F'->m.next<=c):=by
 obtain⟨e,he,hs⟩:=uP;have lp:=g.w.lp;intro d;induction d with
 |zero=>
  intro i M F hi hM hL hF;have:i=st.q0a.length:=by omega
  subst this;rw[List.take_length]at hL;refine⟨M,F,?_,hL,hM,hF⟩;simp only[z2O (H:=H29),T.j76,p2,q0b,wp,df (show ¬((st.q0a.length:Nat):Int)<(st.q0a.length:Int) by omega)]
 |succ d ih=>
  intro i M F hi hM hL hF;have hlt:i<st.q0a.length:=by omega
  obtain⟨bs,o,_,x2,_,_,x5⟩:=(hb.p.q0k hM).ixT he hs (i:=i) (by rw[xlm];exact hlt);rw[xgm]at x5;obtain⟨q,hq⟩:∃q,q=st.q0a[i]:=⟨_,rfl⟩;have e1:=q5U hlt;rw[<-hq]at x5 e1;obtain⟨M2,hM2⟩:∃M2,M2=M.lay (.cells q.cells false):=⟨_,rfl⟩;have f2:Fr M M2 []:=by rw[hM2];exact(Fr.refl M).lay _
  have F2:Fr m M2 []:=hM.step0 f2;have s2:stV (M.lay (.cells [.str [],.int .i64 0,.int .i64 0,.int .u64 0] false)) (.ptr (some ⟨M.next,0⟩)) (.agg q.cells) 4=some M2:=by rw[q07 (n:=4) (q0e M _) rfl rfl rfl,q03,hM2]
  have g2:M2.get M.next=some (.cells q.cells false):=by rw[hM2];exact q0e M _
  have a2:∀j:Nat,ld1 M2 (.ptr (some ⟨M.next,j⟩))=q.cells[j]?:=fun j=>q0f g2
  have l2:ldN M2 (.ptr (some ⟨M.next,0⟩)) 4=some (.agg q.cells):=q0C g2 rfl
  have hL2:=hL.q0k f2;obtain⟨tp,tq,ta,FP,FQ,FA,k1,_⟩:=hL2.ex;have aL:∀j:Nat,ld1 M2 (.ptr (some ⟨b,j⟩))=[AV.int .i64 st.most,.ptr (some ⟨tp,0⟩),.ptr (some ⟨tq,0⟩),.ptr (some ⟨ta,0⟩),.int .u64 0][j]?:=fun j=>q0f k1
  obtain⟨r,M3,F3,j1,j2,j3,j4⟩:=j6N hL2 (by rw[List.map_take];exact q9E g.w.sp _) q (by rw[xlt0];omega) (by
   rw[List.map_take];have:=q7o g.w.sp (k:=i) (by rw[xlm];exact hlt);rw[xgm,<-hq]at this;exact this) k1
  simp only[e1]at j2;have F3':∀c,c∈F3->m.next<=c:=fun c hc=>by
   rcases j4 c hc with h|h
   ·exact hF c h
   ·exact xnt0 F2.next h
  obtain⟨M4,F4,r1,r2,r3,r4⟩:=ih (i+1) M3 F3 (by omega) (F2.step j3 (fun c hc=>.inr (hF c hc))) j2 F3'
  refine⟨M4,F4,?_,r2,r3,r4⟩;simp only[q0r.cells]at x5 s2 a2 l2 j1;simp only[z2O (H:=H29),T.j76,p2,q0b,wp,dt (show (i:Int)<(st.q0a.length:Int) by omega)];simp only[j1H (H:=H29),T.a3w,p2,q1,pB,p1,nnA,q0d,x2,x5,s2,aL,a2,l2,j1];simp only[j1I (H:=H29),T.a3x,p2,wp,show (i:Int)+1=((i+1:Nat):Int) by omega,wrap_i64 (n:=((i+1:Nat):Int)) (by omega) (by omega)];exact r1
theorem a3o (hb:BkV m sp sq sa st) (g:q3j st) (t2:AV):∀(d i:Nat) (M:Mem) (F:List Nat),i+d=st.pairs.length->Fr m M []->q0u M b ⟨st.q0a,st.pairs.take i,[],0,st.most⟩ F->(∀c,c∈F->m.next<=c)->
  ∃M' F',D29.gor 49158 [t2,.ptr (some ⟨b,0⟩),sq,.int .i64 (st.pairs.length:Int),.int .i64 (i:Int)] M=D29.gor 49161 [t2,.ptr (some ⟨b,0⟩)] M'/\q0u M' b ⟨st.q0a,st.pairs,[],0,st.most⟩ F'/\Fr m M' []/\(∀c,c∈F'->m.next<=c):=by
 obtain⟨e,he,hs⟩:=uQ;have lq:=g.w.lq;intro d;induction d with
 |zero=>
  intro i M F hi hM hL hF;have:i=st.pairs.length:=by omega
  subst this;rw[List.take_length]at hL;refine⟨M,F,?_,hL,hM,hF⟩;simp only[z2P (H:=H29),T.j77,p2,q0b,wp,df (show ¬((st.pairs.length:Nat):Int)<(st.pairs.length:Int) by omega)]
 |succ d ih=>
  intro i M F hi hM hL hF;have hlt:i<st.pairs.length:=by omega
  obtain⟨bs,o,_,x2,_,_,x5⟩:=(hb.q.q0k hM).ixT he hs (i:=i) (by rw[xlm];exact hlt);rw[xgm]at x5;obtain⟨q,hq⟩:∃q,q=st.pairs[i]:=⟨_,rfl⟩;have mq:q∈st.pairs:=by rw[hq];exact List.getElem_mem hlt
  have e1:=q5U hlt;rw[<-hq]at x5 e1;obtain⟨M2,hM2⟩:∃M2,M2=M.lay (.cells q.cells false):=⟨_,rfl⟩;have f2:Fr M M2 []:=by rw[hM2];exact(Fr.refl M).lay _
  have F2:Fr m M2 []:=hM.step0 f2;have s2:stV (M.lay (.cells [.str [],.str [],.int .i64 0,.int .u64 0,.int .i64 0,.int .i64 0,.int .u64 0,.int .i64 0,.int .u64 0] false)) (.ptr (some ⟨M.next,0⟩)) (.agg q.cells) 9=some M2:=by rw[q07 (n:=9) (q0e M _) rfl rfl rfl,q03,hM2]
  have g2:M2.get M.next=some (.cells q.cells false):=by rw[hM2];exact q0e M _
  have a2:∀j:Nat,ld1 M2 (.ptr (some ⟨M.next,j⟩))=q.cells[j]?:=fun j=>q0f g2
  have l2:ldN M2 (.ptr (some ⟨M.next,0⟩)) 9=some (.agg q.cells):=q0C g2 rfl
  have hL2:=hL.q0k f2;obtain⟨tp,tq,ta,FP,FQ,FA,k1,_⟩:=hL2.ex;have aL:∀j:Nat,ld1 M2 (.ptr (some ⟨b,j⟩))=[AV.int .i64 st.most,.ptr (some ⟨tp,0⟩),.ptr (some ⟨tq,0⟩),.ptr (some ⟨ta,0⟩),.int .u64 0][j]?:=fun j=>q0f k1
  obtain⟨r,M3,F3,j1,j2,j3,j4⟩:=j6O hL2 (by rw[List.map_take];exact q9E g.w.sq _) q (by rw[xlt0];omega) (by
   rw[List.map_take];have:=q7o g.w.sq (k:=i) (by rw[xlm];exact hlt);rw[xgm,<-hq]at this;exact this) k1
  simp only[e1]at j2;have F3':∀c,c∈F3->m.next<=c:=fun c hc=>by
   rcases j4 c hc with h|h
   ·exact hF c h
   ·exact xnt0 F2.next h
  obtain⟨M4,F4,r1,r2,r3,r4⟩:=ih (i+1) M3 F3 (by omega) (F2.step j3 (fun c hc=>.inr (hF c hc))) j2 F3'
  refine⟨M4,F4,?_,r2,r3,r4⟩;have okq:=g.w.okq q mq;have sadd:=j1b (P:=Tryz.prog) 9 q.x q.y (by have:=q1s g.w okq.2.2.2.2.1;have:=q1s g.w okq.2.2.2.2.2;omega);simp only[q0D.cells,q0D.key]at x5 s2 a2 l2 j1;simp only[z2P (H:=H29),T.j77,p2,q0b,wp,dt (show (i:Int)<(st.pairs.length:Int) by omega)];simp only[j1K (H:=H29),T.a3z,p2,q1,pB,p1,nnA,q0d,x2,x5,s2,aL,a2,sadd,l2,j1]
  simp only[j1L (H:=H29),T.a3A,p2,wp,show (i:Int)+1=((i+1:Nat):Int) by omega,wrap_i64 (n:=((i+1:Nat):Int)) (by omega) (by omega)];exact r1
theorem a3m (hb:BkV m sp sq sa st) (g:q3j st) (t2:AV):∀(d i:Nat) (M:Mem) (F:List Nat),i+d=st.q0j.length->Fr m M []->q0u M b ⟨st.q0a,st.pairs,st.q0j.take i,0,st.most⟩ F->(∀c,c∈F->m.next<=c)->
  ∃M' F',D29.gor 49162 [t2,.ptr (some ⟨b,0⟩),sa,.int .i64 (st.q0j.length:Int),.int .i64 (i:Int)] M=D29.gor 49165 [t2,.ptr (some ⟨b,0⟩)] M'/\q0u M' b ⟨st.q0a,st.pairs,st.q0j,0,st.most⟩ F'/\Fr m M' []/\(∀c,c∈F'->m.next<=c):=by
 obtain⟨e,he,hs⟩:=uA;have la:=g.w.la;have am:=g.am;intro d;induction d with
 |zero=>
  intro i M F hi hM hL hF;have:i=st.q0j.length:=by omega
  subst this;rw[List.take_length]at hL;refine⟨M,F,?_,hL,hM,hF⟩;simp only[z0f (H:=H29),T.z7J,p2,q0b,wp,df (show ¬((st.q0j.length:Nat):Int)<(st.q0j.length:Int) by omega)]
 |succ d ih=>
  intro i M F hi hM hL hF;have hlt:i<st.q0j.length:=by omega
  obtain⟨bs,o,_,x2,_,_,x5⟩:=(hb.a.q0k hM).ixT he hs (i:=i) (by rw[xlm];exact hlt);rw[xgm]at x5;obtain⟨q,hq⟩:∃q,q=st.q0j[i]:=⟨_,rfl⟩;have e1:=q5U hlt;rw[<-hq]at x5 e1;obtain⟨M2,hM2⟩:∃M2,M2=M.lay (.cells q.cells false):=⟨_,rfl⟩;have f2:Fr M M2 []:=by rw[hM2];exact(Fr.refl M).lay _
  have F2:Fr m M2 []:=hM.step0 f2;have s2:stV (M.lay (.cells [.int .u64 0,.str [],.int .i64 0,.int .u64 0] false)) (.ptr (some ⟨M.next,0⟩)) (.agg q.cells) 4=some M2:=by rw[q07 (n:=4) (q0e M _) rfl rfl rfl,q03,hM2]
  have g2:M2.get M.next=some (.cells q.cells false):=by rw[hM2];exact q0e M _
  have a2:∀j:Nat,ld1 M2 (.ptr (some ⟨M.next,j⟩))=q.cells[j]?:=fun j=>q0f g2
  have l2:ldN M2 (.ptr (some ⟨M.next,0⟩)) 4=some (.agg q.cells):=q0C g2 rfl
  have hL2:=hL.q0k f2;obtain⟨tp,tq,ta,FP,FQ,FA,k1,_⟩:=hL2.ex;have aL:∀j:Nat,ld1 M2 (.ptr (some ⟨b,j⟩))=[AV.int .i64 st.most,.ptr (some ⟨tp,0⟩),.ptr (some ⟨tq,0⟩),.ptr (some ⟨ta,0⟩),.int .u64 0][j]?:=fun j=>q0f k1
  obtain⟨r,M3,F3,j1,j2,j3,j4⟩:=j6M hL2 (by rw[List.map_take];exact q9E g.w.sa _) q (by show ((st.q0j.take i).length:Int)<st.most;rw[xlt0];omega) (by rw[xlt0];omega) (by
   rw[List.map_take];have:=q7o g.w.sa (k:=i) (by rw[xlm];exact hlt);rw[xgm,<-hq]at this;exact this) k1
  simp only[e1]at j2;have F3':∀c,c∈F3->m.next<=c:=fun c hc=>by
   rcases j4 c hc with h|h
   ·exact hF c h
   ·exact xnt0 F2.next h
  obtain⟨M4,F4,r1,r2,r3,r4⟩:=ih (i+1) M3 F3 (by omega) (F2.step j3 (fun c hc=>.inr (hF c hc))) j2 F3'
  refine⟨M4,F4,?_,r2,r3,r4⟩;simp only[q1k.cells]at x5 s2 a2 l2 j1;simp only[z0f (H:=H29),T.z7J,p2,q0b,wp,dt (show (i:Int)<(st.q0j.length:Int) by omega)];simp only[z7K (H:=H29),T.j5N,p2,q1,pB,p1,nnA,q0d,x2,x5,s2,aL,a2,l2,j1];simp only[z7L (H:=H29),T.j5O,p2,wp,show (i:Int)+1=((i+1:Nat):Int) by omega,wrap_i64 (n:=((i+1:Nat):Int)) (by omega) (by omega)];exact r1
theorem j1z (hb:BkV m sp sq sa st) (ok:q2P st) (hr:q2p st=false):Res m (run E29 (.fn 12) [.agg [sp,sq,sa,.int .u64 st.latest],.int .i64 st.most] m) (.tup [.ptr none,.int .i64 1]):=by
 obtain⟨M,hM⟩:∃M,M=m.lay (.cells [sp,sq,sa,.int .u64 st.latest] false):=⟨_,rfl⟩;have f1:Fr m M []:=by rw[hM];exact(Fr.refl m).lay _
 have lB:ldN M (.ptr (some ⟨m.next,0⟩)) 4=some (.agg [sp,sq,sa,.int .u64 st.latest]):=q0C (by rw[hM];exact q0e m _) rfl
 have ri:=q9x (H:=H29) rfl hb ok M f1;rw[hr]at ri;simp only[j5b (H:=H29) rfl,T.f12,q1,p1,q0N,q0b,unA,wp,AV.cells,on1,lcs,if_true,xom,hb.p.one,hb.q.one,hb.a.one,<-hM,lB,ri,xbf];exact Res.eq f1 rfl
theorem j72 (hb:BkV m sp sq sa st) (g:q3j st):∃b m' F,run E29 (.fn 12) [.agg [sp,sq,sa,.int .u64 st.latest],.int .i64 st.most] m=some (.tup [.ptr (some ⟨b,0⟩),.int .i64 0],m')/\q0u m' b st F/\Fr m m' []/\∀c,c∈F->m.next<=c:=by
 obtain⟨M,hM⟩:∃M,M=m.lay (.cells [sp,sq,sa,.int .u64 st.latest] false):=⟨_,rfl⟩;have f1:Fr m M []:=by rw[hM];exact(Fr.refl m).lay _
 have g1:M.get m.next=some (.cells [sp,sq,sa,.int .u64 st.latest] false):=by rw[hM];exact q0e m _
 have lB:ldN M (.ptr (some ⟨m.next,0⟩)) 4=some (.agg [sp,sq,sa,.int .u64 st.latest]):=q0C g1 rfl
 have ri:=q9x (H:=H29) rfl hb (z0T g) M f1;rw[z05 g]at ri;have lM:=f1.next
 have n1:M.next=m.next+1:=by rw[hM];rfl
 obtain⟨b,M1,F1,c1,c2,c3,c4⟩:=a7d M (most:=st.most) g.mo.1 g.mo.2;have c1':=(q7g (H:=H29) (f:=38) rfl _ _).trans c1;have hbM:=hb.q0k f1;obtain⟨M2,F2,d1,d2,d3,d4⟩:=a3n (b:=b) hbM g (.ptr (some ⟨m.next,0⟩)) st.q0a.length 0 M1 F1 (by omega) c3 (by simpa using c2) c4
 obtain⟨M3,F3,e1,e2,e3,e4⟩:=a3o (b:=b) hbM g (.ptr (some ⟨m.next,0⟩)) st.pairs.length 0 M2 F2 (by omega) d3 (by simpa using d2) d4
 obtain⟨M4,F4,i1,i2,i3,i4⟩:=a3m (b:=b) hbM g (.ptr (some ⟨m.next,0⟩)) st.q0j.length 0 M3 F3 (by omega) e3 (by simpa using e2) e4
 obtain⟨eP,uP1,uP2⟩:=uP;obtain⟨eA,uA1,uA2⟩:=uA;obtain⟨eQ,uQ1,uQ2⟩:=uQ;have lp:=hb.p.q1M uP1;have lq:=hb.q.q1M uQ1;have la:=hb.a.q1M uA1;rw[xlm]at lp lq la;have aB1:∀j:Nat,ld1 M1 (.ptr (some ⟨m.next,j⟩))=[sp,sq,sa,.int .u64 st.latest][j]?:=fun j=>q0f (c3.get g1 (by simp))
 have aB2:∀j:Nat,ld1 M2 (.ptr (some ⟨m.next,j⟩))=[sp,sq,sa,.int .u64 st.latest][j]?:=fun j=>q0f (d3.get g1 (by simp))
 have aB3:∀j:Nat,ld1 M3 (.ptr (some ⟨m.next,j⟩))=[sp,sq,sa,.int .u64 st.latest][j]?:=fun j=>q0f (e3.get g1 (by simp))
 have aB4:∀j:Nat,ld1 M4 (.ptr (some ⟨m.next,j⟩))=[sp,sq,sa,.int .u64 st.latest][j]?:=fun j=>q0f (i3.get g1 (by simp))
 obtain⟨tp,tq,ta,FP,FQ,FA,k1,k2,k3,k4,k5,k6,k7,k8,k9,k10,kF⟩:=i2.ex;obtain⟨M5,hM5⟩:∃M5,M5=M4.put b (some (.cells [.int .i64 st.most,.ptr (some ⟨tp,0⟩),.ptr (some ⟨tq,0⟩),.ptr (some ⟨ta,0⟩),.int .u64 st.latest] false)):=⟨_,rfl⟩;obtain⟨z1,z2,z3,z4,z5,z6⟩:=q0u.latest (st:=⟨st.q0a,st.pairs,st.q0j,0,st.most⟩) st.latest k1 k2 k3 k4 k5 k6 k7 hM5;have bF:b∈F4:=by rw[kF];simp
 refine⟨b,M5,F4,?_,⟨tp,tq,ta,FP,FQ,FA,z3,z4,z5,z6,k5,k6,k7,k8,k9,k10,kF⟩,(f1.step0 i3).step z2 (fun c hc=>by simp only[xms]at hc;subst hc;exact .inr (by have:=i4 c bF;omega)),fun c hc=>by have:=i4 c hc;omega⟩
 simp only[Int.natCast_zero]at d1 e1 i1;simp only[j5b (H:=H29) rfl,T.f12,q1,p1,q0N,q0b,unA,wp,AV.cells,on1,lcs,if_true,xom,hb.p.one,hb.q.one,hb.a.one,<-hM,lB,ri,xbt];simp only[j1F (H:=H29),T.a3u,p1,p2,q0l,q0b,q3N,c1',decide_true,xbt];simp only[j1G (H:=H29),T.a3v,p1,q1,q0d,aB1,lp,d1];simp only[j1J (H:=H29),T.a3y,p1,q1,q0d,aB2,lq,e1]
 simp only[j1M (H:=H29),T.a3B,p1,q1,q0d,aB3,la,i1];simp only[z7M (H:=H29),T.j5P,p1,q1,nnA,q0d,aB4,z1]
end
end
section
set_option maxRecDepth 4000
open Go Go.Abs
def S30:List FuncId:=[]
def R30:List FuncId:=[12]
noncomputable def H30:FuncId->Option (List AV->Mem->R):=q33 E29 S30 R30
noncomputable abbrev E30:Env:=T.EH H30
theorem a1k:q1i E30:=q2v a1j S30 R30
noncomputable abbrev D30:Do:=T.Rl H30
theorem a7k {H:FuncId->Option (List AV->Mem->R)} {f:FuncId} (h:H f=some (run E29 (.fn f))) (xs:List AV) (m:Mem):run (T.EH H) (.fn f) xs m=run E29 (.fn f) xs m:=q00 h xs m
end
section
set_option maxRecDepth 8000
set_option maxHeartbeats 1000000
open Go Go.Abs
theorem j5a {m:Mem} {sp sq sa:AV} {st:LSt} (h:BkV m sp sq sa st) (hp:st.q0a.length*40<=q0A) (hq:st.pairs.length*88<=q0A) (ha:st.q0j.length*40<=q0A) :
  ∃tp tq ta rp rq ra m',run E30 (.fn 8) [.agg [sp,sq,sa,.int .u64 st.latest]] m=some (.agg [tp,tq,ta,.int .u64 st.latest],m')/\
   q0L 4 m' tp (st.q0a.map (·.cells)) (some rp)/\q0L 9 m' tq (st.pairs.map (·.cells)) (some rq)/\q0L 4 m' ta (st.q0j.map (·.cells)) (some ra)/\Fr m m' []/\m.next<=rp/\m.next<=rq/\m.next<=ra/\rp≠rq/\rp≠ra/\rq≠ra:=by
 obtain⟨M0,hM0⟩:∃M0,M0=m.lay (.cells [sp,sq,sa,.int .u64 st.latest] false):=⟨_,rfl⟩;obtain⟨M1,hM1⟩:∃M1,M1=M0.lay (.cells [.sl none 0 0 0 true,.sl none 0 0 0 true,.sl none 0 0 0 true,.int .u64 0] false):=⟨_,rfl⟩;obtain⟨M2,hM2⟩:∃M2,M2=M1.lay (.cells [] false):=⟨_,rfl⟩;have n0:M0.next=m.next+1:=by rw[hM0];rfl
 have n1:M1.next=m.next+2:=by rw[hM1];show M0.next+1=_;omega
 have n2:M2.next=m.next+3:=by rw[hM2];show M1.next+1=_;omega
 have f0:Fr m M0 []:=by rw[hM0];exact(Fr.refl _).lay _
 have f1:Fr M0 M1 []:=by rw[hM1];exact(Fr.refl _).lay _
 have f2:Fr M1 M2 []:=by rw[hM2];exact(Fr.refl _).lay _
 have F2:Fr m M2 []:=(f0.step0 f1).step0 f2;have g2:M2.get m.next=some (.cells [sp,sq,sa,.int .u64 st.latest] false):=(f1.step0 f2).get (by rw[hM0];exact q0e _ _) (by simp)
 have k2:M2.get (m.next+1)=some (.cells [.sl none 0 0 0 true,.sl none 0 0 0 true,.sl none 0 0 0 true,.int .u64 0] false):=f2.get (by rw[hM1,<-n0];exact q0e _ _) (by simp)
 have l2:M2.get (m.next+2)=some (.cells [] false):=by rw[hM2,<-n1];exact q0e _ _
 have v2:=h.q0k F2;have a2:∀i:Nat,ld1 M2 (.ptr (some ⟨m.next,i⟩))=[sp,sq,sa,AV.int .u64 st.latest][i]?:=fun i=>q0f g2
 obtain⟨tp,M3,rp,x3,t3,f3,r3⟩:=q2x (w:=40) (q0L.lit 4 l2) v2.p (by simpa using hp);rw[List.nil_append]at t3;have p3:=f3.next
 have o3:=t3.one;have lt3:=t3.lt;have g3:=f3.get g2 (by simp);have k3:=f3.get k2 (by simp);obtain⟨M4,hM4⟩:∃M4,M4=M3.put m.next (some (.cells [tp,sq,sa,.int .u64 st.latest] false)):=⟨_,rfl⟩
 have s4:stV M3 (.ptr (some ⟨m.next,0⟩)) tp 1=some M4:=by
  have:=q1B (v:=tp) (vs:=[tp]) (o:=0) (n:=1) g3 (q3c o3) rfl (by simp);rw[hM4];simpa using this
 have f4:Fr M3 M4 [m.next]:=by rw[hM4];exact Fr.put _ _ _
 have g4:M4.get m.next=some (.cells [tp,sq,sa,.int .u64 st.latest] false):=by rw[hM4];exact q0w g3
 have n4:M4.next=M3.next:=by rw[hM4];rfl
 have k4:=f4.get k3 (by simp);have t4:=t3.frame f4 (by rintro _ ⟨⟩;simp only[xms];omega)
 obtain⟨M5,hM5⟩:∃M5,M5=M4.lay (.cells [] false):=⟨_,rfl⟩;have f5:Fr M4 M5 []:=by rw[hM5];exact(Fr.refl _).lay _
 have n5:M5.next=M4.next+1:=by rw[hM5];rfl
 have F5:Fr m M5 []:=(((F2.step f3 (by simp)).step f4 (by simp)).step0 f5);have g5:=f5.get g4 (by simp);have k5:=f5.get k4 (by simp);have t5:=t4.frame f5 (by simp);have l5:M5.get M4.next=some (.cells [] false):=by rw[hM5];exact q0e _ _
 have v5:=h.q0k F5;have a5:∀i:Nat,ld1 M5 (.ptr (some ⟨m.next,i⟩))=[tp,sq,sa,AV.int .u64 st.latest][i]?:=fun i=>q0f g5
 obtain⟨tq,M6,rq,x6,u6,f6,r6⟩:=q2x (w:=88) (q0L.lit 9 l5) v5.q (by simpa using hq);rw[List.nil_append]at u6;have p6:=f6.next
 have o6:=u6.one;have lt6:=u6.lt;have g6:=f6.get g5 (by simp;omega);have k6:=f6.get k5 (by simp;omega);have t6:=t5.frame f6 (by rintro _ ⟨⟩;simp only[xms];omega)
 obtain⟨M7,hM7⟩:∃M7,M7=M6.put m.next (some (.cells [tp,tq,sa,.int .u64 st.latest] false)):=⟨_,rfl⟩
 have s7:stV M6 (.ptr (some ⟨m.next,1⟩)) tq 1=some M7:=by
  have:=q1B (v:=tq) (vs:=[tq]) (o:=1) (n:=1) g6 (q3c o6) rfl (by simp);rw[hM7];simpa using this
 have f7:Fr M6 M7 [m.next]:=by rw[hM7];exact Fr.put _ _ _
 have g7:M7.get m.next=some (.cells [tp,tq,sa,.int .u64 st.latest] false):=by rw[hM7];exact q0w g6
 have n7:M7.next=M6.next:=by rw[hM7];rfl
 have k7:=f7.get k6 (by simp);have t7:=t6.frame f7 (by rintro _ ⟨⟩;simp only[xms];omega)
 have u7:=u6.frame f7 (by rintro _ ⟨⟩;simp only[xms];omega)
 obtain⟨M8,hM8⟩:∃M8,M8=M7.lay (.cells [] false):=⟨_,rfl⟩;have f8:Fr M7 M8 []:=by rw[hM8];exact(Fr.refl _).lay _
 have n8:M8.next=M7.next+1:=by rw[hM8];rfl
 have F8:Fr m M8 []:=(((F5.step f6 (by simp;omega)).step f7 (by simp)).step0 f8);have g8:=f8.get g7 (by simp);have k8:=f8.get k7 (by simp);have t8:=t7.frame f8 (by simp);have u8:=u7.frame f8 (by simp);have l8:M8.get M7.next=some (.cells [] false):=by rw[hM8];exact q0e _ _
 have v8:=h.q0k F8;have a8:∀i:Nat,ld1 M8 (.ptr (some ⟨m.next,i⟩))=[tp,tq,sa,AV.int .u64 st.latest][i]?:=fun i=>q0f g8
 obtain⟨ta,M9,ra,x9,w9,f9,r9⟩:=q2x (w:=40) (q0L.lit 4 l8) v8.a (by simpa using ha);rw[List.nil_append]at w9;have p9:=f9.next
 have o9:=w9.one;have lt9:=w9.lt;have g9:=f9.get g8 (by simp;omega);have k9:=f9.get k8 (by simp;omega);have t9:=t8.frame f9 (by rintro _ ⟨⟩;simp only[xms];omega)
 have u9:=u8.frame f9 (by rintro _ ⟨⟩;simp only[xms];omega)
 obtain⟨M10,hM10⟩:∃M10,M10=M9.put m.next (some (.cells [tp,tq,ta,.int .u64 st.latest] false)):=⟨_,rfl⟩
 have s10:stV M9 (.ptr (some ⟨m.next,2⟩)) ta 1=some M10:=by
  have:=q1B (v:=ta) (vs:=[ta]) (o:=2) (n:=1) g9 (q3c o9) rfl (by simp);rw[hM10];simpa using this
 have f10:Fr M9 M10 [m.next]:=by rw[hM10];exact Fr.put _ _ _
 have g10:M10.get m.next=some (.cells [tp,tq,ta,.int .u64 st.latest] false):=by rw[hM10];exact q0w g9
 have k10:=f10.get k9 (by simp);have t10:=t9.frame f10 (by rintro _ ⟨⟩;simp only[xms];omega)
 have u10:=u9.frame f10 (by rintro _ ⟨⟩;simp only[xms];omega)
 have w10:=w9.frame f10 (by rintro _ ⟨⟩;simp only[xms];omega)
 have ones:[tp,tq,ta,AV.int .u64 st.latest].all AV.one=true:=by
  simp only[List.all_cons,List.all_nil,o3,o6,o9,on1,Bool.and_true]
 have l10:ldN M10 (.ptr (some ⟨m.next,0⟩)) 4=some (.agg [tp,tq,ta,.int .u64 st.latest]):=q0C g10 rfl
 obtain⟨M11,hM11⟩:∃M11,M11=M10.put (m.next+1) (some (.cells [tp,tq,ta,.int .u64 st.latest] false)):=⟨_,rfl⟩
 have s11:stV M10 (.ptr (some ⟨m.next+1,0⟩)) (.agg [tp,tq,ta,.int .u64 st.latest]) 4=some M11:=by rw[q07 (n:=4) k10 rfl rfl ones,hM11]
 have f11:Fr M10 M11 [m.next+1]:=by rw[hM11];exact Fr.put _ _ _
 have k11:M11.get (m.next+1)=some (.cells [tp,tq,ta,.int .u64 st.latest] false):=by rw[hM11];exact q0w k10
 have l11:ldN M11 (.ptr (some ⟨m.next+1,0⟩)) 4=some (.agg [tp,tq,ta,.int .u64 st.latest]):=q0C k11 rfl
 have t11:=t10.frame f11 (by rintro _ ⟨⟩;simp only[xms];omega)
 have u11:=u10.frame f11 (by rintro _ ⟨⟩;simp only[xms];omega)
 have w11:=w10.frame f11 (by rintro _ ⟨⟩;simp only[xms];omega)
 have F11:Fr m M11 []:=((F8.step f9 (by simp;omega)).step f10 (by simp)).step f11 (by simp);refine⟨tp,tq,ta,rp,rq,ra,M11,?_,t11,u11,w11,F11,by omega,by omega,by omega,by omega,by omega,by omega⟩;simp only[a8i (H:=H30) rfl,T.f8,pB,sB,p1,q1,apE,q0N,q0S,q0V,q0d,AV.cells,on1,lcs,ge,if_true,xom,Mem.q0q,h.p.one,h.q.one,h.a.one,<-hM0,<-hM1,<-hM2,a2,x3,s4,<-hM5,a5,x6,s7,<-hM8,a8,x9,s10,l10,s11,l11]
theorem j65 {m:Mem} {sp sq sa:AV} {st:LSt} (h:BkV m sp sq sa st) (w:LWf st) :
  ∃tp tq ta rp rq ra m',run E30 (.fn 8) [.agg [sp,sq,sa,.int .u64 st.latest]] m=some (.agg [tp,tq,ta,.int .u64 st.latest],m')/\
   q0L 4 m' tp (st.q0a.map (·.cells)) (some rp)/\q0L 9 m' tq (st.pairs.map (·.cells)) (some rq)/\q0L 4 m' ta (st.q0j.map (·.cells)) (some ra)/\Fr m m' []/\m.next<=rp/\m.next<=rq/\m.next<=ra/\rp≠rq/\rp≠ra/\rq≠ra:=
 j5a h (q04 (by have:=w.lp;omega) (by decide)) (q04 (by have:=w.lq;omega) (by decide)) (q04 (by have:=w.la;omega) (by decide))
end
end Go.Proofs.YtlginbmjiecglaaGreatDoor
namespace Go.Abs
section
open Go
structure a00 where
 what:Int
 a:Int
 b:Int
 x:List UInt8
 y:List UInt8
 d:Wd
 sc:Int
 n:Int
 near:Bool
 fits:Bool
def a00.cells (t:a00):List AV:=[.int .i64 t.what,.int .u64 t.a,.int .u64 t.b,.str t.x,.str t.y,.int .i64 t.d.hi,.int .u64 t.d.lo,.int .i64 t.sc,.int .i64 t.n,.bool t.near,.bool t.fits]
structure a00.ok (t:a00):Prop where
 w:-9223372036854775808<=t.what/\t.what<9223372036854775808
 a:0<=t.a/\t.a<18446744073709551616
 b:0<=t.b/\t.b<18446744073709551616
 x:t.x.length<=140737488355328
 y:t.y.length<=140737488355328
 d:t.d.ok
 n:-9223372036854775808<=t.n/\t.n<9223372036854775808
structure Both (m:Mem) (lb rb:Nat) (st:LSt) (F G:List Nat):Prop where
 l:q0u m lb st F
 r:q0G m rb st G
 dj:Dj F G
 inv:q3j st
section
variable {m m1 m2:Mem} {lb rb:Nat} {st st1:LSt} {F G F1 G1:List Nat}
theorem Both.q0k (h:Both m lb rb st F G) (hf:Fr m m1 []):Both m1 lb rb st F G:=⟨h.l.q0k hf,h.r.q0k hf,h.dj,h.inv⟩
theorem Both.next (h:Both m lb rb st F G) (L:q0u m1 lb st1 F1) (f1:Fr m m1 F) (i1:∀c,c∈F1->c∈F\/m.next<=c) (R:q0G m2 rb st1 G1) (f2:Fr m1 m2 G) (i2:∀c,c∈G1->c∈G\/m1.next<=c) (g:q3j st1) :
  Both m2 lb rb st1 F1 G1/\Fr m m2 (F++G)/\∀c,c∈F1++G1->c∈F++G\/m.next<=c:=by
 have d1:Dj F1 G:=h.dj.step i1 h.r.lt;have d2:Dj G1 F1:=d1.symm.step i2 L.lt;refine⟨⟨L.frame f2 d1,R,d2.symm,g⟩,(f1.mono fun c hc _=>List.mem_append_left _ hc).step f2 fun c hc=>.inl (List.mem_append_right _ hc),fun c hc=>?_⟩
 have:=f1.next
 rcases xma.1 hc with hc|hc
 ·rcases i1 c hc with e|e
  ·exact .inl (List.mem_append_left _ e)
  ·exact .inr e
 ·rcases i2 c hc with e|e
  ·exact .inl (List.mem_append_right _ e)
  ·exact .inr (by omega)
end
def a7K (st:LSt) (e:Int) (s:LSt):Prop:=s.most=st.most/\(e≠0->s=st)
theorem a7K.no (st:LSt) (e:Int):a7K st e st:=⟨rfl,fun _=>rfl⟩
theorem a7K.ok {st s:LSt} (h:s.most=st.most):a7K st 0 s:=⟨h,fun h=>absurd rfl h⟩
end
end Go.Abs
namespace Go.Proofs.YtlginbmjiecglaaGreatDoor
section
set_option maxRecDepth 16000
set_option maxHeartbeats 2000000
open Go Go.Abs
def z6x:List AV:=[.str z9T,.str z9U,.str z9V,.str [101,117,114]]
theorem j1j {M:Mem} {ro:Bool} (hc:M.get 0=some (.cells z6x ro)) {i:Int} (h0:0<=i) (h1:i<4):∃s j,ixA 1 4 ⟨0,0⟩ i=some (.ptr (some ⟨0,j⟩))/\ld1 M (.ptr (some ⟨0,j⟩))=some (.str s)/\s.length<=140737488355328:=by
 have:i=0\/i=1\/i=2\/i=3:=by omega
 rcases this with rfl|rfl|rfl|rfl
 ·exact⟨_,0,by simp[ixA],(q0f hc).trans rfl,by decide⟩
 ·exact⟨_,1,by simp[ixA],(q0f hc).trans rfl,by decide⟩
 ·exact⟨_,2,by simp[ixA],(q0f hc).trans rfl,by decide⟩
 ·exact⟨_,3,by simp[ixA],(q0f hc).trans rfl,by decide⟩
section
variable {M:Mem} {B R:Nat} {t:a00}
end
end
section
set_option maxRecDepth 8000
set_option maxHeartbeats 1000000
open Go Go.Abs
theorem q6w {t:Int} {n:Nat} (h:near t n) (hn:n<=4000000000000000001):t.natAbs<4294967296 ^ 15:=by
 obtain⟨h1,h2⟩:=h;have:t.natAbs<784637716923335095479473677900958302012794430558004314112:=by omega
 exact Nat.lt_trans this (by decide)
theorem q4G (t:Int):(q1w t).length=17:=by simp[q1w,q1r]
theorem z6l (t:Int):(q1w t).all AV.one=true:=by simp[q1w,AV.one,q3l]
theorem z1z {M:Mem} {c:Nat} {t:Int} (h:M.get c=some (.cells (q1w t) false)) (t':Int):∃M',stV M (.ptr (some ⟨c,0⟩)) (.agg (q1w t')) 17=some M'/\M'.get c=some (.cells (q1w t') false)/\Fr M M' [c]:=
 ⟨_,q07 (n:=17) h (q4G _) (q4G _) (z6l _),q0w h,Fr.put _ _ _⟩
section
variable {m m1:Mem} {sp sq sa:AV} {st:LSt} {bb c:Nat} {n:List UInt8}
theorem a0u (h1:m.get bb=some (.cells [sp,sq,sa,.int .u64 st.latest] false)) (hb:BkV m sp sq sa st) (ok:q2P st) (f01:Fr m m1 []) (hcm:m1.next<=c) (t3:AV):∀(d i:Nat) (M:Mem) (t:Int),i+d=st.q0j.length->Fr m1 M []->M.get c=some (.cells (q1w t) false)->near t (i+1)->
  ∃M',D30.gor 102402 [.ptr (some ⟨bb,0⟩),t3,.str n,.ptr (some ⟨c,0⟩),.int .i64 (i:Int)] M=D30.gor 102405 [.ptr (some ⟨bb,0⟩),t3,.str n,.ptr (some ⟨c,0⟩)] M'/\M'.get c=some (.cells (q1w (t+sA n (st.q0j.drop i))) false)/\near (t+sA n (st.q0j.drop i)) (st.q0j.length+1)/\Fr m1 M' []:=by
 obtain⟨e,he,hs⟩:=uA;have hn:=ok.small.2.2;intro d;induction d with
 |zero=>
  intro i M t hi fM1 hc hn';have fM:=f01.step0 fM1;have:i=st.q0j.length:=by omega
  subst this;have l1:=(hb.a.q0k fM).q1M he;rw[xlm]at l1;have b1:∀i:Nat,ld1 M (.ptr (some ⟨bb,i⟩))=[sp,sq,sa,AV.int .u64 st.latest][i]?:=fun i=>q0f (fM.get h1 (by simp))
  rw[List.drop_length,show sA n []=0 from rfl,Int.add_zero];refine⟨M,?_,hc,hn',fM1⟩;simp only[q8K (H:=H30),T.j2f,p1,q1,p2,q0b,q0d,b1,l1,df (show ¬((st.q0j.length:Nat):Int)<(st.q0j.length:Int) by omega)]
 |succ d ih=>
  intro i M t hi fM1 hc hn';have fM:=f01.step0 fM1;have hlt:i<st.q0j.length:=by omega
  have l1:=(hb.a.q0k fM).q1M he;rw[xlm]at l1;have b1:∀i:Nat,ld1 M (.ptr (some ⟨bb,i⟩))=[sp,sq,sa,AV.int .u64 st.latest][i]?:=fun i=>q0f (fM.get h1 (by simp))
  obtain⟨bs,o,_,x2,x3,x4,_⟩:=(hb.a.q0k fM).ixT he hs (i:=i) (by rw[xlm];exact hlt);have x3:=x3 1 (by omega);have x4:=x4 2 2 (by omega);rw[xgm]at x3 x4;obtain⟨a,ha⟩:∃a,a=st.q0j[i]:=⟨_,rfl⟩;have oka:=(ok.a a (by rw[ha];exact List.getElem_mem hlt)).1;have hsum:sA n (st.q0j.drop i)=(if a.q1C=n then a.bal.val else 0)+sA n (st.q0j.drop (i+1)):=by
   rw[List.drop_eq_getElem_cons hlt,ha];rfl
  rw[<-ha]at x3 x4;have x4:ldN M (.ptr (some ⟨bs,o+2⟩)) 2=some (.agg a.bal.cells):=x4;have lc:ldN M (.ptr (some ⟨c,0⟩)) 17=some (.agg (q1w t)):=q0C hc (q4G t);have nx:∀M,D30.gor 102404 [.ptr (some ⟨bb,0⟩),t3,.str n,.ptr (some ⟨c,0⟩),.int .i64 (i:Int)] M=D30.gor 102402 [.ptr (some ⟨bb,0⟩),t3,.str n,.ptr (some ⟨c,0⟩),.int .i64 ((i+1:Nat):Int)] M:=fun M=>by
   simp only[j2g (H:=H30),T.a3X,p2,wp,show (i:Int)+1=((i+1:Nat):Int) by omega,wrap_i64 (n:=((i+1:Nat):Int)) (by omega) (by omega)]
  simp only[ge,q1k.cells]at x3;simp only[Wd.cells]at x4;rw[hsum];by_cases h:a.q1C=n
  ·rw[if_pos h];obtain⟨M2,s2,c2,f2⟩:=z1z hc (t+a.bal.val);have ro:=fun M=>q3M (H:=H30) rfl oka M
   have rs:=fun M=>q5R (H:=H30) rfl (q6w hn' (by omega)) (q2L oka) M
   simp only[Wd.cells]at ro;obtain⟨M4,r1,r2,r3,r4⟩:=ih (i+1) M2 (t+a.bal.val) (by omega) (fM1.step f2 (fun c' hc'=>by simp only[xms]at hc';subst hc';exact .inr hcm)) c2 (hn'.add oka)
   refine⟨M4,?_,by rw[<-Int.add_assoc];exact r2,by rw[<-Int.add_assoc];exact r3,r4⟩;simp only[q8K (H:=H30),T.j2f,p1,q1,p2,q0b,q0d,b1,l1,dt (show (i:Int)<(st.q0j.length:Int) by omega)];simp only[z3b (H:=H30),T.j8g,p1,q1,p2,q0b,q0d,b1,x2,x3,dt h,lc,x4,ro,if_true,rs,s2,nx];exact r1
  ·rw[if_neg h,Int.zero_add];obtain⟨M4,r1,r2,r3,r4⟩:=ih (i+1) M t (by omega) fM1 hc (hn'.up (by omega));refine⟨M4,?_,r2,r3,r4⟩;simp only[q8K (H:=H30),T.j2f,p1,q1,p2,q0b,q0d,b1,l1,dt (show (i:Int)<(st.q0j.length:Int) by omega)];simp only[z3b (H:=H30),T.j8g,p1,q1,p2,q0b,q0d,b1,x2,x3,df h,nx];exact r1
theorem j4J (h1:m.get bb=some (.cells [sp,sq,sa,.int .u64 st.latest] false)) (hb:BkV m sp sq sa st) (ok:q2P st) (f01:Fr m m1 []) (hcm:m1.next<=c) (t3:AV) (n0:Nat) (hn0:n0<=1000000000000000001):∀(d i:Nat) (M:Mem) (t:Int),i+d=st.pairs.length->Fr m1 M []->M.get c=some (.cells (q1w t) false)->near t (n0+2*i)->
  ∃M',D30.gor 102406 [.ptr (some ⟨bb,0⟩),t3,.str n,.ptr (some ⟨c,0⟩),.int .i64 (i:Int)] M=D30.gor 102410 [.ptr (some ⟨bb,0⟩),t3,.ptr (some ⟨c,0⟩)] M'/\M'.get c=some (.cells (q1w (t+sQ n (st.pairs.drop i))) false)/\near (t+sQ n (st.pairs.drop i)) (n0+2*st.pairs.length)/\Fr m1 M' []:=by
 obtain⟨e,he,hs⟩:=uQ;have hn:=ok.small.2.1;intro d;induction d with
 |zero=>
  intro i M t hi fM1 hc hn';have fM:=f01.step0 fM1;have:i=st.pairs.length:=by omega
  subst this;have l1:=(hb.q.q0k fM).q1M he;rw[xlm]at l1;have b1:∀i:Nat,ld1 M (.ptr (some ⟨bb,i⟩))=[sp,sq,sa,AV.int .u64 st.latest][i]?:=fun i=>q0f (fM.get h1 (by simp))
  rw[List.drop_length,show sQ n []=0 from rfl,Int.add_zero];refine⟨M,?_,hc,hn',fM1⟩;simp only[q8L (H:=H30),T.j2i,p1,q1,p2,q0b,q0d,b1,l1,df (show ¬((st.pairs.length:Nat):Int)<(st.pairs.length:Int) by omega)]
 |succ d ih=>
  intro i M t hi fM1 hc hn';have fM:=f01.step0 fM1;have hlt:i<st.pairs.length:=by omega
  obtain⟨a,ha⟩:∃a,a=st.pairs[i]:=⟨_,rfl⟩;have oka:=ok.q a (by rw[ha];exact List.getElem_mem hlt);have hsum:sQ n (st.pairs.drop i)=((if a.x=n then a.inx.val else 0)+(if a.y=n then a.q1H.val else 0))+sQ n (st.pairs.drop (i+1)):=by
   rw[List.drop_eq_getElem_cons hlt,ha];rfl
  have at_:∀M,Fr m M []->(∀i:Nat,ld1 M (.ptr (some ⟨bb,i⟩))=[sp,sq,sa,AV.int .u64 st.latest][i]?)/\q1M Tryz.prog 24 sq=some (.int .i64 (st.pairs.length:Int))/\∃bs o,(∀k:IntKind,q0F Tryz.prog 24 sq (.int k (i:Int))=some (.ptr (some ⟨bs,o⟩)))/\
    ld1 M (.ptr (some ⟨bs,o⟩))=some (.str a.x)/\ld1 M (.ptr (some ⟨bs,o+1⟩))=some (.str a.y)/\ldN M (.ptr (some ⟨bs,o+5⟩)) 2=some (.agg [.int .i64 a.inx.hi,.int .u64 a.inx.lo])/\ldN M (.ptr (some ⟨bs,o+7⟩)) 2=some (.agg [.int .i64 a.q1H.hi,.int .u64 a.q1H.lo]):=fun M fM=>by
   have l1:=(hb.q.q0k fM).q1M he;rw[xlm]at l1;obtain⟨bs,o,_,x2,x3,x4,_⟩:=(hb.q.q0k fM).ixT he hs (i:=i) (by rw[xlm];exact hlt);have y0:=x3 0 (by omega);have y1:=x3 1 (by omega);have y5:=x4 5 2 (by omega);have y7:=x4 7 2 (by omega);rw[xgm,<-ha]at y0 y1 y5 y7;exact⟨fun i=>q0f (fM.get h1 (by simp)),l1,bs,o,x2,y0,y1,y5,y7⟩
  have nx:∀M,D30.gor 102409 [.ptr (some ⟨bb,0⟩),t3,.str n,.ptr (some ⟨c,0⟩),.int .i64 (i:Int)] M=D30.gor 102406 [.ptr (some ⟨bb,0⟩),t3,.str n,.ptr (some ⟨c,0⟩),.int .i64 ((i+1:Nat):Int)] M:=fun M=>by
   simp only[j2j (H:=H30),T.a3Z,p2,wp,show (i:Int)+1=((i+1:Nat):Int) by omega,wrap_i64 (n:=((i+1:Nat):Int)) (by omega) (by omega)]
  have half:∀(M:Mem) (t:Int),Fr m1 M []->M.get c=some (.cells (q1w t) false)->near t (n0+2*i+1)->
    ∃M',D30.gor 102408 [.ptr (some ⟨bb,0⟩),t3,.str n,.ptr (some ⟨c,0⟩),.int .i64 (i:Int)] M=D30.gor 102410 [.ptr (some ⟨bb,0⟩),t3,.ptr (some ⟨c,0⟩)] M'/\M'.get c=some (.cells (q1w (t+(if a.y=n then a.q1H.val else 0)+sQ n (st.pairs.drop (i+1)))) false)/\near (t+(if a.y=n then a.q1H.val else 0)+sQ n (st.pairs.drop (i+1))) (n0+2*st.pairs.length)/\Fr m1 M' []:=by
   intro M t fM1 hc hn';have fM:=f01.step0 fM1;obtain⟨b1,l1,bs,o,x2,y0,y1,y5,y7⟩:=at_ M fM;have lc:ldN M (.ptr (some ⟨c,0⟩)) 17=some (.agg (q1w t)):=q0C hc (q4G t);by_cases h:a.y=n
   ·rw[if_pos h];obtain⟨M2,s2,c2,f2⟩:=z1z hc (t+a.q1H.val);have ro:=fun M=>q3M (H:=H30) rfl oka.2.2.1 M
    have rs:=fun M=>q5R (H:=H30) rfl (q6w hn' (by omega)) (q2L oka.2.2.1) M
    simp only[Wd.cells]at ro;obtain⟨M4,r1,r2,r3,r4⟩:=ih (i+1) M2 (t+a.q1H.val) (by omega) (fM1.step f2 (fun c' hc'=>by simp only[xms]at hc';subst hc';exact .inr hcm)) c2 ((hn'.add oka.2.2.1).up (by omega))
    refine⟨M4,?_,r2,r3,r4⟩;simp only[z3d (H:=H30),T.j8i,p1,q1,p2,q0b,q0d,b1,x2,y1,dt h,lc,y7,ro,if_true,rs,s2,nx];exact r1
   ·rw[if_neg h,Int.add_zero];obtain⟨M4,r1,r2,r3,r4⟩:=ih (i+1) M t (by omega) fM1 hc (hn'.up (by omega));refine⟨M4,?_,r2,r3,r4⟩;simp only[z3d (H:=H30),T.j8i,p1,q1,p2,q0b,q0d,b1,x2,y1,df h,nx];exact r1
  obtain⟨b1,l1,bs,o,x2,y0,y1,y5,y7⟩:=at_ M fM;have lc:ldN M (.ptr (some ⟨c,0⟩)) 17=some (.agg (q1w t)):=q0C hc (q4G t);rw[hsum];by_cases h:a.x=n
  ·rw[if_pos h];obtain⟨M2,s2,c2,f2⟩:=z1z hc (t+a.inx.val);have ro:=fun M=>q3M (H:=H30) rfl oka.2.1 M
   have rs:=fun M=>q5R (H:=H30) rfl (q6w hn' (by omega)) (q2L oka.2.1) M
   simp only[Wd.cells]at ro;obtain⟨M4,r1,r2,r3,r4⟩:=half M2 (t+a.inx.val) (fM1.step f2 (fun c' hc'=>by simp only[xms]at hc';subst hc';exact .inr hcm)) c2 (hn'.add oka.2.1)
   have e9:t+a.inx.val+(if a.y=n then a.q1H.val else 0)+sQ n (st.pairs.drop (i+1))=t+(a.inx.val+(if a.y=n then a.q1H.val else 0)+sQ n (st.pairs.drop (i+1))):=by omega
   rw[e9]at r2 r3;refine⟨M4,?_,r2,r3,r4⟩;simp only[q8L (H:=H30),T.j2i,p1,q1,p2,q0b,q0d,b1,l1,dt (show (i:Int)<(st.pairs.length:Int) by omega)];simp only[z3c (H:=H30),T.j8h,p1,q1,p2,q0b,q0d,b1,x2,y0,dt h,lc,y5,ro,if_true,rs,s2];exact r1
  ·rw[if_neg h,Int.zero_add];obtain⟨M4,r1,r2,r3,r4⟩:=half M t fM1 hc (hn'.up (by omega));rw[Int.add_assoc]at r2 r3;refine⟨M4,?_,r2,r3,r4⟩;simp only[q8L (H:=H30),T.j2i,p1,q1,p2,q0b,q0d,b1,l1,dt (show (i:Int)<(st.pairs.length:Int) by omega)];simp only[z3c (H:=H30),T.j8h,p1,q1,p2,q0b,q0d,b1,x2,y0,df h];exact r1
theorem a0v (h1:m.get bb=some (.cells [sp,sq,sa,.int .u64 st.latest] false)) (hb:BkV m sp sq sa st) (ok:q2P st):∀(d i:Nat) (M:Mem),i+d=st.q0a.length->Fr m M []->
  Res M (D30.gor 102400 [.ptr (some ⟨bb,0⟩),.int .i64 (i:Int)] M) (.bool (q2n (q7D st) d i)):=by
 obtain⟨e,he,hs⟩:=uP;obtain⟨sm0,sm1,sm2⟩:q8a st:=ok.small;intro d;induction d with
 |zero=>
  intro i M hi fM;have:i=st.q0a.length:=by omega
  subst this;have l1:=(hb.p.q0k fM).q1M he;rw[xlm]at l1;have b1:∀i:Nat,ld1 M (.ptr (some ⟨bb,i⟩))=[sp,sq,sa,AV.int .u64 st.latest][i]?:=fun i=>q0f (fM.get h1 (by simp))
  simp only[z3a (H:=H30),T.j8f,p1,q1,p2,q0b,q0d,b1,l1,df (show ¬((st.q0a.length:Nat):Int)<(st.q0a.length:Int) by omega),z8N (H:=H30),T.j6o,wp];exact Res.eq (Fr.refl _) rfl
 |succ d ih=>
  intro i M hi fM;have hlt:i<st.q0a.length:=by omega
  have l1:=(hb.p.q0k fM).q1M he;rw[xlm]at l1;have b1:∀i:Nat,ld1 M (.ptr (some ⟨bb,i⟩))=[sp,sq,sa,AV.int .u64 st.latest][i]?:=fun i=>q0f (fM.get h1 (by simp))
  obtain⟨bs,o,_,x2,x3,x4,_⟩:=(hb.p.q0k fM).ixT he hs (i:=i) (by rw[xlm];exact hlt);have x3:=x3 0 (by omega);have x4:=x4 2 2 (by omega);rw[xgm]at x3 x4;obtain⟨q,hq⟩:∃q,q=st.q0a[i]:=⟨_,rfl⟩;have mq:q∈st.q0a:=by rw[hq];exact List.getElem_mem hlt
  have okq:=(ok.p q mq).1;rw[<-hq]at x3 x4;have x3:ld1 M (.ptr (some ⟨bs,o⟩))=some (.str q.name):=x3;have x4:ldN M (.ptr (some ⟨bs,o+2⟩)) 2=some (.agg [.int .i64 q.out.hi,.int .u64 q.out.lo]):=x4;have hok:q7D st i=decide (z2q st.pairs st.q0j q=0):=by unfold q7D;rw[xgq hlt,<-hq]
  obtain⟨M2,hM2⟩:∃M2,M2=M.lay (.cells (q1w q.out.val) false):=⟨_,rfl⟩;have f2:Fr M M2 []:=by rw[hM2];exact(Fr.refl M).lay _
  have s2:stV (M.lay (.cells [.bool false,.int .u64 0,.int .u64 0,.int .u64 0,.int .u64 0,.int .u64 0,.int .u64 0,.int .u64 0,.int .u64 0,.int .u64 0,.int .u64 0,.int .u64 0,.int .u64 0,.int .u64 0,.int .u64 0,.int .u64 0,.int .u64 0] false)) (.ptr (some ⟨M.next,0⟩)) (.agg (q1w q.out.val)) 17=some M2:=by
   rw[q07 (n:=17) (q0e M _) rfl (q4G _) (z6l _),q03,hM2]
  have c2:M2.get M.next=some (.cells (q1w q.out.val) false):=by rw[hM2];exact q0e M _
  have nM:=fM.next
  have n0:near q.out.val 1:=by
   have h0:near 0 0:=by unfold near;omega
   have:=h0.add okq
   rwa [Int.zero_add]at this
  have ro:=fun M=>q3M (H:=H30) rfl okq M
  simp only[Wd.cells]at ro;obtain⟨M3,r1,r2,r3,r4⟩:=a0u (n:=q.name) h1 hb ok fM (xnr M.next) (.int .i64 (i:Int)) st.q0j.length 0 M2 _ (by omega) f2 c2 n0
  rw[List.drop_zero]at r2 r3;obtain⟨M4,q1,q2,q3,q4⟩:=j4J (n:=q.name) h1 hb ok fM (xnr M.next) (.int .i64 (i:Int)) (st.q0j.length+1) (by omega) st.pairs.length 0 M3 _ (by omega) r4 r2 r3
  rw[List.drop_zero]at q2 q3;obtain⟨tt,htt⟩:∃tt,tt=q.out.val+sA q.name st.q0j+sQ q.name st.pairs:=⟨_,rfl⟩;rw[<-htt]at q2 q3;have hsp:decide (z2q st.pairs st.q0j q=0)=decide (tt.natAbs=0):=decide_eq_decide.mpr (by unfold z2q;omega);have l16:ldN M4 (.ptr (some ⟨M.next,1⟩)) 16=some (.agg (D16 tt.natAbs)):=by
   rw[q1a q2 (by rw[q4G];omega)];show some (AV.agg ((D16 tt.natAbs).take 16))=_;rw[xtl (by rw[q1r];exact xnr _)]
  have rz:=q4s (H:=H30) rfl (q21 (q6w q3 (by omega)) (by omega)) M4;simp only[Int.natCast_zero]at r1 q1;have go1:D30.gor 102400 [.ptr (some ⟨bb,0⟩),.int .i64 (i:Int)] M=D30.gor 102410 [.ptr (some ⟨bb,0⟩),.int .i64 (i:Int),.ptr (some ⟨M.next,0⟩)] M4:=by
   simp only[z3a (H:=H30),T.j8f,p1,p2,q0b,q0d,b1,l1,dt (show (i:Int)<(st.q0a.length:Int) by omega)];simp only[j2e (H:=H30),T.a3W,p1,p2,pB,q0d,b1,x2,x3,x4,ro,s2,r1];simp only[j2h (H:=H30),T.a3Y,wp,q1]
  rw[go1,q2n,hok,hsp];cases hv:decide (tt.natAbs=0) with
  |false=>
   rw[hv]at rz;simp only[z0A (H:=H30),T.z8L,p1,q0b,unA,q0d,l16,rz,xbf,Bool.false_and];exact Res.eq q4 rfl
  |true=>
   rw[hv]at rz;simp only[z0A (H:=H30),T.z8L,p1,q0b,unA,q0d,l16,rz,xbt,Bool.true_and];simp only[z8M (H:=H30),T.j6n,p2,wp,show (i:Int)+1=((i+1:Nat):Int) by omega,wrap_i64 (n:=((i+1:Nat):Int)) (by omega) (by omega)];exact(ih (i+1) M4 (by omega) (fM.step0 q4)).step q4
theorem j4L (hb:BkV m sp sq sa st) (ok:q2P st):Res m (run E30 (.fn 25) [.agg [sp,sq,sa,.int .u64 st.latest]] m) (.bool (q2n (q7D st) st.q0a.length 0)):=by
 obtain⟨M,hM⟩:∃M,M=m.lay (.cells [sp,sq,sa,.int .u64 st.latest] false):=⟨_,rfl⟩;have f1:Fr m M []:=by rw[hM];exact(Fr.refl m).lay _
 have g1:M.get m.next=some (.cells [sp,sq,sa,.int .u64 st.latest] false):=by rw[hM];exact q0e m _
 have lo:=a0v g1 (hb.q0k f1) ok st.q0a.length 0 M (by omega) (Fr.refl _);simp only[Int.natCast_zero]at lo;simp only[a1K (H:=H30) rfl,T.f25,q0N,wp,AV.cells,on1,lcs,if_true,xom,hb.p.one,hb.q.one,hb.a.one,<-hM];exact lo.step f1
end
end
end Go.Proofs.YtlginbmjiecglaaGreatDoor
