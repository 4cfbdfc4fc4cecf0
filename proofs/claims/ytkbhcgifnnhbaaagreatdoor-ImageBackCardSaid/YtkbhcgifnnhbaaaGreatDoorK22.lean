/- Texts of one claim, put together. -/
import Derived.Test.YtkbhcgifnnhbaaaGreatDoorK21
namespace Go.Proofs.YtkbhcgifnnhbaaaGreatDoor
set_option maxRecDepth 4000
open Go Go.Abs
section
theorem b9z:∃e,TP.underlying 22=some (.slice e)/\szT TP e=some 4:=⟨127,by kernel_rfl,by kernel_rfl⟩
theorem j0U {m0:Mem} {sl t4:AV} {acts:List (Int×Int×Int×Int)} (hv:j1G 4 m0 sl (acts.map a8j)) (hN:∀a∈acts,i64 a.2.2.2) (hco:∃ro,m0.get 0=some (.cells j0M ro)) {b:Nat}:∀(d i:Nat) (M:Mem) (st:LSt) (F:List Nat),i+d=60->Fr m0 M []->q0I M b st F->q5S st->(∀c,c∈F->m0.next<=c)->
  ∃M' st' F',D26.gor 57344 [sl,t4,.ptr (some ⟨b,0⟩),.int .i64 (i:Int)] M=D26.gor 57347 [t4,.ptr (some ⟨b,0⟩)] M'/\q0I M' b st' F'/\q5S st'/\st'.most=st.most/\Fr m0 M' []/\∀c,c∈F'->m0.next<=c:=by
 obtain⟨e,he,hs⟩:=b9z;have hlen:=hv.q2e he;rw[xlm]at hlen;intro d;induction d with
 |zero=>
  intro i M st F hi fM hR g hF;have:i=60:=by omega
  refine⟨M,st,F,?_,hR,g,rfl,fM,hF⟩;have c2:decide ((i:Int)<60)=false:=df (by omega);by_cases h:(i:Int)<(acts.length:Int)
  ·simp only[q8c (H:=H26),j0r,p1,p2,q0b,ifV,q0r,hlen,dt h,c2]
  ·simp only[q8c (H:=H26),j0r,p1,p2,q0b,ifV,q0r,hlen,df h]
 |succ d ih=>
  intro i M st F hi fM hR g hF;by_cases h:i<acts.length
  ·obtain⟨bs,o,_,x2,_,_,x5⟩:=(hv.q0m fM).ixT he hs (i:=i) (by rw[xlm];exact h);rw[xgm]at x5;obtain⟨ro,hco'⟩:=hco;obtain⟨M3,st',F',e1,e2,e3,e4,e5,e6⟩:=j0H hR g (sl:=sl) (t4:=t4) ⟨ro,fM.get hco' (by simp)⟩ (x2 .i64) x5 (hN _ (xAf h));have f3:Fr m0 M3 []:=fM.step e5 (fun c hc=>.inr (hF c hc))
   obtain⟨M4,st4,F4,r1,r2,r3,r4,r5,r6⟩:=ih (i+1) M3 st' F' (by omega) f3 e2 e3 (fun c hc=>by rcases e6 c hc with h|h;exact hF c h;exact xnt0 fM.next h)
   refine⟨M4,st4,F4,?_,r2,r3,r4.trans e4,r5,r6⟩;simp only[q8c (H:=H26),j0r,p1,p2,q0b,ifV,q0r,hlen,dt (show (i:Int)<(acts.length:Int) by omega),dt (show (i:Int)<60 by omega)];rw[e1];simp only[a2d (H:=H26),a6X,p2,q0r,show (i:Int)+1=((i+1:Nat):Int) by omega,wrap_i64 (n:=((i+1:Nat):Int)) (by omega) (by omega)];exact r1
  ·refine⟨M,st,F,?_,hR,g,rfl,fM,hF⟩;simp only[q8c (H:=H26),j0r,p1,p2,q0b,ifV,q0r,hlen,df (show ¬(i:Int)<(acts.length:Int) by omega)]
structure BkN (n:Nat) (m:Mem) (sp sq sa:AV) (st:LSt):Prop where
 ex:∃rp rq ra,q08 4 m sp (st.q0d.map (·.cells)) rp/\q08 9 m sq (st.pairs.map (·.cells)) rq/\q08 4 m sa (st.q0s.map (·.cells)) ra/\Dj rp.toList rq.toList/\Dj rp.toList ra.toList/\Dj rq.toList ra.toList/\(∀c,c∈rp.toList++rq.toList++ra.toList->n<=c)
theorem BkN.v {n:Nat} {m:Mem} {sp sq sa:AV} {st:LSt} (h:BkN n m sp sq sa st):BkV m sp sq sa st:=by
 obtain⟨rp,rq,ra,h1,h2,h3,_⟩:=h.ex;exact⟨h1.v,h2.v,h3.v⟩
theorem a3o {m:Mem} {sl:AV} {acts:List (Int×Int×Int×Int)} (hv:j1G 4 m sl (acts.map a8j)) (hN:∀a∈acts,i64 a.2.2.2) (hco:∃ro,m.get 0=some (.cells j0M ro)) {most:Int} (hm:1<=most/\most<=64) :
  ∃st sp sq sa m',run E26 (.fn 14) [sl,.int .i64 most] m=some (.agg [sp,sq,sa,.int .u64 st.latest],m')/\q5S st/\st.most=most/\BkN m.next m' sp sq sa st/\Fr m m' []:=by
 obtain⟨m0,hm0⟩:∃m0,m0=m.lay (.cells [.sl none 0 0 0 true,.sl none 0 0 0 true,.sl none 0 0 0 true,.int .u64 0] false):=⟨_,rfl⟩;have f0:Fr m m0 []:=by rw[hm0];exact(Fr.refl m).lay _
 have n0:m0.next=m.next+1:=by rw[hm0];rfl
 have Z0:m0.get m.next=some (.cells [.sl none 0 0 0 true,.sl none 0 0 0 true,.sl none 0 0 0 true,.int .u64 0] false):=by rw[hm0];exact q0k _ _
 obtain⟨M,hM⟩:∃M,M=m0.lay (.cells [.sl none 0 0 0 true,.sl none 0 0 0 true,.sl none 0 0 0 true,.int .u64 0,.int .i64 most] false):=⟨_,rfl⟩;have fM:Fr m0 M []:=by rw[hM];exact(Fr.refl m0).lay _
 have B0:M.get m0.next=some (.cells [.sl none 0 0 0 true,.sl none 0 0 0 true,.sl none 0 0 0 true,.int .u64 0,.int .i64 most] false):=by rw[hM];exact q0k _ _
 have hR:q0I M m0.next ⟨[],[],[],0,most⟩ [m0.next]:=⟨_,_,_,none,none,none,B0,q08.nil _ _ _ _,q08.nil _ _ _ _,q08.nil _ _ _ _,by simp,by simp,by simp,by simp[Dj],by simp[Dj],by simp[Dj],rfl⟩
 obtain⟨ro,hco'⟩:=hco;obtain⟨M',st,F',r1,r2,r3,r4,r5,r6⟩:=j0U (t4:=.ptr (some ⟨m.next,0⟩)) (hv.q0m f0) hN ⟨ro,f0.get hco' (by simp)⟩ 60 0 M _ _ rfl fM hR (q5S.new most hm) (by simp)
 obtain⟨sp,sq,sa,rp,rq,ra,h1,h2,h3,h4,h5,h6,h7,h8,h9,h10,hF⟩:=r2.ex;have Z':=r5.get Z0 (by simp);have o1:[sp,sq,sa,AV.int .u64 st.latest].all AV.one=true:=by rw[xBq,xBq,xBq,h2.one,h3.one,h4.one];rfl
 have lB:ldN M' (.ptr (some ⟨m0.next,0⟩)) 4=some (.agg [sp,sq,sa,.int .u64 st.latest]):=by rw[q1b h1 (by simp)];rfl
 have s4:=q14 (n:=4) (v:=[sp,sq,sa,AV.int .u64 st.latest]) Z' rfl rfl o1;have l4:ldN (M'.put m.next (some (.cells [sp,sq,sa,.int .u64 st.latest] false))) (.ptr (some ⟨m.next,0⟩)) 4=some (.agg [sp,sq,sa,.int .u64 st.latest]):=q0X (q0x Z') rfl
 have fp:Fr M' (M'.put m.next (some (.cells [sp,sq,sa,.int .u64 st.latest] false))) [m.next]:=Fr.put _ _ _
 have nb:∀{r:Option Nat},(∀c,c∈r.toList->c∈F')->∀c,r=some c->c∉[m.next]:=fun hr c hc=>by
  have:=r6 c (hr c (by rw[hc];simp));simp;omega
 have in1:∀c,c∈rp.toList->c∈F':=fun c hc=>by rw[hF];simp only[xmk0,xma];exact .inr (.inl (.inl hc))
 have in2:∀c,c∈rq.toList->c∈F':=fun c hc=>by rw[hF];simp only[xmk0,xma];exact .inr (.inl (.inr hc))
 have in3:∀c,c∈ra.toList->c∈F':=fun c hc=>by rw[hF];simp only[xmk0,xma];exact .inr (.inr hc)
 refine⟨st,sp,sq,sa,_,?_,r3,r4,⟨rp,rq,ra,h2.frame fp (nb in1),h3.frame fp (nb in2),h4.frame fp (nb in3),h8,h9,h10,fun c hc=>?_⟩,(f0.step0 r5).put' (.inr (xnr _))⟩
 ·have nx:m.next+1=m0.next:=n0.symm
  simp only[xAz]at r1;simp only[b3L (H:=H26) rfl,F14,pB,q0p,AV.cells,Nat.reduceAdd,Nat.reduceLeDiff,q00,q0r,AV.one,lcs,ge,Mem.q0G,<-hm0,<-hM,nx,r1];simp only[a2e (H:=H26),a6Y,p1,q1,nnA,q0P,q0T,q0r,lB,s4,l4]
 ·simp only[xma]at hc;have:c∈F':=by
   rcases hc with (hc|hc)|hc
   ·exact in1 c hc
   ·exact in2 c hc
   ·exact in3 c hc
  have:=r6 c this;omega
end
section
structure b1J (m:Mem) (b:Nat) (st:LSt):Prop where
 ex:∃sp sq sa,m.get b=some (.cells [sp,sq,sa,.int .u64 st.latest] false)/\BkV m sp sq sa st
theorem b1J.q0m {m m':Mem} {b:Nat} {st:LSt} (h:b1J m b st) (hf:Fr m m' []):b1J m' b st:=by
 obtain⟨sp,sq,sa,h1,h2⟩:=h.ex;exact⟨sp,sq,sa,hf.get h1 (by simp),h2.q0m hf⟩
theorem b1J.q3G {m m':Mem} {b:Nat} {st:LSt} {S:List Nat} (h:b1J m b st) (hf:Fr m m' S) (hS:∀c,c∈S->m.next<=c):b1J m' b st:=by
 obtain⟨sp,sq,sa,h1,h2⟩:=h.ex;exact⟨sp,sq,sa,hf.get h1 (fun hc=>by have:=hS b hc;have:=Mem.q0u h1;omega),h2.q3G hf hS⟩
section
variable {m:Mem} {sp:AV} {ps:List q0v}
theorem a3n (hv:q2H 4 m sp (ps.map (·.cells))) (hl:ps.length<=1000000000000000000) (k:List UInt8):∀(d i:Nat) (M:Mem),i+d=ps.length->Fr m M []->
  Res M (D26.gor 946176 [.str k,sp,.int .i64 (ps.length:Int),.int .i64 (i:Int)] M) (.bool (decide (k∈(ps.drop i).map (·.name)))):=by
 obtain⟨e,he,hs⟩:=uP;intro d;induction d with
 |zero=>
  intro i M hi hM;have:i=ps.length:=by omega
  subst this;rw[xDz];simp only[z4o (H:=H26),z8d,p2,q0b,q0f,df (show ¬((ps.length:Nat):Int)<(ps.length:Int) by omega),j5L (H:=H26),j2P,q0f];exact Res.eq (Fr.refl _) (by simp)
 |succ d ih=>
  intro i M hi hM;have hlt:i<ps.length:=by omega
  obtain⟨bs,o,_,x2,_,_,x5⟩:=(hv.q0m hM).ixT he hs (i:=i) (by rw[xlm];exact hlt);rw[xgm]at x5;obtain⟨M2,hM2⟩:∃M2,M2=M.lay (.cells ps[i].cells false):=⟨_,rfl⟩;have f2:Fr M M2 []:=by rw[hM2];exact(Fr.refl M).lay _
  have s2:stV (M.lay (.cells [.str [],.int .i64 0,.int .i64 0,.int .u64 0] false)) (.ptr (some ⟨M.next,0⟩)) (.agg ps[i].cells) 4=some M2:=by rw[q14 (n:=4) (q0k M _) rfl rfl rfl,q1S,hM2]
  have a2:∀j:Nat,ld1 M2 (.ptr (some ⟨M.next,j⟩))=ps[i].cells[j]?:=fun j=>by rw[hM2];exact q0e (q0k M _)
  have hc:decide (k∈(ps.drop i).map (·.name))=(decide (ps[i].name=k)||decide (k∈(ps.drop (i+1)).map (·.name))):=by
   rw[xAk hlt,xBf,xDl];simp only[xDu,xAj,xmk0];exact⟨fun h=>h.imp Eq.symm id,fun h=>h.imp Eq.symm id⟩
  rw[hc];simp only[q0v.cells]at a2 s2 x5;simp only[z4o (H:=H26),z8d,p2,q0b,q0f,dt (show (i:Int)<(ps.length:Int) by omega)];simp only[j5J (H:=H26),j2N,p2,q1,pB,p1,q0b,q0f,x2,x5,s2,a2];by_cases h:ps[i].name=k
  ·simp only[dt h,Bool.true_or];exact Res.eq f2 rfl
  ·simp only[df h,Bool.false_or];simp only[j5K (H:=H26),j2O,p2,q0f,show (i:Int)+1=((i+1:Nat):Int) by omega,wrap_i64 (n:=((i+1:Nat):Int)) (by omega) (by omega)];exact(ih (i+1) M2 (by omega) (hM.step0 f2)).step f2
end
section
variable {m:Mem} {sp sq sa:AV} {st:LSt}
theorem b4v (hb:BkV m sp sq sa st) (hn:z5T st) (lt:Int) (k:List UInt8):Res m (run E26 (.fn 231) [.agg [sp,sq,sa,.int .u64 lt],.str k] m) (.bool (decide (k∈st.q0d.map (·.name)))):=by
 obtain⟨M,hM⟩:∃M,M=m.lay (.cells [sp,sq,sa,.int .u64 lt] false):=⟨_,rfl⟩;have f1:Fr m M []:=by rw[hM];exact(Fr.refl m).lay _
 have a3:∀i:Nat,ld1 M (.ptr (some ⟨m.next,i⟩))=[sp,sq,sa,.int .u64 lt][i]?:=fun i=>by rw[hM];exact q0e (q0k m _)
 obtain⟨e,he,hs⟩:=uP;have hlen:=hb.p.q2e he;rw[xlm]at hlen;have lo:=a3n (hb.p.q0m f1) hn.1 k st.q0d.length 0 M (by omega) (Fr.refl _);rw[xAp]at lo;simp only[xAz]at lo;simp only[a9y (H:=H26) rfl,b6A,p1,q1,q00,q0f,AV.cells,on1,lcs,ge,xAd,xom,hb.p.one,hb.q.one,hb.a.one,<-hM,a3,hlen];exact lo.step f1
end
def z5Y (t:Int):List AV:=[.int .i64 (t / 18446744073709551616 / 18446744073709551616),.int .u64 (t / 18446744073709551616 % 18446744073709551616),.int .u64 (t % 18446744073709551616)]
section
variable {M:Mem} {c:Nat}
theorem j0a {h l:Int} (hc:M.get c=some (.cells [.int .i64 (h / 18446744073709551616),.int .u64 (h % 18446744073709551616),.int .u64 l] false)) {w:Wd} (hw:w.ok) {b:Nat} (hb:M.get b=some (.cells w.cells false)) (h1:-85070591730234615865843651857942052864<=h) (h2:h<85070591730234615865843651857942052864) :
  D26.gor 958464 [.ptr (some ⟨c,0⟩),.ptr (some ⟨b,0⟩)] M=some (.undef,M.put c (some (.cells [.int .i64 ((h+w.hi) / 18446744073709551616),.int .u64 ((h+w.hi) % 18446744073709551616),.int .u64 l] false))):=by
 obtain⟨w1,w2,w3,w4⟩:=hw;have fh:q0Q h=true:=q03 (by omega) (by omega);have fw:q0Q w.hi=true:=q03 (by omega) (by omega);have fs:q0Q (h+w.hi)=true:=q03 (by omega) (by omega);have o:=fun m=>b4T (H:=H26) rfl w1 w2 m
 have ad:=fun m=>a4S (H:=H26) rfl (Wd.q4D fh) (Wd.q4D fw) m
 rw[Wd.q1N,Wd.q1N,q1O fs]at ad;have l2:ldN M (.ptr (some ⟨c,0⟩)) 2=some (.agg (Wd.of h).cells):=by rw[q1b hc (by simp)];rfl
 have b1:∀i:Nat,ld1 M (.ptr (some ⟨b,i⟩))=w.cells[i]?:=fun i=>q0e hb
 have s2:=q1B (v:=.agg (Wd.of (h+w.hi)).cells) (o:=0) (n:=2) hc (q3y rfl) rfl (by simp);simp only[Wd.cells,Wd.of,xBp,xAm,xnz,xBh,xAp,xAy]at o ad l2 b1 s2;simp only[j5N (H:=H26),j2R,p1,q1,nnA,q0q,q0f,l2,b1,o,xAd,ad,s2]
theorem z2y {t:Int} (hc:M.get c=some (.cells (z5Y t) false)) {w:Wd} (hw:w.ok) (h1:-784637716923335095479473677900958302012794430558004314112<=t) (h2:t<784637716923335095479473677900958302012794430558004314112) :
  ∃M',run E26 (.fn 234) [.ptr (some ⟨c,0⟩),.agg w.cells] M=some (.undef,M')/\M'.get c=some (.cells (z5Y (t+w.val)) false)/\Fr M M' [c]:=by
 have hw':=hw;obtain⟨w1,w2,w3,w4⟩:=hw;have lc:=Mem.q0u hc;obtain⟨h,hh⟩:∃h,h=t / 18446744073709551616:=⟨_,rfl⟩;obtain⟨l,hl⟩:∃l,l=t % 18446744073709551616:=⟨_,rfl⟩;obtain⟨M1,hM1⟩:∃M1,M1=M.lay (.cells w.cells false):=⟨_,rfl⟩;have f1:Fr M M1 []:=by rw[hM1];exact(Fr.refl M).lay _
 have c1:M1.get c=some (.cells [.int .i64 (h / 18446744073709551616),.int .u64 (h % 18446744073709551616),.int .u64 l] false):=by rw[hh,hl];exact f1.get hc (by simp)
 have b1:M1.get M.next=some (.cells w.cells false):=by rw[hM1];exact q0k _ _
 obtain⟨k,hk⟩:∃k,k=(l+w.lo) % 18446744073709551616:=⟨_,rfl⟩;obtain⟨M2,hM2⟩:∃M2,M2=M1.put c (some (.cells [.int .i64 (h / 18446744073709551616),.int .u64 (h % 18446744073709551616),.int .u64 k] false)):=⟨_,rfl⟩;have f2:Fr M1 M2 [c]:=by rw[hM2];exact Fr.put _ _ _
 have c2:M2.get c=some (.cells [.int .i64 (h / 18446744073709551616),.int .u64 (h % 18446744073709551616),.int .u64 k] false):=by rw[hM2];exact q0x c1
 have b2:M2.get M.next=some (.cells w.cells false):=f2.get b1 (by simp;omega)
 have s1:stV M1 (.ptr (some ⟨c,2⟩)) (.int .u64 k) 1=some M2:=by
  have:=q1B (v:=.int .u64 k) (o:=2) (n:=1) c1 rfl rfl (by simp);rw[hM2];simpa using this
 have a1:∀i:Nat,ld1 M1 (.ptr (some ⟨c,i⟩))=[AV.int .i64 (h / 18446744073709551616),.int .u64 (h % 18446744073709551616),.int .u64 l][i]?:=fun i=>q0e c1
 have a2:∀i:Nat,ld1 M2 (.ptr (some ⟨c,i⟩))=[AV.int .i64 (h / 18446744073709551616),.int .u64 (h % 18446744073709551616),.int .u64 k][i]?:=fun i=>q0e c2
 have e1:∀i:Nat,ld1 M1 (.ptr (some ⟨M.next,i⟩))=w.cells[i]?:=fun i=>q0e b1
 have e2:∀i:Nat,ld1 M2 (.ptr (some ⟨M.next,i⟩))=w.cells[i]?:=fun i=>q0e b2
 have wk:IntKind.wrap .u64 (l+w.lo)=k:=by rw[q0i,hk]
 have fr2:Fr M M2 [c]:=(f1.any _).step f2 (fun c hc=>.inl hc)
 by_cases hlt:k<w.lo
 ·have fh:q0Q h=true:=q03 (by omega) (by omega);have fs:q0Q (h+1)=true:=q03 (by omega) (by omega);have o:=fun m=>b4T (H:=H26) rfl (n:=1) (by omega) (by omega) m
  have ad:=fun m=>a4S (H:=H26) rfl (Wd.q4D fh) (Wd.q4D (n:=1) (q03 (by omega) (by omega))) m
  rw[Wd.q1N,Wd.q1N,q1O fs]at ad;have l2:ldN M2 (.ptr (some ⟨c,0⟩)) 2=some (.agg (Wd.of h).cells):=by rw[q1b c2 (by simp)];rfl
  have s2:=q1B (v:=.agg (Wd.of (h+1)).cells) (o:=0) (n:=2) c2 (q3y rfl) rfl (by simp);obtain⟨M3,hM3⟩:∃M3,M3=M2.put c (some (.cells [.int .i64 ((h+1) / 18446744073709551616),.int .u64 ((h+1) % 18446744073709551616),.int .u64 k] false)):=⟨_,rfl⟩;have f3:Fr M2 M3 [c]:=by rw[hM3];exact Fr.put _ _ _
  have c3:M3.get c=some (.cells [.int .i64 ((h+1) / 18446744073709551616),.int .u64 ((h+1) % 18446744073709551616),.int .u64 k] false):=by rw[hM3];exact q0x c2
  have en:=j0a c3 hw' (f3.get b2 (by simp;omega)) (by omega) (by omega);refine⟨M3.put c (some (.cells [.int .i64 ((h+1+w.hi) / 18446744073709551616),.int .u64 ((h+1+w.hi) % 18446744073709551616),.int .u64 k] false)),?_,(q0x c3).trans ?_,(fr2.step f3 (fun c hc=>.inl hc)).put' (.inl (by simp))⟩
  ·simp only[Wd.cells,Wd.of,xBp,xAm,xnz,xBh,xAp,xAy]at o ad l2 s2 e1 e2 hM1;rw[<-hM3]at s2;simp only[j4F (H:=H26) rfl,b5n,p1,q1,p2,q00,nnA,q0q,q0b,q0f,AV.cells,on1,lcs,ge,xAd,xom,Wd.cells,<-hM1,a1,e1,wk,s1,a2,e2,dt hlt,l2,o,ad,s2,en]
  ·unfold z5Y Wd.val;have q1:(t+(w.hi*18446744073709551616+w.lo)) / 18446744073709551616=h+1+w.hi:=by omega
   have q2:(t+(w.hi*18446744073709551616+w.lo)) % 18446744073709551616=k:=by omega
   rw[q1,q2]
 ·have en:=j0a c2 hw' b2 (by omega) (by omega);refine⟨M2.put c (some (.cells [.int .i64 ((h+w.hi) / 18446744073709551616),.int .u64 ((h+w.hi) % 18446744073709551616),.int .u64 k] false)),?_,(q0x c2).trans ?_,fr2.put' (.inl (by simp))⟩
  ·simp only[Wd.cells]at e1 e2 hM1;simp only[j4F (H:=H26) rfl,b5n,p1,q1,p2,q00,nnA,q0q,q0b,q0f,AV.cells,on1,lcs,ge,xAd,xom,Wd.cells,<-hM1,a1,e1,wk,s1,a2,e2,df hlt,en]
  ·unfold z5Y Wd.val;have q1:(t+(w.hi*18446744073709551616+w.lo)) / 18446744073709551616=h+w.hi:=by omega
   have q2:(t+(w.hi*18446744073709551616+w.lo)) % 18446744073709551616=k:=by omega
   rw[q1,q2]
theorem a4L {t:Int} (hc:M.get c=some (.cells (z5Y t) false)) (h1:-784637716923335095479473677900958302012794430558004314112<=t) (h2:t<784637716923335095479473677900958302012794430558004314112):run E26 (.fn 235) [.ptr (some ⟨c,0⟩)] M=some (.bool (decide (t=0)),M):=by
 have a1:∀i:Nat,ld1 M (.ptr (some ⟨c,i⟩))=(z5Y t)[i]?:=fun i=>q0e hc
 have fh:q0Q (t / 18446744073709551616)=true:=q03 (by omega) (by omega);have l2:ldN M (.ptr (some ⟨c,0⟩)) 2=some (.agg (Wd.of (t / 18446744073709551616)).cells):=by rw[q1b hc (by simp[z5Y])];rfl
 have sg:=q9M (H:=H26) rfl (Wd.q4D fh) M;rw[Wd.q1N]at sg;simp only[Wd.cells,Wd.of,z5Y]at a1 l2 sg;by_cases h:t % 18446744073709551616=0
 ·have e:decide (sgn (t / 18446744073709551616)=0)=decide (t=0):=by
   unfold sgn;apply decide_eq_decide.mpr;split
   ·omega
   ·split<;>omega
  simp only[j4G (H:=H26) rfl,b5o,p1,q1,p2,nnA,ifV,q0f,a1,dt h,l2,sg,e]
 ·simp only[j4G (H:=H26) rfl,b5o,p1,q1,p2,nnA,ifV,q0f,a1,df h,df (show ¬t=0 by omega)]
end
end
section
def S27:List FuncId:=[231]
def R27:List FuncId:=[234,235,14]
noncomputable def H27:FuncId->Option (List AV->Mem->R):=q5a E26 S27 R27
noncomputable abbrev E27:Env:=Ea H27
theorem b2A:q07 E27:=q3t b2z S27 R27
noncomputable abbrev D27:Do:=Da H27
theorem j1k {H:FuncId->Option (List AV->Mem->R)} {f:FuncId} (h:H f=some (run E26 (.fn f))) (xs:List AV) (m:Mem):run (Ea H) (.fn f) xs m=run E26 (.fn f) xs m:=q1x h xs m
theorem q51 {H:FuncId->Option (List AV->Mem->R)} (hh:H 231=some (q0B E26 231)) {m:Mem} {sp sq sa:AV} {st:LSt} (hb:BkV m sp sq sa st) (hn:z5T st) (lt:Int) (k:List UInt8) (M:Mem) (hM:Fr m M []) :
  run (Ea H) (.fn 231) [.agg [sp,sq,sa,.int .u64 lt],.str k] M=some (.bool (decide (k∈st.q0d.map (·.name))),M):=
 q0w hh (by simp[AV.flat,AV.lt]) fun m2 h1 h2=>b4v ((hb.q0m hM).q0m (Fr.same h1 h2)) hn lt k
structure q8z (st:LSt):Prop where
 small:z5T st
 p:∀p∈st.q0d,p.out.ok/\p.name.length<4611686018427387904
 q:∀q∈st.pairs,q.rate.ok/\q.inx.ok/\q.q2I.ok/\q.x.length<4611686018427387904/\q.y.length<4611686018427387904
 a:∀a∈st.q0s,a.bal.ok/\0<=a.id/\a.id<18446744073709551616/\a.q1U.length<4611686018427387904
 lat:0<=st.latest/\st.latest<18446744073709551616
def near (t:Int) (n:Nat):Prop:=-(170141183460469231731687303715884105728*(n:Int))<=t/\t<=170141183460469231731687303715884105728*(n:Int)
theorem near.add {t:Int} {n:Nat} (h:near t n) {w:Wd} (hw:w.ok):near (t+w.val) (n+1):=by
 obtain⟨h1,h2⟩:=h;obtain⟨w1,w2,w3,w4⟩:=hw;unfold near Wd.val;omega
theorem near.up {t:Int} {n k:Nat} (h:near t n) (hk:n<=k):near t k:=by
 obtain⟨h1,h2⟩:=h;unfold near;omega
theorem near.small {t:Int} {n:Nat} (h:near t n) (hn:n<=4000000000000000000):-784637716923335095479473677900958302012794430558004314112<=t/\t<784637716923335095479473677900958302012794430558004314112:=by
 obtain⟨h1,h2⟩:=h;omega
section
variable {m m0:Mem} {sp sq sa:AV} {st:LSt} {bb pb c:Nat} {p:q0v}
theorem a1y (hb:BkV m sp sq sa st) (ok:q8z st) (f0:Fr m m0 []) (hp:m0.get pb=some (.cells p.cells false)) (hpc:pb≠c) (hcm:m.next<=c) (t2:AV):∀(d i:Nat) (M:Mem) (t:Int),i+d=st.q0s.length->Fr m0 M [c]->M.get c=some (.cells (z5Y t) false)->near t (i+1)->
  ∃M',D27.gor 634880 [t2,.ptr (some ⟨pb,0⟩),.ptr (some ⟨c,0⟩),sa,.int .i64 (st.q0s.length:Int),.int .i64 (i:Int)] M=D27.gor 634883 [t2,.ptr (some ⟨pb,0⟩),.ptr (some ⟨c,0⟩)] M'/\M'.get c=some (.cells (z5Y (t+sA p.name (st.q0s.drop i))) false)/\near (t+sA p.name (st.q0s.drop i)) (st.q0s.length+1)/\Fr m0 M' [c]:=by
 obtain⟨e,he,hs⟩:=uA;have hn:=ok.small.2.2;intro d;induction d with
 |zero=>
  intro i M t hi fM hc hn';have:i=st.q0s.length:=by omega
  subst this;rw[xDz,show sA p.name []=0 from rfl,Int.add_zero];refine⟨M,?_,hc,hn',fM⟩;simp only[z4d (H:=H27),z7T,p2,q0b,q0f,df (show ¬((st.q0s.length:Nat):Int)<(st.q0s.length:Int) by omega)]
 |succ d ih=>
  intro i M t hi fM hc hn';have hlt:i<st.q0s.length:=by omega
  have FM:Fr m M []:=f0.step fM (fun c' hc'=>by simp only[xms]at hc';subst hc';exact .inr hcm)
  obtain⟨bs,o,_,x2,_,_,x5⟩:=(hb.a.q0m FM).ixT he hs (i:=i) (by rw[xlm];exact hlt);rw[xgm]at x5;obtain⟨a,ha⟩:∃a,a=st.q0s[i]:=⟨_,rfl⟩;have oka:=(ok.a a (by rw[ha];exact xAf hlt)).1;have hsum:sA p.name (st.q0s.drop i)=(if a.q1U=p.name then a.bal.val else 0)+sA p.name (st.q0s.drop (i+1)):=by
   rw[xAk hlt,ha];rfl
  rw[<-ha]at x5;obtain⟨M2,hM2⟩:∃M2,M2=M.lay (.cells a.cells false):=⟨_,rfl⟩;have f2:Fr M M2 []:=by rw[hM2];exact(Fr.refl M).lay _
  have s2:stV (M.lay (.cells [.int .u64 0,.str [],.int .i64 0,.int .u64 0] false)) (.ptr (some ⟨M.next,0⟩)) (.agg a.cells) 4=some M2:=by rw[q14 (n:=4) (q0k M _) rfl rfl rfl,q1S,hM2]
  have g2:M2.get M.next=some (.cells a.cells false):=by rw[hM2];exact q0k M _
  have a2:∀j:Nat,ld1 M2 (.ptr (some ⟨M.next,j⟩))=a.cells[j]?:=fun j=>q0e g2
  have l2:ldN M2 (.ptr (some ⟨M.next,2⟩)) 2=some (.agg a.bal.cells):=by rw[q1b g2 (by simp)];rfl
  have p2:∀j:Nat,ld1 M2 (.ptr (some ⟨pb,j⟩))=p.cells[j]?:=fun j=>q0e (f2.get (fM.get hp (by simp;exact hpc)) (by simp))
  have c2:=f2.get hc (by simp);have fM2:Fr m0 M2 [c]:=fM.step0 f2;have st1:D27.gor 634880 [t2,.ptr (some ⟨pb,0⟩),.ptr (some ⟨c,0⟩),sa,.int .i64 (st.q0s.length:Int),.int .i64 (i:Int)] M=D27.gor 634881 [t2,.ptr (some ⟨pb,0⟩),.ptr (some ⟨c,0⟩),sa,.int .i64 (st.q0s.length:Int),.int .i64 (i:Int)] M:=by
   simp only[z4d (H:=H27),z7T,q0b,q0f,dt (show (i:Int)<(st.q0s.length:Int) by omega)]
  have st2:∀M,D27.gor 634882 [t2,.ptr (some ⟨pb,0⟩),.ptr (some ⟨c,0⟩),sa,.int .i64 (st.q0s.length:Int),.int .i64 (i:Int)] M=D27.gor 634880 [t2,.ptr (some ⟨pb,0⟩),.ptr (some ⟨c,0⟩),sa,.int .i64 (st.q0s.length:Int),.int .i64 ((i+1:Nat):Int)] M:=fun M=>by
   simp only[j5j (H:=H27),j2m,q0f,show (i:Int)+1=((i+1:Nat):Int) by omega,wrap_i64 (n:=((i+1:Nat):Int)) (by omega) (by omega)]
  rw[st1,hsum];simp only[q1v.cells,q0v.cells]at x5 s2 a2 p2;by_cases h:a.q1U=p.name
  ·rw[xAb h];have ns:=hn'.small (by omega);obtain⟨M3,c1,c3,c4⟩:=z2y c2 oka ns.1 ns.2;have c1':=(j1k (H:=H27) (f:=234) rfl _ _).trans c1;obtain⟨M4,r1,r2,r3,r4⟩:=ih (i+1) M3 (t+a.bal.val) (by omega) (fM2.step c4 (fun c hc=>.inl hc)) c3 (hn'.add oka)
   refine⟨M4,?_,by rw[<-Int.add_assoc];exact r2,by rw[<-Int.add_assoc];exact r3,r4⟩;simp only[z4e (H:=H27),z7U,p2,q1,pB,p1,q0b,q0f,x2,x5,s2,a2,dt h,l2,c1',st2];exact r1
  ·rw[xAa h,xFh];obtain⟨M4,r1,r2,r3,r4⟩:=ih (i+1) M2 t (by omega) fM2 c2 (hn'.up (by omega));refine⟨M4,?_,r2,r3,r4⟩;simp only[z4e (H:=H27),z7U,p2,q1,pB,p1,q0b,q0f,x2,x5,s2,a2,df h,st2];exact r1
theorem j3I (hb:BkV m sp sq sa st) (ok:q8z st) (f0:Fr m m0 []) (hp:m0.get pb=some (.cells p.cells false)) (hpc:pb≠c) (hcm:m.next<=c) (n0:Nat) (hn0:n0<=1000000000000000001):∀(d i:Nat) (M:Mem) (t:Int),i+d=st.pairs.length->Fr m0 M [c]->M.get c=some (.cells (z5Y t) false)->near t (n0+2*i)->
  ∃M',D27.gor 634884 [.ptr (some ⟨pb,0⟩),.ptr (some ⟨c,0⟩),sq,.int .i64 (st.pairs.length:Int),.int .i64 (i:Int)] M=D27.gor 634888 [.ptr (some ⟨c,0⟩)] M'/\M'.get c=some (.cells (z5Y (t+sQ p.name (st.pairs.drop i))) false)/\near (t+sQ p.name (st.pairs.drop i)) (n0+2*st.pairs.length)/\Fr m0 M' [c]:=by
 obtain⟨e,he,hs⟩:=uQ;have hn:=ok.small.2.1;intro d;induction d with
 |zero=>
  intro i M t hi fM hc hn';have:i=st.pairs.length:=by omega
  subst this;rw[xDz,show sQ p.name []=0 from rfl,Int.add_zero];refine⟨M,?_,hc,hn',fM⟩;simp only[z4f (H:=H27),z7V,p2,q0b,q0f,df (show ¬((st.pairs.length:Nat):Int)<(st.pairs.length:Int) by omega)]
 |succ d ih=>
  intro i M t hi fM hc hn';have hlt:i<st.pairs.length:=by omega
  have FM:Fr m M []:=f0.step fM (fun c' hc'=>by simp only[xms]at hc';subst hc';exact .inr hcm)
  obtain⟨bs,o,_,x2,_,_,x5⟩:=(hb.q.q0m FM).ixT he hs (i:=i) (by rw[xlm];exact hlt);rw[xgm]at x5;obtain⟨a,ha⟩:∃a,a=st.pairs[i]:=⟨_,rfl⟩;have oka:=ok.q a (by rw[ha];exact xAf hlt);have hsum:sQ p.name (st.pairs.drop i)=((if a.x=p.name then a.inx.val else 0)+(if a.y=p.name then a.q2I.val else 0))+sQ p.name (st.pairs.drop (i+1)):=by
   rw[xAk hlt,ha];rfl
  rw[<-ha]at x5;obtain⟨M2,hM2⟩:∃M2,M2=M.lay (.cells a.cells false):=⟨_,rfl⟩;have f2:Fr M M2 []:=by rw[hM2];exact(Fr.refl M).lay _
  have s2:stV (M.lay (.cells [.str [],.str [],.int .i64 0,.int .u64 0,.int .i64 0,.int .i64 0,.int .u64 0,.int .i64 0,.int .u64 0] false)) (.ptr (some ⟨M.next,0⟩)) (.agg a.cells) 9=some M2:=by rw[q14 (n:=9) (q0k M _) rfl rfl rfl,q1S,hM2]
  have g2:M2.get M.next=some (.cells a.cells false):=by rw[hM2];exact q0k M _
  have a2:∀j:Nat,ld1 M2 (.ptr (some ⟨M.next,j⟩))=a.cells[j]?:=fun j=>q0e g2
  have l2:ldN M2 (.ptr (some ⟨M.next,5⟩)) 2=some (.agg a.inx.cells):=by rw[q1b g2 (by simp)];rfl
  have p2:∀j:Nat,ld1 M2 (.ptr (some ⟨pb,j⟩))=p.cells[j]?:=fun j=>q0e (f2.get (fM.get hp (by simp;exact hpc)) (by simp))
  have c2:=f2.get hc (by simp);have fM2:Fr m0 M2 [c]:=fM.step0 f2;have lcM:=Mem.q0u hc;have st1:D27.gor 634884 [.ptr (some ⟨pb,0⟩),.ptr (some ⟨c,0⟩),sq,.int .i64 (st.pairs.length:Int),.int .i64 (i:Int)] M=D27.gor 634885 [.ptr (some ⟨pb,0⟩),.ptr (some ⟨c,0⟩),sq,.int .i64 (st.pairs.length:Int),.int .i64 (i:Int)] M:=by
   simp only[z4f (H:=H27),z7V,q0b,q0f,dt (show (i:Int)<(st.pairs.length:Int) by omega)]
  have st2:∀M,D27.gor 634887 [.ptr (some ⟨pb,0⟩),.ptr (some ⟨c,0⟩),sq,.int .i64 (st.pairs.length:Int),.int .i64 (i:Int)] M=D27.gor 634884 [.ptr (some ⟨pb,0⟩),.ptr (some ⟨c,0⟩),sq,.int .i64 (st.pairs.length:Int),.int .i64 ((i+1:Nat):Int)] M:=fun M=>by
   simp only[j5l (H:=H27),j2o,q0f,show (i:Int)+1=((i+1:Nat):Int) by omega,wrap_i64 (n:=((i+1:Nat):Int)) (by omega) (by omega)]
  have half:∀(M3:Mem) (t':Int),Fr m0 M3 [c]->M3.get c=some (.cells (z5Y t') false)->M3.get M.next=some (.cells a.cells false)->near t' (n0+2*i+1)->∃M',D27.gor 634886 [.ptr (some ⟨pb,0⟩),.ptr (some ⟨c,0⟩),.ptr (some ⟨M.next,0⟩),sq,.int .i64 (st.pairs.length:Int),.int .i64 (i:Int)] M3=D27.gor 634888 [.ptr (some ⟨c,0⟩)] M'/\
    M'.get c=some (.cells (z5Y (t'+(if a.y=p.name then a.q2I.val else 0)+sQ p.name (st.pairs.drop (i+1)))) false)/\near (t'+(if a.y=p.name then a.q2I.val else 0)+sQ p.name (st.pairs.drop (i+1))) (n0+2*st.pairs.length)/\Fr m0 M' [c]:=by
   intro M3 t' f3 c3 g3 n3;have a3:∀j:Nat,ld1 M3 (.ptr (some ⟨M.next,j⟩))=a.cells[j]?:=fun j=>q0e g3
   have l3:ldN M3 (.ptr (some ⟨M.next,7⟩)) 2=some (.agg a.q2I.cells):=by rw[q1b g3 (by simp)];rfl
   have p3:∀j:Nat,ld1 M3 (.ptr (some ⟨pb,j⟩))=p.cells[j]?:=fun j=>q0e (f3.get hp (by simp;exact hpc))
   simp only[q0D.cells,q0v.cells]at a3 p3;by_cases h:a.y=p.name
   ·rw[xAb h];have ns:=n3.small (by omega);obtain⟨M4,d1,d3,d4⟩:=z2y c3 oka.2.2.1 ns.1 ns.2;have d1':=(j1k (H:=H27) (f:=234) rfl _ _).trans d1;obtain⟨M5,r1,r2,r3,r4⟩:=ih (i+1) M4 (t'+a.q2I.val) (by omega) (f3.step d4 (fun c hc=>.inl hc)) d3 ((n3.add oka.2.2.1).up (by omega))
    refine⟨M5,?_,r2,r3,r4⟩;simp only[z4h (H:=H27),z7X,p1,q1,q0b,q0f,a3,p3,dt h,l3,d1',st2];exact r1
   ·rw[xAa h,Int.add_zero];obtain⟨M5,r1,r2,r3,r4⟩:=ih (i+1) M3 t' (by omega) f3 c3 (n3.up (by omega));refine⟨M5,?_,r2,r3,r4⟩;simp only[z4h (H:=H27),z7X,p1,q1,q0b,q0f,a3,p3,df h,st2];exact r1
  rw[st1,hsum];have g2':=g2;simp only[q0D.cells,q0v.cells]at x5 s2 a2 p2;by_cases h:a.x=p.name
  ·rw[xAb h];have ns:=hn'.small (by omega);obtain⟨M3,c1,c3,c4⟩:=z2y c2 oka.2.1 ns.1 ns.2;have c1':=(j1k (H:=H27) (f:=234) rfl _ _).trans c1;obtain⟨M4,r1,r2,r3,r4⟩:=half M3 (t+a.inx.val) (fM2.step c4 (fun c hc=>.inl hc)) c3 (c4.get g2' (by simp;omega)) (hn'.add oka.2.1)
   have e9:t+a.inx.val+(if a.y=p.name then a.q2I.val else 0)+sQ p.name (st.pairs.drop (i+1))=t+(a.inx.val+(if a.y=p.name then a.q2I.val else 0)+sQ p.name (st.pairs.drop (i+1))):=by omega
   rw[e9]at r2 r3;refine⟨M4,?_,r2,r3,r4⟩;simp only[z4g (H:=H27),z7W,p2,q1,pB,p1,q0b,q0f,x2,x5,s2,a2,dt h,l2,c1'];exact r1
  ·rw[xAa h,xFh];obtain⟨M4,r1,r2,r3,r4⟩:=half M2 t fM2 c2 g2' (hn'.up (by omega));rw[Int.add_assoc]at r2 r3;refine⟨M4,?_,r2,r3,r4⟩;simp only[z4g (H:=H27),z7W,p2,q1,pB,p1,q0b,q0f,x2,x5,s2,a2,df h];exact r1
theorem a8n (hb:BkV m sp sq sa st) (ok:q8z st) (lt:Int) (p:q0v) (hp:p.out.ok):Res m (run E27 (.fn 155) [.agg [sp,sq,sa,.int .u64 lt],.agg p.cells] m) (.bool (decide (j1K st.pairs st.q0s p=0))):=by
 obtain⟨m1,hm1⟩:∃m1,m1=m.lay (.cells [sp,sq,sa,.int .u64 lt] false):=⟨_,rfl⟩;obtain⟨m2,hm2⟩:∃m2,m2=m1.lay (.cells p.cells false):=⟨_,rfl⟩;obtain⟨m3,hm3⟩:∃m3,m3=m2.lay (.cells (z5Y 0) false):=⟨_,rfl⟩;have f1:Fr m m1 []:=by rw[hm1];exact(Fr.refl _).lay _
 have f2:Fr m1 m2 []:=by rw[hm2];exact(Fr.refl _).lay _
 have f3:Fr m2 m3 []:=by rw[hm3];exact(Fr.refl _).lay _
 have n1:m1.next=m.next+1:=by rw[hm1];rfl
 have n2:m2.next=m.next+1+1:=by rw[hm2,Mem.q0G,n1]
 have F3:Fr m m3 []:=(f1.step0 f2).step0 f3;have g1:m3.get m.next=some (.cells [sp,sq,sa,.int .u64 lt] false):=(f2.step0 f3).get (by rw[hm1];exact q0k _ _) (by simp)
 have g2:m3.get (m.next+1)=some (.cells p.cells false):=f3.get (by rw[hm2,<-n1];exact q0k _ _) (by simp)
 have g3:m3.get (m.next+1+1)=some (.cells (z5Y 0) false):=by rw[hm3,<-n2];exact q0k _ _
 have ns:near 0 0:=by unfold near;omega
 obtain⟨m4,c1,c2,c3⟩:=z2y g3 hp (ns.small (by omega)).1 (ns.small (by omega)).2;rw[xFh]at c2;have c1':=(j1k (H:=H27) (f:=234) rfl _ _).trans c1;have nA:near p.out.val (0+1):=by have:=ns.add hp;rwa [xFh]at this
 obtain⟨m5,d1,d2,d3,d4⟩:=a1y hb ok F3 g2 (c:=m.next+1+1) (by omega) (by omega) (.ptr (some ⟨m.next,0⟩)) st.q0s.length 0 m4 p.out.val (by omega) c3 c2 nA
 rw[xAp]at d2 d3;have sm:=ok.small;obtain⟨m6,e1,e2,e3,e4⟩:=j3I hb ok F3 g2 (c:=m.next+1+1) (by omega) (by omega) (st.q0s.length+1) (by have:=sm.2.2;omega) st.pairs.length 0 m5 _ (by omega) d4 d2 d3
 rw[xAp]at e2 e3;have ns6:=e3.small (by have:=sm.2.2;have:=sm.2.1;omega);have z:=a4L e2 ns6.1 ns6.2;have z':=(j1k (H:=H27) (f:=235) rfl _ _).trans z;obtain⟨eA,uA1,uA2⟩:=uA;obtain⟨eQ,uQ1,uQ2⟩:=uQ;have la:=hb.a.q2e uA1;have lq:=hb.q.q2e uQ1;rw[xlm]at la lq;have a4:∀i:Nat,ld1 m4 (.ptr (some ⟨m.next,i⟩))=[sp,sq,sa,.int .u64 lt][i]?:=fun i=>q0e (c3.get g1 (by simp;omega))
 have a5:∀i:Nat,ld1 m5 (.ptr (some ⟨m.next,i⟩))=[sp,sq,sa,.int .u64 lt][i]?:=fun i=>q0e (d4.get g1 (by simp;omega))
 have lp:ldN m3 (.ptr (some ⟨m.next+1,2⟩)) 2=some (.agg p.out.cells):=by rw[q1b g2 (by simp)];rfl
 have F6:Fr m m6 []:=F3.step e4 (fun c hc=>by simp only[xms]at hc;subst hc;exact .inr (by omega))
 refine⟨m6,?_,F6⟩;simp only[xAz]at d1 e1;have hs0:(z5Y 0)=[.int .i64 0,.int .u64 0,.int .u64 0]:=rfl;rw[hs0]at hm3;simp only[q0v.cells]at hm2⊢;simp only[a9j (H:=H27) rfl,b6l,pB,p1,q1,q00,q0f,AV.cells,on1,lcs,ge,xAd,xom,Mem.q0G,hb.p.one,hb.q.one,hb.a.one,<-hm1,<-hm2,<-hm3,lp,c1',a4,la,d1];simp only[j5k (H:=H27),j2n,p1,q1,q0f,a5,lq,e1];simp only[j5m (H:=H27),j2p,q0f,z']
 rfl
end
end
section
def q73 {α:Type} (l:List α) (i:Nat) (r:α->Bool):Bool:=decide (i=0)||(match l[i-1]? with|some x=>r x|none=>false)
def names (st:LSt):List (List UInt8):=st.q0d.map (·.name)
def z0a (st:LSt) (i:Nat) (q:q0D):Bool:=
 q73 st.pairs i (fun r=>q0g r.x q.x||(decide (r.x=q.x)&&q0g r.y q.y))&&(decide (q.x∈names st)&&(decide (q.y∈names st)&&(!decide (q.x=q.y)&&(decide (q4p q.rate q.q0V=0)&&(decide (0<=q.inx.val)&&decide (q.q2I.val<=0))))))
def z2h (st:LSt) (i:Nat):Bool:=match st.pairs[i]? with|some q=>z0a st i q|none=>false
def j6P (st:LSt) (i:Nat) (a:q1v):Bool:=
 decide ((match st.q0s[i-1]? with|some x=>if i=0 then 0 else x.id|none=>0)<a.id)&&(decide (a.id<=st.latest)&&(decide (a.q1U∈names st)&&decide (0<=a.bal.val)))
def z2g (st:LSt) (i:Nat):Bool:=match st.q0s[i]? with|some a=>j6P st i a|none=>false
theorem a0q (x:Int):decide (sgn x<0)=!decide (0<=x):=by unfold sgn;rw[<-decide_not];apply decide_eq_decide.mpr;split<;>(try split)<;>omega
theorem b1m (x:Int):decide (0<sgn x)=!decide (x<=0):=by unfold sgn;rw[<-decide_not];apply decide_eq_decide.mpr;split<;>(try split)<;>omega
section
variable {m:Mem} {bb:Nat} {st:LSt}
theorem a4s {sp sq sa:AV} (h1:m.get bb=some (.cells [sp,sq,sa,.int .u64 st.latest] false)) (hb:BkV m sp sq sa st) (ok:q8z st) {M2:Mem} (hM:Fr m M2 []) {x:Nat} {q:q0D} (hq:M2.get x=some (.cells q.cells false)) (hi:q∈st.pairs) (t5:Bool) (t7 t8 t9:AV) :
  D27.gor 626690 [.ptr (some ⟨bb,0⟩),.ptr (some ⟨x,0⟩),.bool t5,t7,t8,t9] M2 =
   if (t5&&(decide (q.x∈names st)&&(decide (q.y∈names st)&&(!decide (q.x=q.y)&&(decide (q4p q.rate q.q0V=0)&&(decide (0<=q.inx.val)&&decide (q.q2I.val<=0)))))))=true then D27.gor 626691 [.ptr (some ⟨bb,0⟩),t7,t8,t9] M2 else some (.bool false,M2):=by
 have okq:=ok.q q hi;have hX:=q51 (H:=H27) rfl hb ok.small st.latest q.x M2 hM;have hY:=q51 (H:=H27) rfl hb ok.small st.latest q.y M2 hM;have lB:ldN M2 (.ptr (some ⟨bb,0⟩)) 4=some (.agg [sp,sq,sa,.int .u64 st.latest]):=q0X (hM.get h1 (by simp)) rfl;have a2:∀j:Nat,ld1 M2 (.ptr (some ⟨x,j⟩))=q.cells[j]?:=fun j=>q0e hq
 have l2:ldN M2 (.ptr (some ⟨x,2⟩)) 3=some (.agg (q0O q.rate q.q0V)):=by rw[q1b hq (by simp)];rfl
 have l5:ldN M2 (.ptr (some ⟨x,5⟩)) 2=some (.agg q.inx.cells):=by rw[q1b hq (by simp)];rfl
 have l7:ldN M2 (.ptr (some ⟨x,7⟩)) 2=some (.agg q.q2I.cells):=by rw[q1b hq (by simp)];rfl
 have rr:=a0b (H:=H27) rfl okq.1 q.q0V M2;have g5:=q9M (H:=H27) rfl okq.2.1 M2;have g7:=q9M (H:=H27) rfl okq.2.2.1 M2;have e5:=a0q q.inx.val;have e7:=b1m q.q2I.val;show _=if (t5&&(decide (q.x∈st.q0d.map (·.name))&&(decide (q.y∈st.q0d.map (·.name))&&_)))=true then _ else _
 simp only[q0D.cells]at a2;cases t5 with
 |false=>simp only[q3b (H:=H27),q5V,p1,q1,p2,q0b,ifV,unA,q0f,xbf,xAt,xbq,xAh]
 |true=>
  cases hx:decide (q.x∈st.q0d.map (·.name)) with
  |false=>
   rw[hx]at hX;simp only[q3b (H:=H27),q5V,p1,q1,p2,q0b,ifV,unA,q0f,xbt,lB,a2,hX,xbf,xAs,xAt,xbq,xAh]
  |true=>
   rw[hx]at hX;cases hy:decide (q.y∈st.q0d.map (·.name)) with
   |false=>
    rw[hy]at hY;simp only[q3b (H:=H27),q5V,p1,q1,p2,q0b,ifV,unA,q0f,xbt,lB,a2,hX,hY,xbf,xAs,xAt,xbq,xAh]
   |true=>
    rw[hy]at hY;by_cases hxy:q.x=q.y
    ·simp only[q3b (H:=H27),q5V,p1,q1,p2,q0b,ifV,unA,q0f,xbt,lB,a2,hX,hY,dt hxy,xAs,xAt,xbq,xAh]
    ·by_cases hr:q4p q.rate q.q0V=0
     ·rw[hr]at rr;cases h0:decide (0<=q.inx.val) with
      |false=>
       rw[h0]at e5;simp only[q3b (H:=H27),q5V,p1,q1,p2,q0b,ifV,unA,q0f,xbt,xbf,lB,a2,hX,hY,df hxy,l2,rr,xAn,l5,g5,e5,dt hr,xAs,xAt,xbq,xAh]
      |true=>
       rw[h0]at e5;cases h7:decide (q.q2I.val<=0) with
       |false=>
        rw[h7]at e7;simp only[q3b (H:=H27),q5V,p1,q1,p2,q0b,ifV,unA,q0f,xbt,xbf,lB,a2,hX,hY,df hxy,l2,rr,xAn,l5,g5,e5,l7,g7,e7,dt hr,xDg,xbq,xAh]
       |true=>
        rw[h7]at e7;simp only[q3b (H:=H27),q5V,p1,q1,p2,q0b,ifV,unA,q0f,xbt,xbf,lB,a2,hX,hY,df hxy,l2,rr,xAn,l5,g5,e5,l7,g7,e7,dt hr,Bool.and_self,xAd]
     ·simp only[q3b (H:=H27),q5V,p1,q1,p2,q0b,ifV,unA,q0f,xbt,xbf,lB,a2,hX,hY,df hxy,l2,rr,df hr,xAs,xAt,xbq,xAh]
theorem j99 {sp sq sa:AV} (h1:m.get bb=some (.cells [sp,sq,sa,.int .u64 st.latest] false)) (hb:BkV m sp sq sa st) (ok:q8z st):∀(d i:Nat) (M:Mem),i+d=st.pairs.length->Fr m M []->
  Res M (D27.gor 626688 [.ptr (some ⟨bb,0⟩),sq,.int .i64 (st.pairs.length:Int),.int .i64 (i:Int)] M) (.bool (q3S (z2h st) d i)):=by
 obtain⟨e,he,hs⟩:=uQ;have hn:=ok.small.2.1;intro d;induction d with
 |zero=>
  intro i M hi hM;have:i=st.pairs.length:=by omega
  subst this;simp only[q47 (H:=H27),q8C,p2,q0b,q0f,df (show ¬((st.pairs.length:Nat):Int)<(st.pairs.length:Int) by omega),j5f (H:=H27),j2i,q0f];exact Res.eq (Fr.refl _) rfl
 |succ d ih=>
  intro i M hi hM;have hlt:i<st.pairs.length:=by omega
  obtain⟨bs,o,_,x2,_,_,x5⟩:=(hb.q.q0m hM).ixT he hs (i:=i) (by rw[xlm];exact hlt);rw[xgm]at x5;obtain⟨q,hq⟩:∃q,q=st.pairs[i]:=⟨_,rfl⟩;have mq:q∈st.pairs:=by rw[hq];exact xAf hlt
  rw[<-hq]at x5;obtain⟨M2,hM2⟩:∃M2,M2=M.lay (.cells q.cells false):=⟨_,rfl⟩;have f2:Fr M M2 []:=by rw[hM2];exact(Fr.refl M).lay _
  have F2:Fr m M2 []:=hM.step0 f2;have s2:stV (M.lay (.cells [.str [],.str [],.int .i64 0,.int .u64 0,.int .i64 0,.int .i64 0,.int .u64 0,.int .i64 0,.int .u64 0] false)) (.ptr (some ⟨M.next,0⟩)) (.agg q.cells) 9=some M2:=by rw[q14 (n:=9) (q0k M _) rfl rfl rfl,q1S,hM2]
  have g2:M2.get M.next=some (.cells q.cells false):=by rw[hM2];exact q0k M _
  have a2:∀j:Nat,ld1 M2 (.ptr (some ⟨M.next,j⟩))=q.cells[j]?:=fun j=>q0e g2
  have b2:∀j:Nat,ld1 M2 (.ptr (some ⟨bb,j⟩))=[sp,sq,sa,AV.int .u64 st.latest][j]?:=fun j=>q0e (F2.get h1 (by simp))
  have en:=fun t5=>a4s h1 hb ok F2 g2 mq t5 sq (.int .i64 (st.pairs.length:Int)) (.int .i64 (i:Int))
  have hok:z2h st i=z0a st i q:=by unfold z2h;rw[xgq hlt,<-hq]
  have nx:D27.gor 626691 [.ptr (some ⟨bb,0⟩),sq,.int .i64 (st.pairs.length:Int),.int .i64 (i:Int)] M2=D27.gor 626688 [.ptr (some ⟨bb,0⟩),sq,.int .i64 (st.pairs.length:Int),.int .i64 ((i+1:Nat):Int)] M2:=by
   simp only[j5e (H:=H27),j2h,p2,q0f,show (i:Int)+1=((i+1:Nat):Int) by omega,wrap_i64 (n:=((i+1:Nat):Int)) (by omega) (by omega)]
  have rd:D27.gor 626688 [.ptr (some ⟨bb,0⟩),sq,.int .i64 (st.pairs.length:Int),.int .i64 (i:Int)] M=if z0a st i q=true then D27.gor 626688 [.ptr (some ⟨bb,0⟩),sq,.int .i64 (st.pairs.length:Int),.int .i64 ((i+1:Nat):Int)] M2 else some (.bool false,M2):=by
   rw[<-nx];unfold z0a;simp only[q0D.cells]at x5 s2 a2;by_cases h0:i=0
   ·have hp:q73 st.pairs i (fun r=>q0g r.x q.x||(decide (r.x=q.x)&&q0g r.y q.y))=true:=by unfold q73;rw[dt h0,Bool.true_or]
    rw[hp,<-en true];simp only[q47 (H:=H27),q8C,p2,q0b,q0f,dt (show (i:Int)<(st.pairs.length:Int) by omega)];simp only[q6G (H:=H27),z0k,p2,q1,pB,p1,ifV,q0f,x2,x5,s2,dt (show (i:Int)=0 by omega)]
   ·obtain⟨bs',o',_,y2,y3,_,_⟩:=(hb.q.q0m F2).ixT he hs (i:=i-1) (by rw[xlm];omega);have y0:=y3 0 (by omega);have y1:=y3 1 (by omega);rw[xgm]at y0 y1;obtain⟨r,hr⟩:∃r,r=st.pairs[i-1]'(by omega):=⟨_,rfl⟩;have hr2:st.pairs[i-1]? = some r:=by rw[xgq (by omega),hr]
    rw[<-hr]at y0 y1;simp only[ge,q0D.cells,xna]at y0 y1;have hp:q73 st.pairs i (fun r=>q0g r.x q.x||(decide (r.x=q.x)&&q0g r.y q.y))=(q0g r.x q.x||(decide (r.x=q.x)&&q0g r.y q.y)):=by unfold q73;rw[df h0,Bool.false_or,hr2]
    have w1:IntKind.wrap .i64 ((i:Int)-1)=((i-1:Nat):Int):=by rw[wrap_i64 (by omega) (by omega)];omega
    rcases Bool.eq_false_or_eq_true (q0g r.x q.x) with hl|hl
    ·have ev:(q0g r.x q.x||decide (r.x=q.x)&&q0g r.y q.y)=true:=by rw[hl];rfl
     rw[hp.trans ev,<-en true];simp only[q47 (H:=H27),q8C,p2,q0b,q0f,dt (show (i:Int)<(st.pairs.length:Int) by omega)];simp only[q6G (H:=H27),z0k,p2,q1,pB,p1,ifV,q0f,x2,x5,s2,df (show ¬(i:Int)=0 by omega),b2,w1,y2,y0,a2,hl]
    ·have ev:(q0g r.x q.x||decide (r.x=q.x)&&q0g r.y q.y)=(decide (r.x=q.x)&&q0g r.y q.y):=by rw[hl];rfl
     by_cases hx:r.x=q.x
     ·have ev2:(decide (r.x=q.x)&&q0g r.y q.y)=q0g r.y q.y:=by rw[dt hx];rfl
      rw[(hp.trans ev).trans ev2,<-en (q0g r.y q.y)];simp only[q47 (H:=H27),q8C,p2,q0b,q0f,dt (show (i:Int)<(st.pairs.length:Int) by omega)];simp only[q6G (H:=H27),z0k,p2,q1,pB,p1,ifV,q0f,x2,x5,s2,df (show ¬(i:Int)=0 by omega),b2,w1,y2,y0,y1,a2,hl,dt hx]
     ·have ev2:(decide (r.x=q.x)&&q0g r.y q.y)=false:=by rw[df hx];rfl
      rw[(hp.trans ev).trans ev2,<-en false];simp only[q47 (H:=H27),q8C,p2,q0b,q0f,dt (show (i:Int)<(st.pairs.length:Int) by omega)];simp only[q6G (H:=H27),z0k,p2,q1,pB,p1,ifV,q0f,x2,x5,s2,df (show ¬(i:Int)=0 by omega),b2,w1,y2,y0,a2,hl,df hx]
  rw[rd,q3S,hok];cases hg:z0a st i q with
  |true=>
   rw[xAb rfl,xAs];exact(ih (i+1) M2 (by omega) F2).step f2
  |false=>
   rw[xAa (by decide),xAt];exact Res.eq f2 rfl
theorem b1e {sp sq sa:AV} (hb:BkV m sp sq sa st) (ok:q8z st):Res m (run E27 (.fn 153) [.agg [sp,sq,sa,.int .u64 st.latest]] m) (.bool (q3S (z2h st) st.pairs.length 0)):=by
 obtain⟨M,hM⟩:∃M,M=m.lay (.cells [sp,sq,sa,.int .u64 st.latest] false):=⟨_,rfl⟩;have f1:Fr m M []:=by rw[hM];exact(Fr.refl m).lay _
 have g1:M.get m.next=some (.cells [sp,sq,sa,.int .u64 st.latest] false):=by rw[hM];exact q0k m _
 have a3:∀i:Nat,ld1 M (.ptr (some ⟨m.next,i⟩))=[sp,sq,sa,.int .u64 st.latest][i]?:=fun i=>q0e g1
 obtain⟨e,he,hs⟩:=uQ;have hlen:=hb.q.q2e he;rw[xlm]at hlen;have lo:=j99 g1 (hb.q0m f1) ok st.pairs.length 0 M (by omega) (Fr.refl _);simp only[xAz]at lo;simp only[a9h (H:=H27) rfl,b6j,p1,q1,q00,q0f,AV.cells,on1,lcs,ge,xAd,xom,hb.p.one,hb.q.one,hb.a.one,<-hM,a3,hlen];exact lo.step f1
def q6Z (st:LSt) (i:Nat):Int:=match st.q0s[i-1]? with|some x=>if i=0 then 0 else x.id|none=>0
theorem j1i {sp sq sa:AV} (h1:m.get bb=some (.cells [sp,sq,sa,.int .u64 st.latest] false)) (hb:BkV m sp sq sa st) (ok:q8z st):∀(d i:Nat) (M:Mem),i+d=st.q0s.length->Fr m M []->
  Res M (D27.gor 630784 [.ptr (some ⟨bb,0⟩),.int .u64 (q6Z st i),sa,.int .i64 (st.q0s.length:Int),.int .i64 (i:Int)] M) (.bool (q3S (z2g st) d i&&decide (st.latest<=72057594037927935))):=by
 obtain⟨e,he,hs⟩:=uA;have hn:=ok.small.2.2;intro d;induction d with
 |zero=>
  intro i M hi hM;have:i=st.q0s.length:=by omega
  have b2:∀j:Nat,ld1 M (.ptr (some ⟨bb,j⟩))=[sp,sq,sa,AV.int .u64 st.latest][j]?:=fun j=>q0e (hM.get h1 (by simp))
  subst this;simp only[z4c (H:=H27),z7S,p2,q0b,q0f,df (show ¬((st.q0s.length:Nat):Int)<(st.q0s.length:Int) by omega),j5i (H:=H27),j2l,p1,q1,q0f,b2];exact Res.eq (Fr.refl _) (by simp[q3S])
 |succ d ih=>
  intro i M hi hM;have hlt:i<st.q0s.length:=by omega
  obtain⟨bs,o,_,x2,_,_,x5⟩:=(hb.a.q0m hM).ixT he hs (i:=i) (by rw[xlm];exact hlt);rw[xgm]at x5;obtain⟨a,ha⟩:∃a,a=st.q0s[i]:=⟨_,rfl⟩;have ma:a∈st.q0s:=by rw[ha];exact xAf hlt
  have oka:=ok.a a ma;rw[<-ha]at x5;obtain⟨M2,hM2⟩:∃M2,M2=M.lay (.cells a.cells false):=⟨_,rfl⟩;have f2:Fr M M2 []:=by rw[hM2];exact(Fr.refl M).lay _
  have F2:Fr m M2 []:=hM.step0 f2;have s2:stV (M.lay (.cells [.int .u64 0,.str [],.int .i64 0,.int .u64 0] false)) (.ptr (some ⟨M.next,0⟩)) (.agg a.cells) 4=some M2:=by rw[q14 (n:=4) (q0k M _) rfl rfl rfl,q1S,hM2]
  have g2:M2.get M.next=some (.cells a.cells false):=by rw[hM2];exact q0k M _
  have a2:∀j:Nat,ld1 M2 (.ptr (some ⟨M.next,j⟩))=a.cells[j]?:=fun j=>q0e g2
  have l2:ldN M2 (.ptr (some ⟨M.next,2⟩)) 2=some (.agg a.bal.cells):=by rw[q1b g2 (by simp)];rfl
  have b2:∀j:Nat,ld1 M2 (.ptr (some ⟨bb,j⟩))=[sp,sq,sa,AV.int .u64 st.latest][j]?:=fun j=>q0e (F2.get h1 (by simp))
  have lB:ldN M2 (.ptr (some ⟨bb,0⟩)) 4=some (.agg [sp,sq,sa,.int .u64 st.latest]):=q0X (F2.get h1 (by simp)) rfl;have hX:=q51 (H:=H27) rfl hb ok.small st.latest a.q1U M2 F2;have sg:=q9M (H:=H27) rfl oka.1 M2;have e5:=a0q a.bal.val;have hok:z2g st i=j6P st i a:=by unfold z2g;rw[xgq hlt,<-ha]
  have hp1:q6Z st (i+1)=a.id:=by unfold q6Z;rw[xFc,xgq hlt,<-ha];simp
  have ih':=ih (i+1) M2 (by omega) F2;rw[hp1]at ih';rw[q3S,hok];show Res M _ (.bool ((decide (q6Z st i<a.id)&&(decide (a.id<=st.latest)&&(decide (a.q1U∈st.q0d.map (·.name))&&decide (0<=a.bal.val)))&&_)&&_));have st1:D27.gor 630784 [.ptr (some ⟨bb,0⟩),.int .u64 (q6Z st i),sa,.int .i64 (st.q0s.length:Int),.int .i64 (i:Int)] M=D27.gor 630785 [.ptr (some ⟨bb,0⟩),.int .u64 (q6Z st i),sa,.int .i64 (st.q0s.length:Int),.int .i64 (i:Int)] M:=by
   simp only[z4c (H:=H27),z7S,p2,q0b,q0f,dt (show (i:Int)<(st.q0s.length:Int) by omega)]
  rw[st1];obtain⟨pv,hpv⟩:∃pv,pv=q6Z st i:=⟨_,rfl⟩;rw[<-hpv];simp only[q1v.cells]at x5 s2 a2;by_cases h1':a.id<=pv
  ·simp only[df (show ¬pv<a.id by omega),xAt];simp only[q48 (H:=H27),q8D,p2,q1,pB,p1,q0b,ifV,unA,q0f,x2,x5,s2,a2,dt h1'];exact Res.eq f2 rfl
  ·rw[dt (show pv<a.id by omega),xAs];by_cases h2:st.latest<a.id
   ·simp only[df (show ¬a.id<=st.latest by omega),xAt];simp only[q48 (H:=H27),q8D,p2,q1,pB,p1,q0b,ifV,unA,q0f,x2,x5,s2,a2,b2,df h1',dt h2];exact Res.eq f2 rfl
   ·rw[dt (show a.id<=st.latest by omega),xAs];cases hx:decide (a.q1U∈st.q0d.map (·.name)) with
    |false=>
     rw[hx]at hX;simp only[xAt];simp only[q48 (H:=H27),q8D,p2,q1,pB,p1,q0b,ifV,unA,q0f,x2,x5,s2,a2,b2,df h1',df h2,lB,hX,xbf];exact Res.eq f2 rfl
    |true=>
     rw[hx]at hX;rw[xAs];cases h0:decide (0<=a.bal.val) with
     |false=>
      rw[h0]at e5;simp only[xAt];simp only[q48 (H:=H27),q8D,p2,q1,pB,p1,q0b,ifV,unA,q0f,x2,x5,s2,a2,b2,df h1',df h2,lB,hX,xbt,xbf,l2,sg,e5];exact Res.eq f2 rfl
     |true=>
      rw[h0]at e5;rw[xAs];simp only[q48 (H:=H27),q8D,p2,q1,pB,p1,q0b,ifV,unA,q0f,x2,x5,s2,a2,b2,df h1',df h2,lB,hX,xbt,l2,sg,e5];simp only[j5g (H:=H27),j2j,p1,q1,q0f,a2];simp only[j5h (H:=H27),j2k,p2,q0f,show (i:Int)+1=((i+1:Nat):Int) by omega,wrap_i64 (n:=((i+1:Nat):Int)) (by omega) (by omega)];exact ih'.step f2
theorem a4c {sp sq sa:AV} (hb:BkV m sp sq sa st) (ok:q8z st):Res m (run E27 (.fn 154) [.agg [sp,sq,sa,.int .u64 st.latest]] m) (.bool (q3S (z2g st) st.q0s.length 0&&decide (st.latest<=72057594037927935))):=by
 obtain⟨M,hM⟩:∃M,M=m.lay (.cells [sp,sq,sa,.int .u64 st.latest] false):=⟨_,rfl⟩;have f1:Fr m M []:=by rw[hM];exact(Fr.refl m).lay _
 have g1:M.get m.next=some (.cells [sp,sq,sa,.int .u64 st.latest] false):=by rw[hM];exact q0k m _
 have a3:∀i:Nat,ld1 M (.ptr (some ⟨m.next,i⟩))=[sp,sq,sa,.int .u64 st.latest][i]?:=fun i=>q0e g1
 obtain⟨e,he,hs⟩:=uA;have hlen:=hb.a.q2e he;rw[xlm]at hlen;have lo:=j1i g1 (hb.q0m f1) ok st.q0s.length 0 M (by omega) (Fr.refl _);have hp0:q6Z st 0=0:=by unfold q6Z;split<;>simp
 rw[hp0]at lo;simp only[xAz]at lo;simp only[a9i (H:=H27) rfl,b6k,p1,q1,q00,q0f,AV.cells,on1,lcs,ge,xAd,xom,hb.p.one,hb.q.one,hb.a.one,<-hM,a3,hlen];exact lo.step f1
end
end
section
def S28:List FuncId:=[153,154,155]
noncomputable def H28:FuncId->Option (List AV->Mem->R):=q1R E27 S28
noncomputable abbrev E28:Env:=Ea H28
theorem b2B:q07 E28:=q0U b2A S28
noncomputable abbrev D28:Do:=Da H28
section
variable {H:FuncId->Option (List AV->Mem->R)} {m:Mem} {sp sq sa:AV} {st:LSt}
theorem b1d (hh:H 153=some (q0B E27 153)) (hb:BkV m sp sq sa st) (ok:q8z st) (M:Mem) (hM:Fr m M []):run (Ea H) (.fn 153) [.agg [sp,sq,sa,.int .u64 st.latest]] M=some (.bool (q3S (z2h st) st.pairs.length 0),M):=
 q0w hh (by simp[AV.flat,AV.lt]) fun m2 h1 h2=>b1e ((hb.q0m hM).q0m (Fr.same h1 h2)) ok
theorem a4b (hh:H 154=some (q0B E27 154)) (hb:BkV m sp sq sa st) (ok:q8z st) (M:Mem) (hM:Fr m M []):run (Ea H) (.fn 154) [.agg [sp,sq,sa,.int .u64 st.latest]] M=some (.bool (q3S (z2g st) st.q0s.length 0&&decide (st.latest<=72057594037927935)),M):=
 q0w hh (by simp[AV.flat,AV.lt]) fun m2 h1 h2=>a4c ((hb.q0m hM).q0m (Fr.same h1 h2)) ok
theorem a8m (hh:H 155=some (q0B E27 155)) (hb:BkV m sp sq sa st) (ok:q8z st) (lt:Int) (p:q0v) (hp:p.out.ok) (M:Mem) (hM:Fr m M []):run (Ea H) (.fn 155) [.agg [sp,sq,sa,.int .u64 lt],.agg p.cells] M=some (.bool (decide (j1K st.pairs st.q0s p=0)),M):=
 q0w hh (by simp[AV.flat,AV.lt]) fun m2 h1 h2=>a8n ((hb.q0m hM).q0m (Fr.same h1 h2)) ok lt p hp
end
def z1U (st:LSt) (i:Nat) (p:q0v):Bool:=q4R p.name&&(q73 st.q0d i (fun r=>q0g r.name p.name)&&(decide (0<=p.scale)&&decide (p.scale<=18)))
def z7j (st:LSt) (i:Nat):Bool:=match st.q0d[i]? with|some p=>z1U st i p|none=>false
def j1d (st:LSt) (i:Nat):Bool:=match st.q0d[i]? with|some p=>decide (j1K st.pairs st.q0s p=0)|none=>false
def q5h (st:LSt):Bool:=decide (1<=st.most)&&(decide (st.most<=64)&&(decide (st.q0d.length<=8)&&(decide ((st.q0s.length:Int)<=st.most)&&(q3S (z7j st) st.q0d.length 0&&(q3S (z2h st) st.pairs.length 0&&((q3S (z2g st) st.q0s.length 0&&decide (st.latest<=72057594037927935))&&q3S (j1d st) st.q0d.length 0))))))
section
variable {m:Mem} {bb:Nat} {st:LSt} {sp sq sa:AV}
theorem z5L (h1:m.get bb=some (.cells [sp,sq,sa,.int .u64 st.latest] false)) (hb:BkV m sp sq sa st) (ok:q8z st):∀(d i:Nat) (M:Mem),i+d=st.q0d.length->Fr m M []->
  ∃M',Fr M M' []/\D28.gor 303105 [.ptr (some ⟨bb,0⟩),sp,.int .i64 (st.q0d.length:Int),.int .i64 (i:Int)] M=if q3S (z7j st) d i=true then D28.gor 303108 [.ptr (some ⟨bb,0⟩)] M' else some (.bool false,M'):=by
 obtain⟨e,he,hs⟩:=uP;have hn:=ok.small.1;intro d;induction d with
 |zero=>
  intro i M hi hM;have:i=st.q0d.length:=by omega
  subst this;refine⟨M,Fr.refl _,?_⟩;simp only[z9v (H:=H28),a1a,p2,q0b,q0f,df (show ¬((st.q0d.length:Nat):Int)<(st.q0d.length:Int) by omega),q3S,xAd]
 |succ d ih=>
  intro i M hi hM;have hlt:i<st.q0d.length:=by omega
  obtain⟨bs,o,_,x2,_,_,x5⟩:=(hb.p.q0m hM).ixT he hs (i:=i) (by rw[xlm];exact hlt);rw[xgm]at x5;obtain⟨q,hq⟩:∃q,q=st.q0d[i]:=⟨_,rfl⟩;have mq:q∈st.q0d:=by rw[hq];exact xAf hlt
  rw[<-hq]at x5;obtain⟨M2,hM2⟩:∃M2,M2=M.lay (.cells q.cells false):=⟨_,rfl⟩;have f2:Fr M M2 []:=by rw[hM2];exact(Fr.refl M).lay _
  have F2:Fr m M2 []:=hM.step0 f2;have s2:stV (M.lay (.cells [.str [],.int .i64 0,.int .i64 0,.int .u64 0] false)) (.ptr (some ⟨M.next,0⟩)) (.agg q.cells) 4=some M2:=by rw[q14 (n:=4) (q0k M _) rfl rfl rfl,q1S,hM2]
  have g2:M2.get M.next=some (.cells q.cells false):=by rw[hM2];exact q0k M _
  have a2:∀j:Nat,ld1 M2 (.ptr (some ⟨M.next,j⟩))=q.cells[j]?:=fun j=>q0e g2
  have b2:∀j:Nat,ld1 M2 (.ptr (some ⟨bb,j⟩))=[sp,sq,sa,AV.int .u64 st.latest][j]?:=fun j=>q0e (F2.get h1 (by simp))
  have hok:z7j st i=z1U st i q:=by unfold z7j;rw[xgq hlt,<-hq]
  have nm:=(b4Z (H:=H28) (f:=152) rfl _ _).trans (b0N q.name (ok.p q mq).2 M2);have st1:D28.gor 303105 [.ptr (some ⟨bb,0⟩),sp,.int .i64 (st.q0d.length:Int),.int .i64 (i:Int)] M=D28.gor 303106 [.ptr (some ⟨bb,0⟩),sp,.int .i64 (st.q0d.length:Int),.int .i64 (i:Int)] M:=by
   simp only[z9v (H:=H28),a1a,p2,q0b,q0f,dt (show (i:Int)<(st.q0d.length:Int) by omega)]
  have nx:D28.gor 303107 [.ptr (some ⟨bb,0⟩),sp,.int .i64 (st.q0d.length:Int),.int .i64 (i:Int)] M2=D28.gor 303105 [.ptr (some ⟨bb,0⟩),sp,.int .i64 (st.q0d.length:Int),.int .i64 ((i+1:Nat):Int)] M2:=by
   simp only[a2P (H:=H28),a7J,p2,q0f,show (i:Int)+1=((i+1:Nat):Int) by omega,wrap_i64 (n:=((i+1:Nat):Int)) (by omega) (by omega)]
  have rd:D28.gor 303105 [.ptr (some ⟨bb,0⟩),sp,.int .i64 (st.q0d.length:Int),.int .i64 (i:Int)] M=if z1U st i q=true then D28.gor 303107 [.ptr (some ⟨bb,0⟩),sp,.int .i64 (st.q0d.length:Int),.int .i64 (i:Int)] M2 else some (.bool false,M2):=by
   rw[st1];unfold z1U;simp only[q0v.cells]at x5 s2 a2;cases hnm:q4R q.name with
   |false=>
    rw[hnm]at nm;simp only[q34 (H:=H28),q90,p2,q1,pB,p1,q0b,ifV,unA,q0f,x2,x5,s2,a2,nm,xbf,xAt,xbq,xAh]
   |true=>
    rw[hnm]at nm;rw[xAs];have sc:∀r:R,(if q.scale<0 then some (AV.bool false,M2) else if 18<q.scale then some (.bool false,M2) else r)=if (decide (0<=q.scale)&&decide (q.scale<=18))=true then r else some (.bool false,M2):=by
     intro r;by_cases s1:q.scale<0
     ·rw[xAb s1,df (show ¬0<=q.scale by omega),xAt,xAa (by decide)]
     ·rw[xAa s1,dt (show 0<=q.scale by omega),xAs];by_cases s2:18<q.scale
      ·rw[xAb s2,df (show ¬q.scale<=18 by omega),xAa (by decide)]
      ·rw[xAa s2,dt (show q.scale<=18 by omega),xAb rfl]
    have ifd:∀(p:Prop) [Decidable p] (x y:R),(match AV.bool (decide p) with | .bool true=>x | .bool false=>y | _=>none)=if p then x else y:=by
     intro p _ x y;by_cases h:p
     ·rw[xAb h,dt h]
     ·rw[xAa h,df h]
    by_cases h0:i=0
    ·have hp:q73 st.q0d i (fun r=>q0g r.name q.name)=true:=by unfold q73;rw[dt h0,Bool.true_or]
     rw[hp,xAs,<-sc];by_cases s1:q.scale<0
     ·simp only[q34 (H:=H28),q90,p2,q1,pB,p1,q0b,ifV,unA,q0f,x2,x5,s2,a2,nm,xbt,df (show ¬(0:Int)<(i:Int) by omega),dt s1,xAb s1]
     ·by_cases s3:18<q.scale
      ·simp only[q34 (H:=H28),q90,p2,q1,pB,p1,q0b,ifV,unA,q0f,x2,x5,s2,a2,nm,xbt,df (show ¬(0:Int)<(i:Int) by omega),df s1,xAa s1,dt s3,xAb s3]
      ·simp only[q34 (H:=H28),q90,p2,q1,pB,p1,q0b,ifV,unA,q0f,x2,x5,s2,a2,nm,xbt,df (show ¬(0:Int)<(i:Int) by omega),df s1,xAa s1,df s3,xAa s3]
    ·obtain⟨bs',o',_,y2,y3,_,_⟩:=(hb.p.q0m F2).ixT he hs (i:=i-1) (by rw[xlm];omega);have y0:=y3 0 (by omega);rw[xgm]at y0;obtain⟨r,hr⟩:∃r,r=st.q0d[i-1]'(by omega):=⟨_,rfl⟩;have hr2:st.q0d[i-1]? = some r:=by rw[xgq (by omega),hr]
     rw[<-hr]at y0;simp only[ge,q0v.cells,xna]at y0;have w1:IntKind.wrap .i64 ((i:Int)-1)=((i-1:Nat):Int):=by rw[wrap_i64 (by omega) (by omega)];omega
     have hp:q73 st.q0d i (fun r=>q0g r.name q.name)=q0g r.name q.name:=by unfold q73;rw[df h0,Bool.false_or,hr2]
     have ci:=dt (show (0:Int)<(i:Int) by omega);rw[hp];cases hl:q0g r.name q.name with
     |false=>
      simp only[q34 (H:=H28),q90,p2,q1,pB,p1,q0b,ifV,unA,q0f,x2,x5,s2,a2,nm,xbt,ci,b2,w1,y2,y0,hl,xbf,xAt,xbq,xAh]
     |true=>
      rw[xAs,<-sc];by_cases s1:q.scale<0
      ·simp only[q34 (H:=H28),q90,p2,q1,pB,p1,q0b,ifV,unA,q0f,x2,x5,s2,a2,nm,xbt,ci,b2,w1,y2,y0,hl,dt s1,xAb s1]
      ·by_cases s3:18<q.scale
       ·simp only[q34 (H:=H28),q90,p2,q1,pB,p1,q0b,ifV,unA,q0f,x2,x5,s2,a2,nm,xbt,ci,b2,w1,y2,y0,hl,df s1,xAa s1,dt s3,xAb s3]
       ·simp only[q34 (H:=H28),q90,p2,q1,pB,p1,q0b,ifV,unA,q0f,x2,x5,s2,a2,nm,xbt,ci,b2,w1,y2,y0,hl,df s1,xAa s1,df s3,xAa s3]
  rw[rd,q3S,hok,nx];cases hg:z1U st i q with
  |true=>
   obtain⟨M',g1,g2⟩:=ih (i+1) M2 (by omega) F2;exact⟨M',f2.step0 g1,by rw[xAb rfl,g2,xAs]⟩
  |false=>exact⟨M2,f2,by rw[xAa (by decide),xAt,xAa (by decide)]⟩
theorem j91 (h1:m.get bb=some (.cells [sp,sq,sa,.int .u64 st.latest] false)) (hb:BkV m sp sq sa st) (ok:q8z st):∀(d i:Nat) (M:Mem),i+d=st.q0d.length->Fr m M []->
  Res M (D28.gor 303110 [.ptr (some ⟨bb,0⟩),sp,.int .i64 (st.q0d.length:Int),.int .i64 (i:Int)] M) (.bool (q3S (j1d st) d i)):=by
 obtain⟨e,he,hs⟩:=uP;have hn:=ok.small.1;intro d;induction d with
 |zero=>
  intro i M hi hM;have:i=st.q0d.length:=by omega
  subst this;simp only[z1O (H:=H28),j3B,p2,q0b,q0f,df (show ¬((st.q0d.length:Nat):Int)<(st.q0d.length:Int) by omega),a2S (H:=H28),a7M,q0f];exact Res.eq (Fr.refl _) rfl
 |succ d ih=>
  intro i M hi hM;have hlt:i<st.q0d.length:=by omega
  obtain⟨bs,o,_,x2,_,_,x5⟩:=(hb.p.q0m hM).ixT he hs (i:=i) (by rw[xlm];exact hlt);rw[xgm]at x5;obtain⟨q,hq⟩:∃q,q=st.q0d[i]:=⟨_,rfl⟩;have mq:q∈st.q0d:=by rw[hq];exact xAf hlt
  rw[<-hq]at x5;obtain⟨M2,hM2⟩:∃M2,M2=M.lay (.cells q.cells false):=⟨_,rfl⟩;have f2:Fr M M2 []:=by rw[hM2];exact(Fr.refl M).lay _
  have F2:Fr m M2 []:=hM.step0 f2;have s2:stV (M.lay (.cells [.str [],.int .i64 0,.int .i64 0,.int .u64 0] false)) (.ptr (some ⟨M.next,0⟩)) (.agg q.cells) 4=some M2:=by rw[q14 (n:=4) (q0k M _) rfl rfl rfl,q1S,hM2]
  have g2:M2.get M.next=some (.cells q.cells false):=by rw[hM2];exact q0k M _
  have l2:ldN M2 (.ptr (some ⟨M.next,0⟩)) 4=some (.agg q.cells):=q0X g2 rfl
  have lB:ldN M2 (.ptr (some ⟨bb,0⟩)) 4=some (.agg [sp,sq,sa,.int .u64 st.latest]):=q0X (F2.get h1 (by simp)) rfl;have hok:j1d st i=decide (j1K st.pairs st.q0s q=0):=by unfold j1d;rw[xgq hlt,<-hq]
  have ba:=a8m (H:=H28) rfl hb ok st.latest q (ok.p q mq).1 M2 F2;rw[q3S,hok];cases hv:decide (j1K st.pairs st.q0s q=0) with
  |false=>
   rw[hv]at ba;simp only[z1O (H:=H28),j3B,p2,q0b,q0f,dt (show (i:Int)<(st.q0d.length:Int) by omega)];simp only[z9w (H:=H28),a1b,p2,q1,pB,p1,q0b,unA,q0f,x2,x5,s2,l2,lB,ba,xbf,xAt];exact Res.eq f2 rfl
  |true=>
   rw[hv]at ba;simp only[z1O (H:=H28),j3B,p2,q0b,q0f,dt (show (i:Int)<(st.q0d.length:Int) by omega)];simp only[z9w (H:=H28),a1b,p2,q1,pB,p1,q0b,unA,q0f,x2,x5,s2,l2,lB,ba,xbt,xAs];simp only[a2R (H:=H28),a7L,p2,q0f,show (i:Int)+1=((i+1:Nat):Int) by omega,wrap_i64 (n:=((i+1:Nat):Int)) (by omega) (by omega)];exact(ih (i+1) M2 (by omega) F2).step f2
theorem a4o (hb:BkV m sp sq sa st) (ok:q8z st):Res m (run E28 (.fn 74) [.agg [sp,sq,sa,.int .u64 st.latest],.int .i64 st.most] m) (.bool (q5h st)):=by
 obtain⟨M,hM⟩:∃M,M=m.lay (.cells [sp,sq,sa,.int .u64 st.latest] false):=⟨_,rfl⟩;have f1:Fr m M []:=by rw[hM];exact(Fr.refl m).lay _
 have g1:M.get m.next=some (.cells [sp,sq,sa,.int .u64 st.latest] false):=by rw[hM];exact q0k m _
 have a3:∀i:Nat,ld1 M (.ptr (some ⟨m.next,i⟩))=[sp,sq,sa,.int .u64 st.latest][i]?:=fun i=>q0e g1
 obtain⟨eP,uP1,uP2⟩:=uP;obtain⟨eA,uA1,uA2⟩:=uA;have lp:=hb.p.q2e uP1;have la:=hb.a.q2e uA1;rw[xlm]at lp la;have hbM:=hb.q0m f1;unfold q5h;have no:∀{v:Bool},v=false->Res m (some (.bool false,M)) (.bool v):=fun h=>Res.eq f1 (by rw[h])
 by_cases m1:st.most<1
 ·simp only[z3P (H:=H28) rfl,F74,p2,p1,q1,q00,q0b,ifV,q0f,AV.cells,on1,lcs,xAd,xom,hb.p.one,hb.q.one,hb.a.one,<-hM,dt m1];exact no (by rw[df (show ¬1<=st.most by omega),xAt])
 ·rw[dt (show 1<=st.most by omega),xAs];by_cases m2:64<st.most
  ·simp only[z3P (H:=H28) rfl,F74,p2,p1,q1,q00,q0b,ifV,q0f,AV.cells,on1,lcs,xAd,xom,hb.p.one,hb.q.one,hb.a.one,<-hM,df m1,dt m2];exact no (by rw[df (show ¬st.most<=64 by omega),xAt])
  ·rw[dt (show st.most<=64 by omega),xAs];by_cases m3:8<(st.q0d.length:Int)
   ·simp only[z3P (H:=H28) rfl,F74,p2,p1,q1,q00,q0b,ifV,q0f,AV.cells,on1,lcs,ge,xAd,xom,hb.p.one,hb.q.one,hb.a.one,<-hM,df m1,df m2,a3,lp,dt m3];exact no (by rw[df (show ¬st.q0d.length<=8 by omega),xAt])
   ·rw[dt (show st.q0d.length<=8 by omega),xAs];by_cases m4:st.most<(st.q0s.length:Int)
    ·simp only[z3P (H:=H28) rfl,F74,p2,p1,q1,q00,q0b,ifV,q0f,AV.cells,on1,lcs,ge,xAd,xom,hb.p.one,hb.q.one,hb.a.one,<-hM,df m1,df m2,a3,lp,df m3,la,dt m4];exact no (by rw[df (show ¬(st.q0s.length:Int)<=st.most by omega),xAt])
    ·rw[dt (show (st.q0s.length:Int)<=st.most by omega),xAs];obtain⟨M1,p1,p2⟩:=z5L g1 hbM ok st.q0d.length 0 M (by omega) (Fr.refl _);simp only[xAz]at p2;simp only[z3P (H:=H28) rfl,F74,q1,q00,q0b,ifV,q0f,AV.cells,on1,lcs,ge,xAd,xom,hb.p.one,hb.q.one,hb.a.one,<-hM,df m1,df m2,a3,lp,df m3,la,df m4];simp only[a2O (H:=H28),a7I,q1,q0f,a3,lp]
     rw[p2];have F1:=f1.step0 p1;cases hp:q3S (z7j st) st.q0d.length 0 with
     |false=>
      rw[xAa (by decide),xAt];exact Res.eq F1 rfl
     |true=>
      rw[xAb rfl,xAs];have lB:ldN M1 (.ptr (some ⟨m.next,0⟩)) 4=some (.agg [sp,sq,sa,.int .u64 st.latest]):=q0X (p1.get g1 (by simp)) rfl
      have a31:∀i:Nat,ld1 M1 (.ptr (some ⟨m.next,i⟩))=[sp,sq,sa,.int .u64 st.latest][i]?:=fun i=>q0e (p1.get g1 (by simp))
      have rq:=b1d (H:=H28) rfl hb ok M1 F1;have ra:=a4b (H:=H28) rfl hb ok M1 F1;cases hq:q3S (z2h st) st.pairs.length 0 with
      |false=>
       rw[hq]at rq;rw[xAt];simp only[z1N (H:=H28),j3A,q1,q0b,ifV,unA,q0f,lB,rq,xbf];exact Res.eq F1 rfl
      |true=>
       rw[hq]at rq;rw[xAs];cases ha:(q3S (z2g st) st.q0s.length 0&&decide (st.latest<=72057594037927935)) with
       |false=>
        rw[ha]at ra;rw[xAt];simp only[z1N (H:=H28),j3A,q1,q0b,ifV,unA,q0f,lB,rq,ra,xbf,xbt];exact Res.eq F1 rfl
       |true=>
        rw[ha]at ra;rw[xAs];have lo:=j91 (p1.get g1 (by simp)) (hb.q0m F1) ok st.q0d.length 0 M1 (by omega) (Fr.refl _);simp only[xAz]at lo;simp only[z1N (H:=H28),j3A,q1,q0b,ifV,unA,q0f,lB,rq,ra,xbt];simp only[a2Q (H:=H28),a7K,q1,q0f,a31,lp];exact lo.step F1
end
end
end Go.Proofs.YtkbhcgifnnhbaaaGreatDoor
