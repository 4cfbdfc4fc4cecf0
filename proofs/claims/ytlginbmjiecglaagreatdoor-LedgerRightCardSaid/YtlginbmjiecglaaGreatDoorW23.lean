/- Texts of one claim, put together. -/
import Derived.Test.YtlginbmjiecglaaGreatDoorW22
namespace Go.Proofs.YtlginbmjiecglaaGreatDoor
section
set_option maxRecDepth 4000
open Go Go.Abs
structure a7P (m:Mem) (b:Nat) (st:LSt):Prop where
 ex:∃sp sq sa,m.get b=some (.cells [sp,sq,sa,.int .u64 st.latest] false)/\BkV m sp sq sa st
theorem a7P.q0k {m m':Mem} {b:Nat} {st:LSt} (h:a7P m b st) (hf:Fr m m' []):a7P m' b st:=by
 obtain⟨sp,sq,sa,h1,h2⟩:=h.ex;exact⟨sp,sq,sa,hf.get h1 (by simp),h2.q0k hf⟩
section
variable {m:Mem} {sp:AV} {ps:List q0r}
theorem j3Y (hv:q3K 4 m sp (ps.map (·.cells))) (hl:ps.length<=1000000000000000000) (k:List UInt8):∀(d i:Nat) (M:Mem),i+d=ps.length->Fr m M []->
  Res M (D26.gor 372736 [.str k,sp,.int .i64 (ps.length:Int),.int .i64 (i:Int)] M) (.bool (decide (k∈(ps.drop i).map (·.name)))):=by
 obtain⟨e,he,hs⟩:=uP;intro d;induction d with
 |zero=>
  intro i M hi hM;have:i=ps.length:=by omega
  subst this;rw[List.drop_length];simp only[z3W (H:=H26),T.j8O,p2,q0b,wp,df (show ¬((ps.length:Nat):Int)<(ps.length:Int) by omega),j3O (H:=H26),T.a5p,wp];exact Res.eq (Fr.refl _) (by simp)
 |succ d ih=>
  intro i M hi hM;have hlt:i<ps.length:=by omega
  obtain⟨bs,o,_,x2,_,_,x5⟩:=(hv.q0k hM).ixT he hs (i:=i) (by rw[xlm];exact hlt);rw[xgm]at x5;obtain⟨M2,hM2⟩:∃M2,M2=M.lay (.cells ps[i].cells false):=⟨_,rfl⟩;have f2:Fr M M2 []:=by rw[hM2];exact(Fr.refl M).lay _
  have s2:stV (M.lay (.cells [.str [],.int .i64 0,.int .i64 0,.int .u64 0] false)) (.ptr (some ⟨M.next,0⟩)) (.agg ps[i].cells) 4=some M2:=by rw[q07 (n:=4) (q0e M _) rfl rfl rfl,q03,hM2]
  have a2:∀j:Nat,ld1 M2 (.ptr (some ⟨M.next,j⟩))=ps[i].cells[j]?:=fun j=>by rw[hM2];exact q0f (q0e M _)
  have hc:decide (k∈(ps.drop i).map (·.name))=(decide (ps[i].name=k)||decide (k∈(ps.drop (i+1)).map (·.name))):=by
   rw[List.drop_eq_getElem_cons hlt,List.map_cons,Bool.eq_iff_iff];simp only[Bool.or_eq_true,decide_eq_true_eq,xmk0];exact⟨fun h=>h.imp Eq.symm id,fun h=>h.imp Eq.symm id⟩
  rw[hc];simp only[q0r.cells]at a2 s2 x5;simp only[z3W (H:=H26),T.j8O,p2,q0b,wp,dt (show (i:Int)<(ps.length:Int) by omega)];simp only[j3M (H:=H26),T.a5n,p2,q1,pB,p1,q0b,q0d,x2,x5,s2,a2];by_cases h:ps[i].name=k
  ·simp only[dt h,Bool.true_or];exact Res.eq f2 rfl
  ·simp only[df h,Bool.false_or];simp only[j3N (H:=H26),T.a5o,p2,wp,show (i:Int)+1=((i+1:Nat):Int) by omega,wrap_i64 (n:=((i+1:Nat):Int)) (by omega) (by omega)];exact(ih (i+1) M2 (by omega) (hM.step0 f2)).step f2
end
section
variable {m:Mem} {sp sq sa:AV} {st:LSt}
theorem a5v (hb:BkV m sp sq sa st) (hn:q8a st) (lt:Int) (k:List UInt8):Res m (run E26 (.fn 91) [.agg [sp,sq,sa,.int .u64 lt],.str k] m) (.bool (decide (k∈st.q0a.map (·.name)))):=by
 obtain⟨M,hM⟩:∃M,M=m.lay (.cells [sp,sq,sa,.int .u64 lt] false):=⟨_,rfl⟩;have f1:Fr m M []:=by rw[hM];exact(Fr.refl m).lay _
 have a3:∀i:Nat,ld1 M (.ptr (some ⟨m.next,i⟩))=[sp,sq,sa,.int .u64 lt][i]?:=fun i=>by rw[hM];exact q0f (q0e m _)
 obtain⟨e,he,hs⟩:=uP;have hlen:=hb.p.q1M he;rw[xlm]at hlen;have lo:=j3Y (hb.p.q0k f1) hn.1 k st.q0a.length 0 M (by omega) (Fr.refl _);rw[List.drop_zero]at lo;simp only[Int.natCast_zero]at lo;simp only[a2q (H:=H26) rfl,T.f91,p1,q1,q0N,q0d,AV.cells,on1,lcs,ge,if_true,xom,hb.p.one,hb.q.one,hb.a.one,<-hM,a3,hlen];exact lo.step f1
end
def z1h (t:Int):List AV:=[.int .i64 (t / 18446744073709551616 / 18446744073709551616),.int .u64 (t / 18446744073709551616 % 18446744073709551616),.int .u64 (t % 18446744073709551616)]
section
variable {M:Mem} {c:Nat}
theorem z4t {h l:Int} (hc:M.get c=some (.cells [.int .i64 (h / 18446744073709551616),.int .u64 (h % 18446744073709551616),.int .u64 l] false)) {w:Wd} (hw:w.ok) {b:Nat} (hb:M.get b=some (.cells w.cells false)) (h1:-85070591730234615865843651857942052864<=h) (h2:h<85070591730234615865843651857942052864) :
  D26.gor 385024 [.ptr (some ⟨c,0⟩),.ptr (some ⟨b,0⟩)] M=some (.undef,M.put c (some (.cells [.int .i64 ((h+w.hi) / 18446744073709551616),.int .u64 ((h+w.hi) % 18446744073709551616),.int .u64 l] false))):=by
 obtain⟨w1,w2,w3,w4⟩:=hw;have fh:q0M h=true:=q0X (by omega) (by omega);have fw:q0M w.hi=true:=q0X (by omega) (by omega);have fs:q0M (h+w.hi)=true:=q0X (by omega) (by omega);have o:=fun m=>a7f (H:=H26) rfl w1 w2 m
 have ad:=fun m=>j48 (H:=H26) rfl (Wd.q3y fh) (Wd.q3y fw) m
 rw[Wd.q1t,Wd.q1t,q1u fs]at ad;have l2:ldN M (.ptr (some ⟨c,0⟩)) 2=some (.agg (Wd.of h).cells):=by rw[q1a hc (by simp)];rfl
 have b1:∀i:Nat,ld1 M (.ptr (some ⟨b,i⟩))=w.cells[i]?:=fun i=>q0f hb
 have s2:=q1B (v:=.agg (Wd.of (h+w.hi)).cells) (o:=0) (n:=2) hc (q09 rfl) rfl (by simp);simp only[Wd.cells,Wd.of,List.take_zero,List.nil_append,xnz,List.drop_succ_cons,List.drop_zero,List.cons_append]at o ad l2 b1 s2;simp only[j3R (H:=H26),T.a5r,p1,q1,nnA,q0l,q1b,l2,b1,o,if_true,ad,s2]
theorem q9B {t:Int} (hc:M.get c=some (.cells (z1h t) false)) {w:Wd} (hw:w.ok) (h1:-784637716923335095479473677900958302012794430558004314112<=t) (h2:t<784637716923335095479473677900958302012794430558004314112) :
  ∃M',run E26 (.fn 94) [.ptr (some ⟨c,0⟩),.agg w.cells] M=some (.undef,M')/\M'.get c=some (.cells (z1h (t+w.val)) false)/\Fr M M' [c]:=by
 have hw':=hw;obtain⟨w1,w2,w3,w4⟩:=hw;have lc:=Mem.q0v hc;obtain⟨h,hh⟩:∃h,h=t / 18446744073709551616:=⟨_,rfl⟩;obtain⟨l,hl⟩:∃l,l=t % 18446744073709551616:=⟨_,rfl⟩;obtain⟨M1,hM1⟩:∃M1,M1=M.lay (.cells w.cells false):=⟨_,rfl⟩;have f1:Fr M M1 []:=by rw[hM1];exact(Fr.refl M).lay _
 have c1:M1.get c=some (.cells [.int .i64 (h / 18446744073709551616),.int .u64 (h % 18446744073709551616),.int .u64 l] false):=by rw[hh,hl];exact f1.get hc (by simp)
 have b1:M1.get M.next=some (.cells w.cells false):=by rw[hM1];exact q0e _ _
 obtain⟨k,hk⟩:∃k,k=(l+w.lo) % 18446744073709551616:=⟨_,rfl⟩;obtain⟨M2,hM2⟩:∃M2,M2=M1.put c (some (.cells [.int .i64 (h / 18446744073709551616),.int .u64 (h % 18446744073709551616),.int .u64 k] false)):=⟨_,rfl⟩;have f2:Fr M1 M2 [c]:=by rw[hM2];exact Fr.put _ _ _
 have c2:M2.get c=some (.cells [.int .i64 (h / 18446744073709551616),.int .u64 (h % 18446744073709551616),.int .u64 k] false):=by rw[hM2];exact q0w c1
 have b2:M2.get M.next=some (.cells w.cells false):=f2.get b1 (by simp;omega)
 have s1:stV M1 (.ptr (some ⟨c,2⟩)) (.int .u64 k) 1=some M2:=by
  have:=q1B (v:=.int .u64 k) (o:=2) (n:=1) c1 rfl rfl (by simp);rw[hM2];simpa using this
 have a1:∀i:Nat,ld1 M1 (.ptr (some ⟨c,i⟩))=[AV.int .i64 (h / 18446744073709551616),.int .u64 (h % 18446744073709551616),.int .u64 l][i]?:=fun i=>q0f c1
 have a2:∀i:Nat,ld1 M2 (.ptr (some ⟨c,i⟩))=[AV.int .i64 (h / 18446744073709551616),.int .u64 (h % 18446744073709551616),.int .u64 k][i]?:=fun i=>q0f c2
 have e1:∀i:Nat,ld1 M1 (.ptr (some ⟨M.next,i⟩))=w.cells[i]?:=fun i=>q0f b1
 have e2:∀i:Nat,ld1 M2 (.ptr (some ⟨M.next,i⟩))=w.cells[i]?:=fun i=>q0f b2
 have wk:IntKind.wrap .u64 (l+w.lo)=k:=by rw[q0m,hk]
 have fr2:Fr M M2 [c]:=(f1.any _).step f2 (fun c hc=>.inl hc)
 by_cases hlt:k<w.lo
 ·have fh:q0M h=true:=q0X (by omega) (by omega);have fs:q0M (h+1)=true:=q0X (by omega) (by omega);have o:=fun m=>a7f (H:=H26) rfl (n:=1) (by omega) (by omega) m
  have ad:=fun m=>j48 (H:=H26) rfl (Wd.q3y fh) (Wd.q3y (n:=1) (q0X (by omega) (by omega))) m
  rw[Wd.q1t,Wd.q1t,q1u fs]at ad;have l2:ldN M2 (.ptr (some ⟨c,0⟩)) 2=some (.agg (Wd.of h).cells):=by rw[q1a c2 (by simp)];rfl
  have s2:=q1B (v:=.agg (Wd.of (h+1)).cells) (o:=0) (n:=2) c2 (q09 rfl) rfl (by simp);obtain⟨M3,hM3⟩:∃M3,M3=M2.put c (some (.cells [.int .i64 ((h+1) / 18446744073709551616),.int .u64 ((h+1) % 18446744073709551616),.int .u64 k] false)):=⟨_,rfl⟩;have f3:Fr M2 M3 [c]:=by rw[hM3];exact Fr.put _ _ _
  have c3:M3.get c=some (.cells [.int .i64 ((h+1) / 18446744073709551616),.int .u64 ((h+1) % 18446744073709551616),.int .u64 k] false):=by rw[hM3];exact q0w c2
  have en:=z4t c3 hw' (f3.get b2 (by simp;omega)) (by omega) (by omega);refine⟨M3.put c (some (.cells [.int .i64 ((h+1+w.hi) / 18446744073709551616),.int .u64 ((h+1+w.hi) % 18446744073709551616),.int .u64 k] false)),?_,(q0w c3).trans ?_,(fr2.step f3 (fun c hc=>.inl hc)).put' (.inl (by simp))⟩
  ·simp only[Wd.cells,Wd.of,List.take_zero,List.nil_append,xnz,List.drop_succ_cons,List.drop_zero,List.cons_append]at o ad l2 s2 e1 e2 hM1;rw[<-hM3]at s2;simp only[j5t (H:=H26) rfl,T.f94,p1,q1,p2,q0N,nnA,q0l,q0b,q1b,AV.cells,on1,lcs,ge,if_true,xom,Wd.cells,<-hM1,a1,e1,wk,s1,a2,e2,dt hlt,l2,o,ad,s2,en]
  ·unfold z1h Wd.val;have q1:(t+(w.hi*18446744073709551616+w.lo)) / 18446744073709551616=h+1+w.hi:=by omega
   have q2:(t+(w.hi*18446744073709551616+w.lo)) % 18446744073709551616=k:=by omega
   rw[q1,q2]
 ·have en:=z4t c2 hw' b2 (by omega) (by omega);refine⟨M2.put c (some (.cells [.int .i64 ((h+w.hi) / 18446744073709551616),.int .u64 ((h+w.hi) % 18446744073709551616),.int .u64 k] false)),?_,(q0w c2).trans ?_,fr2.put' (.inl (by simp))⟩
  ·simp only[Wd.cells]at e1 e2 hM1;simp only[j5t (H:=H26) rfl,T.f94,p1,q1,p2,q0N,nnA,q0l,q0b,q1b,AV.cells,on1,lcs,ge,if_true,xom,Wd.cells,<-hM1,a1,e1,wk,s1,a2,e2,df hlt,en]
  ·unfold z1h Wd.val;have q1:(t+(w.hi*18446744073709551616+w.lo)) / 18446744073709551616=h+w.hi:=by omega
   have q2:(t+(w.hi*18446744073709551616+w.lo)) % 18446744073709551616=k:=by omega
   rw[q1,q2]
theorem j4X {t:Int} (hc:M.get c=some (.cells (z1h t) false)) (h1:-784637716923335095479473677900958302012794430558004314112<=t) (h2:t<784637716923335095479473677900958302012794430558004314112):run E26 (.fn 95) [.ptr (some ⟨c,0⟩)] M=some (.bool (decide (t=0)),M):=by
 have a1:∀i:Nat,ld1 M (.ptr (some ⟨c,i⟩))=(z1h t)[i]?:=fun i=>q0f hc
 have fh:q0M (t / 18446744073709551616)=true:=q0X (by omega) (by omega);have l2:ldN M (.ptr (some ⟨c,0⟩)) 2=some (.agg (Wd.of (t / 18446744073709551616)).cells):=by rw[q1a hc (by simp[z1h])];rfl
 have sg:=q7m (H:=H26) rfl (Wd.q3y fh) M;rw[Wd.q1t]at sg;simp only[Wd.cells,Wd.of,z1h]at a1 l2 sg;by_cases h:t % 18446744073709551616=0
 ·have e:decide (sgn (t / 18446744073709551616)=0)=decide (t=0):=by
   unfold sgn;apply decide_eq_decide.mpr;split
   ·omega
   ·split<;>omega
  simp only[j5u (H:=H26) rfl,T.f95,p1,q1,p2,nnA,ifV,q0d,a1,dt h,l2,sg,e]
 ·simp only[j5u (H:=H26) rfl,T.f95,p1,q1,p2,nnA,ifV,q0d,a1,df h,df (show ¬t=0 by omega)]
end
end
section
set_option maxRecDepth 4000
open Go Go.Abs
def S27:List FuncId:=[91]
def R27:List FuncId:=[94,95,9]
noncomputable def H27:FuncId->Option (List AV->Mem->R):=q33 E26 S27 R27
noncomputable abbrev E27:Env:=T.EH H27
theorem a1h:q1i E27:=q2v a1g S27 R27
noncomputable abbrev D27:Do:=T.Rl H27
theorem z5w {H:FuncId->Option (List AV->Mem->R)} {f:FuncId} (h:H f=some (run E26 (.fn f))) (xs:List AV) (m:Mem):run (T.EH H) (.fn f) xs m=run E26 (.fn f) xs m:=q00 h xs m
theorem q31 {H:FuncId->Option (List AV->Mem->R)} (hh:H 91=some (q0x E26 91)) {m:Mem} {sp sq sa:AV} {st:LSt} (hb:BkV m sp sq sa st) (hn:q8a st) (lt:Int) (k:List UInt8) (M:Mem) (hM:Fr m M []) :
  run (T.EH H) (.fn 91) [.agg [sp,sq,sa,.int .u64 lt],.str k] M=some (.bool (decide (k∈st.q0a.map (·.name))),M):=
 q0s hh (by simp[AV.flat,AV.lt]) fun m2 h1 h2=>a5v ((hb.q0k hM).q0k (Fr.same h1 h2)) hn lt k
structure q2P (st:LSt):Prop where
 small:q8a st
 p:∀p∈st.q0a,p.out.ok/\p.name.length<4611686018427387904
 q:∀q∈st.pairs,q.rate.ok/\q.inx.ok/\q.q1H.ok/\q.x.length<4611686018427387904/\q.y.length<4611686018427387904
 a:∀a∈st.q0j,a.bal.ok/\0<=a.id/\a.id<18446744073709551616/\a.q1C.length<4611686018427387904
 lat:0<=st.latest/\st.latest<18446744073709551616
def near (t:Int) (n:Nat):Prop:=-(170141183460469231731687303715884105728*(n:Int))<=t/\t<=170141183460469231731687303715884105728*(n:Int)
theorem near.add {t:Int} {n:Nat} (h:near t n) {w:Wd} (hw:w.ok):near (t+w.val) (n+1):=by
 obtain⟨h1,h2⟩:=h;obtain⟨w1,w2,w3,w4⟩:=hw;unfold near Wd.val;omega
theorem near.up {t:Int} {n k:Nat} (h:near t n) (hk:n<=k):near t k:=by
 obtain⟨h1,h2⟩:=h;unfold near;omega
theorem near.small {t:Int} {n:Nat} (h:near t n) (hn:n<=4000000000000000000):-784637716923335095479473677900958302012794430558004314112<=t/\t<784637716923335095479473677900958302012794430558004314112:=by
 obtain⟨h1,h2⟩:=h;omega
section
variable {m m0:Mem} {sp sq sa:AV} {st:LSt} {bb pb c:Nat} {p:q0r}
theorem j1a (hb:BkV m sp sq sa st) (ok:q2P st) (f0:Fr m m0 []) (hp:m0.get pb=some (.cells p.cells false)) (hpc:pb≠c) (hcm:m.next<=c) (t2:AV):∀(d i:Nat) (M:Mem) (t:Int),i+d=st.q0j.length->Fr m0 M [c]->M.get c=some (.cells (z1h t) false)->near t (i+1)->
  ∃M',D27.gor 200704 [t2,.ptr (some ⟨pb,0⟩),.ptr (some ⟨c,0⟩),sa,.int .i64 (st.q0j.length:Int),.int .i64 (i:Int)] M=D27.gor 200707 [t2,.ptr (some ⟨pb,0⟩),.ptr (some ⟨c,0⟩)] M'/\M'.get c=some (.cells (z1h (t+sA p.name (st.q0j.drop i))) false)/\near (t+sA p.name (st.q0j.drop i)) (st.q0j.length+1)/\Fr m0 M' [c]:=by
 obtain⟨e,he,hs⟩:=uA;have hn:=ok.small.2.2;intro d;induction d with
 |zero=>
  intro i M t hi fM hc hn';have:i=st.q0j.length:=by omega
  subst this;rw[List.drop_length,show sA p.name []=0 from rfl,Int.add_zero];refine⟨M,?_,hc,hn',fM⟩;simp only[z3y (H:=H27),T.j8x,p2,q0b,wp,df (show ¬((st.q0j.length:Nat):Int)<(st.q0j.length:Int) by omega)]
 |succ d ih=>
  intro i M t hi fM hc hn';have hlt:i<st.q0j.length:=by omega
  have FM:Fr m M []:=f0.step fM (fun c' hc'=>by simp only[xms]at hc';subst hc';exact .inr hcm)
  obtain⟨bs,o,_,x2,_,_,x5⟩:=(hb.a.q0k FM).ixT he hs (i:=i) (by rw[xlm];exact hlt);rw[xgm]at x5;obtain⟨a,ha⟩:∃a,a=st.q0j[i]:=⟨_,rfl⟩;have oka:=(ok.a a (by rw[ha];exact List.getElem_mem hlt)).1;have hsum:sA p.name (st.q0j.drop i)=(if a.q1C=p.name then a.bal.val else 0)+sA p.name (st.q0j.drop (i+1)):=by
   rw[List.drop_eq_getElem_cons hlt,ha];rfl
  rw[<-ha]at x5;obtain⟨M2,hM2⟩:∃M2,M2=M.lay (.cells a.cells false):=⟨_,rfl⟩;have f2:Fr M M2 []:=by rw[hM2];exact(Fr.refl M).lay _
  have s2:stV (M.lay (.cells [.int .u64 0,.str [],.int .i64 0,.int .u64 0] false)) (.ptr (some ⟨M.next,0⟩)) (.agg a.cells) 4=some M2:=by rw[q07 (n:=4) (q0e M _) rfl rfl rfl,q03,hM2]
  have g2:M2.get M.next=some (.cells a.cells false):=by rw[hM2];exact q0e M _
  have a2:∀j:Nat,ld1 M2 (.ptr (some ⟨M.next,j⟩))=a.cells[j]?:=fun j=>q0f g2
  have l2:ldN M2 (.ptr (some ⟨M.next,2⟩)) 2=some (.agg a.bal.cells):=by rw[q1a g2 (by simp)];rfl
  have p2:∀j:Nat,ld1 M2 (.ptr (some ⟨pb,j⟩))=p.cells[j]?:=fun j=>q0f (f2.get (fM.get hp (by simp;exact hpc)) (by simp))
  have c2:=f2.get hc (by simp);have fM2:Fr m0 M2 [c]:=fM.step0 f2;have st1:D27.gor 200704 [t2,.ptr (some ⟨pb,0⟩),.ptr (some ⟨c,0⟩),sa,.int .i64 (st.q0j.length:Int),.int .i64 (i:Int)] M=D27.gor 200705 [t2,.ptr (some ⟨pb,0⟩),.ptr (some ⟨c,0⟩),sa,.int .i64 (st.q0j.length:Int),.int .i64 (i:Int)] M:=by
   simp only[z3y (H:=H27),T.j8x,q0b,wp,dt (show (i:Int)<(st.q0j.length:Int) by omega)]
  have st2:∀M,D27.gor 200706 [t2,.ptr (some ⟨pb,0⟩),.ptr (some ⟨c,0⟩),sa,.int .i64 (st.q0j.length:Int),.int .i64 (i:Int)] M=D27.gor 200704 [t2,.ptr (some ⟨pb,0⟩),.ptr (some ⟨c,0⟩),sa,.int .i64 (st.q0j.length:Int),.int .i64 ((i+1:Nat):Int)] M:=fun M=>by
   simp only[j21 (H:=H27),T.a4A,wp,show (i:Int)+1=((i+1:Nat):Int) by omega,wrap_i64 (n:=((i+1:Nat):Int)) (by omega) (by omega)]
  rw[st1,hsum];simp only[q1k.cells,q0r.cells]at x5 s2 a2 p2;by_cases h:a.q1C=p.name
  ·rw[if_pos h];have ns:=hn'.small (by omega);obtain⟨M3,c1,c3,c4⟩:=q9B c2 oka ns.1 ns.2;have c1':=(z5w (H:=H27) (f:=94) rfl _ _).trans c1;obtain⟨M4,r1,r2,r3,r4⟩:=ih (i+1) M3 (t+a.bal.val) (by omega) (fM2.step c4 (fun c hc=>.inl hc)) c3 (hn'.add oka)
   refine⟨M4,?_,by rw[<-Int.add_assoc];exact r2,by rw[<-Int.add_assoc];exact r3,r4⟩;simp only[z3z (H:=H27),T.j8y,p2,q1,pB,p1,q0b,q0d,x2,x5,s2,a2,dt h,l2,c1',st2];exact r1
  ·rw[if_neg h,Int.zero_add];obtain⟨M4,r1,r2,r3,r4⟩:=ih (i+1) M2 t (by omega) fM2 c2 (hn'.up (by omega));refine⟨M4,?_,r2,r3,r4⟩;simp only[z3z (H:=H27),T.j8y,p2,q1,pB,p1,q0b,q0d,x2,x5,s2,a2,df h,st2];exact r1
theorem z6j (hb:BkV m sp sq sa st) (ok:q2P st) (f0:Fr m m0 []) (hp:m0.get pb=some (.cells p.cells false)) (hpc:pb≠c) (hcm:m.next<=c) (n0:Nat) (hn0:n0<=1000000000000000001):∀(d i:Nat) (M:Mem) (t:Int),i+d=st.pairs.length->Fr m0 M [c]->M.get c=some (.cells (z1h t) false)->near t (n0+2*i)->
  ∃M',D27.gor 200708 [.ptr (some ⟨pb,0⟩),.ptr (some ⟨c,0⟩),sq,.int .i64 (st.pairs.length:Int),.int .i64 (i:Int)] M=D27.gor 200712 [.ptr (some ⟨c,0⟩)] M'/\M'.get c=some (.cells (z1h (t+sQ p.name (st.pairs.drop i))) false)/\near (t+sQ p.name (st.pairs.drop i)) (n0+2*st.pairs.length)/\Fr m0 M' [c]:=by
 obtain⟨e,he,hs⟩:=uQ;have hn:=ok.small.2.1;intro d;induction d with
 |zero=>
  intro i M t hi fM hc hn';have:i=st.pairs.length:=by omega
  subst this;rw[List.drop_length,show sQ p.name []=0 from rfl,Int.add_zero];refine⟨M,?_,hc,hn',fM⟩;simp only[z3A (H:=H27),T.j8z,p2,q0b,wp,df (show ¬((st.pairs.length:Nat):Int)<(st.pairs.length:Int) by omega)]
 |succ d ih=>
  intro i M t hi fM hc hn';have hlt:i<st.pairs.length:=by omega
  have FM:Fr m M []:=f0.step fM (fun c' hc'=>by simp only[xms]at hc';subst hc';exact .inr hcm)
  obtain⟨bs,o,_,x2,_,_,x5⟩:=(hb.q.q0k FM).ixT he hs (i:=i) (by rw[xlm];exact hlt);rw[xgm]at x5;obtain⟨a,ha⟩:∃a,a=st.pairs[i]:=⟨_,rfl⟩;have oka:=ok.q a (by rw[ha];exact List.getElem_mem hlt);have hsum:sQ p.name (st.pairs.drop i)=((if a.x=p.name then a.inx.val else 0)+(if a.y=p.name then a.q1H.val else 0))+sQ p.name (st.pairs.drop (i+1)):=by
   rw[List.drop_eq_getElem_cons hlt,ha];rfl
  rw[<-ha]at x5;obtain⟨M2,hM2⟩:∃M2,M2=M.lay (.cells a.cells false):=⟨_,rfl⟩;have f2:Fr M M2 []:=by rw[hM2];exact(Fr.refl M).lay _
  have s2:stV (M.lay (.cells [.str [],.str [],.int .i64 0,.int .u64 0,.int .i64 0,.int .i64 0,.int .u64 0,.int .i64 0,.int .u64 0] false)) (.ptr (some ⟨M.next,0⟩)) (.agg a.cells) 9=some M2:=by rw[q07 (n:=9) (q0e M _) rfl rfl rfl,q03,hM2]
  have g2:M2.get M.next=some (.cells a.cells false):=by rw[hM2];exact q0e M _
  have a2:∀j:Nat,ld1 M2 (.ptr (some ⟨M.next,j⟩))=a.cells[j]?:=fun j=>q0f g2
  have l2:ldN M2 (.ptr (some ⟨M.next,5⟩)) 2=some (.agg a.inx.cells):=by rw[q1a g2 (by simp)];rfl
  have p2:∀j:Nat,ld1 M2 (.ptr (some ⟨pb,j⟩))=p.cells[j]?:=fun j=>q0f (f2.get (fM.get hp (by simp;exact hpc)) (by simp))
  have c2:=f2.get hc (by simp);have fM2:Fr m0 M2 [c]:=fM.step0 f2;have lcM:=Mem.q0v hc;have st1:D27.gor 200708 [.ptr (some ⟨pb,0⟩),.ptr (some ⟨c,0⟩),sq,.int .i64 (st.pairs.length:Int),.int .i64 (i:Int)] M=D27.gor 200709 [.ptr (some ⟨pb,0⟩),.ptr (some ⟨c,0⟩),sq,.int .i64 (st.pairs.length:Int),.int .i64 (i:Int)] M:=by
   simp only[z3A (H:=H27),T.j8z,q0b,wp,dt (show (i:Int)<(st.pairs.length:Int) by omega)]
  have st2:∀M,D27.gor 200711 [.ptr (some ⟨pb,0⟩),.ptr (some ⟨c,0⟩),sq,.int .i64 (st.pairs.length:Int),.int .i64 (i:Int)] M=D27.gor 200708 [.ptr (some ⟨pb,0⟩),.ptr (some ⟨c,0⟩),sq,.int .i64 (st.pairs.length:Int),.int .i64 ((i+1:Nat):Int)] M:=fun M=>by
   simp only[j23 (H:=H27),T.a4C,wp,show (i:Int)+1=((i+1:Nat):Int) by omega,wrap_i64 (n:=((i+1:Nat):Int)) (by omega) (by omega)]
  have half:∀(M3:Mem) (t':Int),Fr m0 M3 [c]->M3.get c=some (.cells (z1h t') false)->M3.get M.next=some (.cells a.cells false)->near t' (n0+2*i+1)->∃M',D27.gor 200710 [.ptr (some ⟨pb,0⟩),.ptr (some ⟨c,0⟩),.ptr (some ⟨M.next,0⟩),sq,.int .i64 (st.pairs.length:Int),.int .i64 (i:Int)] M3=D27.gor 200712 [.ptr (some ⟨c,0⟩)] M'/\
    M'.get c=some (.cells (z1h (t'+(if a.y=p.name then a.q1H.val else 0)+sQ p.name (st.pairs.drop (i+1)))) false)/\near (t'+(if a.y=p.name then a.q1H.val else 0)+sQ p.name (st.pairs.drop (i+1))) (n0+2*st.pairs.length)/\Fr m0 M' [c]:=by
   intro M3 t' f3 c3 g3 n3;have a3:∀j:Nat,ld1 M3 (.ptr (some ⟨M.next,j⟩))=a.cells[j]?:=fun j=>q0f g3
   have l3:ldN M3 (.ptr (some ⟨M.next,7⟩)) 2=some (.agg a.q1H.cells):=by rw[q1a g3 (by simp)];rfl
   have p3:∀j:Nat,ld1 M3 (.ptr (some ⟨pb,j⟩))=p.cells[j]?:=fun j=>q0f (f3.get hp (by simp;exact hpc))
   simp only[q0D.cells,q0r.cells]at a3 p3;by_cases h:a.y=p.name
   ·rw[if_pos h];have ns:=n3.small (by omega);obtain⟨M4,d1,d3,d4⟩:=q9B c3 oka.2.2.1 ns.1 ns.2;have d1':=(z5w (H:=H27) (f:=94) rfl _ _).trans d1;obtain⟨M5,r1,r2,r3,r4⟩:=ih (i+1) M4 (t'+a.q1H.val) (by omega) (f3.step d4 (fun c hc=>.inl hc)) d3 ((n3.add oka.2.2.1).up (by omega))
    refine⟨M5,?_,r2,r3,r4⟩;simp only[z3C (H:=H27),T.j8B,p1,q1,q0b,q0d,a3,p3,dt h,l3,d1',st2];exact r1
   ·rw[if_neg h,Int.add_zero];obtain⟨M5,r1,r2,r3,r4⟩:=ih (i+1) M3 t' (by omega) f3 c3 (n3.up (by omega));refine⟨M5,?_,r2,r3,r4⟩;simp only[z3C (H:=H27),T.j8B,p1,q1,q0b,q0d,a3,p3,df h,st2];exact r1
  rw[st1,hsum];have g2':=g2;simp only[q0D.cells,q0r.cells]at x5 s2 a2 p2;by_cases h:a.x=p.name
  ·rw[if_pos h];have ns:=hn'.small (by omega);obtain⟨M3,c1,c3,c4⟩:=q9B c2 oka.2.1 ns.1 ns.2;have c1':=(z5w (H:=H27) (f:=94) rfl _ _).trans c1;obtain⟨M4,r1,r2,r3,r4⟩:=half M3 (t+a.inx.val) (fM2.step c4 (fun c hc=>.inl hc)) c3 (c4.get g2' (by simp;omega)) (hn'.add oka.2.1)
   have e9:t+a.inx.val+(if a.y=p.name then a.q1H.val else 0)+sQ p.name (st.pairs.drop (i+1))=t+(a.inx.val+(if a.y=p.name then a.q1H.val else 0)+sQ p.name (st.pairs.drop (i+1))):=by omega
   rw[e9]at r2 r3;refine⟨M4,?_,r2,r3,r4⟩;simp only[z3B (H:=H27),T.j8A,p2,q1,pB,p1,q0b,q0d,x2,x5,s2,a2,dt h,l2,c1'];exact r1
  ·rw[if_neg h,Int.zero_add];obtain⟨M4,r1,r2,r3,r4⟩:=half M2 t fM2 c2 g2' (hn'.up (by omega));rw[Int.add_assoc]at r2 r3;refine⟨M4,?_,r2,r3,r4⟩;simp only[z3B (H:=H27),T.j8A,p2,q1,pB,p1,q0b,q0d,x2,x5,s2,a2,df h];exact r1
theorem j6U (hb:BkV m sp sq sa st) (ok:q2P st) (lt:Int) (p:q0r) (hp:p.out.ok):Res m (run E27 (.fn 49) [.agg [sp,sq,sa,.int .u64 lt],.agg p.cells] m) (.bool (decide (z2q st.pairs st.q0j p=0))):=by
 obtain⟨m1,hm1⟩:∃m1,m1=m.lay (.cells [sp,sq,sa,.int .u64 lt] false):=⟨_,rfl⟩;obtain⟨m2,hm2⟩:∃m2,m2=m1.lay (.cells p.cells false):=⟨_,rfl⟩;obtain⟨m3,hm3⟩:∃m3,m3=m2.lay (.cells (z1h 0) false):=⟨_,rfl⟩;have f1:Fr m m1 []:=by rw[hm1];exact(Fr.refl _).lay _
 have f2:Fr m1 m2 []:=by rw[hm2];exact(Fr.refl _).lay _
 have f3:Fr m2 m3 []:=by rw[hm3];exact(Fr.refl _).lay _
 have n1:m1.next=m.next+1:=by rw[hm1];rfl
 have n2:m2.next=m.next+1+1:=by rw[hm2,Mem.q0q,n1]
 have F3:Fr m m3 []:=(f1.step0 f2).step0 f3;have g1:m3.get m.next=some (.cells [sp,sq,sa,.int .u64 lt] false):=(f2.step0 f3).get (by rw[hm1];exact q0e _ _) (by simp)
 have g2:m3.get (m.next+1)=some (.cells p.cells false):=f3.get (by rw[hm2,<-n1];exact q0e _ _) (by simp)
 have g3:m3.get (m.next+1+1)=some (.cells (z1h 0) false):=by rw[hm3,<-n2];exact q0e _ _
 have ns:near 0 0:=by unfold near;omega
 obtain⟨m4,c1,c2,c3⟩:=q9B g3 hp (ns.small (by omega)).1 (ns.small (by omega)).2;rw[Int.zero_add]at c2;have c1':=(z5w (H:=H27) (f:=94) rfl _ _).trans c1;have nA:near p.out.val (0+1):=by have:=ns.add hp;rwa [Int.zero_add]at this
 obtain⟨m5,d1,d2,d3,d4⟩:=j1a hb ok F3 g2 (c:=m.next+1+1) (by omega) (by omega) (.ptr (some ⟨m.next,0⟩)) st.q0j.length 0 m4 p.out.val (by omega) c3 c2 nA
 rw[List.drop_zero]at d2 d3;have sm:=ok.small;obtain⟨m6,e1,e2,e3,e4⟩:=z6j hb ok F3 g2 (c:=m.next+1+1) (by omega) (by omega) (st.q0j.length+1) (by have:=sm.2.2;omega) st.pairs.length 0 m5 _ (by omega) d4 d2 d3
 rw[List.drop_zero]at e2 e3;have ns6:=e3.small (by have:=sm.2.2;have:=sm.2.1;omega);have z:=j4X e2 ns6.1 ns6.2;have z':=(z5w (H:=H27) (f:=95) rfl _ _).trans z;obtain⟨eA,uA1,uA2⟩:=uA;obtain⟨eQ,uQ1,uQ2⟩:=uQ;have la:=hb.a.q1M uA1;have lq:=hb.q.q1M uQ1;rw[xlm]at la lq;have a4:∀i:Nat,ld1 m4 (.ptr (some ⟨m.next,i⟩))=[sp,sq,sa,.int .u64 lt][i]?:=fun i=>q0f (c3.get g1 (by simp;omega))
 have a5:∀i:Nat,ld1 m5 (.ptr (some ⟨m.next,i⟩))=[sp,sq,sa,.int .u64 lt][i]?:=fun i=>q0f (d4.get g1 (by simp;omega))
 have lp:ldN m3 (.ptr (some ⟨m.next+1,2⟩)) 2=some (.agg p.out.cells):=by rw[q1a g2 (by simp)];rfl
 have F6:Fr m m6 []:=F3.step e4 (fun c hc=>by simp only[xms]at hc;subst hc;exact .inr (by omega))
 refine⟨m6,?_,F6⟩;simp only[Int.natCast_zero]at d1 e1;have hs0:(z1h 0)=[.int .i64 0,.int .u64 0,.int .u64 0]:=rfl;rw[hs0]at hm3;simp only[q0r.cells]at hm2⊢;simp only[a1V (H:=H27) rfl,T.f49,pB,p1,q1,q0N,q0d,AV.cells,on1,lcs,ge,if_true,xom,Mem.q0q,hb.p.one,hb.q.one,hb.a.one,<-hm1,<-hm2,<-hm3,lp,c1',a4,la,d1];simp only[j22 (H:=H27),T.a4B,p1,q1,q0d,a5,lq,e1]
 simp only[j24 (H:=H27),T.a4D,wp,z'];rfl
end
end
section
set_option maxRecDepth 4000
open Go Go.Abs
def q2R {α:Type} (l:List α) (i:Nat) (r:α->Bool):Bool:=decide (i=0)||(match l[i-1]? with|some x=>r x|none=>false)
def names (st:LSt):List (List UInt8):=st.q0a.map (·.name)
def q5b (st:LSt) (i:Nat) (q:q0D):Bool:=
 q2R st.pairs i (fun r=>q0c r.x q.x||(decide (r.x=q.x)&&q0c r.y q.y))&&(decide (q.x∈names st)&&(decide (q.y∈names st)&&(!decide (q.x=q.y)&&(decide (q29 q.rate q.q06=0)&&(decide (0<=q.inx.val)&&decide (q.q1H.val<=0))))))
def q5P (st:LSt) (i:Nat):Bool:=match st.pairs[i]? with|some q=>q5b st i q|none=>false
def q86 (st:LSt) (i:Nat) (a:q1k):Bool:=
 decide ((match st.q0j[i-1]? with|some x=>if i=0 then 0 else x.id|none=>0)<a.id)&&(decide (a.id<=st.latest)&&(decide (a.q1C∈names st)&&decide (0<=a.bal.val)))
def q5O (st:LSt) (i:Nat):Bool:=match st.q0j[i]? with|some a=>q86 st i a|none=>false
theorem j0L (x:Int):decide (sgn x<0)=!decide (0<=x):=by unfold sgn;rw[<-decide_not];apply decide_eq_decide.mpr;split<;>(try split)<;>omega
theorem a0C (x:Int):decide (0<sgn x)=!decide (x<=0):=by unfold sgn;rw[<-decide_not];apply decide_eq_decide.mpr;split<;>(try split)<;>omega
section
variable {m:Mem} {bb:Nat} {st:LSt}
theorem j4E {sp sq sa:AV} (h1:m.get bb=some (.cells [sp,sq,sa,.int .u64 st.latest] false)) (hb:BkV m sp sq sa st) (ok:q2P st) {M2:Mem} (hM:Fr m M2 []) {x:Nat} {q:q0D} (hq:M2.get x=some (.cells q.cells false)) (hi:q∈st.pairs) (t5:Bool) (t7 t8 t9:AV) :
  D27.gor 192514 [.ptr (some ⟨bb,0⟩),.ptr (some ⟨x,0⟩),.bool t5,t7,t8,t9] M2 =
   if (t5&&(decide (q.x∈names st)&&(decide (q.y∈names st)&&(!decide (q.x=q.y)&&(decide (q29 q.rate q.q06=0)&&(decide (0<=q.inx.val)&&decide (q.q1H.val<=0)))))))=true then D27.gor 192515 [.ptr (some ⟨bb,0⟩),t7,t8,t9] M2 else some (.bool false,M2):=by
 have okq:=ok.q q hi;have hX:=q31 (H:=H27) rfl hb ok.small st.latest q.x M2 hM;have hY:=q31 (H:=H27) rfl hb ok.small st.latest q.y M2 hM;have lB:ldN M2 (.ptr (some ⟨bb,0⟩)) 4=some (.agg [sp,sq,sa,.int .u64 st.latest]):=q0C (hM.get h1 (by simp)) rfl;have a2:∀j:Nat,ld1 M2 (.ptr (some ⟨x,j⟩))=q.cells[j]?:=fun j=>q0f hq
 have l2:ldN M2 (.ptr (some ⟨x,2⟩)) 3=some (.agg (q0H q.rate q.q06)):=by rw[q1a hq (by simp)];rfl
 have l5:ldN M2 (.ptr (some ⟨x,5⟩)) 2=some (.agg q.inx.cells):=by rw[q1a hq (by simp)];rfl
 have l7:ldN M2 (.ptr (some ⟨x,7⟩)) 2=some (.agg q.q1H.cells):=by rw[q1a hq (by simp)];rfl
 have rr:=j0x (H:=H27) rfl okq.1 q.q06 M2;have g5:=q7m (H:=H27) rfl okq.2.1 M2;have g7:=q7m (H:=H27) rfl okq.2.2.1 M2;have e5:=j0L q.inx.val;have e7:=a0C q.q1H.val;show _=if (t5&&(decide (q.x∈st.q0a.map (·.name))&&(decide (q.y∈st.q0a.map (·.name))&&_)))=true then _ else _
 simp only[q0D.cells]at a2;cases t5 with
 |false=>simp only[q20 (H:=H27),T.q8W,p1,q1,p2,q0b,ifV,unA,q0d,xbf,Bool.false_and,xbq,if_false]
 |true=>
  cases hx:decide (q.x∈st.q0a.map (·.name)) with
  |false=>
   rw[hx]at hX;simp only[q20 (H:=H27),T.q8W,p1,q1,p2,q0b,ifV,unA,q0d,xbt,lB,a2,hX,xbf,Bool.true_and,Bool.false_and,xbq,if_false]
  |true=>
   rw[hx]at hX;cases hy:decide (q.y∈st.q0a.map (·.name)) with
   |false=>
    rw[hy]at hY;simp only[q20 (H:=H27),T.q8W,p1,q1,p2,q0b,ifV,unA,q0d,xbt,lB,a2,hX,hY,xbf,Bool.true_and,Bool.false_and,xbq,if_false]
   |true=>
    rw[hy]at hY;by_cases hxy:q.x=q.y
    ·simp only[q20 (H:=H27),T.q8W,p1,q1,p2,q0b,ifV,unA,q0d,xbt,lB,a2,hX,hY,dt hxy,Bool.true_and,Bool.false_and,xbq,if_false]
    ·by_cases hr:q29 q.rate q.q06=0
     ·rw[hr]at rr;cases h0:decide (0<=q.inx.val) with
      |false=>
       rw[h0]at e5;simp only[q20 (H:=H27),T.q8W,p1,q1,p2,q0b,ifV,unA,q0d,xbt,xbf,lB,a2,hX,hY,df hxy,l2,rr,decide_true,l5,g5,e5,dt hr,Bool.true_and,Bool.false_and,xbq,if_false]
      |true=>
       rw[h0]at e5;cases h7:decide (q.q1H.val<=0) with
       |false=>
        rw[h7]at e7;simp only[q20 (H:=H27),T.q8W,p1,q1,p2,q0b,ifV,unA,q0d,xbt,xbf,lB,a2,hX,hY,df hxy,l2,rr,decide_true,l5,g5,e5,l7,g7,e7,dt hr,Bool.and_false,xbq,if_false]
       |true=>
        rw[h7]at e7;simp only[q20 (H:=H27),T.q8W,p1,q1,p2,q0b,ifV,unA,q0d,xbt,xbf,lB,a2,hX,hY,df hxy,l2,rr,decide_true,l5,g5,e5,l7,g7,e7,dt hr,Bool.and_self,if_true]
     ·simp only[q20 (H:=H27),T.q8W,p1,q1,p2,q0b,ifV,unA,q0d,xbt,xbf,lB,a2,hX,hY,df hxy,l2,rr,df hr,Bool.true_and,Bool.false_and,xbq,if_false]
theorem j0u {sp sq sa:AV} (h1:m.get bb=some (.cells [sp,sq,sa,.int .u64 st.latest] false)) (hb:BkV m sp sq sa st) (ok:q2P st):∀(d i:Nat) (M:Mem),i+d=st.pairs.length->Fr m M []->
  Res M (D27.gor 192512 [.ptr (some ⟨bb,0⟩),sq,.int .i64 (st.pairs.length:Int),.int .i64 (i:Int)] M) (.bool (q2n (q5P st) d i)):=by
 obtain⟨e,he,hs⟩:=uQ;have hn:=ok.small.2.1;intro d;induction d with
 |zero=>
  intro i M hi hM;have:i=st.pairs.length:=by omega
  subst this;simp only[q48 (H:=H27),T.z4Y,p2,q0b,wp,df (show ¬((st.pairs.length:Nat):Int)<(st.pairs.length:Int) by omega),j2X (H:=H27),T.a4w,wp];exact Res.eq (Fr.refl _) rfl
 |succ d ih=>
  intro i M hi hM;have hlt:i<st.pairs.length:=by omega
  obtain⟨bs,o,_,x2,_,_,x5⟩:=(hb.q.q0k hM).ixT he hs (i:=i) (by rw[xlm];exact hlt);rw[xgm]at x5;obtain⟨q,hq⟩:∃q,q=st.pairs[i]:=⟨_,rfl⟩;have mq:q∈st.pairs:=by rw[hq];exact List.getElem_mem hlt
  rw[<-hq]at x5;obtain⟨M2,hM2⟩:∃M2,M2=M.lay (.cells q.cells false):=⟨_,rfl⟩;have f2:Fr M M2 []:=by rw[hM2];exact(Fr.refl M).lay _
  have F2:Fr m M2 []:=hM.step0 f2;have s2:stV (M.lay (.cells [.str [],.str [],.int .i64 0,.int .u64 0,.int .i64 0,.int .i64 0,.int .u64 0,.int .i64 0,.int .u64 0] false)) (.ptr (some ⟨M.next,0⟩)) (.agg q.cells) 9=some M2:=by rw[q07 (n:=9) (q0e M _) rfl rfl rfl,q03,hM2]
  have g2:M2.get M.next=some (.cells q.cells false):=by rw[hM2];exact q0e M _
  have a2:∀j:Nat,ld1 M2 (.ptr (some ⟨M.next,j⟩))=q.cells[j]?:=fun j=>q0f g2
  have b2:∀j:Nat,ld1 M2 (.ptr (some ⟨bb,j⟩))=[sp,sq,sa,AV.int .u64 st.latest][j]?:=fun j=>q0f (F2.get h1 (by simp))
  have en:=fun t5=>j4E h1 hb ok F2 g2 mq t5 sq (.int .i64 (st.pairs.length:Int)) (.int .i64 (i:Int))
  have hok:q5P st i=q5b st i q:=by unfold q5P;rw[xgq hlt,<-hq]
  have nx:D27.gor 192515 [.ptr (some ⟨bb,0⟩),sq,.int .i64 (st.pairs.length:Int),.int .i64 (i:Int)] M2=D27.gor 192512 [.ptr (some ⟨bb,0⟩),sq,.int .i64 (st.pairs.length:Int),.int .i64 ((i+1:Nat):Int)] M2:=by
   simp only[j2W (H:=H27),T.a4v,p2,wp,show (i:Int)+1=((i+1:Nat):Int) by omega,wrap_i64 (n:=((i+1:Nat):Int)) (by omega) (by omega)]
  have rd:D27.gor 192512 [.ptr (some ⟨bb,0⟩),sq,.int .i64 (st.pairs.length:Int),.int .i64 (i:Int)] M=if q5b st i q=true then D27.gor 192512 [.ptr (some ⟨bb,0⟩),sq,.int .i64 (st.pairs.length:Int),.int .i64 ((i+1:Nat):Int)] M2 else some (.bool false,M2):=by
   rw[<-nx];unfold q5b;simp only[q0D.cells]at x5 s2 a2;by_cases h0:i=0
   ·have hp:q2R st.pairs i (fun r=>q0c r.x q.x||(decide (r.x=q.x)&&q0c r.y q.y))=true:=by unfold q2R;rw[dt h0,Bool.true_or]
    rw[hp,<-en true];simp only[q48 (H:=H27),T.z4Y,p2,q0b,wp,dt (show (i:Int)<(st.pairs.length:Int) by omega)];simp only[q6q (H:=H27),T.z8Y,p2,q1,pB,p1,ifV,q0d,x2,x5,s2,dt (show (i:Int)=0 by omega)]
   ·obtain⟨bs',o',_,y2,y3,_,_⟩:=(hb.q.q0k F2).ixT he hs (i:=i-1) (by rw[xlm];omega);have y0:=y3 0 (by omega);have y1:=y3 1 (by omega);rw[xgm]at y0 y1;obtain⟨r,hr⟩:∃r,r=st.pairs[i-1]'(by omega):=⟨_,rfl⟩;have hr2:st.pairs[i-1]? = some r:=by rw[xgq (by omega),hr]
    rw[<-hr]at y0 y1;simp only[ge,q0D.cells,xna]at y0 y1;have hp:q2R st.pairs i (fun r=>q0c r.x q.x||(decide (r.x=q.x)&&q0c r.y q.y))=(q0c r.x q.x||(decide (r.x=q.x)&&q0c r.y q.y)):=by unfold q2R;rw[df h0,Bool.false_or,hr2]
    have w1:IntKind.wrap .i64 ((i:Int)-1)=((i-1:Nat):Int):=by rw[wrap_i64 (by omega) (by omega)];omega
    rcases Bool.eq_false_or_eq_true (q0c r.x q.x) with hl|hl
    ·have ev:(q0c r.x q.x||decide (r.x=q.x)&&q0c r.y q.y)=true:=by rw[hl];rfl
     rw[hp.trans ev,<-en true];simp only[q48 (H:=H27),T.z4Y,p2,q0b,wp,dt (show (i:Int)<(st.pairs.length:Int) by omega)];simp only[q6q (H:=H27),T.z8Y,p2,q1,pB,p1,ifV,q0d,x2,x5,s2,df (show ¬(i:Int)=0 by omega),b2,w1,y2,y0,a2,hl]
    ·have ev:(q0c r.x q.x||decide (r.x=q.x)&&q0c r.y q.y)=(decide (r.x=q.x)&&q0c r.y q.y):=by rw[hl];rfl
     by_cases hx:r.x=q.x
     ·have ev2:(decide (r.x=q.x)&&q0c r.y q.y)=q0c r.y q.y:=by rw[dt hx];rfl
      rw[(hp.trans ev).trans ev2,<-en (q0c r.y q.y)];simp only[q48 (H:=H27),T.z4Y,p2,q0b,wp,dt (show (i:Int)<(st.pairs.length:Int) by omega)];simp only[q6q (H:=H27),T.z8Y,p2,q1,pB,p1,ifV,q0d,x2,x5,s2,df (show ¬(i:Int)=0 by omega),b2,w1,y2,y0,y1,a2,hl,dt hx]
     ·have ev2:(decide (r.x=q.x)&&q0c r.y q.y)=false:=by rw[df hx];rfl
      rw[(hp.trans ev).trans ev2,<-en false];simp only[q48 (H:=H27),T.z4Y,p2,q0b,wp,dt (show (i:Int)<(st.pairs.length:Int) by omega)];simp only[q6q (H:=H27),T.z8Y,p2,q1,pB,p1,ifV,q0d,x2,x5,s2,df (show ¬(i:Int)=0 by omega),b2,w1,y2,y0,a2,hl,df hx]
  rw[rd,q2n,hok];cases hg:q5b st i q with
  |true=>
   rw[if_pos rfl,Bool.true_and];exact(ih (i+1) M2 (by omega) F2).step f2
  |false=>
   rw[if_neg (by decide),Bool.false_and];exact Res.eq f2 rfl
theorem a0t {sp sq sa:AV} (hb:BkV m sp sq sa st) (ok:q2P st):Res m (run E27 (.fn 47) [.agg [sp,sq,sa,.int .u64 st.latest]] m) (.bool (q2n (q5P st) st.pairs.length 0)):=by
 obtain⟨M,hM⟩:∃M,M=m.lay (.cells [sp,sq,sa,.int .u64 st.latest] false):=⟨_,rfl⟩;have f1:Fr m M []:=by rw[hM];exact(Fr.refl m).lay _
 have g1:M.get m.next=some (.cells [sp,sq,sa,.int .u64 st.latest] false):=by rw[hM];exact q0e m _
 have a3:∀i:Nat,ld1 M (.ptr (some ⟨m.next,i⟩))=[sp,sq,sa,.int .u64 st.latest][i]?:=fun i=>q0f g1
 obtain⟨e,he,hs⟩:=uQ;have hlen:=hb.q.q1M he;rw[xlm]at hlen;have lo:=j0u g1 (hb.q0k f1) ok st.pairs.length 0 M (by omega) (Fr.refl _);simp only[Int.natCast_zero]at lo;simp only[a1T (H:=H27) rfl,T.f47,p1,q1,q0N,q0d,AV.cells,on1,lcs,ge,if_true,xom,hb.p.one,hb.q.one,hb.a.one,<-hM,a3,hlen];exact lo.step f1
def q5k (st:LSt) (i:Nat):Int:=match st.q0j[i-1]? with|some x=>if i=0 then 0 else x.id|none=>0
theorem z5u {sp sq sa:AV} (h1:m.get bb=some (.cells [sp,sq,sa,.int .u64 st.latest] false)) (hb:BkV m sp sq sa st) (ok:q2P st):∀(d i:Nat) (M:Mem),i+d=st.q0j.length->Fr m M []->
  Res M (D27.gor 196608 [.ptr (some ⟨bb,0⟩),.int .u64 (q5k st i),sa,.int .i64 (st.q0j.length:Int),.int .i64 (i:Int)] M) (.bool (q2n (q5O st) d i&&decide (st.latest<=72057594037927935))):=by
 obtain⟨e,he,hs⟩:=uA;have hn:=ok.small.2.2;intro d;induction d with
 |zero=>
  intro i M hi hM;have:i=st.q0j.length:=by omega
  have b2:∀j:Nat,ld1 M (.ptr (some ⟨bb,j⟩))=[sp,sq,sa,AV.int .u64 st.latest][j]?:=fun j=>q0f (hM.get h1 (by simp))
  subst this;simp only[z3x (H:=H27),T.j8w,p2,q0b,df (show ¬((st.q0j.length:Nat):Int)<(st.q0j.length:Int) by omega),j20 (H:=H27),T.a4z,p1,q1,q0d,b2];exact Res.eq (Fr.refl _) (by simp[q2n])
 |succ d ih=>
  intro i M hi hM;have hlt:i<st.q0j.length:=by omega
  obtain⟨bs,o,_,x2,_,_,x5⟩:=(hb.a.q0k hM).ixT he hs (i:=i) (by rw[xlm];exact hlt);rw[xgm]at x5;obtain⟨a,ha⟩:∃a,a=st.q0j[i]:=⟨_,rfl⟩;have ma:a∈st.q0j:=by rw[ha];exact List.getElem_mem hlt
  have oka:=ok.a a ma;rw[<-ha]at x5;obtain⟨M2,hM2⟩:∃M2,M2=M.lay (.cells a.cells false):=⟨_,rfl⟩;have f2:Fr M M2 []:=by rw[hM2];exact(Fr.refl M).lay _
  have F2:Fr m M2 []:=hM.step0 f2;have s2:stV (M.lay (.cells [.int .u64 0,.str [],.int .i64 0,.int .u64 0] false)) (.ptr (some ⟨M.next,0⟩)) (.agg a.cells) 4=some M2:=by rw[q07 (n:=4) (q0e M _) rfl rfl rfl,q03,hM2]
  have g2:M2.get M.next=some (.cells a.cells false):=by rw[hM2];exact q0e M _
  have a2:∀j:Nat,ld1 M2 (.ptr (some ⟨M.next,j⟩))=a.cells[j]?:=fun j=>q0f g2
  have l2:ldN M2 (.ptr (some ⟨M.next,2⟩)) 2=some (.agg a.bal.cells):=by rw[q1a g2 (by simp)];rfl
  have b2:∀j:Nat,ld1 M2 (.ptr (some ⟨bb,j⟩))=[sp,sq,sa,AV.int .u64 st.latest][j]?:=fun j=>q0f (F2.get h1 (by simp))
  have lB:ldN M2 (.ptr (some ⟨bb,0⟩)) 4=some (.agg [sp,sq,sa,.int .u64 st.latest]):=q0C (F2.get h1 (by simp)) rfl;have hX:=q31 (H:=H27) rfl hb ok.small st.latest a.q1C M2 F2;have sg:=q7m (H:=H27) rfl oka.1 M2;have e5:=j0L a.bal.val;have hok:q5O st i=q86 st i a:=by unfold q5O;rw[xgq hlt,<-ha]
  have hp1:q5k st (i+1)=a.id:=by unfold q5k;rw[Nat.add_sub_cancel,xgq hlt,<-ha];simp
  have ih':=ih (i+1) M2 (by omega) F2;rw[hp1]at ih';rw[q2n,hok];show Res M _ (.bool ((decide (q5k st i<a.id)&&(decide (a.id<=st.latest)&&(decide (a.q1C∈st.q0a.map (·.name))&&decide (0<=a.bal.val)))&&_)&&_));have st1:D27.gor 196608 [.ptr (some ⟨bb,0⟩),.int .u64 (q5k st i),sa,.int .i64 (st.q0j.length:Int),.int .i64 (i:Int)] M=D27.gor 196609 [.ptr (some ⟨bb,0⟩),.int .u64 (q5k st i),sa,.int .i64 (st.q0j.length:Int),.int .i64 (i:Int)] M:=by
   simp only[z3x (H:=H27),T.j8w,p2,q0b,wp,dt (show (i:Int)<(st.q0j.length:Int) by omega)]
  rw[st1];obtain⟨pv,hpv⟩:∃pv,pv=q5k st i:=⟨_,rfl⟩;rw[<-hpv];simp only[q1k.cells]at x5 s2 a2;by_cases h1':a.id<=pv
  ·simp only[df (show ¬pv<a.id by omega),Bool.false_and];simp only[q49 (H:=H27),T.z4Z,p2,q1,pB,p1,q0b,ifV,unA,q0d,x2,x5,s2,a2,dt h1'];exact Res.eq f2 rfl
  ·rw[dt (show pv<a.id by omega),Bool.true_and];by_cases h2:st.latest<a.id
   ·simp only[df (show ¬a.id<=st.latest by omega),Bool.false_and];simp only[q49 (H:=H27),T.z4Z,p2,q1,pB,p1,q0b,ifV,unA,q0d,x2,x5,s2,a2,b2,df h1',dt h2];exact Res.eq f2 rfl
   ·rw[dt (show a.id<=st.latest by omega),Bool.true_and];cases hx:decide (a.q1C∈st.q0a.map (·.name)) with
    |false=>
     rw[hx]at hX;simp only[Bool.false_and];simp only[q49 (H:=H27),T.z4Z,p2,q1,pB,p1,q0b,ifV,unA,q0d,x2,x5,s2,a2,b2,df h1',df h2,lB,hX,xbf];exact Res.eq f2 rfl
    |true=>
     rw[hx]at hX;rw[Bool.true_and];cases h0:decide (0<=a.bal.val) with
     |false=>
      rw[h0]at e5;simp only[Bool.false_and];simp only[q49 (H:=H27),T.z4Z,p2,q1,pB,p1,q0b,ifV,unA,q0d,x2,x5,s2,a2,b2,df h1',df h2,lB,hX,xbt,xbf,l2,sg,e5];exact Res.eq f2 rfl
     |true=>
      rw[h0]at e5;rw[Bool.true_and];simp only[q49 (H:=H27),T.z4Z,p2,q1,pB,p1,q0b,ifV,unA,q0d,x2,x5,s2,a2,b2,df h1',df h2,lB,hX,xbt,l2,sg,e5];simp only[j2Y (H:=H27),T.a4x,p1,q1,q0d,a2];simp only[j2Z (H:=H27),T.a4y,p2,wp,show (i:Int)+1=((i+1:Nat):Int) by omega,wrap_i64 (n:=((i+1:Nat):Int)) (by omega) (by omega)];exact ih'.step f2
theorem j4q {sp sq sa:AV} (hb:BkV m sp sq sa st) (ok:q2P st):Res m (run E27 (.fn 48) [.agg [sp,sq,sa,.int .u64 st.latest]] m) (.bool (q2n (q5O st) st.q0j.length 0&&decide (st.latest<=72057594037927935))):=by
 obtain⟨M,hM⟩:∃M,M=m.lay (.cells [sp,sq,sa,.int .u64 st.latest] false):=⟨_,rfl⟩;have f1:Fr m M []:=by rw[hM];exact(Fr.refl m).lay _
 have g1:M.get m.next=some (.cells [sp,sq,sa,.int .u64 st.latest] false):=by rw[hM];exact q0e m _
 have a3:∀i:Nat,ld1 M (.ptr (some ⟨m.next,i⟩))=[sp,sq,sa,.int .u64 st.latest][i]?:=fun i=>q0f g1
 obtain⟨e,he,hs⟩:=uA;have hlen:=hb.a.q1M he;rw[xlm]at hlen;have lo:=z5u g1 (hb.q0k f1) ok st.q0j.length 0 M (by omega) (Fr.refl _);have hp0:q5k st 0=0:=by unfold q5k;split<;>simp
 rw[hp0]at lo;simp only[Int.natCast_zero]at lo;simp only[a1U (H:=H27) rfl,T.f48,p1,q1,q0N,q0d,AV.cells,on1,lcs,ge,if_true,xom,hb.p.one,hb.q.one,hb.a.one,<-hM,a3,hlen];exact lo.step f1
end
end
section
set_option maxRecDepth 4000
open Go Go.Abs
def S28:List FuncId:=[47,48,49]
noncomputable def H28:FuncId->Option (List AV->Mem->R):=q1y E27 S28
noncomputable abbrev E28:Env:=T.EH H28
theorem a1i:q1i E28:=q0Q a1h S28
noncomputable abbrev D28:Do:=T.Rl H28
section
variable {H:FuncId->Option (List AV->Mem->R)} {m:Mem} {sp sq sa:AV} {st:LSt}
theorem a0s (hh:H 47=some (q0x E27 47)) (hb:BkV m sp sq sa st) (ok:q2P st) (M:Mem) (hM:Fr m M []):run (T.EH H) (.fn 47) [.agg [sp,sq,sa,.int .u64 st.latest]] M=some (.bool (q2n (q5P st) st.pairs.length 0),M):=
 q0s hh (by simp[AV.flat,AV.lt]) fun m2 h1 h2=>a0t ((hb.q0k hM).q0k (Fr.same h1 h2)) ok
theorem j4p (hh:H 48=some (q0x E27 48)) (hb:BkV m sp sq sa st) (ok:q2P st) (M:Mem) (hM:Fr m M []):run (T.EH H) (.fn 48) [.agg [sp,sq,sa,.int .u64 st.latest]] M=some (.bool (q2n (q5O st) st.q0j.length 0&&decide (st.latest<=72057594037927935)),M):=
 q0s hh (by simp[AV.flat,AV.lt]) fun m2 h1 h2=>j4q ((hb.q0k hM).q0k (Fr.same h1 h2)) ok
theorem j6T (hh:H 49=some (q0x E27 49)) (hb:BkV m sp sq sa st) (ok:q2P st) (lt:Int) (p:q0r) (hp:p.out.ok) (M:Mem) (hM:Fr m M []):run (T.EH H) (.fn 49) [.agg [sp,sq,sa,.int .u64 lt],.agg p.cells] M=some (.bool (decide (z2q st.pairs st.q0j p=0)),M):=
 q0s hh (by simp[AV.flat,AV.lt]) fun m2 h1 h2=>j6U ((hb.q0k hM).q0k (Fr.same h1 h2)) ok lt p hp
end
def q5J (st:LSt) (i:Nat) (p:q0r):Bool:=q3x p.name&&(q2R st.q0a i (fun r=>q0c r.name p.name)&&(decide (0<=p.scale)&&decide (p.scale<=18)))
def q7f (st:LSt) (i:Nat):Bool:=match st.q0a[i]? with|some p=>q5J st i p|none=>false
def q7D (st:LSt) (i:Nat):Bool:=match st.q0a[i]? with|some p=>decide (z2q st.pairs st.q0j p=0)|none=>false
def q2p (st:LSt):Bool:=decide (1<=st.most)&&(decide (st.most<=64)&&(decide (st.q0a.length<=8)&&(decide ((st.q0j.length:Int)<=st.most)&&(q2n (q7f st) st.q0a.length 0&&(q2n (q5P st) st.pairs.length 0&&((q2n (q5O st) st.q0j.length 0&&decide (st.latest<=72057594037927935))&&q2n (q7D st) st.q0a.length 0))))))
section
variable {m:Mem} {bb:Nat} {st:LSt} {sp sq sa:AV}
theorem z06 (h1:m.get bb=some (.cells [sp,sq,sa,.int .u64 st.latest] false)) (hb:BkV m sp sq sa st) (ok:q2P st):∀(d i:Nat) (M:Mem),i+d=st.q0a.length->Fr m M []->
  ∃M',Fr M M' []/\D28.gor 57345 [.ptr (some ⟨bb,0⟩),sp,.int .i64 (st.q0a.length:Int),.int .i64 (i:Int)] M=if q2n (q7f st) d i=true then D28.gor 57348 [.ptr (some ⟨bb,0⟩)] M' else some (.bool false,M'):=by
 obtain⟨e,he,hs⟩:=uP;have hn:=ok.small.1;intro d;induction d with
 |zero=>
  intro i M hi hM;have:i=st.q0a.length:=by omega
  subst this;refine⟨M,Fr.refl _,?_⟩;simp only[z2R (H:=H28),T.j78,p2,q0b,wp,df (show ¬((st.q0a.length:Nat):Int)<(st.q0a.length:Int) by omega),q2n,if_true]
 |succ d ih=>
  intro i M hi hM;have hlt:i<st.q0a.length:=by omega
  obtain⟨bs,o,_,x2,_,_,x5⟩:=(hb.p.q0k hM).ixT he hs (i:=i) (by rw[xlm];exact hlt);rw[xgm]at x5;obtain⟨q,hq⟩:∃q,q=st.q0a[i]:=⟨_,rfl⟩;have mq:q∈st.q0a:=by rw[hq];exact List.getElem_mem hlt
  rw[<-hq]at x5;obtain⟨M2,hM2⟩:∃M2,M2=M.lay (.cells q.cells false):=⟨_,rfl⟩;have f2:Fr M M2 []:=by rw[hM2];exact(Fr.refl M).lay _
  have F2:Fr m M2 []:=hM.step0 f2;have s2:stV (M.lay (.cells [.str [],.int .i64 0,.int .i64 0,.int .u64 0] false)) (.ptr (some ⟨M.next,0⟩)) (.agg q.cells) 4=some M2:=by rw[q07 (n:=4) (q0e M _) rfl rfl rfl,q03,hM2]
  have g2:M2.get M.next=some (.cells q.cells false):=by rw[hM2];exact q0e M _
  have a2:∀j:Nat,ld1 M2 (.ptr (some ⟨M.next,j⟩))=q.cells[j]?:=fun j=>q0f g2
  have b2:∀j:Nat,ld1 M2 (.ptr (some ⟨bb,j⟩))=[sp,sq,sa,AV.int .u64 st.latest][j]?:=fun j=>q0f (F2.get h1 (by simp))
  have hok:q7f st i=q5J st i q:=by unfold q7f;rw[xgq hlt,<-hq]
  have nm:=(q7g (H:=H28) (f:=46) rfl _ _).trans (j92 q.name (ok.p q mq).2 M2);have st1:D28.gor 57345 [.ptr (some ⟨bb,0⟩),sp,.int .i64 (st.q0a.length:Int),.int .i64 (i:Int)] M=D28.gor 57346 [.ptr (some ⟨bb,0⟩),sp,.int .i64 (st.q0a.length:Int),.int .i64 (i:Int)] M:=by
   simp only[z2R (H:=H28),T.j78,p2,q0b,wp,dt (show (i:Int)<(st.q0a.length:Int) by omega)]
  have nx:D28.gor 57347 [.ptr (some ⟨bb,0⟩),sp,.int .i64 (st.q0a.length:Int),.int .i64 (i:Int)] M2=D28.gor 57345 [.ptr (some ⟨bb,0⟩),sp,.int .i64 (st.q0a.length:Int),.int .i64 ((i+1:Nat):Int)] M2:=by
   simp only[j1P (H:=H28),T.a3E,p2,wp,show (i:Int)+1=((i+1:Nat):Int) by omega,wrap_i64 (n:=((i+1:Nat):Int)) (by omega) (by omega)]
  have rd:D28.gor 57345 [.ptr (some ⟨bb,0⟩),sp,.int .i64 (st.q0a.length:Int),.int .i64 (i:Int)] M=if q5J st i q=true then D28.gor 57347 [.ptr (some ⟨bb,0⟩),sp,.int .i64 (st.q0a.length:Int),.int .i64 (i:Int)] M2 else some (.bool false,M2):=by
   rw[st1];unfold q5J;simp only[q0r.cells]at x5 s2 a2;cases hnm:q3x q.name with
   |false=>
    rw[hnm]at nm;simp only[q2Z (H:=H28),T.q8H,p2,q1,pB,p1,q0b,ifV,unA,q0d,x2,x5,s2,a2,nm,xbf,Bool.false_and,xbq,if_false]
   |true=>
    rw[hnm]at nm;rw[Bool.true_and];have sc:∀r:R,(if q.scale<0 then some (AV.bool false,M2) else if 18<q.scale then some (.bool false,M2) else r)=if (decide (0<=q.scale)&&decide (q.scale<=18))=true then r else some (.bool false,M2):=by
     intro r;by_cases s1:q.scale<0
     ·rw[if_pos s1,df (show ¬0<=q.scale by omega),Bool.false_and,if_neg (by decide)]
     ·rw[if_neg s1,dt (show 0<=q.scale by omega),Bool.true_and];by_cases s2:18<q.scale
      ·rw[if_pos s2,df (show ¬q.scale<=18 by omega),if_neg (by decide)]
      ·rw[if_neg s2,dt (show q.scale<=18 by omega),if_pos rfl]
    have ifd:∀(p:Prop) [Decidable p] (x y:R),(match AV.bool (decide p) with | .bool true=>x | .bool false=>y | _=>none)=if p then x else y:=by
     intro p _ x y;by_cases h:p
     ·rw[if_pos h,dt h]
     ·rw[if_neg h,df h]
    by_cases h0:i=0
    ·have hp:q2R st.q0a i (fun r=>q0c r.name q.name)=true:=by unfold q2R;rw[dt h0,Bool.true_or]
     rw[hp,Bool.true_and,<-sc];by_cases s1:q.scale<0
     ·simp only[q2Z (H:=H28),T.q8H,p2,q1,pB,p1,q0b,ifV,unA,q0d,x2,x5,s2,a2,nm,xbt,df (show ¬(0:Int)<(i:Int) by omega),dt s1,if_pos s1]
     ·by_cases s3:18<q.scale
      ·simp only[q2Z (H:=H28),T.q8H,p2,q1,pB,p1,q0b,ifV,unA,q0d,x2,x5,s2,a2,nm,xbt,df (show ¬(0:Int)<(i:Int) by omega),df s1,if_neg s1,dt s3,if_pos s3]
      ·simp only[q2Z (H:=H28),T.q8H,p2,q1,pB,p1,q0b,ifV,unA,q0d,x2,x5,s2,a2,nm,xbt,df (show ¬(0:Int)<(i:Int) by omega),df s1,if_neg s1,df s3,if_neg s3]
    ·obtain⟨bs',o',_,y2,y3,_,_⟩:=(hb.p.q0k F2).ixT he hs (i:=i-1) (by rw[xlm];omega);have y0:=y3 0 (by omega);rw[xgm]at y0;obtain⟨r,hr⟩:∃r,r=st.q0a[i-1]'(by omega):=⟨_,rfl⟩;have hr2:st.q0a[i-1]? = some r:=by rw[xgq (by omega),hr]
     rw[<-hr]at y0;simp only[ge,q0r.cells,xna]at y0;have w1:IntKind.wrap .i64 ((i:Int)-1)=((i-1:Nat):Int):=by rw[wrap_i64 (by omega) (by omega)];omega
     have hp:q2R st.q0a i (fun r=>q0c r.name q.name)=q0c r.name q.name:=by unfold q2R;rw[df h0,Bool.false_or,hr2]
     have ci:=dt (show (0:Int)<(i:Int) by omega);rw[hp];cases hl:q0c r.name q.name with
     |false=>
      simp only[q2Z (H:=H28),T.q8H,p2,q1,pB,p1,q0b,ifV,unA,q0d,x2,x5,s2,a2,nm,xbt,ci,b2,w1,y2,y0,hl,xbf,Bool.false_and,xbq,if_false]
     |true=>
      rw[Bool.true_and,<-sc];by_cases s1:q.scale<0
      ·simp only[q2Z (H:=H28),T.q8H,p2,q1,pB,p1,q0b,ifV,unA,q0d,x2,x5,s2,a2,nm,xbt,ci,b2,w1,y2,y0,hl,dt s1,if_pos s1]
      ·by_cases s3:18<q.scale
       ·simp only[q2Z (H:=H28),T.q8H,p2,q1,pB,p1,q0b,ifV,unA,q0d,x2,x5,s2,a2,nm,xbt,ci,b2,w1,y2,y0,hl,df s1,if_neg s1,dt s3,if_pos s3]
       ·simp only[q2Z (H:=H28),T.q8H,p2,q1,pB,p1,q0b,ifV,unA,q0d,x2,x5,s2,a2,nm,xbt,ci,b2,w1,y2,y0,hl,df s1,if_neg s1,df s3,if_neg s3]
  rw[rd,q2n,hok,nx];cases hg:q5J st i q with
  |true=>
   obtain⟨M',g1,g2⟩:=ih (i+1) M2 (by omega) F2;exact⟨M',f2.step0 g1,by rw[if_pos rfl,g2,Bool.true_and]⟩
  |false=>exact⟨M2,f2,by rw[if_neg (by decide),Bool.false_and,if_neg (by decide)]⟩
theorem j0n (h1:m.get bb=some (.cells [sp,sq,sa,.int .u64 st.latest] false)) (hb:BkV m sp sq sa st) (ok:q2P st):∀(d i:Nat) (M:Mem),i+d=st.q0a.length->Fr m M []->
  Res M (D28.gor 57350 [.ptr (some ⟨bb,0⟩),sp,.int .i64 (st.q0a.length:Int),.int .i64 (i:Int)] M) (.bool (q2n (q7D st) d i)):=by
 obtain⟨e,he,hs⟩:=uP;have hn:=ok.small.1;intro d;induction d with
 |zero=>
  intro i M hi hM;have:i=st.q0a.length:=by omega
  subst this;simp only[q8J (H:=H28),T.j1S,p2,q0b,wp,df (show ¬((st.q0a.length:Nat):Int)<(st.q0a.length:Int) by omega),j1U (H:=H28),T.a3H,wp];exact Res.eq (Fr.refl _) rfl
 |succ d ih=>
  intro i M hi hM;have hlt:i<st.q0a.length:=by omega
  obtain⟨bs,o,_,x2,_,_,x5⟩:=(hb.p.q0k hM).ixT he hs (i:=i) (by rw[xlm];exact hlt);rw[xgm]at x5;obtain⟨q,hq⟩:∃q,q=st.q0a[i]:=⟨_,rfl⟩;have mq:q∈st.q0a:=by rw[hq];exact List.getElem_mem hlt
  rw[<-hq]at x5;obtain⟨M2,hM2⟩:∃M2,M2=M.lay (.cells q.cells false):=⟨_,rfl⟩;have f2:Fr M M2 []:=by rw[hM2];exact(Fr.refl M).lay _
  have F2:Fr m M2 []:=hM.step0 f2;have s2:stV (M.lay (.cells [.str [],.int .i64 0,.int .i64 0,.int .u64 0] false)) (.ptr (some ⟨M.next,0⟩)) (.agg q.cells) 4=some M2:=by rw[q07 (n:=4) (q0e M _) rfl rfl rfl,q03,hM2]
  have g2:M2.get M.next=some (.cells q.cells false):=by rw[hM2];exact q0e M _
  have l2:ldN M2 (.ptr (some ⟨M.next,0⟩)) 4=some (.agg q.cells):=q0C g2 rfl
  have lB:ldN M2 (.ptr (some ⟨bb,0⟩)) 4=some (.agg [sp,sq,sa,.int .u64 st.latest]):=q0C (F2.get h1 (by simp)) rfl;have hok:q7D st i=decide (z2q st.pairs st.q0j q=0):=by unfold q7D;rw[xgq hlt,<-hq]
  have ba:=j6T (H:=H28) rfl hb ok st.latest q (ok.p q mq).1 M2 F2;rw[q2n,hok];cases hv:decide (z2q st.pairs st.q0j q=0) with
  |false=>
   rw[hv]at ba;simp only[q8J (H:=H28),T.j1S,p2,q0b,wp,dt (show (i:Int)<(st.q0a.length:Int) by omega)];simp only[z2S (H:=H28),T.j79,p2,q1,pB,p1,q0b,unA,wp,x2,x5,s2,l2,lB,ba,xbf,Bool.false_and];exact Res.eq f2 rfl
  |true=>
   rw[hv]at ba;simp only[q8J (H:=H28),T.j1S,p2,q0b,wp,dt (show (i:Int)<(st.q0a.length:Int) by omega)];simp only[z2S (H:=H28),T.j79,p2,q1,pB,p1,q0b,unA,wp,x2,x5,s2,l2,lB,ba,xbt,Bool.true_and];simp only[j1T (H:=H28),T.a3G,p2,wp,show (i:Int)+1=((i+1:Nat):Int) by omega,wrap_i64 (n:=((i+1:Nat):Int)) (by omega) (by omega)];exact(ih (i+1) M2 (by omega) F2).step f2
theorem j4C (hb:BkV m sp sq sa st) (ok:q2P st):Res m (run E28 (.fn 14) [.agg [sp,sq,sa,.int .u64 st.latest],.int .i64 st.most] m) (.bool (q2p st)):=by
 obtain⟨M,hM⟩:∃M,M=m.lay (.cells [sp,sq,sa,.int .u64 st.latest] false):=⟨_,rfl⟩;have f1:Fr m M []:=by rw[hM];exact(Fr.refl m).lay _
 have g1:M.get m.next=some (.cells [sp,sq,sa,.int .u64 st.latest] false):=by rw[hM];exact q0e m _
 have a3:∀i:Nat,ld1 M (.ptr (some ⟨m.next,i⟩))=[sp,sq,sa,.int .u64 st.latest][i]?:=fun i=>q0f g1
 obtain⟨eP,uP1,uP2⟩:=uP;obtain⟨eA,uA1,uA2⟩:=uA;have lp:=hb.p.q1M uP1;have la:=hb.a.q1M uA1;rw[xlm]at lp la;have hbM:=hb.q0k f1;unfold q2p;have no:∀{v:Bool},v=false->Res m (some (.bool false,M)) (.bool v):=fun h=>Res.eq f1 (by rw[h])
 by_cases m1:st.most<1
 ·simp only[q93 (H:=H28) rfl,T.f14,p2,p1,q1,q0N,q0b,ifV,q0d,AV.cells,on1,lcs,if_true,xom,hb.p.one,hb.q.one,hb.a.one,<-hM,dt m1];exact no (by rw[df (show ¬1<=st.most by omega),Bool.false_and])
 ·rw[dt (show 1<=st.most by omega),Bool.true_and];by_cases m2:64<st.most
  ·simp only[q93 (H:=H28) rfl,T.f14,p2,p1,q1,q0N,q0b,ifV,q0d,AV.cells,on1,lcs,if_true,xom,hb.p.one,hb.q.one,hb.a.one,<-hM,df m1,dt m2];exact no (by rw[df (show ¬st.most<=64 by omega),Bool.false_and])
  ·rw[dt (show st.most<=64 by omega),Bool.true_and];by_cases m3:8<(st.q0a.length:Int)
   ·simp only[q93 (H:=H28) rfl,T.f14,p2,p1,q1,q0N,q0b,ifV,q0d,AV.cells,on1,lcs,ge,if_true,xom,hb.p.one,hb.q.one,hb.a.one,<-hM,df m1,df m2,a3,lp,dt m3];exact no (by rw[df (show ¬st.q0a.length<=8 by omega),Bool.false_and])
   ·rw[dt (show st.q0a.length<=8 by omega),Bool.true_and];by_cases m4:st.most<(st.q0j.length:Int)
    ·simp only[q93 (H:=H28) rfl,T.f14,p2,p1,q1,q0N,q0b,ifV,q0d,AV.cells,on1,lcs,ge,if_true,xom,hb.p.one,hb.q.one,hb.a.one,<-hM,df m1,df m2,a3,lp,df m3,la,dt m4];exact no (by rw[df (show ¬(st.q0j.length:Int)<=st.most by omega),Bool.false_and])
    ·rw[dt (show (st.q0j.length:Int)<=st.most by omega),Bool.true_and];obtain⟨M1,p1,p2⟩:=z06 g1 hbM ok st.q0a.length 0 M (by omega) (Fr.refl _);simp only[Int.natCast_zero]at p2;simp only[q93 (H:=H28) rfl,T.f14,q1,q0N,q0b,ifV,q0d,AV.cells,on1,lcs,ge,if_true,xom,hb.p.one,hb.q.one,hb.a.one,<-hM,df m1,df m2,a3,lp,df m3,la,df m4];simp only[j1O (H:=H28),T.a3D,q1,q0d,a3,lp]
     rw[p2];have F1:=f1.step0 p1;cases hp:q2n (q7f st) st.q0a.length 0 with
     |false=>
      rw[if_neg (by decide),Bool.false_and];exact Res.eq F1 rfl
     |true=>
      rw[if_pos rfl,Bool.true_and];have lB:ldN M1 (.ptr (some ⟨m.next,0⟩)) 4=some (.agg [sp,sq,sa,.int .u64 st.latest]):=q0C (p1.get g1 (by simp)) rfl
      have a31:∀i:Nat,ld1 M1 (.ptr (some ⟨m.next,i⟩))=[sp,sq,sa,.int .u64 st.latest][i]?:=fun i=>q0f (p1.get g1 (by simp))
      have rq:=a0s (H:=H28) rfl hb ok M1 F1;have ra:=j4p (H:=H28) rfl hb ok M1 F1;cases hq:q2n (q5P st) st.pairs.length 0 with
      |false=>
       rw[hq]at rq;rw[Bool.false_and];simp only[q8I (H:=H28),T.j1Q,q1,q0b,ifV,unA,wp,lB,rq,xbf];exact Res.eq F1 rfl
      |true=>
       rw[hq]at rq;rw[Bool.true_and];cases ha:(q2n (q5O st) st.q0j.length 0&&decide (st.latest<=72057594037927935)) with
       |false=>
        rw[ha]at ra;rw[Bool.false_and];simp only[q8I (H:=H28),T.j1Q,q1,q0b,ifV,unA,wp,lB,rq,ra,xbf,xbt];exact Res.eq F1 rfl
       |true=>
        rw[ha]at ra;rw[Bool.true_and];have lo:=j0n (p1.get g1 (by simp)) (hb.q0k F1) ok st.q0a.length 0 M1 (by omega) (Fr.refl _);simp only[Int.natCast_zero]at lo;simp only[q8I (H:=H28),T.j1Q,q1,q0b,ifV,unA,wp,lB,rq,ra,xbt];simp only[j1R (H:=H28),T.a3F,q1,q0d,a31,lp];exact lo.step F1
end
end
end Go.Proofs.YtlginbmjiecglaaGreatDoor
