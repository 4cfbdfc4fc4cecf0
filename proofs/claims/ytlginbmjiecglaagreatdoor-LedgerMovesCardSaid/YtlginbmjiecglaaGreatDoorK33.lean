/- Texts of one claim, put together. -/
import Derived.Test.YtlginbmjiecglaaGreatDoorK0
import Derived.Test.YtlginbmjiecglaaGreatDoorK19
import Derived.Test.YtlginbmjiecglaaGreatDoorK32
namespace Go.Proofs.YtlginbmjiecglaaGreatDoor
section
set_option maxRecDepth 4000
open Go Go.Abs
structure BkAt (m:Mem) (b:Nat) (st:LSt):Prop where
 ex:∃sp sq sa,m.get b=some (.cells [sp,sq,sa,.int .u64 st.latest] false)∧BkV m sp sq sa st
theorem BkAt.q0p {m m':Mem} {b:Nat} {st:LSt} (h:BkAt m b st) (hf:Fr m m' []):BkAt m' b st:=by
 obtain⟨sp,sq,sa,h1,h2⟩:=h.ex
 exact⟨sp,sq,sa,hf.get h1 (by simp),h2.q0p hf⟩
section
variable {m:Mem} {sp:AV} {ps:List PurseV}
theorem has_loop (hv:q7i 4 m sp (ps.map (·.cells))) (hl:ps.length≤1000000000000000000) (k:List UInt8):∀(d i:Nat) (M:Mem),i+d=ps.length→Fr m M []→
  Res M (D26.gor 372736 [.str k,sp,.int .i64 (ps.length:Int),.int .i64 (i:Int)] M) (.bool (decide (k∈(ps.drop i).map (·.name)))):=by
 obtain⟨e,he,hs⟩:=uP
 intro d
 induction d with
 |zero=>
  intro i M hi hM
  have:i=ps.length:=by omega
  subst this
  rw[List.drop_length]
  simp only[j7j (H:=H26),T.g91_0,p2,q0a,w_g91_0,df (show ¬((ps.length:Nat):Int)<(ps.length:Int) by omega),g91_3_is (H:=H26),T.g91_3,w_g91_3]
  exact Res.eq (Fr.refl _) (by simp)
 |succ d ih=>
  intro i M hi hM
  have hlt:i<ps.length:=by omega
  obtain⟨bs,o,_,x2,_,_,x5⟩:=(hv.q0p hM).ixT he hs (i:=i) (by rw[List.length_map];exact hlt)
  rw[List.getElem_map]at x5
  obtain⟨M2,hM2⟩:∃M2,M2=M.lay (.cells ps[i].cells false):=⟨_,rfl⟩
  have f2:Fr M M2 []:=by rw[hM2];exact(Fr.refl M).lay _
  have s2:stV (M.lay (.cells [.str [],.int .i64 0,.int .i64 0,.int .u64 0] false)) (.ptr (some ⟨M.next,0⟩)) (.agg ps[i].cells) 4=some M2:=by rw[q1w (n:=4) (q0d M _) rfl rfl rfl,q1m,hM2]
  have a2:∀j:Nat,ld1 M2 (.ptr (some ⟨M.next,j⟩))=ps[i].cells[j]?:=fun j=>by rw[hM2];exact q0j (q0d M _)
  have hc:decide (k∈(ps.drop i).map (·.name))=(decide (ps[i].name=k)||decide (k∈(ps.drop (i+1)).map (·.name))):=by
   rw[List.drop_eq_getElem_cons hlt,List.map_cons,Bool.eq_iff_iff]
   simp only[Bool.or_eq_true,decide_eq_true_eq,List.mem_cons]
   exact⟨fun h=>h.imp Eq.symm id,fun h=>h.imp Eq.symm id⟩
  rw[hc]
  simp only[PurseV.cells]at a2 s2 x5
  simp only[j7j (H:=H26),T.g91_0,p2,q0a,w_g91_0,dt (show (i:Int)<(ps.length:Int) by omega)]
  simp only[g91_1_is (H:=H26),T.g91_1,p2,q1,pB,p1,q0a,w_g91_1,x2,x5,s2,a2]
  by_cases h:ps[i].name=k
  ·simp only[dt h,Bool.true_or]
   exact Res.eq f2 rfl
  ·simp only[df h,Bool.false_or]
   simp only[g91_2_is (H:=H26),T.g91_2,p2,w_g91_2,show (i:Int)+1=((i+1:Nat):Int) by omega,wrap_i64 (n:=((i+1:Nat):Int)) (by omega) (by omega)]
   exact(ih (i+1) M2 (by omega) (hM.step0 f2)).step f2
end
section
variable {m:Mem} {sp sq sa:AV} {st:LSt}
theorem has_is (hb:BkV m sp sq sa st) (hn:j2h st) (lt:Int) (k:List UInt8):Res m (run E26 (.fn 91) [.agg [sp,sq,sa,.int .u64 lt],.str k] m) (.bool (decide (k∈st.q0b.map (·.name)))):=by
 obtain⟨M,hM⟩:∃M,M=m.lay (.cells [sp,sq,sa,.int .u64 lt] false):=⟨_,rfl⟩
 have f1:Fr m M []:=by rw[hM];exact(Fr.refl m).lay _
 have a3:∀i:Nat,ld1 M (.ptr (some ⟨m.next,i⟩))=[sp,sq,sa,.int .u64 lt][i]?:=fun i=>by rw[hM];exact q0j (q0d m _)
 obtain⟨e,he,hs⟩:=uP
 have hlen:=hb.p.q4n he
 rw[List.length_map]at hlen
 have lo:=has_loop (hb.p.q0p f1) hn.1 k st.q0b.length 0 M (by omega) (Fr.refl _)
 rw[List.drop_zero]at lo
 simp only[Int.natCast_zero]at lo
 simp only[f91_is (H:=H26) rfl,T.f91,p1,q1,q1h,w_f91,AV.cells,on1,lcs,ge,if_true,Option.map_some,hb.p.one,hb.q.one,hb.a.one,←hM,a3,hlen]
 exact lo.step f1
end
def j2k (t:Int):List AV:=[.int .i64 (t / 18446744073709551616 / 18446744073709551616),.int .u64 (t / 18446744073709551616 % 18446744073709551616),.int .u64 (t % 18446744073709551616)]
section
variable {M:Mem} {c:Nat}
theorem j79 {h l:Int} (hc:M.get c=some (.cells [.int .i64 (h / 18446744073709551616),.int .u64 (h % 18446744073709551616),.int .u64 l] false)) {w:Wd} (hw:w.ok) {b:Nat} (hb:M.get b=some (.cells w.cells false)) (h1:-85070591730234615865843651857942052864≤h) (h2:h<85070591730234615865843651857942052864) :
  D26.gor 385024 [.ptr (some ⟨c,0⟩),.ptr (some ⟨b,0⟩)] M=some (.undef,M.put c (some (.cells [.int .i64 ((h+w.hi) / 18446744073709551616),.int .u64 ((h+w.hi) % 18446744073709551616),.int .u64 l] false))):=by
 obtain⟨w1,w2,w3,w4⟩:=hw
 have fh:q1c h=true:=q1j (by omega) (by omega)
 have fw:q1c w.hi=true:=q1j (by omega) (by omega)
 have fs:q1c (h+w.hi)=true:=q1j (by omega) (by omega)
 have o:=fun m=>of_at (H:=H26) rfl w1 w2 m
 have ad:=fun m=>j5b (H:=H26) rfl (Wd.q44 fh) (Wd.q44 fw) m
 rw[Wd.q18,Wd.q18,q2b fs]at ad
 have l2:ldN M (.ptr (some ⟨c,0⟩)) 2=some (.agg (Wd.of h).cells):=by rw[q1v hc (by simp)];rfl
 have b1:∀i:Nat,ld1 M (.ptr (some ⟨b,i⟩))=w.cells[i]?:=fun i=>q0j hb
 have s2:=q3l (v:=.agg (Wd.of (h+w.hi)).cells) (o:=0) (n:=2) hc (q19 rfl) rfl (by simp)
 simp only[Wd.cells,Wd.of,List.take_zero,List.nil_append,Nat.zero_add,List.drop_succ_cons,List.drop_zero,List.cons_append]at o ad l2 b1 s2
 simp only[g94_0_is (H:=H26),T.g94_0,p1,q1,nnA,q0g,w_g94_0,l2,b1,o,if_true,ad,s2]
theorem z8j {t:Int} (hc:M.get c=some (.cells (j2k t) false)) {w:Wd} (hw:w.ok) (h1:-784637716923335095479473677900958302012794430558004314112≤t) (h2:t<784637716923335095479473677900958302012794430558004314112) :
  ∃M',run E26 (.fn 94) [.ptr (some ⟨c,0⟩),.agg w.cells] M=some (.undef,M')∧M'.get c=some (.cells (j2k (t+w.val)) false)∧Fr M M' [c]:=by
 have hw':=hw
 obtain⟨w1,w2,w3,w4⟩:=hw
 have lc:=Mem.q0w hc
 obtain⟨h,hh⟩:∃h,h=t / 18446744073709551616:=⟨_,rfl⟩
 obtain⟨l,hl⟩:∃l,l=t % 18446744073709551616:=⟨_,rfl⟩
 obtain⟨M1,hM1⟩:∃M1,M1=M.lay (.cells w.cells false):=⟨_,rfl⟩
 have f1:Fr M M1 []:=by rw[hM1];exact(Fr.refl M).lay _
 have c1:M1.get c=some (.cells [.int .i64 (h / 18446744073709551616),.int .u64 (h % 18446744073709551616),.int .u64 l] false):=by rw[hh,hl];exact f1.get hc (by simp)
 have b1:M1.get M.next=some (.cells w.cells false):=by rw[hM1];exact q0d _ _
 obtain⟨k,hk⟩:∃k,k=(l+w.lo) % 18446744073709551616:=⟨_,rfl⟩
 obtain⟨M2,hM2⟩:∃M2,M2=M1.put c (some (.cells [.int .i64 (h / 18446744073709551616),.int .u64 (h % 18446744073709551616),.int .u64 k] false)):=⟨_,rfl⟩
 have f2:Fr M1 M2 [c]:=by rw[hM2];exact Fr.put _ _ _
 have c2:M2.get c=some (.cells [.int .i64 (h / 18446744073709551616),.int .u64 (h % 18446744073709551616),.int .u64 k] false):=by rw[hM2];exact q05 c1
 have b2:M2.get M.next=some (.cells w.cells false):=f2.get b1 (by simp;omega)
 have s1:stV M1 (.ptr (some ⟨c,2⟩)) (.int .u64 k) 1=some M2:=by
  have:=q3l (v:=.int .u64 k) (o:=2) (n:=1) c1 rfl rfl (by simp)
  rw[hM2];simpa using this
 have a1:∀i:Nat,ld1 M1 (.ptr (some ⟨c,i⟩))=[AV.int .i64 (h / 18446744073709551616),.int .u64 (h % 18446744073709551616),.int .u64 l][i]?:=fun i=>q0j c1
 have a2:∀i:Nat,ld1 M2 (.ptr (some ⟨c,i⟩))=[AV.int .i64 (h / 18446744073709551616),.int .u64 (h % 18446744073709551616),.int .u64 k][i]?:=fun i=>q0j c2
 have e1:∀i:Nat,ld1 M1 (.ptr (some ⟨M.next,i⟩))=w.cells[i]?:=fun i=>q0j b1
 have e2:∀i:Nat,ld1 M2 (.ptr (some ⟨M.next,i⟩))=w.cells[i]?:=fun i=>q0j b2
 have wk:IntKind.wrap .u64 (l+w.lo)=k:=by rw[q0o,hk]
 have fr2:Fr M M2 [c]:=(f1.any _).step f2 (fun c hc=>.inl hc)
 by_cases hlt:k<w.lo
 ·have fh:q1c h=true:=q1j (by omega) (by omega)
  have fs:q1c (h+1)=true:=q1j (by omega) (by omega)
  have o:=fun m=>of_at (H:=H26) rfl (n:=1) (by omega) (by omega) m
  have ad:=fun m=>j5b (H:=H26) rfl (Wd.q44 fh) (Wd.q44 (n:=1) (q1j (by omega) (by omega))) m
  rw[Wd.q18,Wd.q18,q2b fs]at ad
  have l2:ldN M2 (.ptr (some ⟨c,0⟩)) 2=some (.agg (Wd.of h).cells):=by rw[q1v c2 (by simp)];rfl
  have s2:=q3l (v:=.agg (Wd.of (h+1)).cells) (o:=0) (n:=2) c2 (q19 rfl) rfl (by simp)
  obtain⟨M3,hM3⟩:∃M3,M3=M2.put c (some (.cells [.int .i64 ((h+1) / 18446744073709551616),.int .u64 ((h+1) % 18446744073709551616),.int .u64 k] false)):=⟨_,rfl⟩
  have f3:Fr M2 M3 [c]:=by rw[hM3];exact Fr.put _ _ _
  have c3:M3.get c=some (.cells [.int .i64 ((h+1) / 18446744073709551616),.int .u64 ((h+1) % 18446744073709551616),.int .u64 k] false):=by rw[hM3];exact q05 c2
  have en:=j79 c3 hw' (f3.get b2 (by simp;omega)) (by omega) (by omega)
  refine⟨M3.put c (some (.cells [.int .i64 ((h+1+w.hi) / 18446744073709551616),.int .u64 ((h+1+w.hi) % 18446744073709551616),.int .u64 k] false)),?_,(q05 c3).trans ?_,(fr2.step f3 (fun c hc=>.inl hc)).put' (.inl (by simp))⟩
  ·simp only[Wd.cells,Wd.of,List.take_zero,List.nil_append,Nat.zero_add,List.drop_succ_cons,List.drop_zero,List.cons_append]at o ad l2 s2 e1 e2 hM1
   rw[←hM3]at s2
   simp only[f94_is (H:=H26) rfl,T.f94,p1,q1,p2,q1h,nnA,q0g,q0a,w_f94,AV.cells,on1,lcs,ge,if_true,Option.map_some,Wd.cells,←hM1,a1,e1,wk,s1,a2,e2,dt hlt,l2,o,ad,s2,en]
  ·unfold j2k Wd.val
   have q1:(t+(w.hi*18446744073709551616+w.lo)) / 18446744073709551616=h+1+w.hi:=by omega
   have q2:(t+(w.hi*18446744073709551616+w.lo)) % 18446744073709551616=k:=by omega
   rw[q1,q2]
 ·have en:=j79 c2 hw' b2 (by omega) (by omega)
  refine⟨M2.put c (some (.cells [.int .i64 ((h+w.hi) / 18446744073709551616),.int .u64 ((h+w.hi) % 18446744073709551616),.int .u64 k] false)),?_,(q05 c2).trans ?_,fr2.put' (.inl (by simp))⟩
  ·simp only[Wd.cells]at e1 e2 hM1
   simp only[f94_is (H:=H26) rfl,T.f94,p1,q1,p2,q1h,nnA,q0g,q0a,w_f94,AV.cells,on1,lcs,ge,if_true,Option.map_some,Wd.cells,←hM1,a1,e1,wk,s1,a2,e2,df hlt,en]
  ·unfold j2k Wd.val
   have q1:(t+(w.hi*18446744073709551616+w.lo)) / 18446744073709551616=h+w.hi:=by omega
   have q2:(t+(w.hi*18446744073709551616+w.lo)) % 18446744073709551616=k:=by omega
   rw[q1,q2]
theorem szero_is {t:Int} (hc:M.get c=some (.cells (j2k t) false)) (h1:-784637716923335095479473677900958302012794430558004314112≤t) (h2:t<784637716923335095479473677900958302012794430558004314112):run E26 (.fn 95) [.ptr (some ⟨c,0⟩)] M=some (.bool (decide (t=0)),M):=by
 have a1:∀i:Nat,ld1 M (.ptr (some ⟨c,i⟩))=(j2k t)[i]?:=fun i=>q0j hc
 have fh:q1c (t / 18446744073709551616)=true:=q1j (by omega) (by omega)
 have l2:ldN M (.ptr (some ⟨c,0⟩)) 2=some (.agg (Wd.of (t / 18446744073709551616)).cells):=by rw[q1v hc (by simp[j2k])];rfl
 have sg:=z0d (H:=H26) rfl (Wd.q44 fh) M
 rw[Wd.q18]at sg
 simp only[Wd.cells,Wd.of,j2k]at a1 l2 sg
 by_cases h:t % 18446744073709551616=0
 ·have e:decide (sgn (t / 18446744073709551616)=0)=decide (t=0):=by
   unfold sgn
   apply decide_eq_decide.mpr
   split
   ·omega
   ·split<;>omega
  simp only[f95_is (H:=H26) rfl,T.f95,p1,q1,p2,nnA,ifV,w_f95,a1,dt h,l2,sg,e]
 ·simp only[f95_is (H:=H26) rfl,T.f95,p1,q1,p2,nnA,ifV,w_f95,a1,df h,df (show ¬t=0 by omega)]
end
end
section
set_option maxRecDepth 4000
open Go Go.Abs
def S27:List FuncId:=[91]
def R27:List FuncId:=[94,95,9]
noncomputable def H27:FuncId→Option (List AV→Mem→R):=q62 E26 S27 R27
noncomputable abbrev E27:Env:=T.EH H27
theorem E27_ok:EnvOk E27:=q4v E26_ok S27 R27
noncomputable abbrev D27:Do:=T.Rl H27
theorem raw26 {H:FuncId→Option (List AV→Mem→R)} {f:FuncId} (h:H f=some (run E26 (.fn f))) (xs:List AV) (m:Mem):run (T.EH H) (.fn f) xs m=run E26 (.fn f) xs m:=q1t h xs m
theorem q5o {H:FuncId→Option (List AV→Mem→R)} (hh:H 91=some (q0v E26 91)) {m:Mem} {sp sq sa:AV} {st:LSt} (hb:BkV m sp sq sa st) (hn:j2h st) (lt:Int) (k:List UInt8) (M:Mem) (hM:Fr m M []) :
  run (T.EH H) (.fn 91) [.agg [sp,sq,sa,.int .u64 lt],.str k] M=some (.bool (decide (k∈st.q0b.map (·.name))),M):=
 q0s hh (by simp[AV.flat,AV.lt]) fun m2 h1 h2=>has_is ((hb.q0p hM).q0p (Fr.same h1 h2)) hn lt k
structure BkOk (st:LSt):Prop where
 small:j2h st
 p:∀p∈st.q0b,p.out.ok∧p.name.length<4611686018427387904
 q:∀q∈st.pairs,q.rate.ok∧q.inx.ok∧q.outy.ok∧q.x.length<4611686018427387904∧q.y.length<4611686018427387904
 a:∀a∈st.q0n,a.bal.ok∧0≤a.id∧a.id<18446744073709551616∧a.coin.length<4611686018427387904
 lat:0≤st.latest∧st.latest<18446744073709551616
def near (t:Int) (n:Nat):Prop:=-(170141183460469231731687303715884105728*(n:Int))≤t∧t≤170141183460469231731687303715884105728*(n:Int)
theorem near.add {t:Int} {n:Nat} (h:near t n) {w:Wd} (hw:w.ok):near (t+w.val) (n+1):=by
 obtain⟨h1,h2⟩:=h
 obtain⟨w1,w2,w3,w4⟩:=hw
 unfold near Wd.val
 omega
theorem near.up {t:Int} {n k:Nat} (h:near t n) (hk:n≤k):near t k:=by
 obtain⟨h1,h2⟩:=h
 unfold near
 omega
theorem near.small {t:Int} {n:Nat} (h:near t n) (hn:n≤4000000000000000000):-784637716923335095479473677900958302012794430558004314112≤t∧t<784637716923335095479473677900958302012794430558004314112:=by
 obtain⟨h1,h2⟩:=h
 omega
section
variable {m m0:Mem} {sp sq sa:AV} {st:LSt} {bb pb c:Nat} {p:PurseV}
theorem bal_accs (hb:BkV m sp sq sa st) (ok:BkOk st) (f0:Fr m m0 []) (hp:m0.get pb=some (.cells p.cells false)) (hpc:pb≠c) (hcm:m.next≤c) (t2:AV):∀(d i:Nat) (M:Mem) (t:Int),i+d=st.q0n.length→Fr m0 M [c]→M.get c=some (.cells (j2k t) false)→near t (i+1)→
  ∃M',D27.gor 200704 [t2,.ptr (some ⟨pb,0⟩),.ptr (some ⟨c,0⟩),sa,.int .i64 (st.q0n.length:Int),.int .i64 (i:Int)] M=D27.gor 200707 [t2,.ptr (some ⟨pb,0⟩),.ptr (some ⟨c,0⟩)] M'∧M'.get c=some (.cells (j2k (t+sA p.name (st.q0n.drop i))) false)∧near (t+sA p.name (st.q0n.drop i)) (st.q0n.length+1)∧Fr m0 M' [c]:=by
 obtain⟨e,he,hs⟩:=uA
 have hn:=ok.small.2.2
 intro d
 induction d with
 |zero=>
  intro i M t hi fM hc hn'
  have:i=st.q0n.length:=by omega
  subst this
  rw[List.drop_length,show sA p.name []=0 from rfl,Int.add_zero]
  refine⟨M,?_,hc,hn',fM⟩
  simp only[j6r (H:=H27),T.g49_0,p2,q0a,w_g49_0,df (show ¬((st.q0n.length:Nat):Int)<(st.q0n.length:Int) by omega)]
 |succ d ih=>
  intro i M t hi fM hc hn'
  have hlt:i<st.q0n.length:=by omega
  have FM:Fr m M []:=f0.step fM (fun c' hc'=>by simp only[List.mem_singleton]at hc';subst hc';exact .inr hcm)
  obtain⟨bs,o,_,x2,_,_,x5⟩:=(hb.a.q0p FM).ixT he hs (i:=i) (by rw[List.length_map];exact hlt)
  rw[List.getElem_map]at x5
  obtain⟨a,ha⟩:∃a,a=st.q0n[i]:=⟨_,rfl⟩
  have oka:=(ok.a a (by rw[ha];exact List.getElem_mem hlt)).1
  have hsum:sA p.name (st.q0n.drop i)=(if a.coin=p.name then a.bal.val else 0)+sA p.name (st.q0n.drop (i+1)):=by
   rw[List.drop_eq_getElem_cons hlt,ha];rfl
  rw[←ha]at x5
  obtain⟨M2,hM2⟩:∃M2,M2=M.lay (.cells a.cells false):=⟨_,rfl⟩
  have f2:Fr M M2 []:=by rw[hM2];exact(Fr.refl M).lay _
  have s2:stV (M.lay (.cells [.int .u64 0,.str [],.int .i64 0,.int .u64 0] false)) (.ptr (some ⟨M.next,0⟩)) (.agg a.cells) 4=some M2:=by rw[q1w (n:=4) (q0d M _) rfl rfl rfl,q1m,hM2]
  have g2:M2.get M.next=some (.cells a.cells false):=by rw[hM2];exact q0d M _
  have a2:∀j:Nat,ld1 M2 (.ptr (some ⟨M.next,j⟩))=a.cells[j]?:=fun j=>q0j g2
  have l2:ldN M2 (.ptr (some ⟨M.next,2⟩)) 2=some (.agg a.bal.cells):=by rw[q1v g2 (by simp)];rfl
  have p2:∀j:Nat,ld1 M2 (.ptr (some ⟨pb,j⟩))=p.cells[j]?:=fun j=>q0j (f2.get (fM.get hp (by simp;exact hpc)) (by simp))
  have c2:=f2.get hc (by simp)
  have fM2:Fr m0 M2 [c]:=fM.step0 f2
  have st1:D27.gor 200704 [t2,.ptr (some ⟨pb,0⟩),.ptr (some ⟨c,0⟩),sa,.int .i64 (st.q0n.length:Int),.int .i64 (i:Int)] M=D27.gor 200705 [t2,.ptr (some ⟨pb,0⟩),.ptr (some ⟨c,0⟩),sa,.int .i64 (st.q0n.length:Int),.int .i64 (i:Int)] M:=by
   simp only[j6r (H:=H27),T.g49_0,q0a,w_g49_0,dt (show (i:Int)<(st.q0n.length:Int) by omega)]
  have st2:∀M,D27.gor 200706 [t2,.ptr (some ⟨pb,0⟩),.ptr (some ⟨c,0⟩),sa,.int .i64 (st.q0n.length:Int),.int .i64 (i:Int)] M=D27.gor 200704 [t2,.ptr (some ⟨pb,0⟩),.ptr (some ⟨c,0⟩),sa,.int .i64 (st.q0n.length:Int),.int .i64 ((i+1:Nat):Int)] M:=fun M=>by
   simp only[g49_2_is (H:=H27),T.g49_2,w_g49_2,show (i:Int)+1=((i+1:Nat):Int) by omega,wrap_i64 (n:=((i+1:Nat):Int)) (by omega) (by omega)]
  rw[st1,hsum]
  simp only[AccV.cells,PurseV.cells]at x5 s2 a2 p2
  by_cases h:a.coin=p.name
  ·rw[if_pos h]
   have ns:=hn'.small (by omega)
   obtain⟨M3,c1,c3,c4⟩:=z8j c2 oka ns.1 ns.2
   have c1':=(raw26 (H:=H27) (f:=94) rfl _ _).trans c1
   obtain⟨M4,r1,r2,r3,r4⟩:=ih (i+1) M3 (t+a.bal.val) (by omega) (fM2.step c4 (fun c hc=>.inl hc)) c3 (hn'.add oka)
   refine⟨M4,?_,by rw[←Int.add_assoc];exact r2,by rw[←Int.add_assoc];exact r3,r4⟩
   simp only[j6s (H:=H27),T.g49_1,p2,q1,pB,p1,q0a,w_g49_1,x2,x5,s2,a2,dt h,l2,c1',st2]
   exact r1
  ·rw[if_neg h,Int.zero_add]
   obtain⟨M4,r1,r2,r3,r4⟩:=ih (i+1) M2 t (by omega) fM2 c2 (hn'.up (by omega))
   refine⟨M4,?_,r2,r3,r4⟩
   simp only[j6s (H:=H27),T.g49_1,p2,q1,pB,p1,q0a,w_g49_1,x2,x5,s2,a2,df h,st2]
   exact r1
theorem bal_pairs (hb:BkV m sp sq sa st) (ok:BkOk st) (f0:Fr m m0 []) (hp:m0.get pb=some (.cells p.cells false)) (hpc:pb≠c) (hcm:m.next≤c) (n0:Nat) (hn0:n0≤1000000000000000001):∀(d i:Nat) (M:Mem) (t:Int),i+d=st.pairs.length→Fr m0 M [c]→M.get c=some (.cells (j2k t) false)→near t (n0+2*i)→
  ∃M',D27.gor 200708 [.ptr (some ⟨pb,0⟩),.ptr (some ⟨c,0⟩),sq,.int .i64 (st.pairs.length:Int),.int .i64 (i:Int)] M=D27.gor 200712 [.ptr (some ⟨c,0⟩)] M'∧M'.get c=some (.cells (j2k (t+sQ p.name (st.pairs.drop i))) false)∧near (t+sQ p.name (st.pairs.drop i)) (n0+2*st.pairs.length)∧Fr m0 M' [c]:=by
 obtain⟨e,he,hs⟩:=uQ
 have hn:=ok.small.2.1
 intro d
 induction d with
 |zero=>
  intro i M t hi fM hc hn'
  have:i=st.pairs.length:=by omega
  subst this
  rw[List.drop_length,show sQ p.name []=0 from rfl,Int.add_zero]
  refine⟨M,?_,hc,hn',fM⟩
  simp only[j6t (H:=H27),T.g49_4,p2,q0a,w_g49_4,df (show ¬((st.pairs.length:Nat):Int)<(st.pairs.length:Int) by omega)]
 |succ d ih=>
  intro i M t hi fM hc hn'
  have hlt:i<st.pairs.length:=by omega
  have FM:Fr m M []:=f0.step fM (fun c' hc'=>by simp only[List.mem_singleton]at hc';subst hc';exact .inr hcm)
  obtain⟨bs,o,_,x2,_,_,x5⟩:=(hb.q.q0p FM).ixT he hs (i:=i) (by rw[List.length_map];exact hlt)
  rw[List.getElem_map]at x5
  obtain⟨a,ha⟩:∃a,a=st.pairs[i]:=⟨_,rfl⟩
  have oka:=ok.q a (by rw[ha];exact List.getElem_mem hlt)
  have hsum:sQ p.name (st.pairs.drop i)=((if a.x=p.name then a.inx.val else 0)+(if a.y=p.name then a.outy.val else 0))+sQ p.name (st.pairs.drop (i+1)):=by
   rw[List.drop_eq_getElem_cons hlt,ha];rfl
  rw[←ha]at x5
  obtain⟨M2,hM2⟩:∃M2,M2=M.lay (.cells a.cells false):=⟨_,rfl⟩
  have f2:Fr M M2 []:=by rw[hM2];exact(Fr.refl M).lay _
  have s2:stV (M.lay (.cells [.str [],.str [],.int .i64 0,.int .u64 0,.int .i64 0,.int .i64 0,.int .u64 0,.int .i64 0,.int .u64 0] false)) (.ptr (some ⟨M.next,0⟩)) (.agg a.cells) 9=some M2:=by rw[q1w (n:=9) (q0d M _) rfl rfl rfl,q1m,hM2]
  have g2:M2.get M.next=some (.cells a.cells false):=by rw[hM2];exact q0d M _
  have a2:∀j:Nat,ld1 M2 (.ptr (some ⟨M.next,j⟩))=a.cells[j]?:=fun j=>q0j g2
  have l2:ldN M2 (.ptr (some ⟨M.next,5⟩)) 2=some (.agg a.inx.cells):=by rw[q1v g2 (by simp)];rfl
  have p2:∀j:Nat,ld1 M2 (.ptr (some ⟨pb,j⟩))=p.cells[j]?:=fun j=>q0j (f2.get (fM.get hp (by simp;exact hpc)) (by simp))
  have c2:=f2.get hc (by simp)
  have fM2:Fr m0 M2 [c]:=fM.step0 f2
  have lcM:=Mem.q0w hc
  have st1:D27.gor 200708 [.ptr (some ⟨pb,0⟩),.ptr (some ⟨c,0⟩),sq,.int .i64 (st.pairs.length:Int),.int .i64 (i:Int)] M=D27.gor 200709 [.ptr (some ⟨pb,0⟩),.ptr (some ⟨c,0⟩),sq,.int .i64 (st.pairs.length:Int),.int .i64 (i:Int)] M:=by
   simp only[j6t (H:=H27),T.g49_4,q0a,w_g49_4,dt (show (i:Int)<(st.pairs.length:Int) by omega)]
  have st2:∀M,D27.gor 200711 [.ptr (some ⟨pb,0⟩),.ptr (some ⟨c,0⟩),sq,.int .i64 (st.pairs.length:Int),.int .i64 (i:Int)] M=D27.gor 200708 [.ptr (some ⟨pb,0⟩),.ptr (some ⟨c,0⟩),sq,.int .i64 (st.pairs.length:Int),.int .i64 ((i+1:Nat):Int)] M:=fun M=>by
   simp only[g49_7_is (H:=H27),T.g49_7,w_g49_7,show (i:Int)+1=((i+1:Nat):Int) by omega,wrap_i64 (n:=((i+1:Nat):Int)) (by omega) (by omega)]
  have half:∀(M3:Mem) (t':Int),Fr m0 M3 [c]→M3.get c=some (.cells (j2k t') false)→M3.get M.next=some (.cells a.cells false)→near t' (n0+2*i+1)→∃M',D27.gor 200710 [.ptr (some ⟨pb,0⟩),.ptr (some ⟨c,0⟩),.ptr (some ⟨M.next,0⟩),sq,.int .i64 (st.pairs.length:Int),.int .i64 (i:Int)] M3=D27.gor 200712 [.ptr (some ⟨c,0⟩)] M'∧
    M'.get c=some (.cells (j2k (t'+(if a.y=p.name then a.outy.val else 0)+sQ p.name (st.pairs.drop (i+1)))) false)∧near (t'+(if a.y=p.name then a.outy.val else 0)+sQ p.name (st.pairs.drop (i+1))) (n0+2*st.pairs.length)∧Fr m0 M' [c]:=by
   intro M3 t' f3 c3 g3 n3
   have a3:∀j:Nat,ld1 M3 (.ptr (some ⟨M.next,j⟩))=a.cells[j]?:=fun j=>q0j g3
   have l3:ldN M3 (.ptr (some ⟨M.next,7⟩)) 2=some (.agg a.outy.cells):=by rw[q1v g3 (by simp)];rfl
   have p3:∀j:Nat,ld1 M3 (.ptr (some ⟨pb,j⟩))=p.cells[j]?:=fun j=>q0j (f3.get hp (by simp;exact hpc))
   simp only[PairV.cells,PurseV.cells]at a3 p3
   by_cases h:a.y=p.name
   ·rw[if_pos h]
    have ns:=n3.small (by omega)
    obtain⟨M4,d1,d3,d4⟩:=z8j c3 oka.2.2.1 ns.1 ns.2
    have d1':=(raw26 (H:=H27) (f:=94) rfl _ _).trans d1
    obtain⟨M5,r1,r2,r3,r4⟩:=ih (i+1) M4 (t'+a.outy.val) (by omega) (f3.step d4 (fun c hc=>.inl hc)) d3 ((n3.add oka.2.2.1).up (by omega))
    refine⟨M5,?_,r2,r3,r4⟩
    simp only[j6v (H:=H27),T.g49_6,p1,q1,q0a,w_g49_6,a3,p3,dt h,l3,d1',st2]
    exact r1
   ·rw[if_neg h,Int.add_zero]
    obtain⟨M5,r1,r2,r3,r4⟩:=ih (i+1) M3 t' (by omega) f3 c3 (n3.up (by omega))
    refine⟨M5,?_,r2,r3,r4⟩
    simp only[j6v (H:=H27),T.g49_6,p1,q1,q0a,w_g49_6,a3,p3,df h,st2]
    exact r1
  rw[st1,hsum]
  have g2':=g2
  simp only[PairV.cells,PurseV.cells]at x5 s2 a2 p2
  by_cases h:a.x=p.name
  ·rw[if_pos h]
   have ns:=hn'.small (by omega)
   obtain⟨M3,c1,c3,c4⟩:=z8j c2 oka.2.1 ns.1 ns.2
   have c1':=(raw26 (H:=H27) (f:=94) rfl _ _).trans c1
   obtain⟨M4,r1,r2,r3,r4⟩:=half M3 (t+a.inx.val) (fM2.step c4 (fun c hc=>.inl hc)) c3 (c4.get g2' (by simp;omega)) (hn'.add oka.2.1)
   have e9:t+a.inx.val+(if a.y=p.name then a.outy.val else 0)+sQ p.name (st.pairs.drop (i+1))=t+(a.inx.val+(if a.y=p.name then a.outy.val else 0)+sQ p.name (st.pairs.drop (i+1))):=by omega
   rw[e9]at r2 r3
   refine⟨M4,?_,r2,r3,r4⟩
   simp only[j6u (H:=H27),T.g49_5,p2,q1,pB,p1,q0a,w_g49_5,x2,x5,s2,a2,dt h,l2,c1']
   exact r1
  ·rw[if_neg h,Int.zero_add]
   obtain⟨M4,r1,r2,r3,r4⟩:=half M2 t fM2 c2 g2' (hn'.up (by omega))
   rw[Int.add_assoc]at r2 r3
   refine⟨M4,?_,r2,r3,r4⟩
   simp only[j6u (H:=H27),T.g49_5,p2,q1,pB,p1,q0a,w_g49_5,x2,x5,s2,a2,df h]
   exact r1
theorem bald_is (hb:BkV m sp sq sa st) (ok:BkOk st) (lt:Int) (p:PurseV) (hp:p.out.ok):Res m (run E27 (.fn 49) [.agg [sp,sq,sa,.int .u64 lt],.agg p.cells] m) (.bool (decide (sumP st.pairs st.q0n p=0))):=by
 obtain⟨m1,hm1⟩:∃m1,m1=m.lay (.cells [sp,sq,sa,.int .u64 lt] false):=⟨_,rfl⟩
 obtain⟨m2,hm2⟩:∃m2,m2=m1.lay (.cells p.cells false):=⟨_,rfl⟩
 obtain⟨m3,hm3⟩:∃m3,m3=m2.lay (.cells (j2k 0) false):=⟨_,rfl⟩
 have f1:Fr m m1 []:=by rw[hm1];exact(Fr.refl _).lay _
 have f2:Fr m1 m2 []:=by rw[hm2];exact(Fr.refl _).lay _
 have f3:Fr m2 m3 []:=by rw[hm3];exact(Fr.refl _).lay _
 have n1:m1.next=m.next+1:=by rw[hm1];rfl
 have n2:m2.next=m.next+1+1:=by rw[hm2,Mem.q00,n1]
 have F3:Fr m m3 []:=(f1.step0 f2).step0 f3
 have g1:m3.get m.next=some (.cells [sp,sq,sa,.int .u64 lt] false):=(f2.step0 f3).get (by rw[hm1];exact q0d _ _) (by simp)
 have g2:m3.get (m.next+1)=some (.cells p.cells false):=f3.get (by rw[hm2,←n1];exact q0d _ _) (by simp)
 have g3:m3.get (m.next+1+1)=some (.cells (j2k 0) false):=by rw[hm3,←n2];exact q0d _ _
 have ns:near 0 0:=by unfold near;omega
 obtain⟨m4,c1,c2,c3⟩:=z8j g3 hp (ns.small (by omega)).1 (ns.small (by omega)).2
 rw[Int.zero_add]at c2
 have c1':=(raw26 (H:=H27) (f:=94) rfl _ _).trans c1
 have nA:near p.out.val (0+1):=by have:=ns.add hp;rwa [Int.zero_add]at this
 obtain⟨m5,d1,d2,d3,d4⟩:=bal_accs hb ok F3 g2 (c:=m.next+1+1) (by omega) (by omega) (.ptr (some ⟨m.next,0⟩)) st.q0n.length 0 m4 p.out.val (by omega) c3 c2 nA
 rw[List.drop_zero]at d2 d3
 have sm:=ok.small
 obtain⟨m6,e1,e2,e3,e4⟩:=bal_pairs hb ok F3 g2 (c:=m.next+1+1) (by omega) (by omega) (st.q0n.length+1) (by have:=sm.2.2;omega) st.pairs.length 0 m5 _ (by omega) d4 d2 d3
 rw[List.drop_zero]at e2 e3
 have ns6:=e3.small (by have:=sm.2.2;have:=sm.2.1;omega)
 have z:=szero_is e2 ns6.1 ns6.2
 have z':=(raw26 (H:=H27) (f:=95) rfl _ _).trans z
 obtain⟨eA,uA1,uA2⟩:=uA
 obtain⟨eQ,uQ1,uQ2⟩:=uQ
 have la:=hb.a.q4n uA1
 have lq:=hb.q.q4n uQ1
 rw[List.length_map]at la lq
 have a4:∀i:Nat,ld1 m4 (.ptr (some ⟨m.next,i⟩))=[sp,sq,sa,.int .u64 lt][i]?:=fun i=>q0j (c3.get g1 (by simp;omega))
 have a5:∀i:Nat,ld1 m5 (.ptr (some ⟨m.next,i⟩))=[sp,sq,sa,.int .u64 lt][i]?:=fun i=>q0j (d4.get g1 (by simp;omega))
 have lp:ldN m3 (.ptr (some ⟨m.next+1,2⟩)) 2=some (.agg p.out.cells):=by rw[q1v g2 (by simp)];rfl
 have F6:Fr m m6 []:=F3.step e4 (fun c hc=>by simp only[List.mem_singleton]at hc;subst hc;exact .inr (by omega))
 refine⟨m6,?_,F6⟩
 simp only[Int.natCast_zero]at d1 e1
 have hs0:(j2k 0)=[.int .i64 0,.int .u64 0,.int .u64 0]:=rfl
 rw[hs0]at hm3
 simp only[PurseV.cells]at hm2⊢
 simp only[f49_is (H:=H27) rfl,T.f49,pB,p1,q1,q1h,w_f49,AV.cells,on1,lcs,ge,if_true,Option.map_some,Mem.q00,hb.p.one,hb.q.one,hb.a.one,←hm1,←hm2,←hm3,lp,c1',a4,la,d1]
 simp only[g49_3_is (H:=H27),T.g49_3,p1,q1,w_g49_3,a5,lq,e1]
 simp only[g49_8_is (H:=H27),T.g49_8,w_g49_8,z']
 rfl
end
end
section
set_option maxRecDepth 4000
open Go Go.Abs
def z05 {α:Type} (l:List α) (i:Nat) (r:α→Bool):Bool:=decide (i=0)||(match l[i-1]? with|some x=>r x|none=>false)
def names (st:LSt):List (List UInt8):=st.q0b.map (·.name)
def j3t (st:LSt) (i:Nat) (q:PairV):Bool:=
 z05 st.pairs i (fun r=>q0c r.x q.x||(decide (r.x=q.x)&&q0c r.y q.y))&&(decide (q.x∈names st)&&(decide (q.y∈names st)&&(!decide (q.x=q.y)&&(decide (q5r q.rate q.rscale=0)&&(decide (0≤q.inx.val)&&decide (q.outy.val≤0))))))
def j1o (st:LSt) (i:Nat):Bool:=match st.pairs[i]? with|some q=>j3t st i q|none=>false
def goodA (st:LSt) (i:Nat) (a:AccV):Bool:=
 decide ((match st.q0n[i-1]? with|some x=>if i=0 then 0 else x.id|none=>0)<a.id)&&(decide (a.id≤st.latest)&&(decide (a.coin∈names st)&&decide (0≤a.bal.val)))
def j1n (st:LSt) (i:Nat):Bool:=match st.q0n[i]? with|some a=>goodA st i a|none=>false
theorem sgn_neg (x:Int):decide (sgn x<0)=!decide (0≤x):=by unfold sgn;rw[←decide_not];apply decide_eq_decide.mpr;split<;>(try split)<;>omega
theorem sgn_pos (x:Int):decide (0<sgn x)=!decide (x≤0):=by unfold sgn;rw[←decide_not];apply decide_eq_decide.mpr;split<;>(try split)<;>omega
section
variable {m:Mem} {bb:Nat} {st:LSt}
theorem rpai_end {sp sq sa:AV} (h1:m.get bb=some (.cells [sp,sq,sa,.int .u64 st.latest] false)) (hb:BkV m sp sq sa st) (ok:BkOk st) {M2:Mem} (hM:Fr m M2 []) {x:Nat} {q:PairV} (hq:M2.get x=some (.cells q.cells false)) (hi:q∈st.pairs) (t5:Bool) (t7 t8 t9:AV) :
  D27.gor 192514 [.ptr (some ⟨bb,0⟩),.ptr (some ⟨x,0⟩),.bool t5,t7,t8,t9] M2 =
   if (t5&&(decide (q.x∈names st)&&(decide (q.y∈names st)&&(!decide (q.x=q.y)&&(decide (q5r q.rate q.rscale=0)&&(decide (0≤q.inx.val)&&decide (q.outy.val≤0)))))))=true then D27.gor 192515 [.ptr (some ⟨bb,0⟩),t7,t8,t9] M2 else some (.bool false,M2):=by
 have okq:=ok.q q hi
 have hX:=q5o (H:=H27) rfl hb ok.small st.latest q.x M2 hM
 have hY:=q5o (H:=H27) rfl hb ok.small st.latest q.y M2 hM
 have lB:ldN M2 (.ptr (some ⟨bb,0⟩)) 4=some (.agg [sp,sq,sa,.int .u64 st.latest]):=q1b (hM.get h1 (by simp)) rfl
 have a2:∀j:Nat,ld1 M2 (.ptr (some ⟨x,j⟩))=q.cells[j]?:=fun j=>q0j hq
 have l2:ldN M2 (.ptr (some ⟨x,2⟩)) 3=some (.agg (q02 q.rate q.rscale)):=by rw[q1v hq (by simp)];rfl
 have l5:ldN M2 (.ptr (some ⟨x,5⟩)) 2=some (.agg q.inx.cells):=by rw[q1v hq (by simp)];rfl
 have l7:ldN M2 (.ptr (some ⟨x,7⟩)) 2=some (.agg q.outy.cells):=by rw[q1v hq (by simp)];rfl
 have rr:=rright_at (H:=H27) rfl okq.1 q.rscale M2
 have g5:=z0d (H:=H27) rfl okq.2.1 M2
 have g7:=z0d (H:=H27) rfl okq.2.2.1 M2
 have e5:=sgn_neg q.inx.val
 have e7:=sgn_pos q.outy.val
 show _=if (t5&&(decide (q.x∈st.q0b.map (·.name))&&(decide (q.y∈st.q0b.map (·.name))&&_)))=true then _ else _
 simp only[PairV.cells]at a2
 cases t5 with
 |false=>simp only[q5f (H:=H27),T.z7a,p1,q1,p2,q0a,ifV,unA,q7c,Bool.not_false,Bool.false_and,Bool.false_eq_true,if_false]
 |true=>
  cases hx:decide (q.x∈st.q0b.map (·.name)) with
  |false=>
   rw[hx]at hX
   simp only[q5f (H:=H27),T.z7a,p1,q1,p2,q0a,ifV,unA,q7c,Bool.not_true,lB,a2,hX,Bool.not_false,Bool.true_and,Bool.false_and,Bool.false_eq_true,if_false]
  |true=>
   rw[hx]at hX
   cases hy:decide (q.y∈st.q0b.map (·.name)) with
   |false=>
    rw[hy]at hY
    simp only[q5f (H:=H27),T.z7a,p1,q1,p2,q0a,ifV,unA,q7c,Bool.not_true,lB,a2,hX,hY,Bool.not_false,Bool.true_and,Bool.false_and,Bool.false_eq_true,if_false]
   |true=>
    rw[hy]at hY
    by_cases hxy:q.x=q.y
    ·simp only[q5f (H:=H27),T.z7a,p1,q1,p2,q0a,ifV,unA,q7c,Bool.not_true,lB,a2,hX,hY,dt hxy,Bool.true_and,Bool.false_and,Bool.false_eq_true,if_false]
    ·by_cases hr:q5r q.rate q.rscale=0
     ·rw[hr]at rr
      cases h0:decide (0≤q.inx.val) with
      |false=>
       rw[h0]at e5
       simp only[q5f (H:=H27),T.z7a,p1,q1,p2,q0a,ifV,unA,q7c,Bool.not_true,Bool.not_false,lB,a2,hX,hY,df hxy,l2,rr,decide_true,l5,g5,e5,dt hr,Bool.true_and,Bool.false_and,Bool.false_eq_true,if_false]
      |true=>
       rw[h0]at e5
       cases h7:decide (q.outy.val≤0) with
       |false=>
        rw[h7]at e7
        simp only[q5f (H:=H27),T.z7a,p1,q1,p2,q0a,ifV,unA,q7c,Bool.not_true,Bool.not_false,lB,a2,hX,hY,df hxy,l2,rr,decide_true,l5,g5,e5,l7,g7,e7,dt hr,Bool.and_false,Bool.false_eq_true,if_false]
       |true=>
        rw[h7]at e7
        simp only[q5f (H:=H27),T.z7a,p1,q1,p2,q0a,ifV,unA,q7c,Bool.not_true,Bool.not_false,lB,a2,hX,hY,df hxy,l2,rr,decide_true,l5,g5,e5,l7,g7,e7,dt hr,Bool.and_self,if_true]
     ·simp only[q5f (H:=H27),T.z7a,p1,q1,p2,q0a,ifV,unA,q7c,Bool.not_true,Bool.not_false,lB,a2,hX,hY,df hxy,l2,rr,df hr,Bool.true_and,Bool.false_and,Bool.false_eq_true,if_false]
theorem rpai_loop {sp sq sa:AV} (h1:m.get bb=some (.cells [sp,sq,sa,.int .u64 st.latest] false)) (hb:BkV m sp sq sa st) (ok:BkOk st):∀(d i:Nat) (M:Mem),i+d=st.pairs.length→Fr m M []→
  Res M (D27.gor 192512 [.ptr (some ⟨bb,0⟩),sq,.int .i64 (st.pairs.length:Int),.int .i64 (i:Int)] M) (.bool (q6o (j1o st) d i)):=by
 obtain⟨e,he,hs⟩:=uQ
 have hn:=ok.small.2.1
 intro d
 induction d with
 |zero=>
  intro i M hi hM
  have:i=st.pairs.length:=by omega
  subst this
  simp only[q86 (H:=H27),T.j9s,p2,q0a,z3s,df (show ¬((st.pairs.length:Nat):Int)<(st.pairs.length:Int) by omega),g47_4_is (H:=H27),T.g47_4,w_g47_4]
  exact Res.eq (Fr.refl _) rfl
 |succ d ih=>
  intro i M hi hM
  have hlt:i<st.pairs.length:=by omega
  obtain⟨bs,o,_,x2,_,_,x5⟩:=(hb.q.q0p hM).ixT he hs (i:=i) (by rw[List.length_map];exact hlt)
  rw[List.getElem_map]at x5
  obtain⟨q,hq⟩:∃q,q=st.pairs[i]:=⟨_,rfl⟩
  have mq:q∈st.pairs:=by rw[hq];exact List.getElem_mem hlt
  rw[←hq]at x5
  obtain⟨M2,hM2⟩:∃M2,M2=M.lay (.cells q.cells false):=⟨_,rfl⟩
  have f2:Fr M M2 []:=by rw[hM2];exact(Fr.refl M).lay _
  have F2:Fr m M2 []:=hM.step0 f2
  have s2:stV (M.lay (.cells [.str [],.str [],.int .i64 0,.int .u64 0,.int .i64 0,.int .i64 0,.int .u64 0,.int .i64 0,.int .u64 0] false)) (.ptr (some ⟨M.next,0⟩)) (.agg q.cells) 9=some M2:=by rw[q1w (n:=9) (q0d M _) rfl rfl rfl,q1m,hM2]
  have g2:M2.get M.next=some (.cells q.cells false):=by rw[hM2];exact q0d M _
  have a2:∀j:Nat,ld1 M2 (.ptr (some ⟨M.next,j⟩))=q.cells[j]?:=fun j=>q0j g2
  have b2:∀j:Nat,ld1 M2 (.ptr (some ⟨bb,j⟩))=[sp,sq,sa,AV.int .u64 st.latest][j]?:=fun j=>q0j (F2.get h1 (by simp))
  have en:=fun t5=>rpai_end h1 hb ok F2 g2 mq t5 sq (.int .i64 (st.pairs.length:Int)) (.int .i64 (i:Int))
  have hok:j1o st i=j3t st i q:=by unfold j1o;rw[List.getElem?_eq_getElem hlt,←hq]
  have nx:D27.gor 192515 [.ptr (some ⟨bb,0⟩),sq,.int .i64 (st.pairs.length:Int),.int .i64 (i:Int)] M2=D27.gor 192512 [.ptr (some ⟨bb,0⟩),sq,.int .i64 (st.pairs.length:Int),.int .i64 ((i+1:Nat):Int)] M2:=by
   simp only[g47_3_is (H:=H27),T.g47_3,p2,w_g47_3,show (i:Int)+1=((i+1:Nat):Int) by omega,wrap_i64 (n:=((i+1:Nat):Int)) (by omega) (by omega)]
  have rd:D27.gor 192512 [.ptr (some ⟨bb,0⟩),sq,.int .i64 (st.pairs.length:Int),.int .i64 (i:Int)] M=if j3t st i q=true then D27.gor 192512 [.ptr (some ⟨bb,0⟩),sq,.int .i64 (st.pairs.length:Int),.int .i64 ((i+1:Nat):Int)] M2 else some (.bool false,M2):=by
   rw[←nx]
   unfold j3t
   simp only[PairV.cells]at x5 s2 a2
   by_cases h0:i=0
   ·have hp:z05 st.pairs i (fun r=>q0c r.x q.x||(decide (r.x=q.x)&&q0c r.y q.y))=true:=by unfold z05;rw[dt h0,Bool.true_or]
    rw[hp,←en true]
    simp only[q86 (H:=H27),T.j9s,p2,q0a,z3s,dt (show (i:Int)<(st.pairs.length:Int) by omega)]
    simp only[z1k (H:=H27),T.g47_1,p2,q1,pB,p1,ifV,z9g,x2,x5,s2,dt (show (i:Int)=0 by omega)]
   ·obtain⟨bs',o',_,y2,y3,_,_⟩:=(hb.q.q0p F2).ixT he hs (i:=i-1) (by rw[List.length_map];omega)
    have y0:=y3 0 (by omega)
    have y1:=y3 1 (by omega)
    rw[List.getElem_map]at y0 y1
    obtain⟨r,hr⟩:∃r,r=st.pairs[i-1]'(by omega):=⟨_,rfl⟩
    have hr2:st.pairs[i-1]? = some r:=by rw[List.getElem?_eq_getElem (by omega),hr]
    rw[←hr]at y0 y1
    simp only[ge,PairV.cells,Nat.add_zero]at y0 y1
    have hp:z05 st.pairs i (fun r=>q0c r.x q.x||(decide (r.x=q.x)&&q0c r.y q.y))=(q0c r.x q.x||(decide (r.x=q.x)&&q0c r.y q.y)):=by unfold z05;rw[df h0,Bool.false_or,hr2]
    have w1:IntKind.wrap .i64 ((i:Int)-1)=((i-1:Nat):Int):=by rw[wrap_i64 (by omega) (by omega)];omega
    rcases Bool.eq_false_or_eq_true (q0c r.x q.x) with hl|hl
    ·have ev:(q0c r.x q.x||decide (r.x=q.x)&&q0c r.y q.y)=true:=by rw[hl];rfl
     rw[hp.trans ev,←en true]
     simp only[q86 (H:=H27),T.j9s,p2,q0a,z3s,dt (show (i:Int)<(st.pairs.length:Int) by omega)]
     simp only[z1k (H:=H27),T.g47_1,p2,q1,pB,p1,ifV,z9g,x2,x5,s2,df (show ¬(i:Int)=0 by omega),b2,w1,y2,y0,a2,hl]
    ·have ev:(q0c r.x q.x||decide (r.x=q.x)&&q0c r.y q.y)=(decide (r.x=q.x)&&q0c r.y q.y):=by rw[hl];rfl
     by_cases hx:r.x=q.x
     ·have ev2:(decide (r.x=q.x)&&q0c r.y q.y)=q0c r.y q.y:=by rw[dt hx];rfl
      rw[(hp.trans ev).trans ev2,←en (q0c r.y q.y)]
      simp only[q86 (H:=H27),T.j9s,p2,q0a,z3s,dt (show (i:Int)<(st.pairs.length:Int) by omega)]
      simp only[z1k (H:=H27),T.g47_1,p2,q1,pB,p1,ifV,z9g,x2,x5,s2,df (show ¬(i:Int)=0 by omega),b2,w1,y2,y0,y1,a2,hl,dt hx]
     ·have ev2:(decide (r.x=q.x)&&q0c r.y q.y)=false:=by rw[df hx];rfl
      rw[(hp.trans ev).trans ev2,←en false]
      simp only[q86 (H:=H27),T.j9s,p2,q0a,z3s,dt (show (i:Int)<(st.pairs.length:Int) by omega)]
      simp only[z1k (H:=H27),T.g47_1,p2,q1,pB,p1,ifV,z9g,x2,x5,s2,df (show ¬(i:Int)=0 by omega),b2,w1,y2,y0,a2,hl,df hx]
  rw[rd,q6o,hok]
  cases hg:j3t st i q with
  |true=>
   rw[if_pos rfl,Bool.true_and]
   exact(ih (i+1) M2 (by omega) F2).step f2
  |false=>
   rw[if_neg (by decide),Bool.false_and]
   exact Res.eq f2 rfl
theorem rpai_is {sp sq sa:AV} (hb:BkV m sp sq sa st) (ok:BkOk st):Res m (run E27 (.fn 47) [.agg [sp,sq,sa,.int .u64 st.latest]] m) (.bool (q6o (j1o st) st.pairs.length 0)):=by
 obtain⟨M,hM⟩:∃M,M=m.lay (.cells [sp,sq,sa,.int .u64 st.latest] false):=⟨_,rfl⟩
 have f1:Fr m M []:=by rw[hM];exact(Fr.refl m).lay _
 have g1:M.get m.next=some (.cells [sp,sq,sa,.int .u64 st.latest] false):=by rw[hM];exact q0d m _
 have a3:∀i:Nat,ld1 M (.ptr (some ⟨m.next,i⟩))=[sp,sq,sa,.int .u64 st.latest][i]?:=fun i=>q0j g1
 obtain⟨e,he,hs⟩:=uQ
 have hlen:=hb.q.q4n he
 rw[List.length_map]at hlen
 have lo:=rpai_loop g1 (hb.q0p f1) ok st.pairs.length 0 M (by omega) (Fr.refl _)
 simp only[Int.natCast_zero]at lo
 simp only[f47_is (H:=H27) rfl,T.f47,p1,q1,q1h,w_f47,AV.cells,on1,lcs,ge,if_true,Option.map_some,hb.p.one,hb.q.one,hb.a.one,←hM,a3,hlen]
 exact lo.step f1
def q9g (st:LSt) (i:Nat):Int:=match st.q0n[i-1]? with|some x=>if i=0 then 0 else x.id|none=>0
theorem racc_loop2 {sp sq sa:AV} (h1:m.get bb=some (.cells [sp,sq,sa,.int .u64 st.latest] false)) (hb:BkV m sp sq sa st) (ok:BkOk st):∀(d i:Nat) (M:Mem),i+d=st.q0n.length→Fr m M []→
  Res M (D27.gor 196608 [.ptr (some ⟨bb,0⟩),.int .u64 (q9g st i),sa,.int .i64 (st.q0n.length:Int),.int .i64 (i:Int)] M) (.bool (q6o (j1n st) d i&&decide (st.latest≤72057594037927935))):=by
 obtain⟨e,he,hs⟩:=uA
 have hn:=ok.small.2.2
 intro d
 induction d with
 |zero=>
  intro i M hi hM
  have:i=st.q0n.length:=by omega
  have b2:∀j:Nat,ld1 M (.ptr (some ⟨bb,j⟩))=[sp,sq,sa,AV.int .u64 st.latest][j]?:=fun j=>q0j (hM.get h1 (by simp))
  subst this
  simp only[j6q (H:=H27),T.g48_0,p2,q0a,w_g48_0,df (show ¬((st.q0n.length:Nat):Int)<(st.q0n.length:Int) by omega),g48_4_is (H:=H27),T.g48_4,p1,q1,w_g48_4,b2]
  exact Res.eq (Fr.refl _) (by simp[q6o])
 |succ d ih=>
  intro i M hi hM
  have hlt:i<st.q0n.length:=by omega
  obtain⟨bs,o,_,x2,_,_,x5⟩:=(hb.a.q0p hM).ixT he hs (i:=i) (by rw[List.length_map];exact hlt)
  rw[List.getElem_map]at x5
  obtain⟨a,ha⟩:∃a,a=st.q0n[i]:=⟨_,rfl⟩
  have ma:a∈st.q0n:=by rw[ha];exact List.getElem_mem hlt
  have oka:=ok.a a ma
  rw[←ha]at x5
  obtain⟨M2,hM2⟩:∃M2,M2=M.lay (.cells a.cells false):=⟨_,rfl⟩
  have f2:Fr M M2 []:=by rw[hM2];exact(Fr.refl M).lay _
  have F2:Fr m M2 []:=hM.step0 f2
  have s2:stV (M.lay (.cells [.int .u64 0,.str [],.int .i64 0,.int .u64 0] false)) (.ptr (some ⟨M.next,0⟩)) (.agg a.cells) 4=some M2:=by rw[q1w (n:=4) (q0d M _) rfl rfl rfl,q1m,hM2]
  have g2:M2.get M.next=some (.cells a.cells false):=by rw[hM2];exact q0d M _
  have a2:∀j:Nat,ld1 M2 (.ptr (some ⟨M.next,j⟩))=a.cells[j]?:=fun j=>q0j g2
  have l2:ldN M2 (.ptr (some ⟨M.next,2⟩)) 2=some (.agg a.bal.cells):=by rw[q1v g2 (by simp)];rfl
  have b2:∀j:Nat,ld1 M2 (.ptr (some ⟨bb,j⟩))=[sp,sq,sa,AV.int .u64 st.latest][j]?:=fun j=>q0j (F2.get h1 (by simp))
  have lB:ldN M2 (.ptr (some ⟨bb,0⟩)) 4=some (.agg [sp,sq,sa,.int .u64 st.latest]):=q1b (F2.get h1 (by simp)) rfl
  have hX:=q5o (H:=H27) rfl hb ok.small st.latest a.coin M2 F2
  have sg:=z0d (H:=H27) rfl oka.1 M2
  have e5:=sgn_neg a.bal.val
  have hok:j1n st i=goodA st i a:=by unfold j1n;rw[List.getElem?_eq_getElem hlt,←ha]
  have hp1:q9g st (i+1)=a.id:=by unfold q9g;rw[Nat.add_sub_cancel,List.getElem?_eq_getElem hlt,←ha];simp
  have ih':=ih (i+1) M2 (by omega) F2
  rw[hp1]at ih'
  rw[q6o,hok]
  show Res M _ (.bool ((decide (q9g st i<a.id)&&(decide (a.id≤st.latest)&&(decide (a.coin∈st.q0b.map (·.name))&&decide (0≤a.bal.val)))&&_)&&_))
  have st1:D27.gor 196608 [.ptr (some ⟨bb,0⟩),.int .u64 (q9g st i),sa,.int .i64 (st.q0n.length:Int),.int .i64 (i:Int)] M=D27.gor 196609 [.ptr (some ⟨bb,0⟩),.int .u64 (q9g st i),sa,.int .i64 (st.q0n.length:Int),.int .i64 (i:Int)] M:=by
   simp only[j6q (H:=H27),T.g48_0,p2,q0a,w_g48_0,dt (show (i:Int)<(st.q0n.length:Int) by omega)]
  rw[st1]
  obtain⟨pv,hpv⟩:∃pv,pv=q9g st i:=⟨_,rfl⟩
  rw[←hpv]
  simp only[AccV.cells]at x5 s2 a2
  by_cases h1':a.id≤pv
  ·simp only[df (show ¬pv<a.id by omega),Bool.false_and]
   simp only[q87 (H:=H27),T.j9t,p2,q1,pB,p1,q0a,ifV,unA,z3t,x2,x5,s2,a2,dt h1']
   exact Res.eq f2 rfl
  ·rw[dt (show pv<a.id by omega),Bool.true_and]
   by_cases h2:st.latest<a.id
   ·simp only[df (show ¬a.id≤st.latest by omega),Bool.false_and]
    simp only[q87 (H:=H27),T.j9t,p2,q1,pB,p1,q0a,ifV,unA,z3t,x2,x5,s2,a2,b2,df h1',dt h2]
    exact Res.eq f2 rfl
   ·rw[dt (show a.id≤st.latest by omega),Bool.true_and]
    cases hx:decide (a.coin∈st.q0b.map (·.name)) with
    |false=>
     rw[hx]at hX
     simp only[Bool.false_and]
     simp only[q87 (H:=H27),T.j9t,p2,q1,pB,p1,q0a,ifV,unA,z3t,x2,x5,s2,a2,b2,df h1',df h2,lB,hX,Bool.not_false]
     exact Res.eq f2 rfl
    |true=>
     rw[hx]at hX
     rw[Bool.true_and]
     cases h0:decide (0≤a.bal.val) with
     |false=>
      rw[h0]at e5
      simp only[Bool.false_and]
      simp only[q87 (H:=H27),T.j9t,p2,q1,pB,p1,q0a,ifV,unA,z3t,x2,x5,s2,a2,b2,df h1',df h2,lB,hX,Bool.not_true,Bool.not_false,l2,sg,e5]
      exact Res.eq f2 rfl
     |true=>
      rw[h0]at e5
      rw[Bool.true_and]
      simp only[q87 (H:=H27),T.j9t,p2,q1,pB,p1,q0a,ifV,unA,z3t,x2,x5,s2,a2,b2,df h1',df h2,lB,hX,Bool.not_true,l2,sg,e5]
      simp only[g48_2_is (H:=H27),T.g48_2,p1,q1,w_g48_2,a2]
      simp only[g48_3_is (H:=H27),T.g48_3,p2,w_g48_3,show (i:Int)+1=((i+1:Nat):Int) by omega,wrap_i64 (n:=((i+1:Nat):Int)) (by omega) (by omega)]
      exact ih'.step f2
theorem racc2_is {sp sq sa:AV} (hb:BkV m sp sq sa st) (ok:BkOk st):Res m (run E27 (.fn 48) [.agg [sp,sq,sa,.int .u64 st.latest]] m) (.bool (q6o (j1n st) st.q0n.length 0&&decide (st.latest≤72057594037927935))):=by
 obtain⟨M,hM⟩:∃M,M=m.lay (.cells [sp,sq,sa,.int .u64 st.latest] false):=⟨_,rfl⟩
 have f1:Fr m M []:=by rw[hM];exact(Fr.refl m).lay _
 have g1:M.get m.next=some (.cells [sp,sq,sa,.int .u64 st.latest] false):=by rw[hM];exact q0d m _
 have a3:∀i:Nat,ld1 M (.ptr (some ⟨m.next,i⟩))=[sp,sq,sa,.int .u64 st.latest][i]?:=fun i=>q0j g1
 obtain⟨e,he,hs⟩:=uA
 have hlen:=hb.a.q4n he
 rw[List.length_map]at hlen
 have lo:=racc_loop2 g1 (hb.q0p f1) ok st.q0n.length 0 M (by omega) (Fr.refl _)
 have hp0:q9g st 0=0:=by unfold q9g;split<;>simp
 rw[hp0]at lo
 simp only[Int.natCast_zero]at lo
 simp only[f48_is (H:=H27) rfl,T.f48,p1,q1,q1h,w_f48,AV.cells,on1,lcs,ge,if_true,Option.map_some,hb.p.one,hb.q.one,hb.a.one,←hM,a3,hlen]
 exact lo.step f1
end
end
end Go.Proofs.YtlginbmjiecglaaGreatDoor
