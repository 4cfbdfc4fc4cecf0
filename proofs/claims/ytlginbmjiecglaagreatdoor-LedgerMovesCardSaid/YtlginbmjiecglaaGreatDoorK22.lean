/- Texts of one claim, put together. -/
import Derived.Test.YtlginbmjiecglaaGreatDoorK0
import Derived.Test.YtlginbmjiecglaaGreatDoorK19
import Derived.Test.YtlginbmjiecglaaGreatDoorK21
namespace Go.Proofs.YtlginbmjiecglaaGreatDoor
section
set_option maxRecDepth 4000
open Go Go.Abs
def sgI (neg:Bool) (n:Int):Int:=if neg then -n else n
theorem wdiv_is {a:Wd} (ha:a.ok) {p:Int} (hp:0<p) (hp2:p<18446744073709551616) (m:Mem) :
  Res m (run E3 (.fn 165) [.agg a.cells,.agg (Wd.mk 0 p).cells] m) (.tup [.agg (Wd.of (sgI (decide (a.hi<0)) (q3a a.val / p))).cells,.agg (Wd.of (sgI (decide (a.hi<0)) (q3a a.val % p))).cells,.int .i64 0]):=by
 have hA:=z1y ha
 have nA:=q9y a.val
 have sA:=fun m=>size_at (H:=H3) rfl ha m
 have sP:=fun m=>size_at (H:=H3) rfl (a:=⟨0,p⟩) ⟨by simp,by simp,by simp only;omega,by simp only;omega⟩ m
 have hpv:q3a (Wd.mk 0 p).val=p:=by unfold q3a Wd.val;simp only;split<;>omega
 rw[hpv]at sP
 have e1:p / 18446744073709551616=0:=by omega
 have e2:p % 18446744073709551616=p:=by omega
 rw[e1,e2]at sP
 obtain⟨ah,al⟩:=a
 obtain⟨a1,a2,a3,a4⟩:=ha
 simp only[Wd.cells]at sA sP⊢
 have hneg:ah<0→q3a (Wd.mk ah al).val≤170141183460469231731687303715884105728:=fun _=>hA
 have hpos:¬ah<0→q3a (Wd.mk ah al).val<170141183460469231731687303715884105728:=by
  intro h;unfold q3a Wd.val;simp only;simp only at a2 a3 a4;split<;>omega
 obtain⟨A,hA'⟩:∃A,A=q3a (Wd.mk ah al).val:=⟨_,rfl⟩
 rw[←hA']at sA hA nA hneg hpos⊢
 clear hA'
 obtain⟨bh,hbh⟩:∃bh,bh=A / 18446744073709551616:=⟨_,rfl⟩
 obtain⟨bl,hbl⟩:∃bl,bl=A % 18446744073709551616:=⟨_,rfl⟩
 simp only[←hbh,←hbl]at sA
 have rbh:0≤bh∧bh<18446744073709551616:=by omega
 have rbl:0≤bl∧bl<18446744073709551616:=by omega
 have h1:0≤bh % p∧bh % p<p:=⟨Int.emod_nonneg _ (by omega),Int.emod_lt_of_pos _ hp⟩
 have h2:0≤bh / p∧bh / p≤bh:=⟨Int.ediv_nonneg (by omega) (by omega),Int.ediv_le_self _ (by omega)⟩
 have h3:bh=bh / p*p+bh % p:=(Int.ediv_mul_add_emod _ _).symm
 have t1:bh.tdiv p=bh / p:=Int.tdiv_eq_ediv_of_nonneg rbh.1
 have t2:bh.tmod p=bh % p:=Int.tmod_eq_emod_of_nonneg rbh.1
 have eA:bh*18446744073709551616+bl=A:=by omega
 generalize bh / p=qh at *
 generalize bh % p=rh at *
 obtain⟨ql,hql⟩:∃ql,ql=(rh*18446744073709551616+bl) / p:=⟨_,rfl⟩
 obtain⟨rl,hrl⟩:∃rl,rl=(rh*18446744073709551616+bl) % p:=⟨_,rfl⟩
 have h4:0≤ql∧ql<18446744073709551616:=by
  rw[hql]
  exact⟨Int.ediv_nonneg (by omega) (by omega),Int.ediv_lt_of_lt_mul hp (by
   have:rh*18446744073709551616+18446744073709551616≤p*18446744073709551616:=by omega
   rw[Int.mul_comm 18446744073709551616 p];omega)⟩
 have h5:0≤rl∧rl<p:=by rw[hrl];exact⟨Int.emod_nonneg _ (by omega),Int.emod_lt_of_pos _ hp⟩
 have h6:rh*18446744073709551616+bl=ql*p+rl:=by rw[hql,hrl];exact(Int.ediv_mul_add_emod _ _).symm
 have e3:A=rl+(qh*18446744073709551616+ql)*p:=by
  have m1:qh*18446744073709551616*p=qh*p*18446744073709551616:=Int.mul_right_comm _ _ _
  rw[Int.add_mul,m1];omega
 have e4:A / p=qh*18446744073709551616+ql:=by
  rw[e3,Int.add_mul_ediv_right _ _ (by omega),Int.ediv_eq_zero_of_lt h5.1 h5.2];omega
 have e5:A % p=rl:=by
  rw[e3,Int.add_mul_emod_self_right,Int.emod_eq_of_lt h5.1 h5.2]
 have e6:A / p≤A:=Int.ediv_le_self _ nA
 rw[e4,e5]at *
 have fit1:Wd.res (if decide (ah<0)=true then -(qh*18446744073709551616+ql) else qh*18446744073709551616+ql)=(Wd.of (sgI (decide (ah<0)) (qh*18446744073709551616+ql)),0):=by
  unfold Wd.res sgI
  rw[if_pos]
  by_cases h:ah<0
  ·simp only[h,decide_true,if_true];have:=hneg h;exact q1j (by omega) (by omega)
  ·simp only[h,decide_false,Bool.false_eq_true,if_false];have:=hpos h;exact q1j (by omega) (by omega)
 have fit2:Wd.res (if decide (ah<0)=true then -(0*18446744073709551616+rl) else 0*18446744073709551616+rl)=(Wd.of (sgI (decide (ah<0)) rl),0):=by
  unfold Wd.res sgI
  rw[Int.zero_mul,Int.zero_add,if_pos]
  by_cases h:ah<0
  ·simp only[h,decide_true,if_true];exact q1j (by omega) (by omega)
  ·simp only[h,decide_false,Bool.false_eq_true,if_false];exact q1j (by omega) (by omega)
 have sg1:=fun m=>z3j (H:=H3) rfl (decide (ah<0)) (hi:=qh) (lo:=ql) ⟨by omega,by omega⟩ h4 m
 have sg2:=fun m=>z3j (H:=H3) rfl (decide (ah<0)) (hi:=0) (lo:=rl) ⟨by omega,by omega⟩ ⟨by omega,by omega⟩ m
 simp only[fit1]at sg1
 simp only[fit2]at sg2
 have z0:(!(decide (ah<0)==decide ((0:Int)<0)))=decide (ah<0):=by cases decide (ah<0)<;>rfl
 simp only[f165_is (H:=H3) rfl,T.f165,pB,q1,p1,p2,q0r,AV.cells,Nat.reduceAdd,Nat.reduceLeDiff,q1h,q0a,q1g,q1i,w_f165,AV.one,over,lcl,q30,decide_true,Bool.true_and,df (show ¬p=0 by omega)]
 simp only[g165_0_is (H:=H3),T.g165_0,q1,p1,p2,q0g,q0a,w_g165_0,Nat.reduceAdd,Nat.reduceLeDiff,lcl,sA,sP,decide_true,q5y _ _ _ _ (show p≠0 by omega),q34 _ _ _ _ (show p≠0 by omega),t1,t2,wrap_u64 (x:=qh) (by omega) (by omega),div64_at (H:=H3) rfl h1.1 h1.2 hp2 rbl,←hql,←hrl]
 simp only[g165_4_is (H:=H3),T.g165_4,p1,q1,p2,q0r,AV.cells,Nat.reduceAdd,Nat.reduceLeDiff,q0g,q0a,q1g,q1i,w_g165_4,Wd.cells,AV.one,over,lcl,z0,sg1,decide_true,Bool.not_true]
 simp only[g165_5_is (H:=H3),T.g165_5,p1,q1,p2,q0g,q1g,q1i,Nat.reduceAdd,w_g165_5,Wd.cells,AV.one,over,AV.cells,Nat.reduceLeDiff,lcl,sg2]
 refine Res.eq ?_ rfl
 (repeat apply Fr.lays)
 exact Fr.refl _
end
section
set_option maxRecDepth 4000
open Go Go.Abs
def S4:List FuncId:=[161,160,163,165]
noncomputable def H4:FuncId→Option (List AV→Mem→R):=q2w E3 S4
noncomputable abbrev E4:Env:=T.EH H4
theorem E4_ok:EnvOk E4:=q1k E3_ok S4
section
variable {H:FuncId→Option (List AV→Mem→R)}
theorem prod_at (h:H 161=some (q0v E3 161)) {a b:Wd} (ha:a.ok) (hb:b.ok) (m:Mem):run (T.EH H) (.fn 161) [.agg a.cells,.agg b.cells] m=some (.agg (z6h (q3a a.val*q3a b.val)),m):=
 q0s h (by simp[AV.flat,AV.lt,AV.lts,z6h]) fun m2 _ _=>product_is ha hb m2
theorem narrow_at (h:H 163=some (q0v E3 163)) (below:Bool) {n:Int} (h0:0≤n) (h1:n<115792089237316195423570985008687907853269984665640564039457584007913129639936) (m:Mem) :
  run (T.EH H) (.fn 163) [.bool below,.agg (z6h n)] m=some (.tup [.agg (Wd.res (if below then -n else n)).1.cells,.int .i64 (Wd.res (if below then -n else n)).2],m):=
 q0s h (by simp[AV.flat,AV.lt,AV.lts,Wd.cells]) fun m2 _ _=>narrow_is below h0 h1 m2
theorem wdiv_at (h:H 165=some (q0v E3 165)) {a:Wd} (ha:a.ok) {p:Int} (hp:0<p) (hp2:p<18446744073709551616) (m:Mem) :
  run (T.EH H) (.fn 165) [.agg a.cells,.agg (Wd.mk 0 p).cells] m=some (.tup [.agg (Wd.of (sgI (decide (a.hi<0)) (q3a a.val / p))).cells,.agg (Wd.of (sgI (decide (a.hi<0)) (q3a a.val % p))).cells,.int .i64 0],m):=
 q0s h (by simp[AV.flat,AV.lt,AV.lts,Wd.cells]) fun m2 _ _=>wdiv_is ha hp hp2 m2
end
end
section
set_option maxRecDepth 4000
open Go Go.Abs
theorem j35 {ah al:Int} (h:(Wd.mk ah al).ok):decide (ah<0)=decide ((Wd.mk ah al).val<0):=by
 obtain⟨h1,h2,h3,h4⟩:=h
 simp only at h1 h2 h3 h4
 unfold Wd.val
 by_cases h:ah<0
 ·rw[dt h,dt (by simp only;omega)]
 ·rw[df h,df (by simp only;omega)]
theorem sgmul (x y:Int):(if (!(decide (x<0)==decide (y<0)))=true then -(q3a x*q3a y) else q3a x*q3a y)=x*y:=by
 unfold q3a
 by_cases h1:x<0<;>by_cases h2:y<0<;>simp[h1,h2,Int.neg_mul,Int.mul_neg]
theorem wmul_is {a b:Wd} (ha:a.ok) (hb:b.ok) (m:Mem):Res m (run E4 (.fn 149) [.agg a.cells,.agg b.cells] m) (.tup [.agg (Wd.res (a.val*b.val)).1.cells,.int .i64 (Wd.res (a.val*b.val)).2]):=by
 obtain⟨hle1,hle2⟩:=prod_lt ha hb
 have pr:=fun m=>prod_at (H:=H4) rfl ha hb m
 have nr:=fun m=>narrow_at (H:=H4) rfl (!(decide (a.val<0)==decide (b.val<0))) hle1 (by omega) m
 rw[sgmul]at nr
 obtain⟨ah,al⟩:=a
 obtain⟨bh,bl⟩:=b
 rw[←j35 ha,←j35 hb]at nr
 simp only[Wd.cells]at pr nr⊢
 simp only[f149_is (H:=H4) rfl,T.f149,pB,p1,q1,p2,q1h,q0g,q1g,q1i,Nat.reduceAdd,w_f149,AV.one,over,AV.cells,Nat.reduceLeDiff,lcl,pr,nr]
 refine Res.eq ?_ rfl
 (repeat apply Fr.lays)
 exact Fr.refl _
def scF (x y:Int) (k:Nat):Int:=if (!(decide (x<0)==decide (y<0)))=true then -(rhe (q3a x*q3a y) k) else rhe (q3a x*q3a y) k
end
section
set_option maxRecDepth 4000
open Go Go.Abs
def S5:List FuncId:=[149,148]
noncomputable def H5:FuncId→Option (List AV→Mem→R):=q2w E4 S5
noncomputable abbrev E5:Env:=T.EH H5
theorem E5_ok:EnvOk E5:=q1k E4_ok S5
noncomputable abbrev D5:Do:=T.Rl H5
section
variable {H:FuncId→Option (List AV→Mem→R)}
theorem wmul_at (h:H 149=some (q0v E4 149)) {a b:Wd} (ha:a.ok) (hb:b.ok) (m:Mem):run (T.EH H) (.fn 149) [.agg a.cells,.agg b.cells] m=some (.tup [.agg (Wd.res (a.val*b.val)).1.cells,.int .i64 (Wd.res (a.val*b.val)).2],m):=
 q0s h (by simp[AV.flat,AV.lt,AV.lts,Wd.cells]) fun m2 _ _=>wmul_is ha hb m2
end
theorem tenP_le38 {k:Nat} (h:k≤38):q48 k≤100000000000000000000000000000000000000:=by
 have h1:=tenP_add k (38-k)
 rw[show k+(38-k)=38 by omega,show q48 38=100000000000000000000000000000000000000 from rfl]at h1
 have h2:=q6g (38-k)
 have h3:=q6g k
 have h4:q48 k*1≤q48 k*q48 (38-k):=Int.mul_le_mul_of_nonneg_left (by omega) (by omega)
 omega
theorem j2l {k:Nat} (h:k≤38):q1c (q48 k)=true:=by
 have h1:=tenP_le38 h
 have h2:=q6g k
 exact q1j (by omega) (by omega)
theorem q2b {n:Int} (h:q1c n=true):Wd.res n=(.of n,0):=if_pos h
theorem res_not {n:Int} (h:q1c n=false):Wd.res n=(⟨0,0⟩,20):=if_neg (by rw[h];decide)
theorem wd_ok0:(Wd.mk 0 0).ok:=by unfold Wd.ok;simp
theorem wd_ok10:(Wd.mk 0 10).ok:=by unfold Wd.ok;simp
theorem pow_loop (m:Mem):∀(d j:Nat),j+d≤38→
  Res m (D5.gor 671745 [.int .i64 (d:Int),.ptr (some ⟨m.next,0⟩),.ptr (some ⟨m.next+1,0⟩)] ((m.lay (.cells [.int .i64 0,.int .u64 0] false)).lay (.cells (Wd.of (q48 j)).cells false)))
   (.tup [.agg (Wd.of (q48 (j+d))).cells,.int .i64 0]):=by
 intro d
 induction d with
 |zero=>
  intro j _
  simp only[j0z (H:=H5),T.g164_1,p2,q0a,j8z,df (show ¬(0:Int)<((0:Nat):Int) by omega)]
  simp only[g164_4_is (H:=H5),T.g164_4,q1,q1g,q1i,w_g164_4,Wd.cells,AV.one,over,AV.cells,Nat.reduceAdd,Nat.reduceLeDiff,lcl]
  exact Res.eq (((Fr.refl m).lay _).lay _) rfl
 |succ d ih=>
  intro j hj
  have wm:=fun m=>wmul_at (H:=H5) rfl (a:=Wd.of (q48 j)) (b:=⟨0,10⟩) (Wd.q44 (j2l (by omega))) wd_ok10 m
  rw[Wd.q18,show (Wd.mk 0 10).val=10 from rfl,←tenP_succ,q2b (j2l (by omega))]at wm
  have hi:=ih (j+1) (by omega)
  rw[show j+1+d=j+(d+1) by omega]at hi
  simp only[Wd.cells]at wm hi⊢
  simp only[j0z (H:=H5),T.g164_1,p2,q0a,j8z,dt (show (0:Int)<((d+1:Nat):Int) by omega)]
  simp only[g164_2_is (H:=H5),T.g164_2,q1,p1,q0r,AV.cells,Nat.reduceAdd,Nat.reduceLeDiff,q0g,w_g164_2,AV.one,over,lcl,wm]
  simp only[g164_3_is (H:=H5),T.g164_3,p2,w_g164_3,show ((d+1:Nat):Int)-1=(d:Int) by omega,wrap_i64 (n:=(d:Int)) (by omega) (by omega)]
  exact hi
theorem pow_is {k:Nat} (hk:k≤38) (m:Mem):Res m (run E5 (.fn 164) [.int .i64 (k:Int)] m) (.tup [.agg (Wd.of (q48 k)).cells,.int .i64 0]):=by
 have lp:=pow_loop m k 0 (by omega)
 rw[Nat.zero_add]at lp
 have e0:(Wd.of (q48 0)).cells=[.int .i64 0,.int .u64 1]:=rfl
 rw[e0]at lp
 simp only[f164_is (H:=H5) rfl,T.f164,pB,p2,p1,q0r,q0a,ifV,q1g,q1i,w_f164,Wd.cells,lcl,df (show ¬(k:Int)<0 by omega),df (show ¬(38:Int)<(k:Int) by omega)]
 simp only[g164_0_is (H:=H5),T.g164_0,p1,pB,q0r,AV.cells,Nat.reduceAdd,Nat.reduceLeDiff,w_g164_0,AV.one,over,lcl]
 exact lp
def S6:List FuncId:=[164]
noncomputable def H6:FuncId→Option (List AV→Mem→R):=q2w E5 S6
noncomputable abbrev E6:Env:=T.EH H6
theorem E6_ok:EnvOk E6:=q1k E5_ok S6
theorem pow_at {H:FuncId→Option (List AV→Mem→R)} (h:H 164=some (q0v E5 164)) {k:Nat} (hk:k≤38) (m:Mem):run (T.EH H) (.fn 164) [.int .i64 (k:Int)] m=some (.tup [.agg (Wd.of (q48 k)).cells,.int .i64 0],m):=
 q0s h (by simp[AV.flat,AV.lt,AV.lts,Wd.cells]) fun m2 _ _=>pow_is hk m2
theorem of_small {n:Int} (h0:0≤n) (h1:n<18446744073709551616):Wd.of n=⟨0,n⟩:=by unfold Wd.of;congr 1<;>omega
theorem sgI_fits {b:Bool} {n:Int} (h0:0≤n) (h1:n<170141183460469231731687303715884105728):q1c (sgI b n)=true:=by
 unfold sgI;split<;>exact q1j (by omega) (by omega)
theorem sgI_val {a:Wd} (ha:a.ok):sgI (decide (a.hi<0)) (q3a a.val)=a.val:=by
 rw[show a.hi=(Wd.mk a.hi a.lo).hi from rfl]
 have:=j35 (ah:=a.hi) (al:=a.lo) ha
 simp only at this⊢
 rw[this]
 show sgI (decide (a.val<0)) (q3a a.val)=a.val
 unfold sgI q3a
 by_cases h:a.val<0
 ·simp only[dt h,if_pos h,if_true];omega
 ·simp only[df h,if_neg h,Bool.false_eq_true,if_false]
theorem j5a {a:Wd} (ha:a.ok):0≤q3a a.val∧q3a a.val≤170141183460469231731687303715884105728:=by
 obtain⟨h1,h2,h3,h4⟩:=ha
 unfold q3a Wd.val
 split<;>constructor<;>omega
theorem sgn_quo {a:Wd} (ha:a.ok) {p:Int} (hp:0<p):(sgn (sgI (decide (a.hi<0)) (q3a a.val / p))≠0→sgn (sgI (decide (a.hi<0)) (q3a a.val / p))=sgn a.val)∧
  (sgn (sgI (decide (a.hi<0)) (q3a a.val / p))=0→sgn (sgI (decide (a.hi<0)) (q3a a.val % p))=sgn a.val):=by
 have hv:=sgI_val ha
 have h0:=(j5a ha).1
 obtain⟨A,hA⟩:∃A,A=q3a a.val:=⟨_,rfl⟩
 rw[←hA]at hv h0⊢
 rw[←hv]
 have q0:0≤A / p:=Int.ediv_nonneg h0 (by omega)
 have hq:A / p≤A:=Int.ediv_le_self _ h0
 constructor
 ·intro h
  have:A / p≠0:=by intro h2;apply h;rw[h2];unfold sgn sgI;split<;>simp
  cases decide (a.hi<0)<;>simp only[sgI,sgn,Bool.false_eq_true,if_false,if_true]<;>(repeat' split)<;>omega
 ·intro h
  have h2:A / p=0:=by
   apply Classical.byContradiction
   intro h3
   revert h
   cases decide (a.hi<0)<;>simp only[sgI,sgn,Bool.false_eq_true,if_false,if_true]<;>(repeat' split)<;>omega
  have h3:=Int.emod_add_mul_ediv A p
  rw[h2,Int.mul_zero,Int.add_zero]at h3
  rw[h3]
theorem fcmp0_is {w:Wd} (hw:w.ok) {s:Nat} (hs:s≤18) (m:Mem):Res m (run E6 (.fn 159) [.agg (q02 w (s:Int)),.agg (q02 ⟨0,0⟩ 0)] m) (.int .i64 (sgn w.val)):=by
 have p0:=q6g s
 have p1:=tenP_le hs
 have pw:=fun m=>pow_at (H:=H6) rfl (k:=s) (by omega) m
 rw[of_small (by omega) (by omega)]at pw
 have wd:=fun m=>wdiv_at (H:=H6) rfl hw p0 (by omega) m
 obtain⟨hA0,hA1⟩:=j5a hw
 have q0:0≤q3a w.val / q48 s:=Int.ediv_nonneg hA0 (by omega)
 have qle:q3a w.val / q48 s≤q3a w.val:=Int.ediv_le_self _ hA0
 have r0:0≤q3a w.val % q48 s∧q3a w.val % q48 s<q48 s:=⟨Int.emod_nonneg _ (by omega),Int.emod_lt_of_pos _ p0⟩
 obtain⟨s1,s2⟩:=sgn_quo hw p0
 have fq:q1c (sgI (decide (w.hi<0)) (q3a w.val / q48 s))=true:=by
  have:=sgI_val hw
  have hf:=Wd.q6h hw
  rw[←this]at hf
  unfold q1c at hf⊢
  simp only[Bool.and_eq_true,decide_eq_true_eq]at hf⊢
  revert hf
  cases decide (w.hi<0)<;>simp only[sgI,Bool.false_eq_true,if_false,if_true]<;>omega
 have fr:q1c (sgI (decide (w.hi<0)) (q3a w.val % q48 s))=true:=sgI_fits r0.1 (by omega)
 have cm:=fun m=>cmp_at (H:=H6) rfl (Wd.q44 fq) wd_ok0 m
 rw[Wd.q18,show (Wd.mk 0 0).val=0 from rfl,Int.sub_zero]at cm
 have sg:=fun m=>z0d (H:=H6) rfl (Wd.q44 fr) m
 rw[Wd.q18]at sg
 have hsub:IntKind.wrap .i64 ((s:Int)-0)=(s:Int):=by rw[Int.sub_zero];exact wrap_i64 (by omega) (by omega)
 obtain⟨wh,wl⟩:=w
 simp only[Wd.cells]at pw wd cm sg⊢
 obtain⟨c,hc⟩:∃c,c=sgn (sgI (decide (wh<0)) (q3a (Wd.mk wh wl).val / q48 s)):=⟨_,rfl⟩
 simp only at cm s1 s2
 rw[←hc]at cm s1 s2
 simp only[q02,f159_is (H:=H6) rfl,T.f159,q1,p2,pB,q1h,q0g,q0a,Nat.reduceAdd,w_f159,AV.one,over,AV.cells,Nat.reduceLeDiff,lcl,hsub,pw,wd,cm]
 by_cases h:c=0
 ·simp only[h,decide_true,Bool.not_true]
  simp only[g159_0_is (H:=H6),T.g159_0,q1,w_g159_0,Nat.reduceAdd,Nat.reduceLeDiff,lcl,sg]
  refine Res.eq ?_ (by rw[s2 h])
  (repeat apply Fr.lays)
  exact Fr.refl _
 ·simp only[df h,Bool.not_false]
  refine Res.eq ?_ (by rw[s1 h])
  (repeat apply Fr.lays)
  exact Fr.refl _
def S7:List FuncId:=[150,159]
noncomputable def H7:FuncId→Option (List AV→Mem→R):=q2w E6 S7
noncomputable abbrev E7:Env:=T.EH H7
theorem E7_ok:EnvOk E7:=q1k E6_ok S7
section
variable {H:FuncId→Option (List AV→Mem→R)}
theorem fcmp0_at (h:H 159=some (q0v E6 159)) {w:Wd} (hw:w.ok) {s:Nat} (hs:s≤18) (m:Mem):run (T.EH H) (.fn 159) [.agg (q02 w (s:Int)),.agg (q02 ⟨0,0⟩ 0)] m=some (.int .i64 (sgn w.val),m):=
 q0s h (by simp[AV.flat,AV.lt]) fun m2 _ _=>fcmp0_is hw hs m2
end
theorem dcmp0_is {w:Wd} (hw:w.ok) (s:Int) (m:Mem):Res m (run E7 (.fn 147) [.agg (q02 w s),.agg (q02 ⟨0,0⟩ 0)] m) (.tup [.int .i64 (if 0≤s∧s≤18 then sgn w.val else 0),.int .i64 (if 0≤s∧s≤18 then 0 else 21)]):=by
 have dr:=fun m=>z19 (H:=H7) rfl w s m
 have dr0:=fun m=>z19 (H:=H7) rfl ⟨0,0⟩ 0 m
 rw[dt (show (0:Int)≤0∧(0:Int)≤18 by omega)]at dr0
 by_cases h:0≤s∧s≤18
 ·obtain⟨n,rfl⟩:∃n:Nat,s=n:=⟨s.toNat,by omega⟩
  have fc:=fun m=>fcmp0_at (H:=H7) rfl hw (s:=n) (by omega) m
  rw[dt h]at dr
  rw[if_pos h,if_pos h]
  simp only[q02]at dr dr0 fc⊢
  simp only[f147_is (H:=H7) rfl,T.f147,q1,p1,q1h,q0a,ifV,unA,w_f147,AV.one,AV.cells,Nat.reduceAdd,Nat.reduceLeDiff,lcl,dr,dr0,Bool.not_true]
  simp only[g147_0_is (H:=H7),T.g147_0,p1,q1,p2,q0a,Nat.reduceAdd,w_g147_0,Nat.reduceLeDiff,lcl,df (show ¬(n:Int)<0 by omega)]
  simp only[g147_1_is (H:=H7),T.g147_1,q1,w_g147_1,Nat.reduceAdd,Nat.reduceLeDiff,lcl,fc]
  refine Res.eq ?_ rfl
  (repeat apply Fr.lays)
  exact Fr.refl _
 ·rw[df h]at dr
  rw[if_neg h,if_neg h]
  simp only[q02]at dr dr0⊢
  simp only[f147_is (H:=H7) rfl,T.f147,q1,p1,q1h,q0a,ifV,unA,w_f147,AV.one,AV.cells,Nat.reduceAdd,Nat.reduceLeDiff,lcl,dr,Bool.not_false]
  refine Res.eq ?_ rfl
  (repeat apply Fr.lays)
  exact Fr.refl _
def mulV (x y k:Int):Int:=if 0≤k then scF x y k.toNat else x*y*q48 (-k).toNat
def q6t (n:Int) (to:Int):AV:=.tup [.agg (if q1c n=true then q02 (.of n) to else q02 ⟨0,0⟩ 0),.int .i64 (if q1c n=true then 0 else 20)]
end
section
set_option maxRecDepth 4000
open Go Go.Abs
def S8:List FuncId:=[147,134]
noncomputable def H8:FuncId→Option (List AV→Mem→R):=q2w E7 S8
noncomputable abbrev E8:Env:=T.EH H8
theorem E8_ok:EnvOk E8:=q1k E7_ok S8
theorem decC_flat (w:Wd) (s:Int):AV.lts 0 (q02 w s):=by simp[AV.lt,AV.lts,q02]
theorem z15 (n to:Int):(q6t n to).flat:=by unfold q6t;split<;>simp[AV.flat,AV.lt,AV.lts,q02]
section
variable {H:FuncId→Option (List AV→Mem→R)}
theorem dcmp0_at (h:H 147=some (q0v E7 147)) {w:Wd} (hw:w.ok) (s:Int) (m:Mem):run (T.EH H) (.fn 147) [.agg (q02 w s),.agg (q02 ⟨0,0⟩ 0)] m=some (.tup [.int .i64 (if 0≤s∧s≤18 then sgn w.val else 0),.int .i64 (if 0≤s∧s≤18 then 0 else 21)],m):=
 q0s h (by simp[AV.flat,AV.lt,AV.lts]) fun m2 _ _=>dcmp0_is hw s m2
end
theorem above_is {w:Wd} (hw:w.ok) (s:Int) (m:Mem):Res m (run E8 (.fn 133) [.agg (q02 w s)] m) (.bool (decide ((0≤s∧s≤18)∧0<w.val))):=by
 have dc:=fun m=>dcmp0_at (H:=H8) rfl hw s m
 simp only[q02]at dc⊢
 by_cases h:0≤s∧s≤18
 ·simp only[if_pos h]at dc
  simp only[f133_is (H:=H8) rfl,T.f133,q1,p1,p2,q0r,AV.cells,Nat.reduceAdd,Nat.reduceLeDiff,q1h,q0g,ifV,w_f133,AV.one,lcl,dc,decide_true]
  refine Res.eq ?_ ?_
  ·(repeat apply Fr.lays)
   exact Fr.refl _
  ·congr 1
   unfold sgn
   apply decide_eq_decide.mpr
   split<;>(try split)<;>omega
 ·simp only[if_neg h]at dc
  simp only[f133_is (H:=H8) rfl,T.f133,q1,p1,p2,q0r,AV.cells,Nat.reduceAdd,Nat.reduceLeDiff,q1h,q0g,ifV,w_f133,AV.one,lcl,dc,df (show ¬(21:Int)=0 by omega)]
  refine Res.eq ?_ ?_
  ·(repeat apply Fr.lays)
   exact Fr.refl _
  ·rw[df (by omega)]
def S9:List FuncId:=[133]
noncomputable def H9:FuncId→Option (List AV→Mem→R):=q2w E8 S9
noncomputable abbrev E9:Env:=T.EH H9
theorem E9_ok:EnvOk E9:=q1k E8_ok S9
theorem above_at {H:FuncId→Option (List AV→Mem→R)} (h:H 133=some (q0v E8 133)) {w:Wd} (hw:w.ok) (s:Int) (m:Mem):run (T.EH H) (.fn 133) [.agg (q02 w s)] m=some (.bool (decide ((0≤s∧s≤18)∧0<w.val)),m):=
 q0s h (by simp[AV.flat,AV.lt]) fun m2 _ _=>above_is hw s m2
def q5r (w:Wd) (s:Int):Int:=if 0≤s∧s≤18 then (if 0<w.val then 0 else 44) else 21
theorem rright_is {w:Wd} (hw:w.ok) (s:Int) (m:Mem):Res m (run E9 (.fn 92) [.agg (q02 w s)] m) (.int .i64 (q5r w s)):=by
 have dr:=fun m=>z19 (H:=H9) rfl w s m
 have ab:=fun m=>above_at (H:=H9) rfl hw s m
 unfold q5r
 by_cases h:0≤s∧s≤18
 ·rw[if_pos h]
  rw[dt h]at dr
  by_cases h2:0<w.val
  ·rw[if_pos h2]
   rw[dt ⟨h,h2⟩]at ab
   simp only[q02]at dr ab⊢
   simp only[f92_is (H:=H9) rfl,T.f92,q1,p1,q1h,q0a,unA,w_f92,AV.one,AV.cells,Nat.reduceAdd,Nat.reduceLeDiff,lcl,dr,ab,Bool.not_true]
   simp only[g92_0_is (H:=H9),T.g92_0,w_g92_0]
   refine Res.eq ?_ rfl
   (repeat apply Fr.lays)
   exact Fr.refl _
  ·rw[if_neg h2]
   rw[df (by omega)]at ab
   simp only[q02]at dr ab⊢
   simp only[f92_is (H:=H9) rfl,T.f92,q1,p1,q1h,q0a,unA,w_f92,AV.one,AV.cells,Nat.reduceAdd,Nat.reduceLeDiff,lcl,dr,ab,Bool.not_true,Bool.not_false]
   refine Res.eq ?_ rfl
   (repeat apply Fr.lays)
   exact Fr.refl _
 ·rw[if_neg h]
  rw[df h]at dr
  simp only[q02]at dr⊢
  simp only[f92_is (H:=H9) rfl,T.f92,q1,p1,q1h,q0a,unA,w_f92,AV.one,AV.cells,Nat.reduceAdd,Nat.reduceLeDiff,lcl,dr,Bool.not_false]
  refine Res.eq ?_ rfl
  (repeat apply Fr.lays)
  exact Fr.refl _
def S10:List FuncId:=[92]
noncomputable def H10:FuncId→Option (List AV→Mem→R):=q2w E9 S10
noncomputable abbrev E10:Env:=T.EH H10
theorem E10_ok:EnvOk E10:=q1k E9_ok S10
theorem rright_at {H:FuncId→Option (List AV→Mem→R)} (h:H 92=some (q0v E9 92)) {w:Wd} (hw:w.ok) (s:Int) (m:Mem):run (T.EH H) (.fn 92) [.agg (q02 w s)] m=some (.int .i64 (q5r w s),m):=
 q0s h (by simp[AV.flat,AV.lt]) fun m2 _ _=>rright_is hw s m2
def j5i (w:Wd) (s:Int) (v:Wd) (t:Int) (n:Int):AV:=
 if (0≤s∧s≤18)∧(0≤n∧n≤18) then
  if 0<w.val then
   if q5r v t=0 then q6t (mulV w.val v.val (s+t-n)) n else .tup [.agg (q02 ⟨0,0⟩ 0),.int .i64 (q5r v t)]
  else .tup [.agg (q02 ⟨0,0⟩ 0),.int .i64 43]
 else .tup [.agg (q02 ⟨0,0⟩ 0),.int .i64 21]
theorem z5h {v:Wd} {t:Int} (h:q5r v t=0):(0≤t∧t≤18)∧0<v.val:=by
 unfold q5r at h
 split at h
 ·split at h
  ·exact⟨‹_›,‹_›⟩
  ·omega
 ·omega
def S11:List FuncId:=[110]
noncomputable def H11:FuncId→Option (List AV→Mem→R):=q2w E10 S11
noncomputable abbrev E11:Env:=T.EH H11
theorem E11_ok:EnvOk E11:=q1k E10_ok S11
noncomputable abbrev D11:Do:=T.Rl H11
end
end Go.Proofs.YtlginbmjiecglaaGreatDoor
namespace Go.Abs
section
open Go
def dig (n i:Nat):Nat:=n / 4294967296 ^ i % 4294967296
def D16 (n:Nat):List AV:=(List.range 16).map fun i=>.int .u64 ((dig n i:Nat):Int)
theorem q4y (n i:Nat):dig n i<4294967296:=Nat.mod_lt _ (by omega)
theorem q29 (n:Nat):(D16 n).length=16:=by simp[D16]
theorem q1r (n:Nat) {i:Nat} (h:i<16):(D16 n)[i]? = some (.int .u64 ((dig n i:Nat):Int)):=by
 simp[D16,List.getElem?_map,List.getElem?_range h]
theorem q6n (n:Nat):(D16 n).all AV.one=true:=by
 simp[D16,List.all_map,List.all_eq_true,AV.one]
theorem q7h (n:Nat):(D16 n).take 16=D16 n:=List.take_of_length_le (by rw[q29];exact Nat.le_refl _)
theorem q49 (n:Nat):(D16 n).drop 16=[]:=List.drop_of_length_le (by rw[q29];exact Nat.le_refl _)
theorem q7g (n:Nat):AV.lts 0 (D16 n):=by simp[D16,AV.lts,AV.lt,List.range,List.range.loop]
theorem D16_ext {n N:Nat} (h:∀i,i<16→dig n i=dig N i):D16 n=D16 N:=by
 unfold D16
 apply List.map_congr_left
 intro i hi
 rw[h i (List.mem_range.mp hi)]
theorem z16:[AV.int .u64 0,.int .u64 0,.int .u64 0,.int .u64 0,.int .u64 0,.int .u64 0,.int .u64 0,.int .u64 0,.int .u64 0,.int .u64 0,.int .u64 0,.int .u64 0,.int .u64 0,.int .u64 0,.int .u64 0,.int .u64 0]=D16 0:=by
 unfold D16 dig
 simp[List.range,List.range.loop]
theorem over_dig (n:Nat) {i:Nat} (h:i<16) (v:Int):over (D16 n) i (.int .u64 v) 1=some ((D16 n).set i (.int .u64 v)):=by
 unfold over
 simp only[AV.cells,List.length_cons,List.length_nil,Nat.zero_add,if_true,q29,if_pos (show i+1≤16 by omega)]
 rw[List.set_eq_take_append_cons_drop,if_pos (by rw[q29];exact h)]
 simp
theorem set_dig {n N i:Nat} {v:Int} (h:i<16) (e:∀j,j<16→j≠i→dig n j=dig N j) (hv:v=((dig N i:Nat):Int)):(D16 n).set i (.int .u64 v)=D16 N:=by
 apply List.ext_getElem?
 intro j
 by_cases hj:j<16
 ·rw[q1r N hj,List.getElem?_set]
  by_cases hij:i=j
  ·subst hij
   rw[if_pos rfl,if_pos (by rw[q29];exact h),hv]
  ·rw[if_neg hij,q1r n hj,e j hj (fun x=>hij x.symm)]
 ·rw[List.getElem?_eq_none (by rw[List.length_set,q29];omega),List.getElem?_eq_none (by rw[q29];omega)]
theorem q57 {n N i:Nat} {v:Int} (h:i<16) (e:∀j,j<16→j≠i→dig n j=dig N j) (hv:v=((dig N i:Nat):Int)):over (D16 n) i (.int .u64 v) 1=some (D16 N):=by
 rw[over_dig n h,set_dig h e hv]
theorem over_all (n N:Nat):over (D16 n) 0 (.agg (D16 N)) 16=some (D16 N):=by
 unfold over
 have hl:=q29 N
 simp only[AV.cells,q6n,if_true]
 rw[if_pos hl,q29,if_pos (by omega)]
 simp[q49]
theorem ix16 (b o:Nat) {i:Nat} (h:i<16):ixA 1 16 ⟨b,o⟩ (i:Int)=some (.ptr (some ⟨b,o+i⟩)):=by
 unfold ixA
 rw[if_pos (by omega),if_pos (by omega)]
 simp
theorem pow_add_one (i:Nat):4294967296 ^ (i+1)=4294967296 ^ i*4294967296:=Nat.pow_succ ..
theorem z5p (i:Nat):0<4294967296 ^ i:=Nat.pow_pos (by omega)
theorem z6g (n i j:Nat):dig (n % 4294967296 ^ i) j=if j<i then dig n j else 0:=by
 unfold dig
 by_cases h:j<i
 ·rw[if_pos h]
  obtain⟨k,rfl⟩:∃k,i=j+1+k:=⟨i-(j+1),by omega⟩
  rw[Nat.pow_add,pow_add_one,Nat.mul_assoc,Nat.mod_mul_right_div_self,Nat.mod_mul_right_mod]
 ·rw[if_neg h]
  have:n % 4294967296 ^ i<4294967296 ^ j:=Nat.lt_of_lt_of_le (Nat.mod_lt _ (z5p i)) (Nat.pow_le_pow_right (by omega) (by omega))
  rw[Nat.div_eq_of_lt this]
theorem z0o {n i:Nat}:∀j,j<16→j≠i→dig (n % 4294967296 ^ i) j=dig (n % 4294967296 ^ (i+1)) j:=by
 intro j _ hj
 rw[z6g,z6g]
 by_cases h:j<i
 ·rw[if_pos h,if_pos (by omega)]
 ·rw[if_neg h,if_neg (by omega)]
theorem z4m (n i:Nat):dig (n % 4294967296 ^ (i+1)) i=dig n i:=by rw[z6g,if_pos (by omega)]
theorem D16_mod (n:Nat):D16 (n % 4294967296 ^ 16)=D16 n:=D16_ext fun i hi=>by rw[z6g,if_pos hi]
theorem q93 {n i d:Nat} (h:dig n i+d<4294967296):∀j,dig (n+d*4294967296 ^ i) j=dig n j+if j=i then d else 0:=by
 intro j
 unfold dig at h⊢
 have hB:=z5p i
 by_cases h1:j=i
 ·subst h1
  rw[if_pos rfl,Nat.add_mul_div_right _ _ hB]
  omega
 ·rw[if_neg h1,Nat.add_zero]
  by_cases h2:j<i
  ·obtain⟨k,rfl⟩:∃k,i=j+1+k:=⟨i-(j+1),by omega⟩
   have e:d*4294967296 ^ (j+1+k)=(d*4294967296 ^ k*4294967296)*4294967296 ^ j:=by
    rw[Nat.pow_add,pow_add_one];simp only[Nat.mul_comm,Nat.mul_left_comm,Nat.mul_assoc]
   rw[e,Nat.add_mul_div_right _ _ (z5p j),Nat.add_mul_mod_self_right]
  ·obtain⟨k,rfl⟩:∃k,j=i+1+k:=⟨j-(i+1),by omega⟩
   have e:4294967296 ^ (i+1+k)=4294967296 ^ i*(4294967296*4294967296 ^ k):=by rw[Nat.pow_add,pow_add_one,Nat.mul_assoc]
   rw[e,←Nat.div_div_eq_div_mul,←Nat.div_div_eq_div_mul,←Nat.div_div_eq_div_mul,←Nat.div_div_eq_div_mul,Nat.add_mul_div_right _ _ hB]
   congr 2
   omega
theorem q38 (n i:Nat):n / 4294967296 ^ (i+1)=n / 4294967296 ^ i / 4294967296:=by rw[pow_add_one,Nat.div_div_eq_div_mul]
theorem q6u (n i:Nat):n % 4294967296 ^ (i+1)=n % 4294967296 ^ i+dig n i*4294967296 ^ i:=by
 rw[pow_add_one,Nat.mod_mul,dig,Nat.mul_comm]
section bin
variable {P:Program}
theorem z08 (t:TypeId) (x:Nat):q1e P .rem t (.int .u64 (x:Int)) (.int .u64 4294967296)=some (.int .u64 ((x % 4294967296:Nat):Int)):=by
 rw[q34 _ _ _ _ (by omega),Int.tmod_eq_emod_of_nonneg (by omega)];simp
theorem q8o (t:TypeId) {x:Nat} (h:x<18446744073709551616):q1e P .quo t (.int .u64 (x:Int)) (.int .u64 4294967296)=some (.int .u64 ((x / 4294967296:Nat):Int)):=by
 rw[q5y _ _ _ _ (by omega),Int.tdiv_eq_ediv_of_nonneg (by omega),wrap_u64 (by omega) (by omega)];simp
end bin
theorem mul_lt_B {a b:Nat} (ha:a<4294967296) (hb:b<4294967296):a*b≤18446744065119617025:=by
 have:=Nat.mul_le_mul (show a≤4294967295 by omega) (show b≤4294967295 by omega)
 omega
end
section
open Go
theorem q7a {x:Int} (h:0≤x) (h2:x<18446744073709551616):unA .xor (.int .u64 x)=some (.int .u64 (18446744073709551615-x)):=by
 obtain⟨n,rfl⟩:∃n:Nat,x=n:=⟨x.toNat,by omega⟩
 have e:unA .xor (.int .u64 (n:Int))=some (.int .u64 (IntKind.wrap .u64 (((BitVec.ofInt 64 18446744073709551615 ^^^ BitVec.ofInt 64 (n:Int)).toNat:Nat):Int))):=rfl
 rw[e,show BitVec.ofInt 64 18446744073709551615=BitVec.allOnes 64 from by decide,BitVec.allOnes_xor,BitVec.toNat_not,show BitVec.ofInt 64 (n:Int)=BitVec.ofNat 64 n from BitVec.ofInt_natCast ..,BitVec.toNat_ofNat,q0o]
 congr 2
 omega
theorem bit_dig (a i:Nat):dig a (i / 32) / 2 ^ (i % 32) % 2=a / 2 ^ i % 2:=by
 have e:a / 2 ^ i=a / 4294967296 ^ (i / 32) / 2 ^ (i % 32):=by
  rw[Nat.div_div_eq_div_mul,show (4294967296:Nat)=2 ^ 32 from rfl,←Nat.pow_mul,←Nat.pow_add,Nat.div_add_mod]
 rw[e]
 unfold dig
 obtain⟨y,hy⟩:∃y,y=a / 4294967296 ^ (i / 32):=⟨_,rfl⟩
 obtain⟨s,hs⟩:∃s,s=i % 32:=⟨_,rfl⟩
 rw[←hy,←hs]
 have h:s<32:=by omega
 clear hy hs e
 revert h
 revert s
 intro s h
 have h32:s=0∨s=1∨s=2∨s=3∨s=4∨s=5∨s=6∨s=7∨s=8∨s=9∨s=10∨s=11∨s=12∨s=13∨s=14∨s=15∨s=16∨s=17∨s=18∨s=19∨s=20∨s=21∨s=22∨s=23∨s=24∨s=25∨s=26∨s=27∨s=28∨s=29∨s=30∨s=31:=by omega
 clear h
 rcases h32 with rfl|rfl|rfl|rfl|rfl|rfl|rfl|rfl|rfl|rfl|rfl|rfl|rfl|rfl|rfl|rfl|rfl|rfl|rfl|rfl|rfl|rfl|rfl|rfl|rfl|rfl|rfl|rfl|rfl|rfl|rfl|rfl<;>(simp only[Nat.reducePow];omega)
theorem j1t (i:Nat):2 ^ i=2 ^ (i % 32)*4294967296 ^ (i / 32):=by
 rw[show (4294967296:Nat)=2 ^ 32 from rfl,←Nat.pow_mul,←Nat.pow_add,Nat.mod_add_div]
theorem pow32_lt {s:Nat} (h:s<32):2 ^ s<4294967296:=by
 have:=Nat.pow_lt_pow_right (a:=2) (by omega) h
 simpa using this
theorem bit_room (Q i:Nat):dig (Q*2 ^ (i+1)) (i / 32)+2 ^ (i % 32)<4294967296:=by
 have e:Q*2 ^ (i+1)=Q*2*2 ^ (i % 32)*4294967296 ^ (i / 32):=by
  rw[Nat.pow_succ,j1t i];simp only[Nat.mul_comm,Nat.mul_assoc]
 unfold dig
 rw[e,Nat.mul_div_cancel _ (z5p _)]
 obtain⟨s,hs⟩:∃s,s=i % 32:=⟨_,rfl⟩
 rw[←hs]
 have h:s<32:=by omega
 clear hs e
 revert h
 revert s
 intro s h
 have h32:s=0∨s=1∨s=2∨s=3∨s=4∨s=5∨s=6∨s=7∨s=8∨s=9∨s=10∨s=11∨s=12∨s=13∨s=14∨s=15∨s=16∨s=17∨s=18∨s=19∨s=20∨s=21∨s=22∨s=23∨s=24∨s=25∨s=26∨s=27∨s=28∨s=29∨s=30∨s=31:=by omega
 clear h
 rcases h32 with rfl|rfl|rfl|rfl|rfl|rfl|rfl|rfl|rfl|rfl|rfl|rfl|rfl|rfl|rfl|rfl|rfl|rfl|rfl|rfl|rfl|rfl|rfl|rfl|rfl|rfl|rfl|rfl|rfl|rfl|rfl|rfl<;>(simp only[Nat.reducePow];omega)
theorem z9r {P:Program} (t:TypeId) {x n:Nat} (hx:x<4294967296) (hn:n<32):q1e P .shr t (.int .u64 (x:Int)) (.int .u64 (n:Int))=some (.int .u64 ((x / 2 ^ n:Nat):Int)):=by
 rw[z6b t n (by omega)]
 congr 2
theorem bin_shl_n {P:Program} (t:TypeId) {n:Nat} (hn:n<32):q1e P .shl t (.int .u64 1) (.int .u64 (n:Int))=some (.int .u64 ((2 ^ n:Nat):Int)):=by
 rw[z6a t n (by omega)]
 congr 2
 have:=pow32_lt hn
 rw[Int.one_mul,show (2:Int) ^ n=((2 ^ n:Nat):Int) from (Int.natCast_pow 2 n).symm]
 obtain⟨w,hw⟩:∃w,w=2 ^ n:=⟨_,rfl⟩
 rw[←hw]at this⊢
 omega
theorem div_bit {x b bit:Nat} (hb:0<b) :
  (b≤2*(x % b)+bit→bit≤1→(2*x+bit) / b=2*(x / b)+1∧(2*x+bit) % b=2*(x % b)+bit-b)∧
  (2*(x % b)+bit<b→(2*x+bit) / b=2*(x / b)∧(2*x+bit) % b=2*(x % b)+bit):=by
 have h:=Nat.div_add_mod x b
 have hl:=Nat.mod_lt x hb
 obtain⟨q,hq⟩:∃q,q=x / b:=⟨_,rfl⟩
 obtain⟨r,hr⟩:∃r,r=x % b:=⟨_,rfl⟩
 rw[←hq,←hr]at h⊢
 rw[←hr]at hl
 constructor
 ·intro h1 h2
  apply (Nat.div_mod_unique hb).mpr
  rw[Nat.mul_add,Nat.mul_left_comm]
  omega
 ·intro h1
  apply (Nat.div_mod_unique hb).mpr
  rw[Nat.mul_left_comm]
  omega
theorem half_bit (a i:Nat):a / 2 ^ i=2*(a / 2 ^ (i+1))+a / 2 ^ i % 2:=by
 rw[Nat.pow_succ,←Nat.div_div_eq_div_mul];omega
end
section
open Go
def q4d (x:Int):List AV:=.bool (decide (x<0))::D16 x.natAbs
theorem over_cons (x:AV) (cs:List AV) (i:Nat) (v:AV) (n:Nat):over (x::cs) (i+1) v n=(over cs i v n).map (x::·):=by
 unfold over
 cases v.cells with
 |none=>rfl
 |some vs=>
  simp only
  by_cases h:vs.length=n
  ·simp only[if_pos h,List.length_cons]
   by_cases h2:i+n≤cs.length
   ·rw[if_pos (by omega),if_pos h2]
    simp[show i+1+n=i+n+1 by omega]
   ·rw[if_neg (by omega),if_neg h2];rfl
  ·simp only[if_neg h];rfl
theorem over17 (x:AV) (b:Bool) (a n:Nat):over (x::D16 a) 0 (.agg (.bool b::D16 n)) 17=some (.bool b::D16 n):=by
 unfold over
 simp only[AV.cells,List.all_cons,AV.one,Bool.true_and,q6n,if_true,List.length_cons,q29,List.take_zero,List.nil_append,Nat.zero_add]
 rw[if_pos (Nat.le_refl _),List.drop_succ_cons,q49,List.append_nil]
theorem dig_top {n i:Nat} (h:n<4294967296 ^ i):dig n i=0:=by unfold dig;rw[Nat.div_eq_of_lt h,Nat.zero_mod]
theorem over_top {n i d:Nat} (hi:i<16) (h:n<4294967296 ^ i) (hd:d<4294967296):over (D16 n) i (.int .u64 (d:Int)) 1=some (D16 (n+d*4294967296 ^ i)):=by
 have z:=dig_top h
 have a:=q93 (n:=n) (i:=i) (d:=d) (by omega)
 exact q57 hi (fun j _ hj=>by rw[a j,if_neg hj];rfl) (by rw[a i,if_pos rfl,z,Nat.zero_add])
theorem q7v (x:AV) {n i d:Nat} (hi:i<16) (h:n<4294967296 ^ i) (hd:d<4294967296):over (x::D16 n) (i+1) (.int .u64 (d:Int)) 1=some (x::D16 (n+d*4294967296 ^ i)):=by
 rw[over_cons,over_top hi h hd];rfl
theorem ix17_0 (b:Nat):ixA 1 16 ⟨b,1⟩ 0=some (.ptr (some ⟨b,1⟩)):=by simp[ixA]
theorem ix17_1 (b:Nat):ixA 1 16 ⟨b,1⟩ 1=some (.ptr (some ⟨b,2⟩)):=by simp[ixA]
theorem ix17_2 (b:Nat):ixA 1 16 ⟨b,1⟩ 2=some (.ptr (some ⟨b,3⟩)):=by simp[ixA]
theorem ix17_3 (b:Nat):ixA 1 16 ⟨b,1⟩ 3=some (.ptr (some ⟨b,4⟩)):=by simp[ixA]
theorem ix17 (b:Nat) {i:Nat} (h:i<16):ixA 1 16 ⟨b,1⟩ (i:Int)=some (.ptr (some ⟨b,i+1⟩)):=by rw[ix16 _ _ h,Nat.add_comm]
theorem q6r (x:Int):AV.lts 0 (q4d x):=by simp[q4d,AV.lts,AV.lt,q7g]
def q7f (x:Int):Wd×Bool:=
 if q1c x=true then (Wd.of x,true) else if 0≤x∧x<340282366920938463463374607431768211456 then (⟨x / 18446744073709551616-18446744073709551616,x % 18446744073709551616⟩,false) else (⟨0,0⟩,false)
theorem dig0 (n:Nat):dig n 0=n % 4294967296:=by unfold dig;rw[Nat.pow_zero,Nat.div_one]
theorem dig1 (n:Nat):dig n 1=n / 4294967296 % 4294967296:=by unfold dig;rw[Nat.pow_one]
theorem dig2 (n:Nat):dig n 2=n / 18446744073709551616 % 4294967296:=rfl
theorem dig3 (n:Nat):dig n 3=n / 79228162514264337593543950336 % 4294967296:=rfl
abbrev lcd:=ai @lcl<|ai @q29<|ai @q7h<|ai @q49<|ai @q6n<|ai @over_all @over17
end
end Go.Abs
namespace Go.Proofs.YtlginbmjiecglaaGreatDoor
section
set_option maxRecDepth 4000
open Go Go.Abs
theorem radd_loop (a b:Nat) (m:Mem):∀(d i c:Nat),i+d=16→(a+b) / 4294967296 ^ i=a / 4294967296 ^ i+b / 4294967296 ^ i+c→c≤1→
  Res m (D11.gor 454656 [.ptr (some ⟨m.next,0⟩),.ptr (some ⟨m.next+1,0⟩),.ptr (some ⟨m.next+1+1,0⟩),.ptr (some ⟨m.next+1+1+1,0⟩),.int .u64 (c:Int),.int .i64 (i:Int)]
   ((((m.lay (.cells (D16 a) false)).lay (.cells (D16 b) false)).lay (.cells (D16 0) false)).lay (.cells (D16 ((a+b) % 4294967296 ^ i)) false))) (.agg (D16 (a+b))):=by
 intro d
 induction d with
 |zero=>
  intro i c hi _ _
  have:i=16:=by omega
  subst this
  simp only[j0f (H:=H11),T.g111_0,p2,q0a,j8i,df (show ¬((16:Nat):Int)<16 by omega)]
  simp only[g111_3_is (H:=H11),T.g111_3,q1,q1g,q1i,w_g111_3,Nat.reduceLeDiff,lcd,D16_mod]
  refine Res.eq ?_ rfl
  (repeat apply Fr.lays)
  exact Fr.refl _
 |succ d ih=>
  intro i c hi hc hc1
  have h16:i<16:=by omega
  have la:=q4y a i
  have lb:=q4y b i
  obtain⟨s,hs⟩:∃s,s=dig a i+dig b i+c:=⟨_,rfl⟩
  have e1:dig (a+b) i=s % 4294967296:=by unfold dig at hs⊢;omega
  have e2:(a+b) / 4294967296 ^ (i+1)=a / 4294967296 ^ (i+1)+b / 4294967296 ^ (i+1)+s / 4294967296:=by
   rw[q38,q38,q38];unfold dig at hs;omega
  have hw:IntKind.wrap .u64 (IntKind.wrap .u64 ((dig a i:Int)+(dig b i:Int))+(c:Int))=((s:Nat):Int):=by rw[q0o,q0o];omega
  have ov:over (D16 ((a+b) % 4294967296 ^ i)) i (.int .u64 ((s % 4294967296:Nat):Int)) 1=some (D16 ((a+b) % 4294967296 ^ (i+1))):=
   q57 h16 z0o (by rw[z4m,e1])
  simp only[j0f (H:=H11),T.g111_0,p2,q0a,j8i,dt (show (i:Int)<16 by omega)]
  simp only[g111_1_is (H:=H11),T.g111_1,p2,q1,w_g111_1,lcd,ix16 _ _ h16,q1r _ h16,hw,z08,q8o _ (show s<18446744073709551616 by omega),ov]
  simp only[g111_2_is (H:=H11),T.g111_2,p2,w_g111_2,show (i:Int)+1=((i+1:Nat):Int) by omega,wrap_i64 (n:=((i+1:Nat):Int)) (by omega) (by omega)]
  exact ih (i+1) (s / 4294967296) (by omega) e2 (by omega)
theorem radd_is (a b:Nat) (m:Mem):Res m (run E11 (.fn 111) [.agg (D16 a),.agg (D16 b)] m) (.agg (D16 (a+b))):=by
 have lp:=radd_loop a b m 16 0 0 rfl (by simp) (by omega)
 rw[Nat.pow_zero,Nat.mod_one]at lp
 simp only[f111_is (H:=H11) rfl,T.f111,pB,q1h,w_f111,AV.cells,lcd,z16]
 exact lp
theorem rsub_loop {a b N:Nat} (hN:a=b+N) (m:Mem):∀(d i c:Nat),i+d=16→a / 4294967296 ^ i=b / 4294967296 ^ i+N / 4294967296 ^ i+c→c≤1→
  Res m (D11.gor 462848 [.ptr (some ⟨m.next,0⟩),.ptr (some ⟨m.next+1,0⟩),.ptr (some ⟨m.next+1+1,0⟩),.ptr (some ⟨m.next+1+1+1,0⟩),.int .u64 (c:Int),.int .i64 (i:Int)]
   ((((m.lay (.cells (D16 a) false)).lay (.cells (D16 b) false)).lay (.cells (D16 0) false)).lay (.cells (D16 (N % 4294967296 ^ i)) false))) (.agg (D16 N)):=by
 intro d
 induction d with
 |zero=>
  intro i c hi _ _
  have:i=16:=by omega
  subst this
  simp only[j0h (H:=H11),T.g113_0,p2,q0a,j8k,df (show ¬((16:Nat):Int)<16 by omega)]
  simp only[g113_3_is (H:=H11),T.g113_3,q1,q1g,q1i,w_g113_3,Nat.reduceLeDiff,lcd,D16_mod]
  refine Res.eq ?_ rfl
  (repeat apply Fr.lays)
  exact Fr.refl _
 |succ d ih=>
  intro i c hi hc hc1
  have h16:i<16:=by omega
  have la:=q4y a i
  have lb:=q4y b i
  obtain⟨s,hs⟩:∃s,s=dig a i+4294967296-dig b i-c:=⟨_,rfl⟩
  have e1:dig N i=s % 4294967296:=by unfold dig at hs⊢;omega
  have e2:a / 4294967296 ^ (i+1)=b / 4294967296 ^ (i+1)+N / 4294967296 ^ (i+1)+(1-s / 4294967296):=by
   rw[q38,q38,q38];unfold dig at hs;omega
  have hw:IntKind.wrap .u64 (IntKind.wrap .u64 (IntKind.wrap .u64 ((dig a i:Int)+4294967296)-(dig b i:Int))-(c:Int))=((s:Nat):Int):=by rw[q0o,q0o,q0o];omega
  have hw2:IntKind.wrap .u64 (1-((s / 4294967296:Nat):Int))=((1-s / 4294967296:Nat):Int):=by rw[q0o];omega
  have ov:over (D16 (N % 4294967296 ^ i)) i (.int .u64 ((s % 4294967296:Nat):Int)) 1=some (D16 (N % 4294967296 ^ (i+1))):=
   q57 h16 z0o (by rw[z4m,e1])
  simp only[j0h (H:=H11),T.g113_0,p2,q0a,j8k,dt (show (i:Int)<16 by omega)]
  simp only[g113_1_is (H:=H11),T.g113_1,p2,q1,w_g113_1,lcd,ix16 _ _ h16,q1r _ h16,hw,z08,q8o _ (show s<18446744073709551616 by omega),ov,hw2]
  simp only[g113_2_is (H:=H11),T.g113_2,p2,w_g113_2,show (i:Int)+1=((i+1:Nat):Int) by omega,wrap_i64 (n:=((i+1:Nat):Int)) (by omega) (by omega)]
  exact ih (i+1) (1-s / 4294967296) (by omega) e2 (by omega)
theorem rsub_is {a b:Nat} (h:b≤a) (m:Mem):Res m (run E11 (.fn 113) [.agg (D16 a),.agg (D16 b)] m) (.agg (D16 (a-b))):=by
 have lp:=rsub_loop (N:=a-b) (show a=b+(a-b) by omega) m 16 0 0 rfl (by simp;omega) (by omega)
 rw[Nat.pow_zero,Nat.mod_one]at lp
 simp only[f113_is (H:=H11) rfl,T.f113,pB,q1h,w_f113,AV.cells,lcd,z16]
 exact lp
def z3v (a b:Nat):Int:=if a<b then -1 else if a=b then 0 else 1
theorem rcmp_loop (a b:Nat) (m:Mem):∀(k:Nat),k≤16→a / 4294967296 ^ k=b / 4294967296 ^ k→
  Res m (D11.gor 458752 [.ptr (some ⟨m.next,0⟩),.ptr (some ⟨m.next+1,0⟩),.int .i64 ((k:Int)-1)]
   ((m.lay (.cells (D16 a) false)).lay (.cells (D16 b) false))) (.int .i64 (z3v a b)):=by
 intro k
 induction k with
 |zero=>
  intro _ h
  rw[Nat.pow_zero,Nat.div_one,Nat.div_one]at h
  simp only[j0g (H:=H11),T.g112_0,p2,q0a,j8j,df (show ¬((0:Nat):Int)-1≥0 by omega)]
  simp only[g112_4_is (H:=H11),T.g112_4,w_g112_4]
  refine Res.eq ?_ (by unfold z3v;rw[if_neg (by omega),if_pos h])
  (repeat apply Fr.lays)
  exact Fr.refl _
 |succ k ih=>
  intro hk h
  have h16:k<16:=by omega
  rw[q38,q38]at h
  simp only[show ((k+1:Nat):Int)-1=(k:Int) by omega]
  simp only[j0g (H:=H11),T.g112_0,p2,q0a,j8j,dt (show (k:Int)≥0 by omega)]
  by_cases e:dig a k=dig b k
  ·have e':decide ((dig a k:Int)=(dig b k:Int))=true:=dt (by omega)
   simp only[z2k (H:=H11),T.j5v,p2,q1,q0a,z8t,lcd,ix16 _ _ h16,q1r _ h16,e',Bool.not_true]
   simp only[g112_3_is (H:=H11),T.g112_3,p2,w_g112_3,wrap_i64 (n:=(k:Int)-1) (by omega) (by omega)]
   exact ih (by omega) (by unfold dig at e;omega)
  ·have e':decide ((dig a k:Int)=(dig b k:Int))=false:=df (by omega)
   by_cases l:dig a k<dig b k
   ·have l':decide ((dig a k:Int)<(dig b k:Int))=true:=dt (by omega)
    simp only[z2k (H:=H11),T.j5v,p2,q1,q0a,z8t,lcd,ix16 _ _ h16,q1r _ h16,e',l',Bool.not_false]
    have:a<b:=by
     apply Classical.byContradiction
     intro hn
     have:=Nat.div_le_div_right (c:=4294967296 ^ k) (show b≤a by omega)
     unfold dig at l
     omega
    refine Res.eq ?_ (by unfold z3v;rw[if_pos this])
    (repeat apply Fr.lays)
    exact Fr.refl _
   ·have l':decide ((dig a k:Int)<(dig b k:Int))=false:=df (by omega)
    simp only[z2k (H:=H11),T.j5v,p2,q1,q0a,z8t,lcd,ix16 _ _ h16,q1r _ h16,e',l',Bool.not_false]
    simp only[g112_2_is (H:=H11),T.g112_2,w_g112_2]
    have:b<a:=by
     apply Classical.byContradiction
     intro hn
     have:=Nat.div_le_div_right (c:=4294967296 ^ k) (show a≤b by omega)
     unfold dig at l e
     omega
    refine Res.eq ?_ (by unfold z3v;rw[if_neg (by omega),if_neg (by omega)])
    (repeat apply Fr.lays)
    exact Fr.refl _
theorem rcmp_is {a b:Nat} (ha:a<4294967296 ^ 16) (hb:b<4294967296 ^ 16) (m:Mem):Res m (run E11 (.fn 112) [.agg (D16 a),.agg (D16 b)] m) (.int .i64 (z3v a b)):=by
 have lp:=rcmp_loop a b m 16 (by omega) (by rw[Nat.div_eq_of_lt ha,Nat.div_eq_of_lt hb])
 simp only[f112_is (H:=H11) rfl,T.f112,q1h,w_f112,AV.cells,lcd]
 exact lp
end
section
set_option maxRecDepth 4000
open Go Go.Abs
theorem set_at (n i v:Nat) (hv:v<4294967296):∃N,N+dig n i*4294967296 ^ i=n+v*4294967296 ^ i∧(∀j,j<16→j≠i→dig n j=dig N j)∧dig N i=v:=by
 have hle:dig n i*4294967296 ^ i≤n:=by
  have h1:dig n i≤n / 4294967296 ^ i:=Nat.mod_le _ _
  exact Nat.le_trans (Nat.mul_le_mul_right _ h1) (Nat.div_mul_le_self _ _)
 obtain⟨n0,hn0⟩:∃n0,n=n0+dig n i*4294967296 ^ i:=⟨n-dig n i*4294967296 ^ i,by omega⟩
 have d0:dig n0 i=0:=by
  obtain⟨t,ht⟩:∃t,t=dig n i:=⟨_,rfl⟩
  have hq:n / 4294967296 ^ i=n0 / 4294967296 ^ i+t:=by
   rw[hn0,←ht,Nat.add_mul_div_right _ _ (z5p i)]
  have h1:t=(n0 / 4294967296 ^ i+t) % 4294967296:=by rw[←hq];exact ht
  have h2:=q4y n0 i
  have h3:=q4y n i
  unfold dig at h2⊢
  omega
 have s1:=q93 (n:=n0) (i:=i) (d:=dig n i) (by have:=q4y n i;omega)
 rw[←hn0]at s1
 have s2:=q93 (n:=n0) (i:=i) (d:=v) (by omega)
 refine⟨n0+v*4294967296 ^ i,by omega,fun j _ hj=>?_,?_⟩
 ·rw[s1 j,s2 j,if_neg hj,if_neg hj]
 ·rw[s2 i,if_pos rfl,d0,Nat.zero_add]
theorem rmul_inner (a b base:Nat) (m:Mem) {i:Nat} (hi:i<8):∀(d k c V:Nat),k+d=8→c<4294967296→V+c*4294967296 ^ (i+k)=base+dig a i*(b % 4294967296 ^ k)*4294967296 ^ i→
  ∃V' c',c'<4294967296∧V'+c'*4294967296 ^ (i+8)=base+dig a i*(b % 4294967296 ^ 8)*4294967296 ^ i∧
  D11.gor 626690 [.ptr (some ⟨m.next,0⟩),.ptr (some ⟨m.next+1,0⟩),.ptr (some ⟨m.next+1+1,0⟩),.ptr (some ⟨m.next+1+1+1,0⟩),.int .i64 (i:Int),.int .u64 (c:Int),.int .i64 (k:Int)]
   ((((m.lay (.cells (D16 a) false)).lay (.cells (D16 b) false)).lay (.cells (D16 0) false)).lay (.cells (D16 V) false)) =
  D11.gor 626693 [.ptr (some ⟨m.next,0⟩),.ptr (some ⟨m.next+1,0⟩),.ptr (some ⟨m.next+1+1,0⟩),.ptr (some ⟨m.next+1+1+1,0⟩),.int .i64 (i:Int)]
   ((((m.lay (.cells (D16 a) false)).lay (.cells (D16 b) false)).lay (.cells (D16 0) false)).lay (.cells (D16 V') false)):=by
 intro d
 induction d with
 |zero=>
  intro k c V hk hc hV
  have:k=8:=by omega
  subst this
  refine⟨V,c,hc,hV,?_⟩
  simp only[j0y (H:=H11),T.g153_2,p2,q0a,j8y,df (show ¬((8:Nat):Int)<8 by omega)]
 |succ d ih=>
  intro k c V hk hc hV
  have h16:i+k<16:=by omega
  have lt:=q4y V (i+k)
  have lm:=mul_lt_B (q4y a i) (q4y b k)
  obtain⟨X,hX⟩:∃X,X=dig a i*dig b k:=⟨_,rfl⟩
  rw[←hX]at lm
  obtain⟨s,hs⟩:∃s,s=dig V (i+k)+X+c:=⟨_,rfl⟩
  obtain⟨N,hN,o1,o2⟩:=set_at V (i+k) (s % 4294967296) (Nat.mod_lt _ (by omega))
  have inv:N+s / 4294967296*4294967296 ^ (i+(k+1))=base+dig a i*(b % 4294967296 ^ (k+1))*4294967296 ^ i:=by
   have e3:dig a i*(b % 4294967296 ^ k+dig b k*4294967296 ^ k)*4294967296 ^ i=dig a i*(b % 4294967296 ^ k)*4294967296 ^ i+X*4294967296 ^ (i+k):=by
    rw[Nat.mul_add,Nat.add_mul,hX,Nat.pow_add]
    simp only[Nat.mul_comm,Nat.mul_left_comm,Nat.mul_assoc]
   rw[show i+(k+1)=(i+k)+1 by omega,pow_add_one,q6u,e3]
   have e1:s*4294967296 ^ (i+k)=dig V (i+k)*4294967296 ^ (i+k)+X*4294967296 ^ (i+k)+c*4294967296 ^ (i+k):=by rw[hs,Nat.add_mul,Nat.add_mul]
   have e2:s*4294967296 ^ (i+k)=s % 4294967296*4294967296 ^ (i+k)+s / 4294967296*(4294967296 ^ (i+k)*4294967296):=by
    rw[show s / 4294967296*(4294967296 ^ (i+k)*4294967296)=(4294967296*(s / 4294967296))*4294967296 ^ (i+k) by simp only[Nat.mul_comm,Nat.mul_left_comm,Nat.mul_assoc],←Nat.add_mul,Nat.mod_add_div]
   omega
  have hw:IntKind.wrap .u64 (IntKind.wrap .u64 ((dig V (i+k):Int)+IntKind.wrap .u64 ((dig a i:Int)*(dig b k:Int)))+(c:Int))=((s:Nat):Int):=by
   rw[←Int.natCast_mul,←hX,q0o,q0o,q0o];omega
  have hik:IntKind.wrap .i64 ((i:Int)+(k:Int))=((i+k:Nat):Int):=by rw[wrap_i64 (by omega) (by omega)];omega
  have ov:over (D16 V) (i+k) (.int .u64 ((s % 4294967296:Nat):Int)) 1=some (D16 N):=q57 h16 o1 (by rw[o2])
  obtain⟨V',c',r1,r2,r3⟩:=ih (k+1) (s / 4294967296) N (by omega) (by omega) inv
  refine⟨V',c',r1,r2,?_⟩
  simp only[j0y (H:=H11),T.g153_2,p2,q0a,j8y,dt (show (k:Int)<8 by omega)]
  simp only[g153_3_is (H:=H11),T.g153_3,p2,q1,w_g153_3,lcd,hik,ix16 _ _ h16,ix16 _ _ (show i<16 by omega),ix16 _ _ (show k<16 by omega),q1r _ h16,q1r _ (show i<16 by omega),q1r _ (show k<16 by omega),hw,z08,q8o _ (show s<18446744073709551616 by omega),ov]
  simp only[g153_4_is (H:=H11),T.g153_4,p2,w_g153_4,show (k:Int)+1=((k+1:Nat):Int) by omega,wrap_i64 (n:=((k+1:Nat):Int)) (by omega) (by omega)]
  exact r3
theorem rmul_loop {a b:Nat} (ha:a<4294967296 ^ 8) (hb:b<4294967296 ^ 7) (m:Mem):∀(d i:Nat),i+d=8→
  Res m (D11.gor 626688 [.ptr (some ⟨m.next,0⟩),.ptr (some ⟨m.next+1,0⟩),.ptr (some ⟨m.next+1+1,0⟩),.ptr (some ⟨m.next+1+1+1,0⟩),.int .i64 (i:Int)]
   ((((m.lay (.cells (D16 a) false)).lay (.cells (D16 b) false)).lay (.cells (D16 0) false)).lay (.cells (D16 (a % 4294967296 ^ i*b)) false))) (.agg (D16 (a*b))):=by
 have hb8:b % 4294967296 ^ 8=b:=Nat.mod_eq_of_lt (Nat.lt_of_lt_of_le hb (Nat.pow_le_pow_right (by omega) (by omega)))
 intro d
 induction d with
 |zero=>
  intro i hi
  have:i=8:=by omega
  subst this
  simp only[j0x (H:=H11),T.g153_0,p2,q0a,j8x,df (show ¬((8:Nat):Int)<8 by omega)]
  simp only[g153_6_is (H:=H11),T.g153_6,q1,q1g,q1i,w_g153_6,Nat.reduceLeDiff,lcd,Nat.mod_eq_of_lt ha]
  refine Res.eq ?_ rfl
  (repeat apply Fr.lays)
  exact Fr.refl _
 |succ d ih=>
  intro i hi
  obtain⟨V',c',r1,r2,r3⟩:=rmul_inner a b (a % 4294967296 ^ i*b) m (show i<8 by omega) 8 0 0 (a % 4294967296 ^ i*b) rfl (by omega) (by rw[Nat.pow_zero,Nat.mod_one,Nat.mul_zero,Nat.zero_mul,Nat.zero_mul])
  have e:a % 4294967296 ^ i*b+dig a i*(b % 4294967296 ^ 8)*4294967296 ^ i=a % 4294967296 ^ (i+1)*b:=by
   rw[hb8,q6u,Nat.add_mul,Nat.mul_right_comm]
  rw[e]at r2
  have lt:a % 4294967296 ^ (i+1)*b<4294967296 ^ (i+8):=by
   have h1:a % 4294967296 ^ (i+1)<4294967296 ^ (i+1):=Nat.mod_lt _ (z5p _)
   have h2:4294967296 ^ (i+8)=4294967296 ^ (i+1)*4294967296 ^ 7:=by rw[←Nat.pow_add,show i+1+7=i+8 by omega]
   rw[h2]
   exact Nat.mul_lt_mul'' h1 hb
  have c0:c'=0:=by
   apply Classical.byContradiction
   intro h
   have:=Nat.mul_le_mul_right (4294967296 ^ (i+8)) (show 1≤c' by omega)
   rw[Nat.one_mul]at this
   omega
  subst c0
  rw[Nat.zero_mul,Nat.add_zero]at r2
  rw[r2]at r3
  simp only[j0x (H:=H11),T.g153_0,p2,q0a,j8x,dt (show (i:Int)<8 by omega)]
  simp only[g153_1_is (H:=H11),T.g153_1,w_g153_1]
  rw[show (0:Int)=((0:Nat):Int) from rfl,r3]
  simp only[g153_5_is (H:=H11),T.g153_5,p2,w_g153_5,show (i:Int)+1=((i+1:Nat):Int) by omega,wrap_i64 (n:=((i+1:Nat):Int)) (by omega) (by omega)]
  exact ih (i+1) (by omega)
theorem rmul_is {a b:Nat} (ha:a<4294967296 ^ 8) (hb:b<4294967296 ^ 7) (m:Mem):Res m (run E11 (.fn 153) [.agg (D16 a),.agg (D16 b)] m) (.agg (D16 (a*b))):=by
 have lp:=rmul_loop ha hb m 8 0 rfl
 rw[Nat.pow_zero,Nat.mod_one,Nat.zero_mul]at lp
 simp only[f153_is (H:=H11) rfl,T.f153,pB,q1h,w_f153,AV.cells,lcd,z16]
 exact lp
end
end Go.Proofs.YtlginbmjiecglaaGreatDoor
