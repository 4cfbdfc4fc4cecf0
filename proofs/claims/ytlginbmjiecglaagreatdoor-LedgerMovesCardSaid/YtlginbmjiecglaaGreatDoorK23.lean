/- Texts of one claim, put together. -/
import Derived.Test.YtlginbmjiecglaaGreatDoorK0
import Derived.Test.YtlginbmjiecglaaGreatDoorK19
import Derived.Test.YtlginbmjiecglaaGreatDoorK22
namespace Go.Proofs.YtlginbmjiecglaaGreatDoor
section
set_option maxRecDepth 4000
open Go Go.Abs
def S12:List FuncId:=[111,113,112,153]
noncomputable def H12:FuncId→Option (List AV→Mem→R):=q2w E11 S12
noncomputable abbrev E12:Env:=T.EH H12
theorem E12_ok:EnvOk E12:=q1k E11_ok S12
noncomputable abbrev D12:Do:=T.Rl H12
section
variable {H:FuncId→Option (List AV→Mem→R)}
theorem z8d (h:H 111=some (q0v E11 111)) (a b:Nat) (m:Mem):run (T.EH H) (.fn 111) [.agg (D16 a),.agg (D16 b)] m=some (.agg (D16 (a+b)),m):=
 q0s h (by simp[AV.flat,AV.lt,q7g]) fun m2 _ _=>radd_is a b m2
theorem j4h (h:H 113=some (q0v E11 113)) {a b:Nat} (hh:b≤a) (m:Mem):run (T.EH H) (.fn 113) [.agg (D16 a),.agg (D16 b)] m=some (.agg (D16 (a-b)),m):=
 q0s h (by simp[AV.flat,AV.lt,q7g]) fun m2 _ _=>rsub_is hh m2
theorem j4b (h:H 112=some (q0v E11 112)) {a b:Nat} (ha:a<4294967296 ^ 16) (hb:b<4294967296 ^ 16) (m:Mem):run (T.EH H) (.fn 112) [.agg (D16 a),.agg (D16 b)] m=some (.int .i64 (z3v a b),m):=
 q0s h (by simp[AV.flat,AV.lt]) fun m2 _ _=>rcmp_is ha hb m2
theorem rmul_at (h:H 153=some (q0v E11 153)) {a b:Nat} (ha:a<4294967296 ^ 8) (hb:b<4294967296 ^ 7) (m:Mem):run (T.EH H) (.fn 153) [.agg (D16 a),.agg (D16 b)] m=some (.agg (D16 (a*b)),m):=
 q0s h (by simp[AV.flat,AV.lt,q7g]) fun m2 _ _=>rmul_is ha hb m2
end
theorem j3z (b o:Nat):ixA 1 16 ⟨b,o⟩ 0=some (.ptr (some ⟨b,o⟩)):=by simp[ixA]
theorem bd121:q4f Tryz.prog 121 []=some (.agg (D16 0)):=by rw[←z16];kernel_rfl
theorem part26 (cs:List AV) (i:Nat):z8c Tryz.prog 26 cs i=cs[i]?:=by kernel_rfl
theorem eq26 (x y:Int):eqA Tryz.prog 49 26 (.int .u64 x) (.int .u64 y)=some (x==y):=by kernel_rfl
theorem dig_elems {a b:Nat} (ha:a<4294967296 ^ 16) (hb:b<4294967296 ^ 16):∀(k i:Nat),i+k=16→q6v Tryz.prog (eqA Tryz.prog 49) 26 1 (D16 a) (D16 b) k i=some (decide (a / 4294967296 ^ i=b / 4294967296 ^ i)):=by
 intro k
 induction k with
 |zero=>
  intro i hi
  have:i=16:=by omega
  subst this
  rw[Nat.div_eq_of_lt ha,Nat.div_eq_of_lt hb]
  rfl
 |succ k ih=>
  intro i hi
  have h16:i<16:=by omega
  unfold q6v
  rw[part26,part26,Nat.mul_one,q1r _ h16,q1r _ h16]
  simp only[eq26]
  have hr:=ih (i+1) (by omega)
  rw[q38,q38]at hr
  by_cases e:dig a i=dig b i
  ·have e2:((dig a i:Int)==(dig b i:Int))=true:=by rw[e];exact beq_self_eq_true _
   rw[e2]
   simp only
   rw[hr]
   congr 1
   apply decide_eq_decide.mpr
   unfold dig at e
   omega
  ·have e2:((dig a i:Int)==(dig b i:Int))=false:=by
    apply beq_eq_false_iff_ne.mpr;omega
   rw[e2]
   simp only
   rw[df]
   intro h
   exact e (by unfold dig;rw[h])
theorem dig_eql {a b:Nat} (ha:a<4294967296 ^ 16) (hb:b<4294967296 ^ 16):q1e Tryz.prog .eql 121 (.agg (D16 a)) (.agg (D16 b))=some (.bool (decide (a=b))):=by
 have h:∀xs ys:List AV,q1e Tryz.prog .eql 121 (.agg xs) (.agg ys)=(match q6v Tryz.prog (eqA Tryz.prog 49) 26 1 xs ys 16 0 with|some b=>some (.bool b)|none=>none):=fun xs ys=>by kernel_rfl
 rw[h,dig_elems ha hb 16 0 rfl,Nat.pow_zero,Nat.div_one,Nat.div_one]
theorem rzero_is {a:Nat} (ha:a<4294967296 ^ 16) (m:Mem):Res m (run E12 (.fn 70) [.agg (D16 a)] m) (.bool (decide (a=0))):=by
 simp only[f70_is (H:=H12) rfl,T.f70,q1,p1,p2,AV.cells,Nat.reduceLeDiff,q1h,w_f70,lcd,bd121,dig_eql ha (z5p 16)]
 refine Res.eq ?_ rfl
 (repeat apply Fr.lays)
 exact Fr.refl _
theorem q9r {k:Nat} (hk:k≤60):10 ^ k<4294967296 ^ 7:=Nat.lt_of_le_of_lt (Nat.pow_le_pow_right (by omega) hk) (by decide)
theorem rten_loop {k:Nat} (hk:k≤60) (m:Mem):∀(d i:Nat),i+d=k→
  Res m (D12.gor 618496 [.int .i64 (k:Int),.ptr (some ⟨m.next,0⟩),.ptr (some ⟨m.next+1,0⟩),.ptr (some ⟨m.next+1+1,0⟩),.int .i64 (i:Int)]
   (((m.lay (.cells (D16 0) false)).lay (.cells (D16 (10 ^ i)) false)).lay (.cells (D16 10) false))) (.agg (D16 (10 ^ k))):=by
 intro d
 induction d with
 |zero=>
  intro i hi
  have:i=k:=by omega
  subst this
  simp only[j0t (H:=H12),T.g151_0,p2,q0a,j8t,df (show ¬(i:Int)<(i:Int) by omega)]
  simp only[g151_3_is (H:=H12),T.g151_3,q1,q1g,q1i,w_g151_3,Nat.reduceLeDiff,lcd]
  refine Res.eq ?_ rfl
  (repeat apply Fr.lays)
  exact Fr.refl _
 |succ d ih=>
  intro i hi
  have mu:=fun m=>rmul_at (H:=H12) rfl (a:=10 ^ i) (b:=10) (Nat.lt_trans (q9r (by omega)) (by decide)) (by decide) m
  rw[←Nat.pow_succ]at mu
  simp only[j0t (H:=H12),T.g151_0,p2,q0a,j8t,dt (show (i:Int)<(k:Int) by omega)]
  simp only[g151_1_is (H:=H12),T.g151_1,q1,w_g151_1,Nat.reduceLeDiff,lcd,mu]
  simp only[g151_2_is (H:=H12),T.g151_2,p2,w_g151_2,show (i:Int)+1=((i+1:Nat):Int) by omega,wrap_i64 (n:=((i+1:Nat):Int)) (by omega) (by omega)]
  exact ih (i+1) (by omega)
theorem z18 {n:Nat} (h:n<4294967296):∀j,dig n j=if j=0 then n else 0:=by
 intro j
 have:=q93 (n:=0) (i:=0) (d:=n) (by unfold dig;simpa using h) j
 rw[Nat.pow_zero,Nat.mul_one,Nat.zero_add]at this
 rw[this]
 have z:dig 0 j=0:=by unfold dig;rw[Nat.zero_div]
 rw[z,Nat.zero_add]
theorem z3i {n:Nat} (h:n<4294967296):over (D16 0) 0 (.int .u64 (n:Int)) 1=some (D16 n):=
 q57 (by omega) (fun j _ hj=>by rw[z18 h,if_neg hj,z18 (by omega),if_neg hj]) (by rw[z18 h,if_pos rfl])
theorem rten_is {k:Nat} (hk:k≤60) (m:Mem):Res m (run E12 (.fn 151) [.int .i64 (k:Int)] m) (.agg (D16 (10 ^ k))):=by
 have lp:=rten_loop hk m k 0 (by omega)
 rw[Nat.pow_zero]at lp
 have s1:over (D16 0) 0 (.int .u64 1) 1=some (D16 1):=z3i (n:=1) (by omega)
 have s10:over (D16 0) 0 (.int .u64 10) 1=some (D16 10):=z3i (n:=10) (by omega)
 simp only[f151_is (H:=H12) rfl,T.f151,pB,p2,w_f151,lcd,z16,j3z,s1,s10]
 exact lp
theorem rdiv_loop {a b:Nat} (ha:a<4294967296 ^ 16) (hb:b<4294967296 ^ 16) (hb0:0<b) (m:Mem):∀(k:Nat),k≤512→
  Res m (D12.gor 622592 [.ptr (some ⟨m.next,0⟩),.ptr (some ⟨m.next+1,0⟩),.ptr (some ⟨m.next+1+1,0⟩),.ptr (some ⟨m.next+1+1+1,0⟩),.int .i64 ((k:Int)-1)]
   ((((m.lay (.cells (D16 a) false)).lay (.cells (D16 b) false)).lay (.cells (D16 (a / 2 ^ k / b*2 ^ k)) false)).lay (.cells (D16 (a / 2 ^ k % b)) false))) (.tup [.agg (D16 (a / b)),.agg (D16 (a % b))]):=by
 intro k
 induction k with
 |zero=>
  intro _
  rw[Nat.pow_zero,Nat.div_one,Nat.mul_one]
  simp only[j0u (H:=H12),T.g152_0,p2,q0a,j8u,df (show ¬((0:Nat):Int)-1≥0 by omega)]
  simp only[g152_3_is (H:=H12),T.g152_3,q1,q1g,q1i,w_g152_3,Nat.reduceLeDiff,lcd]
  refine Res.eq ?_ rfl
  (repeat apply Fr.lays)
  exact Fr.refl _
 |succ i ih=>
  intro hi
  have hx:=half_bit a i
  obtain⟨bit,hbit⟩:∃bit,bit=a / 2 ^ i % 2:=⟨_,rfl⟩
  have hb1:bit≤1:=by omega
  rw[←hbit]at hx
  obtain⟨x,hxx⟩:∃x,x=a / 2 ^ (i+1):=⟨_,rfl⟩
  rw[←hxx]at hx⊢
  obtain⟨d1,d2⟩:=div_bit (x:=x) (bit:=bit) hb0
  rw[←hx]at d1 d2
  have hxa:a / 2 ^ i≤a:=Nat.div_le_self _ _
  have hr:x % b≤x:=Nat.mod_le _ _
  have hrb:x % b<b:=Nat.mod_lt _ hb0
  obtain⟨r,hr'⟩:∃r,r=x % b:=⟨_,rfl⟩
  rw[←hr']at d1 d2 hr hrb⊢
  have h16:i / 32<16:=by omega
  have h32:i % 32<32:=by omega
  have ad:=fun m=>z8d (H:=H12) rfl r r m
  have cm:=fun m=>j4b (H:=H12) rfl (a:=2*r+bit) (b:=b) (by omega) hb m
  have hj:IntKind.wrap .i64 ((i:Int).tdiv 32)=((i / 32:Nat):Int):=by rw[Int.tdiv_eq_ediv_of_nonneg (by omega),wrap_i64 (by omega) (by omega)];omega
  have hs:((IntKind.wrap .u64 (i:Int)).tmod 32)=((i % 32:Nat):Int):=by rw[wrap_u64 (by omega) (by omega),Int.tmod_eq_emod_of_nonneg (by omega)];omega
  have hbt:((dig a (i / 32) / 2 ^ (i % 32):Nat):Int).tmod 2=(bit:Int):=by
   rw[Int.tmod_eq_emod_of_nonneg (Int.natCast_nonneg _),show (2:Int)=((2:Nat):Int) from rfl,←Int.natCast_emod,bit_dig,←hbit]
  have ev:dig (r+r) 0 % 2=0:=by unfold dig;rw[Nat.pow_zero,Nat.div_one];omega
  have dl:=q4y (r+r) 0
  have da:=q93 (n:=r+r) (i:=0) (d:=bit) (by omega)
  rw[Nat.pow_zero,Nat.mul_one,show r+r+bit=2*r+bit by omega]at da
  have hw:IntKind.wrap .u64 ((dig (r+r) 0:Int)+(bit:Int))=((dig (2*r+bit) 0:Nat):Int):=by
   rw[da 0,if_pos rfl,q0o];omega
  have ov:over (D16 (r+r)) 0 (.int .u64 ((dig (2*r+bit) 0:Nat):Int)) 1=some (D16 (2*r+bit)):=
   q57 (by omega) (fun j _ hj=>by rw[da j,if_neg hj,Nat.add_zero]) rfl
  simp only[show ((i+1:Nat):Int)-1=(i:Int) by omega]
  simp only[j0u (H:=H12),T.g152_0,p2,q0a,j8u,dt (show (i:Int)≥0 by omega)]
  have z2:(2:Int)≠0:=by omega
  have z32:(32:Int)≠0:=by omega
  by_cases hge:b≤2*r+bit
  ·have hc:decide (z3v (2*r+bit) b≥0)=true:=by unfold z3v;rw[if_neg (by omega)];split<;>decide
   have sb:=fun m=>j4h (H:=H12) rfl hge m
   have room:=bit_room (x / b) i
   have dq:=q93 (n:=x / b*2 ^ (i+1)) (i:=i / 32) (d:=2 ^ (i % 32)) room
   rw[←j1t]at dq
   have hq:x / b*2 ^ (i+1)+2 ^ i=a / 2 ^ i / b*2 ^ i:=by
    rw[(d1 hge hb1).1,Nat.pow_succ,Nat.add_mul,Nat.one_mul,Nat.mul_comm (2 ^ i) 2,←Nat.mul_assoc,Nat.mul_comm (x / b) 2]
   have hrr:2*r+bit-b=a / 2 ^ i % b:=(d1 hge hb1).2.symm
   rw[hq]at dq
   have hw2:IntKind.wrap .u64 ((dig (x / b*2 ^ (i+1)) (i / 32):Int)+((2 ^ (i % 32):Nat):Int))=((dig (a / 2 ^ i / b*2 ^ i) (i / 32):Nat):Int):=by
    rw[dq (i / 32),if_pos rfl,q0o]
    obtain⟨w,hw⟩:∃w,w=2 ^ (i % 32):=⟨_,rfl⟩
    rw[←hw]at room⊢
    omega
   have ov2:over (D16 (x / b*2 ^ (i+1))) (i / 32) (.int .u64 ((dig (a / 2 ^ i / b*2 ^ i) (i / 32):Nat):Int)) 1=some (D16 (a / 2 ^ i / b*2 ^ i)):=
    q57 h16 (fun j _ hj=>by rw[dq j,if_neg hj];exact(Nat.add_zero _).symm) rfl
   simp only[j0v (H:=H12),T.g152_1,q1,p2,p1,q0a,j8v,Nat.reduceLeDiff,lcd,ad,q5y _ _ _ _ z32,q34 _ _ _ _ z32,q34 _ _ _ _ z2,hj,hs,j3z,ix16 _ _ h16,q1r _ h16,q1r _ (show 0<16 by omega),z9r _ (q4y _ _) h32,bin_shl_n _ h32,hbt,hw,ov,cm,hc,sb,hw2,ov2]
   simp only[j0w (H:=H12),T.g152_2,p2,j8w,wrap_i64 (n:=(i:Int)-1) (by omega) (by omega)]
   rw[hrr]
   exact ih (by omega)
  ·have hc:decide (z3v (2*r+bit) b≥0)=false:=by unfold z3v;rw[if_pos (by omega)];decide
   have hq:x / b*2 ^ (i+1)=a / 2 ^ i / b*2 ^ i:=by
    rw[(d2 (by omega)).1,Nat.pow_succ,Nat.mul_comm (2 ^ i) 2,←Nat.mul_assoc,Nat.mul_comm (x / b) 2]
   have hrr:2*r+bit=a / 2 ^ i % b:=(d2 (by omega)).2.symm
   simp only[j0v (H:=H12),T.g152_1,q1,p2,p1,q0a,j8v,Nat.reduceLeDiff,lcd,ad,q5y _ _ _ _ z32,q34 _ _ _ _ z32,q34 _ _ _ _ z2,hj,hs,j3z,ix16 _ _ h16,q1r _ h16,q1r _ (show 0<16 by omega),z9r _ (q4y _ _) h32,hbt,hw,ov,cm,hc]
   simp only[j0w (H:=H12),T.g152_2,p2,j8w,wrap_i64 (n:=(i:Int)-1) (by omega) (by omega)]
   rw[hrr,hq]
   exact ih (by omega)
theorem two_pow32 (n:Nat):2 ^ (32*n)=4294967296 ^ n:=by rw[Nat.pow_mul,show (2:Nat) ^ 32=4294967296 from rfl]
theorem rdiv_is {a b:Nat} (ha:a<4294967296 ^ 16) (hb:b<4294967296 ^ 16) (hb0:0<b) (m:Mem):Res m (run E12 (.fn 152) [.agg (D16 a),.agg (D16 b)] m) (.tup [.agg (D16 (a / b)),.agg (D16 (a % b))]):=by
 obtain⟨n,hn⟩:∃n,n=16:=⟨_,rfl⟩
 have lp:=rdiv_loop ha hb hb0 m (32*n) (by omega)
 have e:a / 2 ^ (32*n)=0:=by rw[two_pow32,hn];exact Nat.div_eq_of_lt ha
 have hi:((32*n:Nat):Int)-1=511:=by omega
 rw[hi]at lp
 rw[e,Nat.zero_div,Nat.zero_mul,Nat.zero_mod]at lp
 simp only[f152_is (H:=H12) rfl,T.f152,pB,q1h,w_f152,AV.cells,lcd,z16]
 exact lp
end
section
set_option maxRecDepth 4000
open Go Go.Abs
theorem j4f (neg:Bool) {h l:Nat} (hh:h<18446744073709551616) (hl:l<18446744073709551616) (m:Mem) (cs:List AV) :
  Res m (D12.gor 278528 [.ptr (some ⟨m.next+1,0⟩),.int .u64 (h:Int),.int .u64 (l:Int),.bool neg] ((m.lay (.cells cs false)).lay (.cells (.bool false::D16 0) false))) (.agg (.bool neg::D16 (l+h*18446744073709551616))):=by
 have s0:=q7v (.bool neg) (n:=0) (i:=0) (d:=l % 4294967296) (by omega) (z5p 0) (by omega)
 have s1:=q7v (.bool neg) (n:=l % 4294967296) (i:=1) (d:=l / 4294967296) (by omega) (by omega) (by omega)
 have s2:=q7v (.bool neg) (n:=l) (i:=2) (d:=h % 4294967296) (by omega) (by omega) (by omega)
 have s3:=q7v (.bool neg) (n:=l+h % 4294967296*18446744073709551616) (i:=3) (d:=h / 4294967296) (by omega) (by omega) (by omega)
 rw[Nat.pow_zero,Nat.mul_one,Nat.zero_add]at s0
 rw[Nat.pow_one,show l % 4294967296+l / 4294967296*4294967296=l by omega]at s1
 rw[show l+h % 4294967296*4294967296 ^ 2=l+h % 4294967296*18446744073709551616 by omega]at s2
 rw[show l+h % 4294967296*18446744073709551616+h / 4294967296*4294967296 ^ 3=l+h*18446744073709551616 by omega]at s3
 simp only[Nat.reduceAdd,Nat.zero_add]at s0 s1 s2 s3
 simp only[g68_0_is (H:=H12),T.g68_0,p1,pB,p2,q1,q0r,AV.cells,Nat.reduceAdd,Nat.reduceLeDiff,q1g,q1i,w_g68_0,lcd,z16,z08,q8o _ hh,q8o _ hl,ix17_0,ix17_1,ix17_2,ix17_3,s0,s1,s2,s3]
 refine Res.eq ?_ rfl
 (repeat apply Fr.lays)
 exact Fr.refl _
theorem rof_is {a:Wd} (ha:a.ok) (m:Mem):Res m (run E12 (.fn 68) [.agg a.cells] m) (.agg (q4d a.val)):=by
 obtain⟨ah,al⟩:=a
 obtain⟨a1,a2,a3,a4⟩:=ha
 simp only at a1 a2 a3 a4
 unfold q4d Wd.val
 simp only[Wd.cells]
 by_cases hn:ah<0
 ·have n1:(-(1+ah):Int)=((-(1+ah)).toNat:Int):=by omega
  rw[dt (show ah*18446744073709551616+al<0 by omega)]
  by_cases hz:al=0
  ·have fin:=j4f true (h:=(-ah).toNat) (l:=0) (by omega) (by omega) m [.int .i64 ah,.int .u64 al]
   rw[show 0+(-ah).toNat*18446744073709551616=(ah*18446744073709551616+al).natAbs by omega]at fin
   have w1:18446744073709551615-IntKind.wrap .u64 ah=-ah-1:=by rw[q0o];omega
   have w2:IntKind.wrap .u64 (-ah-1+1)=(((-ah).toNat:Nat):Int):=by rw[q0o];omega
   have w3:IntKind.wrap .u64 (18446744073709551615-al+1)=((0:Nat):Int):=by rw[q0o];omega
   have w0:=q0o ah
   simp only[f68_is (H:=H12) rfl,T.f68,pB,p1,q1,p2,q1h,q0a,w_f68,AV.one,AV.cells,lcd,z16,dt hn,q7a (x:=IntKind.wrap .u64 ah) (by rw[w0];omega) (by rw[w0];omega),q7a a3 a4,w1,w2,w3,dt (show ((0:Nat):Int)=0 from rfl)]
   exact fin
  ·have fin:=j4f true (h:=(-ah-1).toNat) (l:=(18446744073709551616-al).toNat) (by omega) (by omega) m [.int .i64 ah,.int .u64 al]
   rw[show (18446744073709551616-al).toNat+(-ah-1).toNat*18446744073709551616=(ah*18446744073709551616+al).natAbs by omega]at fin
   have w1:18446744073709551615-IntKind.wrap .u64 ah=(((-ah-1).toNat:Nat):Int):=by rw[q0o];omega
   have w3:IntKind.wrap .u64 (18446744073709551615-al+1)=(((18446744073709551616-al).toNat:Nat):Int):=by rw[q0o];omega
   have w0:=q0o ah
   simp only[f68_is (H:=H12) rfl,T.f68,pB,p1,q1,p2,q1h,q0a,w_f68,AV.one,AV.cells,lcd,z16,dt hn,q7a (x:=IntKind.wrap .u64 ah) (by rw[w0];omega) (by rw[w0];omega),q7a a3 a4,w1,w3,df (show ¬(((18446744073709551616-al).toNat:Nat):Int)=0 by omega)]
   exact fin
 ·rw[df (show ¬ah*18446744073709551616+al<0 by omega)]
  have fin:=j4f false (h:=ah.toNat) (l:=al.toNat) (by omega) (by omega) m [.int .i64 ah,.int .u64 al]
  rw[show al.toNat+ah.toNat*18446744073709551616=(ah*18446744073709551616+al).natAbs by omega,show ((ah.toNat:Nat):Int)=ah by omega,show ((al.toNat:Nat):Int)=al by omega]at fin
  have w1:IntKind.wrap .u64 ah=ah:=wrap_u64 (by omega) (by omega)
  simp only[f68_is (H:=H12) rfl,T.f68,pB,p1,q1,p2,q1h,q0a,w_f68,AV.one,AV.cells,lcd,z16,df hn,w1]
  exact fin
theorem rwide_loop {n:Nat} (hn:n<4294967296 ^ 16) (neg:Bool) (m:Mem):∀(d i:Nat),i+d=16→4≤i→n % 4294967296 ^ i=n % 4294967296 ^ 4→
  (n<4294967296 ^ 4→D12.gor 552960 [.ptr (some ⟨m.next,0⟩),.ptr (some ⟨m.next+1,0⟩),.int .i64 (i:Int)] ((m.lay (.cells (.bool neg::D16 n) false)).lay (.cells [.int .i64 0,.int .u64 0] false)) =
   D12.gor 552963 [.ptr (some ⟨m.next,0⟩),.ptr (some ⟨m.next+1,0⟩)] ((m.lay (.cells (.bool neg::D16 n) false)).lay (.cells [.int .i64 0,.int .u64 0] false)))∧
  (¬n<4294967296 ^ 4→Res m (D12.gor 552960 [.ptr (some ⟨m.next,0⟩),.ptr (some ⟨m.next+1,0⟩),.int .i64 (i:Int)] ((m.lay (.cells (.bool neg::D16 n) false)).lay (.cells [.int .i64 0,.int .u64 0] false))) (.tup [.agg [.int .i64 0,.int .u64 0],.bool false])):=by
 intro d
 induction d with
 |zero=>
  intro i hi _ h
  have:i=16:=by omega
  subst this
  rw[Nat.mod_eq_of_lt hn]at h
  have hlt:n<4294967296 ^ 4:=by rw[h];exact Nat.mod_lt _ (z5p 4)
  refine⟨fun _=>?_,fun x=>absurd hlt x⟩
  simp only[q8z (H:=H12),T.j0l,p2,q0a,z1t,df (show ¬((16:Nat):Int)<16 by omega)]
 |succ d ih=>
  intro i hi h4 h
  have h16:i<16:=by omega
  by_cases e:dig n i=0
  ·have e':decide (((dig n i:Nat):Int)=0)=true:=dt (by omega)
   obtain⟨i1,i2⟩:=ih (i+1) (by omega) (by omega) (by rw[q6u,e,Nat.zero_mul,Nat.add_zero,h])
   constructor
   ·intro hlt
    rw[←i1 hlt]
    rw[show D12.gor 552960 [.ptr (some ⟨m.next,0⟩),.ptr (some ⟨m.next+1,0⟩),.int .i64 ((i+1:Nat):Int)] ((m.lay (.cells (.bool neg::D16 n) false)).lay (.cells [.int .i64 0,.int .u64 0] false))=D12.gor 552962 [.ptr (some ⟨m.next,0⟩),.ptr (some ⟨m.next+1,0⟩),.int .i64 (i:Int)] ((m.lay (.cells (.bool neg::D16 n) false)).lay (.cells [.int .i64 0,.int .u64 0] false)) by
     simp only[j0m (H:=H12),T.g135_2,p2,j8o,show (i:Int)+1=((i+1:Nat):Int) by omega,wrap_i64 (n:=((i+1:Nat):Int)) (by omega) (by omega)]]
    simp only[q8z (H:=H12),T.j0l,p2,q0a,z1t,dt (show (i:Int)<16 by omega)]
    simp only[z2l (H:=H12),T.j5y,p1,p2,q1,q0r,q0a,q1g,q1i,z8u,lcd,ix17 _ h16,q1r _ h16,e',Bool.not_true]
   ·intro hlt
    simp only[q8z (H:=H12),T.j0l,p2,q0a,z1t,dt (show (i:Int)<16 by omega)]
    simp only[z2l (H:=H12),T.j5y,p1,p2,q1,q0r,q0a,q1g,q1i,z8u,lcd,ix17 _ h16,q1r _ h16,e',Bool.not_true]
    simp only[j0m (H:=H12),T.g135_2,p2,j8o,show (i:Int)+1=((i+1:Nat):Int) by omega,wrap_i64 (n:=((i+1:Nat):Int)) (by omega) (by omega)]
    exact i2 hlt
  ·have e':decide (((dig n i:Nat):Int)=0)=false:=df (by omega)
   constructor
   ·intro hlt
    exact absurd (dig_top (Nat.lt_of_lt_of_le hlt (Nat.pow_le_pow_right (by omega) h4))) e
   ·intro _
    simp only[q8z (H:=H12),T.j0l,p2,q0a,z1t,dt (show (i:Int)<16 by omega)]
    simp only[z2l (H:=H12),T.j5y,p1,p2,q1,q0r,AV.cells,Nat.reduceAdd,Nat.reduceLeDiff,q0a,q1g,q1i,z8u,AV.one,over,lcl,ix17 _ h16,q1r _ h16,e',Bool.not_false]
    refine Res.eq ?_ rfl
    (repeat apply Fr.lays)
    exact Fr.refl _
theorem shl32 {x:Nat} (h:x<4294967296):q1e Tryz.prog .shl 26 (.int .u64 (x:Int)) (.int .u64 32)=some (.int .u64 ((x*4294967296:Nat):Int)):=by
 rw[show (32:Int)=((32:Nat):Int) from rfl,z6a 26 32 (by omega)]
 congr 2
 have:((x:Int)*2 ^ 32)=(x:Int)*4294967296:=rfl
 rw[this];omega
theorem rwide_is {x:Int} (hx:x.natAbs<4294967296 ^ 16) (m:Mem):Res m (run E12 (.fn 135) [.agg (q4d x)] m) (.tup [.agg (q7f x).1.cells,.bool (q7f x).2]):=by
 obtain⟨l1,l2⟩:=rwide_loop hx (decide (x<0)) m 12 4 rfl (by omega) rfl
 obtain⟨n,hn⟩:∃n,n=x.natAbs:=⟨_,rfl⟩
 simp only[q4d,f135_is (H:=H12) rfl,T.f135,pB,q1h,w_f135,Wd.cells,AV.one,AV.cells,lcd]
 rw[←hn]at l1 l2⊢
 rw[show (4:Int)=((4:Nat):Int) from rfl]
 by_cases hlt:n<4294967296 ^ 4
 ·rw[l1 hlt]
  obtain⟨lo,hlo⟩:∃lo,lo=n % 18446744073709551616:=⟨_,rfl⟩
  obtain⟨hi,hhi⟩:∃hi,hi=n / 18446744073709551616:=⟨_,rfl⟩
  have d0:=dig0 n
  have d1:=dig1 n
  have d2:=dig2 n
  have d3:=dig3 n
  have lt1:=q4y n 1
  have lt3:=q4y n 3
  have w1:IntKind.wrap .u64 ((dig n 0:Int)+((dig n 1*4294967296:Nat):Int))=(lo:Int):=by rw[q0o];omega
  have w2:IntKind.wrap .u64 ((dig n 2:Int)+((dig n 3*4294967296:Nat):Int))=(hi:Int):=by rw[q0o];omega
  have hlo2:lo<18446744073709551616:=by omega
  have hhi2:hi<18446744073709551616:=by omega
  by_cases hneg:x<0
  ·rw[dt hneg]
   simp only[j0n (H:=H12),T.g135_3,p1,p2,q1,q0r,AV.cells,Nat.reduceAdd,q0a,unA,q1g,q1i,j8p,lcd,ix17_0,ix17_1,ix17_2,ix17_3,q1r _ (show 0<16 by omega),q1r _ (show 1<16 by omega),q1r _ (show 2<16 by omega),q1r _ (show 3<16 by omega),shl32 lt1,shl32 lt3,w1,w2,Bool.not_true]
   by_cases g1:9223372036854775808<hi
   ·have hf:q1c x=false:=q2m (by omega)
    simp only[q80 (H:=H12),T.j0o,p2,p1,q0r,AV.cells,Nat.reduceAdd,Nat.reduceLeDiff,q0a,ifV,q1g,q1i,z1u,AV.one,over,lcl,dt (show (9223372036854775808:Int)<(hi:Int) by omega)]
    refine Res.eq ?_ (by unfold q7f;rw[if_neg (by rw[hf];decide),if_neg (by omega)])
    (repeat apply Fr.lays)
    exact Fr.refl _
   ·have main:q1c x=true→Res m (D12.gor 552965 [.ptr (some ⟨m.next+1,0⟩),.int .u64 (lo:Int),.int .u64 (hi:Int)] ((m.lay (.cells (.bool true::D16 n) false)).lay (.cells [.int .i64 0,.int .u64 0] false))) (.tup [.agg (q7f x).1.cells,.bool (q7f x).2]):=by
     intro hf
     have hv:q7f x=(Wd.of x,true):=by unfold q7f;rw[if_pos hf]
     rw[hv]
     unfold q1c at hf
     simp only[Bool.and_eq_true,decide_eq_true_eq]at hf
     by_cases g2:lo=0
     ·have u1:IntKind.wrap .u64 (18446744073709551615-(lo:Int)+1)=0:=by rw[q0o];omega
      have u2:IntKind.wrap .i64 (IntKind.wrap .u64 (18446744073709551615-(hi:Int)+1))=(Wd.of x).hi:=by rw[q37,q0o];unfold Wd.of;simp only;omega
      simp only[j0p (H:=H12),T.g135_5,p1,p2,q0a,j8q,q7a (x:=(lo:Int)) (by omega) (by omega),q7a (x:=(hi:Int)) (by omega) (by omega),u1,decide_true]
      simp only[j0q (H:=H12),T.g135_6,p1,q0r,AV.cells,Nat.reduceAdd,Nat.reduceLeDiff,q1g,q1i,j8r,Wd.cells,AV.one,over,lcl,u2]
      refine Res.eq ?_ (by unfold Wd.of;simp only[AV.tup.injEq,List.cons.injEq,AV.agg.injEq,AV.int.injEq,true_and,and_true];omega)
      (repeat apply Fr.lays)
      exact Fr.refl _
     ·have u1:IntKind.wrap .u64 (18446744073709551615-(lo:Int)+1)=(Wd.of x).lo:=by rw[q0o];unfold Wd.of;simp only;omega
      have u2:IntKind.wrap .i64 (18446744073709551615-(hi:Int))=(Wd.of x).hi:=by rw[q37];unfold Wd.of;simp only;omega
      simp only[j0p (H:=H12),T.g135_5,p1,p2,q0a,j8q,q7a (x:=(lo:Int)) (by omega) (by omega),q7a (x:=(hi:Int)) (by omega) (by omega),u1,df (show ¬(Wd.of x).lo=0 by unfold Wd.of;simp only;omega)]
      simp only[j0q (H:=H12),T.g135_6,p1,q0r,AV.cells,Nat.reduceAdd,Nat.reduceLeDiff,q1g,q1i,j8r,Wd.cells,AV.one,over,lcl,u2]
      refine Res.eq ?_ rfl
      (repeat apply Fr.lays)
      exact Fr.refl _
    by_cases g3:hi=9223372036854775808
    ·by_cases g4:0<lo
     ·have hf:q1c x=false:=q2m (by omega)
      simp only[q80 (H:=H12),T.j0o,p2,p1,q0r,AV.cells,Nat.reduceAdd,Nat.reduceLeDiff,q0a,ifV,q1g,q1i,z1u,AV.one,over,lcl,df (show ¬(9223372036854775808:Int)<(hi:Int) by omega),dt (show (hi:Int)=9223372036854775808 by omega),dt (show (0:Int)<(lo:Int) by omega)]
      refine Res.eq ?_ (by unfold q7f;rw[if_neg (by rw[hf];decide),if_neg (by omega)])
      (repeat apply Fr.lays)
      exact Fr.refl _
     ·simp only[q80 (H:=H12),T.j0o,p2,p1,q0r,AV.cells,Nat.reduceAdd,Nat.reduceLeDiff,q0a,ifV,q1g,q1i,z1u,AV.one,over,lcl,df (show ¬(9223372036854775808:Int)<(hi:Int) by omega),dt (show (hi:Int)=9223372036854775808 by omega),df (show ¬(0:Int)<(lo:Int) by omega)]
      exact main (q1j (by omega) (by omega))
    ·simp only[q80 (H:=H12),T.j0o,p2,p1,q0r,AV.cells,Nat.reduceAdd,Nat.reduceLeDiff,q0a,ifV,q1g,q1i,z1u,AV.one,over,lcl,df (show ¬(9223372036854775808:Int)<(hi:Int) by omega),df (show ¬(hi:Int)=9223372036854775808 by omega)]
     exact main (q1j (by omega) (by omega))
  ·rw[df hneg]
   simp only[j0n (H:=H12),T.g135_3,p1,p2,q1,q0r,AV.cells,Nat.reduceAdd,Nat.reduceLeDiff,q0a,unA,q1g,q1i,j8p,AV.one,over,lcl,q29,ix17_0,ix17_1,ix17_2,ix17_3,q1r _ (show 0<16 by omega),q1r _ (show 1<16 by omega),q1r _ (show 2<16 by omega),q1r _ (show 3<16 by omega),shl32 lt1,shl32 lt3,w1,w2,Bool.not_false]
   refine Res.eq (?_:Fr _ _ _) ?_
   ·(repeat apply Fr.lays)
    exact Fr.refl _
   ·unfold q7f
    by_cases g:hi<9223372036854775808
    ·have hf:q1c x=true:=q1j (by omega) (by omega)
     rw[if_pos hf,dt (show (hi:Int)<9223372036854775808 by omega),wrap_i64 (by omega) (by omega)]
     unfold Wd.of
     simp only[AV.tup.injEq,List.cons.injEq,AV.agg.injEq,AV.int.injEq,true_and,and_true]
     omega
    ·have hf:q1c x=false:=q2m (by omega)
     rw[if_neg (by rw[hf];decide),if_pos (by omega),df (show ¬(hi:Int)<9223372036854775808 by omega),q37]
     simp only[AV.tup.injEq,List.cons.injEq,AV.agg.injEq,AV.int.injEq,true_and,and_true]
     omega
 ·have hf:q1c x=false:=q2m (by omega)
  have hv:q7f x=(⟨0,0⟩,false):=by unfold q7f;rw[if_neg (by rw[hf];decide),if_neg (by omega)]
  rw[hv]
  exact l2 hlt
end
section
set_option maxRecDepth 4000
open Go Go.Abs
def S13:List FuncId:=[152,151,70,68,135]
noncomputable def H13:FuncId→Option (List AV→Mem→R):=q2w E12 S13
noncomputable abbrev E13:Env:=T.EH H13
theorem E13_ok:EnvOk E13:=q1k E12_ok S13
section
variable {H:FuncId→Option (List AV→Mem→R)}
theorem rdiv_at (h:H 152=some (q0v E12 152)) {a b:Nat} (ha:a<4294967296 ^ 16) (hb:b<4294967296 ^ 16) (hb0:0<b) (m:Mem):run (T.EH H) (.fn 152) [.agg (D16 a),.agg (D16 b)] m=some (.tup [.agg (D16 (a / b)),.agg (D16 (a % b))],m):=
 q0s h (by simp[AV.flat,AV.lt,AV.lts,q7g]) fun m2 _ _=>rdiv_is ha hb hb0 m2
theorem rten_at (h:H 151=some (q0v E12 151)) {k:Nat} (hk:k≤60) (m:Mem):run (T.EH H) (.fn 151) [.int .i64 (k:Int)] m=some (.agg (D16 (10 ^ k)),m):=
 q0s h (by simp[AV.flat,AV.lt,q7g]) fun m2 _ _=>rten_is hk m2
theorem q9n (h:H 70=some (q0v E12 70)) {a:Nat} (ha:a<4294967296 ^ 16) (m:Mem):run (T.EH H) (.fn 70) [.agg (D16 a)] m=some (.bool (decide (a=0)),m):=
 q0s h (by simp[AV.flat,AV.lt]) fun m2 _ _=>rzero_is ha m2
theorem z0x (h:H 68=some (q0v E12 68)) {a:Wd} (ha:a.ok) (m:Mem):run (T.EH H) (.fn 68) [.agg a.cells] m=some (.agg (q4d a.val),m):=
 q0s h (by simp[AV.flat,AV.lt,q6r]) fun m2 _ _=>rof_is ha m2
theorem j78 (h:H 135=some (q0v E12 135)) {x:Int} (hx:x.natAbs<4294967296 ^ 16) (m:Mem):run (T.EH H) (.fn 135) [.agg (q4d x)] m=some (.tup [.agg (q7f x).1.cells,.bool (q7f x).2],m):=
 q0s h (by simp[AV.flat,AV.lt,AV.lts,Wd.cells]) fun m2 _ _=>rwide_is hx m2
end
theorem q58 {n k:Nat} (h:n<4294967296 ^ k) (hk:k≤16):n<4294967296 ^ 16:=Nat.lt_of_lt_of_le h (Nat.pow_le_pow_right (by omega) hk)
theorem j7y {a b:Nat} (ha:a<4294967296 ^ 8) (hb:b<4294967296 ^ 7):a*b<4294967296 ^ 16:=by
 have h:=Nat.mul_lt_mul'' ha hb
 rw[←Nat.pow_add]at h
 exact q58 h (by omega)
theorem rtimes_is {a b:Int} (ha:a.natAbs<4294967296 ^ 8) (hb:b.natAbs<4294967296 ^ 7) (m:Mem):Res m (run E13 (.fn 138) [.agg (q4d a),.agg (q4d b)] m) (.agg (q4d (a*b))):=by
 have mu:=fun m=>rmul_at (H:=H13) rfl ha hb m
 have zr:=fun m=>q9n (H:=H13) rfl (j7y ha hb) m
 unfold q4d
 rw[Int.natAbs_mul]
 by_cases h:(decide (a<0)==decide (b<0))=true
 ·have hn:decide (a*b<0)=false:=by
   apply df
   intro hh
   have h':=eq_of_beq h
   by_cases h1:a<0
   ·rw[dt h1]at h'
    have h2:=of_decide_eq_true h'.symm
    have:=Int.mul_pos_of_neg_of_neg h1 h2
    omega
   ·rw[df h1]at h'
    have h2:=of_decide_eq_false h'.symm
    have:=Int.mul_nonneg (show 0≤a by omega) (show 0≤b by omega)
    omega
  simp only[f138_is (H:=H13) rfl,T.f138,pB,p1,q1,p2,q0r,AV.cells,Nat.reduceAdd,Nat.reduceLeDiff,q1h,ifV,unA,q1g,q1i,w_f138,AV.one,lcd,z16,mu,h,Bool.not_true,hn]
  refine Res.eq ?_ rfl
  (repeat apply Fr.lays)
  exact Fr.refl _
 ·rw[Bool.not_eq_true]at h
  have hn:(!decide (a.natAbs*b.natAbs=0))=decide (a*b<0):=by
   have h':¬(decide (a<0)=decide (b<0)):=by intro e;rw[e]at h;simp at h
   have hz:(a.natAbs*b.natAbs=0)=(a*b=0):=by rw[←Int.natAbs_mul];apply propext;exact Int.natAbs_eq_zero
   rw[←decide_not]
   apply decide_eq_decide.mpr
   rw[hz]
   by_cases h1:a<0
   ·rw[dt h1]at h'
    have h2:¬b<0:=fun x=>h' (dt x).symm
    have:=Int.mul_nonneg (show 0≤-a by omega) (show 0≤b by omega)
    rw[Int.neg_mul]at this
    omega
   ·rw[df h1]at h'
    have h2:b<0:=by
     apply Classical.byContradiction
     intro x
     exact h' (df x).symm
    have:=Int.mul_nonneg (show 0≤a by omega) (show 0≤-b by omega)
    rw[Int.mul_neg]at this
    omega
  simp only[f138_is (H:=H13) rfl,T.f138,pB,p1,q1,p2,q0r,AV.cells,Nat.reduceAdd,Nat.reduceLeDiff,q1h,ifV,unA,q1g,q1i,w_f138,AV.one,lcd,z16,mu,h,Bool.not_false,zr,hn]
  refine Res.eq ?_ rfl
  (repeat apply Fr.lays)
  exact Fr.refl _
theorem rminus_is {x:Int} (hx:x.natAbs<4294967296 ^ 16) (m:Mem):Res m (run E13 (.fn 115) [.agg (q4d x)] m) (.agg (q4d (-x))):=by
 have zr:=fun m=>q9n (H:=H13) rfl hx m
 unfold q4d
 rw[Int.natAbs_neg]
 by_cases h:x<0
 ·rw[dt h,df (show ¬-x<0 by omega)]
  simp only[f115_is (H:=H13) rfl,T.f115,pB,p1,q1,q0r,AV.cells,Nat.reduceAdd,Nat.reduceLeDiff,q1h,ifV,unA,q1g,q1i,w_f115,AV.one,lcd,z16,Bool.not_true]
  refine Res.eq ?_ rfl
  (repeat apply Fr.lays)
  exact Fr.refl _
 ·rw[df h]
  have hn:(!decide (x.natAbs=0))=decide (-x<0):=by
   rw[←decide_not]
   apply decide_eq_decide.mpr
   omega
  simp only[f115_is (H:=H13) rfl,T.f115,pB,p1,q1,q0r,AV.cells,Nat.reduceAdd,Nat.reduceLeDiff,q1h,ifV,unA,q1g,q1i,w_f115,AV.one,lcd,z16,Bool.not_false,zr,hn]
  refine Res.eq ?_ rfl
  (repeat apply Fr.lays)
  exact Fr.refl _
theorem rsum_is {x y:Int} (hx:x.natAbs<4294967296 ^ 15) (hy:y.natAbs<4294967296 ^ 15) (m:Mem):Res m (run E13 (.fn 69) [.agg (q4d x),.agg (q4d y)] m) (.agg (q4d (x+y))):=by
 have hx':=q58 hx (by omega)
 have hy':=q58 hy (by omega)
 have ad:=fun m=>z8d (H:=H13) rfl x.natAbs y.natAbs m
 have cm:=fun m=>j4b (H:=H13) rfl hx' hy' m
 unfold q4d
 by_cases h:(decide (x<0)==decide (y<0))=true
 ·have hs:decide (x+y<0)=decide (x<0)∧(x+y).natAbs=x.natAbs+y.natAbs:=by
   have h':=eq_of_beq h
   by_cases h1:x<0
   ·rw[dt h1]at h'
    have h2:=of_decide_eq_true h'.symm
    exact⟨by rw[dt h1];exact dt (by omega),by omega⟩
   ·rw[df h1]at h'
    have h2:=of_decide_eq_false h'.symm
    exact⟨by rw[df h1];exact df (by omega),by omega⟩
  rw[hs.1,hs.2]
  simp only[f69_is (H:=H13) rfl,T.f69,pB,p1,q1,p2,q0r,AV.cells,Nat.reduceAdd,Nat.reduceLeDiff,q1h,q0a,q1g,q1i,w_f69,AV.one,lcd,z16,ad,h]
  refine Res.eq ?_ rfl
  (repeat apply Fr.lays)
  exact Fr.refl _
 ·rw[Bool.not_eq_true]at h
  have h':¬(decide (x<0)=decide (y<0)):=by intro e;rw[e]at h;simp at h
  simp only[f69_is (H:=H13) rfl,T.f69,pB,p1,q1,p2,q0r,AV.cells,Nat.reduceAdd,Nat.reduceLeDiff,q1h,q0a,q1g,q1i,w_f69,AV.one,lcd,z16,h]
  by_cases hl:x.natAbs<y.natAbs
  ·have hc:decide (z3v x.natAbs y.natAbs<0)=true:=by unfold z3v;rw[if_pos hl];decide
   have sb:=fun m=>j4h (H:=H13) rfl (show x.natAbs≤y.natAbs by omega) m
   have hs:decide (x+y<0)=decide (y<0)∧(x+y).natAbs=y.natAbs-x.natAbs:=by
    by_cases h1:x<0
    ·rw[dt h1]at h'
     have h2:¬y<0:=fun x=>h' (dt x).symm
     exact⟨decide_eq_decide.mpr (by omega),by omega⟩
    ·rw[df h1]at h'
     have h2:y<0:=by
      apply Classical.byContradiction
      intro x
      exact h' (df x).symm
     exact⟨decide_eq_decide.mpr (by omega),by omega⟩
   rw[hs.1,hs.2]
   simp only[j6z (H:=H13),T.g69_0,p1,q1,p2,q0r,AV.cells,Nat.reduceAdd,Nat.reduceLeDiff,q0a,q1g,q1i,w_g69_0,lcd,cm,hc,sb]
   refine Res.eq ?_ rfl
   (repeat apply Fr.lays)
   exact Fr.refl _
  ·have hc:decide (z3v x.natAbs y.natAbs<0)=false:=by unfold z3v;rw[if_neg hl];split<;>decide
   have sb:=fun m=>j4h (H:=H13) rfl (show y.natAbs≤x.natAbs by omega) m
   have zr:=fun m=>q9n (H:=H13) rfl (a:=x.natAbs-y.natAbs) (by omega) m
   have ha:(x+y).natAbs=x.natAbs-y.natAbs:=by
    by_cases h1:x<0
    ·rw[dt h1]at h'
     have h2:¬y<0:=fun x=>h' (dt x).symm
     omega
    ·rw[df h1]at h'
     have h2:y<0:=by
      apply Classical.byContradiction
      intro x
      exact h' (df x).symm
     omega
   rw[ha]
   simp only[j6z (H:=H13),T.g69_0,p1,q1,p2,q0r,AV.cells,Nat.reduceAdd,Nat.reduceLeDiff,q0a,q1g,q1i,w_g69_0,lcd,cm,hc]
   by_cases h1:x<0
   ·have hn:(!decide (x.natAbs-y.natAbs=0))=decide (x+y<0):=by
     rw[dt h1]at h'
     have h2:¬y<0:=fun x=>h' (dt x).symm
     rw[←decide_not]
     exact decide_eq_decide.mpr (by omega)
    rw[dt h1]
    simp only[j60 (H:=H13),T.g69_1,p1,q1,pB,q0r,AV.cells,Nat.reduceAdd,Nat.reduceLeDiff,ifV,unA,q1g,q1i,w_g69_1,lcd,z16,sb,zr,hn]
    refine Res.eq ?_ rfl
    (repeat apply Fr.lays)
    exact Fr.refl _
   ·have hn:decide (x+y<0)=false:=by
     rw[df h1]at h'
     have h2:y<0:=by
      apply Classical.byContradiction
      intro x
      exact h' (df x).symm
     exact df (by omega)
    rw[df h1,hn]
    simp only[j60 (H:=H13),T.g69_1,p1,q1,pB,q0r,AV.cells,Nat.reduceAdd,Nat.reduceLeDiff,ifV,unA,q1g,q1i,w_g69_1,lcd,z16,sb]
    refine Res.eq ?_ rfl
    (repeat apply Fr.lays)
    exact Fr.refl _
theorem z5o {x:Int} (h:q1c x=true):q7f x=(Wd.of x,true):=by unfold q7f;rw[if_pos h]
theorem j2s {x:Int} (h:q1c x=false):(q7f x).2=false:=by unfold q7f;rw[if_neg (by rw[h];decide)];split<;>rfl
theorem rwid_is {x:Int} (hx:x.natAbs<4294967296 ^ 16) (m:Mem):Res m (run E13 (.fn 114) [.agg (q4d x)] m) (.tup [.agg (Wd.res x).1.cells,.int .i64 (Wd.res x).2]):=by
 have wd:=fun m=>j78 (H:=H13) rfl hx m
 cases hf:q1c x with
 |true=>
  rw[z5o hf]at wd
  rw[q2b hf]
  simp only[q4d,Wd.cells]at wd⊢
  simp only[f114_is (H:=H13) rfl,T.f114,pB,q1,p1,q0r,AV.cells,Nat.reduceAdd,Nat.reduceLeDiff,q1h,q0g,q0a,unA,q1g,q1i,w_f114,AV.one,over,lcl,q29,q7h,q6n,wd,Bool.not_true]
  simp only[g114_0_is (H:=H13),T.g114_0,q1,q1g,q1i,w_g114_0,AV.one,over,AV.cells,Nat.reduceAdd,Nat.reduceLeDiff,lcl]
  refine Res.eq ?_ rfl
  (repeat apply Fr.lays)
  exact Fr.refl _
 |false=>
  rw[j2s hf]at wd
  rw[res_not hf]
  simp only[q4d,Wd.cells]at wd⊢
  simp only[f114_is (H:=H13) rfl,T.f114,pB,q1,p1,q0r,AV.cells,Nat.reduceAdd,Nat.reduceLeDiff,q1h,q0g,q0a,unA,q1g,q1i,w_f114,AV.one,over,lcl,q29,q7h,q6n,wd,Bool.not_false]
  refine Res.eq ?_ rfl
  (repeat apply Fr.lays)
  exact Fr.refl _
theorem rdec_is {x:Int} (hx:x.natAbs<4294967296 ^ 16) (to:Int) (m:Mem):Res m (run E13 (.fn 136) [.agg (q4d x),.int .i64 to] m) (q6t x to):=by
 have wd:=fun m=>j78 (H:=H13) rfl hx m
 unfold q6t
 cases hf:q1c x with
 |true=>
  rw[z5o hf]at wd
  simp only[q4d,Wd.cells,q02,if_true]at wd⊢
  simp only[f136_is (H:=H13) rfl,T.f136,pB,q1,p1,q0r,AV.cells,Nat.reduceAdd,Nat.reduceLeDiff,q1h,q0g,q0a,unA,q1g,q1i,w_f136,AV.one,over,lcl,q29,q7h,q6n,wd,Bool.not_true]
  simp only[g136_0_is (H:=H13),T.g136_0,q1,p1,q0r,AV.cells,Nat.reduceAdd,Nat.reduceLeDiff,q1g,q1i,w_g136_0,AV.one,over,lcl]
  refine Res.eq ?_ rfl
  (repeat apply Fr.lays)
  exact Fr.refl _
 |false=>
  rw[j2s hf]at wd
  simp only[q4d,Wd.cells,q02,Bool.false_eq_true,if_false]at wd⊢
  simp only[f136_is (H:=H13) rfl,T.f136,pB,q1,p1,q0r,AV.cells,Nat.reduceAdd,Nat.reduceLeDiff,q1h,q0g,q0a,unA,q1g,q1i,w_f136,AV.one,over,lcl,q29,q7h,q6n,wd,Bool.not_false]
  refine Res.eq ?_ rfl
  (repeat apply Fr.lays)
  exact Fr.refl _
theorem rright_is2 (w:Wd) (s:Int) (m:Mem):Res m (run E13 (.fn 78) [.agg (q02 w s)] m) (.bool (decide (0≤s∧s≤18))):=by
 by_cases h1:0≤s
 ·simp only[q02,f78_is (H:=H13) rfl,T.f78,p1,q1,p2,q1h,ifV,w_f78,AV.one,AV.cells,lcl,dt (show s≥0 from h1)]
  refine Res.eq ?_ (by congr 1;exact decide_eq_decide.mpr (by omega))
  (repeat apply Fr.lays)
  exact Fr.refl _
 ·simp only[q02,f78_is (H:=H13) rfl,T.f78,p1,q1,p2,q1h,ifV,w_f78,AV.one,AV.cells,lcl,df (show ¬s≥0 from h1)]
  refine Res.eq ?_ (by congr 1;exact(df (by omega)).symm)
  (repeat apply Fr.lays)
  exact Fr.refl _
end
section
set_option maxRecDepth 4000
open Go Go.Abs
def S14:List FuncId:=[138,115,69,114,136,78]
noncomputable def H14:FuncId→Option (List AV→Mem→R):=q2w E13 S14
noncomputable abbrev E14:Env:=T.EH H14
theorem E14_ok:EnvOk E14:=q1k E13_ok S14
noncomputable abbrev D14:Do:=T.Rl H14
section
variable {H:FuncId→Option (List AV→Mem→R)}
theorem j19 (h:H 138=some (q0v E13 138)) {a b:Int} (ha:a.natAbs<4294967296 ^ 8) (hb:b.natAbs<4294967296 ^ 7) (m:Mem):run (T.EH H) (.fn 138) [.agg (q4d a),.agg (q4d b)] m=some (.agg (q4d (a*b)),m):=
 q0s h (by simp[AV.flat,AV.lt,q6r]) fun m2 _ _=>rtimes_is ha hb m2
theorem j18 (h:H 115=some (q0v E13 115)) {x:Int} (hx:x.natAbs<4294967296 ^ 16) (m:Mem):run (T.EH H) (.fn 115) [.agg (q4d x)] m=some (.agg (q4d (-x)),m):=
 q0s h (by simp[AV.flat,AV.lt,q6r]) fun m2 _ _=>rminus_is hx m2
theorem j4i (h:H 69=some (q0v E13 69)) {x y:Int} (hx:x.natAbs<4294967296 ^ 15) (hy:y.natAbs<4294967296 ^ 15) (m:Mem):run (T.EH H) (.fn 69) [.agg (q4d x),.agg (q4d y)] m=some (.agg (q4d (x+y)),m):=
 q0s h (by simp[AV.flat,AV.lt,q6r]) fun m2 _ _=>rsum_is hx hy m2
theorem rwid_at (h:H 114=some (q0v E13 114)) {x:Int} (hx:x.natAbs<4294967296 ^ 16) (m:Mem):run (T.EH H) (.fn 114) [.agg (q4d x)] m=some (.tup [.agg (Wd.res x).1.cells,.int .i64 (Wd.res x).2],m):=
 q0s h (by simp[AV.flat,AV.lt,AV.lts,Wd.cells]) fun m2 _ _=>rwid_is hx m2
theorem rdec_at (h:H 136=some (q0v E13 136)) {x:Int} (hx:x.natAbs<4294967296 ^ 16) (to:Int) (m:Mem):run (T.EH H) (.fn 136) [.agg (q4d x),.int .i64 to] m=some (q6t x to,m):=
 q0s h (z15 _ _) fun m2 _ _=>rdec_is hx to m2
theorem q7w (h:H 78=some (q0v E13 78)) (w:Wd) (s:Int) (m:Mem):run (T.EH H) (.fn 78) [.agg (q02 w s)] m=some (.bool (decide (0≤s∧s≤18)),m):=
 q0s h (by simp[AV.flat,AV.lt]) fun m2 _ _=>rright_is2 w s m2
end
theorem z8q (k:Nat):q48 k=((10 ^ k:Nat):Int):=by unfold q48;exact (Int.natCast_pow 10 k).symm
def rndV (x k:Int):Int:=if k≤0 then x*q48 (-k).toNat else if x<0 then -(rhe (-x) k.toNat) else rhe x k.toNat
theorem rnd_fin {x:Int} {q:Nat} (hq:q<4294967296 ^ 16) (hz:x=0→q=0) (m:Mem) (c0 c1 c2 c3:List AV) :
  Res m (D14.gor 561153 [.ptr (some ⟨m.next,0⟩),.ptr (some ⟨m.next+1,0⟩),.ptr (some ⟨m.next+1+1+1,0⟩)]
   ((((((m.lay (.cells (q4d x) false)).lay (.cells (.bool false::D16 0) false)).lay (.cells c0 false)).lay (.cells (D16 q) false)).lay (.cells c1 false)).lay (.cells c2 false))) (.agg (q4d (if x<0 then -(q:Int) else (q:Int)))):=by
 have zr:=fun m=>q9n (H:=H14) rfl hq m
 by_cases h:x<0
 ·rw[if_pos h]
  have hn:(!decide (q=0))=decide (-(q:Int)<0):=by rw[←decide_not];exact decide_eq_decide.mpr (by omega)
  simp only[q4d,dt h,show (-(q:Int)).natAbs=q by omega]
  simp only[j0s (H:=H14),T.g137_1,p1,q1,q0r,AV.cells,Nat.reduceAdd,Nat.reduceLeDiff,ifV,unA,q1g,q1i,j8s,lcd,z16,zr,hn]
  refine Res.eq ?_ rfl
  (repeat apply Fr.lays)
  exact Fr.refl _
 ·rw[if_neg h]
  simp only[q4d,df h,show ((q:Int)).natAbs=q by omega,df (show ¬(q:Int)<0 by omega)]
  simp only[j0s (H:=H14),T.g137_1,p1,q1,q0r,AV.cells,Nat.reduceAdd,Nat.reduceLeDiff,ifV,unA,q1g,q1i,j8s,lcd,z16]
  refine Res.eq ?_ rfl
  (repeat apply Fr.lays)
  exact Fr.refl _
theorem rround_is {x:Int} (hx:x.natAbs<4294967296 ^ 8) {k:Int} (hk0:-60≤k) (hk1:k≤60) (m:Mem):Res m (run E14 (.fn 137) [.agg (q4d x),.int .i64 k] m) (.agg (q4d (rndV x k))):=by
 by_cases h:k≤0
 ·obtain⟨j,hj⟩:∃j:Nat,k=-(j:Int):=⟨(-k).toNat,by omega⟩
  subst hj
  have tn:=fun m=>rten_at (H:=H14) rfl (k:=j) (by omega) m
  have ti:=fun m=>j19 (H:=H14) rfl hx (b:=((10 ^ j:Nat):Int)) (by rw[Int.natAbs_natCast];exact q9r (by omega)) m
  have hb:q4d ((10 ^ j:Nat):Int)=.bool false::D16 (10 ^ j):=by
   unfold q4d
   rw[Int.natAbs_natCast,df (Int.not_lt.mpr (Int.natCast_nonneg _))]
  rw[hb]at ti
  have hr:rndV x (-(j:Int))=x*((10 ^ j:Nat):Int):=by
   unfold rndV
   rw[if_pos h,show (-(-(j:Int))).toNat=j by omega,z8q]
  rw[hr]
  have hneg:IntKind.wrap .i64 (0 - -(j:Int))=(j:Int):=by rw[wrap_i64 (by omega) (by omega)];omega
  simp only[q4d]at ti⊢
  simp only[f137_is (H:=H14) rfl,T.f137,pB,p2,q1,p1,q0r,AV.cells,Nat.reduceAdd,Nat.reduceLeDiff,q1h,q0a,q1g,q1i,w_f137,unA,AV.one,lcd,z16,dt h,hneg,tn,ti]
  refine Res.eq ?_ rfl
  (repeat apply Fr.lays)
  exact Fr.refl _
 ·obtain⟨j,hj⟩:∃j:Nat,k=(j:Int):=⟨k.toNat,by omega⟩
  subst hj
  have tn:=fun m=>rten_at (H:=H14) rfl (k:=j) (by omega) m
  have hp:0<10 ^ j:=Nat.pow_pos (by omega)
  have hpl:=q9r (k:=j) (by omega)
  have hpl':=q58 hpl (by omega)
  have dv:=fun m=>rdiv_at (H:=H14) rfl (q58 hx (by omega)) hpl' hp m
  obtain⟨n,hn⟩:∃n,n=x.natAbs:=⟨_,rfl⟩
  rw[←hn]at dv
  have hx':=hx
  rw[←hn]at hx
  have ql:n / 10 ^ j≤n:=Nat.div_le_self _ _
  have rl:=Nat.mod_lt n hp
  have fin:=fun {q:Nat} hq hz=>rnd_fin (x:=x) (q:=q) hq hz m
  have tP:=z8q j
  have hq1:n / 10 ^ j+1<4294967296 ^ 16:=by
   have h1:n+1<4294967296 ^ 16:=Nat.lt_of_le_of_lt (show n+1≤4294967296 ^ 8 from hx) (Nat.pow_lt_pow_right (by omega) (by omega))
   omega
  have hval:rndV x (j:Int)=(if x<0 then -(((if 10 ^ j<2*(n % 10 ^ j)∨(2*(n % 10 ^ j)=10 ^ j∧n / 10 ^ j % 2=1) then n / 10 ^ j+1 else n / 10 ^ j:Nat):Int)) else ((if 10 ^ j<2*(n % 10 ^ j)∨(2*(n % 10 ^ j)=10 ^ j∧n / 10 ^ j % 2=1) then n / 10 ^ j+1 else n / 10 ^ j:Nat):Int)):=by
   have key:rhe (n:Int) j=((if 10 ^ j<2*(n % 10 ^ j)∨(2*(n % 10 ^ j)=10 ^ j∧n / 10 ^ j % 2=1) then n / 10 ^ j+1 else n / 10 ^ j:Nat):Int):=by
    unfold rhe
    rw[tP,←Int.natCast_ediv,←Int.natCast_emod]
    by_cases hc:10 ^ j<2*(n % 10 ^ j)∨(2*(n % 10 ^ j)=10 ^ j∧n / 10 ^ j % 2=1)
    ·rw[if_pos hc,if_pos (by omega)];rfl
    ·rw[if_neg hc,if_neg (by omega)]
   unfold rndV
   rw[if_neg h,show ((j:Int)).toNat=j by omega]
   by_cases hneg:x<0
   ·rw[if_pos hneg,if_pos hneg,show -x=(n:Int) by omega,key]
   ·rw[if_neg hneg,if_neg hneg,show x=(n:Int) by omega,key]
  have hz:x=0→(if 10 ^ j<2*(n % 10 ^ j)∨(2*(n % 10 ^ j)=10 ^ j∧n / 10 ^ j % 2=1) then n / 10 ^ j+1 else n / 10 ^ j)=0:=by
   intro h0
   have:n=0:=by omega
   subst this
   rw[Nat.zero_mod,Nat.zero_div]
   rw[if_neg (by omega)]
  rw[hval]
  obtain⟨p,hpp⟩:∃p,p=10 ^ j:=⟨_,rfl⟩
  rw[←hpp]at tn hp hpl hpl' dv ql rl hq1 hz⊢
  obtain⟨q,hqq⟩:∃q,q=n / p:=⟨_,rfl⟩
  obtain⟨r,hrr⟩:∃r,r=n % p:=⟨_,rfl⟩
  rw[←hqq]at dv ql hq1 hz⊢
  rw[←hrr]at dv rl hz⊢
  have a1:=fun m=>z8d (H:=H14) rfl r r m
  have a2:=fun m=>z8d (H:=H14) rfl q 1 m
  have hr2:r+r<4294967296 ^ 16:=by
   have h1:r+r≤4294967296 ^ 7+4294967296 ^ 7:=by omega
   exact Nat.lt_of_le_of_lt h1 (by decide)
  have cm:=fun m=>j4b (H:=H14) rfl hr2 hpl' m
  have s1:over (D16 0) 0 (.int .u64 1) 1=some (D16 1):=z3i (n:=1) (by omega)
  have hodd:((dig q 0:Nat):Int).tmod 2=((q % 2:Nat):Int):=by
   rw[Int.tmod_eq_emod_of_nonneg (Int.natCast_nonneg _),dig0];omega
  have z2:(2:Int)≠0:=by omega
  simp only[q4d]at fin
  simp only[q4d,←hn,f137_is (H:=H14) rfl,T.f137,pB,p2,q1,p1,q0r,AV.cells,Nat.reduceAdd,Nat.reduceLeDiff,q1h,q0a,q1g,q1i,w_f137,AV.one,lcd,z16,df h]
  simp only[←hn]at fin
  by_cases c1:p<2*r
  ·have hI:(if p<2*r∨(2*r=p∧q % 2=1) then q+1 else q)=q+1:=if_pos (.inl c1)
   rw[hI]at hz⊢
   have e1:decide ((0:Int)<z3v (r+r) p)=true:=by unfold z3v;rw[if_neg (by omega),if_neg (by omega)];rfl
   simp only[q81 (H:=H14),T.j0r,pB,p1,q1,p2,q0g,q0a,ifV,Nat.reduceAdd,z1v,Nat.reduceLeDiff,lcd,z16,j3z,s1,tn,dv,a1,cm,e1,a2]
   exact fin hq1 hz _ _ _ []
  ·have e1:decide ((0:Int)<z3v (r+r) p)=false:=by unfold z3v;split<;>(try split)<;>first|rfl|omega
   by_cases c2:2*r=p
   ·have e2:decide (z3v (r+r) p=0)=true:=by unfold z3v;rw[if_neg (by omega),if_pos (by omega)];rfl
    by_cases c3:q % 2=1
    ·have hI:(if p<2*r∨(2*r=p∧q % 2=1) then q+1 else q)=q+1:=if_pos (.inr ⟨c2,c3⟩)
     rw[hI]at hz⊢
     have e3:decide (((q % 2:Nat):Int)=1)=true:=dt (by omega)
     simp only[q81 (H:=H14),T.j0r,pB,p1,q1,p2,q0g,q0a,ifV,Nat.reduceAdd,z1v,Nat.reduceLeDiff,lcd,z16,j3z,s1,tn,dv,a1,cm,e1,e2,q1r _ (show 0<16 by omega),q34 _ _ _ _ z2,hodd,e3,a2]
     exact fin hq1 hz _ _ _ []
    ·have hI:(if p<2*r∨(2*r=p∧q % 2=1) then q+1 else q)=q:=if_neg (by omega)
     rw[hI]at hz⊢
     have e3:decide (((q % 2:Nat):Int)=1)=false:=df (by omega)
     simp only[q81 (H:=H14),T.j0r,pB,p1,q1,p2,q0g,q0a,ifV,Nat.reduceAdd,z1v,Nat.reduceLeDiff,lcd,z16,j3z,s1,tn,dv,a1,cm,e1,e2,q1r _ (show 0<16 by omega),q34 _ _ _ _ z2,hodd,e3]
     exact fin (by omega) hz _ _ _ []
   ·have e2:decide (z3v (r+r) p=0)=false:=by unfold z3v;split<;>(try split)<;>first|rfl|omega
    have hI:(if p<2*r∨(2*r=p∧q % 2=1) then q+1 else q)=q:=if_neg (by omega)
    rw[hI]at hz⊢
    simp only[q81 (H:=H14),T.j0r,pB,p1,q1,p2,q0g,q0a,ifV,Nat.reduceAdd,z1v,Nat.reduceLeDiff,lcd,z16,j3z,s1,tn,dv,a1,cm,e1,e2]
    exact fin (by omega) hz _ _ _ []
end
section
set_option maxRecDepth 4000
open Go Go.Abs
def S15:List FuncId:=[137]
noncomputable def H15:FuncId→Option (List AV→Mem→R):=q2w E14 S15
noncomputable abbrev E15:Env:=T.EH H15
theorem E15_ok:EnvOk E15:=q1k E14_ok S15
noncomputable abbrev D15:Do:=T.Rl H15
theorem rround_at {H:FuncId→Option (List AV→Mem→R)} (h:H 137=some (q0v E14 137)) {x:Int} (hx:x.natAbs<4294967296 ^ 8) {k:Int} (hk0:-60≤k) (hk1:k≤60) (m:Mem):run (T.EH H) (.fn 137) [.agg (q4d x),.int .i64 k] m=some (.agg (q4d (rndV x k)),m):=
 q0s h (by simp[AV.flat,AV.lt,q6r]) fun m2 _ _=>rround_is hx hk0 hk1 m2
theorem q9v {w:Wd} (h:w.ok):w.val.natAbs≤170141183460469231731687303715884105728:=by
 have:=j5a h
 unfold q3a at this
 split at this<;>omega
theorem j4d (k:Nat):rhe 0 k=0:=by
 unfold rhe
 rw[Int.zero_emod,Int.zero_ediv]
 have:=q6g k
 rw[if_neg (by omega)]
theorem rnd_mul (x y k:Int):rndV (x*y) k=mulV x y k:=by
 have hs:=sgmul x y
 unfold mulV scF
 obtain⟨A,hA⟩:∃A,A=q3a x*q3a y:=⟨_,rfl⟩
 have hA0:0≤A:=by
  rw[hA]
  have h0:∀z,0≤q3a z:=fun z=>by unfold q3a;split<;>omega
  exact Int.mul_nonneg (h0 x) (h0 y)
 rw[←hA]at hs⊢
 unfold rndV
 by_cases hk:0≤k
 ·rw[if_pos hk]
  by_cases hk0:k=0
  ·subst hk0
   rw[if_pos (by omega),show (-(0:Int)).toNat=0 from rfl,show (0:Int).toNat=0 from rfl,show q48 0=1 from rfl,Int.mul_one,rhe_zero]
   exact hs.symm
  ·rw[if_neg (by omega)]
   by_cases hb:(!(decide (x<0)==decide (y<0)))=true
   ·rw[if_pos hb]at hs⊢
    by_cases h:x*y<0
    ·rw[if_pos h,show -(x*y)=A by omega]
    ·rw[if_neg h]
     have h0:A=0:=by omega
     have h1:x*y=0:=by omega
     rw[h0,h1,j4d];rfl
   ·rw[if_neg hb]at hs⊢
    rw[if_neg (by omega),←hs]
 ·rw[if_neg hk,if_pos (by omega)]
theorem j1z {n:Int} (h:0≤n) (k:Nat):(rhe n k).natAbs≤n.natAbs+1:=by
 have h1:=rhe_nn h k
 have h2:=rhe_le h k
 omega
theorem rnd_bound {x k:Int} (hx:x.natAbs<4294967296 ^ 8) (hk:-18≤k):(rndV x k).natAbs<4294967296 ^ 16:=by
 unfold rndV
 split
 ·rw[Int.natAbs_mul,z8q,Int.natAbs_natCast]
  exact j7y hx (q9r (by omega))
 ·have h8:4294967296 ^ 8+1<4294967296 ^ 16:=by decide
  split
  ·have:=j1z (show 0≤-x by omega) k.toNat
   rw[Int.natAbs_neg]at this
   rw[Int.natAbs_neg]
   omega
  ·have:=j1z (show 0≤x by omega) k.toNat
   omega
theorem wd_mul {a b:Wd} (ha:a.ok) (hb:b.ok):(a.val*b.val).natAbs<4294967296 ^ 8:=by
 rw[Int.natAbs_mul]
 exact Nat.lt_of_le_of_lt (Nat.mul_le_mul (q9v ha) (q9v hb)) (by decide)
theorem wd_lt {a:Wd} (ha:a.ok):a.val.natAbs<4294967296 ^ 7:=Nat.lt_of_le_of_lt (q9v ha) (by decide)
theorem wd_lt8 {a:Wd} (ha:a.ok):a.val.natAbs<4294967296 ^ 8:=Nat.lt_of_le_of_lt (q9v ha) (by decide)
theorem q7e {a:Wd} (ha:a.ok):a.val.natAbs<4294967296 ^ 15:=Nat.lt_of_le_of_lt (q9v ha) (by decide)
end
end Go.Proofs.YtlginbmjiecglaaGreatDoor
