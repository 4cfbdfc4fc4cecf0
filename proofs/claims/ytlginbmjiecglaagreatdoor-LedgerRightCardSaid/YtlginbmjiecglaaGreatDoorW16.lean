/- Texts of one claim, put together. -/
import Derived.Test.YtlginbmjiecglaaGreatDoorW15
namespace Go.Proofs.YtlginbmjiecglaaGreatDoor
section
set_option maxRecDepth 4000
open Go Go.Abs
theorem a7v (n i v:Nat) (hv:v<4294967296):∃N,N+dig n i*4294967296 ^ i=n+v*4294967296 ^ i/\(∀j,j<16->j≠i->dig n j=dig N j)/\dig N i=v:=by
 have hle:dig n i*4294967296 ^ i<=n:=by
  have h1:dig n i<=n / 4294967296 ^ i:=Nat.mod_le _ _;exact xnt0 (Nat.mul_le_mul_right _ h1) (Nat.div_mul_le_self _ _)
 obtain⟨n0,hn0⟩:∃n0,n=n0+dig n i*4294967296 ^ i:=⟨n-dig n i*4294967296 ^ i,by omega⟩;have d0:dig n0 i=0:=by
  obtain⟨t,ht⟩:∃t,t=dig n i:=⟨_,rfl⟩;have hq:n / 4294967296 ^ i=n0 / 4294967296 ^ i+t:=by
   rw[hn0,<-ht,Nat.add_mul_div_right _ _ (q8h i)]
  have h1:t=(n0 / 4294967296 ^ i+t) % 4294967296:=by rw[<-hq];exact ht
  have h2:=q2B n0 i;have h3:=q2B n i;unfold dig at h2⊢;omega
 have s1:=q5F (n:=n0) (i:=i) (d:=dig n i) (by have:=q2B n i;omega);rw[<-hn0]at s1;have s2:=q5F (n:=n0) (i:=i) (d:=v) (by omega);refine⟨n0+v*4294967296 ^ i,by omega,fun j _ hj=>?_,?_⟩
 ·rw[s1 j,s2 j,if_neg hj,if_neg hj]
 ·rw[s2 i,if_pos rfl,d0,xnz]
theorem z5B (a b base:Nat) (m:Mem) {i:Nat} (hi:i<8):∀(d k c V:Nat),k+d=8->c<4294967296->V+c*4294967296 ^ (i+k)=base+dig a i*(b % 4294967296 ^ k)*4294967296 ^ i->
  ∃V' c',c'<4294967296/\V'+c'*4294967296 ^ (i+8)=base+dig a i*(b % 4294967296 ^ 8)*4294967296 ^ i/\
  D11.gor 626690 [.ptr (some ⟨m.next,0⟩),.ptr (some ⟨m.next+1,0⟩),.ptr (some ⟨m.next+1+1,0⟩),.ptr (some ⟨m.next+1+1+1,0⟩),.int .i64 (i:Int),.int .u64 (c:Int),.int .i64 (k:Int)]
   ((((m.lay (.cells (D16 a) false)).lay (.cells (D16 b) false)).lay (.cells (D16 0) false)).lay (.cells (D16 V) false)) =
  D11.gor 626693 [.ptr (some ⟨m.next,0⟩),.ptr (some ⟨m.next+1,0⟩),.ptr (some ⟨m.next+1+1,0⟩),.ptr (some ⟨m.next+1+1+1,0⟩),.int .i64 (i:Int)]
   ((((m.lay (.cells (D16 a) false)).lay (.cells (D16 b) false)).lay (.cells (D16 0) false)).lay (.cells (D16 V') false)):=by
 intro d;induction d with
 |zero=>
  intro k c V hk hc hV;have:k=8:=by omega
  subst this;refine⟨V,c,hc,hV,?_⟩;simp only[z0t (H:=H11),T.z8f,p2,q0b,wp,df (show ¬((8:Nat):Int)<8 by omega)]
 |succ d ih=>
  intro k c V hk hc hV;have h16:i+k<16:=by omega
  have lt:=q2B V (i+k);have lm:=j4b (q2B a i) (q2B b k);obtain⟨X,hX⟩:∃X,X=dig a i*dig b k:=⟨_,rfl⟩;rw[<-hX]at lm;obtain⟨s,hs⟩:∃s,s=dig V (i+k)+X+c:=⟨_,rfl⟩;obtain⟨N,hN,o1,o2⟩:=a7v V (i+k) (s % 4294967296) (Nat.mod_lt _ (by omega));have inv:N+s / 4294967296*4294967296 ^ (i+(k+1))=base+dig a i*(b % 4294967296 ^ (k+1))*4294967296 ^ i:=by
   have e3:dig a i*(b % 4294967296 ^ k+dig b k*4294967296 ^ k)*4294967296 ^ i=dig a i*(b % 4294967296 ^ k)*4294967296 ^ i+X*4294967296 ^ (i+k):=by
    rw[Nat.mul_add,Nat.add_mul,hX,Nat.pow_add];simp only[Nat.mul_comm,Nat.mul_left_comm,Nat.mul_assoc]
   rw[show i+(k+1)=(i+k)+1 by omega,pow_add_one,q3W,e3];have e1:s*4294967296 ^ (i+k)=dig V (i+k)*4294967296 ^ (i+k)+X*4294967296 ^ (i+k)+c*4294967296 ^ (i+k):=by rw[hs,Nat.add_mul,Nat.add_mul]
   have e2:s*4294967296 ^ (i+k)=s % 4294967296*4294967296 ^ (i+k)+s / 4294967296*(4294967296 ^ (i+k)*4294967296):=by
    rw[show s / 4294967296*(4294967296 ^ (i+k)*4294967296)=(4294967296*(s / 4294967296))*4294967296 ^ (i+k) by simp only[Nat.mul_comm,Nat.mul_left_comm,Nat.mul_assoc],<-Nat.add_mul,Nat.mod_add_div]
   omega
  have hw:IntKind.wrap .u64 (IntKind.wrap .u64 ((dig V (i+k):Int)+IntKind.wrap .u64 ((dig a i:Int)*(dig b k:Int)))+(c:Int))=((s:Nat):Int):=by
   rw[<-Int.natCast_mul,<-hX,q0m,q0m,q0m];omega
  have hik:IntKind.wrap .i64 ((i:Int)+(k:Int))=((i+k:Nat):Int):=by rw[wrap_i64 (by omega) (by omega)];omega
  have ov:over (D16 V) (i+k) (.int .u64 ((s % 4294967296:Nat):Int)) 1=some (D16 N):=q3A h16 o1 (by rw[o2]);obtain⟨V',c',r1,r2,r3⟩:=ih (k+1) (s / 4294967296) N (by omega) (by omega) inv;refine⟨V',c',r1,r2,?_⟩;simp only[z0t (H:=H11),T.z8f,p2,q0b,wp,dt (show (k:Int)<8 by omega)];simp only[z8g (H:=H11),T.j5Y,p2,q1,wp,lcd,hik,z9w _ _ h16,z9w _ _ (show i<16 by omega),z9w _ _ (show k<16 by omega),q0W _ h16,q0W _ (show i<16 by omega),q0W _ (show k<16 by omega),hw,q6f,q4R _ (show s<18446744073709551616 by omega),ov]
  simp only[z8h (H:=H11),T.j5Z,p2,wp,show (k:Int)+1=((k+1:Nat):Int) by omega,wrap_i64 (n:=((k+1:Nat):Int)) (by omega) (by omega)];exact r3
theorem j0q {a b:Nat} (ha:a<4294967296 ^ 8) (hb:b<4294967296 ^ 7) (m:Mem):∀(d i:Nat),i+d=8->
  Res m (D11.gor 626688 [.ptr (some ⟨m.next,0⟩),.ptr (some ⟨m.next+1,0⟩),.ptr (some ⟨m.next+1+1,0⟩),.ptr (some ⟨m.next+1+1+1,0⟩),.int .i64 (i:Int)]
   ((((m.lay (.cells (D16 a) false)).lay (.cells (D16 b) false)).lay (.cells (D16 0) false)).lay (.cells (D16 (a % 4294967296 ^ i*b)) false))) (.agg (D16 (a*b))):=by
 have hb8:b % 4294967296 ^ 8=b:=Nat.mod_eq_of_lt (Nat.lt_of_lt_of_le hb (Nat.pow_le_pow_right (by omega) (by omega)));intro d;induction d with
 |zero=>
  intro i hi;have:i=8:=by omega
  subst this;simp only[z0s (H:=H11),T.z8d,p2,q0b,wp,df (show ¬((8:Nat):Int)<8 by omega)];simp only[z8j (H:=H11),T.j51,q1,q0S,q0V,wp,Nat.reduceLeDiff,lcd,Nat.mod_eq_of_lt ha];refine Res.eq ?_ rfl
  (repeat apply Fr.lays)
  exact Fr.refl _
 |succ d ih=>
  intro i hi;obtain⟨V',c',r1,r2,r3⟩:=z5B a b (a % 4294967296 ^ i*b) m (show i<8 by omega) 8 0 0 (a % 4294967296 ^ i*b) rfl (by omega) (by rw[Nat.pow_zero,Nat.mod_one,Nat.mul_zero,Nat.zero_mul,Nat.zero_mul]);have e:a % 4294967296 ^ i*b+dig a i*(b % 4294967296 ^ 8)*4294967296 ^ i=a % 4294967296 ^ (i+1)*b:=by
   rw[hb8,q3W,Nat.add_mul,Nat.mul_right_comm]
  rw[e]at r2;have lt:a % 4294967296 ^ (i+1)*b<4294967296 ^ (i+8):=by
   have h1:a % 4294967296 ^ (i+1)<4294967296 ^ (i+1):=Nat.mod_lt _ (q8h _);have h2:4294967296 ^ (i+8)=4294967296 ^ (i+1)*4294967296 ^ 7:=by rw[<-Nat.pow_add,show i+1+7=i+8 by omega]
   rw[h2];exact Nat.mul_lt_mul'' h1 hb
  have c0:c'=0:=by
   apply Classical.byContradiction;intro h;have:=Nat.mul_le_mul_right (4294967296 ^ (i+8)) (show 1<=c' by omega);rw[Nat.one_mul]at this;omega
  subst c0;rw[Nat.zero_mul,xna]at r2;rw[r2]at r3;simp only[z0s (H:=H11),T.z8d,p2,q0b,wp,dt (show (i:Int)<8 by omega)];simp only[z8e (H:=H11),T.j5X,wp];rw[show (0:Int)=((0:Nat):Int) from rfl,r3];simp only[z8i (H:=H11),T.j50,p2,wp,show (i:Int)+1=((i+1:Nat):Int) by omega,wrap_i64 (n:=((i+1:Nat):Int)) (by omega) (by omega)];exact ih (i+1) (by omega)
theorem a0p {a b:Nat} (ha:a<4294967296 ^ 8) (hb:b<4294967296 ^ 7) (m:Mem):Res m (run E11 (.fn 153) [.agg (D16 a),.agg (D16 b)] m) (.agg (D16 (a*b))):=by
 have lp:=j0q ha hb m 8 0 rfl;rw[Nat.pow_zero,Nat.mod_one,Nat.zero_mul]at lp;simp only[j7G (H:=H11) rfl,T.f153,pB,q0N,wp,AV.cells,lcd,z16];exact lp
end
section
set_option maxRecDepth 4000
open Go Go.Abs
def S12:List FuncId:=[111,113,112,153]
noncomputable def H12:FuncId->Option (List AV->Mem->R):=q1y E11 S12
noncomputable abbrev E12:Env:=T.EH H12
theorem a03:q1i E12:=q0Q a02 S12
noncomputable abbrev D12:Do:=T.Rl H12
section
variable {H:FuncId->Option (List AV->Mem->R)}
theorem q9t (h:H 111=some (q0x E11 111)) (a b:Nat) (m:Mem):run (T.EH H) (.fn 111) [.agg (D16 a),.agg (D16 b)] m=some (.agg (D16 (a+b)),m):=
 q0s h (by simp[AV.flat,AV.lt,q4c]) fun m2 _ _=>a0h a b m2
theorem z2m (h:H 113=some (q0x E11 113)) {a b:Nat} (hh:b<=a) (m:Mem):run (T.EH H) (.fn 113) [.agg (D16 a),.agg (D16 b)] m=some (.agg (D16 (a-b)),m):=
 q0s h (by simp[AV.flat,AV.lt,q4c]) fun m2 _ _=>a0w hh m2
theorem z2f (h:H 112=some (q0x E11 112)) {a b:Nat} (ha:a<4294967296 ^ 16) (hb:b<4294967296 ^ 16) (m:Mem):run (T.EH H) (.fn 112) [.agg (D16 a),.agg (D16 b)] m=some (.int .i64 (q7t a b),m):=
 q0s h (by simp[AV.flat,AV.lt]) fun m2 _ _=>a0i ha hb m2
theorem j0p (h:H 153=some (q0x E11 153)) {a b:Nat} (ha:a<4294967296 ^ 8) (hb:b<4294967296 ^ 7) (m:Mem):run (T.EH H) (.fn 153) [.agg (D16 a),.agg (D16 b)] m=some (.agg (D16 (a*b)),m):=
 q0s h (by simp[AV.flat,AV.lt,q4c]) fun m2 _ _=>a0p ha hb m2
end
theorem z11 (b o:Nat):ixA 1 16 ⟨b,o⟩ 0=some (.ptr (some ⟨b,o⟩)):=by simp[ixA]
theorem a7Z:q2j Tryz.prog 121 []=some (.agg (D16 0)):=by rw[<-z16];kernel_rfl
theorem j6s (cs:List AV) (i:Nat):q9s Tryz.prog 26 cs i=cs[i]?:=by kernel_rfl
theorem a9D (x y:Int):eqA Tryz.prog 49 26 (.int .u64 x) (.int .u64 y)=some (x==y):=by kernel_rfl
theorem z6D {a b:Nat} (ha:a<4294967296 ^ 16) (hb:b<4294967296 ^ 16):∀(k i:Nat),i+k=16->q3X Tryz.prog (eqA Tryz.prog 49) 26 1 (D16 a) (D16 b) k i=some (decide (a / 4294967296 ^ i=b / 4294967296 ^ i)):=by
 intro k;induction k with
 |zero=>
  intro i hi;have:i=16:=by omega
  subst this;rw[Nat.div_eq_of_lt ha,Nat.div_eq_of_lt hb];rfl
 |succ k ih=>
  intro i hi;have h16:i<16:=by omega
  unfold q3X;rw[j6s,j6s,Nat.mul_one,q0W _ h16,q0W _ h16];simp only[a9D];have hr:=ih (i+1) (by omega);rw[q2d,q2d]at hr;by_cases e:dig a i=dig b i
  ·have e2:((dig a i:Int)==(dig b i:Int))=true:=by rw[e];exact beq_self_eq_true _
   rw[e2];simp only;rw[hr];congr 1;apply decide_eq_decide.mpr;unfold dig at e;omega
  ·have e2:((dig a i:Int)==(dig b i:Int))=false:=by
    apply beq_eq_false_iff_ne.mpr;omega
   rw[e2];simp only;rw[df];intro h;exact e (by unfold dig;rw[h])
theorem j68 {a b:Nat} (ha:a<4294967296 ^ 16) (hb:b<4294967296 ^ 16):q0J Tryz.prog .eql 121 (.agg (D16 a)) (.agg (D16 b))=some (.bool (decide (a=b))):=by
 have h:∀xs ys:List AV,q0J Tryz.prog .eql 121 (.agg xs) (.agg ys)=(match q3X Tryz.prog (eqA Tryz.prog 49) 26 1 xs ys 16 0 with|some b=>some (.bool b)|none=>none):=fun xs ys=>by kernel_rfl
 rw[h,z6D ha hb 16 0 rfl,Nat.pow_zero,Nat.div_one,Nat.div_one]
theorem j4P {a:Nat} (ha:a<4294967296 ^ 16) (m:Mem):Res m (run E12 (.fn 70) [.agg (D16 a)] m) (.bool (decide (a=0))):=by
 simp only[a18 (H:=H12) rfl,T.f70,q1,p1,p2,AV.cells,Nat.reduceLeDiff,q0N,q0B,lcd,a7Z,j68 ha (q8h 16)];refine Res.eq ?_ rfl
 (repeat apply Fr.lays)
 exact Fr.refl _
theorem q5t {k:Nat} (hk:k<=60):10 ^ k<4294967296 ^ 7:=Nat.lt_of_le_of_lt (Nat.pow_le_pow_right (by omega) hk) (by decide)
theorem j0D {k:Nat} (hk:k<=60) (m:Mem):∀(d i:Nat),i+d=k->
  Res m (D12.gor 618496 [.int .i64 (k:Int),.ptr (some ⟨m.next,0⟩),.ptr (some ⟨m.next+1,0⟩),.ptr (some ⟨m.next+1+1,0⟩),.int .i64 (i:Int)]
   (((m.lay (.cells (D16 0) false)).lay (.cells (D16 (10 ^ i)) false)).lay (.cells (D16 10) false))) (.agg (D16 (10 ^ k))):=by
 intro d;induction d with
 |zero=>
  intro i hi;have:i=k:=by omega
  subst this;simp only[z0o (H:=H12),T.z7V,p2,q0b,wp,df (show ¬(i:Int)<(i:Int) by omega)];simp only[z7Y (H:=H12),T.j5V,q1,q0S,q0V,wp,Nat.reduceLeDiff,lcd];refine Res.eq ?_ rfl
  (repeat apply Fr.lays)
  exact Fr.refl _
 |succ d ih=>
  intro i hi;have mu:=fun m=>j0p (H:=H12) rfl (a:=10 ^ i) (b:=10) (Nat.lt_trans (q5t (by omega)) (by decide)) (by decide) m
  rw[<-Nat.pow_succ]at mu;simp only[z0o (H:=H12),T.z7V,p2,q0b,wp,dt (show (i:Int)<(k:Int) by omega)];simp only[z7W (H:=H12),T.j5T,q1,wp,Nat.reduceLeDiff,lcd,mu];simp only[z7X (H:=H12),T.j5U,p2,wp,show (i:Int)+1=((i+1:Nat):Int) by omega,wrap_i64 (n:=((i+1:Nat):Int)) (by omega) (by omega)];exact ih (i+1) (by omega)
theorem q6M {n:Nat} (h:n<4294967296):∀j,dig n j=if j=0 then n else 0:=by
 intro j;have:=q5F (n:=0) (i:=0) (d:=n) (by unfold dig;simpa using h) j;rw[Nat.pow_zero,Nat.mul_one,xnz]at this;rw[this];have z:dig 0 j=0:=by unfold dig;rw[Nat.zero_div]
 rw[z,xnz]
theorem q7l {n:Nat} (h:n<4294967296):over (D16 0) 0 (.int .u64 (n:Int)) 1=some (D16 n):=
 q3A (by omega) (fun j _ hj=>by rw[q6M h,if_neg hj,q6M (by omega),if_neg hj]) (by rw[q6M h,if_pos rfl])
theorem a0y {k:Nat} (hk:k<=60) (m:Mem):Res m (run E12 (.fn 151) [.int .i64 (k:Int)] m) (.agg (D16 (10 ^ k))):=by
 have lp:=j0D hk m k 0 (by omega);rw[Nat.pow_zero]at lp;have s1:over (D16 0) 0 (.int .u64 1) 1=some (D16 1):=q7l (n:=1) (by omega);have s10:over (D16 0) 0 (.int .u64 10) 1=some (D16 10):=q7l (n:=10) (by omega);simp only[j7E (H:=H12) rfl,T.f151,pB,p2,wp,lcd,z16,z11,s1,s10];exact lp
theorem j0l {a b:Nat} (ha:a<4294967296 ^ 16) (hb:b<4294967296 ^ 16) (hb0:0<b) (m:Mem):∀(k:Nat),k<=512->
  Res m (D12.gor 622592 [.ptr (some ⟨m.next,0⟩),.ptr (some ⟨m.next+1,0⟩),.ptr (some ⟨m.next+1+1,0⟩),.ptr (some ⟨m.next+1+1+1,0⟩),.int .i64 ((k:Int)-1)]
   ((((m.lay (.cells (D16 a) false)).lay (.cells (D16 b) false)).lay (.cells (D16 (a / 2 ^ k / b*2 ^ k)) false)).lay (.cells (D16 (a / 2 ^ k % b)) false))) (.tup [.agg (D16 (a / b)),.agg (D16 (a % b))]):=by
 intro k;induction k with
 |zero=>
  intro _;rw[Nat.pow_zero,Nat.div_one,Nat.mul_one];simp only[z0p (H:=H12),T.z7Z,p2,q0b,wp,df (show ¬((0:Nat):Int)-1>=0 by omega)];simp only[z8c (H:=H12),T.j5W,q1,q0S,q0V,wp,Nat.reduceLeDiff,lcd];refine Res.eq ?_ rfl
  (repeat apply Fr.lays)
  exact Fr.refl _
 |succ i ih=>
  intro hi;have hx:=j3W a i;obtain⟨bit,hbit⟩:∃bit,bit=a / 2 ^ i % 2:=⟨_,rfl⟩;have hb1:bit<=1:=by omega
  rw[<-hbit]at hx;obtain⟨x,hxx⟩:∃x,x=a / 2 ^ (i+1):=⟨_,rfl⟩;rw[<-hxx]at hx⊢;obtain⟨d1,d2⟩:=j69 (x:=x) (bit:=bit) hb0;rw[<-hx]at d1 d2;have hxa:a / 2 ^ i<=a:=Nat.div_le_self _ _;have hr:x % b<=x:=Nat.mod_le _ _;have hrb:x % b<b:=Nat.mod_lt _ hb0;obtain⟨r,hr'⟩:∃r,r=x % b:=⟨_,rfl⟩;rw[<-hr']at d1 d2 hr hrb⊢;have h16:i / 32<16:=by omega
  have h32:i % 32<32:=by omega
  have ad:=fun m=>q9t (H:=H12) rfl r r m
  have cm:=fun m=>z2f (H:=H12) rfl (a:=2*r+bit) (b:=b) (by omega) hb m
  have hj:IntKind.wrap .i64 ((i:Int).tdiv 32)=((i / 32:Nat):Int):=by rw[Int.tdiv_eq_ediv_of_nonneg (by omega),wrap_i64 (by omega) (by omega)];omega
  have hs:((IntKind.wrap .u64 (i:Int)).tmod 32)=((i % 32:Nat):Int):=by rw[wrap_u64 (by omega) (by omega),Int.tmod_eq_emod_of_nonneg (by omega)];omega
  have hbt:((dig a (i / 32) / 2 ^ (i % 32):Nat):Int).tmod 2=(bit:Int):=by
   rw[Int.tmod_eq_emod_of_nonneg (Int.natCast_nonneg _),show (2:Int)=((2:Nat):Int) from rfl,<-Int.natCast_emod,j63,<-hbit]
  have ev:dig (r+r) 0 % 2=0:=by unfold dig;rw[Nat.pow_zero,Nat.div_one];omega
  have dl:=q2B (r+r) 0;have da:=q5F (n:=r+r) (i:=0) (d:=bit) (by omega);rw[Nat.pow_zero,Nat.mul_one,show r+r+bit=2*r+bit by omega]at da;have hw:IntKind.wrap .u64 ((dig (r+r) 0:Int)+(bit:Int))=((dig (2*r+bit) 0:Nat):Int):=by
   rw[da 0,if_pos rfl,q0m];omega
  have ov:over (D16 (r+r)) 0 (.int .u64 ((dig (2*r+bit) 0:Nat):Int)) 1=some (D16 (2*r+bit)):=
   q3A (by omega) (fun j _ hj=>by rw[da j,if_neg hj,xna]) rfl
  simp only[show ((i+1:Nat):Int)-1=(i:Int) by omega];simp only[z0p (H:=H12),T.z7Z,p2,q0b,wp,dt (show (i:Int)>=0 by omega)];have z2:(2:Int)≠0:=by omega
  have z32:(32:Int)≠0:=by omega
  by_cases hge:b<=2*r+bit
  ·have hc:decide (q7t (2*r+bit) b>=0)=true:=by unfold q7t;rw[if_neg (by omega)];split<;>decide
   have sb:=fun m=>z2m (H:=H12) rfl hge m
   have room:=j1g (x / b) i;have dq:=q5F (n:=x / b*2 ^ (i+1)) (i:=i / 32) (d:=2 ^ (i % 32)) room;rw[<-z0Y]at dq;have hq:x / b*2 ^ (i+1)+2 ^ i=a / 2 ^ i / b*2 ^ i:=by
    rw[(d1 hge hb1).1,Nat.pow_succ,Nat.add_mul,Nat.one_mul,Nat.mul_comm (2 ^ i) 2,<-Nat.mul_assoc,Nat.mul_comm (x / b) 2]
   have hrr:2*r+bit-b=a / 2 ^ i % b:=(d1 hge hb1).2.symm;rw[hq]at dq;have hw2:IntKind.wrap .u64 ((dig (x / b*2 ^ (i+1)) (i / 32):Int)+((2 ^ (i % 32):Nat):Int))=((dig (a / 2 ^ i / b*2 ^ i) (i / 32):Nat):Int):=by
    rw[dq (i / 32),if_pos rfl,q0m];obtain⟨w,hw⟩:∃w,w=2 ^ (i % 32):=⟨_,rfl⟩;rw[<-hw]at room⊢;omega
   have ov2:over (D16 (x / b*2 ^ (i+1))) (i / 32) (.int .u64 ((dig (a / 2 ^ i / b*2 ^ i) (i / 32):Nat):Int)) 1=some (D16 (a / 2 ^ i / b*2 ^ i)):=
    q3A h16 (fun j _ hj=>by rw[dq j,if_neg hj];exact(xna _).symm) rfl
   simp only[z0q (H:=H12),T.z8a,q1,p2,p1,q0b,wp,Nat.reduceLeDiff,lcd,ad,q26 _ _ _ _ z32,q27 _ _ _ _ z32,q27 _ _ _ _ z2,hj,hs,z11,z9w _ _ h16,q0W _ h16,q0W _ (show 0<16 by omega),q9S _ (q2B _ _) h32,z6p _ h32,hbt,hw,ov,cm,hc,sb,hw2,ov2];simp only[z0r (H:=H12),T.z8b,p2,wp,wrap_i64 (n:=(i:Int)-1) (by omega) (by omega)]
   rw[hrr];exact ih (by omega)
  ·have hc:decide (q7t (2*r+bit) b>=0)=false:=by unfold q7t;rw[if_pos (by omega)];decide
   have hq:x / b*2 ^ (i+1)=a / 2 ^ i / b*2 ^ i:=by
    rw[(d2 (by omega)).1,Nat.pow_succ,Nat.mul_comm (2 ^ i) 2,<-Nat.mul_assoc,Nat.mul_comm (x / b) 2]
   have hrr:2*r+bit=a / 2 ^ i % b:=(d2 (by omega)).2.symm;simp only[z0q (H:=H12),T.z8a,q1,p2,p1,q0b,wp,Nat.reduceLeDiff,lcd,ad,q26 _ _ _ _ z32,q27 _ _ _ _ z32,q27 _ _ _ _ z2,hj,hs,z11,z9w _ _ h16,q0W _ h16,q0W _ (show 0<16 by omega),q9S _ (q2B _ _) h32,hbt,hw,ov,cm,hc];simp only[z0r (H:=H12),T.z8b,p2,wp,wrap_i64 (n:=(i:Int)-1) (by omega) (by omega)]
   rw[hrr,hq];exact ih (by omega)
theorem j0V (n:Nat):2 ^ (32*n)=4294967296 ^ n:=by rw[Nat.pow_mul,show (2:Nat) ^ 32=4294967296 from rfl]
theorem a0n {a b:Nat} (ha:a<4294967296 ^ 16) (hb:b<4294967296 ^ 16) (hb0:0<b) (m:Mem):Res m (run E12 (.fn 152) [.agg (D16 a),.agg (D16 b)] m) (.tup [.agg (D16 (a / b)),.agg (D16 (a % b))]):=by
 obtain⟨n,hn⟩:∃n,n=16:=⟨_,rfl⟩;have lp:=j0l ha hb hb0 m (32*n) (by omega);have e:a / 2 ^ (32*n)=0:=by rw[j0V,hn];exact Nat.div_eq_of_lt ha
 have hi:((32*n:Nat):Int)-1=511:=by omega
 rw[hi]at lp;rw[e,Nat.zero_div,Nat.zero_mul,Nat.zero_mod]at lp;simp only[j7F (H:=H12) rfl,T.f152,pB,q0N,wp,AV.cells,lcd,z16];exact lp
end
section
set_option maxRecDepth 4000
open Go Go.Abs
theorem z2j (neg:Bool) {h l:Nat} (hh:h<18446744073709551616) (hl:l<18446744073709551616) (m:Mem) (cs:List AV) :
  Res m (D12.gor 278528 [.ptr (some ⟨m.next+1,0⟩),.int .u64 (h:Int),.int .u64 (l:Int),.bool neg] ((m.lay (.cells cs false)).lay (.cells (.bool false::D16 0) false))) (.agg (.bool neg::D16 (l+h*18446744073709551616))):=by
 have s0:=q4p (.bool neg) (n:=0) (i:=0) (d:=l % 4294967296) (by omega) (q8h 0) (by omega);have s1:=q4p (.bool neg) (n:=l % 4294967296) (i:=1) (d:=l / 4294967296) (by omega) (by omega) (by omega);have s2:=q4p (.bool neg) (n:=l) (i:=2) (d:=h % 4294967296) (by omega) (by omega) (by omega);have s3:=q4p (.bool neg) (n:=l+h % 4294967296*18446744073709551616) (i:=3) (d:=h / 4294967296) (by omega) (by omega) (by omega)
 rw[Nat.pow_zero,Nat.mul_one,xnz]at s0;rw[Nat.pow_one,show l % 4294967296+l / 4294967296*4294967296=l by omega]at s1;rw[show l+h % 4294967296*4294967296 ^ 2=l+h % 4294967296*18446744073709551616 by omega]at s2;rw[show l+h % 4294967296*18446744073709551616+h / 4294967296*4294967296 ^ 3=l+h*18446744073709551616 by omega]at s3;simp only[Nat.reduceAdd,xnz]at s0 s1 s2 s3;simp only[j29 (H:=H12),T.a4I,p1,pB,p2,q1,q0n,AV.cells,Nat.reduceAdd,Nat.reduceLeDiff,q0S,q0V,q0T,lcd,z16,q6f,q4R _ hh,q4R _ hl,z9x,z9y,z9z,z9A,s0,s1,s2,s3]
 refine Res.eq ?_ rfl
 (repeat apply Fr.lays)
 exact Fr.refl _
theorem a7o {a:Wd} (ha:a.ok) (m:Mem):Res m (run E12 (.fn 68) [.agg a.cells] m) (.agg (q1w a.val)):=by
 obtain⟨ah,al⟩:=a;obtain⟨a1,a2,a3,a4⟩:=ha;simp only at a1 a2 a3 a4;unfold q1w Wd.val;simp only[Wd.cells];by_cases hn:ah<0
 ·have n1:(-(1+ah):Int)=((-(1+ah)).toNat:Int):=by omega
  rw[dt (show ah*18446744073709551616+al<0 by omega)];by_cases hz:al=0
  ·have fin:=z2j true (h:=(-ah).toNat) (l:=0) (by omega) (by omega) m [.int .i64 ah,.int .u64 al];rw[show 0+(-ah).toNat*18446744073709551616=(ah*18446744073709551616+al).natAbs by omega]at fin;have w1:18446744073709551615-IntKind.wrap .u64 ah=-ah-1:=by rw[q0m];omega
   have w2:IntKind.wrap .u64 (-ah-1+1)=(((-ah).toNat:Nat):Int):=by rw[q0m];omega
   have w3:IntKind.wrap .u64 (18446744073709551615-al+1)=((0:Nat):Int):=by rw[q0m];omega
   have w0:=q0m ah;simp only[z7h (H:=H12) rfl,T.f68,pB,p1,q1,p2,q0N,q0b,q0d,AV.one,AV.cells,lcd,z16,dt hn,q39 (x:=IntKind.wrap .u64 ah) (by rw[w0];omega) (by rw[w0];omega),q39 a3 a4,w1,w2,w3,dt (show ((0:Nat):Int)=0 from rfl)];exact fin
  ·have fin:=z2j true (h:=(-ah-1).toNat) (l:=(18446744073709551616-al).toNat) (by omega) (by omega) m [.int .i64 ah,.int .u64 al];rw[show (18446744073709551616-al).toNat+(-ah-1).toNat*18446744073709551616=(ah*18446744073709551616+al).natAbs by omega]at fin;have w1:18446744073709551615-IntKind.wrap .u64 ah=(((-ah-1).toNat:Nat):Int):=by rw[q0m];omega
   have w3:IntKind.wrap .u64 (18446744073709551615-al+1)=(((18446744073709551616-al).toNat:Nat):Int):=by rw[q0m];omega
   have w0:=q0m ah;simp only[z7h (H:=H12) rfl,T.f68,pB,p1,q1,p2,q0N,q0b,q0d,AV.one,AV.cells,lcd,z16,dt hn,q39 (x:=IntKind.wrap .u64 ah) (by rw[w0];omega) (by rw[w0];omega),q39 a3 a4,w1,w3,df (show ¬(((18446744073709551616-al).toNat:Nat):Int)=0 by omega)];exact fin
 ·rw[df (show ¬ah*18446744073709551616+al<0 by omega)];have fin:=z2j false (h:=ah.toNat) (l:=al.toNat) (by omega) (by omega) m [.int .i64 ah,.int .u64 al];rw[show al.toNat+ah.toNat*18446744073709551616=(ah*18446744073709551616+al).natAbs by omega,show ((ah.toNat:Nat):Int)=ah by omega,show ((al.toNat:Nat):Int)=al by omega]at fin;have w1:IntKind.wrap .u64 ah=ah:=wrap_u64 (by omega) (by omega);simp only[z7h (H:=H12) rfl,T.f68,pB,p1,q1,p2,q0N,q0b,q0d,AV.one,AV.cells,lcd,z16,df hn,w1]
  exact fin
theorem z5G {n:Nat} (hn:n<4294967296 ^ 16) (neg:Bool) (m:Mem):∀(d i:Nat),i+d=16->4<=i->n % 4294967296 ^ i=n % 4294967296 ^ 4->
  (n<4294967296 ^ 4->D12.gor 552960 [.ptr (some ⟨m.next,0⟩),.ptr (some ⟨m.next+1,0⟩),.int .i64 (i:Int)] ((m.lay (.cells (.bool neg::D16 n) false)).lay (.cells [.int .i64 0,.int .u64 0] false)) =
   D12.gor 552963 [.ptr (some ⟨m.next,0⟩),.ptr (some ⟨m.next+1,0⟩)] ((m.lay (.cells (.bool neg::D16 n) false)).lay (.cells [.int .i64 0,.int .u64 0] false)))/\
  (¬n<4294967296 ^ 4->Res m (D12.gor 552960 [.ptr (some ⟨m.next,0⟩),.ptr (some ⟨m.next+1,0⟩),.int .i64 (i:Int)] ((m.lay (.cells (.bool neg::D16 n) false)).lay (.cells [.int .i64 0,.int .u64 0] false))) (.tup [.agg [.int .i64 0,.int .u64 0],.bool false])):=by
 intro d;induction d with
 |zero=>
  intro i hi _ h;have:i=16:=by omega
  subst this;rw[Nat.mod_eq_of_lt hn]at h;have hlt:n<4294967296 ^ 4:=by rw[h];exact Nat.mod_lt _ (q8h 4)
  refine⟨fun _=>?_,fun x=>absurd hlt x⟩
  simp only[q41 (H:=H12),T.z0g,p2,q0b,wp,df (show ¬((16:Nat):Int)<16 by omega)]
 |succ d ih=>
  intro i hi h4 h;have h16:i<16:=by omega
  by_cases e:dig n i=0
  ·have e':decide (((dig n i:Nat):Int)=0)=true:=dt (by omega);obtain⟨i1,i2⟩:=ih (i+1) (by omega) (by omega) (by rw[q3W,e,Nat.zero_mul,xna,h]);constructor
   ·intro hlt;rw[<-i1 hlt];rw[show D12.gor 552960 [.ptr (some ⟨m.next,0⟩),.ptr (some ⟨m.next+1,0⟩),.int .i64 ((i+1:Nat):Int)] ((m.lay (.cells (.bool neg::D16 n) false)).lay (.cells [.int .i64 0,.int .u64 0] false))=D12.gor 552962 [.ptr (some ⟨m.next,0⟩),.ptr (some ⟨m.next+1,0⟩),.int .i64 (i:Int)] ((m.lay (.cells (.bool neg::D16 n) false)).lay (.cells [.int .i64 0,.int .u64 0] false)) by
     simp only[z0h (H:=H12),T.z7N,p2,wp,show (i:Int)+1=((i+1:Nat):Int) by omega,wrap_i64 (n:=((i+1:Nat):Int)) (by omega) (by omega)]]
    simp only[q41 (H:=H12),T.z0g,p2,q0b,wp,dt (show (i:Int)<16 by omega)];simp only[q6Y (H:=H12),T.z2Q,p1,p2,q1,q0n,q0b,q0S,q0V,q0T,lcd,a8A _ h16,q0W _ h16,e',xbt]
   ·intro hlt;simp only[q41 (H:=H12),T.z0g,p2,q0b,wp,dt (show (i:Int)<16 by omega)];simp only[q6Y (H:=H12),T.z2Q,p1,p2,q1,q0n,q0b,q0S,q0V,q0T,lcd,a8A _ h16,q0W _ h16,e',xbt];simp only[z0h (H:=H12),T.z7N,p2,wp,show (i:Int)+1=((i+1:Nat):Int) by omega,wrap_i64 (n:=((i+1:Nat):Int)) (by omega) (by omega)];exact i2 hlt
  ·have e':decide (((dig n i:Nat):Int)=0)=false:=df (by omega);constructor
   ·intro hlt;exact absurd (z6E (Nat.lt_of_lt_of_le hlt (Nat.pow_le_pow_right (by omega) h4))) e
   ·intro _;simp only[q41 (H:=H12),T.z0g,p2,q0b,wp,dt (show (i:Int)<16 by omega)];simp only[q6Y (H:=H12),T.z2Q,p1,p2,q1,q0n,AV.cells,Nat.reduceAdd,Nat.reduceLeDiff,q0b,q0S,q0V,q0T,AV.one,over,lcl,a8A _ h16,q0W _ h16,e',xbf];refine Res.eq ?_ rfl
    (repeat apply Fr.lays)
    exact Fr.refl _
theorem j4T {x:Nat} (h:x<4294967296):q0J Tryz.prog .shl 26 (.int .u64 (x:Int)) (.int .u64 32)=some (.int .u64 ((x*4294967296:Nat):Int)):=by
 rw[show (32:Int)=((32:Nat):Int) from rfl,q8u 26 32 (by omega)];congr 2;have:((x:Int)*2 ^ 32)=(x:Int)*4294967296:=rfl;rw[this];omega
theorem j4O {x:Int} (hx:x.natAbs<4294967296 ^ 16) (m:Mem):Res m (run E12 (.fn 135) [.agg (q1w x)] m) (.tup [.agg (q4b x).1.cells,.bool (q4b x).2]):=by
 obtain⟨l1,l2⟩:=z5G hx (decide (x<0)) m 12 4 rfl (by omega) rfl;obtain⟨n,hn⟩:∃n,n=x.natAbs:=⟨_,rfl⟩;simp only[q1w,j7z (H:=H12) rfl,T.f135,pB,q0N,wp,Wd.cells,AV.one,AV.cells,lcd];rw[<-hn]at l1 l2⊢;rw[show (4:Int)=((4:Nat):Int) from rfl];by_cases hlt:n<4294967296 ^ 4
 ·rw[l1 hlt];obtain⟨lo,hlo⟩:∃lo,lo=n % 18446744073709551616:=⟨_,rfl⟩;obtain⟨hi,hhi⟩:∃hi,hi=n / 18446744073709551616:=⟨_,rfl⟩;have d0:=a9f n;have d1:=a9z n;have d2:=a9A n;have d3:=a9B n;have lt1:=q2B n 1;have lt3:=q2B n 3;have w1:IntKind.wrap .u64 ((dig n 0:Int)+((dig n 1*4294967296:Nat):Int))=(lo:Int):=by rw[q0m];omega
  have w2:IntKind.wrap .u64 ((dig n 2:Int)+((dig n 3*4294967296:Nat):Int))=(hi:Int):=by rw[q0m];omega
  have hlo2:lo<18446744073709551616:=by omega
  have hhi2:hi<18446744073709551616:=by omega
  by_cases hneg:x<0
  ·rw[dt hneg];simp only[z0i (H:=H12),T.z7O,p1,p2,q1,q0n,AV.cells,Nat.reduceAdd,q0b,unA,q0S,q0V,q0T,lcd,z9x,z9y,z9z,z9A,q0W _ (show 0<16 by omega),q0W _ (show 1<16 by omega),q0W _ (show 2<16 by omega),q0W _ (show 3<16 by omega),j4T lt1,j4T lt3,w1,w2,xbt];by_cases g1:9223372036854775808<hi
   ·have hf:q0M x=false:=q1q (by omega);simp only[q42 (H:=H12),T.z0j,p2,p1,q0n,AV.cells,Nat.reduceAdd,Nat.reduceLeDiff,q0b,ifV,q0S,q0V,q0B,AV.one,over,lcl,dt (show (9223372036854775808:Int)<(hi:Int) by omega)];refine Res.eq ?_ (by unfold q4b;rw[if_neg (by rw[hf];decide),if_neg (by omega)])
    (repeat apply Fr.lays)
    exact Fr.refl _
   ·have main:q0M x=true->Res m (D12.gor 552965 [.ptr (some ⟨m.next+1,0⟩),.int .u64 (lo:Int),.int .u64 (hi:Int)] ((m.lay (.cells (.bool true::D16 n) false)).lay (.cells [.int .i64 0,.int .u64 0] false))) (.tup [.agg (q4b x).1.cells,.bool (q4b x).2]):=by
     intro hf;have hv:q4b x=(Wd.of x,true):=by unfold q4b;rw[if_pos hf]
     rw[hv];unfold q0M at hf;simp only[Bool.and_eq_true,decide_eq_true_eq]at hf;by_cases g2:lo=0
     ·have u1:IntKind.wrap .u64 (18446744073709551615-(lo:Int)+1)=0:=by rw[q0m];omega
      have u2:IntKind.wrap .i64 (IntKind.wrap .u64 (18446744073709551615-(hi:Int)+1))=(Wd.of x).hi:=by rw[q2N,q0m];unfold Wd.of;simp only;omega
      simp only[z0k (H:=H12),T.z7P,p1,p2,q0b,wp,q39 (x:=(lo:Int)) (by omega) (by omega),q39 (x:=(hi:Int)) (by omega) (by omega),u1,decide_true];simp only[z0l (H:=H12),T.z7Q,p1,q0n,AV.cells,Nat.reduceAdd,Nat.reduceLeDiff,q0S,q0V,q0B,Wd.cells,AV.one,over,lcl,u2];refine Res.eq ?_ (by unfold Wd.of;simp only[AV.tup.injEq,List.cons.injEq,AV.agg.injEq,AV.int.injEq,true_and,and_true];omega)
      (repeat apply Fr.lays)
      exact Fr.refl _
     ·have u1:IntKind.wrap .u64 (18446744073709551615-(lo:Int)+1)=(Wd.of x).lo:=by rw[q0m];unfold Wd.of;simp only;omega
      have u2:IntKind.wrap .i64 (18446744073709551615-(hi:Int))=(Wd.of x).hi:=by rw[q2N];unfold Wd.of;simp only;omega
      simp only[z0k (H:=H12),T.z7P,p1,p2,q0b,wp,q39 (x:=(lo:Int)) (by omega) (by omega),q39 (x:=(hi:Int)) (by omega) (by omega),u1,df (show ¬(Wd.of x).lo=0 by unfold Wd.of;simp only;omega)];simp only[z0l (H:=H12),T.z7Q,p1,q0n,AV.cells,Nat.reduceAdd,Nat.reduceLeDiff,q0S,q0V,q0B,Wd.cells,AV.one,over,lcl,u2];refine Res.eq ?_ rfl
      (repeat apply Fr.lays)
      exact Fr.refl _
    by_cases g3:hi=9223372036854775808
    ·by_cases g4:0<lo
     ·have hf:q0M x=false:=q1q (by omega);simp only[q42 (H:=H12),T.z0j,p2,p1,q0n,AV.cells,Nat.reduceAdd,Nat.reduceLeDiff,q0b,ifV,q0S,q0V,q0B,AV.one,over,lcl,df (show ¬(9223372036854775808:Int)<(hi:Int) by omega),dt (show (hi:Int)=9223372036854775808 by omega),dt (show (0:Int)<(lo:Int) by omega)];refine Res.eq ?_ (by unfold q4b;rw[if_neg (by rw[hf];decide),if_neg (by omega)])
      (repeat apply Fr.lays)
      exact Fr.refl _
     ·simp only[q42 (H:=H12),T.z0j,p2,p1,q0n,AV.cells,Nat.reduceAdd,Nat.reduceLeDiff,q0b,ifV,q0S,q0V,q0B,AV.one,over,lcl,df (show ¬(9223372036854775808:Int)<(hi:Int) by omega),dt (show (hi:Int)=9223372036854775808 by omega),df (show ¬(0:Int)<(lo:Int) by omega)];exact main (q0X (by omega) (by omega))
    ·simp only[q42 (H:=H12),T.z0j,p2,p1,q0n,AV.cells,Nat.reduceAdd,Nat.reduceLeDiff,q0b,ifV,q0S,q0V,q0B,AV.one,over,lcl,df (show ¬(9223372036854775808:Int)<(hi:Int) by omega),df (show ¬(hi:Int)=9223372036854775808 by omega)];exact main (q0X (by omega) (by omega))
  ·rw[df hneg];simp only[z0i (H:=H12),T.z7O,p1,p2,q1,q0n,AV.cells,Nat.reduceAdd,Nat.reduceLeDiff,q0b,unA,q0S,q0V,q0T,AV.one,over,lcl,q1r,z9x,z9y,z9z,z9A,q0W _ (show 0<16 by omega),q0W _ (show 1<16 by omega),q0W _ (show 2<16 by omega),q0W _ (show 3<16 by omega),j4T lt1,j4T lt3,w1,w2,xbf];refine Res.eq (?_:Fr _ _ _) ?_
   ·(repeat apply Fr.lays)
    exact Fr.refl _
   ·unfold q4b;by_cases g:hi<9223372036854775808
    ·have hf:q0M x=true:=q0X (by omega) (by omega);rw[if_pos hf,dt (show (hi:Int)<9223372036854775808 by omega),wrap_i64 (by omega) (by omega)];unfold Wd.of;simp only[AV.tup.injEq,List.cons.injEq,AV.agg.injEq,AV.int.injEq,true_and,and_true];omega
    ·have hf:q0M x=false:=q1q (by omega);rw[if_neg (by rw[hf];decide),if_pos (by omega),df (show ¬(hi:Int)<9223372036854775808 by omega),q2N];simp only[AV.tup.injEq,List.cons.injEq,AV.agg.injEq,AV.int.injEq,true_and,and_true];omega
 ·have hf:q0M x=false:=q1q (by omega);have hv:q4b x=(⟨0,0⟩,false):=by unfold q4b;rw[if_neg (by rw[hf];decide),if_neg (by omega)]
  rw[hv];exact l2 hlt
end
section
set_option maxRecDepth 4000
open Go Go.Abs
def S13:List FuncId:=[152,151,70,68,135]
noncomputable def H13:FuncId->Option (List AV->Mem->R):=q1y E12 S13
noncomputable abbrev E13:Env:=T.EH H13
theorem a04:q1i E13:=q0Q a03 S13
section
variable {H:FuncId->Option (List AV->Mem->R)}
theorem a0m (h:H 152=some (q0x E12 152)) {a b:Nat} (ha:a<4294967296 ^ 16) (hb:b<4294967296 ^ 16) (hb0:0<b) (m:Mem):run (T.EH H) (.fn 152) [.agg (D16 a),.agg (D16 b)] m=some (.tup [.agg (D16 (a / b)),.agg (D16 (a % b))],m):=
 q0s h (by simp[AV.flat,AV.lt,AV.lts,q4c]) fun m2 _ _=>a0n ha hb hb0 m2
theorem j0C (h:H 151=some (q0x E12 151)) {k:Nat} (hk:k<=60) (m:Mem):run (T.EH H) (.fn 151) [.int .i64 (k:Int)] m=some (.agg (D16 (10 ^ k)),m):=
 q0s h (by simp[AV.flat,AV.lt,q4c]) fun m2 _ _=>a0y hk m2
theorem q4s (h:H 70=some (q0x E12 70)) {a:Nat} (ha:a<4294967296 ^ 16) (m:Mem):run (T.EH H) (.fn 70) [.agg (D16 a)] m=some (.bool (decide (a=0)),m):=
 q0s h (by simp[AV.flat,AV.lt]) fun m2 _ _=>j4P ha m2
theorem q3M (h:H 68=some (q0x E12 68)) {a:Wd} (ha:a.ok) (m:Mem):run (T.EH H) (.fn 68) [.agg a.cells] m=some (.agg (q1w a.val),m):=
 q0s h (by simp[AV.flat,AV.lt,q3U]) fun m2 _ _=>a7o ha m2
theorem z4s (h:H 135=some (q0x E12 135)) {x:Int} (hx:x.natAbs<4294967296 ^ 16) (m:Mem):run (T.EH H) (.fn 135) [.agg (q1w x)] m=some (.tup [.agg (q4b x).1.cells,.bool (q4b x).2],m):=
 q0s h (by simp[AV.flat,AV.lt,AV.lts,Wd.cells]) fun m2 _ _=>j4O hx m2
end
theorem q21 {n k:Nat} (h:n<4294967296 ^ k) (hk:k<=16):n<4294967296 ^ 16:=Nat.lt_of_lt_of_le h (Nat.pow_le_pow_right (by omega) hk)
theorem z4j {a b:Nat} (ha:a<4294967296 ^ 8) (hb:b<4294967296 ^ 7):a*b<4294967296 ^ 16:=by
 have h:=Nat.mul_lt_mul'' ha hb;rw[<-Nat.pow_add]at h;exact q21 h (by omega)
theorem j0E {a b:Int} (ha:a.natAbs<4294967296 ^ 8) (hb:b.natAbs<4294967296 ^ 7) (m:Mem):Res m (run E13 (.fn 138) [.agg (q1w a),.agg (q1w b)] m) (.agg (q1w (a*b))):=by
 have mu:=fun m=>j0p (H:=H13) rfl ha hb m
 have zr:=fun m=>q4s (H:=H13) rfl (z4j ha hb) m
 unfold q1w;rw[Int.natAbs_mul];by_cases h:(decide (a<0)==decide (b<0))=true
 ·have hn:decide (a*b<0)=false:=by
   apply df;intro hh;have h':=eq_of_beq h;by_cases h1:a<0
   ·rw[dt h1]at h';have h2:=of_decide_eq_true h'.symm;have:=Int.mul_pos_of_neg_of_neg h1 h2;omega
   ·rw[df h1]at h';have h2:=of_decide_eq_false h'.symm;have:=Int.mul_nonneg (show 0<=a by omega) (show 0<=b by omega);omega
  simp only[z6X (H:=H13) rfl,T.f138,pB,p1,q1,p2,q0n,AV.cells,Nat.reduceAdd,Nat.reduceLeDiff,q0N,ifV,unA,q0S,q0V,j0Z,AV.one,lcd,z16,mu,h,xbt,hn];refine Res.eq ?_ rfl
  (repeat apply Fr.lays)
  exact Fr.refl _
 ·rw[Bool.not_eq_true]at h;have hn:(!decide (a.natAbs*b.natAbs=0))=decide (a*b<0):=by
   have h':¬(decide (a<0)=decide (b<0)):=by intro e;rw[e]at h;simp at h
   have hz:(a.natAbs*b.natAbs=0)=(a*b=0):=by rw[<-Int.natAbs_mul];apply propext;exact Int.natAbs_eq_zero
   rw[<-decide_not];apply decide_eq_decide.mpr;rw[hz];by_cases h1:a<0
   ·rw[dt h1]at h';have h2:¬b<0:=fun x=>h' (dt x).symm
    have:=Int.mul_nonneg (show 0<=-a by omega) (show 0<=b by omega);rw[Int.neg_mul]at this;omega
   ·rw[df h1]at h';have h2:b<0:=by
     apply Classical.byContradiction;intro x;exact h' (df x).symm
    have:=Int.mul_nonneg (show 0<=a by omega) (show 0<=-b by omega);rw[Int.mul_neg]at this;omega
  simp only[z6X (H:=H13) rfl,T.f138,pB,p1,q1,p2,q0n,AV.cells,Nat.reduceAdd,Nat.reduceLeDiff,q0N,ifV,unA,q0S,q0V,j0Z,AV.one,lcd,z16,mu,h,xbf,zr,hn];refine Res.eq ?_ rfl
  (repeat apply Fr.lays)
  exact Fr.refl _
theorem j0o {x:Int} (hx:x.natAbs<4294967296 ^ 16) (m:Mem):Res m (run E13 (.fn 115) [.agg (q1w x)] m) (.agg (q1w (-x))):=by
 have zr:=fun m=>q4s (H:=H13) rfl hx m
 unfold q1w;rw[Int.natAbs_neg];by_cases h:x<0
 ·rw[dt h,df (show ¬-x<0 by omega)];simp only[z6P (H:=H13) rfl,T.f115,pB,p1,q1,q0n,AV.cells,Nat.reduceAdd,Nat.reduceLeDiff,q0N,ifV,unA,q0S,q0V,q0T,AV.one,lcd,z16,xbt];refine Res.eq ?_ rfl
  (repeat apply Fr.lays)
  exact Fr.refl _
 ·rw[df h];have hn:(!decide (x.natAbs=0))=decide (-x<0):=by
   rw[<-decide_not];apply decide_eq_decide.mpr;omega
  simp only[z6P (H:=H13) rfl,T.f115,pB,p1,q1,q0n,AV.cells,Nat.reduceAdd,Nat.reduceLeDiff,q0N,ifV,unA,q0S,q0V,q0T,AV.one,lcd,z16,xbf,zr,hn];refine Res.eq ?_ rfl
  (repeat apply Fr.lays)
  exact Fr.refl _
theorem a0x {x y:Int} (hx:x.natAbs<4294967296 ^ 15) (hy:y.natAbs<4294967296 ^ 15) (m:Mem):Res m (run E13 (.fn 69) [.agg (q1w x),.agg (q1w y)] m) (.agg (q1w (x+y))):=by
 have hx':=q21 hx (by omega);have hy':=q21 hy (by omega);have ad:=fun m=>q9t (H:=H13) rfl x.natAbs y.natAbs m
 have cm:=fun m=>z2f (H:=H13) rfl hx' hy' m
 unfold q1w;by_cases h:(decide (x<0)==decide (y<0))=true
 ·have hs:decide (x+y<0)=decide (x<0)/\(x+y).natAbs=x.natAbs+y.natAbs:=by
   have h':=eq_of_beq h;by_cases h1:x<0
   ·rw[dt h1]at h';have h2:=of_decide_eq_true h'.symm;exact⟨by rw[dt h1];exact dt (by omega),by omega⟩
   ·rw[df h1]at h';have h2:=of_decide_eq_false h'.symm;exact⟨by rw[df h1];exact df (by omega),by omega⟩
  rw[hs.1,hs.2];simp only[j5l (H:=H13) rfl,T.f69,pB,p1,q1,p2,q0n,AV.cells,Nat.reduceAdd,Nat.reduceLeDiff,q0N,q0b,q0S,q0V,a7H,AV.one,lcd,z16,ad,h];refine Res.eq ?_ rfl
  (repeat apply Fr.lays)
  exact Fr.refl _
 ·rw[Bool.not_eq_true]at h;have h':¬(decide (x<0)=decide (y<0)):=by intro e;rw[e]at h;simp at h
  simp only[j5l (H:=H13) rfl,T.f69,pB,p1,q1,p2,q0n,AV.cells,Nat.reduceAdd,Nat.reduceLeDiff,q0N,q0b,q0S,q0V,a7H,AV.one,lcd,z16,h];by_cases hl:x.natAbs<y.natAbs
  ·have hc:decide (q7t x.natAbs y.natAbs<0)=true:=by unfold q7t;rw[if_pos hl];decide
   have sb:=fun m=>z2m (H:=H13) rfl (show x.natAbs<=y.natAbs by omega) m
   have hs:decide (x+y<0)=decide (y<0)/\(x+y).natAbs=y.natAbs-x.natAbs:=by
    by_cases h1:x<0
    ·rw[dt h1]at h';have h2:¬y<0:=fun x=>h' (dt x).symm
     exact⟨decide_eq_decide.mpr (by omega),by omega⟩
    ·rw[df h1]at h';have h2:y<0:=by
      apply Classical.byContradiction;intro x;exact h' (df x).symm
     exact⟨decide_eq_decide.mpr (by omega),by omega⟩
   rw[hs.1,hs.2];simp only[z3D (H:=H13),T.j8C,p1,q1,p2,q0n,AV.cells,Nat.reduceAdd,Nat.reduceLeDiff,q0b,q0S,q0V,q0T,lcd,cm,hc,sb];refine Res.eq ?_ rfl
   (repeat apply Fr.lays)
   exact Fr.refl _
  ·have hc:decide (q7t x.natAbs y.natAbs<0)=false:=by unfold q7t;rw[if_neg hl];split<;>decide
   have sb:=fun m=>z2m (H:=H13) rfl (show y.natAbs<=x.natAbs by omega) m
   have zr:=fun m=>q4s (H:=H13) rfl (a:=x.natAbs-y.natAbs) (by omega) m
   have ha:(x+y).natAbs=x.natAbs-y.natAbs:=by
    by_cases h1:x<0
    ·rw[dt h1]at h';have h2:¬y<0:=fun x=>h' (dt x).symm
     omega
    ·rw[df h1]at h';have h2:y<0:=by
      apply Classical.byContradiction;intro x;exact h' (df x).symm
     omega
   rw[ha];simp only[z3D (H:=H13),T.j8C,p1,q1,p2,q0n,AV.cells,Nat.reduceAdd,Nat.reduceLeDiff,q0b,q0S,q0V,q0T,lcd,cm,hc];by_cases h1:x<0
   ·have hn:(!decide (x.natAbs-y.natAbs=0))=decide (x+y<0):=by
     rw[dt h1]at h';have h2:¬y<0:=fun x=>h' (dt x).symm
     rw[<-decide_not];exact decide_eq_decide.mpr (by omega)
    rw[dt h1];simp only[z3E (H:=H13),T.j8D,p1,q1,pB,q0n,AV.cells,Nat.reduceAdd,Nat.reduceLeDiff,ifV,unA,q0S,q0V,q0T,lcd,z16,sb,zr,hn];refine Res.eq ?_ rfl
    (repeat apply Fr.lays)
    exact Fr.refl _
   ·have hn:decide (x+y<0)=false:=by
     rw[df h1]at h';have h2:y<0:=by
      apply Classical.byContradiction;intro x;exact h' (df x).symm
     exact df (by omega)
    rw[df h1,hn];simp only[z3E (H:=H13),T.j8D,p1,q1,pB,q0n,AV.cells,Nat.reduceAdd,Nat.reduceLeDiff,ifV,unA,q0S,q0V,q0T,lcd,z16,sb];refine Res.eq ?_ rfl
    (repeat apply Fr.lays)
    exact Fr.refl _
theorem q8g {x:Int} (h:q0M x=true):q4b x=(Wd.of x,true):=by unfold q4b;rw[if_pos h]
theorem z1n {x:Int} (h:q0M x=false):(q4b x).2=false:=by unfold q4b;rw[if_neg (by rw[h];decide)];split<;>rfl
theorem a0z {x:Int} (hx:x.natAbs<4294967296 ^ 16) (m:Mem):Res m (run E13 (.fn 114) [.agg (q1w x)] m) (.tup [.agg (Wd.res x).1.cells,.int .i64 (Wd.res x).2]):=by
 have wd:=fun m=>z4s (H:=H13) rfl hx m
 cases hf:q0M x with
 |true=>
  rw[q8g hf]at wd;rw[q1u hf];simp only[q1w,Wd.cells]at wd⊢;simp only[z6O (H:=H13) rfl,T.f114,pB,q1,p1,q0n,AV.cells,Nat.reduceAdd,Nat.reduceLeDiff,q0N,q0l,q0b,unA,q0S,q0V,q0B,AV.one,over,lcl,q1r,q4d,q3l,wd,xbt];simp only[z7C (H:=H13),T.j5J,q1,q0S,q0V,wp,AV.one,over,AV.cells,Nat.reduceAdd,Nat.reduceLeDiff,lcl];refine Res.eq ?_ rfl
  (repeat apply Fr.lays)
  exact Fr.refl _
 |false=>
  rw[z1n hf]at wd;rw[a0o hf];simp only[q1w,Wd.cells]at wd⊢;simp only[z6O (H:=H13) rfl,T.f114,pB,q1,p1,q0n,AV.cells,Nat.reduceAdd,Nat.reduceLeDiff,q0N,q0l,q0b,unA,q0S,q0V,q0B,AV.one,over,lcl,q1r,q4d,q3l,wd,xbf];refine Res.eq ?_ rfl
  (repeat apply Fr.lays)
  exact Fr.refl _
theorem a0l {x:Int} (hx:x.natAbs<4294967296 ^ 16) (to:Int) (m:Mem):Res m (run E13 (.fn 136) [.agg (q1w x),.int .i64 to] m) (q3V x to):=by
 have wd:=fun m=>z4s (H:=H13) rfl hx m
 unfold q3V;cases hf:q0M x with
 |true=>
  rw[q8g hf]at wd;simp only[q1w,Wd.cells,q0H,if_true]at wd⊢;simp only[z6V (H:=H13) rfl,T.f136,pB,q1,p1,q0n,AV.cells,Nat.reduceAdd,Nat.reduceLeDiff,q0N,q0l,q0b,unA,q0S,q0V,q0B,AV.one,over,lcl,q1r,q4d,q3l,wd,xbt];simp only[z7R (H:=H13),T.j5Q,q1,p1,q0n,AV.cells,Nat.reduceAdd,Nat.reduceLeDiff,q0S,q0V,q0B,AV.one,over,lcl]
  refine Res.eq ?_ rfl
  (repeat apply Fr.lays)
  exact Fr.refl _
 |false=>
  rw[z1n hf]at wd;simp only[q1w,Wd.cells,q0H,xbq,if_false]at wd⊢;simp only[z6V (H:=H13) rfl,T.f136,pB,q1,p1,q0n,AV.cells,Nat.reduceAdd,Nat.reduceLeDiff,q0N,q0l,q0b,unA,q0S,q0V,q0B,AV.one,over,lcl,q1r,q4d,q3l,wd,xbf];refine Res.eq ?_ rfl
  (repeat apply Fr.lays)
  exact Fr.refl _
theorem z5E (w:Wd) (s:Int) (m:Mem):Res m (run E13 (.fn 78) [.agg (q0H w s)] m) (.bool (decide (0<=s/\s<=18))):=by
 by_cases h1:0<=s
 ·simp only[q0H,j5m (H:=H13) rfl,T.f78,p1,q1,p2,q0N,ifV,q0d,AV.one,AV.cells,lcl,dt (show s>=0 from h1)];refine Res.eq ?_ (by congr 1;exact decide_eq_decide.mpr (by omega))
  (repeat apply Fr.lays)
  exact Fr.refl _
 ·simp only[q0H,j5m (H:=H13) rfl,T.f78,p1,q1,p2,q0N,ifV,q0d,AV.one,AV.cells,lcl,df (show ¬s>=0 from h1)];refine Res.eq ?_ (by congr 1;exact(df (by omega)).symm)
  (repeat apply Fr.lays)
  exact Fr.refl _
end
section
set_option maxRecDepth 4000
open Go Go.Abs
def S14:List FuncId:=[138,115,69,114,136,78]
noncomputable def H14:FuncId->Option (List AV->Mem->R):=q1y E13 S14
noncomputable abbrev E14:Env:=T.EH H14
theorem a05:q1i E14:=q0Q a04 S14
noncomputable abbrev D14:Do:=T.Rl H14
section
variable {H:FuncId->Option (List AV->Mem->R)}
theorem z08 (h:H 138=some (q0x E13 138)) {a b:Int} (ha:a.natAbs<4294967296 ^ 8) (hb:b.natAbs<4294967296 ^ 7) (m:Mem):run (T.EH H) (.fn 138) [.agg (q1w a),.agg (q1w b)] m=some (.agg (q1w (a*b)),m):=
 q0s h (by simp[AV.flat,AV.lt,q3U]) fun m2 _ _=>j0E ha hb m2
theorem z07 (h:H 115=some (q0x E13 115)) {x:Int} (hx:x.natAbs<4294967296 ^ 16) (m:Mem):run (T.EH H) (.fn 115) [.agg (q1w x)] m=some (.agg (q1w (-x)),m):=
 q0s h (by simp[AV.flat,AV.lt,q3U]) fun m2 _ _=>j0o hx m2
theorem q5R (h:H 69=some (q0x E13 69)) {x y:Int} (hx:x.natAbs<4294967296 ^ 15) (hy:y.natAbs<4294967296 ^ 15) (m:Mem):run (T.EH H) (.fn 69) [.agg (q1w x),.agg (q1w y)] m=some (.agg (q1w (x+y)),m):=
 q0s h (by simp[AV.flat,AV.lt,q3U]) fun m2 _ _=>a0x hx hy m2
theorem j0F (h:H 114=some (q0x E13 114)) {x:Int} (hx:x.natAbs<4294967296 ^ 16) (m:Mem):run (T.EH H) (.fn 114) [.agg (q1w x)] m=some (.tup [.agg (Wd.res x).1.cells,.int .i64 (Wd.res x).2],m):=
 q0s h (by simp[AV.flat,AV.lt,AV.lts,Wd.cells]) fun m2 _ _=>a0z hx m2
theorem a0k (h:H 136=some (q0x E13 136)) {x:Int} (hx:x.natAbs<4294967296 ^ 16) (to:Int) (m:Mem):run (T.EH H) (.fn 136) [.agg (q1w x),.int .i64 to] m=some (q3V x to,m):=
 q0s h (q6L _ _) fun m2 _ _=>a0l hx to m2
theorem q4r (h:H 78=some (q0x E13 78)) (w:Wd) (s:Int) (m:Mem):run (T.EH H) (.fn 78) [.agg (q0H w s)] m=some (.bool (decide (0<=s/\s<=18)),m):=
 q0s h (by simp[AV.flat,AV.lt]) fun m2 _ _=>z5E w s m2
end
theorem q9I (k:Nat):q2S k=((10 ^ k:Nat):Int):=by unfold q2S;exact (Int.natCast_pow 10 k).symm
def j02 (x k:Int):Int:=if k<=0 then x*q2S (-k).toNat else if x<0 then -(rhe (-x) k.toNat) else rhe x k.toNat
theorem a0q {x:Int} {q:Nat} (hq:q<4294967296 ^ 16) (hz:x=0->q=0) (m:Mem) (c0 c1 c2 c3:List AV) :
  Res m (D14.gor 561153 [.ptr (some ⟨m.next,0⟩),.ptr (some ⟨m.next+1,0⟩),.ptr (some ⟨m.next+1+1+1,0⟩)]
   ((((((m.lay (.cells (q1w x) false)).lay (.cells (.bool false::D16 0) false)).lay (.cells c0 false)).lay (.cells (D16 q) false)).lay (.cells c1 false)).lay (.cells c2 false))) (.agg (q1w (if x<0 then -(q:Int) else (q:Int)))):=by
 have zr:=fun m=>q4s (H:=H14) rfl hq m
 by_cases h:x<0
 ·rw[if_pos h];have hn:(!decide (q=0))=decide (-(q:Int)<0):=by rw[<-decide_not];exact decide_eq_decide.mpr (by omega)
  simp only[q1w,dt h,show (-(q:Int)).natAbs=q by omega];simp only[z0n (H:=H14),T.z7S,p1,q1,q0n,AV.cells,Nat.reduceAdd,Nat.reduceLeDiff,ifV,unA,q0S,q0V,q0T,lcd,z16,zr,hn];refine Res.eq ?_ rfl
  (repeat apply Fr.lays)
  exact Fr.refl _
 ·rw[if_neg h];simp only[q1w,df h,show ((q:Int)).natAbs=q by omega,df (show ¬(q:Int)<0 by omega)];simp only[z0n (H:=H14),T.z7S,p1,q1,q0n,AV.cells,Nat.reduceAdd,Nat.reduceLeDiff,ifV,unA,q0S,q0V,q0T,lcd,z16];refine Res.eq ?_ rfl
  (repeat apply Fr.lays)
  exact Fr.refl _
theorem j0A {x:Int} (hx:x.natAbs<4294967296 ^ 8) {k:Int} (hk0:-60<=k) (hk1:k<=60) (m:Mem):Res m (run E14 (.fn 137) [.agg (q1w x),.int .i64 k] m) (.agg (q1w (j02 x k))):=by
 by_cases h:k<=0
 ·obtain⟨j,hj⟩:∃j:Nat,k=-(j:Int):=⟨(-k).toNat,by omega⟩;subst hj;have tn:=fun m=>j0C (H:=H14) rfl (k:=j) (by omega) m
  have ti:=fun m=>z08 (H:=H14) rfl hx (b:=((10 ^ j:Nat):Int)) (by rw[Int.natAbs_natCast];exact q5t (by omega)) m
  have hb:q1w ((10 ^ j:Nat):Int)=.bool false::D16 (10 ^ j):=by
   unfold q1w;rw[Int.natAbs_natCast,df (Int.not_lt.mpr (Int.natCast_nonneg _))]
  rw[hb]at ti;have hr:j02 x (-(j:Int))=x*((10 ^ j:Nat):Int):=by
   unfold j02;rw[if_pos h,show (-(-(j:Int))).toNat=j by omega,q9I]
  rw[hr];have hneg:IntKind.wrap .i64 (0 - -(j:Int))=(j:Int):=by rw[wrap_i64 (by omega) (by omega)];omega
  simp only[q1w]at ti⊢;simp only[z6W (H:=H14) rfl,T.f137,pB,p2,q1,p1,q0n,AV.cells,Nat.reduceAdd,Nat.reduceLeDiff,q0N,q0b,q0S,q0V,q0B,unA,AV.one,lcd,z16,dt h,hneg,tn,ti];refine Res.eq ?_ rfl
  (repeat apply Fr.lays)
  exact Fr.refl _
 ·obtain⟨j,hj⟩:∃j:Nat,k=(j:Int):=⟨k.toNat,by omega⟩;subst hj;have tn:=fun m=>j0C (H:=H14) rfl (k:=j) (by omega) m
  have hp:0<10 ^ j:=Nat.pow_pos (by omega);have hpl:=q5t (k:=j) (by omega);have hpl':=q21 hpl (by omega);have dv:=fun m=>a0m (H:=H14) rfl (q21 hx (by omega)) hpl' hp m
  obtain⟨n,hn⟩:∃n,n=x.natAbs:=⟨_,rfl⟩;rw[<-hn]at dv;have hx':=hx;rw[<-hn]at hx;have ql:n / 10 ^ j<=n:=Nat.div_le_self _ _;have rl:=Nat.mod_lt n hp;have fin:=fun {q:Nat} hq hz=>a0q (x:=x) (q:=q) hq hz m
  have tP:=q9I j;have hq1:n / 10 ^ j+1<4294967296 ^ 16:=by
   have h1:n+1<4294967296 ^ 16:=Nat.lt_of_le_of_lt (show n+1<=4294967296 ^ 8 from hx) (Nat.pow_lt_pow_right (by omega) (by omega));omega
  have hval:j02 x (j:Int)=(if x<0 then -(((if 10 ^ j<2*(n % 10 ^ j)\/(2*(n % 10 ^ j)=10 ^ j/\n / 10 ^ j % 2=1) then n / 10 ^ j+1 else n / 10 ^ j:Nat):Int)) else ((if 10 ^ j<2*(n % 10 ^ j)\/(2*(n % 10 ^ j)=10 ^ j/\n / 10 ^ j % 2=1) then n / 10 ^ j+1 else n / 10 ^ j:Nat):Int)):=by
   have key:rhe (n:Int) j=((if 10 ^ j<2*(n % 10 ^ j)\/(2*(n % 10 ^ j)=10 ^ j/\n / 10 ^ j % 2=1) then n / 10 ^ j+1 else n / 10 ^ j:Nat):Int):=by
    unfold rhe;rw[tP,<-Int.natCast_ediv,<-Int.natCast_emod];by_cases hc:10 ^ j<2*(n % 10 ^ j)\/(2*(n % 10 ^ j)=10 ^ j/\n / 10 ^ j % 2=1)
    ·rw[if_pos hc,if_pos (by omega)];rfl
    ·rw[if_neg hc,if_neg (by omega)]
   unfold j02;rw[if_neg h,show ((j:Int)).toNat=j by omega];by_cases hneg:x<0
   ·rw[if_pos hneg,if_pos hneg,show -x=(n:Int) by omega,key]
   ·rw[if_neg hneg,if_neg hneg,show x=(n:Int) by omega,key]
  have hz:x=0->(if 10 ^ j<2*(n % 10 ^ j)\/(2*(n % 10 ^ j)=10 ^ j/\n / 10 ^ j % 2=1) then n / 10 ^ j+1 else n / 10 ^ j)=0:=by
   intro h0;have:n=0:=by omega
   subst this;rw[Nat.zero_mod,Nat.zero_div];rw[if_neg (by omega)]
  rw[hval];obtain⟨p,hpp⟩:∃p,p=10 ^ j:=⟨_,rfl⟩;rw[<-hpp]at tn hp hpl hpl' dv ql rl hq1 hz⊢;obtain⟨q,hqq⟩:∃q,q=n / p:=⟨_,rfl⟩;obtain⟨r,hrr⟩:∃r,r=n % p:=⟨_,rfl⟩;rw[<-hqq]at dv ql hq1 hz⊢;rw[<-hrr]at dv rl hz⊢;have a1:=fun m=>q9t (H:=H14) rfl r r m
  have a2:=fun m=>q9t (H:=H14) rfl q 1 m
  have hr2:r+r<4294967296 ^ 16:=by
   have h1:r+r<=4294967296 ^ 7+4294967296 ^ 7:=by omega
   exact Nat.lt_of_le_of_lt h1 (by decide)
  have cm:=fun m=>z2f (H:=H14) rfl hr2 hpl' m
  have s1:over (D16 0) 0 (.int .u64 1) 1=some (D16 1):=q7l (n:=1) (by omega);have hodd:((dig q 0:Nat):Int).tmod 2=((q % 2:Nat):Int):=by
   rw[Int.tmod_eq_emod_of_nonneg (Int.natCast_nonneg _),a9f];omega
  have z2:(2:Int)≠0:=by omega
  simp only[q1w]at fin;simp only[q1w,<-hn,z6W (H:=H14) rfl,T.f137,pB,p2,q1,p1,q0n,AV.cells,Nat.reduceAdd,Nat.reduceLeDiff,q0N,q0b,q0S,q0V,q0B,AV.one,lcd,z16,df h];simp only[<-hn]at fin;by_cases c1:p<2*r
  ·have hI:(if p<2*r\/(2*r=p/\q % 2=1) then q+1 else q)=q+1:=if_pos (.inl c1)
   rw[hI]at hz⊢;have e1:decide ((0:Int)<q7t (r+r) p)=true:=by unfold q7t;rw[if_neg (by omega),if_neg (by omega)];rfl
   simp only[q43 (H:=H14),T.z0m,pB,p1,q1,p2,q0l,q0b,ifV,Nat.reduceAdd,q1b,Nat.reduceLeDiff,lcd,z16,z11,s1,tn,dv,a1,cm,e1,a2];exact fin hq1 hz _ _ _ []
  ·have e1:decide ((0:Int)<q7t (r+r) p)=false:=by unfold q7t;split<;>(try split)<;>first|rfl|omega
   by_cases c2:2*r=p
   ·have e2:decide (q7t (r+r) p=0)=true:=by unfold q7t;rw[if_neg (by omega),if_pos (by omega)];rfl
    by_cases c3:q % 2=1
    ·have hI:(if p<2*r\/(2*r=p/\q % 2=1) then q+1 else q)=q+1:=if_pos (.inr ⟨c2,c3⟩)
     rw[hI]at hz⊢;have e3:decide (((q % 2:Nat):Int)=1)=true:=dt (by omega);simp only[q43 (H:=H14),T.z0m,pB,p1,q1,p2,q0l,q0b,ifV,Nat.reduceAdd,q1b,Nat.reduceLeDiff,lcd,z16,z11,s1,tn,dv,a1,cm,e1,e2,q0W _ (show 0<16 by omega),q27 _ _ _ _ z2,hodd,e3,a2];exact fin hq1 hz _ _ _ []
    ·have hI:(if p<2*r\/(2*r=p/\q % 2=1) then q+1 else q)=q:=if_neg (by omega)
     rw[hI]at hz⊢;have e3:decide (((q % 2:Nat):Int)=1)=false:=df (by omega);simp only[q43 (H:=H14),T.z0m,pB,p1,q1,p2,q0l,q0b,ifV,Nat.reduceAdd,q1b,Nat.reduceLeDiff,lcd,z16,z11,s1,tn,dv,a1,cm,e1,e2,q0W _ (show 0<16 by omega),q27 _ _ _ _ z2,hodd,e3];exact fin (by omega) hz _ _ _ []
   ·have e2:decide (q7t (r+r) p=0)=false:=by unfold q7t;split<;>(try split)<;>first|rfl|omega
    have hI:(if p<2*r\/(2*r=p/\q % 2=1) then q+1 else q)=q:=if_neg (by omega)
    rw[hI]at hz⊢;simp only[q43 (H:=H14),T.z0m,pB,p1,q1,p2,q0l,q0b,ifV,Nat.reduceAdd,q1b,Nat.reduceLeDiff,lcd,z16,z11,s1,tn,dv,a1,cm,e1,e2];exact fin (by omega) hz _ _ _ []
end
section
set_option maxRecDepth 4000
open Go Go.Abs
def S15:List FuncId:=[137]
noncomputable def H15:FuncId->Option (List AV->Mem->R):=q1y E14 S15
noncomputable abbrev E15:Env:=T.EH H15
theorem a06:q1i E15:=q0Q a05 S15
noncomputable abbrev D15:Do:=T.Rl H15
theorem j0z {H:FuncId->Option (List AV->Mem->R)} (h:H 137=some (q0x E14 137)) {x:Int} (hx:x.natAbs<4294967296 ^ 8) {k:Int} (hk0:-60<=k) (hk1:k<=60) (m:Mem):run (T.EH H) (.fn 137) [.agg (q1w x),.int .i64 k] m=some (.agg (q1w (j02 x k)),m):=
 q0s h (by simp[AV.flat,AV.lt,q3U]) fun m2 _ _=>j0A hx hk0 hk1 m2
theorem q5w {w:Wd} (h:w.ok):w.val.natAbs<=170141183460469231731687303715884105728:=by
 have:=z2x h;unfold q1F at this;split at this<;>omega
theorem z2h (k:Nat):rhe 0 k=0:=by
 unfold rhe;rw[Int.zero_emod,Int.zero_ediv];have:=q3I k;rw[if_neg (by omega)]
theorem a0r (x y k:Int):j02 (x*y) k=z9O x y k:=by
 have hs:=a7w x y;unfold z9O scF;obtain⟨A,hA⟩:∃A,A=q1F x*q1F y:=⟨_,rfl⟩;have hA0:0<=A:=by
  rw[hA];have h0:∀z,0<=q1F z:=fun z=>by unfold q1F;split<;>omega
  exact Int.mul_nonneg (h0 x) (h0 y)
 rw[<-hA]at hs⊢;unfold j02;by_cases hk:0<=k
 ·rw[if_pos hk];by_cases hk0:k=0
  ·subst hk0;rw[if_pos (by omega),show (-(0:Int)).toNat=0 from rfl,show (0:Int).toNat=0 from rfl,show q2S 0=1 from rfl,Int.mul_one,j4B];exact hs.symm
  ·rw[if_neg (by omega)];by_cases hb:(!(decide (x<0)==decide (y<0)))=true
   ·rw[if_pos hb]at hs⊢;by_cases h:x*y<0
    ·rw[if_pos h,show -(x*y)=A by omega]
    ·rw[if_neg h];have h0:A=0:=by omega
     have h1:x*y=0:=by omega
     rw[h0,h1,z2h];rfl
   ·rw[if_neg hb]at hs⊢;rw[if_neg (by omega),<-hs]
 ·rw[if_neg hk,if_pos (by omega)]
theorem z03 {n:Int} (h:0<=n) (k:Nat):(rhe n k).natAbs<=n.natAbs+1:=by
 have h1:=j6u h k;have h2:=a7m h k;omega
theorem j0s {x k:Int} (hx:x.natAbs<4294967296 ^ 8) (hk:-18<=k):(j02 x k).natAbs<4294967296 ^ 16:=by
 unfold j02;split
 ·rw[Int.natAbs_mul,q9I,Int.natAbs_natCast];exact z4j hx (q5t (by omega))
 ·have h8:4294967296 ^ 8+1<4294967296 ^ 16:=by decide
  split
  ·have:=z03 (show 0<=-x by omega) k.toNat;rw[Int.natAbs_neg]at this;rw[Int.natAbs_neg];omega
  ·have:=z03 (show 0<=x by omega) k.toNat;omega
theorem j6E {a b:Wd} (ha:a.ok) (hb:b.ok):(a.val*b.val).natAbs<4294967296 ^ 8:=by
 rw[Int.natAbs_mul];exact Nat.lt_of_le_of_lt (Nat.mul_le_mul (q5w ha) (q5w hb)) (by decide)
theorem a9d {a:Wd} (ha:a.ok):a.val.natAbs<4294967296 ^ 7:=Nat.lt_of_le_of_lt (q5w ha) (by decide)
theorem a7J {a:Wd} (ha:a.ok):a.val.natAbs<4294967296 ^ 8:=Nat.lt_of_le_of_lt (q5w ha) (by decide)
theorem q2L {a:Wd} (ha:a.ok):a.val.natAbs<4294967296 ^ 15:=Nat.lt_of_le_of_lt (q5w ha) (by decide)
end
section
open Go Go.Abs
theorem j38 (a b:(List UInt8)) (m:Mem):run E15 (.fn 118) [.str a,.str b] m=some (.bool (q0c a b),m):=by
 simp only[j7u (H:=H15) rfl,T.f118,p1,p2,ifV,unA,wp,j7A (H:=H15) rfl,T.f139,wp,decide_true,xbt]
 try rfl
section
variable {m:Mem} {sk:AV} {ks:List (List UInt8)} {kb:Option Nat}
theorem j1h (h:q0L 1 m sk (ks.map fun k=>[.str k]) kb) (hs:Srt q0c ks) (hl:ks.length<4611686018427387904) (k:(List UInt8)):∀(d i j:Nat),j-i<=d->i<=j->j<=ks.length->
  (∀x (hx:x<ks.length),x<i->q0c ks[x] k=true)->(∀x (hx:x<ks.length),j<=x->q0c ks[x] k=false)->
  D15.gor 335872 [sk,.str k,.int .i64 ks.length,.int .i64 i,.int .i64 j] m=some (.tup [.int .i64 (lb q0c k ks:Nat),.bool (q0Y q0c k ks)],m):=by
 intro d;induction d with
 |zero=>
  intro i j hd hij hj h1 h2;have e:i=j:=by omega
  subst e;have hlb:lb q0c k ks=i:=q2G hj h1 (fun hx=>h2 i hx (xnr _))
  simp only[z3M (H:=H15),T.j3l,p2,q0b,wp,df (show ¬(i:Int)<(i:Int) by omega)];by_cases hi:i<ks.length
  ·obtain⟨b,rfl,g1,g2⟩:=h.key hi;simp only[z3P (H:=H15),T.j3n,p2,q1,ifV,wp,dt (show (i:Int)<(ks.length:Int) by omega),true_or,if_true,g1,g2,j7v (H:=H15) rfl,T.f119,wp,decide_true,xbt];by_cases hk:ks[i]=k
   ·rw[dt hk];simp only[q0Y,hlb,xgq hi,hk,decide_true]
   ·rw[df hk];simp only[q0Y,hlb,xgq hi,xoi,df hk]
  ·simp only[z3P (H:=H15),T.j3n,p2,q1,ifV,wp,df (show ¬(i:Int)<(ks.length:Int) by omega)];simp only[q0Y,hlb,List.getElem?_eq_none (show ks.length<=i by omega),reduceCtorEq,decide_false]
 |succ d ih=>
  intro i j hd hij hj h1 h2;by_cases e:i=j
  ·exact ih i j (by omega) hij hj h1 h2
  ·have hlt:i<j:=by omega
   obtain⟨hh,hh1⟩:∃hh:Nat,hh=(i+j) / 2:=⟨_,rfl⟩;have hh2:i<=hh/\hh<j:=by omega
   have hh3:IntKind.wrap .i64 ((IntKind.wrap .u64 (IntKind.wrap .i64 ((i:Int)+(j:Int)))).fdiv (2 ^ (min (1:Int).toNat IntKind.u64.bits)))=(hh:Int):=by
    rw[wrap_i64 (n:=(i:Int)+j) (by omega) (by omega),wrap_u64 (by omega) (by omega)];have:((2:Int) ^ (min (1:Int).toNat IntKind.u64.bits))=2:=by rfl
    rw[this,Int.fdiv_eq_ediv_of_nonneg _ (by omega),wrap_i64 (by omega) (by omega)];omega
   have hx:hh<ks.length:=by omega
   obtain⟨b,rfl,g1,g2⟩:=h.key hx;simp only[z3M (H:=H15),T.j3l,p2,q0b,wp,dt (show (i:Int)<(j:Int) by omega)];simp only[j3m (H:=H15),T.j8M,p2,p1,q1,q0b,wp,q5D _ _ _ _ _ (show (0:Int)<=1 by omega),hh3,true_or,if_true,g1,g2,j38];cases hc:q0c ks[hh] k with
   |true=>
    simp only;rw[wrap_i64 (by omega) (by omega),show (hh:Int)+1=((hh+1:Nat):Int) by omega];refine ih (hh+1) j (by omega) (by omega) hj (fun x hx' hlt'=>?_) h2
    by_cases e2:x=hh
    ·subst e2;exact hc
    ·exact q05 _ _ _ (q2q hs (show x<hh by omega) hx) hc
   |false=>
    simp only;refine ih i hh (by omega) (by omega) (by omega) h1 (fun x hx' hle=>?_)
    by_cases e2:x=hh
    ·subst e2;exact hc
    ·cases hc2:q0c ks[x] k with
     |false=>rfl
     |true=>rw[q05 _ _ _ (q2q hs (show hh<x by omega) hx') hc2]at hc;cases hc
theorem q7K (h:q0L 1 m sk (ks.map fun k=>[.str k]) kb) (hs:Srt q0c ks) (hl:ks.length<4611686018427387904) (k:(List UInt8)) :
  run E15 (.fn 82) [sk,.str k] m=some (.tup [.int .i64 (lb q0c k ks:Nat),.bool (q0Y q0c k ks)],m):=by
 have:=j1h h hs hl k ks.length 0 ks.length (by omega) (by omega) (xnr _) (by intro x _ hx;omega) (by intro x hx hx';omega);obtain⟨a,sz,cap,ex,rfl⟩:=h.j6q;simp only[a2h (H:=H15) rfl,T.f82,p1,wp];exact this
end
end
end Go.Proofs.YtlginbmjiecglaaGreatDoor
