/- Texts of one claim, put together. -/
import Derived.Test.YtlginbmjiecglaaGreatDoorK17
namespace Go.Proofs.YtlginbmjiecglaaGreatDoor
section
set_option maxRecDepth 4000
open Go Go.Abs
theorem z3O (neg:Bool) {h l:Nat} (hh:h<18446744073709551616) (hl:l<18446744073709551616) (m:Mem) (cs:List AV) :
  Res m (D12.gor 278528 [.ptr (some ⟨m.next+1,0⟩),.int .u64 (h:Int),.int .u64 (l:Int),.bool neg] ((m.lay (.cells cs false)).lay (.cells (.bool false::D16 0) false))) (.agg (.bool neg::D16 (l+h*18446744073709551616))):=by
 have s0:=q4E (.bool neg) (n:=0) (i:=0) (d:=l % 4294967296) (by omega) (q87 0) (by omega);have s1:=q4E (.bool neg) (n:=l % 4294967296) (i:=1) (d:=l / 4294967296) (by omega) (by omega) (by omega);have s2:=q4E (.bool neg) (n:=l) (i:=2) (d:=h % 4294967296) (by omega) (by omega) (by omega);have s3:=q4E (.bool neg) (n:=l+h % 4294967296*18446744073709551616) (i:=3) (d:=h / 4294967296) (by omega) (by omega) (by omega)
 rw[Nat.pow_zero,Nat.mul_one,xnz]at s0;rw[Nat.pow_one,show l % 4294967296+l / 4294967296*4294967296=l by omega]at s1;rw[show l+h % 4294967296*4294967296 ^ 2=l+h % 4294967296*18446744073709551616 by omega]at s2;rw[show l+h % 4294967296*18446744073709551616+h / 4294967296*4294967296 ^ 3=l+h*18446744073709551616 by omega]at s3;simp only[Nat.reduceAdd,xnz]at s0 s1 s2 s3;simp only[j41 (H:=H12),T.a7G,p1,pB,p2,q1,q0o,AV.cells,Nat.reduceAdd,Nat.reduceLeDiff,q0H,q0I,q0E,lcd,z16,q6X,q5d _ hh,q5d _ hl,j1D,j1E,j1F,j1G,s0,s1,s2,s3]
 refine Res.eq ?_ rfl
 (repeat apply Fr.lays)
 exact Fr.refl _
theorem b0g {a:Wd} (ha:a.ok) (m:Mem):Res m (run E12 (.fn 68) [.agg a.cells] m) (.agg (q2t a.val)):=by
 obtain⟨ah,al⟩:=a;obtain⟨a1,a2,a3,a4⟩:=ha;simp only at a1 a2 a3 a4;unfold q2t Wd.val;simp only[Wd.cells];by_cases hn:ah<0
 ·have n1:(-(1+ah):Int)=((-(1+ah)).toNat:Int):=by omega
  rw[dt (show ah*18446744073709551616+al<0 by omega)];by_cases hz:al=0
  ·have fin:=z3O true (h:=(-ah).toNat) (l:=0) (by omega) (by omega) m [.int .i64 ah,.int .u64 al];rw[show 0+(-ah).toNat*18446744073709551616=(ah*18446744073709551616+al).natAbs by omega]at fin;have w1:18446744073709551615-IntKind.wrap .u64 ah=-ah-1:=by rw[q0n];omega
   have w2:IntKind.wrap .u64 (-ah-1+1)=(((-ah).toNat:Nat):Int):=by rw[q0n];omega
   have w3:IntKind.wrap .u64 (18446744073709551615-al+1)=((0:Nat):Int):=by rw[q0n];omega
   have w0:=q0n ah;simp only[z9y (H:=H12) rfl,T.f68,pB,p1,q1,p2,q0K,q0a,q0e,AV.one,AV.cells,lcd,z16,dt hn,q4g (x:=IntKind.wrap .u64 ah) (by rw[w0];omega) (by rw[w0];omega),q4g a3 a4,w1,w2,w3,dt (show ((0:Nat):Int)=0 from rfl)];exact fin
  ·have fin:=z3O true (h:=(-ah-1).toNat) (l:=(18446744073709551616-al).toNat) (by omega) (by omega) m [.int .i64 ah,.int .u64 al];rw[show (18446744073709551616-al).toNat+(-ah-1).toNat*18446744073709551616=(ah*18446744073709551616+al).natAbs by omega]at fin;have w1:18446744073709551615-IntKind.wrap .u64 ah=(((-ah-1).toNat:Nat):Int):=by rw[q0n];omega
   have w3:IntKind.wrap .u64 (18446744073709551615-al+1)=(((18446744073709551616-al).toNat:Nat):Int):=by rw[q0n];omega
   have w0:=q0n ah;simp only[z9y (H:=H12) rfl,T.f68,pB,p1,q1,p2,q0K,q0a,q0e,AV.one,AV.cells,lcd,z16,dt hn,q4g (x:=IntKind.wrap .u64 ah) (by rw[w0];omega) (by rw[w0];omega),q4g a3 a4,w1,w3,df (show ¬(((18446744073709551616-al).toNat:Nat):Int)=0 by omega)];exact fin
 ·rw[df (show ¬ah*18446744073709551616+al<0 by omega)];have fin:=z3O false (h:=ah.toNat) (l:=al.toNat) (by omega) (by omega) m [.int .i64 ah,.int .u64 al];rw[show al.toNat+ah.toNat*18446744073709551616=(ah*18446744073709551616+al).natAbs by omega,show ((ah.toNat:Nat):Int)=ah by omega,show ((al.toNat:Nat):Int)=al by omega]at fin;have w1:IntKind.wrap .u64 ah=ah:=wrap_u64 (by omega) (by omega);simp only[z9y (H:=H12) rfl,T.f68,pB,p1,q1,p2,q0K,q0a,q0e,AV.one,AV.cells,lcd,z16,df hn,w1]
  exact fin
theorem z7X {n:Nat} (hn:n<4294967296 ^ 16) (neg:Bool) (m:Mem):∀(d i:Nat),i+d=16->4<=i->n % 4294967296 ^ i=n % 4294967296 ^ 4->
  (n<4294967296 ^ 4->D12.gor 552960 [.ptr (some ⟨m.next,0⟩),.ptr (some ⟨m.next+1,0⟩),.int .i64 (i:Int)] ((m.lay (.cells (.bool neg::D16 n) false)).lay (.cells [.int .i64 0,.int .u64 0] false)) =
   D12.gor 552963 [.ptr (some ⟨m.next,0⟩),.ptr (some ⟨m.next+1,0⟩)] ((m.lay (.cells (.bool neg::D16 n) false)).lay (.cells [.int .i64 0,.int .u64 0] false)))/\
  (¬n<4294967296 ^ 4->Res m (D12.gor 552960 [.ptr (some ⟨m.next,0⟩),.ptr (some ⟨m.next+1,0⟩),.int .i64 (i:Int)] ((m.lay (.cells (.bool neg::D16 n) false)).lay (.cells [.int .i64 0,.int .u64 0] false))) (.tup [.agg [.int .i64 0,.int .u64 0],.bool false])):=by
 intro d;induction d with
 |zero=>
  intro i hi _ h;have:i=16:=by omega
  subst this;rw[Nat.mod_eq_of_lt hn]at h;have hlt:n<4294967296 ^ 4:=by rw[h];exact Nat.mod_lt _ (q87 4)
  refine⟨fun _=>?_,fun x=>absurd hlt x⟩
  simp only[q5r (H:=H12),T.z1c,p2,q0a,wp,df (show ¬((16:Nat):Int)<16 by omega)]
 |succ d ih=>
  intro i hi h4 h;have h16:i<16:=by omega
  by_cases e:dig n i=0
  ·have e':decide (((dig n i:Nat):Int)=0)=true:=dt (by omega);obtain⟨i1,i2⟩:=ih (i+1) (by omega) (by omega) (by rw[q34,e,Nat.zero_mul,xna,h]);constructor
   ·intro hlt;rw[<-i1 hlt];rw[show D12.gor 552960 [.ptr (some ⟨m.next,0⟩),.ptr (some ⟨m.next+1,0⟩),.int .i64 ((i+1:Nat):Int)] ((m.lay (.cells (.bool neg::D16 n) false)).lay (.cells [.int .i64 0,.int .u64 0] false))=D12.gor 552962 [.ptr (some ⟨m.next,0⟩),.ptr (some ⟨m.next+1,0⟩),.int .i64 (i:Int)] ((m.lay (.cells (.bool neg::D16 n) false)).lay (.cells [.int .i64 0,.int .u64 0] false)) by
     simp only[z1d (H:=H12),T.z99,p2,wp,show (i:Int)+1=((i+1:Nat):Int) by omega,wrap_i64 (n:=((i+1:Nat):Int)) (by omega) (by omega)]]
    simp only[q5r (H:=H12),T.z1c,p2,q0a,wp,dt (show (i:Int)<16 by omega)];simp only[q7N (H:=H12),T.z4E,p1,p2,q1,q0o,q0a,q0H,q0I,q0E,lcd,b03 _ h16,q07 _ h16,e',xbt]
   ·intro hlt;simp only[q5r (H:=H12),T.z1c,p2,q0a,wp,dt (show (i:Int)<16 by omega)];simp only[q7N (H:=H12),T.z4E,p1,p2,q1,q0o,q0a,q0H,q0I,q0E,lcd,b03 _ h16,q07 _ h16,e',xbt];simp only[z1d (H:=H12),T.z99,p2,wp,show (i:Int)+1=((i+1:Nat):Int) by omega,wrap_i64 (n:=((i+1:Nat):Int)) (by omega) (by omega)]
    exact i2 hlt
  ·have e':decide (((dig n i:Nat):Int)=0)=false:=df (by omega);constructor
   ·intro hlt;exact absurd (z8T (Nat.lt_of_lt_of_le hlt (Nat.pow_le_pow_right (by omega) h4))) e
   ·intro _;simp only[q5r (H:=H12),T.z1c,p2,q0a,wp,dt (show (i:Int)<16 by omega)];simp only[q7N (H:=H12),T.z4E,p1,p2,q1,q0o,AV.cells,Nat.reduceAdd,Nat.reduceLeDiff,q0a,q0H,q0I,q0E,AV.one,over,lcl,b03 _ h16,q07 _ h16,e',xbf];refine Res.eq ?_ rfl
    (repeat apply Fr.lays)
    exact Fr.refl _
theorem j6I {x:Nat} (h:x<4294967296):q0S Tryz.prog .shl 26 (.int .u64 (x:Int)) (.int .u64 32)=some (.int .u64 ((x*4294967296:Nat):Int)):=by
 rw[show (32:Int)=((32:Nat):Int) from rfl,q9j 26 32 (by omega)];congr 2;have:((x:Int)*2 ^ 32)=(x:Int)*4294967296:=rfl;rw[this];omega
theorem j6C {x:Int} (hx:x.natAbs<4294967296 ^ 16) (m:Mem):Res m (run E12 (.fn 135) [.agg (q2t x)] m) (.tup [.agg (q4j x).1.cells,.bool (q4j x).2]):=by
 obtain⟨l1,l2⟩:=z7X hx (decide (x<0)) m 12 4 rfl (by omega) rfl;obtain⟨n,hn⟩:∃n,n=x.natAbs:=⟨_,rfl⟩;simp only[q2t,j9N (H:=H12) rfl,T.f135,pB,q0K,wp,Wd.cells,AV.one,AV.cells,lcd];rw[<-hn]at l1 l2⊢;rw[show (4:Int)=((4:Nat):Int) from rfl];by_cases hlt:n<4294967296 ^ 4
 ·rw[l1 hlt];obtain⟨lo,hlo⟩:∃lo,lo=n % 18446744073709551616:=⟨_,rfl⟩;obtain⟨hi,hhi⟩:∃hi,hi=n / 18446744073709551616:=⟨_,rfl⟩;have d0:=b1z n;have d1:=b1Z n;have d2:=b2a n;have d3:=b2b n;have lt1:=q2R n 1;have lt3:=q2R n 3;have w1:IntKind.wrap .u64 ((dig n 0:Int)+((dig n 1*4294967296:Nat):Int))=(lo:Int):=by rw[q0n];omega
  have w2:IntKind.wrap .u64 ((dig n 2:Int)+((dig n 3*4294967296:Nat):Int))=(hi:Int):=by rw[q0n];omega
  have hlo2:lo<18446744073709551616:=by omega
  have hhi2:hi<18446744073709551616:=by omega
  by_cases hneg:x<0
  ·rw[dt hneg];simp only[z1e (H:=H12),T.j0a,p1,p2,q1,q0o,AV.cells,Nat.reduceAdd,q0a,unA,q0H,q0I,q0E,lcd,j1D,j1E,j1F,j1G,q07 _ (show 0<16 by omega),q07 _ (show 1<16 by omega),q07 _ (show 2<16 by omega),q07 _ (show 3<16 by omega),j6I lt1,j6I lt3,w1,w2,xbt];by_cases g1:9223372036854775808<hi
   ·have hf:q0Q x=false:=q1m (by omega);simp only[q5s (H:=H12),T.z1f,p2,p1,q0o,AV.cells,Nat.reduceAdd,Nat.reduceLeDiff,q0a,ifV,q0H,q0I,q0w,AV.one,over,lcl,dt (show (9223372036854775808:Int)<(hi:Int) by omega)];refine Res.eq ?_ (by unfold q4j;rw[if_neg (by rw[hf];decide),if_neg (by omega)])
    (repeat apply Fr.lays)
    exact Fr.refl _
   ·have main:q0Q x=true->Res m (D12.gor 552965 [.ptr (some ⟨m.next+1,0⟩),.int .u64 (lo:Int),.int .u64 (hi:Int)] ((m.lay (.cells (.bool true::D16 n) false)).lay (.cells [.int .i64 0,.int .u64 0] false))) (.tup [.agg (q4j x).1.cells,.bool (q4j x).2]):=by
     intro hf;have hv:q4j x=(Wd.of x,true):=by unfold q4j;rw[if_pos hf]
     rw[hv];unfold q0Q at hf;simp only[Bool.and_eq_true,decide_eq_true_eq]at hf;by_cases g2:lo=0
     ·have u1:IntKind.wrap .u64 (18446744073709551615-(lo:Int)+1)=0:=by rw[q0n];omega
      have u2:IntKind.wrap .i64 (IntKind.wrap .u64 (18446744073709551615-(hi:Int)+1))=(Wd.of x).hi:=by rw[q2o,q0n];unfold Wd.of;simp only;omega
      simp only[z1g (H:=H12),T.j0b,p1,p2,q0a,wp,q4g (x:=(lo:Int)) (by omega) (by omega),q4g (x:=(hi:Int)) (by omega) (by omega),u1,decide_true];simp only[z1h (H:=H12),T.j0c,p1,q0o,AV.cells,Nat.reduceAdd,Nat.reduceLeDiff,q0H,q0I,q0w,Wd.cells,AV.one,over,lcl,u2];refine Res.eq ?_ (by unfold Wd.of;simp only[AV.tup.injEq,List.cons.injEq,AV.agg.injEq,AV.int.injEq,true_and,and_true];omega)
      (repeat apply Fr.lays)
      exact Fr.refl _
     ·have u1:IntKind.wrap .u64 (18446744073709551615-(lo:Int)+1)=(Wd.of x).lo:=by rw[q0n];unfold Wd.of;simp only;omega
      have u2:IntKind.wrap .i64 (18446744073709551615-(hi:Int))=(Wd.of x).hi:=by rw[q2o];unfold Wd.of;simp only;omega
      simp only[z1g (H:=H12),T.j0b,p1,p2,q0a,wp,q4g (x:=(lo:Int)) (by omega) (by omega),q4g (x:=(hi:Int)) (by omega) (by omega),u1,df (show ¬(Wd.of x).lo=0 by unfold Wd.of;simp only;omega)];simp only[z1h (H:=H12),T.j0c,p1,q0o,AV.cells,Nat.reduceAdd,Nat.reduceLeDiff,q0H,q0I,q0w,Wd.cells,AV.one,over,lcl,u2];refine Res.eq ?_ rfl
      (repeat apply Fr.lays)
      exact Fr.refl _
    by_cases g3:hi=9223372036854775808
    ·by_cases g4:0<lo
     ·have hf:q0Q x=false:=q1m (by omega);simp only[q5s (H:=H12),T.z1f,p2,p1,q0o,AV.cells,Nat.reduceAdd,Nat.reduceLeDiff,q0a,ifV,q0H,q0I,q0w,AV.one,over,lcl,df (show ¬(9223372036854775808:Int)<(hi:Int) by omega),dt (show (hi:Int)=9223372036854775808 by omega),dt (show (0:Int)<(lo:Int) by omega)];refine Res.eq ?_ (by unfold q4j;rw[if_neg (by rw[hf];decide),if_neg (by omega)])
      (repeat apply Fr.lays)
      exact Fr.refl _
     ·simp only[q5s (H:=H12),T.z1f,p2,p1,q0o,AV.cells,Nat.reduceAdd,Nat.reduceLeDiff,q0a,ifV,q0H,q0I,q0w,AV.one,over,lcl,df (show ¬(9223372036854775808:Int)<(hi:Int) by omega),dt (show (hi:Int)=9223372036854775808 by omega),df (show ¬(0:Int)<(lo:Int) by omega)];exact main (q0V (by omega) (by omega))
    ·simp only[q5s (H:=H12),T.z1f,p2,p1,q0o,AV.cells,Nat.reduceAdd,Nat.reduceLeDiff,q0a,ifV,q0H,q0I,q0w,AV.one,over,lcl,df (show ¬(9223372036854775808:Int)<(hi:Int) by omega),df (show ¬(hi:Int)=9223372036854775808 by omega)];exact main (q0V (by omega) (by omega))
  ·rw[df hneg];simp only[z1e (H:=H12),T.j0a,p1,p2,q1,q0o,AV.cells,Nat.reduceAdd,Nat.reduceLeDiff,q0a,unA,q0H,q0I,q0E,AV.one,over,lcl,q1Q,j1D,j1E,j1F,j1G,q07 _ (show 0<16 by omega),q07 _ (show 1<16 by omega),q07 _ (show 2<16 by omega),q07 _ (show 3<16 by omega),j6I lt1,j6I lt3,w1,w2,xbf];refine Res.eq (?_:Fr _ _ _) ?_
   ·(repeat apply Fr.lays)
    exact Fr.refl _
   ·unfold q4j;by_cases g:hi<9223372036854775808
    ·have hf:q0Q x=true:=q0V (by omega) (by omega);rw[if_pos hf,dt (show (hi:Int)<9223372036854775808 by omega),wrap_i64 (by omega) (by omega)];unfold Wd.of;simp only[AV.tup.injEq,List.cons.injEq,AV.agg.injEq,AV.int.injEq,true_and,and_true];omega
    ·have hf:q0Q x=false:=q1m (by omega);rw[if_neg (by rw[hf];decide),if_pos (by omega),df (show ¬(hi:Int)<9223372036854775808 by omega),q2o];simp only[AV.tup.injEq,List.cons.injEq,AV.agg.injEq,AV.int.injEq,true_and,and_true];omega
 ·have hf:q0Q x=false:=q1m (by omega);have hv:q4j x=(⟨0,0⟩,false):=by unfold q4j;rw[if_neg (by rw[hf];decide),if_neg (by omega)]
  rw[hv];exact l2 hlt
end
section
set_option maxRecDepth 4000
open Go Go.Abs
def S13:List FuncId:=[152,151,70,68,135]
noncomputable def H13:FuncId->Option (List AV->Mem->R):=q1J E12 S13
noncomputable abbrev E13:Env:=T.EH H13
theorem a4a:q1u E13:=q0Y a3Z S13
section
variable {H:FuncId->Option (List AV->Mem->R)}
theorem a3i (h:H 152=some (q0y E12 152)) {a b:Nat} (ha:a<4294967296 ^ 16) (hb:b<4294967296 ^ 16) (hb0:0<b) (m:Mem):run (T.EH H) (.fn 152) [.agg (D16 a),.agg (D16 b)] m=some (.tup [.agg (D16 (a / b)),.agg (D16 (a % b))],m):=
 q0r h (by simp[AV.flat,AV.lt,AV.lts,q4k]) fun m2 _ _=>a3j ha hb hb0 m2
theorem j2H (h:H 151=some (q0y E12 151)) {k:Nat} (hk:k<=60) (m:Mem):run (T.EH H) (.fn 151) [.int .i64 (k:Int)] m=some (.agg (D16 (10 ^ k)),m):=
 q0r h (by simp[AV.flat,AV.lt,q4k]) fun m2 _ _=>a3v hk m2
theorem q5V (h:H 70=some (q0y E12 70)) {a:Nat} (ha:a<4294967296 ^ 16) (m:Mem):run (T.EH H) (.fn 70) [.agg (D16 a)] m=some (.bool (decide (a=0)),m):=
 q0r h (by simp[AV.flat,AV.lt]) fun m2 _ _=>j6D ha m2
theorem q6H (h:H 68=some (q0y E12 68)) {a:Wd} (ha:a.ok) (m:Mem):run (T.EH H) (.fn 68) [.agg a.cells] m=some (.agg (q2t a.val),m):=
 q0r h (by simp[AV.flat,AV.lt,q31]) fun m2 _ _=>b0g ha m2
theorem z6t (h:H 135=some (q0y E12 135)) {x:Int} (hx:x.natAbs<4294967296 ^ 16) (m:Mem):run (T.EH H) (.fn 135) [.agg (q2t x)] m=some (.tup [.agg (q4j x).1.cells,.bool (q4j x).2],m):=
 q0r h (by simp[AV.flat,AV.lt,AV.lts,Wd.cells]) fun m2 _ _=>j6C hx m2
end
theorem q3E {n k:Nat} (h:n<4294967296 ^ k) (hk:k<=16):n<4294967296 ^ 16:=Nat.lt_of_lt_of_le h (Nat.pow_le_pow_right (by omega) hk)
theorem z6i {a b:Nat} (ha:a<4294967296 ^ 8) (hb:b<4294967296 ^ 7):a*b<4294967296 ^ 16:=by
 have h:=Nat.mul_lt_mul'' ha hb;rw[<-Nat.pow_add]at h;exact q3E h (by omega)
theorem j2J {a b:Int} (ha:a.natAbs<4294967296 ^ 8) (hb:b.natAbs<4294967296 ^ 7) (m:Mem):Res m (run E13 (.fn 138) [.agg (q2t a),.agg (q2t b)] m) (.agg (q2t (a*b))):=by
 have mu:=fun m=>j2x (H:=H13) rfl ha hb m
 have zr:=fun m=>q5V (H:=H13) rfl (z6i ha hb) m
 unfold q2t;rw[Int.natAbs_mul];by_cases h:(decide (a<0)==decide (b<0))=true
 ·have hn:decide (a*b<0)=false:=by
   apply df;intro hh;have h':=eq_of_beq h;by_cases h1:a<0
   ·rw[dt h1]at h';have h2:=of_decide_eq_true h'.symm;have:=Int.mul_pos_of_neg_of_neg h1 h2;omega
   ·rw[df h1]at h';have h2:=of_decide_eq_false h'.symm;have:=Int.mul_nonneg (show 0<=a by omega) (show 0<=b by omega);omega
  simp only[z9n (H:=H13) rfl,T.f138,pB,p1,q1,p2,q0o,AV.cells,Nat.reduceAdd,Nat.reduceLeDiff,q0K,ifV,unA,q0H,q0I,z6E,AV.one,lcd,z16,mu,h,xbt,hn];refine Res.eq ?_ rfl
  (repeat apply Fr.lays)
  exact Fr.refl _
 ·rw[Bool.not_eq_true]at h;have hn:(!decide (a.natAbs*b.natAbs=0))=decide (a*b<0):=by
   have h':¬(decide (a<0)=decide (b<0)):=by intro e;rw[e]at h;simp at h
   have hz:(a.natAbs*b.natAbs=0)=(a*b=0):=by rw[<-Int.natAbs_mul];apply propext;exact Int.natAbs_eq_zero
   rw[<-decide_not];apply decide_eq_decide.mpr;rw[hz];by_cases h1:a<0
   ·rw[dt h1]at h';have h2:¬b<0:=fun x=>h' (dt x).symm
    have:=Int.mul_nonneg (show 0<=-a by omega) (show 0<=b by omega);rw[Int.neg_mul]at this;omega
   ·rw[df h1]at h';have h2:b<0:=by
     apply Classical.byContradiction;intro x;exact h' (df x).symm
    have:=Int.mul_nonneg (show 0<=a by omega) (show 0<=-b by omega);rw[Int.mul_neg]at this;omega
  simp only[z9n (H:=H13) rfl,T.f138,pB,p1,q1,p2,q0o,AV.cells,Nat.reduceAdd,Nat.reduceLeDiff,q0K,ifV,unA,q0H,q0I,z6E,AV.one,lcd,z16,mu,h,xbf,zr,hn];refine Res.eq ?_ rfl
  (repeat apply Fr.lays)
  exact Fr.refl _
theorem j2w {x:Int} (hx:x.natAbs<4294967296 ^ 16) (m:Mem):Res m (run E13 (.fn 115) [.agg (q2t x)] m) (.agg (q2t (-x))):=by
 have zr:=fun m=>q5V (H:=H13) rfl hx m
 unfold q2t;rw[Int.natAbs_neg];by_cases h:x<0
 ·rw[dt h,df (show ¬-x<0 by omega)];simp only[z9f (H:=H13) rfl,T.f115,pB,p1,q1,q0o,AV.cells,Nat.reduceAdd,Nat.reduceLeDiff,q0K,ifV,unA,q0H,q0I,q0E,AV.one,lcd,z16,xbt];refine Res.eq ?_ rfl
  (repeat apply Fr.lays)
  exact Fr.refl _
 ·rw[df h];have hn:(!decide (x.natAbs=0))=decide (-x<0):=by
   rw[<-decide_not];apply decide_eq_decide.mpr;omega
  simp only[z9f (H:=H13) rfl,T.f115,pB,p1,q1,q0o,AV.cells,Nat.reduceAdd,Nat.reduceLeDiff,q0K,ifV,unA,q0H,q0I,q0E,AV.one,lcd,z16,xbf,zr,hn];refine Res.eq ?_ rfl
  (repeat apply Fr.lays)
  exact Fr.refl _
theorem a3u {x y:Int} (hx:x.natAbs<4294967296 ^ 15) (hy:y.natAbs<4294967296 ^ 15) (m:Mem):Res m (run E13 (.fn 69) [.agg (q2t x),.agg (q2t y)] m) (.agg (q2t (x+y))):=by
 have hx':=q3E hx (by omega);have hy':=q3E hy (by omega);have ad:=fun m=>z0j (H:=H13) rfl x.natAbs y.natAbs m
 have cm:=fun m=>z3L (H:=H13) rfl hx' hy' m
 unfold q2t;by_cases h:(decide (x<0)==decide (y<0))=true
 ·have hs:decide (x+y<0)=decide (x<0)/\(x+y).natAbs=x.natAbs+y.natAbs:=by
   have h':=eq_of_beq h;by_cases h1:x<0
   ·rw[dt h1]at h';have h2:=of_decide_eq_true h'.symm;exact⟨by rw[dt h1];exact dt (by omega),by omega⟩
   ·rw[df h1]at h';have h2:=of_decide_eq_false h'.symm;exact⟨by rw[df h1];exact df (by omega),by omega⟩
  rw[hs.1,hs.2];simp only[j7o (H:=H13) rfl,T.f69,pB,p1,q1,p2,q0o,AV.cells,Nat.reduceAdd,Nat.reduceLeDiff,q0K,q0a,q0H,q0I,b0t,AV.one,lcd,z16,ad,h];refine Res.eq ?_ rfl
  (repeat apply Fr.lays)
  exact Fr.refl _
 ·rw[Bool.not_eq_true]at h;have h':¬(decide (x<0)=decide (y<0)):=by intro e;rw[e]at h;simp at h
  simp only[j7o (H:=H13) rfl,T.f69,pB,p1,q1,p2,q0o,AV.cells,Nat.reduceAdd,Nat.reduceLeDiff,q0K,q0a,q0H,q0I,b0t,AV.one,lcd,z16,h];by_cases hl:x.natAbs<y.natAbs
  ·have hc:decide (q8n x.natAbs y.natAbs<0)=true:=by unfold q8n;rw[if_pos hl];decide
   have sb:=fun m=>z3S (H:=H13) rfl (show x.natAbs<=y.natAbs by omega) m
   have hs:decide (x+y<0)=decide (y<0)/\(x+y).natAbs=y.natAbs-x.natAbs:=by
    by_cases h1:x<0
    ·rw[dt h1]at h';have h2:¬y<0:=fun x=>h' (dt x).symm
     exact⟨decide_eq_decide.mpr (by omega),by omega⟩
    ·rw[df h1]at h';have h2:y<0:=by
      apply Classical.byContradiction;intro x;exact h' (df x).symm
     exact⟨decide_eq_decide.mpr (by omega),by omega⟩
   rw[hs.1,hs.2];simp only[z5C (H:=H13),T.a03,p1,q1,p2,q0o,AV.cells,Nat.reduceAdd,Nat.reduceLeDiff,q0a,q0H,q0I,q0E,lcd,cm,hc,sb];refine Res.eq ?_ rfl
   (repeat apply Fr.lays)
   exact Fr.refl _
  ·have hc:decide (q8n x.natAbs y.natAbs<0)=false:=by unfold q8n;rw[if_neg hl];split<;>decide
   have sb:=fun m=>z3S (H:=H13) rfl (show y.natAbs<=x.natAbs by omega) m
   have zr:=fun m=>q5V (H:=H13) rfl (a:=x.natAbs-y.natAbs) (by omega) m
   have ha:(x+y).natAbs=x.natAbs-y.natAbs:=by
    by_cases h1:x<0
    ·rw[dt h1]at h';have h2:¬y<0:=fun x=>h' (dt x).symm
     omega
    ·rw[df h1]at h';have h2:y<0:=by
      apply Classical.byContradiction;intro x;exact h' (df x).symm
     omega
   rw[ha];simp only[z5C (H:=H13),T.a03,p1,q1,p2,q0o,AV.cells,Nat.reduceAdd,Nat.reduceLeDiff,q0a,q0H,q0I,q0E,lcd,cm,hc];by_cases h1:x<0
   ·have hn:(!decide (x.natAbs-y.natAbs=0))=decide (x+y<0):=by
     rw[dt h1]at h';have h2:¬y<0:=fun x=>h' (dt x).symm
     rw[<-decide_not];exact decide_eq_decide.mpr (by omega)
    rw[dt h1];simp only[z5D (H:=H13),T.a04,p1,q1,pB,q0o,AV.cells,Nat.reduceAdd,Nat.reduceLeDiff,ifV,unA,q0H,q0I,q0E,lcd,z16,sb,zr,hn];refine Res.eq ?_ rfl
    (repeat apply Fr.lays)
    exact Fr.refl _
   ·have hn:decide (x+y<0)=false:=by
     rw[df h1]at h';have h2:y<0:=by
      apply Classical.byContradiction;intro x;exact h' (df x).symm
     exact df (by omega)
    rw[df h1,hn];simp only[z5D (H:=H13),T.a04,p1,q1,pB,q0o,AV.cells,Nat.reduceAdd,Nat.reduceLeDiff,ifV,unA,q0H,q0I,q0E,lcd,z16,sb];refine Res.eq ?_ rfl
    (repeat apply Fr.lays)
    exact Fr.refl _
theorem q86 {x:Int} (h:q0Q x=true):q4j x=(Wd.of x,true):=by unfold q4j;rw[if_pos h]
theorem z2s {x:Int} (h:q0Q x=false):(q4j x).2=false:=by unfold q4j;rw[if_neg (by rw[h];decide)];split<;>rfl
theorem a3w {x:Int} (hx:x.natAbs<4294967296 ^ 16) (m:Mem):Res m (run E13 (.fn 114) [.agg (q2t x)] m) (.tup [.agg (Wd.res x).1.cells,.int .i64 (Wd.res x).2]):=by
 have wd:=fun m=>z6t (H:=H13) rfl hx m
 cases hf:q0Q x with
 |true=>
  rw[q86 hf]at wd;rw[q1a hf];simp only[q2t,Wd.cells]at wd⊢;simp only[z9e (H:=H13) rfl,T.f114,pB,q1,p1,q0o,AV.cells,Nat.reduceAdd,Nat.reduceLeDiff,q0K,q0d,q0a,unA,q0H,q0I,q0w,AV.one,over,lcl,q1Q,q4l,q3W,wd,xbt];simp only[z9X (H:=H13),T.j7P,q1,q0H,q0I,wp,AV.one,over,AV.cells,Nat.reduceAdd,Nat.reduceLeDiff,lcl];refine Res.eq ?_ rfl
  (repeat apply Fr.lays)
  exact Fr.refl _
 |false=>
  rw[z2s hf]at wd;rw[z0l hf];simp only[q2t,Wd.cells]at wd⊢;simp only[z9e (H:=H13) rfl,T.f114,pB,q1,p1,q0o,AV.cells,Nat.reduceAdd,Nat.reduceLeDiff,q0K,q0d,q0a,unA,q0H,q0I,q0w,AV.one,over,lcl,q1Q,q4l,q3W,wd,xbf];refine Res.eq ?_ rfl
  (repeat apply Fr.lays)
  exact Fr.refl _
theorem a3h {x:Int} (hx:x.natAbs<4294967296 ^ 16) (to:Int) (m:Mem):Res m (run E13 (.fn 136) [.agg (q2t x),.int .i64 to] m) (q2x x to):=by
 have wd:=fun m=>z6t (H:=H13) rfl hx m
 unfold q2x;cases hf:q0Q x with
 |true=>
  rw[q86 hf]at wd;simp only[q2t,Wd.cells,q0u,if_true]at wd⊢;simp only[z9l (H:=H13) rfl,T.f136,pB,q1,p1,q0o,AV.cells,Nat.reduceAdd,Nat.reduceLeDiff,q0K,q0d,q0a,unA,q0H,q0I,q0w,AV.one,over,lcl,q1Q,q4l,q3W,wd,xbt];simp only[j0d (H:=H13),T.j7V,q1,p1,q0o,AV.cells,Nat.reduceAdd,Nat.reduceLeDiff,q0H,q0I,q0w,AV.one,over,lcl]
  refine Res.eq ?_ rfl
  (repeat apply Fr.lays)
  exact Fr.refl _
 |false=>
  rw[z2s hf]at wd;simp only[q2t,Wd.cells,q0u,xbq,if_false]at wd⊢;simp only[z9l (H:=H13) rfl,T.f136,pB,q1,p1,q0o,AV.cells,Nat.reduceAdd,Nat.reduceLeDiff,q0K,q0d,q0a,unA,q0H,q0I,q0w,AV.one,over,lcl,q1Q,q4l,q3W,wd,xbf];refine Res.eq ?_ rfl
  (repeat apply Fr.lays)
  exact Fr.refl _
theorem z7V (w:Wd) (s:Int) (m:Mem):Res m (run E13 (.fn 78) [.agg (q0u w s)] m) (.bool (decide (0<=s/\s<=18))):=by
 by_cases h1:0<=s
 ·simp only[q0u,j7p (H:=H13) rfl,T.f78,p1,q1,p2,q0K,ifV,q0e,AV.one,AV.cells,lcl,dt (show s>=0 from h1)];refine Res.eq ?_ (by congr 1;exact decide_eq_decide.mpr (by omega))
  (repeat apply Fr.lays)
  exact Fr.refl _
 ·simp only[q0u,j7p (H:=H13) rfl,T.f78,p1,q1,p2,q0K,ifV,q0e,AV.one,AV.cells,lcl,df (show ¬s>=0 from h1)];refine Res.eq ?_ (by congr 1;exact(df (by omega)).symm)
  (repeat apply Fr.lays)
  exact Fr.refl _
end
section
set_option maxRecDepth 4000
open Go Go.Abs
def S14:List FuncId:=[138,115,69,114,136,78]
noncomputable def H14:FuncId->Option (List AV->Mem->R):=q1J E13 S14
noncomputable abbrev E14:Env:=T.EH H14
theorem a4b:q1u E14:=q0Y a4a S14
noncomputable abbrev D14:Do:=T.Rl H14
section
variable {H:FuncId->Option (List AV->Mem->R)}
theorem z2f (h:H 138=some (q0y E13 138)) {a b:Int} (ha:a.natAbs<4294967296 ^ 8) (hb:b.natAbs<4294967296 ^ 7) (m:Mem):run (T.EH H) (.fn 138) [.agg (q2t a),.agg (q2t b)] m=some (.agg (q2t (a*b)),m):=
 q0r h (by simp[AV.flat,AV.lt,q31]) fun m2 _ _=>j2J ha hb m2
theorem z2e (h:H 115=some (q0y E13 115)) {x:Int} (hx:x.natAbs<4294967296 ^ 16) (m:Mem):run (T.EH H) (.fn 115) [.agg (q2t x)] m=some (.agg (q2t (-x)),m):=
 q0r h (by simp[AV.flat,AV.lt,q31]) fun m2 _ _=>j2w hx m2
theorem z3T (h:H 69=some (q0y E13 69)) {x y:Int} (hx:x.natAbs<4294967296 ^ 15) (hy:y.natAbs<4294967296 ^ 15) (m:Mem):run (T.EH H) (.fn 69) [.agg (q2t x),.agg (q2t y)] m=some (.agg (q2t (x+y)),m):=
 q0r h (by simp[AV.flat,AV.lt,q31]) fun m2 _ _=>a3u hx hy m2
theorem j2K (h:H 114=some (q0y E13 114)) {x:Int} (hx:x.natAbs<4294967296 ^ 16) (m:Mem):run (T.EH H) (.fn 114) [.agg (q2t x)] m=some (.tup [.agg (Wd.res x).1.cells,.int .i64 (Wd.res x).2],m):=
 q0r h (by simp[AV.flat,AV.lt,AV.lts,Wd.cells]) fun m2 _ _=>a3w hx m2
theorem a3g (h:H 136=some (q0y E13 136)) {x:Int} (hx:x.natAbs<4294967296 ^ 16) (to:Int) (m:Mem):run (T.EH H) (.fn 136) [.agg (q2t x),.int .i64 to] m=some (q2x x to,m):=
 q0r h (q3w _ _) fun m2 _ _=>a3h hx to m2
theorem q4G (h:H 78=some (q0y E13 78)) (w:Wd) (s:Int) (m:Mem):run (T.EH H) (.fn 78) [.agg (q0u w s)] m=some (.bool (decide (0<=s/\s<=18)),m):=
 q0r h (by simp[AV.flat,AV.lt]) fun m2 _ _=>z7V w s m2
end
theorem z0x (k:Nat):q0J k=((10 ^ k:Nat):Int):=by unfold q0J;exact (Int.natCast_pow 10 k).symm
def j26 (x k:Int):Int:=if k<=0 then x*q0J (-k).toNat else if x<0 then -(rhe (-x) k.toNat) else rhe x k.toNat
theorem a3o {x:Int} {q:Nat} (hq:q<4294967296 ^ 16) (hz:x=0->q=0) (m:Mem) (c0 c1 c2 c3:List AV) :
  Res m (D14.gor 561153 [.ptr (some ⟨m.next,0⟩),.ptr (some ⟨m.next+1,0⟩),.ptr (some ⟨m.next+1+1+1,0⟩)]
   ((((((m.lay (.cells (q2t x) false)).lay (.cells (.bool false::D16 0) false)).lay (.cells c0 false)).lay (.cells (D16 q) false)).lay (.cells c1 false)).lay (.cells c2 false))) (.agg (q2t (if x<0 then -(q:Int) else (q:Int)))):=by
 have zr:=fun m=>q5V (H:=H14) rfl hq m
 by_cases h:x<0
 ·rw[if_pos h];have hn:(!decide (q=0))=decide (-(q:Int)<0):=by rw[<-decide_not];exact decide_eq_decide.mpr (by omega)
  simp only[q2t,dt h,show (-(q:Int)).natAbs=q by omega];simp only[z1j (H:=H14),T.j0e,p1,q1,q0o,AV.cells,Nat.reduceAdd,Nat.reduceLeDiff,ifV,unA,q0H,q0I,q0E,lcd,z16,zr,hn];refine Res.eq ?_ rfl
  (repeat apply Fr.lays)
  exact Fr.refl _
 ·rw[if_neg h];simp only[q2t,df h,show ((q:Int)).natAbs=q by omega,df (show ¬(q:Int)<0 by omega)];simp only[z1j (H:=H14),T.j0e,p1,q1,q0o,AV.cells,Nat.reduceAdd,Nat.reduceLeDiff,ifV,unA,q0H,q0I,q0E,lcd,z16];refine Res.eq ?_ rfl
  (repeat apply Fr.lays)
  exact Fr.refl _
theorem j2F {x:Int} (hx:x.natAbs<4294967296 ^ 8) {k:Int} (hk0:-60<=k) (hk1:k<=60) (m:Mem):Res m (run E14 (.fn 137) [.agg (q2t x),.int .i64 k] m) (.agg (q2t (j26 x k))):=by
 by_cases h:k<=0
 ·obtain⟨j,hj⟩:∃j:Nat,k=-(j:Int):=⟨(-k).toNat,by omega⟩;subst hj;have tn:=fun m=>j2H (H:=H14) rfl (k:=j) (by omega) m
  have ti:=fun m=>z2f (H:=H14) rfl hx (b:=((10 ^ j:Nat):Int)) (by rw[Int.natAbs_natCast];exact q5Z (by omega)) m
  have hb:q2t ((10 ^ j:Nat):Int)=.bool false::D16 (10 ^ j):=by
   unfold q2t;rw[Int.natAbs_natCast,df (Int.not_lt.mpr (Int.natCast_nonneg _))]
  rw[hb]at ti;have hr:j26 x (-(j:Int))=x*((10 ^ j:Nat):Int):=by
   unfold j26;rw[if_pos h,show (-(-(j:Int))).toNat=j by omega,z0x]
  rw[hr];have hneg:IntKind.wrap .i64 (0 - -(j:Int))=(j:Int):=by rw[wrap_i64 (by omega) (by omega)];omega
  simp only[q2t]at ti⊢;simp only[z9m (H:=H14) rfl,T.f137,pB,p2,q1,p1,q0o,AV.cells,Nat.reduceAdd,Nat.reduceLeDiff,q0K,q0a,q0H,q0I,q0w,unA,AV.one,lcd,z16,dt h,hneg,tn,ti];refine Res.eq ?_ rfl
  (repeat apply Fr.lays)
  exact Fr.refl _
 ·obtain⟨j,hj⟩:∃j:Nat,k=(j:Int):=⟨k.toNat,by omega⟩;subst hj;have tn:=fun m=>j2H (H:=H14) rfl (k:=j) (by omega) m
  have hp:0<10 ^ j:=Nat.pow_pos (by omega);have hpl:=q5Z (k:=j) (by omega);have hpl':=q3E hpl (by omega);have dv:=fun m=>a3i (H:=H14) rfl (q3E hx (by omega)) hpl' hp m
  obtain⟨n,hn⟩:∃n,n=x.natAbs:=⟨_,rfl⟩;rw[<-hn]at dv;have hx':=hx;rw[<-hn]at hx;have ql:n / 10 ^ j<=n:=Nat.div_le_self _ _;have rl:=Nat.mod_lt n hp;have fin:=fun {q:Nat} hq hz=>a3o (x:=x) (q:=q) hq hz m
  have tP:=z0x j;have hq1:n / 10 ^ j+1<4294967296 ^ 16:=by
   have h1:n+1<4294967296 ^ 16:=Nat.lt_of_le_of_lt (show n+1<=4294967296 ^ 8 from hx) (Nat.pow_lt_pow_right (by omega) (by omega));omega
  have hval:j26 x (j:Int)=(if x<0 then -(((if 10 ^ j<2*(n % 10 ^ j)\/(2*(n % 10 ^ j)=10 ^ j/\n / 10 ^ j % 2=1) then n / 10 ^ j+1 else n / 10 ^ j:Nat):Int)) else ((if 10 ^ j<2*(n % 10 ^ j)\/(2*(n % 10 ^ j)=10 ^ j/\n / 10 ^ j % 2=1) then n / 10 ^ j+1 else n / 10 ^ j:Nat):Int)):=by
   have key:rhe (n:Int) j=((if 10 ^ j<2*(n % 10 ^ j)\/(2*(n % 10 ^ j)=10 ^ j/\n / 10 ^ j % 2=1) then n / 10 ^ j+1 else n / 10 ^ j:Nat):Int):=by
    unfold rhe;rw[tP,<-Int.natCast_ediv,<-Int.natCast_emod];by_cases hc:10 ^ j<2*(n % 10 ^ j)\/(2*(n % 10 ^ j)=10 ^ j/\n / 10 ^ j % 2=1)
    ·rw[if_pos hc,if_pos (by omega)];rfl
    ·rw[if_neg hc,if_neg (by omega)]
   unfold j26;rw[if_neg h,show ((j:Int)).toNat=j by omega];by_cases hneg:x<0
   ·rw[if_pos hneg,if_pos hneg,show -x=(n:Int) by omega,key]
   ·rw[if_neg hneg,if_neg hneg,show x=(n:Int) by omega,key]
  have hz:x=0->(if 10 ^ j<2*(n % 10 ^ j)\/(2*(n % 10 ^ j)=10 ^ j/\n / 10 ^ j % 2=1) then n / 10 ^ j+1 else n / 10 ^ j)=0:=by
   intro h0;have:n=0:=by omega
   subst this;rw[Nat.zero_mod,Nat.zero_div];rw[if_neg (by omega)]
  rw[hval];obtain⟨p,hpp⟩:∃p,p=10 ^ j:=⟨_,rfl⟩;rw[<-hpp]at tn hp hpl hpl' dv ql rl hq1 hz⊢;obtain⟨q,hqq⟩:∃q,q=n / p:=⟨_,rfl⟩;obtain⟨r,hrr⟩:∃r,r=n % p:=⟨_,rfl⟩;rw[<-hqq]at dv ql hq1 hz⊢;rw[<-hrr]at dv rl hz⊢;have a1:=fun m=>z0j (H:=H14) rfl r r m
  have a2:=fun m=>z0j (H:=H14) rfl q 1 m
  have hr2:r+r<4294967296 ^ 16:=by
   have h1:r+r<=4294967296 ^ 7+4294967296 ^ 7:=by omega
   exact Nat.lt_of_le_of_lt h1 (by decide)
  have cm:=fun m=>z3L (H:=H14) rfl hr2 hpl' m
  have s1:over (D16 0) 0 (.int .u64 1) 1=some (D16 1):=q8d (n:=1) (by omega);have hodd:((dig q 0:Nat):Int).tmod 2=((q % 2:Nat):Int):=by
   rw[Int.tmod_eq_emod_of_nonneg (Int.natCast_nonneg _),b1z];omega
  have z2:(2:Int)≠0:=by omega
  simp only[q2t]at fin;simp only[q2t,<-hn,z9m (H:=H14) rfl,T.f137,pB,p2,q1,p1,q0o,AV.cells,Nat.reduceAdd,Nat.reduceLeDiff,q0K,q0a,q0H,q0I,q0w,AV.one,lcd,z16,df h];simp only[<-hn]at fin;by_cases c1:p<2*r
  ·have hI:(if p<2*r\/(2*r=p/\q % 2=1) then q+1 else q)=q+1:=if_pos (.inl c1)
   rw[hI]at hz⊢;have e1:decide ((0:Int)<q8n (r+r) p)=true:=by unfold q8n;rw[if_neg (by omega),if_neg (by omega)];rfl
   simp only[q5t (H:=H14),T.z1i,pB,p1,q1,p2,q0d,q0a,ifV,Nat.reduceAdd,q0F,Nat.reduceLeDiff,lcd,z16,z3u,s1,tn,dv,a1,cm,e1,a2];exact fin hq1 hz _ _ _ []
  ·have e1:decide ((0:Int)<q8n (r+r) p)=false:=by unfold q8n;split<;>(try split)<;>first|rfl|omega
   by_cases c2:2*r=p
   ·have e2:decide (q8n (r+r) p=0)=true:=by unfold q8n;rw[if_neg (by omega),if_pos (by omega)];rfl
    by_cases c3:q % 2=1
    ·have hI:(if p<2*r\/(2*r=p/\q % 2=1) then q+1 else q)=q+1:=if_pos (.inr ⟨c2,c3⟩)
     rw[hI]at hz⊢;have e3:decide (((q % 2:Nat):Int)=1)=true:=dt (by omega);simp only[q5t (H:=H14),T.z1i,pB,p1,q1,p2,q0d,q0a,ifV,Nat.reduceAdd,q0F,Nat.reduceLeDiff,lcd,z16,z3u,s1,tn,dv,a1,cm,e1,e2,q07 _ (show 0<16 by omega),q18 _ _ _ _ z2,hodd,e3,a2];exact fin hq1 hz _ _ _ []
    ·have hI:(if p<2*r\/(2*r=p/\q % 2=1) then q+1 else q)=q:=if_neg (by omega)
     rw[hI]at hz⊢;have e3:decide (((q % 2:Nat):Int)=1)=false:=df (by omega);simp only[q5t (H:=H14),T.z1i,pB,p1,q1,p2,q0d,q0a,ifV,Nat.reduceAdd,q0F,Nat.reduceLeDiff,lcd,z16,z3u,s1,tn,dv,a1,cm,e1,e2,q07 _ (show 0<16 by omega),q18 _ _ _ _ z2,hodd,e3];exact fin (by omega) hz _ _ _ []
   ·have e2:decide (q8n (r+r) p=0)=false:=by unfold q8n;split<;>(try split)<;>first|rfl|omega
    have hI:(if p<2*r\/(2*r=p/\q % 2=1) then q+1 else q)=q:=if_neg (by omega)
    rw[hI]at hz⊢;simp only[q5t (H:=H14),T.z1i,pB,p1,q1,p2,q0d,q0a,ifV,Nat.reduceAdd,q0F,Nat.reduceLeDiff,lcd,z16,z3u,s1,tn,dv,a1,cm,e1,e2];exact fin (by omega) hz _ _ _ []
end
section
set_option maxRecDepth 4000
open Go Go.Abs
def S15:List FuncId:=[137]
noncomputable def H15:FuncId->Option (List AV->Mem->R):=q1J E14 S15
noncomputable abbrev E15:Env:=T.EH H15
theorem a4c:q1u E15:=q0Y a4b S15
noncomputable abbrev D15:Do:=T.Rl H15
theorem j2E {H:FuncId->Option (List AV->Mem->R)} (h:H 137=some (q0y E14 137)) {x:Int} (hx:x.natAbs<4294967296 ^ 8) {k:Int} (hk0:-60<=k) (hk1:k<=60) (m:Mem):run (T.EH H) (.fn 137) [.agg (q2t x),.int .i64 k] m=some (.agg (q2t (j26 x k)),m):=
 q0r h (by simp[AV.flat,AV.lt,q31]) fun m2 _ _=>j2F hx hk0 hk1 m2
theorem q53 {w:Wd} (h:w.ok):w.val.natAbs<=170141183460469231731687303715884105728:=by
 have:=z4h h;unfold q1G at this;split at this<;>omega
theorem z3M (k:Nat):rhe 0 k=0:=by
 unfold rhe;rw[Int.zero_emod,Int.zero_ediv];have:=q1O k;rw[if_neg (by omega)]
theorem a3p (x y k:Int):j26 (x*y) k=z3z x y k:=by
 have hs:=b0n x y;unfold z3z scF;obtain⟨A,hA⟩:∃A,A=q1G x*q1G y:=⟨_,rfl⟩;have hA0:0<=A:=by
  rw[hA];have h0:∀z,0<=q1G z:=fun z=>by unfold q1G;split<;>omega
  exact Int.mul_nonneg (h0 x) (h0 y)
 rw[<-hA]at hs⊢;unfold j26;by_cases hk:0<=k
 ·rw[if_pos hk];by_cases hk0:k=0
  ·subst hk0;rw[if_pos (by omega),show (-(0:Int)).toNat=0 from rfl,show (0:Int).toNat=0 from rfl,show q0J 0=1 from rfl,Int.mul_one,z6q];exact hs.symm
  ·rw[if_neg (by omega)];by_cases hb:(!(decide (x<0)==decide (y<0)))=true
   ·rw[if_pos hb]at hs⊢;by_cases h:x*y<0
    ·rw[if_pos h,show -(x*y)=A by omega]
    ·rw[if_neg h];have h0:A=0:=by omega
     have h1:x*y=0:=by omega
     rw[h0,h1,z3M];rfl
   ·rw[if_neg hb]at hs⊢;rw[if_neg (by omega),<-hs]
 ·rw[if_neg hk,if_pos (by omega)]
theorem z18 {n:Int} (h:0<=n) (k:Nat):(rhe n k).natAbs<=n.natAbs+1:=by
 have h1:=j2u h k;have h2:=j8D h k;omega
theorem j2A {x k:Int} (hx:x.natAbs<4294967296 ^ 8) (hk:-18<=k):(j26 x k).natAbs<4294967296 ^ 16:=by
 unfold j26;split
 ·rw[Int.natAbs_mul,z0x,Int.natAbs_natCast];exact z6i hx (q5Z (by omega))
 ·have h8:4294967296 ^ 8+1<4294967296 ^ 16:=by decide
  split
  ·have:=z18 (show 0<=-x by omega) k.toNat;rw[Int.natAbs_neg]at this;rw[Int.natAbs_neg];omega
  ·have:=z18 (show 0<=x by omega) k.toNat;omega
theorem j8M {a b:Wd} (ha:a.ok) (hb:b.ok):(a.val*b.val).natAbs<4294967296 ^ 8:=by
 rw[Int.natAbs_mul];exact Nat.lt_of_le_of_lt (Nat.mul_le_mul (q53 ha) (q53 hb)) (by decide)
theorem b1x {a:Wd} (ha:a.ok):a.val.natAbs<4294967296 ^ 7:=Nat.lt_of_le_of_lt (q53 ha) (by decide)
theorem b0u {a:Wd} (ha:a.ok):a.val.natAbs<4294967296 ^ 8:=Nat.lt_of_le_of_lt (q53 ha) (by decide)
theorem q4i {a:Wd} (ha:a.ok):a.val.natAbs<4294967296 ^ 15:=Nat.lt_of_le_of_lt (q53 ha) (by decide)
end
section
open Go Go.Abs
theorem j55 (a b:(List UInt8)) (m:Mem):run E15 (.fn 118) [.str a,.str b] m=some (.bool (q0b a b),m):=by
 simp only[j9I (H:=H15) rfl,T.f118,p1,p2,ifV,unA,wp,j9O (H:=H15) rfl,T.f139,wp,decide_true,xbt]
 try rfl
section
variable {m:Mem} {sk:AV} {ks:List (List UInt8)} {kb:Option Nat}
theorem j3g (h:q00 1 m sk (ks.map fun k=>[.str k]) kb) (hs:Srt q0b ks) (hl:ks.length<4611686018427387904) (k:(List UInt8)):∀(d i j:Nat),j-i<=d->i<=j->j<=ks.length->
  (∀x (hx:x<ks.length),x<i->q0b ks[x] k=true)->(∀x (hx:x<ks.length),j<=x->q0b ks[x] k=false)->
  D15.gor 335872 [sk,.str k,.int .i64 ks.length,.int .i64 i,.int .i64 j] m=some (.tup [.int .i64 (lb q0b k ks:Nat),.bool (q0O q0b k ks)],m):=by
 intro d;induction d with
 |zero=>
  intro i j hd hij hj h1 h2;have e:i=j:=by omega
  subst e;have hlb:lb q0b k ks=i:=q2W hj h1 (fun hx=>h2 i hx (xnr _))
  simp only[z5L (H:=H15),T.j5d,p2,q0a,wp,df (show ¬(i:Int)<(i:Int) by omega)];by_cases hi:i<ks.length
  ·obtain⟨b,rfl,g1,g2⟩:=h.key hi;simp only[z5O (H:=H15),T.j5f,p2,q1,ifV,wp,dt (show (i:Int)<(ks.length:Int) by omega),true_or,if_true,g1,g2,j9J (H:=H15) rfl,T.f119,wp,decide_true,xbt];by_cases hk:ks[i]=k
   ·rw[dt hk];simp only[q0O,hlb,xgq hi,hk,decide_true]
   ·rw[df hk];simp only[q0O,hlb,xgq hi,xoi,df hk]
  ·simp only[z5O (H:=H15),T.j5f,p2,q1,ifV,wp,df (show ¬(i:Int)<(ks.length:Int) by omega)];simp only[q0O,hlb,List.getElem?_eq_none (show ks.length<=i by omega),reduceCtorEq,decide_false]
 |succ d ih=>
  intro i j hd hij hj h1 h2;by_cases e:i=j
  ·exact ih i j (by omega) hij hj h1 h2
  ·have hlt:i<j:=by omega
   obtain⟨hh,hh1⟩:∃hh:Nat,hh=(i+j) / 2:=⟨_,rfl⟩;have hh2:i<=hh/\hh<j:=by omega
   have hh3:IntKind.wrap .i64 ((IntKind.wrap .u64 (IntKind.wrap .i64 ((i:Int)+(j:Int)))).fdiv (2 ^ (min (1:Int).toNat IntKind.u64.bits)))=(hh:Int):=by
    rw[wrap_i64 (n:=(i:Int)+j) (by omega) (by omega),wrap_u64 (by omega) (by omega)];have:((2:Int) ^ (min (1:Int).toNat IntKind.u64.bits))=2:=by rfl
    rw[this,Int.fdiv_eq_ediv_of_nonneg _ (by omega),wrap_i64 (by omega) (by omega)];omega
   have hx:hh<ks.length:=by omega
   obtain⟨b,rfl,g1,g2⟩:=h.key hx;simp only[z5L (H:=H15),T.j5d,p2,q0a,wp,dt (show (i:Int)<(j:Int) by omega)];simp only[j5e (H:=H15),T.a1c,p2,p1,q1,q0a,wp,q6a _ _ _ _ _ (show (0:Int)<=1 by omega),hh3,true_or,if_true,g1,g2,j55];cases hc:q0b ks[hh] k with
   |true=>
    simp only;rw[wrap_i64 (by omega) (by omega),show (hh:Int)+1=((hh+1:Nat):Int) by omega];refine ih (hh+1) j (by omega) (by omega) hj (fun x hx' hlt'=>?_) h2
    by_cases e2:x=hh
    ·subst e2;exact hc
    ·exact q1N _ _ _ (q2F hs (show x<hh by omega) hx) hc
   |false=>
    simp only;refine ih i hh (by omega) (by omega) (by omega) h1 (fun x hx' hle=>?_)
    by_cases e2:x=hh
    ·subst e2;exact hc
    ·cases hc2:q0b ks[x] k with
     |false=>rfl
     |true=>rw[q1N _ _ _ (q2F hs (show hh<x by omega) hx') hc2]at hc;cases hc
theorem q4P (h:q00 1 m sk (ks.map fun k=>[.str k]) kb) (hs:Srt q0b ks) (hl:ks.length<4611686018427387904) (k:(List UInt8)) :
  run E15 (.fn 82) [sk,.str k] m=some (.tup [.int .i64 (lb q0b k ks:Nat),.bool (q0O q0b k ks)],m):=by
 have:=j3g h hs hl k ks.length 0 ks.length (by omega) (by omega) (xnr _) (by intro x _ hx;omega) (by intro x hx hx';omega);obtain⟨a,sz,cap,ex,rfl⟩:=h.j5X;simp only[a5q (H:=H15) rfl,T.f82,p1,wp];exact this
end
end
section
open Go Go.Abs
theorem a2B (xs:List AV) (m:Mem):run E15 (.fn 83) xs m=q8p Tryz.prog 140 xs m:=q08 rfl xs m
theorem a2E (xs:List AV) (m:Mem):run E15 (.fn 84) xs m=q8p Tryz.prog 23 xs m:=q08 rfl xs m
section
variable {m:Mem} {t:Nat} {ks:List (List UInt8)} {vs:List (List AV)} {most:Int} {F:List Nat}
theorem a2N (m:Mem) {most:Int} (h1:1<=most) (h2:most<=4096):∃m',run E15 (.fn 79) [.int .i64 most] m=some (.tup [.ptr (some ⟨m.next,0⟩),.int .i64 0],m')/\m'=m.lay (.cells [.sl none 0 0 0 true,.sl none 0 0 0 true,.int .i64 most] false):=by
 refine⟨_,?_,rfl⟩;simp only[a5n (H:=H15) rfl,T.f79,p2,q0a,ifV,wp,df (show ¬most<1 by omega),df (show ¬(4096:Int)<most by omega)];simp only[j5a (H:=H15),T.a09,p1,q0o,AV.cells,Nat.reduceAdd,Nat.reduceLeDiff,q0K,q0w,List.all_cons,List.all_nil,AV.one]
theorem a1k (h:TabAt (.str) 4 m t ks vs most F) (hs:Srt q0b ks) (hl:ks.length<65536) (k:(List UInt8)) (hk:q0O q0b k ks=true) :
  ∃v m',vs[lb q0b k ks]? = some v/\run E15 (.fn 89) [.ptr (some ⟨t,0⟩),.str k] m=some (.tup [.agg v,.bool true],m')/\Fr m m' []:=by
 obtain⟨⟨sk,sv,kb,vb,h1,h2,h3,h4,h5,h6,rfl⟩,h7⟩:=h;have hlt:lb q0b k ks<ks.length:=by
  have:ks[lb q0b k ks]? = some k:=by simpa[q0O]using hk
  exact(xgi.1 this).1
 have hf:Fr m (m.lay (.cells [.str [],.int .i64 0,.int .i64 0,.int .u64 0] false)) []:=(Fr.refl m).lay _;have g1:=hf.get h1 (by simp);have g2:=h2.frame hf (by simp);have g3:=h3.frame hf (by simp);obtain⟨b,rfl,a1,a2⟩:=g3.val (i:=lb q0b k ks) (by omega);have a3:∀i:Nat,ld1 (m.lay (.cells [.str [],.int .i64 0,.int .i64 0,.int .u64 0] false)) (.ptr (some ⟨t,i⟩))=[sk,.sl (some ⟨b,0⟩) 4 vs.length vs.length false,.int .i64 most][i]?:=fun i=>q0g g1
 have hv:=h3.1 _ (List.getElem_mem (show lb q0b k ks<vs.length by omega));refine⟨vs[lb q0b k ks],(m.lay (.cells [.str [],.int .i64 0,.int .i64 0,.int .u64 0] false)).put m.next (some (.cells vs[lb q0b k ks] false)),xgq (by omega),?_,hf.put' (.inr (xnr _))⟩
 simp only[j7v (H:=H15) rfl,T.f89,pB,p1,q1,nnA,q0d,q0a,unA,q0H,q0I,a3,q4P g2 hs (by omega),hk,xbt,j5D (H:=H15),T.a1e,p2,q0e,true_or,if_true,a1,a2,q03 (n:=4) (q0f m (.cells [.str [],.int .i64 0,.int .i64 0,.int .u64 0] false)) rfl hv.1 hv.2,q0B (n:=4) (q0v (q0f m (.cells [.str [],.int .i64 0,.int .i64 0,.int .u64 0] false))) hv.1]
theorem j5O (h:TabAt (.str) 4 m t ks vs most F) (hs:Srt q0b ks) (hl:ks.length<65536) (k:(List UInt8)) (hk:q0O q0b k ks=false) :
  ∃m',run E15 (.fn 89) [.ptr (some ⟨t,0⟩),.str k] m=some (.tup [.agg [.str [],.int .i64 0,.int .i64 0,.int .u64 0],.bool false],m')/\Fr m m' []:=by
 obtain⟨⟨sk,sv,kb,vb,h1,h2,h3,h4,h5,h6,rfl⟩,h7⟩:=h;have hf:Fr m (m.lay (.cells [.str [],.int .i64 0,.int .i64 0,.int .u64 0] false)) []:=(Fr.refl m).lay _;have g1:=hf.get h1 (by simp);have g2:=h2.frame hf (by simp);have a3:∀i:Nat,ld1 (m.lay (.cells [.str [],.int .i64 0,.int .i64 0,.int .u64 0] false)) (.ptr (some ⟨t,i⟩))=[sk,sv,.int .i64 most][i]?:=fun i=>q0g g1
 have g3:((m.lay (.cells [.str [],.int .i64 0,.int .i64 0,.int .u64 0] false)).lay (.cells [.str [],.int .i64 0,.int .i64 0,.int .u64 0] false)).get m.next=some (.cells [.str [],.int .i64 0,.int .i64 0,.int .u64 0] false):=by rw[q3Q (by simp)];exact q0f _ _
 refine⟨((m.lay (.cells [.str [],.int .i64 0,.int .i64 0,.int .u64 0] false)).lay (.cells [.str [],.int .i64 0,.int .i64 0,.int .u64 0] false)).put m.next (some (.cells [.str [],.int .i64 0,.int .i64 0,.int .u64 0] false)),?_,(hf.lay _).put' (.inr (xnr _))⟩
 simp only[j7v (H:=H15) rfl,T.f89,pB,p1,q1,nnA,q0d,q0a,unA,q0H,q0I,q0F,a3,q4P g2 hs (by omega),hk,xbf,q0B (n:=4) (q0f (m.lay (.cells [.str [],.int .i64 0,.int .i64 0,.int .u64 0] false)) (.cells [.str [],.int .i64 0,.int .i64 0,.int .u64 0] false)) rfl,q03 (n:=4) g3 rfl (show ([.str [],.int .i64 0,.int .i64 0,.int .u64 0]:List AV).length=4 by rfl) (by rfl),q0B (n:=4) (v:=[.str [],.int .i64 0,.int .i64 0,.int .u64 0]) (q0v g3) rfl]
theorem a2Y (h:TabAt (.str) 4 m t ks vs most F) (hs:Srt q0b ks) (hl:ks.length<65536) (k:(List UInt8)) (hk:q0O q0b k ks=true) {v:List AV} (hv:v.length=4) (ho:v.all AV.one=true) :
  ∃m',run E15 (.fn 39) [.ptr (some ⟨t,0⟩),.str k,.agg v] m=some (.bool true,m')/\TabAt (.str) 4 m' t ks (vs.set (lb q0b k ks) v) most F/\Fr m m' F:=by
 have hlt:lb q0b k ks<ks.length:=by
  have:ks[lb q0b k ks]? = some k:=by simpa[q0O]using hk
  exact(xgi.1 this).1
 have hf:Fr m (m.lay (.cells v false)) []:=(Fr.refl m).lay _;have h':=h.frame hf (by simp);obtain⟨sk,sv,b,m',g1,rfl,a1,a2,a5,a6⟩:=h'.set hlt hv ho;obtain⟨⟨sk',sv',kb,vb,h1,h2,h3,h4,h5,h6,e⟩,h7⟩:=h';rw[g1]at h1;cases h1;have a3:∀i:Nat,ld1 (m.lay (.cells v false)) (.ptr (some ⟨t,i⟩))=[sk,.sl (some ⟨b,0⟩) 4 vs.length vs.length false,.int .i64 most][i]?:=fun i=>q0g g1
 have a4:ldN (m.lay (.cells v false)) (.ptr (some ⟨m.next,0⟩)) 4=some (.agg v):=by
  rw[q0Z (q0f _ _) (by omega),List.drop_zero,xtl (by omega)]
 refine⟨m',?_,a5,(hf.any F).step a6 (fun c hc=>.inl hc)⟩
 simp only[z9u (H:=H15) rfl,T.f39,p1,q1,p2,q0K,nnA,q0d,q0a,q0F,q1d ho,xom,a3,a4,q4P h2 hs (by omega),hk,true_or,if_true,a1,a2,z4Y (H:=H15),T.j4z,wp]
theorem j2l (h:TabAt (.str) 4 m t ks vs most F) (hs:Srt q0b ks) (hl:ks.length<65536) (k:(List UInt8)) (hk:q0O q0b k ks=false) (hf:most<=ks.length) {v:List AV} (ho:v.all AV.one=true) :
  ∃m',run E15 (.fn 39) [.ptr (some ⟨t,0⟩),.str k,.agg v] m=some (.bool false,m')/\Fr m m' []:=by
 obtain⟨⟨sk,sv,kb,vb,h1,h2,h3,h4,h5,h6,rfl⟩,h7⟩:=h;have hf0:Fr m (m.lay (.cells v false)) []:=(Fr.refl m).lay _;have g1:=hf0.get h1 (by simp);have g2:=h2.frame hf0 (by simp);obtain⟨a,sz,cap,ex,rfl⟩:=h2.j5X;have a3:∀i:Nat,ld1 (m.lay (.cells v false)) (.ptr (some ⟨t,i⟩))=[.sl a sz ks.length cap ex,sv,.int .i64 most][i]?:=fun i=>q0g g1
 refine⟨_,?_,hf0⟩;simp only[z9u (H:=H15) rfl,T.f39,p1,q1,p2,q0K,nnA,q0d,q0a,q0F,q1d ho,xom,a3,q4P g2 hs (by omega),hk,dt (show most<=(ks.length:Int) by omega)]
theorem j6h (h:TabAt (.str) 4 m t ks vs most F) (hs:Srt q0b ks) (hl:ks.length<4096) (k:(List UInt8)) (hk:q0O q0b k ks=false) (hf:(ks.length:Int)<most) {v:List AV} (hv:v.length=4) (ho:v.all AV.one=true) :
  ∃m' F',run E15 (.fn 39) [.ptr (some ⟨t,0⟩),.str k,.agg v] m=some (.bool true,m')/\TabAt (.str) 4 m' t (q2N (lb q0b k ks) k ks) (q2N (lb q0b k ks) v vs) most F'/\Fr m m' F/\∀c,c∈F'->c∈F\/m.next<=c:=by
 have hf0:Fr m (m.lay (.cells v false)) []:=(Fr.refl m).lay _;have h':=h.frame hf0 (by simp);obtain⟨sk,sv,sk',m2,sv',m5,F',g1,a1,a2,a3,a4,b1,b2,b3,b4,b5,b6⟩:=h'.ins (P:=Tryz.prog) (st1:=140) (e1:=9) (st2:=23) (e2:=56) (w1:=16) (w2:=40) (zs1:=[.str []]) (zs2:=[.str [],.int .i64 0,.int .i64 0,.int .u64 0]) (by kernel_rfl) (by kernel_rfl) (by kernel_rfl) (by kernel_rfl) (by kernel_rfl) (by decide) (by kernel_rfl) (by kernel_rfl) (by kernel_rfl) (by kernel_rfl) (by kernel_rfl) (by decide) (by decide)
  (fun _=>rfl) (q96 k ks) hl (by decide) (k:=k) hv ho
 obtain⟨⟨sk1,sv1,kb,vb,h1,h2,h3,h4,h5,h6,e⟩,h7⟩:=h';rw[g1]at h1;cases h1;obtain⟨x,sz,cap,ex,rfl⟩:=h2.j5X;have c1:∀i:Nat,ld1 (m.lay (.cells v false)) (.ptr (some ⟨t,i⟩))=[.sl x sz ks.length cap ex,sv,.int .i64 most][i]?:=fun i=>q0g g1
 have c2:∀i:Nat,ld1 (m2.put t (some (.cells [sk',sv,.int .i64 most] false))) (.ptr (some ⟨t,i⟩))=[sk',sv,.int .i64 most][i]?:=fun i=>q0g a3
 have c3:ldN (m2.put t (some (.cells [sk',sv,.int .i64 most] false))) (.ptr (some ⟨m.next,0⟩)) 4=some (.agg v):=by
  have:(m2.put t (some (.cells [sk',sv,.int .i64 most] false))).get m.next=some (.cells v false):=b4.get (q0f _ _) (fun hm=>by have:=h.lt _ hm;omega)
  rw[q0Z this (by omega),List.drop_zero,xtl (by omega)]
 have c4:(m2.put t (some (.cells [sk',sv,.int .i64 most] false))).next=m2.next:=rfl
 refine⟨_,F',?_,b3,(hf0.any F).step b5 (fun c hc=>.inl hc),fun c hc=>(b6 c hc).imp id (fun h=>by have:m.next<=(m.lay (.cells v false)).next:=hf0.next;omega)⟩
 simp only[z9u (H:=H15) rfl,T.f39,p1,q1,p2,q0K,nnA,q0d,q0a,q0F,q1d ho,xom,z2M (x:=.str k) (by rfl),q5f (n:=4) (zs:=[.str [],.int .i64 0,.int .i64 0,.int .u64 0]) ho hv (by rfl),c1,q4P h2 hs (by omega),hk,df (show ¬most<=(ks.length:Int) by omega),a2B,a2E,a1,a2,c2,c3,c4,b1,b2,z4Y (H:=H15),T.j4z,wp]
theorem z3l (h:TabAt (.str) 4 m t ks vs most F) (hs:Srt q0b ks) (hl:ks.length<65536) (k:(List UInt8)) :
  ∃v m',run E15 (.fn 89) [.ptr (some ⟨t,0⟩),.str k] m=some (.tup [.agg v,.bool (q0O q0b k ks)],m')/\(q0O q0b k ks=true->vs[lb q0b k ks]? = some v)/\(q0O q0b k ks=false->v=[.str [],.int .i64 0,.int .i64 0,.int .u64 0])/\v.length=4/\v.all AV.one=true/\Fr m m' []:=by
 cases hk:q0O q0b k ks with
 |true=>
  obtain⟨v,m',h1,h2,h3⟩:=a1k h hs hl k hk;obtain⟨⟨sk,sv,kb,vb,_,_,g3,_⟩,_⟩:=h;have:=g3.1 v (List.mem_of_getElem? h1);exact⟨v,m',h2,fun _=>h1,nofun,this.1,this.2,h3⟩
 |false=>
  obtain⟨m',h2,h3⟩:=j5O h hs hl k hk;exact⟨_,m',h2,nofun,fun _=>rfl,rfl,rfl,h3⟩
theorem z3G (h:TabAt (.str) 4 m t ks vs most F) (hs:Srt q0b ks) (hl:ks.length<4096) (k:(List UInt8)) {v:List AV} (hv:v.length=4) (ho:v.all AV.one=true) :
  ∃m' F',run E15 (.fn 39) [.ptr (some ⟨t,0⟩),.str k,.agg v] m=some (.bool (q0O q0b k ks||decide ((ks.length:Int)<most)),m')/\
   TabAt (.str) 4 m' t (z7H q0b k ks most) (z7I q0b k ks v vs most) most F'/\Fr m m' F/\∀c,c∈F'->c∈F\/m.next<=c:=by
 unfold z7H z7I;cases hk:q0O q0b k ks with
 |true=>
  obtain⟨m',h1,h2,h3⟩:=a2Y h hs (by omega) k hk hv ho;exact⟨m',F,h1,by simpa using h2,h3,fun c hc=>.inl hc⟩
 |false=>
  by_cases hf:(ks.length:Int)<most
  ·obtain⟨m',F',h1,h2,h3,h4⟩:=j6h h hs hl k hk hf hv ho;exact⟨m',F',by simpa[hf]using h1,by simpa[hf]using h2,h3,h4⟩
  ·obtain⟨m',h1,h2⟩:=j2l h hs (by omega) k hk (by omega) ho;exact⟨m',F,by simpa[hf]using h1,by simpa[hf]using h.frame h2 (by simp),h2.any F,fun c hc=>.inl hc⟩
end
end
section
open Go Go.Abs
theorem j56 (a b:Int) (m:Mem):run E15 (.fn 126) [.int .u64 a,.int .u64 b] m=some (.bool (q0m a b),m):=by
 simp only[j9K (H:=H15) rfl,T.f126,p1,p2,ifV,unA,wp,j9P (H:=H15) rfl,T.f143,wp,decide_true,xbt]
 try rfl
section
variable {m:Mem} {sk:AV} {ks:List Int} {kb:Option Nat}
theorem j3h (h:q00 1 m sk (ks.map fun k=>[.int .u64 k]) kb) (hs:Srt q0m ks) (hl:ks.length<4611686018427387904) (k:Int):∀(d i j:Nat),j-i<=d->i<=j->j<=ks.length->
  (∀x (hx:x<ks.length),x<i->q0m ks[x] k=true)->(∀x (hx:x<ks.length),j<=x->q0m ks[x] k=false)->
  D15.gor 352256 [sk,.int .u64 k,.int .i64 ks.length,.int .i64 i,.int .i64 j] m=some (.tup [.int .i64 (lb q0m k ks:Nat),.bool (q0O q0m k ks)],m):=by
 intro d;induction d with
 |zero=>
  intro i j hd hij hj h1 h2;have e:i=j:=by omega
  subst e;have hlb:lb q0m k ks=i:=q2W hj h1 (fun hx=>h2 i hx (xnr _))
  simp only[z5Q (H:=H15),T.j5s,p2,q0a,wp,df (show ¬(i:Int)<(i:Int) by omega)];by_cases hi:i<ks.length
  ·obtain⟨b,rfl,g1,g2⟩:=h.key hi;simp only[z5T (H:=H15),T.j5u,p2,q1,ifV,wp,dt (show (i:Int)<(ks.length:Int) by omega),true_or,if_true,g1,g2,j9L (H:=H15) rfl,T.f127,wp,decide_true,xbt];by_cases hk:ks[i]=k
   ·rw[dt hk];simp only[q0O,hlb,xgq hi,hk,decide_true]
   ·rw[df hk];simp only[q0O,hlb,xgq hi,xoi,df hk]
  ·simp only[z5T (H:=H15),T.j5u,p2,q1,ifV,wp,df (show ¬(i:Int)<(ks.length:Int) by omega)];simp only[q0O,hlb,List.getElem?_eq_none (show ks.length<=i by omega),reduceCtorEq,decide_false]
 |succ d ih=>
  intro i j hd hij hj h1 h2;by_cases e:i=j
  ·exact ih i j (by omega) hij hj h1 h2
  ·have hlt:i<j:=by omega
   obtain⟨hh,hh1⟩:∃hh:Nat,hh=(i+j) / 2:=⟨_,rfl⟩;have hh2:i<=hh/\hh<j:=by omega
   have hh3:IntKind.wrap .i64 ((IntKind.wrap .u64 (IntKind.wrap .i64 ((i:Int)+(j:Int)))).fdiv (2 ^ (min (1:Int).toNat IntKind.u64.bits)))=(hh:Int):=by
    rw[wrap_i64 (n:=(i:Int)+j) (by omega) (by omega),wrap_u64 (by omega) (by omega)];have:((2:Int) ^ (min (1:Int).toNat IntKind.u64.bits))=2:=by rfl
    rw[this,Int.fdiv_eq_ediv_of_nonneg _ (by omega),wrap_i64 (by omega) (by omega)];omega
   have hx:hh<ks.length:=by omega
   obtain⟨b,rfl,g1,g2⟩:=h.key hx;simp only[z5Q (H:=H15),T.j5s,p2,q0a,wp,dt (show (i:Int)<(j:Int) by omega)];simp only[j5t (H:=H15),T.a1d,p2,p1,q1,q0a,wp,q6a _ _ _ _ _ (show (0:Int)<=1 by omega),hh3,true_or,if_true,g1,g2,j56];cases hc:q0m ks[hh] k with
   |true=>
    simp only;rw[wrap_i64 (by omega) (by omega),show (hh:Int)+1=((hh+1:Nat):Int) by omega];refine ih (hh+1) j (by omega) (by omega) hj (fun x hx' hlt'=>?_) h2
    by_cases e2:x=hh
    ·subst e2;exact hc
    ·exact q5J _ _ _ (q2F hs (show x<hh by omega) hx) hc
   |false=>
    simp only;refine ih i hh (by omega) (by omega) (by omega) h1 (fun x hx' hle=>?_)
    by_cases e2:x=hh
    ·subst e2;exact hc
    ·cases hc2:q0m ks[x] k with
     |false=>rfl
     |true=>rw[q5J _ _ _ (q2F hs (show hh<x by omega) hx') hc2]at hc;cases hc
theorem z0H (h:q00 1 m sk (ks.map fun k=>[.int .u64 k]) kb) (hs:Srt q0m ks) (hl:ks.length<4611686018427387904) (k:Int) :
  run E15 (.fn 86) [sk,.int .u64 k] m=some (.tup [.int .i64 (lb q0m k ks:Nat),.bool (q0O q0m k ks)],m):=by
 have:=j3h h hs hl k ks.length 0 ks.length (by omega) (by omega) (xnr _) (by intro x _ hx;omega) (by intro x hx hx';omega);obtain⟨a,sz,cap,ex,rfl⟩:=h.j5X;simp only[a5u (H:=H15) rfl,T.f86,p1,wp];exact this
end
end
end Go.Proofs.YtlginbmjiecglaaGreatDoor
