/- Texts of one claim, put together. -/
import Derived.Test.YtlginbmjiecglaaGreatDoorQ16
namespace Go.Proofs.YtlginbmjiecglaaGreatDoor
section
set_option maxRecDepth 4000
open Go Go.Abs
theorem z3Y (neg:Bool) {h l:Nat} (hh:h<18446744073709551616) (hl:l<18446744073709551616) (m:Mem) (cs:List AV) :
  Res m (D12.gor 278528 [.ptr (some ⟨m.next+1,0⟩),.int .u64 (h:Int),.int .u64 (l:Int),.bool neg] ((m.lay (.cells cs false)).lay (.cells (.bool false::D16 0) false))) (.agg (.bool neg::D16 (l+h*18446744073709551616))):=by
 have s0:=q4G (.bool neg) (n:=0) (i:=0) (d:=l % 4294967296) (by omega) (q9e 0) (by omega);have s1:=q4G (.bool neg) (n:=l % 4294967296) (i:=1) (d:=l / 4294967296) (by omega) (by omega) (by omega);have s2:=q4G (.bool neg) (n:=l) (i:=2) (d:=h % 4294967296) (by omega) (by omega) (by omega);have s3:=q4G (.bool neg) (n:=l+h % 4294967296*18446744073709551616) (i:=3) (d:=h / 4294967296) (by omega) (by omega) (by omega)
 rw[Nat.pow_zero,Nat.mul_one,xnz]at s0;rw[Nat.pow_one,show l % 4294967296+l / 4294967296*4294967296=l by omega]at s1;rw[show l+h % 4294967296*4294967296 ^ 2=l+h % 4294967296*18446744073709551616 by omega]at s2;rw[show l+h % 4294967296*18446744073709551616+h / 4294967296*4294967296 ^ 3=l+h*18446744073709551616 by omega]at s3;simp only[Nat.reduceAdd,xnz]at s0 s1 s2 s3;simp only[j5m (H:=H12),T.a8p,p1,pB,p2,q1,q0o,AV.cells,Nat.reduceAdd,Nat.reduceLeDiff,q0H,q0I,q0E,lcd,z16,q60,q5h _ hh,q5h _ hl,j1U,j1V,j1W,j1X,s0,s1,s2,s3]
 refine Res.eq ?_ rfl
 (repeat apply Fr.lays)
 exact Fr.refl _
theorem b0Q {a:Wd} (ha:a.ok) (m:Mem):Res m (run E12 (.fn 68) [.agg a.cells] m) (.agg (q1J a.val)):=by
 obtain⟨ah,al⟩:=a;obtain⟨a1,a2,a3,a4⟩:=ha;simp only at a1 a2 a3 a4;unfold q1J Wd.val;simp only[Wd.cells];by_cases hn:ah<0
 ·have n1:(-(1+ah):Int)=((-(1+ah)).toNat:Int):=by omega
  rw[dt (show ah*18446744073709551616+al<0 by omega)];by_cases hz:al=0
  ·have fin:=z3Y true (h:=(-ah).toNat) (l:=0) (by omega) (by omega) m [.int .i64 ah,.int .u64 al];rw[show 0+(-ah).toNat*18446744073709551616=(ah*18446744073709551616+al).natAbs by omega]at fin;have w1:18446744073709551615-IntKind.wrap .u64 ah=-ah-1:=by rw[q0n];omega
   have w2:IntKind.wrap .u64 (-ah-1+1)=(((-ah).toNat:Nat):Int):=by rw[q0n];omega
   have w3:IntKind.wrap .u64 (18446744073709551615-al+1)=((0:Nat):Int):=by rw[q0n];omega
   have w0:=q0n ah;simp only[z9K (H:=H12) rfl,T.f68,pB,p1,q1,p2,q0K,q0a,q0e,AV.one,AV.cells,lcd,z16,dt hn,q4j (x:=IntKind.wrap .u64 ah) (by rw[w0];omega) (by rw[w0];omega),q4j a3 a4,w1,w2,w3,dt (show ((0:Nat):Int)=0 from rfl)];exact fin
  ·have fin:=z3Y true (h:=(-ah-1).toNat) (l:=(18446744073709551616-al).toNat) (by omega) (by omega) m [.int .i64 ah,.int .u64 al];rw[show (18446744073709551616-al).toNat+(-ah-1).toNat*18446744073709551616=(ah*18446744073709551616+al).natAbs by omega]at fin;have w1:18446744073709551615-IntKind.wrap .u64 ah=(((-ah-1).toNat:Nat):Int):=by rw[q0n];omega
   have w3:IntKind.wrap .u64 (18446744073709551615-al+1)=(((18446744073709551616-al).toNat:Nat):Int):=by rw[q0n];omega
   have w0:=q0n ah;simp only[z9K (H:=H12) rfl,T.f68,pB,p1,q1,p2,q0K,q0a,q0e,AV.one,AV.cells,lcd,z16,dt hn,q4j (x:=IntKind.wrap .u64 ah) (by rw[w0];omega) (by rw[w0];omega),q4j a3 a4,w1,w3,df (show ¬(((18446744073709551616-al).toNat:Nat):Int)=0 by omega)];exact fin
 ·rw[df (show ¬ah*18446744073709551616+al<0 by omega)];have fin:=z3Y false (h:=ah.toNat) (l:=al.toNat) (by omega) (by omega) m [.int .i64 ah,.int .u64 al];rw[show al.toNat+ah.toNat*18446744073709551616=(ah*18446744073709551616+al).natAbs by omega,show ((ah.toNat:Nat):Int)=ah by omega,show ((al.toNat:Nat):Int)=al by omega]at fin;have w1:IntKind.wrap .u64 ah=ah:=wrap_u64 (by omega) (by omega);simp only[z9K (H:=H12) rfl,T.f68,pB,p1,q1,p2,q0K,q0a,q0e,AV.one,AV.cells,lcd,z16,df hn,w1]
  exact fin
theorem z8k {n:Nat} (hn:n<4294967296 ^ 16) (neg:Bool) (m:Mem):∀(d i:Nat),i+d=16->4<=i->n % 4294967296 ^ i=n % 4294967296 ^ 4->
  (n<4294967296 ^ 4->D12.gor 552960 [.ptr (some ⟨m.next,0⟩),.ptr (some ⟨m.next+1,0⟩),.int .i64 (i:Int)] ((m.lay (.cells (.bool neg::D16 n) false)).lay (.cells [.int .i64 0,.int .u64 0] false)) =
   D12.gor 552963 [.ptr (some ⟨m.next,0⟩),.ptr (some ⟨m.next+1,0⟩)] ((m.lay (.cells (.bool neg::D16 n) false)).lay (.cells [.int .i64 0,.int .u64 0] false)))/\
  (¬n<4294967296 ^ 4->Res m (D12.gor 552960 [.ptr (some ⟨m.next,0⟩),.ptr (some ⟨m.next+1,0⟩),.int .i64 (i:Int)] ((m.lay (.cells (.bool neg::D16 n) false)).lay (.cells [.int .i64 0,.int .u64 0] false))) (.tup [.agg [.int .i64 0,.int .u64 0],.bool false])):=by
 intro d;induction d with
 |zero=>
  intro i hi _ h;have:i=16:=by omega
  subst this;rw[Nat.mod_eq_of_lt hn]at h;have hlt:n<4294967296 ^ 4:=by rw[h];exact Nat.mod_lt _ (q9e 4)
  refine⟨fun _=>?_,fun x=>absurd hlt x⟩
  simp only[q5v (H:=H12),T.z1l,p2,q0a,wp,df (show ¬((16:Nat):Int)<16 by omega)]
 |succ d ih=>
  intro i hi h4 h;have h16:i<16:=by omega
  by_cases e:dig n i=0
  ·have e':decide (((dig n i:Nat):Int)=0)=true:=dt (by omega);obtain⟨i1,i2⟩:=ih (i+1) (by omega) (by omega) (by rw[q36,e,Nat.zero_mul,xna,h]);constructor
   ·intro hlt;rw[<-i1 hlt];rw[show D12.gor 552960 [.ptr (some ⟨m.next,0⟩),.ptr (some ⟨m.next+1,0⟩),.int .i64 ((i+1:Nat):Int)] ((m.lay (.cells (.bool neg::D16 n) false)).lay (.cells [.int .i64 0,.int .u64 0] false))=D12.gor 552962 [.ptr (some ⟨m.next,0⟩),.ptr (some ⟨m.next+1,0⟩),.int .i64 (i:Int)] ((m.lay (.cells (.bool neg::D16 n) false)).lay (.cells [.int .i64 0,.int .u64 0] false)) by
     simp only[z1m (H:=H12),T.j0l,p2,wp,show (i:Int)+1=((i+1:Nat):Int) by omega,wrap_i64 (n:=((i+1:Nat):Int)) (by omega) (by omega)]]
    simp only[q5v (H:=H12),T.z1l,p2,q0a,wp,dt (show (i:Int)<16 by omega)];simp only[q7R (H:=H12),T.z4O,p1,p2,q1,q0o,q0a,q0H,q0I,q0E,lcd,b1F _ h16,q07 _ h16,e',xbt]
   ·intro hlt;simp only[q5v (H:=H12),T.z1l,p2,q0a,wp,dt (show (i:Int)<16 by omega)];simp only[q7R (H:=H12),T.z4O,p1,p2,q1,q0o,q0a,q0H,q0I,q0E,lcd,b1F _ h16,q07 _ h16,e',xbt];simp only[z1m (H:=H12),T.j0l,p2,wp,show (i:Int)+1=((i+1:Nat):Int) by omega,wrap_i64 (n:=((i+1:Nat):Int)) (by omega) (by omega)]
    exact i2 hlt
  ·have e':decide (((dig n i:Nat):Int)=0)=false:=df (by omega);constructor
   ·intro hlt;exact absurd (z9d (Nat.lt_of_lt_of_le hlt (Nat.pow_le_pow_right (by omega) h4))) e
   ·intro _;simp only[q5v (H:=H12),T.z1l,p2,q0a,wp,dt (show (i:Int)<16 by omega)];simp only[q7R (H:=H12),T.z4O,p1,p2,q1,q0o,AV.cells,Nat.reduceAdd,Nat.reduceLeDiff,q0a,q0H,q0I,q0E,AV.one,over,lcl,b1F _ h16,q07 _ h16,e',xbf];refine Res.eq ?_ rfl
    (repeat apply Fr.lays)
    exact Fr.refl _
theorem j65 {x:Nat} (h:x<4294967296):q0S Tryz.prog .shl 26 (.int .u64 (x:Int)) (.int .u64 32)=some (.int .u64 ((x*4294967296:Nat):Int)):=by
 rw[show (32:Int)=((32:Nat):Int) from rfl,q9q 26 32 (by omega)];congr 2;have:((x:Int)*2 ^ 32)=(x:Int)*4294967296:=rfl;rw[this];omega
theorem j6Z {x:Int} (hx:x.natAbs<4294967296 ^ 16) (m:Mem):Res m (run E12 (.fn 135) [.agg (q1J x)] m) (.tup [.agg (q4l x).1.cells,.bool (q4l x).2]):=by
 obtain⟨l1,l2⟩:=z8k hx (decide (x<0)) m 12 4 rfl (by omega) rfl;obtain⟨n,hn⟩:∃n,n=x.natAbs:=⟨_,rfl⟩;simp only[q1J,a0d (H:=H12) rfl,T.f135,pB,q0K,wp,Wd.cells,AV.one,AV.cells,lcd];rw[<-hn]at l1 l2⊢;rw[show (4:Int)=((4:Nat):Int) from rfl];by_cases hlt:n<4294967296 ^ 4
 ·rw[l1 hlt];obtain⟨lo,hlo⟩:∃lo,lo=n % 18446744073709551616:=⟨_,rfl⟩;obtain⟨hi,hhi⟩:∃hi,hi=n / 18446744073709551616:=⟨_,rfl⟩;have d0:=b2l n;have d1:=b2J n;have d2:=b2K n;have d3:=b2L n;have lt1:=q2S n 1;have lt3:=q2S n 3;have w1:IntKind.wrap .u64 ((dig n 0:Int)+((dig n 1*4294967296:Nat):Int))=(lo:Int):=by rw[q0n];omega
  have w2:IntKind.wrap .u64 ((dig n 2:Int)+((dig n 3*4294967296:Nat):Int))=(hi:Int):=by rw[q0n];omega
  have hlo2:lo<18446744073709551616:=by omega
  have hhi2:hi<18446744073709551616:=by omega
  by_cases hneg:x<0
  ·rw[dt hneg];simp only[z1n (H:=H12),T.j0m,p1,p2,q1,q0o,AV.cells,Nat.reduceAdd,q0a,unA,q0H,q0I,q0E,lcd,j1U,j1V,j1W,j1X,q07 _ (show 0<16 by omega),q07 _ (show 1<16 by omega),q07 _ (show 2<16 by omega),q07 _ (show 3<16 by omega),j65 lt1,j65 lt3,w1,w2,xbt];by_cases g1:9223372036854775808<hi
   ·have hf:q0Q x=false:=q1m (by omega);simp only[q5w (H:=H12),T.z1o,p2,p1,q0o,AV.cells,Nat.reduceAdd,Nat.reduceLeDiff,q0a,ifV,q0H,q0I,q0w,AV.one,over,lcl,dt (show (9223372036854775808:Int)<(hi:Int) by omega)];refine Res.eq ?_ (by unfold q4l;rw[if_neg (by rw[hf];decide),if_neg (by omega)])
    (repeat apply Fr.lays)
    exact Fr.refl _
   ·have main:q0Q x=true->Res m (D12.gor 552965 [.ptr (some ⟨m.next+1,0⟩),.int .u64 (lo:Int),.int .u64 (hi:Int)] ((m.lay (.cells (.bool true::D16 n) false)).lay (.cells [.int .i64 0,.int .u64 0] false))) (.tup [.agg (q4l x).1.cells,.bool (q4l x).2]):=by
     intro hf;have hv:q4l x=(Wd.of x,true):=by unfold q4l;rw[if_pos hf]
     rw[hv];unfold q0Q at hf;simp only[Bool.and_eq_true,decide_eq_true_eq]at hf;by_cases g2:lo=0
     ·have u1:IntKind.wrap .u64 (18446744073709551615-(lo:Int)+1)=0:=by rw[q0n];omega
      have u2:IntKind.wrap .i64 (IntKind.wrap .u64 (18446744073709551615-(hi:Int)+1))=(Wd.of x).hi:=by rw[q2q,q0n];unfold Wd.of;simp only;omega
      simp only[z1p (H:=H12),T.j0n,p1,p2,q0a,wp,q4j (x:=(lo:Int)) (by omega) (by omega),q4j (x:=(hi:Int)) (by omega) (by omega),u1,decide_true];simp only[z1q (H:=H12),T.j0o,p1,q0o,AV.cells,Nat.reduceAdd,Nat.reduceLeDiff,q0H,q0I,q0w,Wd.cells,AV.one,over,lcl,u2];refine Res.eq ?_ (by unfold Wd.of;simp only[AV.tup.injEq,List.cons.injEq,AV.agg.injEq,AV.int.injEq,true_and,and_true];omega)
      (repeat apply Fr.lays)
      exact Fr.refl _
     ·have u1:IntKind.wrap .u64 (18446744073709551615-(lo:Int)+1)=(Wd.of x).lo:=by rw[q0n];unfold Wd.of;simp only;omega
      have u2:IntKind.wrap .i64 (18446744073709551615-(hi:Int))=(Wd.of x).hi:=by rw[q2q];unfold Wd.of;simp only;omega
      simp only[z1p (H:=H12),T.j0n,p1,p2,q0a,wp,q4j (x:=(lo:Int)) (by omega) (by omega),q4j (x:=(hi:Int)) (by omega) (by omega),u1,df (show ¬(Wd.of x).lo=0 by unfold Wd.of;simp only;omega)];simp only[z1q (H:=H12),T.j0o,p1,q0o,AV.cells,Nat.reduceAdd,Nat.reduceLeDiff,q0H,q0I,q0w,Wd.cells,AV.one,over,lcl,u2];refine Res.eq ?_ rfl
      (repeat apply Fr.lays)
      exact Fr.refl _
    by_cases g3:hi=9223372036854775808
    ·by_cases g4:0<lo
     ·have hf:q0Q x=false:=q1m (by omega);simp only[q5w (H:=H12),T.z1o,p2,p1,q0o,AV.cells,Nat.reduceAdd,Nat.reduceLeDiff,q0a,ifV,q0H,q0I,q0w,AV.one,over,lcl,df (show ¬(9223372036854775808:Int)<(hi:Int) by omega),dt (show (hi:Int)=9223372036854775808 by omega),dt (show (0:Int)<(lo:Int) by omega)];refine Res.eq ?_ (by unfold q4l;rw[if_neg (by rw[hf];decide),if_neg (by omega)])
      (repeat apply Fr.lays)
      exact Fr.refl _
     ·simp only[q5w (H:=H12),T.z1o,p2,p1,q0o,AV.cells,Nat.reduceAdd,Nat.reduceLeDiff,q0a,ifV,q0H,q0I,q0w,AV.one,over,lcl,df (show ¬(9223372036854775808:Int)<(hi:Int) by omega),dt (show (hi:Int)=9223372036854775808 by omega),df (show ¬(0:Int)<(lo:Int) by omega)];exact main (q0V (by omega) (by omega))
    ·simp only[q5w (H:=H12),T.z1o,p2,p1,q0o,AV.cells,Nat.reduceAdd,Nat.reduceLeDiff,q0a,ifV,q0H,q0I,q0w,AV.one,over,lcl,df (show ¬(9223372036854775808:Int)<(hi:Int) by omega),df (show ¬(hi:Int)=9223372036854775808 by omega)];exact main (q0V (by omega) (by omega))
  ·rw[df hneg];simp only[z1n (H:=H12),T.j0m,p1,p2,q1,q0o,AV.cells,Nat.reduceAdd,Nat.reduceLeDiff,q0a,unA,q0H,q0I,q0E,AV.one,over,lcl,q1G,j1U,j1V,j1W,j1X,q07 _ (show 0<16 by omega),q07 _ (show 1<16 by omega),q07 _ (show 2<16 by omega),q07 _ (show 3<16 by omega),j65 lt1,j65 lt3,w1,w2,xbf];refine Res.eq (?_:Fr _ _ _) ?_
   ·(repeat apply Fr.lays)
    exact Fr.refl _
   ·unfold q4l;by_cases g:hi<9223372036854775808
    ·have hf:q0Q x=true:=q0V (by omega) (by omega);rw[if_pos hf,dt (show (hi:Int)<9223372036854775808 by omega),wrap_i64 (by omega) (by omega)];unfold Wd.of;simp only[AV.tup.injEq,List.cons.injEq,AV.agg.injEq,AV.int.injEq,true_and,and_true];omega
    ·have hf:q0Q x=false:=q1m (by omega);rw[if_neg (by rw[hf];decide),if_pos (by omega),df (show ¬(hi:Int)<9223372036854775808 by omega),q2q];simp only[AV.tup.injEq,List.cons.injEq,AV.agg.injEq,AV.int.injEq,true_and,and_true];omega
 ·have hf:q0Q x=false:=q1m (by omega);have hv:q4l x=(⟨0,0⟩,false):=by unfold q4l;rw[if_neg (by rw[hf];decide),if_neg (by omega)]
  rw[hv];exact l2 hlt
end
section
set_option maxRecDepth 4000
open Go Go.Abs
def S13:List FuncId:=[152,151,70,68,135]
noncomputable def H13:FuncId->Option (List AV->Mem->R):=q1L E12 S13
noncomputable abbrev E13:Env:=T.EH H13
theorem a4E:q1u E13:=q0Z a4D S13
section
variable {H:FuncId->Option (List AV->Mem->R)}
theorem a3K (h:H 152=some (q0y E12 152)) {a b:Nat} (ha:a<4294967296 ^ 16) (hb:b<4294967296 ^ 16) (hb0:0<b) (m:Mem):run (T.EH H) (.fn 152) [.agg (D16 a),.agg (D16 b)] m=some (.tup [.agg (D16 (a / b)),.agg (D16 (a % b))],m):=
 q0r h (by simp[AV.flat,AV.lt,AV.lts,q4m]) fun m2 _ _=>a3L ha hb hb0 m2
theorem j2V (h:H 151=some (q0y E12 151)) {k:Nat} (hk:k<=60) (m:Mem):run (T.EH H) (.fn 151) [.int .i64 (k:Int)] m=some (.agg (D16 (10 ^ k)),m):=
 q0r h (by simp[AV.flat,AV.lt,q4m]) fun m2 _ _=>a3Z hk m2
theorem q4J (h:H 70=some (q0y E12 70)) {a:Nat} (ha:a<4294967296 ^ 16) (m:Mem):run (T.EH H) (.fn 70) [.agg (D16 a)] m=some (.bool (decide (a=0)),m):=
 q0r h (by simp[AV.flat,AV.lt]) fun m2 _ _=>j60 ha m2
theorem q3V (h:H 68=some (q0y E12 68)) {a:Wd} (ha:a.ok) (m:Mem):run (T.EH H) (.fn 68) [.agg a.cells] m=some (.agg (q1J a.val),m):=
 q0r h (by simp[AV.flat,AV.lt,q34]) fun m2 _ _=>b0Q ha m2
theorem z6I (h:H 135=some (q0y E12 135)) {x:Int} (hx:x.natAbs<4294967296 ^ 16) (m:Mem):run (T.EH H) (.fn 135) [.agg (q1J x)] m=some (.tup [.agg (q4l x).1.cells,.bool (q4l x).2],m):=
 q0r h (by simp[AV.flat,AV.lt,AV.lts,Wd.cells]) fun m2 _ _=>j6Z hx m2
end
theorem q3e {n k:Nat} (h:n<4294967296 ^ k) (hk:k<=16):n<4294967296 ^ 16:=Nat.lt_of_lt_of_le h (Nat.pow_le_pow_right (by omega) hk)
theorem z6w {a b:Nat} (ha:a<4294967296 ^ 8) (hb:b<4294967296 ^ 7):a*b<4294967296 ^ 16:=by
 have h:=Nat.mul_lt_mul'' ha hb;rw[<-Nat.pow_add]at h;exact q3e h (by omega)
theorem j2X {a b:Int} (ha:a.natAbs<4294967296 ^ 8) (hb:b.natAbs<4294967296 ^ 7) (m:Mem):Res m (run E13 (.fn 138) [.agg (q1J a),.agg (q1J b)] m) (.agg (q1J (a*b))):=by
 have mu:=fun m=>j2L (H:=H13) rfl ha hb m
 have zr:=fun m=>q4J (H:=H13) rfl (z6w ha hb) m
 unfold q1J;rw[Int.natAbs_mul];by_cases h:(decide (a<0)==decide (b<0))=true
 ·have hn:decide (a*b<0)=false:=by
   apply df;intro hh;have h':=eq_of_beq h;by_cases h1:a<0
   ·rw[dt h1]at h';have h2:=of_decide_eq_true h'.symm;have:=Int.mul_pos_of_neg_of_neg h1 h2;omega
   ·rw[df h1]at h';have h2:=of_decide_eq_false h'.symm;have:=Int.mul_nonneg (show 0<=a by omega) (show 0<=b by omega);omega
  simp only[z9z (H:=H13) rfl,T.f138,pB,p1,q1,p2,q0o,AV.cells,Nat.reduceAdd,Nat.reduceLeDiff,q0K,ifV,unA,q0H,q0I,z6T,AV.one,lcd,z16,mu,h,xbt,hn];refine Res.eq ?_ rfl
  (repeat apply Fr.lays)
  exact Fr.refl _
 ·rw[Bool.not_eq_true]at h;have hn:(!decide (a.natAbs*b.natAbs=0))=decide (a*b<0):=by
   have h':¬(decide (a<0)=decide (b<0)):=by intro e;rw[e]at h;simp at h
   have hz:(a.natAbs*b.natAbs=0)=(a*b=0):=by rw[<-Int.natAbs_mul];apply propext;exact Int.natAbs_eq_zero
   rw[<-decide_not];apply decide_eq_decide.mpr;rw[hz];by_cases h1:a<0
   ·rw[dt h1]at h';have h2:¬b<0:=fun x=>h' (dt x).symm
    have:=Int.mul_nonneg (show 0<=-a by omega) (show 0<=b by omega);rw[Int.neg_mul]at this;omega
   ·rw[df h1]at h';have h2:b<0:=by
     apply Classical.byContradiction;intro x;exact h' (df x).symm
    have:=Int.mul_nonneg (show 0<=a by omega) (show 0<=-b by omega);rw[Int.mul_neg]at this;omega
  simp only[z9z (H:=H13) rfl,T.f138,pB,p1,q1,p2,q0o,AV.cells,Nat.reduceAdd,Nat.reduceLeDiff,q0K,ifV,unA,q0H,q0I,z6T,AV.one,lcd,z16,mu,h,xbf,zr,hn];refine Res.eq ?_ rfl
  (repeat apply Fr.lays)
  exact Fr.refl _
theorem j2K {x:Int} (hx:x.natAbs<4294967296 ^ 16) (m:Mem):Res m (run E13 (.fn 115) [.agg (q1J x)] m) (.agg (q1J (-x))):=by
 have zr:=fun m=>q4J (H:=H13) rfl hx m
 unfold q1J;rw[Int.natAbs_neg];by_cases h:x<0
 ·rw[dt h,df (show ¬-x<0 by omega)];simp only[z9r (H:=H13) rfl,T.f115,pB,p1,q1,q0o,AV.cells,Nat.reduceAdd,Nat.reduceLeDiff,q0K,ifV,unA,q0H,q0I,q0E,AV.one,lcd,z16,xbt];refine Res.eq ?_ rfl
  (repeat apply Fr.lays)
  exact Fr.refl _
 ·rw[df h];have hn:(!decide (x.natAbs=0))=decide (-x<0):=by
   rw[<-decide_not];apply decide_eq_decide.mpr;omega
  simp only[z9r (H:=H13) rfl,T.f115,pB,p1,q1,q0o,AV.cells,Nat.reduceAdd,Nat.reduceLeDiff,q0K,ifV,unA,q0H,q0I,q0E,AV.one,lcd,z16,xbf,zr,hn];refine Res.eq ?_ rfl
  (repeat apply Fr.lays)
  exact Fr.refl _
theorem a3Y {x y:Int} (hx:x.natAbs<4294967296 ^ 15) (hy:y.natAbs<4294967296 ^ 15) (m:Mem):Res m (run E13 (.fn 69) [.agg (q1J x),.agg (q1J y)] m) (.agg (q1J (x+y))):=by
 have hx':=q3e hx (by omega);have hy':=q3e hy (by omega);have ad:=fun m=>z0s (H:=H13) rfl x.natAbs y.natAbs m
 have cm:=fun m=>z3V (H:=H13) rfl hx' hy' m
 unfold q1J;by_cases h:(decide (x<0)==decide (y<0))=true
 ·have hs:decide (x+y<0)=decide (x<0)/\(x+y).natAbs=x.natAbs+y.natAbs:=by
   have h':=eq_of_beq h;by_cases h1:x<0
   ·rw[dt h1]at h';have h2:=of_decide_eq_true h'.symm;exact⟨by rw[dt h1];exact dt (by omega),by omega⟩
   ·rw[df h1]at h';have h2:=of_decide_eq_false h'.symm;exact⟨by rw[df h1];exact df (by omega),by omega⟩
  rw[hs.1,hs.2];simp only[j7M (H:=H13) rfl,T.f69,pB,p1,q1,p2,q0o,AV.cells,Nat.reduceAdd,Nat.reduceLeDiff,q0K,q0a,q0H,q0I,b06,AV.one,lcd,z16,ad,h];refine Res.eq ?_ rfl
  (repeat apply Fr.lays)
  exact Fr.refl _
 ·rw[Bool.not_eq_true]at h;have h':¬(decide (x<0)=decide (y<0)):=by intro e;rw[e]at h;simp at h
  simp only[j7M (H:=H13) rfl,T.f69,pB,p1,q1,p2,q0o,AV.cells,Nat.reduceAdd,Nat.reduceLeDiff,q0K,q0a,q0H,q0I,b06,AV.one,lcd,z16,h];by_cases hl:x.natAbs<y.natAbs
  ·have hc:decide (q8r x.natAbs y.natAbs<0)=true:=by unfold q8r;rw[if_pos hl];decide
   have sb:=fun m=>z4c (H:=H13) rfl (show x.natAbs<=y.natAbs by omega) m
   have hs:decide (x+y<0)=decide (y<0)/\(x+y).natAbs=y.natAbs-x.natAbs:=by
    by_cases h1:x<0
    ·rw[dt h1]at h';have h2:¬y<0:=fun x=>h' (dt x).symm
     exact⟨decide_eq_decide.mpr (by omega),by omega⟩
    ·rw[df h1]at h';have h2:y<0:=by
      apply Classical.byContradiction;intro x;exact h' (df x).symm
     exact⟨decide_eq_decide.mpr (by omega),by omega⟩
   rw[hs.1,hs.2];simp only[z5Q (H:=H13),T.a1t,p1,q1,p2,q0o,AV.cells,Nat.reduceAdd,Nat.reduceLeDiff,q0a,q0H,q0I,q0E,lcd,cm,hc,sb];refine Res.eq ?_ rfl
   (repeat apply Fr.lays)
   exact Fr.refl _
  ·have hc:decide (q8r x.natAbs y.natAbs<0)=false:=by unfold q8r;rw[if_neg hl];split<;>decide
   have sb:=fun m=>z4c (H:=H13) rfl (show y.natAbs<=x.natAbs by omega) m
   have zr:=fun m=>q4J (H:=H13) rfl (a:=x.natAbs-y.natAbs) (by omega) m
   have ha:(x+y).natAbs=x.natAbs-y.natAbs:=by
    by_cases h1:x<0
    ·rw[dt h1]at h';have h2:¬y<0:=fun x=>h' (dt x).symm
     omega
    ·rw[df h1]at h';have h2:y<0:=by
      apply Classical.byContradiction;intro x;exact h' (df x).symm
     omega
   rw[ha];simp only[z5Q (H:=H13),T.a1t,p1,q1,p2,q0o,AV.cells,Nat.reduceAdd,Nat.reduceLeDiff,q0a,q0H,q0I,q0E,lcd,cm,hc];by_cases h1:x<0
   ·have hn:(!decide (x.natAbs-y.natAbs=0))=decide (x+y<0):=by
     rw[dt h1]at h';have h2:¬y<0:=fun x=>h' (dt x).symm
     rw[<-decide_not];exact decide_eq_decide.mpr (by omega)
    rw[dt h1];simp only[z5R (H:=H13),T.a1u,p1,q1,pB,q0o,AV.cells,Nat.reduceAdd,Nat.reduceLeDiff,ifV,unA,q0H,q0I,q0E,lcd,z16,sb,zr,hn];refine Res.eq ?_ rfl
    (repeat apply Fr.lays)
    exact Fr.refl _
   ·have hn:decide (x+y<0)=false:=by
     rw[df h1]at h';have h2:y<0:=by
      apply Classical.byContradiction;intro x;exact h' (df x).symm
     exact df (by omega)
    rw[df h1,hn];simp only[z5R (H:=H13),T.a1u,p1,q1,pB,q0o,AV.cells,Nat.reduceAdd,Nat.reduceLeDiff,ifV,unA,q0H,q0I,q0E,lcd,z16,sb];refine Res.eq ?_ rfl
    (repeat apply Fr.lays)
    exact Fr.refl _
theorem q9d {x:Int} (h:q0Q x=true):q4l x=(Wd.of x,true):=by unfold q4l;rw[if_pos h]
theorem z2B {x:Int} (h:q0Q x=false):(q4l x).2=false:=by unfold q4l;rw[if_neg (by rw[h];decide)];split<;>rfl
theorem a4a {x:Int} (hx:x.natAbs<4294967296 ^ 16) (m:Mem):Res m (run E13 (.fn 114) [.agg (q1J x)] m) (.tup [.agg (Wd.res x).1.cells,.int .i64 (Wd.res x).2]):=by
 have wd:=fun m=>z6I (H:=H13) rfl hx m
 cases hf:q0Q x with
 |true=>
  rw[q9d hf]at wd;rw[q1a hf];simp only[q1J,Wd.cells]at wd⊢;simp only[z9q (H:=H13) rfl,T.f114,pB,q1,p1,q0o,AV.cells,Nat.reduceAdd,Nat.reduceLeDiff,q0K,q0d,q0a,unA,q0H,q0I,q0w,AV.one,over,lcl,q1G,q4n,q3u,wd,xbt];simp only[j0b (H:=H13),T.j8d,q1,q0H,q0I,wp,AV.one,over,AV.cells,Nat.reduceAdd,Nat.reduceLeDiff,lcl];refine Res.eq ?_ rfl
  (repeat apply Fr.lays)
  exact Fr.refl _
 |false=>
  rw[z2B hf]at wd;rw[z0u hf];simp only[q1J,Wd.cells]at wd⊢;simp only[z9q (H:=H13) rfl,T.f114,pB,q1,p1,q0o,AV.cells,Nat.reduceAdd,Nat.reduceLeDiff,q0K,q0d,q0a,unA,q0H,q0I,q0w,AV.one,over,lcl,q1G,q4n,q3u,wd,xbf];refine Res.eq ?_ rfl
  (repeat apply Fr.lays)
  exact Fr.refl _
theorem a3J {x:Int} (hx:x.natAbs<4294967296 ^ 16) (to:Int) (m:Mem):Res m (run E13 (.fn 136) [.agg (q1J x),.int .i64 to] m) (q2A x to):=by
 have wd:=fun m=>z6I (H:=H13) rfl hx m
 unfold q2A;cases hf:q0Q x with
 |true=>
  rw[q9d hf]at wd;simp only[q1J,Wd.cells,q0u,if_true]at wd⊢;simp only[z9x (H:=H13) rfl,T.f136,pB,q1,p1,q0o,AV.cells,Nat.reduceAdd,Nat.reduceLeDiff,q0K,q0d,q0a,unA,q0H,q0I,q0w,AV.one,over,lcl,q1G,q4n,q3u,wd,xbt];simp only[j0p (H:=H13),T.j8j,q1,p1,q0o,AV.cells,Nat.reduceAdd,Nat.reduceLeDiff,q0H,q0I,q0w,AV.one,over,lcl]
  refine Res.eq ?_ rfl
  (repeat apply Fr.lays)
  exact Fr.refl _
 |false=>
  rw[z2B hf]at wd;simp only[q1J,Wd.cells,q0u,xbq,if_false]at wd⊢;simp only[z9x (H:=H13) rfl,T.f136,pB,q1,p1,q0o,AV.cells,Nat.reduceAdd,Nat.reduceLeDiff,q0K,q0d,q0a,unA,q0H,q0I,q0w,AV.one,over,lcl,q1G,q4n,q3u,wd,xbf];refine Res.eq ?_ rfl
  (repeat apply Fr.lays)
  exact Fr.refl _
theorem z8i (w:Wd) (s:Int) (m:Mem):Res m (run E13 (.fn 78) [.agg (q0u w s)] m) (.bool (decide (0<=s/\s<=18))):=by
 by_cases h1:0<=s
 ·simp only[q0u,j7N (H:=H13) rfl,T.f78,p1,q1,p2,q0K,ifV,q0e,AV.one,AV.cells,lcl,dt (show s>=0 from h1)];refine Res.eq ?_ (by congr 1;exact decide_eq_decide.mpr (by omega))
  (repeat apply Fr.lays)
  exact Fr.refl _
 ·simp only[q0u,j7N (H:=H13) rfl,T.f78,p1,q1,p2,q0K,ifV,q0e,AV.one,AV.cells,lcl,df (show ¬s>=0 from h1)];refine Res.eq ?_ (by congr 1;exact(df (by omega)).symm)
  (repeat apply Fr.lays)
  exact Fr.refl _
end
section
set_option maxRecDepth 4000
open Go Go.Abs
def S14:List FuncId:=[138,115,69,114,136,78]
noncomputable def H14:FuncId->Option (List AV->Mem->R):=q1L E13 S14
noncomputable abbrev E14:Env:=T.EH H14
theorem a4F:q1u E14:=q0Z a4E S14
noncomputable abbrev D14:Do:=T.Rl H14
section
variable {H:FuncId->Option (List AV->Mem->R)}
theorem z2o (h:H 138=some (q0y E13 138)) {a b:Int} (ha:a.natAbs<4294967296 ^ 8) (hb:b.natAbs<4294967296 ^ 7) (m:Mem):run (T.EH H) (.fn 138) [.agg (q1J a),.agg (q1J b)] m=some (.agg (q1J (a*b)),m):=
 q0r h (by simp[AV.flat,AV.lt,q34]) fun m2 _ _=>j2X ha hb m2
theorem z2n (h:H 115=some (q0y E13 115)) {x:Int} (hx:x.natAbs<4294967296 ^ 16) (m:Mem):run (T.EH H) (.fn 115) [.agg (q1J x)] m=some (.agg (q1J (-x)),m):=
 q0r h (by simp[AV.flat,AV.lt,q34]) fun m2 _ _=>j2K hx m2
theorem q6t (h:H 69=some (q0y E13 69)) {x y:Int} (hx:x.natAbs<4294967296 ^ 15) (hy:y.natAbs<4294967296 ^ 15) (m:Mem):run (T.EH H) (.fn 69) [.agg (q1J x),.agg (q1J y)] m=some (.agg (q1J (x+y)),m):=
 q0r h (by simp[AV.flat,AV.lt,q34]) fun m2 _ _=>a3Y hx hy m2
theorem j2Y (h:H 114=some (q0y E13 114)) {x:Int} (hx:x.natAbs<4294967296 ^ 16) (m:Mem):run (T.EH H) (.fn 114) [.agg (q1J x)] m=some (.tup [.agg (Wd.res x).1.cells,.int .i64 (Wd.res x).2],m):=
 q0r h (by simp[AV.flat,AV.lt,AV.lts,Wd.cells]) fun m2 _ _=>a4a hx m2
theorem a3I (h:H 136=some (q0y E13 136)) {x:Int} (hx:x.natAbs<4294967296 ^ 16) (to:Int) (m:Mem):run (T.EH H) (.fn 136) [.agg (q1J x),.int .i64 to] m=some (q2A x to,m):=
 q0r h (q3B _ _) fun m2 _ _=>a3J hx to m2
theorem q4I (h:H 78=some (q0y E13 78)) (w:Wd) (s:Int) (m:Mem):run (T.EH H) (.fn 78) [.agg (q0u w s)] m=some (.bool (decide (0<=s/\s<=18)),m):=
 q0r h (by simp[AV.flat,AV.lt]) fun m2 _ _=>z8i w s m2
end
theorem z0G (k:Nat):q0J k=((10 ^ k:Nat):Int):=by unfold q0J;exact (Int.natCast_pow 10 k).symm
def j3l (x k:Int):Int:=if k<=0 then x*q0J (-k).toNat else if x<0 then -(rhe (-x) k.toNat) else rhe x k.toNat
theorem a3Q {x:Int} {q:Nat} (hq:q<4294967296 ^ 16) (hz:x=0->q=0) (m:Mem) (c0 c1 c2 c3:List AV) :
  Res m (D14.gor 561153 [.ptr (some ⟨m.next,0⟩),.ptr (some ⟨m.next+1,0⟩),.ptr (some ⟨m.next+1+1+1,0⟩)]
   ((((((m.lay (.cells (q1J x) false)).lay (.cells (.bool false::D16 0) false)).lay (.cells c0 false)).lay (.cells (D16 q) false)).lay (.cells c1 false)).lay (.cells c2 false))) (.agg (q1J (if x<0 then -(q:Int) else (q:Int)))):=by
 have zr:=fun m=>q4J (H:=H14) rfl hq m
 by_cases h:x<0
 ·rw[if_pos h];have hn:(!decide (q=0))=decide (-(q:Int)<0):=by rw[<-decide_not];exact decide_eq_decide.mpr (by omega)
  simp only[q1J,dt h,show (-(q:Int)).natAbs=q by omega];simp only[z1s (H:=H14),T.j0q,p1,q1,q0o,AV.cells,Nat.reduceAdd,Nat.reduceLeDiff,ifV,unA,q0H,q0I,q0E,lcd,z16,zr,hn];refine Res.eq ?_ rfl
  (repeat apply Fr.lays)
  exact Fr.refl _
 ·rw[if_neg h];simp only[q1J,df h,show ((q:Int)).natAbs=q by omega,df (show ¬(q:Int)<0 by omega)];simp only[z1s (H:=H14),T.j0q,p1,q1,q0o,AV.cells,Nat.reduceAdd,Nat.reduceLeDiff,ifV,unA,q0H,q0I,q0E,lcd,z16];refine Res.eq ?_ rfl
  (repeat apply Fr.lays)
  exact Fr.refl _
theorem j2T {x:Int} (hx:x.natAbs<4294967296 ^ 8) {k:Int} (hk0:-60<=k) (hk1:k<=60) (m:Mem):Res m (run E14 (.fn 137) [.agg (q1J x),.int .i64 k] m) (.agg (q1J (j3l x k))):=by
 by_cases h:k<=0
 ·obtain⟨j,hj⟩:∃j:Nat,k=-(j:Int):=⟨(-k).toNat,by omega⟩;subst hj;have tn:=fun m=>j2V (H:=H14) rfl (k:=j) (by omega) m
  have ti:=fun m=>z2o (H:=H14) rfl hx (b:=((10 ^ j:Nat):Int)) (by rw[Int.natAbs_natCast];exact q51 (by omega)) m
  have hb:q1J ((10 ^ j:Nat):Int)=.bool false::D16 (10 ^ j):=by
   unfold q1J;rw[Int.natAbs_natCast,df (Int.not_lt.mpr (Int.natCast_nonneg _))]
  rw[hb]at ti;have hr:j3l x (-(j:Int))=x*((10 ^ j:Nat):Int):=by
   unfold j3l;rw[if_pos h,show (-(-(j:Int))).toNat=j by omega,z0G]
  rw[hr];have hneg:IntKind.wrap .i64 (0 - -(j:Int))=(j:Int):=by rw[wrap_i64 (by omega) (by omega)];omega
  simp only[q1J]at ti⊢;simp only[z9y (H:=H14) rfl,T.f137,pB,p2,q1,p1,q0o,AV.cells,Nat.reduceAdd,Nat.reduceLeDiff,q0K,q0a,q0H,q0I,q0w,unA,AV.one,lcd,z16,dt h,hneg,tn,ti];refine Res.eq ?_ rfl
  (repeat apply Fr.lays)
  exact Fr.refl _
 ·obtain⟨j,hj⟩:∃j:Nat,k=(j:Int):=⟨k.toNat,by omega⟩;subst hj;have tn:=fun m=>j2V (H:=H14) rfl (k:=j) (by omega) m
  have hp:0<10 ^ j:=Nat.pow_pos (by omega);have hpl:=q51 (k:=j) (by omega);have hpl':=q3e hpl (by omega);have dv:=fun m=>a3K (H:=H14) rfl (q3e hx (by omega)) hpl' hp m
  obtain⟨n,hn⟩:∃n,n=x.natAbs:=⟨_,rfl⟩;rw[<-hn]at dv;have hx':=hx;rw[<-hn]at hx;have ql:n / 10 ^ j<=n:=Nat.div_le_self _ _;have rl:=Nat.mod_lt n hp;have fin:=fun {q:Nat} hq hz=>a3Q (x:=x) (q:=q) hq hz m
  have tP:=z0G j;have hq1:n / 10 ^ j+1<4294967296 ^ 16:=by
   have h1:n+1<4294967296 ^ 16:=Nat.lt_of_le_of_lt (show n+1<=4294967296 ^ 8 from hx) (Nat.pow_lt_pow_right (by omega) (by omega));omega
  have hval:j3l x (j:Int)=(if x<0 then -(((if 10 ^ j<2*(n % 10 ^ j)\/(2*(n % 10 ^ j)=10 ^ j/\n / 10 ^ j % 2=1) then n / 10 ^ j+1 else n / 10 ^ j:Nat):Int)) else ((if 10 ^ j<2*(n % 10 ^ j)\/(2*(n % 10 ^ j)=10 ^ j/\n / 10 ^ j % 2=1) then n / 10 ^ j+1 else n / 10 ^ j:Nat):Int)):=by
   have key:rhe (n:Int) j=((if 10 ^ j<2*(n % 10 ^ j)\/(2*(n % 10 ^ j)=10 ^ j/\n / 10 ^ j % 2=1) then n / 10 ^ j+1 else n / 10 ^ j:Nat):Int):=by
    unfold rhe;rw[tP,<-Int.natCast_ediv,<-Int.natCast_emod];by_cases hc:10 ^ j<2*(n % 10 ^ j)\/(2*(n % 10 ^ j)=10 ^ j/\n / 10 ^ j % 2=1)
    ·rw[if_pos hc,if_pos (by omega)];rfl
    ·rw[if_neg hc,if_neg (by omega)]
   unfold j3l;rw[if_neg h,show ((j:Int)).toNat=j by omega];by_cases hneg:x<0
   ·rw[if_pos hneg,if_pos hneg,show -x=(n:Int) by omega,key]
   ·rw[if_neg hneg,if_neg hneg,show x=(n:Int) by omega,key]
  have hz:x=0->(if 10 ^ j<2*(n % 10 ^ j)\/(2*(n % 10 ^ j)=10 ^ j/\n / 10 ^ j % 2=1) then n / 10 ^ j+1 else n / 10 ^ j)=0:=by
   intro h0;have:n=0:=by omega
   subst this;rw[Nat.zero_mod,Nat.zero_div];rw[if_neg (by omega)]
  rw[hval];obtain⟨p,hpp⟩:∃p,p=10 ^ j:=⟨_,rfl⟩;rw[<-hpp]at tn hp hpl hpl' dv ql rl hq1 hz⊢;obtain⟨q,hqq⟩:∃q,q=n / p:=⟨_,rfl⟩;obtain⟨r,hrr⟩:∃r,r=n % p:=⟨_,rfl⟩;rw[<-hqq]at dv ql hq1 hz⊢;rw[<-hrr]at dv rl hz⊢;have a1:=fun m=>z0s (H:=H14) rfl r r m
  have a2:=fun m=>z0s (H:=H14) rfl q 1 m
  have hr2:r+r<4294967296 ^ 16:=by
   have h1:r+r<=4294967296 ^ 7+4294967296 ^ 7:=by omega
   exact Nat.lt_of_le_of_lt h1 (by decide)
  have cm:=fun m=>z3V (H:=H14) rfl hr2 hpl' m
  have s1:over (D16 0) 0 (.int .u64 1) 1=some (D16 1):=q8g (n:=1) (by omega);have hodd:((dig q 0:Nat):Int).tmod 2=((q % 2:Nat):Int):=by
   rw[Int.tmod_eq_emod_of_nonneg (Int.natCast_nonneg _),b2l];omega
  have z2:(2:Int)≠0:=by omega
  simp only[q1J]at fin;simp only[q1J,<-hn,z9y (H:=H14) rfl,T.f137,pB,p2,q1,p1,q0o,AV.cells,Nat.reduceAdd,Nat.reduceLeDiff,q0K,q0a,q0H,q0I,q0w,AV.one,lcd,z16,df h];simp only[<-hn]at fin;by_cases c1:p<2*r
  ·have hI:(if p<2*r\/(2*r=p/\q % 2=1) then q+1 else q)=q+1:=if_pos (.inl c1)
   rw[hI]at hz⊢;have e1:decide ((0:Int)<q8r (r+r) p)=true:=by unfold q8r;rw[if_neg (by omega),if_neg (by omega)];rfl
   simp only[q5x (H:=H14),T.z1r,pB,p1,q1,p2,q0d,q0a,ifV,Nat.reduceAdd,q0F,Nat.reduceLeDiff,lcd,z16,z3E,s1,tn,dv,a1,cm,e1,a2];exact fin hq1 hz _ _ _ []
  ·have e1:decide ((0:Int)<q8r (r+r) p)=false:=by unfold q8r;split<;>(try split)<;>first|rfl|omega
   by_cases c2:2*r=p
   ·have e2:decide (q8r (r+r) p=0)=true:=by unfold q8r;rw[if_neg (by omega),if_pos (by omega)];rfl
    by_cases c3:q % 2=1
    ·have hI:(if p<2*r\/(2*r=p/\q % 2=1) then q+1 else q)=q+1:=if_pos (.inr ⟨c2,c3⟩)
     rw[hI]at hz⊢;have e3:decide (((q % 2:Nat):Int)=1)=true:=dt (by omega);simp only[q5x (H:=H14),T.z1r,pB,p1,q1,p2,q0d,q0a,ifV,Nat.reduceAdd,q0F,Nat.reduceLeDiff,lcd,z16,z3E,s1,tn,dv,a1,cm,e1,e2,q07 _ (show 0<16 by omega),q2a _ _ _ _ z2,hodd,e3,a2];exact fin hq1 hz _ _ _ []
    ·have hI:(if p<2*r\/(2*r=p/\q % 2=1) then q+1 else q)=q:=if_neg (by omega)
     rw[hI]at hz⊢;have e3:decide (((q % 2:Nat):Int)=1)=false:=df (by omega);simp only[q5x (H:=H14),T.z1r,pB,p1,q1,p2,q0d,q0a,ifV,Nat.reduceAdd,q0F,Nat.reduceLeDiff,lcd,z16,z3E,s1,tn,dv,a1,cm,e1,e2,q07 _ (show 0<16 by omega),q2a _ _ _ _ z2,hodd,e3];exact fin (by omega) hz _ _ _ []
   ·have e2:decide (q8r (r+r) p=0)=false:=by unfold q8r;split<;>(try split)<;>first|rfl|omega
    have hI:(if p<2*r\/(2*r=p/\q % 2=1) then q+1 else q)=q:=if_neg (by omega)
    rw[hI]at hz⊢;simp only[q5x (H:=H14),T.z1r,pB,p1,q1,p2,q0d,q0a,ifV,Nat.reduceAdd,q0F,Nat.reduceLeDiff,lcd,z16,z3E,s1,tn,dv,a1,cm,e1,e2];exact fin (by omega) hz _ _ _ []
end
section
set_option maxRecDepth 4000
open Go Go.Abs
def S15:List FuncId:=[137]
noncomputable def H15:FuncId->Option (List AV->Mem->R):=q1L E14 S15
noncomputable abbrev E15:Env:=T.EH H15
theorem a4G:q1u E15:=q0Z a4F S15
noncomputable abbrev D15:Do:=T.Rl H15
theorem j2S {H:FuncId->Option (List AV->Mem->R)} (h:H 137=some (q0y E14 137)) {x:Int} (hx:x.natAbs<4294967296 ^ 8) {k:Int} (hk0:-60<=k) (hk1:k<=60) (m:Mem):run (T.EH H) (.fn 137) [.agg (q1J x),.int .i64 k] m=some (.agg (q1J (j3l x k)),m):=
 q0r h (by simp[AV.flat,AV.lt,q34]) fun m2 _ _=>j2T hx hk0 hk1 m2
theorem q55 {w:Wd} (h:w.ok):w.val.natAbs<=170141183460469231731687303715884105728:=by
 have:=z4r h;unfold q1H at this;split at this<;>omega
theorem z3W (k:Nat):rhe 0 k=0:=by
 unfold rhe;rw[Int.zero_emod,Int.zero_ediv];have:=q1Q k;rw[if_neg (by omega)]
theorem a3R (x y k:Int):j3l (x*y) k=z3J x y k:=by
 have hs:=b0X x y;unfold z3J scF;obtain⟨A,hA⟩:∃A,A=q1H x*q1H y:=⟨_,rfl⟩;have hA0:0<=A:=by
  rw[hA];have h0:∀z,0<=q1H z:=fun z=>by unfold q1H;split<;>omega
  exact Int.mul_nonneg (h0 x) (h0 y)
 rw[<-hA]at hs⊢;unfold j3l;by_cases hk:0<=k
 ·rw[if_pos hk];by_cases hk0:k=0
  ·subst hk0;rw[if_pos (by omega),show (-(0:Int)).toNat=0 from rfl,show (0:Int).toNat=0 from rfl,show q0J 0=1 from rfl,Int.mul_one,z6E];exact hs.symm
  ·rw[if_neg (by omega)];by_cases hb:(!(decide (x<0)==decide (y<0)))=true
   ·rw[if_pos hb]at hs⊢;by_cases h:x*y<0
    ·rw[if_pos h,show -(x*y)=A by omega]
    ·rw[if_neg h];have h0:A=0:=by omega
     have h1:x*y=0:=by omega
     rw[h0,h1,z3W];rfl
   ·rw[if_neg hb]at hs⊢;rw[if_neg (by omega),<-hs]
 ·rw[if_neg hk,if_pos (by omega)]
theorem z2k {n:Int} (h:0<=n) (k:Nat):(rhe n k).natAbs<=n.natAbs+1:=by
 have h1:=j2I h k;have h2:=j83 h k;omega
theorem j2O {x k:Int} (hx:x.natAbs<4294967296 ^ 8) (hk:-18<=k):(j3l x k).natAbs<4294967296 ^ 16:=by
 unfold j3l;split
 ·rw[Int.natAbs_mul,z0G,Int.natAbs_natCast];exact z6w hx (q51 (by omega))
 ·have h8:4294967296 ^ 8+1<4294967296 ^ 16:=by decide
  split
  ·have:=z2k (show 0<=-x by omega) k.toNat;rw[Int.natAbs_neg]at this;rw[Int.natAbs_neg];omega
  ·have:=z2k (show 0<=x by omega) k.toNat;omega
theorem j9c {a b:Wd} (ha:a.ok) (hb:b.ok):(a.val*b.val).natAbs<4294967296 ^ 8:=by
 rw[Int.natAbs_mul];exact Nat.lt_of_le_of_lt (Nat.mul_le_mul (q55 ha) (q55 hb)) (by decide)
theorem b2j {a:Wd} (ha:a.ok):a.val.natAbs<4294967296 ^ 7:=Nat.lt_of_le_of_lt (q55 ha) (by decide)
theorem b07 {a:Wd} (ha:a.ok):a.val.natAbs<4294967296 ^ 8:=Nat.lt_of_le_of_lt (q55 ha) (by decide)
theorem q21 {a:Wd} (ha:a.ok):a.val.natAbs<4294967296 ^ 15:=Nat.lt_of_le_of_lt (q55 ha) (by decide)
end
section
open Go Go.Abs
theorem j6q (a b:(List UInt8)) (m:Mem):run E15 (.fn 118) [.str a,.str b] m=some (.bool (q0c a b),m):=by
 simp only[j98 (H:=H15) rfl,T.f118,p1,p2,ifV,unA,wp,a0e (H:=H15) rfl,T.f139,wp,decide_true,xbt]
 try rfl
section
variable {m:Mem} {sk:AV} {ks:List (List UInt8)} {kb:Option Nat}
theorem j3v (h:q03 1 m sk (ks.map fun k=>[.str k]) kb) (hs:Srt q0c ks) (hl:ks.length<4611686018427387904) (k:(List UInt8)):∀(d i j:Nat),j-i<=d->i<=j->j<=ks.length->
  (∀x (hx:x<ks.length),x<i->q0c ks[x] k=true)->(∀x (hx:x<ks.length),j<=x->q0c ks[x] k=false)->
  D15.gor 335872 [sk,.str k,.int .i64 ks.length,.int .i64 i,.int .i64 j] m=some (.tup [.int .i64 (lb q0c k ks:Nat),.bool (q0O q0c k ks)],m):=by
 intro d;induction d with
 |zero=>
  intro i j hd hij hj h1 h2;have e:i=j:=by omega
  subst e;have hlb:lb q0c k ks=i:=q2X hj h1 (fun hx=>h2 i hx (xnr _))
  simp only[z5Z (H:=H15),T.j5y,p2,q0a,wp,df (show ¬(i:Int)<(i:Int) by omega)];by_cases hi:i<ks.length
  ·obtain⟨b,rfl,g1,g2⟩:=h.key hi;simp only[z6c (H:=H15),T.j5A,p2,q1,ifV,wp,dt (show (i:Int)<(ks.length:Int) by omega),true_or,if_true,g1,g2,j99 (H:=H15) rfl,T.f119,wp,decide_true,xbt];by_cases hk:ks[i]=k
   ·rw[dt hk];simp only[q0O,hlb,xgq hi,hk,decide_true]
   ·rw[df hk];simp only[q0O,hlb,xgq hi,xoi,df hk]
  ·simp only[z6c (H:=H15),T.j5A,p2,q1,ifV,wp,df (show ¬(i:Int)<(ks.length:Int) by omega)];simp only[q0O,hlb,List.getElem?_eq_none (show ks.length<=i by omega),reduceCtorEq,decide_false]
 |succ d ih=>
  intro i j hd hij hj h1 h2;by_cases e:i=j
  ·exact ih i j (by omega) hij hj h1 h2
  ·have hlt:i<j:=by omega
   obtain⟨hh,hh1⟩:∃hh:Nat,hh=(i+j) / 2:=⟨_,rfl⟩;have hh2:i<=hh/\hh<j:=by omega
   have hh3:IntKind.wrap .i64 ((IntKind.wrap .u64 (IntKind.wrap .i64 ((i:Int)+(j:Int)))).fdiv (2 ^ (min (1:Int).toNat IntKind.u64.bits)))=(hh:Int):=by
    rw[wrap_i64 (n:=(i:Int)+j) (by omega) (by omega),wrap_u64 (by omega) (by omega)];have:((2:Int) ^ (min (1:Int).toNat IntKind.u64.bits))=2:=by rfl
    rw[this,Int.fdiv_eq_ediv_of_nonneg _ (by omega),wrap_i64 (by omega) (by omega)];omega
   have hx:hh<ks.length:=by omega
   obtain⟨b,rfl,g1,g2⟩:=h.key hx;simp only[z5Z (H:=H15),T.j5y,p2,q0a,wp,dt (show (i:Int)<(j:Int) by omega)];simp only[j5z (H:=H15),T.a1E,p2,p1,q1,q0a,wp,q6c _ _ _ _ _ (show (0:Int)<=1 by omega),hh3,true_or,if_true,g1,g2,j6q];cases hc:q0c ks[hh] k with
   |true=>
    simp only;rw[wrap_i64 (by omega) (by omega),show (hh:Int)+1=((hh+1:Nat):Int) by omega];refine ih (hh+1) j (by omega) (by omega) hj (fun x hx' hlt'=>?_) h2
    by_cases e2:x=hh
    ·subst e2;exact hc
    ·exact q1P _ _ _ (q2G hs (show x<hh by omega) hx) hc
   |false=>
    simp only;refine ih i hh (by omega) (by omega) (by omega) h1 (fun x hx' hle=>?_)
    by_cases e2:x=hh
    ·subst e2;exact hc
    ·cases hc2:q0c ks[x] k with
     |false=>rfl
     |true=>rw[q1P _ _ _ (q2G hs (show hh<x by omega) hx') hc2]at hc;cases hc
theorem q4S (h:q03 1 m sk (ks.map fun k=>[.str k]) kb) (hs:Srt q0c ks) (hl:ks.length<4611686018427387904) (k:(List UInt8)) :
  run E15 (.fn 82) [sk,.str k] m=some (.tup [.int .i64 (lb q0c k ks:Nat),.bool (q0O q0c k ks)],m):=by
 have:=j3v h hs hl k ks.length 0 ks.length (by omega) (by omega) (xnr _) (by intro x _ hx;omega) (by intro x hx hx';omega);obtain⟨a,sz,cap,ex,rfl⟩:=h.j6i;simp only[a5V (H:=H15) rfl,T.f82,p1,wp];exact this
end
end
section
open Go Go.Abs
theorem a3d (xs:List AV) (m:Mem):run E15 (.fn 83) xs m=q8t Tryz.prog 140 xs m:=q08 rfl xs m
theorem a3g (xs:List AV) (m:Mem):run E15 (.fn 84) xs m=q8t Tryz.prog 23 xs m:=q08 rfl xs m
section
variable {m:Mem} {t:Nat} {ks:List (List UInt8)} {vs:List (List AV)} {most:Int} {F:List Nat}
theorem a3p (m:Mem) {most:Int} (h1:1<=most) (h2:most<=4096):∃m',run E15 (.fn 79) [.int .i64 most] m=some (.tup [.ptr (some ⟨m.next,0⟩),.int .i64 0],m')/\m'=m.lay (.cells [.sl none 0 0 0 true,.sl none 0 0 0 true,.int .i64 most] false):=by
 refine⟨_,?_,rfl⟩;simp only[a5S (H:=H15) rfl,T.f79,p2,q0a,ifV,wp,df (show ¬most<1 by omega),df (show ¬(4096:Int)<most by omega)];simp only[j5v (H:=H15),T.a1B,p1,q0o,AV.cells,Nat.reduceAdd,Nat.reduceLeDiff,q0K,q0w,List.all_cons,List.all_nil,AV.one]
theorem a1M (h:TabAt (.str) 4 m t ks vs most F) (hs:Srt q0c ks) (hl:ks.length<65536) (k:(List UInt8)) (hk:q0O q0c k ks=true) :
  ∃v m',vs[lb q0c k ks]? = some v/\run E15 (.fn 89) [.ptr (some ⟨t,0⟩),.str k] m=some (.tup [.agg v,.bool true],m')/\Fr m m' []:=by
 obtain⟨⟨sk,sv,kb,vb,h1,h2,h3,h4,h5,h6,rfl⟩,h7⟩:=h;have hlt:lb q0c k ks<ks.length:=by
  have:ks[lb q0c k ks]? = some k:=by simpa[q0O]using hk
  exact(xgi.1 this).1
 have hf:Fr m (m.lay (.cells [.str [],.int .i64 0,.int .i64 0,.int .u64 0] false)) []:=(Fr.refl m).lay _;have g1:=hf.get h1 (by simp);have g2:=h2.frame hf (by simp);have g3:=h3.frame hf (by simp);obtain⟨b,rfl,a1,a2⟩:=g3.val (i:=lb q0c k ks) (by omega);have a3:∀i:Nat,ld1 (m.lay (.cells [.str [],.int .i64 0,.int .i64 0,.int .u64 0] false)) (.ptr (some ⟨t,i⟩))=[sk,.sl (some ⟨b,0⟩) 4 vs.length vs.length false,.int .i64 most][i]?:=fun i=>q0g g1
 have hv:=h3.1 _ (List.getElem_mem (show lb q0c k ks<vs.length by omega));refine⟨vs[lb q0c k ks],(m.lay (.cells [.str [],.int .i64 0,.int .i64 0,.int .u64 0] false)).put m.next (some (.cells vs[lb q0c k ks] false)),xgq (by omega),?_,hf.put' (.inr (xnr _))⟩
 simp only[j7T (H:=H15) rfl,T.f89,pB,p1,q1,nnA,q0d,q0a,unA,q0H,q0I,a3,q4S g2 hs (by omega),hk,xbt,j5Y (H:=H15),T.a1G,p2,q0e,true_or,if_true,a1,a2,q0X (n:=4) (q0f m (.cells [.str [],.int .i64 0,.int .i64 0,.int .u64 0] false)) rfl hv.1 hv.2,q0A (n:=4) (q0v (q0f m (.cells [.str [],.int .i64 0,.int .i64 0,.int .u64 0] false))) hv.1]
theorem j59 (h:TabAt (.str) 4 m t ks vs most F) (hs:Srt q0c ks) (hl:ks.length<65536) (k:(List UInt8)) (hk:q0O q0c k ks=false) :
  ∃m',run E15 (.fn 89) [.ptr (some ⟨t,0⟩),.str k] m=some (.tup [.agg [.str [],.int .i64 0,.int .i64 0,.int .u64 0],.bool false],m')/\Fr m m' []:=by
 obtain⟨⟨sk,sv,kb,vb,h1,h2,h3,h4,h5,h6,rfl⟩,h7⟩:=h;have hf:Fr m (m.lay (.cells [.str [],.int .i64 0,.int .i64 0,.int .u64 0] false)) []:=(Fr.refl m).lay _;have g1:=hf.get h1 (by simp);have g2:=h2.frame hf (by simp);have a3:∀i:Nat,ld1 (m.lay (.cells [.str [],.int .i64 0,.int .i64 0,.int .u64 0] false)) (.ptr (some ⟨t,i⟩))=[sk,sv,.int .i64 most][i]?:=fun i=>q0g g1
 have g3:((m.lay (.cells [.str [],.int .i64 0,.int .i64 0,.int .u64 0] false)).lay (.cells [.str [],.int .i64 0,.int .i64 0,.int .u64 0] false)).get m.next=some (.cells [.str [],.int .i64 0,.int .i64 0,.int .u64 0] false):=by rw[q3U (by simp)];exact q0f _ _
 refine⟨((m.lay (.cells [.str [],.int .i64 0,.int .i64 0,.int .u64 0] false)).lay (.cells [.str [],.int .i64 0,.int .i64 0,.int .u64 0] false)).put m.next (some (.cells [.str [],.int .i64 0,.int .i64 0,.int .u64 0] false)),?_,(hf.lay _).put' (.inr (xnr _))⟩
 simp only[j7T (H:=H15) rfl,T.f89,pB,p1,q1,nnA,q0d,q0a,unA,q0H,q0I,q0F,a3,q4S g2 hs (by omega),hk,xbf,q0A (n:=4) (q0f (m.lay (.cells [.str [],.int .i64 0,.int .i64 0,.int .u64 0] false)) (.cells [.str [],.int .i64 0,.int .i64 0,.int .u64 0] false)) rfl,q0X (n:=4) g3 rfl (show ([.str [],.int .i64 0,.int .i64 0,.int .u64 0]:List AV).length=4 by rfl) (by rfl),q0A (n:=4) (v:=[.str [],.int .i64 0,.int .i64 0,.int .u64 0]) (q0v g3) rfl]
theorem a3A (h:TabAt (.str) 4 m t ks vs most F) (hs:Srt q0c ks) (hl:ks.length<65536) (k:(List UInt8)) (hk:q0O q0c k ks=true) {v:List AV} (hv:v.length=4) (ho:v.all AV.one=true) :
  ∃m',run E15 (.fn 39) [.ptr (some ⟨t,0⟩),.str k,.agg v] m=some (.bool true,m')/\TabAt (.str) 4 m' t ks (vs.set (lb q0c k ks) v) most F/\Fr m m' F:=by
 have hlt:lb q0c k ks<ks.length:=by
  have:ks[lb q0c k ks]? = some k:=by simpa[q0O]using hk
  exact(xgi.1 this).1
 have hf:Fr m (m.lay (.cells v false)) []:=(Fr.refl m).lay _;have h':=h.frame hf (by simp);obtain⟨sk,sv,b,m',g1,rfl,a1,a2,a5,a6⟩:=h'.set hlt hv ho;obtain⟨⟨sk',sv',kb,vb,h1,h2,h3,h4,h5,h6,e⟩,h7⟩:=h';rw[g1]at h1;cases h1;have a3:∀i:Nat,ld1 (m.lay (.cells v false)) (.ptr (some ⟨t,i⟩))=[sk,.sl (some ⟨b,0⟩) 4 vs.length vs.length false,.int .i64 most][i]?:=fun i=>q0g g1
 have a4:ldN (m.lay (.cells v false)) (.ptr (some ⟨m.next,0⟩)) 4=some (.agg v):=by
  rw[q00 (q0f _ _) (by omega),List.drop_zero,xtl (by omega)]
 refine⟨m',?_,a5,(hf.any F).step a6 (fun c hc=>.inl hc)⟩
 simp only[z9G (H:=H15) rfl,T.f39,p1,q1,p2,q0K,nnA,q0d,q0a,q0F,q1e ho,xom,a3,a4,q4S h2 hs (by omega),hk,true_or,if_true,a1,a2,z5m (H:=H15),T.j4U,wp]
theorem j2z (h:TabAt (.str) 4 m t ks vs most F) (hs:Srt q0c ks) (hl:ks.length<65536) (k:(List UInt8)) (hk:q0O q0c k ks=false) (hf:most<=ks.length) {v:List AV} (ho:v.all AV.one=true) :
  ∃m',run E15 (.fn 39) [.ptr (some ⟨t,0⟩),.str k,.agg v] m=some (.bool false,m')/\Fr m m' []:=by
 obtain⟨⟨sk,sv,kb,vb,h1,h2,h3,h4,h5,h6,rfl⟩,h7⟩:=h;have hf0:Fr m (m.lay (.cells v false)) []:=(Fr.refl m).lay _;have g1:=hf0.get h1 (by simp);have g2:=h2.frame hf0 (by simp);obtain⟨a,sz,cap,ex,rfl⟩:=h2.j6i;have a3:∀i:Nat,ld1 (m.lay (.cells v false)) (.ptr (some ⟨t,i⟩))=[.sl a sz ks.length cap ex,sv,.int .i64 most][i]?:=fun i=>q0g g1
 refine⟨_,?_,hf0⟩;simp only[z9G (H:=H15) rfl,T.f39,p1,q1,p2,q0K,nnA,q0d,q0a,q0F,q1e ho,xom,a3,q4S g2 hs (by omega),hk,dt (show most<=(ks.length:Int) by omega)]
theorem j6D (h:TabAt (.str) 4 m t ks vs most F) (hs:Srt q0c ks) (hl:ks.length<4096) (k:(List UInt8)) (hk:q0O q0c k ks=false) (hf:(ks.length:Int)<most) {v:List AV} (hv:v.length=4) (ho:v.all AV.one=true) :
  ∃m' F',run E15 (.fn 39) [.ptr (some ⟨t,0⟩),.str k,.agg v] m=some (.bool true,m')/\TabAt (.str) 4 m' t (q2O (lb q0c k ks) k ks) (q2O (lb q0c k ks) v vs) most F'/\Fr m m' F/\∀c,c∈F'->c∈F\/m.next<=c:=by
 have hf0:Fr m (m.lay (.cells v false)) []:=(Fr.refl m).lay _;have h':=h.frame hf0 (by simp);obtain⟨sk,sv,sk',m2,sv',m5,F',g1,a1,a2,a3,a4,b1,b2,b3,b4,b5,b6⟩:=h'.ins (P:=Tryz.prog) (st1:=140) (e1:=9) (st2:=23) (e2:=56) (w1:=16) (w2:=40) (zs1:=[.str []]) (zs2:=[.str [],.int .i64 0,.int .i64 0,.int .u64 0]) (by kernel_rfl) (by kernel_rfl) (by kernel_rfl) (by kernel_rfl) (by kernel_rfl) (by decide) (by kernel_rfl) (by kernel_rfl) (by kernel_rfl) (by kernel_rfl) (by kernel_rfl) (by decide) (by decide)
  (fun _=>rfl) (z0f k ks) hl (by decide) (k:=k) hv ho
 obtain⟨⟨sk1,sv1,kb,vb,h1,h2,h3,h4,h5,h6,e⟩,h7⟩:=h';rw[g1]at h1;cases h1;obtain⟨x,sz,cap,ex,rfl⟩:=h2.j6i;have c1:∀i:Nat,ld1 (m.lay (.cells v false)) (.ptr (some ⟨t,i⟩))=[.sl x sz ks.length cap ex,sv,.int .i64 most][i]?:=fun i=>q0g g1
 have c2:∀i:Nat,ld1 (m2.put t (some (.cells [sk',sv,.int .i64 most] false))) (.ptr (some ⟨t,i⟩))=[sk',sv,.int .i64 most][i]?:=fun i=>q0g a3
 have c3:ldN (m2.put t (some (.cells [sk',sv,.int .i64 most] false))) (.ptr (some ⟨m.next,0⟩)) 4=some (.agg v):=by
  have:(m2.put t (some (.cells [sk',sv,.int .i64 most] false))).get m.next=some (.cells v false):=b4.get (q0f _ _) (fun hm=>by have:=h.lt _ hm;omega)
  rw[q00 this (by omega),List.drop_zero,xtl (by omega)]
 have c4:(m2.put t (some (.cells [sk',sv,.int .i64 most] false))).next=m2.next:=rfl
 refine⟨_,F',?_,b3,(hf0.any F).step b5 (fun c hc=>.inl hc),fun c hc=>(b6 c hc).imp id (fun h=>by have:m.next<=(m.lay (.cells v false)).next:=hf0.next;omega)⟩
 simp only[z9G (H:=H15) rfl,T.f39,p1,q1,p2,q0K,nnA,q0d,q0a,q0F,q1e ho,xom,z2W (x:=.str k) (by rfl),q5j (n:=4) (zs:=[.str [],.int .i64 0,.int .i64 0,.int .u64 0]) ho hv (by rfl),c1,q4S h2 hs (by omega),hk,df (show ¬most<=(ks.length:Int) by omega),a3d,a3g,a1,a2,c2,c3,c4,b1,b2,z5m (H:=H15),T.j4U,wp]
theorem z3v (h:TabAt (.str) 4 m t ks vs most F) (hs:Srt q0c ks) (hl:ks.length<65536) (k:(List UInt8)) :
  ∃v m',run E15 (.fn 89) [.ptr (some ⟨t,0⟩),.str k] m=some (.tup [.agg v,.bool (q0O q0c k ks)],m')/\(q0O q0c k ks=true->vs[lb q0c k ks]? = some v)/\(q0O q0c k ks=false->v=[.str [],.int .i64 0,.int .i64 0,.int .u64 0])/\v.length=4/\v.all AV.one=true/\Fr m m' []:=by
 cases hk:q0O q0c k ks with
 |true=>
  obtain⟨v,m',h1,h2,h3⟩:=a1M h hs hl k hk;obtain⟨⟨sk,sv,kb,vb,_,_,g3,_⟩,_⟩:=h;have:=g3.1 v (List.mem_of_getElem? h1);exact⟨v,m',h2,fun _=>h1,nofun,this.1,this.2,h3⟩
 |false=>
  obtain⟨m',h2,h3⟩:=j59 h hs hl k hk;exact⟨_,m',h2,nofun,fun _=>rfl,rfl,rfl,h3⟩
theorem z3Q (h:TabAt (.str) 4 m t ks vs most F) (hs:Srt q0c ks) (hl:ks.length<4096) (k:(List UInt8)) {v:List AV} (hv:v.length=4) (ho:v.all AV.one=true) :
  ∃m' F',run E15 (.fn 39) [.ptr (some ⟨t,0⟩),.str k,.agg v] m=some (.bool (q0O q0c k ks||decide ((ks.length:Int)<most)),m')/\
   TabAt (.str) 4 m' t (z7V q0c k ks most) (z7W q0c k ks v vs most) most F'/\Fr m m' F/\∀c,c∈F'->c∈F\/m.next<=c:=by
 unfold z7V z7W;cases hk:q0O q0c k ks with
 |true=>
  obtain⟨m',h1,h2,h3⟩:=a3A h hs (by omega) k hk hv ho;exact⟨m',F,h1,by simpa using h2,h3,fun c hc=>.inl hc⟩
 |false=>
  by_cases hf:(ks.length:Int)<most
  ·obtain⟨m',F',h1,h2,h3,h4⟩:=j6D h hs hl k hk hf hv ho;exact⟨m',F',by simpa[hf]using h1,by simpa[hf]using h2,h3,h4⟩
  ·obtain⟨m',h1,h2⟩:=j2z h hs (by omega) k hk (by omega) ho;exact⟨m',F,by simpa[hf]using h1,by simpa[hf]using h.frame h2 (by simp),h2.any F,fun c hc=>.inl hc⟩
end
end
section
open Go Go.Abs
theorem j6r (a b:Int) (m:Mem):run E15 (.fn 126) [.int .u64 a,.int .u64 b] m=some (.bool (q0m a b),m):=by
 simp only[a0a (H:=H15) rfl,T.f126,p1,p2,ifV,unA,wp,a0f (H:=H15) rfl,T.f143,wp,decide_true,xbt]
 try rfl
section
variable {m:Mem} {sk:AV} {ks:List Int} {kb:Option Nat}
theorem j3w (h:q03 1 m sk (ks.map fun k=>[.int .u64 k]) kb) (hs:Srt q0m ks) (hl:ks.length<4611686018427387904) (k:Int):∀(d i j:Nat),j-i<=d->i<=j->j<=ks.length->
  (∀x (hx:x<ks.length),x<i->q0m ks[x] k=true)->(∀x (hx:x<ks.length),j<=x->q0m ks[x] k=false)->
  D15.gor 352256 [sk,.int .u64 k,.int .i64 ks.length,.int .i64 i,.int .i64 j] m=some (.tup [.int .i64 (lb q0m k ks:Nat),.bool (q0O q0m k ks)],m):=by
 intro d;induction d with
 |zero=>
  intro i j hd hij hj h1 h2;have e:i=j:=by omega
  subst e;have hlb:lb q0m k ks=i:=q2X hj h1 (fun hx=>h2 i hx (xnr _))
  simp only[z6e (H:=H15),T.j5N,p2,q0a,wp,df (show ¬(i:Int)<(i:Int) by omega)];by_cases hi:i<ks.length
  ·obtain⟨b,rfl,g1,g2⟩:=h.key hi;simp only[z6h (H:=H15),T.j5P,p2,q1,ifV,wp,dt (show (i:Int)<(ks.length:Int) by omega),true_or,if_true,g1,g2,a0b (H:=H15) rfl,T.f127,wp,decide_true,xbt];by_cases hk:ks[i]=k
   ·rw[dt hk];simp only[q0O,hlb,xgq hi,hk,decide_true]
   ·rw[df hk];simp only[q0O,hlb,xgq hi,xoi,df hk]
  ·simp only[z6h (H:=H15),T.j5P,p2,q1,ifV,wp,df (show ¬(i:Int)<(ks.length:Int) by omega)];simp only[q0O,hlb,List.getElem?_eq_none (show ks.length<=i by omega),reduceCtorEq,decide_false]
 |succ d ih=>
  intro i j hd hij hj h1 h2;by_cases e:i=j
  ·exact ih i j (by omega) hij hj h1 h2
  ·have hlt:i<j:=by omega
   obtain⟨hh,hh1⟩:∃hh:Nat,hh=(i+j) / 2:=⟨_,rfl⟩;have hh2:i<=hh/\hh<j:=by omega
   have hh3:IntKind.wrap .i64 ((IntKind.wrap .u64 (IntKind.wrap .i64 ((i:Int)+(j:Int)))).fdiv (2 ^ (min (1:Int).toNat IntKind.u64.bits)))=(hh:Int):=by
    rw[wrap_i64 (n:=(i:Int)+j) (by omega) (by omega),wrap_u64 (by omega) (by omega)];have:((2:Int) ^ (min (1:Int).toNat IntKind.u64.bits))=2:=by rfl
    rw[this,Int.fdiv_eq_ediv_of_nonneg _ (by omega),wrap_i64 (by omega) (by omega)];omega
   have hx:hh<ks.length:=by omega
   obtain⟨b,rfl,g1,g2⟩:=h.key hx;simp only[z6e (H:=H15),T.j5N,p2,q0a,wp,dt (show (i:Int)<(j:Int) by omega)];simp only[j5O (H:=H15),T.a1F,p2,p1,q1,q0a,wp,q6c _ _ _ _ _ (show (0:Int)<=1 by omega),hh3,true_or,if_true,g1,g2,j6r];cases hc:q0m ks[hh] k with
   |true=>
    simp only;rw[wrap_i64 (by omega) (by omega),show (hh:Int)+1=((hh+1:Nat):Int) by omega];refine ih (hh+1) j (by omega) (by omega) hj (fun x hx' hlt'=>?_) h2
    by_cases e2:x=hh
    ·subst e2;exact hc
    ·exact q5N _ _ _ (q2G hs (show x<hh by omega) hx) hc
   |false=>
    simp only;refine ih i hh (by omega) (by omega) (by omega) h1 (fun x hx' hle=>?_)
    by_cases e2:x=hh
    ·subst e2;exact hc
    ·cases hc2:q0m ks[x] k with
     |false=>rfl
     |true=>rw[q5N _ _ _ (q2G hs (show hh<x by omega) hx') hc2]at hc;cases hc
theorem z0Q (h:q03 1 m sk (ks.map fun k=>[.int .u64 k]) kb) (hs:Srt q0m ks) (hl:ks.length<4611686018427387904) (k:Int) :
  run E15 (.fn 86) [sk,.int .u64 k] m=some (.tup [.int .i64 (lb q0m k ks:Nat),.bool (q0O q0m k ks)],m):=by
 have:=j3w h hs hl k ks.length 0 ks.length (by omega) (by omega) (xnr _) (by intro x _ hx;omega) (by intro x hx hx';omega);obtain⟨a,sz,cap,ex,rfl⟩:=h.j6i;simp only[a5Z (H:=H15) rfl,T.f86,p1,wp];exact this
end
end
end Go.Proofs.YtlginbmjiecglaaGreatDoor
