/- Texts of one claim, put together. -/
import Derived.Test.YtlginbmjiecglaaGreatDoorK0
import Derived.Test.YtlginbmjiecglaaGreatDoorK18
import Derived.Test.YtlginbmjiecglaaGreatDoorK19
import Derived.Test.YtlginbmjiecglaaGreatDoorK20
namespace Go.Proofs.YtlginbmjiecglaaGreatDoor
section
set_option maxRecDepth 4000
open Go Go.Abs
theorem hadd_is {x y c:Int} (m:Mem) (h:0≤x∧0≤y∧0≤c∧c≤1):run E2 (.fn 59) [.int .u64 x,.int .u64 y,.int .u64 c] m=some (.tup [.int .u64 ((x+y+c) % 18446744073709551616),.int .u64 ((x+y+c) / 18446744073709551616)],m):=by
 rw[q1t (h:=q70) rfl]
 simp only[q70,if_pos h]
theorem q96 {x y c:Int} (m:Mem) (h:0≤x∧0≤y∧y<18446744073709551616∧0≤c∧c≤1):run E2 (.fn 60) [.int .u64 x,.int .u64 y,.int .u64 c] m=some (.tup [.int .u64 ((x-y-c) % 18446744073709551616),.int .u64 (if x<y+c then 1 else 0)],m):=by
 rw[q1t (h:=z3m) rfl]
 simp only[z3m,if_pos h]
theorem beq_tf:(true==false)=false:=rfl
theorem beq_ft:(false==true)=false:=rfl
theorem add_is (a b:Wd) (ha:a.ok) (hb:b.ok) (m:Mem):Res m (run E2 (.fn 21) [.agg a.cells,.agg b.cells] m) (.tup [.agg (Wd.res (a.val+b.val)).1.cells,.int .i64 (Wd.res (a.val+b.val)).2]):=by
 obtain⟨ah,al⟩:=a
 obtain⟨bh,bl⟩:=b
 obtain⟨a1,a2,a3,a4⟩:=ha
 obtain⟨b1,b2,b3,b4⟩:=hb
 simp only[Wd.val]at *
 obtain⟨c,hc⟩:∃c,c=(al+bl+0) / 18446744073709551616:=⟨_,rfl⟩
 have c0:0≤c∧c≤1:=by omega
 obtain⟨h,hh⟩:∃h,h=IntKind.wrap .i64 ((ah % 18446744073709551616+bh % 18446744073709551616+c) % 18446744073709551616):=⟨_,rfl⟩
 have hh2:=hh
 rw[q37]at hh2
 simp only[f21_is (H:=H2) rfl,T.f21,pB,p1,q1,p2,q0r,AV.cells,Nat.reduceAdd,Nat.reduceLeDiff,q1h,q0g,q0a,ifV,q1g,q1i,w_f21,Wd.cells,AV.one,over,lcl,hadd_is _ (show 0≤al∧0≤bl∧(0:Int)≤0∧(0:Int)≤1 by omega),z3u,←hc,hadd_is _ (show 0≤ah % 18446744073709551616∧0≤bh % 18446744073709551616∧0≤c∧c≤1 by omega),←hh]
 by_cases h1:ah<0<;>by_cases h2:bh<0<;>by_cases h3:h<0<;>
  simp only[h1,h2,h3,decide_true,decide_false,BEq.rfl,Bool.not_true,Bool.not_false,g21_0_is (H:=H2),T.g21_0,p1,q0r,AV.cells,Nat.reduceAdd,Nat.reduceLeDiff,q1g,q1i,w_g21_0,AV.one,over,lcl,←hh,beq_tf,beq_ft]<;>
  (refine Res.eq ?_ ?_
   ·(repeat apply Fr.lays)
    exact Fr.refl _
   ·first
    |exact j73 (q1j (by omega) (by omega)) (by omega) (by omega)
    |exact q59 (q2m (by omega)))
theorem sub_is (a b:Wd) (ha:a.ok) (hb:b.ok) (m:Mem):Res m (run E2 (.fn 22) [.agg a.cells,.agg b.cells] m) (.tup [.agg (Wd.res (a.val-b.val)).1.cells,.int .i64 (Wd.res (a.val-b.val)).2]):=by
 obtain⟨ah,al⟩:=a
 obtain⟨bh,bl⟩:=b
 obtain⟨a1,a2,a3,a4⟩:=ha
 obtain⟨b1,b2,b3,b4⟩:=hb
 simp only[Wd.val]at *
 obtain⟨c,hc⟩:∃c:Int,c=(if al<bl+0 then 1 else 0):=⟨_,rfl⟩
 have c0:0≤c∧c≤1:=by omega
 obtain⟨h,hh⟩:∃h,h=IntKind.wrap .i64 ((ah % 18446744073709551616-bh % 18446744073709551616-c) % 18446744073709551616):=⟨_,rfl⟩
 have hh2:=hh
 rw[q37]at hh2
 simp only[f22_is (H:=H2) rfl,T.f22,pB,p1,q1,p2,q0r,AV.cells,Nat.reduceAdd,Nat.reduceLeDiff,q1h,q0g,q0a,ifV,q1g,q1i,w_f22,Wd.cells,AV.one,over,lcl,q96 _ (show 0≤al∧0≤bl∧bl<18446744073709551616∧(0:Int)≤0∧(0:Int)≤1 by omega),z3u,←hc,q96 _ (show 0≤ah % 18446744073709551616∧0≤bh % 18446744073709551616∧bh % 18446744073709551616<18446744073709551616∧0≤c∧c≤1 by omega),←hh]
 by_cases h1:ah<0<;>by_cases h2:bh<0<;>by_cases h3:h<0<;>
  simp only[h1,h2,h3,decide_true,decide_false,BEq.rfl,Bool.not_true,Bool.not_false,g22_0_is (H:=H2),T.g22_0,p1,q0r,AV.cells,Nat.reduceAdd,Nat.reduceLeDiff,q1g,q1i,w_g22_0,AV.one,over,lcl,←hh,beq_tf,beq_ft]<;>
  (refine Res.eq ?_ ?_
   ·(repeat apply Fr.lays)
    exact Fr.refl _
   ·first
    |exact j73 (q1j (by omega) (by omega)) (by omega) (by omega)
    |exact q59 (q2m (by omega)))
end
section
set_option maxRecDepth 4000
open Go Go.Abs
theorem mul64_is {x y:Int} (hx:0≤x) (hx2:x<18446744073709551616) (hy:0≤y) (hy2:y<18446744073709551616) (m:Mem) :
  run E2 (.fn 168) [.int .u64 x,.int .u64 y] m=some (.tup [.int .u64 (x*y / 18446744073709551616),.int .u64 (x*y % 18446744073709551616)],m):=by
 obtain⟨h1,h2,h3,h4,h5,h6,h7,h8⟩:=mul64 hx hx2 hy hy2
 have hr:0≤x*y / 18446744073709551616∧x*y / 18446744073709551616<18446744073709551616:=by
  have h9:0≤x*y:=Int.mul_nonneg hx hy
  have h10:x*y≤18446744073709551615*y:=Int.mul_le_mul_of_nonneg_right (by omega) hy
  omega
 simp only[f168_is (H:=H2) rfl,T.f168,p2,w_f168,q8n _ hx hx2,q8n _ hy hy2,q4e _ hx,q4e _ hy,wrap_u64 h1.1 h1.2,q4e _ h1.1,wrap_u64 h2.1 h2.2,wrap_u64 h3.1 h3.2,q8n _ h3.1 h3.2,q4e _ h3.1,wrap_u64 h4.1 h4.2,wrap_u64 h5.1 h5.2,wrap_u64 h6.1 h6.2,wrap_u64 h7.1 h7.2,q4e _ h5.1,h8,wrap_u64 hr.1 hr.2,q0o]
theorem len8_idx {x:Int} (h0:0<x) (h1:x<256):∃n:Nat,q74 Tryz.prog 9 (.str len8) (.int .u8 x)=some (.int .u8 ((n:Int)+1))∧n<8∧(2:Int) ^ n≤x∧x<2*2 ^ n:=by
 obtain⟨n,e1,e2,e3,e4⟩:=len8_is x.toNat (by omega) (by omega)
 refine⟨n,?_,e2,?_,?_⟩
 ·rw[iv9,if_pos (by omega),e1]
  simp only
  congr 2
  rw[show (UInt8.ofNat (n+1)).toNat=n+1 by simp;omega];rfl
 ·have:((2 ^ n:Nat):Int)≤((x.toNat:Nat):Int):=by exact_mod_cast e3
  have e9:((2 ^ n:Nat):Int)=(2:Int) ^ n:=Int.natCast_pow 2 n
  omega
 ·have:((x.toNat:Nat):Int)<((2*2 ^ n:Nat):Int):=by exact_mod_cast e4
  have e9:((2 ^ n:Nat):Int)=(2:Int) ^ n:=Int.natCast_pow 2 n
  omega
theorem len8_lit:(len8:List UInt8)=[0,1,2,2,3,3,3,3,4,4,4,4,4,4,4,4,5,5,5,5,5,5,5,5,5,5,5,5,5,5,5,5,6,6,6,6,6,6,6,6,6,6,6,6,6,6,6,6,6,6,6,6,6,6,6,6,6,6,6,6,6,6,6,6,7,7,7,7,7,7,7,7,7,7,7,7,7,7,7,7,7,7,7,7,7,7,7,7,7,7,7,7,7,7,7,7,7,7,7,7,7,7,7,7,7,7,7,7,7,7,7,7,7,7,7,7,7,7,7,7,7,7,7,7,7,7,7,7,8,8,8,8,8,8,8,8,8,8,8,8,8,8,8,8,8,8,8,8,8,8,8,8,8,8,8,8,8,8,8,8,8,8,8,8,8,8,8,8,8,8,8,8,8,8,8,8,8,8,8,8,8,8,8,8,8,8,8,8,8,8,8,8,8,8,8,8,8,8,8,8,8,8,8,8,8,8,8,8,8,8,8,8,8,8,8,8,8,8,8,8,8,8,8,8,8,8,8,8,8,8,8,8,8,8,8,8,8,8,8,8,8,8,8,8,8,8,8,8,8,8,8,8,8,8,8,8]:=by decide +kernel
theorem len64_2 {x k:Int} (h0:0<x) (h1:x<256) (hk:0≤k) (hk2:k<1000) (m:Mem):∃n:Nat,D2.gor 704514 [.int .u64 x,.int .i64 k] m=some (.int .i64 (k+n+1),m)∧n<8∧(2:Int) ^ n≤x∧x<2*2 ^ n:=by
 obtain⟨n,e1,e2,e3,e4⟩:=len8_idx h0 h1
 rw[len8_lit]at e1
 have w8:IntKind.wrap .u8 x=x:=by
  have e:IntKind.wrap .u8 x=x % 256:=by simp[IntKind.wrap,IntKind.bits,IntKind.signed]
  rw[e];omega
 refine⟨n,?_,e2,e3,e4⟩
 simp only[g172_2_is (H:=H2),T.g172_2,p1,p2,w_g172_2,w8,e1,wrap_i64 (n:=(n:Int)+1) (by omega) (by omega),wrap_i64 (n:=k+((n:Int)+1)) (by omega) (by omega)]
 rw[Int.add_assoc]
theorem len64_1 {x k:Int} (h0:0<x) (h1:x<65536) (hk:0≤k) (hk2:k<900) (m:Mem):∃n:Nat,D2.gor 704513 [.int .u64 x,.int .i64 k] m=some (.int .i64 (k+n+1),m)∧n<16∧(2:Int) ^ n≤x∧x<2*2 ^ n:=by
 by_cases h:256≤x
 ·obtain⟨n,e1,e2,e3,e4⟩:=len64_2 (x:=x / 256) (k:=k+8) (by omega) (by omega) (by omega) (by omega) m
  refine⟨n+8,?_,by omega,?_,?_⟩
  ·simp only[j04 (H:=H2),T.g172_1,p2,q0a,j84,dt h,j5f _ (show 0≤x by omega) (show (0:Int)≤8 by omega) (show (2:Int) ^ (min (8:Int).toNat IntKind.u64.bits)=256 by rfl),wrap_i64 (n:=k+8) (by omega) (by omega),e1]
   congr 3;omega
  ·rw[Int.pow_add,show (2:Int) ^ 8=256 by rfl];omega
  ·rw[Int.pow_add,show (2:Int) ^ 8=256 by rfl];omega
 ·obtain⟨n,e1,e2,e3,e4⟩:=len64_2 (x:=x) (k:=k) (by omega) (by omega) (by omega) (by omega) m
  refine⟨n,?_,by omega,e3,e4⟩
  simp only[j04 (H:=H2),T.g172_1,p2,q0a,j84,df h,e1]
theorem len64_0 {x k:Int} (h0:0<x) (h1:x<4294967296) (hk:0≤k) (hk2:k<800) (m:Mem):∃n:Nat,D2.gor 704512 [.int .u64 x,.int .i64 k] m=some (.int .i64 (k+n+1),m)∧n<32∧(2:Int) ^ n≤x∧x<2*2 ^ n:=by
 by_cases h:65536≤x
 ·obtain⟨n,e1,e2,e3,e4⟩:=len64_1 (x:=x / 65536) (k:=k+16) (by omega) (by omega) (by omega) (by omega) m
  refine⟨n+16,?_,by omega,?_,?_⟩
  ·simp only[j03 (H:=H2),T.g172_0,p2,q0a,j83,dt h,j5f _ (show 0≤x by omega) (show (0:Int)≤16 by omega) (show (2:Int) ^ (min (16:Int).toNat IntKind.u64.bits)=65536 by rfl),wrap_i64 (n:=k+16) (by omega) (by omega),e1]
   congr 3;omega
  ·rw[Int.pow_add,show (2:Int) ^ 16=65536 by rfl];omega
  ·rw[Int.pow_add,show (2:Int) ^ 16=65536 by rfl];omega
 ·obtain⟨n,e1,e2,e3,e4⟩:=len64_1 (x:=x) (k:=k) (by omega) (by omega) (by omega) (by omega) m
  refine⟨n,?_,by omega,e3,e4⟩
  simp only[j03 (H:=H2),T.g172_0,p2,q0a,j83,df h,e1]
theorem len64_is {x:Int} (h0:0<x) (h1:x<18446744073709551616) (m:Mem):∃n:Nat,run E2 (.fn 172) [.int .u64 x] m=some (.int .i64 ((n:Int)+1),m)∧n<64∧(2:Int) ^ n≤x∧x<2*2 ^ n:=by
 by_cases h:4294967296≤x
 ·obtain⟨n,e1,e2,e3,e4⟩:=len64_0 (x:=x / 4294967296) (k:=32) (by omega) (by omega) (by omega) (by omega) m
  refine⟨n+32,?_,by omega,?_,?_⟩
  ·simp only[f172_is (H:=H2) rfl,T.f172,p2,q0a,w_f172,dt h,q4e _ (show 0≤x by omega),e1]
   congr 3;omega
  ·rw[Int.pow_add,show (2:Int) ^ 32=4294967296 by rfl];omega
  ·rw[Int.pow_add,show (2:Int) ^ 32=4294967296 by rfl];omega
 ·obtain⟨n,e1,e2,e3,e4⟩:=len64_0 (x:=x) (k:=0) (by omega) (by omega) (by omega) (by omega) m
  refine⟨n,?_,by omega,e3,e4⟩
  simp only[f172_is (H:=H2) rfl,T.f172,p2,q0a,w_f172,df h,e1,Int.zero_add]
theorem lz_is {x:Int} (h0:0<x) (h1:x<18446744073709551616) (m:Mem):∃s:Nat,run E2 (.fn 171) [.int .u64 x] m=some (.int .i64 (s:Int),m)∧s<64∧9223372036854775808≤x*2 ^ s∧x*2 ^ s<18446744073709551616:=by
 obtain⟨n,e1,e2,e3,e4⟩:=len64_is h0 h1 m
 have hp:(2:Int) ^ n*2 ^ (63-n)=9223372036854775808:=by
  rw[←Int.pow_add,show n+(63-n)=63 by omega];rfl
 have hpos:(0:Int)<2 ^ (63-n):=Int.pow_pos (by omega)
 have h3:(2:Int) ^ n*2 ^ (63-n)≤x*2 ^ (63-n):=Int.mul_le_mul_of_nonneg_right e3 (by omega)
 have h4:x*2 ^ (63-n)<2*2 ^ n*2 ^ (63-n):=Int.mul_lt_mul_of_pos_right e4 hpos
 rw[Int.mul_assoc]at h4
 refine⟨63-n,?_,by omega,by omega,by omega⟩
 simp only[f171_is (H:=H2) rfl,T.f171,p2,w_f171,e1,wrap_i64 (n:=64-((n:Int)+1)) (by omega) (by omega)]
 congr 3;omega
end
section
set_option maxRecDepth 4000
open Go Go.Abs
theorem div_loop1 {y yn1 yn0 un un1:Int} (s un0:AV) (hy:y=yn1*4294967296+yn0) (hy1:2147483648≤yn1) (hy2:yn1<4294967296) (hy0:0≤yn0) (hy3:yn0<4294967296) (hun:un<y) (hu0:0≤un1) (hu1:un1<4294967296) (m:Mem) :
  ∀(d:Nat) (q r:Int),4294967296≤r+d*yn1→0≤q→q≤4294967297→0≤r→r<4294967296→q*yn1+r=un→un*4294967296+un1<(q+1)*y→
   D2.gor 679939 [.int .u64 y,s,.int .u64 yn1,.int .u64 yn0,.int .u64 un,.int .u64 un1,un0,.int .u64 q,.int .u64 r] m =
   D2.gor 679941 [.int .u64 y,s,.int .u64 yn1,.int .u64 yn0,.int .u64 un,.int .u64 un1,un0,.int .u64 ((un*4294967296+un1) / y)] m:=by
 intro d
 induction d with
 |zero=>intro q r h;intros;omega
 |succ d ih=>
  intro q r hd hq hq2 hr hr2 e hu
  have hyp:0<y:=by omega
  have step:(∀h:un*4294967296+un1<q*y,D2.gor 679940 [.int .u64 y,s,.int .u64 yn1,.int .u64 yn0,.int .u64 un,.int .u64 un1,un0,.int .u64 q,.int .u64 r] m =
    D2.gor 679941 [.int .u64 y,s,.int .u64 yn1,.int .u64 yn0,.int .u64 un,.int .u64 un1,un0,.int .u64 ((un*4294967296+un1) / y)] m):=by
   intro h
   have hq1:1≤q:=by
    by_cases h0:q=0
    ·subst h0
     simp only[Int.zero_mul]at h
     have:0≤un:=by rw[←e];omega
     omega
    ·omega
   have e':=z4z e
   have hu':=j7t h
   have hdm:((d+1:Nat):Int)*yn1=d*yn1+yn1:=by rw[Int.natCast_add,Int.add_mul];simp
   rw[hdm]at hd
   by_cases hb:4294967296≤r+yn1
   ·simp only[j01 (H:=H2),T.g166_4,p2,q0a,j81,wrap_u64 (x:=q-1) (by omega) (by omega),wrap_u64 (x:=r+yn1) (by omega) (by omega),dt hb]
    rw[q9c hy e' (j1c hy (by omega) hy0 hy3 hun hu0 (by omega) e' hb) hu']
   ·simp only[j01 (H:=H2),T.g166_4,p2,q0a,j81,wrap_u64 (x:=q-1) (by omega) (by omega),wrap_u64 (x:=r+yn1) (by omega) (by omega),df hb]
    exact ih (q-1) (r+yn1) (by omega) (by omega) (by omega) (by omega) (by omega) e' hu'
  by_cases hbig:4294967296≤q
  ·simp only[z2m (H:=H2),T.j54,p2,q0a,ifV,z8v,dt hbig]
   exact step (j1b hun hu1 hbig hyp)
  ·have hm:=j34 hq (by omega) hy0 hy3
   by_cases hgt:4294967296*r+un1<q*yn0
   ·simp only[z2m (H:=H2),T.j54,p2,q0a,ifV,z8v,df hbig,wrap_u64 (x:=q*yn0) hm.1 (by omega),wrap_u64 (x:=4294967296*r) (by omega) (by omega),wrap_u64 (x:=4294967296*r+un1) (by omega) (by omega),dt hgt]
    exact step (j7s hy e hgt)
   ·simp only[z2m (H:=H2),T.j54,p2,q0a,ifV,z8v,df hbig,wrap_u64 (x:=q*yn0) hm.1 (by omega),wrap_u64 (x:=4294967296*r) (by omega) (by omega),wrap_u64 (x:=4294967296*r+un1) (by omega) (by omega),df hgt]
    rw[q9c hy e (by omega) hu]
theorem div_loop2 {y yn1 yn0 un un1:Int} (s q1:AV) (hy:y=yn1*4294967296+yn0) (hy1:2147483648≤yn1) (hy2:yn1<4294967296) (hy0:0≤yn0) (hy3:yn0<4294967296) (hun:un<y) (hu0:0≤un1) (hu1:un1<4294967296) (m:Mem) :
  ∀(d:Nat) (q r:Int),4294967296≤r+d*yn1→0≤q→q≤4294967297→0≤r→r<4294967296→q*yn1+r=un→un*4294967296+un1<(q+1)*y→
   D2.gor 679942 [.int .u64 y,s,.int .u64 yn1,.int .u64 yn0,.int .u64 un1,q1,.int .u64 r,.int .u64 un,.int .u64 q] m =
   D2.gor 679944 [.int .u64 y,s,.int .u64 un1,q1,.int .u64 un,.int .u64 ((un*4294967296+un1) / y)] m:=by
 intro d
 induction d with
 |zero=>intro q r h;intros;omega
 |succ d ih=>
  intro q r hd hq hq2 hr hr2 e hu
  have hyp:0<y:=by omega
  have step:(∀h:un*4294967296+un1<q*y,D2.gor 679943 [.int .u64 y,s,.int .u64 yn1,.int .u64 yn0,.int .u64 un1,q1,.int .u64 r,.int .u64 un,.int .u64 q] m =
    D2.gor 679944 [.int .u64 y,s,.int .u64 un1,q1,.int .u64 un,.int .u64 ((un*4294967296+un1) / y)] m):=by
   intro h
   have hq1:1≤q:=by
    by_cases h0:q=0
    ·subst h0
     simp only[Int.zero_mul]at h
     have:0≤un:=by rw[←e];omega
     omega
    ·omega
   have e':=z4z e
   have hu':=j7t h
   have hdm:((d+1:Nat):Int)*yn1=d*yn1+yn1:=by rw[Int.natCast_add,Int.add_mul];simp
   rw[hdm]at hd
   by_cases hb:4294967296≤r+yn1
   ·simp only[j02 (H:=H2),T.g166_7,p2,q0a,j82,wrap_u64 (x:=q-1) (by omega) (by omega),wrap_u64 (x:=r+yn1) (by omega) (by omega),dt hb]
    rw[q9c hy e' (j1c hy (by omega) hy0 hy3 hun hu0 (by omega) e' hb) hu']
   ·simp only[j02 (H:=H2),T.g166_7,p2,q0a,j82,wrap_u64 (x:=q-1) (by omega) (by omega),wrap_u64 (x:=r+yn1) (by omega) (by omega),df hb]
    exact ih (q-1) (r+yn1) (by omega) (by omega) (by omega) (by omega) (by omega) e' hu'
  by_cases hbig:4294967296≤q
  ·simp only[z2n (H:=H2),T.j55,p2,q0a,ifV,z8w,dt hbig]
   exact step (j1b hun hu1 hbig hyp)
  ·have hm:=j34 hq (by omega) hy0 hy3
   by_cases hgt:4294967296*r+un1<q*yn0
   ·simp only[z2n (H:=H2),T.j55,p2,q0a,ifV,z8w,df hbig,wrap_u64 (x:=q*yn0) hm.1 (by omega),wrap_u64 (x:=4294967296*r) (by omega) (by omega),wrap_u64 (x:=4294967296*r+un1) (by omega) (by omega),dt hgt]
    exact step (j7s hy e hgt)
   ·simp only[z2n (H:=H2),T.j55,p2,q0a,ifV,z8w,df hbig,wrap_u64 (x:=q*yn0) hm.1 (by omega),wrap_u64 (x:=4294967296*r) (by omega) (by omega),wrap_u64 (x:=4294967296*r+un1) (by omega) (by omega),df hgt]
    rw[q9c hy e (by omega) hu]
theorem div64_is {hi lo y:Int} (h0:0≤hi) (hlt:hi<y) (hy:y<18446744073709551616) (hl:0≤lo) (hl2:lo<18446744073709551616) (m:Mem) :
  run E2 (.fn 166) [.int .u64 hi,.int .u64 lo,.int .u64 y] m=some (.tup [.int .u64 ((hi*18446744073709551616+lo) / y),.int .u64 ((hi*18446744073709551616+lo) % y)],m):=by
 have hyp:0<y:=by omega
 simp only[f166_is (H:=H2) rfl,T.f166,p2,q1,q0a,w_f166,df (show ¬y=0 by omega)]
 simp only[g166_0_is (H:=H2),T.g166_0,p2,q1,q0a,w_g166_0,df (show ¬y≤hi by omega)]
 by_cases hz:hi=0
 ·subst hz
  have g1:0≤lo / y∧lo / y<18446744073709551616:=⟨Int.ediv_nonneg hl (by omega),Int.lt_of_le_of_lt (Int.ediv_le_self _ hl) hl2⟩
  simp only[j00 (H:=H2),T.g166_1,p2,q0a,j80,decide_true,q5y _ _ _ _ (show y≠0 by omega),q34 _ _ _ _ (show y≠0 by omega),Int.tdiv_eq_ediv_of_nonneg hl,Int.tmod_eq_emod_of_nonneg hl,wrap_u64 g1.1 g1.2,Int.zero_mul,Int.zero_add]
 ·simp only[j00 (H:=H2),T.g166_1,p2,q0a,j80,df hz]
  obtain⟨s,hs,hs2,hn1,hn2⟩:=lz_is hyp hy m
  obtain⟨pp,hpp⟩:∃pp:Int,pp=2 ^ s:=⟨_,rfl⟩
  obtain⟨qq,hqq⟩:∃qq:Int,qq=2 ^ (64-s):=⟨_,rfl⟩
  have hp0:0<pp:=by rw[hpp];exact Int.pow_pos (by omega)
  have hq0:0<qq:=by rw[hqq];exact Int.pow_pos (by omega)
  have hpq:pp*qq=18446744073709551616:=by
   rw[hpp,hqq,←Int.pow_add,show s+(64-s)=64 by omega];rfl
  rw[←hpp]at hn1 hn2
  obtain⟨y',hy'⟩:∃y',y'=y*pp:=⟨_,rfl⟩
  rw[←hy']at hn1 hn2
  have hhi:hi*pp<18446744073709551616:=by
   have:hi*pp<y*pp:=Int.mul_lt_mul_of_pos_right hlt hp0
   omega
  have hhi0:0≤hi*pp:=Int.mul_nonneg h0 (by omega)
  have hb1:0≤lo / qq:=Int.ediv_nonneg hl (by omega)
  have hb2:lo / qq<pp:=Int.ediv_lt_of_lt_mul hq0 (by rw[hpq];exact hl2)
  have hb3:lo / qq<18446744073709551616:=Int.lt_of_le_of_lt (Int.ediv_le_self _ hl) hl2
  have hor:q1e Tryz.prog .or 26 (.int .u64 (hi*pp)) (.int .u64 (lo / qq))=some (.int .u64 (hi*pp+lo / qq)):=by
   have e1:hi*pp=((hi.toNat*2 ^ s:Nat):Int):=by
    rw[hpp,Int.natCast_mul,Int.toNat_of_nonneg h0,Int.natCast_pow];rfl
   have e2:lo / qq=(((lo / qq).toNat:Nat):Int):=(Int.toNat_of_nonneg hb1).symm
   have e3:((2 ^ s:Nat):Int)=pp:=by rw[hpp];exact Int.natCast_pow 2 s
   rw[e1,e2,bin_or _ (by omega) (by omega) (by omega)]
   rfl
  obtain⟨un32,hun⟩:∃un32,un32=hi*pp+lo / qq:=⟨_,rfl⟩
  obtain⟨un10,hun10⟩:∃un10,un10=(lo*pp) % 18446744073709551616:=⟨_,rfl⟩
  have hM:=div_norm hpq hp0 hq0 hun hun10
  have hun10b:0≤un10∧un10<18446744073709551616:=by omega
  have hunlt:un32<y':=by rw[hy'];exact j32 (y:=y) hM hlt hl2 hp0 hun10b.1
  have hun0:0≤un32:=by omega
  obtain⟨yn1,hyn1⟩:∃yn1,yn1=y' / 4294967296:=⟨_,rfl⟩
  obtain⟨yn0,hyn0⟩:∃yn0,yn0=y' % 4294967296:=⟨_,rfl⟩
  have hyy:y'=yn1*4294967296+yn0:=by omega
  obtain⟨i1,i2,i3,i4,i5,i6⟩:=j1d (un:=un32) (u1:=un10 / 4294967296) hyy (by omega) (by omega) (by omega) hun0 hunlt (by omega)
  have i0:0≤un32 / yn1*yn1:=Int.mul_nonneg i1 (by omega)
  have k0:IntKind.wrap .u64 (s:Int)=s:=wrap_u64 (by omega) (by omega)
  have k1:IntKind.wrap .u64 (64-(s:Int))=((64-s:Nat):Int):=by rw[wrap_u64 (by omega) (by omega)];omega
  have t1:un32.tdiv yn1=un32 / yn1:=Int.tdiv_eq_ediv_of_nonneg hun0
  have w1:IntKind.wrap .u64 (un32 / yn1)=un32 / yn1:=wrap_u64 (by omega) (by omega)
  have w2:IntKind.wrap .u64 (un32 / yn1*yn1)=un32 / yn1*yn1:=wrap_u64 (by omega) (by omega)
  have w3:IntKind.wrap .u64 (un32-un32 / yn1*yn1)=un32-un32 / yn1*yn1:=wrap_u64 (by omega) (by omega)
  have g2:D2.gor 679938 [.int .u64 hi,.int .u64 lo,.int .u64 y] m=D2.gor 679939 [.int .u64 y',.int .u64 (s:Int),.int .u64 yn1,.int .u64 yn0,.int .u64 un32,.int .u64 (un10 / 4294967296),.int .u64 (un10 % 4294967296),.int .u64 (un32 / yn1),.int .u64 (un32-un32 / yn1*yn1)] m:=by
   simp only[g166_2_is (H:=H2),T.g166_2,p1,p2,w_g166_2,hs,k0,k1,z6a _ s (show s≤64 by omega),←hpp,←hy',Int.emod_eq_of_lt (show 0≤y' by omega) hn2,q4e _ (show 0≤y' by omega),q8n _ (show 0≤y' by omega) hn2,Int.emod_eq_of_lt hhi0 hhi,z6b _ (64-s) (show 64-s≤64 by omega),←hqq,hor,←hun,←hun10,q4e _ hun10b.1,q8n _ hun10b.1 hun10b.2,←hyn1,←hyn0,q5y _ _ _ _ (show yn1≠0 by omega),t1,w1,w2,w3]
  rw[g2,div_loop1 (.int .u64 (s:Int)) (.int .u64 (un10 % 4294967296)) hyy (by omega) (by omega) (by omega) (by omega) hunlt (by omega) (by omega) m 2 _ _ (by omega) i1 i2 i4 (by omega) i3 i6]
  obtain⟨q1,hq1⟩:∃q1,q1=(un32*4294967296+un10 / 4294967296) / y':=⟨_,rfl⟩
  obtain⟨r1,hr1⟩:∃r1,r1=(un32*4294967296+un10 / 4294967296) % y':=⟨_,rfl⟩
  have hqr:un32*4294967296+un10 / 4294967296=q1*y'+r1:=by rw[hq1,hr1];exact(Int.ediv_mul_add_emod _ _).symm
  have hr1b:0≤r1∧r1<y':=by rw[hr1];exact⟨Int.emod_nonneg _ (by omega),Int.emod_lt_of_pos _ (by omega)⟩
  have hq1b:0≤q1∧q1<4294967296:=by
   rw[hq1]
   exact⟨Int.ediv_nonneg (by omega) (by omega),Int.ediv_lt_of_lt_mul (by omega) (by omega)⟩
  rw[←hq1]
  have hr1w:IntKind.wrap .u64 (IntKind.wrap .u64 (IntKind.wrap .u64 (un32*4294967296)+un10 / 4294967296)-IntKind.wrap .u64 (q1*y'))=r1:=by
   simp only[q0o];omega
  obtain⟨j1,j2,j3,j4,j5,j6⟩:=j1d (un:=r1) (u1:=un10 % 4294967296) hyy (by omega) (by omega) (by omega) hr1b.1 hr1b.2 (by omega)
  have j0:0≤r1 / yn1*yn1:=Int.mul_nonneg j1 (by omega)
  have t2:r1.tdiv yn1=r1 / yn1:=Int.tdiv_eq_ediv_of_nonneg hr1b.1
  have v1:IntKind.wrap .u64 (r1 / yn1)=r1 / yn1:=wrap_u64 (by omega) (by omega)
  have v2:IntKind.wrap .u64 (r1 / yn1*yn1)=r1 / yn1*yn1:=wrap_u64 (by omega) (by omega)
  have v3:IntKind.wrap .u64 (r1-r1 / yn1*yn1)=r1-r1 / yn1*yn1:=wrap_u64 (by omega) (by omega)
  simp only[g166_5_is (H:=H2),T.g166_5,p2,w_g166_5,hr1w,q5y _ _ _ _ (show yn1≠0 by omega),t2,v1,v2,v3]
  rw[div_loop2 (.int .u64 (s:Int)) (.int .u64 q1) hyy (by omega) (by omega) (by omega) (by omega) hr1b.2 (by omega) (by omega) m 2 _ _ (by omega) j1 j2 j4 (by omega) j3 j6]
  obtain⟨q0,hq0'⟩:∃q0,q0=(r1*4294967296+un10 % 4294967296) / y':=⟨_,rfl⟩
  obtain⟨r0,hr0⟩:∃r0,r0=(r1*4294967296+un10 % 4294967296) % y':=⟨_,rfl⟩
  have hqr0:r1*4294967296+un10 % 4294967296=q0*y'+r0:=by rw[hq0',hr0];exact(Int.ediv_mul_add_emod _ _).symm
  have hr0b:0≤r0∧r0<y':=by rw[hr0];exact⟨Int.emod_nonneg _ (by omega),Int.emod_lt_of_pos _ (by omega)⟩
  have hq0b:0≤q0∧q0<4294967296:=by
   rw[hq0']
   exact⟨Int.ediv_nonneg (by omega) (by omega),Int.ediv_lt_of_lt_mul (by omega) (by omega)⟩
  rw[←hq0']
  obtain⟨f1,f2⟩:=div_join (un32:=un32) (un10:=un10) (y:=y') (q1:=q1) (r1:=r1) (q0:=q0) (r0:=r0) (by omega) hqr hqr0 hr0b.1 hr0b.2
  rw[←hM,hy']at f1 f2
  obtain⟨b1,b2⟩:=div_back (n:=hi*18446744073709551616+lo) (y:=y) hp0
  rw[b1]at f1
  rw[f2]at b2
  have hr0w:IntKind.wrap .u64 (IntKind.wrap .u64 (IntKind.wrap .u64 (r1*4294967296)+un10 % 4294967296)-IntKind.wrap .u64 (q0*y'))=r0:=by
   simp only[q0o];omega
  simp only[g166_8_is (H:=H2),T.g166_8,p2,w_g166_8,wrap_u64 (x:=q1*4294967296) (by omega) (by omega),wrap_u64 (x:=q1*4294967296+q0) (by omega) (by omega),hr0w,z6b _ s (show s≤64 by omega),←hpp,b2,f1]
end
section
set_option maxRecDepth 4000
open Go Go.Abs
theorem q30 (a b c d:Int):q1e Tryz.prog .eql 43 (.agg [.int .i64 a,.int .u64 b]) (.agg [.int .i64 c,.int .u64 d])=some (.bool (decide (a=c)&&decide (b=d))):=by
 have h:eqA Tryz.prog 50 43 (.agg [.int .i64 a,.int .u64 b]) (.agg [.int .i64 c,.int .u64 d])=(match (a==c) with|true=>(match (b==d) with|true=>some true|false=>some false)|false=>some false):=by kernel_rfl
 have h2:q1e Tryz.prog .eql 43 (.agg [.int .i64 a,.int .u64 b]) (.agg [.int .i64 c,.int .u64 d])=(match eqA Tryz.prog 50 43 (.agg [.int .i64 a,.int .u64 b]) (.agg [.int .i64 c,.int .u64 d]) with|some b=>some (.bool b)|none=>none):=by kernel_rfl
 rw[h2,h,show (a==c)=decide (a=c) from rfl,show (b==d)=decide (b=d) from rfl]
 cases decide (a=c)<;>cases decide (b=d)<;>rfl
theorem of_is {n:Int} (h1:-9223372036854775808≤n) (h2:n<9223372036854775808) (m:Mem):Res m (run E2 (.fn 54) [.int .i64 n] m) (.agg (Wd.of n).cells):=by
 have e1:n.fdiv (2 ^ (min (63:Int).toNat IntKind.i64.bits))=n / 18446744073709551616:=by
  have:((2:Int) ^ (min (63:Int).toNat IntKind.i64.bits))=9223372036854775808:=by rfl
  rw[this,Int.fdiv_eq_ediv_of_nonneg _ (by omega)];omega
 simp only[f54_is (H:=H2) rfl,T.f54,pB,p2,p1,q0r,AV.cells,Nat.reduceAdd,Nat.reduceLeDiff,q1g,q1i,w_f54,Wd.cells,AV.one,over,lcl,q91 _ _ _ _ _ (show (0:Int)≤63 by omega),e1,q0o]
 refine Res.eq ?_ rfl
 (repeat apply Fr.lays)
 exact Fr.refl _
theorem sign_is {a:Wd} (ha:a.ok) (m:Mem):Res m (run E2 (.fn 93) [.agg a.cells] m) (.int .i64 (sgn a.val)):=by
 obtain⟨ah,al⟩:=a
 obtain⟨a1,a2,a3,a4⟩:=ha
 simp only[Wd.val]at *
 unfold sgn
 simp only[f93_is (H:=H2) rfl,T.f93,p1,q1,p2,q1h,q0a,ifV,w_f93,Wd.cells,AV.one,AV.cells,lcl]
 by_cases h1:ah<0
 ·rw[if_pos (by omega)]
  simp only[dt h1]
  exact Res.eq ((Fr.refl m).lay _) rfl
 ·rw[if_neg (by omega)]
  simp only[df h1]
  by_cases h2:ah=0
  ·simp only[dt h2]
   by_cases h3:al=0
   ·rw[if_pos (by omega)]
    simp only[dt h3]
    exact Res.eq ((Fr.refl m).lay _) rfl
   ·rw[if_neg (by omega)]
    simp only[df h3,j7k (H:=H2),T.g93_0,w_g93_0]
    exact Res.eq ((Fr.refl m).lay _) rfl
  ·rw[if_neg (by omega)]
   simp only[df h2,j7k (H:=H2),T.g93_0,w_g93_0]
   exact Res.eq ((Fr.refl m).lay _) rfl
theorem cmp_is {a b:Wd} (ha:a.ok) (hb:b.ok) (m:Mem):Res m (run E2 (.fn 20) [.agg a.cells,.agg b.cells] m) (.int .i64 (sgn (a.val-b.val))):=by
 obtain⟨ah,al⟩:=a
 obtain⟨bh,bl⟩:=b
 obtain⟨a1,a2,a3,a4⟩:=ha
 obtain⟨b1,b2,b3,b4⟩:=hb
 simp only[Wd.val]at *
 unfold sgn
 simp only[f20_is (H:=H2) rfl,T.f20,p1,q1,p2,q1h,q0a,ifV,Nat.reduceAdd,w_f20,Wd.cells,AV.one,AV.cells,Nat.reduceLeDiff,lcl,q30]
 by_cases h1:ah<bh
 ·rw[if_pos (by omega)]
  simp only[dt h1]
  exact Res.eq (((Fr.refl m).lay _).lay _) rfl
 ·simp only[df h1]
  by_cases h2:ah=bh
  ·simp only[dt h2]
   by_cases h3:al<bl
   ·rw[if_pos (by omega)]
    simp only[dt h3]
    exact Res.eq (((Fr.refl m).lay _).lay _) rfl
   ·rw[if_neg (by omega)]
    simp only[df h3]
    by_cases h4:al=bl
    ·rw[if_pos (by omega)]
     simp only[dt h4,Bool.and_self]
     exact Res.eq (((Fr.refl m).lay _).lay _) rfl
    ·rw[if_neg (by omega)]
     simp only[df h4,Bool.and_false,j56 (H:=H2),T.g20_0,w_g20_0]
     exact Res.eq (((Fr.refl m).lay _).lay _) rfl
  ·rw[if_neg (by omega),if_neg (by omega)]
   simp only[df h2,Bool.false_and,j56 (H:=H2),T.g20_0,w_g20_0]
   exact Res.eq (((Fr.refl m).lay _).lay _) rfl
def q3a (n:Int):Int:=if n<0 then -n else n
theorem size_is {a:Wd} (ha:a.ok) (m:Mem):Res m (run E2 (.fn 167) [.agg a.cells] m) (.tup [.int .u64 (q3a a.val / 18446744073709551616),.int .u64 (q3a a.val % 18446744073709551616)]):=by
 obtain⟨ah,al⟩:=a
 obtain⟨a1,a2,a3,a4⟩:=ha
 simp only[Wd.val]at *
 unfold q3a
 by_cases h1:0≤ah
 ·rw[if_neg (by omega)]
  simp only[f167_is (H:=H2) rfl,T.f167,p1,q1,p2,q1h,q0a,w_f167,Wd.cells,AV.one,AV.cells,lcl,dt h1,q0o]
  have e1:(ah*18446744073709551616+al) / 18446744073709551616=ah:=by omega
  have e2:(ah*18446744073709551616+al) % 18446744073709551616=al:=by omega
  have e3:ah % 18446744073709551616=ah:=by omega
  rw[e1,e2,e3]
  exact Res.eq ((Fr.refl m).lay _) rfl
 ·rw[if_pos (by omega)]
  obtain⟨c,hc⟩:∃c:Int,c=(if 0<al+0 then 1 else 0):=⟨_,rfl⟩
  have c0:0≤c∧c≤1:=by omega
  simp only[f167_is (H:=H2) rfl,T.f167,p1,q1,p2,q1h,q0a,w_f167,Wd.cells,AV.one,AV.cells,lcl,df (show ¬ah≥0 by omega)]
  simp only[g167_0_is (H:=H2),T.g167_0,p1,q1,q0g,w_g167_0,lcl,q96 _ (show (0:Int)≤0∧0≤al∧al<18446744073709551616∧(0:Int)≤0∧(0:Int)≤1 by omega),q0o,←hc,q96 _ (show (0:Int)≤0∧0≤ah % 18446744073709551616∧ah % 18446744073709551616<18446744073709551616∧0≤c∧c≤1 by omega)]
  have e1:-(ah*18446744073709551616+al) / 18446744073709551616=(0-ah % 18446744073709551616-c) % 18446744073709551616:=by
   by_cases h0:0<al+0
   ·rw[if_pos h0]at hc;omega
   ·rw[if_neg h0]at hc;omega
  have e2:-(ah*18446744073709551616+al) % 18446744073709551616=(0-al-0) % 18446744073709551616:=by omega
  rw[e1,e2]
  exact Res.eq ((Fr.refl m).lay _) rfl
theorem signed_is (below:Bool) {hi lo:Int} (h1:0≤hi) (h2:hi<18446744073709551616) (h3:0≤lo) (h4:lo<18446744073709551616) (m:Mem) :
  Res m (run E2 (.fn 170) [.bool below,.int .u64 hi,.int .u64 lo] m) (.tup [.agg (Wd.res (if below then -(hi*18446744073709551616+lo) else hi*18446744073709551616+lo)).1.cells,.int .i64 (Wd.res (if below then -(hi*18446744073709551616+lo) else hi*18446744073709551616+lo)).2]):=by
 cases below with
 |false=>
  simp only[f170_is (H:=H2) rfl,T.f170,pB,p1,p2,q0r,AV.cells,Nat.reduceAdd,Nat.reduceLeDiff,q0a,unA,q1g,q1i,w_f170,Wd.cells,AV.one,over,lcl,Bool.not_false,Bool.false_eq_true]
  by_cases h:9223372036854775808≤hi
  ·simp only[dt h]
   exact Res.eq ((Fr.refl m).lay _) (q59 (q2m (by omega)))
  ·simp only[df h,g170_0_is (H:=H2),T.g170_0,p1,q0r,AV.cells,Nat.reduceAdd,Nat.reduceLeDiff,q1g,q1i,w_g170_0,AV.one,over,lcl,wrap_i64 (n:=hi) (by omega) (by omega)]
   exact Res.eq ((Fr.refl m).lay _) (j73 (q1j (by omega) (by omega)) (by omega) (by omega))
 |true=>
  simp only[f170_is (H:=H2) rfl,T.f170,pB,p1,p2,q0r,q0a,unA,q1g,q1i,w_f170,Wd.cells,lcl,Bool.not_true]
  simp only[g170_1_is (H:=H2),T.g170_1,p2,p1,q0r,AV.cells,Nat.reduceAdd,Nat.reduceLeDiff,q0a,ifV,q1g,q1i,w_g170_1,AV.one,over,lcl]
  have main:hi*18446744073709551616+lo≤170141183460469231731687303715884105728→Res m ((T.Rl H2).gor 696322 [.int .u64 hi,.int .u64 lo,.ptr (some ⟨m.next,0⟩)] (m.lay (.cells [.int .i64 0,.int .u64 0] false))) (.tup [.agg (Wd.res (-(hi*18446744073709551616+lo))).1.cells,.int .i64 (Wd.res (-(hi*18446744073709551616+lo))).2]):=by
   intro hle
   obtain⟨c,hc⟩:∃c:Int,c=(if 0<lo+0 then 1 else 0):=⟨_,rfl⟩
   have c0:0≤c∧c≤1:=by omega
   have hw:IntKind.wrap .i64 ((0-hi-c) % 18446744073709551616)=-hi-c:=by rw[q37];omega
   simp only[g170_2_is (H:=H2),T.g170_2,p1,q0r,AV.cells,Nat.reduceAdd,Nat.reduceLeDiff,q0g,q1g,q1i,w_g170_2,Wd.cells,AV.one,over,lcl,q96 _ (show (0:Int)≤0∧0≤lo∧lo<18446744073709551616∧(0:Int)≤0∧(0:Int)≤1 by omega),←hc,q96 _ (show (0:Int)≤0∧0≤hi∧hi<18446744073709551616∧0≤c∧c≤1 by omega),hw]
   exact Res.eq ((Fr.refl m).lay _) (j73 (q1j (by omega) (by omega)) (by omega) (by omega))
  by_cases h:9223372036854775808<hi
  ·simp only[dt h]
   exact Res.eq ((Fr.refl m).lay _) (q59 (q2m (by omega)))
  ·simp only[df h]
   by_cases h5:hi=9223372036854775808
   ·simp only[dt h5]
    by_cases h6:0<lo
    ·simp only[dt h6]
     exact Res.eq ((Fr.refl m).lay _) (q59 (q2m (by omega)))
    ·simp only[df h6]
     exact main (by omega)
   ·simp only[df h5]
    exact main (by omega)
theorem scale_is (n:Int) (m:Mem):run E2 (.fn 146) [.int .i64 n] m=some (.bool (decide (0≤n∧n≤18)),m):=by
 simp only[f146_is (H:=H2) rfl,T.f146,p2,ifV,w_f146]
 by_cases h1:0≤n
 ·by_cases h2:n≤18<;>simp[h1,h2]
 ·simp[h1]
def q02 (w:Wd) (s:Int):List AV:=[.int .i64 w.hi,.int .u64 w.lo,.int .i64 s]
theorem dright_is (w:Wd) (s:Int) (m:Mem):Res m (run E2 (.fn 132) [.agg (q02 w s)] m) (.bool (decide (0≤s∧s≤18))):=by
 simp only[q02,f132_is (H:=H2) rfl,T.f132,p1,q1,q1h,w_f132,AV.one,AV.cells,lcl,scale_is]
 exact Res.eq ((Fr.refl m).lay _) rfl
end
section
set_option maxRecDepth 4000
open Go Go.Abs
def S3:List FuncId:=[21,22,168,166,54,93,20,167,170,162,146,132]
noncomputable def H3:FuncId→Option (List AV→Mem→R):=q2w E2 S3
noncomputable abbrev E3:Env:=T.EH H3
theorem E3_ok:EnvOk E3:=q1k E2_ok S3
section
variable {H:FuncId→Option (List AV→Mem→R)}
theorem j5b (h:H 21=some (q0v E2 21)) {a b:Wd} (ha:a.ok) (hb:b.ok) (m:Mem):run (T.EH H) (.fn 21) [.agg a.cells,.agg b.cells] m=some (.tup [.agg (Wd.res (a.val+b.val)).1.cells,.int .i64 (Wd.res (a.val+b.val)).2],m):=
 q0s h (by simp[AV.flat,AV.lt,AV.lts,Wd.cells]) fun m2 _ _=>add_is a b ha hb m2
theorem sub_at (h:H 22=some (q0v E2 22)) {a b:Wd} (ha:a.ok) (hb:b.ok) (m:Mem):run (T.EH H) (.fn 22) [.agg a.cells,.agg b.cells] m=some (.tup [.agg (Wd.res (a.val-b.val)).1.cells,.int .i64 (Wd.res (a.val-b.val)).2],m):=
 q0s h (by simp[AV.flat,AV.lt,AV.lts,Wd.cells]) fun m2 _ _=>sub_is a b ha hb m2
theorem z8a (h:H 168=some (q0v E2 168)) {x y:Int} (hx:0≤x∧x<18446744073709551616) (hy:0≤y∧y<18446744073709551616) (m:Mem):run (T.EH H) (.fn 168) [.int .u64 x,.int .u64 y] m=some (.tup [.int .u64 (x*y / 18446744073709551616),.int .u64 (x*y % 18446744073709551616)],m):=
 q0s h (by simp[AV.flat,AV.lt,AV.lts]) fun m2 _ _=>⟨m2,mul64_is hx.1 hx.2 hy.1 hy.2 m2,Fr.refl _⟩
theorem div64_at (h:H 166=some (q0v E2 166)) {hi lo y:Int} (h0:0≤hi) (hlt:hi<y) (hy:y<18446744073709551616) (hl:0≤lo∧lo<18446744073709551616) (m:Mem):run (T.EH H) (.fn 166) [.int .u64 hi,.int .u64 lo,.int .u64 y] m=some (.tup [.int .u64 ((hi*18446744073709551616+lo) / y),.int .u64 ((hi*18446744073709551616+lo) % y)],m):=
 q0s h (by simp[AV.flat,AV.lt,AV.lts]) fun m2 _ _=>⟨m2,div64_is h0 hlt hy hl.1 hl.2 m2,Fr.refl _⟩
theorem of_at (h:H 54=some (q0v E2 54)) {n:Int} (h1:-9223372036854775808≤n) (h2:n<9223372036854775808) (m:Mem):run (T.EH H) (.fn 54) [.int .i64 n] m=some (.agg (Wd.of n).cells,m):=
 q0s h (by simp[AV.flat,AV.lt,AV.lts,Wd.cells]) fun m2 _ _=>of_is h1 h2 m2
theorem z0d (h:H 93=some (q0v E2 93)) {a:Wd} (ha:a.ok) (m:Mem):run (T.EH H) (.fn 93) [.agg a.cells] m=some (.int .i64 (sgn a.val),m):=
 q0s h (by simp[AV.flat,AV.lt]) fun m2 _ _=>sign_is ha m2
theorem cmp_at (h:H 20=some (q0v E2 20)) {a b:Wd} (ha:a.ok) (hb:b.ok) (m:Mem):run (T.EH H) (.fn 20) [.agg a.cells,.agg b.cells] m=some (.int .i64 (sgn (a.val-b.val)),m):=
 q0s h (by simp[AV.flat,AV.lt]) fun m2 _ _=>cmp_is ha hb m2
theorem size_at (h:H 167=some (q0v E2 167)) {a:Wd} (ha:a.ok) (m:Mem):run (T.EH H) (.fn 167) [.agg a.cells] m=some (.tup [.int .u64 (q3a a.val / 18446744073709551616),.int .u64 (q3a a.val % 18446744073709551616)],m):=
 q0s h (by simp[AV.flat,AV.lt,AV.lts]) fun m2 _ _=>size_is ha m2
theorem z3j (h:H 170=some (q0v E2 170)) (below:Bool) {hi lo:Int} (h1:0≤hi∧hi<18446744073709551616) (h3:0≤lo∧lo<18446744073709551616) (m:Mem) :
  run (T.EH H) (.fn 170) [.bool below,.int .u64 hi,.int .u64 lo] m=some (.tup [.agg (Wd.res (if below then -(hi*18446744073709551616+lo) else hi*18446744073709551616+lo)).1.cells,.int .i64 (Wd.res (if below then -(hi*18446744073709551616+lo) else hi*18446744073709551616+lo)).2],m):=
 q0s h (by simp[AV.flat,AV.lt,AV.lts,Wd.cells]) fun m2 _ _=>signed_is below h1.1 h1.2 h3.1 h3.2 m2
theorem z19 (h:H 132=some (q0v E2 132)) (w:Wd) (s:Int) (m:Mem):run (T.EH H) (.fn 132) [.agg (q02 w s)] m=some (.bool (decide (0≤s∧s≤18)),m):=
 q0s h (by simp[AV.flat,AV.lt]) fun m2 _ _=>dright_is w s m2
end
theorem z7k {H:FuncId→Option (List AV→Mem→R)} (h:H 59=some q70) {x y c:Int} (m:Mem) (hh:0≤x∧0≤y∧0≤c∧c≤1):run (T.EH H) (.fn 59) [.int .u64 x,.int .u64 y,.int .u64 c] m=some (.tup [.int .u64 ((x+y+c) % 18446744073709551616),.int .u64 ((x+y+c) / 18446744073709551616)],m):=by
 rw[q1t (h:=q70) h]
 simp only[q70,if_pos hh]
end
section
set_option maxRecDepth 4000
open Go Go.Abs
theorem pcl1_is {x y z0 z1 z2 z3:Int} (hx:0≤x∧x<18446744073709551616) (hy:0≤y∧y<18446744073709551616) (h0:0≤z0∧z0<18446744073709551616) (h1:0≤z1∧z1<18446744073709551616) (h2:0≤z2∧z2<18446744073709551616) (h3:0≤z3∧z3<18446744073709551616)
  (hs:z3*340282366920938463463374607431768211456+z2*18446744073709551616+z1+x*y<6277101735386680763835789423207666416102355444464034512896) (m:Mem) :
  run E3 (.fn 169) [.int .u64 x,.int .u64 y,.int .i64 1,.ptr (some ⟨m.next,0⟩)] (m.lay (.cells [.int .u64 z0,.int .u64 z1,.int .u64 z2,.int .u64 z3] false)) =
   some (.undef,m.lay (.cells [.int .u64 z0,.int .u64 ((z1+x*y) % 18446744073709551616),.int .u64 ((z2*18446744073709551616+z1+x*y) / 18446744073709551616 % 18446744073709551616),.int .u64 (z3+(z2*18446744073709551616+z1+x*y) / 340282366920938463463374607431768211456)] false)):=by
 have hm:=j99 hx.1 hx.2 hy.1 hy.2
 have w2:IntKind.wrap .i64 (1+1)=2:=wrap_i64 (by omega) (by omega)
 have w3:IntKind.wrap .i64 (1+2)=3:=wrap_i64 (by omega) (by omega)
 simp only[z6l (H:=H3) rfl,T.f169,p1,p2,q1,q0g,q0a,j8h,lcl,z8a (H:=H3) rfl hx hy,w2,w3,j91,ix4_2,ix4_3]
 generalize x*y=t at *
 obtain⟨c,hc⟩:∃c,c=(z1+t % 18446744073709551616+0) / 18446744073709551616:=⟨_,rfl⟩
 obtain⟨c2,hc2⟩:∃c2,c2=(z2+t / 18446744073709551616+c) / 18446744073709551616:=⟨_,rfl⟩
 simp only[z7k (H:=H3) rfl _ (show 0≤z1∧0≤t % 18446744073709551616∧(0:Int)≤0∧(0:Int)≤1 by omega),←hc,over,AV.cells,Nat.reduceAdd,Nat.reduceLeDiff,lcl,z7k (H:=H3) rfl _ (show 0≤z2∧0≤t / 18446744073709551616∧0≤c∧c≤1 by omega),←hc2,dt (show (3:Int)<4 by omega),z6l (H:=H3) rfl,j8h]
 rw[wrap_u64 (x:=z3+c2) (by omega) (by omega),show (z1+t % 18446744073709551616+0) % 18446744073709551616=(z1+t) % 18446744073709551616 by omega,show (z2+t / 18446744073709551616+c) % 18446744073709551616=(z2*18446744073709551616+z1+t) / 18446744073709551616 % 18446744073709551616 by omega,
  show z3+c2=z3+(z2*18446744073709551616+z1+t) / 340282366920938463463374607431768211456 by omega]
theorem pcl2_is {x y z0 z1 z2 z3:Int} (hx:0≤x∧x<18446744073709551616) (hy:0≤y∧y<18446744073709551616) (h0:0≤z0∧z0<18446744073709551616) (h1:0≤z1∧z1<18446744073709551616) (h2:0≤z2∧z2<18446744073709551616) (h3:0≤z3∧z3<18446744073709551616)
  (m:Mem) :
  run E3 (.fn 169) [.int .u64 x,.int .u64 y,.int .i64 2,.ptr (some ⟨m.next,0⟩)] (m.lay (.cells [.int .u64 z0,.int .u64 z1,.int .u64 z2,.int .u64 z3] false)) =
   some (.undef,m.lay (.cells [.int .u64 z0,.int .u64 z1,.int .u64 ((z2+x*y) % 18446744073709551616),.int .u64 ((z3*18446744073709551616+z2+x*y) / 18446744073709551616 % 18446744073709551616)] false)):=by
 have hm:=j99 hx.1 hx.2 hy.1 hy.2
 have w2:IntKind.wrap .i64 (2+1)=3:=wrap_i64 (by omega) (by omega)
 have w3:IntKind.wrap .i64 (2+2)=4:=wrap_i64 (by omega) (by omega)
 simp only[z6l (H:=H3) rfl,T.f169,p1,p2,q1,q0g,q0a,j8h,lcl,z8a (H:=H3) rfl hx hy,w2,w3,ix4_2,ix4_3]
 generalize x*y=t at *
 obtain⟨c,hc⟩:∃c,c=(z2+t % 18446744073709551616+0) / 18446744073709551616:=⟨_,rfl⟩
 simp only[z7k (H:=H3) rfl _ (show 0≤z2∧0≤t % 18446744073709551616∧(0:Int)≤0∧(0:Int)≤1 by omega),←hc,over,AV.cells,Nat.reduceAdd,Nat.reduceLeDiff,lcl,z7k (H:=H3) rfl _ (show 0≤z3∧0≤t / 18446744073709551616∧0≤c∧c≤1 by omega),df (show ¬(4:Int)<4 by omega),z6l (H:=H3) rfl,j8h]
 rw[show (z2+t % 18446744073709551616+0) % 18446744073709551616=(z2+t) % 18446744073709551616 by omega,show (z3+t / 18446744073709551616+c) % 18446744073709551616=(z3*18446744073709551616+z2+t) / 18446744073709551616 % 18446744073709551616 by omega]
theorem q9y (n:Int):0≤q3a n:=by unfold q3a;split<;>omega
theorem z1y {a:Wd} (ha:a.ok):q3a a.val≤170141183460469231731687303715884105728:=by
 obtain⟨h1,h2,h3,h4⟩:=ha
 unfold q3a Wd.val;split<;>omega
theorem prod_lt {a b:Wd} (ha:a.ok) (hb:b.ok):0≤q3a a.val*q3a b.val∧q3a a.val*q3a b.val≤28948022309329048855892746252171976963317496166410141009864396001978282409984:=by
 refine⟨Int.mul_nonneg (q9y _) (q9y _),?_⟩
 have h1:q3a a.val*q3a b.val≤170141183460469231731687303715884105728*q3a b.val:=Int.mul_le_mul_of_nonneg_right (z1y ha) (q9y _)
 have h2:=z1y hb
 omega
theorem product_is {a b:Wd} (ha:a.ok) (hb:b.ok) (m:Mem):Res m (run E3 (.fn 161) [.agg a.cells,.agg b.cells] m) (.agg (z6h (q3a a.val*q3a b.val))):=by
 obtain⟨hle1,hle2⟩:=prod_lt ha hb
 have hA:=z1y ha
 have hB:=z1y hb
 have nA:=q9y a.val
 have nB:=q9y b.val
 have sA:=fun m=>size_at (H:=H3) rfl ha m
 have sB':=fun m=>size_at (H:=H3) rfl hb m
 obtain⟨ac,hac⟩:∃ac,ac=a.cells:=⟨_,rfl⟩
 obtain⟨bc,hbc⟩:∃bc,bc=b.cells:=⟨_,rfl⟩
 have lac:ac.length=2:=by rw[hac];rfl
 have lbc:bc.length=2:=by rw[hbc];rfl
 have oac:ac.all AV.one=true:=by rw[hac];rfl
 have obc:bc.all AV.one=true:=by rw[hbc];rfl
 rw[←hac]at sA
 rw[←hbc]at sB'
 rw[←hac,←hbc]
 obtain⟨A,hA'⟩:∃A,A=q3a a.val:=⟨_,rfl⟩
 obtain⟨B,hB'⟩:∃B,B=q3a b.val:=⟨_,rfl⟩
 rw[←hA']at sA hle1 hle2 hA nA⊢
 rw[←hB']at sB' hle1 hle2 hB nB⊢
 clear hac hbc hA' hB'
 obtain⟨ah,hah⟩:∃ah,ah=A / 18446744073709551616:=⟨_,rfl⟩
 obtain⟨al,hal⟩:∃al,al=A % 18446744073709551616:=⟨_,rfl⟩
 obtain⟨bh,hbh⟩:∃bh,bh=B / 18446744073709551616:=⟨_,rfl⟩
 obtain⟨bl,hbl⟩:∃bl,bl=B % 18446744073709551616:=⟨_,rfl⟩
 simp only[←hah,←hal]at sA
 simp only[←hbh,←hbl]at sB'
 have rah:0≤ah∧ah<18446744073709551616:=by omega
 have ral:0≤al∧al<18446744073709551616:=by omega
 have rbh:0≤bh∧bh<18446744073709551616:=by omega
 have rbl:0≤bl∧bl<18446744073709551616:=by omega
 have eP:A*B=ah*bh*340282366920938463463374607431768211456+(al*bh+ah*bl)*18446744073709551616+al*bl:=by
  rw[←mul_words];congr 1<;>omega
 have t0:=j99 ral.1 ral.2 rbl.1 rbl.2
 have t1:=j99 ral.1 ral.2 rbh.1 rbh.2
 have t2:=j99 rah.1 rah.2 rbl.1 rbl.2
 have t3:=j99 rah.1 rah.2 rbh.1 rbh.2
 obtain⟨w0,hw0⟩:∃w0,w0=al*bl % 18446744073709551616:=⟨_,rfl⟩
 obtain⟨w1,hw1⟩:∃w1,w1=al*bl / 18446744073709551616:=⟨_,rfl⟩
 have k1:=fun m=>pcl1_is (x:=al) (y:=bh) (z0:=w0) (z1:=w1) (z2:=0) (z3:=0) ral rbh (by omega) (by omega) (by omega) (by omega) (by omega) m
 obtain⟨x1,hx1⟩:∃x1,x1=(w1+al*bh) % 18446744073709551616:=⟨_,rfl⟩
 obtain⟨x2,hx2⟩:∃x2,x2=(0*18446744073709551616+w1+al*bh) / 18446744073709551616 % 18446744073709551616:=⟨_,rfl⟩
 obtain⟨x3,hx3⟩:∃x3,x3=0+(0*18446744073709551616+w1+al*bh) / 340282366920938463463374607431768211456:=⟨_,rfl⟩
 simp only[←hx1,←hx2,←hx3]at k1
 have k2:=fun m=>pcl1_is (x:=ah) (y:=bl) (z0:=w0) (z1:=x1) (z2:=x2) (z3:=x3) rah rbl (by omega) (by omega) (by omega) (by omega) (by omega) m
 obtain⟨y1,hy1⟩:∃y1,y1=(x1+ah*bl) % 18446744073709551616:=⟨_,rfl⟩
 obtain⟨y2,hy2⟩:∃y2,y2=(x2*18446744073709551616+x1+ah*bl) / 18446744073709551616 % 18446744073709551616:=⟨_,rfl⟩
 obtain⟨y3,hy3⟩:∃y3,y3=x3+(x2*18446744073709551616+x1+ah*bl) / 340282366920938463463374607431768211456:=⟨_,rfl⟩
 simp only[←hy1,←hy2,←hy3]at k2
 have k3:=fun m=>pcl2_is (x:=ah) (y:=bh) (z0:=w0) (z1:=y1) (z2:=y2) (z3:=y3) rah rbh (by omega) (by omega) (by omega) (by omega) m
 obtain⟨v2,hv2⟩:∃v2,v2=(y2+ah*bh) % 18446744073709551616:=⟨_,rfl⟩
 obtain⟨v3,hv3⟩:∃v3,v3=(y3*18446744073709551616+y2+ah*bh) / 18446744073709551616 % 18446744073709551616:=⟨_,rfl⟩
 simp only[←hv2,←hv3]at k3
 have hd:z6h (A*B)=[.int .u64 w0,.int .u64 y1,.int .u64 v2,.int .u64 v3]:=by
  apply digs4_of (by omega) (by omega) (by omega) (by omega)
  rw[eP]
  generalize al*bl=q0 at *
  generalize al*bh=q1 at *
  generalize ah*bl=q2 at *
  generalize ah*bh=q3 at *
  have e1:w1*18446744073709551616+w0=q0:=by omega
  have e2:x3*340282366920938463463374607431768211456+x2*18446744073709551616+x1=w1+q1:=by omega
  have e3:y3*340282366920938463463374607431768211456+y2*18446744073709551616+y1=x3*340282366920938463463374607431768211456+x2*18446744073709551616+x1+q2:=by omega
  have e4:v3*18446744073709551616+v2=y3*18446744073709551616+y2+q3:=by omega
  omega
 rw[hd]
 have k1:=k1 (((m.lay (.cells ac false)).lay (.cells bc false)).lay (.cells [.int .u64 0,.int .u64 0,.int .u64 0,.int .u64 0] false))
 have k2:=k2 (((m.lay (.cells ac false)).lay (.cells bc false)).lay (.cells [.int .u64 0,.int .u64 0,.int .u64 0,.int .u64 0] false))
 have k3:=k3 (((m.lay (.cells ac false)).lay (.cells bc false)).lay (.cells [.int .u64 0,.int .u64 0,.int .u64 0,.int .u64 0] false))
 simp only[Mem.q00]at k1 k2 k3
 simp only[f161_is (H:=H3) rfl,T.f161,pB,q1,p1,p2,q1h,q0g,q1g,q1i,w_f161,oac,obc,AV.one,over,AV.cells,Nat.reduceAdd,Nat.reduceLeDiff,lcl,lac,lbc,List.take_of_length_le (show ac.length≤2 by omega),List.take_of_length_le (show bc.length≤2 by omega),sA,sB',z8a (H:=H3) rfl ral rbl,←hw0,←hw1,j90,j91,q6m,List.append_nil,List.nil_append,List.cons_append,k1,k2,k3]
 refine Res.eq ?_ rfl
 (repeat apply Fr.lays)
 exact Fr.refl _
theorem narrow_is (below:Bool) {n:Int} (h0:0≤n) (h1:n<115792089237316195423570985008687907853269984665640564039457584007913129639936) (m:Mem) :
  Res m (run E3 (.fn 163) [.bool below,.agg (z6h n)] m) (.tup [.agg (Wd.res (if below then -n else n)).1.cells,.int .i64 (Wd.res (if below then -n else n)).2]):=by
 obtain⟨z0,z1,z2,z3,e,g0,g1,g2,g3,en⟩:=digs4_ex h0 h1
 rw[e]
 simp only[f163_is (H:=H3) rfl,T.f163,pB,p2,q1,p1,q0r,AV.cells,Nat.reduceAdd,Nat.reduceLeDiff,q1h,q0a,ifV,q1g,q1i,w_f163,Wd.cells,AV.one,over,lcl,ix4_2,ix4_3]
 by_cases h3:z3=0
 ·simp only[dt h3,Bool.not_true]
  by_cases h2:z2=0
  ·simp only[dt h2,Bool.not_true]
   have en2:n=z1*18446744073709551616+z0:=by omega
   rw[en2]
   simp only[g163_0_is (H:=H3),T.g163_0,p2,q1,p1,q0g,q1g,q1i,w_g163_0,Wd.cells,AV.one,over,AV.cells,Nat.reduceAdd,Nat.reduceLeDiff,lcl,j90,j91,z3j (H:=H3) rfl below g1 g0]
   refine Res.eq ?_ rfl
   (repeat apply Fr.lays)
   exact Fr.refl _
  ·simp only[df h2,Bool.not_false]
   refine Res.eq ?_ (q59 (q2m ?_))
   ·(repeat apply Fr.lays)
    exact Fr.refl _
   ·cases below
    ·simp only[Bool.false_eq_true,if_false];omega
    ·simp only[if_true];omega
 ·simp only[df h3,Bool.not_false]
  refine Res.eq ?_ (q59 (q2m ?_))
  ·(repeat apply Fr.lays)
   exact Fr.refl _
  ·cases below
   ·simp only[Bool.false_eq_true,if_false];omega
   ·simp only[if_true];omega
end
end Go.Proofs.YtlginbmjiecglaaGreatDoor
