/- Texts of one claim, put together. -/
import Derived.Test.YtkbhcgifnnhbaaaGreatDoorK16
namespace Go.Abs
open Go
section
theorem q07.b7u {E:Env} (hE:q07 E) (f:FuncId) {h:List AV->Mem->R} (hh:∀args m r m',h args m=some (r,m')->z2O E.P (.fn f) args m r m'):q07 {E with H:=Abs.q3J f h E.H} where
 mixed:=hE.mixed
 body:=fun x hx rs nt c hB=>by
  by_cases e:x=f
  ·subst e;have:=q2N x h E.H;rw[show Abs.q3J x h E.H x=none from hx]at this;cases this
  ·exact hE.body x ((q2l e h E.H).symm.trans hx) rs nt c hB
 hook:=fun x g hx=>by
  by_cases e:x=f
  ·subst e;have:=q2N x h E.H;rw[show Abs.q3J x h E.H x=some g from hx]at this;cases this;exact hh
  ·exact hE.hook x g ((q2l e h E.H).symm.trans hx)
end
end Go.Abs
namespace Go.Proofs.YtkbhcgifnnhbaaaGreatDoor
open Go Go.Abs
set_option maxRecDepth 20000
section
theorem j87:((XD EV TB 4000).call (.fn 20) [] (noM (GP TP))).map (·.1)=some (.bool true):=by kernel_rfl
theorem j02:∃m',run EV (.fn 20) [] (noM (GP TP))=some (.bool true,m'):=by
 have h:=j87;cases e:(XD EV TB 4000).call (.fn 20) [] (noM (GP TP)) with
 |none=>rw[e]at h;cases h
 |some r=>
  rw[e]at h;obtain⟨v,m'⟩:=r;simp only[xom,xoi]at h;subst h;exact⟨m',a4z (E:=EV) b8p 4000 e⟩
end
section
open Go Go.Abs
noncomputable def H2:FuncId->Option (List AV->Mem->R):=q3J 20 (q7n (.bool true)) HV
noncomputable abbrev E2:Env:=Ea H2
theorem b5Y:q07 E2:=b2F.b7u (h:=q7n (.bool true)) 20 (fun args m r m' h=>by
 obtain⟨m1,hk⟩:=j02;exact j36 b2F Tryz.func20 (by kernel_rfl) (by decide +kernel) hk args m r m' h)
noncomputable abbrev D2:Do:=Da H2
end
section
set_option maxRecDepth 4000
open Go Go.Abs
theorem j6T {x y c:Int} (m:Mem) (h:0<=x/\0<=y/\0<=c/\c<=1):run E2 (.fn 317) [.int .u64 x,.int .u64 y,.int .u64 c] m=some (.tup [.int .u64 ((x+y+c) % 18446744073709551616),.int .u64 ((x+y+c) / 18446744073709551616)],m):=by
 rw[q1x (h:=q6m) rfl];simp only[q6m,xAb h]
theorem z1Z {x y c:Int} (m:Mem) (h:0<=x/\0<=y/\y<18446744073709551616/\0<=c/\c<=1):run E2 (.fn 321) [.int .u64 x,.int .u64 y,.int .u64 c] m=some (.tup [.int .u64 ((x-y-c) % 18446744073709551616),.int .u64 (if x<y+c then 1 else 0)],m):=by
 rw[q1x (h:=z1a) rfl];simp only[z1a,xAb h]
theorem b2W:(true==false)=false:=rfl
theorem b2V:(false==true)=false:=rfl
theorem b2Q (a b:Wd) (ha:a.ok) (hb:b.ok) (m:Mem):Res m (run E2 (.fn 290) [.agg a.cells,.agg b.cells] m) (.tup [.agg (Wd.res (a.val+b.val)).1.cells,.int .i64 (Wd.res (a.val+b.val)).2]):=by
 obtain⟨ah,al⟩:=a;obtain⟨bh,bl⟩:=b;obtain⟨a1,a2,a3,a4⟩:=ha;obtain⟨b1,b2,b3,b4⟩:=hb;simp only[Wd.val]at *;obtain⟨c,hc⟩:∃c,c=(al+bl+0) / 18446744073709551616:=⟨_,rfl⟩;have c0:0<=c/\c<=1:=by omega
 obtain⟨h,hh⟩:∃h,h=IntKind.wrap .i64 ((ah % 18446744073709551616+bh % 18446744073709551616+c) % 18446744073709551616):=⟨_,rfl⟩;have hh2:=hh;rw[q2W]at hh2;simp only[a9N (H:=H2) rfl,b6J,pB,p1,q1,p2,q0p,AV.cells,Nat.reduceAdd,Nat.reduceLeDiff,q00,q0q,q0b,ifV,q0P,q0T,q0r,Wd.cells,AV.one,over,lcl,j6T _ (show 0<=al/\0<=bl/\(0:Int)<=0/\(0:Int)<=1 by omega),z6i,<-hc,j6T _ (show 0<=ah % 18446744073709551616/\0<=bh % 18446744073709551616/\0<=c/\c<=1 by omega),<-hh]
 by_cases h1:ah<0<;>by_cases h2:bh<0<;>by_cases h3:h<0<;>
  simp only[h1,h2,h3,xAn,xDh,BEq.rfl,xbt,xbf,j6j (H:=H2),j2Z,p1,q0p,AV.cells,Nat.reduceAdd,Nat.reduceLeDiff,q0P,q0T,q0r,AV.one,over,lcl,<-hh,b2W,b2V]<;>
  (refine Res.eq ?_ ?_
   ·(repeat apply Fr.lays)
    exact Fr.refl _
   ·first
    |exact j9Z (q03 (by omega) (by omega)) (by omega) (by omega)
    |exact q5N (q1K (by omega)))
end
section
set_option maxRecDepth 4000
open Go Go.Abs
theorem a3K {x y:Int} (hx:0<=x) (hx2:x<18446744073709551616) (hy:0<=y) (hy2:y<18446744073709551616) (m:Mem) :
  run E2 (.fn 345) [.int .u64 x,.int .u64 y] m=some (.tup [.int .u64 (x*y / 18446744073709551616),.int .u64 (x*y % 18446744073709551616)],m):=by
 obtain⟨h1,h2,h3,h4,h5,h6,h7,h8⟩:=b71 hx hx2 hy hy2;have hr:0<=x*y / 18446744073709551616/\x*y / 18446744073709551616<18446744073709551616:=by
  have h9:0<=x*y:=xCh hx hy;have h10:x*y<=18446744073709551615*y:=xCd (by omega) hy;omega
 simp only[a90 (H:=H2) rfl,b6W,p2,q0y,q6o _ hx hx2,q6o _ hy hy2,q28 _ hx,q28 _ hy,wrap_u64 h1.1 h1.2,q28 _ h1.1,wrap_u64 h2.1 h2.2,wrap_u64 h3.1 h3.2,q6o _ h3.1 h3.2,q28 _ h3.1,wrap_u64 h4.1 h4.2,wrap_u64 h5.1 h5.2,wrap_u64 h6.1 h6.2,wrap_u64 h7.1 h7.2,q28 _ h5.1,h8,wrap_u64 hr.1 hr.2,q0i]
theorem a3A {x:Int} (h0:0<x) (h1:x<256):∃n:Nat,z0J TP 9 (.str len8) (.int .u8 x)=some (.int .u8 ((n:Int)+1))/\n<8/\(2:Int) ^ n<=x/\x<2*2 ^ n:=by
 obtain⟨n,e1,e2,e3,e4⟩:=b0I x.toNat (by omega) (by omega);refine⟨n,?_,e2,?_,?_⟩
 ·rw[iv9,xAb (by omega),e1];simp only;congr 2;rw[show (UInt8.ofNat (n+1)).toNat=n+1 by simp;omega];rfl
 ·have:((2 ^ n:Nat):Int)<=((x.toNat:Nat):Int):=by exact_mod_cast e3
  have e9:((2 ^ n:Nat):Int)=(2:Int) ^ n:=xFi 2 n;omega
 ·have:((x.toNat:Nat):Int)<((2*2 ^ n:Nat):Int):=by exact_mod_cast e4
  have e9:((2 ^ n:Nat):Int)=(2:Int) ^ n:=xFi 2 n;omega
theorem a3B:(len8:List UInt8)=[0,1,2,2,3,3,3,3,4,4,4,4,4,4,4,4,5,5,5,5,5,5,5,5,5,5,5,5,5,5,5,5,6,6,6,6,6,6,6,6,6,6,6,6,6,6,6,6,6,6,6,6,6,6,6,6,6,6,6,6,6,6,6,6,7,7,7,7,7,7,7,7,7,7,7,7,7,7,7,7,7,7,7,7,7,7,7,7,7,7,7,7,7,7,7,7,7,7,7,7,7,7,7,7,7,7,7,7,7,7,7,7,7,7,7,7,7,7,7,7,7,7,7,7,7,7,7,7,8,8,8,8,8,8,8,8,8,8,8,8,8,8,8,8,8,8,8,8,8,8,8,8,8,8,8,8,8,8,8,8,8,8,8,8,8,8,8,8,8,8,8,8,8,8,8,8,8,8,8,8,8,8,8,8,8,8,8,8,8,8,8,8,8,8,8,8,8,8,8,8,8,8,8,8,8,8,8,8,8,8,8,8,8,8,8,8,8,8,8,8,8,8,8,8,8,8,8,8,8,8,8,8,8,8,8,8,8,8,8,8,8,8,8,8,8,8,8,8,8,8,8,8,8,8,8,8]:=by decide +kernel
theorem j9i {x k:Int} (h0:0<x) (h1:x<256) (hk:0<=k) (hk2:k<1000) (m:Mem):∃n:Nat,D2.gor 1429506 [.int .u64 x,.int .i64 k] m=some (.int .i64 (k+n+1),m)/\n<8/\(2:Int) ^ n<=x/\x<2*2 ^ n:=by
 obtain⟨n,e1,e2,e3,e4⟩:=a3A h0 h1;rw[a3B]at e1;have w8:IntKind.wrap .u8 x=x:=by
  have e:IntKind.wrap .u8 x=x % 256:=by simp[IntKind.wrap,IntKind.bits,IntKind.signed]
  rw[e];omega
 refine⟨n,?_,e2,e3,e4⟩;simp only[j6M (H:=H2),j3s,p1,p2,q0y,w8,e1,wrap_i64 (n:=(n:Int)+1) (by omega) (by omega),wrap_i64 (n:=k+((n:Int)+1)) (by omega) (by omega)];rw[Int.add_assoc]
theorem j9h {x k:Int} (h0:0<x) (h1:x<65536) (hk:0<=k) (hk2:k<900) (m:Mem):∃n:Nat,D2.gor 1429505 [.int .u64 x,.int .i64 k] m=some (.int .i64 (k+n+1),m)/\n<16/\(2:Int) ^ n<=x/\x<2*2 ^ n:=by
 by_cases h:256<=x
 ·obtain⟨n,e1,e2,e3,e4⟩:=j9i (x:=x / 256) (k:=k+8) (by omega) (by omega) (by omega) (by omega) m;refine⟨n+8,?_,by omega,?_,?_⟩
  ·simp only[z4N (H:=H2),z8C,p2,q0b,q0y,dt h,q78 _ (show 0<=x by omega) (show (0:Int)<=8 by omega) (show (2:Int) ^ (min (8:Int).toNat IntKind.u64.bits)=256 by rfl),wrap_i64 (n:=k+8) (by omega) (by omega),e1];congr 3;omega
  ·rw[xEr,show (2:Int) ^ 8=256 by rfl];omega
  ·rw[xEr,show (2:Int) ^ 8=256 by rfl];omega
 ·obtain⟨n,e1,e2,e3,e4⟩:=j9i (x:=x) (k:=k) (by omega) (by omega) (by omega) (by omega) m;refine⟨n,?_,by omega,e3,e4⟩;simp only[z4N (H:=H2),z8C,p2,q0b,q0y,df h,e1]
theorem j9g {x k:Int} (h0:0<x) (h1:x<4294967296) (hk:0<=k) (hk2:k<800) (m:Mem):∃n:Nat,D2.gor 1429504 [.int .u64 x,.int .i64 k] m=some (.int .i64 (k+n+1),m)/\n<32/\(2:Int) ^ n<=x/\x<2*2 ^ n:=by
 by_cases h:65536<=x
 ·obtain⟨n,e1,e2,e3,e4⟩:=j9h (x:=x / 65536) (k:=k+16) (by omega) (by omega) (by omega) (by omega) m;refine⟨n+16,?_,by omega,?_,?_⟩
  ·simp only[z4M (H:=H2),z8B,p2,q0b,q0y,dt h,q78 _ (show 0<=x by omega) (show (0:Int)<=16 by omega) (show (2:Int) ^ (min (16:Int).toNat IntKind.u64.bits)=65536 by rfl),wrap_i64 (n:=k+16) (by omega) (by omega),e1];congr 3;omega
  ·rw[xEr,show (2:Int) ^ 16=65536 by rfl];omega
  ·rw[xEr,show (2:Int) ^ 16=65536 by rfl];omega
 ·obtain⟨n,e1,e2,e3,e4⟩:=j9h (x:=x) (k:=k) (by omega) (by omega) (by omega) (by omega) m;refine⟨n,?_,by omega,e3,e4⟩;simp only[z4M (H:=H2),z8B,p2,q0b,q0y,df h,e1]
theorem a3z {x:Int} (h0:0<x) (h1:x<18446744073709551616) (m:Mem):∃n:Nat,run E2 (.fn 349) [.int .u64 x] m=some (.int .i64 ((n:Int)+1),m)/\n<64/\(2:Int) ^ n<=x/\x<2*2 ^ n:=by
 by_cases h:4294967296<=x
 ·obtain⟨n,e1,e2,e3,e4⟩:=j9g (x:=x / 4294967296) (k:=32) (by omega) (by omega) (by omega) (by omega) m;refine⟨n+32,?_,by omega,?_,?_⟩
  ·simp only[j4Q (H:=H2) rfl,b5x,p2,q0b,q0y,dt h,q28 _ (show 0<=x by omega),e1];congr 3;omega
  ·rw[xEr,show (2:Int) ^ 32=4294967296 by rfl];omega
  ·rw[xEr,show (2:Int) ^ 32=4294967296 by rfl];omega
 ·obtain⟨n,e1,e2,e3,e4⟩:=j9g (x:=x) (k:=0) (by omega) (by omega) (by omega) (by omega) m;refine⟨n,?_,by omega,e3,e4⟩;simp only[j4Q (H:=H2) rfl,b5x,p2,q0b,q0y,df h,e1,xFh]
theorem b7Z {x:Int} (h0:0<x) (h1:x<18446744073709551616) (m:Mem):∃s:Nat,run E2 (.fn 348) [.int .u64 x] m=some (.int .i64 (s:Int),m)/\s<64/\9223372036854775808<=x*2 ^ s/\x*2 ^ s<18446744073709551616:=by
 obtain⟨n,e1,e2,e3,e4⟩:=a3z h0 h1 m;have hp:(2:Int) ^ n*2 ^ (63-n)=9223372036854775808:=by
  rw[<-xEr,show n+(63-n)=63 by omega];rfl
 have hpos:(0:Int)<2 ^ (63-n):=Int.pow_pos (by omega);have h3:(2:Int) ^ n*2 ^ (63-n)<=x*2 ^ (63-n):=xCd e3 (by omega);have h4:x*2 ^ (63-n)<2*2 ^ n*2 ^ (63-n):=Int.mul_lt_mul_of_pos_right e4 hpos;rw[xBo]at h4;refine⟨63-n,?_,by omega,by omega,by omega⟩;simp only[a92 (H:=H2) rfl,b6X,p2,q0y,e1,wrap_i64 (n:=64-((n:Int)+1)) (by omega) (by omega)];congr 3;omega
end
section
set_option maxRecDepth 4000
open Go Go.Abs
theorem j4j {y yn1 yn0 un un1:Int} (s un0:AV) (hy:y=yn1*4294967296+yn0) (hy1:2147483648<=yn1) (hy2:yn1<4294967296) (hy0:0<=yn0) (hy3:yn0<4294967296) (hun:un<y) (hu0:0<=un1) (hu1:un1<4294967296) (m:Mem) :
  ∀(d:Nat) (q r:Int),4294967296<=r+d*yn1->0<=q->q<=4294967297->0<=r->r<4294967296->q*yn1+r=un->un*4294967296+un1<(q+1)*y->
   D2.gor 1404931 [.int .u64 y,s,.int .u64 yn1,.int .u64 yn0,.int .u64 un,.int .u64 un1,un0,.int .u64 q,.int .u64 r] m =
   D2.gor 1404933 [.int .u64 y,s,.int .u64 yn1,.int .u64 yn0,.int .u64 un,.int .u64 un1,un0,.int .u64 ((un*4294967296+un1) / y)] m:=by
 intro d;induction d with
 |zero=>intro q r h;intros;omega
 |succ d ih=>
  intro q r hd hq hq2 hr hr2 e hu;have hyp:0<y:=by omega
  have step:(∀h:un*4294967296+un1<q*y,D2.gor 1404932 [.int .u64 y,s,.int .u64 yn1,.int .u64 yn0,.int .u64 un,.int .u64 un1,un0,.int .u64 q,.int .u64 r] m =
    D2.gor 1404933 [.int .u64 y,s,.int .u64 yn1,.int .u64 yn0,.int .u64 un,.int .u64 un1,un0,.int .u64 ((un*4294967296+un1) / y)] m):=by
   intro h;have hq1:1<=q:=by
    by_cases h0:q=0
    ·subst h0;simp only[Int.zero_mul]at h;have:0<=un:=by rw[<-e];omega
     omega
    ·omega
   have e':=z0K e;have hu':=z9L h;have hdm:((d+1:Nat):Int)*yn1=d*yn1+yn1:=by rw[Int.natCast_add,xDt];simp
   rw[hdm]at hd;by_cases hb:4294967296<=r+yn1
   ·simp only[z4K (H:=H2),z8z,p2,q0b,q0y,wrap_u64 (x:=q-1) (by omega) (by omega),wrap_u64 (x:=r+yn1) (by omega) (by omega),dt hb];rw[q6S hy e' (z5b hy (by omega) hy0 hy3 hun hu0 (by omega) e' hb) hu']
   ·simp only[z4K (H:=H2),z8z,p2,q0b,q0y,wrap_u64 (x:=q-1) (by omega) (by omega),wrap_u64 (x:=r+yn1) (by omega) (by omega),df hb];exact ih (q-1) (r+yn1) (by omega) (by omega) (by omega) (by omega) (by omega) e' hu'
  by_cases hbig:4294967296<=q
  ·simp only[q9d (H:=H2),z2Z,p2,q0b,ifV,q0y,dt hbig];exact step (z5a hun hu1 hbig hyp)
  ·have hm:=z7f hq (by omega) hy0 hy3;by_cases hgt:4294967296*r+un1<q*yn0
   ·simp only[q9d (H:=H2),z2Z,p2,q0b,ifV,q0y,df hbig,wrap_u64 (x:=q*yn0) hm.1 (by omega),wrap_u64 (x:=4294967296*r) (by omega) (by omega),wrap_u64 (x:=4294967296*r+un1) (by omega) (by omega),dt hgt];exact step (z9K hy e hgt)
   ·simp only[q9d (H:=H2),z2Z,p2,q0b,ifV,q0y,df hbig,wrap_u64 (x:=q*yn0) hm.1 (by omega),wrap_u64 (x:=4294967296*r) (by omega) (by omega),wrap_u64 (x:=4294967296*r+un1) (by omega) (by omega),df hgt];rw[q6S hy e (by omega) hu]
theorem j4k {y yn1 yn0 un un1:Int} (s q1:AV) (hy:y=yn1*4294967296+yn0) (hy1:2147483648<=yn1) (hy2:yn1<4294967296) (hy0:0<=yn0) (hy3:yn0<4294967296) (hun:un<y) (hu0:0<=un1) (hu1:un1<4294967296) (m:Mem) :
  ∀(d:Nat) (q r:Int),4294967296<=r+d*yn1->0<=q->q<=4294967297->0<=r->r<4294967296->q*yn1+r=un->un*4294967296+un1<(q+1)*y->
   D2.gor 1404934 [.int .u64 y,s,.int .u64 yn1,.int .u64 yn0,.int .u64 un1,q1,.int .u64 r,.int .u64 un,.int .u64 q] m =
   D2.gor 1404936 [.int .u64 y,s,.int .u64 un1,q1,.int .u64 un,.int .u64 ((un*4294967296+un1) / y)] m:=by
 intro d;induction d with
 |zero=>intro q r h;intros;omega
 |succ d ih=>
  intro q r hd hq hq2 hr hr2 e hu;have hyp:0<y:=by omega
  have step:(∀h:un*4294967296+un1<q*y,D2.gor 1404935 [.int .u64 y,s,.int .u64 yn1,.int .u64 yn0,.int .u64 un1,q1,.int .u64 r,.int .u64 un,.int .u64 q] m =
    D2.gor 1404936 [.int .u64 y,s,.int .u64 un1,q1,.int .u64 un,.int .u64 ((un*4294967296+un1) / y)] m):=by
   intro h;have hq1:1<=q:=by
    by_cases h0:q=0
    ·subst h0;simp only[Int.zero_mul]at h;have:0<=un:=by rw[<-e];omega
     omega
    ·omega
   have e':=z0K e;have hu':=z9L h;have hdm:((d+1:Nat):Int)*yn1=d*yn1+yn1:=by rw[Int.natCast_add,xDt];simp
   rw[hdm]at hd;by_cases hb:4294967296<=r+yn1
   ·simp only[z4L (H:=H2),z8A,p2,q0b,q0y,wrap_u64 (x:=q-1) (by omega) (by omega),wrap_u64 (x:=r+yn1) (by omega) (by omega),dt hb];rw[q6S hy e' (z5b hy (by omega) hy0 hy3 hun hu0 (by omega) e' hb) hu']
   ·simp only[z4L (H:=H2),z8A,p2,q0b,q0y,wrap_u64 (x:=q-1) (by omega) (by omega),wrap_u64 (x:=r+yn1) (by omega) (by omega),df hb];exact ih (q-1) (r+yn1) (by omega) (by omega) (by omega) (by omega) (by omega) e' hu'
  by_cases hbig:4294967296<=q
  ·simp only[q9e (H:=H2),z3a,p2,q0b,ifV,q0y,dt hbig];exact step (z5a hun hu1 hbig hyp)
  ·have hm:=z7f hq (by omega) hy0 hy3;by_cases hgt:4294967296*r+un1<q*yn0
   ·simp only[q9e (H:=H2),z3a,p2,q0b,ifV,q0y,df hbig,wrap_u64 (x:=q*yn0) hm.1 (by omega),wrap_u64 (x:=4294967296*r) (by omega) (by omega),wrap_u64 (x:=4294967296*r+un1) (by omega) (by omega),dt hgt];exact step (z9K hy e hgt)
   ·simp only[q9e (H:=H2),z3a,p2,q0b,ifV,q0y,df hbig,wrap_u64 (x:=q*yn0) hm.1 (by omega),wrap_u64 (x:=4294967296*r) (by omega) (by omega),wrap_u64 (x:=4294967296*r+un1) (by omega) (by omega),df hgt];rw[q6S hy e (by omega) hu]
theorem a10 {hi lo y:Int} (h0:0<=hi) (hlt:hi<y) (hy:y<18446744073709551616) (hl:0<=lo) (hl2:lo<18446744073709551616) (m:Mem) :
  run E2 (.fn 343) [.int .u64 hi,.int .u64 lo,.int .u64 y] m=some (.tup [.int .u64 ((hi*18446744073709551616+lo) / y),.int .u64 ((hi*18446744073709551616+lo) % y)],m):=by
 have hyp:0<y:=by omega
 simp only[a9Z (H:=H2) rfl,b6V,p2,q1,q0b,q0y,df (show ¬y=0 by omega)];simp only[j6E (H:=H2),j3k,p2,q1,q0b,q0y,df (show ¬y<=hi by omega)];by_cases hz:hi=0
 ·subst hz;have g1:0<=lo / y/\lo / y<18446744073709551616:=⟨xCy hl (by omega),Int.lt_of_le_of_lt (xEa _ hl) hl2⟩;simp only[z4J (H:=H2),z8y,p2,q0b,q0y,xAn,q4t _ _ _ _ (show y≠0 by omega),q2f _ _ _ _ (show y≠0 by omega),xCn hl,xBm hl,wrap_u64 g1.1 g1.2,Int.zero_mul,xFh]
 ·simp only[z4J (H:=H2),z8y,p2,q0b,q0y,df hz];obtain⟨s,hs,hs2,hn1,hn2⟩:=b7Z hyp hy m;obtain⟨pp,hpp⟩:∃pp:Int,pp=2 ^ s:=⟨_,rfl⟩;obtain⟨qq,hqq⟩:∃qq:Int,qq=2 ^ (64-s):=⟨_,rfl⟩;have hp0:0<pp:=by rw[hpp];exact Int.pow_pos (by omega)
  have hq0:0<qq:=by rw[hqq];exact Int.pow_pos (by omega)
  have hpq:pp*qq=18446744073709551616:=by
   rw[hpp,hqq,<-xEr,show s+(64-s)=64 by omega];rfl
  rw[<-hpp]at hn1 hn2;obtain⟨y',hy'⟩:∃y',y'=y*pp:=⟨_,rfl⟩;rw[<-hy']at hn1 hn2;have hhi:hi*pp<18446744073709551616:=by
   have:hi*pp<y*pp:=Int.mul_lt_mul_of_pos_right hlt hp0;omega
  have hhi0:0<=hi*pp:=xCh h0 (by omega);have hb1:0<=lo / qq:=xCy hl (by omega);have hb2:lo / qq<pp:=xFj hq0 (by rw[hpq];exact hl2);have hb3:lo / qq<18446744073709551616:=Int.lt_of_le_of_lt (xEa _ hl) hl2;have hor:q0E TP .or 27 (.int .u64 (hi*pp)) (.int .u64 (lo / qq))=some (.int .u64 (hi*pp+lo / qq)):=by
   have e1:hi*pp=((hi.toNat*2 ^ s:Nat):Int):=by
    rw[hpp,Int.natCast_mul,xFs h0,xFi];rfl
   have e2:lo / qq=(((lo / qq).toNat:Nat):Int):=(xFs hb1).symm;have e3:((2 ^ s:Nat):Int)=pp:=by rw[hpp];exact xFi 2 s
   rw[e1,e2,a4U _ (by omega) (by omega) (by omega)];rfl
  obtain⟨un32,hun⟩:∃un32,un32=hi*pp+lo / qq:=⟨_,rfl⟩;obtain⟨un10,hun10⟩:∃un10,un10=(lo*pp) % 18446744073709551616:=⟨_,rfl⟩;have hM:=a14 hpq hp0 hq0 hun hun10;have hun10b:0<=un10/\un10<18446744073709551616:=by omega
  have hunlt:un32<y':=by rw[hy'];exact z7d (y:=y) hM hlt hl2 hp0 hun10b.1
  have hun0:0<=un32:=by omega
  obtain⟨yn1,hyn1⟩:∃yn1,yn1=y' / 4294967296:=⟨_,rfl⟩;obtain⟨yn0,hyn0⟩:∃yn0,yn0=y' % 4294967296:=⟨_,rfl⟩;have hyy:y'=yn1*4294967296+yn0:=by omega
  obtain⟨i1,i2,i3,i4,i5,i6⟩:=z5c (un:=un32) (u1:=un10 / 4294967296) hyy (by omega) (by omega) (by omega) hun0 hunlt (by omega);have i0:0<=un32 / yn1*yn1:=xCh i1 (by omega);have k0:IntKind.wrap .u64 (s:Int)=s:=wrap_u64 (by omega) (by omega);have k1:IntKind.wrap .u64 (64-(s:Int))=((64-s:Nat):Int):=by rw[wrap_u64 (by omega) (by omega)];omega
  have t1:un32.tdiv yn1=un32 / yn1:=xCn hun0;have w1:IntKind.wrap .u64 (un32 / yn1)=un32 / yn1:=wrap_u64 (by omega) (by omega);have w2:IntKind.wrap .u64 (un32 / yn1*yn1)=un32 / yn1*yn1:=wrap_u64 (by omega) (by omega);have w3:IntKind.wrap .u64 (un32-un32 / yn1*yn1)=un32-un32 / yn1*yn1:=wrap_u64 (by omega) (by omega);have g2:D2.gor 1404930 [.int .u64 hi,.int .u64 lo,.int .u64 y] m=D2.gor 1404931 [.int .u64 y',.int .u64 (s:Int),.int .u64 yn1,.int .u64 yn0,.int .u64 un32,.int .u64 (un10 / 4294967296),.int .u64 (un10 % 4294967296),.int .u64 (un32 / yn1),.int .u64 (un32-un32 / yn1*yn1)] m:=by
   simp only[j6F (H:=H2),j3l,p1,p2,q0y,hs,k0,k1,q77 _ s (show s<=64 by omega),<-hpp,<-hy',xEn (show 0<=y' by omega) hn2,q28 _ (show 0<=y' by omega),q6o _ (show 0<=y' by omega) hn2,xEn hhi0 hhi,z1m _ (64-s) (show 64-s<=64 by omega),<-hqq,hor,<-hun,<-hun10,q28 _ hun10b.1,q6o _ hun10b.1 hun10b.2,<-hyn1,<-hyn0,q4t _ _ _ _ (show yn1≠0 by omega),t1,w1,w2,w3]
  rw[g2,j4j (.int .u64 (s:Int)) (.int .u64 (un10 % 4294967296)) hyy (by omega) (by omega) (by omega) (by omega) hunlt (by omega) (by omega) m 2 _ _ (by omega) i1 i2 i4 (by omega) i3 i6];obtain⟨q1,hq1⟩:∃q1,q1=(un32*4294967296+un10 / 4294967296) / y':=⟨_,rfl⟩;obtain⟨r1,hr1⟩:∃r1,r1=(un32*4294967296+un10 / 4294967296) % y':=⟨_,rfl⟩;have hqr:un32*4294967296+un10 / 4294967296=q1*y'+r1:=by rw[hq1,hr1];exact(xEg _ _).symm
  have hr1b:0<=r1/\r1<y':=by rw[hr1];exact⟨xEm _ (by omega),xDm _ (by omega)⟩
  have hq1b:0<=q1/\q1<4294967296:=by
   rw[hq1];exact⟨xCy (by omega) (by omega),xFj (by omega) (by omega)⟩
  rw[<-hq1];have hr1w:IntKind.wrap .u64 (IntKind.wrap .u64 (IntKind.wrap .u64 (un32*4294967296)+un10 / 4294967296)-IntKind.wrap .u64 (q1*y'))=r1:=by
   simp only[q0i];omega
  obtain⟨j1,j2,j3,j4,j5,j6⟩:=z5c (un:=r1) (u1:=un10 % 4294967296) hyy (by omega) (by omega) (by omega) hr1b.1 hr1b.2 (by omega);have j0:0<=r1 / yn1*yn1:=xCh j1 (by omega);have t2:r1.tdiv yn1=r1 / yn1:=xCn hr1b.1;have v1:IntKind.wrap .u64 (r1 / yn1)=r1 / yn1:=wrap_u64 (by omega) (by omega);have v2:IntKind.wrap .u64 (r1 / yn1*yn1)=r1 / yn1*yn1:=wrap_u64 (by omega) (by omega);have v3:IntKind.wrap .u64 (r1-r1 / yn1*yn1)=r1-r1 / yn1*yn1:=wrap_u64 (by omega) (by omega)
  simp only[j6G (H:=H2),j3m,p2,q0y,hr1w,q4t _ _ _ _ (show yn1≠0 by omega),t2,v1,v2,v3];rw[j4k (.int .u64 (s:Int)) (.int .u64 q1) hyy (by omega) (by omega) (by omega) (by omega) hr1b.2 (by omega) (by omega) m 2 _ _ (by omega) j1 j2 j4 (by omega) j3 j6];obtain⟨q0,hq0'⟩:∃q0,q0=(r1*4294967296+un10 % 4294967296) / y':=⟨_,rfl⟩;obtain⟨r0,hr0⟩:∃r0,r0=(r1*4294967296+un10 % 4294967296) % y':=⟨_,rfl⟩
  have hqr0:r1*4294967296+un10 % 4294967296=q0*y'+r0:=by rw[hq0',hr0];exact(xEg _ _).symm
  have hr0b:0<=r0/\r0<y':=by rw[hr0];exact⟨xEm _ (by omega),xDm _ (by omega)⟩
  have hq0b:0<=q0/\q0<4294967296:=by
   rw[hq0'];exact⟨xCy (by omega) (by omega),xFj (by omega) (by omega)⟩
  rw[<-hq0'];obtain⟨f1,f2⟩:=a13 (un32:=un32) (un10:=un10) (y:=y') (q1:=q1) (r1:=r1) (q0:=q0) (r0:=r0) (by omega) hqr hqr0 hr0b.1 hr0b.2;rw[<-hM,hy']at f1 f2;obtain⟨b1,b2⟩:=a11 (n:=hi*18446744073709551616+lo) (y:=y) hp0;rw[b1]at f1;rw[f2]at b2;have hr0w:IntKind.wrap .u64 (IntKind.wrap .u64 (IntKind.wrap .u64 (r1*4294967296)+un10 % 4294967296)-IntKind.wrap .u64 (q0*y'))=r0:=by
   simp only[q0i];omega
  simp only[j6H (H:=H2),j3n,p2,q0y,wrap_u64 (x:=q1*4294967296) (by omega) (by omega),wrap_u64 (x:=q1*4294967296+q0) (by omega) (by omega),hr0w,z1m _ s (show s<=64 by omega),<-hpp,b2,f1]
end
section
set_option maxRecDepth 4000
open Go Go.Abs
theorem q3s (a b c d:Int):q0E TP .eql 63 (.agg [.int .i64 a,.int .u64 b]) (.agg [.int .i64 c,.int .u64 d])=some (.bool (decide (a=c)&&decide (b=d))):=by
 have h:eqA TP 50 63 (.agg [.int .i64 a,.int .u64 b]) (.agg [.int .i64 c,.int .u64 d])=(match (a==c) with|true=>(match (b==d) with|true=>some true|false=>some false)|false=>some false):=by kernel_rfl
 have h2:q0E TP .eql 63 (.agg [.int .i64 a,.int .u64 b]) (.agg [.int .i64 c,.int .u64 d])=(match eqA TP 50 63 (.agg [.int .i64 a,.int .u64 b]) (.agg [.int .i64 c,.int .u64 d]) with|some b=>some (.bool b)|none=>none):=by kernel_rfl
 rw[h2,h,show (a==c)=decide (a=c) from rfl,show (b==d)=decide (b=d) from rfl];cases decide (a=c)<;>cases decide (b=d)<;>rfl
theorem b73 {n:Int} (h1:-9223372036854775808<=n) (h2:n<9223372036854775808) (m:Mem):Res m (run E2 (.fn 291) [.int .i64 n] m) (.agg (Wd.of n).cells):=by
 have e1:n.fdiv (2 ^ (min (63:Int).toNat IntKind.i64.bits))=n / 18446744073709551616:=by
  have:((2:Int) ^ (min (63:Int).toNat IntKind.i64.bits))=9223372036854775808:=by rfl
  rw[this,xDb _ (by omega)];omega
 simp only[a9O (H:=H2) rfl,b6K,pB,p2,p1,q0p,AV.cells,Nat.reduceAdd,Nat.reduceLeDiff,q0P,q0T,q4f,Wd.cells,AV.one,over,lcl,q8I _ _ _ _ _ (show (0:Int)<=63 by omega),e1,q0i];refine Res.eq ?_ rfl
 (repeat apply Fr.lays)
 exact Fr.refl _
theorem b1o {a:Wd} (ha:a.ok) (m:Mem):Res m (run E2 (.fn 233) [.agg a.cells] m) (.int .i64 (sgn a.val)):=by
 obtain⟨ah,al⟩:=a;obtain⟨a1,a2,a3,a4⟩:=ha;simp only[Wd.val]at *;unfold sgn;simp only[a9z (H:=H2) rfl,b6B,Int.reduceNegSucc,p1,q1,p2,q00,q0b,ifV,q0f,Wd.cells,AV.one,AV.cells,lcl];by_cases h1:ah<0
 ·rw[xAb (by omega)];simp only[dt h1];exact Res.eq ((Fr.refl m).lay _) rfl
 ·rw[xAa (by omega)];simp only[df h1];by_cases h2:ah=0
  ·simp only[dt h2];by_cases h3:al=0
   ·rw[xAb (by omega)];simp only[dt h3];exact Res.eq ((Fr.refl m).lay _) rfl
   ·rw[xAa (by omega)];simp only[df h3,z4p (H:=H2),z8e,q0f];exact Res.eq ((Fr.refl m).lay _) rfl
  ·rw[xAa (by omega)];simp only[df h2,z4p (H:=H2),z8e,q0f];exact Res.eq ((Fr.refl m).lay _) rfl
theorem b3y {a b:Wd} (ha:a.ok) (hb:b.ok) (m:Mem):Res m (run E2 (.fn 301) [.agg a.cells,.agg b.cells] m) (.int .i64 (sgn (a.val-b.val))):=by
 obtain⟨ah,al⟩:=a;obtain⟨bh,bl⟩:=b;obtain⟨a1,a2,a3,a4⟩:=ha;obtain⟨b1,b2,b3,b4⟩:=hb;simp only[Wd.val]at *;unfold sgn;simp only[a9P (H:=H2) rfl,b6L,Int.reduceNegSucc,p1,q1,p2,q00,q0b,ifV,Nat.reduceAdd,q0f,Wd.cells,AV.one,AV.cells,Nat.reduceLeDiff,lcl,q3s];by_cases h1:ah<bh
 ·rw[xAb (by omega)];simp only[dt h1];exact Res.eq (((Fr.refl m).lay _).lay _) rfl
 ·simp only[df h1];by_cases h2:ah=bh
  ·simp only[dt h2];by_cases h3:al<bl
   ·rw[xAb (by omega)];simp only[dt h3];exact Res.eq (((Fr.refl m).lay _).lay _) rfl
   ·rw[xAa (by omega)];simp only[df h3];by_cases h4:al=bl
    ·rw[xAb (by omega)];simp only[dt h4,Bool.and_self];exact Res.eq (((Fr.refl m).lay _).lay _) rfl
    ·rw[xAa (by omega)];simp only[df h4,xDg,z4B (H:=H2),z8q,q0f];exact Res.eq (((Fr.refl m).lay _).lay _) rfl
  ·rw[xAa (by omega),xAa (by omega)];simp only[df h2,xAt,z4B (H:=H2),z8q,q0f];exact Res.eq (((Fr.refl m).lay _).lay _) rfl
def q17 (n:Int):Int:=if n<0 then -n else n
theorem b1p {a:Wd} (ha:a.ok) (m:Mem):Res m (run E2 (.fn 344) [.agg a.cells] m) (.tup [.int .u64 (q17 a.val / 18446744073709551616),.int .u64 (q17 a.val % 18446744073709551616)]):=by
 obtain⟨ah,al⟩:=a;obtain⟨a1,a2,a3,a4⟩:=ha;simp only[Wd.val]at *;unfold q17;by_cases h1:0<=ah
 ·rw[xAa (by omega)];simp only[j4O (H:=H2) rfl,b5v,p1,q1,p2,q00,q0b,q0f,Wd.cells,AV.one,AV.cells,lcl,dt h1,q0i];have e1:(ah*18446744073709551616+al) / 18446744073709551616=ah:=by omega
  have e2:(ah*18446744073709551616+al) % 18446744073709551616=al:=by omega
  have e3:ah % 18446744073709551616=ah:=by omega
  rw[e1,e2,e3];exact Res.eq ((Fr.refl m).lay _) rfl
 ·rw[xAb (by omega)];obtain⟨c,hc⟩:∃c:Int,c=(if 0<al+0 then 1 else 0):=⟨_,rfl⟩
  have c0:0<=c/\c<=1:=by omega
  simp only[j4O (H:=H2) rfl,b5v,p1,q1,p2,q00,q0b,q0f,Wd.cells,AV.one,AV.cells,lcl,df (show ¬ah>=0 by omega)];simp only[j6I (H:=H2),j3o,p1,q1,q0q,q0f,lcl,z1Z _ (show (0:Int)<=0/\0<=al/\al<18446744073709551616/\(0:Int)<=0/\(0:Int)<=1 by omega),q0i,<-hc,z1Z _ (show (0:Int)<=0/\0<=ah % 18446744073709551616/\ah % 18446744073709551616<18446744073709551616/\0<=c/\c<=1 by omega)]
  have e1:-(ah*18446744073709551616+al) / 18446744073709551616=(0-ah % 18446744073709551616-c) % 18446744073709551616:=by
   by_cases h0:0<al+0
   ·rw[xAb h0]at hc;omega
   ·rw[xAa h0]at hc;omega
  have e2:-(ah*18446744073709551616+al) % 18446744073709551616=(0-al-0) % 18446744073709551616:=by omega
  rw[e1,e2];exact Res.eq ((Fr.refl m).lay _) rfl
theorem a0s (below:Bool) {hi lo:Int} (h1:0<=hi) (h2:hi<18446744073709551616) (h3:0<=lo) (h4:lo<18446744073709551616) (m:Mem) :
  Res m (run E2 (.fn 347) [.bool below,.int .u64 hi,.int .u64 lo] m) (.tup [.agg (Wd.res (if below then -(hi*18446744073709551616+lo) else hi*18446744073709551616+lo)).1.cells,.int .i64 (Wd.res (if below then -(hi*18446744073709551616+lo) else hi*18446744073709551616+lo)).2]):=by
 cases below with
 |false=>
  simp only[j4P (H:=H2) rfl,b5w,pB,p1,p2,q0p,AV.cells,Nat.reduceAdd,Nat.reduceLeDiff,q0b,unA,q0P,q0T,q4f,Wd.cells,AV.one,over,lcl,xbf,xbq];by_cases h:9223372036854775808<=hi
  ·simp only[dt h];exact Res.eq ((Fr.refl m).lay _) (q5N (q1K (by omega)))
  ·simp only[df h,j6J (H:=H2),j3p,p1,q0p,AV.cells,Nat.reduceAdd,Nat.reduceLeDiff,q0P,q0T,q4f,AV.one,over,lcl,wrap_i64 (n:=hi) (by omega) (by omega)];exact Res.eq ((Fr.refl m).lay _) (j9Z (q03 (by omega) (by omega)) (by omega) (by omega))
 |true=>
  simp only[j4P (H:=H2) rfl,b5w,pB,p1,p2,q0p,q0b,unA,q0P,q0T,q4f,Wd.cells,lcl,xbt];simp only[j6K (H:=H2),j3q,p2,q0p,AV.cells,Nat.reduceAdd,Nat.reduceLeDiff,q0b,ifV,q0P,q0T,q4f,AV.one,over,lcl];have main:hi*18446744073709551616+lo<=170141183460469231731687303715884105728->Res m ((Da H2).gor 1421314 [.int .u64 hi,.int .u64 lo,.ptr (some ⟨m.next,0⟩)] (m.lay (.cells [.int .i64 0,.int .u64 0] false))) (.tup [.agg (Wd.res (-(hi*18446744073709551616+lo))).1.cells,.int .i64 (Wd.res (-(hi*18446744073709551616+lo))).2]):=by
   intro hle;obtain⟨c,hc⟩:∃c:Int,c=(if 0<lo+0 then 1 else 0):=⟨_,rfl⟩
   have c0:0<=c/\c<=1:=by omega
   have hw:IntKind.wrap .i64 ((0-hi-c) % 18446744073709551616)=-hi-c:=by rw[q2W];omega
   simp only[j6L (H:=H2),j3r,p1,q0p,AV.cells,Nat.reduceAdd,Nat.reduceLeDiff,q0q,q0P,q0T,q4f,Wd.cells,AV.one,over,lcl,z1Z _ (show (0:Int)<=0/\0<=lo/\lo<18446744073709551616/\(0:Int)<=0/\(0:Int)<=1 by omega),<-hc,z1Z _ (show (0:Int)<=0/\0<=hi/\hi<18446744073709551616/\0<=c/\c<=1 by omega),hw];exact Res.eq ((Fr.refl m).lay _) (j9Z (q03 (by omega) (by omega)) (by omega) (by omega))
  by_cases h:9223372036854775808<hi
  ·simp only[dt h];exact Res.eq ((Fr.refl m).lay _) (q5N (q1K (by omega)))
  ·simp only[df h];by_cases h5:hi=9223372036854775808
   ·simp only[dt h5];by_cases h6:0<lo
    ·simp only[dt h6];exact Res.eq ((Fr.refl m).lay _) (q5N (q1K (by omega)))
    ·simp only[df h6];exact main (by omega)
   ·simp only[df h5];exact main (by omega)
theorem a4D (n:Int) (m:Mem):run E2 (.fn 236) [.int .i64 n] m=some (.bool (decide (0<=n/\n<=18)),m):=by
 simp only[a9A (H:=H2) rfl,b6C,p2,ifV,q0y];by_cases h1:0<=n
 ·by_cases h2:n<=18<;>simp[h1,h2]
 ·simp[h1]
def q0O (w:Wd) (s:Int):List AV:=[.int .i64 w.hi,.int .u64 w.lo,.int .i64 s]
theorem j4l (w:Wd) (s:Int) (m:Mem):Res m (run E2 (.fn 157) [.agg (q0O w s)] m) (.bool (decide (0<=s/\s<=18))):=by
 simp only[q0O,a9k (H:=H2) rfl,b6m,p1,q1,q00,q0f,AV.one,AV.cells,lcl,a4D];exact Res.eq ((Fr.refl m).lay _) rfl
end
section
set_option maxRecDepth 4000
open Go Go.Abs
def S3:List FuncId:=[290,300,345,343,291,233,301,344,347,335,236,157]
noncomputable def H3:FuncId->Option (List AV->Mem->R):=q1R E2 S3
noncomputable abbrev E3:Env:=Ea H3
theorem b5Z:q07 E3:=q0U b5Y S3
section
variable {H:FuncId->Option (List AV->Mem->R)}
theorem a4S (h:H 290=some (q0B E2 290)) {a b:Wd} (ha:a.ok) (hb:b.ok) (m:Mem):run (Ea H) (.fn 290) [.agg a.cells,.agg b.cells] m=some (.tup [.agg (Wd.res (a.val+b.val)).1.cells,.int .i64 (Wd.res (a.val+b.val)).2],m):=
 q0w h (by simp[AV.flat,AV.lt,AV.lts,Wd.cells]) fun m2 _ _=>b2Q a b ha hb m2
theorem z2e (h:H 345=some (q0B E2 345)) {x y:Int} (hx:0<=x/\x<18446744073709551616) (hy:0<=y/\y<18446744073709551616) (m:Mem):run (Ea H) (.fn 345) [.int .u64 x,.int .u64 y] m=some (.tup [.int .u64 (x*y / 18446744073709551616),.int .u64 (x*y % 18446744073709551616)],m):=
 q0w h (by simp[AV.flat,AV.lt,AV.lts]) fun m2 _ _=>⟨m2,a3K hx.1 hx.2 hy.1 hy.2 m2,Fr.refl _⟩
theorem a1Z (h:H 343=some (q0B E2 343)) {hi lo y:Int} (h0:0<=hi) (hlt:hi<y) (hy:y<18446744073709551616) (hl:0<=lo/\lo<18446744073709551616) (m:Mem):run (Ea H) (.fn 343) [.int .u64 hi,.int .u64 lo,.int .u64 y] m=some (.tup [.int .u64 ((hi*18446744073709551616+lo) / y),.int .u64 ((hi*18446744073709551616+lo) % y)],m):=
 q0w h (by simp[AV.flat,AV.lt,AV.lts]) fun m2 _ _=>⟨m2,a10 h0 hlt hy hl.1 hl.2 m2,Fr.refl _⟩
theorem b4T (h:H 291=some (q0B E2 291)) {n:Int} (h1:-9223372036854775808<=n) (h2:n<9223372036854775808) (m:Mem):run (Ea H) (.fn 291) [.int .i64 n] m=some (.agg (Wd.of n).cells,m):=
 q0w h (by simp[AV.flat,AV.lt,AV.lts,Wd.cells]) fun m2 _ _=>b73 h1 h2 m2
theorem q9M (h:H 233=some (q0B E2 233)) {a:Wd} (ha:a.ok) (m:Mem):run (Ea H) (.fn 233) [.agg a.cells] m=some (.int .i64 (sgn a.val),m):=
 q0w h (by simp[AV.flat,AV.lt]) fun m2 _ _=>b1o ha m2
theorem b3x (h:H 301=some (q0B E2 301)) {a b:Wd} (ha:a.ok) (hb:b.ok) (m:Mem):run (Ea H) (.fn 301) [.agg a.cells,.agg b.cells] m=some (.int .i64 (sgn (a.val-b.val)),m):=
 q0w h (by simp[AV.flat,AV.lt]) fun m2 _ _=>b3y ha hb m2
theorem size_at (h:H 344=some (q0B E2 344)) {a:Wd} (ha:a.ok) (m:Mem):run (Ea H) (.fn 344) [.agg a.cells] m=some (.tup [.int .u64 (q17 a.val / 18446744073709551616),.int .u64 (q17 a.val % 18446744073709551616)],m):=
 q0w h (by simp[AV.flat,AV.lt,AV.lts]) fun m2 _ _=>b1p ha m2
theorem q9N (h:H 347=some (q0B E2 347)) (below:Bool) {hi lo:Int} (h1:0<=hi/\hi<18446744073709551616) (h3:0<=lo/\lo<18446744073709551616) (m:Mem) :
  run (Ea H) (.fn 347) [.bool below,.int .u64 hi,.int .u64 lo] m=some (.tup [.agg (Wd.res (if below then -(hi*18446744073709551616+lo) else hi*18446744073709551616+lo)).1.cells,.int .i64 (Wd.res (if below then -(hi*18446744073709551616+lo) else hi*18446744073709551616+lo)).2],m):=
 q0w h (by simp[AV.flat,AV.lt,AV.lts,Wd.cells]) fun m2 _ _=>a0s below h1.1 h1.2 h3.1 h3.2 m2
theorem q6w (h:H 157=some (q0B E2 157)) (w:Wd) (s:Int) (m:Mem):run (Ea H) (.fn 157) [.agg (q0O w s)] m=some (.bool (decide (0<=s/\s<=18)),m):=
 q0w h (by simp[AV.flat,AV.lt]) fun m2 _ _=>j4l w s m2
end
theorem z1X {H:FuncId->Option (List AV->Mem->R)} (h:H 317=some q6m) {x y c:Int} (m:Mem) (hh:0<=x/\0<=y/\0<=c/\c<=1):run (Ea H) (.fn 317) [.int .u64 x,.int .u64 y,.int .u64 c] m=some (.tup [.int .u64 ((x+y+c) % 18446744073709551616),.int .u64 ((x+y+c) / 18446744073709551616)],m):=by
 rw[q1x (h:=q6m) h];simp only[q6m,xAb hh]
end
section
set_option maxRecDepth 4000
open Go Go.Abs
theorem j9K {x y z0 z1 z2 z3:Int} (hx:0<=x/\x<18446744073709551616) (hy:0<=y/\y<18446744073709551616) (h0:0<=z0/\z0<18446744073709551616) (h1:0<=z1/\z1<18446744073709551616) (h2:0<=z2/\z2<18446744073709551616) (h3:0<=z3/\z3<18446744073709551616)
  (hs:z3*340282366920938463463374607431768211456+z2*18446744073709551616+z1+x*y<6277101735386680763835789423207666416102355444464034512896) (m:Mem) :
  run E3 (.fn 346) [.int .u64 x,.int .u64 y,.int .i64 1,.ptr (some ⟨m.next,0⟩)] (m.lay (.cells [.int .u64 z0,.int .u64 z1,.int .u64 z2,.int .u64 z3] false)) =
   some (.undef,m.lay (.cells [.int .u64 z0,.int .u64 ((z1+x*y) % 18446744073709551616),.int .u64 ((z2*18446744073709551616+z1+x*y) / 18446744073709551616 % 18446744073709551616),.int .u64 (z3+(z2*18446744073709551616+z1+x*y) / 340282366920938463463374607431768211456)] false)):=by
 have hm:=j09 hx.1 hx.2 hy.1 hy.2;have w2:IntKind.wrap .i64 (1+1)=2:=wrap_i64 (by omega) (by omega);have w3:IntKind.wrap .i64 (1+2)=3:=wrap_i64 (by omega) (by omega);simp only[z1D (H:=H3) rfl,b1O,p1,p2,q1,q0q,q0b,w_5,lcl,z2e (H:=H3) rfl hx hy,w2,w3,j01,j83,j84];generalize x*y=t at *;obtain⟨c,hc⟩:∃c,c=(z1+t % 18446744073709551616+0) / 18446744073709551616:=⟨_,rfl⟩
 obtain⟨c2,hc2⟩:∃c2,c2=(z2+t / 18446744073709551616+c) / 18446744073709551616:=⟨_,rfl⟩;simp only[z1X (H:=H3) rfl _ (show 0<=z1/\0<=t % 18446744073709551616/\(0:Int)<=0/\(0:Int)<=1 by omega),<-hc,over,AV.cells,Nat.reduceAdd,Nat.reduceLeDiff,lcl,z1X (H:=H3) rfl _ (show 0<=z2/\0<=t / 18446744073709551616/\0<=c/\c<=1 by omega),<-hc2,dt (show (3:Int)<4 by omega),z1D (H:=H3) rfl,w_5]
 rw[wrap_u64 (x:=z3+c2) (by omega) (by omega),show (z1+t % 18446744073709551616+0) % 18446744073709551616=(z1+t) % 18446744073709551616 by omega,show (z2+t / 18446744073709551616+c) % 18446744073709551616=(z2*18446744073709551616+z1+t) / 18446744073709551616 % 18446744073709551616 by omega,
  show z3+c2=z3+(z2*18446744073709551616+z1+t) / 340282366920938463463374607431768211456 by omega]
theorem b0S {x y z0 z1 z2 z3:Int} (hx:0<=x/\x<18446744073709551616) (hy:0<=y/\y<18446744073709551616) (h0:0<=z0/\z0<18446744073709551616) (h1:0<=z1/\z1<18446744073709551616) (h2:0<=z2/\z2<18446744073709551616) (h3:0<=z3/\z3<18446744073709551616)
  (m:Mem) :
  run E3 (.fn 346) [.int .u64 x,.int .u64 y,.int .i64 2,.ptr (some ⟨m.next,0⟩)] (m.lay (.cells [.int .u64 z0,.int .u64 z1,.int .u64 z2,.int .u64 z3] false)) =
   some (.undef,m.lay (.cells [.int .u64 z0,.int .u64 z1,.int .u64 ((z2+x*y) % 18446744073709551616),.int .u64 ((z3*18446744073709551616+z2+x*y) / 18446744073709551616 % 18446744073709551616)] false)):=by
 have hm:=j09 hx.1 hx.2 hy.1 hy.2;have w2:IntKind.wrap .i64 (2+1)=3:=wrap_i64 (by omega) (by omega);have w3:IntKind.wrap .i64 (2+2)=4:=wrap_i64 (by omega) (by omega);simp only[z1D (H:=H3) rfl,b1O,p1,p2,q1,q0q,q0b,w_5,lcl,z2e (H:=H3) rfl hx hy,w2,w3,j83,j84];generalize x*y=t at *;obtain⟨c,hc⟩:∃c,c=(z2+t % 18446744073709551616+0) / 18446744073709551616:=⟨_,rfl⟩
 simp only[z1X (H:=H3) rfl _ (show 0<=z2/\0<=t % 18446744073709551616/\(0:Int)<=0/\(0:Int)<=1 by omega),<-hc,over,AV.cells,Nat.reduceAdd,Nat.reduceLeDiff,lcl,z1X (H:=H3) rfl _ (show 0<=z3/\0<=t / 18446744073709551616/\0<=c/\c<=1 by omega),df (show ¬(4:Int)<4 by omega),z1D (H:=H3) rfl,w_5];rw[show (z2+t % 18446744073709551616+0) % 18446744073709551616=(z2+t) % 18446744073709551616 by omega,show (z3+t / 18446744073709551616+c) % 18446744073709551616=(z3*18446744073709551616+z2+t) / 18446744073709551616 % 18446744073709551616 by omega]
theorem q7j (n:Int):0<=q17 n:=by unfold q17;split<;>omega
theorem q8G {a:Wd} (ha:a.ok):q17 a.val<=170141183460469231731687303715884105728:=by
 obtain⟨h1,h2,h3,h4⟩:=ha;unfold q17 Wd.val;split<;>omega
theorem j9N {a b:Wd} (ha:a.ok) (hb:b.ok):0<=q17 a.val*q17 b.val/\q17 a.val*q17 b.val<=28948022309329048855892746252171976963317496166410141009864396001978282409984:=by
 refine⟨xCh (q7j _) (q7j _),?_⟩;have h1:q17 a.val*q17 b.val<=170141183460469231731687303715884105728*q17 b.val:=xCd (q8G ha) (q7j _);have h2:=q8G hb;omega
theorem j1g {a b:Wd} (ha:a.ok) (hb:b.ok) (m:Mem):Res m (run E3 (.fn 334) [.agg a.cells,.agg b.cells] m) (.agg (z1t (q17 a.val*q17 b.val))):=by
 obtain⟨hle1,hle2⟩:=j9N ha hb;have hA:=q8G ha;have hB:=q8G hb;have nA:=q7j a.val;have nB:=q7j b.val;have sA:=fun m=>size_at (H:=H3) rfl ha m
 have sB':=fun m=>size_at (H:=H3) rfl hb m
 obtain⟨ac,hac⟩:∃ac,ac=a.cells:=⟨_,rfl⟩;obtain⟨bc,hbc⟩:∃bc,bc=b.cells:=⟨_,rfl⟩;have lac:ac.length=2:=by rw[hac];rfl
 have lbc:bc.length=2:=by rw[hbc];rfl
 have oac:ac.all AV.one=true:=by rw[hac];rfl
 have obc:bc.all AV.one=true:=by rw[hbc];rfl
 rw[<-hac]at sA;rw[<-hbc]at sB';rw[<-hac,<-hbc];obtain⟨A,hA'⟩:∃A,A=q17 a.val:=⟨_,rfl⟩;obtain⟨B,hB'⟩:∃B,B=q17 b.val:=⟨_,rfl⟩;rw[<-hA']at sA hle1 hle2 hA nA⊢;rw[<-hB']at sB' hle1 hle2 hB nB⊢;clear hac hbc hA' hB';obtain⟨ah,hah⟩:∃ah,ah=A / 18446744073709551616:=⟨_,rfl⟩;obtain⟨al,hal⟩:∃al,al=A % 18446744073709551616:=⟨_,rfl⟩;obtain⟨bh,hbh⟩:∃bh,bh=B / 18446744073709551616:=⟨_,rfl⟩;obtain⟨bl,hbl⟩:∃bl,bl=B % 18446744073709551616:=⟨_,rfl⟩
 simp only[<-hah,<-hal]at sA;simp only[<-hbh,<-hbl]at sB';have rah:0<=ah/\ah<18446744073709551616:=by omega
 have ral:0<=al/\al<18446744073709551616:=by omega
 have rbh:0<=bh/\bh<18446744073709551616:=by omega
 have rbl:0<=bl/\bl<18446744073709551616:=by omega
 have eP:A*B=ah*bh*340282366920938463463374607431768211456+(al*bh+ah*bl)*18446744073709551616+al*bl:=by
  rw[<-j9o];congr 1<;>omega
 have t0:=j09 ral.1 ral.2 rbl.1 rbl.2;have t1:=j09 ral.1 ral.2 rbh.1 rbh.2;have t2:=j09 rah.1 rah.2 rbl.1 rbl.2;have t3:=j09 rah.1 rah.2 rbh.1 rbh.2;obtain⟨w0,hw0⟩:∃w0,w0=al*bl % 18446744073709551616:=⟨_,rfl⟩;obtain⟨w1,hw1⟩:∃w1,w1=al*bl / 18446744073709551616:=⟨_,rfl⟩;have k1:=fun m=>j9K (x:=al) (y:=bh) (z0:=w0) (z1:=w1) (z2:=0) (z3:=0) ral rbh (by omega) (by omega) (by omega) (by omega) (by omega) m
 obtain⟨x1,hx1⟩:∃x1,x1=(w1+al*bh) % 18446744073709551616:=⟨_,rfl⟩;obtain⟨x2,hx2⟩:∃x2,x2=(0*18446744073709551616+w1+al*bh) / 18446744073709551616 % 18446744073709551616:=⟨_,rfl⟩;obtain⟨x3,hx3⟩:∃x3,x3=0+(0*18446744073709551616+w1+al*bh) / 340282366920938463463374607431768211456:=⟨_,rfl⟩;simp only[<-hx1,<-hx2,<-hx3]at k1;have k2:=fun m=>j9K (x:=ah) (y:=bl) (z0:=w0) (z1:=x1) (z2:=x2) (z3:=x3) rah rbl (by omega) (by omega) (by omega) (by omega) (by omega) m
 obtain⟨y1,hy1⟩:∃y1,y1=(x1+ah*bl) % 18446744073709551616:=⟨_,rfl⟩;obtain⟨y2,hy2⟩:∃y2,y2=(x2*18446744073709551616+x1+ah*bl) / 18446744073709551616 % 18446744073709551616:=⟨_,rfl⟩;obtain⟨y3,hy3⟩:∃y3,y3=x3+(x2*18446744073709551616+x1+ah*bl) / 340282366920938463463374607431768211456:=⟨_,rfl⟩;simp only[<-hy1,<-hy2,<-hy3]at k2;have k3:=fun m=>b0S (x:=ah) (y:=bh) (z0:=w0) (z1:=y1) (z2:=y2) (z3:=y3) rah rbh (by omega) (by omega) (by omega) (by omega) m
 obtain⟨v2,hv2⟩:∃v2,v2=(y2+ah*bh) % 18446744073709551616:=⟨_,rfl⟩;obtain⟨v3,hv3⟩:∃v3,v3=(y3*18446744073709551616+y2+ah*bh) / 18446744073709551616 % 18446744073709551616:=⟨_,rfl⟩;simp only[<-hv2,<-hv3]at k3;have hd:z1t (A*B)=[.int .u64 w0,.int .u64 y1,.int .u64 v2,.int .u64 v3]:=by
  apply a1Y (by omega) (by omega) (by omega) (by omega);rw[eP];generalize al*bl=q0 at *;generalize al*bh=q1 at *;generalize ah*bl=q2 at *;generalize ah*bh=q3 at *;have e1:w1*18446744073709551616+w0=q0:=by omega
  have e2:x3*340282366920938463463374607431768211456+x2*18446744073709551616+x1=w1+q1:=by omega
  have e3:y3*340282366920938463463374607431768211456+y2*18446744073709551616+y1=x3*340282366920938463463374607431768211456+x2*18446744073709551616+x1+q2:=by omega
  have e4:v3*18446744073709551616+v2=y3*18446744073709551616+y2+q3:=by omega
  omega
 rw[hd];have k1:=k1 (((m.lay (.cells ac false)).lay (.cells bc false)).lay (.cells [.int .u64 0,.int .u64 0,.int .u64 0,.int .u64 0] false));have k2:=k2 (((m.lay (.cells ac false)).lay (.cells bc false)).lay (.cells [.int .u64 0,.int .u64 0,.int .u64 0,.int .u64 0] false));have k3:=k3 (((m.lay (.cells ac false)).lay (.cells bc false)).lay (.cells [.int .u64 0,.int .u64 0,.int .u64 0,.int .u64 0] false))
 simp only[Mem.q0G]at k1 k2 k3;simp only[a9V (H:=H3) rfl,b6R,pB,q1,p1,p2,q00,q0q,q0P,q0T,b1z,oac,obc,AV.one,over,AV.cells,Nat.reduceAdd,Nat.reduceLeDiff,lcl,lac,lbc,xtl (show ac.length<=2 by omega),xtl (show bc.length<=2 by omega),sA,sB',z2e (H:=H3) rfl ral rbl,<-hw0,<-hw1,j00,j01,q1m,xBe,xAm,xAy,k1,k2,k3];refine Res.eq ?_ rfl
 (repeat apply Fr.lays)
 exact Fr.refl _
theorem j9r (below:Bool) {n:Int} (h0:0<=n) (h1:n<115792089237316195423570985008687907853269984665640564039457584007913129639936) (m:Mem) :
  Res m (run E3 (.fn 336) [.bool below,.agg (z1t n)] m) (.tup [.agg (Wd.res (if below then -n else n)).1.cells,.int .i64 (Wd.res (if below then -n else n)).2]):=by
 obtain⟨z0,z1,z2,z3,e,g0,g1,g2,g3,en⟩:=a1X h0 h1;rw[e];simp only[a9W (H:=H3) rfl,b6S,pB,p2,q1,q0p,AV.cells,Nat.reduceAdd,Nat.reduceLeDiff,q00,q0b,ifV,q0P,q0T,q4f,Wd.cells,AV.one,over,lcl,j83,j84];by_cases h3:z3=0
 ·simp only[dt h3,xbt];by_cases h2:z2=0
  ·simp only[dt h2,xbt];have en2:n=z1*18446744073709551616+z0:=by omega
   rw[en2];simp only[j6w (H:=H3),j3c,p2,q1,p1,q0q,q0P,q0T,q4f,Wd.cells,AV.one,over,AV.cells,Nat.reduceAdd,Nat.reduceLeDiff,lcl,j00,j01,q9N (H:=H3) rfl below g1 g0];refine Res.eq ?_ rfl
   (repeat apply Fr.lays)
   exact Fr.refl _
  ·simp only[df h2,xbf];refine Res.eq ?_ (q5N (q1K ?_))
   ·(repeat apply Fr.lays)
    exact Fr.refl _
   ·cases below
    ·simp only[xbq,xAh];omega
    ·simp only[xAd];omega
 ·simp only[df h3,xbf];refine Res.eq ?_ (q5N (q1K ?_))
  ·(repeat apply Fr.lays)
   exact Fr.refl _
  ·cases below
   ·simp only[xbq,xAh];omega
   ·simp only[xAd];omega
end
section
set_option maxRecDepth 4000
open Go Go.Abs
def sgI (neg:Bool) (n:Int):Int:=if neg then -n else n
theorem b1C {a:Wd} (ha:a.ok) {p:Int} (hp:0<p) (hp2:p<18446744073709551616) (m:Mem) :
  Res m (run E3 (.fn 342) [.agg a.cells,.agg (Wd.mk 0 p).cells] m) (.tup [.agg (Wd.of (sgI (decide (a.hi<0)) (q17 a.val / p))).cells,.agg (Wd.of (sgI (decide (a.hi<0)) (q17 a.val % p))).cells,.int .i64 0]):=by
 have hA:=q8G ha;have nA:=q7j a.val;have sA:=fun m=>size_at (H:=H3) rfl ha m
 have sP:=fun m=>size_at (H:=H3) rfl (a:=⟨0,p⟩) ⟨by simp,by simp,by simp only;omega,by simp only;omega⟩ m
 have hpv:q17 (Wd.mk 0 p).val=p:=by unfold q17 Wd.val;simp only;split<;>omega
 rw[hpv]at sP;have e1:p / 18446744073709551616=0:=by omega
 have e2:p % 18446744073709551616=p:=by omega
 rw[e1,e2]at sP;obtain⟨ah,al⟩:=a;obtain⟨a1,a2,a3,a4⟩:=ha;simp only[Wd.cells]at sA sP⊢;have hneg:ah<0->q17 (Wd.mk ah al).val<=170141183460469231731687303715884105728:=fun _=>hA
 have hpos:¬ah<0->q17 (Wd.mk ah al).val<170141183460469231731687303715884105728:=by
  intro h;unfold q17 Wd.val;simp only;simp only at a2 a3 a4;split<;>omega
 obtain⟨A,hA'⟩:∃A,A=q17 (Wd.mk ah al).val:=⟨_,rfl⟩;rw[<-hA']at sA hA nA hneg hpos⊢;clear hA';obtain⟨bh,hbh⟩:∃bh,bh=A / 18446744073709551616:=⟨_,rfl⟩;obtain⟨bl,hbl⟩:∃bl,bl=A % 18446744073709551616:=⟨_,rfl⟩;simp only[<-hbh,<-hbl]at sA;have rbh:0<=bh/\bh<18446744073709551616:=by omega
 have rbl:0<=bl/\bl<18446744073709551616:=by omega
 have h1:0<=bh % p/\bh % p<p:=⟨xEm _ (by omega),xDm _ hp⟩;have h2:0<=bh / p/\bh / p<=bh:=⟨xCy (by omega) (by omega),xEa _ (by omega)⟩;have h3:bh=bh / p*p+bh % p:=(xEg _ _).symm;have t1:bh.tdiv p=bh / p:=xCn rbh.1;have t2:bh.tmod p=bh % p:=xBm rbh.1;have eA:bh*18446744073709551616+bl=A:=by omega
 generalize bh / p=qh at *;generalize bh % p=rh at *;obtain⟨ql,hql⟩:∃ql,ql=(rh*18446744073709551616+bl) / p:=⟨_,rfl⟩;obtain⟨rl,hrl⟩:∃rl,rl=(rh*18446744073709551616+bl) % p:=⟨_,rfl⟩;have h4:0<=ql/\ql<18446744073709551616:=by
  rw[hql];exact⟨xCy (by omega) (by omega),xFj hp (by
   have:rh*18446744073709551616+18446744073709551616<=p*18446744073709551616:=by omega
   rw[xDk 18446744073709551616 p];omega)⟩
 have h5:0<=rl/\rl<p:=by rw[hrl];exact⟨xEm _ (by omega),xDm _ hp⟩
 have h6:rh*18446744073709551616+bl=ql*p+rl:=by rw[hql,hrl];exact(xEg _ _).symm
 have e3:A=rl+(qh*18446744073709551616+ql)*p:=by
  have m1:qh*18446744073709551616*p=qh*p*18446744073709551616:=Int.mul_right_comm _ _ _;rw[xDt,m1];omega
 have e4:A / p=qh*18446744073709551616+ql:=by
  rw[e3,Int.add_mul_ediv_right _ _ (by omega),Int.ediv_eq_zero_of_lt h5.1 h5.2];omega
 have e5:A % p=rl:=by
  rw[e3,Int.add_mul_emod_self_right,xEn h5.1 h5.2]
 have e6:A / p<=A:=xEa _ nA;rw[e4,e5]at *;have fit1:Wd.res (if decide (ah<0)=true then -(qh*18446744073709551616+ql) else qh*18446744073709551616+ql)=(Wd.of (sgI (decide (ah<0)) (qh*18446744073709551616+ql)),0):=by
  unfold Wd.res sgI;rw[xAb];by_cases h:ah<0
  ·simp only[h,xAn,xAd];have:=hneg h;exact q03 (by omega) (by omega)
  ·simp only[h,xDh,xbq,xAh];have:=hpos h;exact q03 (by omega) (by omega)
 have fit2:Wd.res (if decide (ah<0)=true then -(0*18446744073709551616+rl) else 0*18446744073709551616+rl)=(Wd.of (sgI (decide (ah<0)) rl),0):=by
  unfold Wd.res sgI;rw[Int.zero_mul,xFh,xAb];by_cases h:ah<0
  ·simp only[h,xAn,xAd];exact q03 (by omega) (by omega)
  ·simp only[h,xDh,xbq,xAh];exact q03 (by omega) (by omega)
 have sg1:=fun m=>q9N (H:=H3) rfl (decide (ah<0)) (hi:=qh) (lo:=ql) ⟨by omega,by omega⟩ h4 m
 have sg2:=fun m=>q9N (H:=H3) rfl (decide (ah<0)) (hi:=0) (lo:=rl) ⟨by omega,by omega⟩ ⟨by omega,by omega⟩ m
 simp only[fit1]at sg1;simp only[fit2]at sg2;have z0:(!(decide (ah<0)==decide ((0:Int)<0)))=decide (ah<0):=by cases decide (ah<0)<;>rfl
 simp only[a9Y (H:=H3) rfl,b6U,pB,q1,p2,q0p,AV.cells,Nat.reduceAdd,Nat.reduceLeDiff,q00,q0b,q0P,q0T,q0r,AV.one,over,lcl,q3s,xAn,xAs,df (show ¬p=0 by omega)];simp only[j6B (H:=H3),j3h,q1,p1,p2,q0q,q0b,q0r,Nat.reduceAdd,Nat.reduceLeDiff,lcl,sA,sP,xAn,q4t _ _ _ _ (show p≠0 by omega),q2f _ _ _ _ (show p≠0 by omega),t1,t2,wrap_u64 (x:=qh) (by omega) (by omega),a1Z (H:=H3) rfl h1.1 h1.2 hp2 rbl,<-hql,<-hrl]
 simp only[j6C (H:=H3),j3i,p1,q1,p2,q0p,AV.cells,Nat.reduceAdd,Nat.reduceLeDiff,q0q,q0b,q0P,q0T,q0r,Wd.cells,AV.one,over,lcl,z0,sg1,xAn,xbt];simp only[j6D (H:=H3),j3j,p1,q1,p2,q0q,q0P,q0T,Nat.reduceAdd,q0r,Wd.cells,AV.one,over,AV.cells,Nat.reduceLeDiff,lcl,sg2];refine Res.eq ?_ rfl
 (repeat apply Fr.lays)
 exact Fr.refl _
end
section
set_option maxRecDepth 4000
open Go Go.Abs
def S4:List FuncId:=[334,333,336,342]
noncomputable def H4:FuncId->Option (List AV->Mem->R):=q1R E3 S4
noncomputable abbrev E4:Env:=Ea H4
theorem b50:q07 E4:=q0U b5Z S4
section
variable {H:FuncId->Option (List AV->Mem->R)}
theorem b0T (h:H 334=some (q0B E3 334)) {a b:Wd} (ha:a.ok) (hb:b.ok) (m:Mem):run (Ea H) (.fn 334) [.agg a.cells,.agg b.cells] m=some (.agg (z1t (q17 a.val*q17 b.val)),m):=
 q0w h (by simp[AV.flat,AV.lt,AV.lts,z1t]) fun m2 _ _=>j1g ha hb m2
theorem j9q (h:H 336=some (q0B E3 336)) (below:Bool) {n:Int} (h0:0<=n) (h1:n<115792089237316195423570985008687907853269984665640564039457584007913129639936) (m:Mem) :
  run (Ea H) (.fn 336) [.bool below,.agg (z1t n)] m=some (.tup [.agg (Wd.res (if below then -n else n)).1.cells,.int .i64 (Wd.res (if below then -n else n)).2],m):=
 q0w h (by simp[AV.flat,AV.lt,AV.lts,Wd.cells]) fun m2 _ _=>j9r below h0 h1 m2
theorem b1B (h:H 342=some (q0B E3 342)) {a:Wd} (ha:a.ok) {p:Int} (hp:0<p) (hp2:p<18446744073709551616) (m:Mem) :
  run (Ea H) (.fn 342) [.agg a.cells,.agg (Wd.mk 0 p).cells] m=some (.tup [.agg (Wd.of (sgI (decide (a.hi<0)) (q17 a.val / p))).cells,.agg (Wd.of (sgI (decide (a.hi<0)) (q17 a.val % p))).cells,.int .i64 0],m):=
 q0w h (by simp[AV.flat,AV.lt,AV.lts,Wd.cells]) fun m2 _ _=>b1C ha hp hp2 m2
end
end
section
set_option maxRecDepth 4000
open Go Go.Abs
theorem z7g {ah al:Int} (h:(Wd.mk ah al).ok):decide (ah<0)=decide ((Wd.mk ah al).val<0):=by
 obtain⟨h1,h2,h3,h4⟩:=h;simp only at h1 h2 h3 h4;unfold Wd.val;by_cases h:ah<0
 ·rw[dt h,dt (by simp only;omega)]
 ·rw[df h,df (by simp only;omega)]
theorem b48 (x y:Int):(if (!(decide (x<0)==decide (y<0)))=true then -(q17 x*q17 y) else q17 x*q17 y)=x*y:=by
 unfold q17;by_cases h1:x<0<;>by_cases h2:y<0<;>simp[h1,h2,Int.neg_mul,Int.mul_neg]
theorem b1F {a b:Wd} (ha:a.ok) (hb:b.ok) (m:Mem):Res m (run E4 (.fn 323) [.agg a.cells,.agg b.cells] m) (.tup [.agg (Wd.res (a.val*b.val)).1.cells,.int .i64 (Wd.res (a.val*b.val)).2]):=by
 obtain⟨hle1,hle2⟩:=j9N ha hb;have pr:=fun m=>b0T (H:=H4) rfl ha hb m
 have nr:=fun m=>j9q (H:=H4) rfl (!(decide (a.val<0)==decide (b.val<0))) hle1 (by omega) m
 rw[b48]at nr;obtain⟨ah,al⟩:=a;obtain⟨bh,bl⟩:=b;rw[<-z7g ha,<-z7g hb]at nr;simp only[Wd.cells]at pr nr⊢;simp only[a9T (H:=H4) rfl,b6P,pB,p1,q1,p2,q00,q0q,q0P,q0T,Nat.reduceAdd,a0F,AV.one,over,AV.cells,Nat.reduceLeDiff,lcl,pr,nr];refine Res.eq ?_ rfl
 (repeat apply Fr.lays)
 exact Fr.refl _
def scF (x y:Int) (k:Nat):Int:=if (!(decide (x<0)==decide (y<0)))=true then -(rhe (q17 x*q17 y) k) else rhe (q17 x*q17 y) k
end
noncomputable section
set_option maxRecDepth 4000
open Go Go.Abs
def S5:List FuncId:=[323,322]
def H5:FuncId->Option (List AV->Mem->R):=q1R E4 S5
abbrev E5:Env:=Ea H5
theorem b51:q07 E5:=q0U b50 S5
abbrev D5:Do:=Da H5
section
variable {H:FuncId->Option (List AV->Mem->R)}
theorem b1E (h:H 323=some (q0B E4 323)) {a b:Wd} (ha:a.ok) (hb:b.ok) (m:Mem):run (Ea H) (.fn 323) [.agg a.cells,.agg b.cells] m=some (.tup [.agg (Wd.res (a.val*b.val)).1.cells,.int .i64 (Wd.res (a.val*b.val)).2],m):=
 q0w h (by simp[AV.flat,AV.lt,AV.lts,Wd.cells]) fun m2 _ _=>b1F ha hb m2
end
theorem a0y {k:Nat} (h:k<=38):q3V k<=100000000000000000000000000000000000000:=by
 have h1:=a4M k (38-k);rw[show k+(38-k)=38 by omega,show q3V 38=100000000000000000000000000000000000000 from rfl]at h1;have h2:=q4N (38-k);have h3:=q4N k;have h4:q3V k*1<=q3V k*q3V (38-k):=Int.mul_le_mul_of_nonneg_left (by omega) (by omega);omega
theorem z5Z {k:Nat} (h:k<=38):q0Q (q3V k)=true:=by
 have h1:=a0y h;have h2:=q4N k;exact q03 (by omega) (by omega)
theorem q1O {n:Int} (h:q0Q n=true):Wd.res n=(.of n,0):=xAb h
theorem b09 {n:Int} (h:q0Q n=false):Wd.res n=(⟨0,0⟩,20):=xAa (by rw[h];decide)
theorem a6T:(Wd.mk 0 0).ok:=by unfold Wd.ok;simp
theorem b1A:(Wd.mk 0 10).ok:=by unfold Wd.ok;simp
theorem a3X (m:Mem):∀(d j:Nat),j+d<=38->
  Res m (D5.gor 1380353 [.int .i64 (d:Int),.ptr (some ⟨m.next,0⟩),.ptr (some ⟨m.next+1,0⟩)] ((m.lay (.cells [.int .i64 0,.int .u64 0] false)).lay (.cells (Wd.of (q3V j)).cells false)))
   (.tup [.agg (Wd.of (q3V (j+d))).cells,.int .i64 0]):=by
 intro d;induction d with
 |zero=>
  intro j _;simp only[z4I (H:=H5),z8x,p2,q0b,q4f,df (show ¬(0:Int)<((0:Nat):Int) by omega),show decide ((0:Int)<0)=false from rfl];simp only[j6A (H:=H5),j3g,q1,q0P,q0T,q4f,Wd.cells,AV.one,over,AV.cells,Nat.reduceAdd,Nat.reduceLeDiff,lcl];exact Res.eq (((Fr.refl m).lay _).lay _) rfl
 |succ d ih=>
  intro j hj;have wm:=fun m=>b1E (H:=H5) rfl (a:=Wd.of (q3V j)) (b:=⟨0,10⟩) (Wd.q4D (z5Z (by omega))) b1A m
  rw[Wd.q1N,show (Wd.mk 0 10).val=10 from rfl,<-a0z,q1O (z5Z (by omega))]at wm;have hi:=ih (j+1) (by omega);rw[show j+1+d=j+(d+1) by omega]at hi;simp only[Wd.cells]at wm hi⊢;simp only[z4I (H:=H5),z8x,p2,q0b,q4f,dt (show (0:Int)<((d+1:Nat):Int) by omega)];simp only[j6y (H:=H5),j3e,q1,p1,q0p,AV.cells,Nat.reduceAdd,Nat.reduceLeDiff,q0q,q4f,AV.one,over,lcl,wm]
  simp only[j6z (H:=H5),j3f,p2,q4f,show ((d+1:Nat):Int)-1=(d:Int) by omega,wrap_i64 (n:=(d:Int)) (by omega) (by omega)];exact hi
theorem b4Y {k:Nat} (hk:k<=38) (m:Mem):Res m (run E5 (.fn 337) [.int .i64 (k:Int)] m) (.tup [.agg (Wd.of (q3V k)).cells,.int .i64 0]):=by
 have lp:=a3X m k 0 (by omega);rw[xnz]at lp;have e0:(Wd.of (q3V 0)).cells=[.int .i64 0,.int .u64 1]:=rfl;rw[e0]at lp;simp only[a9X (H:=H5) rfl,b6T,pB,p2,q0p,q0b,ifV,q0P,q0T,q4f,Wd.cells,lcl,df (show ¬(k:Int)<0 by omega),df (show ¬(38:Int)<(k:Int) by omega)];simp only[j6x (H:=H5),j3d,pB,q0p,AV.cells,Nat.reduceAdd,Nat.reduceLeDiff,q4f,AV.one,over,lcl]
 exact lp
def S6:List FuncId:=[337]
def H6:FuncId->Option (List AV->Mem->R):=q1R E5 S6
abbrev E6:Env:=Ea H6
theorem b52:q07 E6:=q0U b51 S6
theorem b4X {H:FuncId->Option (List AV->Mem->R)} (h:H 337=some (q0B E5 337)) {k:Nat} (hk:k<=38) (m:Mem):run (Ea H) (.fn 337) [.int .i64 (k:Int)] m=some (.tup [.agg (Wd.of (q3V k)).cells,.int .i64 0],m):=
 q0w h (by simp[AV.flat,AV.lt,AV.lts,Wd.cells]) fun m2 _ _=>b4Y hk m2
theorem a3N {n:Int} (h0:0<=n) (h1:n<18446744073709551616):Wd.of n=⟨0,n⟩:=by unfold Wd.of;congr 1<;>omega
theorem a4G {b:Bool} {n:Int} (h0:0<=n) (h1:n<170141183460469231731687303715884105728):q0Q (sgI b n)=true:=by
 unfold sgI;split<;>exact q03 (by omega) (by omega)
theorem a0o {a:Wd} (ha:a.ok):sgI (decide (a.hi<0)) (q17 a.val)=a.val:=by
 rw[show a.hi=(Wd.mk a.hi a.lo).hi from rfl];have:=z7g (ah:=a.hi) (al:=a.lo) ha;simp only at this⊢;rw[this];show sgI (decide (a.val<0)) (q17 a.val)=a.val;unfold sgI q17;by_cases h:a.val<0
 ·simp only[dt h,xAb h,xAd];omega
 ·simp only[df h,xAa h,xbq,xAh]
theorem z8F {a:Wd} (ha:a.ok):0<=q17 a.val/\q17 a.val<=170141183460469231731687303715884105728:=by
 obtain⟨h1,h2,h3,h4⟩:=ha;unfold q17 Wd.val;split<;>constructor<;>omega
theorem b1n {a:Wd} (ha:a.ok) {p:Int} (hp:0<p):(sgn (sgI (decide (a.hi<0)) (q17 a.val / p))≠0->sgn (sgI (decide (a.hi<0)) (q17 a.val / p))=sgn a.val)/\
  (sgn (sgI (decide (a.hi<0)) (q17 a.val / p))=0->sgn (sgI (decide (a.hi<0)) (q17 a.val % p))=sgn a.val):=by
 have hv:=a0o ha;have h0:=(z8F ha).1;obtain⟨A,hA⟩:∃A,A=q17 a.val:=⟨_,rfl⟩;rw[<-hA]at hv h0⊢;rw[<-hv];have q0:0<=A / p:=xCy h0 (by omega);have hq:A / p<=A:=xEa _ h0;constructor
 ·intro h;have:A / p≠0:=by intro h2;apply h;rw[h2];unfold sgn sgI;split<;>simp
  cases decide (a.hi<0)<;>simp only[sgI,sgn,xbq,xAh,xAd]<;>(repeat' split)<;>omega
 ·intro h;have h2:A / p=0:=by
   apply xBy;intro h3
   revert h
   cases decide (a.hi<0)<;>simp only[sgI,sgn,xbq,xAh,xAd]<;>(repeat' split)<;>omega
  have h3:=Int.emod_add_mul_ediv A p;rw[h2,Int.mul_zero,Int.add_zero]at h3;rw[h3]
theorem a2a {w:Wd} (hw:w.ok) {s:Nat} (hs:s<=18) (m:Mem):Res m (run E6 (.fn 330) [.agg (q0O w (s:Int)),.agg (q0O ⟨0,0⟩ 0)] m) (.int .i64 (sgn w.val)):=by
 have p0:=q4N s;have p1:=b1w hs;have pw:=fun m=>b4X (H:=H6) rfl (k:=s) (by omega) m
 rw[a3N (by omega) (by omega)]at pw;have wd:=fun m=>b1B (H:=H6) rfl hw p0 (by omega) m
 obtain⟨hA0,hA1⟩:=z8F hw;have q0:0<=q17 w.val / q3V s:=xCy hA0 (by omega);have qle:q17 w.val / q3V s<=q17 w.val:=xEa _ hA0;have r0:0<=q17 w.val % q3V s/\q17 w.val % q3V s<q3V s:=⟨xEm _ (by omega),xDm _ p0⟩;obtain⟨s1,s2⟩:=b1n hw p0;have fq:q0Q (sgI (decide (w.hi<0)) (q17 w.val / q3V s))=true:=by
  have:=a0o hw;have hf:=Wd.q8x hw;rw[<-this]at hf;unfold q0Q at hf⊢;simp only[xAc,xAj]at hf⊢
  revert hf
  cases decide (w.hi<0)<;>simp only[sgI,xbq,xAh,xAd]<;>omega
 have fr:q0Q (sgI (decide (w.hi<0)) (q17 w.val % q3V s))=true:=a4G r0.1 (by omega);have cm:=fun m=>b3x (H:=H6) rfl (Wd.q4D fq) a6T m
 rw[Wd.q1N,show (Wd.mk 0 0).val=0 from rfl,Int.sub_zero]at cm;have sg:=fun m=>q9M (H:=H6) rfl (Wd.q4D fr) m
 rw[Wd.q1N]at sg;have hsub:IntKind.wrap .i64 ((s:Int)-0)=(s:Int):=by rw[Int.sub_zero];exact wrap_i64 (by omega) (by omega)
 obtain⟨wh,wl⟩:=w;simp only[Wd.cells]at pw wd cm sg⊢;obtain⟨c,hc⟩:∃c,c=sgn (sgI (decide (wh<0)) (q17 (Wd.mk wh wl).val / q3V s)):=⟨_,rfl⟩;simp only at cm s1 s2;rw[<-hc]at cm s1 s2;simp only[q0O,a9U (H:=H6) rfl,b6Q,q1,p2,pB,q00,q0q,q0b,Nat.reduceAdd,q0f,AV.one,over,AV.cells,Nat.reduceLeDiff,lcl,hsub,pw,wd,cm];by_cases h:c=0
 ·simp only[h,xAn,xbt];simp only[j6v (H:=H6),j3b,q1,q0f,Nat.reduceAdd,Nat.reduceLeDiff,lcl,sg];refine Res.eq ?_ (by rw[s2 h])
  (repeat apply Fr.lays)
  exact Fr.refl _
 ·simp only[df h,xbf];refine Res.eq ?_ (by rw[s1 h])
  (repeat apply Fr.lays)
  exact Fr.refl _
def S7:List FuncId:=[324,330]
def H7:FuncId->Option (List AV->Mem->R):=q1R E6 S7
abbrev E7:Env:=Ea H7
theorem b53:q07 E7:=q0U b52 S7
section
variable {H:FuncId->Option (List AV->Mem->R)}
theorem a19 (h:H 330=some (q0B E6 330)) {w:Wd} (hw:w.ok) {s:Nat} (hs:s<=18) (m:Mem):run (Ea H) (.fn 330) [.agg (q0O w (s:Int)),.agg (q0O ⟨0,0⟩ 0)] m=some (.int .i64 (sgn w.val),m):=
 q0w h (by simp[AV.flat,AV.lt]) fun m2 _ _=>a2a hw hs m2
end
theorem a1W {w:Wd} (hw:w.ok) (s:Int) (m:Mem):Res m (run E7 (.fn 316) [.agg (q0O w s),.agg (q0O ⟨0,0⟩ 0)] m) (.tup [.int .i64 (if 0<=s/\s<=18 then sgn w.val else 0),.int .i64 (if 0<=s/\s<=18 then 0 else 21)]):=by
 have dr:=fun m=>q6w (H:=H7) rfl w s m
 have dr0:=fun m=>q6w (H:=H7) rfl ⟨0,0⟩ 0 m
 rw[dt (show (0:Int)<=0/\(0:Int)<=18 by omega)]at dr0;by_cases h:0<=s/\s<=18
 ·obtain⟨n,rfl⟩:∃n:Nat,s=n:=⟨s.toNat,by omega⟩;have fc:=fun m=>a19 (H:=H7) rfl hw (s:=n) (by omega) m
  rw[dt h]at dr;rw[xAb h,xAb h];simp only[q0O]at dr dr0 fc⊢;simp only[j4N (H:=H7) rfl,b5u,q1,p1,q00,q0b,ifV,unA,q0f,AV.one,AV.cells,Nat.reduceAdd,Nat.reduceLeDiff,lcl,dr,dr0,xbt];simp only[j6t (H:=H7),j29,p1,q1,p2,q0b,Nat.reduceAdd,q0f,Nat.reduceLeDiff,lcl,df (show ¬(n:Int)<0 by omega)];simp only[j6u (H:=H7),j3a,q1,q0f,Nat.reduceAdd,Nat.reduceLeDiff,lcl,fc]
  refine Res.eq ?_ rfl
  (repeat apply Fr.lays)
  exact Fr.refl _
 ·rw[df h]at dr;rw[xAa h,xAa h];simp only[q0O]at dr dr0⊢;simp only[j4N (H:=H7) rfl,b5u,q1,p1,q00,q0b,ifV,unA,q0f,AV.one,AV.cells,Nat.reduceAdd,Nat.reduceLeDiff,lcl,dr,xbf];refine Res.eq ?_ rfl
  (repeat apply Fr.lays)
  exact Fr.refl _
def j9n (x y k:Int):Int:=if 0<=k then scF x y k.toNat else x*y*q3V (-k).toNat
def q42 (n:Int) (to:Int):AV:=.tup [.agg (if q0Q n=true then q0O (.of n) to else q0O ⟨0,0⟩ 0),.int .i64 (if q0Q n=true then 0 else 20)]
end
end Go.Proofs.YtkbhcgifnnhbaaaGreatDoor
