/- Texts of one claim, put together. -/
import Derived.Test.YtlginbmjiecglaaGreatDoorQ15
namespace Go.Proofs.YtlginbmjiecglaaGreatDoor
noncomputable section
set_option maxRecDepth 4000
open Go Go.Abs
def S5:List FuncId:=[149,148]
def H5:FuncId->Option (List AV->Mem->R):=q1L E4 S5
abbrev E5:Env:=T.EH H5
theorem b1g:q1u E5:=q0Z b1f S5
abbrev D5:Do:=T.Rl H5
section
variable {H:FuncId->Option (List AV->Mem->R)}
theorem z4l (h:H 149=some (q0y E4 149)) {a b:Wd} (ha:a.ok) (hb:b.ok) (m:Mem):run (T.EH H) (.fn 149) [.agg a.cells,.agg b.cells] m=some (.tup [.agg (Wd.res (a.val*b.val)).1.cells,.int .i64 (Wd.res (a.val*b.val)).2],m):=
 q0r h (by simp[AV.flat,AV.lt,AV.lts,Wd.cells]) fun m2 _ _=>a4v ha hb m2
theorem j2Z (h:H 148=some (q0y E4 148)) {a b:Wd} (ha:a.ok) (hb:b.ok) {k:Nat} (hk:k<=36) (m:Mem) :
  run (T.EH H) (.fn 148) [.agg a.cells,.agg b.cells,.int .i64 (k:Int)] m=some (.tup [.agg (Wd.res (scF a.val b.val k)).1.cells,.int .i64 (Wd.res (scF a.val b.val k)).2],m):=
 q0r h (by simp[AV.flat,AV.lt,AV.lts,Wd.cells]) fun m2 _ _=>j20 ha hb hk m2
end
theorem j3d {k:Nat} (h:k<=38):q0J k<=100000000000000000000000000000000000000:=by
 have h1:=q7r k (38-k);rw[show k+(38-k)=38 by omega,show q0J 38=100000000000000000000000000000000000000 from rfl]at h1;have h2:=q1Q (38-k);have h3:=q1Q k;have h4:q0J k*1<=q0J k*q0J (38-k):=Int.mul_le_mul_of_nonneg_left (by omega) (by omega);omega
theorem q8n {k:Nat} (h:k<=38):q0Q (q0J k)=true:=by
 have h1:=j3d h;have h2:=q1Q k;exact q0V (by omega) (by omega)
theorem q1a {n:Int} (h:q0Q n=true):Wd.res n=(.of n,0):=if_pos h
theorem z0u {n:Int} (h:q0Q n=false):Wd.res n=(⟨0,0⟩,20):=if_neg (by rw[h];decide)
theorem j9d:(Wd.mk 0 0).ok:=by unfold Wd.ok;simp
theorem a4s:(Wd.mk 0 10).ok:=by unfold Wd.ok;simp
theorem j6B (m:Mem):∀(d j:Nat),j+d<=38->
  Res m (D5.gor 671745 [.int .i64 (d:Int),.ptr (some ⟨m.next,0⟩),.ptr (some ⟨m.next+1,0⟩)] ((m.lay (.cells [.int .i64 0,.int .u64 0] false)).lay (.cells (Wd.of (q0J j)).cells false)))
   (.tup [.agg (Wd.of (q0J (j+d))).cells,.int .i64 0]):=by
 intro d;induction d with
 |zero=>
  intro j _;simp only[z1E (H:=H5),T.j0X,p2,q0a,wp,df (show ¬(0:Int)<((0:Nat):Int) by omega)];simp only[j00 (H:=H5),T.j8K,q1,q0H,q0I,wp,Wd.cells,AV.one,over,AV.cells,Nat.reduceAdd,Nat.reduceLeDiff,lcl];exact Res.eq (((Fr.refl m).lay _).lay _) rfl
 |succ d ih=>
  intro j hj;have wm:=fun m=>z4l (H:=H5) rfl (a:=Wd.of (q0J j)) (b:=⟨0,10⟩) (Wd.q25 (q8n (by omega))) a4s m
  rw[Wd.q1B,show (Wd.mk 0 10).val=10 from rfl,<-q8o,q1a (q8n (by omega))]at wm;have hi:=ih (j+1) (by omega);rw[show j+1+d=j+(d+1) by omega]at hi;simp only[Wd.cells]at wm hi⊢;simp only[z1E (H:=H5),T.j0X,p2,q0a,wp,dt (show (0:Int)<((d+1:Nat):Int) by omega)];simp only[j0Y (H:=H5),T.j8I,q1,p1,q0o,AV.cells,Nat.reduceAdd,Nat.reduceLeDiff,q0d,q0w,AV.one,over,lcl,wm]
  simp only[j0Z (H:=H5),T.j8J,p2,wp,show ((d+1:Nat):Int)-1=(d:Int) by omega,wrap_i64 (n:=(d:Int)) (by omega) (by omega)];exact hi
theorem b0N {k:Nat} (hk:k<=38) (m:Mem):Res m (run E5 (.fn 164) [.int .i64 (k:Int)] m) (.tup [.agg (Wd.of (q0J k)).cells,.int .i64 0]):=by
 have lp:=j6B m k 0 (by omega);rw[xnz]at lp;have e0:(Wd.of (q0J 0)).cells=[.int .i64 0,.int .u64 1]:=rfl;rw[e0]at lp;simp only[a0s (H:=H5) rfl,T.f164,pB,p2,p1,q0o,q0a,ifV,q0H,q0I,q0w,Wd.cells,lcl,df (show ¬(k:Int)<0 by omega),df (show ¬(38:Int)<(k:Int) by omega)];simp only[j0W (H:=H5),T.j8H,p1,pB,q0o,AV.cells,Nat.reduceAdd,Nat.reduceLeDiff,q0w,AV.one,over,lcl]
 exact lp
def S6:List FuncId:=[164]
def H6:FuncId->Option (List AV->Mem->R):=q1L E5 S6
abbrev E6:Env:=T.EH H6
theorem b1h:q1u E6:=q0Z b1g S6
theorem j82 {H:FuncId->Option (List AV->Mem->R)} (h:H 164=some (q0y E5 164)) {k:Nat} (hk:k<=38) (m:Mem):run (T.EH H) (.fn 164) [.int .i64 (k:Int)] m=some (.tup [.agg (Wd.of (q0J k)).cells,.int .i64 0],m):=
 q0r h (by simp[AV.flat,AV.lt,AV.lts,Wd.cells]) fun m2 _ _=>b0N hk m2
theorem j3L {c:Wd} (hc:c.ok) {k:Nat} (hk:k<=38) (m:Mem):Res m (run E6 (.fn 150) [.agg c.cells,.int .i64 (k:Int)] m) (.tup [.agg (Wd.res (c.val*q0J k)).1.cells,.int .i64 (Wd.res (c.val*q0J k)).2]):=by
 have pw:=fun m=>j82 (H:=H6) rfl hk m
 have wm:=fun m=>z4l (H:=H6) rfl hc (b:=Wd.of (q0J k)) (Wd.q25 (q8n hk)) m
 rw[Wd.q1B]at wm;simp only[Wd.cells]at pw wm⊢;simp only[a0j (H:=H6) rfl,T.f150,pB,p1,p2,q0o,AV.cells,Nat.reduceAdd,Nat.reduceLeDiff,q0K,q0d,q0a,q0H,q0I,q0w,AV.one,over,lcl,pw];simp only[j0w (H:=H6),T.j8o,q1,p1,q0d,q0H,q0I,q02,AV.one,over,AV.cells,Nat.reduceAdd,Nat.reduceLeDiff,lcl,wm];refine Res.eq ?_ rfl
 (repeat apply Fr.lays)
 exact Fr.refl _
theorem j6v {n:Int} (h0:0<=n) (h1:n<18446744073709551616):Wd.of n=⟨0,n⟩:=by unfold Wd.of;congr 1<;>omega
theorem j63 {b:Bool} {n:Int} (h0:0<=n) (h1:n<170141183460469231731687303715884105728):q0Q (sgI b n)=true:=by
 unfold sgI;split<;>exact q0V (by omega) (by omega)
theorem j23 {a:Wd} (ha:a.ok):sgI (decide (a.hi<0)) (q1H a.val)=a.val:=by
 rw[show a.hi=(Wd.mk a.hi a.lo).hi from rfl];have:=q76 (ah:=a.hi) (al:=a.lo) ha;simp only at this⊢;rw[this];show sgI (decide (a.val<0)) (q1H a.val)=a.val;unfold sgI q1H;by_cases h:a.val<0
 ·simp only[dt h,if_pos h,if_true];omega
 ·simp only[df h,if_neg h,xbq,if_false]
theorem z4r {a:Wd} (ha:a.ok):0<=q1H a.val/\q1H a.val<=170141183460469231731687303715884105728:=by
 obtain⟨h1,h2,h3,h4⟩:=ha;unfold q1H Wd.val;split<;>constructor<;>omega
theorem a4f {a:Wd} (ha:a.ok) {p:Int} (hp:0<p):(sgn (sgI (decide (a.hi<0)) (q1H a.val / p))≠0->sgn (sgI (decide (a.hi<0)) (q1H a.val / p))=sgn a.val)/\
  (sgn (sgI (decide (a.hi<0)) (q1H a.val / p))=0->sgn (sgI (decide (a.hi<0)) (q1H a.val % p))=sgn a.val):=by
 have hv:=j23 ha;have h0:=(z4r ha).1;obtain⟨A,hA⟩:∃A,A=q1H a.val:=⟨_,rfl⟩;rw[<-hA]at hv h0⊢;rw[<-hv];have q0:0<=A / p:=Int.ediv_nonneg h0 (by omega);have hq:A / p<=A:=Int.ediv_le_self _ h0;constructor
 ·intro h;have:A / p≠0:=by intro h2;apply h;rw[h2];unfold sgn sgI;split<;>simp
  cases decide (a.hi<0)<;>simp only[sgI,sgn,xbq,if_false,if_true]<;>(repeat' split)<;>omega
 ·intro h;have h2:A / p=0:=by
   apply Classical.byContradiction;intro h3
   revert h
   cases decide (a.hi<0)<;>simp only[sgI,sgn,xbq,if_false,if_true]<;>(repeat' split)<;>omega
  have h3:=Int.emod_add_mul_ediv A p;rw[h2,Int.mul_zero,Int.add_zero]at h3;rw[h3]
theorem j3J {w:Wd} (hw:w.ok) {s:Nat} (hs:s<=18) (m:Mem):Res m (run E6 (.fn 159) [.agg (q0u w (s:Int)),.agg (q0u ⟨0,0⟩ 0)] m) (.int .i64 (sgn w.val)):=by
 have p0:=q1Q s;have p1:=z0F hs;have pw:=fun m=>j82 (H:=H6) rfl (k:=s) (by omega) m
 rw[j6v (by omega) (by omega)]at pw;have wd:=fun m=>a4t (H:=H6) rfl hw p0 (by omega) m
 obtain⟨hA0,hA1⟩:=z4r hw;have q0:0<=q1H w.val / q0J s:=Int.ediv_nonneg hA0 (by omega);have qle:q1H w.val / q0J s<=q1H w.val:=Int.ediv_le_self _ hA0;have r0:0<=q1H w.val % q0J s/\q1H w.val % q0J s<q0J s:=⟨Int.emod_nonneg _ (by omega),Int.emod_lt_of_pos _ p0⟩;obtain⟨s1,s2⟩:=a4f hw p0;have fq:q0Q (sgI (decide (w.hi<0)) (q1H w.val / q0J s))=true:=by
  have:=j23 hw;have hf:=Wd.q7t hw;rw[<-this]at hf;unfold q0Q at hf⊢;simp only[Bool.and_eq_true,decide_eq_true_eq]at hf⊢
  revert hf
  cases decide (w.hi<0)<;>simp only[sgI,xbq,if_false,if_true]<;>omega
 have fr:q0Q (sgI (decide (w.hi<0)) (q1H w.val % q0J s))=true:=j63 r0.1 (by omega);have cm:=fun m=>j7n (H:=H6) rfl (Wd.q25 fq) j9d m
 rw[Wd.q1B,show (Wd.mk 0 0).val=0 from rfl,Int.sub_zero]at cm;have sg:=fun m=>q6v (H:=H6) rfl (Wd.q25 fr) m
 rw[Wd.q1B]at sg;have hsub:IntKind.wrap .i64 ((s:Int)-0)=(s:Int):=by rw[Int.sub_zero];exact wrap_i64 (by omega) (by omega)
 obtain⟨wh,wl⟩:=w;simp only[Wd.cells]at pw wd cm sg⊢;obtain⟨c,hc⟩:∃c,c=sgn (sgI (decide (wh<0)) (q1H (Wd.mk wh wl).val / q0J s)):=⟨_,rfl⟩;simp only at cm s1 s2;rw[<-hc]at cm s1 s2;simp only[q0u,a0n (H:=H6) rfl,T.f159,q1,p2,pB,q0K,q0d,q0a,Nat.reduceAdd,q0F,AV.one,over,AV.cells,Nat.reduceLeDiff,lcl,hsub,pw,wd,cm];by_cases h:c=0
 ·simp only[h,decide_true,xbt];simp only[j0M (H:=H6),T.j8y,q1,wp,Nat.reduceAdd,Nat.reduceLeDiff,lcl,sg];refine Res.eq ?_ (by rw[s2 h])
  (repeat apply Fr.lays)
  exact Fr.refl _
 ·simp only[df h,xbf];refine Res.eq ?_ (by rw[s1 h])
  (repeat apply Fr.lays)
  exact Fr.refl _
def S7:List FuncId:=[150,159]
def H7:FuncId->Option (List AV->Mem->R):=q1L E6 S7
abbrev E7:Env:=T.EH H7
theorem b1i:q1u E7:=q0Z b1h S7
abbrev D7:Do:=T.Rl H7
section
variable {H:FuncId->Option (List AV->Mem->R)}
theorem j3K (h:H 150=some (q0y E6 150)) {c:Wd} (hc:c.ok) {k:Nat} (hk:k<=38) (m:Mem):run (T.EH H) (.fn 150) [.agg c.cells,.int .i64 (k:Int)] m=some (.tup [.agg (Wd.res (c.val*q0J k)).1.cells,.int .i64 (Wd.res (c.val*q0J k)).2],m):=
 q0r h (by simp[AV.flat,AV.lt,AV.lts,Wd.cells]) fun m2 _ _=>j3L hc hk m2
theorem j3I (h:H 159=some (q0y E6 159)) {w:Wd} (hw:w.ok) {s:Nat} (hs:s<=18) (m:Mem):run (T.EH H) (.fn 159) [.agg (q0u w (s:Int)),.agg (q0u ⟨0,0⟩ 0)] m=some (.int .i64 (sgn w.val),m):=
 q0r h (by simp[AV.flat,AV.lt]) fun m2 _ _=>j3J hw hs m2
end
theorem j3C {w:Wd} (hw:w.ok) (s:Int) (m:Mem):Res m (run E7 (.fn 147) [.agg (q0u w s),.agg (q0u ⟨0,0⟩ 0)] m) (.tup [.int .i64 (if 0<=s/\s<=18 then sgn w.val else 0),.int .i64 (if 0<=s/\s<=18 then 0 else 21)]):=by
 have dr:=fun m=>q3m (H:=H7) rfl w s m
 have dr0:=fun m=>q3m (H:=H7) rfl ⟨0,0⟩ 0 m
 rw[dt (show (0:Int)<=0/\(0:Int)<=18 by omega)]at dr0;by_cases h:0<=s/\s<=18
 ·obtain⟨n,rfl⟩:∃n:Nat,s=n:=⟨s.toNat,by omega⟩;have fc:=fun m=>j3I (H:=H7) rfl hw (s:=n) (by omega) m
  rw[dt h]at dr;rw[if_pos h,if_pos h];simp only[q0u]at dr dr0 fc⊢;simp only[z9C (H:=H7) rfl,T.f147,q1,p1,q0K,q0a,ifV,unA,wp,AV.one,AV.cells,Nat.reduceAdd,Nat.reduceLeDiff,lcl,dr,dr0,xbt];simp only[j0r (H:=H7),T.j8k,p1,q1,p2,q0a,Nat.reduceAdd,q0e,Nat.reduceLeDiff,lcl,df (show ¬(n:Int)<0 by omega)];simp only[j0s (H:=H7),T.j8l,q1,wp,Nat.reduceAdd,Nat.reduceLeDiff,lcl,fc]
  refine Res.eq ?_ rfl
  (repeat apply Fr.lays)
  exact Fr.refl _
 ·rw[df h]at dr;rw[if_neg h,if_neg h];simp only[q0u]at dr dr0⊢;simp only[z9C (H:=H7) rfl,T.f147,q1,p1,q0K,q0a,ifV,unA,wp,AV.one,AV.cells,Nat.reduceAdd,Nat.reduceLeDiff,lcl,dr,xbf];refine Res.eq ?_ rfl
  (repeat apply Fr.lays)
  exact Fr.refl _
def z3J (x y k:Int):Int:=if 0<=k then scF x y k.toNat else x*y*q0J (-k).toNat
def q2A (n:Int) (to:Int):AV:=.tup [.agg (if q0Q n=true then q0u (.of n) to else q0u ⟨0,0⟩ 0),.int .i64 (if q0Q n=true then 0 else 20)]
theorem j3N {n p:Int} (hp:0<p) (h:q0Q n=false):q0Q (n*p)=false:=by
 have h2:¬(-170141183460469231731687303715884105728<=n/\n<170141183460469231731687303715884105728):=by
  intro h3;rw[q0V h3.1 h3.2]at h;exact absurd h (by decide)
 apply q1m;by_cases h3:n<0
 ·have:=Int.mul_le_mul_of_nonneg_left (show 1<=p by omega) (show 0<=-n by omega);rw[Int.mul_one,Int.neg_mul]at this;omega
 ·have:=Int.mul_le_mul_of_nonneg_left (show 1<=p by omega) (show 0<=n by omega);rw[Int.mul_one]at this;omega
theorem j9O {a b:Wd} (ha:a.ok) (hb:b.ok) {s t to:Int} (hs:0<=s/\s<=18) (ht:0<=t/\t<=18) (hto:0<=to/\to<=18) (m:Mem) :
  Res m (run E7 (.fn 134) [.agg (q0u a s),.agg (q0u b t),.int .i64 to] m) (q2A (z3J a.val b.val (s+t-to)) to):=by
 have dr:=fun m=>q3m (H:=H7) rfl a s m
 have dr2:=fun m=>q3m (H:=H7) rfl b t m
 have sc:=fun m=>j61 (H:=H7) rfl to m
 rw[dt hs]at dr;rw[dt ht]at dr2;rw[dt hto]at sc;have hk1:IntKind.wrap .i64 (s+t)=s+t:=wrap_i64 (by omega) (by omega);have hk2:IntKind.wrap .i64 (s+t-to)=s+t-to:=wrap_i64 (by omega) (by omega);have fin:∀(n:Int) (z0 z1 z2:AV) (z3 z4:List AV),Res m (D7.gor 548865 [.int .i64 to,.ptr (some ⟨m.next+1+1,0⟩),.ptr (some ⟨m.next+1+1+1,0⟩),.int .i64 (Wd.res n).2]
   ((((m.lay (.cells z3 false)).lay (.cells z4 false)).lay (.cells [z0,z1,z2] false)).lay (.cells (Wd.res n).1.cells false))) (q2A n to):=by
  intro n z0 z1 z2 z3 z4;cases hf:q0Q n with
  |true=>
   simp only[q1a hf,Wd.cells,q2A,hf,if_true,q0u];simp only[z1k (H:=H7),T.j0j,p2,p1,q0o,AV.cells,Nat.reduceAdd,Nat.reduceLeDiff,q0a,q0H,q0I,q0w,AV.one,over,lcl];simp only[j0k (H:=H7),T.j8i,q1,p1,q0o,AV.cells,Nat.reduceAdd,Nat.reduceLeDiff,q0H,q0I,q0w,AV.one,over,lcl];refine Res.eq ?_ rfl
   (repeat apply Fr.lays)
   exact Fr.refl _
  |false=>
   simp only[z0u hf,Wd.cells,q2A,hf,xbq,if_false,q0u];simp only[z1k (H:=H7),T.j0j,p2,p1,q0o,AV.cells,Nat.reduceAdd,Nat.reduceLeDiff,q0a,q0H,q0I,q0w,AV.one,over,lcl];refine Res.eq ?_ rfl
   (repeat apply Fr.lays)
   exact Fr.refl _
 unfold z3J;by_cases hk:0<=s+t-to
 ·rw[if_pos hk];have sd:=fun m=>j2Z (H:=H7) rfl ha hb (k:=(s+t-to).toNat) (by omega) m
  rw[Int.toNat_of_nonneg hk]at sd;simp only[q0u]at dr dr2;simp only[Wd.cells]at sd fin;simp only[q0u,z3k (H:=H7) rfl,T.f134,pB,q1,p1,q0o,AV.cells,Nat.reduceAdd,Nat.reduceLeDiff,q0K,q0a,ifV,unA,q0H,q0I,q0w,AV.one,over,lcl,dr,dr2,sc,xbt];simp only[q7Q (H:=H7),T.z4N,p1,q1,p2,pB,q0d,q0a,Nat.reduceAdd,q0F,AV.one,over,AV.cells,Nat.reduceLeDiff,lcl,hk1,hk2,dt hk,sd]
  exact fin _ _ _ _ _ _
 ·rw[if_neg hk];have wm:=fun m=>z4l (H:=H7) rfl ha hb m
  simp only[q0u]at dr dr2;simp only[Wd.cells]at fin;have hneg:IntKind.wrap .i64 (0-(s+t-to))=(((-(s+t-to)).toNat:Nat):Int):=by rw[Int.toNat_of_nonneg (by omega),wrap_i64 (by omega) (by omega)];omega
  cases hf:q0Q (a.val*b.val) with
  |true=>
   rw[q1a hf]at wm;have fi:=fun m=>j3K (H:=H7) rfl (Wd.q25 hf) (k:=(-(s+t-to)).toNat) (by omega) m
   rw[Wd.q1B]at fi;simp only[Wd.cells]at wm fi;simp only[q0u,z3k (H:=H7) rfl,T.f134,pB,q1,p1,q0o,AV.cells,Nat.reduceAdd,Nat.reduceLeDiff,q0K,q0a,ifV,unA,q0H,q0I,q0w,AV.one,over,lcl,dr,dr2,sc,xbt];simp only[q7Q (H:=H7),T.z4N,p1,q1,p2,pB,q0d,q0a,Nat.reduceAdd,q0F,AV.one,over,AV.cells,Nat.reduceLeDiff,lcl,hk1,hk2,df hk,wm,unA,hneg,fi,decide_true]
   exact fin (a.val*b.val*q0J (-(s+t-to)).toNat) _ _ _ _ _
  |false=>
   have hf2:=j3N (q1Q (-(s+t-to)).toNat) hf;have f2:=fin (a.val*b.val*q0J (-(s+t-to)).toNat);rw[z0u hf]at wm;rw[z0u hf2]at f2;simp only[Wd.cells]at wm f2;simp only[q0u,z3k (H:=H7) rfl,T.f134,pB,q1,p1,q0o,AV.cells,Nat.reduceAdd,Nat.reduceLeDiff,q0K,q0a,ifV,unA,q0H,q0I,q0w,AV.one,over,lcl,dr,dr2,sc,xbt];simp only[q7Q (H:=H7),T.z4N,p1,q1,p2,pB,q0d,q0a,Nat.reduceAdd,q0F,AV.one,over,AV.cells,Nat.reduceLeDiff,lcl,hk1,hk2,df hk,wm,df (show ¬(20:Int)=0 by omega)]
   exact f2 _ _ _ _ _
end
noncomputable section
set_option maxRecDepth 4000
open Go Go.Abs
def S8:List FuncId:=[147,134]
def H8:FuncId->Option (List AV->Mem->R):=q1L E7 S8
abbrev E8:Env:=T.EH H8
theorem b1j:q1u E8:=q0Z b1i S8
theorem q3B (n to:Int):(q2A n to).flat:=by unfold q2A;split<;>simp[AV.flat,AV.lt,AV.lts,q0u]
section
variable {H:FuncId->Option (List AV->Mem->R)}
theorem j3B (h:H 147=some (q0y E7 147)) {w:Wd} (hw:w.ok) (s:Int) (m:Mem):run (T.EH H) (.fn 147) [.agg (q0u w s),.agg (q0u ⟨0,0⟩ 0)] m=some (.tup [.int .i64 (if 0<=s/\s<=18 then sgn w.val else 0),.int .i64 (if 0<=s/\s<=18 then 0 else 21)],m):=
 q0r h (by simp[AV.flat,AV.lt,AV.lts]) fun m2 _ _=>j3C hw s m2
theorem j9N (h:H 134=some (q0y E7 134)) {a b:Wd} (ha:a.ok) (hb:b.ok) {s t to:Int} (hs:0<=s/\s<=18) (ht:0<=t/\t<=18) (hto:0<=to/\to<=18) (m:Mem) :
  run (T.EH H) (.fn 134) [.agg (q0u a s),.agg (q0u b t),.int .i64 to] m=some (q2A (z3J a.val b.val (s+t-to)) to,m):=
 q0r h (q3B _ _) fun m2 _ _=>j9O ha hb hs ht hto m2
end
theorem j3m {w:Wd} (hw:w.ok) (s:Int) (m:Mem):Res m (run E8 (.fn 133) [.agg (q0u w s)] m) (.bool (decide ((0<=s/\s<=18)/\0<w.val))):=by
 have dc:=fun m=>j3B (H:=H8) rfl hw s m
 simp only[q0u]at dc⊢;by_cases h:0<=s/\s<=18
 ·simp only[if_pos h]at dc;simp only[z9w (H:=H8) rfl,T.f133,q1,p1,p2,q0o,AV.cells,Nat.reduceAdd,Nat.reduceLeDiff,q0K,q0d,ifV,q0w,AV.one,lcl,dc,decide_true];refine Res.eq ?_ ?_
  ·(repeat apply Fr.lays)
   exact Fr.refl _
  ·congr 1;unfold sgn;apply decide_eq_decide.mpr;split<;>(try split)<;>omega
 ·simp only[if_neg h]at dc;simp only[z9w (H:=H8) rfl,T.f133,q1,p1,p2,q0o,AV.cells,Nat.reduceAdd,Nat.reduceLeDiff,q0K,q0d,ifV,q0w,AV.one,lcl,dc,df (show ¬(21:Int)=0 by omega)];refine Res.eq ?_ ?_
  ·(repeat apply Fr.lays)
   exact Fr.refl _
  ·rw[df (by omega)]
def S9:List FuncId:=[133]
def H9:FuncId->Option (List AV->Mem->R):=q1L E8 S9
abbrev E9:Env:=T.EH H9
theorem b1k:q1u E9:=q0Z b1j S9
theorem z4p {H:FuncId->Option (List AV->Mem->R)} (h:H 133=some (q0y E8 133)) {w:Wd} (hw:w.ok) (s:Int) (m:Mem):run (T.EH H) (.fn 133) [.agg (q0u w s)] m=some (.bool (decide ((0<=s/\s<=18)/\0<w.val)),m):=
 q0r h (by simp[AV.flat,AV.lt]) fun m2 _ _=>j3m hw s m2
def q2Z (w:Wd) (s:Int):Int:=if 0<=s/\s<=18 then (if 0<w.val then 0 else 44) else 21
theorem j2R {w:Wd} (hw:w.ok) (s:Int) (m:Mem):Res m (run E9 (.fn 92) [.agg (q0u w s)] m) (.int .i64 (q2Z w s)):=by
 have dr:=fun m=>q3m (H:=H9) rfl w s m
 have ab:=fun m=>z4p (H:=H9) rfl hw s m
 unfold q2Z;by_cases h:0<=s/\s<=18
 ·rw[if_pos h];rw[dt h]at dr;by_cases h2:0<w.val
  ·rw[if_pos h2];rw[dt ⟨h,h2⟩]at ab;simp only[q0u]at dr ab⊢;simp only[z9L (H:=H9) rfl,T.f92,q1,p1,q0K,q0a,unA,wp,AV.one,AV.cells,Nat.reduceAdd,Nat.reduceLeDiff,lcl,dr,ab,xbt];simp only[j52 (H:=H9),T.a8U,wp];refine Res.eq ?_ rfl
   (repeat apply Fr.lays)
   exact Fr.refl _
  ·rw[if_neg h2];rw[df (by omega)]at ab;simp only[q0u]at dr ab⊢;simp only[z9L (H:=H9) rfl,T.f92,q1,p1,q0K,q0a,unA,wp,AV.one,AV.cells,Nat.reduceAdd,Nat.reduceLeDiff,lcl,dr,ab,xbt,xbf];refine Res.eq ?_ rfl
   (repeat apply Fr.lays)
   exact Fr.refl _
 ·rw[if_neg h];rw[df h]at dr;simp only[q0u]at dr⊢;simp only[z9L (H:=H9) rfl,T.f92,q1,p1,q0K,q0a,unA,wp,AV.one,AV.cells,Nat.reduceAdd,Nat.reduceLeDiff,lcl,dr,xbf];refine Res.eq ?_ rfl
  (repeat apply Fr.lays)
  exact Fr.refl _
def S10:List FuncId:=[92]
def H10:FuncId->Option (List AV->Mem->R):=q1L E9 S10
abbrev E10:Env:=T.EH H10
theorem a4B:q1u E10:=q0Z b1k S10
theorem q8d {H:FuncId->Option (List AV->Mem->R)} (h:H 92=some (q0y E9 92)) {w:Wd} (hw:w.ok) (s:Int) (m:Mem):run (T.EH H) (.fn 92) [.agg (q0u w s)] m=some (.int .i64 (q2Z w s),m):=
 q0r h (by simp[AV.flat,AV.lt]) fun m2 _ _=>j2R hw s m2
def q5l (w:Wd) (s:Int) (v:Wd) (t:Int) (n:Int):AV:=
 if (0<=s/\s<=18)/\(0<=n/\n<=18) then
  if 0<w.val then
   if q2Z v t=0 then q2A (z3J w.val v.val (s+t-n)) n else .tup [.agg (q0u ⟨0,0⟩ 0),.int .i64 (q2Z v t)]
  else .tup [.agg (q0u ⟨0,0⟩ 0),.int .i64 43]
 else .tup [.agg (q0u ⟨0,0⟩ 0),.int .i64 21]
theorem q6q {v:Wd} {t:Int} (h:q2Z v t=0):(0<=t/\t<=18)/\0<v.val:=by
 unfold q2Z at h;split at h
 ·split at h
  ·exact⟨‹_›,‹_›⟩
  ·omega
 ·omega
theorem j3A {w v:Wd} (hw:w.ok) (hv:v.ok) (s t n:Int) (m:Mem):Res m (run E10 (.fn 110) [.agg (q0u w s),.agg (q0u v t),.int .i64 n] m) (q5l w s v t n):=by
 have dr:=fun m=>q3m (H:=H10) rfl w s m
 have ab:=fun m=>z4p (H:=H10) rfl hw s m
 have rr:=fun m=>q8d (H:=H10) rfl hv t m
 unfold q5l;by_cases h:0<=s/\s<=18
 ·rw[dt h]at dr;by_cases hn:0<=n/\n<=18
  ·rw[if_pos ⟨h,hn⟩];by_cases h2:0<w.val
   ·rw[if_pos h2];rw[dt ⟨h,h2⟩]at ab;by_cases h3:q2Z v t=0
    ·rw[if_pos h3];have hr:=q6q h3;have dm:=fun m=>j9N (H:=H10) rfl hw hv h hr.1 hn m
     obtain⟨N,hN⟩:∃N,N=z3J w.val v.val (s+t-n):=⟨_,rfl⟩;rw[<-hN]at dm⊢;clear hN;unfold q2A at dm⊢;simp only[q0u]at dr ab rr;simp only[q6i (H:=H10) rfl,T.f110,pB,q1,p1,p2,q0o,AV.cells,Nat.reduceAdd,Nat.reduceLeDiff,q0K,q0a,ifV,unA,q0H,q0I,q0w,AV.one,over,lcl,q0u,dr,ab,xbt,df (show ¬n<0 by omega),df (show ¬(18:Int)<n by omega)];simp only[z1c (H:=H10),T.z9V,q1,p2,p1,q0o,AV.cells,Nat.reduceAdd,Nat.reduceLeDiff,q0a,q0H,q0I,q0w,AV.one,over,lcl,rr,h3,decide_true,xbt]
     simp only[q0u]at dm;cases hf:q0Q N with
     |true=>
      simp only[hf,if_true]at dm;simp only[z1d (H:=H10),T.z9W,q1,p1,q0d,q0H,q0I,q02,AV.one,over,AV.cells,Nat.reduceAdd,Nat.reduceLeDiff,lcl,dm];refine Res.eq ?_ rfl
      (repeat apply Fr.lays)
      exact Fr.refl _
     |false=>
      simp only[hf,xbq,if_false]at dm;simp only[z1d (H:=H10),T.z9W,q1,p1,q0d,q0H,q0I,q02,AV.one,over,AV.cells,Nat.reduceAdd,Nat.reduceLeDiff,lcl,dm,xbq];refine Res.eq ?_ rfl
      (repeat apply Fr.lays)
      exact Fr.refl _
    ·rw[if_neg h3];simp only[q0u]at dr ab rr;simp only[q6i (H:=H10) rfl,T.f110,pB,q1,p1,p2,q0o,AV.cells,Nat.reduceAdd,Nat.reduceLeDiff,q0K,q0a,ifV,unA,q0H,q0I,q0w,AV.one,over,lcl,q0u,dr,ab,xbt,df (show ¬n<0 by omega),df (show ¬(18:Int)<n by omega)];simp only[z1c (H:=H10),T.z9V,q1,p2,p1,q0o,AV.cells,Nat.reduceAdd,Nat.reduceLeDiff,q0a,q0H,q0I,q0w,AV.one,over,lcl,rr,df h3,xbf]
     refine Res.eq ?_ rfl
     (repeat apply Fr.lays)
     exact Fr.refl _
   ·rw[if_neg h2];rw[df (by omega)]at ab;simp only[q0u]at dr ab;simp only[q6i (H:=H10) rfl,T.f110,pB,q1,p1,p2,q0o,AV.cells,Nat.reduceAdd,Nat.reduceLeDiff,q0K,q0a,ifV,unA,q0H,q0I,q0w,AV.one,over,lcl,q0u,dr,ab,xbt,xbf,df (show ¬n<0 by omega),df (show ¬(18:Int)<n by omega)];refine Res.eq ?_ rfl
    (repeat apply Fr.lays)
    exact Fr.refl _
  ·rw[if_neg (by omega)];simp only[q0u]at dr;by_cases h4:n<0
   ·simp only[q6i (H:=H10) rfl,T.f110,pB,q1,p1,p2,q0o,AV.cells,Nat.reduceAdd,Nat.reduceLeDiff,q0K,q0a,ifV,unA,q0H,q0I,q0w,AV.one,over,lcl,q0u,dr,xbt,dt h4];refine Res.eq ?_ rfl
    (repeat apply Fr.lays)
    exact Fr.refl _
   ·simp only[q6i (H:=H10) rfl,T.f110,pB,q1,p1,p2,q0o,AV.cells,Nat.reduceAdd,Nat.reduceLeDiff,q0K,q0a,ifV,unA,q0H,q0I,q0w,AV.one,over,lcl,q0u,dr,xbt,df h4,dt (show (18:Int)<n by omega)];refine Res.eq ?_ rfl
    (repeat apply Fr.lays)
    exact Fr.refl _
 ·rw[if_neg (by omega)];rw[df h]at dr;simp only[q0u]at dr;simp only[q6i (H:=H10) rfl,T.f110,pB,q1,p1,p2,q0o,AV.cells,Nat.reduceAdd,Nat.reduceLeDiff,q0K,q0a,ifV,unA,q0H,q0I,q0w,AV.one,over,lcl,q0u,dr,xbf];refine Res.eq ?_ rfl
  (repeat apply Fr.lays)
  exact Fr.refl _
def S11:List FuncId:=[110]
def H11:FuncId->Option (List AV->Mem->R):=q1L E10 S11
abbrev E11:Env:=T.EH H11
theorem a4C:q1u E11:=q0Z a4B S11
abbrev D11:Do:=T.Rl H11
theorem z3d (w:Wd) (s:Int) (v:Wd) (t:Int) (n:Int):(q5l w s v t n).flat:=by
 unfold q5l
 (repeat' split)<;>first|exact q3B _ _|simp[AV.flat,AV.lt,AV.lts,q0u]
theorem j3z {H:FuncId->Option (List AV->Mem->R)} (h:H 110=some (q0y E10 110)) {w v:Wd} (hw:w.ok) (hv:v.ok) (s t n:Int) (m:Mem):run (T.EH H) (.fn 110) [.agg (q0u w s),.agg (q0u v t),.int .i64 n] m=some (q5l w s v t n,m):=
 q0r h (z3d _ _ _ _ _) fun m2 _ _=>j3A hw hv s t n m2
end
end Go.Proofs.YtlginbmjiecglaaGreatDoor
namespace Go.Abs
section
open Go
def dig (n i:Nat):Nat:=n / 4294967296 ^ i % 4294967296
def D16 (n:Nat):List AV:=(List.range 16).map fun i=>.int .u64 ((dig n i:Nat):Int)
theorem q2S (n i:Nat):dig n i<4294967296:=Nat.mod_lt _ (by omega)
theorem q1G (n:Nat):(D16 n).length=16:=by simp[D16]
theorem q07 (n:Nat) {i:Nat} (h:i<16):(D16 n)[i]? = some (.int .u64 ((dig n i:Nat):Int)):=by
 simp[D16,List.getElem?_map,List.getElem?_range h]
theorem q3u (n:Nat):(D16 n).all AV.one=true:=by
 simp[D16,List.all_map,List.all_eq_true,AV.one]
theorem q4n (n:Nat):(D16 n).take 16=D16 n:=xtl (by rw[q1G];exact xnr _)
theorem q26 (n:Nat):(D16 n).drop 16=[]:=List.drop_of_length_le (by rw[q1G];exact xnr _)
theorem q4m (n:Nat):AV.lts 0 (D16 n):=by simp[D16,AV.lts,AV.lt,List.range,List.range.loop]
theorem j9e {n N:Nat} (h:∀i,i<16->dig n i=dig N i):D16 n=D16 N:=by
 unfold D16;apply List.map_congr_left;intro i hi;rw[h i (List.mem_range.mp hi)]
theorem z16:[AV.int .u64 0,.int .u64 0,.int .u64 0,.int .u64 0,.int .u64 0,.int .u64 0,.int .u64 0,.int .u64 0,.int .u64 0,.int .u64 0,.int .u64 0,.int .u64 0,.int .u64 0,.int .u64 0,.int .u64 0,.int .u64 0]=D16 0:=by
 unfold D16 dig;simp[List.range,List.range.loop]
theorem j6x (n:Nat) {i:Nat} (h:i<16) (v:Int):over (D16 n) i (.int .u64 v) 1=some ((D16 n).set i (.int .u64 v)):=by
 unfold over;simp only[AV.cells,List.length_cons,List.length_nil,xnz,if_true,q1G,if_pos (show i+1<=16 by omega)];rw[List.set_eq_take_append_cons_drop,if_pos (by rw[q1G];exact h)];simp
theorem a4d {n N i:Nat} {v:Int} (h:i<16) (e:∀j,j<16->j≠i->dig n j=dig N j) (hv:v=((dig N i:Nat):Int)):(D16 n).set i (.int .u64 v)=D16 N:=by
 apply List.ext_getElem?;intro j;by_cases hj:j<16
 ·rw[q07 N hj,List.getElem?_set];by_cases hij:i=j
  ·subst hij;rw[if_pos rfl,if_pos (by rw[q1G];exact h),hv]
  ·rw[if_neg hij,q07 n hj,e j hj (fun x=>hij x.symm)]
 ·rw[List.getElem?_eq_none (by rw[List.length_set,q1G];omega),List.getElem?_eq_none (by rw[q1G];omega)]
theorem q3H {n N i:Nat} {v:Int} (h:i<16) (e:∀j,j<16->j≠i->dig n j=dig N j) (hv:v=((dig N i:Nat):Int)):over (D16 n) i (.int .u64 v) 1=some (D16 N):=by
 rw[j6x n h,a4d h e hv]
theorem j6w (n N:Nat):over (D16 n) 0 (.agg (D16 N)) 16=some (D16 N):=by
 unfold over;have hl:=q1G N;simp only[AV.cells,q3u,if_true];rw[if_pos hl,q1G,if_pos (by omega)];simp[q26]
theorem j1T (b o:Nat) {i:Nat} (h:i<16):ixA 1 16 ⟨b,o⟩ (i:Int)=some (.ptr (some ⟨b,o+i⟩)):=by
 unfold ixA;rw[if_pos (by omega),if_pos (by omega)];simp
theorem pow_add_one (i:Nat):4294967296 ^ (i+1)=4294967296 ^ i*4294967296:=Nat.pow_succ ..
theorem q9e (i:Nat):0<4294967296 ^ i:=Nat.pow_pos (by omega)
theorem q9x (n i j:Nat):dig (n % 4294967296 ^ i) j=if j<i then dig n j else 0:=by
 unfold dig;by_cases h:j<i
 ·rw[if_pos h];obtain⟨k,rfl⟩:∃k,i=j+1+k:=⟨i-(j+1),by omega⟩;rw[Nat.pow_add,pow_add_one,Nat.mul_assoc,Nat.mod_mul_right_div_self,Nat.mod_mul_right_mod]
 ·rw[if_neg h];have:n % 4294967296 ^ i<4294967296 ^ j:=Nat.lt_of_lt_of_le (Nat.mod_lt _ (q9e i)) (Nat.pow_le_pow_right (by omega) (by omega));rw[Nat.div_eq_of_lt this]
theorem q6F {n i:Nat}:∀j,j<16->j≠i->dig (n % 4294967296 ^ i) j=dig (n % 4294967296 ^ (i+1)) j:=by
 intro j _ hj;rw[q9x,q9x];by_cases h:j<i
 ·rw[if_pos h,if_pos (by omega)]
 ·rw[if_neg h,if_neg (by omega)]
theorem q8N (n i:Nat):dig (n % 4294967296 ^ (i+1)) i=dig n i:=by rw[q9x,if_pos (by omega)]
theorem z8D (n:Nat):D16 (n % 4294967296 ^ 16)=D16 n:=j9e fun i hi=>by rw[q9x,if_pos hi]
theorem q6f {n i d:Nat} (h:dig n i+d<4294967296):∀j,dig (n+d*4294967296 ^ i) j=dig n j+if j=i then d else 0:=by
 intro j;unfold dig at h⊢;have hB:=q9e i;by_cases h1:j=i
 ·subst h1;rw[if_pos rfl,Nat.add_mul_div_right _ _ hB];omega
 ·rw[if_neg h1,xna];by_cases h2:j<i
  ·obtain⟨k,rfl⟩:∃k,i=j+1+k:=⟨i-(j+1),by omega⟩;have e:d*4294967296 ^ (j+1+k)=(d*4294967296 ^ k*4294967296)*4294967296 ^ j:=by
    rw[Nat.pow_add,pow_add_one];simp only[Nat.mul_comm,Nat.mul_left_comm,Nat.mul_assoc]
   rw[e,Nat.add_mul_div_right _ _ (q9e j),Nat.add_mul_mod_self_right]
  ·obtain⟨k,rfl⟩:∃k,j=i+1+k:=⟨j-(i+1),by omega⟩;have e:4294967296 ^ (i+1+k)=4294967296 ^ i*(4294967296*4294967296 ^ k):=by rw[Nat.pow_add,pow_add_one,Nat.mul_assoc]
   rw[e,<-Nat.div_div_eq_div_mul,<-Nat.div_div_eq_div_mul,<-Nat.div_div_eq_div_mul,<-Nat.div_div_eq_div_mul,Nat.add_mul_div_right _ _ hB];congr 2;omega
theorem q2r (n i:Nat):n / 4294967296 ^ (i+1)=n / 4294967296 ^ i / 4294967296:=by rw[pow_add_one,Nat.div_div_eq_div_mul]
theorem q36 (n i:Nat):n % 4294967296 ^ (i+1)=n % 4294967296 ^ i+dig n i*4294967296 ^ i:=by
 rw[pow_add_one,Nat.mod_mul,dig,Nat.mul_comm]
section bin
variable {P:Program}
theorem q60 (t:TypeId) (x:Nat):q0S P .rem t (.int .u64 (x:Int)) (.int .u64 4294967296)=some (.int .u64 ((x % 4294967296:Nat):Int)):=by
 rw[q2a _ _ _ _ (by omega),Int.tmod_eq_emod_of_nonneg (by omega)];simp
theorem q5h (t:TypeId) {x:Nat} (h:x<18446744073709551616):q0S P .quo t (.int .u64 (x:Int)) (.int .u64 4294967296)=some (.int .u64 ((x / 4294967296:Nat):Int)):=by
 rw[q2D _ _ _ _ (by omega),Int.tdiv_eq_ediv_of_nonneg (by omega),wrap_u64 (by omega) (by omega)];simp
end bin
theorem j6u {a b:Nat} (ha:a<4294967296) (hb:b<4294967296):a*b<=18446744065119617025:=by
 have:=Nat.mul_le_mul (show a<=4294967295 by omega) (show b<=4294967295 by omega);omega
end
section
open Go
theorem q4j {x:Int} (h:0<=x) (h2:x<18446744073709551616):unA .xor (.int .u64 x)=some (.int .u64 (18446744073709551615-x)):=by
 obtain⟨n,rfl⟩:∃n:Nat,x=n:=⟨x.toNat,by omega⟩;have e:unA .xor (.int .u64 (n:Int))=some (.int .u64 (IntKind.wrap .u64 (((BitVec.ofInt 64 18446744073709551615 ^^^ BitVec.ofInt 64 (n:Int)).toNat:Nat):Int))):=rfl;rw[e,show BitVec.ofInt 64 18446744073709551615=BitVec.allOnes 64 from by decide,BitVec.allOnes_xor,BitVec.toNat_not,show BitVec.ofInt 64 (n:Int)=BitVec.ofNat 64 n from BitVec.ofInt_natCast ..,BitVec.toNat_ofNat,q0n]
 congr 2;omega
theorem j9D (a i:Nat):dig a (i / 32) / 2 ^ (i % 32) % 2=a / 2 ^ i % 2:=by
 have e:a / 2 ^ i=a / 4294967296 ^ (i / 32) / 2 ^ (i % 32):=by
  rw[Nat.div_div_eq_div_mul,show (4294967296:Nat)=2 ^ 32 from rfl,<-Nat.pow_mul,<-Nat.pow_add,Nat.div_add_mod]
 rw[e];unfold dig;obtain⟨y,hy⟩:∃y,y=a / 4294967296 ^ (i / 32):=⟨_,rfl⟩;obtain⟨s,hs⟩:∃s,s=i % 32:=⟨_,rfl⟩;rw[<-hy,<-hs];have h:s<32:=by omega
 clear hy hs e
 revert h
 revert s
 intro s h;have h32:s=0\/s=1\/s=2\/s=3\/s=4\/s=5\/s=6\/s=7\/s=8\/s=9\/s=10\/s=11\/s=12\/s=13\/s=14\/s=15\/s=16\/s=17\/s=18\/s=19\/s=20\/s=21\/s=22\/s=23\/s=24\/s=25\/s=26\/s=27\/s=28\/s=29\/s=30\/s=31:=by omega
 clear h;rcases h32 with rfl|rfl|rfl|rfl|rfl|rfl|rfl|rfl|rfl|rfl|rfl|rfl|rfl|rfl|rfl|rfl|rfl|rfl|rfl|rfl|rfl|rfl|rfl|rfl|rfl|rfl|rfl|rfl|rfl|rfl|rfl|rfl<;>(simp only[Nat.reducePow];omega)
theorem z2d (i:Nat):2 ^ i=2 ^ (i % 32)*4294967296 ^ (i / 32):=by
 rw[show (4294967296:Nat)=2 ^ 32 from rfl,<-Nat.pow_mul,<-Nat.pow_add,Nat.mod_add_div]
theorem j6A {s:Nat} (h:s<32):2 ^ s<4294967296:=by
 have:=Nat.pow_lt_pow_right (a:=2) (by omega) h;simpa using this
theorem j3u (Q i:Nat):dig (Q*2 ^ (i+1)) (i / 32)+2 ^ (i % 32)<4294967296:=by
 have e:Q*2 ^ (i+1)=Q*2*2 ^ (i % 32)*4294967296 ^ (i / 32):=by
  rw[Nat.pow_succ,z2d i];simp only[Nat.mul_comm,Nat.mul_assoc]
 unfold dig;rw[e,Nat.mul_div_cancel _ (q9e _)];obtain⟨s,hs⟩:∃s,s=i % 32:=⟨_,rfl⟩;rw[<-hs];have h:s<32:=by omega
 clear hs e
 revert h
 revert s
 intro s h;have h32:s=0\/s=1\/s=2\/s=3\/s=4\/s=5\/s=6\/s=7\/s=8\/s=9\/s=10\/s=11\/s=12\/s=13\/s=14\/s=15\/s=16\/s=17\/s=18\/s=19\/s=20\/s=21\/s=22\/s=23\/s=24\/s=25\/s=26\/s=27\/s=28\/s=29\/s=30\/s=31:=by omega
 clear h;rcases h32 with rfl|rfl|rfl|rfl|rfl|rfl|rfl|rfl|rfl|rfl|rfl|rfl|rfl|rfl|rfl|rfl|rfl|rfl|rfl|rfl|rfl|rfl|rfl|rfl|rfl|rfl|rfl|rfl|rfl|rfl|rfl|rfl<;>(simp only[Nat.reducePow];omega)
theorem z0P {P:Program} (t:TypeId) {x n:Nat} (hx:x<4294967296) (hn:n<32):q0S P .shr t (.int .u64 (x:Int)) (.int .u64 (n:Int))=some (.int .u64 ((x / 2 ^ n:Nat):Int)):=by
 rw[q9r t n (by omega)];congr 2
theorem z8U {P:Program} (t:TypeId) {n:Nat} (hn:n<32):q0S P .shl t (.int .u64 1) (.int .u64 (n:Int))=some (.int .u64 ((2 ^ n:Nat):Int)):=by
 rw[q9q t n (by omega)];congr 2;have:=j6A hn;rw[Int.one_mul,show (2:Int) ^ n=((2 ^ n:Nat):Int) from (Int.natCast_pow 2 n).symm];obtain⟨w,hw⟩:∃w,w=2 ^ n:=⟨_,rfl⟩;rw[<-hw]at this⊢;omega
theorem j9M {x b bit:Nat} (hb:0<b) :
  (b<=2*(x % b)+bit->bit<=1->(2*x+bit) / b=2*(x / b)+1/\(2*x+bit) % b=2*(x % b)+bit-b)/\
  (2*(x % b)+bit<b->(2*x+bit) / b=2*(x / b)/\(2*x+bit) % b=2*(x % b)+bit):=by
 have h:=Nat.div_add_mod x b;have hl:=Nat.mod_lt x hb;obtain⟨q,hq⟩:∃q,q=x / b:=⟨_,rfl⟩;obtain⟨r,hr⟩:∃r,r=x % b:=⟨_,rfl⟩;rw[<-hq,<-hr]at h⊢;rw[<-hr]at hl;constructor
 ·intro h1 h2;apply (Nat.div_mod_unique hb).mpr;rw[Nat.mul_add,Nat.mul_left_comm];omega
 ·intro h1;apply (Nat.div_mod_unique hb).mpr;rw[Nat.mul_left_comm];omega
theorem j6c (a i:Nat):a / 2 ^ i=2*(a / 2 ^ (i+1))+a / 2 ^ i % 2:=by
 rw[Nat.pow_succ,<-Nat.div_div_eq_div_mul];omega
end
section
open Go
def q1J (x:Int):List AV:=.bool (decide (x<0))::D16 x.natAbs
theorem j2s (x:AV) (cs:List AV) (i:Nat) (v:AV) (n:Nat):over (x::cs) (i+1) v n=(over cs i v n).map (x::·):=by
 unfold over;cases v.cells with
 |none=>rfl
 |some vs=>
  simp only;by_cases h:vs.length=n
  ·simp only[if_pos h,List.length_cons];by_cases h2:i+n<=cs.length
   ·rw[if_pos (by omega),if_pos h2];simp[show i+1+n=i+n+1 by omega]
   ·rw[if_neg (by omega),if_neg h2];rfl
  ·simp only[if_neg h];rfl
theorem b0L (x:AV) (b:Bool) (a n:Nat):over (x::D16 a) 0 (.agg (.bool b::D16 n)) 17=some (.bool b::D16 n):=by
 unfold over;simp only[AV.cells,List.all_cons,AV.one,Bool.true_and,q3u,if_true,List.length_cons,q1G,List.take_zero,List.nil_append,xnz];rw[if_pos (xnr _),List.drop_succ_cons,q26,List.append_nil]
theorem z9d {n i:Nat} (h:n<4294967296 ^ i):dig n i=0:=by unfold dig;rw[Nat.div_eq_of_lt h,Nat.zero_mod]
theorem j6y {n i d:Nat} (hi:i<16) (h:n<4294967296 ^ i) (hd:d<4294967296):over (D16 n) i (.int .u64 (d:Int)) 1=some (D16 (n+d*4294967296 ^ i)):=by
 have z:=z9d h;have a:=q6f (n:=n) (i:=i) (d:=d) (by omega);exact q3H hi (fun j _ hj=>by rw[a j,if_neg hj];rfl) (by rw[a i,if_pos rfl,z,xnz])
theorem q4G (x:AV) {n i d:Nat} (hi:i<16) (h:n<4294967296 ^ i) (hd:d<4294967296):over (x::D16 n) (i+1) (.int .u64 (d:Int)) 1=some (x::D16 (n+d*4294967296 ^ i)):=by
 rw[j2s,j6y hi h hd];rfl
theorem j1U (b:Nat):ixA 1 16 ⟨b,1⟩ 0=some (.ptr (some ⟨b,1⟩)):=by simp[ixA]
theorem j1V (b:Nat):ixA 1 16 ⟨b,1⟩ 1=some (.ptr (some ⟨b,2⟩)):=by simp[ixA]
theorem j1W (b:Nat):ixA 1 16 ⟨b,1⟩ 2=some (.ptr (some ⟨b,3⟩)):=by simp[ixA]
theorem j1X (b:Nat):ixA 1 16 ⟨b,1⟩ 3=some (.ptr (some ⟨b,4⟩)):=by simp[ixA]
theorem b1F (b:Nat) {i:Nat} (h:i<16):ixA 1 16 ⟨b,1⟩ (i:Int)=some (.ptr (some ⟨b,i+1⟩)):=by rw[j1T _ _ h,Nat.add_comm]
theorem q34 (x:Int):AV.lts 0 (q1J x):=by simp[q1J,AV.lts,AV.lt,q4m]
def q4l (x:Int):Wd×Bool:=
 if q0Q x=true then (Wd.of x,true) else if 0<=x/\x<340282366920938463463374607431768211456 then (⟨x / 18446744073709551616-18446744073709551616,x % 18446744073709551616⟩,false) else (⟨0,0⟩,false)
theorem b2l (n:Nat):dig n 0=n % 4294967296:=by unfold dig;rw[Nat.pow_zero,Nat.div_one]
theorem b2J (n:Nat):dig n 1=n / 4294967296 % 4294967296:=by unfold dig;rw[Nat.pow_one]
theorem b2K (n:Nat):dig n 2=n / 18446744073709551616 % 4294967296:=rfl
theorem b2L (n:Nat):dig n 3=n / 79228162514264337593543950336 % 4294967296:=rfl
abbrev lcd:=ai @lcl<|ai @q1G<|ai @q4n<|ai @q26<|ai @q3u<|ai @j6w @b0L
end
end Go.Abs
namespace Go.Proofs.YtlginbmjiecglaaGreatDoor
section
set_option maxRecDepth 4000
open Go Go.Abs
theorem j2C (a b:Nat) (m:Mem):∀(d i c:Nat),i+d=16->(a+b) / 4294967296 ^ i=a / 4294967296 ^ i+b / 4294967296 ^ i+c->c<=1->
  Res m (D11.gor 454656 [.ptr (some ⟨m.next,0⟩),.ptr (some ⟨m.next+1,0⟩),.ptr (some ⟨m.next+1+1,0⟩),.ptr (some ⟨m.next+1+1+1,0⟩),.int .u64 (c:Int),.int .i64 (i:Int)]
   ((((m.lay (.cells (D16 a) false)).lay (.cells (D16 b) false)).lay (.cells (D16 0) false)).lay (.cells (D16 ((a+b) % 4294967296 ^ i)) false))) (.agg (D16 (a+b))):=by
 intro d;induction d with
 |zero=>
  intro i c hi _ _;have:i=16:=by omega
  subst this;simp only[z1e (H:=H11),T.z9X,p2,q0a,wp,df (show ¬((16:Nat):Int)<16 by omega)];simp only[z90 (H:=H11),T.j76,q1,q0H,q0I,wp,Nat.reduceLeDiff,lcd,z8D];refine Res.eq ?_ rfl
  (repeat apply Fr.lays)
  exact Fr.refl _
 |succ d ih=>
  intro i c hi hc hc1;have h16:i<16:=by omega
  have la:=q2S a i;have lb:=q2S b i;obtain⟨s,hs⟩:∃s,s=dig a i+dig b i+c:=⟨_,rfl⟩;have e1:dig (a+b) i=s % 4294967296:=by unfold dig at hs⊢;omega
  have e2:(a+b) / 4294967296 ^ (i+1)=a / 4294967296 ^ (i+1)+b / 4294967296 ^ (i+1)+s / 4294967296:=by
   rw[q2r,q2r,q2r];unfold dig at hs;omega
  have hw:IntKind.wrap .u64 (IntKind.wrap .u64 ((dig a i:Int)+(dig b i:Int))+(c:Int))=((s:Nat):Int):=by rw[q0n,q0n];omega
  have ov:over (D16 ((a+b) % 4294967296 ^ i)) i (.int .u64 ((s % 4294967296:Nat):Int)) 1=some (D16 ((a+b) % 4294967296 ^ (i+1))):=
   q3H h16 q6F (by rw[q8N,e1])
  simp only[z1e (H:=H11),T.z9X,p2,q0a,wp,dt (show (i:Int)<16 by omega)];simp only[z9Y (H:=H11),T.j74,p2,q1,wp,lcd,j1T _ _ h16,q07 _ h16,hw,q60,q5h _ (show s<18446744073709551616 by omega),ov];simp only[z9Z (H:=H11),T.j75,p2,wp,show (i:Int)+1=((i+1:Nat):Int) by omega,wrap_i64 (n:=((i+1:Nat):Int)) (by omega) (by omega)]
  exact ih (i+1) (s / 4294967296) (by omega) e2 (by omega)
theorem a3E (a b:Nat) (m:Mem):Res m (run E11 (.fn 111) [.agg (D16 a),.agg (D16 b)] m) (.agg (D16 (a+b))):=by
 have lp:=j2C a b m 16 0 0 rfl (by simp) (by omega);rw[Nat.pow_zero,Nat.mod_one]at lp;simp only[j94 (H:=H11) rfl,T.f111,pB,q0K,wp,AV.cells,lcd,z16];exact lp
theorem j2U {a b N:Nat} (hN:a=b+N) (m:Mem):∀(d i c:Nat),i+d=16->a / 4294967296 ^ i=b / 4294967296 ^ i+N / 4294967296 ^ i+c->c<=1->
  Res m (D11.gor 462848 [.ptr (some ⟨m.next,0⟩),.ptr (some ⟨m.next+1,0⟩),.ptr (some ⟨m.next+1+1,0⟩),.ptr (some ⟨m.next+1+1+1,0⟩),.int .u64 (c:Int),.int .i64 (i:Int)]
   ((((m.lay (.cells (D16 a) false)).lay (.cells (D16 b) false)).lay (.cells (D16 0) false)).lay (.cells (D16 (N % 4294967296 ^ i)) false))) (.agg (D16 N)):=by
 intro d;induction d with
 |zero=>
  intro i c hi _ _;have:i=16:=by omega
  subst this;simp only[z1g (H:=H11),T.z97,p2,q0a,wp,df (show ¬((16:Nat):Int)<16 by omega)];simp only[j0a (H:=H11),T.j8c,q1,q0H,q0I,wp,Nat.reduceLeDiff,lcd,z8D];refine Res.eq ?_ rfl
  (repeat apply Fr.lays)
  exact Fr.refl _
 |succ d ih=>
  intro i c hi hc hc1;have h16:i<16:=by omega
  have la:=q2S a i;have lb:=q2S b i;obtain⟨s,hs⟩:∃s,s=dig a i+4294967296-dig b i-c:=⟨_,rfl⟩;have e1:dig N i=s % 4294967296:=by unfold dig at hs⊢;omega
  have e2:a / 4294967296 ^ (i+1)=b / 4294967296 ^ (i+1)+N / 4294967296 ^ (i+1)+(1-s / 4294967296):=by
   rw[q2r,q2r,q2r];unfold dig at hs;omega
  have hw:IntKind.wrap .u64 (IntKind.wrap .u64 (IntKind.wrap .u64 ((dig a i:Int)+4294967296)-(dig b i:Int))-(c:Int))=((s:Nat):Int):=by rw[q0n,q0n,q0n];omega
  have hw2:IntKind.wrap .u64 (1-((s / 4294967296:Nat):Int))=((1-s / 4294967296:Nat):Int):=by rw[q0n];omega
  have ov:over (D16 (N % 4294967296 ^ i)) i (.int .u64 ((s % 4294967296:Nat):Int)) 1=some (D16 (N % 4294967296 ^ (i+1))):=
   q3H h16 q6F (by rw[q8N,e1])
  simp only[z1g (H:=H11),T.z97,p2,q0a,wp,dt (show (i:Int)<16 by omega)];simp only[z98 (H:=H11),T.j8a,p2,q1,wp,lcd,j1T _ _ h16,q07 _ h16,hw,q60,q5h _ (show s<18446744073709551616 by omega),ov,hw2];simp only[z99 (H:=H11),T.j8b,p2,wp,show (i:Int)+1=((i+1:Nat):Int) by omega,wrap_i64 (n:=((i+1:Nat):Int)) (by omega) (by omega)]
  exact ih (i+1) (1-s / 4294967296) (by omega) e2 (by omega)
theorem a3X {a b:Nat} (h:b<=a) (m:Mem):Res m (run E11 (.fn 113) [.agg (D16 a),.agg (D16 b)] m) (.agg (D16 (a-b))):=by
 have lp:=j2U (N:=a-b) (show a=b+(a-b) by omega) m 16 0 0 rfl (by simp;omega) (by omega);rw[Nat.pow_zero,Nat.mod_one]at lp;simp only[j96 (H:=H11) rfl,T.f113,pB,q0K,wp,AV.cells,lcd,z16];exact lp
def q8r (a b:Nat):Int:=if a<b then -1 else if a=b then 0 else 1
theorem j2D (a b:Nat) (m:Mem):∀(k:Nat),k<=16->a / 4294967296 ^ k=b / 4294967296 ^ k->
  Res m (D11.gor 458752 [.ptr (some ⟨m.next,0⟩),.ptr (some ⟨m.next+1,0⟩),.int .i64 ((k:Int)-1)]
   ((m.lay (.cells (D16 a) false)).lay (.cells (D16 b) false))) (.int .i64 (q8r a b)):=by
 intro k;induction k with
 |zero=>
  intro _ h;rw[Nat.pow_zero,Nat.div_one,Nat.div_one]at h;simp only[z1f (H:=H11),T.z92,p2,q0a,wp,df (show ¬((0:Nat):Int)-1>=0 by omega)];simp only[z96 (H:=H11),T.j79,wp];refine Res.eq ?_ (by unfold q8r;rw[if_neg (by omega),if_pos h])
  (repeat apply Fr.lays)
  exact Fr.refl _
 |succ k ih=>
  intro hk h;have h16:k<16:=by omega
  rw[q2r,q2r]at h;simp only[show ((k+1:Nat):Int)-1=(k:Int) by omega];simp only[z1f (H:=H11),T.z92,p2,q0a,wp,dt (show (k:Int)>=0 by omega)];by_cases e:dig a k=dig b k
  ·have e':decide ((dig a k:Int)=(dig b k:Int))=true:=dt (by omega);simp only[q7P (H:=H11),T.z4K,p2,q1,q0a,wp,lcd,j1T _ _ h16,q07 _ h16,e',xbt];simp only[z95 (H:=H11),T.j78,p2,wp,wrap_i64 (n:=(k:Int)-1) (by omega) (by omega)];exact ih (by omega) (by unfold dig at e;omega)
  ·have e':decide ((dig a k:Int)=(dig b k:Int))=false:=df (by omega);by_cases l:dig a k<dig b k
   ·have l':decide ((dig a k:Int)<(dig b k:Int))=true:=dt (by omega);simp only[q7P (H:=H11),T.z4K,p2,q1,q0a,wp,lcd,j1T _ _ h16,q07 _ h16,e',l',xbf];have:a<b:=by
     apply Classical.byContradiction;intro hn;have:=Nat.div_le_div_right (c:=4294967296 ^ k) (show b<=a by omega);unfold dig at l;omega
    refine Res.eq ?_ (by unfold q8r;rw[if_pos this])
    (repeat apply Fr.lays)
    exact Fr.refl _
   ·have l':decide ((dig a k:Int)<(dig b k:Int))=false:=df (by omega);simp only[q7P (H:=H11),T.z4K,p2,q1,q0a,wp,lcd,j1T _ _ h16,q07 _ h16,e',l',xbf];simp only[z94 (H:=H11),T.j77,wp];have:b<a:=by
     apply Classical.byContradiction;intro hn;have:=Nat.div_le_div_right (c:=4294967296 ^ k) (show a<=b by omega);unfold dig at l e;omega
    refine Res.eq ?_ (by unfold q8r;rw[if_neg (by omega),if_neg (by omega)])
    (repeat apply Fr.lays)
    exact Fr.refl _
theorem a3H {a b:Nat} (ha:a<4294967296 ^ 16) (hb:b<4294967296 ^ 16) (m:Mem):Res m (run E11 (.fn 112) [.agg (D16 a),.agg (D16 b)] m) (.int .i64 (q8r a b)):=by
 have lp:=j2D a b m 16 (by omega) (by rw[Nat.div_eq_of_lt ha,Nat.div_eq_of_lt hb]);simp only[j95 (H:=H11) rfl,T.f112,q0K,wp,AV.cells,lcd];exact lp
end
section
set_option maxRecDepth 4000
open Go Go.Abs
theorem b0W (n i v:Nat) (hv:v<4294967296):∃N,N+dig n i*4294967296 ^ i=n+v*4294967296 ^ i/\(∀j,j<16->j≠i->dig n j=dig N j)/\dig N i=v:=by
 have hle:dig n i*4294967296 ^ i<=n:=by
  have h1:dig n i<=n / 4294967296 ^ i:=Nat.mod_le _ _;exact xnt0 (Nat.mul_le_mul_right _ h1) (Nat.div_mul_le_self _ _)
 obtain⟨n0,hn0⟩:∃n0,n=n0+dig n i*4294967296 ^ i:=⟨n-dig n i*4294967296 ^ i,by omega⟩;have d0:dig n0 i=0:=by
  obtain⟨t,ht⟩:∃t,t=dig n i:=⟨_,rfl⟩;have hq:n / 4294967296 ^ i=n0 / 4294967296 ^ i+t:=by
   rw[hn0,<-ht,Nat.add_mul_div_right _ _ (q9e i)]
  have h1:t=(n0 / 4294967296 ^ i+t) % 4294967296:=by rw[<-hq];exact ht
  have h2:=q2S n0 i;have h3:=q2S n i;unfold dig at h2⊢;omega
 have s1:=q6f (n:=n0) (i:=i) (d:=dig n i) (by have:=q2S n i;omega);rw[<-hn0]at s1;have s2:=q6f (n:=n0) (i:=i) (d:=v) (by omega);refine⟨n0+v*4294967296 ^ i,by omega,fun j _ hj=>?_,?_⟩
 ·rw[s1 j,s2 j,if_neg hj,if_neg hj]
 ·rw[s2 i,if_pos rfl,d0,xnz]
theorem z8f (a b base:Nat) (m:Mem) {i:Nat} (hi:i<8):∀(d k c V:Nat),k+d=8->c<4294967296->V+c*4294967296 ^ (i+k)=base+dig a i*(b % 4294967296 ^ k)*4294967296 ^ i->
  ∃V' c',c'<4294967296/\V'+c'*4294967296 ^ (i+8)=base+dig a i*(b % 4294967296 ^ 8)*4294967296 ^ i/\
  D11.gor 626690 [.ptr (some ⟨m.next,0⟩),.ptr (some ⟨m.next+1,0⟩),.ptr (some ⟨m.next+1+1,0⟩),.ptr (some ⟨m.next+1+1+1,0⟩),.int .i64 (i:Int),.int .u64 (c:Int),.int .i64 (k:Int)]
   ((((m.lay (.cells (D16 a) false)).lay (.cells (D16 b) false)).lay (.cells (D16 0) false)).lay (.cells (D16 V) false)) =
  D11.gor 626693 [.ptr (some ⟨m.next,0⟩),.ptr (some ⟨m.next+1,0⟩),.ptr (some ⟨m.next+1+1,0⟩),.ptr (some ⟨m.next+1+1+1,0⟩),.int .i64 (i:Int)]
   ((((m.lay (.cells (D16 a) false)).lay (.cells (D16 b) false)).lay (.cells (D16 0) false)).lay (.cells (D16 V') false)):=by
 intro d;induction d with
 |zero=>
  intro k c V hk hc hV;have:k=8:=by omega
  subst this;refine⟨V,c,hc,hV,?_⟩;simp only[z1A (H:=H11),T.j0H,p2,q0a,wp,df (show ¬((8:Nat):Int)<8 by omega)]
 |succ d ih=>
  intro k c V hk hc hV;have h16:i+k<16:=by omega
  have lt:=q2S V (i+k);have lm:=j6u (q2S a i) (q2S b k);obtain⟨X,hX⟩:∃X,X=dig a i*dig b k:=⟨_,rfl⟩;rw[<-hX]at lm;obtain⟨s,hs⟩:∃s,s=dig V (i+k)+X+c:=⟨_,rfl⟩;obtain⟨N,hN,o1,o2⟩:=b0W V (i+k) (s % 4294967296) (Nat.mod_lt _ (by omega));have inv:N+s / 4294967296*4294967296 ^ (i+(k+1))=base+dig a i*(b % 4294967296 ^ (k+1))*4294967296 ^ i:=by
   have e3:dig a i*(b % 4294967296 ^ k+dig b k*4294967296 ^ k)*4294967296 ^ i=dig a i*(b % 4294967296 ^ k)*4294967296 ^ i+X*4294967296 ^ (i+k):=by
    rw[Nat.mul_add,Nat.add_mul,hX,Nat.pow_add];simp only[Nat.mul_comm,Nat.mul_left_comm,Nat.mul_assoc]
   rw[show i+(k+1)=(i+k)+1 by omega,pow_add_one,q36,e3];have e1:s*4294967296 ^ (i+k)=dig V (i+k)*4294967296 ^ (i+k)+X*4294967296 ^ (i+k)+c*4294967296 ^ (i+k):=by rw[hs,Nat.add_mul,Nat.add_mul]
   have e2:s*4294967296 ^ (i+k)=s % 4294967296*4294967296 ^ (i+k)+s / 4294967296*(4294967296 ^ (i+k)*4294967296):=by
    rw[show s / 4294967296*(4294967296 ^ (i+k)*4294967296)=(4294967296*(s / 4294967296))*4294967296 ^ (i+k) by simp only[Nat.mul_comm,Nat.mul_left_comm,Nat.mul_assoc],<-Nat.add_mul,Nat.mod_add_div]
   omega
  have hw:IntKind.wrap .u64 (IntKind.wrap .u64 ((dig V (i+k):Int)+IntKind.wrap .u64 ((dig a i:Int)*(dig b k:Int)))+(c:Int))=((s:Nat):Int):=by
   rw[<-Int.natCast_mul,<-hX,q0n,q0n,q0n];omega
  have hik:IntKind.wrap .i64 ((i:Int)+(k:Int))=((i+k:Nat):Int):=by rw[wrap_i64 (by omega) (by omega)];omega
  have ov:over (D16 V) (i+k) (.int .u64 ((s % 4294967296:Nat):Int)) 1=some (D16 N):=q3H h16 o1 (by rw[o2]);obtain⟨V',c',r1,r2,r3⟩:=ih (k+1) (s / 4294967296) N (by omega) (by omega) inv;refine⟨V',c',r1,r2,?_⟩;simp only[z1A (H:=H11),T.j0H,p2,q0a,wp,dt (show (k:Int)<8 by omega)];simp only[j0I (H:=H11),T.j8u,p2,q1,wp,lcd,hik,j1T _ _ h16,j1T _ _ (show i<16 by omega),j1T _ _ (show k<16 by omega),q07 _ h16,q07 _ (show i<16 by omega),q07 _ (show k<16 by omega),hw,q60,q5h _ (show s<18446744073709551616 by omega),ov]
  simp only[j0J (H:=H11),T.j8v,p2,wp,show (k:Int)+1=((k+1:Nat):Int) by omega,wrap_i64 (n:=((k+1:Nat):Int)) (by omega) (by omega)];exact r3
theorem j2M {a b:Nat} (ha:a<4294967296 ^ 8) (hb:b<4294967296 ^ 7) (m:Mem):∀(d i:Nat),i+d=8->
  Res m (D11.gor 626688 [.ptr (some ⟨m.next,0⟩),.ptr (some ⟨m.next+1,0⟩),.ptr (some ⟨m.next+1+1,0⟩),.ptr (some ⟨m.next+1+1+1,0⟩),.int .i64 (i:Int)]
   ((((m.lay (.cells (D16 a) false)).lay (.cells (D16 b) false)).lay (.cells (D16 0) false)).lay (.cells (D16 (a % 4294967296 ^ i*b)) false))) (.agg (D16 (a*b))):=by
 have hb8:b % 4294967296 ^ 8=b:=Nat.mod_eq_of_lt (Nat.lt_of_lt_of_le hb (Nat.pow_le_pow_right (by omega) (by omega)));intro d;induction d with
 |zero=>
  intro i hi;have:i=8:=by omega
  subst this;simp only[z1z (H:=H11),T.j0F,p2,q0a,wp,df (show ¬((8:Nat):Int)<8 by omega)];simp only[j0L (H:=H11),T.j8x,q1,q0H,q0I,wp,Nat.reduceLeDiff,lcd,Nat.mod_eq_of_lt ha];refine Res.eq ?_ rfl
  (repeat apply Fr.lays)
  exact Fr.refl _
 |succ d ih=>
  intro i hi;obtain⟨V',c',r1,r2,r3⟩:=z8f a b (a % 4294967296 ^ i*b) m (show i<8 by omega) 8 0 0 (a % 4294967296 ^ i*b) rfl (by omega) (by rw[Nat.pow_zero,Nat.mod_one,Nat.mul_zero,Nat.zero_mul,Nat.zero_mul]);have e:a % 4294967296 ^ i*b+dig a i*(b % 4294967296 ^ 8)*4294967296 ^ i=a % 4294967296 ^ (i+1)*b:=by
   rw[hb8,q36,Nat.add_mul,Nat.mul_right_comm]
  rw[e]at r2;have lt:a % 4294967296 ^ (i+1)*b<4294967296 ^ (i+8):=by
   have h1:a % 4294967296 ^ (i+1)<4294967296 ^ (i+1):=Nat.mod_lt _ (q9e _);have h2:4294967296 ^ (i+8)=4294967296 ^ (i+1)*4294967296 ^ 7:=by rw[<-Nat.pow_add,show i+1+7=i+8 by omega]
   rw[h2];exact Nat.mul_lt_mul'' h1 hb
  have c0:c'=0:=by
   apply Classical.byContradiction;intro h;have:=Nat.mul_le_mul_right (4294967296 ^ (i+8)) (show 1<=c' by omega);rw[Nat.one_mul]at this;omega
  subst c0;rw[Nat.zero_mul,xna]at r2;rw[r2]at r3;simp only[z1z (H:=H11),T.j0F,p2,q0a,wp,dt (show (i:Int)<8 by omega)];simp only[j0G (H:=H11),T.j8t,wp];rw[show (0:Int)=((0:Nat):Int) from rfl,r3];simp only[j0K (H:=H11),T.j8w,p2,wp,show (i:Int)+1=((i+1:Nat):Int) by omega,wrap_i64 (n:=((i+1:Nat):Int)) (by omega) (by omega)];exact ih (i+1) (by omega)
theorem a3P {a b:Nat} (ha:a<4294967296 ^ 8) (hb:b<4294967296 ^ 7) (m:Mem):Res m (run E11 (.fn 153) [.agg (D16 a),.agg (D16 b)] m) (.agg (D16 (a*b))):=by
 have lp:=j2M ha hb m 8 0 rfl;rw[Nat.pow_zero,Nat.mod_one,Nat.zero_mul]at lp;simp only[a0m (H:=H11) rfl,T.f153,pB,q0K,wp,AV.cells,lcd,z16];exact lp
end
section
set_option maxRecDepth 4000
open Go Go.Abs
def S12:List FuncId:=[111,113,112,153]
noncomputable def H12:FuncId->Option (List AV->Mem->R):=q1L E11 S12
noncomputable abbrev E12:Env:=T.EH H12
theorem a4D:q1u E12:=q0Z a4C S12
noncomputable abbrev D12:Do:=T.Rl H12
section
variable {H:FuncId->Option (List AV->Mem->R)}
theorem z0s (h:H 111=some (q0y E11 111)) (a b:Nat) (m:Mem):run (T.EH H) (.fn 111) [.agg (D16 a),.agg (D16 b)] m=some (.agg (D16 (a+b)),m):=
 q0r h (by simp[AV.flat,AV.lt,q4m]) fun m2 _ _=>a3E a b m2
theorem z4c (h:H 113=some (q0y E11 113)) {a b:Nat} (hh:b<=a) (m:Mem):run (T.EH H) (.fn 113) [.agg (D16 a),.agg (D16 b)] m=some (.agg (D16 (a-b)),m):=
 q0r h (by simp[AV.flat,AV.lt,q4m]) fun m2 _ _=>a3X hh m2
theorem z3V (h:H 112=some (q0y E11 112)) {a b:Nat} (ha:a<4294967296 ^ 16) (hb:b<4294967296 ^ 16) (m:Mem):run (T.EH H) (.fn 112) [.agg (D16 a),.agg (D16 b)] m=some (.int .i64 (q8r a b),m):=
 q0r h (by simp[AV.flat,AV.lt]) fun m2 _ _=>a3H ha hb m2
theorem j2L (h:H 153=some (q0y E11 153)) {a b:Nat} (ha:a<4294967296 ^ 8) (hb:b<4294967296 ^ 7) (m:Mem):run (T.EH H) (.fn 153) [.agg (D16 a),.agg (D16 b)] m=some (.agg (D16 (a*b)),m):=
 q0r h (by simp[AV.flat,AV.lt,q4m]) fun m2 _ _=>a3P ha hb m2
end
theorem z3E (b o:Nat):ixA 1 16 ⟨b,o⟩ 0=some (.ptr (some ⟨b,o⟩)):=by simp[ixA]
theorem b1m:q2x Tryz.prog 121 []=some (.agg (D16 0)):=by rw[<-z16];kernel_rfl
theorem j81 (cs:List AV) (i:Nat):z0q Tryz.prog 26 cs i=cs[i]?:=by kernel_rfl
theorem b2N (x y:Int):eqA Tryz.prog 49 26 (.int .u64 x) (.int .u64 y)=some (x==y):=by kernel_rfl
theorem z9c {a b:Nat} (ha:a<4294967296 ^ 16) (hb:b<4294967296 ^ 16):∀(k i:Nat),i+k=16->q37 Tryz.prog (eqA Tryz.prog 49) 26 1 (D16 a) (D16 b) k i=some (decide (a / 4294967296 ^ i=b / 4294967296 ^ i)):=by
 intro k;induction k with
 |zero=>
  intro i hi;have:i=16:=by omega
  subst this;rw[Nat.div_eq_of_lt ha,Nat.div_eq_of_lt hb];rfl
 |succ k ih=>
  intro i hi;have h16:i<16:=by omega
  unfold q37;rw[j81,j81,Nat.mul_one,q07 _ h16,q07 _ h16];simp only[b2N];have hr:=ih (i+1) (by omega);rw[q2r,q2r]at hr;by_cases e:dig a i=dig b i
  ·have e2:((dig a i:Int)==(dig b i:Int))=true:=by rw[e];exact beq_self_eq_true _
   rw[e2];simp only;rw[hr];congr 1;apply decide_eq_decide.mpr;unfold dig at e;omega
  ·have e2:((dig a i:Int)==(dig b i:Int))=false:=by
    apply beq_eq_false_iff_ne.mpr;omega
   rw[e2];simp only;rw[df];intro h;exact e (by unfold dig;rw[h])
theorem j9L {a b:Nat} (ha:a<4294967296 ^ 16) (hb:b<4294967296 ^ 16):q0S Tryz.prog .eql 121 (.agg (D16 a)) (.agg (D16 b))=some (.bool (decide (a=b))):=by
 have h:∀xs ys:List AV,q0S Tryz.prog .eql 121 (.agg xs) (.agg ys)=(match q37 Tryz.prog (eqA Tryz.prog 49) 26 1 xs ys 16 0 with|some b=>some (.bool b)|none=>none):=fun xs ys=>by kernel_rfl
 rw[h,z9c ha hb 16 0 rfl,Nat.pow_zero,Nat.div_one,Nat.div_one]
theorem j60 {a:Nat} (ha:a<4294967296 ^ 16) (m:Mem):Res m (run E12 (.fn 70) [.agg (D16 a)] m) (.bool (decide (a=0))):=by
 simp only[a5M (H:=H12) rfl,T.f70,q1,p1,p2,AV.cells,Nat.reduceLeDiff,q0K,q0w,lcd,b1m,j9L ha (q9e 16)];refine Res.eq ?_ rfl
 (repeat apply Fr.lays)
 exact Fr.refl _
theorem q51 {k:Nat} (hk:k<=60):10 ^ k<4294967296 ^ 7:=Nat.lt_of_le_of_lt (Nat.pow_le_pow_right (by omega) hk) (by decide)
theorem j2W {k:Nat} (hk:k<=60) (m:Mem):∀(d i:Nat),i+d=k->
  Res m (D12.gor 618496 [.int .i64 (k:Int),.ptr (some ⟨m.next,0⟩),.ptr (some ⟨m.next+1,0⟩),.ptr (some ⟨m.next+1+1,0⟩),.int .i64 (i:Int)]
   (((m.lay (.cells (D16 0) false)).lay (.cells (D16 (10 ^ i)) false)).lay (.cells (D16 10) false))) (.agg (D16 (10 ^ k))):=by
 intro d;induction d with
 |zero=>
  intro i hi;have:i=k:=by omega
  subst this;simp only[z1v (H:=H12),T.j0x,p2,q0a,wp,df (show ¬(i:Int)<(i:Int) by omega)];simp only[j0A (H:=H12),T.j8r,q1,q0H,q0I,wp,Nat.reduceLeDiff,lcd];refine Res.eq ?_ rfl
  (repeat apply Fr.lays)
  exact Fr.refl _
 |succ d ih=>
  intro i hi;have mu:=fun m=>j2L (H:=H12) rfl (a:=10 ^ i) (b:=10) (Nat.lt_trans (q51 (by omega)) (by decide)) (by decide) m
  rw[<-Nat.pow_succ]at mu;simp only[z1v (H:=H12),T.j0x,p2,q0a,wp,dt (show (i:Int)<(k:Int) by omega)];simp only[j0y (H:=H12),T.j8p,q1,wp,Nat.reduceLeDiff,lcd,mu];simp only[j0z (H:=H12),T.j8q,p2,wp,show (i:Int)+1=((i+1:Nat):Int) by omega,wrap_i64 (n:=((i+1:Nat):Int)) (by omega) (by omega)];exact ih (i+1) (by omega)
theorem q7F {n:Nat} (h:n<4294967296):∀j,dig n j=if j=0 then n else 0:=by
 intro j;have:=q6f (n:=0) (i:=0) (d:=n) (by unfold dig;simpa using h) j;rw[Nat.pow_zero,Nat.mul_one,xnz]at this;rw[this];have z:dig 0 j=0:=by unfold dig;rw[Nat.zero_div]
 rw[z,xnz]
theorem q8g {n:Nat} (h:n<4294967296):over (D16 0) 0 (.int .u64 (n:Int)) 1=some (D16 n):=
 q3H (by omega) (fun j _ hj=>by rw[q7F h,if_neg hj,q7F (by omega),if_neg hj]) (by rw[q7F h,if_pos rfl])
theorem a3Z {k:Nat} (hk:k<=60) (m:Mem):Res m (run E12 (.fn 151) [.int .i64 (k:Int)] m) (.agg (D16 (10 ^ k))):=by
 have lp:=j2W hk m k 0 (by omega);rw[Nat.pow_zero]at lp;have s1:over (D16 0) 0 (.int .u64 1) 1=some (D16 1):=q8g (n:=1) (by omega);have s10:over (D16 0) 0 (.int .u64 10) 1=some (D16 10):=q8g (n:=10) (by omega);simp only[a0k (H:=H12) rfl,T.f151,pB,p2,wp,lcd,z16,z3E,s1,s10];exact lp
theorem j2H {a b:Nat} (ha:a<4294967296 ^ 16) (hb:b<4294967296 ^ 16) (hb0:0<b) (m:Mem):∀(k:Nat),k<=512->
  Res m (D12.gor 622592 [.ptr (some ⟨m.next,0⟩),.ptr (some ⟨m.next+1,0⟩),.ptr (some ⟨m.next+1+1,0⟩),.ptr (some ⟨m.next+1+1+1,0⟩),.int .i64 ((k:Int)-1)]
   ((((m.lay (.cells (D16 a) false)).lay (.cells (D16 b) false)).lay (.cells (D16 (a / 2 ^ k / b*2 ^ k)) false)).lay (.cells (D16 (a / 2 ^ k % b)) false))) (.tup [.agg (D16 (a / b)),.agg (D16 (a % b))]):=by
 intro k;induction k with
 |zero=>
  intro _;rw[Nat.pow_zero,Nat.div_one,Nat.mul_one];simp only[z1w (H:=H12),T.j0B,p2,q0a,wp,df (show ¬((0:Nat):Int)-1>=0 by omega)];simp only[j0E (H:=H12),T.j8s,q1,q0H,q0I,wp,Nat.reduceLeDiff,lcd];refine Res.eq ?_ rfl
  (repeat apply Fr.lays)
  exact Fr.refl _
 |succ i ih=>
  intro hi;have hx:=j6c a i;obtain⟨bit,hbit⟩:∃bit,bit=a / 2 ^ i % 2:=⟨_,rfl⟩;have hb1:bit<=1:=by omega
  rw[<-hbit]at hx;obtain⟨x,hxx⟩:∃x,x=a / 2 ^ (i+1):=⟨_,rfl⟩;rw[<-hxx]at hx⊢;obtain⟨d1,d2⟩:=j9M (x:=x) (bit:=bit) hb0;rw[<-hx]at d1 d2;have hxa:a / 2 ^ i<=a:=Nat.div_le_self _ _;have hr:x % b<=x:=Nat.mod_le _ _;have hrb:x % b<b:=Nat.mod_lt _ hb0;obtain⟨r,hr'⟩:∃r,r=x % b:=⟨_,rfl⟩;rw[<-hr']at d1 d2 hr hrb⊢;have h16:i / 32<16:=by omega
  have h32:i % 32<32:=by omega
  have ad:=fun m=>z0s (H:=H12) rfl r r m
  have cm:=fun m=>z3V (H:=H12) rfl (a:=2*r+bit) (b:=b) (by omega) hb m
  have hj:IntKind.wrap .i64 ((i:Int).tdiv 32)=((i / 32:Nat):Int):=by rw[Int.tdiv_eq_ediv_of_nonneg (by omega),wrap_i64 (by omega) (by omega)];omega
  have hs:((IntKind.wrap .u64 (i:Int)).tmod 32)=((i % 32:Nat):Int):=by rw[wrap_u64 (by omega) (by omega),Int.tmod_eq_emod_of_nonneg (by omega)];omega
  have hbt:((dig a (i / 32) / 2 ^ (i % 32):Nat):Int).tmod 2=(bit:Int):=by
   rw[Int.tmod_eq_emod_of_nonneg (Int.natCast_nonneg _),show (2:Int)=((2:Nat):Int) from rfl,<-Int.natCast_emod,j9D,<-hbit]
  have ev:dig (r+r) 0 % 2=0:=by unfold dig;rw[Nat.pow_zero,Nat.div_one];omega
  have dl:=q2S (r+r) 0;have da:=q6f (n:=r+r) (i:=0) (d:=bit) (by omega);rw[Nat.pow_zero,Nat.mul_one,show r+r+bit=2*r+bit by omega]at da;have hw:IntKind.wrap .u64 ((dig (r+r) 0:Int)+(bit:Int))=((dig (2*r+bit) 0:Nat):Int):=by
   rw[da 0,if_pos rfl,q0n];omega
  have ov:over (D16 (r+r)) 0 (.int .u64 ((dig (2*r+bit) 0:Nat):Int)) 1=some (D16 (2*r+bit)):=
   q3H (by omega) (fun j _ hj=>by rw[da j,if_neg hj,xna]) rfl
  simp only[show ((i+1:Nat):Int)-1=(i:Int) by omega];simp only[z1w (H:=H12),T.j0B,p2,q0a,wp,dt (show (i:Int)>=0 by omega)];have z2:(2:Int)≠0:=by omega
  have z32:(32:Int)≠0:=by omega
  by_cases hge:b<=2*r+bit
  ·have hc:decide (q8r (2*r+bit) b>=0)=true:=by unfold q8r;rw[if_neg (by omega)];split<;>decide
   have sb:=fun m=>z4c (H:=H12) rfl hge m
   have room:=j3u (x / b) i;have dq:=q6f (n:=x / b*2 ^ (i+1)) (i:=i / 32) (d:=2 ^ (i % 32)) room;rw[<-z2d]at dq;have hq:x / b*2 ^ (i+1)+2 ^ i=a / 2 ^ i / b*2 ^ i:=by
    rw[(d1 hge hb1).1,Nat.pow_succ,Nat.add_mul,Nat.one_mul,Nat.mul_comm (2 ^ i) 2,<-Nat.mul_assoc,Nat.mul_comm (x / b) 2]
   have hrr:2*r+bit-b=a / 2 ^ i % b:=(d1 hge hb1).2.symm;rw[hq]at dq;have hw2:IntKind.wrap .u64 ((dig (x / b*2 ^ (i+1)) (i / 32):Int)+((2 ^ (i % 32):Nat):Int))=((dig (a / 2 ^ i / b*2 ^ i) (i / 32):Nat):Int):=by
    rw[dq (i / 32),if_pos rfl,q0n];obtain⟨w,hw⟩:∃w,w=2 ^ (i % 32):=⟨_,rfl⟩;rw[<-hw]at room⊢;omega
   have ov2:over (D16 (x / b*2 ^ (i+1))) (i / 32) (.int .u64 ((dig (a / 2 ^ i / b*2 ^ i) (i / 32):Nat):Int)) 1=some (D16 (a / 2 ^ i / b*2 ^ i)):=
    q3H h16 (fun j _ hj=>by rw[dq j,if_neg hj];exact(xna _).symm) rfl
   simp only[z1x (H:=H12),T.j0C,q1,p2,p1,q0a,wp,Nat.reduceLeDiff,lcd,ad,q2D _ _ _ _ z32,q2a _ _ _ _ z32,q2a _ _ _ _ z2,hj,hs,z3E,j1T _ _ h16,q07 _ h16,q07 _ (show 0<16 by omega),z0P _ (q2S _ _) h32,z8U _ h32,hbt,hw,ov,cm,hc,sb,hw2,ov2];simp only[z1y (H:=H12),T.j0D,p2,wp,wrap_i64 (n:=(i:Int)-1) (by omega) (by omega)]
   rw[hrr];exact ih (by omega)
  ·have hc:decide (q8r (2*r+bit) b>=0)=false:=by unfold q8r;rw[if_pos (by omega)];decide
   have hq:x / b*2 ^ (i+1)=a / 2 ^ i / b*2 ^ i:=by
    rw[(d2 (by omega)).1,Nat.pow_succ,Nat.mul_comm (2 ^ i) 2,<-Nat.mul_assoc,Nat.mul_comm (x / b) 2]
   have hrr:2*r+bit=a / 2 ^ i % b:=(d2 (by omega)).2.symm;simp only[z1x (H:=H12),T.j0C,q1,p2,p1,q0a,wp,Nat.reduceLeDiff,lcd,ad,q2D _ _ _ _ z32,q2a _ _ _ _ z32,q2a _ _ _ _ z2,hj,hs,z3E,j1T _ _ h16,q07 _ h16,q07 _ (show 0<16 by omega),z0P _ (q2S _ _) h32,hbt,hw,ov,cm,hc];simp only[z1y (H:=H12),T.j0D,p2,wp,wrap_i64 (n:=(i:Int)-1) (by omega) (by omega)]
   rw[hrr,hq];exact ih (by omega)
theorem j3f (n:Nat):2 ^ (32*n)=4294967296 ^ n:=by rw[Nat.pow_mul,show (2:Nat) ^ 32=4294967296 from rfl]
theorem a3L {a b:Nat} (ha:a<4294967296 ^ 16) (hb:b<4294967296 ^ 16) (hb0:0<b) (m:Mem):Res m (run E12 (.fn 152) [.agg (D16 a),.agg (D16 b)] m) (.tup [.agg (D16 (a / b)),.agg (D16 (a % b))]):=by
 obtain⟨n,hn⟩:∃n,n=16:=⟨_,rfl⟩;have lp:=j2H ha hb hb0 m (32*n) (by omega);have e:a / 2 ^ (32*n)=0:=by rw[j3f,hn];exact Nat.div_eq_of_lt ha
 have hi:((32*n:Nat):Int)-1=511:=by omega
 rw[hi]at lp;rw[e,Nat.zero_div,Nat.zero_mul,Nat.zero_mod]at lp;simp only[a0l (H:=H12) rfl,T.f152,pB,q0K,wp,AV.cells,lcd,z16];exact lp
end
end Go.Proofs.YtlginbmjiecglaaGreatDoor
