/- Texts of one claim, put together. -/
import Derived.Test.YtlginbmjiecglaaGreatDoorK0
import Derived.Test.YtlginbmjiecglaaGreatDoorK18
import Derived.Test.YtlginbmjiecglaaGreatDoorK19
import Derived.Test.YtlginbmjiecglaaGreatDoorK22
import Derived.Test.YtlginbmjiecglaaGreatDoorK23
namespace Go.Proofs.YtlginbmjiecglaaGreatDoor
section
open Go Go.Abs
theorem lessS_is (a b:(List UInt8)) (m:Mem):run E15 (.fn 118) [.str a,.str b] m=some (.bool (q0c a b),m):=by
 simp only[f118_is (H:=H15) rfl,T.f118,p1,p2,ifV,unA,w_f118,f139_is (H:=H15) rfl,T.f139,w_f139,decide_true,Bool.not_true]
 try rfl
section
variable {m:Mem} {sk:AV} {ks:List (List UInt8)} {kb:Option Nat}
theorem bsS_loop (h:q1s 1 m sk (ks.map fun k=>[.str k]) kb) (hs:Srt q0c ks) (hl:ks.length<4611686018427387904) (k:(List UInt8)):∀(d i j:Nat),j-i≤d→i≤j→j≤ks.length→
  (∀x (hx:x<ks.length),x<i→q0c ks[x] k=true)→(∀x (hx:x<ks.length),j≤x→q0c ks[x] k=false)→
  D15.gor 335872 [sk,.str k,.int .i64 ks.length,.int .i64 i,.int .i64 j] m=some (.tup [.int .i64 (lb q0c k ks:Nat),.bool (q1d q0c k ks)],m):=by
 intro d
 induction d with
 |zero=>
  intro i j hd hij hj h1 h2
  have e:i=j:=by omega
  subst e
  have hlb:lb q0c k ks=i:=q43 hj h1 (fun hx=>h2 i hx (Nat.le_refl _))
  simp only[j68 (H:=H15),T.g82_0,p2,q0a,w_g82_0,df (show ¬(i:Int)<(i:Int) by omega)]
  by_cases hi:i<ks.length
  ·obtain⟨b,rfl,g1,g2⟩:=h.key hi
   simp only[j7b (H:=H15),T.g82_2,p2,q1,ifV,w_g82_2,dt (show (i:Int)<(ks.length:Int) by omega),true_or,if_true,g1,g2,f119_is (H:=H15) rfl,T.f119,w_f119,decide_true,Bool.not_true]
   by_cases hk:ks[i]=k
   ·rw[dt hk]
    simp only[q1d,hlb,List.getElem?_eq_getElem hi,hk,decide_true]
   ·rw[df hk]
    simp only[q1d,hlb,List.getElem?_eq_getElem hi,Option.some.injEq,df hk]
  ·simp only[j7b (H:=H15),T.g82_2,p2,q1,ifV,w_g82_2,df (show ¬(i:Int)<(ks.length:Int) by omega)]
   simp only[q1d,hlb,List.getElem?_eq_none (show ks.length≤i by omega),reduceCtorEq,decide_false]
 |succ d ih=>
  intro i j hd hij hj h1 h2
  by_cases e:i=j
  ·exact ih i j (by omega) hij hj h1 h2
  ·have hlt:i<j:=by omega
   obtain⟨hh,hh1⟩:∃hh:Nat,hh=(i+j) / 2:=⟨_,rfl⟩
   have hh2:i≤hh∧hh<j:=by omega
   have hh3:IntKind.wrap .i64 ((IntKind.wrap .u64 (IntKind.wrap .i64 ((i:Int)+(j:Int)))).fdiv (2 ^ (min (1:Int).toNat IntKind.u64.bits)))=(hh:Int):=by
    rw[wrap_i64 (n:=(i:Int)+j) (by omega) (by omega),wrap_u64 (by omega) (by omega)]
    have:((2:Int) ^ (min (1:Int).toNat IntKind.u64.bits))=2:=by rfl
    rw[this,Int.fdiv_eq_ediv_of_nonneg _ (by omega),wrap_i64 (by omega) (by omega)]
    omega
   have hx:hh<ks.length:=by omega
   obtain⟨b,rfl,g1,g2⟩:=h.key hx
   simp only[j68 (H:=H15),T.g82_0,p2,q0a,w_g82_0,dt (show (i:Int)<(j:Int) by omega)]
   simp only[g82_1_is (H:=H15),T.g82_1,p2,p1,q1,q0a,w_g82_1,q91 _ _ _ _ _ (show (0:Int)≤1 by omega),hh3,true_or,if_true,g1,g2,lessS_is]
   cases hc:q0c ks[hh] k with
   |true=>
    simp only
    rw[wrap_i64 (by omega) (by omega),show (hh:Int)+1=((hh+1:Nat):Int) by omega]
    refine ih (hh+1) j (by omega) (by omega) hj (fun x hx' hlt'=>?_) h2
    by_cases e2:x=hh
    ·subst e2;exact hc
    ·exact q27 _ _ _ (q4o hs (show x<hh by omega) hx) hc
   |false=>
    simp only
    refine ih i hh (by omega) (by omega) (by omega) h1 (fun x hx' hle=>?_)
    by_cases e2:x=hh
    ·subst e2;exact hc
    ·cases hc2:q0c ks[x] k with
     |false=>rfl
     |true=>rw[q27 _ _ _ (q4o hs (show hh<x by omega) hx') hc2]at hc;cases hc
theorem z0j (h:q1s 1 m sk (ks.map fun k=>[.str k]) kb) (hs:Srt q0c ks) (hl:ks.length<4611686018427387904) (k:(List UInt8)) :
  run E15 (.fn 82) [sk,.str k] m=some (.tup [.int .i64 (lb q0c k ks:Nat),.bool (q1d q0c k ks)],m):=by
 have:=bsS_loop h hs hl k ks.length 0 ks.length (by omega) (by omega) (Nat.le_refl _) (by intro x _ hx;omega) (by intro x hx hx';omega)
 obtain⟨a,sz,cap,ex,rfl⟩:=h.klen
 simp only[f82_is (H:=H15) rfl,T.f82,p1,w_f82]
 exact this
end
end
section
open Go Go.Abs
theorem inkP_is (xs:List AV) (m:Mem):run E15 (.fn 83) xs m=z3x Tryz.prog 140 xs m:=q1t rfl xs m
theorem invP_is (xs:List AV) (m:Mem):run E15 (.fn 84) xs m=z3x Tryz.prog 23 xs m:=q1t rfl xs m
section
variable {m:Mem} {t:Nat} {ks:List (List UInt8)} {vs:List (List AV)} {most:Int} {F:List Nat}
theorem newP_is (m:Mem) {most:Int} (h1:1≤most) (h2:most≤4096):∃m',run E15 (.fn 79) [.int .i64 most] m=some (.tup [.ptr (some ⟨m.next,0⟩),.int .i64 0],m')∧m'=m.lay (.cells [.sl none 0 0 0 true,.sl none 0 0 0 true,.int .i64 most] false):=by
 refine⟨_,?_,rfl⟩
 simp only[f79_is (H:=H15) rfl,T.f79,p2,q0a,ifV,w_f79,df (show ¬most<1 by omega),df (show ¬(4096:Int)<most by omega)]
 simp only[g79_0_is (H:=H15),T.g79_0,p1,q0r,AV.cells,Nat.reduceAdd,Nat.reduceLeDiff,q1h,w_g79_0,List.all_cons,List.all_nil,AV.one]
theorem getP_in (h:TabAt (.str) 4 m t ks vs most F) (hs:Srt q0c ks) (hl:ks.length<65536) (k:(List UInt8)) (hk:q1d q0c k ks=true) :
  ∃v m',vs[lb q0c k ks]? = some v∧run E15 (.fn 89) [.ptr (some ⟨t,0⟩),.str k] m=some (.tup [.agg v,.bool true],m')∧Fr m m' []:=by
 obtain⟨⟨sk,sv,kb,vb,h1,h2,h3,h4,h5,h6,rfl⟩,h7⟩:=h
 have hlt:lb q0c k ks<ks.length:=by
  have:ks[lb q0c k ks]? = some k:=by simpa[q1d]using hk
  exact(List.getElem?_eq_some_iff.1 this).1
 have hf:Fr m (m.lay (.cells [.str [],.int .i64 0,.int .i64 0,.int .u64 0] false)) []:=(Fr.refl m).lay _
 have g1:=hf.get h1 (by simp)
 have g2:=h2.frame hf (by simp)
 have g3:=h3.frame hf (by simp)
 obtain⟨b,rfl,a1,a2⟩:=g3.val (i:=lb q0c k ks) (by omega)
 have a3:∀i:Nat,ld1 (m.lay (.cells [.str [],.int .i64 0,.int .i64 0,.int .u64 0] false)) (.ptr (some ⟨t,i⟩))=[sk,.sl (some ⟨b,0⟩) 4 vs.length vs.length false,.int .i64 most][i]?:=fun i=>q0j g1
 have hv:=h3.1 _ (List.getElem_mem (show lb q0c k ks<vs.length by omega))
 refine⟨vs[lb q0c k ks],(m.lay (.cells [.str [],.int .i64 0,.int .i64 0,.int .u64 0] false)).put m.next (some (.cells vs[lb q0c k ks] false)),List.getElem?_eq_getElem (by omega),?_,hf.put' (.inr (Nat.le_refl _))⟩
 simp only[f89_is (H:=H15) rfl,T.f89,pB,p1,q1,nnA,q0g,q0a,unA,q1g,q1i,w_f89,a3,z0j g2 hs (by omega),hk,Bool.not_true,g89_0_is (H:=H15),T.g89_0,p2,w_g89_0,true_or,if_true,a1,a2,q1w (n:=4) (q0d m (.cells [.str [],.int .i64 0,.int .i64 0,.int .u64 0] false)) rfl hv.1 hv.2,q1b (n:=4) (q05 (q0d m (.cells [.str [],.int .i64 0,.int .i64 0,.int .u64 0] false))) hv.1]
theorem getP_out (h:TabAt (.str) 4 m t ks vs most F) (hs:Srt q0c ks) (hl:ks.length<65536) (k:(List UInt8)) (hk:q1d q0c k ks=false) :
  ∃m',run E15 (.fn 89) [.ptr (some ⟨t,0⟩),.str k] m=some (.tup [.agg [.str [],.int .i64 0,.int .i64 0,.int .u64 0],.bool false],m')∧Fr m m' []:=by
 obtain⟨⟨sk,sv,kb,vb,h1,h2,h3,h4,h5,h6,rfl⟩,h7⟩:=h
 have hf:Fr m (m.lay (.cells [.str [],.int .i64 0,.int .i64 0,.int .u64 0] false)) []:=(Fr.refl m).lay _
 have g1:=hf.get h1 (by simp)
 have g2:=h2.frame hf (by simp)
 have a3:∀i:Nat,ld1 (m.lay (.cells [.str [],.int .i64 0,.int .i64 0,.int .u64 0] false)) (.ptr (some ⟨t,i⟩))=[sk,sv,.int .i64 most][i]?:=fun i=>q0j g1
 have g3:((m.lay (.cells [.str [],.int .i64 0,.int .i64 0,.int .u64 0] false)).lay (.cells [.str [],.int .i64 0,.int .i64 0,.int .u64 0] false)).get m.next=some (.cells [.str [],.int .i64 0,.int .i64 0,.int .u64 0] false):=by rw[q75 (by simp)];exact q0d _ _
 refine⟨((m.lay (.cells [.str [],.int .i64 0,.int .i64 0,.int .u64 0] false)).lay (.cells [.str [],.int .i64 0,.int .i64 0,.int .u64 0] false)).put m.next (some (.cells [.str [],.int .i64 0,.int .i64 0,.int .u64 0] false)),?_,(hf.lay _).put' (.inr (Nat.le_refl _))⟩
 simp only[f89_is (H:=H15) rfl,T.f89,pB,p1,q1,nnA,q0g,q0a,unA,q1g,q1i,w_f89,a3,z0j g2 hs (by omega),hk,Bool.not_false,q1b (n:=4) (q0d (m.lay (.cells [.str [],.int .i64 0,.int .i64 0,.int .u64 0] false)) (.cells [.str [],.int .i64 0,.int .i64 0,.int .u64 0] false)) rfl,q1w (n:=4) g3 rfl (show ([.str [],.int .i64 0,.int .i64 0,.int .u64 0]:List AV).length=4 by rfl) (by rfl),q1b (n:=4) (v:=[.str [],.int .i64 0,.int .i64 0,.int .u64 0]) (q05 g3) rfl]
theorem putP_in (h:TabAt (.str) 4 m t ks vs most F) (hs:Srt q0c ks) (hl:ks.length<65536) (k:(List UInt8)) (hk:q1d q0c k ks=true) {v:List AV} (hv:v.length=4) (ho:v.all AV.one=true) :
  ∃m',run E15 (.fn 39) [.ptr (some ⟨t,0⟩),.str k,.agg v] m=some (.bool true,m')∧TabAt (.str) 4 m' t ks (vs.set (lb q0c k ks) v) most F∧Fr m m' F:=by
 have hlt:lb q0c k ks<ks.length:=by
  have:ks[lb q0c k ks]? = some k:=by simpa[q1d]using hk
  exact(List.getElem?_eq_some_iff.1 this).1
 have hf:Fr m (m.lay (.cells v false)) []:=(Fr.refl m).lay _
 have h':=h.frame hf (by simp)
 obtain⟨sk,sv,b,m',g1,rfl,a1,a2,a5,a6⟩:=h'.set hlt hv ho
 obtain⟨⟨sk',sv',kb,vb,h1,h2,h3,h4,h5,h6,e⟩,h7⟩:=h'
 rw[g1]at h1
 cases h1
 have a3:∀i:Nat,ld1 (m.lay (.cells v false)) (.ptr (some ⟨t,i⟩))=[sk,.sl (some ⟨b,0⟩) 4 vs.length vs.length false,.int .i64 most][i]?:=fun i=>q0j g1
 have a4:ldN (m.lay (.cells v false)) (.ptr (some ⟨m.next,0⟩)) 4=some (.agg v):=by
  rw[q1v (q0d _ _) (by omega),List.drop_zero,List.take_of_length_le (by omega)]
 refine⟨m',?_,a5,(hf.any F).step a6 (fun c hc=>.inl hc)⟩
 simp only[f39_is (H:=H15) rfl,T.f39,p1,q1,p2,q1h,nnA,q0g,q0a,w_f39,q19 ho,Option.map_some,a3,a4,z0j h2 hs (by omega),hk,true_or,if_true,a1,a2,j6g (H:=H15),T.g39_0,w_g39_0]
theorem putP_full (h:TabAt (.str) 4 m t ks vs most F) (hs:Srt q0c ks) (hl:ks.length<65536) (k:(List UInt8)) (hk:q1d q0c k ks=false) (hf:most≤ks.length) {v:List AV} (ho:v.all AV.one=true) :
  ∃m',run E15 (.fn 39) [.ptr (some ⟨t,0⟩),.str k,.agg v] m=some (.bool false,m')∧Fr m m' []:=by
 obtain⟨⟨sk,sv,kb,vb,h1,h2,h3,h4,h5,h6,rfl⟩,h7⟩:=h
 have hf0:Fr m (m.lay (.cells v false)) []:=(Fr.refl m).lay _
 have g1:=hf0.get h1 (by simp)
 have g2:=h2.frame hf0 (by simp)
 obtain⟨a,sz,cap,ex,rfl⟩:=h2.klen
 have a3:∀i:Nat,ld1 (m.lay (.cells v false)) (.ptr (some ⟨t,i⟩))=[.sl a sz ks.length cap ex,sv,.int .i64 most][i]?:=fun i=>q0j g1
 refine⟨_,?_,hf0⟩
 simp only[f39_is (H:=H15) rfl,T.f39,p1,q1,p2,q1h,nnA,q0g,q0a,w_f39,q19 ho,Option.map_some,a3,z0j g2 hs (by omega),hk,dt (show most≤(ks.length:Int) by omega)]
theorem putP_new (h:TabAt (.str) 4 m t ks vs most F) (hs:Srt q0c ks) (hl:ks.length<4096) (k:(List UInt8)) (hk:q1d q0c k ks=false) (hf:(ks.length:Int)<most) {v:List AV} (hv:v.length=4) (ho:v.all AV.one=true) :
  ∃m' F',run E15 (.fn 39) [.ptr (some ⟨t,0⟩),.str k,.agg v] m=some (.bool true,m')∧TabAt (.str) 4 m' t (q47 (lb q0c k ks) k ks) (q47 (lb q0c k ks) v vs) most F'∧Fr m m' F∧∀c,c∈F'→c∈F∨m.next≤c:=by
 have hf0:Fr m (m.lay (.cells v false)) []:=(Fr.refl m).lay _
 have h':=h.frame hf0 (by simp)
 obtain⟨sk,sv,sk',m2,sv',m5,F',g1,a1,a2,a3,a4,b1,b2,b3,b4,b5,b6⟩:=h'.ins (P:=Tryz.prog) (st1:=140) (e1:=9) (st2:=23) (e2:=56) (w1:=16) (w2:=40) (zs1:=[.str []]) (zs2:=[.str [],.int .i64 0,.int .i64 0,.int .u64 0]) (by kernel_rfl) (by kernel_rfl) (by kernel_rfl) (by kernel_rfl) (by kernel_rfl) (by decide) (by kernel_rfl) (by kernel_rfl) (by kernel_rfl) (by kernel_rfl) (by kernel_rfl) (by decide) (by decide)
  (fun _=>rfl) (z7s k ks) hl (by decide) (k:=k) hv ho
 obtain⟨⟨sk1,sv1,kb,vb,h1,h2,h3,h4,h5,h6,e⟩,h7⟩:=h'
 rw[g1]at h1
 cases h1
 obtain⟨x,sz,cap,ex,rfl⟩:=h2.klen
 have c1:∀i:Nat,ld1 (m.lay (.cells v false)) (.ptr (some ⟨t,i⟩))=[.sl x sz ks.length cap ex,sv,.int .i64 most][i]?:=fun i=>q0j g1
 have c2:∀i:Nat,ld1 (m2.put t (some (.cells [sk',sv,.int .i64 most] false))) (.ptr (some ⟨t,i⟩))=[sk',sv,.int .i64 most][i]?:=fun i=>q0j a3
 have c3:ldN (m2.put t (some (.cells [sk',sv,.int .i64 most] false))) (.ptr (some ⟨m.next,0⟩)) 4=some (.agg v):=by
  have:(m2.put t (some (.cells [sk',sv,.int .i64 most] false))).get m.next=some (.cells v false):=b4.get (q0d _ _) (fun hm=>by have:=h.lt _ hm;omega)
  rw[q1v this (by omega),List.drop_zero,List.take_of_length_le (by omega)]
 have c4:(m2.put t (some (.cells [sk',sv,.int .i64 most] false))).next=m2.next:=rfl
 refine⟨_,F',?_,b3,(hf0.any F).step b5 (fun c hc=>.inl hc),fun c hc=>(b6 c hc).imp id (fun h=>by have:m.next≤(m.lay (.cells v false)).next:=hf0.next;omega)⟩
 simp only[f39_is (H:=H15) rfl,T.f39,p1,q1,p2,q1h,nnA,q0g,q0a,w_f39,q19 ho,Option.map_some,j23 (x:=.str k) (by rfl),q8q (n:=4) (zs:=[.str [],.int .i64 0,.int .i64 0,.int .u64 0]) ho hv (by rfl),c1,z0j h2 hs (by omega),hk,df (show ¬most≤(ks.length:Int) by omega),inkP_is,invP_is,a1,a2,c2,c3,c4,b1,b2,j6g (H:=H15),T.g39_0,w_g39_0]
theorem getP_is (h:TabAt (.str) 4 m t ks vs most F) (hs:Srt q0c ks) (hl:ks.length<65536) (k:(List UInt8)) :
  ∃v m',run E15 (.fn 89) [.ptr (some ⟨t,0⟩),.str k] m=some (.tup [.agg v,.bool (q1d q0c k ks)],m')∧(q1d q0c k ks=true→vs[lb q0c k ks]? = some v)∧(q1d q0c k ks=false→v=[.str [],.int .i64 0,.int .i64 0,.int .u64 0])∧v.length=4∧v.all AV.one=true∧Fr m m' []:=by
 cases hk:q1d q0c k ks with
 |true=>
  obtain⟨v,m',h1,h2,h3⟩:=getP_in h hs hl k hk
  obtain⟨⟨sk,sv,kb,vb,_,_,g3,_⟩,_⟩:=h
  have:=g3.1 v (List.mem_of_getElem? h1)
  exact⟨v,m',h2,fun _=>h1,nofun,this.1,this.2,h3⟩
 |false=>
  obtain⟨m',h2,h3⟩:=getP_out h hs hl k hk
  exact⟨_,m',h2,nofun,fun _=>rfl,rfl,rfl,h3⟩
theorem putP_is (h:TabAt (.str) 4 m t ks vs most F) (hs:Srt q0c ks) (hl:ks.length<4096) (k:(List UInt8)) {v:List AV} (hv:v.length=4) (ho:v.all AV.one=true) :
  ∃m' F',run E15 (.fn 39) [.ptr (some ⟨t,0⟩),.str k,.agg v] m=some (.bool (q1d q0c k ks||decide ((ks.length:Int)<most)),m')∧
   TabAt (.str) 4 m' t (putK q0c k ks most) (putV q0c k ks v vs most) most F'∧Fr m m' F∧∀c,c∈F'→c∈F∨m.next≤c:=by
 unfold putK putV
 cases hk:q1d q0c k ks with
 |true=>
  obtain⟨m',h1,h2,h3⟩:=putP_in h hs (by omega) k hk hv ho
  exact⟨m',F,h1,by simpa using h2,h3,fun c hc=>.inl hc⟩
 |false=>
  by_cases hf:(ks.length:Int)<most
  ·obtain⟨m',F',h1,h2,h3,h4⟩:=putP_new h hs hl k hk hf hv ho
   exact⟨m',F',by simpa[hf]using h1,by simpa[hf]using h2,h3,h4⟩
  ·obtain⟨m',h1,h2⟩:=putP_full h hs (by omega) k hk (by omega) ho
   exact⟨m',F,by simpa[hf]using h1,by simpa[hf]using h.frame h2 (by simp),h2.any F,fun c hc=>.inl hc⟩
end
end
section
open Go Go.Abs
theorem lessU_is (a b:Int) (m:Mem):run E15 (.fn 126) [.int .u64 a,.int .u64 b] m=some (.bool (q0f a b),m):=by
 simp only[f126_is (H:=H15) rfl,T.f126,p1,p2,ifV,unA,w_f126,f143_is (H:=H15) rfl,T.f143,w_f143,decide_true,Bool.not_true]
 try rfl
section
variable {m:Mem} {sk:AV} {ks:List Int} {kb:Option Nat}
theorem bsU_loop (h:q1s 1 m sk (ks.map fun k=>[.int .u64 k]) kb) (hs:Srt q0f ks) (hl:ks.length<4611686018427387904) (k:Int):∀(d i j:Nat),j-i≤d→i≤j→j≤ks.length→
  (∀x (hx:x<ks.length),x<i→q0f ks[x] k=true)→(∀x (hx:x<ks.length),j≤x→q0f ks[x] k=false)→
  D15.gor 352256 [sk,.int .u64 k,.int .i64 ks.length,.int .i64 i,.int .i64 j] m=some (.tup [.int .i64 (lb q0f k ks:Nat),.bool (q1d q0f k ks)],m):=by
 intro d
 induction d with
 |zero=>
  intro i j hd hij hj h1 h2
  have e:i=j:=by omega
  subst e
  have hlb:lb q0f k ks=i:=q43 hj h1 (fun hx=>h2 i hx (Nat.le_refl _))
  simp only[j7d (H:=H15),T.g86_0,p2,q0a,w_g86_0,df (show ¬(i:Int)<(i:Int) by omega)]
  by_cases hi:i<ks.length
  ·obtain⟨b,rfl,g1,g2⟩:=h.key hi
   simp only[j7g (H:=H15),T.g86_2,p2,q1,ifV,w_g86_2,dt (show (i:Int)<(ks.length:Int) by omega),true_or,if_true,g1,g2,f127_is (H:=H15) rfl,T.f127,w_f127,decide_true,Bool.not_true]
   by_cases hk:ks[i]=k
   ·rw[dt hk]
    simp only[q1d,hlb,List.getElem?_eq_getElem hi,hk,decide_true]
   ·rw[df hk]
    simp only[q1d,hlb,List.getElem?_eq_getElem hi,Option.some.injEq,df hk]
  ·simp only[j7g (H:=H15),T.g86_2,p2,q1,ifV,w_g86_2,df (show ¬(i:Int)<(ks.length:Int) by omega)]
   simp only[q1d,hlb,List.getElem?_eq_none (show ks.length≤i by omega),reduceCtorEq,decide_false]
 |succ d ih=>
  intro i j hd hij hj h1 h2
  by_cases e:i=j
  ·exact ih i j (by omega) hij hj h1 h2
  ·have hlt:i<j:=by omega
   obtain⟨hh,hh1⟩:∃hh:Nat,hh=(i+j) / 2:=⟨_,rfl⟩
   have hh2:i≤hh∧hh<j:=by omega
   have hh3:IntKind.wrap .i64 ((IntKind.wrap .u64 (IntKind.wrap .i64 ((i:Int)+(j:Int)))).fdiv (2 ^ (min (1:Int).toNat IntKind.u64.bits)))=(hh:Int):=by
    rw[wrap_i64 (n:=(i:Int)+j) (by omega) (by omega),wrap_u64 (by omega) (by omega)]
    have:((2:Int) ^ (min (1:Int).toNat IntKind.u64.bits))=2:=by rfl
    rw[this,Int.fdiv_eq_ediv_of_nonneg _ (by omega),wrap_i64 (by omega) (by omega)]
    omega
   have hx:hh<ks.length:=by omega
   obtain⟨b,rfl,g1,g2⟩:=h.key hx
   simp only[j7d (H:=H15),T.g86_0,p2,q0a,w_g86_0,dt (show (i:Int)<(j:Int) by omega)]
   simp only[g86_1_is (H:=H15),T.g86_1,p2,p1,q1,q0a,w_g86_1,q91 _ _ _ _ _ (show (0:Int)≤1 by omega),hh3,true_or,if_true,g1,g2,lessU_is]
   cases hc:q0f ks[hh] k with
   |true=>
    simp only
    rw[wrap_i64 (by omega) (by omega),show (hh:Int)+1=((hh+1:Nat):Int) by omega]
    refine ih (hh+1) j (by omega) (by omega) hj (fun x hx' hlt'=>?_) h2
    by_cases e2:x=hh
    ·subst e2;exact hc
    ·exact q9b _ _ _ (q4o hs (show x<hh by omega) hx) hc
   |false=>
    simp only
    refine ih i hh (by omega) (by omega) (by omega) h1 (fun x hx' hle=>?_)
    by_cases e2:x=hh
    ·subst e2;exact hc
    ·cases hc2:q0f ks[x] k with
     |false=>rfl
     |true=>rw[q9b _ _ _ (q4o hs (show hh<x by omega) hx') hc2]at hc;cases hc
theorem z9s (h:q1s 1 m sk (ks.map fun k=>[.int .u64 k]) kb) (hs:Srt q0f ks) (hl:ks.length<4611686018427387904) (k:Int) :
  run E15 (.fn 86) [sk,.int .u64 k] m=some (.tup [.int .i64 (lb q0f k ks:Nat),.bool (q1d q0f k ks)],m):=by
 have:=bsU_loop h hs hl k ks.length 0 ks.length (by omega) (by omega) (Nat.le_refl _) (by intro x _ hx;omega) (by intro x hx hx';omega)
 obtain⟨a,sz,cap,ex,rfl⟩:=h.klen
 simp only[f86_is (H:=H15) rfl,T.f86,p1,w_f86]
 exact this
end
end
section
open Go Go.Abs
theorem inkA_is (xs:List AV) (m:Mem):run E15 (.fn 87) xs m=z3x Tryz.prog 149 xs m:=q1t rfl xs m
theorem invA_is (xs:List AV) (m:Mem):run E15 (.fn 88) xs m=z3x Tryz.prog 25 xs m:=q1t rfl xs m
section
variable {m:Mem} {t:Nat} {ks:List Int} {vs:List (List AV)} {most:Int} {F:List Nat}
theorem newA_is (m:Mem) {most:Int} (h1:1≤most) (h2:most≤4096):∃m',run E15 (.fn 81) [.int .i64 most] m=some (.tup [.ptr (some ⟨m.next,0⟩),.int .i64 0],m')∧m'=m.lay (.cells [.sl none 0 0 0 true,.sl none 0 0 0 true,.int .i64 most] false):=by
 refine⟨_,?_,rfl⟩
 simp only[f81_is (H:=H15) rfl,T.f81,p2,q0a,ifV,w_f81,df (show ¬most<1 by omega),df (show ¬(4096:Int)<most by omega)]
 simp only[g81_0_is (H:=H15),T.g81_0,p1,q0r,AV.cells,Nat.reduceAdd,Nat.reduceLeDiff,q1h,w_g81_0,List.all_cons,List.all_nil,AV.one]
theorem getA_in (h:TabAt (.int .u64) 4 m t ks vs most F) (hs:Srt q0f ks) (hl:ks.length<65536) (k:Int) (hk:q1d q0f k ks=true) :
  ∃v m',vs[lb q0f k ks]? = some v∧run E15 (.fn 108) [.ptr (some ⟨t,0⟩),.int .u64 k] m=some (.tup [.agg v,.bool true],m')∧Fr m m' []:=by
 obtain⟨⟨sk,sv,kb,vb,h1,h2,h3,h4,h5,h6,rfl⟩,h7⟩:=h
 have hlt:lb q0f k ks<ks.length:=by
  have:ks[lb q0f k ks]? = some k:=by simpa[q1d]using hk
  exact(List.getElem?_eq_some_iff.1 this).1
 have hf:Fr m (m.lay (.cells [.int .u64 0,.str [],.int .i64 0,.int .u64 0] false)) []:=(Fr.refl m).lay _
 have g1:=hf.get h1 (by simp)
 have g2:=h2.frame hf (by simp)
 have g3:=h3.frame hf (by simp)
 obtain⟨b,rfl,a1,a2⟩:=g3.val (i:=lb q0f k ks) (by omega)
 have a3:∀i:Nat,ld1 (m.lay (.cells [.int .u64 0,.str [],.int .i64 0,.int .u64 0] false)) (.ptr (some ⟨t,i⟩))=[sk,.sl (some ⟨b,0⟩) 4 vs.length vs.length false,.int .i64 most][i]?:=fun i=>q0j g1
 have hv:=h3.1 _ (List.getElem_mem (show lb q0f k ks<vs.length by omega))
 refine⟨vs[lb q0f k ks],(m.lay (.cells [.int .u64 0,.str [],.int .i64 0,.int .u64 0] false)).put m.next (some (.cells vs[lb q0f k ks] false)),List.getElem?_eq_getElem (by omega),?_,hf.put' (.inr (Nat.le_refl _))⟩
 simp only[f108_is (H:=H15) rfl,T.f108,pB,p1,q1,nnA,q0g,q0a,unA,q1g,q1i,w_f108,a3,z9s g2 hs (by omega),hk,Bool.not_true,g108_0_is (H:=H15),T.g108_0,p2,w_g108_0,true_or,if_true,a1,a2,q1w (n:=4) (q0d m (.cells [.int .u64 0,.str [],.int .i64 0,.int .u64 0] false)) rfl hv.1 hv.2,q1b (n:=4) (q05 (q0d m (.cells [.int .u64 0,.str [],.int .i64 0,.int .u64 0] false))) hv.1]
theorem getA_out (h:TabAt (.int .u64) 4 m t ks vs most F) (hs:Srt q0f ks) (hl:ks.length<65536) (k:Int) (hk:q1d q0f k ks=false) :
  ∃m',run E15 (.fn 108) [.ptr (some ⟨t,0⟩),.int .u64 k] m=some (.tup [.agg [.int .u64 0,.str [],.int .i64 0,.int .u64 0],.bool false],m')∧Fr m m' []:=by
 obtain⟨⟨sk,sv,kb,vb,h1,h2,h3,h4,h5,h6,rfl⟩,h7⟩:=h
 have hf:Fr m (m.lay (.cells [.int .u64 0,.str [],.int .i64 0,.int .u64 0] false)) []:=(Fr.refl m).lay _
 have g1:=hf.get h1 (by simp)
 have g2:=h2.frame hf (by simp)
 have a3:∀i:Nat,ld1 (m.lay (.cells [.int .u64 0,.str [],.int .i64 0,.int .u64 0] false)) (.ptr (some ⟨t,i⟩))=[sk,sv,.int .i64 most][i]?:=fun i=>q0j g1
 have g3:((m.lay (.cells [.int .u64 0,.str [],.int .i64 0,.int .u64 0] false)).lay (.cells [.int .u64 0,.str [],.int .i64 0,.int .u64 0] false)).get m.next=some (.cells [.int .u64 0,.str [],.int .i64 0,.int .u64 0] false):=by rw[q75 (by simp)];exact q0d _ _
 refine⟨((m.lay (.cells [.int .u64 0,.str [],.int .i64 0,.int .u64 0] false)).lay (.cells [.int .u64 0,.str [],.int .i64 0,.int .u64 0] false)).put m.next (some (.cells [.int .u64 0,.str [],.int .i64 0,.int .u64 0] false)),?_,(hf.lay _).put' (.inr (Nat.le_refl _))⟩
 simp only[f108_is (H:=H15) rfl,T.f108,pB,p1,q1,nnA,q0g,q0a,unA,q1g,q1i,w_f108,a3,z9s g2 hs (by omega),hk,Bool.not_false,q1b (n:=4) (q0d (m.lay (.cells [.int .u64 0,.str [],.int .i64 0,.int .u64 0] false)) (.cells [.int .u64 0,.str [],.int .i64 0,.int .u64 0] false)) rfl,q1w (n:=4) g3 rfl (show ([.int .u64 0,.str [],.int .i64 0,.int .u64 0]:List AV).length=4 by rfl) (by rfl),q1b (n:=4) (v:=[.int .u64 0,.str [],.int .i64 0,.int .u64 0]) (q05 g3) rfl]
theorem putA_in (h:TabAt (.int .u64) 4 m t ks vs most F) (hs:Srt q0f ks) (hl:ks.length<65536) (k:Int) (hk:q1d q0f k ks=true) {v:List AV} (hv:v.length=4) (ho:v.all AV.one=true) :
  ∃m',run E15 (.fn 41) [.ptr (some ⟨t,0⟩),.int .u64 k,.agg v] m=some (.bool true,m')∧TabAt (.int .u64) 4 m' t ks (vs.set (lb q0f k ks) v) most F∧Fr m m' F:=by
 have hlt:lb q0f k ks<ks.length:=by
  have:ks[lb q0f k ks]? = some k:=by simpa[q1d]using hk
  exact(List.getElem?_eq_some_iff.1 this).1
 have hf:Fr m (m.lay (.cells v false)) []:=(Fr.refl m).lay _
 have h':=h.frame hf (by simp)
 obtain⟨sk,sv,b,m',g1,rfl,a1,a2,a5,a6⟩:=h'.set hlt hv ho
 obtain⟨⟨sk',sv',kb,vb,h1,h2,h3,h4,h5,h6,e⟩,h7⟩:=h'
 rw[g1]at h1
 cases h1
 have a3:∀i:Nat,ld1 (m.lay (.cells v false)) (.ptr (some ⟨t,i⟩))=[sk,.sl (some ⟨b,0⟩) 4 vs.length vs.length false,.int .i64 most][i]?:=fun i=>q0j g1
 have a4:ldN (m.lay (.cells v false)) (.ptr (some ⟨m.next,0⟩)) 4=some (.agg v):=by
  rw[q1v (q0d _ _) (by omega),List.drop_zero,List.take_of_length_le (by omega)]
 refine⟨m',?_,a5,(hf.any F).step a6 (fun c hc=>.inl hc)⟩
 simp only[f41_is (H:=H15) rfl,T.f41,p1,q1,p2,q1h,nnA,q0g,q0a,w_f41,q19 ho,Option.map_some,a3,a4,z9s h2 hs (by omega),hk,true_or,if_true,a1,a2,j6j (H:=H15),T.g41_0,w_g41_0]
theorem putA_full (h:TabAt (.int .u64) 4 m t ks vs most F) (hs:Srt q0f ks) (hl:ks.length<65536) (k:Int) (hk:q1d q0f k ks=false) (hf:most≤ks.length) {v:List AV} (ho:v.all AV.one=true) :
  ∃m',run E15 (.fn 41) [.ptr (some ⟨t,0⟩),.int .u64 k,.agg v] m=some (.bool false,m')∧Fr m m' []:=by
 obtain⟨⟨sk,sv,kb,vb,h1,h2,h3,h4,h5,h6,rfl⟩,h7⟩:=h
 have hf0:Fr m (m.lay (.cells v false)) []:=(Fr.refl m).lay _
 have g1:=hf0.get h1 (by simp)
 have g2:=h2.frame hf0 (by simp)
 obtain⟨a,sz,cap,ex,rfl⟩:=h2.klen
 have a3:∀i:Nat,ld1 (m.lay (.cells v false)) (.ptr (some ⟨t,i⟩))=[.sl a sz ks.length cap ex,sv,.int .i64 most][i]?:=fun i=>q0j g1
 refine⟨_,?_,hf0⟩
 simp only[f41_is (H:=H15) rfl,T.f41,p1,q1,p2,q1h,nnA,q0g,q0a,w_f41,q19 ho,Option.map_some,a3,z9s g2 hs (by omega),hk,dt (show most≤(ks.length:Int) by omega)]
theorem putA_new (h:TabAt (.int .u64) 4 m t ks vs most F) (hs:Srt q0f ks) (hl:ks.length<4096) (k:Int) (hk:q1d q0f k ks=false) (hf:(ks.length:Int)<most) {v:List AV} (hv:v.length=4) (ho:v.all AV.one=true) :
  ∃m' F',run E15 (.fn 41) [.ptr (some ⟨t,0⟩),.int .u64 k,.agg v] m=some (.bool true,m')∧TabAt (.int .u64) 4 m' t (q47 (lb q0f k ks) k ks) (q47 (lb q0f k ks) v vs) most F'∧Fr m m' F∧∀c,c∈F'→c∈F∨m.next≤c:=by
 have hf0:Fr m (m.lay (.cells v false)) []:=(Fr.refl m).lay _
 have h':=h.frame hf0 (by simp)
 obtain⟨sk,sv,sk',m2,sv',m5,F',g1,a1,a2,a3,a4,b1,b2,b3,b4,b5,b6⟩:=h'.ins (P:=Tryz.prog) (st1:=149) (e1:=26) (st2:=25) (e2:=54) (w1:=8) (w2:=40) (zs1:=[.int .u64 0]) (zs2:=[.int .u64 0,.str [],.int .i64 0,.int .u64 0]) (by kernel_rfl) (by kernel_rfl) (by kernel_rfl) (by kernel_rfl) (by kernel_rfl) (by decide) (by kernel_rfl) (by kernel_rfl) (by kernel_rfl) (by kernel_rfl) (by kernel_rfl) (by decide) (by decide)
  (fun _=>rfl) (z7s k ks) hl (by decide) (k:=k) hv ho
 obtain⟨⟨sk1,sv1,kb,vb,h1,h2,h3,h4,h5,h6,e⟩,h7⟩:=h'
 rw[g1]at h1
 cases h1
 obtain⟨x,sz,cap,ex,rfl⟩:=h2.klen
 have c1:∀i:Nat,ld1 (m.lay (.cells v false)) (.ptr (some ⟨t,i⟩))=[.sl x sz ks.length cap ex,sv,.int .i64 most][i]?:=fun i=>q0j g1
 have c2:∀i:Nat,ld1 (m2.put t (some (.cells [sk',sv,.int .i64 most] false))) (.ptr (some ⟨t,i⟩))=[sk',sv,.int .i64 most][i]?:=fun i=>q0j a3
 have c3:ldN (m2.put t (some (.cells [sk',sv,.int .i64 most] false))) (.ptr (some ⟨m.next,0⟩)) 4=some (.agg v):=by
  have:(m2.put t (some (.cells [sk',sv,.int .i64 most] false))).get m.next=some (.cells v false):=b4.get (q0d _ _) (fun hm=>by have:=h.lt _ hm;omega)
  rw[q1v this (by omega),List.drop_zero,List.take_of_length_le (by omega)]
 have c4:(m2.put t (some (.cells [sk',sv,.int .i64 most] false))).next=m2.next:=rfl
 refine⟨_,F',?_,b3,(hf0.any F).step b5 (fun c hc=>.inl hc),fun c hc=>(b6 c hc).imp id (fun h=>by have:m.next≤(m.lay (.cells v false)).next:=hf0.next;omega)⟩
 simp only[f41_is (H:=H15) rfl,T.f41,p1,q1,p2,q1h,nnA,q0g,q0a,w_f41,q19 ho,Option.map_some,j23 (x:=.int .u64 k) (by rfl),q8q (n:=4) (zs:=[.int .u64 0,.str [],.int .i64 0,.int .u64 0]) ho hv (by rfl),c1,z9s h2 hs (by omega),hk,df (show ¬most≤(ks.length:Int) by omega),inkA_is,invA_is,a1,a2,c2,c3,c4,b1,b2,j6j (H:=H15),T.g41_0,w_g41_0]
theorem getA_is (h:TabAt (.int .u64) 4 m t ks vs most F) (hs:Srt q0f ks) (hl:ks.length<65536) (k:Int) :
  ∃v m',run E15 (.fn 108) [.ptr (some ⟨t,0⟩),.int .u64 k] m=some (.tup [.agg v,.bool (q1d q0f k ks)],m')∧(q1d q0f k ks=true→vs[lb q0f k ks]? = some v)∧(q1d q0f k ks=false→v=[.int .u64 0,.str [],.int .i64 0,.int .u64 0])∧v.length=4∧v.all AV.one=true∧Fr m m' []:=by
 cases hk:q1d q0f k ks with
 |true=>
  obtain⟨v,m',h1,h2,h3⟩:=getA_in h hs hl k hk
  obtain⟨⟨sk,sv,kb,vb,_,_,g3,_⟩,_⟩:=h
  have:=g3.1 v (List.mem_of_getElem? h1)
  exact⟨v,m',h2,fun _=>h1,nofun,this.1,this.2,h3⟩
 |false=>
  obtain⟨m',h2,h3⟩:=getA_out h hs hl k hk
  exact⟨_,m',h2,nofun,fun _=>rfl,rfl,rfl,h3⟩
theorem putA_is (h:TabAt (.int .u64) 4 m t ks vs most F) (hs:Srt q0f ks) (hl:ks.length<4096) (k:Int) {v:List AV} (hv:v.length=4) (ho:v.all AV.one=true) :
  ∃m' F',run E15 (.fn 41) [.ptr (some ⟨t,0⟩),.int .u64 k,.agg v] m=some (.bool (q1d q0f k ks||decide ((ks.length:Int)<most)),m')∧
   TabAt (.int .u64) 4 m' t (putK q0f k ks most) (putV q0f k ks v vs most) most F'∧Fr m m' F∧∀c,c∈F'→c∈F∨m.next≤c:=by
 unfold putK putV
 cases hk:q1d q0f k ks with
 |true=>
  obtain⟨m',h1,h2,h3⟩:=putA_in h hs (by omega) k hk hv ho
  exact⟨m',F,h1,by simpa using h2,h3,fun c hc=>.inl hc⟩
 |false=>
  by_cases hf:(ks.length:Int)<most
  ·obtain⟨m',F',h1,h2,h3,h4⟩:=putA_new h hs hl k hk hf hv ho
   exact⟨m',F',by simpa[hf]using h1,by simpa[hf]using h2,h3,h4⟩
  ·obtain⟨m',h1,h2⟩:=putA_full h hs (by omega) k hk (by omega) ho
   exact⟨m',F,by simpa[hf]using h1,by simpa[hf]using h.frame h2 (by simp),h2.any F,fun c hc=>.inl hc⟩
end
end
section
open Go Go.Abs
theorem inkQ_is (xs:List AV) (m:Mem):run E15 (.fn 83) xs m=z3x Tryz.prog 140 xs m:=q1t rfl xs m
theorem invQ_is (xs:List AV) (m:Mem):run E15 (.fn 85) xs m=z3x Tryz.prog 24 xs m:=q1t rfl xs m
section
variable {m:Mem} {t:Nat} {ks:List (List UInt8)} {vs:List (List AV)} {most:Int} {F:List Nat}
theorem newQ_is (m:Mem) {most:Int} (h1:1≤most) (h2:most≤4096):∃m',run E15 (.fn 80) [.int .i64 most] m=some (.tup [.ptr (some ⟨m.next,0⟩),.int .i64 0],m')∧m'=m.lay (.cells [.sl none 0 0 0 true,.sl none 0 0 0 true,.int .i64 most] false):=by
 refine⟨_,?_,rfl⟩
 simp only[f80_is (H:=H15) rfl,T.f80,p2,q0a,ifV,w_f80,df (show ¬most<1 by omega),df (show ¬(4096:Int)<most by omega)]
 simp only[g80_0_is (H:=H15),T.g80_0,p1,q0r,AV.cells,Nat.reduceAdd,Nat.reduceLeDiff,q1h,w_g80_0,List.all_cons,List.all_nil,AV.one]
theorem putQ_in (h:TabAt (.str) 9 m t ks vs most F) (hs:Srt q0c ks) (hl:ks.length<65536) (k:(List UInt8)) (hk:q1d q0c k ks=true) {v:List AV} (hv:v.length=9) (ho:v.all AV.one=true) :
  ∃m',run E15 (.fn 40) [.ptr (some ⟨t,0⟩),.str k,.agg v] m=some (.bool true,m')∧TabAt (.str) 9 m' t ks (vs.set (lb q0c k ks) v) most F∧Fr m m' F:=by
 have hlt:lb q0c k ks<ks.length:=by
  have:ks[lb q0c k ks]? = some k:=by simpa[q1d]using hk
  exact(List.getElem?_eq_some_iff.1 this).1
 have hf:Fr m (m.lay (.cells v false)) []:=(Fr.refl m).lay _
 have h':=h.frame hf (by simp)
 obtain⟨sk,sv,b,m',g1,rfl,a1,a2,a5,a6⟩:=h'.set hlt hv ho
 obtain⟨⟨sk',sv',kb,vb,h1,h2,h3,h4,h5,h6,e⟩,h7⟩:=h'
 rw[g1]at h1
 cases h1
 have a3:∀i:Nat,ld1 (m.lay (.cells v false)) (.ptr (some ⟨t,i⟩))=[sk,.sl (some ⟨b,0⟩) 9 vs.length vs.length false,.int .i64 most][i]?:=fun i=>q0j g1
 have a4:ldN (m.lay (.cells v false)) (.ptr (some ⟨m.next,0⟩)) 9=some (.agg v):=by
  rw[q1v (q0d _ _) (by omega),List.drop_zero,List.take_of_length_le (by omega)]
 refine⟨m',?_,a5,(hf.any F).step a6 (fun c hc=>.inl hc)⟩
 simp only[f40_is (H:=H15) rfl,T.f40,p1,q1,p2,q1h,nnA,q0g,q0a,w_f40,q19 ho,Option.map_some,a3,a4,z0j h2 hs (by omega),hk,true_or,if_true,a1,a2,j6i (H:=H15),T.g40_0,w_g40_0]
theorem putQ_full (h:TabAt (.str) 9 m t ks vs most F) (hs:Srt q0c ks) (hl:ks.length<65536) (k:(List UInt8)) (hk:q1d q0c k ks=false) (hf:most≤ks.length) {v:List AV} (ho:v.all AV.one=true) :
  ∃m',run E15 (.fn 40) [.ptr (some ⟨t,0⟩),.str k,.agg v] m=some (.bool false,m')∧Fr m m' []:=by
 obtain⟨⟨sk,sv,kb,vb,h1,h2,h3,h4,h5,h6,rfl⟩,h7⟩:=h
 have hf0:Fr m (m.lay (.cells v false)) []:=(Fr.refl m).lay _
 have g1:=hf0.get h1 (by simp)
 have g2:=h2.frame hf0 (by simp)
 obtain⟨a,sz,cap,ex,rfl⟩:=h2.klen
 have a3:∀i:Nat,ld1 (m.lay (.cells v false)) (.ptr (some ⟨t,i⟩))=[.sl a sz ks.length cap ex,sv,.int .i64 most][i]?:=fun i=>q0j g1
 refine⟨_,?_,hf0⟩
 simp only[f40_is (H:=H15) rfl,T.f40,p1,q1,p2,q1h,nnA,q0g,q0a,w_f40,q19 ho,Option.map_some,a3,z0j g2 hs (by omega),hk,dt (show most≤(ks.length:Int) by omega)]
theorem putQ_new (h:TabAt (.str) 9 m t ks vs most F) (hs:Srt q0c ks) (hl:ks.length<4096) (k:(List UInt8)) (hk:q1d q0c k ks=false) (hf:(ks.length:Int)<most) {v:List AV} (hv:v.length=9) (ho:v.all AV.one=true) :
  ∃m' F',run E15 (.fn 40) [.ptr (some ⟨t,0⟩),.str k,.agg v] m=some (.bool true,m')∧TabAt (.str) 9 m' t (q47 (lb q0c k ks) k ks) (q47 (lb q0c k ks) v vs) most F'∧Fr m m' F∧∀c,c∈F'→c∈F∨m.next≤c:=by
 have hf0:Fr m (m.lay (.cells v false)) []:=(Fr.refl m).lay _
 have h':=h.frame hf0 (by simp)
 obtain⟨sk,sv,sk',m2,sv',m5,F',g1,a1,a2,a3,a4,b1,b2,b3,b4,b5,b6⟩:=h'.ins (P:=Tryz.prog) (st1:=140) (e1:=9) (st2:=24) (e2:=74) (w1:=16) (w2:=88) (zs1:=[.str []]) (zs2:=[.str [],.str [],.int .i64 0,.int .u64 0,.int .i64 0,.int .i64 0,.int .u64 0,.int .i64 0,.int .u64 0]) (by kernel_rfl) (by kernel_rfl) (by kernel_rfl) (by kernel_rfl) (by kernel_rfl) (by decide) (by kernel_rfl) (by kernel_rfl) (by kernel_rfl) (by kernel_rfl) (by kernel_rfl) (by decide) (by decide)
  (fun _=>rfl) (z7s k ks) hl (by decide) (k:=k) hv ho
 obtain⟨⟨sk1,sv1,kb,vb,h1,h2,h3,h4,h5,h6,e⟩,h7⟩:=h'
 rw[g1]at h1
 cases h1
 obtain⟨x,sz,cap,ex,rfl⟩:=h2.klen
 have c1:∀i:Nat,ld1 (m.lay (.cells v false)) (.ptr (some ⟨t,i⟩))=[.sl x sz ks.length cap ex,sv,.int .i64 most][i]?:=fun i=>q0j g1
 have c2:∀i:Nat,ld1 (m2.put t (some (.cells [sk',sv,.int .i64 most] false))) (.ptr (some ⟨t,i⟩))=[sk',sv,.int .i64 most][i]?:=fun i=>q0j a3
 have c3:ldN (m2.put t (some (.cells [sk',sv,.int .i64 most] false))) (.ptr (some ⟨m.next,0⟩)) 9=some (.agg v):=by
  have:(m2.put t (some (.cells [sk',sv,.int .i64 most] false))).get m.next=some (.cells v false):=b4.get (q0d _ _) (fun hm=>by have:=h.lt _ hm;omega)
  rw[q1v this (by omega),List.drop_zero,List.take_of_length_le (by omega)]
 have c4:(m2.put t (some (.cells [sk',sv,.int .i64 most] false))).next=m2.next:=rfl
 refine⟨_,F',?_,b3,(hf0.any F).step b5 (fun c hc=>.inl hc),fun c hc=>(b6 c hc).imp id (fun h=>by have:m.next≤(m.lay (.cells v false)).next:=hf0.next;omega)⟩
 simp only[f40_is (H:=H15) rfl,T.f40,p1,q1,p2,q1h,nnA,q0g,q0a,w_f40,q19 ho,Option.map_some,j23 (x:=.str k) (by rfl),q8q (n:=9) (zs:=[.str [],.str [],.int .i64 0,.int .u64 0,.int .i64 0,.int .i64 0,.int .u64 0,.int .i64 0,.int .u64 0]) ho hv (by rfl),c1,z0j h2 hs (by omega),hk,df (show ¬most≤(ks.length:Int) by omega),inkQ_is,invQ_is,a1,a2,c2,c3,c4,b1,b2,j6i (H:=H15),T.g40_0,w_g40_0]
theorem putQ_is (h:TabAt (.str) 9 m t ks vs most F) (hs:Srt q0c ks) (hl:ks.length<4096) (k:(List UInt8)) {v:List AV} (hv:v.length=9) (ho:v.all AV.one=true) :
  ∃m' F',run E15 (.fn 40) [.ptr (some ⟨t,0⟩),.str k,.agg v] m=some (.bool (q1d q0c k ks||decide ((ks.length:Int)<most)),m')∧
   TabAt (.str) 9 m' t (putK q0c k ks most) (putV q0c k ks v vs most) most F'∧Fr m m' F∧∀c,c∈F'→c∈F∨m.next≤c:=by
 unfold putK putV
 cases hk:q1d q0c k ks with
 |true=>
  obtain⟨m',h1,h2,h3⟩:=putQ_in h hs (by omega) k hk hv ho
  exact⟨m',F,h1,by simpa using h2,h3,fun c hc=>.inl hc⟩
 |false=>
  by_cases hf:(ks.length:Int)<most
  ·obtain⟨m',F',h1,h2,h3,h4⟩:=putQ_new h hs hl k hk hf hv ho
   exact⟨m',F',by simpa[hf]using h1,by simpa[hf]using h2,h3,h4⟩
  ·obtain⟨m',h1,h2⟩:=putQ_full h hs (by omega) k hk (by omega) ho
   exact⟨m',F,by simpa[hf]using h1,by simpa[hf]using h.frame h2 (by simp),h2.any F,fun c hc=>.inl hc⟩
end
end
section
open Go Go.Abs
theorem name_loop (s:List UInt8) (hl:s.length<4611686018427387904) (m:Mem):∀(d i:Nat),s.length-i≤d→i≤s.length→D15.gor 188416 [.str s,.int .i64 i] m=some (.bool ((s.drop i).all (fun c=>decide (65≤c.toNat)&&decide (c.toNat≤90))&&decide (s.length=3)),m):=by
 intro d
 induction d with
 |zero=>
  intro i hd hi
  have e:i=s.length:=by omega
  subst e
  simp only[j6l (H:=H15),T.g46_0,p1,p2,q0a,w_g46_0,df (show ¬((s.length:Nat):Int)<(s.length:Int) by omega),g46_3_is (H:=H15),T.g46_3,w_g46_3,List.drop_length,List.all_nil,Bool.true_and]
  rw[show decide ((s.length:Int)=3)=decide (s.length=3) by by_cases h:s.length=3<;>simp[h];omega]
 |succ d ih=>
  intro i hd hi
  by_cases e:i=s.length
  ·exact ih i (by omega) hi
  ·have hlt:i<s.length:=by omega
   simp only[j6l (H:=H15),T.g46_0,p1,p2,q0a,w_g46_0,dt (show (i:Int)<(s.length:Int) by omega)]
   have h0:(0:Int)≤(i:Int):=by omega
   simp only[g46_1_is (H:=H15),T.g46_1,p2,q0a,ifV,w_g46_1,if_pos h0,Int.toNat_natCast,List.getElem?_eq_getElem hlt]
   rw[List.drop_eq_getElem_cons hlt,List.all_cons]
   by_cases h1:(s[i].toNat:Int)<65
   ·simp only[dt h1,df (show ¬65≤s[i].toNat by omega),Bool.false_and]
   ·by_cases h2:(90:Int)<(s[i].toNat:Int)
    ·simp only[df h1,dt h2,df (show ¬s[i].toNat≤90 by omega),Bool.false_and,Bool.and_false]
    ·simp only[df h1,df h2,g46_2_is (H:=H15),T.g46_2,p2,w_g46_2,dt (show 65≤s[i].toNat by omega),dt (show s[i].toNat≤90 by omega),Bool.true_and]
     rw[wrap_i64 (by have:=hl;omega) (by have:=hl;omega),show (i:Int)+1=((i+1:Nat):Int) by omega]
     exact ih (i+1) (by omega) (by omega)
theorem name_is (s:List UInt8) (hl:s.length<4611686018427387904) (m:Mem):run E15 (.fn 46) [.str s] m=some (.bool (q66 s),m):=by
 simp only[f46_is (H:=H15) rfl,T.f46,w_f46]
 exact name_loop s hl m s.length 0 (by omega) (by omega)
section
variable {m:Mem} {b:Nat} {st:LSt} {F:List Nat}
theorem new_is (m:Mem) {most:Int} (h1:1≤most) (h2:most≤64) :
  ∃b m' F,run E15 (.fn 38) [.int .i64 most] m=some (.tup [.ptr (some ⟨b,0⟩),.int .i64 0],m')∧LedgerAt m' b ⟨[],[],[],0,most⟩ F∧Fr m m' []∧∀c,c∈F→m.next≤c:=by
 obtain⟨m1,hm1⟩:∃m1,m1=m.lay (.cells [.int .i64 most,.ptr none,.ptr none,.ptr none,.int .u64 0] false):=⟨_,rfl⟩
 have b1:m1.get m.next=some (.cells [.int .i64 most,.ptr none,.ptr none,.ptr none,.int .u64 0] false):=by rw[hm1];exact q0d _ _
 have n1:m1.next=m.next+1:=by rw[hm1];rfl
 have f1:Fr m m1 []:=by rw[hm1];exact(Fr.refl m).lay _
 obtain⟨m2',p1,p2⟩:=newP_is m1 (most:=8) (by omega) (by omega)
 have b2:=(show m2'.get m.next=m1.get m.next by rw[p2,q75 (by omega)]).trans b1
 have s2:=q3l (v:=.ptr (some ⟨m1.next,0⟩)) (o:=1) (n:=1) b2 rfl rfl (by simp)
 obtain⟨m2,hm2⟩:∃m2,m2=m2'.put m.next (some (.cells [.int .i64 most,.ptr (some ⟨m1.next,0⟩),.ptr none,.ptr none,.int .u64 0] false)):=⟨_,rfl⟩
 have s2':stV m2' (.ptr (some ⟨m.next,1⟩)) (.ptr (some ⟨m1.next,0⟩)) 1=some m2:=by rw[hm2];simpa using s2
 have n2:m2.next=m.next+2:=by rw[hm2,p2];simp[n1]
 have b2':m2.get m.next=some (.cells [.int .i64 most,.ptr (some ⟨m1.next,0⟩),.ptr none,.ptr none,.int .u64 0] false):=by rw[hm2];exact q05 b2
 have t2:m2.get m1.next=some (.cells [.sl none 0 0 0 true,.sl none 0 0 0 true,.int .i64 8] false):=by rw[hm2,q3e (by omega),p2];exact q0d _ _
 have f2:Fr m m2 []:=by rw[hm2,p2];exact(f1.lay _).put' (.inr (Nat.le_refl _))
 obtain⟨m3',q1,q2⟩:=newQ_is m2 (most:=64) (by omega) (by omega)
 have b3:=(show m3'.get m.next=m2.get m.next by rw[q2,q75 (by omega)]).trans b2'
 have s3:=q3l (v:=.ptr (some ⟨m2.next,0⟩)) (o:=2) (n:=1) b3 rfl rfl (by simp)
 obtain⟨m3,hm3⟩:∃m3,m3=m3'.put m.next (some (.cells [.int .i64 most,.ptr (some ⟨m1.next,0⟩),.ptr (some ⟨m2.next,0⟩),.ptr none,.int .u64 0] false)):=⟨_,rfl⟩
 have s3':stV m3' (.ptr (some ⟨m.next,2⟩)) (.ptr (some ⟨m2.next,0⟩)) 1=some m3:=by rw[hm3];simpa using s3
 have n3:m3.next=m.next+3:=by rw[hm3,q2];simp[n2]
 have b3':m3.get m.next=some (.cells [.int .i64 most,.ptr (some ⟨m1.next,0⟩),.ptr (some ⟨m2.next,0⟩),.ptr none,.int .u64 0] false):=by rw[hm3];exact q05 b3
 have t3:m3.get m2.next=some (.cells [.sl none 0 0 0 true,.sl none 0 0 0 true,.int .i64 64] false):=by rw[hm3,q3e (by omega),q2];exact q0d _ _
 have t23:m3.get m1.next=some (.cells [.sl none 0 0 0 true,.sl none 0 0 0 true,.int .i64 8] false):=by rw[hm3,q3e (by omega),q2,q75 (by omega)];exact t2
 have f3:Fr m m3 []:=by rw[hm3,q2];exact(f2.lay _).put' (.inr (Nat.le_refl _))
 obtain⟨m4',r1,r2⟩:=newA_is m3 (most:=most) (by omega) (by omega)
 have b4:=(show m4'.get m.next=m3.get m.next by rw[r2,q75 (by omega)]).trans b3'
 have s4:=q3l (v:=.ptr (some ⟨m3.next,0⟩)) (o:=3) (n:=1) b4 rfl rfl (by simp)
 obtain⟨m4,hm4⟩:∃m4,m4=m4'.put m.next (some (.cells [.int .i64 most,.ptr (some ⟨m1.next,0⟩),.ptr (some ⟨m2.next,0⟩),.ptr (some ⟨m3.next,0⟩),.int .u64 0] false)):=⟨_,rfl⟩
 have s4':stV m4' (.ptr (some ⟨m.next,3⟩)) (.ptr (some ⟨m3.next,0⟩)) 1=some m4:=by rw[hm4];simpa using s4
 have b4':m4.get m.next=some (.cells [.int .i64 most,.ptr (some ⟨m1.next,0⟩),.ptr (some ⟨m2.next,0⟩),.ptr (some ⟨m3.next,0⟩),.int .u64 0] false):=by rw[hm4];exact q05 b4
 have t4:m4.get m3.next=some (.cells [.sl none 0 0 0 true,.sl none 0 0 0 true,.int .i64 most] false):=by rw[hm4,q3e (by omega),r2];exact q0d _ _
 have t34:m4.get m2.next=some (.cells [.sl none 0 0 0 true,.sl none 0 0 0 true,.int .i64 64] false):=by rw[hm4,q3e (by omega),r2,q75 (by omega)];exact t3
 have t24:m4.get m1.next=some (.cells [.sl none 0 0 0 true,.sl none 0 0 0 true,.int .i64 8] false):=by rw[hm4,q3e (by omega),r2,q75 (by omega)];exact t23
 have f4:Fr m m4 []:=by rw[hm4,r2];exact(f3.lay _).put' (.inr (Nat.le_refl _))
 refine⟨m.next,m4,m.next::([m1.next]++[m2.next]++[m3.next]),?_,⟨m1.next,m2.next,m3.next,_,_,_,b4',TabAt.new t24,TabAt.new t34,TabAt.new t4,by simp;omega,by simp;omega,by simp;omega,?_,?_,?_,rfl⟩,f4,?_⟩
 ·simp only[f38_is (H:=H15) rfl,T.f38,q0a,ifV,w_f38,df (show ¬most<1 by omega),df (show ¬(64:Int)<most by omega)]
  simp only[g38_0_is (H:=H15),T.g38_0,p1,q0r,AV.cells,Nat.reduceAdd,Nat.reduceLeDiff,q1h,nnA,q0g,w_g38_0,List.all_cons,List.all_nil,AV.one,←hm1,s2',q1,s3',r1,s4']
 ·intro c h h';simp only[List.mem_singleton]at h h';omega
 ·intro c h h';simp only[List.mem_singleton]at h h';omega
 ·intro c h h';simp only[List.mem_singleton]at h h';omega
 ·intro c hc
  simp only[List.mem_cons,List.mem_append,List.not_mem_nil,or_false]at hc
  omega
end
end
end Go.Proofs.YtlginbmjiecglaaGreatDoor
namespace Go.Abs
section
open Go
def nilP:PurseV:=⟨[],0,⟨0,0⟩⟩
def nilA:AccV:=⟨0,[],⟨0,0⟩⟩
def z9l:PairV:=⟨[],[],⟨0,0⟩,0,⟨0,0⟩,⟨0,0⟩⟩
def LSt.q5l (st:LSt) (k:List UInt8):Option PurseV:=if q1d q0c k (st.q0b.map (·.name))=true then st.q0b[lb q0c k (st.q0b.map (·.name))]? else none
def LSt.getQ (st:LSt) (k:List UInt8):Option PairV:=if q1d q0c k (st.pairs.map (·.key))=true then st.pairs[lb q0c k (st.pairs.map (·.key))]? else none
def LSt.q7y (st:LSt) (k:Int):Option AccV:=if q1d q0f k (st.q0n.map (·.id))=true then st.q0n[lb q0f k (st.q0n.map (·.id))]? else none
theorem j7n {κ:Type} [DecidableEq κ] {lt:κ→κ→Bool} {k:κ} {ks:List κ} (h:q1d lt k ks=true):lb lt k ks<ks.length:=by
 have:ks[lb lt k ks]? = some k:=by simpa[q1d]using h
 exact(List.getElem?_eq_some_iff.1 this).1
theorem q5o {κ:Type} [DecidableEq κ] {lt:κ→κ→Bool} {k:κ} {ks:List κ} (h:q1d lt k ks=true):ks[lb lt k ks]? = some k:=by simpa[q1d]using h
theorem LSt.q2v {st:LSt} {k:List UInt8} (h:q1d q0c k (st.q0b.map (·.name))=true):∃p,st.q5l k=some p∧p.name=k∧st.q0b[lb q0c k (st.q0b.map (·.name))]? = some p∧p∈st.q0b:=by
 have hl:=j7n h
 rw[List.length_map]at hl
 have ha:=q5o h
 rw[List.getElem?_map,List.getElem?_eq_getElem hl]at ha
 exact⟨_,by unfold LSt.q5l;rw[if_pos h,List.getElem?_eq_getElem hl],by simpa using ha,List.getElem?_eq_getElem hl,List.getElem_mem hl⟩
theorem LSt.q4h {st:LSt} {k:List UInt8} (h:q1d q0c k (st.q0b.map (·.name))=false):st.q5l k=none:=by unfold LSt.q5l;rw[if_neg (by rw[h];decide)]
theorem LSt.q88 {st:LSt} {k:List UInt8} (h:q1d q0c k (st.pairs.map (·.key))=true):∃p,st.getQ k=some p∧p.key=k∧st.pairs[lb q0c k (st.pairs.map (·.key))]? = some p∧p∈st.pairs:=by
 have hl:=j7n h
 rw[List.length_map]at hl
 have ha:=q5o h
 rw[List.getElem?_map,List.getElem?_eq_getElem hl]at ha
 exact⟨_,by unfold LSt.getQ;rw[if_pos h,List.getElem?_eq_getElem hl],by simpa using ha,List.getElem?_eq_getElem hl,List.getElem_mem hl⟩
theorem LSt.z2o {st:LSt} {k:List UInt8} (h:q1d q0c k (st.pairs.map (·.key))=false):st.getQ k=none:=by unfold LSt.getQ;rw[if_neg (by rw[h];decide)]
theorem LSt.q2q {st:LSt} {k:Int} (h:q1d q0f k (st.q0n.map (·.id))=true):∃p,st.q7y k=some p∧p.id=k∧st.q0n[lb q0f k (st.q0n.map (·.id))]? = some p∧p∈st.q0n:=by
 have hl:=j7n h
 rw[List.length_map]at hl
 have ha:=q5o h
 rw[List.getElem?_map,List.getElem?_eq_getElem hl]at ha
 exact⟨_,by unfold LSt.q7y;rw[if_pos h,List.getElem?_eq_getElem hl],by simpa using ha,List.getElem?_eq_getElem hl,List.getElem_mem hl⟩
theorem LSt.q3p {st:LSt} {k:Int} (h:q1d q0f k (st.q0n.map (·.id))=false):st.q7y k=none:=by unfold LSt.q7y;rw[if_neg (by rw[h];decide)]
theorem PurseV.flat (p:PurseV):AV.lts 0 p.cells:=by simp[PurseV.cells,AV.lts,AV.lt]
theorem PairV.flat (p:PairV):AV.lts 0 p.cells:=by simp[PairV.cells,AV.lts,AV.lt]
theorem AccV.flat (p:AccV):AV.lts 0 p.cells:=by simp[AccV.cells,AV.lts,AV.lt]
theorem Fr.same {m m2:Mem} (h:m.next≤m2.next) (h':∀b,m2.get b=m.get b):Fr m m2 []:=⟨h,fun c _ _=>h' c⟩
def q9l (w:Wd) (s:Int):Bool:=decide ((0≤s∧s≤18)∧0<w.val)
def LSt.of (st:LSt) (id:Int):AccV×PurseV×Int:=
 match st.q7y id with
 |none=>(nilA,nilP,40)
 |some a=>(a,(st.q5l a.coin).getD nilP,0)
def q3b (p:PurseV) (w:Wd) (s:Int):Int:=if s≠p.scale then 21 else if w.val≤0 then 43 else 0
section
variable {b n:Nat}
theorem q2d (h:b<n):(b=n)=False:=by simp;omega
theorem q8p (h:b<n):(b=n+1)=False:=by simp;omega
theorem j5g (h:b<n):(b=n+1+1)=False:=by simp;omega
theorem bnx3 (h:b<n):(b=n+1+1+1)=False:=by simp;omega
theorem bnx4 (h:b<n):(b=n+1+1+1+1)=False:=by simp;omega
theorem bnx5 (h:b<n):(b=n+1+1+1+1+1)=False:=by simp;omega
theorem bnx6 (h:b<n):(b=n+1+1+1+1+1+1)=False:=by simp;omega
theorem bnx7 (h:b<n):(b=n+1+1+1+1+1+1+1)=False:=by simp;omega
theorem bnx8 (h:b<n):(b=n+1+1+1+1+1+1+1+1)=False:=by simp;omega
theorem bnx9 (h:b<n):(b=n+1+1+1+1+1+1+1+1+1)=False:=by simp;omega
theorem bnx10 (h:b<n):(b=n+1+1+1+1+1+1+1+1+1+1)=False:=by simp;omega
theorem bnx11 (h:b<n):(b=n+1+1+1+1+1+1+1+1+1+1+1)=False:=by simp;omega
theorem bnx12 (h:b<n):(b=n+1+1+1+1+1+1+1+1+1+1+1+1)=False:=by simp;omega
theorem bnx13 (h:b<n):(b=n+1+1+1+1+1+1+1+1+1+1+1+1+1)=False:=by simp;omega
theorem bnx14 (h:b<n):(b=n+1+1+1+1+1+1+1+1+1+1+1+1+1+1)=False:=by simp;omega
end
theorem nn9 (n:Nat):(n=n+1+1+1+1+1+1+1+1+1)=False:=by simp;omega
theorem nn10 (n:Nat):(n=n+1+1+1+1+1+1+1+1+1+1)=False:=by simp;omega
theorem nn11 (n:Nat):(n=n+1+1+1+1+1+1+1+1+1+1+1)=False:=by simp;omega
theorem nn12 (n:Nat):(n=n+1+1+1+1+1+1+1+1+1+1+1+1)=False:=by simp;omega
theorem nn13 (n:Nat):(n=n+1+1+1+1+1+1+1+1+1+1+1+1+1)=False:=by simp;omega
theorem nn14 (n:Nat):(n=n+1+1+1+1+1+1+1+1+1+1+1+1+1+1)=False:=by simp;omega
theorem frl {m M:Mem} {S:List Nat} (h:Fr m M S) (v:Blk):Fr m (M.lay v) S:=h.lay v
structure LWf (st:LSt):Prop where
 sp:Srt q0c (st.q0b.map (·.name))
 lp:st.q0b.length≤8
 sq:Srt q0c (st.pairs.map (·.key))
 lq:st.pairs.length≤64
 sa:Srt q0f (st.q0n.map (·.id))
 la:st.q0n.length≤64
 okp:∀p∈st.q0b,0≤p.scale∧p.scale≤18∧p.out.ok∧q66 p.name=true
 okq:∀q∈st.pairs,q.rate.ok∧q9l q.rate q.rscale=true∧q.inx.ok∧q.outy.ok∧(st.q5l q.x).isSome=true∧(st.q5l q.y).isSome=true
 oka:∀a∈st.q0n,a.bal.ok∧0≤a.id∧a.id≤st.latest∧(st.q5l a.coin).isSome=true
 lat:0≤st.latest∧st.latest≤72057594037927935
end
end Go.Abs
