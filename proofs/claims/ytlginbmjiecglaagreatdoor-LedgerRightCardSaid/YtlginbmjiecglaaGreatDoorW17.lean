/- Texts of one claim, put together. -/
import Derived.Test.YtlginbmjiecglaaGreatDoorW16
namespace Go.Proofs.YtlginbmjiecglaaGreatDoor
section
open Go Go.Abs
theorem j9S (xs:List AV) (m:Mem):run E15 (.fn 83) xs m=q7v Tryz.prog 140 xs m:=q00 rfl xs m
theorem j9V (xs:List AV) (m:Mem):run E15 (.fn 84) xs m=q7v Tryz.prog 23 xs m:=q00 rfl xs m
section
variable {m:Mem} {t:Nat} {ks:List (List UInt8)} {vs:List (List AV)} {most:Int} {F:List Nat}
theorem j94 (m:Mem) {most:Int} (h1:1<=most) (h2:most<=4096):∃m',run E15 (.fn 79) [.int .i64 most] m=some (.tup [.ptr (some ⟨m.next,0⟩),.int .i64 0],m')/\m'=m.lay (.cells [.sl none 0 0 0 true,.sl none 0 0 0 true,.int .i64 most] false):=by
 refine⟨_,?_,rfl⟩;simp only[a2e (H:=H15) rfl,T.f79,p2,q0b,ifV,wp,df (show ¬most<1 by omega),df (show ¬(4096:Int)<most by omega)];simp only[j3i (H:=H15),T.j8I,p1,q0n,AV.cells,Nat.reduceAdd,Nat.reduceLeDiff,q0N,q0B,List.all_cons,List.all_nil,AV.one]
theorem a0c (h:TabAt (.str) 4 m t ks vs most F) (hs:Srt q0c ks) (hl:ks.length<65536) (k:(List UInt8)) (hk:q0Y q0c k ks=true) {v:List AV} (hv:v.length=4) (ho:v.all AV.one=true) :
  ∃m',run E15 (.fn 39) [.ptr (some ⟨t,0⟩),.str k,.agg v] m=some (.bool true,m')/\TabAt (.str) 4 m' t ks (vs.set (lb q0c k ks) v) most F/\Fr m m' F:=by
 have hlt:lb q0c k ks<ks.length:=by
  have:ks[lb q0c k ks]? = some k:=by simpa[q0Y]using hk
  exact(xgi.1 this).1
 have hf:Fr m (m.lay (.cells v false)) []:=(Fr.refl m).lay _;have h':=h.frame hf (by simp);obtain⟨sk,sv,b,m',g1,rfl,a1,a2,a5,a6⟩:=h'.set hlt hv ho;obtain⟨⟨sk',sv',kb,vb,h1,h2,h3,h4,h5,h6,e⟩,h7⟩:=h';rw[g1]at h1;cases h1;have a3:∀i:Nat,ld1 (m.lay (.cells v false)) (.ptr (some ⟨t,i⟩))=[sk,.sl (some ⟨b,0⟩) 4 vs.length vs.length false,.int .i64 most][i]?:=fun i=>q0f g1
 have a4:ldN (m.lay (.cells v false)) (.ptr (some ⟨m.next,0⟩)) 4=some (.agg v):=by
  rw[q1a (q0e _ _) (by omega),List.drop_zero,xtl (by omega)]
 refine⟨m',?_,a5,(hf.any F).step a6 (fun c hc=>.inl hc)⟩
 simp only[z7e (H:=H15) rfl,T.f39,p1,q1,p2,q0N,nnA,q0l,q0b,q1b,q09 ho,xom,a3,a4,q7K h2 hs (by omega),hk,true_or,if_true,a1,a2,z3n (H:=H15),T.j2J,wp]
theorem j0a (h:TabAt (.str) 4 m t ks vs most F) (hs:Srt q0c ks) (hl:ks.length<65536) (k:(List UInt8)) (hk:q0Y q0c k ks=false) (hf:most<=ks.length) {v:List AV} (ho:v.all AV.one=true) :
  ∃m',run E15 (.fn 39) [.ptr (some ⟨t,0⟩),.str k,.agg v] m=some (.bool false,m')/\Fr m m' []:=by
 obtain⟨⟨sk,sv,kb,vb,h1,h2,h3,h4,h5,h6,rfl⟩,h7⟩:=h;have hf0:Fr m (m.lay (.cells v false)) []:=(Fr.refl m).lay _;have g1:=hf0.get h1 (by simp);have g2:=h2.frame hf0 (by simp);obtain⟨a,sz,cap,ex,rfl⟩:=h2.j6q;have a3:∀i:Nat,ld1 (m.lay (.cells v false)) (.ptr (some ⟨t,i⟩))=[.sl a sz ks.length cap ex,sv,.int .i64 most][i]?:=fun i=>q0f g1
 refine⟨_,?_,hf0⟩;simp only[z7e (H:=H15) rfl,T.f39,p1,q1,p2,q0N,nnA,q0l,q0b,q1b,q09 ho,xom,a3,q7K g2 hs (by omega),hk,dt (show most<=(ks.length:Int) by omega)]
theorem j4l (h:TabAt (.str) 4 m t ks vs most F) (hs:Srt q0c ks) (hl:ks.length<4096) (k:(List UInt8)) (hk:q0Y q0c k ks=false) (hf:(ks.length:Int)<most) {v:List AV} (hv:v.length=4) (ho:v.all AV.one=true) :
  ∃m' F',run E15 (.fn 39) [.ptr (some ⟨t,0⟩),.str k,.agg v] m=some (.bool true,m')/\TabAt (.str) 4 m' t (q2Q (lb q0c k ks) k ks) (q2Q (lb q0c k ks) v vs) most F'/\Fr m m' F/\∀c,c∈F'->c∈F\/m.next<=c:=by
 have hf0:Fr m (m.lay (.cells v false)) []:=(Fr.refl m).lay _;have h':=h.frame hf0 (by simp);obtain⟨sk,sv,sk',m2,sv',m5,F',g1,a1,a2,a3,a4,b1,b2,b3,b4,b5,b6⟩:=h'.ins (P:=Tryz.prog) (st1:=140) (e1:=9) (st2:=23) (e2:=56) (w1:=16) (w2:=40) (zs1:=[.str []]) (zs2:=[.str [],.int .i64 0,.int .i64 0,.int .u64 0]) (by kernel_rfl) (by kernel_rfl) (by kernel_rfl) (by kernel_rfl) (by kernel_rfl) (by decide) (by kernel_rfl) (by kernel_rfl) (by kernel_rfl) (by kernel_rfl) (by kernel_rfl) (by decide) (by decide)
  (fun _=>rfl) (q9i k ks) hl (by decide) (k:=k) hv ho
 obtain⟨⟨sk1,sv1,kb,vb,h1,h2,h3,h4,h5,h6,e⟩,h7⟩:=h';rw[g1]at h1;cases h1;obtain⟨x,sz,cap,ex,rfl⟩:=h2.j6q;have c1:∀i:Nat,ld1 (m.lay (.cells v false)) (.ptr (some ⟨t,i⟩))=[.sl x sz ks.length cap ex,sv,.int .i64 most][i]?:=fun i=>q0f g1
 have c2:∀i:Nat,ld1 (m2.put t (some (.cells [sk',sv,.int .i64 most] false))) (.ptr (some ⟨t,i⟩))=[sk',sv,.int .i64 most][i]?:=fun i=>q0f a3
 have c3:ldN (m2.put t (some (.cells [sk',sv,.int .i64 most] false))) (.ptr (some ⟨m.next,0⟩)) 4=some (.agg v):=by
  have:(m2.put t (some (.cells [sk',sv,.int .i64 most] false))).get m.next=some (.cells v false):=b4.get (q0e _ _) (fun hm=>by have:=h.lt _ hm;omega)
  rw[q1a this (by omega),List.drop_zero,xtl (by omega)]
 have c4:(m2.put t (some (.cells [sk',sv,.int .i64 most] false))).next=m2.next:=rfl
 refine⟨_,F',?_,b3,(hf0.any F).step b5 (fun c hc=>.inl hc),fun c hc=>(b6 c hc).imp id (fun h=>by have:m.next<=(m.lay (.cells v false)).next:=hf0.next;omega)⟩
 simp only[z7e (H:=H15) rfl,T.f39,p1,q1,p2,q0N,nnA,q0l,q0b,q1b,q09 ho,xom,z1C (x:=.str k) (by rfl),q4x (n:=4) (zs:=[.str [],.int .i64 0,.int .i64 0,.int .u64 0]) ho hv (by rfl),c1,q7K h2 hs (by omega),hk,df (show ¬most<=(ks.length:Int) by omega),j9S,j9V,a1,a2,c2,c3,c4,b1,b2,z3n (H:=H15),T.j2J,wp]
theorem a0d (h:TabAt (.str) 4 m t ks vs most F) (hs:Srt q0c ks) (hl:ks.length<4096) (k:(List UInt8)) {v:List AV} (hv:v.length=4) (ho:v.all AV.one=true) :
  ∃m' F',run E15 (.fn 39) [.ptr (some ⟨t,0⟩),.str k,.agg v] m=some (.bool (q0Y q0c k ks||decide ((ks.length:Int)<most)),m')/\
   TabAt (.str) 4 m' t (j4k q0c k ks most) (j4o q0c k ks v vs most) most F'/\Fr m m' F/\∀c,c∈F'->c∈F\/m.next<=c:=by
 unfold j4k j4o;cases hk:q0Y q0c k ks with
 |true=>
  obtain⟨m',h1,h2,h3⟩:=a0c h hs (by omega) k hk hv ho;exact⟨m',F,h1,by simpa using h2,h3,fun c hc=>.inl hc⟩
 |false=>
  by_cases hf:(ks.length:Int)<most
  ·obtain⟨m',F',h1,h2,h3,h4⟩:=j4l h hs hl k hk hf hv ho;exact⟨m',F',by simpa[hf]using h1,by simpa[hf]using h2,h3,h4⟩
  ·obtain⟨m',h1,h2⟩:=j0a h hs (by omega) k hk (by omega) ho;exact⟨m',F,by simpa[hf]using h1,by simpa[hf]using h.frame h2 (by simp),h2.any F,fun c hc=>.inl hc⟩
end
end
section
open Go Go.Abs
theorem j39 (a b:Int) (m:Mem):run E15 (.fn 126) [.int .u64 a,.int .u64 b] m=some (.bool (q0p a b),m):=by
 simp only[j7w (H:=H15) rfl,T.f126,p1,p2,ifV,unA,wp,j7B (H:=H15) rfl,T.f143,wp,decide_true,xbt]
 try rfl
section
variable {m:Mem} {sk:AV} {ks:List Int} {kb:Option Nat}
theorem j1i (h:q0L 1 m sk (ks.map fun k=>[.int .u64 k]) kb) (hs:Srt q0p ks) (hl:ks.length<4611686018427387904) (k:Int):∀(d i j:Nat),j-i<=d->i<=j->j<=ks.length->
  (∀x (hx:x<ks.length),x<i->q0p ks[x] k=true)->(∀x (hx:x<ks.length),j<=x->q0p ks[x] k=false)->
  D15.gor 352256 [sk,.int .u64 k,.int .i64 ks.length,.int .i64 i,.int .i64 j] m=some (.tup [.int .i64 (lb q0p k ks:Nat),.bool (q0Y q0p k ks)],m):=by
 intro d;induction d with
 |zero=>
  intro i j hd hij hj h1 h2;have e:i=j:=by omega
  subst e;have hlb:lb q0p k ks=i:=q2G hj h1 (fun hx=>h2 i hx (xnr _))
  simp only[z3R (H:=H15),T.j3A,p2,q0b,wp,df (show ¬(i:Int)<(i:Int) by omega)];by_cases hi:i<ks.length
  ·obtain⟨b,rfl,g1,g2⟩:=h.key hi;simp only[z3U (H:=H15),T.j3C,p2,q1,ifV,wp,dt (show (i:Int)<(ks.length:Int) by omega),true_or,if_true,g1,g2,j7x (H:=H15) rfl,T.f127,wp,decide_true,xbt];by_cases hk:ks[i]=k
   ·rw[dt hk];simp only[q0Y,hlb,xgq hi,hk,decide_true]
   ·rw[df hk];simp only[q0Y,hlb,xgq hi,xoi,df hk]
  ·simp only[z3U (H:=H15),T.j3C,p2,q1,ifV,wp,df (show ¬(i:Int)<(ks.length:Int) by omega)];simp only[q0Y,hlb,List.getElem?_eq_none (show ks.length<=i by omega),reduceCtorEq,decide_false]
 |succ d ih=>
  intro i j hd hij hj h1 h2;by_cases e:i=j
  ·exact ih i j (by omega) hij hj h1 h2
  ·have hlt:i<j:=by omega
   obtain⟨hh,hh1⟩:∃hh:Nat,hh=(i+j) / 2:=⟨_,rfl⟩;have hh2:i<=hh/\hh<j:=by omega
   have hh3:IntKind.wrap .i64 ((IntKind.wrap .u64 (IntKind.wrap .i64 ((i:Int)+(j:Int)))).fdiv (2 ^ (min (1:Int).toNat IntKind.u64.bits)))=(hh:Int):=by
    rw[wrap_i64 (n:=(i:Int)+j) (by omega) (by omega),wrap_u64 (by omega) (by omega)];have:((2:Int) ^ (min (1:Int).toNat IntKind.u64.bits))=2:=by rfl
    rw[this,Int.fdiv_eq_ediv_of_nonneg _ (by omega),wrap_i64 (by omega) (by omega)];omega
   have hx:hh<ks.length:=by omega
   obtain⟨b,rfl,g1,g2⟩:=h.key hx;simp only[z3R (H:=H15),T.j3A,p2,q0b,wp,dt (show (i:Int)<(j:Int) by omega)];simp only[j3B (H:=H15),T.j8N,p2,p1,q1,q0b,wp,q5D _ _ _ _ _ (show (0:Int)<=1 by omega),hh3,true_or,if_true,g1,g2,j39];cases hc:q0p ks[hh] k with
   |true=>
    simp only;rw[wrap_i64 (by omega) (by omega),show (hh:Int)+1=((hh+1:Nat):Int) by omega];refine ih (hh+1) j (by omega) (by omega) hj (fun x hx' hlt'=>?_) h2
    by_cases e2:x=hh
    ·subst e2;exact hc
    ·exact q3v _ _ _ (q2q hs (show x<hh by omega) hx) hc
   |false=>
    simp only;refine ih i hh (by omega) (by omega) (by omega) h1 (fun x hx' hle=>?_)
    by_cases e2:x=hh
    ·subst e2;exact hc
    ·cases hc2:q0p ks[x] k with
     |false=>rfl
     |true=>rw[q3v _ _ _ (q2q hs (show hh<x by omega) hx') hc2]at hc;cases hc
theorem z6s (h:q0L 1 m sk (ks.map fun k=>[.int .u64 k]) kb) (hs:Srt q0p ks) (hl:ks.length<4611686018427387904) (k:Int) :
  run E15 (.fn 86) [sk,.int .u64 k] m=some (.tup [.int .i64 (lb q0p k ks:Nat),.bool (q0Y q0p k ks)],m):=by
 have:=j1i h hs hl k ks.length 0 ks.length (by omega) (by omega) (xnr _) (by intro x _ hx;omega) (by intro x hx hx';omega);obtain⟨a,sz,cap,ex,rfl⟩:=h.j6q;simp only[a2l (H:=H15) rfl,T.f86,p1,wp];exact this
end
end
section
open Go Go.Abs
theorem j9R (xs:List AV) (m:Mem):run E15 (.fn 87) xs m=q7v Tryz.prog 149 xs m:=q00 rfl xs m
theorem j9U (xs:List AV) (m:Mem):run E15 (.fn 88) xs m=q7v Tryz.prog 25 xs m:=q00 rfl xs m
section
variable {m:Mem} {t:Nat} {ks:List Int} {vs:List (List AV)} {most:Int} {F:List Nat}
theorem j93 (m:Mem) {most:Int} (h1:1<=most) (h2:most<=4096):∃m',run E15 (.fn 81) [.int .i64 most] m=some (.tup [.ptr (some ⟨m.next,0⟩),.int .i64 0],m')/\m'=m.lay (.cells [.sl none 0 0 0 true,.sl none 0 0 0 true,.int .i64 most] false):=by
 refine⟨_,?_,rfl⟩;simp only[a2g (H:=H15) rfl,T.f81,p2,q0b,ifV,wp,df (show ¬most<1 by omega),df (show ¬(4096:Int)<most by omega)];simp only[j3k (H:=H15),T.j8L,p1,q0n,AV.cells,Nat.reduceAdd,Nat.reduceLeDiff,q0N,q0B,List.all_cons,List.all_nil,AV.one]
theorem a0a (h:TabAt (.int .u64) 4 m t ks vs most F) (hs:Srt q0p ks) (hl:ks.length<65536) (k:Int) (hk:q0Y q0p k ks=true) {v:List AV} (hv:v.length=4) (ho:v.all AV.one=true) :
  ∃m',run E15 (.fn 41) [.ptr (some ⟨t,0⟩),.int .u64 k,.agg v] m=some (.bool true,m')/\TabAt (.int .u64) 4 m' t ks (vs.set (lb q0p k ks) v) most F/\Fr m m' F:=by
 have hlt:lb q0p k ks<ks.length:=by
  have:ks[lb q0p k ks]? = some k:=by simpa[q0Y]using hk
  exact(xgi.1 this).1
 have hf:Fr m (m.lay (.cells v false)) []:=(Fr.refl m).lay _;have h':=h.frame hf (by simp);obtain⟨sk,sv,b,m',g1,rfl,a1,a2,a5,a6⟩:=h'.set hlt hv ho;obtain⟨⟨sk',sv',kb,vb,h1,h2,h3,h4,h5,h6,e⟩,h7⟩:=h';rw[g1]at h1;cases h1;have a3:∀i:Nat,ld1 (m.lay (.cells v false)) (.ptr (some ⟨t,i⟩))=[sk,.sl (some ⟨b,0⟩) 4 vs.length vs.length false,.int .i64 most][i]?:=fun i=>q0f g1
 have a4:ldN (m.lay (.cells v false)) (.ptr (some ⟨m.next,0⟩)) 4=some (.agg v):=by
  rw[q1a (q0e _ _) (by omega),List.drop_zero,xtl (by omega)]
 refine⟨m',?_,a5,(hf.any F).step a6 (fun c hc=>.inl hc)⟩
 simp only[z7g (H:=H15) rfl,T.f41,p1,q1,p2,q0N,nnA,q0l,q0b,q1b,q09 ho,xom,a3,a4,z6s h2 hs (by omega),hk,true_or,if_true,a1,a2,z3q (H:=H15),T.j2K,wp]
theorem z99 (h:TabAt (.int .u64) 4 m t ks vs most F) (hs:Srt q0p ks) (hl:ks.length<65536) (k:Int) (hk:q0Y q0p k ks=false) (hf:most<=ks.length) {v:List AV} (ho:v.all AV.one=true) :
  ∃m',run E15 (.fn 41) [.ptr (some ⟨t,0⟩),.int .u64 k,.agg v] m=some (.bool false,m')/\Fr m m' []:=by
 obtain⟨⟨sk,sv,kb,vb,h1,h2,h3,h4,h5,h6,rfl⟩,h7⟩:=h;have hf0:Fr m (m.lay (.cells v false)) []:=(Fr.refl m).lay _;have g1:=hf0.get h1 (by simp);have g2:=h2.frame hf0 (by simp);obtain⟨a,sz,cap,ex,rfl⟩:=h2.j6q;have a3:∀i:Nat,ld1 (m.lay (.cells v false)) (.ptr (some ⟨t,i⟩))=[.sl a sz ks.length cap ex,sv,.int .i64 most][i]?:=fun i=>q0f g1
 refine⟨_,?_,hf0⟩;simp only[z7g (H:=H15) rfl,T.f41,p1,q1,p2,q0N,nnA,q0l,q0b,q1b,q09 ho,xom,a3,z6s g2 hs (by omega),hk,dt (show most<=(ks.length:Int) by omega)]
theorem j4j (h:TabAt (.int .u64) 4 m t ks vs most F) (hs:Srt q0p ks) (hl:ks.length<4096) (k:Int) (hk:q0Y q0p k ks=false) (hf:(ks.length:Int)<most) {v:List AV} (hv:v.length=4) (ho:v.all AV.one=true) :
  ∃m' F',run E15 (.fn 41) [.ptr (some ⟨t,0⟩),.int .u64 k,.agg v] m=some (.bool true,m')/\TabAt (.int .u64) 4 m' t (q2Q (lb q0p k ks) k ks) (q2Q (lb q0p k ks) v vs) most F'/\Fr m m' F/\∀c,c∈F'->c∈F\/m.next<=c:=by
 have hf0:Fr m (m.lay (.cells v false)) []:=(Fr.refl m).lay _;have h':=h.frame hf0 (by simp);obtain⟨sk,sv,sk',m2,sv',m5,F',g1,a1,a2,a3,a4,b1,b2,b3,b4,b5,b6⟩:=h'.ins (P:=Tryz.prog) (st1:=149) (e1:=26) (st2:=25) (e2:=54) (w1:=8) (w2:=40) (zs1:=[.int .u64 0]) (zs2:=[.int .u64 0,.str [],.int .i64 0,.int .u64 0]) (by kernel_rfl) (by kernel_rfl) (by kernel_rfl) (by kernel_rfl) (by kernel_rfl) (by decide) (by kernel_rfl) (by kernel_rfl) (by kernel_rfl) (by kernel_rfl) (by kernel_rfl) (by decide) (by decide)
  (fun _=>rfl) (q9i k ks) hl (by decide) (k:=k) hv ho
 obtain⟨⟨sk1,sv1,kb,vb,h1,h2,h3,h4,h5,h6,e⟩,h7⟩:=h';rw[g1]at h1;cases h1;obtain⟨x,sz,cap,ex,rfl⟩:=h2.j6q;have c1:∀i:Nat,ld1 (m.lay (.cells v false)) (.ptr (some ⟨t,i⟩))=[.sl x sz ks.length cap ex,sv,.int .i64 most][i]?:=fun i=>q0f g1
 have c2:∀i:Nat,ld1 (m2.put t (some (.cells [sk',sv,.int .i64 most] false))) (.ptr (some ⟨t,i⟩))=[sk',sv,.int .i64 most][i]?:=fun i=>q0f a3
 have c3:ldN (m2.put t (some (.cells [sk',sv,.int .i64 most] false))) (.ptr (some ⟨m.next,0⟩)) 4=some (.agg v):=by
  have:(m2.put t (some (.cells [sk',sv,.int .i64 most] false))).get m.next=some (.cells v false):=b4.get (q0e _ _) (fun hm=>by have:=h.lt _ hm;omega)
  rw[q1a this (by omega),List.drop_zero,xtl (by omega)]
 have c4:(m2.put t (some (.cells [sk',sv,.int .i64 most] false))).next=m2.next:=rfl
 refine⟨_,F',?_,b3,(hf0.any F).step b5 (fun c hc=>.inl hc),fun c hc=>(b6 c hc).imp id (fun h=>by have:m.next<=(m.lay (.cells v false)).next:=hf0.next;omega)⟩
 simp only[z7g (H:=H15) rfl,T.f41,p1,q1,p2,q0N,nnA,q0l,q0b,q1b,q09 ho,xom,z1C (x:=.int .u64 k) (by rfl),q4x (n:=4) (zs:=[.int .u64 0,.str [],.int .i64 0,.int .u64 0]) ho hv (by rfl),c1,z6s h2 hs (by omega),hk,df (show ¬most<=(ks.length:Int) by omega),j9R,j9U,a1,a2,c2,c3,c4,b1,b2,z3q (H:=H15),T.j2K,wp]
theorem a0b (h:TabAt (.int .u64) 4 m t ks vs most F) (hs:Srt q0p ks) (hl:ks.length<4096) (k:Int) {v:List AV} (hv:v.length=4) (ho:v.all AV.one=true) :
  ∃m' F',run E15 (.fn 41) [.ptr (some ⟨t,0⟩),.int .u64 k,.agg v] m=some (.bool (q0Y q0p k ks||decide ((ks.length:Int)<most)),m')/\
   TabAt (.int .u64) 4 m' t (j4k q0p k ks most) (j4o q0p k ks v vs most) most F'/\Fr m m' F/\∀c,c∈F'->c∈F\/m.next<=c:=by
 unfold j4k j4o;cases hk:q0Y q0p k ks with
 |true=>
  obtain⟨m',h1,h2,h3⟩:=a0a h hs (by omega) k hk hv ho;exact⟨m',F,h1,by simpa using h2,h3,fun c hc=>.inl hc⟩
 |false=>
  by_cases hf:(ks.length:Int)<most
  ·obtain⟨m',F',h1,h2,h3,h4⟩:=j4j h hs hl k hk hf hv ho;exact⟨m',F',by simpa[hf]using h1,by simpa[hf]using h2,h3,h4⟩
  ·obtain⟨m',h1,h2⟩:=z99 h hs (by omega) k hk (by omega) ho;exact⟨m',F,by simpa[hf]using h1,by simpa[hf]using h.frame h2 (by simp),h2.any F,fun c hc=>.inl hc⟩
end
end
section
open Go Go.Abs
theorem j9T (xs:List AV) (m:Mem):run E15 (.fn 83) xs m=q7v Tryz.prog 140 xs m:=q00 rfl xs m
theorem j9W (xs:List AV) (m:Mem):run E15 (.fn 85) xs m=q7v Tryz.prog 24 xs m:=q00 rfl xs m
section
variable {m:Mem} {t:Nat} {ks:List (List UInt8)} {vs:List (List AV)} {most:Int} {F:List Nat}
theorem j95 (m:Mem) {most:Int} (h1:1<=most) (h2:most<=4096):∃m',run E15 (.fn 80) [.int .i64 most] m=some (.tup [.ptr (some ⟨m.next,0⟩),.int .i64 0],m')/\m'=m.lay (.cells [.sl none 0 0 0 true,.sl none 0 0 0 true,.int .i64 most] false):=by
 refine⟨_,?_,rfl⟩;simp only[a2f (H:=H15) rfl,T.f80,p2,q0b,ifV,wp,df (show ¬most<1 by omega),df (show ¬(4096:Int)<most by omega)];simp only[j3j (H:=H15),T.j8K,p1,q0n,AV.cells,Nat.reduceAdd,Nat.reduceLeDiff,q0N,q0B,List.all_cons,List.all_nil,AV.one]
theorem a0e (h:TabAt (.str) 9 m t ks vs most F) (hs:Srt q0c ks) (hl:ks.length<65536) (k:(List UInt8)) (hk:q0Y q0c k ks=true) {v:List AV} (hv:v.length=9) (ho:v.all AV.one=true) :
  ∃m',run E15 (.fn 40) [.ptr (some ⟨t,0⟩),.str k,.agg v] m=some (.bool true,m')/\TabAt (.str) 9 m' t ks (vs.set (lb q0c k ks) v) most F/\Fr m m' F:=by
 have hlt:lb q0c k ks<ks.length:=by
  have:ks[lb q0c k ks]? = some k:=by simpa[q0Y]using hk
  exact(xgi.1 this).1
 have hf:Fr m (m.lay (.cells v false)) []:=(Fr.refl m).lay _;have h':=h.frame hf (by simp);obtain⟨sk,sv,b,m',g1,rfl,a1,a2,a5,a6⟩:=h'.set hlt hv ho;obtain⟨⟨sk',sv',kb,vb,h1,h2,h3,h4,h5,h6,e⟩,h7⟩:=h';rw[g1]at h1;cases h1;have a3:∀i:Nat,ld1 (m.lay (.cells v false)) (.ptr (some ⟨t,i⟩))=[sk,.sl (some ⟨b,0⟩) 9 vs.length vs.length false,.int .i64 most][i]?:=fun i=>q0f g1
 have a4:ldN (m.lay (.cells v false)) (.ptr (some ⟨m.next,0⟩)) 9=some (.agg v):=by
  rw[q1a (q0e _ _) (by omega),List.drop_zero,xtl (by omega)]
 refine⟨m',?_,a5,(hf.any F).step a6 (fun c hc=>.inl hc)⟩
 simp only[z7f (H:=H15) rfl,T.f40,p1,q1,p2,q0N,nnA,q0l,q0b,q1b,q09 ho,xom,a3,a4,q7K h2 hs (by omega),hk,true_or,if_true,a1,a2,z3p (H:=H15),T.j8s,wp]
theorem j0b (h:TabAt (.str) 9 m t ks vs most F) (hs:Srt q0c ks) (hl:ks.length<65536) (k:(List UInt8)) (hk:q0Y q0c k ks=false) (hf:most<=ks.length) {v:List AV} (ho:v.all AV.one=true) :
  ∃m',run E15 (.fn 40) [.ptr (some ⟨t,0⟩),.str k,.agg v] m=some (.bool false,m')/\Fr m m' []:=by
 obtain⟨⟨sk,sv,kb,vb,h1,h2,h3,h4,h5,h6,rfl⟩,h7⟩:=h;have hf0:Fr m (m.lay (.cells v false)) []:=(Fr.refl m).lay _;have g1:=hf0.get h1 (by simp);have g2:=h2.frame hf0 (by simp);obtain⟨a,sz,cap,ex,rfl⟩:=h2.j6q;have a3:∀i:Nat,ld1 (m.lay (.cells v false)) (.ptr (some ⟨t,i⟩))=[.sl a sz ks.length cap ex,sv,.int .i64 most][i]?:=fun i=>q0f g1
 refine⟨_,?_,hf0⟩;simp only[z7f (H:=H15) rfl,T.f40,p1,q1,p2,q0N,nnA,q0l,q0b,q1b,q09 ho,xom,a3,q7K g2 hs (by omega),hk,dt (show most<=(ks.length:Int) by omega)]
theorem j4n (h:TabAt (.str) 9 m t ks vs most F) (hs:Srt q0c ks) (hl:ks.length<4096) (k:(List UInt8)) (hk:q0Y q0c k ks=false) (hf:(ks.length:Int)<most) {v:List AV} (hv:v.length=9) (ho:v.all AV.one=true) :
  ∃m' F',run E15 (.fn 40) [.ptr (some ⟨t,0⟩),.str k,.agg v] m=some (.bool true,m')/\TabAt (.str) 9 m' t (q2Q (lb q0c k ks) k ks) (q2Q (lb q0c k ks) v vs) most F'/\Fr m m' F/\∀c,c∈F'->c∈F\/m.next<=c:=by
 have hf0:Fr m (m.lay (.cells v false)) []:=(Fr.refl m).lay _;have h':=h.frame hf0 (by simp);obtain⟨sk,sv,sk',m2,sv',m5,F',g1,a1,a2,a3,a4,b1,b2,b3,b4,b5,b6⟩:=h'.ins (P:=Tryz.prog) (st1:=140) (e1:=9) (st2:=24) (e2:=74) (w1:=16) (w2:=88) (zs1:=[.str []]) (zs2:=[.str [],.str [],.int .i64 0,.int .u64 0,.int .i64 0,.int .i64 0,.int .u64 0,.int .i64 0,.int .u64 0]) (by kernel_rfl) (by kernel_rfl) (by kernel_rfl) (by kernel_rfl) (by kernel_rfl) (by decide) (by kernel_rfl) (by kernel_rfl) (by kernel_rfl) (by kernel_rfl) (by kernel_rfl) (by decide) (by decide)
  (fun _=>rfl) (q9i k ks) hl (by decide) (k:=k) hv ho
 obtain⟨⟨sk1,sv1,kb,vb,h1,h2,h3,h4,h5,h6,e⟩,h7⟩:=h';rw[g1]at h1;cases h1;obtain⟨x,sz,cap,ex,rfl⟩:=h2.j6q;have c1:∀i:Nat,ld1 (m.lay (.cells v false)) (.ptr (some ⟨t,i⟩))=[.sl x sz ks.length cap ex,sv,.int .i64 most][i]?:=fun i=>q0f g1
 have c2:∀i:Nat,ld1 (m2.put t (some (.cells [sk',sv,.int .i64 most] false))) (.ptr (some ⟨t,i⟩))=[sk',sv,.int .i64 most][i]?:=fun i=>q0f a3
 have c3:ldN (m2.put t (some (.cells [sk',sv,.int .i64 most] false))) (.ptr (some ⟨m.next,0⟩)) 9=some (.agg v):=by
  have:(m2.put t (some (.cells [sk',sv,.int .i64 most] false))).get m.next=some (.cells v false):=b4.get (q0e _ _) (fun hm=>by have:=h.lt _ hm;omega)
  rw[q1a this (by omega),List.drop_zero,xtl (by omega)]
 have c4:(m2.put t (some (.cells [sk',sv,.int .i64 most] false))).next=m2.next:=rfl
 refine⟨_,F',?_,b3,(hf0.any F).step b5 (fun c hc=>.inl hc),fun c hc=>(b6 c hc).imp id (fun h=>by have:m.next<=(m.lay (.cells v false)).next:=hf0.next;omega)⟩
 simp only[z7f (H:=H15) rfl,T.f40,p1,q1,p2,q0N,nnA,q0l,q0b,q1b,q09 ho,xom,z1C (x:=.str k) (by rfl),q4x (n:=9) (zs:=[.str [],.str [],.int .i64 0,.int .u64 0,.int .i64 0,.int .i64 0,.int .u64 0,.int .i64 0,.int .u64 0]) ho hv (by rfl),c1,q7K h2 hs (by omega),hk,df (show ¬most<=(ks.length:Int) by omega),j9T,j9W,a1,a2,c2,c3,c4,b1,b2,z3p (H:=H15),T.j8s,wp]
theorem a0f (h:TabAt (.str) 9 m t ks vs most F) (hs:Srt q0c ks) (hl:ks.length<4096) (k:(List UInt8)) {v:List AV} (hv:v.length=9) (ho:v.all AV.one=true) :
  ∃m' F',run E15 (.fn 40) [.ptr (some ⟨t,0⟩),.str k,.agg v] m=some (.bool (q0Y q0c k ks||decide ((ks.length:Int)<most)),m')/\
   TabAt (.str) 9 m' t (j4k q0c k ks most) (j4o q0c k ks v vs most) most F'/\Fr m m' F/\∀c,c∈F'->c∈F\/m.next<=c:=by
 unfold j4k j4o;cases hk:q0Y q0c k ks with
 |true=>
  obtain⟨m',h1,h2,h3⟩:=a0e h hs (by omega) k hk hv ho;exact⟨m',F,h1,by simpa using h2,h3,fun c hc=>.inl hc⟩
 |false=>
  by_cases hf:(ks.length:Int)<most
  ·obtain⟨m',F',h1,h2,h3,h4⟩:=j4n h hs hl k hk hf hv ho;exact⟨m',F',by simpa[hf]using h1,by simpa[hf]using h2,h3,h4⟩
  ·obtain⟨m',h1,h2⟩:=j0b h hs (by omega) k hk (by omega) ho;exact⟨m',F,by simpa[hf]using h1,by simpa[hf]using h.frame h2 (by simp),h2.any F,fun c hc=>.inl hc⟩
end
end
section
open Go Go.Abs
theorem z9Q (s:List UInt8) (hl:s.length<4611686018427387904) (m:Mem):∀(d i:Nat),s.length-i<=d->i<=s.length->D15.gor 188416 [.str s,.int .i64 i] m=some (.bool ((s.drop i).all (fun c=>decide (65<=c.toNat)&&decide (c.toNat<=90))&&decide (s.length=3)),m):=by
 intro d;induction d with
 |zero=>
  intro i hd hi;have e:i=s.length:=by omega
  subst e;simp only[z3s (H:=H15),T.j2S,p1,p2,q0b,wp,df (show ¬((s.length:Nat):Int)<(s.length:Int) by omega),j2V (H:=H15),T.j8v,wp,List.drop_length,List.all_nil,Bool.true_and];rw[show decide ((s.length:Int)=3)=decide (s.length=3) by by_cases h:s.length=3<;>simp[h];omega]
 |succ d ih=>
  intro i hd hi;by_cases e:i=s.length
  ·exact ih i (by omega) hi
  ·have hlt:i<s.length:=by omega
   simp only[z3s (H:=H15),T.j2S,p1,p2,q0b,wp,dt (show (i:Int)<(s.length:Int) by omega)];have h0:(0:Int)<=(i:Int):=by omega
   simp only[j2T (H:=H15),T.j8t,p2,q0b,ifV,q5v,if_pos h0,Int.toNat_natCast,xgq hlt];rw[List.drop_eq_getElem_cons hlt,List.all_cons];by_cases h1:(s[i].toNat:Int)<65
   ·simp only[dt h1,df (show ¬65<=s[i].toNat by omega),Bool.false_and]
   ·by_cases h2:(90:Int)<(s[i].toNat:Int)
    ·simp only[df h1,dt h2,df (show ¬s[i].toNat<=90 by omega),Bool.false_and,Bool.and_false]
    ·simp only[df h1,df h2,j2U (H:=H15),T.j8u,p2,wp,dt (show 65<=s[i].toNat by omega),dt (show s[i].toNat<=90 by omega),Bool.true_and];rw[wrap_i64 (by have:=hl;omega) (by have:=hl;omega),show (i:Int)+1=((i+1:Nat):Int) by omega];exact ih (i+1) (by omega) (by omega)
theorem j92 (s:List UInt8) (hl:s.length<4611686018427387904) (m:Mem):run E15 (.fn 46) [.str s] m=some (.bool (q3x s),m):=by
 simp only[a1S (H:=H15) rfl,T.f46,wp];exact z9Q s hl m s.length 0 (by omega) (by omega)
section
variable {m:Mem} {b:Nat} {st:LSt} {F:List Nat}
theorem a7d (m:Mem) {most:Int} (h1:1<=most) (h2:most<=64) :
  ∃b m' F,run E15 (.fn 38) [.int .i64 most] m=some (.tup [.ptr (some ⟨b,0⟩),.int .i64 0],m')/\q0u m' b ⟨[],[],[],0,most⟩ F/\Fr m m' []/\∀c,c∈F->m.next<=c:=by
 obtain⟨m1,hm1⟩:∃m1,m1=m.lay (.cells [.int .i64 most,.ptr none,.ptr none,.ptr none,.int .u64 0] false):=⟨_,rfl⟩;have b1:m1.get m.next=some (.cells [.int .i64 most,.ptr none,.ptr none,.ptr none,.int .u64 0] false):=by rw[hm1];exact q0e _ _
 have n1:m1.next=m.next+1:=by rw[hm1];rfl
 have f1:Fr m m1 []:=by rw[hm1];exact(Fr.refl m).lay _
 obtain⟨m2',p1,p2⟩:=j94 m1 (most:=8) (by omega) (by omega);have b2:=(show m2'.get m.next=m1.get m.next by rw[p2,q52 (by omega)]).trans b1
 have s2:=q1B (v:=.ptr (some ⟨m1.next,0⟩)) (o:=1) (n:=1) b2 rfl rfl (by simp)
 obtain⟨m2,hm2⟩:∃m2,m2=m2'.put m.next (some (.cells [.int .i64 most,.ptr (some ⟨m1.next,0⟩),.ptr none,.ptr none,.int .u64 0] false)):=⟨_,rfl⟩
 have s2':stV m2' (.ptr (some ⟨m.next,1⟩)) (.ptr (some ⟨m1.next,0⟩)) 1=some m2:=by rw[hm2];simpa using s2
 have n2:m2.next=m.next+2:=by rw[hm2,p2];simp[n1]
 have b2':m2.get m.next=some (.cells [.int .i64 most,.ptr (some ⟨m1.next,0⟩),.ptr none,.ptr none,.int .u64 0] false):=by rw[hm2];exact q0w b2
 have t2:m2.get m1.next=some (.cells [.sl none 0 0 0 true,.sl none 0 0 0 true,.int .i64 8] false):=by rw[hm2,q1X (by omega),p2];exact q0e _ _
 have f2:Fr m m2 []:=by rw[hm2,p2];exact(f1.lay _).put' (.inr (xnr _))
 obtain⟨m3',q1,q2⟩:=j95 m2 (most:=64) (by omega) (by omega);have b3:=(show m3'.get m.next=m2.get m.next by rw[q2,q52 (by omega)]).trans b2'
 have s3:=q1B (v:=.ptr (some ⟨m2.next,0⟩)) (o:=2) (n:=1) b3 rfl rfl (by simp)
 obtain⟨m3,hm3⟩:∃m3,m3=m3'.put m.next (some (.cells [.int .i64 most,.ptr (some ⟨m1.next,0⟩),.ptr (some ⟨m2.next,0⟩),.ptr none,.int .u64 0] false)):=⟨_,rfl⟩
 have s3':stV m3' (.ptr (some ⟨m.next,2⟩)) (.ptr (some ⟨m2.next,0⟩)) 1=some m3:=by rw[hm3];simpa using s3
 have n3:m3.next=m.next+3:=by rw[hm3,q2];simp[n2]
 have b3':m3.get m.next=some (.cells [.int .i64 most,.ptr (some ⟨m1.next,0⟩),.ptr (some ⟨m2.next,0⟩),.ptr none,.int .u64 0] false):=by rw[hm3];exact q0w b3
 have t3:m3.get m2.next=some (.cells [.sl none 0 0 0 true,.sl none 0 0 0 true,.int .i64 64] false):=by rw[hm3,q1X (by omega),q2];exact q0e _ _
 have t23:m3.get m1.next=some (.cells [.sl none 0 0 0 true,.sl none 0 0 0 true,.int .i64 8] false):=by rw[hm3,q1X (by omega),q2,q52 (by omega)];exact t2
 have f3:Fr m m3 []:=by rw[hm3,q2];exact(f2.lay _).put' (.inr (xnr _))
 obtain⟨m4',r1,r2⟩:=j93 m3 (most:=most) (by omega) (by omega);have b4:=(show m4'.get m.next=m3.get m.next by rw[r2,q52 (by omega)]).trans b3'
 have s4:=q1B (v:=.ptr (some ⟨m3.next,0⟩)) (o:=3) (n:=1) b4 rfl rfl (by simp)
 obtain⟨m4,hm4⟩:∃m4,m4=m4'.put m.next (some (.cells [.int .i64 most,.ptr (some ⟨m1.next,0⟩),.ptr (some ⟨m2.next,0⟩),.ptr (some ⟨m3.next,0⟩),.int .u64 0] false)):=⟨_,rfl⟩
 have s4':stV m4' (.ptr (some ⟨m.next,3⟩)) (.ptr (some ⟨m3.next,0⟩)) 1=some m4:=by rw[hm4];simpa using s4
 have b4':m4.get m.next=some (.cells [.int .i64 most,.ptr (some ⟨m1.next,0⟩),.ptr (some ⟨m2.next,0⟩),.ptr (some ⟨m3.next,0⟩),.int .u64 0] false):=by rw[hm4];exact q0w b4
 have t4:m4.get m3.next=some (.cells [.sl none 0 0 0 true,.sl none 0 0 0 true,.int .i64 most] false):=by rw[hm4,q1X (by omega),r2];exact q0e _ _
 have t34:m4.get m2.next=some (.cells [.sl none 0 0 0 true,.sl none 0 0 0 true,.int .i64 64] false):=by rw[hm4,q1X (by omega),r2,q52 (by omega)];exact t3
 have t24:m4.get m1.next=some (.cells [.sl none 0 0 0 true,.sl none 0 0 0 true,.int .i64 8] false):=by rw[hm4,q1X (by omega),r2,q52 (by omega)];exact t23
 have f4:Fr m m4 []:=by rw[hm4,r2];exact(f3.lay _).put' (.inr (xnr _))
 refine⟨m.next,m4,m.next::([m1.next]++[m2.next]++[m3.next]),?_,⟨m1.next,m2.next,m3.next,_,_,_,b4',TabAt.new t24,TabAt.new t34,TabAt.new t4,by simp;omega,by simp;omega,by simp;omega,?_,?_,?_,rfl⟩,f4,?_⟩
 ·simp only[a1M (H:=H15) rfl,T.f38,q0b,ifV,wp,df (show ¬most<1 by omega),df (show ¬(64:Int)<most by omega)];simp only[j2I (H:=H15),T.j8r,p1,q0n,AV.cells,Nat.reduceAdd,Nat.reduceLeDiff,q0N,nnA,q0l,q0T,List.all_cons,List.all_nil,AV.one,<-hm1,s2',q1,s3',r1,s4']
 ·intro c h h';simp only[xms]at h h';omega
 ·intro c h h';simp only[xms]at h h';omega
 ·intro c h h';simp only[xms]at h h';omega
 ·intro c hc;simp only[xmk0,xma,List.not_mem_nil,or_false]at hc;omega
end
end
end Go.Proofs.YtlginbmjiecglaaGreatDoor
namespace Go.Abs
section
open Go
def a8T:q0r:=⟨[],0,⟨0,0⟩⟩
def a9n:q1k:=⟨0,[],⟨0,0⟩⟩
def q9N:q0D:=⟨[],[],⟨0,0⟩,0,⟨0,0⟩,⟨0,0⟩⟩
def LSt.q3k (st:LSt) (k:List UInt8):Option q0r:=if q0Y q0c k (st.q0a.map (·.name))=true then st.q0a[lb q0c k (st.q0a.map (·.name))]? else none
def LSt.z9i (st:LSt) (k:List UInt8):Option q0D:=if q0Y q0c k (st.pairs.map (·.key))=true then st.pairs[lb q0c k (st.pairs.map (·.key))]? else none
def LSt.q7S (st:LSt) (k:Int):Option q1k:=if q0Y q0p k (st.q0j.map (·.id))=true then st.q0j[lb q0p k (st.q0j.map (·.id))]? else none
theorem z9m {κ:Type} [DecidableEq κ] {lt:κ->κ->Bool} {k:κ} {ks:List κ} (h:q0Y lt k ks=true):lb lt k ks<ks.length:=by
 have:ks[lb lt k ks]? = some k:=by simpa[q0Y]using h
 exact(xgi.1 this).1
theorem q31 {κ:Type} [DecidableEq κ] {lt:κ->κ->Bool} {k:κ} {ks:List κ} (h:q0Y lt k ks=true):ks[lb lt k ks]? = some k:=by simpa[q0Y]using h
theorem LSt.q1I {st:LSt} {k:List UInt8} (h:q0Y q0c k (st.q0a.map (·.name))=true):∃p,st.q3k k=some p/\p.name=k/\st.q0a[lb q0c k (st.q0a.map (·.name))]? = some p/\p∈st.q0a:=by
 have hl:=z9m h;rw[xlm]at hl;have ha:=q31 h;rw[List.getElem?_map,xgq hl]at ha;exact⟨_,by unfold LSt.q3k;rw[if_pos h,xgq hl],by simpa using ha,xgq hl,List.getElem_mem hl⟩
theorem LSt.q2E {st:LSt} {k:List UInt8} (h:q0Y q0c k (st.q0a.map (·.name))=false):st.q3k k=none:=by unfold LSt.q3k;rw[if_neg (by rw[h];decide)]
theorem LSt.q5a {st:LSt} {k:List UInt8} (h:q0Y q0c k (st.pairs.map (·.key))=true):∃p,st.z9i k=some p/\p.key=k/\st.pairs[lb q0c k (st.pairs.map (·.key))]? = some p/\p∈st.pairs:=by
 have hl:=z9m h;rw[xlm]at hl;have ha:=q31 h;rw[List.getElem?_map,xgq hl]at ha;exact⟨_,by unfold LSt.z9i;rw[if_pos h,xgq hl],by simpa using ha,xgq hl,List.getElem_mem hl⟩
theorem LSt.q61 {st:LSt} {k:List UInt8} (h:q0Y q0c k (st.pairs.map (·.key))=false):st.z9i k=none:=by unfold LSt.z9i;rw[if_neg (by rw[h];decide)]
theorem LSt.q1x {st:LSt} {k:Int} (h:q0Y q0p k (st.q0j.map (·.id))=true):∃p,st.q7S k=some p/\p.id=k/\st.q0j[lb q0p k (st.q0j.map (·.id))]? = some p/\p∈st.q0j:=by
 have hl:=z9m h;rw[xlm]at hl;have ha:=q31 h;rw[List.getElem?_map,xgq hl]at ha;exact⟨_,by unfold LSt.q7S;rw[if_pos h,xgq hl],by simpa using ha,xgq hl,List.getElem_mem hl⟩
theorem LSt.q3Z {st:LSt} {k:Int} (h:q0Y q0p k (st.q0j.map (·.id))=false):st.q7S k=none:=by unfold LSt.q7S;rw[if_neg (by rw[h];decide)]
theorem q0r.flat (p:q0r):AV.lts 0 p.cells:=by simp[q0r.cells,AV.lts,AV.lt]
theorem q0D.flat (p:q0D):AV.lts 0 p.cells:=by simp[q0D.cells,AV.lts,AV.lt]
theorem q1k.flat (p:q1k):AV.lts 0 p.cells:=by simp[q1k.cells,AV.lts,AV.lt]
theorem Fr.same {m m2:Mem} (h:m.next<=m2.next) (h':∀b,m2.get b=m.get b):Fr m m2 []:=⟨h,fun c _ _=>h' c⟩
def q4B (w:Wd) (s:Int):Bool:=decide ((0<=s/\s<=18)/\0<w.val)
def LSt.of (st:LSt) (id:Int):q1k×q0r×Int:=
 match st.q7S id with
 |none=>(a9n,a8T,40)
 |some a=>(a,(st.q3k a.q1C).getD a8T,0)
def q2t (p:q0r) (w:Wd) (s:Int):Int:=if s≠p.scale then 21 else if w.val<=0 then 43 else 0
section
variable {b n:Nat}
theorem q1o (h:b<n):(b=n)=False:=by simp;omega
theorem z1B (h:b<n):(b=n+1)=False:=by simp;omega
end
theorem frl {m M:Mem} {S:List Nat} (h:Fr m M S) (v:Blk):Fr m (M.lay v) S:=h.lay v
structure LWf (st:LSt):Prop where
 sp:Srt q0c (st.q0a.map (·.name))
 lp:st.q0a.length<=8
 sq:Srt q0c (st.pairs.map (·.key))
 lq:st.pairs.length<=64
 sa:Srt q0p (st.q0j.map (·.id))
 la:st.q0j.length<=64
 okp:∀p∈st.q0a,0<=p.scale/\p.scale<=18/\p.out.ok/\q3x p.name=true
 okq:∀q∈st.pairs,q.rate.ok/\q4B q.rate q.q06=true/\q.inx.ok/\q.q1H.ok/\(st.q3k q.x).isSome=true/\(st.q3k q.y).isSome=true
 oka:∀a∈st.q0j,a.bal.ok/\0<=a.id/\a.id<=st.latest/\(st.q3k a.q1C).isSome=true
 lat:0<=st.latest/\st.latest<=72057594037927935
end
section
open Go
theorem q11 {α:Type} {l:List α} {i:Nat} {x:α} (h:l[i]? = some x):l.set i x=l:=by
 obtain⟨hi,rfl⟩:=xgi.1 h;exact List.set_getElem_self hi
def LSt.iA (st:LSt) (k:Int):Nat:=lb q0p k (st.q0j.map (·.id))
def LSt.iP (st:LSt) (k:List UInt8):Nat:=lb q0c k (st.q0a.map (·.name))
def LSt.iQ (st:LSt) (k:List UInt8):Nat:=lb q0c k (st.pairs.map (·.key))
def LSt.q14 (st:LSt) (a:q1k):LSt:={st with q0j:=st.q0j.set (st.iA a.id) a}
def LSt.j0I (st:LSt) (p:q0r):LSt:={st with q0a:=st.q0a.set (st.iP p.name) p}
def LSt.q4N (st:LSt) (q:q0D):LSt:=
 {st with pairs:=if q0Y q0c q.key (st.pairs.map (·.key))=true then st.pairs.set (st.iQ q.key) q else if st.pairs.length<64 then q2Q (st.iQ q.key) q st.pairs else st.pairs}
theorem LSt.q5c {st:LSt} {a:q1k} (h:q0Y q0p a.id (st.q0j.map (·.id))=true):(st.q14 a).q0j.map (·.id)=st.q0j.map (·.id):=by
 unfold LSt.q14 LSt.iA;rw[List.map_set];exact q11 (q31 h)
def q3Y (x y w:Wd):Bool:=q0M (x.val-w.val)&&q0M (y.val+w.val)
def q3p (st:LSt) (id:Int) (w:Wd) (s:Int):Int×LSt:=
 let o:=st.of id
 if o.2.2≠0 then (o.2.2,st) else
 if q2t o.2.1 w s≠0 then (q2t o.2.1 w s,st) else
 if q3Y o.2.1.out o.1.bal w=true then (0,(st.q14 {o.1 with bal:=Wd.of (o.1.bal.val+w.val)}).j0I {o.2.1 with out:=Wd.of (o.2.1.out.val-w.val)}) else (20,st)
def q2M (st:LSt) (id:Int) (w:Wd) (s:Int):Int×LSt:=
 let o:=st.of id
 if o.2.2≠0 then (o.2.2,st) else
 if q2t o.2.1 w s≠0 then (q2t o.2.1 w s,st) else
 if o.1.bal.val<w.val then (42,st) else
 if q3Y o.1.bal o.2.1.out w=true then (0,(st.q14 {o.1 with bal:=Wd.of (o.1.bal.val-w.val)}).j0I {o.2.1 with out:=Wd.of (o.2.1.out.val+w.val)}) else (20,st)
def q2K (st:LSt) (a b:Int) (w:Wd) (s:Int):Int×LSt:=
 let o:=st.of a
 let p:=st.of b
 if o.2.2≠0 then (o.2.2,st) else
 if p.2.2≠0 then (p.2.2,st) else
 if a=b then (45,st) else
 if o.2.1.name≠p.2.1.name then (41,st) else
 if q2t o.2.1 w s≠0 then (q2t o.2.1 w s,st) else
 if o.1.bal.val<w.val then (42,st) else
 if q3Y o.1.bal p.1.bal w=true then (0,(st.q14 {o.1 with bal:=Wd.of (o.1.bal.val-w.val)}).q14 {p.1 with bal:=Wd.of (p.1.bal.val+w.val)}) else (20,st)
def q5n (w:Wd) (s:Int):Int:=if 0<=s/\s<=18 then (if 0<w.val then 0 else 44) else 21
def z2d (st:LSt) (x y:List UInt8) (w:Wd) (s:Int):Int×LSt:=
 if (st.q3k x).isSome=false\/(st.q3k y).isSome=false then (41,st) else
 if x=y then (45,st) else
 if q5n w s≠0 then (q5n w s,st) else
 (0,st.q4N {(st.z9i (x++y)).getD q9N with x:=x,y:=y,rate:=w,q06:=s})
def q2c (st:LSt) (id:Int):Wd×Int×Int:=
 let o:=st.of id
 if o.2.2≠0 then (⟨0,0⟩,0,o.2.2) else (o.1.bal,o.2.1.scale,0)
theorem LSt.q1D {st:LSt} (w:LWf st) (id:Int):(st.of id=(a9n,a8T,40)/\st.q7S id=none)\/
  ∃a p,st.of id=(a,p,0)/\st.q7S id=some a/\st.q3k a.q1C=some p/\a.id=id/\q0Y q0p id (st.q0j.map (·.id))=true/\p.name=a.q1C/\q0Y q0c p.name (st.q0a.map (·.name))=true/\a∈st.q0j/\p∈st.q0a:=by
 cases hk:q0Y q0p id (st.q0j.map (·.id)) with
 |false=>
  have:=LSt.q3Z hk;exact .inl ⟨by unfold LSt.of;rw[this],this⟩
 |true=>
  obtain⟨a,a1,a2,a3,a4⟩:=LSt.q1x hk;have h1:=(w.oka a a4).2.2.2;cases hp:q0Y q0c a.q1C (st.q0a.map (·.name)) with
  |false=>rw[LSt.q2E hp]at h1;simp at h1
  |true=>
   obtain⟨p,p1,p2,p3,p4⟩:=LSt.q1I hp;exact .inr ⟨a,p,by unfold LSt.of;rw[a1];simp only[p1];rfl,a1,p1,a2,rfl,p2,by rw[p2];exact hp,a4,p4⟩
theorem q3B {n:Int}:decide ((Wd.res n).2=0)=q0M n:=by
 unfold Wd.res;cases h:q0M n<;>simp
noncomputable def q33 (E:Env) (S R:List FuncId):FuncId->Option (List AV->Mem->Abs.R):=fun f=>if f∈S then some (q0x E f) else if f∈R then some (run E (.fn f)) else E.H f
theorem q2v {E:Env} (hE:q1i E) (S R:List FuncId):q1i {E with H:=q33 E S R} where
 mixed:=hE.mixed
 body:=hE.body
 hook:=fun f h e args m r m' hr=>by
  simp only[q33]at e;split at e
  ·cases e;exact z2A hE args m r m' hr
  ·split at e
   ·cases e;exact q2k hE (.fn f) args m r m' hr
   ·exact hE.hook f h e args m r m' hr
end
end Go.Abs
namespace Go.Proofs.YtlginbmjiecglaaGreatDoor
section
set_option maxRecDepth 4000
open Go Go.Abs
def S17:List FuncId:=[89,108,109]
def R17:List FuncId:=[46,39,41,40,38,42,43]
noncomputable def H17:FuncId->Option (List AV->Mem->R):=q33 E15 S17 R17
noncomputable abbrev E17:Env:=T.EH H17
theorem a07:q1i E17:=q2v a06 S17 R17
section
variable {H:FuncId->Option (List AV->Mem->R)} {m:Mem} {t:Nat} {st:LSt} {most:Int} {F:List Nat}
end
theorem q7g {H:FuncId->Option (List AV->Mem->R)} {f:FuncId} (h:H f=some (run E15 (.fn f))) (xs:List AV) (m:Mem):run (T.EH H) (.fn f) xs m=run E15 (.fn f) xs m:=q00 h xs m
section
variable {m:Mem} {b:Nat} {st:LSt} {F:List Nat}
end
end
section
set_option maxRecDepth 4000
open Go Go.Abs
theorem j0K (x:Int):decide (sgn x<0)=decide (x<0):=by unfold sgn;apply decide_eq_decide.mpr;split<;>(try split)<;>omega
def S18:List FuncId:=[53,55,56]
noncomputable def H18:FuncId->Option (List AV->Mem->R):=q1y E17 S18
noncomputable abbrev E18:Env:=T.EH H18
theorem a08:q1i E18:=q0Q a07 S18
noncomputable abbrev D18:Do:=T.Rl H18
section
variable {H:FuncId->Option (List AV->Mem->R)} {m:Mem} {b:Nat} {st:LSt} {F:List Nat}
end
section
variable {m:Mem} {b:Nat} {st:LSt} {F:List Nat}
theorem j4m (h:q0u m b st F) (hs:Srt q0c (st.pairs.map (·.key))) (hl:st.pairs.length<=64) (q:q0D) {tp tq ta:AV}
  (hb:m.get b=some (.cells [.int .i64 st.most,tp,tq,ta,.int .u64 st.latest] false)) :
  ∃r m' F',run E18 (.fn 40) [tq,.str q.key,.agg q.cells] m=some (r,m')/\q0u m' b (st.q4N q) F'/\Fr m m' F/\∀c,c∈F'->c∈F\/m.next<=c:=by
 obtain⟨tp',tq',ta',FP,FQ,FA,h1,h2,h3,h4,h5,h6,h7,h8,h9,h10,rfl⟩:=h.ex;rw[h1]at hb;simp only[xoi,Blk.cells.injEq,List.cons.injEq,and_true,true_and]at hb;obtain⟨rfl,rfl,rfl⟩:=hb;obtain⟨m1,FQ',g1,g2,g3,g4⟩:=a0f h3 hs (by simp;omega) q.key (v:=q.cells) rfl rfl;have key:TabAt .str 9 m1 tq' ((st.q4N q).pairs.map (·.key)) ((st.q4N q).pairs.map (·.cells)) 64 FQ':=by
  unfold j4k j4o at g2;unfold LSt.q4N LSt.iQ;by_cases hk:q0Y q0c q.key (st.pairs.map (·.key))=true
  ·simp only[hk,if_true]at g2⊢;rw[List.map_set,List.map_set,q11 (q31 hk)];exact g2
  ·simp only[hk,xbq,if_false,xlm]at g2⊢;by_cases hf:st.pairs.length<64
   ·rw[if_pos (by omega),if_pos (by omega)]at g2;rw[if_pos hf,q3u,q3u];exact g2
   ·rw[if_neg (by omega),if_neg (by omega)]at g2;rw[if_neg hf];exact g2
 obtain⟨F',q1,q2,q3⟩:=q0u.pairs (qs:=(st.q4N q).pairs) h1 h2 h3 h4 h5 h6 h7 h8 h9 h10 g3 key g4;exact⟨_,m1,F',(q7g (H:=H18) rfl _ _).trans g1,q1,q2,q3⟩
end
end
section
set_option maxRecDepth 4000
open Go Go.Abs
theorem z0R {s:List UInt8} (h:q3x s=true):s.length=3:=by
 unfold q3x at h;simp only[Bool.and_eq_true,decide_eq_true_eq]at h;exact h.2
theorem q1s {st:LSt} (w:LWf st) {k:List UInt8} (h:(st.q3k k).isSome=true):k.length=3:=by
 cases hk:q0Y q0c k (st.q0a.map (·.name)) with
 |false=>rw[LSt.q2E hk]at h;simp at h
 |true=>
  obtain⟨p,p1,p2,p3,p4⟩:=LSt.q1I hk;rw[<-p2];exact z0R (w.okp p p4).2.2.2
section
variable {m:Mem} {b:Nat} {st:LSt} {F:List Nat}
end
end
section
set_option maxRecDepth 8000
open Go Go.Abs
def q2o (w:Wd) (s:Int) (v:Wd) (t:Int) (n:Int):Wd×Int×Int:=
 if (0<=s/\s<=18)/\(0<=n/\n<=18) then
  if 0<w.val then
   if q29 v t=0 then (if q0M (z9O w.val v.val (s+t-n))=true then (Wd.of (z9O w.val v.val (s+t-n)),n,0) else (⟨0,0⟩,0,20)) else (⟨0,0⟩,0,q29 v t)
  else (⟨0,0⟩,0,43)
 else (⟨0,0⟩,0,21)
theorem q9Z (w:Wd) (s:Int) (v:Wd) (t:Int) (n:Int):z2B w s v t n=.tup [.agg (q0H (q2o w s v t n).1 (q2o w s v t n).2.1),.int .i64 (q2o w s v t n).2.2]:=by
 unfold z2B q2o q3V
 (repeat' split)<;>rfl
theorem z6C (w:Wd) (s:Int) (v:Wd) (t:Int) (n:Int):(q2o w s v t n).1.ok:=by
 unfold q2o
 (repeat' split)<;>first|exact j6F|exact Wd.q3y (by assumption)
def z6A (st:LSt) (a:q1k) (p:q0r) (a':q1k) (p':q0r) (q:q0D) (w:Wd) (s:Int):Wd×Int×Int×LSt:=
 if q2t p w s≠0 then (⟨0,0⟩,0,q2t p w s,st) else
 if a.bal.val<w.val then (⟨0,0⟩,0,42,st) else
 let g:=q2o w s q.rate q.q06 p'.scale
 if g.2.2≠0 then (⟨0,0⟩,0,g.2.2,st) else
 if q3Y a.bal q.inx w=false\/q3Y q.q1H a'.bal g.1=false then (⟨0,0⟩,0,20,st) else
 (g.1,g.2.1,0,((st.q14 {a with bal:=Wd.of (a.bal.val-w.val)}).q14 {a' with bal:=Wd.of (a'.bal.val+g.1.val)}).q4N {q with inx:=Wd.of (q.inx.val+w.val),q1H:=Wd.of (q.q1H.val-g.1.val)})
def q2r (st:LSt) (a b:Int) (w:Wd) (s:Int):Wd×Int×Int×LSt:=
 let o:=st.of a
 let p:=st.of b
 if o.2.2≠0 then (⟨0,0⟩,0,o.2.2,st) else
 if p.2.2≠0 then (⟨0,0⟩,0,p.2.2,st) else
 if o.2.1.name=p.2.1.name then (⟨0,0⟩,0,45,st) else
 match st.z9i (o.2.1.name++p.2.1.name) with
 |none=>(⟨0,0⟩,0,44,st)
 |some q=>z6A st o.1 o.2.1 p.1 p.2.1 q w s
def z3:List AV:=[.int .i64 0,.int .u64 0,.int .i64 0]
section
variable {M:Mem} {n b:Nat} {st:LSt} {F:List Nat}
end
end
end Go.Proofs.YtlginbmjiecglaaGreatDoor
namespace Go.Abs
section
open Go
noncomputable def Ry (P:Program) (E:Env) (b:Nat):Do:=
 ⟨run E,fun k _ m=>fin P (.rd b) (Nat.casesOn (motive:=fun _=>Option Jmp) k none fun k=>Nat.casesOn (motive:=fun _=>Option Jmp) k (some .ret) fun id=>some (.exit id)) [] m,fun _ _ _ _=>none⟩
theorem q9y {E:Env} {f i b:Nat} {args t:List AV} {m:Mem} {st:LoopState} {pe:Option Jmp} (hm:m.get b=some (.loop {q0t E f i t with state:=st,pending:=pe})) (hl:args.length=(q0t E f i t).params.length) {n:Nat} {r:AV×Mem}
  (h:goF E (run E) (.rd b) n [.code (q0t E f i t).assign,.beginRound,.code (q0t E f i t).body] (z1A (q0t E f i t).params args t) m=some r):run E (.yl b) args m=some r:=by
 have ht:(q0t E f i t).tmps=t:=by unfold q0t;split<;>rfl
 rw[z1a,q3g,hm];simp only;rw[if_pos hl,ht];exact Le.goF (fun _ _ _=>Le.refl _) _ _ _ _ _ _ h
theorem q4l (E:Env) (f i:Nat) (t:List AV):q0t E f i t={q0t E f i []with tmps:=t}:=by unfold q0t;split<;>rfl
theorem q9l {E E':Env} (h:E.B=E'.B) {f i:Nat} {t:List AV}:q0t E f i t=q0t E' f i t:=by unfold q0t codeOf;rw[h]
end
end Go.Abs
namespace Go.Proofs.YtlginbmjiecglaaGreatDoor.T
noncomputable section
open Go Go.Abs Go.Proofs.YtlginbmjiecglaaGreatDoor
set_option maxRecDepth 10000
variable {H:FuncId->Option (List AV->Mem->R)}
def a0W (b:Nat):List AV->CM:=apS fun _=>apS fun u1=>apS fun _=>apS fun _=>apS fun t3=>apS fun _=>apS fun _=>apS fun _=>apS fun _=>apS fun _=>apS fun _=>apS fun _=>ap0<|
 CM.al (some (.cells [(.str []),(.int .i64 0),(.int .i64 0),(.int .u64 0)] false,pB)) fun x0=>
 CM.st (fun m=>stV m x0 u1 4)<|
 CM.st (q3b (.rd b))<|
 CM.pu (p1 (fun a=>q0h Tryz.prog 28 a 0) t3) fun x2=>
 CM.rm (q1 (q1p Tryz.prog 23) x2 ) fun x3=>
 CM.rm (q1 (q1p Tryz.prog 56) x0 ) fun x4=>
 CM.al (bsA 4 1 [(.str []),(.int .i64 0),(.int .i64 0),(.int .u64 0)] [(0,x4)]) fun x5=>
 CM.ef (apE 4 40 x3 x5) fun x6=>
 CM.pu (p1 (fun a=>q0h Tryz.prog 28 a 0) t3) fun x7=>
 CM.st (fun m=>stV m x7 x6 1)<|
 CM.go 0 []
theorem j41 (b:Nat) (u0:AV) (u1:AV) (t0:AV) (t2:AV) (t3:AV) (t5:AV) (t7:AV) (t9:AV) (t19:AV) (t21:AV) (t34:AV) (t47:AV) (m:Mem):goF (EH H) (run (EH H)) (.rd b) 400 [.code (q0t (EH H) 16 0 []).assign,.beginRound,.code (q0t (EH H) 16 0 []).body] (z1A (q0t (EH H) 16 0 []).params [u0,u1] ([t0,uu,t2,t3,uu,t5,uu,t7,uu,t9,uu,uu,uu,uu,uu,uu,uu,uu,uu,t19,uu,t21,uu,uu,uu,uu,uu,uu,uu,uu,uu,uu,uu,uu,t34,uu,uu,uu,uu,uu,uu,uu,uu,uu,uu,uu,uu,t47]++List.replicate 7 uu)) m=q0i (Ry Tryz.prog (EH H) b) (a0W b [u0,u1,t0,t2,t3,t5,t7,t9,t19,t21,t34,t47]) m:=by kernel_rfl
def a0X (b:Nat):List AV->CM:=apS fun _=>apS fun u1=>apS fun _=>apS fun _=>apS fun t3=>apS fun _=>apS fun _=>apS fun _=>apS fun _=>apS fun _=>ap0<|
 CM.al (some (.cells [(.str []),(.str []),(.int .i64 0),(.int .u64 0),(.int .i64 0),(.int .i64 0),(.int .u64 0),(.int .i64 0),(.int .u64 0)] false,pB)) fun x0=>
 CM.st (fun m=>stV m x0 u1 9)<|
 CM.st (q3b (.rd b))<|
 CM.pu (p1 (fun a=>q0h Tryz.prog 28 a 1) t3) fun x2=>
 CM.rm (q1 (q1p Tryz.prog 24) x2 ) fun x3=>
 CM.rm (q1 (q1p Tryz.prog 74) x0 ) fun x4=>
 CM.al (bsA 9 1 [(.str []),(.str []),(.int .i64 0),(.int .u64 0),(.int .i64 0),(.int .i64 0),(.int .u64 0),(.int .i64 0),(.int .u64 0)] [(0,x4)]) fun x5=>
 CM.ef (apE 9 88 x3 x5) fun x6=>
 CM.pu (p1 (fun a=>q0h Tryz.prog 28 a 1) t3) fun x7=>
 CM.st (fun m=>stV m x7 x6 1)<|
 CM.go 0 []
theorem j43 (b:Nat) (u0:AV) (u1:AV) (t0:AV) (t2:AV) (t3:AV) (t7:AV) (t9:AV) (t32:AV) (t34:AV) (t47:AV) (m:Mem):goF (EH H) (run (EH H)) (.rd b) 400 [.code (q0t (EH H) 16 1 []).assign,.beginRound,.code (q0t (EH H) 16 1 []).body] (z1A (q0t (EH H) 16 1 []).params [u0,u1] ([t0,uu,t2,t3,uu,uu,uu,t7,uu,t9,uu,uu,uu,uu,uu,uu,uu,uu,uu,uu,uu,uu,uu,uu,uu,uu,uu,uu,uu,uu,uu,uu,t32,uu,t34,uu,uu,uu,uu,uu,uu,uu,uu,uu,uu,uu,uu,t47]++List.replicate 7 uu)) m=q0i (Ry Tryz.prog (EH H) b) (a0X b [u0,u1,t0,t2,t3,t7,t9,t32,t34,t47]) m:=by kernel_rfl
def a0Y (b:Nat):List AV->CM:=apS fun _=>apS fun u1=>apS fun _=>apS fun t3=>apS fun _=>apS fun _=>apS fun _=>ap0<|
 CM.al (some (.cells [(.int .u64 0),(.str []),(.int .i64 0),(.int .u64 0)] false,pB)) fun x0=>
 CM.st (fun m=>stV m x0 u1 4)<|
 CM.st (q3b (.rd b))<|
 CM.pu (p1 (fun a=>q0h Tryz.prog 28 a 2) t3) fun x2=>
 CM.rm (q1 (q1p Tryz.prog 25) x2 ) fun x3=>
 CM.rm (q1 (q1p Tryz.prog 54) x0 ) fun x4=>
 CM.al (bsA 4 1 [(.int .u64 0),(.str []),(.int .i64 0),(.int .u64 0)] [(0,x4)]) fun x5=>
 CM.ef (apE 4 40 x3 x5) fun x6=>
 CM.pu (p1 (fun a=>q0h Tryz.prog 28 a 2) t3) fun x7=>
 CM.st (fun m=>stV m x7 x6 1)<|
 CM.go 0 []
theorem j45 (b:Nat) (u0:AV) (u1:AV) (t2:AV) (t3:AV) (t9:AV) (t45:AV) (t47:AV) (m:Mem):goF (EH H) (run (EH H)) (.rd b) 400 [.code (q0t (EH H) 16 2 []).assign,.beginRound,.code (q0t (EH H) 16 2 []).body] (z1A (q0t (EH H) 16 2 []).params [u0,u1] ([uu,uu,t2,t3,uu,uu,uu,uu,uu,t9,uu,uu,uu,uu,uu,uu,uu,uu,uu,uu,uu,uu,uu,uu,uu,uu,uu,uu,uu,uu,uu,uu,uu,uu,uu,uu,uu,uu,uu,uu,uu,uu,uu,uu,uu,t45,uu,t47]++List.replicate 7 uu)) m=q0i (Ry Tryz.prog (EH H) b) (a0Y b [u0,u1,t2,t3,t9,t45,t47]) m:=by kernel_rfl
end
end Go.Proofs.YtlginbmjiecglaaGreatDoor.T
namespace Go.Proofs.YtlginbmjiecglaaGreatDoor
section
open Go Go.Abs Go.Proofs.YtlginbmjiecglaaGreatDoor.T
set_option maxRecDepth 10000
variable {H:FuncId->Option (List AV->Mem->R)}
theorem j40 {b:Nat} (u0 u1 t0 t2 t3 t5 t7 t9 t19 t21 t34 t47:AV) {m:Mem} {st:LoopState} {pe:Option Jmp} (hm:m.get b=some (.loop {q0t (T.EH fun _=>none) 16 0 (([t0,uu,t2,t3,uu,t5,uu,t7,uu,t9,uu,uu,uu,uu,uu,uu,uu,uu,uu,t19,uu,t21,uu,uu,uu,uu,uu,uu,uu,uu,uu,uu,uu,uu,t34,uu,uu,uu,uu,uu,uu,uu,uu,uu,uu,uu,uu,t47]++List.replicate 7 uu)) with state:=st,pending:=pe})) {r:AV×Mem} (h:q0i (Ry Tryz.prog (T.EH H) b) (T.a0W b [u0,u1,t0,t2,t3,t5,t7,t9,t19,t21,t34,t47]) m=some r):run (T.EH H) (.yl b) [u0,u1] m=some r:=by
 rw[q9l (show (T.EH fun _=>none).B=(T.EH H).B from rfl)]at hm
 refine q9y hm (by rw[q4l];kernel_rfl) (n:=400) ?_;rw[q4l];exact(T.j41 b u0 u1 t0 t2 t3 t5 t7 t9 t19 t21 t34 t47 m).trans h
theorem j42 {b:Nat} (u0 u1 t0 t2 t3 t7 t9 t32 t34 t47:AV) {m:Mem} {st:LoopState} {pe:Option Jmp} (hm:m.get b=some (.loop {q0t (T.EH fun _=>none) 16 1 (([t0,uu,t2,t3,uu,uu,uu,t7,uu,t9,uu,uu,uu,uu,uu,uu,uu,uu,uu,uu,uu,uu,uu,uu,uu,uu,uu,uu,uu,uu,uu,uu,t32,uu,t34,uu,uu,uu,uu,uu,uu,uu,uu,uu,uu,uu,uu,t47]++List.replicate 7 uu)) with state:=st,pending:=pe})) {r:AV×Mem} (h:q0i (Ry Tryz.prog (T.EH H) b) (T.a0X b [u0,u1,t0,t2,t3,t7,t9,t32,t34,t47]) m=some r):run (T.EH H) (.yl b) [u0,u1] m=some r:=by
 rw[q9l (show (T.EH fun _=>none).B=(T.EH H).B from rfl)]at hm
 refine q9y hm (by rw[q4l];kernel_rfl) (n:=400) ?_;rw[q4l];exact(T.j43 b u0 u1 t0 t2 t3 t7 t9 t32 t34 t47 m).trans h
theorem j44 {b:Nat} (u0 u1 t2 t3 t9 t45 t47:AV) {m:Mem} {st:LoopState} {pe:Option Jmp} (hm:m.get b=some (.loop {q0t (T.EH fun _=>none) 16 2 (([uu,uu,t2,t3,uu,uu,uu,uu,uu,t9,uu,uu,uu,uu,uu,uu,uu,uu,uu,uu,uu,uu,uu,uu,uu,uu,uu,uu,uu,uu,uu,uu,uu,uu,uu,uu,uu,uu,uu,uu,uu,uu,uu,uu,uu,t45,uu,t47]++List.replicate 7 uu)) with state:=st,pending:=pe})) {r:AV×Mem} (h:q0i (Ry Tryz.prog (T.EH H) b) (T.a0Y b [u0,u1,t2,t3,t9,t45,t47]) m=some r):run (T.EH H) (.yl b) [u0,u1] m=some r:=by
 rw[q9l (show (T.EH fun _=>none).B=(T.EH H).B from rfl)]at hm
 refine q9y hm (by rw[q4l];kernel_rfl) (n:=400) ?_;rw[q4l];exact(T.j45 b u0 u1 t2 t3 t9 t45 t47 m).trans h
end
end Go.Proofs.YtlginbmjiecglaaGreatDoor
namespace Go.Abs
section
open Go
theorem q2y {n w:Nat} (hn:0<n) {m:Mem} {s:AV} {l:List (List AV)} {rb:Option Nat} (h:q0L n m s l rb) {xb:Nat} {new:List AV} (hx:m.get xb=some (.cells new false)) (hl:new.length=n) (ho:new.all AV.one=true)
  (hb:(l.length+1)*w<=q0A) :
  ∃s' m',q0P n w s (.sl (some ⟨xb,0⟩) n 1 1 true) m=some (s',m')/\q0L n m' s' (l++[new]) (some m.next)/\m'.next=m.next+1/\Fr m m' rb.toList:=by
 have hsrc:q3Q n (.sl (some ⟨xb,0⟩) n 1 1 true) m=some (1,new):=by
  simp only[q3Q,true_or,if_true,q0y,hx,Nat.one_mul,xnz,hl,xnr,List.drop_zero,xom];rw[xtl (by omega)]
 have hall:∀x∈l++[new],x.length=n/\x.all AV.one=true:=by
  intro x hx';simp only[xma,xms]at hx';rcases hx' with h1|rfl
  ·exact h.1 x h1
  ·exact⟨hl,ho⟩
 have hlens:=h.lens;have hlen:(l++[new]).length=l.length+1:=by simp
 have hfl:=q1j hlens;unfold q0P;rw[hsrc];simp only[ho,not_true_eq_false,if_false];rcases h.2 with (⟨rfl,rfl,sz,ex,rfl⟩|⟨b,rfl,rfl,rfl,h3⟩)|⟨b,rfl,rfl,h3⟩
 ·simp only[Nat.one_ne_zero,if_false];rw[if_pos (by simpa using hb)];exact⟨_,_,rfl,⟨hall,.inr ⟨m.next,rfl,by simp,by simp[Mem.q0E]⟩⟩,rfl,Fr.alloc _ _⟩
 ·simp only[true_or,if_true];have hld:q0y m ⟨b,0⟩ (0*n)=some []:=by simp[q0y,h3]
  rw[if_neg (by omega),if_pos (by simpa using hb),hld];simp only;refine⟨_,_,rfl,⟨hall,.inr ⟨m.next,rfl,by simp,by simp[Mem.q0E]⟩⟩,rfl,(Fr.alloc _ _).mono (by simp)⟩
 ·simp only[true_or,if_true];have hld:q0y m ⟨b,0⟩ (l.length*n)=some l.flatten:=by
   simp only[q0y,h3];rw[if_pos (by omega),List.drop_zero,xtl (by omega)]
  rw[if_neg (by omega),if_pos hb,hld];simp only[xbq,if_false,h3];refine⟨_,_,rfl,⟨hall,.inr ⟨m.next,rfl,by rw[hlen],?_⟩⟩,rfl,((Fr.put m b none).trans (Fr.alloc _ _) (by simp) (by simp))⟩
  simp[Mem.q0E,List.flatten_append]
theorem q2a {n w:Nat} {m:Mem} {s:AV} {l:List (List AV)} {rb:Option Nat} (h:q0L n m s l rb) (hb:l.length*w<=q0A) :
  ∃b ex m',q0P n w (.sl (some ⟨m.next,0⟩) n 0 0 true) s (m.lay (.cells [] false))=some (.sl (some ⟨b,0⟩) n l.length l.length ex,m')/\m'.get b=some (.cells l.flatten false)/\Fr m m' []/\m.next<=b/\(0<l.length->ex=false):=by
 have f1:Fr m (m.lay (.cells [] false)) []:=(Fr.refl m).lay _;have h':=h.frame f1 (by simp);have ones:l.flatten.all AV.one=true:=q6T fun x hx=>(h.1 x hx).2
 have hfl:=q1j h.lens;have hl0:=q0e m (.cells [] false);have src:q3Q n s (m.lay (.cells [] false))=some (l.length,l.flatten):=by
  rcases h'.2 with (⟨rfl,rfl,sz,ex,rfl⟩|⟨b,rfl,rfl,rfl,h3⟩)|⟨b,rfl,rfl,h3⟩
  ·rfl
  ·simp[q3Q,q0y,h3]
  ·simp only[q3Q,true_or,if_true,q0y,h3];rw[if_pos (by omega),List.drop_zero,xtl (by omega)];rfl
 unfold q0P;rw[src];simp only[ones,not_true_eq_false,if_false,true_or,if_true,xnz,Nat.zero_mul];by_cases h0:l.length=0
 ·have hl:l=[]:=List.length_eq_zero_iff.1 h0;subst hl;rw[if_pos (by simp)];have hst:q1h (m.lay (.cells [] false)) ⟨m.next,0+0⟩ ([]:List (List AV)).flatten=some (m.lay (.cells [] false)):=by
   simp only[q1h,hl0];rw[if_pos (by simp)];congr 1;exact q03 m _ _
  simp only[xna]at hst;refine⟨m.next,true,m.lay (.cells [] false),?_,hl0,f1,xnr _,by simp⟩
  rw[hst];rfl
 ·rw[if_neg (by omega),if_pos hb];have hld:q0y (m.lay (.cells [] false)) ⟨m.next,0⟩ 0=some []:=by simp only[q0y,hl0];simp
  rw[hld];simp only[List.nil_append];exact⟨_,_,_,rfl,q0e _ _,f1.lay _,by simp,fun _=>rfl⟩
theorem q36 (E:Env) (f i:Nat) (t:List AV):q0t E f i t={q0t E f i t with state:=.ready,pending:=none}:=by unfold q0t;split<;>rfl
theorem q04 {n w:Nat} (h:n<=4096) (hw:w<=100):n*w<=q0A:=xnt0 (Nat.mul_le_mul h hw) (by decide)
end
end Go.Abs
