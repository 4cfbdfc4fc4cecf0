/- Texts of one claim, put together. -/
import Derived.Test.YtlginbmjiecglaaGreatDoorQ17
namespace Go.Proofs.YtlginbmjiecglaaGreatDoor
section
open Go Go.Abs
theorem a3c (xs:List AV) (m:Mem):run E15 (.fn 87) xs m=q8t Tryz.prog 149 xs m:=q08 rfl xs m
theorem a3f (xs:List AV) (m:Mem):run E15 (.fn 88) xs m=q8t Tryz.prog 25 xs m:=q08 rfl xs m
section
variable {m:Mem} {t:Nat} {ks:List Int} {vs:List (List AV)} {most:Int} {F:List Nat}
theorem a3o (m:Mem) {most:Int} (h1:1<=most) (h2:most<=4096):∃m',run E15 (.fn 81) [.int .i64 most] m=some (.tup [.ptr (some ⟨m.next,0⟩),.int .i64 0],m')/\m'=m.lay (.cells [.sl none 0 0 0 true,.sl none 0 0 0 true,.int .i64 most] false):=by
 refine⟨_,?_,rfl⟩;simp only[a5U (H:=H15) rfl,T.f81,p2,q0a,ifV,wp,df (show ¬most<1 by omega),df (show ¬(4096:Int)<most by omega)];simp only[j5x (H:=H15),T.a1D,p1,q0o,AV.cells,Nat.reduceAdd,Nat.reduceLeDiff,q0K,q0w,List.all_cons,List.all_nil,AV.one]
theorem a1K (h:TabAt (.int .u64) 4 m t ks vs most F) (hs:Srt q0m ks) (hl:ks.length<65536) (k:Int) (hk:q0O q0m k ks=true) :
  ∃v m',vs[lb q0m k ks]? = some v/\run E15 (.fn 108) [.ptr (some ⟨t,0⟩),.int .u64 k] m=some (.tup [.agg v,.bool true],m')/\Fr m m' []:=by
 obtain⟨⟨sk,sv,kb,vb,h1,h2,h3,h4,h5,h6,rfl⟩,h7⟩:=h;have hlt:lb q0m k ks<ks.length:=by
  have:ks[lb q0m k ks]? = some k:=by simpa[q0O]using hk
  exact(xgi.1 this).1
 have hf:Fr m (m.lay (.cells [.int .u64 0,.str [],.int .i64 0,.int .u64 0] false)) []:=(Fr.refl m).lay _;have g1:=hf.get h1 (by simp);have g2:=h2.frame hf (by simp);have g3:=h3.frame hf (by simp);obtain⟨b,rfl,a1,a2⟩:=g3.val (i:=lb q0m k ks) (by omega);have a3:∀i:Nat,ld1 (m.lay (.cells [.int .u64 0,.str [],.int .i64 0,.int .u64 0] false)) (.ptr (some ⟨t,i⟩))=[sk,.sl (some ⟨b,0⟩) 4 vs.length vs.length false,.int .i64 most][i]?:=fun i=>q0g g1
 have hv:=h3.1 _ (List.getElem_mem (show lb q0m k ks<vs.length by omega));refine⟨vs[lb q0m k ks],(m.lay (.cells [.int .u64 0,.str [],.int .i64 0,.int .u64 0] false)).put m.next (some (.cells vs[lb q0m k ks] false)),xgq (by omega),?_,hf.put' (.inr (xnr _))⟩
 simp only[z9n (H:=H15) rfl,T.f108,pB,p1,q1,nnA,q0d,q0a,unA,q0H,q0I,a3,z0Q g2 hs (by omega),hk,xbt,z9T (H:=H15),T.z9S,p2,q0e,true_or,if_true,a1,a2,q0X (n:=4) (q0f m (.cells [.int .u64 0,.str [],.int .i64 0,.int .u64 0] false)) rfl hv.1 hv.2,q0A (n:=4) (q0v (q0f m (.cells [.int .u64 0,.str [],.int .i64 0,.int .u64 0] false))) hv.1]
theorem j58 (h:TabAt (.int .u64) 4 m t ks vs most F) (hs:Srt q0m ks) (hl:ks.length<65536) (k:Int) (hk:q0O q0m k ks=false) :
  ∃m',run E15 (.fn 108) [.ptr (some ⟨t,0⟩),.int .u64 k] m=some (.tup [.agg [.int .u64 0,.str [],.int .i64 0,.int .u64 0],.bool false],m')/\Fr m m' []:=by
 obtain⟨⟨sk,sv,kb,vb,h1,h2,h3,h4,h5,h6,rfl⟩,h7⟩:=h;have hf:Fr m (m.lay (.cells [.int .u64 0,.str [],.int .i64 0,.int .u64 0] false)) []:=(Fr.refl m).lay _;have g1:=hf.get h1 (by simp);have g2:=h2.frame hf (by simp);have a3:∀i:Nat,ld1 (m.lay (.cells [.int .u64 0,.str [],.int .i64 0,.int .u64 0] false)) (.ptr (some ⟨t,i⟩))=[sk,sv,.int .i64 most][i]?:=fun i=>q0g g1
 have g3:((m.lay (.cells [.int .u64 0,.str [],.int .i64 0,.int .u64 0] false)).lay (.cells [.int .u64 0,.str [],.int .i64 0,.int .u64 0] false)).get m.next=some (.cells [.int .u64 0,.str [],.int .i64 0,.int .u64 0] false):=by rw[q3U (by simp)];exact q0f _ _
 refine⟨((m.lay (.cells [.int .u64 0,.str [],.int .i64 0,.int .u64 0] false)).lay (.cells [.int .u64 0,.str [],.int .i64 0,.int .u64 0] false)).put m.next (some (.cells [.int .u64 0,.str [],.int .i64 0,.int .u64 0] false)),?_,(hf.lay _).put' (.inr (xnr _))⟩
 simp only[z9n (H:=H15) rfl,T.f108,pB,p1,q1,nnA,q0d,q0a,unA,q0H,q0I,q0F,a3,z0Q g2 hs (by omega),hk,xbf,q0A (n:=4) (q0f (m.lay (.cells [.int .u64 0,.str [],.int .i64 0,.int .u64 0] false)) (.cells [.int .u64 0,.str [],.int .i64 0,.int .u64 0] false)) rfl,q0X (n:=4) g3 rfl (show ([.int .u64 0,.str [],.int .i64 0,.int .u64 0]:List AV).length=4 by rfl) (by rfl),q0A (n:=4) (v:=[.int .u64 0,.str [],.int .i64 0,.int .u64 0]) (q0v g3) rfl]
theorem a3z (h:TabAt (.int .u64) 4 m t ks vs most F) (hs:Srt q0m ks) (hl:ks.length<65536) (k:Int) (hk:q0O q0m k ks=true) {v:List AV} (hv:v.length=4) (ho:v.all AV.one=true) :
  ∃m',run E15 (.fn 41) [.ptr (some ⟨t,0⟩),.int .u64 k,.agg v] m=some (.bool true,m')/\TabAt (.int .u64) 4 m' t ks (vs.set (lb q0m k ks) v) most F/\Fr m m' F:=by
 have hlt:lb q0m k ks<ks.length:=by
  have:ks[lb q0m k ks]? = some k:=by simpa[q0O]using hk
  exact(xgi.1 this).1
 have hf:Fr m (m.lay (.cells v false)) []:=(Fr.refl m).lay _;have h':=h.frame hf (by simp);obtain⟨sk,sv,b,m',g1,rfl,a1,a2,a5,a6⟩:=h'.set hlt hv ho;obtain⟨⟨sk',sv',kb,vb,h1,h2,h3,h4,h5,h6,e⟩,h7⟩:=h';rw[g1]at h1;cases h1;have a3:∀i:Nat,ld1 (m.lay (.cells v false)) (.ptr (some ⟨t,i⟩))=[sk,.sl (some ⟨b,0⟩) 4 vs.length vs.length false,.int .i64 most][i]?:=fun i=>q0g g1
 have a4:ldN (m.lay (.cells v false)) (.ptr (some ⟨m.next,0⟩)) 4=some (.agg v):=by
  rw[q00 (q0f _ _) (by omega),List.drop_zero,xtl (by omega)]
 refine⟨m',?_,a5,(hf.any F).step a6 (fun c hc=>.inl hc)⟩
 simp only[z9I (H:=H15) rfl,T.f41,p1,q1,p2,q0K,nnA,q0d,q0a,q0F,q1e ho,xom,a3,a4,z0Q h2 hs (by omega),hk,true_or,if_true,a1,a2,z5p (H:=H15),T.j4V,wp]
theorem j2y (h:TabAt (.int .u64) 4 m t ks vs most F) (hs:Srt q0m ks) (hl:ks.length<65536) (k:Int) (hk:q0O q0m k ks=false) (hf:most<=ks.length) {v:List AV} (ho:v.all AV.one=true) :
  ∃m',run E15 (.fn 41) [.ptr (some ⟨t,0⟩),.int .u64 k,.agg v] m=some (.bool false,m')/\Fr m m' []:=by
 obtain⟨⟨sk,sv,kb,vb,h1,h2,h3,h4,h5,h6,rfl⟩,h7⟩:=h;have hf0:Fr m (m.lay (.cells v false)) []:=(Fr.refl m).lay _;have g1:=hf0.get h1 (by simp);have g2:=h2.frame hf0 (by simp);obtain⟨a,sz,cap,ex,rfl⟩:=h2.j6i;have a3:∀i:Nat,ld1 (m.lay (.cells v false)) (.ptr (some ⟨t,i⟩))=[.sl a sz ks.length cap ex,sv,.int .i64 most][i]?:=fun i=>q0g g1
 refine⟨_,?_,hf0⟩;simp only[z9I (H:=H15) rfl,T.f41,p1,q1,p2,q0K,nnA,q0d,q0a,q0F,q1e ho,xom,a3,z0Q g2 hs (by omega),hk,dt (show most<=(ks.length:Int) by omega)]
theorem j6C (h:TabAt (.int .u64) 4 m t ks vs most F) (hs:Srt q0m ks) (hl:ks.length<4096) (k:Int) (hk:q0O q0m k ks=false) (hf:(ks.length:Int)<most) {v:List AV} (hv:v.length=4) (ho:v.all AV.one=true) :
  ∃m' F',run E15 (.fn 41) [.ptr (some ⟨t,0⟩),.int .u64 k,.agg v] m=some (.bool true,m')/\TabAt (.int .u64) 4 m' t (q2O (lb q0m k ks) k ks) (q2O (lb q0m k ks) v vs) most F'/\Fr m m' F/\∀c,c∈F'->c∈F\/m.next<=c:=by
 have hf0:Fr m (m.lay (.cells v false)) []:=(Fr.refl m).lay _;have h':=h.frame hf0 (by simp);obtain⟨sk,sv,sk',m2,sv',m5,F',g1,a1,a2,a3,a4,b1,b2,b3,b4,b5,b6⟩:=h'.ins (P:=Tryz.prog) (st1:=149) (e1:=26) (st2:=25) (e2:=54) (w1:=8) (w2:=40) (zs1:=[.int .u64 0]) (zs2:=[.int .u64 0,.str [],.int .i64 0,.int .u64 0]) (by kernel_rfl) (by kernel_rfl) (by kernel_rfl) (by kernel_rfl) (by kernel_rfl) (by decide) (by kernel_rfl) (by kernel_rfl) (by kernel_rfl) (by kernel_rfl) (by kernel_rfl) (by decide) (by decide)
  (fun _=>rfl) (z0f k ks) hl (by decide) (k:=k) hv ho
 obtain⟨⟨sk1,sv1,kb,vb,h1,h2,h3,h4,h5,h6,e⟩,h7⟩:=h';rw[g1]at h1;cases h1;obtain⟨x,sz,cap,ex,rfl⟩:=h2.j6i;have c1:∀i:Nat,ld1 (m.lay (.cells v false)) (.ptr (some ⟨t,i⟩))=[.sl x sz ks.length cap ex,sv,.int .i64 most][i]?:=fun i=>q0g g1
 have c2:∀i:Nat,ld1 (m2.put t (some (.cells [sk',sv,.int .i64 most] false))) (.ptr (some ⟨t,i⟩))=[sk',sv,.int .i64 most][i]?:=fun i=>q0g a3
 have c3:ldN (m2.put t (some (.cells [sk',sv,.int .i64 most] false))) (.ptr (some ⟨m.next,0⟩)) 4=some (.agg v):=by
  have:(m2.put t (some (.cells [sk',sv,.int .i64 most] false))).get m.next=some (.cells v false):=b4.get (q0f _ _) (fun hm=>by have:=h.lt _ hm;omega)
  rw[q00 this (by omega),List.drop_zero,xtl (by omega)]
 have c4:(m2.put t (some (.cells [sk',sv,.int .i64 most] false))).next=m2.next:=rfl
 refine⟨_,F',?_,b3,(hf0.any F).step b5 (fun c hc=>.inl hc),fun c hc=>(b6 c hc).imp id (fun h=>by have:m.next<=(m.lay (.cells v false)).next:=hf0.next;omega)⟩
 simp only[z9I (H:=H15) rfl,T.f41,p1,q1,p2,q0K,nnA,q0d,q0a,q0F,q1e ho,xom,z2W (x:=.int .u64 k) (by rfl),q5j (n:=4) (zs:=[.int .u64 0,.str [],.int .i64 0,.int .u64 0]) ho hv (by rfl),c1,z0Q h2 hs (by omega),hk,df (show ¬most<=(ks.length:Int) by omega),a3c,a3f,a1,a2,c2,c3,c4,b1,b2,z5p (H:=H15),T.j4V,wp]
theorem a1L (h:TabAt (.int .u64) 4 m t ks vs most F) (hs:Srt q0m ks) (hl:ks.length<65536) (k:Int) :
  ∃v m',run E15 (.fn 108) [.ptr (some ⟨t,0⟩),.int .u64 k] m=some (.tup [.agg v,.bool (q0O q0m k ks)],m')/\(q0O q0m k ks=true->vs[lb q0m k ks]? = some v)/\(q0O q0m k ks=false->v=[.int .u64 0,.str [],.int .i64 0,.int .u64 0])/\v.length=4/\v.all AV.one=true/\Fr m m' []:=by
 cases hk:q0O q0m k ks with
 |true=>
  obtain⟨v,m',h1,h2,h3⟩:=a1K h hs hl k hk;obtain⟨⟨sk,sv,kb,vb,_,_,g3,_⟩,_⟩:=h;have:=g3.1 v (List.mem_of_getElem? h1);exact⟨v,m',h2,fun _=>h1,nofun,this.1,this.2,h3⟩
 |false=>
  obtain⟨m',h2,h3⟩:=j58 h hs hl k hk;exact⟨_,m',h2,nofun,fun _=>rfl,rfl,rfl,h3⟩
theorem z3P (h:TabAt (.int .u64) 4 m t ks vs most F) (hs:Srt q0m ks) (hl:ks.length<4096) (k:Int) {v:List AV} (hv:v.length=4) (ho:v.all AV.one=true) :
  ∃m' F',run E15 (.fn 41) [.ptr (some ⟨t,0⟩),.int .u64 k,.agg v] m=some (.bool (q0O q0m k ks||decide ((ks.length:Int)<most)),m')/\
   TabAt (.int .u64) 4 m' t (z7V q0m k ks most) (z7W q0m k ks v vs most) most F'/\Fr m m' F/\∀c,c∈F'->c∈F\/m.next<=c:=by
 unfold z7V z7W;cases hk:q0O q0m k ks with
 |true=>
  obtain⟨m',h1,h2,h3⟩:=a3z h hs (by omega) k hk hv ho;exact⟨m',F,h1,by simpa using h2,h3,fun c hc=>.inl hc⟩
 |false=>
  by_cases hf:(ks.length:Int)<most
  ·obtain⟨m',F',h1,h2,h3,h4⟩:=j6C h hs hl k hk hf hv ho;exact⟨m',F',by simpa[hf]using h1,by simpa[hf]using h2,h3,h4⟩
  ·obtain⟨m',h1,h2⟩:=j2y h hs (by omega) k hk (by omega) ho;exact⟨m',F,by simpa[hf]using h1,by simpa[hf]using h.frame h2 (by simp),h2.any F,fun c hc=>.inl hc⟩
end
end
section
open Go Go.Abs
theorem a3e (xs:List AV) (m:Mem):run E15 (.fn 83) xs m=q8t Tryz.prog 140 xs m:=q08 rfl xs m
theorem a3h (xs:List AV) (m:Mem):run E15 (.fn 85) xs m=q8t Tryz.prog 24 xs m:=q08 rfl xs m
section
variable {m:Mem} {t:Nat} {ks:List (List UInt8)} {vs:List (List AV)} {most:Int} {F:List Nat}
theorem a3q (m:Mem) {most:Int} (h1:1<=most) (h2:most<=4096):∃m',run E15 (.fn 80) [.int .i64 most] m=some (.tup [.ptr (some ⟨m.next,0⟩),.int .i64 0],m')/\m'=m.lay (.cells [.sl none 0 0 0 true,.sl none 0 0 0 true,.int .i64 most] false):=by
 refine⟨_,?_,rfl⟩;simp only[a5T (H:=H15) rfl,T.f80,p2,q0a,ifV,wp,df (show ¬most<1 by omega),df (show ¬(4096:Int)<most by omega)];simp only[j5w (H:=H15),T.a1C,p1,q0o,AV.cells,Nat.reduceAdd,Nat.reduceLeDiff,q0K,q0w,List.all_cons,List.all_nil,AV.one]
theorem a1N (h:TabAt (.str) 9 m t ks vs most F) (hs:Srt q0c ks) (hl:ks.length<65536) (k:(List UInt8)) (hk:q0O q0c k ks=true) :
  ∃v m',vs[lb q0c k ks]? = some v/\run E15 (.fn 109) [.ptr (some ⟨t,0⟩),.str k] m=some (.tup [.agg v,.bool true],m')/\Fr m m' []:=by
 obtain⟨⟨sk,sv,kb,vb,h1,h2,h3,h4,h5,h6,rfl⟩,h7⟩:=h;have hlt:lb q0c k ks<ks.length:=by
  have:ks[lb q0c k ks]? = some k:=by simpa[q0O]using hk
  exact(xgi.1 this).1
 have hf:Fr m (m.lay (.cells [.str [],.str [],.int .i64 0,.int .u64 0,.int .i64 0,.int .i64 0,.int .u64 0,.int .i64 0,.int .u64 0] false)) []:=(Fr.refl m).lay _;have g1:=hf.get h1 (by simp);have g2:=h2.frame hf (by simp);have g3:=h3.frame hf (by simp);obtain⟨b,rfl,a1,a2⟩:=g3.val (i:=lb q0c k ks) (by omega);have a3:∀i:Nat,ld1 (m.lay (.cells [.str [],.str [],.int .i64 0,.int .u64 0,.int .i64 0,.int .i64 0,.int .u64 0,.int .i64 0,.int .u64 0] false)) (.ptr (some ⟨t,i⟩))=[sk,.sl (some ⟨b,0⟩) 9 vs.length vs.length false,.int .i64 most][i]?:=fun i=>q0g g1
 have hv:=h3.1 _ (List.getElem_mem (show lb q0c k ks<vs.length by omega));refine⟨vs[lb q0c k ks],(m.lay (.cells [.str [],.str [],.int .i64 0,.int .u64 0,.int .i64 0,.int .i64 0,.int .u64 0,.int .i64 0,.int .u64 0] false)).put m.next (some (.cells vs[lb q0c k ks] false)),xgq (by omega),?_,hf.put' (.inr (xnr _))⟩
 simp only[z9p (H:=H15) rfl,T.f109,pB,p1,q1,nnA,q0d,q0a,unA,q0H,q0I,a3,q4S g2 hs (by omega),hk,xbt,z9U (H:=H15),T.j73,p2,q0e,true_or,if_true,a1,a2,q0X (n:=9) (q0f m (.cells [.str [],.str [],.int .i64 0,.int .u64 0,.int .i64 0,.int .i64 0,.int .u64 0,.int .i64 0,.int .u64 0] false)) rfl hv.1 hv.2,q0A (n:=9) (q0v (q0f m (.cells [.str [],.str [],.int .i64 0,.int .u64 0,.int .i64 0,.int .i64 0,.int .u64 0,.int .i64 0,.int .u64 0] false))) hv.1]
theorem j6a (h:TabAt (.str) 9 m t ks vs most F) (hs:Srt q0c ks) (hl:ks.length<65536) (k:(List UInt8)) (hk:q0O q0c k ks=false) :
  ∃m',run E15 (.fn 109) [.ptr (some ⟨t,0⟩),.str k] m=some (.tup [.agg [.str [],.str [],.int .i64 0,.int .u64 0,.int .i64 0,.int .i64 0,.int .u64 0,.int .i64 0,.int .u64 0],.bool false],m')/\Fr m m' []:=by
 obtain⟨⟨sk,sv,kb,vb,h1,h2,h3,h4,h5,h6,rfl⟩,h7⟩:=h;have hf:Fr m (m.lay (.cells [.str [],.str [],.int .i64 0,.int .u64 0,.int .i64 0,.int .i64 0,.int .u64 0,.int .i64 0,.int .u64 0] false)) []:=(Fr.refl m).lay _;have g1:=hf.get h1 (by simp);have g2:=h2.frame hf (by simp);have a3:∀i:Nat,ld1 (m.lay (.cells [.str [],.str [],.int .i64 0,.int .u64 0,.int .i64 0,.int .i64 0,.int .u64 0,.int .i64 0,.int .u64 0] false)) (.ptr (some ⟨t,i⟩))=[sk,sv,.int .i64 most][i]?:=fun i=>q0g g1
 have g3:((m.lay (.cells [.str [],.str [],.int .i64 0,.int .u64 0,.int .i64 0,.int .i64 0,.int .u64 0,.int .i64 0,.int .u64 0] false)).lay (.cells [.str [],.str [],.int .i64 0,.int .u64 0,.int .i64 0,.int .i64 0,.int .u64 0,.int .i64 0,.int .u64 0] false)).get m.next=some (.cells [.str [],.str [],.int .i64 0,.int .u64 0,.int .i64 0,.int .i64 0,.int .u64 0,.int .i64 0,.int .u64 0] false):=by rw[q3U (by simp)];exact q0f _ _
 refine⟨((m.lay (.cells [.str [],.str [],.int .i64 0,.int .u64 0,.int .i64 0,.int .i64 0,.int .u64 0,.int .i64 0,.int .u64 0] false)).lay (.cells [.str [],.str [],.int .i64 0,.int .u64 0,.int .i64 0,.int .i64 0,.int .u64 0,.int .i64 0,.int .u64 0] false)).put m.next (some (.cells [.str [],.str [],.int .i64 0,.int .u64 0,.int .i64 0,.int .i64 0,.int .u64 0,.int .i64 0,.int .u64 0] false)),?_,(hf.lay _).put' (.inr (xnr _))⟩
 simp only[z9p (H:=H15) rfl,T.f109,pB,p1,q1,nnA,q0d,q0a,unA,q0H,q0I,q0F,a3,q4S g2 hs (by omega),hk,xbf,q0A (n:=9) (q0f (m.lay (.cells [.str [],.str [],.int .i64 0,.int .u64 0,.int .i64 0,.int .i64 0,.int .u64 0,.int .i64 0,.int .u64 0] false)) (.cells [.str [],.str [],.int .i64 0,.int .u64 0,.int .i64 0,.int .i64 0,.int .u64 0,.int .i64 0,.int .u64 0] false)) rfl,q0X (n:=9) g3 rfl (show ([.str [],.str [],.int .i64 0,.int .u64 0,.int .i64 0,.int .i64 0,.int .u64 0,.int .i64 0,.int .u64 0]:List AV).length=9 by rfl) (by rfl),q0A (n:=9) (v:=[.str [],.str [],.int .i64 0,.int .u64 0,.int .i64 0,.int .i64 0,.int .u64 0,.int .i64 0,.int .u64 0]) (q0v g3) rfl]
theorem a3B (h:TabAt (.str) 9 m t ks vs most F) (hs:Srt q0c ks) (hl:ks.length<65536) (k:(List UInt8)) (hk:q0O q0c k ks=true) {v:List AV} (hv:v.length=9) (ho:v.all AV.one=true) :
  ∃m',run E15 (.fn 40) [.ptr (some ⟨t,0⟩),.str k,.agg v] m=some (.bool true,m')/\TabAt (.str) 9 m' t ks (vs.set (lb q0c k ks) v) most F/\Fr m m' F:=by
 have hlt:lb q0c k ks<ks.length:=by
  have:ks[lb q0c k ks]? = some k:=by simpa[q0O]using hk
  exact(xgi.1 this).1
 have hf:Fr m (m.lay (.cells v false)) []:=(Fr.refl m).lay _;have h':=h.frame hf (by simp);obtain⟨sk,sv,b,m',g1,rfl,a1,a2,a5,a6⟩:=h'.set hlt hv ho;obtain⟨⟨sk',sv',kb,vb,h1,h2,h3,h4,h5,h6,e⟩,h7⟩:=h';rw[g1]at h1;cases h1;have a3:∀i:Nat,ld1 (m.lay (.cells v false)) (.ptr (some ⟨t,i⟩))=[sk,.sl (some ⟨b,0⟩) 9 vs.length vs.length false,.int .i64 most][i]?:=fun i=>q0g g1
 have a4:ldN (m.lay (.cells v false)) (.ptr (some ⟨m.next,0⟩)) 9=some (.agg v):=by
  rw[q00 (q0f _ _) (by omega),List.drop_zero,xtl (by omega)]
 refine⟨m',?_,a5,(hf.any F).step a6 (fun c hc=>.inl hc)⟩
 simp only[z9H (H:=H15) rfl,T.f40,p1,q1,p2,q0K,nnA,q0d,q0a,q0F,q1e ho,xom,a3,a4,q4S h2 hs (by omega),hk,true_or,if_true,a1,a2,z5o (H:=H15),T.a09,wp]
theorem j2A (h:TabAt (.str) 9 m t ks vs most F) (hs:Srt q0c ks) (hl:ks.length<65536) (k:(List UInt8)) (hk:q0O q0c k ks=false) (hf:most<=ks.length) {v:List AV} (ho:v.all AV.one=true) :
  ∃m',run E15 (.fn 40) [.ptr (some ⟨t,0⟩),.str k,.agg v] m=some (.bool false,m')/\Fr m m' []:=by
 obtain⟨⟨sk,sv,kb,vb,h1,h2,h3,h4,h5,h6,rfl⟩,h7⟩:=h;have hf0:Fr m (m.lay (.cells v false)) []:=(Fr.refl m).lay _;have g1:=hf0.get h1 (by simp);have g2:=h2.frame hf0 (by simp);obtain⟨a,sz,cap,ex,rfl⟩:=h2.j6i;have a3:∀i:Nat,ld1 (m.lay (.cells v false)) (.ptr (some ⟨t,i⟩))=[.sl a sz ks.length cap ex,sv,.int .i64 most][i]?:=fun i=>q0g g1
 refine⟨_,?_,hf0⟩;simp only[z9H (H:=H15) rfl,T.f40,p1,q1,p2,q0K,nnA,q0d,q0a,q0F,q1e ho,xom,a3,q4S g2 hs (by omega),hk,dt (show most<=(ks.length:Int) by omega)]
theorem j6E (h:TabAt (.str) 9 m t ks vs most F) (hs:Srt q0c ks) (hl:ks.length<4096) (k:(List UInt8)) (hk:q0O q0c k ks=false) (hf:(ks.length:Int)<most) {v:List AV} (hv:v.length=9) (ho:v.all AV.one=true) :
  ∃m' F',run E15 (.fn 40) [.ptr (some ⟨t,0⟩),.str k,.agg v] m=some (.bool true,m')/\TabAt (.str) 9 m' t (q2O (lb q0c k ks) k ks) (q2O (lb q0c k ks) v vs) most F'/\Fr m m' F/\∀c,c∈F'->c∈F\/m.next<=c:=by
 have hf0:Fr m (m.lay (.cells v false)) []:=(Fr.refl m).lay _;have h':=h.frame hf0 (by simp);obtain⟨sk,sv,sk',m2,sv',m5,F',g1,a1,a2,a3,a4,b1,b2,b3,b4,b5,b6⟩:=h'.ins (P:=Tryz.prog) (st1:=140) (e1:=9) (st2:=24) (e2:=74) (w1:=16) (w2:=88) (zs1:=[.str []]) (zs2:=[.str [],.str [],.int .i64 0,.int .u64 0,.int .i64 0,.int .i64 0,.int .u64 0,.int .i64 0,.int .u64 0]) (by kernel_rfl) (by kernel_rfl) (by kernel_rfl) (by kernel_rfl) (by kernel_rfl) (by decide) (by kernel_rfl) (by kernel_rfl) (by kernel_rfl) (by kernel_rfl) (by kernel_rfl) (by decide) (by decide)
  (fun _=>rfl) (z0f k ks) hl (by decide) (k:=k) hv ho
 obtain⟨⟨sk1,sv1,kb,vb,h1,h2,h3,h4,h5,h6,e⟩,h7⟩:=h';rw[g1]at h1;cases h1;obtain⟨x,sz,cap,ex,rfl⟩:=h2.j6i;have c1:∀i:Nat,ld1 (m.lay (.cells v false)) (.ptr (some ⟨t,i⟩))=[.sl x sz ks.length cap ex,sv,.int .i64 most][i]?:=fun i=>q0g g1
 have c2:∀i:Nat,ld1 (m2.put t (some (.cells [sk',sv,.int .i64 most] false))) (.ptr (some ⟨t,i⟩))=[sk',sv,.int .i64 most][i]?:=fun i=>q0g a3
 have c3:ldN (m2.put t (some (.cells [sk',sv,.int .i64 most] false))) (.ptr (some ⟨m.next,0⟩)) 9=some (.agg v):=by
  have:(m2.put t (some (.cells [sk',sv,.int .i64 most] false))).get m.next=some (.cells v false):=b4.get (q0f _ _) (fun hm=>by have:=h.lt _ hm;omega)
  rw[q00 this (by omega),List.drop_zero,xtl (by omega)]
 have c4:(m2.put t (some (.cells [sk',sv,.int .i64 most] false))).next=m2.next:=rfl
 refine⟨_,F',?_,b3,(hf0.any F).step b5 (fun c hc=>.inl hc),fun c hc=>(b6 c hc).imp id (fun h=>by have:m.next<=(m.lay (.cells v false)).next:=hf0.next;omega)⟩
 simp only[z9H (H:=H15) rfl,T.f40,p1,q1,p2,q0K,nnA,q0d,q0a,q0F,q1e ho,xom,z2W (x:=.str k) (by rfl),q5j (n:=9) (zs:=[.str [],.str [],.int .i64 0,.int .u64 0,.int .i64 0,.int .i64 0,.int .u64 0,.int .i64 0,.int .u64 0]) ho hv (by rfl),c1,q4S h2 hs (by omega),hk,df (show ¬most<=(ks.length:Int) by omega),a3e,a3h,a1,a2,c2,c3,c4,b1,b2,z5o (H:=H15),T.a09,wp]
theorem a1O (h:TabAt (.str) 9 m t ks vs most F) (hs:Srt q0c ks) (hl:ks.length<65536) (k:(List UInt8)) :
  ∃v m',run E15 (.fn 109) [.ptr (some ⟨t,0⟩),.str k] m=some (.tup [.agg v,.bool (q0O q0c k ks)],m')/\(q0O q0c k ks=true->vs[lb q0c k ks]? = some v)/\(q0O q0c k ks=false->v=[.str [],.str [],.int .i64 0,.int .u64 0,.int .i64 0,.int .i64 0,.int .u64 0,.int .i64 0,.int .u64 0])/\v.length=9/\v.all AV.one=true/\Fr m m' []:=by
 cases hk:q0O q0c k ks with
 |true=>
  obtain⟨v,m',h1,h2,h3⟩:=a1N h hs hl k hk;obtain⟨⟨sk,sv,kb,vb,_,_,g3,_⟩,_⟩:=h;have:=g3.1 v (List.mem_of_getElem? h1);exact⟨v,m',h2,fun _=>h1,nofun,this.1,this.2,h3⟩
 |false=>
  obtain⟨m',h2,h3⟩:=j6a h hs hl k hk;exact⟨_,m',h2,nofun,fun _=>rfl,rfl,rfl,h3⟩
theorem a3C (h:TabAt (.str) 9 m t ks vs most F) (hs:Srt q0c ks) (hl:ks.length<4096) (k:(List UInt8)) {v:List AV} (hv:v.length=9) (ho:v.all AV.one=true) :
  ∃m' F',run E15 (.fn 40) [.ptr (some ⟨t,0⟩),.str k,.agg v] m=some (.bool (q0O q0c k ks||decide ((ks.length:Int)<most)),m')/\
   TabAt (.str) 9 m' t (z7V q0c k ks most) (z7W q0c k ks v vs most) most F'/\Fr m m' F/\∀c,c∈F'->c∈F\/m.next<=c:=by
 unfold z7V z7W;cases hk:q0O q0c k ks with
 |true=>
  obtain⟨m',h1,h2,h3⟩:=a3B h hs (by omega) k hk hv ho;exact⟨m',F,h1,by simpa using h2,h3,fun c hc=>.inl hc⟩
 |false=>
  by_cases hf:(ks.length:Int)<most
  ·obtain⟨m',F',h1,h2,h3,h4⟩:=j6E h hs hl k hk hf hv ho;exact⟨m',F',by simpa[hf]using h1,by simpa[hf]using h2,h3,h4⟩
  ·obtain⟨m',h1,h2⟩:=j2A h hs (by omega) k hk (by omega) ho;exact⟨m',F,by simpa[hf]using h1,by simpa[hf]using h.frame h2 (by simp),h2.any F,fun c hc=>.inl hc⟩
end
end
section
open Go Go.Abs
theorem j2e (s:List UInt8) (hl:s.length<4611686018427387904) (m:Mem):∀(d i:Nat),s.length-i<=d->i<=s.length->D15.gor 188416 [.str s,.int .i64 i] m=some (.bool ((s.drop i).all (fun c=>decide (65<=c.toNat)&&decide (c.toNat<=90))&&decide (s.length=3)),m):=by
 intro d;induction d with
 |zero=>
  intro i hd hi;have e:i=s.length:=by omega
  subst e;simp only[z5y (H:=H15),T.j40,p1,p2,q0a,wp,df (show ¬((s.length:Nat):Int)<(s.length:Int) by omega),j43 (H:=H15),T.a1g,wp,List.drop_length,List.all_nil,Bool.true_and];rw[show decide ((s.length:Int)=3)=decide (s.length=3) by by_cases h:s.length=3<;>simp[h];omega]
 |succ d ih=>
  intro i hd hi;by_cases e:i=s.length
  ·exact ih i (by omega) hi
  ·have hlt:i<s.length:=by omega
   simp only[z5y (H:=H15),T.j40,p1,p2,q0a,wp,dt (show (i:Int)<(s.length:Int) by omega)];have h0:(0:Int)<=(i:Int):=by omega
   simp only[j41 (H:=H15),T.a1e,p2,q0a,ifV,q54,if_pos h0,Int.toNat_natCast,xgq hlt];rw[List.drop_eq_getElem_cons hlt,List.all_cons];by_cases h1:(s[i].toNat:Int)<65
   ·simp only[dt h1,df (show ¬65<=s[i].toNat by omega),Bool.false_and]
   ·by_cases h2:(90:Int)<(s[i].toNat:Int)
    ·simp only[df h1,dt h2,df (show ¬s[i].toNat<=90 by omega),Bool.false_and,Bool.and_false]
    ·simp only[df h1,df h2,j42 (H:=H15),T.a1f,p2,wp,dt (show 65<=s[i].toNat by omega),dt (show s[i].toNat<=90 by omega),Bool.true_and];rw[wrap_i64 (by have:=hl;omega) (by have:=hl;omega),show (i:Int)+1=((i+1:Nat):Int) by omega];exact ih (i+1) (by omega) (by omega)
theorem j2d (s:List UInt8) (hl:s.length<4611686018427387904) (m:Mem):run E15 (.fn 46) [.str s] m=some (.bool (q3Y s),m):=by
 simp only[a5B (H:=H15) rfl,T.f46,wp];exact j2e s hl m s.length 0 (by omega) (by omega)
section
variable {m:Mem} {b:Nat} {st:LSt} {F:List Nat}
theorem j9E (h:q0l m b st F) (hs:Srt q0c (st.q0b.map (·.name))) (hl:st.q0b.length<=8) (name:List UInt8) (hn:name.length<4611686018427387904) {scale:Int} (h0:0<=scale) :
  ∃m' F',run E15 (.fn 42) [.ptr (some ⟨b,0⟩),.str name,.int .u64 scale] m=some (.int .i64 (q6e st name scale).1,m')/\q0l m' b (q6e st name scale).2 F'/\Fr m m' F/\∀c,c∈F'->c∈F\/m.next<=c:=by
 obtain⟨tp,tq,ta,FP,FQ,FA,h1,h2,h3,h4,h5,h6,h7,h8,h9,h10,rfl⟩:=h.ex;obtain⟨v,m1,g1,g2,g3,g4,g5,g6⟩:=z3v h2 hs (by simp;omega) name;have a3:∀i:Nat,ld1 m (.ptr (some ⟨b,i⟩))=[.int .i64 st.most,.ptr (some ⟨tp,0⟩),.ptr (some ⟨tq,0⟩),.ptr (some ⟨ta,0⟩),.int .u64 st.latest][i]?:=fun i=>q0g h1
 have f2:Fr m ((m1.lay (.cells [.str [],.int .i64 0,.int .i64 0,.int .u64 0] false)).put m1.next (some (.cells v false))) []:=(g6.lay _).put' (.inr g6.next)
 have e2:=q0X (n:=4) (q0f m1 (.cells [.str [],.int .i64 0,.int .i64 0,.int .u64 0] false)) rfl g4 g5;have a4:∀i:Nat,ld1 ((m1.lay (.cells [.str [],.int .i64 0,.int .i64 0,.int .u64 0] false)).put m1.next (some (.cells v false))) (.ptr (some ⟨b,i⟩))=[.int .i64 st.most,.ptr (some ⟨tp,0⟩),.ptr (some ⟨tq,0⟩),.ptr (some ⟨ta,0⟩),.int .u64 st.latest][i]?:=fun i=>q0g (f2.get h1 (by simp))
 unfold q6e;simp only[j7x (H:=H15) rfl,T.f42,p1,q1,pB,p2,q0o,AV.cells,Nat.reduceAdd,Nat.reduceLeDiff,nnA,q0d,q0a,unA,q0E,a3,g1,e2,j2d name hn];cases hb:q3Y name with
 |false=>
  simp only[xbf,if_true];exact⟨_,_,rfl,h.q0h f2,f2.any _,fun c hc=>.inl hc⟩
 |true=>
  simp only[xbt,Bool.true_eq_false,if_false];by_cases hsc:18<scale
  ·simp only[dt hsc,if_pos hsc];exact⟨_,_,rfl,h.q0h f2,f2.any _,fun c hc=>.inl hc⟩
  ·simp only[df hsc,if_neg hsc];cases hk:q0O q0c name (st.q0b.map (·.name)) with
   |true=>
    simp only[if_true];exact⟨_,_,rfl,h.q0h f2,f2.any _,fun c hc=>.inl hc⟩
   |false=>
    obtain⟨m3,FP',p1',p2',p3',p4'⟩:=z3Q (h2.frame f2 (by simp)) hs (by simp;omega) name (v:=(q0q.mk name scale ⟨0,0⟩).cells) rfl rfl;have e4:(AV.agg [.str name,.int .i64 scale,.int .i64 0,.int .u64 0])=.agg (q0q.mk name scale ⟨0,0⟩).cells:=rfl;simp only[j7x (H:=H15) rfl,q0E,a4,wrap_i64 (n:=scale) (by omega) (by omega),e4,p1',xbq,if_false,hk,Bool.false_or,xlm]
    simp only[z7V,z7W,hk,xbq,if_false,xlm]at p2';by_cases hf:8<=st.q0b.length
    ·rw[if_neg (show ¬((st.q0b.length:Int)<8) by omega),if_neg (show ¬((st.q0b.length:Int)<8) by omega)]at p2';simp only[df (show ¬((st.q0b.length:Int)<8) by omega),xbf,if_pos hf];obtain⟨F',q1,q2,q3⟩:=q0l.q0b (ps:=st.q0b) (f2.get h1 (by simp)) (h2.frame f2 (by simp)) (h3.frame f2 (by simp)) (h4.frame f2 (by simp)) h5 h6 h7 h8 h9 h10 p3' p2' p4';exact⟨_,F',rfl,q1,(f2.any _).step q2 (fun c hc=>.inl hc),fun c hc=>(q3 c hc).imp id (fun h=>xnt0 f2.next h)⟩
    ·rw[if_pos (show ((st.q0b.length:Int)<8) by omega),if_pos (show ((st.q0b.length:Int)<8) by omega)]at p2';simp only[dt (show ((st.q0b.length:Int)<8) by omega),xbt,if_neg hf,j4W (H:=H15),T.a1a,wp];obtain⟨F',q1,q2,q3⟩:=q0l.q0b (ps:=q2O (lb q0c name (st.q0b.map (·.name))) ⟨name,scale,⟨0,0⟩⟩ st.q0b) (f2.get h1 (by simp)) (h2.frame f2 (by simp)) (h3.frame f2 (by simp)) (h4.frame f2 (by simp)) h5 h6 h7 h8 h9 h10 p3' (by rw[q2K,q2K];exact p2') p4'
     exact⟨_,F',rfl,q1,(f2.any _).step q2 (fun c hc=>.inl hc),fun c hc=>(q3 c hc).imp id (fun h=>xnt0 f2.next h)⟩
theorem a3l {ks:List Int} {vs:List (List AV)} {most:Int} {t:Nat} (h:TabAt (.int .u64) 4 m t ks vs most F):run E15 (.fn 90) [.ptr (some ⟨t,0⟩)] m=some (.int .i64 ks.length,m):=by
 obtain⟨⟨sk,sv,kb,vb,h1,h2,h3,h4,h5,h6,rfl⟩,h7⟩:=h;obtain⟨a,sz,cap,ex,rfl⟩:=h2.j6i;have a3:∀i:Nat,ld1 m (.ptr (some ⟨t,i⟩))=[.sl a sz ks.length cap ex,sv,.int .i64 most][i]?:=fun i=>q0g h1
 simp only[a6c (H:=H15) rfl,T.f90,p1,q1,nnA,q0e,a3]
theorem a3s (h:q0l m b st F) (hs:Srt q0c (st.q0b.map (·.name))) (hl:st.q0b.length<=8) (hsa:Srt q0m (st.q0p.map (·.id))) (hla:st.q0p.length<=64) (hid:∀a∈st.q0p,a.id<=st.latest) (h0:0<=st.latest)
  (name:List UInt8) :
  ∃m' F',run E15 (.fn 43) [.ptr (some ⟨b,0⟩),.str name] m=some (.tup [.int .u64 (q5a st name).1,.int .i64 (q5a st name).2.1],m')/\q0l m' b (q5a st name).2.2 F'/\Fr m m' F/\∀c,c∈F'->c∈F\/m.next<=c:=by
 obtain⟨tp,tq,ta,FP,FQ,FA,h1,h2,h3,h4,h5,h6,h7,h8,h9,h10,rfl⟩:=h.ex;obtain⟨v,m1,g1,g2,g3,g4,g5,g6⟩:=z3v h2 hs (by simp;omega) name;have a3:∀i:Nat,ld1 m (.ptr (some ⟨b,i⟩))=[.int .i64 st.most,.ptr (some ⟨tp,0⟩),.ptr (some ⟨tq,0⟩),.ptr (some ⟨ta,0⟩),.int .u64 st.latest][i]?:=fun i=>q0g h1
 have f2:Fr m ((m1.lay (.cells [.str [],.int .i64 0,.int .i64 0,.int .u64 0] false)).put m1.next (some (.cells v false))) []:=(g6.lay _).put' (.inr g6.next)
 have e2:=q0X (n:=4) (q0f m1 (.cells [.str [],.int .i64 0,.int .i64 0,.int .u64 0] false)) rfl g4 g5;obtain⟨m2,hm2⟩:∃m2,m2=(m1.lay (.cells [.str [],.int .i64 0,.int .i64 0,.int .u64 0] false)).put m1.next (some (.cells v false)):=⟨_,rfl⟩
 rw[<-hm2]at f2 e2;have b1:=f2.get h1 (by simp);have b2:=h2.frame f2 (by simp);have b3:=h3.frame f2 (by simp);have b4:=h4.frame f2 (by simp);have a4:∀i:Nat,ld1 m2 (.ptr (some ⟨b,i⟩))=[.int .i64 st.most,.ptr (some ⟨tp,0⟩),.ptr (some ⟨tq,0⟩),.ptr (some ⟨ta,0⟩),.int .u64 st.latest][i]?:=fun i=>q0g b1
 unfold q5a;simp only[a5A (H:=H15) rfl,T.f43,p1,q1,pB,nnA,q0d,q0a,unA,q0F,a3,g1,e2];cases hk:q0O q0c name (st.q0b.map (·.name)) with
 |false=>
  simp only[xbf,if_true];exact⟨_,_,rfl,h.q0h f2,f2.any _,fun c hc=>.inl hc⟩
 |true=>
  simp only[xbt,Bool.true_eq_false,if_false];simp only[j4X (H:=H15),T.a1b,p1,q1,p2,nnA,q0a,ifV,q0e,a4,a3l b4,xlm,if_true];by_cases hm:st.most<=(st.q0p.length:Int)
  ·simp only[hm,true_or,if_true];exact⟨_,_,rfl,h.q0h f2,f2.any _,fun c hc=>.inl hc⟩
  ·simp only[hm,false_or];by_cases hlt:72057594037927935<=st.latest
   ·simp only[dt hlt,if_pos hlt];exact⟨_,_,rfl,h.q0h f2,f2.any _,fun c hc=>.inl hc⟩
   ·simp only[df hlt,if_neg hlt,decide_false];obtain⟨m3,hm3⟩:∃m3,m3=m2.put b (some (.cells [.int .i64 st.most,.ptr (some ⟨tp,0⟩),.ptr (some ⟨tq,0⟩),.ptr (some ⟨ta,0⟩),.int .u64 (st.latest+1)] false)):=⟨_,rfl⟩;obtain⟨c1,c2,c3,c4,c5,c6⟩:=q0l.latest (st.latest+1) b1 b2 b3 b4 h5 h6 h7 hm3;have a5:∀i:Nat,ld1 m3 (.ptr (some ⟨b,i⟩))=[.int .i64 st.most,.ptr (some ⟨tp,0⟩),.ptr (some ⟨tq,0⟩),.ptr (some ⟨ta,0⟩),.int .u64 (st.latest+1)][i]?:=fun i=>q0g c3
    have hall:∀x∈st.q0p.map (·.id),q0m x (st.latest+1)=true:=by
     intro x hx;obtain⟨a,ha,rfl⟩:=List.mem_map.1 hx;have:=hid a ha;simp[q0m];omega
    obtain⟨m4,FA',d1,d2,d3,d4⟩:=z3P c6 hsa (by simp;omega) (st.latest+1) (v:=(q1b.mk (st.latest+1) name ⟨0,0⟩).cells) rfl rfl;have e4:(AV.agg [.int .u64 (st.latest+1),.str name,.int .i64 0,.int .u64 0])=.agg (q1b.mk (st.latest+1) name ⟨0,0⟩).cells:=rfl;have hlt':((st.q0p.length:Nat):Int)<st.most:=by omega
    simp only[z7V,z7W,q96 hall,z1W hall,xbq,if_false,xlm,if_pos hlt']at d2;have e5:q2O st.q0p.length (st.latest+1) (st.q0p.map (·.id))=(st.q0p++[q1b.mk (st.latest+1) name ⟨0,0⟩]).map (·.id):=by
     have:=q3F (st.latest+1) (st.q0p.map (·.id));simp only[xlm]at this;rw[this];simp
    have e6:q2O st.q0p.length (q1b.mk (st.latest+1) name ⟨0,0⟩).cells (st.q0p.map (·.cells))=(st.q0p++[q1b.mk (st.latest+1) name ⟨0,0⟩]).map (·.cells):=by
     have:=q3F (q1b.mk (st.latest+1) name ⟨0,0⟩).cells (st.q0p.map (·.cells));simp only[xlm]at this;rw[this];simp
    rw[e5,e6]at d2;obtain⟨F',q1,q2,q3⟩:=q0l.q0p (st:={st with latest:=st.latest+1}) c3 c4 c5 c6 h5 h6 h7 h8 h9 h10 d3 d2 d4
    have f3:Fr m m3 (b::(FP++FQ++FA)):=(f2.any _).step c2 (by simp);have f4:Fr m m4 (b::(FP++FQ++FA)):=f3.step q2 (fun c hc=>.inl hc)
    have a6:∀i:Nat,ld1 m4 (.ptr (some ⟨b,i⟩))=[.int .i64 st.most,.ptr (some ⟨tp,0⟩),.ptr (some ⟨tq,0⟩),.ptr (some ⟨ta,0⟩),.int .u64 (st.latest+1)][i]?:=fun i=>q0g (d3.get c3 h7)
    refine⟨m4,F',?_,q1,f4,fun c hc=>(q3 c hc).imp id (fun h=>xnt0 f3.next h)⟩
    simp only[j4Y (H:=H15),T.a1c,p1,p2,q0o,AV.cells,Nat.reduceAdd,Nat.reduceLeDiff,nnA,q0E,a4,wrap_u64 (x:=st.latest+1) (by omega) (by omega),c1,a5,e4,d1,a6]
theorem b0I (m:Mem) {most:Int} (h1:1<=most) (h2:most<=64) :
  ∃b m' F,run E15 (.fn 38) [.int .i64 most] m=some (.tup [.ptr (some ⟨b,0⟩),.int .i64 0],m')/\q0l m' b ⟨[],[],[],0,most⟩ F/\Fr m m' []/\∀c,c∈F->m.next<=c:=by
 obtain⟨m1,hm1⟩:∃m1,m1=m.lay (.cells [.int .i64 most,.ptr none,.ptr none,.ptr none,.int .u64 0] false):=⟨_,rfl⟩;have b1:m1.get m.next=some (.cells [.int .i64 most,.ptr none,.ptr none,.ptr none,.int .u64 0] false):=by rw[hm1];exact q0f _ _
 have n1:m1.next=m.next+1:=by rw[hm1];rfl
 have f1:Fr m m1 []:=by rw[hm1];exact(Fr.refl m).lay _
 obtain⟨m2',p1,p2⟩:=a3p m1 (most:=8) (by omega) (by omega);have b2:=(show m2'.get m.next=m1.get m.next by rw[p2,q3U (by omega)]).trans b1
 have s2:=q1l (v:=.ptr (some ⟨m1.next,0⟩)) (o:=1) (n:=1) b2 rfl rfl (by simp)
 obtain⟨m2,hm2⟩:∃m2,m2=m2'.put m.next (some (.cells [.int .i64 most,.ptr (some ⟨m1.next,0⟩),.ptr none,.ptr none,.int .u64 0] false)):=⟨_,rfl⟩
 have s2':stV m2' (.ptr (some ⟨m.next,1⟩)) (.ptr (some ⟨m1.next,0⟩)) 1=some m2:=by rw[hm2];simpa using s2
 have n2:m2.next=m.next+2:=by rw[hm2,p2];simp[n1]
 have b2':m2.get m.next=some (.cells [.int .i64 most,.ptr (some ⟨m1.next,0⟩),.ptr none,.ptr none,.int .u64 0] false):=by rw[hm2];exact q0v b2
 have t2:m2.get m1.next=some (.cells [.sl none 0 0 0 true,.sl none 0 0 0 true,.int .i64 8] false):=by rw[hm2,q1U (by omega),p2];exact q0f _ _
 have f2:Fr m m2 []:=by rw[hm2,p2];exact(f1.lay _).put' (.inr (xnr _))
 obtain⟨m3',q1,q2⟩:=a3q m2 (most:=64) (by omega) (by omega);have b3:=(show m3'.get m.next=m2.get m.next by rw[q2,q3U (by omega)]).trans b2'
 have s3:=q1l (v:=.ptr (some ⟨m2.next,0⟩)) (o:=2) (n:=1) b3 rfl rfl (by simp)
 obtain⟨m3,hm3⟩:∃m3,m3=m3'.put m.next (some (.cells [.int .i64 most,.ptr (some ⟨m1.next,0⟩),.ptr (some ⟨m2.next,0⟩),.ptr none,.int .u64 0] false)):=⟨_,rfl⟩
 have s3':stV m3' (.ptr (some ⟨m.next,2⟩)) (.ptr (some ⟨m2.next,0⟩)) 1=some m3:=by rw[hm3];simpa using s3
 have n3:m3.next=m.next+3:=by rw[hm3,q2];simp[n2]
 have b3':m3.get m.next=some (.cells [.int .i64 most,.ptr (some ⟨m1.next,0⟩),.ptr (some ⟨m2.next,0⟩),.ptr none,.int .u64 0] false):=by rw[hm3];exact q0v b3
 have t3:m3.get m2.next=some (.cells [.sl none 0 0 0 true,.sl none 0 0 0 true,.int .i64 64] false):=by rw[hm3,q1U (by omega),q2];exact q0f _ _
 have t23:m3.get m1.next=some (.cells [.sl none 0 0 0 true,.sl none 0 0 0 true,.int .i64 8] false):=by rw[hm3,q1U (by omega),q2,q3U (by omega)];exact t2
 have f3:Fr m m3 []:=by rw[hm3,q2];exact(f2.lay _).put' (.inr (xnr _))
 obtain⟨m4',r1,r2⟩:=a3o m3 (most:=most) (by omega) (by omega);have b4:=(show m4'.get m.next=m3.get m.next by rw[r2,q3U (by omega)]).trans b3'
 have s4:=q1l (v:=.ptr (some ⟨m3.next,0⟩)) (o:=3) (n:=1) b4 rfl rfl (by simp)
 obtain⟨m4,hm4⟩:∃m4,m4=m4'.put m.next (some (.cells [.int .i64 most,.ptr (some ⟨m1.next,0⟩),.ptr (some ⟨m2.next,0⟩),.ptr (some ⟨m3.next,0⟩),.int .u64 0] false)):=⟨_,rfl⟩
 have s4':stV m4' (.ptr (some ⟨m.next,3⟩)) (.ptr (some ⟨m3.next,0⟩)) 1=some m4:=by rw[hm4];simpa using s4
 have b4':m4.get m.next=some (.cells [.int .i64 most,.ptr (some ⟨m1.next,0⟩),.ptr (some ⟨m2.next,0⟩),.ptr (some ⟨m3.next,0⟩),.int .u64 0] false):=by rw[hm4];exact q0v b4
 have t4:m4.get m3.next=some (.cells [.sl none 0 0 0 true,.sl none 0 0 0 true,.int .i64 most] false):=by rw[hm4,q1U (by omega),r2];exact q0f _ _
 have t34:m4.get m2.next=some (.cells [.sl none 0 0 0 true,.sl none 0 0 0 true,.int .i64 64] false):=by rw[hm4,q1U (by omega),r2,q3U (by omega)];exact t3
 have t24:m4.get m1.next=some (.cells [.sl none 0 0 0 true,.sl none 0 0 0 true,.int .i64 8] false):=by rw[hm4,q1U (by omega),r2,q3U (by omega)];exact t23
 have f4:Fr m m4 []:=by rw[hm4,r2];exact(f3.lay _).put' (.inr (xnr _))
 refine⟨m.next,m4,m.next::([m1.next]++[m2.next]++[m3.next]),?_,⟨m1.next,m2.next,m3.next,_,_,_,b4',TabAt.new t24,TabAt.new t34,TabAt.new t4,by simp;omega,by simp;omega,by simp;omega,?_,?_,?_,rfl⟩,f4,?_⟩
 ·simp only[a5z (H:=H15) rfl,T.f38,q0a,ifV,wp,df (show ¬most<1 by omega),df (show ¬(64:Int)<most by omega)];simp only[j4T (H:=H15),T.a08,p1,q0o,AV.cells,Nat.reduceAdd,Nat.reduceLeDiff,q0K,nnA,q0d,q0E,List.all_cons,List.all_nil,AV.one,<-hm1,s2',q1,s3',r1,s4']
 ·intro c h h';simp only[xms]at h h';omega
 ·intro c h h';simp only[xms]at h h';omega
 ·intro c h h';simp only[xms]at h h';omega
 ·intro c hc;simp only[xmk0,xma,List.not_mem_nil,or_false]at hc;omega
end
end
end Go.Proofs.YtlginbmjiecglaaGreatDoor
namespace Go.Abs
section
open Go
def z6y:q0q:=⟨[],0,⟨0,0⟩⟩
def j2g:q1b:=⟨0,[],⟨0,0⟩⟩
def q8C:q0N:=⟨[],[],⟨0,0⟩,0,⟨0,0⟩,⟨0,0⟩⟩
def LSt.q2o (st:LSt) (k:List UInt8):Option q0q:=if q0O q0c k (st.q0b.map (·.name))=true then st.q0b[lb q0c k (st.q0b.map (·.name))]? else none
def LSt.z1L (st:LSt) (k:List UInt8):Option q0N:=if q0O q0c k (st.pairs.map (·.key))=true then st.pairs[lb q0c k (st.pairs.map (·.key))]? else none
def LSt.q7U (st:LSt) (k:Int):Option q1b:=if q0O q0m k (st.q0p.map (·.id))=true then st.q0p[lb q0m k (st.q0p.map (·.id))]? else none
theorem j1J {κ:Type} [DecidableEq κ] {lt:κ->κ->Bool} {k:κ} {ks:List κ} (h:q0O lt k ks=true):lb lt k ks<ks.length:=by
 have:ks[lb lt k ks]? = some k:=by simpa[q0O]using h
 exact(xgi.1 this).1
theorem q3T {κ:Type} [DecidableEq κ] {lt:κ->κ->Bool} {k:κ} {ks:List κ} (h:q0O lt k ks=true):ks[lb lt k ks]? = some k:=by simpa[q0O]using h
theorem LSt.q1p {st:LSt} {k:List UInt8} (h:q0O q0c k (st.q0b.map (·.name))=true):∃p,st.q2o k=some p/\p.name=k/\st.q0b[lb q0c k (st.q0b.map (·.name))]? = some p/\p∈st.q0b:=by
 have hl:=j1J h;rw[xlm]at hl;have ha:=q3T h;rw[List.getElem?_map,xgq hl]at ha;exact⟨_,by unfold LSt.q2o;rw[if_pos h,xgq hl],by simpa using ha,xgq hl,List.getElem_mem hl⟩
theorem LSt.q1K {st:LSt} {k:List UInt8} (h:q0O q0c k (st.q0b.map (·.name))=false):st.q2o k=none:=by unfold LSt.q2o;rw[if_neg (by rw[h];decide)]
theorem LSt.q2V {st:LSt} {k:List UInt8} (h:q0O q0c k (st.pairs.map (·.key))=true):∃p,st.z1L k=some p/\p.key=k/\st.pairs[lb q0c k (st.pairs.map (·.key))]? = some p/\p∈st.pairs:=by
 have hl:=j1J h;rw[xlm]at hl;have ha:=q3T h;rw[List.getElem?_map,xgq hl]at ha;exact⟨_,by unfold LSt.z1L;rw[if_pos h,xgq hl],by simpa using ha,xgq hl,List.getElem_mem hl⟩
theorem LSt.q3o {st:LSt} {k:List UInt8} (h:q0O q0c k (st.pairs.map (·.key))=false):st.z1L k=none:=by unfold LSt.z1L;rw[if_neg (by rw[h];decide)]
theorem LSt.q1D {st:LSt} {k:Int} (h:q0O q0m k (st.q0p.map (·.id))=true):∃p,st.q7U k=some p/\p.id=k/\st.q0p[lb q0m k (st.q0p.map (·.id))]? = some p/\p∈st.q0p:=by
 have hl:=j1J h;rw[xlm]at hl;have ha:=q3T h;rw[List.getElem?_map,xgq hl]at ha;exact⟨_,by unfold LSt.q7U;rw[if_pos h,xgq hl],by simpa using ha,xgq hl,List.getElem_mem hl⟩
theorem LSt.q3n {st:LSt} {k:Int} (h:q0O q0m k (st.q0p.map (·.id))=false):st.q7U k=none:=by unfold LSt.q7U;rw[if_neg (by rw[h];decide)]
theorem q0q.flat (p:q0q):AV.lts 0 p.cells:=by simp[q0q.cells,AV.lts,AV.lt]
theorem q0N.flat (p:q0N):AV.lts 0 p.cells:=by simp[q0N.cells,AV.lts,AV.lt]
theorem q1b.flat (p:q1b):AV.lts 0 p.cells:=by simp[q1b.cells,AV.lts,AV.lt]
theorem Fr.same {m m2:Mem} (h:m.next<=m2.next) (h':∀b,m2.get b=m.get b):Fr m m2 []:=⟨h,fun c _ _=>h' c⟩
def q5W (w:Wd) (s:Int):Bool:=decide ((0<=s/\s<=18)/\0<w.val)
def LSt.of (st:LSt) (id:Int):q1b×q0q×Int:=
 match st.q7U id with
 |none=>(j2g,z6y,40)
 |some a=>(a,(st.q2o a.q1S).getD z6y,0)
def q1W (p:q0q) (w:Wd) (s:Int):Int:=if s≠p.scale then 21 else if w.val<=0 then 43 else 0
section
variable {b n:Nat}
theorem q1d (h:b<n):(b=n)=False:=by simp;omega
theorem q3k (h:b<n):(b=n+1)=False:=by simp;omega
theorem q6B (h:b<n):(b=n+1+1)=False:=by simp;omega
theorem z2D (h:b<n):(b=n+1+1+1)=False:=by simp;omega
theorem z2E (h:b<n):(b=n+1+1+1+1)=False:=by simp;omega
theorem z2F (h:b<n):(b=n+1+1+1+1+1)=False:=by simp;omega
theorem z2G (h:b<n):(b=n+1+1+1+1+1+1)=False:=by simp;omega
theorem z2H (h:b<n):(b=n+1+1+1+1+1+1+1)=False:=by simp;omega
theorem z2I (h:b<n):(b=n+1+1+1+1+1+1+1+1)=False:=by simp;omega
theorem z2J (h:b<n):(b=n+1+1+1+1+1+1+1+1+1)=False:=by simp;omega
theorem q4L (h:b<n):(b=n+1+1+1+1+1+1+1+1+1+1)=False:=by simp;omega
theorem q4M (h:b<n):(b=n+1+1+1+1+1+1+1+1+1+1+1)=False:=by simp;omega
theorem q4N (h:b<n):(b=n+1+1+1+1+1+1+1+1+1+1+1+1)=False:=by simp;omega
theorem q4O (h:b<n):(b=n+1+1+1+1+1+1+1+1+1+1+1+1+1)=False:=by simp;omega
theorem q4P (h:b<n):(b=n+1+1+1+1+1+1+1+1+1+1+1+1+1+1)=False:=by simp;omega
end
theorem nn9 (n:Nat):(n=n+1+1+1+1+1+1+1+1+1)=False:=by simp;omega
theorem b2t (n:Nat):(n=n+1+1+1+1+1+1+1+1+1+1)=False:=by simp;omega
theorem b2u (n:Nat):(n=n+1+1+1+1+1+1+1+1+1+1+1)=False:=by simp;omega
theorem b2v (n:Nat):(n=n+1+1+1+1+1+1+1+1+1+1+1+1)=False:=by simp;omega
theorem b2w (n:Nat):(n=n+1+1+1+1+1+1+1+1+1+1+1+1+1)=False:=by simp;omega
theorem b2x (n:Nat):(n=n+1+1+1+1+1+1+1+1+1+1+1+1+1+1)=False:=by simp;omega
theorem frl {m M:Mem} {S:List Nat} (h:Fr m M S) (v:Blk):Fr m (M.lay v) S:=h.lay v
structure LWf (st:LSt):Prop where
 sp:Srt q0c (st.q0b.map (·.name))
 lp:st.q0b.length<=8
 sq:Srt q0c (st.pairs.map (·.key))
 lq:st.pairs.length<=64
 sa:Srt q0m (st.q0p.map (·.id))
 la:st.q0p.length<=64
 okp:∀p∈st.q0b,0<=p.scale/\p.scale<=18/\p.out.ok/\q3Y p.name=true
 okq:∀q∈st.pairs,q.rate.ok/\q5W q.rate q.q1h=true/\q.inx.ok/\q.q18.ok/\(st.q2o q.x).isSome=true/\(st.q2o q.y).isSome=true
 oka:∀a∈st.q0p,a.bal.ok/\0<=a.id/\a.id<=st.latest/\(st.q2o a.q1S).isSome=true
 lat:0<=st.latest/\st.latest<=72057594037927935
end
section
open Go
theorem q1V {α:Type} {l:List α} {i:Nat} {x:α} (h:l[i]? = some x):l.set i x=l:=by
 obtain⟨hi,rfl⟩:=xgi.1 h;exact List.set_getElem_self hi
def LSt.iA (st:LSt) (k:Int):Nat:=lb q0m k (st.q0p.map (·.id))
def LSt.iP (st:LSt) (k:List UInt8):Nat:=lb q0c k (st.q0b.map (·.name))
def LSt.iQ (st:LSt) (k:List UInt8):Nat:=lb q0c k (st.pairs.map (·.key))
def LSt.q14 (st:LSt) (a:q1b):LSt:={st with q0p:=st.q0p.set (st.iA a.id) a}
def LSt.z2K (st:LSt) (p:q0q):LSt:={st with q0b:=st.q0b.set (st.iP p.name) p}
def LSt.q5b (st:LSt) (q:q0N):LSt:=
 {st with pairs:=if q0O q0c q.key (st.pairs.map (·.key))=true then st.pairs.set (st.iQ q.key) q else if st.pairs.length<64 then q2O (st.iQ q.key) q st.pairs else st.pairs}
theorem LSt.q3d {st:LSt} {a:q1b} (h:q0O q0m a.id (st.q0p.map (·.id))=true):(st.q14 a).q0p.map (·.id)=st.q0p.map (·.id):=by
 unfold LSt.q14 LSt.iA;rw[List.map_set];exact q1V (q3T h)
theorem LSt.z7N {st:LSt} {p:q0q} (h:q0O q0c p.name (st.q0b.map (·.name))=true):(st.z2K p).q0b.map (·.name)=st.q0b.map (·.name):=by
 unfold LSt.z2K LSt.iP;rw[List.map_set];exact q1V (q3T h)
def q2B (x y w:Wd):Bool:=q0Q (x.val-w.val)&&q0Q (y.val+w.val)
def q1N (st:LSt) (id:Int) (w:Wd) (s:Int):Int×LSt:=
 let o:=st.of id
 if o.2.2≠0 then (o.2.2,st) else
 if q1W o.2.1 w s≠0 then (q1W o.2.1 w s,st) else
 if q2B o.2.1.out o.1.bal w=true then (0,(st.q14 {o.1 with bal:=Wd.of (o.1.bal.val+w.val)}).z2K {o.2.1 with out:=Wd.of (o.2.1.out.val-w.val)}) else (20,st)
def q1y (st:LSt) (id:Int) (w:Wd) (s:Int):Int×LSt:=
 let o:=st.of id
 if o.2.2≠0 then (o.2.2,st) else
 if q1W o.2.1 w s≠0 then (q1W o.2.1 w s,st) else
 if o.1.bal.val<w.val then (42,st) else
 if q2B o.1.bal o.2.1.out w=true then (0,(st.q14 {o.1 with bal:=Wd.of (o.1.bal.val-w.val)}).z2K {o.2.1 with out:=Wd.of (o.2.1.out.val+w.val)}) else (20,st)
def q1F (st:LSt) (a b:Int) (w:Wd) (s:Int):Int×LSt:=
 let o:=st.of a
 let p:=st.of b
 if o.2.2≠0 then (o.2.2,st) else
 if p.2.2≠0 then (p.2.2,st) else
 if a=b then (45,st) else
 if o.2.1.name≠p.2.1.name then (41,st) else
 if q1W o.2.1 w s≠0 then (q1W o.2.1 w s,st) else
 if o.1.bal.val<w.val then (42,st) else
 if q2B o.1.bal p.1.bal w=true then (0,(st.q14 {o.1 with bal:=Wd.of (o.1.bal.val-w.val)}).q14 {p.1 with bal:=Wd.of (p.1.bal.val+w.val)}) else (20,st)
def q4H (w:Wd) (s:Int):Int:=if 0<=s/\s<=18 then (if 0<w.val then 0 else 44) else 21
def q6r (st:LSt) (x y:List UInt8) (w:Wd) (s:Int):Int×LSt:=
 if (st.q2o x).isSome=false\/(st.q2o y).isSome=false then (41,st) else
 if x=y then (45,st) else
 if q4H w s≠0 then (q4H w s,st) else
 (0,st.q5b {(st.z1L (x++y)).getD q8C with x:=x,y:=y,rate:=w,q1h:=s})
def q0D (st:LSt) (id:Int):Wd×Int×Int:=
 let o:=st.of id
 if o.2.2≠0 then (⟨0,0⟩,0,o.2.2) else (o.1.bal,o.2.1.scale,0)
def q0U (st:LSt) (x:List UInt8):Wd×Int×Int:=
 match st.q2o x with
 |none=>(⟨0,0⟩,0,41)
 |some p=>(p.out,p.scale,0)
def q0T (st:LSt) (x y:List UInt8):Wd×Int×Int:=
 if (st.q2o x).isSome=false\/(st.q2o y).isSome=false then (⟨0,0⟩,0,41) else
 match st.z1L (x++y) with
 |none=>(⟨0,0⟩,0,44)
 |some q=>(q.inx,((st.q2o x).getD z6y).scale,0)
theorem LSt.q1f {st:LSt} (w:LWf st) (id:Int):(st.of id=(j2g,z6y,40)/\st.q7U id=none)\/
  ∃a p,st.of id=(a,p,0)/\st.q7U id=some a/\st.q2o a.q1S=some p/\a.id=id/\q0O q0m id (st.q0p.map (·.id))=true/\p.name=a.q1S/\q0O q0c p.name (st.q0b.map (·.name))=true/\a∈st.q0p/\p∈st.q0b:=by
 cases hk:q0O q0m id (st.q0p.map (·.id)) with
 |false=>
  have:=LSt.q3n hk;exact .inl ⟨by unfold LSt.of;rw[this],this⟩
 |true=>
  obtain⟨a,a1,a2,a3,a4⟩:=LSt.q1D hk;have h1:=(w.oka a a4).2.2.2;cases hp:q0O q0c a.q1S (st.q0b.map (·.name)) with
  |false=>rw[LSt.q1K hp]at h1;simp at h1
  |true=>
   obtain⟨p,p1,p2,p3,p4⟩:=LSt.q1p hp;exact .inr ⟨a,p,by unfold LSt.of;rw[a1];simp only[p1];rfl,a1,p1,a2,rfl,p2,by rw[p2];exact hp,a4,p4⟩
theorem q1O {n:Int}:decide ((Wd.res n).2=0)=q0Q n:=by
 unfold Wd.res;cases h:q0Q n<;>simp
noncomputable def q4a (E:Env) (S R:List FuncId):FuncId->Option (List AV->Mem->Abs.R):=fun f=>if f∈S then some (q0y E f) else if f∈R then some (run E (.fn f)) else E.H f
theorem q2N {E:Env} (hE:q1u E) (S R:List FuncId):q1u {E with H:=q4a E S R} where
 mixed:=hE.mixed
 body:=hE.body
 hook:=fun f h e args m r m' hr=>by
  simp only[q4a]at e;split at e
  ·cases e;exact z4v hE args m r m' hr
  ·split at e
   ·cases e;exact q2C hE (.fn f) args m r m' hr
   ·exact hE.hook f h e args m r m' hr
end
end Go.Abs
namespace Go.Proofs.YtlginbmjiecglaaGreatDoor
section
set_option maxRecDepth 4000
open Go Go.Abs
def S17:List FuncId:=[89,108,109]
def R17:List FuncId:=[46,39,41,40,38,42,43]
noncomputable def H17:FuncId->Option (List AV->Mem->R):=q4a E15 S17 R17
noncomputable abbrev E17:Env:=T.EH H17
theorem a4H:q1u E17:=q2N a4G S17 R17
section
variable {H:FuncId->Option (List AV->Mem->R)} {m:Mem} {t:Nat} {st:LSt} {most:Int} {F:List Nat}
theorem q6j (h:H 89=some (q0y E15 89)) (w:LWf st) (ht:TabAt .str 4 m t (st.q0b.map (·.name)) (st.q0b.map (·.cells)) most F) (k:List UInt8) (M:Mem) (hM:Fr m M []) :
  run (T.EH H) (.fn 89) [.ptr (some ⟨t,0⟩),.str k] M=some (.tup [.agg ((st.q2o k).getD z6y).cells,.bool (st.q2o k).isSome],M):=by
 refine q0r h (by simp[AV.flat,AV.lt,AV.lts,q0q.flat]) fun m2 h1 h2=>?_
 obtain⟨v,m',g1,g2,g3,g4,g5,g6⟩:=z3v ((ht.frame hM (by simp)).frame (Fr.same h1 h2) (by simp)) w.sp (by have:=w.lp;simp;omega) k;refine⟨m',?_,g6⟩;rw[g1];cases hk:q0O q0c k (st.q0b.map (·.name)) with
 |true=>
  obtain⟨p,p1,p2,p3,p4⟩:=LSt.q1p hk;have:=g2 hk;rw[List.getElem?_map,p3]at this;rw[p1];simp only[xom,xoi]at this;rw[<-this];rfl
 |false=>
  rw[LSt.q1K hk,g3 hk];rfl
theorem a1P (h:H 108=some (q0y E15 108)) (w:LWf st) (ht:TabAt (.int .u64) 4 m t (st.q0p.map (·.id)) (st.q0p.map (·.cells)) most F) (k:Int) (M:Mem) (hM:Fr m M []) :
  run (T.EH H) (.fn 108) [.ptr (some ⟨t,0⟩),.int .u64 k] M=some (.tup [.agg ((st.q7U k).getD j2g).cells,.bool (st.q7U k).isSome],M):=by
 refine q0r h (by simp[AV.flat,AV.lt,AV.lts,q1b.flat]) fun m2 h1 h2=>?_
 obtain⟨v,m',g1,g2,g3,g4,g5,g6⟩:=a1L ((ht.frame hM (by simp)).frame (Fr.same h1 h2) (by simp)) w.sa (by have:=w.la;simp;omega) k;refine⟨m',?_,g6⟩;rw[g1];cases hk:q0O q0m k (st.q0p.map (·.id)) with
 |true=>
  obtain⟨p,p1,p2,p3,p4⟩:=LSt.q1D hk;have:=g2 hk;rw[List.getElem?_map,p3]at this;rw[p1];simp only[xom,xoi]at this;rw[<-this];rfl
 |false=>
  rw[LSt.q3n hk,g3 hk];rfl
theorem z3x (h:H 109=some (q0y E15 109)) (w:LWf st) (ht:TabAt .str 9 m t (st.pairs.map (·.key)) (st.pairs.map (·.cells)) most F) (k:List UInt8) (M:Mem) (hM:Fr m M []) :
  run (T.EH H) (.fn 109) [.ptr (some ⟨t,0⟩),.str k] M=some (.tup [.agg ((st.z1L k).getD q8C).cells,.bool (st.z1L k).isSome],M):=by
 refine q0r h (by simp[AV.flat,AV.lt,AV.lts,q0N.flat]) fun m2 h1 h2=>?_
 obtain⟨v,m',g1,g2,g3,g4,g5,g6⟩:=a1O ((ht.frame hM (by simp)).frame (Fr.same h1 h2) (by simp)) w.sq (by have:=w.lq;simp;omega) k;refine⟨m',?_,g6⟩;rw[g1];cases hk:q0O q0c k (st.pairs.map (·.key)) with
 |true=>
  obtain⟨p,p1,p2,p3,p4⟩:=LSt.q2V hk;have:=g2 hk;rw[List.getElem?_map,p3]at this;rw[p1];simp only[xom,xoi]at this;rw[<-this];rfl
 |false=>
  rw[LSt.q3o hk,g3 hk];rfl
end
theorem q4e {H:FuncId->Option (List AV->Mem->R)} {f:FuncId} (h:H f=some (run E15 (.fn f))) (xs:List AV) (m:Mem):run (T.EH H) (.fn f) xs m=run E15 (.fn f) xs m:=q08 h xs m
section
variable {m:Mem} {b:Nat} {st:LSt} {F:List Nat}
theorem b0K (h:q0l m b st F) (w:LWf st) (id:Int):Res m (run E17 (.fn 53) [.ptr (some ⟨b,0⟩),.int .u64 id] m) (.tup [.agg (st.of id).1.cells,.agg (st.of id).2.1.cells,.int .i64 (st.of id).2.2]):=by
 obtain⟨tp,tq,ta,FP,FQ,FA,h1,h2,h3,h4,h5,h6,h7,h8,h9,h10,rfl⟩:=h.ex;have hb:=Mem.q0x h1;have a3:∀i:Nat,ld1 m (.ptr (some ⟨b,i⟩))=[.int .i64 st.most,.ptr (some ⟨tp,0⟩),.ptr (some ⟨tq,0⟩),.ptr (some ⟨ta,0⟩),.int .u64 st.latest][i]?:=fun i=>q0g h1
 have ga:=a1P (H:=H17) rfl w h4 id;unfold LSt.of;cases hA:st.q7U id with
 |none=>
  rw[hA]at ga;simp only[Option.getD_none,Option.isSome_none,j2g,q1b.cells]at ga;simp (maxDischargeDepth:=20) only [j7E (H:=H17) rfl,T.f53,pB,p1,q1,q0o,AV.cells,Nat.reduceAdd,Nat.reduceLeDiff,nnA,q0d,q0a,unA,q0H,q0I,q0E,AV.one,over,lcl,q1d hb,q3k hb,a3,ga,frl,Fr.refl,xbf,j2g,z6y,q1b.cells,q0q.cells]
  refine Res.eq ?_ rfl
  (repeat apply Fr.lays)
  exact Fr.refl _
 |some a=>
  have gp:=q6j (H:=H17) rfl w h2 a.q1S;rw[hA]at ga;simp only[Option.getD_some,Option.isSome_some,q1b.cells]at ga;simp only[q0q.cells]at gp;simp (maxDischargeDepth:=20) only [j7E (H:=H17) rfl,T.f53,pB,p1,q1,q0o,AV.cells,Nat.reduceAdd,Nat.reduceLeDiff,nnA,q0d,q0a,unA,q0H,q0I,q0E,AV.one,over,lcl,q1d hb,q3k hb,a3,ga,frl,Fr.refl,xbt,q1b.cells,q0q.cells]
  simp (maxDischargeDepth:=20) only [j5d (H:=H17),T.a1n,p1,q1,pB,nnA,q0d,q0H,q0I,Nat.reduceAdd,q0F,AV.one,over,AV.cells,Nat.reduceLeDiff,lcl,q1d hb,q3k hb,q6B hb,a3,gp,frl,Fr.refl];refine Res.eq ?_ rfl
  (repeat apply Fr.lays)
  exact Fr.refl _
end
end
section
set_option maxRecDepth 4000
open Go Go.Abs
theorem j87 (x:Int):decide (sgn x<=0)=decide (x<=0):=by unfold sgn;apply decide_eq_decide.mpr;split<;>(try split)<;>omega
theorem z6M (x:Int):decide (sgn x<0)=decide (x<0):=by unfold sgn;apply decide_eq_decide.mpr;split<;>(try split)<;>omega
theorem j3M (p:q0q) {w:Wd} (hw:w.ok) (s:Int) (m:Mem):Res m (run E17 (.fn 55) [.agg p.cells,.agg (q0u w s)] m) (.int .i64 (q1W p w s)):=by
 have sg:=fun m=>q6v (H:=H17) rfl hw m
 unfold q1W;simp only[q0q.cells,q0u,Wd.cells]at sg⊢;by_cases h:s=p.scale
 ·rw[if_neg (by simp[h])];by_cases h2:w.val<=0
  ·rw[if_pos h2];have e2:=j87 w.val;rw[dt h2]at e2;simp only[z9J (H:=H17) rfl,T.f55,p1,q1,p2,q0K,q0a,Nat.reduceAdd,q0e,AV.one,AV.cells,Nat.reduceLeDiff,lcl,dt h,xbt,sg,e2];refine Res.eq ?_ rfl
   (repeat apply Fr.lays)
   exact Fr.refl _
  ·rw[if_neg h2];have e2:=j87 w.val;rw[df h2]at e2;simp only[z9J (H:=H17) rfl,T.f55,p1,q1,p2,q0K,q0a,Nat.reduceAdd,q0e,AV.one,AV.cells,Nat.reduceLeDiff,lcl,dt h,xbt,sg,e2];simp only[j5e (H:=H17),T.a1o,wp];refine Res.eq ?_ rfl
   (repeat apply Fr.lays)
   exact Fr.refl _
 ·rw[if_pos h];simp only[z9J (H:=H17) rfl,T.f55,p1,q1,p2,q0K,q0a,Nat.reduceAdd,q0e,AV.one,AV.cells,Nat.reduceLeDiff,lcl,df h,xbf];refine Res.eq ?_ rfl
  (repeat apply Fr.lays)
  exact Fr.refl _
theorem a3x (a:q1b) (ha:a.bal.ok) {w:Wd} (hw:w.ok) (s:Int) (m:Mem):Res m (run E17 (.fn 56) [.agg a.cells,.agg (q0u w s)] m) (.bool (decide (a.bal.val<w.val))):=by
 have cm:=fun m=>j7n (H:=H17) rfl ha hw m
 have e:=z6M (a.bal.val-w.val);simp only[q1b.cells,q0u,Wd.cells]at cm⊢;simp only[a5J (H:=H17) rfl,T.f56,p1,q1,p2,q0K,Nat.reduceAdd,q0e,AV.one,AV.cells,Nat.reduceLeDiff,lcl,cm,e];refine Res.eq ?_ (by congr 1;exact decide_eq_decide.mpr (by omega))
 (repeat apply Fr.lays)
 exact Fr.refl _
def S18:List FuncId:=[53,55,56]
noncomputable def H18:FuncId->Option (List AV->Mem->R):=q1L E17 S18
noncomputable abbrev E18:Env:=T.EH H18
theorem a4I:q1u E18:=q0Z a4H S18
noncomputable abbrev D18:Do:=T.Rl H18
section
variable {H:FuncId->Option (List AV->Mem->R)} {m:Mem} {b:Nat} {st:LSt} {F:List Nat}
theorem q78 (hh:H 53=some (q0y E17 53)) (h:q0l m b st F) (w:LWf st) (id:Int) (M:Mem) (hM:Fr m M []) :
  run (T.EH H) (.fn 53) [.ptr (some ⟨b,0⟩),.int .u64 id] M=some (.tup [.agg (st.of id).1.cells,.agg (st.of id).2.1.cells,.int .i64 (st.of id).2.2],M):=
 q0r hh (by simp[AV.flat,AV.lt,AV.lts,q1b.flat,q0q.flat]) fun m2 h1 h2=>b0K ((h.q0h hM).q0h (Fr.same h1 h2)) w id
theorem q9D (hh:H 55=some (q0y E17 55)) (p:q0q) {w:Wd} (hw:w.ok) (s:Int) (m:Mem):run (T.EH H) (.fn 55) [.agg p.cells,.agg (q0u w s)] m=some (.int .i64 (q1W p w s),m):=
 q0r hh (by simp[AV.flat,AV.lt]) fun m2 _ _=>j3M p hw s m2
theorem z3N (hh:H 56=some (q0y E17 56)) (a:q1b) (ha:a.bal.ok) {w:Wd} (hw:w.ok) (s:Int) (m:Mem):run (T.EH H) (.fn 56) [.agg a.cells,.agg (q0u w s)] m=some (.bool (decide (a.bal.val<w.val)),m):=
 q0r hh (by simp[AV.flat,AV.lt]) fun m2 _ _=>a3x a ha hw s m2
end
section
variable {m:Mem} {b:Nat} {st:LSt} {F:List Nat}
theorem q6u (h:q0l m b st F) (hs:Srt q0m (st.q0p.map (·.id))) (hl:st.q0p.length<=64) (a:q1b) (ha:q0O q0m a.id (st.q0p.map (·.id))=true) :
  ∃m' F',run E18 (.fn 58) [.ptr (some ⟨b,0⟩),.agg a.cells] m=some (.undef,m')/\q0l m' b (st.q14 a) F'/\Fr m m' F/\∀c,c∈F'->c∈F\/m.next<=c:=by
 obtain⟨tp,tq,ta,FP,FQ,FA,h1,h2,h3,h4,h5,h6,h7,h8,h9,h10,rfl⟩:=h.ex;have f1:Fr m (m.lay (.cells a.cells false)) []:=(Fr.refl m).lay _;have hb:=Mem.q0x h1;have a3:∀i:Nat,ld1 m (.ptr (some ⟨b,i⟩))=[.int .i64 st.most,.ptr (some ⟨tp,0⟩),.ptr (some ⟨tq,0⟩),.ptr (some ⟨ta,0⟩),.int .u64 st.latest][i]?:=fun i=>q0g h1
 obtain⟨m1,FA',g1,g2,g3,g4⟩:=z3P (h4.frame f1 (by simp)) hs (by simp;omega) a.id (v:=a.cells) rfl rfl;simp only[z7V,z7W,ha,if_true]at g2;have e1:st.q0p.map (·.id)=(st.q14 a).q0p.map (·.id):=(LSt.q3d ha).symm;have e2:(st.q0p.map (·.cells)).set (lb q0m a.id (st.q0p.map (·.id))) a.cells=(st.q14 a).q0p.map (·.cells):=by
  unfold LSt.q14 LSt.iA;rw[List.map_set]
 rw[e2]at g2;obtain⟨F',q1,q2,q3⟩:=q0l.q0p (az:=(st.q14 a).q0p) (f1.get h1 (by simp)) (h2.frame f1 (by simp)) (h3.frame f1 (by simp)) (h4.frame f1 (by simp)) h5 h6 h7 h8 h9 h10 g3 (by rw[<-e1];exact g2) g4;refine⟨m1,F',?_,q1,(f1.any _).step q2 (fun c hc=>.inl hc),fun c hc=>(q3 c hc).imp id (fun h=>xnt0 f1.next h)⟩
 have g1':run E18 (.fn 41) [.ptr (some ⟨ta,0⟩),.int .u64 a.id,.agg a.cells] (m.lay (.cells a.cells false))=_:=(q4e (H:=H18) rfl _ _).trans g1;simp only[q1b.cells]at g1';simp only[q1b.cells,a5K (H:=H18) rfl,T.f58,p1,q0K,nnA,Nat.reduceAdd,q0e,AV.one,AV.cells,Nat.reduceLeDiff,lcl,q1d hb,a3,g1']
theorem j22 (h:q0l m b st F) (hs:Srt q0c (st.q0b.map (·.name))) (hl:st.q0b.length<=8) (p:q0q) (hp:q0O q0c p.name (st.q0b.map (·.name))=true) {tp tq ta:AV}
  (hb:m.get b=some (.cells [.int .i64 st.most,tp,tq,ta,.int .u64 st.latest] false)) :
  ∃m' F',run E18 (.fn 39) [tp,.str p.name,.agg p.cells] m=some (.bool true,m')/\q0l m' b (st.z2K p) F'/\Fr m m' F/\∀c,c∈F'->c∈F\/m.next<=c:=by
 obtain⟨tp',tq',ta',FP,FQ,FA,h1,h2,h3,h4,h5,h6,h7,h8,h9,h10,rfl⟩:=h.ex;rw[h1]at hb;simp only[xoi,Blk.cells.injEq,List.cons.injEq,and_true,true_and]at hb;obtain⟨rfl,rfl,rfl⟩:=hb;obtain⟨m1,FP',g1,g2,g3,g4⟩:=z3Q h2 hs (by simp;omega) p.name (v:=p.cells) rfl rfl;simp only[z7V,z7W,hp,if_true,Bool.true_or]at g1 g2;have e1:st.q0b.map (·.name)=(st.z2K p).q0b.map (·.name):=(LSt.z7N hp).symm
 have e2:(st.q0b.map (·.cells)).set (lb q0c p.name (st.q0b.map (·.name))) p.cells=(st.z2K p).q0b.map (·.cells):=by
  unfold LSt.z2K LSt.iP;rw[List.map_set]
 rw[e2]at g2;obtain⟨F',q1,q2,q3⟩:=q0l.q0b (ps:=(st.z2K p).q0b) h1 h2 h3 h4 h5 h6 h7 h8 h9 h10 g3 (by rw[<-e1];exact g2) g4;exact⟨m1,F',(q4e (H:=H18) rfl _ _).trans g1,q1,q2,q3⟩
theorem z0r (h:q0l m b st F) (hs:Srt q0c (st.pairs.map (·.key))) (hl:st.pairs.length<=64) (q:q0N) {tp tq ta:AV}
  (hb:m.get b=some (.cells [.int .i64 st.most,tp,tq,ta,.int .u64 st.latest] false)) :
  ∃r m' F',run E18 (.fn 40) [tq,.str q.key,.agg q.cells] m=some (r,m')/\q0l m' b (st.q5b q) F'/\Fr m m' F/\∀c,c∈F'->c∈F\/m.next<=c:=by
 obtain⟨tp',tq',ta',FP,FQ,FA,h1,h2,h3,h4,h5,h6,h7,h8,h9,h10,rfl⟩:=h.ex;rw[h1]at hb;simp only[xoi,Blk.cells.injEq,List.cons.injEq,and_true,true_and]at hb;obtain⟨rfl,rfl,rfl⟩:=hb;obtain⟨m1,FQ',g1,g2,g3,g4⟩:=a3C h3 hs (by simp;omega) q.key (v:=q.cells) rfl rfl;have key:TabAt .str 9 m1 tq' ((st.q5b q).pairs.map (·.key)) ((st.q5b q).pairs.map (·.cells)) 64 FQ':=by
  unfold z7V z7W at g2;unfold LSt.q5b LSt.iQ;by_cases hk:q0O q0c q.key (st.pairs.map (·.key))=true
  ·simp only[hk,if_true]at g2⊢;rw[List.map_set,List.map_set,q1V (q3T hk)];exact g2
  ·simp only[hk,xbq,if_false,xlm]at g2⊢;by_cases hf:st.pairs.length<64
   ·rw[if_pos (by omega),if_pos (by omega)]at g2;rw[if_pos hf,q2K,q2K];exact g2
   ·rw[if_neg (by omega),if_neg (by omega)]at g2;rw[if_neg hf];exact g2
 obtain⟨F',q1,q2,q3⟩:=q0l.pairs (qs:=(st.q5b q).pairs) h1 h2 h3 h4 h5 h6 h7 h8 h9 h10 g3 key g4;exact⟨_,m1,F',(q4e (H:=H18) rfl _ _).trans g1,q1,q2,q3⟩
end
end
end Go.Proofs.YtlginbmjiecglaaGreatDoor
