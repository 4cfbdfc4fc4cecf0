/- Texts of one claim, put together. -/
import Derived.Test.YtlginbmjiecglaaGreatDoorW8
namespace Go.Abs
section
open Go
theorem Fr.lay {m m1:Mem} {S:List Nat} (h:Fr m m1 S) (v:Blk):Fr m (m1.lay v) S:=
 ⟨xnt0 h.1 (Nat.le_succ _),fun c hc hn=>by rw[Mem.q0E,if_neg (by have:=h.1;omega)];exact h.2 c hc hn⟩
theorem Fr.put' {m m1:Mem} {S:List Nat} (h:Fr m m1 S) {b:Nat} {v:Option Blk} (hb:b∈S\/m.next<=b):Fr m (m1.put b v) S:=
 ⟨h.1,fun c hc hn=>by
  rw[Mem.get_put,if_neg]
  ·exact h.2 c hc hn
  ·rintro⟨rfl,_⟩
   rcases hb with h|h
   ·exact hn h
   ·omega⟩
theorem Fr.step {m m1 m2:Mem} {S T:List Nat} (h:Fr m m1 S) (h':Fr m1 m2 T) (hT:∀c,c∈T->c∈S\/m.next<=c):Fr m m2 S:=
 ⟨xnt0 h.1 h'.1,fun c hc hn=>by
  rw[h'.2 c (Nat.lt_of_lt_of_le hc h.1),h.2 c hc hn];intro hm;rcases hT c hm with h|h
  ·exact hn h
  ·omega⟩
theorem Fr.step0 {m m1 m2:Mem} {S:List Nat} (h:Fr m m1 S) (h':Fr m1 m2 []):Fr m m2 S:=h.step h' (by simp)
theorem Fr.any {m m1:Mem} (S:List Nat) (h:Fr m m1 []):Fr m m1 S:=h.mono (by simp)
theorem Fr.next {m m1:Mem} {S:List Nat} (h:Fr m m1 S):m.next<=m1.next:=h.1
theorem Fr.refl' (m:Mem) (S:List Nat):Fr m m S:=(Fr.refl m).any S
section flat
variable {n:Nat}
theorem q1j:∀{l:List (List AV)},(∀x∈l,x.length=n)->l.flatten.length=l.length*n
 |[],_=>by simp
 |x::l,h=>by
  rw[List.flatten_cons,xla0,q1j (fun y hy=>h y (List.mem_cons_of_mem _ hy)),h x xmc,List.length_cons,Nat.succ_mul];omega
theorem q1T:∀{l:List (List AV)} (i:Nat),(∀x∈l,x.length=n)->l.flatten.drop (i*n)=(l.drop i).flatten
 |l,0,_=>by simp
 |[],i+1,_=>by simp
 |x::l,i+1,h=>by
  rw[List.flatten_cons,List.drop_append,List.drop_eq_nil_of_le (by rw[h x xmc,Nat.succ_mul];omega),List.nil_append,h x xmc,Nat.succ_mul,Nat.add_sub_cancel];exact q1T i (fun y hy=>h y (List.mem_cons_of_mem _ hy))
theorem q4Z:∀{l:List (List AV)} (i:Nat),(∀x∈l,x.length=n)->l.flatten.take (i*n)=(l.take i).flatten
 |l,0,_=>by simp
 |[],i+1,_=>by simp
 |x::l,i+1,h=>by
  rw[List.flatten_cons,List.take_append,xtl (by rw[h x xmc,Nat.succ_mul];omega),h x xmc,Nat.succ_mul,Nat.add_sub_cancel];rw[q4Z i (fun y hy=>h y (List.mem_cons_of_mem _ hy)),List.take_succ_cons,List.flatten_cons]
theorem j1y {l:List (List AV)} (h:∀x∈l,x.length=n) {i:Nat} (hi:i<l.length):(l.flatten.drop (i*n)).take n=l[i]:=by
 rw[q1T i h,List.drop_eq_getElem_cons hi,List.flatten_cons,List.take_append,xtl (by rw[h _ (List.getElem_mem hi)];exact xnr _),h _ (List.getElem_mem hi),Nat.sub_self,List.take_zero,List.append_nil]
theorem z2H {l:List (List AV)} (h:∀x∈l,x.length=n) {i:Nat} (hi:i<l.length) (v:List AV):l.flatten.take (i*n)++v++l.flatten.drop (i*n+n)=(l.set i v).flatten:=by
 rw[show i*n+n=(i+1)*n by rw[Nat.succ_mul],q4Z i h,q1T (i+1) h,List.set_eq_take_append_cons_drop,if_pos hi,List.flatten_append,List.flatten_cons,List.append_assoc]
theorem q6T {l:List (List AV)} (h:∀x∈l,x.all AV.one=true):l.flatten.all AV.one=true:=by
 rw[List.all_eq_true];intro v hv;obtain⟨x,hx,hv⟩:=List.mem_flatten.1 hv;exact List.all_eq_true.1 (h x hx) v hv
theorem q6U:∀{l:List AV},(l.map fun x=>[x]).flatten=l
 |[]=>rfl
 |x::l=>by rw[List.map_cons,List.flatten_cons,q6U];rfl
end flat
def q0L (n:Nat) (m:Mem) (s:AV) (l:List (List AV)) (rb:Option Nat):Prop:=
 (∀x∈l,x.length=n/\x.all AV.one=true)/\
 (((l=[]/\rb=none/\∃sz ex,s=.sl none sz 0 0 ex)\/∃b,l=[]/\rb=some b/\s=.sl (some ⟨b,0⟩) n 0 0 true/\m.get b=some (.cells [] false))\/
  ∃b,rb=some b/\s=.sl (some ⟨b,0⟩) n l.length l.length false/\m.get b=some (.cells l.flatten false))
theorem q0L.nil (n:Nat) (m:Mem) (sz:Nat) (ex:Bool):q0L n m (.sl none sz 0 0 ex) [] none:=⟨by simp,.inl (.inl ⟨rfl,rfl,_,_,rfl⟩)⟩
theorem q0L.lit (n:Nat) {m:Mem} {b:Nat} (h:m.get b=some (.cells [] false)):q0L n m (.sl (some ⟨b,0⟩) n 0 0 true) [] (some b):=⟨by simp,.inl (.inr ⟨b,rfl,rfl,rfl,h⟩)⟩
theorem q0L.lens {n:Nat} {m:Mem} {s:AV} {l:List (List AV)} {rb:Option Nat} (h:q0L n m s l rb):∀x∈l,x.length=n:=fun x hx=>(h.1 x hx).1
theorem q0L.frame {n:Nat} {m m':Mem} {s:AV} {l:List (List AV)} {rb:Option Nat} {S:List Nat} (h:q0L n m s l rb) (hf:Fr m m' S) (hd:∀b,rb=some b->b∉S):q0L n m' s l rb:=by
 rcases h with ⟨h0,(h|⟨b,e,h1,h2,h3⟩)|⟨b,h1,h2,h3⟩⟩
 ·exact⟨h0,.inl (.inl h)⟩
 ·exact⟨h0,.inl (.inr ⟨b,e,h1,h2,hf.get h3 (hd b h1)⟩)⟩
 ·exact⟨h0,.inr ⟨b,h1,h2,hf.get h3 (hd b h1)⟩⟩
theorem q0L.lt {n:Nat} {m:Mem} {s:AV} {l:List (List AV)} {b:Nat} (h:q0L n m s l (some b)):b<m.next:=by
 rcases h with ⟨_,(⟨_,h,_⟩|⟨b',_,h1,_,h3⟩)|⟨b',h1,h2,h3⟩⟩
 ·cases h
 ·cases h1;exact Mem.q0v h3
 ·cases h1;exact Mem.q0v h3
theorem q0L.len {n:Nat} {m:Mem} {s:AV} {l:List (List AV)} {rb:Option Nat} (h:q0L n m s l rb):∃a sz cap ex,s=.sl a sz l.length cap ex:=by
 rcases h with ⟨_,(⟨rfl,_,sz,ex,rfl⟩|⟨b,rfl,_,rfl,_⟩)|⟨b,_,rfl,_⟩⟩
 ·exact⟨_,_,_,_,rfl⟩
 ·exact⟨_,_,_,_,rfl⟩
 ·exact⟨_,_,_,_,rfl⟩
theorem q0L.one {n:Nat} {m:Mem} {s:AV} {l:List (List AV)} {rb:Option Nat} (h:q0L n m s l rb):s.one=true:=by
 obtain⟨a,sz,cap,ex,rfl⟩:=h.len;rfl
theorem q0L.at {n:Nat} {m:Mem} {s:AV} {l:List (List AV)} {rb:Option Nat} (h:q0L n m s l rb) {i:Nat} (hi:i<l.length) :
  ∃b,rb=some b/\s=.sl (some ⟨b,0⟩) n l.length l.length false/\m.get b=some (.cells l.flatten false)/\ixA n l.length ⟨b,0⟩ (i:Int)=some (.ptr (some ⟨b,i*n⟩))/\q0y m ⟨b,i*n⟩ n=some l[i]:=by
 have hl:=h.lens;rcases h with ⟨h0,(⟨rfl,_⟩|⟨_,rfl,_⟩)|⟨b,h1,h2,h3⟩⟩
 ·simp at hi
 ·simp at hi
 ·refine⟨b,h1,h2,h3,by simp[ixA,hi],?_⟩;have:(i+1)*n<=l.length*n:=Nat.mul_le_mul_right n hi;rw[Nat.succ_mul]at this;simp only[q0y,h3];rw[if_pos (by rw[q1j hl];exact this),j1y hl hi]
theorem q0L.st {n:Nat} {m:Mem} {s:AV} {l:List (List AV)} {rb:Option Nat} (h:q0L n m s l rb) {i:Nat} (hi:i<l.length) {v:List AV} (hv:v.length=n) (ho:v.all AV.one=true) :
  ∃b,rb=some b/\q1h m ⟨b,i*n⟩ v=some (m.put b (some (.cells (l.set i v).flatten false)))/\q0L n (m.put b (some (.cells (l.set i v).flatten false))) s (l.set i v) rb:=by
 have hl:=h.lens;obtain⟨b,h1,h2,h3,_,_⟩:=h.at hi;refine⟨b,h1,?_,fun x hx=>?_,.inr ⟨b,h1,by simpa using h2,by rw[Mem.get_put,if_pos ⟨rfl,Mem.q0v h3⟩]⟩⟩
 ·have:(i+1)*n<=l.length*n:=Nat.mul_le_mul_right n hi;rw[Nat.succ_mul]at this;simp only[q1h,h3];rw[if_pos (by rw[q1j hl,hv];exact this),hv,z2H hl hi]
 ·rcases List.mem_or_eq_of_mem_set hx with hx|rfl
  ·exact h.1 x hx
  ·exact⟨hv,ho⟩
theorem z4a {P:Program} {st e:TypeId} {n w:Nat} {zs:List AV} (hst:P.underlying st=some (.slice e)) (hsz:szT P e=some n) (hw:q4y P e=some w) (hz:q3J P e=some zs) (hzl:zs.length=n) (hn:0<n) (hw0:0<w)
  {m:Mem} {s:AV} {l:List (List AV)} {rb:Option Nat} (h:q0L n m s l rb) {xb:Nat} {new:List AV} (hx:m.get xb=some (.cells new false)) (hl:new.length=n) (ho:new.all AV.one=true) (hne:rb≠some xb)
  {i:Nat} (hi:i<=l.length) (hb:(l.length+1)*w<=q0A) :
  ∃s' m',q7v P st [s,.int .i64 i,.sl (some ⟨xb,0⟩) n 1 1 true] m=some (s',m')/\q0L n m' s' (l.take i++new::l.drop i) (some m.next)/\m'.next=m.next+1/\Fr m m' rb.toList:=by
 have hsrc:q3Q n (.sl (some ⟨xb,0⟩) n 1 1 true) m=some (1,new):=by
  simp only[q3Q,true_or,if_true,q0y,hx,Nat.one_mul,xnz,hl,xnr,List.drop_zero,xom];rw[xtl (by omega)]
 have hall:∀x∈l.take i++new::l.drop i,x.length=n/\x.all AV.one=true:=by
  intro x hx';simp only[xma,xmk0]at hx';rcases hx' with h1|rfl|h1
  ·exact h.1 x (List.mem_of_mem_take h1)
  ·exact⟨hl,ho⟩
  ·exact h.1 x (List.mem_of_mem_drop h1)
 have hlens:=h.lens;have hlen:(l.take i++new::l.drop i).length=l.length+1:=by simp;omega
 have hones:l.flatten.all AV.one=true:=q6T fun x hx=>(h.1 x hx).2
 have hfl:=q1j hlens;unfold q7v;simp only[hst,hsz,hw,hz,Option.bind_some,hsrc];rw[if_pos ⟨Nat.one_pos,by omega,ho⟩];rcases h.2 with (⟨rfl,rfl,sz,ex,rfl⟩|⟨b,rfl,rfl,rfl,h3⟩)|⟨b,rfl,rfl,h3⟩
 ·have:i=0:=by simpa using hi
  subst this;simp only[Int.natCast_zero,if_true];unfold q0P;rw[hsrc];simp only[ho,not_true_eq_false,if_false,Nat.one_ne_zero];rw[if_pos (by simpa using hb)];exact⟨_,_,rfl,⟨hall,.inr ⟨m.next,rfl,by simp,by simp[Mem.q0E]⟩⟩,rfl,Fr.alloc _ _⟩
 ·have:i=0:=by simpa using hi
  subst this;simp only[Int.natCast_zero,if_true,true_or];unfold q0P;rw[hsrc];simp only[ho,not_true_eq_false,if_false,true_or,if_true];have hld:q0y m ⟨b,0⟩ (0*n)=some []:=by simp[q0y,h3]
  rw[if_neg (by omega),if_pos (by simpa using hb),hld];simp only[if_true];refine⟨_,_,rfl,⟨hall,.inr ⟨m.next,rfl,by simp,by simp[Mem.q0E]⟩⟩,rfl,(Fr.alloc _ _).mono (by simp)⟩
 ·have hxb:xb≠b:=fun e=>hne (by rw[e])
  simp only;by_cases he:i=l.length
  ·subst he;rw[if_pos rfl,if_pos (.inl trivial)];unfold q0P;rw[hsrc];simp only[ho,not_true_eq_false,if_false,true_or,if_true];have hld:q0y m ⟨b,0⟩ (l.length*n)=some l.flatten:=by
    simp only[q0y,h3];rw[if_pos (by omega),List.drop_zero,xtl (by omega)]
   rw[if_neg (by omega),if_pos hb,hld];simp only[xbq,if_false,h3];refine⟨_,_,rfl,⟨hall,.inr ⟨m.next,rfl,by rw[hlen],?_⟩⟩,rfl,((Fr.put m b none).trans (Fr.alloc _ _) (by simp) (by simp))⟩
   simp[Mem.q0E,List.flatten_append]
  ·rw[if_neg (by omega),if_pos ⟨by omega,trivial,trivial,hxb,hn,hw0,hzl,hb,xnr _⟩];have hld:q0y m ⟨b,0⟩ (l.length*n)=some l.flatten:=by
    simp only[q0y,h3];rw[if_pos (by omega),List.drop_zero,xtl (by omega)]
   simp only[hx,h3,hld,Option.bind_some,hones,if_true];refine⟨_,_,rfl,⟨hall,.inr ⟨m.next,rfl,by rw[hlen],?_⟩⟩,rfl,((Fr.put m b none).trans (Fr.alloc _ _) (by simp) (by simp))⟩
   rw[Int.toNat_natCast,q4Z i hlens,q1T i hlens];simp[Mem.q0E,List.flatten_append]
section lb
variable {κ:Type} {lt:κ->κ->Bool}
def lb (lt:κ->κ->Bool) (k:κ) (ks:List κ):Nat:=(ks.takeWhile (lt · k)).length
def Srt (lt:κ->κ->Bool) (ks:List κ):Prop:=ks.Pairwise fun a b=>lt a b=true
theorem q9i (k:κ) (ks:List κ):lb lt k ks<=ks.length:=by
 unfold lb;have:=(List.takeWhile_prefix (p:=(lt · k)) (l:=ks)).length_le;exact this
theorem q2G {k:κ}:∀{ks:List κ} {i:Nat},i<=ks.length->(∀j (h:j<ks.length),j<i->lt ks[j] k=true)->(∀(h:i<ks.length),lt ks[i] k=false)->lb lt k ks=i
 |[],i,hi,_,_=>by have:i=0:=by simpa using hi
                  subst this;rfl
 |a::ks,0,_,_,h2=>by
  have:=h2 (by simp);simp only[List.getElem_cons_zero]at this;simp[lb,List.takeWhile_cons,this]
 |a::ks,i+1,hi,h1,h2=>by
  have h0:=h1 0 (by simp) (by omega);simp only[List.getElem_cons_zero]at h0;have ih:=q2G (k:=k) (ks:=ks) (i:=i) (by simpa using hi) (fun j h hj=>h1 (j+1) (by simpa using h) (by omega)) (fun h=>h2 (by simpa using h))
  unfold lb at ih⊢;rw[List.takeWhile_cons,if_pos h0,List.length_cons,ih]
theorem q6u {k:κ}:∀{ks:List κ} {j:Nat} (h:j<ks.length),j<lb lt k ks->lt ks[j] k=true
 |a::ks,j,h,hj=>by
  unfold lb at hj;rw[List.takeWhile_cons]at hj;split at hj
  ·rename_i ha;cases j with
   |zero=>simpa using ha
   |succ j=>simpa using q6u (k:=k) (ks:=ks) (j:=j) (by simpa using h) (by unfold lb;simpa using hj)
  ·simp at hj
theorem j34 {k:κ}:∀{ks:List κ} (h:lb lt k ks<ks.length),lt (ks[lb lt k ks]'h) k=false
 |[],h=>by simp at h
 |a::ks,h=>by
  by_cases ha:lt a k=true
  ·have e:lb lt k (a::ks)=lb lt k ks+1:=by unfold lb;rw[List.takeWhile_cons,if_pos ha];rfl
   simp only[e,List.getElem_cons_succ];exact j34 (ks:=ks) (by rw[e]at h;simpa using h)
  ·have e:lb lt k (a::ks)=0:=by unfold lb;rw[List.takeWhile_cons,if_neg ha];rfl
   simp only[e,List.getElem_cons_zero];simpa using ha
def q0Y [DecidableEq κ] (lt:κ->κ->Bool) (k:κ) (ks:List κ):Bool:=decide (ks[lb lt k ks]? = some k)
def q2Q {α:Type} (i:Nat) (x:α) (l:List α):List α:=l.take i++x::l.drop i
theorem q6t {α:Type} {i:Nat} {x:α} {l:List α} (hi:i<=l.length):(q2Q i x l).length=l.length+1:=by simp[q2Q];omega
theorem q2q {ks:List κ} (h:Srt lt ks) {i j:Nat} (hij:i<j) (hj:j<ks.length):lt (ks[i]'(by omega)) ks[j]=true:=List.pairwise_iff_getElem.1 h i j (by omega) hj hij
theorem a7a [DecidableEq κ] (hir:∀a,lt a a=false) {k:κ} {ks:List κ} (hs:Srt lt ks):q0Y lt k ks=decide (k∈ks):=by
 unfold q0Y;rw[Bool.eq_iff_iff,decide_eq_true_iff,decide_eq_true_iff];constructor
 ·intro h;exact List.mem_of_getElem? h
 ·intro h;obtain⟨i,hi,rfl⟩:=List.mem_iff_getElem.1 h;have:lb lt ks[i] ks=i:=q2G (Nat.le_of_lt hi) (fun j h hj=>q2q hs hj hi) (fun _=>hir _)
  rw[this,xgq hi]
theorem j6r (htr:∀a b c,lt a b=true->lt b c=true->lt a c=true) (htot:∀a b,lt a b=false->lt b a=false->a=b) {k:κ} {ks:List κ} (hs:Srt lt ks) (hk:k∉ks):Srt lt (q2Q (lb lt k ks) k ks):=by
 unfold Srt q2Q;rw[List.pairwise_append];refine⟨List.Pairwise.sublist (List.take_sublist _ _) hs,?_,?_⟩
 ·rw[List.pairwise_cons];refine⟨fun a ha=>?_,List.Pairwise.sublist (List.drop_sublist _ _) hs⟩
  obtain⟨i,hi,rfl⟩:=List.mem_iff_getElem.1 ha;simp only[xld0]at hi;rw[List.getElem_drop];have hl:lb lt k ks<ks.length:=by omega
  have h0:lt k (ks[lb lt k ks]'hl)=true:=by
   cases h:lt k (ks[lb lt k ks]'hl) with
   |true=>rfl
   |false=>exact absurd (htot _ _ h (j34 hl)) (fun e=>hk (by rw[e];exact List.getElem_mem hl))
  cases i with
  |zero=>simpa using h0
  |succ i=>exact htr _ _ _ h0 (q2q hs (by omega) (by omega))
 ·intro a ha b hb;obtain⟨i,hi,rfl⟩:=List.mem_iff_getElem.1 ha;simp only[xlt0]at hi;rw[List.getElem_take];have h1:lt (ks[i]'(by omega)) k=true:=q6u (by omega) (by omega);rw[xmk0]at hb;rcases hb with rfl|hb
  ·exact h1
  ·obtain⟨j,hj,rfl⟩:=List.mem_iff_getElem.1 hb;simp only[xld0]at hj;rw[List.getElem_drop];exact q2q hs (by omega) (by omega)
end lb
theorem q0K:∀a:List UInt8,q0c a a=false
 |[]=>rfl
 |a::l=>by simp[q0c,q0K l]
theorem q2J:∀a b:List UInt8,q0c a b=false->q0c b a=false->a=b
 |[],[],_,_=>rfl
 |[],_::_,h,_=>by simp[q0c]at h
 | _::_,[],_,h=>by simp[q0c]at h
 |a::x,b::y,h1,h2=>by
  simp only[q0c,Bool.or_eq_false_iff,decide_eq_false_iff_not,Bool.and_eq_false_iff]at h1 h2;have e:a=b:=by
   have:=h1.1;have:=h2.1;exact UInt8.le_antisymm (by simpa using h2.1) (by simpa using h1.1)
  subst e;rw[q2J x y (by simpa using h1.2) (by simpa using h2.2)]
theorem q05:∀a b c:List UInt8,q0c a b=true->q0c b c=true->q0c a c=true
 | _,[],_,h,_=>by simp[q0c]at h
 | _,_::_,[],_,h=>by simp[q0c]at h
 |[],_::_,_::_,_,_=>rfl
 |a::x,b::y,c::z,h1,h2=>by
  simp only[q0c,Bool.or_eq_true,Bool.and_eq_true,decide_eq_true_eq]at h1 h2⊢;rcases h1 with h1|⟨rfl,h1⟩
  ·rcases h2 with h2|⟨rfl,h2⟩
   ·exact .inl (UInt8.lt_trans h1 h2)
   ·exact .inl h1
  ·rcases h2 with h2|⟨rfl,h2⟩
   ·exact .inl h2
   ·exact .inr ⟨rfl,q05 x y z h1 h2⟩
def q0p (a b:Int):Bool:=decide (a<b)
theorem q66 (a:Int):q0p a a=false:=by simp[q0p]
theorem q3v (a b c:Int) (h:q0p a b=true) (h':q0p b c=true):q0p a c=true:=by simp[q0p]at h h'⊢;omega
section bin
variable {P:Program}
theorem j6Y (t:TypeId) (k:IntKind) (x y:Int):q0J P .geq t (.int k x) (.int k y)=some (.bool (decide (y<=x))):=by simp[q0J,q65]
theorem z6m (t:TypeId) (k:IntKind) (x y:Int):q0J P .gtr t (.int k x) (.int k y)=some (.bool (decide (y<x))):=by simp[q0J,q65]
theorem z6n (t:TypeId) (k:IntKind) (x y:Int):q0J P .lss t (.int k x) (.int k y)=some (.bool (decide (x<y))):=by simp[q0J,q65]
theorem j6Z (t:TypeId) (k:IntKind) (x y:Int):q0J P .leq t (.int k x) (.int k y)=some (.bool (decide (x<=y))):=by simp[q0J,q65]
theorem j6X (t:TypeId) (k:IntKind) (x y:Int):q0J P .eql t (.int k x) (.int k y)=some (.bool (decide (x=y))):=by simp[q0J,q65];rfl
theorem j60 (t:TypeId) (k:IntKind) (x y:Int):q0J P .neq t (.int k x) (.int k y)=some (.bool (!decide (x=y))):=by simp[q0J,q65,bne];rfl
theorem j6W (t:TypeId) (k:IntKind) (x y:Int):q0J P .add t (.int k x) (.int k y)=some (.int k (k.wrap (x+y))):=by simp[q0J,q65]
theorem j62 (t:TypeId) (k:IntKind) (x y:Int):q0J P .sub t (.int k x) (.int k y)=some (.int k (k.wrap (x-y))):=by simp[q0J,q65]
theorem z6o (t:TypeId) (k:IntKind) (x y:Int):q0J P .mul t (.int k x) (.int k y)=some (.int k (k.wrap (x*y))):=by simp[q0J,q65]
theorem q27 (t:TypeId) (k:IntKind) (x y:Int) (h:y≠0):q0J P .rem t (.int k x) (.int k y)=some (.int k (x.tmod y)):=by simp[q0J,q65,h]
theorem q26 (t:TypeId) (k:IntKind) (x y:Int) (h:y≠0):q0J P .quo t (.int k x) (.int k y)=some (.int k (k.wrap (x.tdiv y))):=by simp[q0J,q65,h]
theorem q5D (t:TypeId) (k k':IntKind) (x y:Int) (h:0<=y):q0J P .shr t (.int k x) (.int k' y)=some (.int k (x.fdiv (2 ^ (min y.toNat k.bits)))):=by
 simp only[q0J,shA];rw[if_neg (by omega)]
theorem j1e (t:TypeId) (x y:List UInt8):q0J P .lss t (.str x) (.str y)=some (.bool (q0c x y)):=rfl
theorem q5C (x y:List UInt8):(x==y)=decide (x=y):=by rw[Bool.eq_iff_iff];simp
theorem j1c (t:TypeId) (x y:List UInt8):q0J P .eql t (.str x) (.str y)=some (.bool (decide (x=y))):=by simp only[q0J,a0J,q5C]
theorem j1f (t:TypeId) (x y:List UInt8):q0J P .neq t (.str x) (.str y)=some (.bool (!decide (x=y))):=by simp only[q0J,a0J,q5C]
theorem j1d (t:TypeId) (x y:List UInt8):q0J P .geq t (.str x) (.str y)=some (.bool (!q0c x y)):=rfl
theorem j1b (t:TypeId) (x y:List UInt8) (h:x.length+y.length<=4611686018427387904):q0J P .add t (.str x) (.str y)=some (.str (x++y)):=by simp only[q0J,a0J];rw[if_pos h]
end bin
theorem wrap_u64 {x:Int} (h1:0<=x) (h2:x<18446744073709551616):IntKind.wrap .u64 x=x:=by
 have e:IntKind.wrap .u64 x=x % 18446744073709551616:=by simp[IntKind.wrap,IntKind.bits,IntKind.signed]
 rw[e];omega
theorem z1o (x:Int):IntKind.wrap .u64 x=x % 18446744073709551616:=by simp[IntKind.wrap,IntKind.bits,IntKind.signed]
theorem q3c {x:AV} (h:x.one=true):x.cells=some [x]:=by cases x<;>first|rfl|(simp[AV.one]at h)
theorem q0f {m:Mem} {b o:Nat} {cs:List AV} {ro:Bool} (h:m.get b=some (.cells cs ro)):ld1 m (.ptr (some ⟨b,o⟩))=cs[o]?:=by simp only[ld1,h]
theorem q1a {m:Mem} {b o n:Nat} {cs:List AV} {ro:Bool} (h:m.get b=some (.cells cs ro)) (hl:o+n<=cs.length):ldN m (.ptr (some ⟨b,o⟩)) n=some (.agg ((cs.drop o).take n)):=by simp[ldN,q0y,h,hl]
theorem q1B {m:Mem} {b o n:Nat} {cs vs:List AV} {v:AV} (h:m.get b=some (.cells cs false)) (hv:v.cells=some vs) (hn:vs.length=n) (hl:o+n<=cs.length) :
  stV m (.ptr (some ⟨b,o⟩)) v n=some (m.put b (some (.cells (cs.take o++vs++cs.drop (o+n)) false))):=by
 subst hn;simp only[stV,hv,if_true,q1h,h,if_pos hl]
theorem q09 {cs:List AV} (h:cs.all AV.one=true):(AV.agg cs).cells=some cs:=by simp only[AV.cells,h,if_true]
theorem q0w {m:Mem} {b:Nat} {v:Blk} {w:Option Blk} (h:m.get b=some v):(m.put b w).get b=w:=by rw[Mem.get_put,if_pos ⟨rfl,Mem.q0v h⟩]
theorem q1X {m:Mem} {b c:Nat} {w:Option Blk} (h:c≠b):(m.put b w).get c=m.get c:=by rw[Mem.get_put,if_neg fun e=>h e.1]
theorem q0e (m:Mem) (v:Blk):(m.lay v).get m.next=some v:=by rw[Mem.q0E,if_pos rfl]
theorem a92 (a:AV) (l:List AV):nth (a::l) 0=a:=rfl
theorem a94 (a b:AV) (l:List AV):nth (a::b::l) 1=b:=rfl
theorem a95 (a b c:AV) (l:List AV):nth (a::b::c::l) 2=c:=rfl
theorem a96 (a b c d:AV) (l:List AV):nth (a::b::c::d::l) 3=d:=rfl
theorem q4x {n:Nat} {zs cs:List AV} (h:cs.all AV.one=true) (hn:cs.length=n) (hz:zs.length=n):bsA n 1 zs [(0,.agg cs)]=some (.cells cs false,fun b=>.sl (some ⟨b,0⟩) n 1 1 true):=by
 simp[bsA,q0n,q09 h,hn,hz]
theorem z1C {x z:AV} (h:x.one=true):bsA 1 1 [z] [(0,x)]=some (.cells [x] false,fun b=>.sl (some ⟨b,0⟩) 1 1 1 true):=by
 simp[bsA,q0n,q3c h]
theorem q52 {m:Mem} {c:Nat} {v:Blk} (h:c≠m.next):(m.lay v).get c=m.get c:=by rw[Mem.q0E,if_neg h]
end
end Go.Abs
section
namespace Go.Abs
open Go
def z2r (t:Nat) (kb vb:Option Nat):List Nat:=t::(kb.toList++vb.toList)
structure TabAt {κ:Type} (ek:κ->AV) (n:Nat) (m:Mem) (t:Nat) (ks:List κ) (vs:List (List AV)) (most:Int) (F:List Nat):Prop where
 ex:∃sk sv kb vb,m.get t=some (.cells [sk,sv,.int .i64 most] false)/\q0L 1 m sk (ks.map fun k=>[ek k]) kb/\q0L n m sv vs vb/\kb≠some t/\vb≠some t/\(∀b,kb=some b->vb≠some b)/\F=z2r t kb vb
 len:vs.length=ks.length
section
variable {κ:Type} {ek:κ->AV} {n:Nat} {m m':Mem} {t:Nat} {ks:List κ} {vs:List (List AV)} {most:Int} {F S:List Nat}
theorem TabAt.frame (h:TabAt ek n m t ks vs most F) (hf:Fr m m' S) (hd:∀c,c∈F->c∉S):TabAt ek n m' t ks vs most F:=by
 obtain⟨⟨sk,sv,kb,vb,h1,h2,h3,h4,h5,h6,rfl⟩,h7⟩:=h;refine⟨⟨sk,sv,kb,vb,hf.get h1 (hd _ (by simp[z2r])),h2.frame hf fun b hb=>hd _ ?_,h3.frame hf fun b hb=>hd _ ?_,h4,h5,h6,rfl⟩,h7⟩
 ·subst hb;simp[z2r]
 ·subst hb;simp[z2r]
theorem TabAt.lt (h:TabAt ek n m t ks vs most F):∀c,c∈F->c<m.next:=by
 obtain⟨⟨sk,sv,kb,vb,h1,h2,h3,_,_,_,rfl⟩,_⟩:=h;intro c hc;simp only[z2r,xmk0,xma,Option.mem_toList]at hc;rcases hc with rfl|hc|hc
 ·exact Mem.q0v h1
 ·have e:kb=some c:=hc;subst e;exact h2.lt
 ·have e:vb=some c:=hc;subst e;exact h3.lt
theorem TabAt.new (hb:m.get t=some (.cells [.sl none 0 0 0 true,.sl none 0 0 0 true,.int .i64 most] false)):TabAt ek n m t [] [] most [t]:=
 ⟨⟨_,_,none,none,hb,q0L.nil 1 m 0 true,q0L.nil n m 0 true,by simp,by simp,by simp,rfl⟩,rfl⟩
theorem TabAt.set (h:TabAt ek n m t ks vs most F) {i:Nat} (hi:i<ks.length) {v:List AV} (hv:v.length=n) (ho:v.all AV.one=true) :
  ∃sk sv b m',m.get t=some (.cells [sk,sv,.int .i64 most] false)/\sv=.sl (some ⟨b,0⟩) n vs.length vs.length false/\ixA n vs.length ⟨b,0⟩ (i:Int)=some (.ptr (some ⟨b,i*n⟩))/\stV m (.ptr (some ⟨b,i*n⟩)) (.agg v) n=some m'/\TabAt ek n m' t ks (vs.set i v) most F/\Fr m m' F:=by
 obtain⟨⟨sk,sv,kb,vb,h1,h2,h3,h4,h5,h6,rfl⟩,h7⟩:=h;have hi':i<vs.length:=by omega
 obtain⟨b,g1,g2,g3,g4,g5⟩:=h3.at hi';obtain⟨b',e1,e2,e3⟩:=h3.st hi' hv ho;rw[g1]at e1;cases e1;subst g1;refine⟨sk,sv,b,_,h1,g2,g4,?_,⟨⟨sk,sv,kb,some b,?_,?_,e3,h4,h5,h6,rfl⟩,by simpa using h7⟩,?_⟩
 ·simp only[stV,q09 ho,hv,if_true,e2]
 ·rw[q1X (by rintro rfl;exact h5 rfl)];exact h1
 ·exact h2.frame (Fr.put m b _) fun c hc hm=>by simp only[xms]at hm;subst hm;exact h6 _ hc rfl
 ·exact(Fr.put m b _).mono fun c hc _=>by simp only[xms]at hc;subst hc;simp[z2r]
theorem TabAt.ins {P:Program} {st1 e1 st2 e2:TypeId} {w1 w2:Nat} {zs1 zs2:List AV}
  (hst1:P.underlying st1=some (.slice e1)) (hsz1:szT P e1=some 1) (hw1:q4y P e1=some w1) (hz1:q3J P e1=some zs1) (hzl1:zs1.length=1) (hw01:0<w1)
  (hst2:P.underlying st2=some (.slice e2)) (hsz2:szT P e2=some n) (hw2:q4y P e2=some w2) (hz2:q3J P e2=some zs2) (hzl2:zs2.length=n) (hn:0<n) (hw02:0<w2)
  (hek:∀k,(ek k).one=true) (h:TabAt ek n m t ks vs most F) {i:Nat} (hi:i<=ks.length) (hb:ks.length<4096) (hww:w1<=4096/\w2<=4096) {k:κ} {v:List AV} (hv:v.length=n) (ho:v.all AV.one=true) :
  ∃sk sv sk' m2 sv' m5 F',m.get t=some (.cells [sk,sv,.int .i64 most] false)/\
   q7v P st1 [sk,.int .i64 i,.sl (some ⟨m.next,0⟩) 1 1 1 true] (m.lay (.cells [ek k] false))=some (sk',m2)/\
   stV m2 (.ptr (some ⟨t,0⟩)) sk' 1=some (m2.put t (some (.cells [sk',sv,.int .i64 most] false)))/\
   (m2.put t (some (.cells [sk',sv,.int .i64 most] false))).get t=some (.cells [sk',sv,.int .i64 most] false)/\
   m2.next=m.next+2/\
   q7v P st2 [sv,.int .i64 i,.sl (some ⟨m2.next,0⟩) n 1 1 true] ((m2.put t (some (.cells [sk',sv,.int .i64 most] false))).lay (.cells v false))=some (sv',m5)/\
   stV m5 (.ptr (some ⟨t,1⟩)) sv' 1=some (m5.put t (some (.cells [sk',sv',.int .i64 most] false)))/\
   TabAt ek n (m5.put t (some (.cells [sk',sv',.int .i64 most] false))) t (q2Q i k ks) (q2Q i v vs) most F'/\
   Fr m (m2.put t (some (.cells [sk',sv,.int .i64 most] false))) F/\
   Fr m (m5.put t (some (.cells [sk',sv',.int .i64 most] false))) F/\∀c,c∈F'->c∈F\/m.next<=c:=by
 obtain⟨⟨sk,sv,kb,vb,h1,h2,h3,h4,h5,h6,rfl⟩,h7⟩:=h;have htl:=Mem.q0v h1;have hf1:Fr m (m.lay (.cells [ek k] false)) []:=Fr.alloc m _;have hkl:∀b,kb=some b->b<m.next:=fun b e=>by subst e;exact h2.lt
 have hvl:∀b,vb=some b->b<m.next:=fun b e=>by subst e;exact h3.lt
 obtain⟨sk',m2,a1,a2,a3,a4⟩:=z4a hst1 hsz1 hw1 hz1 hzl1 Nat.one_pos hw01 (h2.frame hf1 (by simp)) (xb:=m.next) (new:=[ek k]) (q0e _ _) rfl (by simp[hek]) (fun e=>by have:=hkl _ e;omega) (i:=i) (by simpa using hi) (by
  simp only[xlm]
  calc (ks.length+1)*w1<=4096*4096:=Nat.mul_le_mul (by omega) hww.1
   _<=q0A:=by decide)
 have hf2:Fr m m2 kb.toList:=hf1.trans a4 (by simp) (by simp +contextual);have ht2:m2.get t=some (.cells [sk,sv,.int .i64 most] false):=hf2.get h1 (by cases kb with
  |none=>simp
  |some c=>simp;intro e;exact h4 (by rw[e]))
 have hs1:=q1B (v:=sk') (o:=0) (n:=1) ht2 (q3c a2.one) rfl (by simp);have hs1':stV m2 (.ptr (some ⟨t,0⟩)) sk' 1=some (m2.put t (some (.cells [sk',sv,.int .i64 most] false))):=by simpa using hs1
 have hn2:m2.next=m.next+2:=by rw[a3];rfl
 have hg3:(m2.put t (some (.cells [sk',sv,.int .i64 most] false))).get t=some (.cells [sk',sv,.int .i64 most] false):=q0w ht2;have hf3:Fr m (m2.put t (some (.cells [sk',sv,.int .i64 most] false))) (t::kb.toList):=(hf2.mono (T:=t::kb.toList) (by simp +contextual)).put' (by simp);have hf4:=hf3.lay (.cells v false);have hr4:q0L n ((m2.put t (some (.cells [sk',sv,.int .i64 most] false))).lay (.cells v false)) sv vs vb:=h3.frame hf4 (fun b e hm=>by
  simp only[xmk0,Option.mem_toList]at hm;rcases hm with rfl|hm
  ·exact h5 e
  ·exact h6 b hm e)
 obtain⟨sv',m5,b1,b2,b3,b4⟩:=z4a hst2 hsz2 hw2 hz2 hzl2 hn hw02 hr4 (xb:=m2.next) (new:=v) (by have:=q0e (m2.put t (some (.cells [sk',sv,.int .i64 most] false))) (.cells v false);simpa using this) hv ho (fun e=>by have:=hvl _ e;omega) (i:=i) (by omega) (by
  calc (vs.length+1)*w2<=4096*4096:=Nat.mul_le_mul (by omega) hww.2
   _<=q0A:=by decide)
 have hf5:Fr m m5 (z2r t kb vb):=(hf4.mono (T:=z2r t kb vb) (by simp +contextual [z2r])).step b4 (fun c hc=>.inl (by simp only[Option.mem_toList]at hc;simp[z2r,hc]))
 have ht5:m5.get t=some (.cells [sk',sv,.int .i64 most] false):=b4.get (by rw[q52 (by simp;omega)];exact hg3) (by cases vb with
  |none=>simp
  |some c=>simp;intro e;exact h5 (by rw[e]))
 have hs2:=q1B (v:=sv') (o:=1) (n:=1) ht5 (q3c b2.one) rfl (by simp);have hs2':stV m5 (.ptr (some ⟨t,1⟩)) sv' 1=some (m5.put t (some (.cells [sk',sv',.int .i64 most] false))):=by simpa using hs2
 have hk5:q0L 1 (m5.put t (some (.cells [sk',sv',.int .i64 most] false))) sk' ((q2Q i k ks).map fun k=>[ek k]) (some (m.next+1)):=by
  have e:((q2Q i k ks).map fun k=>[ek k])=(ks.map fun k=>[ek k]).take i++[ek k]::(ks.map fun k=>[ek k]).drop i:=by simp[q2Q]
  rw[e];have:=a2.frame (((((Fr.refl' m2 [t]).put' (b:=t) (v:=some (.cells [sk',sv,.int .i64 most] false)) (by simp)).lay (.cells v false)).mono (T:=t::vb.toList) (by simp +contextual)).step b4 (fun c hc=>.inl (by simp only[Option.mem_toList]at hc;simp[hc]))) (by
   intro b hb hm;cases hb;simp only[xmk0,Option.mem_toList]at hm;rcases hm with hm|hm
   ·have:(m.lay (.cells [ek k] false)).next=m.next+1:=rfl
    omega
   ·have:=hvl _ hm;have e9:(m.lay (.cells [ek k] false)).next=m.next+1:=rfl
    omega)
  exact this.frame ((Fr.refl' m5 [t]).put' (b:=t) (by simp)) (by
   intro b hb hm;cases hb;simp only[xms]at hm;have:(m.lay (.cells [ek k] false)).next=m.next+1:=rfl
   omega)
 have e9:((m2.put t (some (.cells [sk',sv,.int .i64 most] false))).lay (.cells v false)).next=m2.next+1:=rfl
 refine⟨sk,sv,sk',m2,sv',m5,z2r t (some (m.next+1)) (some (m2.next+1)),h1,a1,hs1',hg3,hn2,b1,hs2',⟨⟨sk',sv',_,_,q0w ht5,hk5,?_,?_,?_,?_,rfl⟩,?_⟩,hf3.mono (by simp +contextual [z2r]),hf5.put' (by simp[z2r]),?_⟩
 ·rw[<-e9];exact b2.frame ((Fr.refl' m5 [t]).put' (b:=t) (by simp)) (by
   intro b hb hm;cases hb;simp only[xms]at hm;omega)
 ·simp;omega
 ·simp;omega
 ·intro b hb e;simp only[xoi]at hb e;omega
 ·rw[q6t (by omega),q6t hi,h7]
 ·intro c hc;simp only[z2r,Option.toList_some,List.singleton_append,xmk0,List.not_mem_nil,or_false]at hc;rcases hc with rfl|rfl|rfl
  ·exact .inl (by simp[z2r])
  ·exact .inr (by omega)
  ·exact .inr (by omega)
end
end Go.Abs
namespace Go.Abs
open Go
theorem q0L.key {κ:Type} {ek:κ->AV} {m:Mem} {s:AV} {ks:List κ} {rb:Option Nat} (h:q0L 1 m s (ks.map fun k=>[ek k]) rb) {i:Nat} (hi:i<ks.length) :
  ∃b,s=.sl (some ⟨b,0⟩) 1 ks.length ks.length false/\ixA 1 ks.length ⟨b,0⟩ (i:Int)=some (.ptr (some ⟨b,i⟩))/\ld1 m (.ptr (some ⟨b,i⟩))=some (ek ks[i]):=by
 obtain⟨b,_,h2,h3,h4,_⟩:=h.at (i:=i) (by simpa using hi);have e:(ks.map fun k=>[ek k]).flatten=ks.map ek:=by
  rw[<-q6U (l:=ks.map ek),List.map_map];rfl
 refine⟨b,by simpa using h2,by simpa using h4,?_⟩;rw[q0f h3,e,List.getElem?_map,xgq hi];rfl
theorem q0L.val {n:Nat} {m:Mem} {s:AV} {vs:List (List AV)} {rb:Option Nat} (h:q0L n m s vs rb) {i:Nat} (hi:i<vs.length) :
  ∃b,s=.sl (some ⟨b,0⟩) n vs.length vs.length false/\ixA n vs.length ⟨b,0⟩ (i:Int)=some (.ptr (some ⟨b,i*n⟩))/\ldN m (.ptr (some ⟨b,i*n⟩)) n=some (.agg vs[i]):=by
 obtain⟨b,_,h2,_,h4,h5⟩:=h.at hi;exact⟨b,h2,h4,by simp[ldN,h5]⟩
theorem q0L.j6q {κ:Type} {ek:κ->AV} {m:Mem} {s:AV} {ks:List κ} {rb:Option Nat} (h:q0L 1 m s (ks.map fun k=>[ek k]) rb):∃a sz cap ex,s=.sl a sz ks.length cap ex:=by
 obtain⟨a,sz,cap,ex,e⟩:=h.len;exact⟨a,sz,cap,ex,by simpa using e⟩
theorem q0C {m:Mem} {b n:Nat} {v:List AV} {ro:Bool} (h:m.get b=some (.cells v ro)) (hv:v.length=n):ldN m (.ptr (some ⟨b,0⟩)) n=some (.agg v):=by
 rw[q1a h (by omega),List.drop_zero,xtl (by omega)]
theorem q07 {m:Mem} {b n:Nat} {cs v:List AV} (h:m.get b=some (.cells cs false)) (hc:cs.length=n) (hv:v.length=n) (ho:v.all AV.one=true):stV m (.ptr (some ⟨b,0⟩)) (.agg v) n=some (m.put b (some (.cells v false))):=by
 rw[q1B h (q09 ho) hv (by omega),List.take_zero,List.nil_append,List.drop_eq_nil_of_le (by omega),List.append_nil]
def j4k {κ:Type} [DecidableEq κ] (lt:κ->κ->Bool) (k:κ) (ks:List κ) (most:Int):List κ:=
 if q0Y lt k ks=true then ks else if (ks.length:Int)<most then q2Q (lb lt k ks) k ks else ks
def j4o {κ α:Type} [DecidableEq κ] (lt:κ->κ->Bool) (k:κ) (ks:List κ) (v:α) (vs:List α) (most:Int):List α:=
 if q0Y lt k ks=true then vs.set (lb lt k ks) v else if (ks.length:Int)<most then q2Q (lb lt k ks) v vs else vs
theorem z4g {κ:Type} {lt:κ->κ->Bool} {k:κ} {ks:List κ} (h:∀x∈ks,lt x k=true):lb lt k ks=ks.length:=
 q2G (xnr _) (fun j hj _=>h _ (List.getElem_mem hj)) (fun hj=>absurd hj (Nat.lt_irrefl _))
theorem z1W {κ:Type} [DecidableEq κ] {lt:κ->κ->Bool} {k:κ} {ks:List κ} (h:∀x∈ks,lt x k=true):q0Y lt k ks=false:=by
 simp[q0Y,z4g h]
theorem q5d {α:Type} (x:α) (l:List α):q2Q l.length x l=l++[x]:=by simp[q2Q]
end Go.Abs
end
namespace Go.Abs
section
open Go
structure Wd where
 hi:Int
 lo:Int
 deriving DecidableEq
def Wd.cells (w:Wd):List AV:=[.int .i64 w.hi,.int .u64 w.lo]
structure q0r where
 name:List UInt8
 scale:Int
 out:Wd
 deriving DecidableEq
def q0r.cells (p:q0r):List AV:=[.str p.name,.int .i64 p.scale,.int .i64 p.out.hi,.int .u64 p.out.lo]
structure q0D where
 x:List UInt8
 y:List UInt8
 rate:Wd
 q06:Int
 inx:Wd
 q1H:Wd
 deriving DecidableEq
def q0D.cells (p:q0D):List AV:=[.str p.x,.str p.y,.int .i64 p.rate.hi,.int .u64 p.rate.lo,.int .i64 p.q06,.int .i64 p.inx.hi,.int .u64 p.inx.lo,.int .i64 p.q1H.hi,.int .u64 p.q1H.lo]
def q0D.key (p:q0D):List UInt8:=p.x++p.y
structure q1k where
 id:Int
 q1C:List UInt8
 bal:Wd
 deriving DecidableEq
def q1k.cells (a:q1k):List AV:=[.int .u64 a.id,.str a.q1C,.int .i64 a.bal.hi,.int .u64 a.bal.lo]
structure LSt where
 q0a:List q0r
 pairs:List q0D
 q0j:List q1k
 latest:Int
 most:Int
@[simp] theorem q0r.q9U (p:q0r):p.cells.length=4:=rfl
@[simp] theorem q0D.q9U (p:q0D):p.cells.length=9:=rfl
@[simp] theorem q1k.q9U (p:q1k):p.cells.length=4:=rfl
def Dj (a b:List Nat):Prop:=∀c,c∈a->c∉b
theorem Dj.symm {a b:List Nat} (h:Dj a b):Dj b a:=fun c h1 h2=>h c h2 h1
theorem Dj.step {a a' b:List Nat} {n:Nat} (h:Dj a b) (ha:∀c,c∈a'->c∈a\/n<=c) (hb:∀c,c∈b->c<n):Dj a' b:=fun c h1 h2=>by
 rcases ha c h1 with h3|h3
 ·exact h c h3 h2
 ·have:=hb c h2;omega
structure q0u (m:Mem) (b:Nat) (st:LSt) (F:List Nat):Prop where
 ex:∃tp tq ta FP FQ FA,m.get b=some (.cells [.int .i64 st.most,.ptr (some ⟨tp,0⟩),.ptr (some ⟨tq,0⟩),.ptr (some ⟨ta,0⟩),.int .u64 st.latest] false)/\
  TabAt .str 4 m tp (st.q0a.map (·.name)) (st.q0a.map (·.cells)) 8 FP/\TabAt .str 9 m tq (st.pairs.map (·.key)) (st.pairs.map (·.cells)) 64 FQ/\
  TabAt (.int .u64) 4 m ta (st.q0j.map (·.id)) (st.q0j.map (·.cells)) st.most FA/\b∉FP/\b∉FQ/\b∉FA/\Dj FP FQ/\Dj FP FA/\Dj FQ FA/\F=b::(FP++FQ++FA)
section
variable {m m':Mem} {b:Nat} {st:LSt} {F S:List Nat}
theorem q0u.frame (h:q0u m b st F) (hf:Fr m m' S) (hd:∀c,c∈F->c∉S):q0u m' b st F:=by
 obtain⟨tp,tq,ta,FP,FQ,FA,h1,h2,h3,h4,h5,h6,h7,h8,h9,h10,rfl⟩:=h.ex;exact⟨tp,tq,ta,FP,FQ,FA,hf.get h1 (hd _ (by simp)),h2.frame hf (fun c hc=>hd c (by simp[hc])),h3.frame hf (fun c hc=>hd c (by simp[hc])),h4.frame hf (fun c hc=>hd c (by simp[hc])),h5,h6,h7,h8,h9,h10,rfl⟩
theorem q0u.q0k (h:q0u m b st F) (hf:Fr m m' []):q0u m' b st F:=h.frame hf (by simp)
theorem q0u.lt (h:q0u m b st F):∀c,c∈F->c<m.next:=by
 obtain⟨tp,tq,ta,FP,FQ,FA,h1,h2,h3,h4,h5,h6,h7,h8,h9,h10,rfl⟩:=h.ex;intro c hc;simp only[xmk0,xma]at hc;rcases hc with rfl|(hc|hc)|hc
 ·exact Mem.q0v h1
 ·exact h2.lt c hc
 ·exact h3.lt c hc
 ·exact h4.lt c hc
theorem q0u.q0a {tp tq ta:Nat} {FP FQ FA FP':List Nat} {ps:List q0r}
  (h1:m.get b=some (.cells [.int .i64 st.most,.ptr (some ⟨tp,0⟩),.ptr (some ⟨tq,0⟩),.ptr (some ⟨ta,0⟩),.int .u64 st.latest] false))
  (h2:TabAt .str 4 m tp (st.q0a.map (·.name)) (st.q0a.map (·.cells)) 8 FP) (h3:TabAt .str 9 m tq (st.pairs.map (·.key)) (st.pairs.map (·.cells)) 64 FQ) (h4:TabAt (.int .u64) 4 m ta (st.q0j.map (·.id)) (st.q0j.map (·.cells)) st.most FA)
  (h5:b∉FP) (h6:b∉FQ) (h7:b∉FA) (h8:Dj FP FQ) (h9:Dj FP FA) (h10:Dj FQ FA)
  (hf:Fr m m' FP) (ht:TabAt .str 4 m' tp (ps.map (·.name)) (ps.map (·.cells)) 8 FP') (hs:∀c,c∈FP'->c∈FP\/m.next<=c) :
  ∃F',q0u m' b {st with q0a:=ps} F'/\Fr m m' (b::(FP++FQ++FA))/\∀c,c∈F'->c∈b::(FP++FQ++FA)\/m.next<=c:=by
 refine⟨b::(FP'++FQ++FA),⟨tp,tq,ta,FP',FQ,FA,hf.get h1 h5,ht,h3.frame hf h8.symm,h4.frame hf h9.symm,?_,h6,h7,h8.step hs h3.lt,h9.step hs h4.lt,h10,rfl⟩,hf.mono (by simp +contextual),?_⟩
 ·intro hb;rcases hs b hb with h|h
  ·exact h5 h
  ·have:=Mem.q0v h1;omega
 ·intro c hc;simp only[xmk0,xma]at hc⊢;rcases hc with rfl|(hc|hc)|hc
  ·exact .inl (.inl rfl)
  ·rcases hs c hc with h|h
   ·exact .inl (.inr (.inl (.inl h)))
   ·exact .inr h
  ·exact .inl (.inr (.inl (.inr hc)))
  ·exact .inl (.inr (.inr hc))
theorem q0u.q0j {tp tq ta:Nat} {FP FQ FA FA':List Nat} {az:List q1k}
  (h1:m.get b=some (.cells [.int .i64 st.most,.ptr (some ⟨tp,0⟩),.ptr (some ⟨tq,0⟩),.ptr (some ⟨ta,0⟩),.int .u64 st.latest] false))
  (h2:TabAt .str 4 m tp (st.q0a.map (·.name)) (st.q0a.map (·.cells)) 8 FP) (h3:TabAt .str 9 m tq (st.pairs.map (·.key)) (st.pairs.map (·.cells)) 64 FQ) (h4:TabAt (.int .u64) 4 m ta (st.q0j.map (·.id)) (st.q0j.map (·.cells)) st.most FA)
  (h5:b∉FP) (h6:b∉FQ) (h7:b∉FA) (h8:Dj FP FQ) (h9:Dj FP FA) (h10:Dj FQ FA)
  (hf:Fr m m' FA) (ht:TabAt (.int .u64) 4 m' ta (az.map (·.id)) (az.map (·.cells)) st.most FA') (hs:∀c,c∈FA'->c∈FA\/m.next<=c) :
  ∃F',q0u m' b {st with q0j:=az} F'/\Fr m m' (b::(FP++FQ++FA))/\∀c,c∈F'->c∈b::(FP++FQ++FA)\/m.next<=c:=by
 refine⟨b::(FP++FQ++FA'),⟨tp,tq,ta,FP,FQ,FA',hf.get h1 h7,h2.frame hf h9,h3.frame hf h10,ht,h5,h6,?_,h8,(h9.symm.step hs h2.lt).symm,(h10.symm.step hs h3.lt).symm,rfl⟩,hf.mono (by simp +contextual),?_⟩
 ·intro hb;rcases hs b hb with h|h
  ·exact h7 h
  ·have:=Mem.q0v h1;omega
 ·intro c hc;simp only[xmk0,xma]at hc⊢;rcases hc with rfl|(hc|hc)|hc
  ·exact .inl (.inl rfl)
  ·exact .inl (.inr (.inl (.inl hc)))
  ·exact .inl (.inr (.inl (.inr hc)))
  ·rcases hs c hc with h|h
   ·exact .inl (.inr (.inr h))
   ·exact .inr h
theorem q0u.pairs {tp tq ta:Nat} {FP FQ FA FQ':List Nat} {qs:List q0D}
  (h1:m.get b=some (.cells [.int .i64 st.most,.ptr (some ⟨tp,0⟩),.ptr (some ⟨tq,0⟩),.ptr (some ⟨ta,0⟩),.int .u64 st.latest] false))
  (h2:TabAt .str 4 m tp (st.q0a.map (·.name)) (st.q0a.map (·.cells)) 8 FP) (h3:TabAt .str 9 m tq (st.pairs.map (·.key)) (st.pairs.map (·.cells)) 64 FQ) (h4:TabAt (.int .u64) 4 m ta (st.q0j.map (·.id)) (st.q0j.map (·.cells)) st.most FA)
  (h5:b∉FP) (h6:b∉FQ) (h7:b∉FA) (h8:Dj FP FQ) (h9:Dj FP FA) (h10:Dj FQ FA)
  (hf:Fr m m' FQ) (ht:TabAt .str 9 m' tq (qs.map (·.key)) (qs.map (·.cells)) 64 FQ') (hs:∀c,c∈FQ'->c∈FQ\/m.next<=c) :
  ∃F',q0u m' b {st with pairs:=qs} F'/\Fr m m' (b::(FP++FQ++FA))/\∀c,c∈F'->c∈b::(FP++FQ++FA)\/m.next<=c:=by
 refine⟨b::(FP++FQ'++FA),⟨tp,tq,ta,FP,FQ',FA,hf.get h1 h6,h2.frame hf h8,ht,h4.frame hf h10.symm,h5,?_,h7,(h8.symm.step hs h2.lt).symm,h9,h10.step hs h4.lt,rfl⟩,hf.mono (by simp +contextual),?_⟩
 ·intro hb;rcases hs b hb with h|h
  ·exact h6 h
  ·have:=Mem.q0v h1;omega
 ·intro c hc;simp only[xmk0,xma]at hc⊢;rcases hc with rfl|(hc|hc)|hc
  ·exact .inl (.inl rfl)
  ·exact .inl (.inr (.inl (.inl hc)))
  ·rcases hs c hc with h|h
   ·exact .inl (.inr (.inl (.inr h)))
   ·exact .inr h
  ·exact .inl (.inr (.inr hc))
end
theorem q0u.latest {m:Mem} {b:Nat} {st:LSt} {tp tq ta:Nat} {FP FQ FA:List Nat} (n:Int)
  (h1:m.get b=some (.cells [.int .i64 st.most,.ptr (some ⟨tp,0⟩),.ptr (some ⟨tq,0⟩),.ptr (some ⟨ta,0⟩),.int .u64 st.latest] false))
  (h2:TabAt .str 4 m tp (st.q0a.map (·.name)) (st.q0a.map (·.cells)) 8 FP) (h3:TabAt .str 9 m tq (st.pairs.map (·.key)) (st.pairs.map (·.cells)) 64 FQ) (h4:TabAt (.int .u64) 4 m ta (st.q0j.map (·.id)) (st.q0j.map (·.cells)) st.most FA)
  (h5:b∉FP) (h6:b∉FQ) (h7:b∉FA) {m':Mem} (hm:m'=m.put b (some (.cells [.int .i64 st.most,.ptr (some ⟨tp,0⟩),.ptr (some ⟨tq,0⟩),.ptr (some ⟨ta,0⟩),.int .u64 n] false))) :
  stV m (.ptr (some ⟨b,4⟩)) (.int .u64 n) 1=some m'/\Fr m m' [b]/\m'.get b=some (.cells [.int .i64 st.most,.ptr (some ⟨tp,0⟩),.ptr (some ⟨tq,0⟩),.ptr (some ⟨ta,0⟩),.int .u64 n] false)/\
   TabAt .str 4 m' tp (st.q0a.map (·.name)) (st.q0a.map (·.cells)) 8 FP/\TabAt .str 9 m' tq (st.pairs.map (·.key)) (st.pairs.map (·.cells)) 64 FQ/\TabAt (.int .u64) 4 m' ta (st.q0j.map (·.id)) (st.q0j.map (·.cells)) st.most FA:=by
 subst hm;have hf:=Fr.put m b (some (.cells [.int .i64 st.most,.ptr (some ⟨tp,0⟩),.ptr (some ⟨tq,0⟩),.ptr (some ⟨ta,0⟩),.int .u64 n] false));refine⟨?_,hf,q0w h1,h2.frame hf ?_,h3.frame hf ?_,h4.frame hf ?_⟩
 ·have:=q1B (v:=.int .u64 n) (o:=4) (n:=1) h1 rfl rfl (by simp);simpa using this
 ·intro c hc hm;simp only[xms]at hm;subst hm;exact h5 hc
 ·intro c hc hm;simp only[xms]at hm;subst hm;exact h6 hc
 ·intro c hc hm;simp only[xms]at hm;subst hm;exact h7 hc
theorem q3u {α β:Type} (f:α->β) (i:Nat) (x:α) (l:List α):(q2Q i x l).map f=q2Q i (f x) (l.map f):=by simp[q2Q]
def q3x (s:List UInt8):Bool:=s.all (fun c=>decide (65<=c.toNat)&&decide (c.toNat<=90))&&decide (s.length=3)
def z1G (st:LSt) (name:List UInt8) (scale:Int):Int×LSt:=
 if q3x name=false then (41,st) else if 18<scale then (21,st) else if q0Y q0c name (st.q0a.map (·.name))=true then (45,st)
 else if 8<=st.q0a.length then (2,st) else (0,{st with q0a:=q2Q (lb q0c name (st.q0a.map (·.name))) ⟨name,scale,⟨0,0⟩⟩ st.q0a})
def z0U (st:LSt) (name:List UInt8):Int×Int×LSt:=
 if q0Y q0c name (st.q0a.map (·.name))=false then (0,41,st) else if st.most<=st.q0j.length\/72057594037927935<=st.latest then (0,2,st)
 else (st.latest+1,0,{st with latest:=st.latest+1,q0j:=st.q0j++[⟨st.latest+1,name,⟨0,0⟩⟩]})
end
section
open Go
theorem PT.q37 (f:Nat) (t:PT) (v:Option Blk):PT.z5Y f t 0 v=.node v t.lft t.rgt:=by
 cases f with
 |zero=>rfl
 |succ f=>rw[PT.q3h,if_pos rfl]
theorem PT.q5q:∀(f g:Nat) (t:PT) (k:Nat) (v:Option Blk),k<=f->k<=g->PT.z5Y f t k v=PT.z5Y g t k v
 | 0,g,t,k,v,h,_=>by
  have:k=0:=by omega
  subst this;rw[PT.q37,PT.q37]
 |f+1,0,t,k,v,_,h=>by
  have:k=0:=by omega
  subst this;rw[PT.q37,PT.q37]
 |f+1,g+1,t,k,v,h,h'=>by
  rw[PT.q3h,PT.q3h];by_cases h0:k=0
  ·rw[if_pos h0,if_pos h0]
  ·rw[if_neg h0,if_neg h0,PT.q5q f g t.lft (k / 2) v (by omega) (by omega),PT.q5q f g t.rgt (k / 2-1) v (by omega) (by omega)]
theorem PT.q3E (t:PT) (v:Option Blk):t.set 0 v=.node v t.lft t.rgt:=PT.q37 0 t v
theorem PT.q3D (t:PT) {k:Nat} (h:k % 2=1) (v:Option Blk):t.set k v=.node t.val (t.lft.set (k / 2) v) t.rgt:=by
 obtain⟨j,rfl⟩:∃j,k=j+1:=⟨k-1,by omega⟩;unfold PT.set;rw[PT.q3h,if_neg (by omega),if_pos h,PT.q5q j ((j+1) / 2) _ _ _ (by omega) (by omega)]
theorem PT.q2u (t:PT) {k:Nat} (h0:k≠0) (h:k % 2≠1) (v:Option Blk):t.set k v=.node t.val t.lft (t.rgt.set (k / 2-1) v):=by
 obtain⟨j,rfl⟩:∃j,k=j+1:=⟨k-1,by omega⟩;unfold PT.set;rw[PT.q3h,if_neg (by omega),if_neg h,PT.q5q j ((j+1) / 2-1) _ _ _ (by omega) (by omega)]
theorem PT.q1V (v:Option Blk) (l r:PT):(PT.node v l r).lft=l:=rfl
theorem PT.q1Z (v:Option Blk) (l r:PT):(PT.node v l r).rgt=r:=rfl
theorem PT.q2f (v:Option Blk) (l r:PT):(PT.node v l r).val=v:=rfl
theorem PT.set_set (k:Nat):∀(t:PT) (a b:Option Blk),(t.set k a).set k b=t.set k b:=by
 induction k using Nat.strongRecOn with
 | _ k ih=>
  intro t a b;by_cases h0:k=0
  ·subst h0;rw[PT.q3E,PT.q3E,PT.q3E,PT.q1V,PT.q1Z]
  ·by_cases h1:k % 2=1
   ·rw[PT.q3D t h1,PT.q3D _ h1,PT.q3D t h1,PT.q1V,PT.q1Z,PT.q2f,ih (k / 2) (by omega)]
   ·rw[PT.q2u t h0 h1,PT.q2u _ h0 h1,PT.q2u t h0 h1,PT.q1V,PT.q1Z,PT.q2f,ih (k / 2-1) (by omega)]
theorem PT.set_comm (k:Nat):∀(j:Nat) (t:PT) (a b:Option Blk),k≠j->(t.set k a).set j b=(t.set j b).set k a:=by
 induction k using Nat.strongRecOn with
 | _ k ih=>
  intro j t a b hkj;by_cases h0:k=0
  ·subst h0;have hj:j≠0:=fun e=>hkj e.symm
   by_cases h1:j % 2=1
   ·simp only[PT.q3E,PT.q3D _ h1,PT.q1V,PT.q1Z,PT.q2f]
   ·simp only[PT.q3E,PT.q2u _ hj h1,PT.q1V,PT.q1Z,PT.q2f]
  ·by_cases hj:j=0
   ·subst hj;by_cases h1:k % 2=1
    ·simp only[PT.q3E,PT.q3D _ h1,PT.q1V,PT.q1Z,PT.q2f]
    ·simp only[PT.q3E,PT.q2u _ h0 h1,PT.q1V,PT.q1Z,PT.q2f]
   ·by_cases h1:k % 2=1<;>by_cases h2:j % 2=1
    ·simp only[PT.q3D _ h1,PT.q3D _ h2,PT.q1V,PT.q1Z,PT.q2f];rw[ih (k / 2) (by omega) (j / 2) _ _ _ (by omega)]
    ·simp only[PT.q3D _ h1,PT.q2u _ hj h2,PT.q1V,PT.q1Z,PT.q2f]
    ·simp only[PT.q2u _ h0 h1,PT.q3D _ h2,PT.q1V,PT.q1Z,PT.q2f]
    ·simp only[PT.q2u _ h0 h1,PT.q2u _ hj h2,PT.q1V,PT.q1Z,PT.q2f];rw[ih (k / 2-1) (by omega) (j / 2-1) _ _ _ (by omega)]
theorem q03 (m:Mem) (v w:Blk):(m.lay v).put m.next (some w)=m.lay w:=by
 simp only[Mem.put,Mem.lay,PT.set_set]
theorem z5t {m:Mem} {b:Nat} (h:b≠m.next) (v:Blk) (w:Option Blk):(m.lay v).put b w=(m.put b w).lay v:=by
 simp only[Mem.put,Mem.lay];rw[PT.set_comm _ _ _ _ _ (fun e=>h e.symm)]
theorem j9Y (m:Mem) (cs:List AV) (ro:Bool) (b o:Nat):ld1 (m.lay (.cells cs ro)) (.ptr (some ⟨b,o⟩))=if b=m.next then cs[o]? else ld1 m (.ptr (some ⟨b,o⟩)):=by
 simp only[ld1,Mem.q0E];by_cases h:b=m.next<;>simp[h]
theorem z9I (m:Mem) (cs:List AV) (ro:Bool) (b o n:Nat):ldN (m.lay (.cells cs ro)) (.ptr (some ⟨b,o⟩)) n=if b=m.next then (if o+n<=cs.length then some (.agg ((cs.drop o).take n)) else none) else ldN m (.ptr (some ⟨b,o⟩)) n:=by
 simp only[ldN,q0y,Mem.q0E];by_cases h:b=m.next
 ·simp only[h,if_true];split<;>simp_all
 ·simp[h]
def over (cs:List AV) (o:Nat) (v:AV) (n:Nat):Option (List AV):=
 match v.cells with
 |some vs=>if vs.length=n then if o+n<=cs.length then some (cs.take o++vs++cs.drop (o+n)) else none else none
 |none=>none
theorem a0I (m:Mem) (cs:List AV) (b o:Nat) (v:AV) (n:Nat):stV (m.lay (.cells cs false)) (.ptr (some ⟨b,o⟩)) v n =
  if b=m.next then (over cs o v n).map (fun c=>m.lay (.cells c false)) else (stV m (.ptr (some ⟨b,o⟩)) v n).map (fun m'=>m'.lay (.cells cs false)):=by
 unfold over;by_cases h:b=m.next
 ·subst h;simp only[stV,q1h,q0e,if_true];cases hv:v.cells with
  |none=>rfl
  |some vs=>
   simp only;by_cases hn:vs.length=n
   ·subst hn;simp only[if_true];by_cases hl:o+vs.length<=cs.length
    ·simp only[if_pos hl,q03,xom]
    ·simp only[if_neg hl,Option.map_none]
   ·simp only[if_neg hn,Option.map_none]
 ·simp only[stV,q1h,q52 h,if_neg h];cases hv:v.cells with
  |none=>rfl
  |some vs=>
   simp only;by_cases hn:vs.length=n
   ·simp only[if_pos hn];cases hg:m.get b with
    |none=>rfl
    |some blk=>
     cases blk with
     |cells c ro=>
      cases ro with
      |true=>rfl
      |false=>
       simp only;by_cases hl:o+vs.length<=c.length
       ·simp only[if_pos hl,z5t h,xom]
       ·simp only[if_neg hl,Option.map_none]
     |loop _=>rfl
     |map _=>rfl
   ·simp only[if_neg hn,Option.map_none]
theorem nn1 (n:Nat):(n=n+1)=False:=by simp
theorem nn2 (n:Nat):(n=n+1+1)=False:=by simp;omega
theorem nn3 (n:Nat):(n=n+1+1+1)=False:=by simp;omega
theorem nn4 (n:Nat):(n=n+1+1+1+1)=False:=by simp;omega
theorem nn5 (n:Nat):(n=n+1+1+1+1+1)=False:=by simp;omega
theorem nn6 (n:Nat):(n=n+1+1+1+1+1+1)=False:=by simp;omega
theorem nn7 (n:Nat):(n=n+1+1+1+1+1+1+1)=False:=by simp;omega
theorem nn8 (n:Nat):(n=n+1+1+1+1+1+1+1+1)=False:=by simp;omega
def Res (m:Mem) (r:R) (v:AV):Prop:=∃m',r=some (v,m')/\Fr m m' []
theorem Res.of {m m':Mem} {v:AV} (h:Fr m m' []):Res m (some (v,m')) v:=⟨m',rfl,h⟩
theorem Res.eq {m m':Mem} {v w:AV} (h:Fr m m' []) (e:v=w):Res m (some (v,m')) w:=⟨m',by rw[e],h⟩
theorem Fr.lays (m m1:Mem) (v:Blk) (h:Fr m m1 []):Fr m (m1.lay v) []:=h.lay v
def Wd.ok (w:Wd):Prop:=-9223372036854775808<=w.hi/\w.hi<9223372036854775808/\0<=w.lo/\w.lo<18446744073709551616
def Wd.val (w:Wd):Int:=w.hi*18446744073709551616+w.lo
def Wd.of (n:Int):Wd:=⟨n / 18446744073709551616,n % 18446744073709551616⟩
def q0M (n:Int):Bool:=decide (-170141183460469231731687303715884105728<=n)&&decide (n<170141183460469231731687303715884105728)
def Wd.res (n:Int):Wd×Int:=if q0M n=true then (.of n,0) else (⟨0,0⟩,20)
theorem Wd.q3y {n:Int} (h:q0M n=true):(Wd.of n).ok:=by
 simp only[q0M,Bool.and_eq_true,decide_eq_true_eq]at h;unfold Wd.ok Wd.of;simp only;omega
theorem Wd.q1t (n:Int):(Wd.of n).val=n:=by unfold Wd.val Wd.of;simp only;omega
theorem Wd.q6C {w:Wd} (h:w.ok):q0M w.val=true:=by
 obtain⟨h1,h2,h3,h4⟩:=h;unfold q0M;rw[Bool.and_eq_true];exact⟨dt (by unfold Wd.val;omega),dt (by unfold Wd.val;omega)⟩
theorem q2N (x:Int):IntKind.wrap .i64 x=if x % 18446744073709551616>=9223372036854775808 then x % 18446744073709551616-18446744073709551616 else x % 18446744073709551616:=by
 simp[IntKind.wrap,IntKind.bits,IntKind.signed]
theorem j0m {hi lo n:Int} (h:q0M n=true) (hl:0<=lo/\lo<18446744073709551616) (e:hi*18446744073709551616+lo=n) :
  AV.tup [.agg [.int .i64 hi,.int .u64 lo],.int .i64 0]=.tup [.agg (Wd.res n).1.cells,.int .i64 (Wd.res n).2]:=by
 have e1:hi=n / 18446744073709551616:=by omega
 have e2:lo=n % 18446744073709551616:=by omega
 unfold Wd.res;rw[if_pos h,e1,e2];rfl
theorem q4q {n:Int} (h:q0M n=false):AV.tup [.agg [.int .i64 0,.int .u64 0],.int .i64 20]=.tup [.agg (Wd.res n).1.cells,.int .i64 (Wd.res n).2]:=by
 unfold Wd.res;rw[h];rfl
theorem q0X {n:Int} (h1:-170141183460469231731687303715884105728<=n) (h2:n<170141183460469231731687303715884105728):q0M n=true:=by
 unfold q0M;rw[dt h1,dt h2];rfl
theorem q1q {n:Int} (h:n < -170141183460469231731687303715884105728\/170141183460469231731687303715884105728<=n):q0M n=false:=by
 unfold q0M;rcases h with h|h
 ·rw[df (by omega)];rfl
 ·rw[df (show ¬n<170141183460469231731687303715884105728 by omega),Bool.and_false]
end
end Go.Abs
