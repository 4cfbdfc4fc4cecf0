/- Texts of one claim, put together. -/
import Derived.Test.YtlginbmjiecglaaGreatDoorW18
namespace Go.Abs
section
open Go
theorem q0L.fld {n:Nat} {m:Mem} {s:AV} {l:List (List AV)} {rb:Option Nat} (h:q0L n m s l rb) {i:Nat} (hi:i<l.length) :
  ∃b,rb=some b/\s=.sl (some ⟨b,0⟩) n l.length l.length false/\ixA n l.length ⟨b,0⟩ (i:Int)=some (.ptr (some ⟨b,i*n⟩))/\(∀o,o<n->ld1 m (.ptr (some ⟨b,i*n+o⟩))=l[i][o]?)/\
   (∀o k,o+k<=n->ldN m (.ptr (some ⟨b,i*n+o⟩)) k=some (.agg ((l[i].drop o).take k))):=by
 have hl:=h.lens;obtain⟨b,h1,h2,h3,h4,h5⟩:=h.at hi;have hli:l[i].length=n:=hl _ (List.getElem_mem hi);have hd:l.flatten.drop (i*n)=l[i]++(l.drop (i+1)).flatten:=by
  rw[q1T i hl,List.drop_eq_getElem_cons hi,List.flatten_cons]
 have hfl:=q1j hl;have hle:(i+1)*n<=l.length*n:=Nat.mul_le_mul_right n hi;rw[Nat.succ_mul]at hle;refine⟨b,h1,h2,h4,fun o ho=>?_,fun o k hk=>?_⟩
 ·rw[q0f h3,<-List.getElem?_drop,hd,List.getElem?_append_left (by omega)]
 ·rw[q1a h3 (by omega),<-List.drop_drop,hd,List.drop_append_of_le_length (by omega),List.take_append_of_le_length (by rw[xld0];omega)]
def q3t {α:Type} (p:α->Bool):List α->Nat->Int
 |[],_=>-1
 |x::l,i=>if p x then (i:Int) else q3t p l (i+1)
theorem q4k {α κ:Type} [DecidableEq κ] {lt:κ->κ->Bool} (f:α->κ) (k:κ) (irr:∀a,lt a a=false):∀(l:List α) (i:Nat),Srt lt (l.map f)->q3t (fun x=>decide (f x=k)) l i=if q0Y lt k (l.map f)=true then ((i+lb lt k (l.map f):Nat):Int) else -1
 |[],i,_=>by simp[q3t,q0Y]
 |x::l,i,hs=>by
  unfold q3t;have hs':Srt lt (l.map f):=by unfold Srt at hs⊢;rw[List.map_cons,List.pairwise_cons]at hs;exact hs.2
  have hx:∀y∈l.map f,lt (f x) y=true:=by unfold Srt at hs;rw[List.map_cons,List.pairwise_cons]at hs;exact hs.1
  have ih:=q4k f k irr l (i+1) hs';by_cases e:f x=k
  ·rw[if_pos (dt e)];have hlb:lb lt k ((x::l).map f)=0:=by
    unfold lb;rw[List.map_cons,List.takeWhile_cons,e,irr];simp
   have hh:q0Y lt k ((x::l).map f)=true:=by unfold q0Y;rw[hlb];simp[e]
   rw[if_pos hh,hlb];rfl
  ·rw[if_neg (by simpa using e),ih];by_cases h2:lt (f x) k=true
   ·have hlb:lb lt k ((x::l).map f)=lb lt k (l.map f)+1:=by
     unfold lb;rw[List.map_cons,List.takeWhile_cons,if_pos h2,List.length_cons]
    have hh:q0Y lt k ((x::l).map f)=q0Y lt k (l.map f):=by
     unfold q0Y;rw[hlb,List.map_cons,xgs]
    rw[hh,hlb];by_cases h3:q0Y lt k (l.map f)=true
    ·rw[if_pos h3,if_pos h3];congr 1;omega
    ·rw[if_neg h3,if_neg h3]
   ·have hlb:lb lt k ((x::l).map f)=0:=by
     unfold lb;rw[List.map_cons,List.takeWhile_cons,if_neg h2];rfl
    have hh:q0Y lt k ((x::l).map f)=false:=by unfold q0Y;rw[hlb];simp[e]
    rw[hh];have hn:q0Y lt k (l.map f)=false:=by
     cases h3:q0Y lt k (l.map f) with
     |false=>rfl
     |true=>
      have:=hx k (List.mem_of_getElem? (q31 h3));exact absurd this h2
    rw[hn];simp
structure q0G (m:Mem) (b:Nat) (st:LSt) (F:List Nat):Prop where
 ex:∃sp sq sa rp rq ra,m.get b=some (.cells [sp,sq,sa,.int .u64 st.latest,.int .i64 st.most] false)/\q0L 4 m sp (st.q0a.map (·.cells)) rp/\q0L 9 m sq (st.pairs.map (·.cells)) rq/\q0L 4 m sa (st.q0j.map (·.cells)) ra/\
  b∉rp.toList/\b∉rq.toList/\b∉ra.toList/\Dj rp.toList rq.toList/\Dj rp.toList ra.toList/\Dj rq.toList ra.toList/\F=b::(rp.toList++rq.toList++ra.toList)
theorem q0G.frame {m m':Mem} {b:Nat} {st:LSt} {F S:List Nat} (h:q0G m b st F) (hf:Fr m m' S) (hd:∀c,c∈F->c∉S):q0G m' b st F:=by
 obtain⟨sp,sq,sa,rp,rq,ra,h1,h2,h3,h4,h5,h6,h7,h8,h9,h10,rfl⟩:=h.ex;exact⟨sp,sq,sa,rp,rq,ra,hf.get h1 (hd _ (by simp)),h2.frame hf (fun c hc=>hd c (by simp[hc])),h3.frame hf (fun c hc=>hd c (by simp[hc])),h4.frame hf (fun c hc=>hd c (by simp[hc])),h5,h6,h7,h8,h9,h10,rfl⟩
theorem q0G.q0k {m m':Mem} {b:Nat} {st:LSt} {F:List Nat} (h:q0G m b st F) (hf:Fr m m' []):q0G m' b st F:=h.frame hf (by simp)
end
end Go.Abs
namespace Go.Proofs.YtlginbmjiecglaaGreatDoor
section
set_option maxRecDepth 4000
open Go Go.Abs
section
variable {m:Mem} {b:Nat} {st:LSt} {F:List Nat}
theorem z2l (h:q0G m b st F) (hn:st.q0a.length<=1000) (k:List UInt8):∀(d i:Nat),i+d=st.q0a.length->
  D19.gor 147456 [.ptr (some ⟨b,0⟩),.str k,.int .i64 (i:Int)] m=some (.int .i64 (q3t (fun p=>decide (p.name=k)) (st.q0a.drop i) i),m):=by
 obtain⟨sp,sq,sa,rp,rq,ra,h1,h2,h3,h4,h5⟩:=h.ex;have a3:∀i:Nat,ld1 m (.ptr (some ⟨b,i⟩))=[sp,sq,sa,.int .u64 st.latest,.int .i64 st.most][i]?:=fun i=>q0f h1
 intro d;induction d with
 |zero=>
  intro i hi;have:i=st.q0a.length:=by omega
  subst this;obtain⟨a,sz,cap,ex,e⟩:=h2.len;rw[xlm]at e;subst e;rw[List.drop_length];simp only[q6p (H:=H19),T.z8V,p1,q1,p2,nnA,q0b,q0d,a3,df (show ¬((st.q0a.length:Nat):Int)<(st.q0a.length:Int) by omega),z3l (H:=H19),T.j8q,wp,q3t]
 |succ d ih=>
  intro i hi;have hlt:i<st.q0a.length:=by omega
  obtain⟨bb,_,e,e2,e3,_⟩:=h2.fld (i:=i) (by rw[xlm];exact hlt);rw[xlm]at e e2;subst e;have e4:=e3 0 (by omega);rw[xgm]at e4;rw[List.drop_eq_getElem_cons hlt];unfold q3t;simp only[xna,q0r.cells]at e4;simp only[q6p (H:=H19),T.z8V,p1,q1,p2,nnA,q0b,q0d,a3,dt (show (i:Int)<(st.q0a.length:Int) by omega)];simp only[z3j (H:=H19),T.j8o,p1,q1,p2,nnA,q0b,q0d,a3,true_or,if_true,e2,e4]
  by_cases hk:st.q0a[i].name=k
  ·simp only[dt hk,if_true]
  ·simp only[df hk,xbq,if_false];simp only[z3k (H:=H19),T.j8p,p2,wp,show (i:Int)+1=((i+1:Nat):Int) by omega,wrap_i64 (n:=((i+1:Nat):Int)) (by omega) (by omega)];exact ih (i+1) (by omega)
theorem j0v (h:q0G m b st F) (hn:st.q0a.length<=1000) (k:List UInt8):run E19 (.fn 36) [.ptr (some ⟨b,0⟩),.str k] m=some (.int .i64 (q3t (fun p=>decide (p.name=k)) st.q0a 0),m):=by
 have:=z2l h hn k st.q0a.length 0 (by omega);rw[List.drop_zero]at this;simp only[j5e (H:=H19) rfl,T.f36,wp];exact this
theorem j0c (h:q0G m b st F) (hn:st.q0j.length<=1000) (k:Int):∀(d i:Nat),i+d=st.q0j.length->
  D19.gor 290816 [.ptr (some ⟨b,0⟩),.int .u64 k,.int .i64 (i:Int)] m=some (.int .i64 (q3t (fun p=>decide (p.id=k)) (st.q0j.drop i) i),m):=by
 obtain⟨sp,sq,sa,rp,rq,ra,h1,h2,h3,h4,h5⟩:=h.ex;have a3:∀i:Nat,ld1 m (.ptr (some ⟨b,i⟩))=[sp,sq,sa,.int .u64 st.latest,.int .i64 st.most][i]?:=fun i=>q0f h1
 intro d;induction d with
 |zero=>
  intro i hi;have:i=st.q0j.length:=by omega
  subst this;obtain⟨a,sz,cap,ex,e⟩:=h4.len;rw[xlm]at e;subst e;rw[List.drop_length];simp only[z3F (H:=H19),T.j8E,p1,q1,p2,nnA,q0b,q0d,a3,df (show ¬((st.q0j.length:Nat):Int)<(st.q0j.length:Int) by omega),j3c (H:=H19),T.a4L,wp,q3t]
 |succ d ih=>
  intro i hi;have hlt:i<st.q0j.length:=by omega
  obtain⟨bb,_,e,e2,e3,_⟩:=h4.fld (i:=i) (by rw[xlm];exact hlt);rw[xlm]at e e2;subst e;have e4:=e3 0 (by omega);rw[xgm]at e4;rw[List.drop_eq_getElem_cons hlt];unfold q3t;simp only[xna,q1k.cells]at e4;simp only[z3F (H:=H19),T.j8E,p1,q1,p2,nnA,q0b,q0d,a3,dt (show (i:Int)<(st.q0j.length:Int) by omega)];simp only[j3a (H:=H19),T.a4J,p1,q1,p2,nnA,q0b,q0d,a3,true_or,if_true,e2,e4]
  by_cases hk:st.q0j[i].id=k
  ·simp only[dt hk,if_true]
  ·simp only[df hk,xbq,if_false];simp only[j3b (H:=H19),T.a4K,p2,wp,show (i:Int)+1=((i+1:Nat):Int) by omega,wrap_i64 (n:=((i+1:Nat):Int)) (by omega) (by omega)];exact ih (i+1) (by omega)
theorem a0g (h:q0G m b st F) (hn:st.q0j.length<=1000) (k:Int):run E19 (.fn 71) [.ptr (some ⟨b,0⟩),.int .u64 k] m=some (.int .i64 (q3t (fun p=>decide (p.id=k)) st.q0j 0),m):=by
 have:=j0c h hn k st.q0j.length 0 (by omega);rw[List.drop_zero]at this;simp only[a19 (H:=H19) rfl,T.f71,wp];exact this
theorem z5D (h:q0G m b st F) (hn:st.pairs.length<=1000) (x y:List UInt8):∀(d i:Nat),i+d=st.pairs.length->
  D19.gor 311296 [.ptr (some ⟨b,0⟩),.str x,.str y,.int .i64 (i:Int)] m=some (.int .i64 (q3t (fun p=>decide (p.x=x)&&decide (p.y=y)) (st.pairs.drop i) i),m):=by
 obtain⟨sp,sq,sa,rp,rq,ra,h1,h2,h3,h4,h5⟩:=h.ex;have a3:∀i:Nat,ld1 m (.ptr (some ⟨b,i⟩))=[sp,sq,sa,.int .u64 st.latest,.int .i64 st.most][i]?:=fun i=>q0f h1
 intro d;induction d with
 |zero=>
  intro i hi;have:i=st.pairs.length:=by omega
  subst this;obtain⟨a,sz,cap,ex,e⟩:=h3.len;rw[xlm]at e;subst e;rw[List.drop_length];simp only[z3G (H:=H19),T.j8F,p1,q1,p2,nnA,q0b,q0d,a3,df (show ¬((st.pairs.length:Nat):Int)<(st.pairs.length:Int) by omega),j3h (H:=H19),T.a4P,wp,q3t]
 |succ d ih=>
  intro i hi;have hlt:i<st.pairs.length:=by omega
  obtain⟨bb,_,e,e2,e3,_⟩:=h3.fld (i:=i) (by rw[xlm];exact hlt);rw[xlm]at e e2;subst e;have e4:=e3 0 (by omega);have e5:=e3 1 (by omega);rw[xgm]at e4 e5;rw[List.drop_eq_getElem_cons hlt];unfold q3t;simp only[ge,xna,q0D.cells]at e4 e5;simp only[z3G (H:=H19),T.j8F,p1,q1,p2,nnA,q0b,q0d,a3,dt (show (i:Int)<(st.pairs.length:Int) by omega)];have tl:=ih (i+1) (by omega);have st2:D19.gor 311298 [.ptr (some ⟨b,0⟩),.str x,.str y,.int .i64 (i:Int)] m=some (.int .i64 (q3t (fun p=>decide (p.x=x)&&decide (p.y=y)) (st.pairs.drop (i+1)) (i+1)),m):=by
   simp only[j3g (H:=H19),T.a4O,p2,wp,show (i:Int)+1=((i+1:Nat):Int) by omega,wrap_i64 (n:=((i+1:Nat):Int)) (by omega) (by omega)];exact tl
  simp only[j3f (H:=H19),T.a4N,p1,q1,p2,nnA,q0b,ifV,q0d,a3,true_or,if_true,e2,e4,e5,st2];by_cases hx:st.pairs[i].x=x
  ·by_cases hy:st.pairs[i].y=y
   ·simp only[dt hx,dt hy,Bool.and_self,if_true]
   ·simp only[dt hx,df hy,Bool.and_false,xbq,if_false]
  ·simp only[df hx,Bool.false_and,xbq,if_false]
theorem j4F (h:q0G m b st F) (hn:st.pairs.length<=1000) (x y:List UInt8):run E19 (.fn 76) [.ptr (some ⟨b,0⟩),.str x,.str y] m=some (.int .i64 (q3t (fun p=>decide (p.x=x)&&decide (p.y=y)) st.pairs 0),m):=by
 have:=z5D h hn x y st.pairs.length 0 (by omega);rw[List.drop_zero]at this;simp only[a2d (H:=H19) rfl,T.f76,wp];exact this
end
end
section
set_option maxRecDepth 4000
open Go Go.Abs
theorem j4D (s:List UInt8) (hl:s.length<4611686018427387904) (m:Mem):run E19 (.fn 35) [.str s] m=some (.bool (q3x s),m):=by
 by_cases h3:s.length=3
 ·match s,h3 with
  |[a,b,c],_=>
   have w1:IntKind.wrap .i64 (0+1)=1:=wrap_i64 (by omega) (by omega);have w2:IntKind.wrap .i64 (1+1)=2:=wrap_i64 (by omega) (by omega);have w3:IntKind.wrap .i64 (2+1)=3:=wrap_i64 (by omega) (by omega);have c0:decide ((0:Int)<3)=true:=by decide
   have c1:decide ((1:Int)<3)=true:=by decide
   have c2:decide ((2:Int)<3)=true:=by decide
   have c3:decide ((3:Int)<3)=false:=by decide
   have d3:decide ((([a,b,c]:List UInt8).length:Int)=3)=true:=by simp
   have n0:(0:Int).toNat=0:=rfl;have n1:(1:Int).toNat=1:=rfl;have n2:(2:Int).toNat=2:=rfl;have pz0:(0:Int)<=0:=by omega
   have pz1:(0:Int)<=1:=by omega
   have pz2:(0:Int)<=2:=by omega
   have key:∀x:UInt8,(decide (65<=x.toNat)&&decide (x.toNat<=90))=(!decide ((x.toNat:Int)<65)&&!decide ((90:Int)<(x.toNat:Int))):=by
    intro x;rw[<-decide_not,<-decide_not];congr 1<;>(apply decide_eq_decide.mpr;omega)
   unfold q3x;simp only[List.all_cons,List.all_nil,key,List.length_cons,List.length_nil];simp only[j5d (H:=H19) rfl,T.f35,p1,p2,q0b,wp,d3,xbt,j2C (H:=H19),T.a4l,wp];simp only[q6o (H:=H19),T.z8U,p2,q0b,wp,c0];simp only[ge,q8T (H:=H19),T.j2D,p2,q0b,ifV,q5v,if_pos pz0,n0];by_cases a1:(a.toNat:Int)<65
   ·simp[a1]
   ·by_cases a2:(90:Int)<(a.toNat:Int)
    ·simp[a1,a2]
    ·simp only[df a1,df a2];simp only[q8U (H:=H19),T.j2E,p2,wp,w1];simp only[q6o (H:=H19),T.z8U,p2,q0b,wp,c1];simp only[ge,q8T (H:=H19),T.j2D,p2,q0b,ifV,q5v,if_pos pz1,n1];by_cases b1:(b.toNat:Int)<65
     ·simp[b1]
     ·by_cases b2:(90:Int)<(b.toNat:Int)
      ·simp[b1,b2]
      ·simp only[df b1,df b2];simp only[q8U (H:=H19),T.j2E,p2,wp,w2];simp only[q6o (H:=H19),T.z8U,p2,q0b,wp,c2];simp only[ge,q8T (H:=H19),T.j2D,p2,q0b,ifV,q5v,if_pos pz2,n2]
       try simp only[z6n,z6m,Option.bind_some]
       by_cases e1:(c.toNat:Int)<65
       ·simp[e1]
       ·by_cases e2:(90:Int)<(c.toNat:Int)
        ·simp[e1,e2]
        ·simp only[df e1,df e2];simp only[q8U (H:=H19),T.j2E,p2,wp,w3];simp only[q6o (H:=H19),T.z8U,p2,q0b,wp,c3];simp[j2F (H:=H19),T.a4m,wp]
 ·have e:decide ((s.length:Int)=3)=false:=df (by omega);unfold q3x;rw[df h3,Bool.and_false];simp only[j5d (H:=H19) rfl,T.f35,p1,p2,q0b,wp,e,xbf]
def S20:List FuncId:=[36,71,76,35]
noncomputable def H20:FuncId->Option (List AV->Mem->R):=q1y E19 S20
noncomputable abbrev E20:Env:=T.EH H20
theorem a1a:q1i E20:=q0Q a09 S20
section
variable {H:FuncId->Option (List AV->Mem->R)} {m:Mem} {b:Nat} {st:LSt} {F:List Nat}
theorem q9z (hh:H 36=some (q0x E19 36)) (h:q0G m b st F) (hn:st.q0a.length<=1000) (k:List UInt8) (M:Mem) (hM:Fr m M []):run (T.EH H) (.fn 36) [.ptr (some ⟨b,0⟩),.str k] M=some (.int .i64 (q3t (fun p=>decide (p.name=k)) st.q0a 0),M):=
 q0s hh (by simp[AV.flat,AV.lt]) fun m2 h1 h2=>⟨m2,j0v ((h.q0k hM).q0k (Fr.same h1 h2)) hn k,Fr.refl _⟩
theorem z2a (hh:H 71=some (q0x E19 71)) (h:q0G m b st F) (hn:st.q0j.length<=1000) (k:Int) (M:Mem) (hM:Fr m M []):run (T.EH H) (.fn 71) [.ptr (some ⟨b,0⟩),.int .u64 k] M=some (.int .i64 (q3t (fun p=>decide (p.id=k)) st.q0j 0),M):=
 q0s hh (by simp[AV.flat,AV.lt]) fun m2 h1 h2=>⟨m2,a0g ((h.q0k hM).q0k (Fr.same h1 h2)) hn k,Fr.refl _⟩
theorem a7s (hh:H 76=some (q0x E19 76)) (h:q0G m b st F) (hn:st.pairs.length<=1000) (x y:List UInt8) (M:Mem) (hM:Fr m M []):run (T.EH H) (.fn 76) [.ptr (some ⟨b,0⟩),.str x,.str y] M=some (.int .i64 (q3t (fun p=>decide (p.x=x)&&decide (p.y=y)) st.pairs 0),M):=
 q0s hh (by simp[AV.flat,AV.lt]) fun m2 h1 h2=>⟨m2,j4F ((h.q0k hM).q0k (Fr.same h1 h2)) hn x y,Fr.refl _⟩
theorem z4p (hh:H 35=some (q0x E19 35)) (s:List UInt8) (hl:s.length<4611686018427387904) (m:Mem):run (T.EH H) (.fn 35) [.str s] m=some (.bool (q3x s),m):=
 q0s hh (by simp[AV.flat,AV.lt]) fun m2 _ _=>⟨m2,j4D s hl m2,Fr.refl _⟩
end
end
section
set_option maxRecDepth 4000
open Go Go.Abs
theorem j4Z {a b:Wd} (ha:a.ok) (hb:b.ok):(a.val+b.val).natAbs<4294967296 ^ 16:=by
 have h1:=q5w ha;have h2:=q5w hb;exact Nat.lt_of_le_of_lt (show (a.val+b.val).natAbs<=340282366920938463463374607431768211456 by omega) (by decide)
theorem z4B {a b:Wd} (ha:a.ok) (hb:b.ok):(a.val+-b.val).natAbs<4294967296 ^ 16:=by
 have h1:=q5w ha;have h2:=q5w hb;exact Nat.lt_of_le_of_lt (show (a.val+-b.val).natAbs<=340282366920938463463374607431768211456 by omega) (by decide)
theorem j4r {a b:Wd} (ha:a.ok) (hb:b.ok) (m:Mem):Res m (run E20 (.fn 73) [.agg a.cells,.agg b.cells] m) (.tup [.agg (Wd.res (a.val+b.val)).1.cells,.int .i64 (Wd.res (a.val+b.val)).2]):=by
 have oa:=fun m=>q3M (H:=H20) rfl ha m
 have ob:=fun m=>q3M (H:=H20) rfl hb m
 have su:=fun m=>q5R (H:=H20) rfl (q2L ha) (q2L hb) m
 have wi:=fun m=>j0F (H:=H20) rfl (j4Z ha hb) m
 simp only[Wd.cells]at oa ob wi⊢;simp only[a2a (H:=H20) rfl,T.f73,pB,q1,p1,q0N,q0l,q0S,q0V,q3N,AV.one,over,AV.cells,Nat.reduceAdd,Nat.reduceLeDiff,lcl,oa,ob,su,wi];refine Res.eq ?_ rfl
 (repeat apply Fr.lays)
 exact Fr.refl _
theorem j4K {a b:Wd} (ha:a.ok) (hb:b.ok) (m:Mem):Res m (run E20 (.fn 74) [.agg a.cells,.agg b.cells] m) (.tup [.agg (Wd.res (a.val-b.val)).1.cells,.int .i64 (Wd.res (a.val-b.val)).2]):=by
 have oa:=fun m=>q3M (H:=H20) rfl ha m
 have ob:=fun m=>q3M (H:=H20) rfl hb m
 have mi:=fun m=>z07 (H:=H20) rfl (x:=b.val) (q21 (q2L hb) (by omega)) m
 have su:=fun m=>q5R (H:=H20) rfl (y:=-b.val) (q2L ha) (by rw[Int.natAbs_neg];exact q2L hb) m
 have wi:=fun m=>j0F (H:=H20) rfl (z4B ha hb) m
 rw[show a.val-b.val=a.val+-b.val by omega];simp only[Wd.cells]at oa ob wi⊢;simp only[a2b (H:=H20) rfl,T.f74,pB,q1,p1,q0N,q0l,q0S,q0V,q3N,AV.one,over,AV.cells,Nat.reduceAdd,Nat.reduceLeDiff,lcl,oa,ob,mi,su,wi];refine Res.eq ?_ rfl
 (repeat apply Fr.lays)
 exact Fr.refl _
theorem j4v {a b:Wd} (ha:a.ok) (hb:b.ok) (m:Mem):Res m (run E20 (.fn 116) [.agg (q1w a.val),.agg (q1w b.val)] m) (.int .i64 (sgn (a.val-b.val))):=by
 have mi:=fun m=>z07 (H:=H20) rfl (x:=b.val) (q21 (q2L hb) (by omega)) m
 have su:=fun m=>q5R (H:=H20) rfl (y:=-b.val) (q2L ha) (by rw[Int.natAbs_neg];exact q2L hb) m
 have zr:=fun m=>q4s (H:=H20) rfl (z4B ha hb) m
 rw[show a.val-b.val=a.val+-b.val by omega];obtain⟨d,hd⟩:∃d,d=a.val+-b.val:=⟨_,rfl⟩;rw[<-hd]at su zr⊢;clear hd;unfold sgn;simp only[q1w]at mi su⊢;by_cases h0:d=0
 ·have hz:decide (d.natAbs=0)=true:=dt (by omega);rw[hz]at zr;rw[if_neg (by omega),if_pos h0];simp only[z1Q (H:=H20) rfl,T.f116,q1,pB,p1,q0N,q0b,Nat.reduceAdd,q0d,AV.one,AV.cells,Nat.reduceLeDiff,lcd,z16,mi,su,zr];refine Res.eq ?_ rfl
  (repeat apply Fr.lays)
  exact Fr.refl _
 ·have hz:decide (d.natAbs=0)=false:=df (by omega);rw[hz]at zr;by_cases hn:d<0
  ·rw[if_pos hn];simp only[z1Q (H:=H20) rfl,T.f116,q1,pB,p1,q0N,q0b,Nat.reduceAdd,q0d,AV.one,AV.cells,Nat.reduceLeDiff,lcd,z16,mi,su,zr,z0c (H:=H20),T.z7D,q0d,dt hn];refine Res.eq ?_ rfl
   (repeat apply Fr.lays)
   exact Fr.refl _
  ·rw[if_neg hn,if_neg h0];simp only[z1Q (H:=H20) rfl,T.f116,q1,pB,p1,q0N,q0b,Nat.reduceAdd,q0d,AV.one,AV.cells,Nat.reduceLeDiff,lcd,z16,mi,su,zr,z0c (H:=H20),T.z7D,q0d,df hn,z7E (H:=H20),T.j5K,wp];refine Res.eq ?_ rfl
   (repeat apply Fr.lays)
   exact Fr.refl _
theorem j4H {w:Wd} (hw:w.ok) (s:Int) (m:Mem):Res m (run E20 (.fn 37) [.agg (q0H w s)] m) (.int .i64 (q29 w s)):=by
 have rr:=fun m=>q4r (H:=H20) rfl w s m
 unfold q29;obtain⟨wh,wl⟩:=w;obtain⟨w1,w2,w3,w4⟩:=hw;simp only at w1 w2 w3 w4;have hv:(Wd.mk wh wl).val=wh*18446744073709551616+wl:=rfl;rw[hv];simp only[q0H]at rr⊢;by_cases h:0<=s/\s<=18
 ·rw[if_pos h];rw[dt h]at rr;by_cases h1:wh<0
  ·rw[if_neg (by omega)];simp only[z2F (H:=H20) rfl,T.f37,q1,p1,q0N,q0b,unA,wp,AV.one,AV.cells,Nat.reduceAdd,Nat.reduceLeDiff,lcl,rr,xbt];simp only[q8V (H:=H20),T.j2G,p1,q1,p2,q0n,Nat.reduceAdd,Nat.reduceLeDiff,q0b,ifV,q0T,lcl,dt h1];refine Res.eq ?_ rfl
   (repeat apply Fr.lays)
   exact Fr.refl _
  ·by_cases h2:wh=0/\wl=0
   ·rw[if_neg (by omega)];simp only[z2F (H:=H20) rfl,T.f37,q1,p1,q0N,q0b,unA,wp,AV.one,AV.cells,Nat.reduceAdd,Nat.reduceLeDiff,lcl,rr,xbt];simp only[q8V (H:=H20),T.j2G,p1,q1,p2,q0n,Nat.reduceAdd,Nat.reduceLeDiff,q0b,ifV,q0T,lcl,df h1,q2g,dt h2.1,dt h2.2];refine Res.eq ?_ rfl
    (repeat apply Fr.lays)
    exact Fr.refl _
   ·rw[if_pos (by omega)];have e:(decide (wh=0)&&decide (wl=0))=false:=by
     rw[<-Bool.decide_and];exact df h2
    simp only[z2F (H:=H20) rfl,T.f37,q1,p1,q0N,q0b,unA,wp,AV.one,AV.cells,Nat.reduceAdd,Nat.reduceLeDiff,lcl,rr,xbt];simp only[q8V (H:=H20),T.j2G,p1,q1,p2,q0n,Nat.reduceAdd,Nat.reduceLeDiff,q0b,ifV,lcl,df h1,q2g,e,j2H (H:=H20),T.a4n,wp];refine Res.eq ?_ rfl
    (repeat apply Fr.lays)
    exact Fr.refl _
 ·rw[if_neg h];rw[df h]at rr;simp only[z2F (H:=H20) rfl,T.f37,q1,p1,q0N,q0b,unA,wp,AV.one,AV.cells,Nat.reduceAdd,Nat.reduceLeDiff,lcl,rr,xbf];refine Res.eq ?_ rfl
  (repeat apply Fr.lays)
  exact Fr.refl _
def S21:List FuncId:=[73,74,116,37]
noncomputable def H21:FuncId->Option (List AV->Mem->R):=q1y E20 S21
noncomputable abbrev E21:Env:=T.EH H21
theorem a1b:q1i E21:=q0Q a1a S21
section
variable {H:FuncId->Option (List AV->Mem->R)}
theorem q5m (h:H 73=some (q0x E20 73)) {a b:Wd} (ha:a.ok) (hb:b.ok) (m:Mem):run (T.EH H) (.fn 73) [.agg a.cells,.agg b.cells] m=some (.tup [.agg (Wd.res (a.val+b.val)).1.cells,.int .i64 (Wd.res (a.val+b.val)).2],m):=
 q0s h (by simp[AV.flat,AV.lt,AV.lts,Wd.cells]) fun m2 _ _=>j4r ha hb m2
theorem q5p (h:H 74=some (q0x E20 74)) {a b:Wd} (ha:a.ok) (hb:b.ok) (m:Mem):run (T.EH H) (.fn 74) [.agg a.cells,.agg b.cells] m=some (.tup [.agg (Wd.res (a.val-b.val)).1.cells,.int .i64 (Wd.res (a.val-b.val)).2],m):=
 q0s h (by simp[AV.flat,AV.lt,AV.lts,Wd.cells]) fun m2 _ _=>j4K ha hb m2
theorem j4u (h:H 116=some (q0x E20 116)) {a b:Wd} (ha:a.ok) (hb:b.ok) (m:Mem):run (T.EH H) (.fn 116) [.agg (q1w a.val),.agg (q1w b.val)] m=some (.int .i64 (sgn (a.val-b.val)),m):=
 q0s h (by simp[AV.flat,AV.lt]) fun m2 _ _=>j4v ha hb m2
theorem q9A (h:H 37=some (q0x E20 37)) {w:Wd} (hw:w.ok) (s:Int) (m:Mem):run (T.EH H) (.fn 37) [.agg (q0H w s)] m=some (.int .i64 (q29 w s),m):=
 q0s h (by simp[AV.flat,AV.lt]) fun m2 _ _=>j4H hw s m2
end
theorem j4w {a b:Wd} (ha:a.ok) (hb:b.ok) (m:Mem):Res m (run E21 (.fn 75) [.agg a.cells,.agg b.cells] m) (.int .i64 (sgn (a.val-b.val))):=by
 have oa:=fun m=>q3M (H:=H21) rfl ha m
 have ob:=fun m=>q3M (H:=H21) rfl hb m
 have cb:=fun m=>j4u (H:=H21) rfl ha hb m
 simp only[Wd.cells]at oa ob⊢;simp only[a2c (H:=H21) rfl,T.f75,q1,q0N,wp,AV.one,AV.cells,Nat.reduceAdd,Nat.reduceLeDiff,lcl,oa,ob,cb];refine Res.eq ?_ rfl
 (repeat apply Fr.lays)
 exact Fr.refl _
end
section
set_option maxRecDepth 4000
open Go Go.Abs
section
variable {m:Mem} {b:Nat} {st:LSt} {F:List Nat}
theorem q9w (w:LWf st) {k:List UInt8} (h:q0Y q0c k (st.q0a.map (·.name))=true):q3t (fun p=>decide (p.name=k)) st.q0a 0=((st.iP k:Nat):Int):=by
 rw[q4k (lt:=q0c) (fun p:q0r=>p.name) k q0K st.q0a 0 w.sp,if_pos h,xnz];rfl
theorem z4o (w:LWf st) {k:List UInt8} (h:q0Y q0c k (st.q0a.map (·.name))=false):q3t (fun p=>decide (p.name=k)) st.q0a 0=-1:=by
 rw[q4k (lt:=q0c) (fun p:q0r=>p.name) k q0K st.q0a 0 w.sp,if_neg (by rw[h];decide)]
theorem z2i (w:LWf st) {k:Int} (h:q0Y q0p k (st.q0j.map (·.id))=true):q3t (fun p=>decide (p.id=k)) st.q0j 0=((st.iA k:Nat):Int):=by
 rw[q4k (lt:=q0p) (fun p:q1k=>p.id) k q66 st.q0j 0 w.sa,if_pos h,xnz];rfl
theorem z04 (w:LWf st) {k:Int} (h:q0Y q0p k (st.q0j.map (·.id))=false):q3t (fun p=>decide (p.id=k)) st.q0j 0=-1:=by
 rw[q4k (lt:=q0p) (fun p:q1k=>p.id) k q66 st.q0j 0 w.sa,if_neg (by rw[h];decide)]
theorem z2e (h:q0G m b st F) (w:LWf st) (id:Int) :
  Res m (run E21 (.fn 64) [.ptr (some ⟨b,0⟩),.int .u64 id] m) (.tup [.agg (q0H (q2c st id).1 (q2c st id).2.1),.int .i64 (q2c st id).2.2]):=by
 have ga:=z2a (H:=H21) rfl h (by have:=w.la;omega) id;have gpp:=fun k=>q9z (H:=H21) rfl h (by have:=w.lp;omega) k
 obtain⟨sp,sq,sa,rp,rq,ra,h1,h2,h3,h4,h5⟩:=h.ex;have hb:=Mem.q0v h1;have a3:∀i:Nat,ld1 m (.ptr (some ⟨b,i⟩))=[sp,sq,sa,.int .u64 st.latest,.int .i64 st.most][i]?:=fun i=>q0f h1
 unfold q2c;rcases LSt.q1D w id with ⟨e,hn⟩|⟨a,p,e,g1,g2,hid,hka,hpn,hkp,ma,mp⟩
 ·have hk:q0Y q0p id (st.q0j.map (·.id))=false:=by
   cases hk:q0Y q0p id (st.q0j.map (·.id)) with
   |false=>rfl
   |true=>obtain⟨a,a1,_⟩:=LSt.q1x hk;rw[hn]at a1;cases a1
  rw[z04 w hk]at ga;rw[e];simp (maxDischargeDepth:=20) only [j5k (H:=H21) rfl,T.f64,pB,p2,p1,q0n,AV.cells,Nat.reduceAdd,Nat.reduceLeDiff,q0b,q0S,q0V,q0B,AV.one,over,lcl,ga,frl,Fr.refl,dt (show (-1:Int)<0 by omega)];refine Res.eq ?_ (by simp[q0H])
  (repeat apply Fr.lays)
  exact Fr.refl _
 ·rw[z2i w hka]at ga;rw[e];obtain⟨a',q1,q2,q3,q4⟩:=LSt.q1x hka;rw[g1]at q1;cases q1;have hlt:st.iA id<st.q0j.length:=(xgi.1 q3).1;obtain⟨bb,hbb,x1,x2,x3,x4⟩:=h4.fld (i:=st.iA id) (by rw[xlm];exact hlt);have hB:bb<m.next:=by subst hbb;exact h4.lt
  rw[xlm]at x1 x2;subst x1;have ha:st.q0j[st.iA id]=a:=by have q5:st.q0j[st.iA id]? = some a:=q3;rw[xgq hlt]at q5;simpa using q5
  have x5:=x3 1 (by omega);have x6:=x4 2 2 (by omega);rw[xgm,ha]at x5 x6;rw[hpn]at hkp;have gp:=gpp a.q1C;rw[q9w w hkp]at gp;obtain⟨p',p1,p2,p3,p4⟩:=LSt.q1I hkp;rw[g2]at p1;cases p1;have hlt2:st.iP a.q1C<st.q0a.length:=(xgi.1 p3).1;obtain⟨bc,hbc,y1,y2,y3,y4⟩:=h2.fld (i:=st.iP a.q1C) (by rw[xlm];exact hlt2);have hC:bc<m.next:=by subst hbc;exact h2.lt
  rw[xlm]at y1 y2;subst y1;have hp:st.q0a[st.iP a.q1C]=p:=by have p5:st.q0a[st.iP a.q1C]? = some p:=p3;rw[xgq hlt2]at p5;simpa using p5
  have y5:=y3 1 (by omega);rw[xgm,hp]at y5;simp only[ge,q1k.cells,q0r.cells,List.drop_succ_cons,List.drop_zero,List.take_succ_cons,List.take_zero]at x5 x6 y5;simp (maxDischargeDepth:=20) only [j5k (H:=H21) rfl,T.f64,pB,p1,q0n,q0b,q0S,q0V,q0B,lcl,ga,frl,Fr.refl,df (show ¬((st.iA id:Nat):Int)<0 by omega)];simp (maxDischargeDepth:=20) only [j28 (H:=H21),T.a4H,p1,q1,q0n,AV.cells,Nat.reduceAdd,Nat.reduceLeDiff,nnA,q0S,q0V,q0T,AV.one,over,lcl,q1o hb,a3,true_or,x2,q1o hB,x5,x6,gp,frl,Fr.refl,y2,q1o hC,y5]
  refine Res.eq ?_ (by simp[q0H])
  (repeat apply Fr.lays)
  exact Fr.refl _
end
end
section
set_option maxRecDepth 4000
open Go Go.Abs
section
variable {m:Mem} {b:Nat} {st:LSt} {F:List Nat}
theorem j4A (h:q0G m b st F) (w:LWf st) {k:List UInt8} {p:q0r} (hp:st.q3k k=some p) {x:Wd} (hx:x.ok) (s:Int) :
  Res m (run E21 (.fn 72) [.ptr (some ⟨b,0⟩),.str k,.agg (q0H x s)] m) (.int .i64 (q2t p x s)):=by
 have gp:=q9z (H:=H21) rfl h (by have:=w.lp;omega) k;obtain⟨sp,sq,sa,rp,rq,ra,h1,h2,h3,h4,h5⟩:=h.ex;have hb:=Mem.q0v h1;have a3:∀i:Nat,ld1 m (.ptr (some ⟨b,i⟩))=[sp,sq,sa,.int .u64 st.latest,.int .i64 st.most][i]?:=fun i=>q0f h1
 have hk:q0Y q0c k (st.q0a.map (·.name))=true:=by
  cases hk:q0Y q0c k (st.q0a.map (·.name)) with
  |true=>rfl
  |false=>rw[LSt.q2E hk]at hp;cases hp
 obtain⟨p',p1',p2',p3,p4⟩:=LSt.q1I hk;rw[hp]at p1';cases p1';rw[q9w w hk]at gp;have hlt:st.iP k<st.q0a.length:=(xgi.1 p3).1;obtain⟨bb,hbb,e,e2,e3,e4⟩:=h2.fld (i:=st.iP k) (by rw[xlm];exact hlt);have hB:bb<m.next:=by subst hbb;exact h2.lt
 rw[xlm]at e e2;subst e;have hpp:st.q0a[st.iP k]=p:=by have p5:st.q0a[st.iP k]? = some p:=p3;rw[xgq hlt]at p5;simpa using p5
 have e5:=e3 1 (by omega);rw[xgm,hpp]at e5;simp only[ge,q0r.cells]at e5;unfold q2t;obtain⟨xh,xl⟩:=x;obtain⟨x1,x2,x3,x4⟩:=hx;simp only at x1 x2 x3 x4;have hv:(Wd.mk xh xl).val=xh*18446744073709551616+xl:=rfl;rw[hv];simp only[q0H];by_cases h0:s=p.scale
 ·rw[if_neg (by simp[h0])];by_cases g1:xh<0
  ·rw[if_pos (by omega)];simp (maxDischargeDepth:=20) only [z2G (H:=H21) rfl,T.f72,p1,q1,p2,q0N,nnA,q0b,q0d,AV.one,AV.cells,lcl,q1o hb,a3,gp,frl,Fr.refl,true_or,e2,q1o hB,e5,dt h0,xbt];simp only[q8X (H:=H21),T.j3d,p1,q1,p2,q0n,Nat.reduceAdd,Nat.reduceLeDiff,q0b,ifV,q0T,lcl,dt g1];refine Res.eq ?_ rfl
   (repeat apply Fr.lays)
   exact Fr.refl _
  ·by_cases g2:xh=0/\xl=0
   ·rw[if_pos (by omega)];simp (maxDischargeDepth:=20) only [z2G (H:=H21) rfl,T.f72,p1,q1,p2,q0N,nnA,q0b,q0d,AV.one,AV.cells,lcl,q1o hb,a3,gp,frl,Fr.refl,true_or,e2,q1o hB,e5,dt h0,xbt];simp only[q8X (H:=H21),T.j3d,p1,q1,p2,q0n,Nat.reduceAdd,Nat.reduceLeDiff,q0b,ifV,q0T,lcl,df g1,q2g,dt g2.1,dt g2.2]
    refine Res.eq ?_ rfl
    (repeat apply Fr.lays)
    exact Fr.refl _
   ·rw[if_neg (by omega)];have e:(decide (xh=0)&&decide (xl=0))=false:=by
     rw[<-Bool.decide_and];exact df g2
    simp (maxDischargeDepth:=20) only [z2G (H:=H21) rfl,T.f72,p1,q1,p2,q0N,nnA,q0b,q0d,AV.one,AV.cells,lcl,q1o hb,a3,gp,frl,Fr.refl,true_or,e2,q1o hB,e5,dt h0,xbt];simp only[q8X (H:=H21),T.j3d,p1,q1,p2,q0n,Nat.reduceAdd,Nat.reduceLeDiff,q0b,ifV,lcl,df g1,q2g,e,j3e (H:=H21),T.a4M,wp]
    refine Res.eq ?_ rfl
    (repeat apply Fr.lays)
    exact Fr.refl _
 ·rw[if_pos h0];simp (maxDischargeDepth:=20) only [z2G (H:=H21) rfl,T.f72,p1,q1,p2,q0N,nnA,q0b,q0d,AV.one,AV.cells,lcl,q1o hb,a3,gp,frl,Fr.refl,true_or,e2,q1o hB,e5,df h0,xbf];refine Res.eq ?_ rfl
  (repeat apply Fr.lays)
  exact Fr.refl _
end
end
end Go.Proofs.YtlginbmjiecglaaGreatDoor
namespace Go.Abs
section
open Go
theorem q0L.sto {n:Nat} {m:Mem} {s:AV} {l:List (List AV)} {rb:Option Nat} (h:q0L n m s l rb) {i:Nat} (hi:i<l.length) {o:Nat} {vs:List AV} (ho:o+vs.length<=n) (hv:vs.all AV.one=true) :
  ∃b,rb=some b/\stV m (.ptr (some ⟨b,i*n+o⟩)) (.agg vs) vs.length=some (m.put b (some (.cells (l.set i (l[i].take o++vs++l[i].drop (o+vs.length))).flatten false)))/\
   q0L n (m.put b (some (.cells (l.set i (l[i].take o++vs++l[i].drop (o+vs.length))).flatten false))) s (l.set i (l[i].take o++vs++l[i].drop (o+vs.length))) rb:=by
 have hl:=h.lens;obtain⟨b,h1,h2,h3,h4,h5⟩:=h.at hi;have hli:l[i].length=n:=hl _ (List.getElem_mem hi);have hfl:=q1j hl;have hle:(i+1)*n<=l.length*n:=Nat.mul_le_mul_right n hi;rw[Nat.succ_mul]at hle;have hd:l.flatten.drop (i*n)=l[i]++(l.drop (i+1)).flatten:=by
  rw[q1T i hl,List.drop_eq_getElem_cons hi,List.flatten_cons]
 have hlen:(l[i].take o++vs++l[i].drop (o+vs.length)).length=n:=by
  simp only[xla0,xlt0,xld0];omega
 have hone:(l[i].take o++vs++l[i].drop (o+vs.length)).all AV.one=true:=by
  have hx:=(h.1 _ (List.getElem_mem hi)).2;rw[List.all_append,List.all_append,hv,Bool.and_true,Bool.and_eq_true];exact⟨List.all_eq_true.2 fun v hv'=>List.all_eq_true.1 hx v (List.mem_of_mem_take hv'),List.all_eq_true.2 fun v hv'=>List.all_eq_true.1 hx v (List.mem_of_mem_drop hv')⟩
 have key:l.flatten.take (i*n+o)++vs++l.flatten.drop (i*n+o+vs.length)=(l.set i (l[i].take o++vs++l[i].drop (o+vs.length))).flatten:=by
  rw[<-z2H hl hi,List.take_add,hd,List.take_append_of_le_length (by omega),Nat.add_assoc,<-List.drop_drop,hd,List.drop_append_of_le_length (by omega)];have e:l.flatten.drop (i*n+n)=(l.drop (i+1)).flatten:=by rw[<-Nat.succ_mul];exact q1T (i+1) hl
  rw[e];simp only[List.append_assoc]
 have hst:=q1B (v:=.agg vs) (vs:=vs) (o:=i*n+o) (n:=vs.length) h3 (q09 hv) rfl (by omega);rw[key]at hst;refine⟨b,h1,hst,fun x hx=>?_,.inr ⟨b,h1,by simpa using h2,q0w h3⟩⟩
 rcases List.mem_or_eq_of_mem_set hx with hx|rfl
 ·exact h.1 x hx
 ·exact⟨hlen,hone⟩
theorem q0G.lt {m:Mem} {b:Nat} {st:LSt} {F:List Nat} (h:q0G m b st F):∀c,c∈F->c<m.next:=by
 obtain⟨sp,sq,sa,rp,rq,ra,h1,h2,h3,h4,h5,h6,h7,h8,h9,h10,rfl⟩:=h.ex;intro c hc;simp only[xmk0,xma,Option.mem_toList]at hc;rcases hc with rfl|(hc|hc)|hc
 ·exact Mem.q0v h1
 ·subst hc;exact h2.lt
 ·subst hc;exact h3.lt
 ·subst hc;exact h4.lt
theorem q0G.stA {m:Mem} {b:Nat} {st:LSt} {F:List Nat} (h:q0G m b st F) {sp sq sa:AV} (hb:m.get b=some (.cells [sp,sq,sa,.int .u64 st.latest,.int .i64 st.most] false)) {a:q1k} (ga:st.q0j[st.iA a.id]? = some a) (ny:Wd) :
  ∃bb m1,sa=.sl (some ⟨bb,0⟩) 4 st.q0j.length st.q0j.length false/\stV m (.ptr (some ⟨bb,st.iA a.id*4+2⟩)) (.agg ny.cells) 2=some m1/\q0G m1 b (st.q14 {a with bal:=ny}) F/\Fr m m1 F/\m1.next=m.next/\m1.get b=m.get b:=by
 obtain⟨sp',sq',sa',rp,rq,ra,h1,h2,h3,h4,h5,h6,h7,h8,h9,h10,rfl⟩:=h.ex;rw[h1]at hb;simp only[xoi,Blk.cells.injEq,List.cons.injEq,and_true]at hb;obtain⟨rfl,rfl,rfl⟩:=hb;obtain⟨hlt,hga⟩:=xgi.1 ga;obtain⟨bb,e1,e2,e3⟩:=h4.sto (i:=st.iA a.id) (by rw[xlm];exact hlt) (o:=2) (vs:=ny.cells) (by simp[Wd.cells]) rfl;obtain⟨bb',f1,f2,_⟩:=h4.fld (i:=st.iA a.id) (by rw[xlm];exact hlt);rw[e1]at f1;cases f1
 have hv:(st.q0j.map (·.cells)).set (st.iA a.id) (((st.q0j.map fun x:q1k=>x.cells)[st.iA a.id]'(by rw[xlm];exact hlt)).take 2++ny.cells++((st.q0j.map fun x:q1k=>x.cells)[st.iA a.id]'(by rw[xlm];exact hlt)).drop (2+ny.cells.length))=(st.q14 {a with bal:=ny}).q0j.map (·.cells):=by
  rw[xgm,hga];unfold LSt.q14;rw[List.map_set];rfl
 rw[hv]at e2 e3;have hbb:bb≠b:=fun e=>h7 (by rw[e1,e];simp)
 have hf:Fr m (m.put bb (some (.cells ((st.q14 {a with bal:=ny}).q0j.map (·.cells)).flatten false))) [bb]:=Fr.put _ _ _
 refine⟨bb,_,by simpa using f2,e2,⟨sp',sq',sa',rp,rq,ra,hf.get h1 (by simp;exact fun e=>hbb e.symm),h2.frame hf (fun c hc=>?_),h3.frame hf (fun c hc=>?_),e3,h5,h6,h7,h8,h9,h10,rfl⟩,hf.mono (fun c hc=>?_),rfl,?_⟩
 ·simp only[xms];rintro rfl;exact h9 c (by rw[hc];simp) (by rw[e1];simp)
 ·simp only[xms];rintro rfl;exact h10 c (by rw[hc];simp) (by rw[e1];simp)
 ·simp only[xms]at hc;subst hc;rw[e1];simp
 ·exact q1X (fun e=>hbb e.symm)
theorem q0G.stP {m:Mem} {b:Nat} {st:LSt} {F:List Nat} (h:q0G m b st F) {sp sq sa:AV} (hb:m.get b=some (.cells [sp,sq,sa,.int .u64 st.latest,.int .i64 st.most] false)) {a:q0r} (ga:st.q0a[st.iP a.name]? = some a) (ny:Wd) :
  ∃bb m1,sp=.sl (some ⟨bb,0⟩) 4 st.q0a.length st.q0a.length false/\stV m (.ptr (some ⟨bb,st.iP a.name*4+2⟩)) (.agg ny.cells) 2=some m1/\q0G m1 b (st.j0I {a with out:=ny}) F/\Fr m m1 F/\m1.next=m.next/\m1.get b=m.get b:=by
 obtain⟨sp',sq',sa',rp,rq,ra,h1,h2,h3,h4,h5,h6,h7,h8,h9,h10,rfl⟩:=h.ex;rw[h1]at hb;simp only[xoi,Blk.cells.injEq,List.cons.injEq,and_true]at hb;obtain⟨rfl,rfl,rfl⟩:=hb;obtain⟨hlt,hga⟩:=xgi.1 ga;obtain⟨bb,e1,e2,e3⟩:=h2.sto (i:=st.iP a.name) (by rw[xlm];exact hlt) (o:=2) (vs:=ny.cells) (by simp[Wd.cells]) rfl;obtain⟨bb',f1,f2,_⟩:=h2.fld (i:=st.iP a.name) (by rw[xlm];exact hlt);rw[e1]at f1;cases f1
 have hv:(st.q0a.map (·.cells)).set (st.iP a.name) (((st.q0a.map fun x:q0r=>x.cells)[st.iP a.name]'(by rw[xlm];exact hlt)).take 2++ny.cells++((st.q0a.map fun x:q0r=>x.cells)[st.iP a.name]'(by rw[xlm];exact hlt)).drop (2+ny.cells.length))=(st.j0I {a with out:=ny}).q0a.map (·.cells):=by
  rw[xgm,hga];unfold LSt.j0I;rw[List.map_set];rfl
 rw[hv]at e2 e3;have hbb:bb≠b:=fun e=>h5 (by rw[e1,e];simp)
 have hf:Fr m (m.put bb (some (.cells ((st.j0I {a with out:=ny}).q0a.map (·.cells)).flatten false))) [bb]:=Fr.put _ _ _
 refine⟨bb,_,by simpa using f2,e2,⟨sp',sq',sa',rp,rq,ra,hf.get h1 (by simp;exact fun e=>hbb e.symm),e3,h3.frame hf (fun c hc=>?_),h4.frame hf (fun c hc=>?_),h5,h6,h7,h8,h9,h10,rfl⟩,hf.mono (fun c hc=>?_),rfl,?_⟩
 ·simp only[xms];rintro rfl;exact h8 c (by rw[e1];simp) (by rw[hc];simp)
 ·simp only[xms];rintro rfl;exact h9 c (by rw[e1];simp) (by rw[hc];simp)
 ·simp only[xms]at hc;subst hc;rw[e1];simp
 ·exact q1X (fun e=>hbb e.symm)
end
end Go.Abs
namespace Go.Proofs.YtlginbmjiecglaaGreatDoor
section
set_option maxRecDepth 4000
open Go Go.Abs
def S22:List FuncId:=[72,64,65,75]
noncomputable def H22:FuncId->Option (List AV->Mem->R):=q1y E21 S22
noncomputable abbrev E22:Env:=T.EH H22
theorem a1c:q1i E22:=q0Q a1b S22
noncomputable abbrev D22:Do:=T.Rl H22
section
variable {H:FuncId->Option (List AV->Mem->R)} {m:Mem} {b:Nat} {st:LSt} {F:List Nat}
theorem j4z (hh:H 72=some (q0x E21 72)) (h:q0G m b st F) (w:LWf st) {k:List UInt8} {p:q0r} (hp:st.q3k k=some p) {x:Wd} (hx:x.ok) (s:Int) (M:Mem) (hM:Fr m M []):run (T.EH H) (.fn 72) [.ptr (some ⟨b,0⟩),.str k,.agg (q0H x s)] M=some (.int .i64 (q2t p x s),M):=
 q0s hh (by simp[AV.flat,AV.lt]) fun m2 h1 h2=>j4A ((h.q0k hM).q0k (Fr.same h1 h2)) w hp hx s
theorem a8Y (hh:H 64=some (q0x E21 64)) (h:q0G m b st F) (w:LWf st) (id:Int) (M:Mem) (hM:Fr m M []):run (T.EH H) (.fn 64) [.ptr (some ⟨b,0⟩),.int .u64 id] M=some (.tup [.agg (q0H (q2c st id).1 (q2c st id).2.1),.int .i64 (q2c st id).2.2],M):=
 q0s hh (by simp[AV.flat,AV.lt,AV.lts,q0H]) fun m2 h1 h2=>z2e ((h.q0k hM).q0k (Fr.same h1 h2)) w id
theorem q9u (hh:H 75=some (q0x E21 75)) {a b:Wd} (ha:a.ok) (hb:b.ok) (m:Mem):run (T.EH H) (.fn 75) [.agg a.cells,.agg b.cells] m=some (.int .i64 (sgn (a.val-b.val)),m):=
 q0s hh (by simp[AV.flat,AV.lt]) fun m2 _ _=>j4w ha hb m2
end
section
variable {m:Mem} {b:Nat} {st:LSt} {F:List Nat}
theorem q7h (h:q0G m b st F) (w:LWf st) (id:Int) {x:Wd} (hx:x.ok) (s:Int) :
  ∃m',run E22 (.fn 29) [.ptr (some ⟨b,0⟩),.int .u64 id,.agg (q0H x s)] m=some (.int .i64 (q3p st id x s).1,m')/\q0G m' b (q3p st id x s).2 F/\Fr m m' F:=by
 have ga:=z2a (H:=H22) rfl h (by have:=w.la;omega) id;have gpp:=fun k=>q9z (H:=H22) rfl h (by have:=w.lp;omega) k
 have hF:=h.lt;obtain⟨sp,sq,sa,rp,rq,ra,h1,h2,h3,h4,h5⟩:=h.ex;have hb:=Mem.q0v h1;have a3:∀i:Nat,ld1 m (.ptr (some ⟨b,i⟩))=[sp,sq,sa,.int .u64 st.latest,.int .i64 st.most][i]?:=fun i=>q0f h1
 have done:∀M,Fr m M []->∀v:AV,∃m',some (v,M)=some (v,m')/\q0G m' b st F/\Fr m m' F:=fun M hM v=>⟨M,rfl,h.q0k hM,hM.any F⟩
 unfold q3p;rcases LSt.q1D w id with ⟨e,hn⟩|⟨a,p,e,g1,g2,hid,hka,hpn,hkp,ma,mp⟩
 ·have hk:q0Y q0p id (st.q0j.map (·.id))=false:=by
   cases hk:q0Y q0p id (st.q0j.map (·.id)) with
   |false=>rfl
   |true=>obtain⟨a,a1,_⟩:=LSt.q1x hk;rw[hn]at a1;cases a1
  rw[z04 w hk]at ga;rw[e];simp only[ne_eq,show ¬(40:Int)=0 by omega,not_false_eq_true,if_true,q0H];simp (maxDischargeDepth:=20) only [q96 (H:=H22) rfl,T.f29,p2,q0N,q0b,wp,AV.one,AV.cells,lcl,ga,frl,Fr.refl,dt (show (-1:Int)<0 by omega)];exact done _ ((Fr.refl m).lay _) _
 ·rw[z2i w hka]at ga;rw[e];obtain⟨a',q1,q2,q3,q4⟩:=LSt.q1x hka;rw[g1]at q1;cases q1;have hlt:st.iA id<st.q0j.length:=(xgi.1 q3).1;obtain⟨bb,hbb,x1,x2,x3,x4⟩:=h4.fld (i:=st.iA id) (by rw[xlm];exact hlt);have hB:bb<m.next:=by subst hbb;exact h4.lt
  rw[xlm]at x1 x2;subst x1;have q5:st.q0j[st.iA id]? = some a:=q3;have ha:st.q0j[st.iA id]=a:=by have q6:=q5;rw[xgq hlt]at q6;simpa using q6
  have x5:=x3 1 (by omega);have x6:=x4 2 2 (by omega);rw[xgm,ha]at x5 x6;have hkp':=hkp;rw[hpn]at hkp;have gp:=gpp a.q1C;rw[q9w w hkp]at gp;obtain⟨p',p1,p2,p3,p4⟩:=LSt.q1I hkp;rw[g2]at p1;cases p1;have hlt2:st.iP a.q1C<st.q0a.length:=(xgi.1 p3).1;obtain⟨bc,hbc,y1,y2,y3,y4⟩:=h2.fld (i:=st.iP a.q1C) (by rw[xlm];exact hlt2);have hC:bc<m.next:=by subst hbc;exact h2.lt
  rw[xlm]at y1 y2;subst y1;have p5:st.q0a[st.iP a.q1C]? = some p:=p3;have hp:st.q0a[st.iP a.q1C]=p:=by have p6:=p5;rw[xgq hlt2]at p6;simpa using p6
  have y6:=y4 2 2 (by omega);rw[xgm,hp]at y6;simp only[ge,q1k.cells,q0r.cells,List.drop_succ_cons,List.drop_zero,List.take_succ_cons,List.take_zero]at x5 x6 y6;have ft:=j4z (H:=H22) rfl h w g2 hx s;obtain⟨fe,hfe⟩:∃fe,fe=q2t p x s:=⟨_,rfl⟩;simp only[<-hfe,q0H,ne_eq,not_true_eq_false,if_false]at ft⊢;by_cases f0:fe=0
  ·subst f0;rw[if_neg (by simp)];have ad:=fun m=>q5m (H:=H22) rfl (w.oka a ma).1 hx m
   have su:=fun m=>q5p (H:=H22) rfl (w.okp p mp).2.2.1 hx m
   simp only[Wd.cells]at ad su;have c1:=q3B (n:=p.out.val-x.val);have c2:=q3B (n:=a.bal.val+x.val);unfold q3Y;cases e1:q0M (a.bal.val+x.val) with
   |false=>
    rw[e1]at c2;rw[Bool.and_false,if_neg (by simp)];simp (maxDischargeDepth:=20) only [q96 (H:=H22) rfl,T.f29,q0N,q0b,wp,AV.one,AV.cells,lcl,ga,frl,Fr.refl,df (show ¬((st.iA id:Nat):Int)<0 by omega)];simp (maxDischargeDepth:=20) only [q6i (H:=H22),T.z8O,p1,q1,nnA,q0b,Nat.reduceAdd,q0d,Nat.reduceLeDiff,lcl,q1o hb,a3,true_or,x2,q1o hB,x5,ft,frl,Fr.refl,decide_true,xbt]
    simp (maxDischargeDepth:=20) only [q8O (H:=H22),T.j2q,p1,q1,pB,nnA,q0l,q0b,ifV,Nat.reduceAdd,q1b,AV.one,over,AV.cells,Nat.reduceLeDiff,lcl,q1o hb,z1B hb,a3,true_or,x2,q1o hB,x5,x6,gp,frl,Fr.refl,y2,q1o hC,z1B hC,y6,ad,su,c2,xbf];refine done _ ?_ _
    (repeat apply Fr.lays)
    exact Fr.refl _
   |true=>
    rw[e1]at c2;cases e2:q0M (p.out.val-x.val) with
    |false=>
     rw[e2]at c1;rw[Bool.false_and,if_neg (by simp)];simp (maxDischargeDepth:=20) only [q96 (H:=H22) rfl,T.f29,q0N,q0b,wp,AV.one,AV.cells,lcl,ga,frl,Fr.refl,df (show ¬((st.iA id:Nat):Int)<0 by omega)];simp (maxDischargeDepth:=20) only [q6i (H:=H22),T.z8O,p1,q1,nnA,q0b,Nat.reduceAdd,q0d,Nat.reduceLeDiff,lcl,q1o hb,a3,true_or,x2,q1o hB,x5,ft,frl,Fr.refl,decide_true,xbt]
     simp (maxDischargeDepth:=20) only [q8O (H:=H22),T.j2q,p1,q1,pB,nnA,q0l,q0b,ifV,Nat.reduceAdd,q1b,AV.one,over,AV.cells,Nat.reduceLeDiff,lcl,q1o hb,z1B hb,a3,true_or,x2,q1o hB,x5,x6,gp,frl,Fr.refl,y2,q1o hC,z1B hC,y6,ad,su,c1,c2,xbf,xbt];refine done _ ?_ _
     (repeat apply Fr.lays)
     exact Fr.refl _
    |true=>
     rw[e2]at c1;rw[Bool.and_self,if_pos rfl];rw[q1u e1]at ad;rw[q1u e2]at su;obtain⟨ny,hny⟩:∃ny,ny=Wd.of (a.bal.val+x.val):=⟨_,rfl⟩;obtain⟨nx,hnx⟩:∃nx,nx=Wd.of (p.out.val-x.val):=⟨_,rfl⟩;rw[<-hny]at ad⊢;rw[<-hnx]at su⊢;obtain⟨M3,hM3⟩:∃M3,M3=((m.lay (.cells (q0H x s) false)).lay (.cells ny.cells false)).lay (.cells nx.cells false):=⟨_,rfl⟩;have f3:Fr m M3 []:=by rw[hM3];(repeat apply Fr.lays);exact Fr.refl _
     have hb3:=f3.get h1 (by simp);have z1:M3.get (m.next+1)=some (.cells ny.cells false):=by rw[hM3];simp[Mem.q0E]
     have z2:M3.get (m.next+1+1)=some (.cells nx.cells false):=by rw[hM3];simp[Mem.q0E]
     obtain⟨bb',m4,s1,s2,s3,s4,s5,s6⟩:=(h.q0k f3).stA hb3 (a:=a) (by rw[hid];exact q5) ny;cases s1;have hb4:=s6.trans hb3;obtain⟨bc',m5,t1,t2,t3,t4,t5,t6⟩:=s3.stP hb4 (a:=p) (by rw[hpn];exact p5) nx;cases t1;rw[hid]at s2;have t2':stV m4 (.ptr (some ⟨bc,st.iP a.q1C*4+2⟩)) (.agg nx.cells) 2=some m5:=by rw[<-hpn];exact t2
     have n3:m.next<=M3.next:=f3.next
     have z4:=s4.get z2 (fun hc=>by have:=hF _ hc;omega)
     have a33:∀i:Nat,ld1 M3 (.ptr (some ⟨b,i⟩))=[.sl (some ⟨bc,0⟩) 4 st.q0a.length st.q0a.length false,sq,.sl (some ⟨bb,0⟩) 4 st.q0j.length st.q0j.length false,.int .u64 st.latest,.int .i64 st.most][i]?:=fun i=>q0f hb3
     have a34:∀i:Nat,ld1 m4 (.ptr (some ⟨b,i⟩))=[.sl (some ⟨bc,0⟩) 4 st.q0a.length st.q0a.length false,sq,.sl (some ⟨bb,0⟩) 4 st.q0j.length st.q0j.length false,.int .u64 st.latest,.int .i64 st.most][i]?:=fun i=>q0f hb4
     have l1:ldN M3 (.ptr (some ⟨m.next+1,0⟩)) 2=some (.agg ny.cells):=q0C z1 rfl
     have l2:ldN m4 (.ptr (some ⟨m.next+1+1,0⟩)) 2=some (.agg nx.cells):=q0C z4 rfl
     refine⟨m5,?_,t3,((f3.any F).step s4 (fun c hc=>.inl hc)).step t4 (fun c hc=>.inl hc)⟩
     simp only[q0H,Wd.cells]at hM3 l1 l2 s2 t2';simp (maxDischargeDepth:=20) only [q96 (H:=H22) rfl,T.f29,q0N,q0b,wp,AV.one,AV.cells,lcl,ga,frl,Fr.refl,df (show ¬((st.iA id:Nat):Int)<0 by omega)];simp (maxDischargeDepth:=20) only [q6i (H:=H22),T.z8O,p1,q1,nnA,q0b,Nat.reduceAdd,q0d,Nat.reduceLeDiff,lcl,q1o hb,a3,true_or,x2,q1o hB,x5,ft,frl,Fr.refl,decide_true,xbt]
     simp (maxDischargeDepth:=20) only [q8O (H:=H22),T.j2q,p1,q1,pB,nnA,q0l,q0b,ifV,Nat.reduceAdd,q1b,AV.one,over,AV.cells,Nat.reduceLeDiff,lcl,q1o hb,z1B hb,a3,true_or,x2,q1o hB,x5,x6,gp,frl,Fr.refl,y2,q1o hC,z1B hC,y6,ad,su,decide_true,xbt,<-hM3];simp only[j2r (H:=H22),T.a4e,p1,q1,nnA,q0d,a33,l1,true_or,if_true,x2,s2,a34,l2,y2,t2']
  ·rw[if_pos f0];simp (maxDischargeDepth:=20) only [q96 (H:=H22) rfl,T.f29,q0N,q0b,wp,AV.one,AV.cells,lcl,ga,frl,Fr.refl,df (show ¬((st.iA id:Nat):Int)<0 by omega)];simp (maxDischargeDepth:=20) only [q6i (H:=H22),T.z8O,p1,q1,nnA,q0b,Nat.reduceAdd,q0d,Nat.reduceLeDiff,lcl,q1o hb,a3,true_or,x2,q1o hB,x5,ft,frl,Fr.refl,df f0,xbf]
   exact done _ ((Fr.refl m).lay _) _
end
end
section
set_option maxRecDepth 4000
open Go Go.Abs
section
variable {m:Mem} {b:Nat} {st:LSt} {F:List Nat}
theorem z1b (h:q0G m b st F) (w:LWf st) (id:Int) {x:Wd} (hx:x.ok) (s:Int) :
  ∃m',run E22 (.fn 31) [.ptr (some ⟨b,0⟩),.int .u64 id,.agg (q0H x s)] m=some (.int .i64 (q2M st id x s).1,m')/\q0G m' b (q2M st id x s).2 F/\Fr m m' F:=by
 have ga:=z2a (H:=H22) rfl h (by have:=w.la;omega) id;have gpp:=fun k=>q9z (H:=H22) rfl h (by have:=w.lp;omega) k
 have hF:=h.lt;obtain⟨sp,sq,sa,rp,rq,ra,h1,h2,h3,h4,h5⟩:=h.ex;have hb:=Mem.q0v h1;have a3:∀i:Nat,ld1 m (.ptr (some ⟨b,i⟩))=[sp,sq,sa,.int .u64 st.latest,.int .i64 st.most][i]?:=fun i=>q0f h1
 have done:∀M,Fr m M []->∀v:AV,∃m',some (v,M)=some (v,m')/\q0G m' b st F/\Fr m m' F:=fun M hM v=>⟨M,rfl,h.q0k hM,hM.any F⟩
 unfold q2M;rcases LSt.q1D w id with ⟨e,hn⟩|⟨a,p,e,g1,g2,hid,hka,hpn,hkp,ma,mp⟩
 ·have hk:q0Y q0p id (st.q0j.map (·.id))=false:=by
   cases hk:q0Y q0p id (st.q0j.map (·.id)) with
   |false=>rfl
   |true=>obtain⟨a,a1,_⟩:=LSt.q1x hk;rw[hn]at a1;cases a1
  rw[z04 w hk]at ga;rw[e];simp only[ne_eq,show ¬(40:Int)=0 by omega,not_false_eq_true,if_true,q0H];simp (maxDischargeDepth:=20) only [q97 (H:=H22) rfl,T.f31,p2,q0N,q0b,wp,AV.one,AV.cells,lcl,ga,frl,Fr.refl,dt (show (-1:Int)<0 by omega)];exact done _ ((Fr.refl m).lay _) _
 ·rw[z2i w hka]at ga;rw[e];obtain⟨a',q1,q2,q3,q4⟩:=LSt.q1x hka;rw[g1]at q1;cases q1;have hlt:st.iA id<st.q0j.length:=(xgi.1 q3).1;obtain⟨bb,hbb,x1,x2,x3,x4⟩:=h4.fld (i:=st.iA id) (by rw[xlm];exact hlt);have hB:bb<m.next:=by subst hbb;exact h4.lt
  rw[xlm]at x1 x2;subst x1;have q5:st.q0j[st.iA id]? = some a:=q3;have ha:st.q0j[st.iA id]=a:=by have q6:=q5;rw[xgq hlt]at q6;simpa using q6
  have x5:=x3 1 (by omega);have x6:=x4 2 2 (by omega);rw[xgm,ha]at x5 x6;have hkp':=hkp;rw[hpn]at hkp;have gp:=gpp a.q1C;rw[q9w w hkp]at gp;obtain⟨p',p1,p2,p3,p4⟩:=LSt.q1I hkp;rw[g2]at p1;cases p1;have hlt2:st.iP a.q1C<st.q0a.length:=(xgi.1 p3).1;obtain⟨bc,hbc,y1,y2,y3,y4⟩:=h2.fld (i:=st.iP a.q1C) (by rw[xlm];exact hlt2);have hC:bc<m.next:=by subst hbc;exact h2.lt
  rw[xlm]at y1 y2;subst y1;have p5:st.q0a[st.iP a.q1C]? = some p:=p3;have hp:st.q0a[st.iP a.q1C]=p:=by have p6:=p5;rw[xgq hlt2]at p6;simpa using p6
  have y6:=y4 2 2 (by omega);rw[xgm,hp]at y6;simp only[ge,q1k.cells,q0r.cells,List.drop_succ_cons,List.drop_zero,List.take_succ_cons,List.take_zero]at x5 x6 y6;have ft:=j4z (H:=H22) rfl h w g2 hx s;obtain⟨fe,hfe⟩:∃fe,fe=q2t p x s:=⟨_,rfl⟩;simp only[<-hfe,q0H,ne_eq,not_true_eq_false,if_false]at ft⊢;by_cases f0:fe=0
  ·subst f0;rw[if_neg (by simp)];have po:=fun m=>q9u (H:=H22) rfl (w.oka a ma).1 hx m
   have hsl:=j0K (a.bal.val-x.val);simp only[Wd.cells]at po;have xpos:0<x.val:=by
    have h1:=hfe;unfold q2t at h1;split at h1
    ·omega
    ·split at h1<;>omega
   by_cases hpr:a.bal.val<x.val
   ·rw[if_pos hpr];rw[dt (show a.bal.val-x.val<0 by omega)]at hsl;simp (maxDischargeDepth:=20) only [q97 (H:=H22) rfl,T.f31,q0N,q0b,wp,AV.one,AV.cells,lcl,ga,frl,Fr.refl,df (show ¬((st.iA id:Nat):Int)<0 by omega)];simp (maxDischargeDepth:=20) only [q6j (H:=H22),T.z8P,p1,q1,nnA,q0b,Nat.reduceAdd,q0d,Nat.reduceLeDiff,lcl,q1o hb,a3,true_or,x2,q1o hB,x5,ft,frl,Fr.refl,decide_true,xbt]
    simp (maxDischargeDepth:=20) only [q8P (H:=H22),T.j2s,p1,q1,nnA,q0b,Nat.reduceAdd,q0d,Nat.reduceLeDiff,lcl,q1o hb,a3,true_or,x2,q1o hB,x5,x6,gp,frl,Fr.refl,po,hsl];exact done _ ((Fr.refl m).lay _) _
   ·rw[if_neg hpr];rw[df (show ¬a.bal.val-x.val<0 by omega)]at hsl;have su:=fun m=>q5p (H:=H22) rfl (w.oka a ma).1 hx m
    have ad:=fun m=>q5m (H:=H22) rfl (w.okp p mp).2.2.1 hx m
    have e1:q0M (a.bal.val-x.val)=true:=by
     have h1:=z2x (w.oka a ma).1;have h2:=Wd.q6C (w.oka a ma).1;unfold q0M at h2⊢;simp only[Bool.and_eq_true,decide_eq_true_eq]at h2⊢;omega
    simp only[Wd.cells]at ad su;have c2:=q3B (n:=p.out.val+x.val);rw[q1u e1]at su;unfold q3Y;rw[e1,Bool.true_and];obtain⟨nx,hnx⟩:∃nx,nx=Wd.of (a.bal.val-x.val):=⟨_,rfl⟩;rw[<-hnx]at su⊢;cases e2:q0M (p.out.val+x.val) with
    |false=>
     rw[e2]at c2;rw[if_neg (by simp)];simp (maxDischargeDepth:=20) only [q97 (H:=H22) rfl,T.f31,q0N,q0b,wp,AV.one,AV.cells,lcl,ga,frl,Fr.refl,df (show ¬((st.iA id:Nat):Int)<0 by omega)];simp (maxDischargeDepth:=20) only [q6j (H:=H22),T.z8P,p1,q1,nnA,q0b,Nat.reduceAdd,q0d,Nat.reduceLeDiff,lcl,q1o hb,a3,true_or,x2,q1o hB,x5,ft,frl,Fr.refl,decide_true,xbt]
     simp (maxDischargeDepth:=20) only [q8P (H:=H22),T.j2s,p1,q1,nnA,q0b,Nat.reduceAdd,q0d,Nat.reduceLeDiff,lcl,q1o hb,a3,true_or,x2,q1o hB,x5,x6,gp,frl,Fr.refl,po,hsl];simp (maxDischargeDepth:=20) only [z3e (H:=H22),T.j8j,p1,q1,pB,nnA,q0l,q0b,Nat.reduceAdd,q1b,AV.one,over,AV.cells,Nat.reduceLeDiff,lcl,q1o hb,z1B hb,a3,true_or,x2,q1o hB,x6,y2,q1o hC,z1B hC,y6,ad,su,c2,xbf]
     refine done _ ?_ _
     (repeat apply Fr.lays)
     exact Fr.refl _
    |true=>
     rw[if_pos rfl];rw[q1u e2]at ad;obtain⟨ny,hny⟩:∃ny,ny=Wd.of (p.out.val+x.val):=⟨_,rfl⟩;rw[<-hny]at ad⊢;obtain⟨M3,hM3⟩:∃M3,M3=((m.lay (.cells (q0H x s) false)).lay (.cells nx.cells false)).lay (.cells ny.cells false):=⟨_,rfl⟩;have f3:Fr m M3 []:=by rw[hM3];(repeat apply Fr.lays);exact Fr.refl _
     have hb3:=f3.get h1 (by simp);have z1:M3.get (m.next+1)=some (.cells nx.cells false):=by rw[hM3];simp[Mem.q0E]
     have z2:M3.get (m.next+1+1)=some (.cells ny.cells false):=by rw[hM3];simp[Mem.q0E]
     obtain⟨bb',m4,s1,s2,s3,s4,s5,s6⟩:=(h.q0k f3).stA hb3 (a:=a) (by rw[hid];exact q5) nx;cases s1;have hb4:=s6.trans hb3;obtain⟨bc',m5,t1,t2,t3,t4,t5,t6⟩:=s3.stP hb4 (a:=p) (by rw[hpn];exact p5) ny;cases t1;rw[hid]at s2;have t2':stV m4 (.ptr (some ⟨bc,st.iP a.q1C*4+2⟩)) (.agg ny.cells) 2=some m5:=by rw[<-hpn];exact t2
     have n3:m.next<=M3.next:=f3.next
     have z4:=s4.get z2 (fun hc=>by have:=hF _ hc;omega)
     have a33:∀i:Nat,ld1 M3 (.ptr (some ⟨b,i⟩))=[.sl (some ⟨bc,0⟩) 4 st.q0a.length st.q0a.length false,sq,.sl (some ⟨bb,0⟩) 4 st.q0j.length st.q0j.length false,.int .u64 st.latest,.int .i64 st.most][i]?:=fun i=>q0f hb3
     have a34:∀i:Nat,ld1 m4 (.ptr (some ⟨b,i⟩))=[.sl (some ⟨bc,0⟩) 4 st.q0a.length st.q0a.length false,sq,.sl (some ⟨bb,0⟩) 4 st.q0j.length st.q0j.length false,.int .u64 st.latest,.int .i64 st.most][i]?:=fun i=>q0f hb4
     have l1:ldN M3 (.ptr (some ⟨m.next+1,0⟩)) 2=some (.agg nx.cells):=q0C z1 rfl
     have l2:ldN m4 (.ptr (some ⟨m.next+1+1,0⟩)) 2=some (.agg ny.cells):=q0C z4 rfl
     refine⟨m5,?_,t3,((f3.any F).step s4 (fun c hc=>.inl hc)).step t4 (fun c hc=>.inl hc)⟩
     simp only[q0H,Wd.cells]at hM3 l1 l2 s2 t2';simp (maxDischargeDepth:=20) only [q97 (H:=H22) rfl,T.f31,q0N,q0b,wp,AV.one,AV.cells,lcl,ga,frl,Fr.refl,df (show ¬((st.iA id:Nat):Int)<0 by omega)];simp (maxDischargeDepth:=20) only [q6j (H:=H22),T.z8P,p1,q1,nnA,q0b,Nat.reduceAdd,q0d,Nat.reduceLeDiff,lcl,q1o hb,a3,true_or,x2,q1o hB,x5,ft,frl,Fr.refl,decide_true,xbt]
     simp (maxDischargeDepth:=20) only [q8P (H:=H22),T.j2s,p1,q1,nnA,q0b,Nat.reduceAdd,q0d,Nat.reduceLeDiff,lcl,q1o hb,a3,true_or,x2,q1o hB,x5,x6,gp,frl,Fr.refl,po,hsl];simp (maxDischargeDepth:=20) only [z3e (H:=H22),T.j8j,p1,q1,pB,nnA,q0l,q0b,Nat.reduceAdd,q1b,AV.one,over,AV.cells,Nat.reduceLeDiff,lcl,q1o hb,z1B hb,a3,true_or,x2,q1o hB,x6,y2,q1o hC,z1B hC,y6,ad,su,decide_true,xbt,<-hM3]
     simp only[j2t (H:=H22),T.a4f,p1,q1,nnA,q0d,a33,l1,true_or,if_true,x2,s2,a34,l2,y2,t2']
  ·rw[if_pos f0];simp (maxDischargeDepth:=20) only [q97 (H:=H22) rfl,T.f31,q0N,q0b,wp,AV.one,AV.cells,lcl,ga,frl,Fr.refl,df (show ¬((st.iA id:Nat):Int)<0 by omega)];simp (maxDischargeDepth:=20) only [q6j (H:=H22),T.z8P,p1,q1,nnA,q0b,Nat.reduceAdd,q0d,Nat.reduceLeDiff,lcl,q1o hb,a3,true_or,x2,q1o hB,x5,ft,frl,Fr.refl,df f0,xbf]
   exact done _ ((Fr.refl m).lay _) _
end
end
end Go.Proofs.YtlginbmjiecglaaGreatDoor
