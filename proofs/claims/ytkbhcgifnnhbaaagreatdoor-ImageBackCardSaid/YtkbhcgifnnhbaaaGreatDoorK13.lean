/- Texts of one claim, put together. -/
import Derived.Test.YtkbhcgifnnhbaaaGreatDoorK12
namespace Go.Abs
open Go
noncomputable section
mutual
def AV.lt (N:Nat):AV->Prop
 | .ptr (some a)=>a.b<N
 | .sl (some a) ..=>a.b<N
 | .map (some r)=>r<N
 | .fn _ x y=>AV.lts N x/\AV.lts N y
 | .yld b=>b<N
 | .iface _ u=>AV.lt N u
 | .agg cs=>AV.lts N cs
 | .tup vs=>AV.lts N vs
 | _=>True
def AV.lts (N:Nat):List AV->Prop
 |[]=>True
 |a::az=>AV.lt N a/\AV.lts N az
end
mutual
theorem AV.q09 {N M:Nat} (h:N<=M):∀{a:AV},AV.lt N a->AV.lt M a
 | .undef,_ | .bool _,_ | .int ..,_ | .str _,_ | .ptr none,_ | .sl none ..,_ | .map none,_ | .nilFn,_ | .nilIface,_=>by simp[AV.lt]
 | .ptr (some a),r=>by simp only[AV.lt]at r⊢;omega
 | .sl (some a) ..,r=>by simp only[AV.lt]at r⊢;omega
 | .map (some a),r=>by simp only[AV.lt]at r⊢;omega
 | .yld b,r=>by simp only[AV.lt]at r⊢;omega
 | .fn f x y,r=>by simp only[AV.lt]at r⊢;exact⟨AV.q2y h r.1,AV.q2y h r.2⟩
 | .iface t u,r=>by simp only[AV.lt]at r⊢;exact AV.q09 h r
 | .agg cs,r=>by simp only[AV.lt]at r⊢;exact AV.q2y h r
 | .tup cs,r=>by simp only[AV.lt]at r⊢;exact AV.q2y h r
theorem AV.q2y {N M:Nat} (h:N<=M):∀{a:List AV},AV.lts N a->AV.lts M a
 |[],_=>by simp[AV.lts]
 |a::az,r=>by simp only[AV.lts]at r⊢;exact⟨AV.q09 h r.1,AV.q2y h r.2⟩
end
mutual
theorem AV.z5e:∀a:AV,∃N,AV.lt N a
 | .undef | .bool _ | .int .. | .str _ | .ptr none | .sl none .. | .map none | .nilFn | .nilIface=>⟨0,by simp[AV.lt]⟩
 | .ptr (some a)=>⟨a.b+1,by simp[AV.lt]⟩
 | .sl (some a) ..=>⟨a.b+1,by simp[AV.lt]⟩
 | .map (some r)=>⟨r+1,by simp[AV.lt]⟩
 | .yld b=>⟨b+1,by simp[AV.lt]⟩
 | .fn f x y=>by
  obtain⟨N,h⟩:=AV.q7S x;obtain⟨M,h'⟩:=AV.q7S y;exact⟨max N M,by simp only[AV.lt];exact⟨AV.q2y (Nat.le_max_left _ _) h,AV.q2y (Nat.le_max_right _ _) h'⟩⟩
 | .iface t u=>by obtain⟨N,h⟩:=AV.z5e u;exact⟨N,by simpa only [AV.lt]using h⟩
 | .agg cs=>by obtain⟨N,h⟩:=AV.q7S cs;exact⟨N,by simpa only [AV.lt]using h⟩
 | .tup cs=>by obtain⟨N,h⟩:=AV.q7S cs;exact⟨N,by simpa only [AV.lt]using h⟩
theorem AV.q7S:∀a:List AV,∃N,AV.lts N a
 |[]=>⟨0,by simp[AV.lts]⟩
 |a::az=>by
  obtain⟨N,h⟩:=AV.z5e a;obtain⟨M,h'⟩:=AV.q7S az;exact⟨max N M,by simp only[AV.lts];exact⟨AV.q09 (Nat.le_max_left _ _) h,AV.q2y (Nat.le_max_right _ _) h'⟩⟩
end
mutual
theorem VR.cut {N:Nat} {p q:Phi} (h:∀b,b<N->p b=q b):∀{a:AV} {v:Value},AV.lt N a->VR p a v->VR q a v
 | .undef,_,_,_=>by simp[VR]
 | .bool _,_,_,r=>by simpa[VR]using r
 | .int ..,_,_,r=>by simpa[VR]using r
 | .str _,_,_,r=>by simpa[VR]using r
 | .ptr none,_,_,r=>by simpa[VR]using r
 | .ptr (some a),_,l,r=>by
  simp only[AV.lt]at l;simp only[VR]at r⊢;obtain⟨ci,h1,h2⟩:=r;exact⟨ci,(h _ l)▸h1,h2⟩
 | .sl none ..,_,_,r=>by simpa[VR]using r
 | .sl (some a) ..,_,l,r=>by
  simp only[AV.lt]at l;simp only[VR,SR]at r⊢;obtain⟨ci,off,cap',h1,h2⟩:=r;exact⟨ci,off,cap',(h _ l)▸h1,h2⟩
 | .map none,_,_,r=>by simpa[VR]using r
 | .map (some a),_,l,r=>by
  simp only[AV.lt]at l;simp only[VR]at r⊢;obtain⟨ci,h1,h2⟩:=r;exact⟨ci,(h _ l)▸h1,h2⟩
 | .fn f x y,_,l,r=>by
  simp only[AV.lt]at l;simp only[VR]at r⊢;obtain⟨x',y',h1,h2,h3⟩:=r;exact⟨x',y',h1,VRs.cut h l.1 h2,VRs.cut h l.2 h3⟩
 | .yld b,_,l,r=>by
  simp only[AV.lt]at l;simp only[VR]at r⊢;obtain⟨ci,h1,h2⟩:=r;exact⟨ci,(h _ l)▸h1,h2⟩
 | .nilFn,_,_,r=>by simpa[VR]using r
 | .iface t u,_,l,r=>by
  simp only[AV.lt]at l;simp only[VR]at r⊢;obtain⟨u',h1,h2⟩:=r;exact⟨u',h1,VR.cut h l h2⟩
 | .nilIface,_,_,r=>by simpa[VR]using r
 | .agg cs,_,l,r=>by
  simp only[AV.lt]at l;simp only[VR]at r⊢;obtain⟨u',h1,h2⟩:=r;exact⟨u',h1,VRs.cut h l h2⟩
 | .tup cs,_,l,r=>by
  simp only[AV.lt]at l;simp only[VR]at r⊢;obtain⟨u',h1,h2⟩:=r;exact⟨u',h1,VRs.cut h l h2⟩
theorem VRs.cut {N:Nat} {p q:Phi} (h:∀b,b<N->p b=q b):∀{a:List AV} {v:List Value},AV.lts N a->VRs p a v->VRs q a v
 |[],_,_,r=>by simpa[VRs]using r
 |a::az,_,l,r=>by
  simp only[AV.lts]at l;simp only[VRs]at r⊢;obtain⟨v,vs,h1,h2,h3⟩:=r;exact⟨v,vs,h1,VR.cut h l.1 h2,VRs.cut h l.2 h3⟩
end
mutual
theorem VR.back {p q:Phi} (h:p.le q):∀{a:AV} {v v':Value},VR p a v->VR q a v'->VR p a v'
 | .undef,_,_,_,_=>by simp[VR]
 | .bool _,_,_,_,r=>by simpa[VR]using r
 | .int ..,_,_,_,r=>by simpa[VR]using r
 | .str _,_,_,_,r=>by simpa[VR]using r
 | .ptr none,_,_,_,r=>by simpa[VR]using r
 | .ptr (some a),_,_,l,r=>by
  simp only[VR]at l r⊢;obtain⟨ci,h1,h2⟩:=l;obtain⟨ci',h3,h4⟩:=r;rw[h _ _ h1]at h3;cases h3;exact⟨ci,h1,h4⟩
 | .sl none ..,_,_,_,r=>by simpa[VR]using r
 | .sl (some a) ..,_,_,l,r=>by
  simp only[VR,SR]at l r⊢;obtain⟨ci,_,_,h1,_⟩:=l;obtain⟨ci',off,cap',h3,h4⟩:=r;rw[h _ _ h1]at h3;cases h3;exact⟨ci,off,cap',h1,h4⟩
 | .map none,_,_,_,r=>by simpa[VR]using r
 | .map (some a),_,_,l,r=>by
  simp only[VR]at l r⊢;obtain⟨ci,h1,h2⟩:=l;obtain⟨ci',h3,h4⟩:=r;rw[h _ _ h1]at h3;cases h3;exact⟨ci,h1,h4⟩
 | .fn f x y,_,_,l,r=>by
  simp only[VR]at l r⊢;obtain⟨x0,y0,_,g2,g3⟩:=l;obtain⟨x',y',h1,h2,h3⟩:=r;exact⟨x',y',h1,VRs.back h g2 h2,VRs.back h g3 h3⟩
 | .yld b,_,_,l,r=>by
  simp only[VR]at l r⊢;obtain⟨ci,h1,h2⟩:=l;obtain⟨ci',h3,h4⟩:=r;rw[h _ _ h1]at h3;cases h3;exact⟨ci,h1,h4⟩
 | .nilFn,_,_,_,r=>by simpa[VR]using r
 | .iface t u,_,_,l,r=>by
  simp only[VR]at l r⊢;obtain⟨u0,_,g2⟩:=l;obtain⟨u',h1,h2⟩:=r;exact⟨u',h1,VR.back h g2 h2⟩
 | .nilIface,_,_,_,r=>by simpa[VR]using r
 | .agg cs,_,_,l,r=>by
  simp only[VR]at l r⊢;obtain⟨u0,_,g2⟩:=l;obtain⟨u',h1,h2⟩:=r;exact⟨u',h1,VRs.back h g2 h2⟩
 | .tup cs,_,_,l,r=>by
  simp only[VR]at l r⊢;obtain⟨u0,_,g2⟩:=l;obtain⟨u',h1,h2⟩:=r;exact⟨u',h1,VRs.back h g2 h2⟩
theorem VRs.back {p q:Phi} (h:p.le q):∀{a:List AV} {v v':List Value},VRs p a v->VRs q a v'->VRs p a v'
 |[],_,_,_,r=>by simpa[VRs]using r
 |a::az,_,_,l,r=>by
  simp only[VRs]at l r⊢;obtain⟨v0,vs0,_,g2,g3⟩:=l;obtain⟨v,vs,h1,h2,h3⟩:=r;exact⟨v,vs,h1,VR.back h g2 h2,VRs.back h g3 h3⟩
end
def Blk.lt (N:Nat):Blk->Prop
 | .cells cs _=>AV.lts N cs
 | .loop l=>AV.lts N l.tmps
 | .map es=>∀e∈es,AV.lt N e.1/\AV.lt N e.2
 | .rmap es c=>c<N/\∀e∈es,AV.lt N e.1/\AV.lt N e.2
 | .iter b left cur=>b<N/\(∀e∈left,AV.lt N e.1/\AV.lt N e.2)/\∀e,cur=some e->AV.lt N e.1/\AV.lt N e.2
theorem Blk.q09 {N M:Nat} (h:N<=M) {b:Blk} (r:b.lt N):b.lt M:=by
 cases b with
 |cells cs ro=>exact AV.q2y h r
 |loop l=>exact AV.q2y (a:=l.tmps) h r
 |map es=>exact fun e he=>⟨AV.q09 h (r e he).1,AV.q09 h (r e he).2⟩
 |rmap es c=>exact⟨xCc r.1 h,fun e he=>⟨AV.q09 h (r.2 e he).1,AV.q09 h (r.2 e he).2⟩⟩
 |iter b left cur=>exact⟨xCc r.1 h,fun e he=>⟨AV.q09 h (r.2.1 e he).1,AV.q09 h (r.2.1 e he).2⟩,fun e he=>⟨AV.q09 h (r.2.2 e he).1,AV.q09 h (r.2.2 e he).2⟩⟩
theorem z2l (es:List (AV×AV)):∃N,∀e∈es,AV.lt N e.1/\AV.lt N e.2:=by
 induction es with
 |nil=>exact⟨0,fun e h=>by cases h⟩
 |cons e es ih=>
  obtain⟨N,h⟩:=ih;obtain⟨A,ha⟩:=AV.z5e e.1;obtain⟨B,hb⟩:=AV.z5e e.2;refine⟨max N (max A B),fun x hx=>?_⟩
  cases hx with
  |head=>exact⟨AV.q09 (by omega) ha,AV.q09 (by omega) hb⟩
  |tail _ hx=>exact⟨AV.q09 (by omega) (h x hx).1,AV.q09 (by omega) (h x hx).2⟩
theorem Blk.z5e (b:Blk):∃N,b.lt N:=by
 cases b with
 |cells cs ro=>exact AV.q7S cs
 |loop l=>exact AV.q7S l.tmps
 |map es=>exact z2l es
 |rmap es c=>
  obtain⟨N,h⟩:=z2l es;exact⟨max N (c+1),by omega,fun e he=>⟨AV.q09 (by omega) (h e he).1,AV.q09 (by omega) (h e he).2⟩⟩
 |iter b left cur=>
  obtain⟨N,h⟩:=z2l (left++cur.toList);exact⟨max N (b+1),by omega,fun e he=>⟨AV.q09 (by omega) (h e (List.mem_append_left _ he)).1,AV.q09 (by omega) (h e (List.mem_append_left _ he)).2⟩,
   fun e he=>by subst he;exact⟨AV.q09 (by omega) (h e (by simp)).1,AV.q09 (by omega) (h e (by simp)).2⟩⟩
theorem Mem.z5e (m:Mem):∃N,m.next<=N/\∀b v,m.get b=some v->v.lt N:=by
 have:∀n,∃N,∀b v,b<n->m.get b=some v->v.lt N:=by
  intro n;induction n with
  |zero=>exact⟨0,fun b v h=>by omega⟩
  |succ n ih=>
   obtain⟨N,h⟩:=ih;cases e:m.get n with
   |none=>exact⟨N,fun b v hb hv=>by
     by_cases hn:b=n
     ·subst hn;rw[e]at hv;cases hv
     ·exact h b v (by omega) hv⟩
   |some x=>
    obtain⟨M,hM⟩:=x.z5e;refine⟨max N M,fun b v hb hv=>?_⟩
    by_cases hn:b=n
    ·subst hn;rw[e]at hv;cases hv;exact Blk.q09 (by omega) hM
    ·exact Blk.q09 (by omega) (h b v (by omega) hv)
 obtain⟨N,h⟩:=this m.next
 exact⟨max N m.next,by omega,fun b v hv=>Blk.q09 (by omega) (h b v (Mem.q0u hv) hv)⟩
theorem AV.j9k {N:Nat} {a:AV}:∀{l:List AV},AV.lts N l->a∈l->AV.lt N a
 |x::l,h,ha=>by
  simp only[AV.lts]at h;cases ha with
  |head=>exact h.1
  |tail _ ha=>exact AV.j9k h.2 ha
theorem ER.cut {N:Nat} {p q:Phi} (h:∀b,b<N->p b=q b):∀{l:List (AV×AV)} {es:List MapEntry},(∀e∈l,AV.lt N e.1/\AV.lt N e.2)->ER p l es->ER q l es
 |[],_,_,r=>by simpa[ER]using r
 |(k,v)::l,_,hl,r=>by
  simp only[ER]at r⊢;obtain⟨e,es,h1,h2,h3,h4⟩:=r;exact⟨e,es,h1,VR.cut h (hl _ xmc).1 h2,VR.cut h (hl _ xmc).2 h3,ER.cut h (fun e he=>hl e (xBa _ he)) h4⟩
theorem BR.cut {P:Program} {N:Nat} {p q:Phi} (h:∀b,b<N->p b=q b) {ci:CI}:∀{b:Blk} {o:Obj},b.lt N->BR P p ci b o->BR P q ci b o
 | .cells _cs _ro,_o,l,⟨arr,el,fr,h1,h2,h3,h4⟩=>⟨arr,el,fr,h1,h2,h3,fun i a hi=>let ⟨v,x,y⟩:=h4 i a hi;⟨v,x,VR.cut h (AV.j9k l (xCa hi)) y⟩⟩
 | .loop _l,_o,l,⟨fn,vs,d,h1,h2,h3⟩=>⟨fn,vs,d,h1,VRs.cut h l h2,h3⟩
 | .map _es,_o,l,⟨ces,clock,h1,⟨x,h2,h3⟩,h4⟩=>⟨ces,clock,h1,⟨x,h2,ER.cut h (fun e he=>l e (h2.mem_iff.1 he)) h3⟩,h4⟩
 | .rmap _es _c,_o,l,⟨ces,clock,h1,⟨x,h2,h3⟩,h4,cc,h5,h6⟩=>⟨ces,clock,h1,⟨x,h2,ER.cut h (fun e he=>l.2 e (h2.mem_iff.1 he)) h3⟩,h4,cc,by rw[<-h _ l.1];exact h5,h6⟩
 | .iter _b _l _c,_o,l,⟨bi,ces,clock,seen,last,h1,h2,h3,h4,h5,⟨x,h6,h7⟩,h8⟩=>⟨bi,ces,clock,seen,last,h1,by rw[<-h _ l.1];exact h2,h3,h4,h5,⟨x,h6,ER.cut h (fun e he=>l.2.1 e (h6.mem_iff.1 he)) h7⟩,
   fun e he=>let ⟨a,ce,b1,b2,b3,b4⟩:=h8 e he;⟨a,ce,b1,b2,VR.cut h (l.2.2 e he).1 b3,VR.cut h (l.2.2 e he).2 b4⟩⟩
def AV.flat (a:AV):Prop:=AV.lt 0 a
theorem VR.flat {p q:Phi} {a:AV} {v:Value} (h:a.flat) (r:VR p a v):VR q a v:=VR.cut (N:=0) (fun b hb=>by omega) h r
def Mem.upT (m:Mem):Nat->PT
 | 0=>.leaf
 |n+1=>(upT m n).set n (m.get n)
def Mem.up (m:Mem) (N:Nat):Mem:=⟨N,m.upT N⟩
theorem Mem.a0C (m:Mem):∀n b,(m.upT n).get b=if b<n then m.get b else none
 | 0,b=>by simp[Mem.upT,PT.z1Q]
 |n+1,b=>by
  simp only[Mem.upT,PT.z1S,Mem.a0C m n b];by_cases h:b=n
  ·subst h;simp
  ·rw[xAa h];by_cases h2:b<n
   ·rw[xAb h2,xAb (by omega)]
   ·rw[xAa h2,xAa (by omega)]
theorem Mem.b5e (m:Mem) {N:Nat} (hN:m.next<=N) (b:Nat):(m.up N).get b=m.get b:=by
 rw[Mem.q2i];show (if b<N then (m.upT N).get b else none)=m.get b
 rw[Mem.a0C];by_cases h:b<N
 ·simp[h]
 ·rw[xAa h,Mem.z0H (by omega)]
open Classical in
def q0B (E:Env) (f:FuncId) (args:List AV) (m:Mem):R:=
 if h:∃v:AV,v.flat/\∀m2:Mem,m.next<=m2.next->(∀b,m2.get b=m.get b)->∃m',run E (.fn f) args m2=some (v,m')/\Fr m2 m' [] then some (h.choose,m) else none
theorem j35 {E:Env} {f:FuncId} {args:List AV} {m:Mem} {v:AV} (hv:v.flat) (h:∀m2:Mem,m.next<=m2.next->(∀b,m2.get b=m.get b)->Res m2 (run E (.fn f) args m2) v):q0B E f args m=some (v,m):=by
 have hex:∃v:AV,v.flat/\∀m2:Mem,m.next<=m2.next->(∀b,m2.get b=m.get b)->∃m',run E (.fn f) args m2=some (v,m')/\Fr m2 m' []:=⟨v,hv,h⟩
 unfold q0B;rw[dif_pos hex];obtain⟨_,h2⟩:=hex.choose_spec;obtain⟨m1,e1,_⟩:=h2 m (xnr _) (fun _=>rfl)
 obtain⟨m2,e2,_⟩:=h m (xnr _) (fun _=>rfl)
 rw[e1]at e2;cases e2;rfl
theorem ER.back {pn p q:Phi} (le:pn.le q) (lp:pn.le p) {es l l0:List (AV×AV)} {c0 c1:List MapEntry} (k2:l0.Perm es) (k3:ER pn l0 c0) (g2:l.Perm es) (g3:ER q l c1):ER p l c1:=by
 have known:∀e∈l,∃x y,VR pn e.1 x/\VR pn e.2 y:=by
  have:∀{l0:List (AV×AV)} {c0:List MapEntry},ER pn l0 c0->∀e∈l0,∃x y,VR pn e.1 x/\VR pn e.2 y:=by
   intro l0;induction l0 with
   |nil=>intro c0 _ e he;cases he
   |cons a l0 ih=>
    intro c0 hr e he;obtain⟨ka,va⟩:=a;simp only[ER]at hr;obtain⟨e1,es1,_,r2,r3,r4⟩:=hr;cases he with
    |head=>exact⟨_,_,r2,r3⟩
    |tail _ he=>exact ih r4 e he
  intro e he;exact this k3 e (k2.mem_iff.2 (g2.mem_iff.1 he))
 have step:∀{l0:List (AV×AV)} {c0:List MapEntry},(∀e∈l0,∃x y,VR pn e.1 x/\VR pn e.2 y)->ER q l0 c0->ER p l0 c0:=by
  intro l0;induction l0 with
  |nil=>intro c0 _ hr;simpa[ER]using hr
  |cons a l0 ih=>
   intro c0 hk hr;obtain⟨ka,va⟩:=a;simp only[ER]at hr⊢;obtain⟨e1,es1,r1,r2,r3,r4⟩:=hr;obtain⟨x,y,z1,z2⟩:=hk _ xmc;exact⟨e1,es1,r1,(VR.back le z1 r2).mono lp,(VR.back le z2 r3).mono lp,ih (fun e he=>hk e (xBa _ he)) r4⟩
 exact step known g3
theorem z8U {E:Env} (hE:q07 E) {f:FuncId} (args:List AV) (m:Mem) (r:AV) (m':Mem) (h:q0B E f args m=some (r,m')):z2O E.P (.fn f) args m r m':=by
 unfold q0B at h;split at h
 ·rename_i hex;obtain⟨v,hv0⟩:∃v,v=hex.choose:=⟨_,rfl⟩;have hspec:=hex.choose_spec;rw[<-hv0]at hspec h;obtain⟨hflat,hrun⟩:=hspec;cases h;clear hv0;refine⟨xnr _,fun p w cargs hm hG _ hv=>?_⟩
  obtain⟨N0,hN0,hlt⟩:=m.z5e;obtain⟨NA,hNA⟩:=AV.q7S args;obtain⟨N,hN⟩:∃N,N=max N0 NA:=⟨_,rfl⟩;have hgN:∀b,(m.up N).get b=m.get b:=fun b=>m.b5e (by omega) b
  obtain⟨m1,e1,hfr⟩:=hrun (m.up N) (by show m.next<=N;omega) hgN
  have hp:∀b,b<N->p b=(fun b=>if b<N then p b else none) b:=fun b hb=>by simp[hb]
  have hp0le:Phi.le (fun b=>if b<N then p b else none) p:=fun b ci hb=>by
   by_cases h:b<N
   ·simpa[h]using hb
   ·simp[h]at hb
  have hm2:MR E.P (fun b=>if b<N then p b else none) (m.up N) w:=by
   refine⟨fun b blk ci h1 h2=>?_,fun b ci b2 ci2 h1 h2 h3 h4=>?_,fun b ci h1=>hm.bnd b ci (hp0le _ _ h1),fun g hg=>?_⟩
   ·rw[hgN]at h1;obtain⟨o,h3,h4⟩:=hm.has b blk ci h1 (hp0le _ _ h2);exact⟨o,h3,BR.cut hp (Blk.q09 (by omega) (hlt b blk h1)) h4⟩
   ·rw[hgN]at h1⊢;rcases hm.inj b ci b2 ci2 h1 (hp0le _ _ h2) (hp0le _ _ h3) h4 with h5|⟨h5,h6⟩
    ·exact .inl h5
    ·exact .inr ⟨by show b2<N;omega,h6⟩
   ·obtain⟨n,hn⟩:=hm.q23 g hg;have:g<GP E.P:=hg;exact⟨n,by show (if g<N then p g else none)=_;rw[xAb (by omega)];exact hn⟩
  have hfree:q7g (fun b=>if b<N then p b else none) (m.up N).next m1.next:=fun b h1 h2=>by
   have:N<=b:=h1;show (if b<N then p b else none)=none;rw[xAa (by omega)]
  have hF:=q3f hE (.fn f) _ _ _ _ e1;have back:∀{q:Phi} {w':World} {cv:Value},VR q r cv->Sim E.P (fun b=>if b<N then p b else none) (m.up N) w q m1 w'->VR p r cv/\Sim E.P p m w p m w':=by
   intro q w' cv h1 s;refine⟨VR.flat hflat h1,?_⟩;have hq:∀b ci,b<m.next->p b=some ci->q b=some ci:=fun b ci hb hc=>s.le b ci (by show (if b<N then p b else none)=_;rw[xAb (by omega)];exact hc)
   exact {
    le:=fun _ _ h=>h
    out:=fun _ _=>rfl
    next:=xnr _
    rel:={
     has:=fun b blk ci h3 h4=>by
      have hb:=Mem.q0u h3;have hg1:m1.get b=some blk:=hfr.get (by rw[hgN];exact h3) (by simp);obtain⟨o,h5,h6⟩:=s.rel.has b blk ci hg1 (hq b ci hb h4);obtain⟨o0,h7,h8⟩:=hm.has b blk ci h3 h4;refine⟨o,h5,?_⟩;have h8':=BR.cut hp (Blk.q09 (by omega) (hlt b blk h3)) h8;cases blk with
      |cells cs ro=>
       obtain⟨arr,el,fr,g1,g2,g3,g4⟩:=h6;obtain⟨arr0,el0,fr0,k1,k2,k3,k4⟩:=h8';refine⟨arr,el,fr,g1,g2,g3,fun i a hi=>?_⟩
       obtain⟨v1,x1,y1⟩:=g4 i a hi;obtain⟨v0,x0,y0⟩:=k4 i a hi;exact⟨v1,x1,(VR.back s.le y0 y1).mono hp0le⟩
      |loop l=>
       obtain⟨fn,vs,d,g1,g2,g3⟩:=h6;obtain⟨fn0,vs0,d0,k1,k2,k3⟩:=h8';exact⟨fn,vs,d,g1,(VRs.back s.le k2 g2).mono hp0le,g3⟩
      |map es=>
       obtain⟨ces,clock,g1,⟨l,g2,g3⟩,g4⟩:=h6;obtain⟨ces0,clock0,k1,⟨l0,k2,k3⟩,k4⟩:=h8';refine⟨ces,clock,g1,⟨l,g2,?_⟩,g4⟩;exact ER.back s.le hp0le k2 k3 g2 g3
      |rmap es c=>
       obtain⟨ces,clock,g1,⟨l,g2,g3⟩,g4,cc,g5,g6⟩:=h6;obtain⟨ces0,clock0,k1,⟨l0,k2,k3⟩,k4,cc0,k5,k6⟩:=h8';have e:=s.le _ _ k5;rw[g5]at e;cases e;exact⟨ces,clock,g1,⟨l,g2,ER.back s.le hp0le k2 k3 g2 g3⟩,g4,cc,hp0le _ _ k5,g6⟩
      |iter d left cur=>
       obtain⟨bi,ces,clock,seen,last,g1,g2,g3,g4,g5,⟨l,g6,g7⟩,g8⟩:=h6;obtain⟨bi0,ces0,clock0,seen0,last0,k1,k2,k3,k4,k5,⟨l0,k6,k7⟩,k8⟩:=h8';have e:=s.le _ _ k2;rw[g2]at e;cases e;refine⟨bi,ces,clock,seen,last,g1,hp0le _ _ k2,g3,g4,g5,⟨l,g6,ER.back s.le hp0le k6 k7 g6 g7⟩,fun e he=>?_⟩
       obtain⟨a1,ce,a2,a3,a4,a5⟩:=g8 e he;obtain⟨_,_,_,_,b4,b5⟩:=k8 e he;exact⟨a1,ce,a2,a3,(VR.back s.le b4 a4).mono hp0le,(VR.back s.le b5 a5).mono hp0le⟩
     inj:=hm.inj
     bnd:=fun b ci h4=>xCc (hm.bnd b ci h4) s.size
     q23:=hm.q23}
    q4d:=fun _ _ _=>rfl
    dead:=fun _ _ h=>h
    q3d:=fun c hc hn=>s.q3d c hc fun b ci h3 h4=>hn b ci (by rw[hgN]at h3;exact h3) (hp0le _ _ h4)
    fresh:=fun b ci h3 h4=>absurd h4 (by omega)
    ro:=fun b cs ci h3 h4=>by
     have hb:=Mem.q0u h3;exact⟨h3,(s.ro b cs ci (by rw[hgN];exact h3) (by show (if b<N then p b else none)=_;rw[xAb (by omega)];exact h4)).2⟩
    size:=s.size
    os:=s.os
    output:=s.output
    tape:=s.tape}
  rcases hF.2 _ w cargs hm2 (by show GP E.P<=N;omega) hfree (VRs.cut hp (AV.q2y (by omega) hNA) hv) with ⟨fn,h1,h2,h3,h4⟩|⟨cv,w',q,h1,h2,h3⟩
  ·refine .inl ⟨fn,h1,h2,h3,h4.mono ?_⟩;rintro e w' ⟨cv,q,rfl,h5,h6⟩
   obtain⟨h7,h8⟩:=back h5 h6;exact⟨cv,p,rfl,h7,h8⟩
  ·obtain⟨h7,h8⟩:=back h2 h3;exact .inr ⟨cv,w',p,h1,h7,h8⟩
 ·cases h
def q1R (E:Env) (S:List FuncId):FuncId->Option (List AV->Mem->R):=fun f=>if f∈S then some (q0B E f) else E.H f
theorem q0U {E:Env} (hE:q07 E) (S:List FuncId):q07 {E with H:=q1R E S} where
 mixed:=hE.mixed
 body:=fun f hf=>hE.body f (by
  have h1:(if f∈S then some (q0B E f) else E.H f)=none:=hf
  split at h1
  ·cases h1
  ·exact h1)
 hook:=fun f h e args m r m' hr=>by
  simp only[q1R]at e;split at e
  ·cases e;exact z8U hE args m r m' hr
  ·exact hE.hook f h e args m r m' hr
end
end Go.Abs
section
namespace Go.Abs
open Go
theorem q0i (x:Int):IntKind.wrap .u64 x=x % 18446744073709551616:=z6i x
theorem q2o {x:Int} (h:0<=x) (h2:x<18446744073709551616):(BitVec.ofInt 64 x).toNat=x.toNat:=by
 rw[BitVec.toNat_ofInt];congr 1;exact xEn h h2
theorem q6o {P:Program} (t:TypeId) {x:Int} (h:0<=x) (h2:x<18446744073709551616):q0E P .and t (.int .u64 x) (.int .u64 4294967295)=some (.int .u64 (x % 4294967296)):=by
 simp only[q0E,xAd,q6i];congr 2;have e:(BitVec.ofInt IntKind.u64.bits x &&& BitVec.ofInt IntKind.u64.bits 4294967295).toNat=x.toNat % 4294967296:=by
  show (BitVec.ofInt 64 x &&& BitVec.ofInt 64 4294967295).toNat=_;rw[BitVec.toNat_and,q2o h h2,q2o (by omega) (by omega)];exact Nat.and_two_pow_sub_one_eq_mod x.toNat 32
 rw[e,q0i];omega
theorem a4U {P:Program} (t:TypeId) {a b:Nat} {s:Nat} (ha:a*2 ^ s<18446744073709551616) (hb:b<2 ^ s) (hb2:b<18446744073709551616) :
  q0E P .or t (.int .u64 ((a*2 ^ s:Nat):Int)) (.int .u64 (b:Int))=some (.int .u64 ((a*2 ^ s+b:Nat):Int)):=by
 simp only[q0E,xAd,q6i];congr 2;have e0:a*2 ^ s ||| b=a*2 ^ s+b:=by
  have:=Nat.shiftLeft_add_eq_or_of_lt hb a;rw[Nat.shiftLeft_eq]at this;exact this.symm
 have e:(BitVec.ofInt IntKind.u64.bits ((a*2 ^ s:Nat):Int) ||| BitVec.ofInt IntKind.u64.bits (b:Int)).toNat=a*2 ^ s+b:=by
  show (BitVec.ofInt 64 ((a*2 ^ s:Nat):Int) ||| BitVec.ofInt 64 (b:Int)).toNat=_
  rw[BitVec.toNat_or,q2o (by omega) (by omega),q2o (by omega) (by omega),xCg,xCg,e0]
 have hlt:a*2 ^ s+b<18446744073709551616:=by
  rw[<-e];exact BitVec.isLt _
 rw[e,q0i];omega
theorem j3M {P:Program} (t:TypeId) (k k':IntKind) (x:Int) {y:Int} (h:0<=y):q0E P .shl t (.int k x) (.int k' y)=some (.int k (k.wrap (x*2 ^ (min y.toNat k.bits)))):=by
 simp only[q0E,shA];rw[xAa (by omega)]
theorem q28 {P:Program} (t:TypeId) {x:Int} (h:0<=x):q0E P .shr t (.int .u64 x) (.int .u64 32)=some (.int .u64 (x / 4294967296)):=by
 rw[q8I _ _ _ _ _ (by omega)];have e:((2:Int) ^ (min (32:Int).toNat IntKind.u64.bits))=4294967296:=by rfl
 rw[e,xDb _ (by omega)]
theorem q78 {P:Program} (t:TypeId) {x y p:Int} (h:0<=x) (hy:0<=y) (hp:(2:Int) ^ (min y.toNat IntKind.u64.bits)=p):q0E P .shr t (.int .u64 x) (.int .u64 y)=some (.int .u64 (x / p)):=by
 rw[q8I _ _ _ _ _ hy,hp,xDb _ (by rw[<-hp];exact Int.le_of_lt (Int.pow_pos (by omega)))]
theorem z1m {P:Program} (t:TypeId) {x:Int} (n:Nat) (hn:n<=64):q0E P .shr t (.int .u64 x) (.int .u64 (n:Int))=some (.int .u64 (x / 2 ^ n)):=by
 rw[q8I _ _ _ _ _ (by omega)];have e:(min (n:Int).toNat IntKind.u64.bits)=n:=by
  rw[xCg];exact xCr hn
 rw[e,xDb _ (Int.le_of_lt (Int.pow_pos (by omega)))]
theorem q77 {P:Program} (t:TypeId) {x:Int} (n:Nat) (hn:n<=64):q0E P .shl t (.int .u64 x) (.int .u64 (n:Int))=some (.int .u64 ((x*2 ^ n) % 18446744073709551616)):=by
 rw[j3M _ _ _ _ (by omega),q0i];have e:(min (n:Int).toNat IntKind.u64.bits)=n:=by
  rw[xCg];exact xCr hn
 rw[e]
theorem a8J {a q y:Int} (h1:q*y<=a) (h2:a<q*y+y):a / y=q:=by
 have hy:0<y:=by omega
 have e:a=(a-q*y)+q*y:=by omega
 rw[e,Int.add_mul_ediv_right _ _ (by omega),Int.ediv_eq_zero_of_lt (by omega) (by omega),xFh]
theorem z7f {a b:Int} (h0:0<=a) (h1:a<4294967296) (h2:0<=b) (h3:b<4294967296):0<=a*b/\a*b<=18446744065119617025:=by
 refine⟨xCh h0 h2,?_⟩;have h4:a*b<=4294967295*b:=xCd (by omega) h2;omega
theorem q6S {un u1 y yn1 yn0 q r:Int} (hy:y=yn1*4294967296+yn0) (e:q*yn1+r=un) (hc:q*yn0<=4294967296*r+u1) (hu:un*4294967296+u1<(q+1)*y):(un*4294967296+u1) / y=q:=by
 have e1:q*y=q*yn1*4294967296+q*yn0:=by rw[hy,Int.mul_add,<-xBo]
 have e2:(q+1)*y=q*y+y:=by rw[xDt,Int.one_mul]
 exact a8J (by omega) (by omega)
theorem z9L {un u1 y q:Int} (h:un*4294967296+u1<q*y):un*4294967296+u1<(q-1+1)*y:=by
 rw[Int.sub_add_cancel];exact h
theorem z5a {un u1 y q:Int} (hun:un<y) (hu1:u1<4294967296) (hq:4294967296<=q) (hy0:0<y):un*4294967296+u1<q*y:=by
 have:4294967296*y<=q*y:=xCd hq (by omega);omega
theorem z9K {un u1 y yn1 yn0 q r:Int} (hy:y=yn1*4294967296+yn0) (e:q*yn1+r=un) (hc:4294967296*r+u1<q*yn0):un*4294967296+u1<q*y:=by
 have e1:q*y=q*yn1*4294967296+q*yn0:=by rw[hy,Int.mul_add,<-xBo]
 omega
theorem z0K {un yn1 q r:Int} (e:q*yn1+r=un):(q-1)*yn1+(r+yn1)=un:=by
 rw[Int.sub_mul,Int.one_mul];omega
theorem z5b {un u1 y yn1 yn0 q r:Int} (hy:y=yn1*4294967296+yn0) (hy1:0<yn1) (hy0:0<=yn0) (hy2:yn0<4294967296) (hun:un<y) (hu1:0<=u1) (hq:0<=q) (e:q*yn1+r=un) (hr:4294967296<=r):q*yn0<=4294967296*r+u1:=by
 have hlt:q<4294967296:=by
  have h1:q*yn1<4294967296*yn1:=by omega
  exact Int.lt_of_mul_lt_mul_right h1 (by omega)
 have:=(z7f hq hlt hy0 hy2).2;omega
theorem z5c {un u1 y yn1 yn0:Int} (hy:y=yn1*4294967296+yn0) (hy1:2147483648<=yn1) (hy0:0<=yn0) (hy2:yn0<4294967296) (hun0:0<=un) (hun:un<y) (hu1:u1<4294967296) :
  0<=un / yn1/\un / yn1<=4294967297/\un / yn1*yn1+(un-un / yn1*yn1)=un/\0<=un-un / yn1*yn1/\un-un / yn1*yn1<yn1/\un*4294967296+u1<(un / yn1+1)*y:=by
 have h1:un / yn1*yn1+un % yn1=un:=xEg un yn1;have h2:=xEm un (show yn1≠0 by omega);have h3:=xDm un (show 0<yn1 by omega);have h4:0<=un / yn1:=xCy hun0 (by omega);refine⟨h4,?_,by omega,by omega,by omega,?_⟩
 ·refine Int.le_of_lt_add_one (Int.lt_of_mul_lt_mul_right (a:=yn1) ?_ (by omega));omega
 ·have e1:(un / yn1+1)*y=un / yn1*y+y:=by rw[xDt,Int.one_mul]
  have e2:un / yn1*y=un / yn1*yn1*4294967296+un / yn1*yn0:=by rw[show un / yn1*y=un / yn1*(yn1*4294967296+yn0) by rw[<-hy],Int.mul_add,<-xBo]
  have h5:0<=un / yn1*yn0:=xCh h4 hy0;omega
theorem b71 {x y:Int} (hx:0<=x) (hx2:x<18446744073709551616) (hy:0<=y) (hy2:y<18446744073709551616) :
  let x0:=x % 4294967296
  let x1:=x / 4294967296
  let y0:=y % 4294967296
  let y1:=y / 4294967296
  let w0:=x0*y0
  let t:=x1*y0+w0 / 4294967296
  let w1:=t % 4294967296+x0*y1
  (0<=w0/\w0<18446744073709551616)/\(0<=x1*y0/\x1*y0<18446744073709551616)/\(0<=t/\t<18446744073709551616)/\(0<=x0*y1/\x0*y1<18446744073709551616)/\(0<=w1/\w1<18446744073709551616)/\(0<=x1*y1/\x1*y1<18446744073709551616)/\
  (0<=x1*y1+t / 4294967296/\x1*y1+t / 4294967296<18446744073709551616)/\
  x1*y1+t / 4294967296+w1 / 4294967296=x*y / 18446744073709551616:=by
 intro x0 x1 y0 y1 w0 t w1;have a0:0<=x0/\x0<4294967296:=by omega
 have a1:0<=x1/\x1<4294967296:=by omega
 have b0:0<=y0/\y0<4294967296:=by omega
 have b1:0<=y1/\y1<4294967296:=by omega
 have m00:=z7f a0.1 a0.2 b0.1 b0.2;have m10:=z7f a1.1 a1.2 b0.1 b0.2;have m01:=z7f a0.1 a0.2 b1.1 b1.2;have m11:=z7f a1.1 a1.2 b1.1 b1.2;have ex:x=x1*4294967296+x0:=by omega
 have ey:y=y1*4294967296+y0:=by omega
 have e:x*y=x1*y1*18446744073709551616+x1*y0*4294967296+x0*y1*4294967296+x0*y0:=by
  rw[ex,ey];simp only[xDt,Int.mul_add];have e1:x1*4294967296*(y1*4294967296)=x1*y1*18446744073709551616:=by
   rw[xBo x1,Int.mul_left_comm 4294967296 y1,<-xBo,<-xBo];omega
  have e2:x1*4294967296*y0=x1*y0*4294967296:=by rw[xBo,xDk 4294967296,<-xBo]
  have e3:x0*(y1*4294967296)=x0*y1*4294967296:=by rw[<-xBo]
  rw[e1,e2,e3];omega
 have ew0:w0=x0*y0:=rfl;have et:t=x1*y0+w0 / 4294967296:=rfl;have ew1:w1=t % 4294967296+x0*y1:=rfl;generalize x0*y0=p00 at *;generalize x1*y0=p10 at *;generalize x0*y1=p01 at *;generalize x1*y1=p11 at *
 clear_value w0 t w1
 refine⟨by omega,by omega,by omega,by omega,by omega,by omega,by omega,?_⟩;rw[e];omega
end Go.Abs
namespace Go.Abs
open Go
theorem a14 {hi lo pp qq un32 un10:Int} (hpq:pp*qq=18446744073709551616) (hpp:0<pp) (hqq:0<qq) (e1:un32=hi*pp+lo / qq) (e2:un10=(lo*pp) % 18446744073709551616) :
  (hi*18446744073709551616+lo)*pp=un32*18446744073709551616+un10:=by
 have h:lo / qq=lo*pp / 18446744073709551616:=by
  rw[<-hpq,xDk pp qq,Int.mul_ediv_mul_of_pos_left _ _ hpp]
 rw[e1,e2,h,xDt,xDt];have:hi*18446744073709551616*pp=hi*pp*18446744073709551616:=by rw[xBo,xDk 18446744073709551616 pp,<-xBo]
 rw[this];omega
theorem a13 {un32 un10 y q1 r1 q0 r0:Int} (hy:0<y) (h1:un32*4294967296+un10 / 4294967296=q1*y+r1) (h2:r1*4294967296+un10 % 4294967296=q0*y+r0) (h3:0<=r0) (h4:r0<y) :
  (un32*18446744073709551616+un10) / y=q1*4294967296+q0/\(un32*18446744073709551616+un10) % y=r0:=by
 have e:un32*18446744073709551616+un10=r0+(q1*4294967296+q0)*y:=by
  rw[xDt];have:q1*4294967296*y=q1*y*4294967296:=by rw[xBo,xDk 4294967296 y,<-xBo]
  rw[this];omega
 rw[e,Int.add_mul_ediv_right _ _ (by omega),Int.add_mul_emod_self_right,Int.ediv_eq_zero_of_lt h3 h4,xEn h3 h4];exact⟨by omega,rfl⟩
theorem a11 {n y pp:Int} (hpp:0<pp):n*pp / (y*pp)=n / y/\n*pp % (y*pp) / pp=n % y:=by
 refine⟨Int.mul_ediv_mul_of_pos_left _ _ hpp,?_⟩;have h1:n*pp % (y*pp)=n % y*pp:=by
  rw[Int.emod_def,Int.mul_ediv_mul_of_pos_left _ _ hpp,Int.emod_def,Int.sub_mul,Int.mul_right_comm]
 rw[h1,Int.mul_ediv_cancel _ (by omega)]
theorem z7d {hi lo y pp un32 un10:Int} (h:(hi*18446744073709551616+lo)*pp=un32*18446744073709551616+un10) (hlt:hi<y) (hlo:lo<18446744073709551616) (hpp:0<pp) (h0:0<=un10):un32<y*pp:=by
 have h1:(hi*18446744073709551616+lo)*pp<y*18446744073709551616*pp:=Int.mul_lt_mul_of_pos_right (by omega) hpp;have h2:y*18446744073709551616*pp=y*pp*18446744073709551616:=by rw[xBo,xDk 18446744073709551616 pp,<-xBo]
 omega
def len8:List UInt8:=(List.range 256).map fun i=>UInt8.ofNat (if i=0 then 0 else i.log2+1)
theorem b0I:∀i:Nat,i<256->0<i->∃n:Nat,len8[i]? = some (UInt8.ofNat (n+1))/\n<8/\2 ^ n<=i/\i<2*2 ^ n:=by
 intro i hi h0;refine⟨i.log2,?_,?_,Nat.log2_self_le (by omega),?_⟩
 ·simp only[len8,xBi,List.getElem?_range hi,xom,xAa (show ¬i=0 by omega)]
 ·exact(Nat.log2_lt (by omega)).2 hi
 ·have:=Nat.lt_log2_self (n:=i);rw[xFe]at this;omega
end Go.Abs
namespace Go.Abs
def sgn (n:Int):Int:=if n<0 then -1 else if n=0 then 0 else 1
def q3V (k:Nat):Int:=10 ^ k
theorem q4N (k:Nat):0<q3V k:=Int.pow_pos (by omega)
theorem a0z (k:Nat):q3V (k+1)=q3V k*10:=by unfold q3V;rw[Int.pow_succ]
theorem a4M (j k:Nat):q3V (j+k)=q3V j*q3V k:=by unfold q3V;rw[xEr]
theorem b1w:∀{k:Nat},k<=18->q3V k<=1000000000000000000:=by
 intro k h;have:∀k,k<=18->q3V k<=1000000000000000000:=by decide
 exact this k h
end Go.Abs
namespace Go.Abs
def z1t (n:Int):List AV:=[.int .u64 (n % 18446744073709551616),.int .u64 (n / 18446744073709551616 % 18446744073709551616),.int .u64 (n / 340282366920938463463374607431768211456 % 18446744073709551616),.int .u64 (n / 6277101735386680763835789423207666416102355444464034512896 % 18446744073709551616)]
theorem a1Y {p0 p1 p2 p3 n:Int} (h0:0<=p0/\p0<18446744073709551616) (h1:0<=p1/\p1<18446744073709551616) (h2:0<=p2/\p2<18446744073709551616) (h3:0<=p3/\p3<18446744073709551616)
  (e:n=p3*6277101735386680763835789423207666416102355444464034512896+p2*340282366920938463463374607431768211456+p1*18446744073709551616+p0) :
  z1t n=[.int .u64 p0,.int .u64 p1,.int .u64 p2,.int .u64 p3]:=by
 have e0:n % 18446744073709551616=p0:=by omega
 have e1:n / 18446744073709551616 % 18446744073709551616=p1:=by omega
 have e2:n / 340282366920938463463374607431768211456 % 18446744073709551616=p2:=by omega
 have e3:n / 6277101735386680763835789423207666416102355444464034512896 % 18446744073709551616=p3:=by omega
 unfold z1t;rw[e0,e1,e2,e3]
theorem a1X {n:Int} (h0:0<=n) (h1:n<115792089237316195423570985008687907853269984665640564039457584007913129639936):∃p0 p1 p2 p3:Int,z1t n=[.int .u64 p0,.int .u64 p1,.int .u64 p2,.int .u64 p3]/\(0<=p0/\p0<18446744073709551616)/\(0<=p1/\p1<18446744073709551616)/\(0<=p2/\p2<18446744073709551616)/\(0<=p3/\p3<18446744073709551616)/\
  n=p3*6277101735386680763835789423207666416102355444464034512896+p2*340282366920938463463374607431768211456+p1*18446744073709551616+p0:=by
 refine⟨_,_,_,_,rfl,by omega,by omega,by omega,by omega,by omega⟩
theorem j09 {a b:Int} (h0:0<=a) (h1:a<18446744073709551616) (h2:0<=b) (h3:b<18446744073709551616):0<=a*b/\a*b<=340282366920938463426481119284349108225:=by
 refine⟨xCh h0 h2,?_⟩;have h4:a*b<=18446744073709551615*b:=xCd (by omega) h2;omega
theorem j9o (ah al bh bl:Int):(ah*18446744073709551616+al)*(bh*18446744073709551616+bl)=ah*bh*340282366920938463463374607431768211456+(al*bh+ah*bl)*18446744073709551616+al*bl:=by
 have e1:ah*18446744073709551616*(bh*18446744073709551616)=ah*bh*340282366920938463463374607431768211456:=by
  rw[xBo ah,Int.mul_left_comm 18446744073709551616 bh,<-xBo,<-xBo,xBo (ah*bh)];rfl
 have e2:ah*18446744073709551616*bl=ah*bl*18446744073709551616:=by rw[xBo,xDk 18446744073709551616,<-xBo]
 have e3:al*(bh*18446744073709551616)=al*bh*18446744073709551616:=by rw[<-xBo]
 simp only[xDt,Int.mul_add,e1,e2,e3];omega
theorem j00 (b:Nat):ixA 1 4 ⟨b,0⟩ 0=some (.ptr (some ⟨b,0⟩)):=rfl
theorem j01 (b:Nat):ixA 1 4 ⟨b,0⟩ 1=some (.ptr (some ⟨b,1⟩)):=by simp[ixA]
theorem j83 (b:Nat):ixA 1 4 ⟨b,0⟩ 2=some (.ptr (some ⟨b,2⟩)):=by simp[ixA]
theorem j84 (b:Nat):ixA 1 4 ⟨b,0⟩ 3=some (.ptr (some ⟨b,3⟩)):=by simp[ixA]
end Go.Abs
namespace Go.Abs
open Go
def rhe (n:Int) (k:Nat):Int:=if q3V k<2*(n % q3V k)\/(2*(n % q3V k)=q3V k/\n / q3V k % 2=1) then n / q3V k+1 else n / q3V k
theorem a4n (n:Int):rhe n 0=n:=by
 have e:q3V 0=1:=rfl;unfold rhe;rw[e,Int.emod_one,Int.ediv_one,xAa (by omega)]
theorem a6H {n:Int} (h:0<=n) (k:Nat):0<=rhe n k:=by
 have h1:0<=n / q3V k:=xCy h (Int.le_of_lt (q4N k));unfold rhe;split<;>omega
theorem b41 {n:Int} (h:0<=n) (k:Nat):rhe n k<=n+1:=by
 have h1:n / q3V k<=n:=xEa _ h;unfold rhe;split<;>omega
end Go.Abs
end
namespace Go.Abs
open Go
section
def dig (n i:Nat):Nat:=n / 4294967296 ^ i % 4294967296
def D16 (n:Nat):List AV:=(List.range 16).map fun i=>.int .u64 ((dig n i:Nat):Int)
theorem q3E (n i:Nat):dig n i<4294967296:=xEv _ (by omega)
theorem q15 (n:Nat):(D16 n).length=16:=by simp[D16]
theorem q02 (n:Nat) {i:Nat} (h:i<16):(D16 n)[i]? = some (.int .u64 ((dig n i:Nat):Int)):=by
 simp[D16,xBi,List.getElem?_range h]
theorem q4S (n:Nat):(D16 n).all AV.one=true:=by
 simp[D16,List.all_map,xBd,AV.one]
theorem q5u (n:Nat):(D16 n).take 16=D16 n:=xtl (by rw[q15];exact xnr _)
theorem q3W (n:Nat):(D16 n).drop 16=[]:=xDc (by rw[q15];exact xnr _)
theorem q5t (n:Nat):AV.lts 0 (D16 n):=by simp[D16,AV.lts,AV.lt,List.range,List.range.loop]
theorem a6V {n N:Nat} (h:∀i,i<16->dig n i=dig N i):D16 n=D16 N:=by
 unfold D16;apply List.map_congr_left;intro i hi;rw[h i (List.mem_range.mp hi)]
theorem z16:[AV.int .u64 0,.int .u64 0,.int .u64 0,.int .u64 0,.int .u64 0,.int .u64 0,.int .u64 0,.int .u64 0,.int .u64 0,.int .u64 0,.int .u64 0,.int .u64 0,.int .u64 0,.int .u64 0,.int .u64 0,.int .u64 0]=D16 0:=by
 unfold D16 dig;simp[List.range,List.range.loop]
theorem a3P (n:Nat) {i:Nat} (h:i<16) (v:Int):over (D16 n) i (.int .u64 v) 1=some ((D16 n).set i (.int .u64 v)):=by
 unfold over;simp only[AV.cells,xAi,xAv,xnz,xAd,q15,xAb (show i+1<=16 by omega)];rw[List.set_eq_take_append_cons_drop,xAb (by rw[q15];exact h)];simp
theorem b1l {n N i:Nat} {v:Int} (h:i<16) (e:∀j,j<16->j≠i->dig n j=dig N j) (hv:v=((dig N i:Nat):Int)):(D16 n).set i (.int .u64 v)=D16 N:=by
 apply xCv;intro j;by_cases hj:j<16
 ·rw[q02 N hj,xFm];by_cases hij:i=j
  ·subst hij;rw[xAb rfl,xAb (by rw[q15];exact h),hv]
  ·rw[xAa hij,q02 n hj,e j hj (fun x=>hij x.symm)]
 ·rw[xAu (by rw[List.length_set,q15];omega),xAu (by rw[q15];omega)]
theorem q4E {n N i:Nat} {v:Int} (h:i<16) (e:∀j,j<16->j≠i->dig n j=dig N j) (hv:v=((dig N i:Nat):Int)):over (D16 n) i (.int .u64 v) 1=some (D16 N):=by
 rw[a3P n h,b1l h e hv]
theorem a3O (n N:Nat):over (D16 n) 0 (.agg (D16 N)) 16=some (D16 N):=by
 unfold over;have hl:=q15 N;simp only[AV.cells,q4S,xAd];rw[xAb hl,q15,xAb (by omega)];simp[q3W]
theorem j8Y (b o:Nat) {i:Nat} (h:i<16):ixA 1 16 ⟨b,o⟩ (i:Int)=some (.ptr (some ⟨b,o+i⟩)):=by
 unfold ixA;rw[xAb (by omega),xAb (by omega)];simp
theorem pow_add_one (i:Nat):4294967296 ^ (i+1)=4294967296 ^ i*4294967296:=xFe ..
theorem z1c (i:Nat):0<4294967296 ^ i:=Nat.pow_pos (by omega)
theorem z1s (n i j:Nat):dig (n % 4294967296 ^ i) j=if j<i then dig n j else 0:=by
 unfold dig;by_cases h:j<i
 ·rw[xAb h];obtain⟨k,rfl⟩:∃k,i=j+1+k:=⟨i-(j+1),by omega⟩;rw[xEi,pow_add_one,xDo,Nat.mod_mul_right_div_self,Nat.mod_mul_right_mod]
 ·rw[xAa h];have:n % 4294967296 ^ i<4294967296 ^ j:=xCc (xEv _ (z1c i)) (xCz (by omega) (by omega));rw[xDy this]
theorem q7N {n i:Nat}:∀j,j<16->j≠i->dig (n % 4294967296 ^ i) j=dig (n % 4294967296 ^ (i+1)) j:=by
 intro j _ hj;rw[z1s,z1s];by_cases h:j<i
 ·rw[xAb h,xAb (by omega)]
 ·rw[xAa h,xAa (by omega)]
theorem z0z (n i:Nat):dig (n % 4294967296 ^ (i+1)) i=dig n i:=by rw[z1s,xAb (by omega)]
theorem j1T (n:Nat):D16 (n % 4294967296 ^ 16)=D16 n:=a6V fun i hi=>by rw[z1s,xAb hi]
theorem q7o {n i d:Nat} (h:dig n i+d<4294967296):∀j,dig (n+d*4294967296 ^ i) j=dig n j+if j=i then d else 0:=by
 intro j;unfold dig at h⊢;have hB:=z1c i;by_cases h1:j=i
 ·subst h1;rw[xAb rfl,xFg _ _ hB];omega
 ·rw[xAa h1,xna];by_cases h2:j<i
  ·obtain⟨k,rfl⟩:∃k,i=j+1+k:=⟨i-(j+1),by omega⟩;have e:d*4294967296 ^ (j+1+k)=(d*4294967296 ^ k*4294967296)*4294967296 ^ j:=by
    rw[xEi,pow_add_one];simp only[xDq,xEk,xDo]
   rw[e,xFg _ _ (z1c j),Nat.add_mul_mod_self_right]
  ·obtain⟨k,rfl⟩:∃k,j=i+1+k:=⟨j-(i+1),by omega⟩;have e:4294967296 ^ (i+1+k)=4294967296 ^ i*(4294967296*4294967296 ^ k):=by rw[xEi,pow_add_one,xDo]
   rw[e,<-xCq,<-xCq,<-xCq,<-xCq,xFg _ _ hB];congr 2;omega
theorem q21 (n i:Nat):n / 4294967296 ^ (i+1)=n / 4294967296 ^ i / 4294967296:=by rw[pow_add_one,xCq]
theorem q43 (n i:Nat):n % 4294967296 ^ (i+1)=n % 4294967296 ^ i+dig n i*4294967296 ^ i:=by
 rw[pow_add_one,Nat.mod_mul,dig,xDq]
section bin
variable {P:Program}
theorem q76 (t:TypeId) (x:Nat):q0E P .rem t (.int .u64 (x:Int)) (.int .u64 4294967296)=some (.int .u64 ((x % 4294967296:Nat):Int)):=by
 rw[q2f _ _ _ _ (by omega),xBm (by omega)];simp
theorem q6p (t:TypeId) {x:Nat} (h:x<18446744073709551616):q0E P .quo t (.int .u64 (x:Int)) (.int .u64 4294967296)=some (.int .u64 ((x / 4294967296:Nat):Int)):=by
 rw[q4t _ _ _ _ (by omega),xCn (by omega),wrap_u64 (by omega) (by omega)];simp
end bin
theorem a3L {a b:Nat} (ha:a<4294967296) (hb:b<4294967296):a*b<=18446744065119617025:=by
 have:=Nat.mul_le_mul (show a<=4294967295 by omega) (show b<=4294967295 by omega);omega
end
section
theorem q5m {x:Int} (h:0<=x) (h2:x<18446744073709551616):unA .xor (.int .u64 x)=some (.int .u64 (18446744073709551615-x)):=by
 obtain⟨n,rfl⟩:∃n:Nat,x=n:=⟨x.toNat,by omega⟩;have e:unA .xor (.int .u64 (n:Int))=some (.int .u64 (IntKind.wrap .u64 (((BitVec.ofInt 64 18446744073709551615 ^^^ BitVec.ofInt 64 (n:Int)).toNat:Nat):Int))):=rfl;rw[e,show BitVec.ofInt 64 18446744073709551615=BitVec.allOnes 64 from by decide,BitVec.allOnes_xor,BitVec.toNat_not,show BitVec.ofInt 64 (n:Int)=BitVec.ofNat 64 n from BitVec.ofInt_natCast ..,BitVec.toNat_ofNat,q0i]
 congr 2;omega
theorem a8x (a i:Nat):dig a (i / 32) / 2 ^ (i % 32) % 2=a / 2 ^ i % 2:=by
 have e:a / 2 ^ i=a / 4294967296 ^ (i / 32) / 2 ^ (i % 32):=by
  rw[xCq,show (4294967296:Nat)=2 ^ 32 from rfl,<-Nat.pow_mul,<-xEi,Nat.div_add_mod]
 rw[e];unfold dig;obtain⟨y,hy⟩:∃y,y=a / 4294967296 ^ (i / 32):=⟨_,rfl⟩;obtain⟨s,hs⟩:∃s,s=i % 32:=⟨_,rfl⟩;rw[<-hy,<-hs];have h:s<32:=by omega
 clear hy hs e
 revert h
 revert s
 intro s h;have h32:s=0\/s=1\/s=2\/s=3\/s=4\/s=5\/s=6\/s=7\/s=8\/s=9\/s=10\/s=11\/s=12\/s=13\/s=14\/s=15\/s=16\/s=17\/s=18\/s=19\/s=20\/s=21\/s=22\/s=23\/s=24\/s=25\/s=26\/s=27\/s=28\/s=29\/s=30\/s=31:=by omega
 clear h;rcases h32 with rfl|rfl|rfl|rfl|rfl|rfl|rfl|rfl|rfl|rfl|rfl|rfl|rfl|rfl|rfl|rfl|rfl|rfl|rfl|rfl|rfl|rfl|rfl|rfl|rfl|rfl|rfl|rfl|rfl|rfl|rfl|rfl<;>(simp only[Nat.reducePow];omega)
theorem z5v (i:Nat):2 ^ i=2 ^ (i % 32)*4294967296 ^ (i / 32):=by
 rw[show (4294967296:Nat)=2 ^ 32 from rfl,<-Nat.pow_mul,<-xEi,Nat.mod_add_div]
theorem a3W {s:Nat} (h:s<32):2 ^ s<4294967296:=by
 have:=Nat.pow_lt_pow_right (a:=2) (by omega) h;simpa using this
theorem a1D (Q i:Nat):dig (Q*2 ^ (i+1)) (i / 32)+2 ^ (i % 32)<4294967296:=by
 have e:Q*2 ^ (i+1)=Q*2*2 ^ (i % 32)*4294967296 ^ (i / 32):=by
  rw[xFe,z5v i];simp only[xDq,xEk,xDo]
 unfold dig;rw[e,Nat.mul_div_cancel _ (z1c _)];obtain⟨s,hs⟩:∃s,s=i % 32:=⟨_,rfl⟩;rw[<-hs];have h:s<32:=by omega
 clear hs e
 revert h
 revert s
 intro s h;have h32:s=0\/s=1\/s=2\/s=3\/s=4\/s=5\/s=6\/s=7\/s=8\/s=9\/s=10\/s=11\/s=12\/s=13\/s=14\/s=15\/s=16\/s=17\/s=18\/s=19\/s=20\/s=21\/s=22\/s=23\/s=24\/s=25\/s=26\/s=27\/s=28\/s=29\/s=30\/s=31:=by omega
 clear h;rcases h32 with rfl|rfl|rfl|rfl|rfl|rfl|rfl|rfl|rfl|rfl|rfl|rfl|rfl|rfl|rfl|rfl|rfl|rfl|rfl|rfl|rfl|rfl|rfl|rfl|rfl|rfl|rfl|rfl|rfl|rfl|rfl|rfl<;>(simp only[Nat.reducePow];omega)
theorem z3j {P:Program} (t:TypeId) {x n:Nat} (hx:x<4294967296) (hn:n<32):q0E P .shr t (.int .u64 (x:Int)) (.int .u64 (n:Int))=some (.int .u64 ((x / 2 ^ n:Nat):Int)):=by
 rw[z1m t n (by omega)];congr 2
theorem j3N {P:Program} (t:TypeId) {n:Nat} (hn:n<32):q0E P .shl t (.int .u64 1) (.int .u64 (n:Int))=some (.int .u64 ((2 ^ n:Nat):Int)):=by
 rw[q77 t n (by omega)];congr 2;have:=a3W hn;rw[Int.one_mul,show (2:Int) ^ n=((2 ^ n:Nat):Int) from (xFi 2 n).symm];obtain⟨w,hw⟩:∃w,w=2 ^ n:=⟨_,rfl⟩;rw[<-hw]at this⊢;omega
theorem a8H {x b bit:Nat} (hb:0<b) :
  (b<=2*(x % b)+bit->bit<=1->(2*x+bit) / b=2*(x / b)+1/\(2*x+bit) % b=2*(x % b)+bit-b)/\
  (2*(x % b)+bit<b->(2*x+bit) / b=2*(x / b)/\(2*x+bit) % b=2*(x % b)+bit):=by
 have h:=Nat.div_add_mod x b;have hl:=xEv x hb;obtain⟨q,hq⟩:∃q,q=x / b:=⟨_,rfl⟩;obtain⟨r,hr⟩:∃r,r=x % b:=⟨_,rfl⟩;rw[<-hq,<-hr]at h⊢;rw[<-hr]at hl;constructor
 ·intro h1 h2;apply (Nat.div_mod_unique hb).mpr;rw[Nat.mul_add,xEk];omega
 ·intro h1;apply (Nat.div_mod_unique hb).mpr;rw[xEk];omega
theorem a3l (a i:Nat):a / 2 ^ i=2*(a / 2 ^ (i+1))+a / 2 ^ i % 2:=by
 rw[xFe,<-xCq];omega
end
section
theorem ips {d:Do} {m:Mem}:(∀v,q0a d (.ret v) m=some (v,m))/\(∀(P:Program) (rs:List ResultVar) (vs:List AV),q0a d (.resC P rs vs) m=(q0P P rs vs m).bind fun vs=>some (q0T vs,m))/\
  (∀(e:Option AV) (K:AV->CM),q0a d (.pu e K) m=e.bind fun v=>q0a d (K v) m)/\(∀(e:Mem->Option AV) (K:AV->CM),q0a d (.rm e K) m=(e m).bind fun v=>q0a d (K v) m)/\
  (∀(e:Option (Blk×(Nat->AV))) (K:AV->CM),q0a d (.al e K) m=e.bind fun c=>q0a d (K (c.2 m.next)) (m.lay c.1))/\(∀(e:Mem->R) (K:AV->CM),q0a d (.ef e K) m=(e m).bind fun r=>q0a d (K r.1) r.2)/\
  (∀(e:Mem->Option Mem) (K:CM),q0a d (.st e K) m=(e m).bind fun m=>q0a d K m)/\(∀(f:Nat) (as2:List AV) (K:AV->CM),q0a d (.call f as2 K) m=(d.call (.fn f) as2 m).bind fun r=>q0a d (K r.1) r.2)/\
  (∀(fv:AV) (as2:List AV) (K:AV->CM),q0a d (.callv fv as2 K) m=(q1m d.call fv as2 m).bind fun r=>q0a d (K r.1) r.2)/\(∀(v:AV) (x y:CM),q0a d (.ifv v x y) m=ifV v (q0a d x m) (q0a d y m))/\
  (∀(v:AV) (x y:CM),q0a d (.cond v x y) m=q0b v (q0a d x m) (q0a d y m))/\(∀(K:Mem->CM),q0a d (.memo K) m=q0a d (K m) m)/\(∀(e:Option AV) (v:AV) (K:CM),q0a d (.chk e v K) m=if e=some v then q0a d K m else none)/\
  (∀(k:Nat) (ts:List AV),q0a d (.go k ts) m=d.gor k ts m):=
 ⟨j0X,q9o,q3K,q9p,z4U,z4V,z4X,q9l,q7Q,q7v,q9m,q6c,q7u,z4W⟩
theorem aps:(∀(F:AV->List AV->CM) (a:AV) (l:List AV),apS F (a::l)=F a l)/\(∀(c:CM),ap0 c []=c):=⟨a1u,a8k⟩
theorem ge:(∀(α:Type) (a:α) (l:List α),(a::l)[0]? = some a)/\(∀(α:Type) (a:α) (l:List α) (i:Nat),(a::l)[i+1]? = l[i]?):=⟨fun _ _ _=>xgz,fun _ _ _ _=>xgs⟩
theorem lcs:(∀(p:AV->Bool) (a:AV) (l:List AV),(a::l).all p=(p a&&l.all p))/\(∀(p:AV->Bool),([]:List AV).all p=true)/\(∀(a:AV) (l:List AV),(a::l).length=l.length+1)/\(([]:List AV).length=0)/\
  (∀(a:AV) (l:List AV) (i:Nat),(a::l).take (i+1)=a::l.take i)/\(∀l:List AV,l.take 0=[])/\(∀(a:AV) (l:List AV) (i:Nat),(a::l).drop (i+1)=l.drop i)/\(∀l:List AV,l.drop 0=l)/\
  (∀(a:AV) (l k:List AV),a::l++k=a::(l++k))/\(∀l:List AV,[]++l=l)/\(∀l:List AV,l++[]=l)/\
  (∀b:Bool,(b&&b)=b)/\(∀b:Bool,(b&&true)=b)/\(∀n:Nat,0+n=n)/\(∀n:Nat,n+0=n):=
 ⟨fun _ _ _=>xBq,fun _=>xCw,fun _ _=>xAi,xAv,fun _ _ _=>xBk,fun _=>xBp,fun _ _ _=>xBh,fun _=>xAp,fun _ _ _=>xAy,xAm,xBe,Bool.and_self,Bool.and_true,xnz,xna⟩
theorem lms:(∀(m:Mem) (cs:List AV) (ro:Bool) (b o:Nat),ld1 (m.lay (.cells cs ro)) (.ptr (some ⟨b,o⟩))=if b=m.next then cs[o]? else ld1 m (.ptr (some ⟨b,o⟩)))/\
  (∀(m:Mem) (cs:List AV) (ro:Bool) (b o n:Nat),ldN (m.lay (.cells cs ro)) (.ptr (some ⟨b,o⟩)) n=if b=m.next then (if o+n<=cs.length then some (.agg ((cs.drop o).take n)) else none) else ldN m (.ptr (some ⟨b,o⟩)) n)/\
  (∀(m:Mem) (cs:List AV) (b o:Nat) (v:AV) (n:Nat),stV (m.lay (.cells cs false)) (.ptr (some ⟨b,o⟩)) v n=if b=m.next then (over cs o v n).map (fun c=>m.lay (.cells c false)) else (stV m (.ptr (some ⟨b,o⟩)) v n).map (fun m'=>m'.lay (.cells cs false)))/\
  (∀(m:Mem) (v:Blk),(m.lay v).next=m.next+1)/\(∀n:Nat,(n=n+1)=False)/\(∀n:Nat,(n=n+1+1)=False)/\(∀n:Nat,(n=n+1+1+1)=False)/\(∀n:Nat,(n=n+1+1+1+1)=False)/\(∀n:Nat,(n=n+1+1+1+1+1)=False)/\
  (∀n:Nat,(n=n+1+1+1+1+1+1)=False)/\(∀n:Nat,(n=n+1+1+1+1+1+1+1)=False)/\(∀n:Nat,(n=n+1+1+1+1+1+1+1+1)=False):=
 ⟨b0H,j9f,b1t,Mem.q0G,nn1,nn2,nn3,nn4,nn5,nn6,nn7,nn8⟩
theorem obs:∀{α β:Type} (a:α) (f:α->Option β),(some a).bind f=f a:=fun _ _=>rfl
theorem oms:∀{α β:Type} (a:α) (f:α->β),(some a).map f=some (f a):=fun _ _=>rfl
theorem ift:∀{α:Type} {x:Decidable True} (t e:α),(if True then t else e)=t:=fun _ _=>xAb xFn
theorem b8B:∀{α:Type} {x:Decidable False} (t e:α),(if False then t else e)=e:=fun _ _=>xAa id
abbrev lcl:=ai @lcs<|ai @lms<|ai @ge<|ai @ift<|ai @b8B @oms
end
section
def q27 (x:Int):List AV:=.bool (decide (x<0))::D16 x.natAbs
theorem j9F (x:AV) (cs:List AV) (i:Nat) (v:AV) (n:Nat):over (x::cs) (i+1) v n=(over cs i v n).map (x::·):=by
 unfold over;cases v.cells with
 |none=>rfl
 |some vs=>
  simp only;by_cases h:vs.length=n
  ·simp only[xAb h,xAi];by_cases h2:i+n<=cs.length
   ·rw[xAb (by omega),xAb h2];simp[show i+1+n=i+n+1 by omega]
   ·rw[xAa (by omega),xAa h2];rfl
  ·simp only[xAa h];rfl
theorem b4V (x:AV) (b:Bool) (a n:Nat):over (x::D16 a) 0 (.agg (.bool b::D16 n)) 17=some (.bool b::D16 n):=by
 unfold over;simp only[AV.cells,xBq,AV.one,xAs,q4S,xAd,xAi,q15,xBp,xAm,xnz];rw[xAb (xnr _),xBh,q3W,xBe]
theorem j4i {n i:Nat} (h:n<4294967296 ^ i):dig n i=0:=by unfold dig;rw[xDy h,Nat.zero_mod]
theorem a3Q {n i d:Nat} (hi:i<16) (h:n<4294967296 ^ i) (hd:d<4294967296):over (D16 n) i (.int .u64 (d:Int)) 1=some (D16 (n+d*4294967296 ^ i)):=by
 have z:=j4i h;have a:=q7o (n:=n) (i:=i) (d:=d) (by omega);exact q4E hi (fun j _ hj=>by rw[a j,xAa hj];rfl) (by rw[a i,xAb rfl,z,xnz])
theorem q5K (x:AV) {n i d:Nat} (hi:i<16) (h:n<4294967296 ^ i) (hd:d<4294967296):over (x::D16 n) (i+1) (.int .u64 (d:Int)) 1=some (x::D16 (n+d*4294967296 ^ i)):=by
 rw[j9F,a3Q hi h hd];rfl
theorem j8Z (b:Nat):ixA 1 16 ⟨b,1⟩ 0=some (.ptr (some ⟨b,1⟩)):=by simp[ixA]
theorem j80 (b:Nat):ixA 1 16 ⟨b,1⟩ 1=some (.ptr (some ⟨b,2⟩)):=by simp[ixA]
theorem j81 (b:Nat):ixA 1 16 ⟨b,1⟩ 2=some (.ptr (some ⟨b,3⟩)):=by simp[ixA]
theorem j82 (b:Nat):ixA 1 16 ⟨b,1⟩ 3=some (.ptr (some ⟨b,4⟩)):=by simp[ixA]
theorem b7y (b:Nat) {i:Nat} (h:i<16):ixA 1 16 ⟨b,1⟩ (i:Int)=some (.ptr (some ⟨b,i+1⟩)):=by rw[j8Y _ _ h,Nat.add_comm]
theorem q4Y (x:Int):AV.lts 0 (q27 x):=by simp[q27,AV.lts,AV.lt,q5t]
def q5s (x:Int):Wd×Bool:=
 if q0Q x=true then (Wd.of x,true) else if 0<=x/\x<340282366920938463463374607431768211456 then (⟨x / 18446744073709551616-18446744073709551616,x % 18446744073709551616⟩,false) else (⟨0,0⟩,false)
theorem b8g (n:Nat):dig n 0=n % 4294967296:=by unfold dig;rw[xDa,Nat.div_one]
theorem b8w (n:Nat):dig n 1=n / 4294967296 % 4294967296:=by unfold dig;rw[Nat.pow_one]
theorem b8x (n:Nat):dig n 2=n / 18446744073709551616 % 4294967296:=rfl
theorem b8y (n:Nat):dig n 3=n / 79228162514264337593543950336 % 4294967296:=rfl
abbrev lcd:=ai @lcl<|ai @q15<|ai @q5u<|ai @q3W<|ai @q4S<|ai @a3O @b4V
end
section
def b72:q0v:=⟨[],0,⟨0,0⟩⟩
def b8k:q1v:=⟨0,[],⟨0,0⟩⟩
def z2L:q0D:=⟨[],[],⟨0,0⟩,0,⟨0,0⟩,⟨0,0⟩⟩
def LSt.q4r (st:LSt) (k:List UInt8):Option q0v:=if q1u q0g k (st.q0d.map (·.name))=true then st.q0d[lb q0g k (st.q0d.map (·.name))]? else none
def LSt.j6N (st:LSt) (k:List UInt8):Option q0D:=if q1u q0g k (st.pairs.map (·.key))=true then st.pairs[lb q0g k (st.pairs.map (·.key))]? else none
def LSt.z0F (st:LSt) (k:Int):Option q1v:=if q1u q0F k (st.q0s.map (·.id))=true then st.q0s[lb q0F k (st.q0s.map (·.id))]? else none
theorem j6V {κ:Type} [DecidableEq κ] {lt:κ->κ->Bool} {k:κ} {ks:List κ} (h:q1u lt k ks=true):lb lt k ks<ks.length:=by
 have:ks[lb lt k ks]? = some k:=by simpa[q1u]using h
 exact(xgi.1 this).1
theorem q51 {κ:Type} [DecidableEq κ] {lt:κ->κ->Bool} {k:κ} {ks:List κ} (h:q1u lt k ks=true):ks[lb lt k ks]? = some k:=by simpa[q1u]using h
theorem LSt.q2c {st:LSt} {k:List UInt8} (h:q1u q0g k (st.q0d.map (·.name))=true):∃p,st.q4r k=some p/\p.name=k/\st.q0d[lb q0g k (st.q0d.map (·.name))]? = some p/\p∈st.q0d:=by
 have hl:=j6V h;rw[xlm]at hl;have ha:=q51 h;rw[xBi,xgq hl]at ha;exact⟨_,by unfold LSt.q4r;rw[xAb h,xgq hl],by simpa using ha,xgq hl,xAf hl⟩
theorem LSt.q3H {st:LSt} {k:List UInt8} (h:q1u q0g k (st.q0d.map (·.name))=false):st.q4r k=none:=by unfold LSt.q4r;rw[xAa (by rw[h];decide)]
theorem LSt.q6O {st:LSt} {k:List UInt8} (h:q1u q0g k (st.pairs.map (·.key))=true):∃p,st.j6N k=some p/\p.key=k/\st.pairs[lb q0g k (st.pairs.map (·.key))]? = some p/\p∈st.pairs:=by
 have hl:=j6V h;rw[xlm]at hl;have ha:=q51 h;rw[xBi,xgq hl]at ha;exact⟨_,by unfold LSt.j6N;rw[xAb h,xgq hl],by simpa using ha,xgq hl,xAf hl⟩
theorem LSt.q9f {st:LSt} {k:List UInt8} (h:q1u q0g k (st.pairs.map (·.key))=false):st.j6N k=none:=by unfold LSt.j6N;rw[xAa (by rw[h];decide)]
theorem LSt.q1Q {st:LSt} {k:Int} (h:q1u q0F k (st.q0s.map (·.id))=true):∃p,st.z0F k=some p/\p.id=k/\st.q0s[lb q0F k (st.q0s.map (·.id))]? = some p/\p∈st.q0s:=by
 have hl:=j6V h;rw[xlm]at hl;have ha:=q51 h;rw[xBi,xgq hl]at ha;exact⟨_,by unfold LSt.z0F;rw[xAb h,xgq hl],by simpa using ha,xgq hl,xAf hl⟩
theorem LSt.q49 {st:LSt} {k:Int} (h:q1u q0F k (st.q0s.map (·.id))=false):st.z0F k=none:=by unfold LSt.z0F;rw[xAa (by rw[h];decide)]
theorem q0v.flat (p:q0v):AV.lts 0 p.cells:=by simp[q0v.cells,AV.lts,AV.lt]
theorem q0D.flat (p:q0D):AV.lts 0 p.cells:=by simp[q0D.cells,AV.lts,AV.lt]
theorem q1v.flat (p:q1v):AV.lts 0 p.cells:=by simp[q1v.cells,AV.lts,AV.lt]
theorem Fr.same {m m2:Mem} (h:m.next<=m2.next) (h':∀b,m2.get b=m.get b):Fr m m2 []:=⟨h,fun c _ _=>h' c⟩
def q5i (w:Wd) (s:Int):Bool:=decide ((0<=s/\s<=18)/\0<w.val)
def LSt.of (st:LSt) (id:Int):q1v×q0v×Int:=
 match st.z0F id with
 |none=>(b8k,b72,40)
 |some a=>(a,(st.q4r a.q1U).getD b72,0)
def q3n (p:q0v) (w:Wd) (s:Int):Int:=if s≠p.scale then 21 else if w.val<=0 then 43 else 0
section
variable {b n:Nat}
theorem q1J (h:b<n):(b=n)=False:=by simp;omega
theorem z8L (h:b<n):(b=n+1)=False:=by simp;omega
end
theorem frl {m M:Mem} {S:List Nat} (h:Fr m M S) (v:Blk):Fr m (M.lay v) S:=h.lay v
structure LWf (st:LSt):Prop where
 sp:Srt q0g (st.q0d.map (·.name))
 lp:st.q0d.length<=8
 sq:Srt q0g (st.pairs.map (·.key))
 lq:st.pairs.length<=64
 sa:Srt q0F (st.q0s.map (·.id))
 la:st.q0s.length<=64
 okp:∀p∈st.q0d,0<=p.scale/\p.scale<=18/\p.out.ok/\q4R p.name=true
 okq:∀q∈st.pairs,q.rate.ok/\q5i q.rate q.q0V=true/\q.inx.ok/\q.q2I.ok/\(st.q4r q.x).isSome=true/\(st.q4r q.y).isSome=true
 oka:∀a∈st.q0s,a.bal.ok/\0<=a.id/\a.id<=st.latest/\(st.q4r a.q1U).isSome=true
 lat:0<=st.latest/\st.latest<=72057594037927935
end
section
theorem q8v {α:Type} {l:List α} {i:Nat} {x:α} (h:l[i]? = some x):l.set i x=l:=by
 obtain⟨hi,rfl⟩:=xgi.1 h;exact List.set_getElem_self hi
def LSt.iA (st:LSt) (k:Int):Nat:=lb q0F k (st.q0s.map (·.id))
def LSt.iP (st:LSt) (k:List UInt8):Nat:=lb q0g k (st.q0d.map (·.name))
def LSt.iQ (st:LSt) (k:List UInt8):Nat:=lb q0g k (st.pairs.map (·.key))
def LSt.q2U (st:LSt) (a:q1v):LSt:={st with q0s:=st.q0s.set (st.iA a.id) a}
def LSt.a4E (st:LSt) (p:q0v):LSt:={st with q0d:=st.q0d.set (st.iP p.name) p}
def LSt.q9G (st:LSt) (q:q0D):LSt:=
 {st with pairs:=if q1u q0g q.key (st.pairs.map (·.key))=true then st.pairs.set (st.iQ q.key) q else if st.pairs.length<64 then q7P (st.iQ q.key) q st.pairs else st.pairs}
theorem LSt.q6Q {st:LSt} {a:q1v} (h:q1u q0F a.id (st.q0s.map (·.id))=true):(st.q2U a).q0s.map (·.id)=st.q0s.map (·.id):=by
 unfold LSt.q2U LSt.iA;rw[xFv];exact q8v (q51 h)
def q45 (x y w:Wd):Bool:=q0Q (x.val-w.val)&&q0Q (y.val+w.val)
def q4y (st:LSt) (id:Int) (w:Wd) (s:Int):Int×LSt:=
 let o:=st.of id
 if o.2.2≠0 then (o.2.2,st) else
 if q3n o.2.1 w s≠0 then (q3n o.2.1 w s,st) else
 if q45 o.2.1.out o.1.bal w=true then (0,(st.q2U {o.1 with bal:=Wd.of (o.1.bal.val+w.val)}).a4E {o.2.1 with out:=Wd.of (o.2.1.out.val-w.val)}) else (20,st)
def q3R (st:LSt) (id:Int) (w:Wd) (s:Int):Int×LSt:=
 let o:=st.of id
 if o.2.2≠0 then (o.2.2,st) else
 if q3n o.2.1 w s≠0 then (q3n o.2.1 w s,st) else
 if o.1.bal.val<w.val then (42,st) else
 if q45 o.1.bal o.2.1.out w=true then (0,(st.q2U {o.1 with bal:=Wd.of (o.1.bal.val-w.val)}).a4E {o.2.1 with out:=Wd.of (o.2.1.out.val+w.val)}) else (20,st)
def q3P (st:LSt) (a b:Int) (w:Wd) (s:Int):Int×LSt:=
 let o:=st.of a
 let p:=st.of b
 if o.2.2≠0 then (o.2.2,st) else
 if p.2.2≠0 then (p.2.2,st) else
 if a=b then (45,st) else
 if o.2.1.name≠p.2.1.name then (41,st) else
 if q3n o.2.1 w s≠0 then (q3n o.2.1 w s,st) else
 if o.1.bal.val<w.val then (42,st) else
 if q45 o.1.bal p.1.bal w=true then (0,(st.q2U {o.1 with bal:=Wd.of (o.1.bal.val-w.val)}).q2U {p.1 with bal:=Wd.of (p.1.bal.val+w.val)}) else (20,st)
def q63 (w:Wd) (s:Int):Int:=if 0<=s/\s<=18 then (if 0<w.val then 0 else 44) else 21
def z7n (st:LSt) (x y:List UInt8) (w:Wd) (s:Int):Int×LSt:=
 if (st.q4r x).isSome=false\/(st.q4r y).isSome=false then (41,st) else
 if x=y then (45,st) else
 if q63 w s≠0 then (q63 w s,st) else
 (0,st.q9G {(st.j6N (x++y)).getD z2L with x:=x,y:=y,rate:=w,q0V:=s})
def q2Z (st:LSt) (id:Int):Wd×Int×Int:=
 let o:=st.of id
 if o.2.2≠0 then (⟨0,0⟩,0,o.2.2) else (o.1.bal,o.2.1.scale,0)
theorem LSt.q1W {st:LSt} (w:LWf st) (id:Int):(st.of id=(b8k,b72,40)/\st.z0F id=none)\/
  ∃a p,st.of id=(a,p,0)/\st.z0F id=some a/\st.q4r a.q1U=some p/\a.id=id/\q1u q0F id (st.q0s.map (·.id))=true/\p.name=a.q1U/\q1u q0g p.name (st.q0d.map (·.name))=true/\a∈st.q0s/\p∈st.q0d:=by
 cases hk:q1u q0F id (st.q0s.map (·.id)) with
 |false=>
  have:=LSt.q49 hk;exact .inl ⟨by unfold LSt.of;rw[this],this⟩
 |true=>
  obtain⟨a,a1,a2,a3,a4⟩:=LSt.q1Q hk;have h1:=(w.oka a a4).2.2.2;cases hp:q1u q0g a.q1U (st.q0d.map (·.name)) with
  |false=>rw[LSt.q3H hp]at h1;simp at h1
  |true=>
   obtain⟨p,p1,p2,p3,p4⟩:=LSt.q2c hp;exact .inr ⟨a,p,by unfold LSt.of;rw[a1];simp only[p1];rfl,a1,p1,a2,rfl,p2,by rw[p2];exact hp,a4,p4⟩
theorem q4G {n:Int}:decide ((Wd.res n).2=0)=q0Q n:=by
 unfold Wd.res;cases h:q0Q n<;>simp
noncomputable def q5a (E:Env) (S R:List FuncId):FuncId->Option (List AV->Mem->Abs.R):=fun f=>if f∈S then some (q0B E f) else if f∈R then some (run E (.fn f)) else E.H f
theorem q3t {E:Env} (hE:q07 E) (S R:List FuncId):q07 {E with H:=q5a E S R} where
 mixed:=hE.mixed
 body:=fun f hf=>hE.body f (by
  have h1:(if f∈S then some (q0B E f) else if f∈R then some (run E (.fn f)) else E.H f)=none:=hf
  split at h1
  ·cases h1
  ·split at h1
   ·cases h1
   ·exact h1)
 hook:=fun f h e args m r m' hr=>by
  simp only[q5a]at e;split at e
  ·cases e;exact z8U hE args m r m' hr
  ·split at e
   ·cases e;exact q3f hE (.fn f) args m r m' hr
   ·exact hE.hook f h e args m r m' hr
end
section
theorem q4s {n w:Nat} (hn:0<n) {m:Mem} {s:AV} {l:List (List AV)} {rb:Option Nat} (h:q08 n m s l rb) {xb:Nat} {new:List AV} (hx:m.get xb=some (.cells new false)) (hl:new.length=n) (ho:new.all AV.one=true)
  (hb:(l.length+1)*w<=q0j) :
  ∃s' m',q0H n w s (.sl (some ⟨xb,0⟩) n 1 1 true) m=some (s',m')/\q08 n m' s' (l++[new]) (some m.next)/\m'.next=m.next+1/\Fr m m' rb.toList:=by
 have hsrc:q5Q n (.sl (some ⟨xb,0⟩) n 1 1 true) m=some (1,new):=by
  simp only[q5Q,xBv,xAd,q0C,hx,Nat.one_mul,xnz,hl,xnr,xAp,xom];rw[xtl (by omega)]
 have hall:∀x∈l++[new],x.length=n/\x.all AV.one=true:=by
  intro x hx';simp only[xma,xms]at hx';rcases hx' with h1|rfl
  ·exact h.1 x h1
  ·exact⟨hl,ho⟩
 have hlens:=h.lens;have hlen:(l++[new]).length=l.length+1:=by simp
 have hfl:=q1F hlens;unfold q0H;rw[hsrc];simp only[ho,xAq,xAh];rcases h.2 with (⟨rfl,rfl,sz,ex,rfl⟩|⟨b,rfl,rfl,rfl,h3⟩)|⟨b,rfl,rfl,h3⟩
 ·simp only[Nat.one_ne_zero,xAh];rw[xAb (by simpa using hb)];exact⟨_,_,rfl,⟨hall,.inr ⟨m.next,rfl,by simp,by simp[Mem.q0J]⟩⟩,rfl,Fr.alloc _ _⟩
 ·simp only[xBv,xAd];have hld:q0C m ⟨b,0⟩ (0*n)=some []:=by simp[q0C,h3]
  rw[xAa (by omega),xAb (by simpa using hb),hld];simp only[xAd];refine⟨_,_,rfl,⟨hall,.inr ⟨m.next,rfl,by simp,by simp[Mem.q0J]⟩⟩,rfl,(Fr.alloc _ _).mono (by simp)⟩
 ·simp only[xBv,xAd];have hld:q0C m ⟨b,0⟩ (l.length*n)=some l.flatten:=by
   simp only[q0C,h3];rw[xAb (by omega),xAp,xtl (by omega)]
  rw[xAa (by omega),xAb hb,hld];simp only[xbq,xAh,h3];refine⟨_,_,rfl,⟨hall,.inr ⟨m.next,rfl,by rw[hlen],?_⟩⟩,rfl,((Fr.put m b none).trans (Fr.alloc _ _) (by simp) (by simp))⟩
  simp[Mem.q0J,xDs]
theorem j0L {n w:Nat} {m:Mem} {s:AV} {l:List (List AV)} {rb:Option Nat} (h:q08 n m s l rb) (hb:l.length*w<=q0j) :
  ∃b ex m',q0H n w (.sl (some ⟨m.next,0⟩) n 0 0 true) s (m.lay (.cells [] false))=some (.sl (some ⟨b,0⟩) n l.length l.length ex,m')/\m'.get b=some (.cells l.flatten false)/\Fr m m' []/\m.next<=b/\(0<l.length->ex=false):=by
 have f1:Fr m (m.lay (.cells [] false)) []:=(Fr.refl m).lay _;have h':=h.frame f1 (by simp);have ones:l.flatten.all AV.one=true:=z3S fun x hx=>(h.1 x hx).2
 have hfl:=q1F h.lens;have hl0:=q0k m (.cells [] false);have src:q5Q n s (m.lay (.cells [] false))=some (l.length,l.flatten):=by
  rcases h'.2 with (⟨rfl,rfl,sz,ex,rfl⟩|⟨b,rfl,rfl,rfl,h3⟩)|⟨b,rfl,rfl,h3⟩
  ·rfl
  ·simp[q5Q,q0C,h3]
  ·simp only[q5Q,xBv,xAd,q0C,h3];rw[xAb (by omega),xAp,xtl (by omega)];rfl
 unfold q0H;rw[src];simp only[ones,xAq,xAh,xBv,xAd,xnz,xFd];by_cases h0:l.length=0
 ·have hl:l=[]:=xBc.1 h0;subst hl;rw[xAb (by simp)];have hst:q1l (m.lay (.cells [] false)) ⟨m.next,0+0⟩ ([]:List (List AV)).flatten=some (m.lay (.cells [] false)):=by
   simp only[q1l,hl0];rw[xAb (by simp)];congr 1;exact q1S m _ _
  simp only[xna]at hst;refine⟨m.next,true,m.lay (.cells [] false),?_,hl0,f1,xnr _,by simp⟩
  rw[hst];rfl
 ·rw[xAa (by omega),xAb hb];have hld:q0C (m.lay (.cells [] false)) ⟨m.next,0⟩ 0=some []:=by simp only[q0C,hl0];simp
  rw[hld];simp only[xAm];exact⟨_,_,_,rfl,q0k _ _,f1.lay _,by simp,fun _=>rfl⟩
theorem q4u {n w:Nat} (h:n<=4096) (hw:w<=100):n*w<=q0j:=xnt0 (Nat.mul_le_mul h hw) (by decide)
end
end Go.Abs
