/- Texts of one claim, put together. -/
import Derived.Test.YtlginbmjiecglaaGreatDoorW11
import Derived.Test.YtlginbmjiecglaaGreatDoorW12
namespace Go.Abs
noncomputable section
open Go
mutual
def AV.lt (N:Nat):AV->Prop
 | .ptr (some a)=>a.b<N
 | .sl (some a) ..=>a.b<N
 | .map (some r)=>r<N
 | .fn _ x y=>AV.lts N x/\AV.lts N y
 | .yld b=>b<N
 | .iface _ u=>AV.lt N u
 | .agg cs=>AV.lts N cs
 | .tup vs=>AV.lts N vs
 | _=>True
def AV.lts (N:Nat):List AV->Prop
 |[]=>True
 |a::az=>AV.lt N a/\AV.lts N az
end
mutual
theorem AV.q1N {N M:Nat} (h:N<=M):∀{a:AV},AV.lt N a->AV.lt M a
 | .undef,_ | .bool _,_ | .int ..,_ | .str _,_ | .ptr none,_ | .sl none ..,_ | .map none,_ | .nilFn,_ | .nilIface,_=>by simp[AV.lt]
 | .ptr (some a),r=>by simp only[AV.lt]at r⊢;omega
 | .sl (some a) ..,r=>by simp only[AV.lt]at r⊢;omega
 | .map (some a),r=>by simp only[AV.lt]at r⊢;omega
 | .yld b,r=>by simp only[AV.lt]at r⊢;omega
 | .fn f x y,r=>by simp only[AV.lt]at r⊢;exact⟨AV.q1W h r.1,AV.q1W h r.2⟩
 | .iface t u,r=>by simp only[AV.lt]at r⊢;exact AV.q1N h r
 | .agg cs,r=>by simp only[AV.lt]at r⊢;exact AV.q1W h r
 | .tup cs,r=>by simp only[AV.lt]at r⊢;exact AV.q1W h r
theorem AV.q1W {N M:Nat} (h:N<=M):∀{a:List AV},AV.lts N a->AV.lts M a
 |[],_=>by simp[AV.lts]
 |a::az,r=>by simp only[AV.lts]at r⊢;exact⟨AV.q1N h r.1,AV.q1W h r.2⟩
end
mutual
theorem AV.z0N:∀a:AV,∃N,AV.lt N a
 | .undef | .bool _ | .int .. | .str _ | .ptr none | .sl none .. | .map none | .nilFn | .nilIface=>⟨0,by simp[AV.lt]⟩
 | .ptr (some a)=>⟨a.b+1,by simp[AV.lt]⟩
 | .sl (some a) ..=>⟨a.b+1,by simp[AV.lt]⟩
 | .map (some r)=>⟨r+1,by simp[AV.lt]⟩
 | .yld b=>⟨b+1,by simp[AV.lt]⟩
 | .fn f x y=>by
  obtain⟨N,h⟩:=AV.q54 x;obtain⟨M,h'⟩:=AV.q54 y;exact⟨max N M,by simp only[AV.lt];exact⟨AV.q1W (Nat.le_max_left _ _) h,AV.q1W (Nat.le_max_right _ _) h'⟩⟩
 | .iface t u=>by obtain⟨N,h⟩:=AV.z0N u;exact⟨N,by simpa only [AV.lt]using h⟩
 | .agg cs=>by obtain⟨N,h⟩:=AV.q54 cs;exact⟨N,by simpa only [AV.lt]using h⟩
 | .tup cs=>by obtain⟨N,h⟩:=AV.q54 cs;exact⟨N,by simpa only [AV.lt]using h⟩
theorem AV.q54:∀a:List AV,∃N,AV.lts N a
 |[]=>⟨0,by simp[AV.lts]⟩
 |a::az=>by
  obtain⟨N,h⟩:=AV.z0N a;obtain⟨M,h'⟩:=AV.q54 az;exact⟨max N M,by simp only[AV.lts];exact⟨AV.q1N (Nat.le_max_left _ _) h,AV.q1W (Nat.le_max_right _ _) h'⟩⟩
end
mutual
theorem VR.cut {N:Nat} {p q:Phi} (h:∀b,b<N->p b=q b):∀{a:AV} {v:Value},AV.lt N a->VR p a v->VR q a v
 | .undef,_,_,_=>by simp[VR]
 | .bool _,_,_,r=>by simpa[VR]using r
 | .int ..,_,_,r=>by simpa[VR]using r
 | .str _,_,_,r=>by simpa[VR]using r
 | .ptr none,_,_,r=>by simpa[VR]using r
 | .ptr (some a),_,l,r=>by
  simp only[AV.lt]at l;simp only[VR]at r⊢;obtain⟨ci,h1,h2⟩:=r;exact⟨ci,(h _ l)▸h1,h2⟩
 | .sl none ..,_,_,r=>by simpa[VR]using r
 | .sl (some a) ..,_,l,r=>by
  simp only[AV.lt]at l;simp only[VR,SR]at r⊢;obtain⟨ci,off,cap',h1,h2⟩:=r;exact⟨ci,off,cap',(h _ l)▸h1,h2⟩
 | .map none,_,_,r=>by simpa[VR]using r
 | .map (some a),_,l,r=>by
  simp only[AV.lt]at l;simp only[VR]at r⊢;obtain⟨ci,h1,h2⟩:=r;exact⟨ci,(h _ l)▸h1,h2⟩
 | .fn f x y,_,l,r=>by
  simp only[AV.lt]at l;simp only[VR]at r⊢;obtain⟨x',y',h1,h2,h3⟩:=r;exact⟨x',y',h1,VRs.cut h l.1 h2,VRs.cut h l.2 h3⟩
 | .yld b,_,l,r=>by
  simp only[AV.lt]at l;simp only[VR]at r⊢;obtain⟨ci,h1,h2⟩:=r;exact⟨ci,(h _ l)▸h1,h2⟩
 | .nilFn,_,_,r=>by simpa[VR]using r
 | .iface t u,_,l,r=>by
  simp only[AV.lt]at l;simp only[VR]at r⊢;obtain⟨u',h1,h2⟩:=r;exact⟨u',h1,VR.cut h l h2⟩
 | .nilIface,_,_,r=>by simpa[VR]using r
 | .agg cs,_,l,r=>by
  simp only[AV.lt]at l;simp only[VR]at r⊢;obtain⟨u',h1,h2⟩:=r;exact⟨u',h1,VRs.cut h l h2⟩
 | .tup cs,_,l,r=>by
  simp only[AV.lt]at l;simp only[VR]at r⊢;obtain⟨u',h1,h2⟩:=r;exact⟨u',h1,VRs.cut h l h2⟩
theorem VRs.cut {N:Nat} {p q:Phi} (h:∀b,b<N->p b=q b):∀{a:List AV} {v:List Value},AV.lts N a->VRs p a v->VRs q a v
 |[],_,_,r=>by simpa[VRs]using r
 |a::az,_,l,r=>by
  simp only[AV.lts]at l;simp only[VRs]at r⊢;obtain⟨v,vs,h1,h2,h3⟩:=r;exact⟨v,vs,h1,VR.cut h l.1 h2,VRs.cut h l.2 h3⟩
end
mutual
theorem VR.back {p q:Phi} (h:p.le q):∀{a:AV} {v v':Value},VR p a v->VR q a v'->VR p a v'
 | .undef,_,_,_,_=>by simp[VR]
 | .bool _,_,_,_,r=>by simpa[VR]using r
 | .int ..,_,_,_,r=>by simpa[VR]using r
 | .str _,_,_,_,r=>by simpa[VR]using r
 | .ptr none,_,_,_,r=>by simpa[VR]using r
 | .ptr (some a),_,_,l,r=>by
  simp only[VR]at l r⊢;obtain⟨ci,h1,h2⟩:=l;obtain⟨ci',h3,h4⟩:=r;rw[h _ _ h1]at h3;cases h3;exact⟨ci,h1,h4⟩
 | .sl none ..,_,_,_,r=>by simpa[VR]using r
 | .sl (some a) ..,_,_,l,r=>by
  simp only[VR,SR]at l r⊢;obtain⟨ci,_,_,h1,_⟩:=l;obtain⟨ci',off,cap',h3,h4⟩:=r;rw[h _ _ h1]at h3;cases h3;exact⟨ci,off,cap',h1,h4⟩
 | .map none,_,_,_,r=>by simpa[VR]using r
 | .map (some a),_,_,l,r=>by
  simp only[VR]at l r⊢;obtain⟨ci,h1,h2⟩:=l;obtain⟨ci',h3,h4⟩:=r;rw[h _ _ h1]at h3;cases h3;exact⟨ci,h1,h4⟩
 | .fn f x y,_,_,l,r=>by
  simp only[VR]at l r⊢;obtain⟨x0,y0,_,g2,g3⟩:=l;obtain⟨x',y',h1,h2,h3⟩:=r;exact⟨x',y',h1,VRs.back h g2 h2,VRs.back h g3 h3⟩
 | .yld b,_,_,l,r=>by
  simp only[VR]at l r⊢;obtain⟨ci,h1,h2⟩:=l;obtain⟨ci',h3,h4⟩:=r;rw[h _ _ h1]at h3;cases h3;exact⟨ci,h1,h4⟩
 | .nilFn,_,_,_,r=>by simpa[VR]using r
 | .iface t u,_,_,l,r=>by
  simp only[VR]at l r⊢;obtain⟨u0,_,g2⟩:=l;obtain⟨u',h1,h2⟩:=r;exact⟨u',h1,VR.back h g2 h2⟩
 | .nilIface,_,_,_,r=>by simpa[VR]using r
 | .agg cs,_,_,l,r=>by
  simp only[VR]at l r⊢;obtain⟨u0,_,g2⟩:=l;obtain⟨u',h1,h2⟩:=r;exact⟨u',h1,VRs.back h g2 h2⟩
 | .tup cs,_,_,l,r=>by
  simp only[VR]at l r⊢;obtain⟨u0,_,g2⟩:=l;obtain⟨u',h1,h2⟩:=r;exact⟨u',h1,VRs.back h g2 h2⟩
theorem VRs.back {p q:Phi} (h:p.le q):∀{a:List AV} {v v':List Value},VRs p a v->VRs q a v'->VRs p a v'
 |[],_,_,_,r=>by simpa[VRs]using r
 |a::az,_,_,l,r=>by
  simp only[VRs]at l r⊢;obtain⟨v0,vs0,_,g2,g3⟩:=l;obtain⟨v,vs,h1,h2,h3⟩:=r;exact⟨v,vs,h1,VR.back h g2 h2,VRs.back h g3 h3⟩
end
def Blk.lt (N:Nat):Blk->Prop
 | .cells cs _=>AV.lts N cs
 | .loop l=>AV.lts N l.tmps
 | .map es=>∀e∈es,AV.lt N e.1/\AV.lt N e.2
theorem Blk.q1N {N M:Nat} (h:N<=M) {b:Blk} (r:b.lt N):b.lt M:=by
 cases b with
 |cells cs ro=>exact AV.q1W h r
 |loop l=>exact AV.q1W (a:=l.tmps) h r
 |map es=>exact fun e he=>⟨AV.q1N h (r e he).1,AV.q1N h (r e he).2⟩
theorem Blk.z0N (b:Blk):∃N,b.lt N:=by
 cases b with
 |cells cs ro=>exact AV.q54 cs
 |loop l=>exact AV.q54 l.tmps
 |map es=>
  induction es with
  |nil=>exact⟨0,fun e h=>by cases h⟩
  |cons e es ih=>
   obtain⟨N,h⟩:=ih;obtain⟨A,ha⟩:=AV.z0N e.1;obtain⟨B,hb⟩:=AV.z0N e.2;refine⟨max N (max A B),fun x hx=>?_⟩
   cases hx with
   |head=>exact⟨AV.q1N (by omega) ha,AV.q1N (by omega) hb⟩
   |tail _ hx=>exact⟨AV.q1N (by omega) (h x hx).1,AV.q1N (by omega) (h x hx).2⟩
theorem Mem.z0N (m:Mem):∃N,m.next<=N/\∀b v,m.get b=some v->v.lt N:=by
 have:∀n,∃N,∀b v,b<n->m.get b=some v->v.lt N:=by
  intro n;induction n with
  |zero=>exact⟨0,fun b v h=>by omega⟩
  |succ n ih=>
   obtain⟨N,h⟩:=ih;cases e:m.get n with
   |none=>exact⟨N,fun b v hb hv=>by
     by_cases hn:b=n
     ·subst hn;rw[e]at hv;cases hv
     ·exact h b v (by omega) hv⟩
   |some x=>
    obtain⟨M,hM⟩:=x.z0N;refine⟨max N M,fun b v hb hv=>?_⟩
    by_cases hn:b=n
    ·subst hn;rw[e]at hv;cases hv;exact Blk.q1N (by omega) hM
    ·exact Blk.q1N (by omega) (h b v (by omega) hv)
 obtain⟨N,h⟩:=this m.next
 exact⟨max N m.next,by omega,fun b v hv=>Blk.q1N (by omega) (h b v (Mem.q0v hv) hv)⟩
theorem AV.z9N {N:Nat} {a:AV}:∀{l:List AV},AV.lts N l->a∈l->AV.lt N a
 |x::l,h,ha=>by
  simp only[AV.lts]at h;cases ha with
  |head=>exact h.1
  |tail _ ha=>exact AV.z9N h.2 ha
theorem ER.cut {N:Nat} {p q:Phi} (h:∀b,b<N->p b=q b):∀{l:List (AV×AV)} {es:List MapEntry},(∀e∈l,AV.lt N e.1/\AV.lt N e.2)->ER p l es->ER q l es
 |[],_,_,r=>by simpa[ER]using r
 |(k,v)::l,_,hl,r=>by
  simp only[ER]at r⊢;obtain⟨e,es,h1,h2,h3,h4⟩:=r;exact⟨e,es,h1,VR.cut h (hl _ xmc).1 h2,VR.cut h (hl _ xmc).2 h3,ER.cut h (fun e he=>hl e (List.mem_cons_of_mem _ he)) h4⟩
theorem BR.cut {P:Program} {N:Nat} {p q:Phi} (h:∀b,b<N->p b=q b) {ci:CI}:∀{b:Blk} {o:Obj},b.lt N->BR P p ci b o->BR P q ci b o
 | .cells _cs _ro,_o,l,⟨arr,el,fr,h1,h2,h3,h4⟩=>⟨arr,el,fr,h1,h2,h3,fun i a hi=>let ⟨v,x,y⟩:=h4 i a hi;⟨v,x,VR.cut h (AV.z9N l (List.mem_of_getElem? hi)) y⟩⟩
 | .loop _l,_o,l,⟨fn,vs,d,h1,h2,h3⟩=>⟨fn,vs,d,h1,VRs.cut h l h2,h3⟩
 | .map _es,_o,l,⟨ces,clock,h1,⟨x,h2,h3⟩,h4⟩=>⟨ces,clock,h1,⟨x,h2,ER.cut h (fun e he=>l e (h2.mem_iff.1 he)) h3⟩,h4⟩
def AV.flat (a:AV):Prop:=AV.lt 0 a
theorem VR.flat {p q:Phi} {a:AV} {v:Value} (h:a.flat) (r:VR p a v):VR q a v:=VR.cut (N:=0) (fun b hb=>by omega) h r
def Mem.upT (m:Mem):Nat->PT
 | 0=>.leaf
 |n+1=>(upT m n).set n (m.get n)
def Mem.up (m:Mem) (N:Nat):Mem:=⟨N,m.upT N⟩
theorem Mem.j0X (m:Mem):∀n b,(m.upT n).get b=if b<n then m.get b else none
 | 0,b=>by simp[Mem.upT,PT.q83]
 |n+1,b=>by
  simp only[Mem.upT,PT.q84,Mem.j0X m n b];by_cases h:b=n
  ·subst h;simp
  ·rw[if_neg h];by_cases h2:b<n
   ·rw[if_pos h2,if_pos (by omega)]
   ·rw[if_neg h2,if_neg (by omega)]
theorem Mem.a7F (m:Mem) {N:Nat} (hN:m.next<=N) (b:Nat):(m.up N).get b=m.get b:=by
 rw[Mem.q4L];show (if b<N then (m.upT N).get b else none)=m.get b
 rw[Mem.j0X];by_cases h:b<N
 ·simp[h]
 ·rw[if_neg h,Mem.q7T (by omega)]
open Classical in
def q0x (E:Env) (f:FuncId) (args:List AV) (m:Mem):R:=
 if h:∃v:AV,v.flat/\∀m2:Mem,m.next<=m2.next->(∀b,m2.get b=m.get b)->∃m',run E (.fn f) args m2=some (v,m')/\Fr m2 m' [] then some (h.choose,m) else none
theorem z6u {E:Env} {f:FuncId} {args:List AV} {m:Mem} {v:AV} (hv:v.flat) (h:∀m2:Mem,m.next<=m2.next->(∀b,m2.get b=m.get b)->Res m2 (run E (.fn f) args m2) v):q0x E f args m=some (v,m):=by
 have hex:∃v:AV,v.flat/\∀m2:Mem,m.next<=m2.next->(∀b,m2.get b=m.get b)->∃m',run E (.fn f) args m2=some (v,m')/\Fr m2 m' []:=⟨v,hv,h⟩
 unfold q0x;rw[dif_pos hex];obtain⟨_,h2⟩:=hex.choose_spec;obtain⟨m1,e1,_⟩:=h2 m (xnr _) (fun _=>rfl)
 obtain⟨m2,e2,_⟩:=h m (xnr _) (fun _=>rfl)
 rw[e1]at e2;cases e2;rfl
theorem z2A {E:Env} (hE:q1i E) {f:FuncId} (args:List AV) (m:Mem) (r:AV) (m':Mem) (h:q0x E f args m=some (r,m')):z6b E.P (.fn f) args m r m':=by
 unfold q0x at h;split at h
 ·rename_i hex;obtain⟨v,hv0⟩:∃v,v=hex.choose:=⟨_,rfl⟩;have hspec:=hex.choose_spec;rw[<-hv0]at hspec h;obtain⟨hflat,hrun⟩:=hspec;cases h;clear hv0;refine⟨xnr _,fun p w cargs hm hG _ hv=>?_⟩
  obtain⟨N0,hN0,hlt⟩:=m.z0N;obtain⟨NA,hNA⟩:=AV.q54 args;obtain⟨N,hN⟩:∃N,N=max N0 NA:=⟨_,rfl⟩;have hgN:∀b,(m.up N).get b=m.get b:=fun b=>m.a7F (by omega) b
  obtain⟨m1,e1,hfr⟩:=hrun (m.up N) (by show m.next<=N;omega) hgN
  have hp:∀b,b<N->p b=(fun b=>if b<N then p b else none) b:=fun b hb=>by simp[hb]
  have hp0le:Phi.le (fun b=>if b<N then p b else none) p:=fun b ci hb=>by
   by_cases h:b<N
   ·simpa[h]using hb
   ·simp[h]at hb
  have hm2:MR E.P (fun b=>if b<N then p b else none) (m.up N) w:=by
   refine⟨fun b blk ci h1 h2=>?_,fun b ci b2 ci2 h1 h2 h3 h4=>?_,fun b ci h1=>hm.bnd b ci (hp0le _ _ h1),fun g hg=>?_⟩
   ·rw[hgN]at h1;obtain⟨o,h3,h4⟩:=hm.has b blk ci h1 (hp0le _ _ h2);exact⟨o,h3,BR.cut hp (Blk.q1N (by omega) (hlt b blk h1)) h4⟩
   ·rw[hgN]at h1⊢;rcases hm.inj b ci b2 ci2 h1 (hp0le _ _ h2) (hp0le _ _ h3) h4 with h5|⟨h5,h6⟩
    ·exact .inl h5
    ·exact .inr ⟨by show b2<N;omega,h6⟩
   ·obtain⟨n,hn⟩:=hm.q2O g hg;have:g<GP E.P:=hg;exact⟨n,by show (if g<N then p g else none)=_;rw[if_pos (by omega)];exact hn⟩
  have hfree:q5x (fun b=>if b<N then p b else none) (m.up N).next m1.next:=fun b h1 h2=>by
   have:N<=b:=h1;show (if b<N then p b else none)=none;rw[if_neg (by omega)]
  have hF:=q2k hE (.fn f) _ _ _ _ e1;have back:∀{q:Phi} {w':World} {cv:Value},VR q r cv->Sim E.P (fun b=>if b<N then p b else none) (m.up N) w q m1 w'->VR p r cv/\Sim E.P p m w p m w':=by
   intro q w' cv h1 s;refine⟨VR.flat hflat h1,?_⟩;have hq:∀b ci,b<m.next->p b=some ci->q b=some ci:=fun b ci hb hc=>s.le b ci (by show (if b<N then p b else none)=_;rw[if_pos (by omega)];exact hc)
   exact {
    le:=fun _ _ h=>h
    out:=fun _ _=>rfl
    next:=xnr _
    rel:={
     has:=fun b blk ci h3 h4=>by
      have hb:=Mem.q0v h3;have hg1:m1.get b=some blk:=hfr.get (by rw[hgN];exact h3) (by simp);obtain⟨o,h5,h6⟩:=s.rel.has b blk ci hg1 (hq b ci hb h4);obtain⟨o0,h7,h8⟩:=hm.has b blk ci h3 h4;refine⟨o,h5,?_⟩;have h8':=BR.cut hp (Blk.q1N (by omega) (hlt b blk h3)) h8;cases blk with
      |cells cs ro=>
       obtain⟨arr,el,fr,g1,g2,g3,g4⟩:=h6;obtain⟨arr0,el0,fr0,k1,k2,k3,k4⟩:=h8';refine⟨arr,el,fr,g1,g2,g3,fun i a hi=>?_⟩
       obtain⟨v1,x1,y1⟩:=g4 i a hi;obtain⟨v0,x0,y0⟩:=k4 i a hi;exact⟨v1,x1,(VR.back s.le y0 y1).mono hp0le⟩
      |loop l=>
       obtain⟨fn,vs,d,g1,g2,g3⟩:=h6;obtain⟨fn0,vs0,d0,k1,k2,k3⟩:=h8';exact⟨fn,vs,d,g1,(VRs.back s.le k2 g2).mono hp0le,g3⟩
      |map es=>
       obtain⟨ces,clock,g1,⟨l,g2,g3⟩,g4⟩:=h6;obtain⟨ces0,clock0,k1,⟨l0,k2,k3⟩,k4⟩:=h8';refine⟨ces,clock,g1,⟨l,g2,?_⟩,g4⟩;have known:∀e∈l,∃x y,VR (fun b=>if b<N then p b else none) e.1 x/\VR (fun b=>if b<N then p b else none) e.2 y:=by
        have:∀{l0:List (AV×AV)} {c0:List MapEntry},ER (fun b=>if b<N then p b else none) l0 c0->∀e∈l0,∃x y,VR (fun b=>if b<N then p b else none) e.1 x/\VR (fun b=>if b<N then p b else none) e.2 y:=by
         intro l0;induction l0 with
         |nil=>intro c0 _ e he;cases he
         |cons a l0 ih=>
          intro c0 hr e he;obtain⟨ka,va⟩:=a;simp only[ER]at hr;obtain⟨e1,es1,_,r2,r3,r4⟩:=hr;cases he with
          |head=>exact⟨_,_,r2,r3⟩
          |tail _ he=>exact ih r4 e he
        intro e he;exact this k3 e (k2.mem_iff.2 (g2.mem_iff.1 he))
       have step:∀{l0:List (AV×AV)} {c0:List MapEntry},(∀e∈l0,∃x y,VR (fun b=>if b<N then p b else none) e.1 x/\VR (fun b=>if b<N then p b else none) e.2 y)->ER q l0 c0->ER p l0 c0:=by
        intro l0;induction l0 with
        |nil=>intro c0 _ hr;simpa[ER]using hr
        |cons a l0 ih=>
         intro c0 hk hr;obtain⟨ka,va⟩:=a;simp only[ER]at hr⊢;obtain⟨e1,es1,r1,r2,r3,r4⟩:=hr;obtain⟨x,y,z1,z2⟩:=hk _ xmc;exact⟨e1,es1,r1,(VR.back s.le z1 r2).mono hp0le,(VR.back s.le z2 r3).mono hp0le,ih (fun e he=>hk e (List.mem_cons_of_mem _ he)) r4⟩
       exact step known g3
     inj:=hm.inj
     bnd:=fun b ci h4=>Nat.lt_of_lt_of_le (hm.bnd b ci h4) s.size
     q2O:=hm.q2O}
    q34:=fun _ _ _=>rfl
    dead:=fun _ _ h=>h
    q28:=fun c hc hn=>s.q28 c hc fun b ci h3 h4=>hn b ci (by rw[hgN]at h3;exact h3) (hp0le _ _ h4)
    fresh:=fun b ci h3 h4=>absurd h4 (by omega)
    ro:=fun b cs ci h3 h4=>by
     have hb:=Mem.q0v h3;exact⟨h3,(s.ro b cs ci (by rw[hgN];exact h3) (by show (if b<N then p b else none)=_;rw[if_pos (by omega)];exact h4)).2⟩
    size:=s.size
    os:=s.os
    output:=s.output
    tape:=s.tape}
  rcases hF.2 _ w cargs hm2 (by show GP E.P<=N;omega) hfree (VRs.cut hp (AV.q1W (by omega) hNA) hv) with ⟨fn,h1,h2,h3,h4⟩|⟨cv,w',q,h1,h2,h3⟩
  ·refine .inl ⟨fn,h1,h2,h3,h4.mono ?_⟩;rintro e w' ⟨cv,q,rfl,h5,h6⟩
   obtain⟨h7,h8⟩:=back h5 h6;exact⟨cv,p,rfl,h7,h8⟩
  ·obtain⟨h7,h8⟩:=back h2 h3;exact .inr ⟨cv,w',p,h1,h7,h8⟩
 ·cases h
def q1y (E:Env) (S:List FuncId):FuncId->Option (List AV->Mem->R):=fun f=>if f∈S then some (q0x E f) else E.H f
theorem q0Q {E:Env} (hE:q1i E) (S:List FuncId):q1i {E with H:=q1y E S} where
 mixed:=hE.mixed
 body:=hE.body
 hook:=fun f h e args m r m' hr=>by
  simp only[q1y]at e;split at e
  ·cases e;exact z2A hE args m r m' hr
  ·exact hE.hook f h e args m r m' hr
end
end Go.Abs
section
namespace Go.Abs
open Go
theorem q0m (x:Int):IntKind.wrap .u64 x=x % 18446744073709551616:=z1o x
theorem q4m {x:Int} (h:0<=x) (h2:x<18446744073709551616):(BitVec.ofInt 64 x).toNat=x.toNat:=by
 rw[BitVec.toNat_ofInt];congr 1;exact Int.emod_eq_of_lt h h2
theorem q4Q {P:Program} (t:TypeId) {x:Int} (h:0<=x) (h2:x<18446744073709551616):q0J P .and t (.int .u64 x) (.int .u64 4294967295)=some (.int .u64 (x % 4294967296)):=by
 simp only[q0J,if_true,q65];congr 2;have e:(BitVec.ofInt IntKind.u64.bits x &&& BitVec.ofInt IntKind.u64.bits 4294967295).toNat=x.toNat % 4294967296:=by
  show (BitVec.ofInt 64 x &&& BitVec.ofInt 64 4294967295).toNat=_;rw[BitVec.toNat_and,q4m h h2,q4m (by omega) (by omega)];exact Nat.and_two_pow_sub_one_eq_mod x.toNat 32
 rw[e,q0m];omega
theorem a1u {P:Program} (t:TypeId) {a b:Nat} {s:Nat} (ha:a*2 ^ s<18446744073709551616) (hb:b<2 ^ s) (hb2:b<18446744073709551616) :
  q0J P .or t (.int .u64 ((a*2 ^ s:Nat):Int)) (.int .u64 (b:Int))=some (.int .u64 ((a*2 ^ s+b:Nat):Int)):=by
 simp only[q0J,if_true,q65];congr 2;have e0:a*2 ^ s ||| b=a*2 ^ s+b:=by
  have:=Nat.shiftLeft_add_eq_or_of_lt hb a;rw[Nat.shiftLeft_eq]at this;exact this.symm
 have e:(BitVec.ofInt IntKind.u64.bits ((a*2 ^ s:Nat):Int) ||| BitVec.ofInt IntKind.u64.bits (b:Int)).toNat=a*2 ^ s+b:=by
  show (BitVec.ofInt 64 ((a*2 ^ s:Nat):Int) ||| BitVec.ofInt 64 (b:Int)).toNat=_
  rw[BitVec.toNat_or,q4m (by omega) (by omega),q4m (by omega) (by omega),Int.toNat_natCast,Int.toNat_natCast,e0]
 have hlt:a*2 ^ s+b<18446744073709551616:=by
  rw[<-e];exact BitVec.isLt _
 rw[e,q0m];omega
theorem j61 {P:Program} (t:TypeId) (k k':IntKind) (x:Int) {y:Int} (h:0<=y):q0J P .shl t (.int k x) (.int k' y)=some (.int k (k.wrap (x*2 ^ (min y.toNat k.bits)))):=by
 simp only[q0J,shA];rw[if_neg (by omega)]
theorem q2i {P:Program} (t:TypeId) {x:Int} (h:0<=x):q0J P .shr t (.int .u64 x) (.int .u64 32)=some (.int .u64 (x / 4294967296)):=by
 rw[q5D _ _ _ _ _ (by omega)];have e:((2:Int) ^ (min (32:Int).toNat IntKind.u64.bits))=4294967296:=by rfl
 rw[e,Int.fdiv_eq_ediv_of_nonneg _ (by omega)]
theorem z2z {P:Program} (t:TypeId) {x y p:Int} (h:0<=x) (hy:0<=y) (hp:(2:Int) ^ (min y.toNat IntKind.u64.bits)=p):q0J P .shr t (.int .u64 x) (.int .u64 y)=some (.int .u64 (x / p)):=by
 rw[q5D _ _ _ _ _ hy,hp,Int.fdiv_eq_ediv_of_nonneg _ (by rw[<-hp];exact Int.le_of_lt (Int.pow_pos (by omega)))]
theorem q8v {P:Program} (t:TypeId) {x:Int} (n:Nat) (hn:n<=64):q0J P .shr t (.int .u64 x) (.int .u64 (n:Int))=some (.int .u64 (x / 2 ^ n)):=by
 rw[q5D _ _ _ _ _ (by omega)];have e:(min (n:Int).toNat IntKind.u64.bits)=n:=by
  rw[Int.toNat_natCast];exact Nat.min_eq_left hn
 rw[e,Int.fdiv_eq_ediv_of_nonneg _ (Int.le_of_lt (Int.pow_pos (by omega)))]
theorem q8u {P:Program} (t:TypeId) {x:Int} (n:Nat) (hn:n<=64):q0J P .shl t (.int .u64 x) (.int .u64 (n:Int))=some (.int .u64 ((x*2 ^ n) % 18446744073709551616)):=by
 rw[j61 _ _ _ _ (by omega),q0m];have e:(min (n:Int).toNat IntKind.u64.bits)=n:=by
  rw[Int.toNat_natCast];exact Nat.min_eq_left hn
 rw[e]
theorem j7b {a q y:Int} (h1:q*y<=a) (h2:a<q*y+y):a / y=q:=by
 have hy:0<y:=by omega
 have e:a=(a-q*y)+q*y:=by omega
 rw[e,Int.add_mul_ediv_right _ _ (by omega),Int.ediv_eq_zero_of_lt (by omega) (by omega),Int.zero_add]
theorem z15 {a b:Int} (h0:0<=a) (h1:a<4294967296) (h2:0<=b) (h3:b<4294967296):0<=a*b/\a*b<=18446744065119617025:=by
 refine⟨Int.mul_nonneg h0 h2,?_⟩;have h4:a*b<=4294967295*b:=Int.mul_le_mul_of_nonneg_right (by omega) h2;omega
theorem q5f {un u1 y yn1 yn0 q r:Int} (hy:y=yn1*4294967296+yn0) (e:q*yn1+r=un) (hc:q*yn0<=4294967296*r+u1) (hu:un*4294967296+u1<(q+1)*y):(un*4294967296+u1) / y=q:=by
 have e1:q*y=q*yn1*4294967296+q*yn0:=by rw[hy,Int.mul_add,<-Int.mul_assoc]
 have e2:(q+1)*y=q*y+y:=by rw[Int.add_mul,Int.one_mul]
 exact j7b (by omega) (by omega)
theorem z4f {un u1 y q:Int} (h:un*4294967296+u1<q*y):un*4294967296+u1<(q-1+1)*y:=by
 rw[Int.sub_add_cancel];exact h
theorem z0H {un u1 y q:Int} (hun:un<y) (hu1:u1<4294967296) (hq:4294967296<=q) (hy0:0<y):un*4294967296+u1<q*y:=by
 have:4294967296*y<=q*y:=Int.mul_le_mul_of_nonneg_right hq (by omega);omega
theorem z4e {un u1 y yn1 yn0 q r:Int} (hy:y=yn1*4294967296+yn0) (e:q*yn1+r=un) (hc:4294967296*r+u1<q*yn0):un*4294967296+u1<q*y:=by
 have e1:q*y=q*yn1*4294967296+q*yn0:=by rw[hy,Int.mul_add,<-Int.mul_assoc]
 omega
theorem q7V {un yn1 q r:Int} (e:q*yn1+r=un):(q-1)*yn1+(r+yn1)=un:=by
 rw[Int.sub_mul,Int.one_mul];omega
theorem z0I {un u1 y yn1 yn0 q r:Int} (hy:y=yn1*4294967296+yn0) (hy1:0<yn1) (hy0:0<=yn0) (hy2:yn0<4294967296) (hun:un<y) (hu1:0<=u1) (hq:0<=q) (e:q*yn1+r=un) (hr:4294967296<=r):q*yn0<=4294967296*r+u1:=by
 have hlt:q<4294967296:=by
  have h1:q*yn1<4294967296*yn1:=by omega
  exact Int.lt_of_mul_lt_mul_right h1 (by omega)
 have:=(z15 hq hlt hy0 hy2).2;omega
theorem z0J {un u1 y yn1 yn0:Int} (hy:y=yn1*4294967296+yn0) (hy1:2147483648<=yn1) (hy0:0<=yn0) (hy2:yn0<4294967296) (hun0:0<=un) (hun:un<y) (hu1:u1<4294967296) :
  0<=un / yn1/\un / yn1<=4294967297/\un / yn1*yn1+(un-un / yn1*yn1)=un/\0<=un-un / yn1*yn1/\un-un / yn1*yn1<yn1/\un*4294967296+u1<(un / yn1+1)*y:=by
 have h1:un / yn1*yn1+un % yn1=un:=Int.ediv_mul_add_emod un yn1;have h2:=Int.emod_nonneg un (show yn1≠0 by omega);have h3:=Int.emod_lt_of_pos un (show 0<yn1 by omega);have h4:0<=un / yn1:=Int.ediv_nonneg hun0 (by omega);refine⟨h4,?_,by omega,by omega,by omega,?_⟩
 ·refine Int.le_of_lt_add_one (Int.lt_of_mul_lt_mul_right (a:=yn1) ?_ (by omega));omega
 ·have e1:(un / yn1+1)*y=un / yn1*y+y:=by rw[Int.add_mul,Int.one_mul]
  have e2:un / yn1*y=un / yn1*yn1*4294967296+un / yn1*yn0:=by rw[show un / yn1*y=un / yn1*(yn1*4294967296+yn0) by rw[<-hy],Int.mul_add,<-Int.mul_assoc]
  have h5:0<=un / yn1*yn0:=Int.mul_nonneg h4 hy0;omega
theorem a8S {x y:Int} (hx:0<=x) (hx2:x<18446744073709551616) (hy:0<=y) (hy2:y<18446744073709551616) :
  let x0:=x % 4294967296
  let x1:=x / 4294967296
  let y0:=y % 4294967296
  let y1:=y / 4294967296
  let w0:=x0*y0
  let t:=x1*y0+w0 / 4294967296
  let w1:=t % 4294967296+x0*y1
  (0<=w0/\w0<18446744073709551616)/\(0<=x1*y0/\x1*y0<18446744073709551616)/\(0<=t/\t<18446744073709551616)/\(0<=x0*y1/\x0*y1<18446744073709551616)/\(0<=w1/\w1<18446744073709551616)/\(0<=x1*y1/\x1*y1<18446744073709551616)/\
  (0<=x1*y1+t / 4294967296/\x1*y1+t / 4294967296<18446744073709551616)/\
  x1*y1+t / 4294967296+w1 / 4294967296=x*y / 18446744073709551616:=by
 intro x0 x1 y0 y1 w0 t w1;have a0:0<=x0/\x0<4294967296:=by omega
 have a1:0<=x1/\x1<4294967296:=by omega
 have b0:0<=y0/\y0<4294967296:=by omega
 have b1:0<=y1/\y1<4294967296:=by omega
 have m00:=z15 a0.1 a0.2 b0.1 b0.2;have m10:=z15 a1.1 a1.2 b0.1 b0.2;have m01:=z15 a0.1 a0.2 b1.1 b1.2;have m11:=z15 a1.1 a1.2 b1.1 b1.2;have ex:x=x1*4294967296+x0:=by omega
 have ey:y=y1*4294967296+y0:=by omega
 have e:x*y=x1*y1*18446744073709551616+x1*y0*4294967296+x0*y1*4294967296+x0*y0:=by
  rw[ex,ey];simp only[Int.add_mul,Int.mul_add];have e1:x1*4294967296*(y1*4294967296)=x1*y1*18446744073709551616:=by
   rw[Int.mul_assoc x1,Int.mul_left_comm 4294967296 y1,<-Int.mul_assoc,<-Int.mul_assoc];omega
  have e2:x1*4294967296*y0=x1*y0*4294967296:=by rw[Int.mul_assoc,Int.mul_comm 4294967296,<-Int.mul_assoc]
  have e3:x0*(y1*4294967296)=x0*y1*4294967296:=by rw[<-Int.mul_assoc]
  rw[e1,e2,e3];omega
 have ew0:w0=x0*y0:=rfl;have et:t=x1*y0+w0 / 4294967296:=rfl;have ew1:w1=t % 4294967296+x0*y1:=rfl;generalize x0*y0=p00 at *;generalize x1*y0=p10 at *;generalize x0*y1=p01 at *;generalize x1*y1=p11 at *
 clear_value w0 t w1
 refine⟨by omega,by omega,by omega,by omega,by omega,by omega,by omega,?_⟩;rw[e];omega
end Go.Abs
namespace Go.Abs
open Go
theorem j1t {hi lo pp qq un32 un10:Int} (hpq:pp*qq=18446744073709551616) (hpp:0<pp) (hqq:0<qq) (e1:un32=hi*pp+lo / qq) (e2:un10=(lo*pp) % 18446744073709551616) :
  (hi*18446744073709551616+lo)*pp=un32*18446744073709551616+un10:=by
 have h:lo / qq=lo*pp / 18446744073709551616:=by
  rw[<-hpq,Int.mul_comm pp qq,Int.mul_ediv_mul_of_pos_left _ _ hpp]
 rw[e1,e2,h,Int.add_mul,Int.add_mul];have:hi*18446744073709551616*pp=hi*pp*18446744073709551616:=by rw[Int.mul_assoc,Int.mul_comm 18446744073709551616 pp,<-Int.mul_assoc]
 rw[this];omega
theorem j1s {un32 un10 y q1 r1 q0 r0:Int} (hy:0<y) (h1:un32*4294967296+un10 / 4294967296=q1*y+r1) (h2:r1*4294967296+un10 % 4294967296=q0*y+r0) (h3:0<=r0) (h4:r0<y) :
  (un32*18446744073709551616+un10) / y=q1*4294967296+q0/\(un32*18446744073709551616+un10) % y=r0:=by
 have e:un32*18446744073709551616+un10=r0+(q1*4294967296+q0)*y:=by
  rw[Int.add_mul];have:q1*4294967296*y=q1*y*4294967296:=by rw[Int.mul_assoc,Int.mul_comm 4294967296 y,<-Int.mul_assoc]
  rw[this];omega
 rw[e,Int.add_mul_ediv_right _ _ (by omega),Int.add_mul_emod_self_right,Int.ediv_eq_zero_of_lt h3 h4,Int.emod_eq_of_lt h3 h4];exact⟨by omega,rfl⟩
theorem j1r {n y pp:Int} (hpp:0<pp):n*pp / (y*pp)=n / y/\n*pp % (y*pp) / pp=n % y:=by
 refine⟨Int.mul_ediv_mul_of_pos_left _ _ hpp,?_⟩;have h1:n*pp % (y*pp)=n % y*pp:=by
  rw[Int.emod_def,Int.mul_ediv_mul_of_pos_left _ _ hpp,Int.emod_def,Int.sub_mul,Int.mul_right_comm]
 rw[h1,Int.mul_ediv_cancel _ (by omega)]
theorem z13 {hi lo y pp un32 un10:Int} (h:(hi*18446744073709551616+lo)*pp=un32*18446744073709551616+un10) (hlt:hi<y) (hlo:lo<18446744073709551616) (hpp:0<pp) (h0:0<=un10):un32<y*pp:=by
 have h1:(hi*18446744073709551616+lo)*pp<y*18446744073709551616*pp:=Int.mul_lt_mul_of_pos_right (by omega) hpp;have h2:y*18446744073709551616*pp=y*pp*18446744073709551616:=by rw[Int.mul_assoc,Int.mul_comm 18446744073709551616 pp,<-Int.mul_assoc]
 omega
def len8:List UInt8:=(List.range 256).map fun i=>UInt8.ofNat (if i=0 then 0 else i.log2+1)
theorem j9Z:∀i:Nat,i<256->0<i->∃n:Nat,len8[i]? = some (UInt8.ofNat (n+1))/\n<8/\2 ^ n<=i/\i<2*2 ^ n:=by
 intro i hi h0;refine⟨i.log2,?_,?_,Nat.log2_self_le (by omega),?_⟩
 ·simp only[len8,List.getElem?_map,List.getElem?_range hi,xom,if_neg (show ¬i=0 by omega)]
 ·exact(Nat.log2_lt (by omega)).2 hi
 ·have:=Nat.lt_log2_self (n:=i);rw[Nat.pow_succ]at this;omega
end Go.Abs
namespace Go.Abs
def sgn (n:Int):Int:=if n<0 then -1 else if n=0 then 0 else 1
def q2S (k:Nat):Int:=10 ^ k
theorem q3I (k:Nat):0<q2S k:=Int.pow_pos (by omega)
theorem j0S (k:Nat):q2S (k+1)=q2S k*10:=by unfold q2S;rw[Int.pow_succ]
theorem j4Y (j k:Nat):q2S (j+k)=q2S j*q2S k:=by unfold q2S;rw[Int.pow_add]
theorem a0M:∀{k:Nat},k<=18->q2S k<=1000000000000000000:=by
 intro k h;have:∀k,k<=18->q2S k<=1000000000000000000:=by decide
 exact this k h
end Go.Abs
namespace Go.Abs
def q8A (n:Int):List AV:=[.int .u64 (n % 18446744073709551616),.int .u64 (n / 18446744073709551616 % 18446744073709551616),.int .u64 (n / 340282366920938463463374607431768211456 % 18446744073709551616),.int .u64 (n / 6277101735386680763835789423207666416102355444464034512896 % 18446744073709551616)]
theorem j1o {p0 p1 p2 p3 n:Int} (h0:0<=p0/\p0<18446744073709551616) (h1:0<=p1/\p1<18446744073709551616) (h2:0<=p2/\p2<18446744073709551616) (h3:0<=p3/\p3<18446744073709551616)
  (e:n=p3*6277101735386680763835789423207666416102355444464034512896+p2*340282366920938463463374607431768211456+p1*18446744073709551616+p0) :
  q8A n=[.int .u64 p0,.int .u64 p1,.int .u64 p2,.int .u64 p3]:=by
 have e0:n % 18446744073709551616=p0:=by omega
 have e1:n / 18446744073709551616 % 18446744073709551616=p1:=by omega
 have e2:n / 340282366920938463463374607431768211456 % 18446744073709551616=p2:=by omega
 have e3:n / 6277101735386680763835789423207666416102355444464034512896 % 18446744073709551616=p3:=by omega
 unfold q8A;rw[e0,e1,e2,e3]
theorem j1n {n:Int} (h0:0<=n) (h1:n<115792089237316195423570985008687907853269984665640564039457584007913129639936):∃p0 p1 p2 p3:Int,q8A n=[.int .u64 p0,.int .u64 p1,.int .u64 p2,.int .u64 p3]/\(0<=p0/\p0<18446744073709551616)/\(0<=p1/\p1<18446744073709551616)/\(0<=p2/\p2<18446744073709551616)/\(0<=p3/\p3<18446744073709551616)/\
  n=p3*6277101735386680763835789423207666416102355444464034512896+p2*340282366920938463463374607431768211456+p1*18446744073709551616+p0:=by
 refine⟨_,_,_,_,rfl,by omega,by omega,by omega,by omega,by omega⟩
theorem z5o {a b:Int} (h0:0<=a) (h1:a<18446744073709551616) (h2:0<=b) (h3:b<18446744073709551616):0<=a*b/\a*b<=340282366920938463426481119284349108225:=by
 refine⟨Int.mul_nonneg h0 h2,?_⟩;have h4:a*b<=18446744073709551615*b:=Int.mul_le_mul_of_nonneg_right (by omega) h2;omega
theorem z9P (ah al bh bl:Int):(ah*18446744073709551616+al)*(bh*18446744073709551616+bl)=ah*bh*340282366920938463463374607431768211456+(al*bh+ah*bl)*18446744073709551616+al*bl:=by
 have e1:ah*18446744073709551616*(bh*18446744073709551616)=ah*bh*340282366920938463463374607431768211456:=by
  rw[Int.mul_assoc ah,Int.mul_left_comm 18446744073709551616 bh,<-Int.mul_assoc,<-Int.mul_assoc,Int.mul_assoc (ah*bh)];rfl
 have e2:ah*18446744073709551616*bl=ah*bl*18446744073709551616:=by rw[Int.mul_assoc,Int.mul_comm 18446744073709551616,<-Int.mul_assoc]
 have e3:al*(bh*18446744073709551616)=al*bh*18446744073709551616:=by rw[<-Int.mul_assoc]
 simp only[Int.add_mul,Int.mul_add,e1,e2,e3];omega
theorem z5g (b:Nat):ixA 1 4 ⟨b,0⟩ 0=some (.ptr (some ⟨b,0⟩)):=rfl
theorem z5h (b:Nat):ixA 1 4 ⟨b,0⟩ 1=some (.ptr (some ⟨b,1⟩)):=by simp[ixA]
theorem z9B (b:Nat):ixA 1 4 ⟨b,0⟩ 2=some (.ptr (some ⟨b,2⟩)):=by simp[ixA]
theorem z9C (b:Nat):ixA 1 4 ⟨b,0⟩ 3=some (.ptr (some ⟨b,3⟩)):=by simp[ixA]
end Go.Abs
namespace Go.Abs
open Go
def rhe (n:Int) (k:Nat):Int:=if q2S k<2*(n % q2S k)\/(2*(n % q2S k)=q2S k/\n / q2S k % 2=1) then n / q2S k+1 else n / q2S k
theorem j4B (n:Int):rhe n 0=n:=by
 have e:q2S 0=1:=rfl;unfold rhe;rw[e,Int.emod_one,Int.ediv_one,if_neg (by omega)]
theorem j6u {n:Int} (h:0<=n) (k:Nat):0<=rhe n k:=by
 have h1:0<=n / q2S k:=Int.ediv_nonneg h (Int.le_of_lt (q3I k));unfold rhe;split<;>omega
theorem a7m {n:Int} (h:0<=n) (k:Nat):rhe n k<=n+1:=by
 have h1:n / q2S k<=n:=Int.ediv_le_self _ h;unfold rhe;split<;>omega
end Go.Abs
end
namespace Go.Abs
section
open Go
theorem ips {d:Do} {m:Mem}:(∀v,q0i d (.ret v) m=some (v,m))/\(∀(P:Program) (rs:List ResultVar) (vs:List AV),q0i d (.resC P rs vs) m=(q0S P rs vs m).bind fun vs=>some (q0V vs,m))/\
  (∀(e:Option AV) (K:AV->CM),q0i d (.pu e K) m=e.bind fun v=>q0i d (K v) m)/\(∀(e:Mem->Option AV) (K:AV->CM),q0i d (.rm e K) m=(e m).bind fun v=>q0i d (K v) m)/\
  (∀(e:Option (Blk×(Nat->AV))) (K:AV->CM),q0i d (.al e K) m=e.bind fun c=>q0i d (K (c.2 m.next)) (m.lay c.1))/\(∀(e:Mem->R) (K:AV->CM),q0i d (.ef e K) m=(e m).bind fun r=>q0i d (K r.1) r.2)/\
  (∀(e:Mem->Option Mem) (K:CM),q0i d (.st e K) m=(e m).bind fun m=>q0i d K m)/\(∀(f:Nat) (as2:List AV) (K:AV->CM),q0i d (.call f as2 K) m=(d.call (.fn f) as2 m).bind fun r=>q0i d (K r.1) r.2)/\
  (∀(fv:AV) (as2:List AV) (K:AV->CM),q0i d (.callv fv as2 K) m=(q3P d.call fv as2 m).bind fun r=>q0i d (K r.1) r.2)/\(∀(v:AV) (x y:CM),q0i d (.ifv v x y) m=ifV v (q0i d x m) (q0i d y m))/\
  (∀(v:AV) (x y:CM),q0i d (.cond v x y) m=q0b v (q0i d x m) (q0i d y m))/\(∀(K:Mem->CM),q0i d (.memo K) m=q0i d (K m) m)/\(∀(e:Option AV) (v:AV) (K:CM),q0i d (.chk e v K) m=if e=some v then q0i d K m else none)/\
  (∀(k:Nat) (ts:List AV),q0i d (.go k ts) m=d.gor k ts m):=
 ⟨z5e,z10,z9s,z9t,z9p,z9q,z9u,z1X,z0F,z5d,z1Y,z1Z,z5c,z9r⟩
theorem aps:(∀(F:AV->List AV->CM) (a:AV) (l:List AV),apS F (a::l)=F a l)/\(∀(c:CM),ap0 c []=c):=⟨j05,j6S⟩
theorem ge:(∀(α:Type) (a:α) (l:List α),(a::l)[0]? = some a)/\(∀(α:Type) (a:α) (l:List α) (i:Nat),(a::l)[i+1]? = l[i]?):=⟨fun _ _ _=>xgz,fun _ _ _ _=>xgs⟩
theorem lcs:(∀(p:AV->Bool) (a:AV) (l:List AV),(a::l).all p=(p a&&l.all p))/\(∀(p:AV->Bool),([]:List AV).all p=true)/\(∀(a:AV) (l:List AV),(a::l).length=l.length+1)/\(([]:List AV).length=0)/\
  (∀(a:AV) (l:List AV) (i:Nat),(a::l).take (i+1)=a::l.take i)/\(∀l:List AV,l.take 0=[])/\(∀(a:AV) (l:List AV) (i:Nat),(a::l).drop (i+1)=l.drop i)/\(∀l:List AV,l.drop 0=l)/\
  (∀(a:AV) (l k:List AV),a::l++k=a::(l++k))/\(∀l:List AV,[]++l=l)/\(∀l:List AV,l++[]=l)/\
  (∀b:Bool,(b&&b)=b)/\(∀b:Bool,(b&&true)=b)/\(∀n:Nat,0+n=n)/\(∀n:Nat,n+0=n):=
 ⟨fun _ _ _=>List.all_cons,fun _=>List.all_nil,fun _ _=>List.length_cons,List.length_nil,fun _ _ _=>List.take_succ_cons,fun _=>List.take_zero,fun _ _ _=>List.drop_succ_cons,fun _=>List.drop_zero,fun _ _ _=>List.cons_append,List.nil_append,List.append_nil,Bool.and_self,Bool.and_true,xnz,xna⟩
theorem lms:(∀(m:Mem) (cs:List AV) (ro:Bool) (b o:Nat),ld1 (m.lay (.cells cs ro)) (.ptr (some ⟨b,o⟩))=if b=m.next then cs[o]? else ld1 m (.ptr (some ⟨b,o⟩)))/\
  (∀(m:Mem) (cs:List AV) (ro:Bool) (b o n:Nat),ldN (m.lay (.cells cs ro)) (.ptr (some ⟨b,o⟩)) n=if b=m.next then (if o+n<=cs.length then some (.agg ((cs.drop o).take n)) else none) else ldN m (.ptr (some ⟨b,o⟩)) n)/\
  (∀(m:Mem) (cs:List AV) (b o:Nat) (v:AV) (n:Nat),stV (m.lay (.cells cs false)) (.ptr (some ⟨b,o⟩)) v n=if b=m.next then (over cs o v n).map (fun c=>m.lay (.cells c false)) else (stV m (.ptr (some ⟨b,o⟩)) v n).map (fun m'=>m'.lay (.cells cs false)))/\
  (∀(m:Mem) (v:Blk),(m.lay v).next=m.next+1)/\(∀n:Nat,(n=n+1)=False)/\(∀n:Nat,(n=n+1+1)=False)/\(∀n:Nat,(n=n+1+1+1)=False)/\(∀n:Nat,(n=n+1+1+1+1)=False)/\(∀n:Nat,(n=n+1+1+1+1+1)=False)/\
  (∀n:Nat,(n=n+1+1+1+1+1+1)=False)/\(∀n:Nat,(n=n+1+1+1+1+1+1+1)=False)/\(∀n:Nat,(n=n+1+1+1+1+1+1+1+1)=False):=
 ⟨j9Y,z9I,a0I,Mem.q0q,nn1,nn2,nn3,nn4,nn5,nn6,nn7,nn8⟩
theorem obs:∀{α β:Type} (a:α) (f:α->Option β),(some a).bind f=f a:=fun _ _=>rfl
theorem oms:∀{α β:Type} (a:α) (f:α->β),(some a).map f=some (f a):=fun _ _=>rfl
theorem ift:∀{α:Type} {x:Decidable True} (t e:α),(if True then t else e)=t:=fun _ _=>if_pos trivial
theorem a9E:∀{α:Type} {x:Decidable False} (t e:α),(if False then t else e)=e:=fun _ _=>if_neg id
abbrev lcl:=ai @lcs<|ai @lms<|ai @ge<|ai @ift<|ai @a9E @oms
end
end Go.Abs
namespace Go.Proofs.YtlginbmjiecglaaGreatDoor
section
open Go Go.Abs Go.Proofs.YtlginbmjiecglaaGreatDoor.T
set_option maxRecDepth 4000
theorem z6a {H:FuncId->Option (List AV->Mem->R)} (t:Tg) (xs:List AV) (m:Mem):(T.Rl H).call t xs m=run (T.EH H) t xs m:=rfl
theorem q0s {H:FuncId->Option (List AV->Mem->R)} {f:FuncId} {E:Env} (h:H f=some (q0x E f)) {args:List AV} {m:Mem} {v:AV} (hv:v.flat) (hr:∀m2:Mem,m.next<=m2.next->(∀b,m2.get b=m.get b)->Res m2 (run E (.fn f) args m2) v):run (T.EH H) (.fn f) args m=some (v,m):=(q00 h args m).trans (z6u hv hr)
theorem a9P (p:AV) (m:Mem):q1p Tryz.prog 28 p m=ldN m p 4:=by kernel_rfl
theorem bn4 (x y:Bool):q0J Tryz.prog .neq 4 (.bool x) (.bool y)=some (.bool (!(x==y))):=by kernel_rfl
theorem a9y (a:AA):q0J Tryz.prog .neq 34 (.ptr (some a)) (.ptr none)=some (.bool true):=by kernel_rfl
theorem a2D (b o:Nat):q0h Tryz.prog 45 (.ptr (some ⟨b,o⟩)) 1=some (.ptr (some ⟨b,o+2⟩)):=by kernel_rfl
theorem ld3 (p:AV) (m:Mem):q1p Tryz.prog 3 p m=ld1 m p:=by kernel_rfl
theorem a9R (p:AV) (m:Mem):q1p Tryz.prog 45 p m=ldN m p 3:=by kernel_rfl
theorem a2C (b o:Nat):q0h Tryz.prog 45 (.ptr (some ⟨b,o⟩)) 0=some (.ptr (some ⟨b,o+0⟩)):=by kernel_rfl
theorem a9Q (p:AV) (m:Mem):q1p Tryz.prog 43 p m=ldN m p 2:=by kernel_rfl
theorem be4 (x y:Bool):q0J Tryz.prog .eql 4 (.bool x) (.bool y)=some (.bool ((x==y))):=by kernel_rfl
theorem a2y (b o:Nat):q0h Tryz.prog 28 (.ptr (some ⟨b,o⟩)) 2=some (.ptr (some ⟨b,o+2⟩)):=by kernel_rfl
theorem a9N (p:AV) (m:Mem):q1p Tryz.prog 25 p m=ld1 m p:=by kernel_rfl
theorem a8O (a:Option AA) (sz n c:Nat) (e:Bool):q1M Tryz.prog 25 (.sl a sz n c e)=some (.int .i64 n):=by kernel_rfl
theorem a2E (b o:Nat):q0h Tryz.prog 54 (.ptr (some ⟨b,o⟩)) 0=some (.ptr (some ⟨b,o+0⟩)):=by kernel_rfl
theorem a9S (p:AV) (m:Mem):q1p Tryz.prog 54 p m=ldN m p 4:=by kernel_rfl
theorem a9O (p:AV) (m:Mem):q1p Tryz.prog 26 p m=ld1 m p:=by kernel_rfl
theorem a9I (a:AA) (sz n c:Nat) (e:Bool) (k:IntKind) (i:Int):q0F Tryz.prog 25 (.sl (some a) sz n c e) (.int k i)=if 4=sz\/e=true then ixA 4 n a i else none:=by kernel_rfl
theorem a2w (b o:Nat):q0h Tryz.prog 28 (.ptr (some ⟨b,o⟩)) 0=some (.ptr (some ⟨b,o+0⟩)):=by kernel_rfl
theorem a9L (p:AV) (m:Mem):q1p Tryz.prog 23 p m=ld1 m p:=by kernel_rfl
theorem a9T (p:AV) (m:Mem):q1p Tryz.prog 56 p m=ldN m p 4:=by kernel_rfl
theorem a8M (a:Option AA) (sz n c:Nat) (e:Bool):q1M Tryz.prog 23 (.sl a sz n c e)=some (.int .i64 n):=by kernel_rfl
theorem a9G (a:AA) (sz n c:Nat) (e:Bool) (k:IntKind) (i:Int):q0F Tryz.prog 23 (.sl (some a) sz n c e) (.int k i)=if 4=sz\/e=true then ixA 4 n a i else none:=by kernel_rfl
theorem a9v (ps:List (Nat×AV)):q2j Tryz.prog 61 ps=(q0n (fun i=>([(0,4),(4,1)]:List (Nat×Nat))[i]?) [.sl none 0 0 0 true,.sl none 0 0 0 true,.sl none 0 0 0 true,.int .u64 0,.int .i64 0] ps).map AV.agg:=by kernel_rfl
theorem a9U (p:AV) (m:Mem):q1p Tryz.prog 65 p m=ldN m p 11:=by kernel_rfl
theorem a2K (b o:Nat):q0h Tryz.prog 61 (.ptr (some ⟨b,o⟩)) 0=some (.ptr (some ⟨b,o+0⟩)):=by kernel_rfl
theorem a2I (b o:Nat):q0h Tryz.prog 56 (.ptr (some ⟨b,o⟩)) 1=some (.ptr (some ⟨b,o+1⟩)):=by kernel_rfl
theorem a2H (b o:Nat):q0h Tryz.prog 56 (.ptr (some ⟨b,o⟩)) 0=some (.ptr (some ⟨b,o+0⟩)):=by kernel_rfl
theorem ld9 (p:AV) (m:Mem):q1p Tryz.prog 9 p m=ld1 m p:=by kernel_rfl
theorem a9J (a:AA) (k:IntKind) (i:Int):q0F Tryz.prog 70 (.ptr (some a)) (.int k i)=ixA 1 4 a i:=by kernel_rfl
theorem a2G (b o:Nat):q0h Tryz.prog 54 (.ptr (some ⟨b,o⟩)) 2=some (.ptr (some ⟨b,o+2⟩)):=by kernel_rfl
theorem a1B (k:IntKind) (n:Int):q59 Tryz.prog 3 26 (.int k n)=some (.int .u64 (IntKind.wrap .u64 n)):=by kernel_rfl
theorem a2F (b o:Nat):q0h Tryz.prog 54 (.ptr (some ⟨b,o⟩)) 1=some (.ptr (some ⟨b,o+1⟩)):=by kernel_rfl
theorem a2x (b o:Nat):q0h Tryz.prog 28 (.ptr (some ⟨b,o⟩)) 1=some (.ptr (some ⟨b,o+1⟩)):=by kernel_rfl
theorem a2Y (b o:Nat):q0h Tryz.prog 74 (.ptr (some ⟨b,o⟩)) 3=some (.ptr (some ⟨b,o+5⟩)):=by kernel_rfl
theorem a9M (p:AV) (m:Mem):q1p Tryz.prog 24 p m=ld1 m p:=by kernel_rfl
theorem a8N (a:Option AA) (sz n c:Nat) (e:Bool):q1M Tryz.prog 24 (.sl a sz n c e)=some (.int .i64 n):=by kernel_rfl
theorem a9H (a:AA) (sz n c:Nat) (e:Bool) (k:IntKind) (i:Int):q0F Tryz.prog 24 (.sl (some a) sz n c e) (.int k i)=if 9=sz\/e=true then ixA 9 n a i else none:=by kernel_rfl
theorem a2X (b o:Nat):q0h Tryz.prog 74 (.ptr (some ⟨b,o⟩)) 2=some (.ptr (some ⟨b,o+2⟩)):=by kernel_rfl
theorem a2W (b o:Nat):q0h Tryz.prog 74 (.ptr (some ⟨b,o⟩)) 1=some (.ptr (some ⟨b,o+1⟩)):=by kernel_rfl
theorem a2Z (b o:Nat):q0h Tryz.prog 74 (.ptr (some ⟨b,o⟩)) 4=some (.ptr (some ⟨b,o+7⟩)):=by kernel_rfl
theorem a2z (b o:Nat):q0h Tryz.prog 28 (.ptr (some ⟨b,o⟩)) 3=some (.ptr (some ⟨b,o+3⟩)):=by kernel_rfl
theorem a2J (b o:Nat):q0h Tryz.prog 56 (.ptr (some ⟨b,o⟩)) 2=some (.ptr (some ⟨b,o+2⟩)):=by kernel_rfl
theorem a9r (ps:List (Nat×AV)):q2j Tryz.prog 43 ps=(q0n (fun i=>([(0,1),(1,1)]:List (Nat×Nat))[i]?) [.int .i64 0,.int .u64 0] ps).map AV.agg:=by kernel_rfl
theorem a8L (a:Option AA) (sz n c:Nat) (e:Bool):q1M Tryz.prog 22 (.sl a sz n c e)=some (.int .i64 n):=by kernel_rfl
theorem a3b (b o:Nat):q0h Tryz.prog 77 (.ptr (some ⟨b,o⟩)) 1=some (.ptr (some ⟨b,o+1⟩)):=by kernel_rfl
theorem a3c (b o:Nat):q0h Tryz.prog 77 (.ptr (some ⟨b,o⟩)) 2=some (.ptr (some ⟨b,o+2⟩)):=by kernel_rfl
theorem a3a (b o:Nat):q0h Tryz.prog 77 (.ptr (some ⟨b,o⟩)) 0=some (.ptr (some ⟨b,o+0⟩)):=by kernel_rfl
theorem a3d (b o:Nat):q0h Tryz.prog 77 (.ptr (some ⟨b,o⟩)) 3=some (.ptr (some ⟨b,o+3⟩)):=by kernel_rfl
theorem a9W (p:AV) (m:Mem):q1p Tryz.prog 77 p m=ldN m p 4:=by kernel_rfl
theorem a9F (a:AA) (sz n c:Nat) (e:Bool) (k:IntKind) (i:Int):q0F Tryz.prog 22 (.sl (some a) sz n c e) (.int k i)=if 4=sz\/e=true then ixA 4 n a i else none:=by kernel_rfl
theorem a9K (a:AA) (k:IntKind) (i:Int):q0F Tryz.prog 79 (.ptr (some a)) (.int k i)=ixA 1 3 a i:=by kernel_rfl
theorem a2V (b o:Nat):q0h Tryz.prog 74 (.ptr (some ⟨b,o⟩)) 0=some (.ptr (some ⟨b,o+0⟩)):=by kernel_rfl
theorem a2A (b o:Nat):q0h Tryz.prog 43 (.ptr (some ⟨b,o⟩)) 0=some (.ptr (some ⟨b,o+0⟩)):=by kernel_rfl
theorem a9V (p:AV) (m:Mem):q1p Tryz.prog 74 p m=ldN m p 9:=by kernel_rfl
theorem ld2 (p:AV) (m:Mem):q1p Tryz.prog 2 p m=ld1 m p:=by kernel_rfl
theorem a3f (b o:Nat):q0h Tryz.prog 94 (.ptr (some ⟨b,o⟩)) 1=some (.ptr (some ⟨b,o+1⟩)):=by kernel_rfl
theorem a9X (p:AV) (m:Mem):q1p Tryz.prog 90 p m=ld1 m p:=by kernel_rfl
theorem a3g (b o:Nat):q0h Tryz.prog 94 (.ptr (some ⟨b,o⟩)) 2=some (.ptr (some ⟨b,o+2⟩)):=by kernel_rfl
theorem a9Y (p:AV) (m:Mem):q1p Tryz.prog 91 p m=ld1 m p:=by kernel_rfl
theorem a3h (b o:Nat):q0h Tryz.prog 94 (.ptr (some ⟨b,o⟩)) 3=some (.ptr (some ⟨b,o+3⟩)):=by kernel_rfl
theorem a9Z (p:AV) (m:Mem):q1p Tryz.prog 92 p m=ld1 m p:=by kernel_rfl
theorem a3i (b o:Nat):q0h Tryz.prog 94 (.ptr (some ⟨b,o⟩)) 4=some (.ptr (some ⟨b,o+4⟩)):=by kernel_rfl
theorem a9q (ps:List (Nat×AV)):q2j Tryz.prog 28 ps=(q0n (fun i=>([(0,1),(1,1),(2,1),(3,1)]:List (Nat×Nat))[i]?) [.sl none 0 0 0 true,.sl none 0 0 0 true,.sl none 0 0 0 true,.int .u64 0] ps).map AV.agg:=by kernel_rfl
theorem a9s (ps:List (Nat×AV)):q2j Tryz.prog 45 ps=(q0n (fun i=>([(0,2),(2,1)]:List (Nat×Nat))[i]?) [.int .i64 0,.int .u64 0,.int .i64 0] ps).map AV.agg:=by kernel_rfl
theorem a2B (b o:Nat):q0h Tryz.prog 43 (.ptr (some ⟨b,o⟩)) 1=some (.ptr (some ⟨b,o+1⟩)):=by kernel_rfl
theorem a1x (k:IntKind) (n:Int):q59 Tryz.prog 26 2 (.int k n)=some (.int .i64 (IntKind.wrap .i64 n)):=by kernel_rfl
theorem a1A (k:IntKind) (n:Int):q59 Tryz.prog 2 26 (.int k n)=some (.int .u64 (IntKind.wrap .u64 n)):=by kernel_rfl
theorem a2M (b o:Nat):q0h Tryz.prog 65 (.ptr (some ⟨b,o⟩)) 0=some (.ptr (some ⟨b,o+0⟩)):=by kernel_rfl
theorem a2P (b o:Nat):q0h Tryz.prog 65 (.ptr (some ⟨b,o⟩)) 3=some (.ptr (some ⟨b,o+3⟩)):=by kernel_rfl
theorem a2N (b o:Nat):q0h Tryz.prog 65 (.ptr (some ⟨b,o⟩)) 1=some (.ptr (some ⟨b,o+1⟩)):=by kernel_rfl
theorem a2R (b o:Nat):q0h Tryz.prog 65 (.ptr (some ⟨b,o⟩)) 5=some (.ptr (some ⟨b,o+5⟩)):=by kernel_rfl
theorem a2O (b o:Nat):q0h Tryz.prog 65 (.ptr (some ⟨b,o⟩)) 2=some (.ptr (some ⟨b,o+2⟩)):=by kernel_rfl
theorem a2Q (b o:Nat):q0h Tryz.prog 65 (.ptr (some ⟨b,o⟩)) 4=some (.ptr (some ⟨b,o+4⟩)):=by kernel_rfl
theorem a2S (b o:Nat):q0h Tryz.prog 65 (.ptr (some ⟨b,o⟩)) 6=some (.ptr (some ⟨b,o+8⟩)):=by kernel_rfl
theorem a2U (b o:Nat):q0h Tryz.prog 65 (.ptr (some ⟨b,o⟩)) 8=some (.ptr (some ⟨b,o+10⟩)):=by kernel_rfl
theorem ld4 (p:AV) (m:Mem):q1p Tryz.prog 4 p m=ld1 m p:=by kernel_rfl
theorem a2T (b o:Nat):q0h Tryz.prog 65 (.ptr (some ⟨b,o⟩)) 7=some (.ptr (some ⟨b,o+9⟩)):=by kernel_rfl
theorem a8G (p:AV) (m:Mem):q1p Tryz.prog 123 p m=ldN m p 17:=by kernel_rfl
theorem j7Q (b o:Nat):q0h Tryz.prog 123 (.ptr (some ⟨b,o⟩)) 1=some (.ptr (some ⟨b,o+1⟩)):=by kernel_rfl
theorem a8F (p:AV) (m:Mem):q1p Tryz.prog 121 p m=ldN m p 16:=by kernel_rfl
theorem a9u (ps:List (Nat×AV)):q2j Tryz.prog 56 ps=(q0n (fun i=>([(0,1),(1,1),(2,2)]:List (Nat×Nat))[i]?) [.str [],.int .i64 0,.int .i64 0,.int .u64 0] ps).map AV.agg:=by kernel_rfl
theorem a1y (k:IntKind) (n:Int):q59 Tryz.prog 26 3 (.int k n)=some (.int .i64 (IntKind.wrap .i64 n)):=by kernel_rfl
theorem b0c (a:AA) (sz n c:Nat) (e:Bool) (lo hi:Option AV):q0o Tryz.prog 23 (.sl (some a) sz n c e) lo hi=(match hiA hi n c with|some h=>(match loA lo h with|some l=>if 4=sz\/e=true then some (.sl (some ⟨a.b,a.o+l*4⟩) 4 (h-l) (c-l) e) else none|none=>none)|none=>none):=by kernel_rfl
theorem a2L (b o:Nat):q0h Tryz.prog 61 (.ptr (some ⟨b,o⟩)) 1=some (.ptr (some ⟨b,o+4⟩)):=by kernel_rfl
theorem a9t (ps:List (Nat×AV)):q2j Tryz.prog 54 ps=(q0n (fun i=>([(0,1),(1,1),(2,2)]:List (Nat×Nat))[i]?) [.int .u64 0,.str [],.int .i64 0,.int .u64 0] ps).map AV.agg:=by kernel_rfl
theorem a9w (ps:List (Nat×AV)):q2j Tryz.prog 74 ps=(q0n (fun i=>([(0,1),(1,1),(2,3),(5,2),(7,2)]:List (Nat×Nat))[i]?) [.str [],.str [],.int .i64 0,.int .u64 0,.int .i64 0,.int .i64 0,.int .u64 0,.int .i64 0,.int .u64 0] ps).map AV.agg:=by kernel_rfl
theorem b0d (a:AA) (sz n c:Nat) (e:Bool) (lo hi:Option AV):q0o Tryz.prog 24 (.sl (some a) sz n c e) lo hi=(match hiA hi n c with|some h=>(match loA lo h with|some l=>if 9=sz\/e=true then some (.sl (some ⟨a.b,a.o+l*9⟩) 9 (h-l) (c-l) e) else none|none=>none)|none=>none):=by kernel_rfl
theorem iv9 (s:List UInt8) (k:IntKind) (n:Int):q4A Tryz.prog 9 (.str s) (.int k n)=if 0<=n then (match s[n.toNat]? with|some c=>some (.int .u8 c.toNat)|none=>none) else none:=by kernel_rfl
theorem a90 (s:List UInt8):q1M Tryz.prog 9 (.str s)=some (.int .i64 s.length):=by kernel_rfl
theorem a9x (ps:List (Nat×AV)):q2j Tryz.prog 94 ps=(q0n (fun i=>([(0,1),(1,1),(2,1),(3,1),(4,1)]:List (Nat×Nat))[i]?) [.int .i64 0,.ptr none,.ptr none,.ptr none,.int .u64 0] ps).map AV.agg:=by kernel_rfl
theorem j7R (b o:Nat):q0h Tryz.prog 142 (.ptr (some ⟨b,o⟩)) 0=some (.ptr (some ⟨b,o+0⟩)):=by kernel_rfl
theorem j7S (b o:Nat):q0h Tryz.prog 142 (.ptr (some ⟨b,o⟩)) 1=some (.ptr (some ⟨b,o+1⟩)):=by kernel_rfl
theorem j7T (b o:Nat):q0h Tryz.prog 142 (.ptr (some ⟨b,o⟩)) 2=some (.ptr (some ⟨b,o+2⟩)):=by kernel_rfl
theorem a8H (p:AV) (m:Mem):q1p Tryz.prog 140 p m=ld1 m p:=by kernel_rfl
theorem a7b (a:Option AA) (sz n c:Nat) (e:Bool):q1M Tryz.prog 140 (.sl a sz n c e)=some (.int .i64 n):=by kernel_rfl
theorem j7U (b o:Nat):q0h Tryz.prog 146 (.ptr (some ⟨b,o⟩)) 0=some (.ptr (some ⟨b,o+0⟩)):=by kernel_rfl
theorem j7V (b o:Nat):q0h Tryz.prog 146 (.ptr (some ⟨b,o⟩)) 1=some (.ptr (some ⟨b,o+1⟩)):=by kernel_rfl
theorem j7W (b o:Nat):q0h Tryz.prog 146 (.ptr (some ⟨b,o⟩)) 2=some (.ptr (some ⟨b,o+2⟩)):=by kernel_rfl
theorem j7X (b o:Nat):q0h Tryz.prog 151 (.ptr (some ⟨b,o⟩)) 0=some (.ptr (some ⟨b,o+0⟩)):=by kernel_rfl
theorem j7Y (b o:Nat):q0h Tryz.prog 151 (.ptr (some ⟨b,o⟩)) 1=some (.ptr (some ⟨b,o+1⟩)):=by kernel_rfl
theorem j7Z (b o:Nat):q0h Tryz.prog 151 (.ptr (some ⟨b,o⟩)) 2=some (.ptr (some ⟨b,o+2⟩)):=by kernel_rfl
theorem a8I (p:AV) (m:Mem):q1p Tryz.prog 149 p m=ld1 m p:=by kernel_rfl
theorem a7c (a:Option AA) (sz n c:Nat) (e:Bool):q1M Tryz.prog 149 (.sl a sz n c e)=some (.int .i64 n):=by kernel_rfl
theorem a3e (b o:Nat):q0h Tryz.prog 94 (.ptr (some ⟨b,o⟩)) 0=some (.ptr (some ⟨b,o+0⟩)):=by kernel_rfl
theorem a8a (ps:List (Nat×AV)):q2j Tryz.prog 123 ps=(q0n (fun i=>([(0,1),(1,16)]:List (Nat×Nat))[i]?) [.bool false,.int .u64 0,.int .u64 0,.int .u64 0,.int .u64 0,.int .u64 0,.int .u64 0,.int .u64 0,.int .u64 0,.int .u64 0,.int .u64 0,.int .u64 0,.int .u64 0,.int .u64 0,.int .u64 0,.int .u64 0,.int .u64 0] ps).map AV.agg:=by kernel_rfl
theorem a8x (a:AA) (k:IntKind) (i:Int):q0F Tryz.prog 121 (.ptr (some a)) (.int k i)=ixA 1 16 a i:=by kernel_rfl
theorem j7P (b o:Nat):q0h Tryz.prog 123 (.ptr (some ⟨b,o⟩)) 0=some (.ptr (some ⟨b,o+0⟩)):=by kernel_rfl
theorem a8b (ps:List (Nat×AV)):q2j Tryz.prog 142 ps=(q0n (fun i=>([(0,1),(1,1),(2,1)]:List (Nat×Nat))[i]?) [.sl none 0 0 0 true,.sl none 0 0 0 true,.int .i64 0] ps).map AV.agg:=by kernel_rfl
theorem a8c (ps:List (Nat×AV)):q2j Tryz.prog 146 ps=(q0n (fun i=>([(0,1),(1,1),(2,1)]:List (Nat×Nat))[i]?) [.sl none 0 0 0 true,.sl none 0 0 0 true,.int .i64 0] ps).map AV.agg:=by kernel_rfl
theorem a8d (ps:List (Nat×AV)):q2j Tryz.prog 151 ps=(q0n (fun i=>([(0,1),(1,1),(2,1)]:List (Nat×Nat))[i]?) [.sl none 0 0 0 true,.sl none 0 0 0 true,.int .i64 0] ps).map AV.agg:=by kernel_rfl
theorem a8y (a:AA) (sz n c:Nat) (e:Bool) (k:IntKind) (i:Int):q0F Tryz.prog 140 (.sl (some a) sz n c e) (.int k i)=if 1=sz\/e=true then ixA 1 n a i else none:=by kernel_rfl
theorem j67 (k:IntKind) (n:Int):q59 Tryz.prog 3 172 (.int k n)=some (.int .u64 (IntKind.wrap .u64 n)):=by kernel_rfl
theorem j66 (k:IntKind) (n:Int):q59 Tryz.prog 172 3 (.int k n)=some (.int .i64 (IntKind.wrap .i64 n)):=by kernel_rfl
theorem a8z (a:AA) (sz n c:Nat) (e:Bool) (k:IntKind) (i:Int):q0F Tryz.prog 149 (.sl (some a) sz n c e) (.int k i)=if 1=sz\/e=true then ixA 1 n a i else none:=by kernel_rfl
theorem j70 (b o:Nat):q0h Tryz.prog 160 (.ptr (some ⟨b,o⟩)) 0=some (.ptr (some ⟨b,o+0⟩)):=by kernel_rfl
theorem j71 (b o:Nat):q0h Tryz.prog 160 (.ptr (some ⟨b,o⟩)) 1=some (.ptr (some ⟨b,o+2⟩)):=by kernel_rfl
theorem a8J (p:AV) (m:Mem):q1p Tryz.prog 212 p m=ldN m p 4:=by kernel_rfl
theorem a8B (a:AA) (k:IntKind) (i:Int):q0F Tryz.prog 212 (.ptr (some a)) (.int k i)=ixA 1 4 a i:=by kernel_rfl
theorem a8K (p:AV) (m:Mem):q1p Tryz.prog 226 p m=ld1 m p:=by kernel_rfl
theorem a1z (k:IntKind) (n:Int):q59 Tryz.prog 26 5 (.int k n)=some (.int .u8 (IntKind.wrap .u8 n)):=by kernel_rfl
theorem a8e (k:IntKind) (n:Int):q59 Tryz.prog 5 3 (.int k n)=some (.int .i64 (IntKind.wrap .i64 n)):=by kernel_rfl
end
end Go.Proofs.YtlginbmjiecglaaGreatDoor
