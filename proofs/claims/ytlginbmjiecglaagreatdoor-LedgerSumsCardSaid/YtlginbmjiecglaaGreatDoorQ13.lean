/- Texts of one claim, put together. -/
import Derived.Test.YtlginbmjiecglaaGreatDoorQ12
namespace Go.Abs
noncomputable section
open Go
mutual
def AV.lt (N:Nat):AV->Prop
 | .ptr (some a)=>a.b<N
 | .sl (some a) ..=>a.b<N
 | .map (some r)=>r<N
 | .fn _ x y=>AV.lts N x/\AV.lts N y
 | .yld b=>b<N
 | .iface _ u=>AV.lt N u
 | .agg cs=>AV.lts N cs
 | .tup vs=>AV.lts N vs
 | _=>True
def AV.lts (N:Nat):List AV->Prop
 |[]=>True
 |a::az=>AV.lt N a/\AV.lts N az
end
mutual
theorem AV.q1Y {N M:Nat} (h:N<=M):∀{a:AV},AV.lt N a->AV.lt M a
 | .undef,_ | .bool _,_ | .int ..,_ | .str _,_ | .ptr none,_ | .sl none ..,_ | .map none,_ | .nilFn,_ | .nilIface,_=>by simp[AV.lt]
 | .ptr (some a),r=>by simp only[AV.lt]at r⊢;omega
 | .sl (some a) ..,r=>by simp only[AV.lt]at r⊢;omega
 | .map (some a),r=>by simp only[AV.lt]at r⊢;omega
 | .yld b,r=>by simp only[AV.lt]at r⊢;omega
 | .fn f x y,r=>by simp only[AV.lt]at r⊢;exact⟨AV.q2g h r.1,AV.q2g h r.2⟩
 | .iface t u,r=>by simp only[AV.lt]at r⊢;exact AV.q1Y h r
 | .agg cs,r=>by simp only[AV.lt]at r⊢;exact AV.q2g h r
 | .tup cs,r=>by simp only[AV.lt]at r⊢;exact AV.q2g h r
theorem AV.q2g {N M:Nat} (h:N<=M):∀{a:List AV},AV.lts N a->AV.lts M a
 |[],_=>by simp[AV.lts]
 |a::az,r=>by simp only[AV.lts]at r⊢;exact⟨AV.q1Y h r.1,AV.q2g h r.2⟩
end
mutual
theorem AV.z1Z:∀a:AV,∃N,AV.lt N a
 | .undef | .bool _ | .int .. | .str _ | .ptr none | .sl none .. | .map none | .nilFn | .nilIface=>⟨0,by simp[AV.lt]⟩
 | .ptr (some a)=>⟨a.b+1,by simp[AV.lt]⟩
 | .sl (some a) ..=>⟨a.b+1,by simp[AV.lt]⟩
 | .map (some r)=>⟨r+1,by simp[AV.lt]⟩
 | .yld b=>⟨b+1,by simp[AV.lt]⟩
 | .fn f x y=>by
  obtain⟨N,h⟩:=AV.q6J x;obtain⟨M,h'⟩:=AV.q6J y;exact⟨max N M,by simp only[AV.lt];exact⟨AV.q2g (Nat.le_max_left _ _) h,AV.q2g (Nat.le_max_right _ _) h'⟩⟩
 | .iface t u=>by obtain⟨N,h⟩:=AV.z1Z u;exact⟨N,by simpa only [AV.lt]using h⟩
 | .agg cs=>by obtain⟨N,h⟩:=AV.q6J cs;exact⟨N,by simpa only [AV.lt]using h⟩
 | .tup cs=>by obtain⟨N,h⟩:=AV.q6J cs;exact⟨N,by simpa only [AV.lt]using h⟩
theorem AV.q6J:∀a:List AV,∃N,AV.lts N a
 |[]=>⟨0,by simp[AV.lts]⟩
 |a::az=>by
  obtain⟨N,h⟩:=AV.z1Z a;obtain⟨M,h'⟩:=AV.q6J az;exact⟨max N M,by simp only[AV.lts];exact⟨AV.q1Y (Nat.le_max_left _ _) h,AV.q2g (Nat.le_max_right _ _) h'⟩⟩
end
mutual
theorem VR.cut {N:Nat} {p q:Phi} (h:∀b,b<N->p b=q b):∀{a:AV} {v:Value},AV.lt N a->VR p a v->VR q a v
 | .undef,_,_,_=>by simp[VR]
 | .bool _,_,_,r=>by simpa[VR]using r
 | .int ..,_,_,r=>by simpa[VR]using r
 | .str _,_,_,r=>by simpa[VR]using r
 | .ptr none,_,_,r=>by simpa[VR]using r
 | .ptr (some a),_,l,r=>by
  simp only[AV.lt]at l;simp only[VR]at r⊢;obtain⟨ci,h1,h2⟩:=r;exact⟨ci,(h _ l)▸h1,h2⟩
 | .sl none ..,_,_,r=>by simpa[VR]using r
 | .sl (some a) ..,_,l,r=>by
  simp only[AV.lt]at l;simp only[VR,SR]at r⊢;obtain⟨ci,off,cap',h1,h2⟩:=r;exact⟨ci,off,cap',(h _ l)▸h1,h2⟩
 | .map none,_,_,r=>by simpa[VR]using r
 | .map (some a),_,l,r=>by
  simp only[AV.lt]at l;simp only[VR]at r⊢;obtain⟨ci,h1,h2⟩:=r;exact⟨ci,(h _ l)▸h1,h2⟩
 | .fn f x y,_,l,r=>by
  simp only[AV.lt]at l;simp only[VR]at r⊢;obtain⟨x',y',h1,h2,h3⟩:=r;exact⟨x',y',h1,VRs.cut h l.1 h2,VRs.cut h l.2 h3⟩
 | .yld b,_,l,r=>by
  simp only[AV.lt]at l;simp only[VR]at r⊢;obtain⟨ci,h1,h2⟩:=r;exact⟨ci,(h _ l)▸h1,h2⟩
 | .nilFn,_,_,r=>by simpa[VR]using r
 | .iface t u,_,l,r=>by
  simp only[AV.lt]at l;simp only[VR]at r⊢;obtain⟨u',h1,h2⟩:=r;exact⟨u',h1,VR.cut h l h2⟩
 | .nilIface,_,_,r=>by simpa[VR]using r
 | .agg cs,_,l,r=>by
  simp only[AV.lt]at l;simp only[VR]at r⊢;obtain⟨u',h1,h2⟩:=r;exact⟨u',h1,VRs.cut h l h2⟩
 | .tup cs,_,l,r=>by
  simp only[AV.lt]at l;simp only[VR]at r⊢;obtain⟨u',h1,h2⟩:=r;exact⟨u',h1,VRs.cut h l h2⟩
theorem VRs.cut {N:Nat} {p q:Phi} (h:∀b,b<N->p b=q b):∀{a:List AV} {v:List Value},AV.lts N a->VRs p a v->VRs q a v
 |[],_,_,r=>by simpa[VRs]using r
 |a::az,_,l,r=>by
  simp only[AV.lts]at l;simp only[VRs]at r⊢;obtain⟨v,vs,h1,h2,h3⟩:=r;exact⟨v,vs,h1,VR.cut h l.1 h2,VRs.cut h l.2 h3⟩
end
mutual
theorem VR.back {p q:Phi} (h:p.le q):∀{a:AV} {v v':Value},VR p a v->VR q a v'->VR p a v'
 | .undef,_,_,_,_=>by simp[VR]
 | .bool _,_,_,_,r=>by simpa[VR]using r
 | .int ..,_,_,_,r=>by simpa[VR]using r
 | .str _,_,_,_,r=>by simpa[VR]using r
 | .ptr none,_,_,_,r=>by simpa[VR]using r
 | .ptr (some a),_,_,l,r=>by
  simp only[VR]at l r⊢;obtain⟨ci,h1,h2⟩:=l;obtain⟨ci',h3,h4⟩:=r;rw[h _ _ h1]at h3;cases h3;exact⟨ci,h1,h4⟩
 | .sl none ..,_,_,_,r=>by simpa[VR]using r
 | .sl (some a) ..,_,_,l,r=>by
  simp only[VR,SR]at l r⊢;obtain⟨ci,_,_,h1,_⟩:=l;obtain⟨ci',off,cap',h3,h4⟩:=r;rw[h _ _ h1]at h3;cases h3;exact⟨ci,off,cap',h1,h4⟩
 | .map none,_,_,_,r=>by simpa[VR]using r
 | .map (some a),_,_,l,r=>by
  simp only[VR]at l r⊢;obtain⟨ci,h1,h2⟩:=l;obtain⟨ci',h3,h4⟩:=r;rw[h _ _ h1]at h3;cases h3;exact⟨ci,h1,h4⟩
 | .fn f x y,_,_,l,r=>by
  simp only[VR]at l r⊢;obtain⟨x0,y0,_,g2,g3⟩:=l;obtain⟨x',y',h1,h2,h3⟩:=r;exact⟨x',y',h1,VRs.back h g2 h2,VRs.back h g3 h3⟩
 | .yld b,_,_,l,r=>by
  simp only[VR]at l r⊢;obtain⟨ci,h1,h2⟩:=l;obtain⟨ci',h3,h4⟩:=r;rw[h _ _ h1]at h3;cases h3;exact⟨ci,h1,h4⟩
 | .nilFn,_,_,_,r=>by simpa[VR]using r
 | .iface t u,_,_,l,r=>by
  simp only[VR]at l r⊢;obtain⟨u0,_,g2⟩:=l;obtain⟨u',h1,h2⟩:=r;exact⟨u',h1,VR.back h g2 h2⟩
 | .nilIface,_,_,_,r=>by simpa[VR]using r
 | .agg cs,_,_,l,r=>by
  simp only[VR]at l r⊢;obtain⟨u0,_,g2⟩:=l;obtain⟨u',h1,h2⟩:=r;exact⟨u',h1,VRs.back h g2 h2⟩
 | .tup cs,_,_,l,r=>by
  simp only[VR]at l r⊢;obtain⟨u0,_,g2⟩:=l;obtain⟨u',h1,h2⟩:=r;exact⟨u',h1,VRs.back h g2 h2⟩
theorem VRs.back {p q:Phi} (h:p.le q):∀{a:List AV} {v v':List Value},VRs p a v->VRs q a v'->VRs p a v'
 |[],_,_,_,r=>by simpa[VRs]using r
 |a::az,_,_,l,r=>by
  simp only[VRs]at l r⊢;obtain⟨v0,vs0,_,g2,g3⟩:=l;obtain⟨v,vs,h1,h2,h3⟩:=r;exact⟨v,vs,h1,VR.back h g2 h2,VRs.back h g3 h3⟩
end
def Blk.lt (N:Nat):Blk->Prop
 | .cells cs _=>AV.lts N cs
 | .loop l=>AV.lts N l.tmps
 | .map es=>∀e∈es,AV.lt N e.1/\AV.lt N e.2
theorem Blk.q1Y {N M:Nat} (h:N<=M) {b:Blk} (r:b.lt N):b.lt M:=by
 cases b with
 |cells cs ro=>exact AV.q2g h r
 |loop l=>exact AV.q2g (a:=l.tmps) h r
 |map es=>exact fun e he=>⟨AV.q1Y h (r e he).1,AV.q1Y h (r e he).2⟩
theorem Blk.z1Z (b:Blk):∃N,b.lt N:=by
 cases b with
 |cells cs ro=>exact AV.q6J cs
 |loop l=>exact AV.q6J l.tmps
 |map es=>
  induction es with
  |nil=>exact⟨0,fun e h=>by cases h⟩
  |cons e es ih=>
   obtain⟨N,h⟩:=ih;obtain⟨A,ha⟩:=AV.z1Z e.1;obtain⟨B,hb⟩:=AV.z1Z e.2;refine⟨max N (max A B),fun x hx=>?_⟩
   cases hx with
   |head=>exact⟨AV.q1Y (by omega) ha,AV.q1Y (by omega) hb⟩
   |tail _ hx=>exact⟨AV.q1Y (by omega) (h x hx).1,AV.q1Y (by omega) (h x hx).2⟩
theorem Mem.z1Z (m:Mem):∃N,m.next<=N/\∀b v,m.get b=some v->v.lt N:=by
 have:∀n,∃N,∀b v,b<n->m.get b=some v->v.lt N:=by
  intro n;induction n with
  |zero=>exact⟨0,fun b v h=>by omega⟩
  |succ n ih=>
   obtain⟨N,h⟩:=ih;cases e:m.get n with
   |none=>exact⟨N,fun b v hb hv=>by
     by_cases hn:b=n
     ·subst hn;rw[e]at hv;cases hv
     ·exact h b v (by omega) hv⟩
   |some x=>
    obtain⟨M,hM⟩:=x.z1Z;refine⟨max N M,fun b v hb hv=>?_⟩
    by_cases hn:b=n
    ·subst hn;rw[e]at hv;cases hv;exact Blk.q1Y (by omega) hM
    ·exact Blk.q1Y (by omega) (h b v (by omega) hv)
 obtain⟨N,h⟩:=this m.next
 exact⟨max N m.next,by omega,fun b v hv=>Blk.q1Y (by omega) (h b v (Mem.q0x hv) hv)⟩
theorem AV.j2b {N:Nat} {a:AV}:∀{l:List AV},AV.lts N l->a∈l->AV.lt N a
 |x::l,h,ha=>by
  simp only[AV.lts]at h;cases ha with
  |head=>exact h.1
  |tail _ ha=>exact AV.j2b h.2 ha
theorem ER.cut {N:Nat} {p q:Phi} (h:∀b,b<N->p b=q b):∀{l:List (AV×AV)} {es:List MapEntry},(∀e∈l,AV.lt N e.1/\AV.lt N e.2)->ER p l es->ER q l es
 |[],_,_,r=>by simpa[ER]using r
 |(k,v)::l,_,hl,r=>by
  simp only[ER]at r⊢;obtain⟨e,es,h1,h2,h3,h4⟩:=r;exact⟨e,es,h1,VR.cut h (hl _ xmc).1 h2,VR.cut h (hl _ xmc).2 h3,ER.cut h (fun e he=>hl e (List.mem_cons_of_mem _ he)) h4⟩
theorem BR.cut {P:Program} {N:Nat} {p q:Phi} (h:∀b,b<N->p b=q b) {ci:CI}:∀{b:Blk} {o:Obj},b.lt N->BR P p ci b o->BR P q ci b o
 | .cells _cs _ro,_o,l,⟨arr,el,fr,h1,h2,h3,h4⟩=>⟨arr,el,fr,h1,h2,h3,fun i a hi=>let ⟨v,x,y⟩:=h4 i a hi;⟨v,x,VR.cut h (AV.j2b l (List.mem_of_getElem? hi)) y⟩⟩
 | .loop _l,_o,l,⟨fn,vs,d,h1,h2,h3⟩=>⟨fn,vs,d,h1,VRs.cut h l h2,h3⟩
 | .map _es,_o,l,⟨ces,clock,h1,⟨x,h2,h3⟩,h4⟩=>⟨ces,clock,h1,⟨x,h2,ER.cut h (fun e he=>l e (h2.mem_iff.1 he)) h3⟩,h4⟩
def AV.flat (a:AV):Prop:=AV.lt 0 a
theorem VR.flat {p q:Phi} {a:AV} {v:Value} (h:a.flat) (r:VR p a v):VR q a v:=VR.cut (N:=0) (fun b hb=>by omega) h r
def Mem.upT (m:Mem):Nat->PT
 | 0=>.leaf
 |n+1=>(upT m n).set n (m.get n)
def Mem.up (m:Mem) (N:Nat):Mem:=⟨N,m.upT N⟩
theorem Mem.j3h (m:Mem):∀n b,(m.upT n).get b=if b<n then m.get b else none
 | 0,b=>by simp[Mem.upT,PT.q90]
 |n+1,b=>by
  simp only[Mem.upT,PT.q91,Mem.j3h m n b];by_cases h:b=n
  ·subst h;simp
  ·rw[if_neg h];by_cases h2:b<n
   ·rw[if_pos h2,if_pos (by omega)]
   ·rw[if_neg h2,if_neg (by omega)]
theorem Mem.b05 (m:Mem) {N:Nat} (hN:m.next<=N) (b:Nat):(m.up N).get b=m.get b:=by
 rw[Mem.q48];show (if b<N then (m.upT N).get b else none)=m.get b
 rw[Mem.j3h];by_cases h:b<N
 ·simp[h]
 ·rw[if_neg h,Mem.q8V (by omega)]
open Classical in
def q0y (E:Env) (f:FuncId) (args:List AV) (m:Mem):R:=
 if h:∃v:AV,v.flat/\∀m2:Mem,m.next<=m2.next->(∀b,m2.get b=m.get b)->∃m',run E (.fn f) args m2=some (v,m')/\Fr m2 m' [] then some (h.choose,m) else none
theorem z8Y {E:Env} {f:FuncId} {args:List AV} {m:Mem} {v:AV} (hv:v.flat) (h:∀m2:Mem,m.next<=m2.next->(∀b,m2.get b=m.get b)->Res m2 (run E (.fn f) args m2) v):q0y E f args m=some (v,m):=by
 have hex:∃v:AV,v.flat/\∀m2:Mem,m.next<=m2.next->(∀b,m2.get b=m.get b)->∃m',run E (.fn f) args m2=some (v,m')/\Fr m2 m' []:=⟨v,hv,h⟩
 unfold q0y;rw[dif_pos hex];obtain⟨_,h2⟩:=hex.choose_spec;obtain⟨m1,e1,_⟩:=h2 m (xnr _) (fun _=>rfl)
 obtain⟨m2,e2,_⟩:=h m (xnr _) (fun _=>rfl)
 rw[e1]at e2;cases e2;rfl
theorem z4v {E:Env} (hE:q1u E) {f:FuncId} (args:List AV) (m:Mem) (r:AV) (m':Mem) (h:q0y E f args m=some (r,m')):z8F E.P (.fn f) args m r m':=by
 unfold q0y at h;split at h
 ·rename_i hex;obtain⟨v,hv0⟩:∃v,v=hex.choose:=⟨_,rfl⟩;have hspec:=hex.choose_spec;rw[<-hv0]at hspec h;obtain⟨hflat,hrun⟩:=hspec;cases h;clear hv0;refine⟨xnr _,fun p w cargs hm hG _ hv=>?_⟩
  obtain⟨N0,hN0,hlt⟩:=m.z1Z;obtain⟨NA,hNA⟩:=AV.q6J args;obtain⟨N,hN⟩:∃N,N=max N0 NA:=⟨_,rfl⟩;have hgN:∀b,(m.up N).get b=m.get b:=fun b=>m.b05 (by omega) b
  obtain⟨m1,e1,hfr⟩:=hrun (m.up N) (by show m.next<=N;omega) hgN
  have hp:∀b,b<N->p b=(fun b=>if b<N then p b else none) b:=fun b hb=>by simp[hb]
  have hp0le:Phi.le (fun b=>if b<N then p b else none) p:=fun b ci hb=>by
   by_cases h:b<N
   ·simpa[h]using hb
   ·simp[h]at hb
  have hm2:MR E.P (fun b=>if b<N then p b else none) (m.up N) w:=by
   refine⟨fun b blk ci h1 h2=>?_,fun b ci b2 ci2 h1 h2 h3 h4=>?_,fun b ci h1=>hm.bnd b ci (hp0le _ _ h1),fun g hg=>?_⟩
   ·rw[hgN]at h1;obtain⟨o,h3,h4⟩:=hm.has b blk ci h1 (hp0le _ _ h2);exact⟨o,h3,BR.cut hp (Blk.q1Y (by omega) (hlt b blk h1)) h4⟩
   ·rw[hgN]at h1⊢;rcases hm.inj b ci b2 ci2 h1 (hp0le _ _ h2) (hp0le _ _ h3) h4 with h5|⟨h5,h6⟩
    ·exact .inl h5
    ·exact .inr ⟨by show b2<N;omega,h6⟩
   ·obtain⟨n,hn⟩:=hm.q23 g hg;have:g<GP E.P:=hg;exact⟨n,by show (if g<N then p g else none)=_;rw[if_pos (by omega)];exact hn⟩
  have hfree:q57 (fun b=>if b<N then p b else none) (m.up N).next m1.next:=fun b h1 h2=>by
   have:N<=b:=h1;show (if b<N then p b else none)=none;rw[if_neg (by omega)]
  have hF:=q2C hE (.fn f) _ _ _ _ e1;have back:∀{q:Phi} {w':World} {cv:Value},VR q r cv->Sim E.P (fun b=>if b<N then p b else none) (m.up N) w q m1 w'->VR p r cv/\Sim E.P p m w p m w':=by
   intro q w' cv h1 s;refine⟨VR.flat hflat h1,?_⟩;have hq:∀b ci,b<m.next->p b=some ci->q b=some ci:=fun b ci hb hc=>s.le b ci (by show (if b<N then p b else none)=_;rw[if_pos (by omega)];exact hc)
   exact {
    le:=fun _ _ h=>h
    out:=fun _ _=>rfl
    next:=xnr _
    rel:={
     has:=fun b blk ci h3 h4=>by
      have hb:=Mem.q0x h3;have hg1:m1.get b=some blk:=hfr.get (by rw[hgN];exact h3) (by simp);obtain⟨o,h5,h6⟩:=s.rel.has b blk ci hg1 (hq b ci hb h4);obtain⟨o0,h7,h8⟩:=hm.has b blk ci h3 h4;refine⟨o,h5,?_⟩;have h8':=BR.cut hp (Blk.q1Y (by omega) (hlt b blk h3)) h8;cases blk with
      |cells cs ro=>
       obtain⟨arr,el,fr,g1,g2,g3,g4⟩:=h6;obtain⟨arr0,el0,fr0,k1,k2,k3,k4⟩:=h8';refine⟨arr,el,fr,g1,g2,g3,fun i a hi=>?_⟩
       obtain⟨v1,x1,y1⟩:=g4 i a hi;obtain⟨v0,x0,y0⟩:=k4 i a hi;exact⟨v1,x1,(VR.back s.le y0 y1).mono hp0le⟩
      |loop l=>
       obtain⟨fn,vs,d,g1,g2,g3⟩:=h6;obtain⟨fn0,vs0,d0,k1,k2,k3⟩:=h8';exact⟨fn,vs,d,g1,(VRs.back s.le k2 g2).mono hp0le,g3⟩
      |map es=>
       obtain⟨ces,clock,g1,⟨l,g2,g3⟩,g4⟩:=h6;obtain⟨ces0,clock0,k1,⟨l0,k2,k3⟩,k4⟩:=h8';refine⟨ces,clock,g1,⟨l,g2,?_⟩,g4⟩;have known:∀e∈l,∃x y,VR (fun b=>if b<N then p b else none) e.1 x/\VR (fun b=>if b<N then p b else none) e.2 y:=by
        have:∀{l0:List (AV×AV)} {c0:List MapEntry},ER (fun b=>if b<N then p b else none) l0 c0->∀e∈l0,∃x y,VR (fun b=>if b<N then p b else none) e.1 x/\VR (fun b=>if b<N then p b else none) e.2 y:=by
         intro l0;induction l0 with
         |nil=>intro c0 _ e he;cases he
         |cons a l0 ih=>
          intro c0 hr e he;obtain⟨ka,va⟩:=a;simp only[ER]at hr;obtain⟨e1,es1,_,r2,r3,r4⟩:=hr;cases he with
          |head=>exact⟨_,_,r2,r3⟩
          |tail _ he=>exact ih r4 e he
        intro e he;exact this k3 e (k2.mem_iff.2 (g2.mem_iff.1 he))
       have step:∀{l0:List (AV×AV)} {c0:List MapEntry},(∀e∈l0,∃x y,VR (fun b=>if b<N then p b else none) e.1 x/\VR (fun b=>if b<N then p b else none) e.2 y)->ER q l0 c0->ER p l0 c0:=by
        intro l0;induction l0 with
        |nil=>intro c0 _ hr;simpa[ER]using hr
        |cons a l0 ih=>
         intro c0 hk hr;obtain⟨ka,va⟩:=a;simp only[ER]at hr⊢;obtain⟨e1,es1,r1,r2,r3,r4⟩:=hr;obtain⟨x,y,z1,z2⟩:=hk _ xmc;exact⟨e1,es1,r1,(VR.back s.le z1 r2).mono hp0le,(VR.back s.le z2 r3).mono hp0le,ih (fun e he=>hk e (List.mem_cons_of_mem _ he)) r4⟩
       exact step known g3
     inj:=hm.inj
     bnd:=fun b ci h4=>Nat.lt_of_lt_of_le (hm.bnd b ci h4) s.size
     q23:=hm.q23}
    q4b:=fun _ _ _=>rfl
    dead:=fun _ _ h=>h
    q3h:=fun c hc hn=>s.q3h c hc fun b ci h3 h4=>hn b ci (by rw[hgN]at h3;exact h3) (hp0le _ _ h4)
    fresh:=fun b ci h3 h4=>absurd h4 (by omega)
    ro:=fun b cs ci h3 h4=>by
     have hb:=Mem.q0x h3;exact⟨h3,(s.ro b cs ci (by rw[hgN];exact h3) (by show (if b<N then p b else none)=_;rw[if_pos (by omega)];exact h4)).2⟩
    size:=s.size
    os:=s.os
    output:=s.output
    tape:=s.tape}
  rcases hF.2 _ w cargs hm2 (by show GP E.P<=N;omega) hfree (VRs.cut hp (AV.q2g (by omega) hNA) hv) with ⟨fn,h1,h2,h3,h4⟩|⟨cv,w',q,h1,h2,h3⟩
  ·refine .inl ⟨fn,h1,h2,h3,h4.mono ?_⟩;rintro e w' ⟨cv,q,rfl,h5,h6⟩
   obtain⟨h7,h8⟩:=back h5 h6;exact⟨cv,p,rfl,h7,h8⟩
  ·obtain⟨h7,h8⟩:=back h2 h3;exact .inr ⟨cv,w',p,h1,h7,h8⟩
 ·cases h
def q1L (E:Env) (S:List FuncId):FuncId->Option (List AV->Mem->R):=fun f=>if f∈S then some (q0y E f) else E.H f
theorem q0Z {E:Env} (hE:q1u E) (S:List FuncId):q1u {E with H:=q1L E S} where
 mixed:=hE.mixed
 body:=hE.body
 hook:=fun f h e args m r m' hr=>by
  simp only[q1L]at e;split at e
  ·cases e;exact z4v hE args m r m' hr
  ·exact hE.hook f h e args m r m' hr
end
end Go.Abs
section
namespace Go.Abs
open Go
theorem q0n (x:Int):IntKind.wrap .u64 x=x % 18446744073709551616:=q8q x
theorem q2P {x:Int} (h:0<=x) (h2:x<18446744073709551616):(BitVec.ofInt 64 x).toNat=x.toNat:=by
 rw[BitVec.toNat_ofInt];congr 1;exact Int.emod_eq_of_lt h h2
theorem q5g {P:Program} (t:TypeId) {x:Int} (h:0<=x) (h2:x<18446744073709551616):q0S P .and t (.int .u64 x) (.int .u64 4294967295)=some (.int .u64 (x % 4294967296)):=by
 simp only[q0S,if_true,q7k];congr 2;have e:(BitVec.ofInt IntKind.u64.bits x &&& BitVec.ofInt IntKind.u64.bits 4294967295).toNat=x.toNat % 4294967296:=by
  show (BitVec.ofInt 64 x &&& BitVec.ofInt 64 4294967295).toNat=_;rw[BitVec.toNat_and,q2P h h2,q2P (by omega) (by omega)];exact Nat.and_two_pow_sub_one_eq_mod x.toNat 32
 rw[e,q0n];omega
theorem a5d {P:Program} (t:TypeId) {a b:Nat} {s:Nat} (ha:a*2 ^ s<18446744073709551616) (hb:b<2 ^ s) (hb2:b<18446744073709551616) :
  q0S P .or t (.int .u64 ((a*2 ^ s:Nat):Int)) (.int .u64 (b:Int))=some (.int .u64 ((a*2 ^ s+b:Nat):Int)):=by
 simp only[q0S,if_true,q7k];congr 2;have e0:a*2 ^ s ||| b=a*2 ^ s+b:=by
  have:=Nat.shiftLeft_add_eq_or_of_lt hb a;rw[Nat.shiftLeft_eq]at this;exact this.symm
 have e:(BitVec.ofInt IntKind.u64.bits ((a*2 ^ s:Nat):Int) ||| BitVec.ofInt IntKind.u64.bits (b:Int)).toNat=a*2 ^ s+b:=by
  show (BitVec.ofInt 64 ((a*2 ^ s:Nat):Int) ||| BitVec.ofInt 64 (b:Int)).toNat=_
  rw[BitVec.toNat_or,q2P (by omega) (by omega),q2P (by omega) (by omega),Int.toNat_natCast,Int.toNat_natCast,e0]
 have hlt:a*2 ^ s+b<18446744073709551616:=by
  rw[<-e];exact BitVec.isLt _
 rw[e,q0n];omega
theorem j9B {P:Program} (t:TypeId) (k k':IntKind) (x:Int) {y:Int} (h:0<=y):q0S P .shl t (.int k x) (.int k' y)=some (.int k (k.wrap (x*2 ^ (min y.toNat k.bits)))):=by
 simp only[q0S,shA];rw[if_neg (by omega)]
theorem q2w {P:Program} (t:TypeId) {x:Int} (h:0<=x):q0S P .shr t (.int .u64 x) (.int .u64 32)=some (.int .u64 (x / 4294967296)):=by
 rw[q6c _ _ _ _ _ (by omega)];have e:((2:Int) ^ (min (32:Int).toNat IntKind.u64.bits))=4294967296:=by rfl
 rw[e,Int.fdiv_eq_ediv_of_nonneg _ (by omega)]
theorem z4t {P:Program} (t:TypeId) {x y p:Int} (h:0<=x) (hy:0<=y) (hp:(2:Int) ^ (min y.toNat IntKind.u64.bits)=p):q0S P .shr t (.int .u64 x) (.int .u64 y)=some (.int .u64 (x / p)):=by
 rw[q6c _ _ _ _ _ hy,hp,Int.fdiv_eq_ediv_of_nonneg _ (by rw[<-hp];exact Int.le_of_lt (Int.pow_pos (by omega)))]
theorem q9r {P:Program} (t:TypeId) {x:Int} (n:Nat) (hn:n<=64):q0S P .shr t (.int .u64 x) (.int .u64 (n:Int))=some (.int .u64 (x / 2 ^ n)):=by
 rw[q6c _ _ _ _ _ (by omega)];have e:(min (n:Int).toNat IntKind.u64.bits)=n:=by
  rw[Int.toNat_natCast];exact Nat.min_eq_left hn
 rw[e,Int.fdiv_eq_ediv_of_nonneg _ (Int.le_of_lt (Int.pow_pos (by omega)))]
theorem q9q {P:Program} (t:TypeId) {x:Int} (n:Nat) (hn:n<=64):q0S P .shl t (.int .u64 x) (.int .u64 (n:Int))=some (.int .u64 ((x*2 ^ n) % 18446744073709551616)):=by
 rw[j9B _ _ _ _ (by omega),q0n];have e:(min (n:Int).toNat IntKind.u64.bits)=n:=by
  rw[Int.toNat_natCast];exact Nat.min_eq_left hn
 rw[e]
theorem j9Q {a q y:Int} (h1:q*y<=a) (h2:a<q*y+y):a / y=q:=by
 have hy:0<y:=by omega
 have e:a=(a-q*y)+q*y:=by omega
 rw[e,Int.add_mul_ediv_right _ _ (by omega),Int.ediv_eq_zero_of_lt (by omega) (by omega),Int.zero_add]
theorem z3K {a b:Int} (h0:0<=a) (h1:a<4294967296) (h2:0<=b) (h3:b<4294967296):0<=a*b/\a*b<=18446744065119617025:=by
 refine⟨Int.mul_nonneg h0 h2,?_⟩;have h4:a*b<=4294967295*b:=Int.mul_le_mul_of_nonneg_right (by omega) h2;omega
theorem q5O {un u1 y yn1 yn0 q r:Int} (hy:y=yn1*4294967296+yn0) (e:q*yn1+r=un) (hc:q*yn0<=4294967296*r+u1) (hu:un*4294967296+u1<(q+1)*y):(un*4294967296+u1) / y=q:=by
 have e1:q*y=q*yn1*4294967296+q*yn0:=by rw[hy,Int.mul_add,<-Int.mul_assoc]
 have e2:(q+1)*y=q*y+y:=by rw[Int.add_mul,Int.one_mul]
 exact j9Q (by omega) (by omega)
theorem z6t {un u1 y q:Int} (h:un*4294967296+u1<q*y):un*4294967296+u1<(q-1+1)*y:=by
 rw[Int.sub_add_cancel];exact h
theorem z1S {un u1 y q:Int} (hun:un<y) (hu1:u1<4294967296) (hq:4294967296<=q) (hy0:0<y):un*4294967296+u1<q*y:=by
 have:4294967296*y<=q*y:=Int.mul_le_mul_of_nonneg_right hq (by omega);omega
theorem z6s {un u1 y yn1 yn0 q r:Int} (hy:y=yn1*4294967296+yn0) (e:q*yn1+r=un) (hc:4294967296*r+u1<q*yn0):un*4294967296+u1<q*y:=by
 have e1:q*y=q*yn1*4294967296+q*yn0:=by rw[hy,Int.mul_add,<-Int.mul_assoc]
 omega
theorem q8X {un yn1 q r:Int} (e:q*yn1+r=un):(q-1)*yn1+(r+yn1)=un:=by
 rw[Int.sub_mul,Int.one_mul];omega
theorem z1T {un u1 y yn1 yn0 q r:Int} (hy:y=yn1*4294967296+yn0) (hy1:0<yn1) (hy0:0<=yn0) (hy2:yn0<4294967296) (hun:un<y) (hu1:0<=u1) (hq:0<=q) (e:q*yn1+r=un) (hr:4294967296<=r):q*yn0<=4294967296*r+u1:=by
 have hlt:q<4294967296:=by
  have h1:q*yn1<4294967296*yn1:=by omega
  exact Int.lt_of_mul_lt_mul_right h1 (by omega)
 have:=(z3K hq hlt hy0 hy2).2;omega
theorem z1U {un u1 y yn1 yn0:Int} (hy:y=yn1*4294967296+yn0) (hy1:2147483648<=yn1) (hy0:0<=yn0) (hy2:yn0<4294967296) (hun0:0<=un) (hun:un<y) (hu1:u1<4294967296) :
  0<=un / yn1/\un / yn1<=4294967297/\un / yn1*yn1+(un-un / yn1*yn1)=un/\0<=un-un / yn1*yn1/\un-un / yn1*yn1<yn1/\un*4294967296+u1<(un / yn1+1)*y:=by
 have h1:un / yn1*yn1+un % yn1=un:=Int.ediv_mul_add_emod un yn1;have h2:=Int.emod_nonneg un (show yn1≠0 by omega);have h3:=Int.emod_lt_of_pos un (show 0<yn1 by omega);have h4:0<=un / yn1:=Int.ediv_nonneg hun0 (by omega);refine⟨h4,?_,by omega,by omega,by omega,?_⟩
 ·refine Int.le_of_lt_add_one (Int.lt_of_mul_lt_mul_right (a:=yn1) ?_ (by omega));omega
 ·have e1:(un / yn1+1)*y=un / yn1*y+y:=by rw[Int.add_mul,Int.one_mul]
  have e2:un / yn1*y=un / yn1*yn1*4294967296+un / yn1*yn0:=by rw[show un / yn1*y=un / yn1*(yn1*4294967296+yn0) by rw[<-hy],Int.mul_add,<-Int.mul_assoc]
  have h5:0<=un / yn1*yn0:=Int.mul_nonneg h4 hy0;omega
theorem b1X {x y:Int} (hx:0<=x) (hx2:x<18446744073709551616) (hy:0<=y) (hy2:y<18446744073709551616) :
  let x0:=x % 4294967296
  let x1:=x / 4294967296
  let y0:=y % 4294967296
  let y1:=y / 4294967296
  let w0:=x0*y0
  let t:=x1*y0+w0 / 4294967296
  let w1:=t % 4294967296+x0*y1
  (0<=w0/\w0<18446744073709551616)/\(0<=x1*y0/\x1*y0<18446744073709551616)/\(0<=t/\t<18446744073709551616)/\(0<=x0*y1/\x0*y1<18446744073709551616)/\(0<=w1/\w1<18446744073709551616)/\(0<=x1*y1/\x1*y1<18446744073709551616)/\
  (0<=x1*y1+t / 4294967296/\x1*y1+t / 4294967296<18446744073709551616)/\
  x1*y1+t / 4294967296+w1 / 4294967296=x*y / 18446744073709551616:=by
 intro x0 x1 y0 y1 w0 t w1;have a0:0<=x0/\x0<4294967296:=by omega
 have a1:0<=x1/\x1<4294967296:=by omega
 have b0:0<=y0/\y0<4294967296:=by omega
 have b1:0<=y1/\y1<4294967296:=by omega
 have m00:=z3K a0.1 a0.2 b0.1 b0.2;have m10:=z3K a1.1 a1.2 b0.1 b0.2;have m01:=z3K a0.1 a0.2 b1.1 b1.2;have m11:=z3K a1.1 a1.2 b1.1 b1.2;have ex:x=x1*4294967296+x0:=by omega
 have ey:y=y1*4294967296+y0:=by omega
 have e:x*y=x1*y1*18446744073709551616+x1*y0*4294967296+x0*y1*4294967296+x0*y0:=by
  rw[ex,ey];simp only[Int.add_mul,Int.mul_add];have e1:x1*4294967296*(y1*4294967296)=x1*y1*18446744073709551616:=by
   rw[Int.mul_assoc x1,Int.mul_left_comm 4294967296 y1,<-Int.mul_assoc,<-Int.mul_assoc];omega
  have e2:x1*4294967296*y0=x1*y0*4294967296:=by rw[Int.mul_assoc,Int.mul_comm 4294967296,<-Int.mul_assoc]
  have e3:x0*(y1*4294967296)=x0*y1*4294967296:=by rw[<-Int.mul_assoc]
  rw[e1,e2,e3];omega
 have ew0:w0=x0*y0:=rfl;have et:t=x1*y0+w0 / 4294967296:=rfl;have ew1:w1=t % 4294967296+x0*y1:=rfl;generalize x0*y0=p00 at *;generalize x1*y0=p10 at *;generalize x0*y1=p01 at *;generalize x1*y1=p11 at *
 clear_value w0 t w1
 refine⟨by omega,by omega,by omega,by omega,by omega,by omega,by omega,?_⟩;rw[e];omega
end Go.Abs
namespace Go.Abs
open Go
theorem j3G {hi lo pp qq un32 un10:Int} (hpq:pp*qq=18446744073709551616) (hpp:0<pp) (hqq:0<qq) (e1:un32=hi*pp+lo / qq) (e2:un10=(lo*pp) % 18446744073709551616) :
  (hi*18446744073709551616+lo)*pp=un32*18446744073709551616+un10:=by
 have h:lo / qq=lo*pp / 18446744073709551616:=by
  rw[<-hpq,Int.mul_comm pp qq,Int.mul_ediv_mul_of_pos_left _ _ hpp]
 rw[e1,e2,h,Int.add_mul,Int.add_mul];have:hi*18446744073709551616*pp=hi*pp*18446744073709551616:=by rw[Int.mul_assoc,Int.mul_comm 18446744073709551616 pp,<-Int.mul_assoc]
 rw[this];omega
theorem j3F {un32 un10 y q1 r1 q0 r0:Int} (hy:0<y) (h1:un32*4294967296+un10 / 4294967296=q1*y+r1) (h2:r1*4294967296+un10 % 4294967296=q0*y+r0) (h3:0<=r0) (h4:r0<y) :
  (un32*18446744073709551616+un10) / y=q1*4294967296+q0/\(un32*18446744073709551616+un10) % y=r0:=by
 have e:un32*18446744073709551616+un10=r0+(q1*4294967296+q0)*y:=by
  rw[Int.add_mul];have:q1*4294967296*y=q1*y*4294967296:=by rw[Int.mul_assoc,Int.mul_comm 4294967296 y,<-Int.mul_assoc]
  rw[this];omega
 rw[e,Int.add_mul_ediv_right _ _ (by omega),Int.add_mul_emod_self_right,Int.ediv_eq_zero_of_lt h3 h4,Int.emod_eq_of_lt h3 h4];exact⟨by omega,rfl⟩
theorem j3E {n y pp:Int} (hpp:0<pp):n*pp / (y*pp)=n / y/\n*pp % (y*pp) / pp=n % y:=by
 refine⟨Int.mul_ediv_mul_of_pos_left _ _ hpp,?_⟩;have h1:n*pp % (y*pp)=n % y*pp:=by
  rw[Int.emod_def,Int.mul_ediv_mul_of_pos_left _ _ hpp,Int.emod_def,Int.sub_mul,Int.mul_right_comm]
 rw[h1,Int.mul_ediv_cancel _ (by omega)]
theorem z3H {hi lo y pp un32 un10:Int} (h:(hi*18446744073709551616+lo)*pp=un32*18446744073709551616+un10) (hlt:hi<y) (hlo:lo<18446744073709551616) (hpp:0<pp) (h0:0<=un10):un32<y*pp:=by
 have h1:(hi*18446744073709551616+lo)*pp<y*18446744073709551616*pp:=Int.mul_lt_mul_of_pos_right (by omega) hpp;have h2:y*18446744073709551616*pp=y*pp*18446744073709551616:=by rw[Int.mul_assoc,Int.mul_comm 18446744073709551616 pp,<-Int.mul_assoc]
 omega
def len8:List UInt8:=(List.range 256).map fun i=>UInt8.ofNat (if i=0 then 0 else i.log2+1)
theorem a3k:∀i:Nat,i<256->0<i->∃n:Nat,len8[i]? = some (UInt8.ofNat (n+1))/\n<8/\2 ^ n<=i/\i<2*2 ^ n:=by
 intro i hi h0;refine⟨i.log2,?_,?_,Nat.log2_self_le (by omega),?_⟩
 ·simp only[len8,List.getElem?_map,List.getElem?_range hi,xom,if_neg (show ¬i=0 by omega)]
 ·exact(Nat.log2_lt (by omega)).2 hi
 ·have:=Nat.lt_log2_self (n:=i);rw[Nat.pow_succ]at this;omega
end Go.Abs
namespace Go.Abs
def sgn (n:Int):Int:=if n<0 then -1 else if n=0 then 0 else 1
def q0J (k:Nat):Int:=10 ^ k
theorem q1Q (k:Nat):0<q0J k:=Int.pow_pos (by omega)
theorem q8o (k:Nat):q0J (k+1)=q0J k*10:=by unfold q0J;rw[Int.pow_succ]
theorem q7r (j k:Nat):q0J (j+k)=q0J j*q0J k:=by unfold q0J;rw[Int.pow_add]
theorem z0F:∀{k:Nat},k<=18->q0J k<=1000000000000000000:=by
 intro k h;have:∀k,k<=18->q0J k<=1000000000000000000:=by decide
 exact this k h
end Go.Abs
namespace Go.Abs
def q2H (n:Int):List AV:=[.int .u64 (n % 18446744073709551616),.int .u64 (n / 18446744073709551616 % 18446744073709551616),.int .u64 (n / 340282366920938463463374607431768211456 % 18446744073709551616),.int .u64 (n / 6277101735386680763835789423207666416102355444464034512896 % 18446744073709551616)]
theorem q4s {p0 p1 p2 p3 n:Int} (h0:0<=p0/\p0<18446744073709551616) (h1:0<=p1/\p1<18446744073709551616) (h2:0<=p2/\p2<18446744073709551616) (h3:0<=p3/\p3<18446744073709551616)
  (e:n=p3*6277101735386680763835789423207666416102355444464034512896+p2*340282366920938463463374607431768211456+p1*18446744073709551616+p0) :
  q2H n=[.int .u64 p0,.int .u64 p1,.int .u64 p2,.int .u64 p3]:=by
 have e0:n % 18446744073709551616=p0:=by omega
 have e1:n / 18446744073709551616 % 18446744073709551616=p1:=by omega
 have e2:n / 340282366920938463463374607431768211456 % 18446744073709551616=p2:=by omega
 have e3:n / 6277101735386680763835789423207666416102355444464034512896 % 18446744073709551616=p3:=by omega
 unfold q2H;rw[e0,e1,e2,e3]
theorem q62 {n:Int} (h0:0<=n) (h1:n<115792089237316195423570985008687907853269984665640564039457584007913129639936):∃p0 p1 p2 p3:Int,q2H n=[.int .u64 p0,.int .u64 p1,.int .u64 p2,.int .u64 p3]/\(0<=p0/\p0<18446744073709551616)/\(0<=p1/\p1<18446744073709551616)/\(0<=p2/\p2<18446744073709551616)/\(0<=p3/\p3<18446744073709551616)/\
  n=p3*6277101735386680763835789423207666416102355444464034512896+p2*340282366920938463463374607431768211456+p1*18446744073709551616+p0:=by
 refine⟨_,_,_,_,rfl,by omega,by omega,by omega,by omega,by omega⟩
theorem z7M {a b:Int} (h0:0<=a) (h1:a<18446744073709551616) (h2:0<=b) (h3:b<18446744073709551616):0<=a*b/\a*b<=340282366920938463426481119284349108225:=by
 refine⟨Int.mul_nonneg h0 h2,?_⟩;have h4:a*b<=18446744073709551615*b:=Int.mul_le_mul_of_nonneg_right (by omega) h2;omega
theorem j2c (ah al bh bl:Int):(ah*18446744073709551616+al)*(bh*18446744073709551616+bl)=ah*bh*340282366920938463463374607431768211456+(al*bh+ah*bl)*18446744073709551616+al*bl:=by
 have e1:ah*18446744073709551616*(bh*18446744073709551616)=ah*bh*340282366920938463463374607431768211456:=by
  rw[Int.mul_assoc ah,Int.mul_left_comm 18446744073709551616 bh,<-Int.mul_assoc,<-Int.mul_assoc,Int.mul_assoc (ah*bh)];rfl
 have e2:ah*18446744073709551616*bl=ah*bl*18446744073709551616:=by rw[Int.mul_assoc,Int.mul_comm 18446744073709551616,<-Int.mul_assoc]
 have e3:al*(bh*18446744073709551616)=al*bh*18446744073709551616:=by rw[<-Int.mul_assoc]
 simp only[Int.add_mul,Int.mul_add,e1,e2,e3];omega
theorem q98 (b:Nat):ixA 1 4 ⟨b,0⟩ 0=some (.ptr (some ⟨b,0⟩)):=rfl
theorem z1R (b:Nat):ixA 1 4 ⟨b,0⟩ 1=some (.ptr (some ⟨b,1⟩)):=by simp[ixA]
theorem z3F (b:Nat):ixA 1 4 ⟨b,0⟩ 2=some (.ptr (some ⟨b,2⟩)):=by simp[ixA]
theorem z3G (b:Nat):ixA 1 4 ⟨b,0⟩ 3=some (.ptr (some ⟨b,3⟩)):=by simp[ixA]
theorem j2t {d p0 p1 p2 p3 q0 q1 q2 q3 r0 r1 r2 r3:Int} (h3:p3=q3*d+r3) (h2:r3*18446744073709551616+p2=q2*d+r2) (h1:r2*18446744073709551616+p1=q1*d+r1) (h0:r1*18446744073709551616+p0=q0*d+r0) (hr:0<=r0) (hr2:r0<d) :
  (p3*6277101735386680763835789423207666416102355444464034512896+p2*340282366920938463463374607431768211456+p1*18446744073709551616+p0) / d=q3*6277101735386680763835789423207666416102355444464034512896+q2*340282366920938463463374607431768211456+q1*18446744073709551616+q0/\
  (p3*6277101735386680763835789423207666416102355444464034512896+p2*340282366920938463463374607431768211456+p1*18446744073709551616+p0) % d=r0:=by
 have e:p3*6277101735386680763835789423207666416102355444464034512896+p2*340282366920938463463374607431768211456+p1*18446744073709551616+p0=r0+(q3*6277101735386680763835789423207666416102355444464034512896+q2*340282366920938463463374607431768211456+q1*18446744073709551616+q0)*d:=by
  have m3:q3*6277101735386680763835789423207666416102355444464034512896*d=q3*d*6277101735386680763835789423207666416102355444464034512896:=Int.mul_right_comm _ _ _;have m2:q2*340282366920938463463374607431768211456*d=q2*d*340282366920938463463374607431768211456:=Int.mul_right_comm _ _ _;have m1:q1*18446744073709551616*d=q1*d*18446744073709551616:=Int.mul_right_comm _ _ _;simp only[Int.add_mul,m3,m2,m1]
  omega
 rw[e,Int.add_mul_ediv_right _ _ (by omega),Int.add_mul_emod_self_right,Int.ediv_eq_zero_of_lt hr hr2,Int.emod_eq_of_lt hr hr2];exact⟨by omega,rfl⟩
end Go.Abs
namespace Go.Abs
open Go
def rhe (n:Int) (k:Nat):Int:=if q0J k<2*(n % q0J k)\/(2*(n % q0J k)=q0J k/\n / q0J k % 2=1) then n / q0J k+1 else n / q0J k
theorem z2y {k:Nat} (h:0<k):q0J k % 2=0:=by
 obtain⟨j,rfl⟩:∃j,k=j+1:=⟨k-1,by omega⟩;rw[q8o];omega
theorem z6E (n:Int):rhe n 0=n:=by
 have e:q0J 0=1:=rfl;unfold rhe;rw[e,Int.emod_one,Int.ediv_one,if_neg (by omega)]
theorem j2I {n:Int} (h:0<=n) (k:Nat):0<=rhe n k:=by
 have h1:0<=n / q0J k:=Int.ediv_nonneg h (Int.le_of_lt (q1Q k));unfold rhe;split<;>omega
theorem j83 {n:Int} (h:0<=n) (k:Nat):rhe n k<=n+1:=by
 have h1:n / q0J k<=n:=Int.ediv_le_self _ h;unfold rhe;split<;>omega
theorem a3N {n:Int} (j k:Nat) (hj:0<j) (hk:0<k) :
  rhe n (j+k)=if q0J k / 2<n / q0J j % q0J k\/(n / q0J j % q0J k=q0J k / 2/\(0<n % q0J j\/n / q0J j / q0J k % 2=1)) then n / q0J j / q0J k+1 else n / q0J j / q0J k:=by
 have p1:=q1Q j;have p2:=q1Q k;have ev:=z2y hk;have e1:n / q0J (j+k)=n / q0J j / q0J k:=by rw[q7r,Int.ediv_ediv_of_nonneg (Int.le_of_lt p1)]
 have e2:n % q0J (j+k)=n / q0J j % q0J k*q0J j+n % q0J j:=by
  have h1:n=n / q0J (j+k)*q0J (j+k)+n % q0J (j+k):=(Int.ediv_mul_add_emod _ _).symm;have h2:n=n / q0J j*q0J j+n % q0J j:=(Int.ediv_mul_add_emod _ _).symm;have h3:n / q0J j=n / q0J j / q0J k*q0J k+n / q0J j % q0J k:=(Int.ediv_mul_add_emod _ _).symm;have h4:n / q0J j*q0J j=n / q0J j / q0J k*q0J (j+k)+n / q0J j % q0J k*q0J j:=by
   rw[q7r,show n / q0J j / q0J k*(q0J j*q0J k)=n / q0J j / q0J k*q0J k*q0J j by rw[Int.mul_comm (q0J j),Int.mul_assoc],<-Int.add_mul,<-h3]
  rw[e1]at h1;omega
 have e3:q0J (j+k)=q0J k*q0J j:=by rw[q7r,Int.mul_comm]
 unfold rhe;rw[e1,e2,e3];have r0:0<=n % q0J j:=Int.emod_nonneg _ (by omega);have r1:n % q0J j<q0J j:=Int.emod_lt_of_pos _ p1;have s0:0<=n / q0J j % q0J k:=Int.emod_nonneg _ (by omega);have s1:n / q0J j % q0J k<q0J k:=Int.emod_lt_of_pos _ p2;generalize n / q0J j % q0J k=s at *;generalize n % q0J j=r at *;generalize n / q0J j / q0J k=q at *;obtain⟨h,hh⟩:∃h,q0J k=2*h:=⟨q0J k / 2,by omega⟩
 rw[hh]at *;have e4:2*h / 2=h:=by omega
 rw[e4];have e5:2*h*q0J j=2*(h*q0J j):=Int.mul_assoc _ _ _;rw[e5];by_cases c1:h<s
 ·have:(h+1)*q0J j<=s*q0J j:=Int.mul_le_mul_of_nonneg_right (by omega) (by omega);rw[Int.add_mul,Int.one_mul]at this;rw[if_pos (.inl (by omega)),if_pos (.inl c1)]
 ·by_cases c2:s=h
  ·subst c2;by_cases c3:0<r
   ·rw[if_pos (.inl (by omega)),if_pos (.inr ⟨rfl,.inl c3⟩)]
   ·have:r=0:=by omega
    subst this;by_cases c4:q % 2=1
    ·rw[if_pos (.inr ⟨by omega,c4⟩),if_pos (.inr ⟨rfl,.inr c4⟩)]
    ·rw[if_neg (by omega),if_neg (by omega)]
  ·have:(s+1)*q0J j<=h*q0J j:=Int.mul_le_mul_of_nonneg_right (by omega) (by omega);rw[Int.add_mul,Int.one_mul]at this;rw[if_neg (by omega),if_neg (by omega)]
theorem a3M {n:Int} {k:Nat} (hk:0<k):rhe n k=if q0J k / 2<n % q0J k\/(n % q0J k=q0J k / 2/\n / q0J k % 2=1) then n / q0J k+1 else n / q0J k:=by
 have ev:=z2y hk;unfold rhe;by_cases c:q0J k / 2<n % q0J k\/(n % q0J k=q0J k / 2/\n / q0J k % 2=1)
 ·rw[if_pos c,if_pos (by omega)]
 ·rw[if_neg c,if_neg (by omega)]
theorem j3r {P:Program} (t:TypeId) {x:Int} (h:0<=x) (h2:x<18446744073709551616):q0S P .and t (.int .u64 x) (.int .u64 1)=some (.int .u64 (x % 2)):=by
 simp only[q0S,if_true,q7k];congr 2;have e:(BitVec.ofInt IntKind.u64.bits x &&& BitVec.ofInt IntKind.u64.bits 1).toNat=x.toNat % 2:=by
  show (BitVec.ofInt 64 x &&& BitVec.ofInt 64 1).toNat=_;rw[BitVec.toNat_and,q2P h h2,q2P (by omega) (by omega)];exact Nat.and_two_pow_sub_one_eq_mod x.toNat 1
 rw[e,q0n];omega
end Go.Abs
end
namespace Go.Abs
section
open Go
theorem ips {d:Do} {m:Mem}:(∀v,q0k d (.ret v) m=some (v,m))/\(∀(P:Program) (rs:List ResultVar) (vs:List AV),q0k d (.resC P rs vs) m=(q0H P rs vs m).bind fun vs=>some (q0I vs,m))/\
  (∀(e:Option AV) (K:AV->CM),q0k d (.pu e K) m=e.bind fun v=>q0k d (K v) m)/\(∀(e:Mem->Option AV) (K:AV->CM),q0k d (.rm e K) m=(e m).bind fun v=>q0k d (K v) m)/\
  (∀(e:Option (Blk×(Nat->AV))) (K:AV->CM),q0k d (.al e K) m=e.bind fun c=>q0k d (K (c.2 m.next)) (m.lay c.1))/\(∀(e:Mem->R) (K:AV->CM),q0k d (.ef e K) m=(e m).bind fun r=>q0k d (K r.1) r.2)/\
  (∀(e:Mem->Option Mem) (K:CM),q0k d (.st e K) m=(e m).bind fun m=>q0k d K m)/\(∀(f:Nat) (as2:List AV) (K:AV->CM),q0k d (.call f as2 K) m=(d.call (.fn f) as2 m).bind fun r=>q0k d (K r.1) r.2)/\
  (∀(fv:AV) (as2:List AV) (K:AV->CM),q0k d (.callv fv as2 K) m=(q3X d.call fv as2 m).bind fun r=>q0k d (K r.1) r.2)/\(∀(v:AV) (x y:CM),q0k d (.ifv v x y) m=ifV v (q0k d x m) (q0k d y m))/\
  (∀(v:AV) (x y:CM),q0k d (.cond v x y) m=q0a v (q0k d x m) (q0k d y m))/\(∀(K:Mem->CM),q0k d (.memo K) m=q0k d (K m) m)/\(∀(e:Option AV) (v:AV) (K:CM),q0k d (.chk e v K) m=if e=some v then q0k d K m else none)/\
  (∀(k:Nat) (ts:List AV),q0k d (.go k ts) m=d.gor k ts m):=
 ⟨z7E,z3D,j1P,j1Q,j1M,j1N,j1R,z3A,z1Q,z7D,z3B,z3C,z7C,j1O⟩
theorem aps:(∀(F:AV->List AV->CM) (a:AV) (l:List AV),apS F (a::l)=F a l)/\(∀(c:CM),ap0 c []=c):=⟨j3n,j9q⟩
theorem ge:(∀(α:Type) (a:α) (l:List α),(a::l)[0]? = some a)/\(∀(α:Type) (a:α) (l:List α) (i:Nat),(a::l)[i+1]? = l[i]?):=⟨fun _ _ _=>xgz,fun _ _ _ _=>xgs⟩
theorem lcs:(∀(p:AV->Bool) (a:AV) (l:List AV),(a::l).all p=(p a&&l.all p))/\(∀(p:AV->Bool),([]:List AV).all p=true)/\(∀(a:AV) (l:List AV),(a::l).length=l.length+1)/\(([]:List AV).length=0)/\
  (∀(a:AV) (l:List AV) (i:Nat),(a::l).take (i+1)=a::l.take i)/\(∀l:List AV,l.take 0=[])/\(∀(a:AV) (l:List AV) (i:Nat),(a::l).drop (i+1)=l.drop i)/\(∀l:List AV,l.drop 0=l)/\
  (∀(a:AV) (l k:List AV),a::l++k=a::(l++k))/\(∀l:List AV,[]++l=l)/\(∀l:List AV,l++[]=l)/\
  (∀b:Bool,(b&&b)=b)/\(∀b:Bool,(b&&true)=b)/\(∀n:Nat,0+n=n)/\(∀n:Nat,n+0=n):=
 ⟨fun _ _ _=>List.all_cons,fun _=>List.all_nil,fun _ _=>List.length_cons,List.length_nil,fun _ _ _=>List.take_succ_cons,fun _=>List.take_zero,fun _ _ _=>List.drop_succ_cons,fun _=>List.drop_zero,fun _ _ _=>List.cons_append,List.nil_append,List.append_nil,Bool.and_self,Bool.and_true,xnz,xna⟩
theorem lms:(∀(m:Mem) (cs:List AV) (ro:Bool) (b o:Nat),ld1 (m.lay (.cells cs ro)) (.ptr (some ⟨b,o⟩))=if b=m.next then cs[o]? else ld1 m (.ptr (some ⟨b,o⟩)))/\
  (∀(m:Mem) (cs:List AV) (ro:Bool) (b o n:Nat),ldN (m.lay (.cells cs ro)) (.ptr (some ⟨b,o⟩)) n=if b=m.next then (if o+n<=cs.length then some (.agg ((cs.drop o).take n)) else none) else ldN m (.ptr (some ⟨b,o⟩)) n)/\
  (∀(m:Mem) (cs:List AV) (b o:Nat) (v:AV) (n:Nat),stV (m.lay (.cells cs false)) (.ptr (some ⟨b,o⟩)) v n=if b=m.next then (over cs o v n).map (fun c=>m.lay (.cells c false)) else (stV m (.ptr (some ⟨b,o⟩)) v n).map (fun m'=>m'.lay (.cells cs false)))/\
  (∀(m:Mem) (v:Blk),(m.lay v).next=m.next+1)/\(∀n:Nat,(n=n+1)=False)/\(∀n:Nat,(n=n+1+1)=False)/\(∀n:Nat,(n=n+1+1+1)=False)/\(∀n:Nat,(n=n+1+1+1+1)=False)/\(∀n:Nat,(n=n+1+1+1+1+1)=False)/\
  (∀n:Nat,(n=n+1+1+1+1+1+1)=False)/\(∀n:Nat,(n=n+1+1+1+1+1+1+1)=False)/\(∀n:Nat,(n=n+1+1+1+1+1+1+1+1)=False):=
 ⟨a3j,j17,a4k,Mem.q0t,nn1,nn2,nn3,nn4,nn5,nn6,nn7,nn8⟩
theorem obs:∀{α β:Type} (a:α) (f:α->Option β),(some a).bind f=f a:=fun _ _=>rfl
theorem oms:∀{α β:Type} (a:α) (f:α->β),(some a).map f=some (f a):=fun _ _=>rfl
theorem ift:∀{α:Type} {x:Decidable True} (t e:α),(if True then t else e)=t:=fun _ _=>if_pos trivial
theorem b2O:∀{α:Type} {x:Decidable False} (t e:α),(if False then t else e)=e:=fun _ _=>if_neg id
abbrev lcl:=ai @lcs<|ai @lms<|ai @ge<|ai @ift<|ai @b2O @oms
end
end Go.Abs
namespace Go.Proofs.YtlginbmjiecglaaGreatDoor
section
open Go Go.Abs Go.Proofs.YtlginbmjiecglaaGreatDoor.T
set_option maxRecDepth 4000
theorem z8E {H:FuncId->Option (List AV->Mem->R)} (t:Tg) (xs:List AV) (m:Mem):(T.Rl H).call t xs m=run (T.EH H) t xs m:=rfl
theorem q0r {H:FuncId->Option (List AV->Mem->R)} {f:FuncId} {E:Env} (h:H f=some (q0y E f)) {args:List AV} {m:Mem} {v:AV} (hv:v.flat) (hr:∀m2:Mem,m.next<=m2.next->(∀b,m2.get b=m.get b)->Res m2 (run E (.fn f) args m2) v):run (T.EH H) (.fn f) args m=some (v,m):=(q08 h args m).trans (z8Y hv hr)
theorem b21 (p:AV) (m:Mem):q1E Tryz.prog 28 p m=ldN m p 4:=by kernel_rfl
theorem bn4 (x y:Bool):q0S Tryz.prog .neq 4 (.bool x) (.bool y)=some (.bool (!(x==y))):=by kernel_rfl
theorem a6q (b o:Nat):q0j Tryz.prog 45 (.ptr (some ⟨b,o⟩)) 1=some (.ptr (some ⟨b,o+2⟩)):=by kernel_rfl
theorem ld3 (p:AV) (m:Mem):q1E Tryz.prog 3 p m=ld1 m p:=by kernel_rfl
theorem b23 (p:AV) (m:Mem):q1E Tryz.prog 45 p m=ldN m p 3:=by kernel_rfl
theorem a6p (b o:Nat):q0j Tryz.prog 45 (.ptr (some ⟨b,o⟩)) 0=some (.ptr (some ⟨b,o+0⟩)):=by kernel_rfl
theorem b22 (p:AV) (m:Mem):q1E Tryz.prog 43 p m=ldN m p 2:=by kernel_rfl
theorem be4 (x y:Bool):q0S Tryz.prog .eql 4 (.bool x) (.bool y)=some (.bool ((x==y))):=by kernel_rfl
theorem a6l (b o:Nat):q0j Tryz.prog 28 (.ptr (some ⟨b,o⟩)) 2=some (.ptr (some ⟨b,o+2⟩)):=by kernel_rfl
theorem b2Y (p:AV) (m:Mem):q1E Tryz.prog 25 p m=ld1 m p:=by kernel_rfl
theorem b1T (a:Option AA) (sz n c:Nat) (e:Bool):q2s Tryz.prog 25 (.sl a sz n c e)=some (.int .i64 n):=by kernel_rfl
theorem a6r (b o:Nat):q0j Tryz.prog 54 (.ptr (some ⟨b,o⟩)) 0=some (.ptr (some ⟨b,o+0⟩)):=by kernel_rfl
theorem b24 (p:AV) (m:Mem):q1E Tryz.prog 54 p m=ldN m p 4:=by kernel_rfl
theorem b2Z (p:AV) (m:Mem):q1E Tryz.prog 26 p m=ld1 m p:=by kernel_rfl
theorem b2S (a:AA) (sz n c:Nat) (e:Bool) (k:IntKind) (i:Int):q0M Tryz.prog 25 (.sl (some a) sz n c e) (.int k i)=if 4=sz\/e=true then ixA 4 n a i else none:=by kernel_rfl
theorem a6j (b o:Nat):q0j Tryz.prog 28 (.ptr (some ⟨b,o⟩)) 0=some (.ptr (some ⟨b,o+0⟩)):=by kernel_rfl
theorem b2W (p:AV) (m:Mem):q1E Tryz.prog 23 p m=ld1 m p:=by kernel_rfl
theorem b25 (p:AV) (m:Mem):q1E Tryz.prog 56 p m=ldN m p 4:=by kernel_rfl
theorem b1R (a:Option AA) (sz n c:Nat) (e:Bool):q2s Tryz.prog 23 (.sl a sz n c e)=some (.int .i64 n):=by kernel_rfl
theorem b2Q (a:AA) (sz n c:Nat) (e:Bool) (k:IntKind) (i:Int):q0M Tryz.prog 23 (.sl (some a) sz n c e) (.int k i)=if 4=sz\/e=true then ixA 4 n a i else none:=by kernel_rfl
theorem b2I (a:AA):q0S Tryz.prog .eql 34 (.ptr (some a)) (.ptr none)=some (.bool false):=by kernel_rfl
theorem b2F (ps:List (Nat×AV)):q2x Tryz.prog 61 ps=(q0o (fun i=>([(0,4),(4,1)]:List (Nat×Nat))[i]?) [.sl none 0 0 0 true,.sl none 0 0 0 true,.sl none 0 0 0 true,.int .u64 0,.int .i64 0] ps).map AV.agg:=by kernel_rfl
theorem b1U (a:Option AA) (sz n c:Nat) (e:Bool):q2s Tryz.prog 58 (.sl a sz n c e)=some (.int .i64 n):=by kernel_rfl
theorem b26 (p:AV) (m:Mem):q1E Tryz.prog 65 p m=ldN m p 11:=by kernel_rfl
theorem b2T (a:AA) (sz n c:Nat) (e:Bool) (k:IntKind) (i:Int):q0M Tryz.prog 58 (.sl (some a) sz n c e) (.int k i)=if 11=sz\/e=true then ixA 11 n a i else none:=by kernel_rfl
theorem a6x (b o:Nat):q0j Tryz.prog 61 (.ptr (some ⟨b,o⟩)) 0=some (.ptr (some ⟨b,o+0⟩)):=by kernel_rfl
theorem a6w (b o:Nat):q0j Tryz.prog 56 (.ptr (some ⟨b,o⟩)) 2=some (.ptr (some ⟨b,o+2⟩)):=by kernel_rfl
theorem a6v (b o:Nat):q0j Tryz.prog 56 (.ptr (some ⟨b,o⟩)) 1=some (.ptr (some ⟨b,o+1⟩)):=by kernel_rfl
theorem a6u (b o:Nat):q0j Tryz.prog 56 (.ptr (some ⟨b,o⟩)) 0=some (.ptr (some ⟨b,o+0⟩)):=by kernel_rfl
theorem a6t (b o:Nat):q0j Tryz.prog 54 (.ptr (some ⟨b,o⟩)) 2=some (.ptr (some ⟨b,o+2⟩)):=by kernel_rfl
theorem a6s (b o:Nat):q0j Tryz.prog 54 (.ptr (some ⟨b,o⟩)) 1=some (.ptr (some ⟨b,o+1⟩)):=by kernel_rfl
theorem a6k (b o:Nat):q0j Tryz.prog 28 (.ptr (some ⟨b,o⟩)) 1=some (.ptr (some ⟨b,o+1⟩)):=by kernel_rfl
theorem a6L (b o:Nat):q0j Tryz.prog 74 (.ptr (some ⟨b,o⟩)) 3=some (.ptr (some ⟨b,o+5⟩)):=by kernel_rfl
theorem a6K (b o:Nat):q0j Tryz.prog 74 (.ptr (some ⟨b,o⟩)) 2=some (.ptr (some ⟨b,o+2⟩)):=by kernel_rfl
theorem a6J (b o:Nat):q0j Tryz.prog 74 (.ptr (some ⟨b,o⟩)) 1=some (.ptr (some ⟨b,o+1⟩)):=by kernel_rfl
theorem a6M (b o:Nat):q0j Tryz.prog 74 (.ptr (some ⟨b,o⟩)) 4=some (.ptr (some ⟨b,o+7⟩)):=by kernel_rfl
theorem a6m (b o:Nat):q0j Tryz.prog 28 (.ptr (some ⟨b,o⟩)) 3=some (.ptr (some ⟨b,o+3⟩)):=by kernel_rfl
theorem ld9 (p:AV) (m:Mem):q1E Tryz.prog 9 p m=ld1 m p:=by kernel_rfl
theorem b2X (p:AV) (m:Mem):q1E Tryz.prog 24 p m=ld1 m p:=by kernel_rfl
theorem b2B (ps:List (Nat×AV)):q2x Tryz.prog 43 ps=(q0o (fun i=>([(0,1),(1,1)]:List (Nat×Nat))[i]?) [.int .i64 0,.int .u64 0] ps).map AV.agg:=by kernel_rfl
theorem b1S (a:Option AA) (sz n c:Nat) (e:Bool):q2s Tryz.prog 24 (.sl a sz n c e)=some (.int .i64 n):=by kernel_rfl
theorem b2U (a:AA) (k:IntKind) (i:Int):q0M Tryz.prog 70 (.ptr (some a)) (.int k i)=ixA 1 4 a i:=by kernel_rfl
theorem b2R (a:AA) (sz n c:Nat) (e:Bool) (k:IntKind) (i:Int):q0M Tryz.prog 24 (.sl (some a) sz n c e) (.int k i)=if 9=sz\/e=true then ixA 9 n a i else none:=by kernel_rfl
theorem a5j (k:IntKind) (n:Int):q6R Tryz.prog 3 26 (.int k n)=some (.int .u64 (IntKind.wrap .u64 n)):=by kernel_rfl
theorem b1Q (a:Option AA) (sz n c:Nat) (e:Bool):q2s Tryz.prog 22 (.sl a sz n c e)=some (.int .i64 n):=by kernel_rfl
theorem a6O (b o:Nat):q0j Tryz.prog 77 (.ptr (some ⟨b,o⟩)) 1=some (.ptr (some ⟨b,o+1⟩)):=by kernel_rfl
theorem a6P (b o:Nat):q0j Tryz.prog 77 (.ptr (some ⟨b,o⟩)) 2=some (.ptr (some ⟨b,o+2⟩)):=by kernel_rfl
theorem a6N (b o:Nat):q0j Tryz.prog 77 (.ptr (some ⟨b,o⟩)) 0=some (.ptr (some ⟨b,o+0⟩)):=by kernel_rfl
theorem a6Q (b o:Nat):q0j Tryz.prog 77 (.ptr (some ⟨b,o⟩)) 3=some (.ptr (some ⟨b,o+3⟩)):=by kernel_rfl
theorem b28 (p:AV) (m:Mem):q1E Tryz.prog 77 p m=ldN m p 4:=by kernel_rfl
theorem b2P (a:AA) (sz n c:Nat) (e:Bool) (k:IntKind) (i:Int):q0M Tryz.prog 22 (.sl (some a) sz n c e) (.int k i)=if 4=sz\/e=true then ixA 4 n a i else none:=by kernel_rfl
theorem b2V (a:AA) (k:IntKind) (i:Int):q0M Tryz.prog 79 (.ptr (some a)) (.int k i)=ixA 1 3 a i:=by kernel_rfl
theorem a6I (b o:Nat):q0j Tryz.prog 74 (.ptr (some ⟨b,o⟩)) 0=some (.ptr (some ⟨b,o+0⟩)):=by kernel_rfl
theorem a6n (b o:Nat):q0j Tryz.prog 43 (.ptr (some ⟨b,o⟩)) 0=some (.ptr (some ⟨b,o+0⟩)):=by kernel_rfl
theorem b27 (p:AV) (m:Mem):q1E Tryz.prog 74 p m=ldN m p 9:=by kernel_rfl
theorem ld2 (p:AV) (m:Mem):q1E Tryz.prog 2 p m=ld1 m p:=by kernel_rfl
theorem a6S (b o:Nat):q0j Tryz.prog 94 (.ptr (some ⟨b,o⟩)) 1=some (.ptr (some ⟨b,o+1⟩)):=by kernel_rfl
theorem b29 (p:AV) (m:Mem):q1E Tryz.prog 90 p m=ld1 m p:=by kernel_rfl
theorem a6T (b o:Nat):q0j Tryz.prog 94 (.ptr (some ⟨b,o⟩)) 2=some (.ptr (some ⟨b,o+2⟩)):=by kernel_rfl
theorem b3a (p:AV) (m:Mem):q1E Tryz.prog 91 p m=ld1 m p:=by kernel_rfl
theorem a6U (b o:Nat):q0j Tryz.prog 94 (.ptr (some ⟨b,o⟩)) 3=some (.ptr (some ⟨b,o+3⟩)):=by kernel_rfl
theorem b3b (p:AV) (m:Mem):q1E Tryz.prog 92 p m=ld1 m p:=by kernel_rfl
theorem a6V (b o:Nat):q0j Tryz.prog 94 (.ptr (some ⟨b,o⟩)) 4=some (.ptr (some ⟨b,o+4⟩)):=by kernel_rfl
theorem b2A (ps:List (Nat×AV)):q2x Tryz.prog 28 ps=(q0o (fun i=>([(0,1),(1,1),(2,1),(3,1)]:List (Nat×Nat))[i]?) [.sl none 0 0 0 true,.sl none 0 0 0 true,.sl none 0 0 0 true,.int .u64 0] ps).map AV.agg:=by kernel_rfl
theorem b2C (ps:List (Nat×AV)):q2x Tryz.prog 45 ps=(q0o (fun i=>([(0,2),(2,1)]:List (Nat×Nat))[i]?) [.int .i64 0,.int .u64 0,.int .i64 0] ps).map AV.agg:=by kernel_rfl
theorem a6o (b o:Nat):q0j Tryz.prog 43 (.ptr (some ⟨b,o⟩)) 1=some (.ptr (some ⟨b,o+1⟩)):=by kernel_rfl
theorem a5f (k:IntKind) (n:Int):q6R Tryz.prog 26 2 (.int k n)=some (.int .i64 (IntKind.wrap .i64 n)):=by kernel_rfl
theorem a5i (k:IntKind) (n:Int):q6R Tryz.prog 2 26 (.int k n)=some (.int .u64 (IntKind.wrap .u64 n)):=by kernel_rfl
theorem a6z (b o:Nat):q0j Tryz.prog 65 (.ptr (some ⟨b,o⟩)) 0=some (.ptr (some ⟨b,o+0⟩)):=by kernel_rfl
theorem a6C (b o:Nat):q0j Tryz.prog 65 (.ptr (some ⟨b,o⟩)) 3=some (.ptr (some ⟨b,o+3⟩)):=by kernel_rfl
theorem a6A (b o:Nat):q0j Tryz.prog 65 (.ptr (some ⟨b,o⟩)) 1=some (.ptr (some ⟨b,o+1⟩)):=by kernel_rfl
theorem a6E (b o:Nat):q0j Tryz.prog 65 (.ptr (some ⟨b,o⟩)) 5=some (.ptr (some ⟨b,o+5⟩)):=by kernel_rfl
theorem a6B (b o:Nat):q0j Tryz.prog 65 (.ptr (some ⟨b,o⟩)) 2=some (.ptr (some ⟨b,o+2⟩)):=by kernel_rfl
theorem a6D (b o:Nat):q0j Tryz.prog 65 (.ptr (some ⟨b,o⟩)) 4=some (.ptr (some ⟨b,o+4⟩)):=by kernel_rfl
theorem a6F (b o:Nat):q0j Tryz.prog 65 (.ptr (some ⟨b,o⟩)) 6=some (.ptr (some ⟨b,o+8⟩)):=by kernel_rfl
theorem a6H (b o:Nat):q0j Tryz.prog 65 (.ptr (some ⟨b,o⟩)) 8=some (.ptr (some ⟨b,o+10⟩)):=by kernel_rfl
theorem ld4 (p:AV) (m:Mem):q1E Tryz.prog 4 p m=ld1 m p:=by kernel_rfl
theorem a6G (b o:Nat):q0j Tryz.prog 65 (.ptr (some ⟨b,o⟩)) 7=some (.ptr (some ⟨b,o+9⟩)):=by kernel_rfl
theorem b1L (p:AV) (m:Mem):q1E Tryz.prog 123 p m=ldN m p 17:=by kernel_rfl
theorem a0y (b o:Nat):q0j Tryz.prog 123 (.ptr (some ⟨b,o⟩)) 1=some (.ptr (some ⟨b,o+1⟩)):=by kernel_rfl
theorem b1K (p:AV) (m:Mem):q1E Tryz.prog 121 p m=ldN m p 16:=by kernel_rfl
theorem b2E (ps:List (Nat×AV)):q2x Tryz.prog 56 ps=(q0o (fun i=>([(0,1),(1,1),(2,2)]:List (Nat×Nat))[i]?) [.str [],.int .i64 0,.int .i64 0,.int .u64 0] ps).map AV.agg:=by kernel_rfl
theorem a5g (k:IntKind) (n:Int):q6R Tryz.prog 26 3 (.int k n)=some (.int .i64 (IntKind.wrap .i64 n)):=by kernel_rfl
theorem b3m (a:AA) (sz n c:Nat) (e:Bool) (lo hi:Option AV):q0s Tryz.prog 23 (.sl (some a) sz n c e) lo hi=(match hiA hi n c with|some h=>(match loA lo h with|some l=>if 4=sz\/e=true then some (.sl (some ⟨a.b,a.o+l*4⟩) 4 (h-l) (c-l) e) else none|none=>none)|none=>none):=by kernel_rfl
theorem a6y (b o:Nat):q0j Tryz.prog 61 (.ptr (some ⟨b,o⟩)) 1=some (.ptr (some ⟨b,o+4⟩)):=by kernel_rfl
theorem b2D (ps:List (Nat×AV)):q2x Tryz.prog 54 ps=(q0o (fun i=>([(0,1),(1,1),(2,2)]:List (Nat×Nat))[i]?) [.int .u64 0,.str [],.int .i64 0,.int .u64 0] ps).map AV.agg:=by kernel_rfl
theorem b2G (ps:List (Nat×AV)):q2x Tryz.prog 74 ps=(q0o (fun i=>([(0,1),(1,1),(2,3),(5,2),(7,2)]:List (Nat×Nat))[i]?) [.str [],.str [],.int .i64 0,.int .u64 0,.int .i64 0,.int .i64 0,.int .u64 0,.int .i64 0,.int .u64 0] ps).map AV.agg:=by kernel_rfl
theorem b3n (a:AA) (sz n c:Nat) (e:Bool) (lo hi:Option AV):q0s Tryz.prog 24 (.sl (some a) sz n c e) lo hi=(match hiA hi n c with|some h=>(match loA lo h with|some l=>if 9=sz\/e=true then some (.sl (some ⟨a.b,a.o+l*9⟩) 9 (h-l) (c-l) e) else none|none=>none)|none=>none):=by kernel_rfl
theorem iv9 (s:List UInt8) (k:IntKind) (n:Int):q4X Tryz.prog 9 (.str s) (.int k n)=if 0<=n then (match s[n.toNat]? with|some c=>some (.int .u8 c.toNat)|none=>none) else none:=by kernel_rfl
theorem b3c (s:List UInt8):q2s Tryz.prog 9 (.str s)=some (.int .i64 s.length):=by kernel_rfl
theorem b2H (ps:List (Nat×AV)):q2x Tryz.prog 94 ps=(q0o (fun i=>([(0,1),(1,1),(2,1),(3,1),(4,1)]:List (Nat×Nat))[i]?) [.int .i64 0,.ptr none,.ptr none,.ptr none,.int .u64 0] ps).map AV.agg:=by kernel_rfl
theorem a0z (b o:Nat):q0j Tryz.prog 142 (.ptr (some ⟨b,o⟩)) 0=some (.ptr (some ⟨b,o+0⟩)):=by kernel_rfl
theorem a0A (b o:Nat):q0j Tryz.prog 142 (.ptr (some ⟨b,o⟩)) 1=some (.ptr (some ⟨b,o+1⟩)):=by kernel_rfl
theorem a0B (b o:Nat):q0j Tryz.prog 142 (.ptr (some ⟨b,o⟩)) 2=some (.ptr (some ⟨b,o+2⟩)):=by kernel_rfl
theorem b1M (p:AV) (m:Mem):q1E Tryz.prog 140 p m=ld1 m p:=by kernel_rfl
theorem b0F (a:Option AA) (sz n c:Nat) (e:Bool):q2s Tryz.prog 140 (.sl a sz n c e)=some (.int .i64 n):=by kernel_rfl
theorem a0C (b o:Nat):q0j Tryz.prog 146 (.ptr (some ⟨b,o⟩)) 0=some (.ptr (some ⟨b,o+0⟩)):=by kernel_rfl
theorem a0D (b o:Nat):q0j Tryz.prog 146 (.ptr (some ⟨b,o⟩)) 1=some (.ptr (some ⟨b,o+1⟩)):=by kernel_rfl
theorem a0E (b o:Nat):q0j Tryz.prog 146 (.ptr (some ⟨b,o⟩)) 2=some (.ptr (some ⟨b,o+2⟩)):=by kernel_rfl
theorem a0F (b o:Nat):q0j Tryz.prog 151 (.ptr (some ⟨b,o⟩)) 0=some (.ptr (some ⟨b,o+0⟩)):=by kernel_rfl
theorem a0G (b o:Nat):q0j Tryz.prog 151 (.ptr (some ⟨b,o⟩)) 1=some (.ptr (some ⟨b,o+1⟩)):=by kernel_rfl
theorem a0H (b o:Nat):q0j Tryz.prog 151 (.ptr (some ⟨b,o⟩)) 2=some (.ptr (some ⟨b,o+2⟩)):=by kernel_rfl
theorem b1N (p:AV) (m:Mem):q1E Tryz.prog 149 p m=ld1 m p:=by kernel_rfl
theorem b0G (a:Option AA) (sz n c:Nat) (e:Bool):q2s Tryz.prog 149 (.sl a sz n c e)=some (.int .i64 n):=by kernel_rfl
theorem a6R (b o:Nat):q0j Tryz.prog 94 (.ptr (some ⟨b,o⟩)) 0=some (.ptr (some ⟨b,o+0⟩)):=by kernel_rfl
theorem b1n (ps:List (Nat×AV)):q2x Tryz.prog 123 ps=(q0o (fun i=>([(0,1),(1,16)]:List (Nat×Nat))[i]?) [.bool false,.int .u64 0,.int .u64 0,.int .u64 0,.int .u64 0,.int .u64 0,.int .u64 0,.int .u64 0,.int .u64 0,.int .u64 0,.int .u64 0,.int .u64 0,.int .u64 0,.int .u64 0,.int .u64 0,.int .u64 0,.int .u64 0] ps).map AV.agg:=by kernel_rfl
theorem b1C (a:AA) (k:IntKind) (i:Int):q0M Tryz.prog 121 (.ptr (some a)) (.int k i)=ixA 1 16 a i:=by kernel_rfl
theorem a0x (b o:Nat):q0j Tryz.prog 123 (.ptr (some ⟨b,o⟩)) 0=some (.ptr (some ⟨b,o+0⟩)):=by kernel_rfl
theorem b1o (ps:List (Nat×AV)):q2x Tryz.prog 142 ps=(q0o (fun i=>([(0,1),(1,1),(2,1)]:List (Nat×Nat))[i]?) [.sl none 0 0 0 true,.sl none 0 0 0 true,.int .i64 0] ps).map AV.agg:=by kernel_rfl
theorem b1p (ps:List (Nat×AV)):q2x Tryz.prog 146 ps=(q0o (fun i=>([(0,1),(1,1),(2,1)]:List (Nat×Nat))[i]?) [.sl none 0 0 0 true,.sl none 0 0 0 true,.int .i64 0] ps).map AV.agg:=by kernel_rfl
theorem b1q (ps:List (Nat×AV)):q2x Tryz.prog 151 ps=(q0o (fun i=>([(0,1),(1,1),(2,1)]:List (Nat×Nat))[i]?) [.sl none 0 0 0 true,.sl none 0 0 0 true,.int .i64 0] ps).map AV.agg:=by kernel_rfl
theorem b1D (a:AA) (sz n c:Nat) (e:Bool) (k:IntKind) (i:Int):q0M Tryz.prog 140 (.sl (some a) sz n c e) (.int k i)=if 1=sz\/e=true then ixA 1 n a i else none:=by kernel_rfl
theorem j9H (k:IntKind) (n:Int):q6R Tryz.prog 3 172 (.int k n)=some (.int .u64 (IntKind.wrap .u64 n)):=by kernel_rfl
theorem j9G (k:IntKind) (n:Int):q6R Tryz.prog 172 3 (.int k n)=some (.int .i64 (IntKind.wrap .i64 n)):=by kernel_rfl
theorem b1E (a:AA) (sz n c:Nat) (e:Bool) (k:IntKind) (i:Int):q0M Tryz.prog 149 (.sl (some a) sz n c e) (.int k i)=if 1=sz\/e=true then ixA 1 n a i else none:=by kernel_rfl
theorem a0I (b o:Nat):q0j Tryz.prog 160 (.ptr (some ⟨b,o⟩)) 0=some (.ptr (some ⟨b,o+0⟩)):=by kernel_rfl
theorem a0J (b o:Nat):q0j Tryz.prog 160 (.ptr (some ⟨b,o⟩)) 1=some (.ptr (some ⟨b,o+2⟩)):=by kernel_rfl
theorem b1O (p:AV) (m:Mem):q1E Tryz.prog 212 p m=ldN m p 4:=by kernel_rfl
theorem b1G (a:AA) (k:IntKind) (i:Int):q0M Tryz.prog 212 (.ptr (some a)) (.int k i)=ixA 1 4 a i:=by kernel_rfl
theorem b1P (p:AV) (m:Mem):q1E Tryz.prog 226 p m=ld1 m p:=by kernel_rfl
theorem a5h (k:IntKind) (n:Int):q6R Tryz.prog 26 5 (.int k n)=some (.int .u8 (IntKind.wrap .u8 n)):=by kernel_rfl
theorem b1r (k:IntKind) (n:Int):q6R Tryz.prog 5 3 (.int k n)=some (.int .i64 (IntKind.wrap .i64 n)):=by kernel_rfl
end
end Go.Proofs.YtlginbmjiecglaaGreatDoor
