/- Texts of one claim, put together. -/
import Derived.Test.YtkbhcgifnnhbaaaGreatDoorK0
import Derived.Laws.Sem
import Derived.Orders
namespace Go.Abs
open Go
noncomputable section
inductive Tg where
 |fn (f:FuncId)
 |yl (b:Nat)
abbrev q04:=Tg->List AV->Mem->R
def q1m (call:q04) (fv:AV) (args:List AV) (m:Mem):R:=
 match fv with
 | .fn (.func f) first cap=>call (.fn f) (first++args++cap) m
 | .yld b=>call (.yl b) args m
 | _=>none
def q4V (P:Program) (st xt:TypeId):Option (Nat×Nat):=
 match P.underlying st with
 |some (.slice e)=>match (match P.underlying xt with|some (.slice _)|some .string=>true | _=>false),P.info? e with
  |true,some i=>match i.zero with
   |some z=>if z.cells.size=i.size/\0<i.bytes then some (i.size,i.bytes) else none
   |none=>none
  | _,_=>none
 | _=>none
def q3Y (P:Program) (st xt:TypeId) (s x:AV) (m:Mem):R:=
 match P.underlying xt with
 |some (.int _)=>q19 P st s x m
 | _=>(q4V P st xt).bind fun nw=>q0H nw.1 nw.2 s x m
def q5y (P:Program) (st:TypeId):Option Nat:=
 match P.underlying st with
 |some (.slice e)=>szT P e
 | _=>none
def z6m (call:q04) (P:Program) (op:Op) (t:List AV) (m:Mem) (K:AV->Mem->R):R:=
 match op with
 | .store s a v=>(ev P t a).bind fun a=>(ev P t v).bind fun v=>(szT P s).bind fun n=>(stV m a v n).bind fun m'=>K .undef m'
 | .call {callee:=.builtin .append,args:=⟨[s,x]⟩,argTypes:=⟨[st,xt]⟩}=>
  (ev P t s).bind fun s=>(ev P t x).bind fun x=>(q3Y P st xt s x m).bind fun r=>K r.1 r.2
 | .call {callee:=.builtin .copy,args:=⟨[d,x]⟩,argTypes:=⟨st::_⟩}=>
  (q5y P st).bind fun n=>(ev P t d).bind fun d=>(ev P t x).bind fun x=>(q1p n d x m).bind fun r=>K r.1 r.2
 | .mapUpdate s x k v | .insert s x k v=>
  (ev P t x).bind fun x=>(ev P t k).bind fun k=>(ev P t v).bind fun v=>(q37 P s x k v m).bind fun m'=>K .undef m'
 | .call {callee:=.builtin .delete,args:=⟨[x,k]⟩,argTypes:=⟨s::_⟩}=>
  (ev P t x).bind fun x=>(ev P t k).bind fun k=>(q6W P s x k m).bind fun m'=>K .undef m'
 | .call {callee:=.builtin .clear,args:=⟨[x]⟩,argTypes:=⟨s::_⟩}=>
  (ev P t x).bind fun x=>(q8Q P s x m).bind fun m'=>K .undef m'
 | .call {callee:=.value f,args:=⟨xs⟩,..}=>
  (ev P t f).bind fun fv=>(evs P t xs).bind fun as=>(q1m call fv as m).bind fun r=>K r.1 r.2
 | .range s x=>(ev P t x).bind fun x=>(q9H P s x m).bind fun r=>K r.1 r.2
 | _=>none
def q3U (t:List AV) (d:Option Tmp) (v:AV):List AV:=
 match d with
 |some d=>j1I t d v
 |none=>t
def z1V (ops:List Oper) (o:Oper) (t:List AV) (yes no:R):R:=
 match o.guard with
 |none=>yes
 |some (j,want)=>match (ops[j]?).bind (·.dst) with
  |some d=>match t.getD d .undef with
   | .bool b=>if b=want then yes else no
   | .tup []=>no
   | _=>none
  |none=>none
def q35 (sk:List Tmp) (ops:List Oper) (o:Oper) (t:List AV) (yes no:List AV->R):R:=
 match o.guard with
 |none=>yes t
 |some (j,want)=>match (ops[j]?).bind (·.dst) with
  |some d=>
   if sk.contains d&&AV.beq (nth t d) (.tup []) then no t else
   match nth t d with
   | .bool true=>if want then yes (j1I t d (.bool true)) else no (j1I t d (.bool true))
   | .bool false=>if want then no (j1I t d (.bool false)) else yes (j1I t d (.bool false))
   | _=>none
  |none=>none
theorem a4F {t:List AV} {d:Nat} {v:AV} (h:t.getD d .undef=v):t.set d v=t:=by
 subst h;apply xCv;intro i;rw[xFm];split
 ·rename_i e;subst e;split
  ·rename_i h;simp[xAe,xgq h]
  ·rename_i h;rw[xAu (by omega)]
 ·rfl
theorem q9h {sk:List Tmp} {ops:List Oper} {o:Oper} {t:List AV} {yes no:List AV->R} {r:AV×Mem} (h:q35 sk ops o t yes no=some r):z1V ops o t (yes t) (no t)=some r:=by
 unfold q35 at h;unfold z1V;cases hg:o.guard with
 |none=>simp only[hg]at h⊢;exact h
 |some jw=>
  obtain⟨j,want⟩:=jw;simp only[hg,q3M,q6g]at h⊢;cases e:(ops[j]?).bind (·.dst) with
  |none=>simp only[e]at h;cases h
  |some d=>
   simp only[e]at h⊢;split at h
   ·rename_i hs;simp only[xAc]at hs;rw[AV.eq_of_beq hs.2];exact h
   ·cases hv:t.getD d .undef with
    |bool b=>
     simp only[hv]at h⊢;cases b<;>cases want<;>simp only[a4F hv]at h<;>simpa using h
    | _=>simp only[hv]at h;cases h
def q7a (sk:List Tmp) (d:Option Tmp):List Tmp:=
 match d with
 |some d=>sk.filter (· != d)
 |none=>sk
def opK (call:q04) (P:Program) (op:Op) (t:List AV) (m:Mem) (K:AV->Mem->R):R:=
 match cls P op with
 | .p=>(q5f P op t).bind fun v=>K v m
 | .r=>(q1r P op t m).bind fun v=>K v m
 | .a=>(q3h P op t).bind fun ca=>K (ca.2 m.next) (m.lay ca.1)
 | .e=>z6m call P op t m K
def Drop (N:Nat) (m m':Mem):Prop:=m'.next=m.next/\(∀b,b<N->m'.get b=m.get b)/\∀b,m'.get b=m.get b\/m'.get b=none
theorem Drop.refl (N:Nat) (m:Mem):Drop N m m:=⟨rfl,fun _ _=>rfl,fun _=>.inl rfl⟩
def q5L:List (AV×AV)->List (AV×AV)->Bool
 |[],[]=>true
 |a::as,b::bs=>AV.beq a.1 b.1&&AV.beq a.2 b.2&&q5L as bs
 | _,_=>false
theorem q9E:∀{a b:List (AV×AV)},q5L a b=true->a=b
 |[],[],_=>rfl
 |a::as,b::bs,h=>by
  simp only[q5L,xAc]at h;rw[q9E h.2,show a=b from Prod.ext (AV.eq_of_beq h.1.1) (AV.eq_of_beq h.1.2)]
 |[],_::_,h=>by simp[q5L]at h
 | _::_,[],h=>by simp[q5L]at h
def Blk.same:Blk->Blk->Bool
 | .cells a r,.cells b s=>AV.j0F a b&&r==s
 | .map a,.map b=>q5L a b
 | _,_=>false
theorem Blk.same_eq:∀{a b:Blk},Blk.same a b=true->a=b
 | .cells a r,.cells b s,h=>by
  simp only[Blk.same,xAc,beq_iff_eq]at h;rw[AV.q2M h.1,h.2]
 | .map a,.map b,h=>by rw[q9E h]
 | .cells ..,.map _,h | .cells ..,.loop _,h | .cells ..,.rmap ..,h | .cells ..,.iter ..,h
 | .map _,.cells ..,h | .map _,.loop _,h | .map _,.rmap ..,h | .map _,.iter ..,h
 | .loop _,_,h | .rmap ..,_,h | .iter ..,_,h=>by simp[Blk.same]at h
def j1c (N off:Nat) (v u:Option Blk):Option (Option Blk):=
 match v,u with
 |none,none=>some none
 |some a,some b=>if Blk.same a b then some (some a) else if Nat.ble N off then some none else none
 | _,_=>if Nat.ble N off then some none else none
theorem z0T {N off:Nat} {v u x:Option Blk} (h:j1c N off v u=some x):((x=v/\x=u)\/x=none)/\(off<N->x=v/\x=u):=by
 have hb:Nat.ble N off=true->¬off<N:=fun h=>by have:=xEb h;omega
 unfold j1c at h;split at h
 ·cases h;exact⟨.inr rfl,fun _=>⟨rfl,rfl⟩⟩
 ·split at h
  ·rename_i e;cases h;have:=Blk.same_eq e;subst this;exact⟨.inl ⟨rfl,rfl⟩,fun _=>⟨rfl,rfl⟩⟩
  ·split at h
   ·rename_i e;cases h;exact⟨.inr rfl,fun h=>absurd h (hb e)⟩
   ·cases h
 ·split at h
  ·rename_i e;cases h;exact⟨.inr rfl,fun h=>absurd h (hb e)⟩
  ·cases h
def PT.meet (N:Nat) (t:PT):Nat->Nat->PT->Option PT:=
 PT.rec (motive:=fun _=>Nat->Nat->PT->Option PT)
  (fun s off u=>PT.rec (motive:=fun _=>Nat->Nat->Option PT) (fun _ _=>some .leaf)
   (fun v _ _ ihl ihr s off=>(j1c N off none v).bind fun _=>(ihl (Nat.mul 2 s) (Nat.add off s)).bind fun _=>(ihr (Nat.mul 2 s) (Nat.add off (Nat.mul 2 s))).bind fun _=>some .leaf) u s off)
  (fun v _ _ ihl ihr s off u=>(j1c N off v u.val).bind fun v=>(ihl (Nat.mul 2 s) (Nat.add off s) u.lft).bind fun l=>(ihr (Nat.mul 2 s) (Nat.add off (Nat.mul 2 s)) u.rgt).bind fun r=>some (.node v l r)) t
theorem z5u {off s k:Nat} (h:k % 2=1):off+s+2*s*(k / 2)=off+s*k:=by
 have:k=2*(k / 2)+1:=by omega
 conv=>rhs;rw[this]
 rw[Nat.mul_add,xFf,<-xDo,xDq s 2];omega
theorem z0X {off s k:Nat} (h0:k≠0) (h:¬k % 2=1):off+2*s+2*s*(k / 2-1)=off+s*k:=by
 have:k=2*((k / 2-1)+1):=by omega
 conv=>rhs;rw[this]
 rw[<-xDo,xDq s 2,Nat.mul_add];omega
theorem PT.q9v {N:Nat}:∀(u:PT) {s off:Nat} {x:PT},PT.meet N .leaf s off u=some x->x=.leaf/\∀k,off+s*k<N->u.get k=none
 | .leaf,s,off,x,h=>by
  have:PT.meet N .leaf s off .leaf=some .leaf:=rfl;rw[this]at h;cases h;exact⟨rfl,fun _ _=>rfl⟩
 | .node v l r,s,off,x,h=>by
  have hu:PT.meet N .leaf s off (.node v l r)=(j1c N off none v).bind fun _=>(PT.meet N .leaf (2*s) (off+s) l).bind fun _=>(PT.meet N .leaf (2*s) (off+2*s) r).bind fun _=>some .leaf:=rfl
  rw[hu]at h;obtain⟨y,h1,h⟩:=be h;obtain⟨l',h2,h⟩:=be h;obtain⟨r',h3,h⟩:=be h;cases h;refine⟨rfl,fun k hk=>?_⟩
  rw[PT.q3c];split
  ·rename_i e;subst e;obtain⟨h4,h5⟩:=(z0T h1).2 (by simpa using hk);rw[<-h5,h4]
  ·rename_i h0;split
   ·rename_i e;exact(PT.q9v l h2).2 _ (by rw[z5u e];exact hk)
   ·rename_i e;exact(PT.q9v r h3).2 _ (by rw[z0X h0 e];exact hk)
theorem PT.q9w {N:Nat}:∀(t:PT) {s off:Nat} {u x:PT},PT.meet N t s off u=some x->∀k,((x.get k=t.get k/\x.get k=u.get k)\/x.get k=none)/\(off+s*k<N->x.get k=t.get k/\x.get k=u.get k)
 | .leaf,s,off,u,x,h,k=>by
  obtain⟨rfl,h1⟩:=PT.q9v u h;exact⟨.inr rfl,fun hk=>⟨rfl,(h1 k hk).symm⟩⟩
 | .node v l r,s,off,u,x,h,k=>by
  have hu:PT.meet N (.node v l r) s off u=(j1c N off v u.val).bind fun v=>(PT.meet N l (2*s) (off+s) u.lft).bind fun l=>(PT.meet N r (2*s) (off+2*s) u.rgt).bind fun r=>some (.node v l r):=rfl
  rw[hu]at h;obtain⟨y,h1,h⟩:=be h;obtain⟨l',h2,h⟩:=be h;obtain⟨r',h3,h⟩:=be h;cases h;rw[PT.q3c,PT.q3c,PT.z1R u];by_cases h0:k=0
  ·subst h0;simp only[xAd];simpa using z0T h1
  ·simp only[xAa h0];by_cases e:k % 2=1
   ·simp only[xAb e];have:=PT.q9w l h2 (k / 2);rw[z5u e]at this;exact this
   ·simp only[xAa e];have:=PT.q9w r h3 (k / 2-1);rw[z0X h0 e]at this;exact this
def a3J (N:Nat) (r s:R):R:=
 match r,s with
 |some a,some b=>if AV.beq a.1 b.1&&Nat.beq a.2.next b.2.next then (PT.meet N a.2.tab 1 0 b.2.tab).map fun t=>(a.1,⟨a.2.next,t⟩) else none
 | _,_=>none
theorem j07 {N:Nat} {r s:R} {x:AV×Mem} (h:a3J N r s=some x):∃a b,r=some (x.1,a)/\s=some (x.1,b)/\Drop N a x.2/\Drop N b x.2:=by
 unfold a3J at h;split at h
 ·rename_i a b;split at h
  ·rename_i e;simp only[xAc]at e;have e1:=AV.eq_of_beq e.1;have e2:=Nat.eq_of_beq_eq_true e.2;obtain⟨t,h1,rfl⟩:=xoe.1 h;have h2:=PT.q9w _ h1;have hk:∀k,0+1*k=k:=fun k=>by omega
   refine⟨a.2,b.2,rfl,?_,⟨rfl,fun k hb=>?_,fun k=>?_⟩,⟨e2,fun k hb=>?_,fun k=>?_⟩⟩
   ·rw[e1]
   ·rw[Mem.q2i,Mem.q2i];split
    ·exact((h2 k).2 (by rw[hk];exact hb)).1
    ·rfl
   ·rw[Mem.q2i,Mem.q2i];split
    ·rcases (h2 k).1 with e|e
     ·exact .inl e.1
     ·exact .inr e
    ·exact .inr rfl
   ·rw[Mem.q2i,Mem.q2i];simp only[e2];split
    ·exact((h2 k).2 (by rw[hk];exact hb)).2
    ·rfl
   ·rw[Mem.q2i,Mem.q2i];simp only[e2];split
    ·rcases (h2 k).1 with e|e
     ·exact .inl e.2
     ·exact .inr e
    ·exact .inr rfl
  ·cases h
 ·cases h
theorem Drop.trans {N:Nat} {a b c:Mem} (h:Drop N a b) (g:Drop N b c):Drop N a c:=
 ⟨g.1.trans h.1,fun k hk=>(g.2.1 k hk).trans (h.2.1 k hk),fun k=>by
  rcases g.2.2 k with e|e
  ·rw[e];exact h.2.2 k
  ·exact .inr e⟩
def j9l (N:Nat) (l:List R):R:=List.rec none (fun r rs ih=>match rs with | []=>r | _::_=>a3J N r ih) l
theorem z0O {N:Nat}:∀{l:List R} {x:AV×Mem},j9l N l=some x->∀r∈l,∃a,r=some (x.1,a)/\Drop N a x.2
 |[],_,_,r,hr=>by cases hr
 |[r0],x,h,r,hr=>by
  obtain rfl:r=r0:=by simpa using hr
  have:j9l N [r]=r:=rfl;rw[this]at h;exact⟨x.2,h,.refl _ _⟩
 |r0::r1::rs,x,h,r,hr=>by
  have:j9l N (r0::r1::rs)=a3J N r0 (j9l N (r1::rs)):=rfl;rw[this]at h;obtain⟨a,b,h1,h2,h3,h4⟩:=j07 h;rcases xmk0.1 hr with rfl|hr
  ·exact⟨a,h1,h3⟩
  ·obtain⟨c,g1,g2⟩:=z0O h2 r hr;exact⟨c,g1,g2.trans h4⟩
def q7x (N n:Nat) (f:Nat->R):R:=j9l N ((List.range n).map f)
theorem q6e {N n:Nat} {f g:Nat->R} (h:∀i,i<n->f i=g i):q7x N n f=q7x N n g:=by
 unfold q7x;congr 1;exact List.map_congr_left fun i hi=>h i (xDe.1 hi)
theorem q5J {N n:Nat} {f:Nat->R} {r:AV×Mem} (h:q7x N n f=some r):∀i,i<n->∃mi,f i=some (r.1,mi)/\Drop N mi r.2:=
 fun i hi=>z0O h (f i) (xBr.2 ⟨i,xDe.2 hi,rfl⟩)
def nextR (x:AV) (m:Mem) (K:AV->Mem->R):R:=
 match x with
 | .ptr (some a)=>match a.o,m.get a.b with
  | 0,some (.iter b left _)=>match m.get b with
   |some (.rmap es c)=>if c=a.b then
     match left with
     |[]=>K (.tup [.bool false]) ((m.put a.b none).put b (some (.map es)))
     |e::l=>q7x m.next (l.length+1) fun i=>K (.tup [.bool true,((e::l).getD i e).1,((e::l).getD i e).2]) (m.put a.b (some (.iter b ((e::l).eraseIdx i) (some ((e::l).getD i e)))))
    else none
   | _=>none
  | _,_=>none
 | _=>none
def q9z:List Oper->Option (Operand×Option Tmp×List Oper)
 |o::os=>match o.op,o.guard with
  | .next it false,none=>some (it,o.dst,os)
  | _,_=>none
 |[]=>none
def z5o (call:q04) (P:Program) (all:List Oper):List Oper->List Tmp->List AV->Mem->(List AV->Mem->R)->R
 |[],_,t,m,K=>K t m
 |o::os,sk,t,m,K=>
  q35 sk all o t
   (fun t=>opK call P o.op t m fun v m'=>z5o call P all os (q7a sk o.dst) (q3U t o.dst v) m' K)
   (fun t=>z5o call P all os (o.dst.toList++sk) (q3U t o.dst (.tup [])) m K)
structure Seen where
 rs:List (Nat×(Mem->Option AV)×AV)
 es:List (Nat×Mem)
def z6C (f:Mem->Option AV) (v:AV) (c:List Nat):List (Nat×Mem)->R->R
 |[],K=>K
 |(j,m)::es,K=>if j∈c then (if f m=some v then z6C f v c es K else none) else z6C f v c es K
def z8M (m:Mem) (c:List Nat):List (Nat×(Mem->Option AV)×AV)->R->R
 |[],K=>K
 |(j,f,v)::rs,K=>if j∈c then (if f m=some v then z8M m c rs K else none) else z8M m c rs K
def q2r (call:q04) (P:Program) (all:List Oper):List (List Nat)->List Oper->List Tmp->Nat->Seen->List AV->Mem->(List AV->Mem->R)->R
 |c::cs,o::os,sk,i,h,t,m,K=>
  q35 sk all o t
   (fun t=>match cls P o.op with
    | .p=>(q5f P o.op t).bind fun v=>q2r call P all cs os (q7a sk o.dst) (i+1) h (q3U t o.dst v) m K
    | .r=>(q1r P o.op t m).bind fun v=>
      z6C (q1r P o.op t) v c h.es (q2r call P all cs os (q7a sk o.dst) (i+1) ⟨(i,q1r P o.op t,v)::h.rs,h.es⟩ (q3U t o.dst v) m K)
    | .a=>(q3h P o.op t).bind fun ca=>q2r call P all cs os (q7a sk o.dst) (i+1) h (q3U t o.dst (ca.2 m.next)) (m.lay ca.1) K
    | .e=>z6m call P o.op t m fun v m'=>
      z8M m' c h.rs (q2r call P all cs os (q7a sk o.dst) (i+1) ⟨h.rs,(i,m)::h.es⟩ (q3U t o.dst v) m' K))
   (fun t=>q2r call P all cs os (o.dst.toList++sk) (i+1) h (q3U t o.dst (.tup [])) m K)
 | _,[],_,_,_,t,m,K=>K t m
 |[],_::_,_,_,_,_,_,_=>none
inductive AI where
 |code (c:AC)
 |inBlock (id:Nat)
 |inLoop (c:AC)
 |inScope (c:AC)
 |beginRound
def q4g (id:Nat):List AI->Option (List AI)
 | .inBlock id'::k=>if id'=id then some k else q4g id k
 | _::k=>q4g id k
 |[]=>none
def mask:List Bool->List AV->List AV
 | _,[]=>[]
 |true::bs,v::vs=>v::mask bs vs
 |false::bs,_::vs=>.undef::mask bs vs
 |[],_::vs=>.undef::mask [] vs
def q0b (v:AV) (x y:R):R:=
 match v with
 | .bool true=>x
 | .bool false=>y
 | _=>none
def q0P (P:Program):List ResultVar->List AV->Mem->Option (List AV)
 |[],_,_=>some []
 | .tmp i::rs,t,m=>match q0P P rs t m with
  |some vs=>some (nth t i::vs)
  |none=>none
 | .cell a ty::rs,t,m=>match q1H P ty (nth t a) m,q0P P rs t m with
  |some v,some vs=>some (v::vs)
  | _,_=>none
def q0T:List AV->AV
 |[v]=>v
 |[]=>.undef
 |vs=>.tup vs
structure Env where
 P:Program
 B:FuncId->Option (List ResultVar×Nat×AC)
 H:FuncId->Option (List AV->Mem->R)
inductive Md where
 |fn (rs:List ResultVar)
 |rd (b:Nat)
 |df
def fin (P:Program) (md:Md) (j:Option Jmp) (t:List AV) (m:Mem):R:=
 match md with
 | .fn rs=>match j with
  |some (.exit _)=>none
  | _=>(q0P P rs t m).bind fun vs=>some (q0T vs,m)
 | .rd b=>match m.get b with
  |some (.loop l)=>some (.bool j.isNone,m.put b (some (.loop {l with state:=if j.isNone then .ready else .done,pending:=j})))
  | _=>none
 | .df=>match j with
  |some (.exit _)=>none
  | _=>some (.tup t,m)
def z8K (md:Md) (m:Mem):Option Mem:=
 match md with
 | .fn _=>none
 | .rd b=>match m.get b with
  |some (.loop l)=>if l.state=.ready then some (m.put b (some (.loop {l with state:=.busy}))) else none
  | _=>none
 | .df=>none
def around (md:Md) (m:Mem):Bool:=
 match md with
 | .fn _=>true
 | .rd b=>match m.get b with
  |some (.loop _)=>true
  | _=>false
 | .df=>false
def q3p (n:Nat) (m:Mem) (go:Option Jmp->Mem->R):R:=
 match m.get n with
 |some (.loop l)=>if l.state=.busy then none else go l.pending (m.put n none)
 | _=>none
def pend (j:Option Jmp) (k:List AI):List AI:=
 match j with
 |none=>k
 |some j=>.code j.code::k
def q2E (call:q04) (md:Md) (fv:AV) (l:q91) (m:Mem) (go:Option Jmp->Mem->R):R:=
 match fv with
 | .fn (.func f) first cap=>if around md m then (call (.fn f) (first++[.yld m.next]++cap) (m.lay (.loop l))).bind fun r=>q3p m.next r.2 go else none
 | _=>none
def q2L (E:Env) (call:q04) (md:Md) (k:List AI) (t:List AV) (m:Mem) (κ:List AI->List AV->Mem->R):R:=
 match k with
 |[]=>fin E.P md none t m
 | .inBlock _::k=>κ k t m
 | .inScope _::k=>κ k t m
 | .beginRound::k=>(z8K md m).bind fun m=>κ k t m
 | .inLoop c::k=>κ (.code c::.inLoop c::k) t m
 | .code c::k=>
  match c with
  | .skip=>κ k t m
  | .region _ ops draw chk _=>if draw then q2r call E.P ops chk ops [] 0 ⟨[],[]⟩ t m (fun t m=>κ k t m) else
   match q9z ops with
   |some (it,d,os)=>(ev E.P t it).bind fun x=>nextR x m fun v m=>z5o call E.P ops os [] (q3U t d v) m (fun t m=>κ k t m)
   |none=>z5o call E.P ops ops [] t m (fun t m=>κ k t m)
  | .seq a b=>κ (.code a::.code b::k) t m
  | .cond c x y=>(ev E.P t c).bind fun v=>q0b v (κ (.code x::k) t m) (κ (.code y::k) t m)
  | .block id b=>κ (.code b::.inBlock id::k) t m
  | .loop b=>κ (.code b::.inLoop b::k) t m
  | .scope b=>κ (.code b::.inScope b::k) t m
  | .rangeFunc f ps a b=>(ev E.P t f).bind fun fv=>q2E call md fv ⟨.ready,none,t,ps,a,b⟩ m fun j m=>κ (pend j k) t m
  | .exit id=>match q4g id k with
   |some k'=>κ k' t m
   |none=>fin E.P md (some (.exit id)) t m
  | .ret=>fin E.P md (some .ret) t m
  | .pt live c=>κ (.code c::k) (mask live t) m
  | .other c=>match c with
   | .label _=>κ k t m
   | _=>none
def goF (E:Env) (call:q04) (md:Md):Nat->List AI->List AV->Mem->R
 | 0,_,_,_=>none
 |n+1,k,t,m=>q2L E call md k t m (goF E call md n)
def a8w (ps:List Tmp) (args:List AV) (t:List AV):List AV:=(ps.zip args).foldl (fun t pa=>t.set pa.1 pa.2) t
def q4O (m:Mem) (b:Nat) (args:List AV) (go:List AI->List AV->R):R:=
 match m.get b with
 |some (.loop l)=>if args.length=l.params.length then go [.code l.assign,.beginRound,.code l.body] (a8w l.params args l.tmps) else none
 | _=>none
def q3v (E:Env):Nat->q04
 | 0,_,_,_=>none
 |n+1,tg,args,m=>
  match tg with
  | .fn f=>match E.H f with
   |some h=>h args m
   |none=>match E.B f with
    |some (rs,nt,c)=>goF E (q3v E n) (.fn rs) n [.code c] (args++List.replicate (nt-args.length) .undef) m
    |none=>none
  | .yl b=>q4O m b args fun k t=>goF E (q3v E n) (.rd b) n k t m
def goC (E:Env) (call:q04) (md:Md) (κ:List AI->List AV->Mem->R):Nat->List AI->List AV->Mem->R
 | 0,k,t,m=>κ k t m
 |n+1,k,t,m=>
  match k with
  | .code (.pt live c)::k=>κ (.code c::k) (mask live t) m
  | .code (.rangeFunc f ps a b)::k=>(ev E.P t f).bind fun fv=>q2E call md fv ⟨.ready,none,t,ps,a,b⟩ m fun j m=>κ (pend j k) t m
  |k=>q2L E call md k t m (goC E call md κ n)
def Le {α:Type} (f g:Option α):Prop:=∀r,f=some r->g=some r
theorem Le.refl {α:Type} (f:Option α):Le f f:=fun _ h=>h
theorem Le.trans {α:Type} {f g h:Option α} (a:Le f g) (b:Le g h):Le f h:=fun r e=>b r (a r e)
theorem Le.bind {α β:Type} {f g:Option α} {F G:α->Option β} (h:Le f g) (hF:∀x,Le (F x) (G x)):Le (f.bind F) (g.bind G):=by
 intro r e;cases hf:f with
 |none=>simp[hf]at e
 |some x=>rw[h x hf];rw[hf]at e;exact hF x r e
theorem Le.none {α:Type} (g:Option α):Le none g:=fun _ h=>by simp at h
def Lim {α:Type} (f:Nat->Option α) (g:Option α):Prop:=(∀n,Le (f n) g)/\∀r,g=some r->∃N,∀n,N<=n->f n=some r
theorem Lim.const {α:Type} (g:Option α):Lim (fun _=>g) g:=⟨fun _=>.refl g,fun _ h=>⟨0,fun _ _=>h⟩⟩
theorem Lim.bind {α β:Type} {f:Nat->Option α} {g:Option α} {F:Nat->α->Option β} {G:α->Option β} (h:Lim f g) (hF:∀x,Lim (fun n=>F n x) (G x)) :
  Lim (fun n=>(f n).bind (F n)) (g.bind G):=by
 refine⟨fun n=>(h.1 n).bind fun x=>(hF x).1 n,?_⟩
 intro r e;cases hg:g with
 |none=>simp[hg]at e
 |some x=>
  rw[hg]at e;obtain⟨N,hN⟩:=h.2 x hg;obtain⟨M,hM⟩:=(hF x).2 r e;refine⟨max N M,fun n hn=>?_⟩
  show (f n).bind (F n)=some r;rw[hN n (by omega)];exact hM n (by omega)
section
variable {E:Env} {P:Program}
theorem Lim.q1m {call:Nat->q04} {c:q04} (h:∀f a m,Lim (fun n=>call n f a m) (c f a m)) (fv:AV) (args:List AV) (m:Mem) :
  Lim (fun n=>Abs.q1m (call n) fv args m) (Abs.q1m c fv args m):=by
 unfold Abs.q1m;split
 ·exact h _ _ _
 ·exact h _ _ _
 ·exact .const _
theorem Lim.z6m {call:Nat->q04} {c:q04} (h:∀f a m,Lim (fun n=>call n f a m) (c f a m)) (op:Op) (t:List AV) (m:Mem)
  {K:Nat->AV->Mem->R} {K':AV->Mem->R} (hK:∀v m,Lim (fun n=>K n v m) (K' v m)) :
  Lim (fun n=>Abs.z6m (call n) P op t m (K n)) (Abs.z6m c P op t m K'):=by
 unfold Abs.z6m;split
 ·exact .bind (.const _) fun _=>.bind (.const _) fun _=>.bind (.const _) fun _=>.bind (.const _) fun _=>hK _ _
 ·exact .bind (.const _) fun _=>.bind (.const _) fun _=>.bind (.const _) fun _=>hK _ _
 ·exact .bind (.const _) fun _=>.bind (.const _) fun _=>.bind (.const _) fun _=>.bind (.const _) fun _=>hK _ _
 ·exact .bind (.const _) fun _=>.bind (.const _) fun _=>.bind (.const _) fun _=>.bind (.const _) fun _=>hK _ _
 ·exact .bind (.const _) fun _=>.bind (.const _) fun _=>.bind (.const _) fun _=>.bind (.const _) fun _=>hK _ _
 ·exact .bind (.const _) fun _=>.bind (.const _) fun _=>.bind (.const _) fun _=>hK _ _
 ·exact .bind (.const _) fun _=>.bind (.const _) fun _=>hK _ _
 ·exact .bind (.const _) fun _=>.bind (.const _) fun _=>.bind (.q1m h _ _ _) fun _=>hK _ _
 ·exact .bind (.const _) fun _=>.bind (.const _) fun _=>hK _ _
 ·exact .const _
theorem Lim.all {N:Nat} {f:Nat->Nat->R} {g:Nat->R} (h:∀i,Lim (fun n=>f n i) (g i)) (hg:∀i,i<N->∃r,g i=some r):∃B,∀n,B<=n->∀i,i<N->f n i=g i:=by
 have:∀j,j<=N->∃B,∀n,B<=n->∀i,i<j->f n i=g i:=by
  intro j;induction j with
  |zero=>intro _;exact⟨0,fun _ _ i hi=>by omega⟩
  |succ j ih=>
   intro hj;obtain⟨B,hB⟩:=ih (by omega);obtain⟨r,hr⟩:=hg j (by omega);obtain⟨C,hC⟩:=(h j).2 r hr;refine⟨max B C,fun n hn i hi=>?_⟩
   by_cases e:i=j
   ·subst e;rw[hr];exact hC n (by omega)
   ·exact hB n (by omega) i (by omega)
 exact this N (xnr _)
theorem Lim.q7x {M N:Nat} {f:Nat->Nat->R} {g:Nat->R} (h:∀i,Lim (fun n=>f n i) (g i)):Lim (fun n=>Abs.q7x M N (f n)) (Abs.q7x M N g):=by
 refine⟨fun n r hr=>?_,fun r hr=>?_⟩
 ·rw[<-hr];refine q6e fun i hi=>?_
  obtain⟨mi,h1,_⟩:=q5J hr i hi;rw[h1];exact(h i).1 n _ h1
 ·obtain⟨B,hB⟩:=Lim.all (N:=N) h fun i hi=>by
   obtain⟨mi,h1,_⟩:=q5J hr i hi;exact⟨_,h1⟩
  exact⟨B,fun n hn=>by rw[<-hr];exact q6e (hB n hn)⟩
theorem Lim.nextR (x:AV) (m:Mem) {K:Nat->AV->Mem->R} {K':AV->Mem->R} (hK:∀v m,Lim (fun n=>K n v m) (K' v m)):Lim (fun n=>Abs.nextR x m (K n)) (Abs.nextR x m K'):=by
 unfold Abs.nextR;split
 ·split
  ·split
   ·split
    ·split
     ·exact hK _ _
     ·exact .q7x fun i=>hK _ _
    ·exact .const _
   ·exact .const _
  ·exact .const _
 ·exact .const _
theorem Lim.q35 (sk:List Tmp) (ops:List Oper) (o:Oper) (t:List AV) {y n:Nat->List AV->R} {y' n':List AV->R} (hy:∀t,Lim (y · t) (y' t)) (hn:∀t,Lim (n · t) (n' t)) :
  Lim (fun i=>Abs.q35 sk ops o t (y i) (n i)) (Abs.q35 sk ops o t y' n'):=by
 unfold Abs.q35;split
 ·exact hy _
 ·split
  ·split
   ·exact hn _
   ·split
    ·split
     ·exact hy _
     ·exact hn _
    ·split
     ·exact hn _
     ·exact hy _
    ·exact .const _
  ·exact .const _
theorem Lim.opK {call:Nat->q04} {c:q04} (h:∀f a m,Lim (fun n=>call n f a m) (c f a m)) (op:Op) (t:List AV) (m:Mem)
  {K:Nat->AV->Mem->R} {K':AV->Mem->R} (hK:∀v m,Lim (fun n=>K n v m) (K' v m)) :
  Lim (fun n=>Abs.opK (call n) P op t m (K n)) (Abs.opK c P op t m K'):=by
 unfold Abs.opK;split
 ·exact .bind (.const _) fun _=>hK _ _
 ·exact .bind (.const _) fun _=>hK _ _
 ·exact .bind (.const _) fun _=>hK _ _
 ·exact .z6m h _ _ _ hK
theorem Lim.z5o {call:Nat->q04} {c:q04} (h:∀f a m,Lim (fun n=>call n f a m) (c f a m)) (all:List Oper)
  {K:Nat->List AV->Mem->R} {K':List AV->Mem->R} (hK:∀v m,Lim (fun n=>K n v m) (K' v m)):∀(ops:List Oper) (sk:List Tmp) (t:List AV) (m:Mem),
  Lim (fun n=>Abs.z5o (call n) P all ops sk t m (K n)) (Abs.z5o c P all ops sk t m K')
 |[],_,_,_=>hK _ _
 |o::os,sk,t,m=>by
  simp only[Abs.z5o];exact .q35 _ _ _ _ (fun _=>.opK h _ _ _ fun _ _=>Lim.z5o h all hK os _ _ _) (fun _=>Lim.z5o h all hK os _ _ _)
theorem Lim.z6C (f:Mem->Option AV) (v:AV) (c:List Nat) {K:Nat->R} {K':R} (hK:Lim K K'):∀es,Lim (fun n=>Abs.z6C f v c es (K n)) (Abs.z6C f v c es K')
 |[]=>hK
 |(j,m)::es=>by
  simp only[Abs.z6C];split
  ·split
   ·exact Lim.z6C f v c hK es
   ·exact .const _
  ·exact Lim.z6C f v c hK es
theorem Lim.z8M (m:Mem) (c:List Nat) {K:Nat->R} {K':R} (hK:Lim K K'):∀rs,Lim (fun n=>Abs.z8M m c rs (K n)) (Abs.z8M m c rs K')
 |[]=>hK
 |(j,f,v)::rs=>by
  simp only[Abs.z8M];split
  ·split
   ·exact Lim.z8M m c hK rs
   ·exact .const _
  ·exact Lim.z8M m c hK rs
theorem Lim.q2r {call:Nat->q04} {c:q04} (h:∀f a m,Lim (fun n=>call n f a m) (c f a m)) (all:List Oper)
  {K:Nat->List AV->Mem->R} {K':List AV->Mem->R} (hK:∀v m,Lim (fun n=>K n v m) (K' v m)):∀(ops:List Oper) (cs:List (List Nat)) (sk:List Tmp) (i:Nat) (s:Seen) (t:List AV) (m:Mem),
  Lim (fun n=>Abs.q2r (call n) P all cs ops sk i s t m (K n)) (Abs.q2r c P all cs ops sk i s t m K')
 |[],cs,_,_,_,_,_=>by cases cs<;>(simp only[Abs.q2r];exact hK _ _)
 |o::os,[],_,_,_,_,_=>by simp only[Abs.q2r];exact .const _
 |o::os,c::cs,sk,i,s,t,m=>by
  simp only[Abs.q2r];refine .q35 _ _ _ _ (fun t=>?_) (fun _=>Lim.q2r h all hK os cs _ _ _ _ _)
  split
  ·exact .bind (.const _) fun _=>Lim.q2r h all hK os cs _ _ _ _ _
  ·exact .bind (.const _) fun _=>.z6C _ _ _ (Lim.q2r h all hK os cs _ _ _ _ _) _
  ·exact .bind (.const _) fun _=>Lim.q2r h all hK os cs _ _ _ _ _
  ·exact .z6m h _ _ _ fun _ _=>.z8M _ _ (Lim.q2r h all hK os cs _ _ _ _ _) _
theorem Lim.q3p (b:Nat) (m:Mem) {go:Nat->Option Jmp->Mem->R} {go':Option Jmp->Mem->R} (hg:∀j m,Lim (fun n=>go n j m) (go' j m)):Lim (fun n=>Abs.q3p b m (go n)) (Abs.q3p b m go'):=by
 unfold Abs.q3p;split
 ·split
  ·exact .const _
  ·exact hg _ _
 ·exact .const _
theorem Lim.q2E {call:Nat->q04} {c:q04} (h:∀f a m,Lim (fun n=>call n f a m) (c f a m)) (md:Md) (fv:AV) (l:q91) (m:Mem) {go:Nat->Option Jmp->Mem->R} {go':Option Jmp->Mem->R} (hg:∀j m,Lim (fun n=>go n j m) (go' j m)) :
  Lim (fun n=>Abs.q2E (call n) md fv l m (go n)) (Abs.q2E c md fv l m go'):=by
 unfold Abs.q2E;split
 ·split
  ·exact .bind (h _ _ _) fun _=>.q3p _ _ hg
  ·exact .const _
 ·exact .const _
theorem Lim.q4O {m:Mem} {b:Nat} {args:List AV} {go:Nat->List AI->List AV->R} {go':List AI->List AV->R} (hg:∀k t,Lim (fun n=>go n k t) (go' k t)):Lim (fun n=>Abs.q4O m b args (go n)) (Abs.q4O m b args go'):=by
 unfold Abs.q4O;split
 ·split
  ·exact hg _ _
  ·exact .const _
 ·exact .const _
theorem Lim.q2L {call:Nat->q04} {c:q04} (h:∀f a m,Lim (fun n=>call n f a m) (c f a m)) (md:Md) (k:List AI) (t:List AV) (m:Mem)
  {κ:Nat->List AI->List AV->Mem->R} {κ':List AI->List AV->Mem->R} (hκ:∀k t m,Lim (fun n=>κ n k t m) (κ' k t m)) :
  Lim (fun n=>Abs.q2L E (call n) md k t m (κ n)) (Abs.q2L E c md k t m κ'):=by
 unfold Abs.q2L;split
 ·exact .const _
 ·exact hκ _ _ _
 ·exact hκ _ _ _
 ·exact .bind (.const _) fun _=>hκ _ _ _
 ·exact hκ _ _ _
 ·split
  ·exact hκ _ _ _
  ·split
   ·exact .q2r h _ (fun _ _=>hκ _ _ _) _ _ _ _ _ _ _
   ·split
    ·exact .bind (.const _) fun _=>.nextR _ _ fun _ _=>.z5o h _ (fun _ _=>hκ _ _ _) _ _ _ _
    ·exact .z5o h _ (fun _ _=>hκ _ _ _) _ _ _ _
  ·exact hκ _ _ _
  ·refine .bind (.const _) fun v=>?_
   unfold q0b;split
   ·exact hκ _ _ _
   ·exact hκ _ _ _
   ·exact .const _
  ·exact hκ _ _ _
  ·exact hκ _ _ _
  ·exact hκ _ _ _
  ·exact .bind (.const _) fun _=>.q2E h _ _ _ _ fun _ _=>hκ _ _ _
  ·split
   ·exact hκ _ _ _
   ·exact .const _
  ·exact .const _
  ·exact hκ _ _ _
  ·split
   ·exact hκ _ _ _
   ·exact .const _
theorem Le.z7a:∀(n:Nat),(∀f a m,Le (q3v E n f a m) (q3v E (n+1) f a m))/\∀md k t m,Le (goF E (q3v E n) md n k t m) (goF E (q3v E (n+1)) md (n+1) k t m):=by
 have step:∀{call c:q04} {κ κ':List AI->List AV->Mem->R},(∀f a m,Le (call f a m) (c f a m))->(∀k t m,Le (κ k t m) (κ' k t m))->
   ∀md k t m,Le (q2L E call md k t m κ) (q2L E c md k t m κ'):=by
  intro call c κ κ' h hκ md k t m;have hl:Lim (fun n=>q2L E (if n=0 then call else c) md k t m (if n=0 then κ else κ')) (q2L E c md k t m κ'):=by
   refine Lim.q2L (call:=fun n=>if n=0 then call else c) (κ:=fun n=>if n=0 then κ else κ') ?_ md k t m ?_
   ·intro f a m;refine⟨fun n=>?_,fun r hr=>⟨1,fun n hn=>?_⟩⟩
    ·by_cases e:n=0
     ·simp only[e,xAd];exact h _ _ _
     ·simp only[e,xAh];exact .refl _
    ·simp only[show n≠0 by omega,xAh];exact hr
   ·intro k t m;refine⟨fun n=>?_,fun r hr=>⟨1,fun n hn=>?_⟩⟩
    ·by_cases e:n=0
     ·simp only[e,xAd];exact hκ _ _ _
     ·simp only[e,xAh];exact .refl _
    ·simp only[show n≠0 by omega,xAh];exact hr
  exact hl.1 0
 intro n;have go:∀(n:Nat) {call c:q04},(∀f a m,Le (call f a m) (c f a m))->∀md j k t m,n<=j->Le (goF E call md n k t m) (goF E c md j k t m):=by
  intro n;induction n with
  |zero=>intro _ _ _ _ _ _ _ _ _;exact .none _
  |succ n ih=>
   intro call c h md j k t m hj;obtain⟨j,rfl⟩:∃i,j=i+1:=⟨j-1,by omega⟩;exact step h (fun k t m=>ih h md j k t m (by omega)) md k t m
 induction n with
 |zero=>exact⟨fun _ _ _=>.none _,fun _ _ _ _=>.none _⟩
 |succ n ih=>
  have h1:∀f a m,Le (q3v E (n+1) f a m) (q3v E (n+1+1) f a m):=by
   intro f a m;cases f with
   |fn f=>
    simp only[q3v];cases E.H f with
    |some h=>exact .refl _
    |none=>
     cases E.B f with
     |none=>exact .refl _
     |some b=>exact go n ih.1 _ _ _ _ _ (by omega)
   |yl b=>
    simp only[q3v];unfold Abs.q4O;split
    ·split
     ·exact go n ih.1 _ _ _ _ _ (by omega)
     ·exact .none _
    ·exact .none _
  exact⟨h1,fun md k t m=>go (n+1) h1 md _ k t m (by omega)⟩
open Classical in
def run (E:Env):q04:=fun f a m=>if h:∃r n,q3v E n f a m=some r then some h.choose else none
open Classical in
def go (E:Env) (md:Md) (k:List AI) (t:List AV) (m:Mem):R:=if h:∃r n,goF E (q3v E n) md n k t m=some r then some h.choose else none
theorem q7R {α:Type} {f:Nat->Option α} (h:∀n,Le (f n) (f (n+1))) (g:Option α) (hg:∀r,g=some r->∃n,f n=some r) (hg':∀n r,f n=some r->(∃r',g=some r')):Lim f g:=by
 have up:∀n j,n<=j->Le (f n) (f j):=by
  intro n j hj;induction j with
  |zero=>have:n=0:=by omega
         subst this;exact .refl _
  |succ j ih=>
   by_cases e:n=j+1
   ·subst e;exact .refl _
   ·exact(ih (by omega)).trans (h j)
 refine⟨fun n r hr=>?_,fun r hr=>?_⟩
 ·obtain⟨r',hr'⟩:=hg' n r hr;obtain⟨n',hn'⟩:=hg r' hr';have a:=up n (max n n') (by omega) r hr;have b:=up n' (max n n') (by omega) r' hn';rw[a]at b;cases b;exact hr'
 ·obtain⟨n,hn⟩:=hg r hr;exact⟨n,fun j hj=>up n j hj r hn⟩
theorem q9q (f:Tg) (a:List AV) (m:Mem):Lim (fun n=>q3v E n f a m) (run E f a m):=by
 refine q7R (fun n=>(Le.z7a n).1 f a m) _ ?_ ?_
 ·intro r hr;unfold run at hr;split at hr
  ·rename_i h;cases hr;exact h.choose_spec
  ·simp at hr
 ·intro n r hr;unfold run;rw[dif_pos ⟨r,n,hr⟩];exact⟨_,rfl⟩
theorem z9N (md:Md) (k:List AI) (t:List AV) (m:Mem):Lim (fun n=>goF E (q3v E n) md n k t m) (go E md k t m):=by
 refine q7R (fun n=>(Le.z7a n).2 md k t m) _ ?_ ?_
 ·intro r hr;unfold go at hr;split at hr
  ·rename_i h;cases hr;exact h.choose_spec
  ·simp at hr
 ·intro n r hr;unfold go;rw[dif_pos ⟨r,n,hr⟩];exact⟨_,rfl⟩
theorem Lim.unique {α:Type} {f:Nat->Option α} {g g':Option α} (h:Lim f g) (h':Lim f g'):g=g':=by
 cases hg:g with
 |some r=>obtain⟨N,hN⟩:=h.2 r hg;exact(h'.1 N r (hN N (xnr N))).symm
 |none=>
  cases hg':g' with
  |none=>rfl
  |some r=>obtain⟨N,hN⟩:=h'.2 r hg';have:=h.1 N r (hN N (xnr N));rw[hg]at this;simp at this
theorem Lim.shift {α:Type} {f:Nat->Option α} {g:Option α} (h:Lim f g):Lim (fun n=>f (n+1)) g:=
 ⟨fun n=>h.1 (n+1),fun r hr=>let ⟨N,hN⟩:=h.2 r hr;⟨N,fun n hn=>hN (n+1) (by omega)⟩⟩
theorem go_step (md:Md) (k:List AI) (t:List AV) (m:Mem):go E md k t m=q2L E (run E) md k t m (go E md):=by
 have h1:Lim (fun n=>goF E (q3v E n) md (n+1) k t m) (q2L E (run E) md k t m (go E md)):=
  Lim.q2L (call:=fun n=>q3v E n) (κ:=fun n=>goF E (q3v E n) md n) q9q md k t m (z9N md)
 have h2:Lim (fun n=>goF E (q3v E n) md (n+1) k t m) (go E md k t m):=by
  have hg:=z9N (E:=E) md k t m;have up:∀n,Le (goF E (q3v E n) md (n+1) k t m) (goF E (q3v E (n+1)) md (n+1) k t m):=by
   intro n;have hl:Lim (fun i=>goF E (if i=0 then q3v E n else q3v E (n+1)) md (n+1) k t m) (goF E (q3v E (n+1)) md (n+1) k t m):=by
    have:∀(j:Nat) k t m,Lim (fun i=>goF E (if i=0 then q3v E n else q3v E (n+1)) md j k t m) (goF E (q3v E (n+1)) md j k t m):=by
     intro j;induction j with
     |zero=>intro _ _ _;exact .const _
     |succ j ih=>
      intro k t m;refine Lim.q2L (call:=fun i=>if i=0 then q3v E n else q3v E (n+1)) (κ:=fun i=>goF E (if i=0 then q3v E n else q3v E (n+1)) md j) ?_ md k t m ih
      intro f a m;refine⟨fun i=>?_,fun r hr=>⟨1,fun i hi=>?_⟩⟩
      ·by_cases e:i=0
       ·simp only[e,xAd];exact(Le.z7a n).1 _ _ _
       ·simp only[e,xAh];exact .refl _
      ·simp only[show i≠0 by omega,xAh];exact hr
    exact this _ _ _ _
   exact hl.1 0
  have down:∀n,Le (goF E (q3v E n) md n k t m) (goF E (q3v E n) md (n+1) k t m):=by
   intro n;have:∀(j:Nat) (call:q04) k t m,Le (goF E call md j k t m) (goF E call md (j+1) k t m):=by
    intro j call;induction j with
    |zero=>intro _ _ _;exact .none _
    |succ j ih=>
     intro k t m;have hl:Lim (fun i=>q2L E call md k t m (if i=0 then goF E call md j else goF E call md (j+1))) (q2L E call md k t m (goF E call md (j+1))):=by
      refine Lim.q2L (call:=fun _=>call) (κ:=fun i=>if i=0 then goF E call md j else goF E call md (j+1)) (fun _ _ _=>.const _) md k t m ?_
      intro k t m;refine⟨fun i=>?_,fun r hr=>⟨1,fun i hi=>?_⟩⟩
      ·by_cases e:i=0
       ·simp only[e,xAd];exact ih _ _ _
       ·simp only[e,xAh];exact .refl _
      ·simp only[show i≠0 by omega,xAh];exact hr
     exact hl.1 0
   exact this n _ k t m
  refine⟨fun n=>(up n).trans (hg.1 (n+1)),fun r hr=>?_⟩
  obtain⟨N,hN⟩:=hg.2 r hr;exact⟨N,fun n hn=>down n r (hN n hn)⟩
 exact h2.unique h1
theorem z4P (md:Md):∀(j:Nat) (k:List AI) (t:List AV) (m:Mem),go E md k t m=goC E (run E) md (go E md) j k t m:=by
 intro j;induction j with
 |zero=>intro _ _ _;rfl
 |succ j ih=>
  intro k t m;rw[go_step];have hκ:go E md=goC E (run E) md (go E md) j:=by funext k t m;exact ih k t m
  unfold goC;split
  ·rfl
  ·rfl
  ·exact xFa (fun κ=>q2L E (run E) md _ t m κ) hκ
theorem z2x {f:FuncId} {rs:List ResultVar} {nt:Nat} {c:AC} (hH:E.H f=none) (hB:E.B f=some (rs,nt,c)) (args:List AV) (m:Mem) :
  run E (.fn f) args m=go E (.fn rs) [.code c] (args++List.replicate (nt-args.length) .undef) m:=by
 have h1:Lim (fun n=>q3v E (n+1) (.fn f) args m) (run E (.fn f) args m):=(q9q (E:=E) (.fn f) args m).shift
 have h2:(fun n=>q3v E (n+1) (.fn f) args m)=fun n=>goF E (q3v E n) (.fn rs) n [.code c] (args++List.replicate (nt-args.length) .undef) m:=by
  funext n;simp only[q3v,hH,hB]
 rw[h2]at h1;exact h1.unique (z9N _ _ _ _)
theorem a0j (b:Nat) (args:List AV) (m:Mem):run E (.yl b) args m=q4O m b args fun k t=>go E (.rd b) k t m:=by
 have h1:Lim (fun n=>q3v E (n+1) (.yl b) args m) (run E (.yl b) args m):=(q9q (E:=E) (.yl b) args m).shift
 have h2:(fun n=>q3v E (n+1) (.yl b) args m)=fun n=>q4O m b args fun k t=>goF E (q3v E n) (.rd b) n k t m:=by
  funext n;simp only[q3v]
 rw[h2]at h1;exact h1.unique (Lim.q4O fun _ _=>z9N _ _ _ _)
theorem q1x {f:FuncId} {h:List AV->Mem->R} (hH:E.H f=some h) (args:List AV) (m:Mem):run E (.fn f) args m=h args m:=by
 have h1:Lim (fun n=>q3v E (n+1) (.fn f) args m) (run E (.fn f) args m):=(q9q (E:=E) (.fn f) args m).shift
 have h2:(fun n=>q3v E (n+1) (.fn f) args m)=fun _=>h args m:=by funext n;simp only[q3v,hH]
 rw[h2]at h1;exact h1.unique (.const _)
theorem a4x {f:Tg} {args:List AV} {m:Mem} {r:AV×Mem} (h:run E f args m=some r):∃n,q3v E n f args m=some r:=
 let ⟨N,hN⟩:=(q9q (E:=E) f args m).2 r h
 ⟨N,hN N (xnr N)⟩
end
end
section
structure CI where
 c:Nat
 d:Nat
 n:Nat
 g:Option (Array MapEntry×Nat)
abbrev Phi:=Nat->Option CI
def Phi.le (p q:Phi):Prop:=∀b ci,p b=some ci->q b=some ci
def SR (p:Phi) (a:AA) (sz len cap:Nat) (ex:Bool) (v:Value):Prop:=
 ∃ci off cap',p a.b=some ci/\v=.slice (some ⟨ci.c,off,none⟩) len cap'/\len<=cap/\cap<=cap'/\(ex=true->cap'=cap)/\
  (ex=false->off+cap'*sz<=ci.n)/\(0<cap'->off=a.o+ci.d)
mutual
def VR (p:Phi):AV->Value->Prop
 | .undef,_=>True
 | .bool b,v=>v=.bool b
 | .int k n,v=>v=.int k n
 | .str s,v=>v=.string ⟨⟨s⟩⟩
 | .ptr none,v=>v=.pointer none
 | .ptr (some a),v=>∃ci,p a.b=some ci/\v=.pointer (some ⟨ci.c,a.o+ci.d,none⟩)
 | .sl none _ len cap ex,v=>len=0/\cap=0/\∃a,v=.slice a 0 0/\(ex=true->a=none)
 | .sl (some a) sz len cap ex,v=>SR p a sz len cap ex v
 | .map none,v=>v=.map none
 | .map (some r),v=>∃ci,p r=some ci/\v=.map (some ci.c)
 | .fn f x y,v=>∃x' y',v=.func f ⟨x'⟩ ⟨y'⟩/\VRs p x x'/\VRs p y y'
 | .yld b,v=>∃ci,p b=some ci/\v=.func (.yield ci.c) #[] #[]
 | .nilFn,v=>v=.nilFunc
 | .iface t u,v=>∃u',v=.iface t u'/\VR p u u'
 | .nilIface,v=>v=.nilIface
 | .agg cs,v=>∃cs',v=.agg ⟨cs'⟩/\VRs p cs cs'
 | .tup vs,v=>∃vs',v=.tuple ⟨vs'⟩/\VRs p vs vs'
def VRs (p:Phi):List AV->List Value->Prop
 |[],vs=>vs=[]
 |a::as,vs=>∃v vs',vs=v::vs'/\VR p a v/\VRs p as vs'
end
mutual
theorem VR.mono {p q:Phi} (h:p.le q):∀{a:AV} {v:Value},VR p a v->VR q a v
 | .undef,_,_=>by simp[VR]
 | .bool _,_,r=>by simpa[VR]using r
 | .int ..,_,r=>by simpa[VR]using r
 | .str _,_,r=>by simpa[VR]using r
 | .ptr none,_,r=>by simpa[VR]using r
 | .ptr (some a),_,r=>by
  simp only[VR]at r⊢;obtain⟨ci,h1,h2⟩:=r;exact⟨ci,h _ _ h1,h2⟩
 | .sl none ..,_,r=>by simpa[VR]using r
 | .sl (some a) ..,_,r=>by
  simp only[VR,SR]at r⊢;obtain⟨ci,off,cap',h1,h2⟩:=r;exact⟨ci,off,cap',h _ _ h1,h2⟩
 | .map none,_,r=>by simpa[VR]using r
 | .map (some a),_,r=>by
  simp only[VR]at r⊢;obtain⟨ci,h1,h2⟩:=r;exact⟨ci,h _ _ h1,h2⟩
 | .fn f x y,_,r=>by
  simp only[VR]at r⊢;obtain⟨x',y',h1,h2,h3⟩:=r;exact⟨x',y',h1,VRs.mono h h2,VRs.mono h h3⟩
 | .yld b,_,r=>by
  simp only[VR]at r⊢;obtain⟨ci,h1,h2⟩:=r;exact⟨ci,h _ _ h1,h2⟩
 | .nilFn,_,r=>by simpa[VR]using r
 | .iface t u,_,r=>by
  simp only[VR]at r⊢;obtain⟨u',h1,h2⟩:=r;exact⟨u',h1,VR.mono h h2⟩
 | .nilIface,_,r=>by simpa[VR]using r
 | .agg cs,_,r=>by
  simp only[VR]at r⊢;obtain⟨u',h1,h2⟩:=r;exact⟨u',h1,VRs.mono h h2⟩
 | .tup cs,_,r=>by
  simp only[VR]at r⊢;obtain⟨u',h1,h2⟩:=r;exact⟨u',h1,VRs.mono h h2⟩
theorem VRs.mono {p q:Phi} (h:p.le q):∀{a:List AV} {v:List Value},VRs p a v->VRs q a v
 |[],_,r=>by simpa[VRs]using r
 |a::as,_,r=>by
  simp only[VRs]at r⊢;obtain⟨v,vs,h1,h2,h3⟩:=r;exact⟨v,vs,h1,VR.mono h h2,VRs.mono h h3⟩
end
section lists
variable {p:Phi}
theorem VRs.length:∀{as:List AV} {vs:List Value},VRs p as vs->vs.length=as.length
 |[],_,h=>by simp only[VRs]at h;simp[h]
 |a::as,_,h=>by
  simp only[VRs]at h;obtain⟨v,vs,rfl,_,h⟩:=h;simp[VRs.length h]
theorem VRs.get:∀{as:List AV} {vs:List Value},VRs p as vs->∀{i:Nat} {a:AV},as[i]? = some a->∃v,vs[i]? = some v/\VR p a v
 |[],_,_,i,a,e=>by simp at e
 |a::as,_,h,i,x,e=>by
  simp only[VRs]at h;obtain⟨v,vs,rfl,h1,h2⟩:=h;cases i with
  |zero=>simp at e;subst e;exact⟨v,by simp,h1⟩
  |succ i=>simp only[xgs]at e⊢;exact VRs.get h2 e
theorem VRs.z0U:∀{as:List AV} {vs:List Value},vs.length=as.length->(∀(i:Nat) a,as[i]? = some a->∃v,vs[i]? = some v/\VR p a v)->VRs p as vs
 |[],vs,h,_=>by simp only[VRs];simpa using h
 |a::as,[],h,_=>by simp at h
 |a::as,v::vs,h,hg=>by
  simp only[VRs];refine⟨v,vs,rfl,?_,VRs.z0U (by simpa using h) fun i x e=>?_⟩
  ·obtain⟨v',e,r⟩:=hg 0 a (by simp);simp at e;subst e;exact r
  ·obtain⟨v',e',r⟩:=hg (i+1) x (by simpa using e);exact⟨v',by simpa using e',r⟩
theorem VRs.append {as bs:List AV} {vs us:List Value} (h:VRs p as vs) (h':VRs p bs us):VRs p (as++bs) (vs++us):=by
 induction as generalizing vs with
 |nil=>simp only[VRs]at h;subst h;simpa using h'
 |cons a as ih=>
  simp only[VRs]at h;obtain⟨v,vs,rfl,h1,h2⟩:=h;simp only[xAy,VRs];exact⟨v,vs++us,rfl,h1,ih h2⟩
theorem VRs.take {as:List AV} {vs:List Value} (h:VRs p as vs) (n:Nat):VRs p (as.take n) (vs.take n):=by
 induction as generalizing vs n with
 |nil=>simp only[VRs]at h;subst h;simp[VRs]
 |cons a as ih=>
  simp only[VRs]at h;obtain⟨v,vs,rfl,h1,h2⟩:=h;cases n with
  |zero=>simp[VRs]
  |succ n=>simp only[xBk,VRs];exact⟨v,_,rfl,h1,ih h2 n⟩
theorem VRs.drop {as:List AV} {vs:List Value} (h:VRs p as vs) (n:Nat):VRs p (as.drop n) (vs.drop n):=by
 induction as generalizing vs n with
 |nil=>simp only[VRs]at h;subst h;simp[VRs]
 |cons a as ih=>
  simp only[VRs]at h;obtain⟨v,vs,rfl,h1,h2⟩:=h;cases n with
  |zero=>simp only[xAp,VRs];exact⟨v,vs,rfl,h1,h2⟩
  |succ n=>simp only[xBh];exact ih h2 n
theorem VRs.set {as:List AV} {vs:List Value} (h:VRs p as vs) (i:Nat) {a:AV} {v:Value} (hv:VR p a v):VRs p (as.set i a) (vs.set i v):=by
 induction as generalizing vs i with
 |nil=>simp only[VRs]at h;subst h;simp[VRs]
 |cons b as ih=>
  simp only[VRs]at h;obtain⟨u,vs,rfl,h1,h2⟩:=h;cases i with
  |zero=>simp only[List.set_cons_zero,VRs];exact⟨v,vs,rfl,hv,h2⟩
  |succ i=>simp only[List.set_cons_succ,VRs];exact⟨u,_,rfl,h1,ih h2 i⟩
theorem VRs.replicate (n:Nat) {a:AV} {v:Value} (h:VR p a v):VRs p (List.replicate n a) (List.replicate n v):=by
 induction n with
 |zero=>simp[VRs]
 |succ n ih=>simp only[List.replicate_succ,VRs];exact⟨v,_,rfl,h,ih⟩
theorem VRs.flat {as:List AV} {vs:List Value} (h:VRs p as vs) (n:Nat):VRs p (List.replicate n as).flatten (List.replicate n vs).flatten:=by
 induction n with
 |zero=>simp[VRs]
 |succ n ih=>simp only[List.replicate_succ,xCb];exact h.append ih
theorem VR.one {a:AV} {v:Value} (h:VR p a v) (h1:a.one=true):v.oneCell'=true/\v.cells=#[v]:=by
 cases a with
 |undef|agg _|tup _=>simp[AV.one]at h1
 |ptr x=>cases x<;>simp only[VR]at h<;>(first|subst h;exact⟨rfl,rfl⟩|(obtain⟨_,_,rfl⟩:=h;exact⟨rfl,rfl⟩))
 |map x=>cases x<;>simp only[VR]at h<;>(first|subst h;exact⟨rfl,rfl⟩|(obtain⟨_,_,rfl⟩:=h;exact⟨rfl,rfl⟩))
 |sl x sz l c e=>
  cases x with
  |none=>simp only[VR]at h;obtain⟨_,_,_,rfl,_⟩:=h;exact⟨rfl,rfl⟩
  |some x=>simp only[VR,SR]at h;obtain⟨_,_,_,_,rfl,_⟩:=h;exact⟨rfl,rfl⟩
 |fn f x y=>simp only[VR]at h;obtain⟨_,_,rfl,_⟩:=h;exact⟨rfl,rfl⟩
 |yld b=>simp only[VR]at h;obtain⟨_,_,rfl⟩:=h;exact⟨rfl,rfl⟩
 |iface t u=>simp only[VR]at h;obtain⟨_,rfl,_⟩:=h;exact⟨rfl,rfl⟩
 |bool _|int _ _|str _|nilFn|nilIface=>simp only[VR]at h;subst h;exact⟨rfl,rfl⟩
theorem VRs.ones {as:List AV} {vs:List Value} (h:VRs p as vs) (h1:as.all AV.one=true):∀v∈vs,v.oneCell'=true:=by
 induction as generalizing vs with
 |nil=>simp only[VRs]at h;subst h;simp
 |cons a as ih=>
  simp only[VRs]at h;obtain⟨v,vs,rfl,h2,h3⟩:=h;simp only[xBq,xAc]at h1;intro u hu;cases hu with
  |head=>exact(h2.one h1.1).1
  |tail _ hu=>exact ih h3 h1.2 u hu
theorem VR.cells {a:AV} {v:Value} (h:VR p a v) {cs:List AV} (hc:a.cells=some cs):∃vs,v.cells=⟨vs⟩/\VRs p cs vs/\cs.all AV.one=true:=by
 cases a with
 |undef|tup _=>simp[AV.cells]at hc
 |agg xs=>
  simp only[AV.cells]at hc;split at hc
  ·rename_i h1;cases hc;simp only[VR]at h;obtain⟨vs,rfl,h2⟩:=h;exact⟨vs,rfl,h2,h1⟩
  ·simp at hc
 | _=>
  simp only[AV.cells,xoi]at hc;subst hc;have h1:=h.one rfl;exact⟨[v],by rw[h1.2],by simp only[VRs];exact⟨v,[],rfl,h,rfl⟩,rfl⟩
end lists
theorem j9x (p:Phi):∀{v:Value} {a:AV},ofV.ofPart v=some a->VR p a v:=by
 intro v a h;cases v with
 |string s=>simp only[ofV.ofPart,xoi]at h;subst h;cases s;rename_i d;cases d;simp[VR]
 |pointer x=>cases x<;>simp only[ofV.ofPart]at h<;>cases h;simp[VR]
 |slice x l c=>
  cases x with
  |some _=>simp[ofV.ofPart]at h
  |none=>cases l<;>cases c<;>simp only[ofV.ofPart]at h<;>cases h;simp[VR]
 |map x=>cases x<;>simp only[ofV.ofPart]at h<;>cases h;simp[VR]
 | _=>simp only[ofV.ofPart]at h<;>cases h<;>simp[VR]
theorem q9C (p:Phi):∀{vs:List Value} {as:List AV},ofV.ofParts vs=some as->VRs p as vs
 |[],as,h=>by simp only[ofV.ofParts,xoi]at h;subst h;simp[VRs]
 |v::vs,as,h=>by
  simp only[ofV.ofParts]at h;split at h
  ·rename_i a as' h1 h2;cases h;simp only[VRs];exact⟨v,vs,rfl,j9x p h1,q9C p h2⟩
  ·simp at h
theorem j9y (p:Phi) {v:Value} {a:AV} (h:ofV v=some a):VR p a v:=by
 cases v with
 |string s=>simp only[ofV,xoi]at h;subst h;cases s;rename_i d;cases d;simp[VR]
 |pointer x=>cases x<;>simp only[ofV]at h<;>cases h;simp[VR]
 |slice x l c=>
  cases x with
  |some _=>simp[ofV]at h
  |none=>cases l<;>cases c<;>simp only[ofV]at h<;>cases h;simp[VR]
 |map x=>cases x<;>simp only[ofV]at h<;>cases h;simp[VR]
 |func f x y=>
  cases x;rename_i x;cases y;rename_i y;cases x<;>cases y<;>simp only[ofV]at h<;>cases h;simp[VR,VRs]
 |agg cs=>
  cases cs;rename_i cs;simp only[ofV,xoe]at h;obtain⟨as,h1,rfl⟩:=h;simp only[VR];exact⟨cs,rfl,q9C p h1⟩
 | _=>simp only[ofV]at h<;>cases h<;>simp[VR]
def q3i (o:Oper):List Nat:=o.after.toList.filterMap fun e=>if Region.binds .any e then some e.on else none
def z9R (P:Program) (all:List Oper) (anc chk:List (List Nat)) (i j:Nat) (oi oj:Oper):Bool:=
 (anc.getD j []).contains i||
 (Oper.apart ⟨all⟩ oi oj&&!(decide (cls P oi.op=.e)&&decide (cls P oj.op=.e))&&
  (!((decide (cls P oi.op=.r)&&decide (cls P oj.op=.e))||(decide (cls P oi.op=.e)&&decide (cls P oj.op=.r)))||(chk.getD j []).contains i))
def z8J (anc:List (List Nat)) (j:Nat) (o:Oper):Bool:=
 (q3i o).all (fun e=>decide (e<j))&&
 (anc.getD j []).all (fun x=>(q3i o).contains x||(q3i o).any fun e=>(anc.getD e []).contains x)&&
 (match o.guard with|none=>true|some (g,_)=>(q3i o).contains g)
def rowOk (P:Program) (all:List Oper) (anc chk:List (List Nat)) (j:Nat):Bool:=
 match all[j]? with
 |some oj=>z8J anc j oj&&(List.range j).all fun i=>match all[i]? with
  |some oi=>z9R P all anc chk i j oi oj
  |none=>true
 |none=>true
def rOk (P:Program) (all:List Oper) (anc chk:List (List Nat)):Bool:=(List.range all.length).all (rowOk P all anc chk)
def AC.ok (P:Program):AC->Bool
 | .region _ ops draw chk anc=>!draw||(rOk P ops anc chk&&decide (chk.length=ops.length))
 | .seq a b=>a.ok P&&b.ok P
 | .cond _ x y=>x.ok P&&y.ok P
 | .block _ b=>b.ok P
 | .loop b=>b.ok P
 | .rangeFunc _ _ a b=>a.ok P&&b.ok P
 | .scope b=>b.ok P
 | .pt _ c=>c.ok P
 | _=>true
def ER (p:Phi):List (AV×AV)->List MapEntry->Prop
 |[],es=>es=[]
 |(k,v)::l,es=>∃e es',es=e::es'/\VR p k e.key/\VR p v e.val/\ER p l es'
theorem ER.mono {p q:Phi} (h:p.le q):∀{l:List (AV×AV)} {es:List MapEntry},ER p l es->ER q l es
 |[],_,r=>by simpa[ER]using r
 |(k,v)::l,_,r=>by
  simp only[ER]at r⊢;obtain⟨e,es,h1,h2,h3,h4⟩:=r;exact⟨e,es,h1,h2.mono h,h3.mono h,ER.mono h h4⟩
def BR (P:Program) (p:Phi) (ci:CI):Blk->Obj->Prop
 | .cells cs ro,o=>∃arr el fr,o=.cells arr el fr/\arr.size=ci.n/\(ro=false->∀i,¬(fr.1<=i/\i<fr.2))/\∀(i:Nat) a,cs[i]? = some a->∃v,arr[ci.d+i]? = some v/\VR p a v
 | .loop l,o=>∃fn vs d,o=.loop ⟨l.state,l.pending.map fun j=>j.code.erase,fn,⟨vs⟩,⟨l.params⟩,l.assign.erase,l.body.erase,d⟩/\VRs p l.tmps vs/\l.assign.ok P=true/\l.body.ok P=true
 | .map es,o=>∃ces clock,o=.map ces clock/\(∃l,l.Perm es/\ER p l ces.toList)/\(ces.toList.map (·.born)).Nodup/\∀e∈ces.toList,e.born<clock
 | .rmap es c,o=>∃ces clock,o=.map ces clock/\(∃l,l.Perm es/\ER p l ces.toList)/\((ces.toList.map (·.born)).Nodup/\∀e∈ces.toList,e.born<clock)/\∃cc,p c=some cc/\cc.g=some (ces,clock)
 | .iter b left cur,o=>∃bi ces clock seen last,o=.mapIter (some bi.c) clock seen last/\p b=some bi/\ci.g=some (ces,clock)/\ci.d=0/\clock<=last/\(∃l,l.Perm left/\ER p l (ces.toList.filter fun e=>!seen.contains e.born))/\
   ∀e,cur=some e->last=clock/\∃ce∈ces.toList,seen.back? = some ce.born/\VR p e.1 ce.key/\VR p e.2 ce.val
theorem BR.mono {P:Program} {p q:Phi} (h:p.le q) {ci:CI}:∀{b:Blk} {o:Obj},BR P p ci b o->BR P q ci b o
 | .cells _cs _ro,_o,⟨arr,el,fr,h1,h2,h3,h4⟩=>⟨arr,el,fr,h1,h2,h3,fun i a hi=>let ⟨v,x,y⟩:=h4 i a hi;⟨v,x,y.mono h⟩⟩
 | .loop _l,_o,⟨fn,vs,d,h1,h2,h3⟩=>⟨fn,vs,d,h1,h2.mono h,h3⟩
 | .map _es,_o,⟨ces,clock,h1,⟨l,h2,h3⟩,h4⟩=>⟨ces,clock,h1,⟨l,h2,h3.mono h⟩,h4⟩
 | .rmap _es _c,_o,⟨ces,clock,h1,⟨l,h2,h3⟩,h4,cc,h5,h6⟩=>⟨ces,clock,h1,⟨l,h2,h3.mono h⟩,h4,cc,h _ _ h5,h6⟩
 | .iter _b _l _c,_o,⟨bi,ces,clock,seen,last,h1,h2,h3,h4,h5,⟨l,h6,h7⟩,h8⟩=>⟨bi,ces,clock,seen,last,h1,h _ _ h2,h3,h4,h5,⟨l,h6,h7.mono h⟩,fun e he=>let ⟨a,ce,b1,b2,b3,b4⟩:=h8 e he;⟨a,ce,b1,b2,b3.mono h,b4.mono h⟩⟩
structure MR (P:Program) (p:Phi) (m:Mem) (w:World):Prop where
 has:∀b v ci,m.get b=some v->p b=some ci->∃o,w.heap[ci.c]? = some o/\BR P p ci v o
 inj:∀b ci b2 ci2,(m.get b).isSome=true->p b=some ci->p b2=some ci2->ci.c=ci2.c->b=b2\/(b2<m.next/\m.get b2=none)
 bnd:∀b ci,p b=some ci->ci.c<w.heap.size
 q23:∀g,g<P.globals.size->∃n,p g=some ⟨g,0,n,none⟩
theorem MR.live {P:Program} {p:Phi} {m:Mem} {w:World} (h:MR P p m w) (b:Nat) (cs:List AV) (ro:Bool) (ci:CI) (hb:m.get b=some (.cells cs ro)) (hp:p b=some ci) :
  ∃arr el fr,w.heap[ci.c]? = some (.cells arr el fr)/\arr.size=ci.n/\(ro=false->∀i,¬(fr.1<=i/\i<fr.2))/\∀(i:Nat) a,cs[i]? = some a->∃v,arr[ci.d+i]? = some v/\VR p a v:=by
 obtain⟨o,h1,arr,el,fr,rfl,h2⟩:=h.has b _ ci hb hp;exact⟨arr,el,fr,h1,h2⟩
structure Sim (P:Program) (p:Phi) (m:Mem) (w:World) (p':Phi) (m':Mem) (w':World):Prop where
 le:p.le p'
 out:∀b,¬(m.next<=b/\b<m'.next)->p' b=p b
 next:m.next<=m'.next
 rel:MR P p' m' w'
 q4d:∀b,b<m.next->p b=none->m'.get b=m.get b
 dead:∀b,b<m.next->m.get b=none->m'.get b=none
 q3d:∀c,c<w.heap.size->(∀b ci,(m.get b).isSome=true->p b=some ci->ci.c≠c)->w'.heap[c]? = w.heap[c]?
 fresh:∀b ci,m.next<=b->b<m'.next->p' b=some ci->w.heap.size<=ci.c\/∃b0 ci0,(m.get b0).isSome=true/\p b0=some ci0/\ci0.c=ci.c
 ro:∀b cs ci,m.get b=some (.cells cs true)->p b=some ci->m'.get b=some (.cells cs true)/\w'.heap[ci.c]? = w.heap[ci.c]?
 size:w.heap.size<=w'.heap.size
 os:w'.os=w.os
 output:w'.output=w.output
 tape:w'.tape=w.tape
def q7g (p:Phi) (lo hi:Nat):Prop:=∀b,lo<=b->b<hi->p b=none
theorem Sim.refl {P:Program} {p:Phi} {m:Mem} {w:World} (h:MR P p m w):Sim P p m w p m w where
 le:=fun _ _ h=>h
 out:=fun _ _=>rfl
 next:=xnr _
 rel:=h
 q4d:=fun _ _ _=>rfl
 dead:=fun _ _ h=>h
 q3d:=fun _ _ _=>rfl
 fresh:=fun b ci h1 h2=>by omega
 ro:=fun _ _ _ h _=>⟨h,rfl⟩
 size:=xnr _
 os:=rfl
 output:=rfl
 tape:=rfl
theorem Sim.trans {P:Program} {p p1 p2:Phi} {m m1 m2:Mem} {w w1 w2:World} (a:Sim P p m w p1 m1 w1) (b:Sim P p1 m1 w1 p2 m2 w2) (_hf:q7g p m.next m2.next) :
  Sim P p m w p2 m2 w2 where
 le:=fun x ci h=>b.le x ci (a.le x ci h)
 out:=fun x h=>by
  rw[b.out x (by have:=a.next;omega),a.out x (by have:=b.next;omega)]
 next:=xnt0 a.next b.next
 rel:=b.rel
 q4d:=fun x h1 h2=>by
  have e:p1 x=p x:=a.out x (by omega);rw[b.q4d x (by have:=a.next;omega) (by rw[e,h2]),a.q4d x h1 h2]
 dead:=fun x h1 h2=>b.dead x (by have:=a.next;omega) (a.dead x h1 h2)
 q3d:=fun c h1 h2=>by
  rw[b.q3d c (by have:=a.size;omega) ?_,a.q3d c h1 h2];intro x ci h3 h4 e;by_cases hx:x<m.next
  ·have e1:p1 x=p x:=a.out x (by omega);refine h2 x ci ?_ (e1▸h4) e;cases hm:m.get x with
   |some _=>rfl
   |none=>rw[a.dead x hx hm]at h3;simp at h3
  ·by_cases hx1:x<m1.next
   ·rcases a.fresh x ci (by omega) hx1 h4 with h|⟨b0,ci0,h5,h6,h7⟩
    ·omega
    ·exact h2 b0 ci0 h5 h6 (h7.trans e)
   ·rw[Mem.z0H (by omega)]at h3;simp at h3
 fresh:=fun x ci h1 h2 h3=>by
  by_cases hx1:x<m1.next
  ·have e1:p2 x=p1 x:=b.out x (by omega);exact a.fresh x ci h1 hx1 (e1▸h3)
  ·rcases b.fresh x ci (by omega) h2 h3 with h|⟨b0,ci0,h5,h6,h7⟩
   ·left;have:=a.size;omega
   ·by_cases hx:b0<m.next
    ·have e1:p1 b0=p b0:=a.out b0 (by omega);right;refine⟨b0,ci0,?_,e1▸h6,h7⟩;cases hm:m.get b0 with
     |some _=>rfl
     |none=>rw[a.dead b0 hx hm]at h5;simp at h5
    ·by_cases hb1:b0<m1.next
     ·rcases a.fresh b0 ci0 (by omega) hb1 h6 with h|⟨b9,ci9,h8,h9,h10⟩
      ·left;omega
      ·right;exact⟨b9,ci9,h8,h9,h10.trans h7⟩
     ·rw[Mem.z0H (by omega)]at h5;simp at h5
 ro:=fun x cs ci h1 h2=>by
  obtain⟨h3,h4⟩:=a.ro x cs ci h1 h2;obtain⟨h5,h6⟩:=b.ro x cs ci h3 (a.le x ci h2);exact⟨h5,h6.trans h4⟩
 size:=xnt0 a.size b.size
 os:=b.os.trans a.os
 output:=b.output.trans a.output
 tape:=b.tape.trans a.tape
theorem q7g.step {P:Program} {p p1:Phi} {m m1:Mem} {w w1:World} (a:Sim P p m w p1 m1 w1) {hi:Nat} (hf:q7g p m.next hi):q7g p1 m1.next hi:=by
 intro b h1 h2;rw[a.out b (by omega)];exact hf b (by have:=a.next;omega) h2
theorem q7g.sub {p:Phi} {lo hi lo' hi':Nat} (hf:q7g p lo hi) (h1:lo<=lo') (h2:hi'<=hi):q7g p lo' hi':=fun b a c=>hf b (by omega) (by omega)
theorem MR.of_heap {P:Program} {p:Phi} {m:Mem} {w w':World} (h:MR P p m w) (e:w'.heap=w.heap):MR P p m w' where
 has:=fun b v ci h1 h2=>by rw[e];exact h.has b v ci h1 h2
 inj:=h.inj
 bnd:=fun b ci h1=>by rw[e];exact h.bnd b ci h1
 q23:=h.q23
theorem Sim.of_heap {P:Program} {p:Phi} {m:Mem} {w w':World} (h:MR P p m w) (e:w'.heap=w.heap) (e1:w'.os=w.os) (e2:w'.output=w.output) (e3:w'.tape=w.tape):Sim P p m w p m w' where
 le:=fun _ _ h=>h
 out:=fun _ _=>rfl
 next:=xnr _
 rel:=h.of_heap e
 q4d:=fun _ _ _=>rfl
 dead:=fun _ _ h=>h
 q3d:=fun c _ _=>by rw[e]
 fresh:=fun b ci h1 h2=>by omega
 ro:=fun _ _ _ h _=>⟨h,by rw[e]⟩
 size:=by rw[e];exact xnr _
 os:=e1
 output:=e2
 tape:=e3
theorem Sim.lay {P:Program} {p:Phi} {m:Mem} {w w':World} (h:MR P p m w) (hfree:p m.next=none) {v:Blk} {o:Obj} {c n:Nat} {g:Option (Array MapEntry×Nat)} (hc:w.heap.size<=c) (hco:w'.heap[c]? = some o) (hk:∀i,i<w.heap.size->w'.heap[i]? = w.heap[i]?)
  (hsz:w.heap.size<=w'.heap.size) (e1:w'.os=w.os) (e2:w'.output=w.output) (e3:w'.tape=w.tape) (hv:∀q:Phi,p.le q->BR P q ⟨c,0,n,g⟩ v o) :
  Sim P p m w (fun b=>if b=m.next then some ⟨c,0,n,g⟩ else p b) (m.lay v) w':=by
 have hle:p.le (fun b=>if b=m.next then some ⟨c,0,n,g⟩ else p b):=by
  intro b ci hb;by_cases e:b=m.next
  ·subst e;rw[hfree]at hb;simp at hb
  ·simp[e,hb]
 have hcs:c<w'.heap.size:=(xBb.1 hco).1;refine⟨hle,?_,by simp,⟨?_,?_,?_,?_⟩,?_,?_,?_,?_,fun b cs2 ci h1 h2=>⟨by rw[Mem.q0J,xAa (by have:=Mem.q0u h1;omega)];exact h1,hk _ (h.bnd b ci h2)⟩,hsz,e1,e2,e3⟩
 ·intro b hb;by_cases e:b=m.next
  ·exact absurd ⟨by omega,by simp;omega⟩ hb
  ·simp[e]
 ·intro b v' ci h1 h2;rw[Mem.q0J]at h1;by_cases e:b=m.next
  ·subst e;simp only[xAd]at h1 h2;cases h1;cases h2;exact⟨o,hco,hv _ hle⟩
  ·rw[xAa e]at h1;simp only[xAa e]at h2;obtain⟨o',h3,h4⟩:=h.has b v' ci h1 h2;exact⟨o',by rw[hk _ (h.bnd b ci h2)];exact h3,h4.mono hle⟩
 ·intro b ci b2 ci2 h1 h2 h3 h4;rw[Mem.q0J]at h1;by_cases e:b=m.next
  ·subst e;simp only[xAd]at h2;cases h2;by_cases e2:b2=m.next
   ·exact .inl e2.symm
   ·simp only[xAa e2]at h3;have:=h.bnd b2 ci2 h3;simp only at h4;omega
  ·rw[xAa e]at h1;rw[xAa e]at h2;by_cases e2:b2=m.next
   ·subst e2;simp only[xAd]at h3;cases h3;have:=h.bnd b ci h2;simp only at h4;omega
   ·simp only[xAa e2]at h3;rcases h.inj b ci b2 ci2 h1 h2 h3 h4 with h5|⟨h5,h6⟩
    ·exact .inl h5
    ·right;refine⟨by simp;omega,?_⟩;rw[Mem.q0J,xAa e2];exact h6
 ·intro b ci hb;by_cases e:b=m.next
  ·simp only[e,xAd]at hb;cases hb;exact hcs
  ·simp only[xAa e]at hb;have:=h.bnd b ci hb;omega
 ·intro g hg;obtain⟨n,hn⟩:=h.q23 g hg;exact⟨n,hle _ _ hn⟩
 ·intro b hb _;rw[Mem.q0J,xAa (by omega)]
 ·intro b hb hd;rw[Mem.q0J,xAa (by omega)];exact hd
 ·intro c hc _;exact hk c hc
 ·intro b ci h1 h2 h3;simp only[Mem.q0G]at h2;have e:b=m.next:=by omega
  simp only[e,xAd]at h3;cases h3;exact .inl hc
theorem Sim.alloc {P:Program} {p:Phi} {m:Mem} {w w':World} (h:MR P p m w) (_hG:P.globals.size<=m.next) (hfree:p m.next=none) {cs:List AV} {arr:Array Value} {el:TypeId} {fr:Nat×Nat}
  (hw:w'.heap=w.heap.push (.cells arr el fr)) (e1:w'.os=w.os) (e2:w'.output=w.output) (e3:w'.tape=w.tape)
  (hfr:∀i,¬(fr.1<=i/\i<fr.2)) (hcs:∀(i:Nat) a,cs[i]? = some a->∃v,arr[i]? = some v/\VR p a v) :
  Sim P p m w (fun b=>if b=m.next then some ⟨w.heap.size,0,arr.size,none⟩ else p b) (m.alloc cs) w':=
 Sim.lay h hfree (xnr _) (by rw[hw];simp) (fun i hi=>by rw[hw,xBz hi,<-xAl]) (by rw[hw];simp) e1 e2 e3
  fun q hq=>⟨arr,el,fr,rfl,rfl,fun _=>hfr,fun i a hi=>let ⟨v,x,y⟩:=hcs i a hi;⟨v,by simpa using x,y.mono hq⟩⟩
theorem Sim.z2E {P:Program} {p:Phi} {m:Mem} {w w':World} (h:MR P p m w) {b:Nat} {v0:Blk} {v:Option Blk} {ci:CI} (hb:m.get b=some v0) (hro:∀cs,v0≠.cells cs true) (hp:p b=some ci) {o:Obj} (ho:w'.heap[ci.c]? = some o)
  (hk:∀c,c≠ci.c->w'.heap[c]? = w.heap[c]?) (hsz:w'.heap.size=w.heap.size) (e1:w'.os=w.os) (e2:w'.output=w.output) (e3:w'.tape=w.tape) (hv:∀x,v=some x->BR P p ci x o) :
  Sim P p m w p (m.put b v) w':=by
 have hbl:=Mem.q0u hb;have hne:∀b2 v2 ci2,b2≠b->m.get b2=some v2->p b2=some ci2->ci2.c≠ci.c:=by
  intro b2 v2 ci2 e h1 h2 ec;rcases h.inj b2 ci2 b ci (by rw[h1];rfl) h2 hp ec with e'|⟨_,e'⟩
  ·exact e e'
  ·rw[hb]at e';simp at e'
 have hg:∀b2,b2≠b->(m.put b v).get b2=m.get b2:=fun b2 e=>by rw[Mem.get_put,xAa (fun x=>e x.1)]
 have hgb:(m.put b v).get b=v:=by rw[Mem.get_put,xAb ⟨rfl,hbl⟩]
 refine⟨fun _ _ h=>h,fun _ _=>rfl,by simp,⟨?_,?_,fun b2 ci2 h2=>by rw[hsz];exact h.bnd b2 ci2 h2,h.q23⟩,?_,?_,?_,?_,?_,by omega,e1,e2,e3⟩
 ·intro b2 v2 ci2 h1 h2;by_cases e:b2=b
  ·subst e;rw[hgb]at h1;rw[hp]at h2;cases h2;exact⟨o,ho,hv _ h1⟩
  ·rw[hg b2 e]at h1;obtain⟨o',h3,h4⟩:=h.has b2 v2 ci2 h1 h2;exact⟨o',by rw[hk _ (hne b2 v2 ci2 e h1 h2)];exact h3,h4⟩
 ·intro b2 ci2 b3 ci3 h1 h2 h3 h4;by_cases e:b2=b
  ·subst e;rcases h.inj b2 ci2 b3 ci3 (by rw[hb];rfl) h2 h3 h4 with e'|⟨e1,e2⟩
   ·exact .inl e'
   ·by_cases e3:b3=b2
    ·exact .inl e3.symm
    ·right;exact⟨by simpa using e1,by rw[hg b3 e3];exact e2⟩
  ·rw[hg b2 e]at h1;rcases h.inj b2 ci2 b3 ci3 h1 h2 h3 h4 with e'|⟨e1,e2⟩
   ·exact .inl e'
   ·by_cases e3:b3=b
    ·subst e3;rw[hb]at e2;simp at e2
    ·right;exact⟨by simpa using e1,by rw[hg b3 e3];exact e2⟩
 ·intro b2 h1 h2;refine hg b2 ?_;rintro rfl;rw[hp]at h2;cases h2
 ·intro b2 h1 h2;by_cases e:b2=b
  ·subst e;rw[hb]at h2;cases h2
  ·rw[hg b2 e];exact h2
 ·intro c h1 h2;exact hk c fun e=>h2 b ci (by rw[hb];rfl) hp e.symm
 ·intro b2 ci2 h1 h2 h3;simp at h2;omega
 ·intro b2 cs2 ci2 h1 h2;have e:b2≠b:=by rintro rfl;rw[hb]at h1;cases h1;exact hro _ rfl
  exact⟨by rw[hg b2 e];exact h1,hk _ (hne b2 _ ci2 e h1 h2)⟩
end
end Go.Abs
