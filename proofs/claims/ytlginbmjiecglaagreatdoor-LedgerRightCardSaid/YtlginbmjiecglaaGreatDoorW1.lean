/- Texts of one claim, put together. -/
import Derived.Test.YtlginbmjiecglaaGreatDoorW0
import Derived.Laws.Sem
import Derived.Orders
namespace Go.Abs
noncomputable section
open Go
inductive Tg where
 |fn (f:FuncId)
 |yl (b:Nat)
abbrev q02:=Tg->List AV->Mem->R
def q3P (call:q02) (fv:AV) (args:List AV) (m:Mem):R:=
 match fv with
 | .fn (.func f) first cap=>call (.fn f) (first++args++cap) m
 | .yld b=>call (.yl b) args m
 | _=>none
def q8q (P:Program) (st xt:TypeId):Option (Nat×Nat):=
 match P.underlying st with
 |some (.slice e)=>match (match P.underlying xt with|some (.slice _)|some .string=>true | _=>false),P.info? e with
  |true,some i=>match i.zero with
   |some z=>if z.cells.size=i.size/\0<i.bytes then some (i.size,i.bytes) else none
   |none=>none
  | _,_=>none
 | _=>none
def q4P (P:Program) (st xt:TypeId) (s x:AV) (m:Mem):R:=
 match P.underlying xt with
 |some (.int _)=>q18 P st s x m
 | _=>(q8q P st xt).bind fun nw=>q0P nw.1 nw.2 s x m
def q8x (P:Program) (st:TypeId):Option Nat:=
 match P.underlying st with
 |some (.slice e)=>szT P e
 | _=>none
def z2C (call:q02) (P:Program) (op:Op) (t:List AV) (m:Mem) (K:AV->Mem->R):R:=
 match op with
 | .store s a v=>(ev P t a).bind fun a=>(ev P t v).bind fun v=>(szT P s).bind fun n=>(stV m a v n).bind fun m'=>K .undef m'
 | .call {callee:=.builtin .append,args:=⟨[s,x]⟩,argTypes:=⟨[st,xt]⟩}=>
  (ev P t s).bind fun s=>(ev P t x).bind fun x=>(q4P P st xt s x m).bind fun r=>K r.1 r.2
 | .call {callee:=.builtin .copy,args:=⟨[d,x]⟩,argTypes:=⟨st::_⟩}=>
  (q8x P st).bind fun n=>(ev P t d).bind fun d=>(ev P t x).bind fun x=>(q1v n d x m).bind fun r=>K r.1 r.2
 | .mapUpdate s x k v | .insert s x k v=>
  (ev P t x).bind fun x=>(ev P t k).bind fun k=>(ev P t v).bind fun v=>(z0Q P s x k v m).bind fun m'=>K .undef m'
 | .call {callee:=.builtin .delete,args:=⟨[x,k]⟩,argTypes:=⟨s::_⟩}=>
  (ev P t x).bind fun x=>(ev P t k).bind fun k=>(z0O P s x k m).bind fun m'=>K .undef m'
 | .call {callee:=.builtin .clear,args:=⟨[x]⟩,argTypes:=⟨s::_⟩}=>
  (ev P t x).bind fun x=>(q9V P s x m).bind fun m'=>K .undef m'
 | .call {callee:=.value f,args:=⟨xs⟩,..}=>
  (ev P t f).bind fun fv=>(evs P t xs).bind fun as=>(q3P call fv as m).bind fun r=>K r.1 r.2
 | _=>none
def q58 (t:List AV) (d:Option Tmp) (v:AV):List AV:=
 match d with
 |some d=>j6w t d v
 |none=>t
def q87 (ops:List Oper) (o:Oper) (t:List AV) (yes no:R):R:=
 match o.guard with
 |none=>yes
 |some (j,want)=>match (ops[j]?).bind (·.dst) with
  |some d=>match t.getD d .undef with
   | .bool b=>if b=want then yes else no
   | .tup []=>no
   | _=>none
  |none=>none
def q3L (sk:List Tmp) (ops:List Oper) (o:Oper) (t:List AV) (yes no:List AV->R):R:=
 match o.guard with
 |none=>yes t
 |some (j,want)=>match (ops[j]?).bind (·.dst) with
  |some d=>
   if sk.contains d&&AV.beq (nth t d) (.tup []) then no t else
   match nth t d with
   | .bool true=>if want then yes (j6w t d (.bool true)) else no (j6w t d (.bool true))
   | .bool false=>if want then no (j6w t d (.bool false)) else yes (j6w t d (.bool false))
   | _=>none
  |none=>none
theorem j4R {t:List AV} {d:Nat} {v:AV} (h:t.getD d .undef=v):t.set d v=t:=by
 subst h;apply List.ext_getElem?;intro i;rw[List.getElem?_set];split
 ·rename_i e;subst e;split
  ·rename_i h;simp[List.getD_eq_getElem?_getD,xgq h]
  ·rename_i h;rw[List.getElem?_eq_none (by omega)]
 ·rfl
theorem q63 {sk:List Tmp} {ops:List Oper} {o:Oper} {t:List AV} {yes no:List AV->R} {r:AV×Mem} (h:q3L sk ops o t yes no=some r):q87 ops o t (yes t) (no t)=some r:=by
 unfold q3L at h;unfold q87;cases hg:o.guard with
 |none=>simp only[hg]at h⊢;exact h
 |some jw=>
  obtain⟨j,want⟩:=jw;simp only[hg,q70,q7k]at h⊢;cases e:(ops[j]?).bind (·.dst) with
  |none=>simp only[e]at h;cases h
  |some d=>
   simp only[e]at h⊢;split at h
   ·rename_i hs;simp only[Bool.and_eq_true]at hs;rw[AV.eq_of_beq hs.2];exact h
   ·cases hv:t.getD d .undef with
    |bool b=>
     simp only[hv]at h⊢;cases b<;>cases want<;>simp only[j4R hv]at h<;>simpa using h
    | _=>simp only[hv]at h;cases h
def j0O (sk:List Tmp) (d:Option Tmp):List Tmp:=
 match d with
 |some d=>sk.filter (· != d)
 |none=>sk
def opK (call:q02) (P:Program) (op:Op) (t:List AV) (m:Mem) (K:AV->Mem->R):R:=
 match cls P op with
 | .p=>(q5l P op t).bind fun v=>K v m
 | .r=>(q1Y P op t m).bind fun v=>K v m
 | .a=>(q25 P op t).bind fun ca=>K (ca.2 m.next) (m.lay ca.1)
 | .e=>z2C call P op t m K
def z5X (call:q02) (P:Program) (all:List Oper):List Oper->List Tmp->List AV->Mem->(List AV->Mem->R)->R
 |[],_,t,m,K=>K t m
 |o::os,sk,t,m,K=>
  q3L sk all o t
   (fun t=>opK call P o.op t m fun v m'=>z5X call P all os (j0O sk o.dst) (q58 t o.dst v) m' K)
   (fun t=>z5X call P all os (o.dst.toList++sk) (q58 t o.dst (.tup [])) m K)
structure Seen where
 rs:List (Nat×(Mem->Option AV)×AV)
 es:List (Nat×Mem)
def z5W (f:Mem->Option AV) (v:AV) (c:List Nat):List (Nat×Mem)->R->R
 |[],K=>K
 |(j,m)::es,K=>if j∈c then (if f m=some v then z5W f v c es K else none) else z5W f v c es K
def z5V (m:Mem) (c:List Nat):List (Nat×(Mem->Option AV)×AV)->R->R
 |[],K=>K
 |(j,f,v)::rs,K=>if j∈c then (if f m=some v then z5V m c rs K else none) else z5V m c rs K
def q2l (call:q02) (P:Program) (all:List Oper):List (List Nat)->List Oper->List Tmp->Nat->Seen->List AV->Mem->(List AV->Mem->R)->R
 |c::cs,o::os,sk,i,h,t,m,K=>
  q3L sk all o t
   (fun t=>match cls P o.op with
    | .p=>(q5l P o.op t).bind fun v=>q2l call P all cs os (j0O sk o.dst) (i+1) h (q58 t o.dst v) m K
    | .r=>(q1Y P o.op t m).bind fun v=>
      z5W (q1Y P o.op t) v c h.es (q2l call P all cs os (j0O sk o.dst) (i+1) ⟨(i,q1Y P o.op t,v)::h.rs,h.es⟩ (q58 t o.dst v) m K)
    | .a=>(q25 P o.op t).bind fun ca=>q2l call P all cs os (j0O sk o.dst) (i+1) h (q58 t o.dst (ca.2 m.next)) (m.lay ca.1) K
    | .e=>z2C call P o.op t m fun v m'=>
      z5V m' c h.rs (q2l call P all cs os (j0O sk o.dst) (i+1) ⟨h.rs,(i,m)::h.es⟩ (q58 t o.dst v) m' K))
   (fun t=>q2l call P all cs os (o.dst.toList++sk) (i+1) h (q58 t o.dst (.tup [])) m K)
 | _,[],_,_,_,t,m,K=>K t m
 |[],_::_,_,_,_,_,_,_=>none
inductive AI where
 |code (c:AC)
 |inBlock (id:Nat)
 |inLoop (c:AC)
 |inScope (c:AC)
 |beginRound
def q4E (id:Nat):List AI->Option (List AI)
 | .inBlock id'::k=>if id'=id then some k else q4E id k
 | _::k=>q4E id k
 |[]=>none
def mask:List Bool->List AV->List AV
 | _,[]=>[]
 |true::bs,v::vs=>v::mask bs vs
 |false::bs,_::vs=>.undef::mask bs vs
 |[],_::vs=>.undef::mask [] vs
def q0b (v:AV) (x y:R):R:=
 match v with
 | .bool true=>x
 | .bool false=>y
 | _=>none
def q0S (P:Program):List ResultVar->List AV->Mem->Option (List AV)
 |[],_,_=>some []
 | .tmp i::rs,t,m=>match q0S P rs t m with
  |some vs=>some (nth t i::vs)
  |none=>none
 | .cell a ty::rs,t,m=>match q1p P ty (nth t a) m,q0S P rs t m with
  |some v,some vs=>some (v::vs)
  | _,_=>none
def q0V:List AV->AV
 |[v]=>v
 |[]=>.undef
 |vs=>.tup vs
structure Env where
 P:Program
 B:FuncId->Option (List ResultVar×Nat×AC)
 H:FuncId->Option (List AV->Mem->R)
inductive Md where
 |fn (rs:List ResultVar)
 |rd (b:Nat)
def fin (P:Program) (md:Md) (j:Option Jmp) (t:List AV) (m:Mem):R:=
 match md with
 | .fn rs=>match j with
  |some (.exit _)=>none
  | _=>(q0S P rs t m).bind fun vs=>some (q0V vs,m)
 | .rd b=>match m.get b with
  |some (.loop l)=>some (.bool j.isNone,m.put b (some (.loop {l with state:=if j.isNone then .ready else .done,pending:=j})))
  | _=>none
def q3b (md:Md) (m:Mem):Option Mem:=
 match md with
 | .fn _=>none
 | .rd b=>match m.get b with
  |some (.loop l)=>if l.state=.ready then some (m.put b (some (.loop {l with state:=.busy}))) else none
  | _=>none
def around (md:Md) (m:Mem):Bool:=
 match md with
 | .fn _=>true
 | .rd b=>match m.get b with
  |some (.loop _)=>true
  | _=>false
def q1n (n:Nat) (m:Mem) (go:Option Jmp->Mem->R):R:=
 match m.get n with
 |some (.loop l)=>if l.state=.busy then none else go l.pending (m.put n none)
 | _=>none
def pend (j:Option Jmp) (k:List AI):List AI:=
 match j with
 |none=>k
 |some j=>.code j.code::k
def q1A (call:q02) (md:Md) (fv:AV) (l:q8j) (m:Mem) (go:Option Jmp->Mem->R):R:=
 match fv with
 | .fn (.func f) first cap=>if around md m then (call (.fn f) (first++[.yld m.next]++cap) (m.lay (.loop l))).bind fun r=>q1n m.next r.2 go else none
 | _=>none
def q15 (E:Env) (call:q02) (md:Md) (k:List AI) (t:List AV) (m:Mem) (κ:List AI->List AV->Mem->R):R:=
 match k with
 |[]=>fin E.P md none t m
 | .inBlock _::k=>κ k t m
 | .inScope _::k=>κ k t m
 | .beginRound::k=>(q3b md m).bind fun m=>κ k t m
 | .inLoop c::k=>κ (.code c::.inLoop c::k) t m
 | .code c::k=>
  match c with
  | .skip=>κ k t m
  | .region _ ops draw chk _=>if draw then q2l call E.P ops chk ops [] 0 ⟨[],[]⟩ t m (fun t m=>κ k t m) else z5X call E.P ops ops [] t m (fun t m=>κ k t m)
  | .seq a b=>κ (.code a::.code b::k) t m
  | .cond c x y=>(ev E.P t c).bind fun v=>q0b v (κ (.code x::k) t m) (κ (.code y::k) t m)
  | .block id b=>κ (.code b::.inBlock id::k) t m
  | .loop b=>κ (.code b::.inLoop b::k) t m
  | .scope b=>κ (.code b::.inScope b::k) t m
  | .rangeFunc f ps a b=>(ev E.P t f).bind fun fv=>q1A call md fv ⟨.ready,none,t,ps,a,b⟩ m fun j m=>κ (pend j k) t m
  | .exit id=>match q4E id k with
   |some k'=>κ k' t m
   |none=>fin E.P md (some (.exit id)) t m
  | .ret=>fin E.P md (some .ret) t m
  | .pt live c=>κ (.code c::k) (mask live t) m
  | .other _=>none
def goF (E:Env) (call:q02) (md:Md):Nat->List AI->List AV->Mem->R
 | 0,_,_,_=>none
 |n+1,k,t,m=>q15 E call md k t m (goF E call md n)
def z1A (ps:List Tmp) (args:List AV) (t:List AV):List AV:=(ps.zip args).foldl (fun t pa=>t.set pa.1 pa.2) t
def q3g (m:Mem) (b:Nat) (args:List AV) (go:List AI->List AV->R):R:=
 match m.get b with
 |some (.loop l)=>if args.length=l.params.length then go [.code l.assign,.beginRound,.code l.body] (z1A l.params args l.tmps) else none
 | _=>none
def q2w (E:Env):Nat->q02
 | 0,_,_,_=>none
 |n+1,tg,args,m=>
  match tg with
  | .fn f=>match E.H f with
   |some h=>h args m
   |none=>match E.B f with
    |some (rs,nt,c)=>goF E (q2w E n) (.fn rs) n [.code c] (args++List.replicate (nt-args.length) .undef) m
    |none=>none
  | .yl b=>q3g m b args fun k t=>goF E (q2w E n) (.rd b) n k t m
def goC (E:Env) (call:q02) (md:Md) (κ:List AI->List AV->Mem->R):Nat->List AI->List AV->Mem->R
 | 0,k,t,m=>κ k t m
 |n+1,k,t,m=>
  match k with
  | .code (.pt live c)::k=>κ (.code c::k) (mask live t) m
  | .code (.rangeFunc f ps a b)::k=>(ev E.P t f).bind fun fv=>q1A call md fv ⟨.ready,none,t,ps,a,b⟩ m fun j m=>κ (pend j k) t m
  |k=>q15 E call md k t m (goC E call md κ n)
def Le {α:Type} (f g:Option α):Prop:=∀r,f=some r->g=some r
theorem Le.refl {α:Type} (f:Option α):Le f f:=fun _ h=>h
theorem Le.trans {α:Type} {f g h:Option α} (a:Le f g) (b:Le g h):Le f h:=fun r e=>b r (a r e)
theorem Le.bind {α β:Type} {f g:Option α} {F G:α->Option β} (h:Le f g) (hF:∀x,Le (F x) (G x)):Le (f.bind F) (g.bind G):=by
 intro r e;cases hf:f with
 |none=>simp[hf]at e
 |some x=>rw[h x hf];rw[hf]at e;exact hF x r e
theorem Le.none {α:Type} (g:Option α):Le none g:=fun _ h=>by simp at h
def Lim {α:Type} (f:Nat->Option α) (g:Option α):Prop:=(∀n,Le (f n) g)/\∀r,g=some r->∃N,∀n,N<=n->f n=some r
theorem Lim.const {α:Type} (g:Option α):Lim (fun _=>g) g:=⟨fun _=>.refl g,fun _ h=>⟨0,fun _ _=>h⟩⟩
theorem Lim.bind {α β:Type} {f:Nat->Option α} {g:Option α} {F:Nat->α->Option β} {G:α->Option β} (h:Lim f g) (hF:∀x,Lim (fun n=>F n x) (G x)) :
  Lim (fun n=>(f n).bind (F n)) (g.bind G):=by
 refine⟨fun n=>(h.1 n).bind fun x=>(hF x).1 n,?_⟩
 intro r e;cases hg:g with
 |none=>simp[hg]at e
 |some x=>
  rw[hg]at e;obtain⟨N,hN⟩:=h.2 x hg;obtain⟨M,hM⟩:=(hF x).2 r e;refine⟨max N M,fun n hn=>?_⟩
  show (f n).bind (F n)=some r;rw[hN n (by omega)];exact hM n (by omega)
section
variable {E:Env} {P:Program}
theorem Lim.q3P {call:Nat->q02} {c:q02} (h:∀f a m,Lim (fun n=>call n f a m) (c f a m)) (fv:AV) (args:List AV) (m:Mem) :
  Lim (fun n=>Abs.q3P (call n) fv args m) (Abs.q3P c fv args m):=by
 unfold Abs.q3P;split
 ·exact h _ _ _
 ·exact h _ _ _
 ·exact .const _
theorem Lim.z2C {call:Nat->q02} {c:q02} (h:∀f a m,Lim (fun n=>call n f a m) (c f a m)) (op:Op) (t:List AV) (m:Mem)
  {K:Nat->AV->Mem->R} {K':AV->Mem->R} (hK:∀v m,Lim (fun n=>K n v m) (K' v m)) :
  Lim (fun n=>Abs.z2C (call n) P op t m (K n)) (Abs.z2C c P op t m K'):=by
 unfold Abs.z2C;split
 ·exact .bind (.const _) fun _=>.bind (.const _) fun _=>.bind (.const _) fun _=>.bind (.const _) fun _=>hK _ _
 ·exact .bind (.const _) fun _=>.bind (.const _) fun _=>.bind (.const _) fun _=>hK _ _
 ·exact .bind (.const _) fun _=>.bind (.const _) fun _=>.bind (.const _) fun _=>.bind (.const _) fun _=>hK _ _
 ·exact .bind (.const _) fun _=>.bind (.const _) fun _=>.bind (.const _) fun _=>.bind (.const _) fun _=>hK _ _
 ·exact .bind (.const _) fun _=>.bind (.const _) fun _=>.bind (.const _) fun _=>.bind (.const _) fun _=>hK _ _
 ·exact .bind (.const _) fun _=>.bind (.const _) fun _=>.bind (.const _) fun _=>hK _ _
 ·exact .bind (.const _) fun _=>.bind (.const _) fun _=>hK _ _
 ·exact .bind (.const _) fun _=>.bind (.const _) fun _=>.bind (.q3P h _ _ _) fun _=>hK _ _
 ·exact .const _
theorem Lim.q3L (sk:List Tmp) (ops:List Oper) (o:Oper) (t:List AV) {y n:Nat->List AV->R} {y' n':List AV->R} (hy:∀t,Lim (y · t) (y' t)) (hn:∀t,Lim (n · t) (n' t)) :
  Lim (fun i=>Abs.q3L sk ops o t (y i) (n i)) (Abs.q3L sk ops o t y' n'):=by
 unfold Abs.q3L;split
 ·exact hy _
 ·split
  ·split
   ·exact hn _
   ·split
    ·split
     ·exact hy _
     ·exact hn _
    ·split
     ·exact hn _
     ·exact hy _
    ·exact .const _
  ·exact .const _
theorem Lim.opK {call:Nat->q02} {c:q02} (h:∀f a m,Lim (fun n=>call n f a m) (c f a m)) (op:Op) (t:List AV) (m:Mem)
  {K:Nat->AV->Mem->R} {K':AV->Mem->R} (hK:∀v m,Lim (fun n=>K n v m) (K' v m)) :
  Lim (fun n=>Abs.opK (call n) P op t m (K n)) (Abs.opK c P op t m K'):=by
 unfold Abs.opK;split
 ·exact .bind (.const _) fun _=>hK _ _
 ·exact .bind (.const _) fun _=>hK _ _
 ·exact .bind (.const _) fun _=>hK _ _
 ·exact .z2C h _ _ _ hK
theorem Lim.z5X {call:Nat->q02} {c:q02} (h:∀f a m,Lim (fun n=>call n f a m) (c f a m)) (all:List Oper)
  {K:Nat->List AV->Mem->R} {K':List AV->Mem->R} (hK:∀v m,Lim (fun n=>K n v m) (K' v m)):∀(ops:List Oper) (sk:List Tmp) (t:List AV) (m:Mem),
  Lim (fun n=>Abs.z5X (call n) P all ops sk t m (K n)) (Abs.z5X c P all ops sk t m K')
 |[],_,_,_=>hK _ _
 |o::os,sk,t,m=>by
  simp only[Abs.z5X];exact .q3L _ _ _ _ (fun _=>.opK h _ _ _ fun _ _=>Lim.z5X h all hK os _ _ _) (fun _=>Lim.z5X h all hK os _ _ _)
theorem Lim.z5W (f:Mem->Option AV) (v:AV) (c:List Nat) {K:Nat->R} {K':R} (hK:Lim K K'):∀es,Lim (fun n=>Abs.z5W f v c es (K n)) (Abs.z5W f v c es K')
 |[]=>hK
 |(j,m)::es=>by
  simp only[Abs.z5W];split
  ·split
   ·exact Lim.z5W f v c hK es
   ·exact .const _
  ·exact Lim.z5W f v c hK es
theorem Lim.z5V (m:Mem) (c:List Nat) {K:Nat->R} {K':R} (hK:Lim K K'):∀rs,Lim (fun n=>Abs.z5V m c rs (K n)) (Abs.z5V m c rs K')
 |[]=>hK
 |(j,f,v)::rs=>by
  simp only[Abs.z5V];split
  ·split
   ·exact Lim.z5V m c hK rs
   ·exact .const _
  ·exact Lim.z5V m c hK rs
theorem Lim.q2l {call:Nat->q02} {c:q02} (h:∀f a m,Lim (fun n=>call n f a m) (c f a m)) (all:List Oper)
  {K:Nat->List AV->Mem->R} {K':List AV->Mem->R} (hK:∀v m,Lim (fun n=>K n v m) (K' v m)):∀(ops:List Oper) (cs:List (List Nat)) (sk:List Tmp) (i:Nat) (s:Seen) (t:List AV) (m:Mem),
  Lim (fun n=>Abs.q2l (call n) P all cs ops sk i s t m (K n)) (Abs.q2l c P all cs ops sk i s t m K')
 |[],cs,_,_,_,_,_=>by cases cs<;>(simp only[Abs.q2l];exact hK _ _)
 |o::os,[],_,_,_,_,_=>by simp only[Abs.q2l];exact .const _
 |o::os,c::cs,sk,i,s,t,m=>by
  simp only[Abs.q2l];refine .q3L _ _ _ _ (fun t=>?_) (fun _=>Lim.q2l h all hK os cs _ _ _ _ _)
  split
  ·exact .bind (.const _) fun _=>Lim.q2l h all hK os cs _ _ _ _ _
  ·exact .bind (.const _) fun _=>.z5W _ _ _ (Lim.q2l h all hK os cs _ _ _ _ _) _
  ·exact .bind (.const _) fun _=>Lim.q2l h all hK os cs _ _ _ _ _
  ·exact .z2C h _ _ _ fun _ _=>.z5V _ _ (Lim.q2l h all hK os cs _ _ _ _ _) _
theorem Lim.q1n (b:Nat) (m:Mem) {go:Nat->Option Jmp->Mem->R} {go':Option Jmp->Mem->R} (hg:∀j m,Lim (fun n=>go n j m) (go' j m)):Lim (fun n=>Abs.q1n b m (go n)) (Abs.q1n b m go'):=by
 unfold Abs.q1n;split
 ·split
  ·exact .const _
  ·exact hg _ _
 ·exact .const _
theorem Lim.q1A {call:Nat->q02} {c:q02} (h:∀f a m,Lim (fun n=>call n f a m) (c f a m)) (md:Md) (fv:AV) (l:q8j) (m:Mem) {go:Nat->Option Jmp->Mem->R} {go':Option Jmp->Mem->R} (hg:∀j m,Lim (fun n=>go n j m) (go' j m)) :
  Lim (fun n=>Abs.q1A (call n) md fv l m (go n)) (Abs.q1A c md fv l m go'):=by
 unfold Abs.q1A;split
 ·split
  ·exact .bind (h _ _ _) fun _=>.q1n _ _ hg
  ·exact .const _
 ·exact .const _
theorem Lim.q3g {m:Mem} {b:Nat} {args:List AV} {go:Nat->List AI->List AV->R} {go':List AI->List AV->R} (hg:∀k t,Lim (fun n=>go n k t) (go' k t)):Lim (fun n=>Abs.q3g m b args (go n)) (Abs.q3g m b args go'):=by
 unfold Abs.q3g;split
 ·split
  ·exact hg _ _
  ·exact .const _
 ·exact .const _
theorem Lim.q15 {call:Nat->q02} {c:q02} (h:∀f a m,Lim (fun n=>call n f a m) (c f a m)) (md:Md) (k:List AI) (t:List AV) (m:Mem)
  {κ:Nat->List AI->List AV->Mem->R} {κ':List AI->List AV->Mem->R} (hκ:∀k t m,Lim (fun n=>κ n k t m) (κ' k t m)) :
  Lim (fun n=>Abs.q15 E (call n) md k t m (κ n)) (Abs.q15 E c md k t m κ'):=by
 unfold Abs.q15;split
 ·exact .const _
 ·exact hκ _ _ _
 ·exact hκ _ _ _
 ·exact .bind (.const _) fun _=>hκ _ _ _
 ·exact hκ _ _ _
 ·split
  ·exact hκ _ _ _
  ·split
   ·exact .q2l h _ (fun _ _=>hκ _ _ _) _ _ _ _ _ _ _
   ·exact .z5X h _ (fun _ _=>hκ _ _ _) _ _ _ _
  ·exact hκ _ _ _
  ·refine .bind (.const _) fun v=>?_
   unfold q0b;split
   ·exact hκ _ _ _
   ·exact hκ _ _ _
   ·exact .const _
  ·exact hκ _ _ _
  ·exact hκ _ _ _
  ·exact hκ _ _ _
  ·exact .bind (.const _) fun _=>.q1A h _ _ _ _ fun _ _=>hκ _ _ _
  ·split
   ·exact hκ _ _ _
   ·exact .const _
  ·exact .const _
  ·exact hκ _ _ _
  ·exact .const _
theorem Le.z1V:∀(n:Nat),(∀f a m,Le (q2w E n f a m) (q2w E (n+1) f a m))/\∀md k t m,Le (goF E (q2w E n) md n k t m) (goF E (q2w E (n+1)) md (n+1) k t m):=by
 have step:∀{call c:q02} {κ κ':List AI->List AV->Mem->R},(∀f a m,Le (call f a m) (c f a m))->(∀k t m,Le (κ k t m) (κ' k t m))->
   ∀md k t m,Le (q15 E call md k t m κ) (q15 E c md k t m κ'):=by
  intro call c κ κ' h hκ md k t m;have hl:Lim (fun n=>q15 E (if n=0 then call else c) md k t m (if n=0 then κ else κ')) (q15 E c md k t m κ'):=by
   refine Lim.q15 (call:=fun n=>if n=0 then call else c) (κ:=fun n=>if n=0 then κ else κ') ?_ md k t m ?_
   ·intro f a m;refine⟨fun n=>?_,fun r hr=>⟨1,fun n hn=>?_⟩⟩
    ·by_cases e:n=0
     ·simp only[e,if_true];exact h _ _ _
     ·simp only[e,if_false];exact .refl _
    ·simp only[show n≠0 by omega,if_false];exact hr
   ·intro k t m;refine⟨fun n=>?_,fun r hr=>⟨1,fun n hn=>?_⟩⟩
    ·by_cases e:n=0
     ·simp only[e,if_true];exact hκ _ _ _
     ·simp only[e,if_false];exact .refl _
    ·simp only[show n≠0 by omega,if_false];exact hr
  exact hl.1 0
 intro n;have go:∀(n:Nat) {call c:q02},(∀f a m,Le (call f a m) (c f a m))->∀md j k t m,n<=j->Le (goF E call md n k t m) (goF E c md j k t m):=by
  intro n;induction n with
  |zero=>intro _ _ _ _ _ _ _ _ _;exact .none _
  |succ n ih=>
   intro call c h md j k t m hj;obtain⟨j,rfl⟩:∃i,j=i+1:=⟨j-1,by omega⟩;exact step h (fun k t m=>ih h md j k t m (by omega)) md k t m
 induction n with
 |zero=>exact⟨fun _ _ _=>.none _,fun _ _ _ _=>.none _⟩
 |succ n ih=>
  have h1:∀f a m,Le (q2w E (n+1) f a m) (q2w E (n+1+1) f a m):=by
   intro f a m;cases f with
   |fn f=>
    simp only[q2w];cases E.H f with
    |some h=>exact .refl _
    |none=>
     cases E.B f with
     |none=>exact .refl _
     |some b=>exact go n ih.1 _ _ _ _ _ (by omega)
   |yl b=>
    simp only[q2w];unfold Abs.q3g;split
    ·split
     ·exact go n ih.1 _ _ _ _ _ (by omega)
     ·exact .none _
    ·exact .none _
  exact⟨h1,fun md k t m=>go (n+1) h1 md _ k t m (by omega)⟩
open Classical in
def run (E:Env):q02:=fun f a m=>if h:∃r n,q2w E n f a m=some r then some h.choose else none
open Classical in
def go (E:Env) (md:Md) (k:List AI) (t:List AV) (m:Mem):R:=if h:∃r n,goF E (q2w E n) md n k t m=some r then some h.choose else none
theorem q53 {α:Type} {f:Nat->Option α} (h:∀n,Le (f n) (f (n+1))) (g:Option α) (hg:∀r,g=some r->∃n,f n=some r) (hg':∀n r,f n=some r->(∃r',g=some r')):Lim f g:=by
 have up:∀n j,n<=j->Le (f n) (f j):=by
  intro n j hj;induction j with
  |zero=>have:n=0:=by omega
         subst this;exact .refl _
  |succ j ih=>
   by_cases e:n=j+1
   ·subst e;exact .refl _
   ·exact(ih (by omega)).trans (h j)
 refine⟨fun n r hr=>?_,fun r hr=>?_⟩
 ·obtain⟨r',hr'⟩:=hg' n r hr;obtain⟨n',hn'⟩:=hg r' hr';have a:=up n (max n n') (by omega) r hr;have b:=up n' (max n n') (by omega) r' hn';rw[a]at b;cases b;exact hr'
 ·obtain⟨n,hn⟩:=hg r hr;exact⟨n,fun j hj=>up n j hj r hn⟩
theorem q69 (f:Tg) (a:List AV) (m:Mem):Lim (fun n=>q2w E n f a m) (run E f a m):=by
 refine q53 (fun n=>(Le.z1V n).1 f a m) _ ?_ ?_
 ·intro r hr;unfold run at hr;split at hr
  ·rename_i h;cases hr;exact h.choose_spec
  ·simp at hr
 ·intro n r hr;unfold run;rw[dif_pos ⟨r,n,hr⟩];exact⟨_,rfl⟩
theorem z4i (md:Md) (k:List AI) (t:List AV) (m:Mem):Lim (fun n=>goF E (q2w E n) md n k t m) (go E md k t m):=by
 refine q53 (fun n=>(Le.z1V n).2 md k t m) _ ?_ ?_
 ·intro r hr;unfold go at hr;split at hr
  ·rename_i h;cases hr;exact h.choose_spec
  ·simp at hr
 ·intro n r hr;unfold go;rw[dif_pos ⟨r,n,hr⟩];exact⟨_,rfl⟩
theorem Lim.unique {α:Type} {f:Nat->Option α} {g g':Option α} (h:Lim f g) (h':Lim f g'):g=g':=by
 cases hg:g with
 |some r=>obtain⟨N,hN⟩:=h.2 r hg;exact(h'.1 N r (hN N (xnr N))).symm
 |none=>
  cases hg':g' with
  |none=>rfl
  |some r=>obtain⟨N,hN⟩:=h'.2 r hg';have:=h.1 N r (hN N (xnr N));rw[hg]at this;simp at this
theorem Lim.shift {α:Type} {f:Nat->Option α} {g:Option α} (h:Lim f g):Lim (fun n=>f (n+1)) g:=
 ⟨fun n=>h.1 (n+1),fun r hr=>let ⟨N,hN⟩:=h.2 r hr;⟨N,fun n hn=>hN (n+1) (by omega)⟩⟩
theorem go_step (md:Md) (k:List AI) (t:List AV) (m:Mem):go E md k t m=q15 E (run E) md k t m (go E md):=by
 have h1:Lim (fun n=>goF E (q2w E n) md (n+1) k t m) (q15 E (run E) md k t m (go E md)):=
  Lim.q15 (call:=fun n=>q2w E n) (κ:=fun n=>goF E (q2w E n) md n) q69 md k t m (z4i md)
 have h2:Lim (fun n=>goF E (q2w E n) md (n+1) k t m) (go E md k t m):=by
  have hg:=z4i (E:=E) md k t m;have up:∀n,Le (goF E (q2w E n) md (n+1) k t m) (goF E (q2w E (n+1)) md (n+1) k t m):=by
   intro n;have hl:Lim (fun i=>goF E (if i=0 then q2w E n else q2w E (n+1)) md (n+1) k t m) (goF E (q2w E (n+1)) md (n+1) k t m):=by
    have:∀(j:Nat) k t m,Lim (fun i=>goF E (if i=0 then q2w E n else q2w E (n+1)) md j k t m) (goF E (q2w E (n+1)) md j k t m):=by
     intro j;induction j with
     |zero=>intro _ _ _;exact .const _
     |succ j ih=>
      intro k t m;refine Lim.q15 (call:=fun i=>if i=0 then q2w E n else q2w E (n+1)) (κ:=fun i=>goF E (if i=0 then q2w E n else q2w E (n+1)) md j) ?_ md k t m ih
      intro f a m;refine⟨fun i=>?_,fun r hr=>⟨1,fun i hi=>?_⟩⟩
      ·by_cases e:i=0
       ·simp only[e,if_true];exact(Le.z1V n).1 _ _ _
       ·simp only[e,if_false];exact .refl _
      ·simp only[show i≠0 by omega,if_false];exact hr
    exact this _ _ _ _
   exact hl.1 0
  have down:∀n,Le (goF E (q2w E n) md n k t m) (goF E (q2w E n) md (n+1) k t m):=by
   intro n;have:∀(j:Nat) (call:q02) k t m,Le (goF E call md j k t m) (goF E call md (j+1) k t m):=by
    intro j call;induction j with
    |zero=>intro _ _ _;exact .none _
    |succ j ih=>
     intro k t m;have hl:Lim (fun i=>q15 E call md k t m (if i=0 then goF E call md j else goF E call md (j+1))) (q15 E call md k t m (goF E call md (j+1))):=by
      refine Lim.q15 (call:=fun _=>call) (κ:=fun i=>if i=0 then goF E call md j else goF E call md (j+1)) (fun _ _ _=>.const _) md k t m ?_
      intro k t m;refine⟨fun i=>?_,fun r hr=>⟨1,fun i hi=>?_⟩⟩
      ·by_cases e:i=0
       ·simp only[e,if_true];exact ih _ _ _
       ·simp only[e,if_false];exact .refl _
      ·simp only[show i≠0 by omega,if_false];exact hr
     exact hl.1 0
   exact this n _ k t m
  refine⟨fun n=>(up n).trans (hg.1 (n+1)),fun r hr=>?_⟩
  obtain⟨N,hN⟩:=hg.2 r hr;exact⟨N,fun n hn=>down n r (hN n hn)⟩
 exact h2.unique h1
theorem q62 (md:Md):∀(j:Nat) (k:List AI) (t:List AV) (m:Mem),go E md k t m=goC E (run E) md (go E md) j k t m:=by
 intro j;induction j with
 |zero=>intro _ _ _;rfl
 |succ j ih=>
  intro k t m;rw[go_step];have hκ:go E md=goC E (run E) md (go E md) j:=by funext k t m;exact ih k t m
  unfold goC;split
  ·rfl
  ·rfl
  ·exact congrArg (fun κ=>q15 E (run E) md _ t m κ) hκ
theorem z4r {f:FuncId} {rs:List ResultVar} {nt:Nat} {c:AC} (hH:E.H f=none) (hB:E.B f=some (rs,nt,c)) (args:List AV) (m:Mem) :
  run E (.fn f) args m=go E (.fn rs) [.code c] (args++List.replicate (nt-args.length) .undef) m:=by
 have h1:Lim (fun n=>q2w E (n+1) (.fn f) args m) (run E (.fn f) args m):=(q69 (E:=E) (.fn f) args m).shift
 have h2:(fun n=>q2w E (n+1) (.fn f) args m)=fun n=>goF E (q2w E n) (.fn rs) n [.code c] (args++List.replicate (nt-args.length) .undef) m:=by
  funext n;simp only[q2w,hH,hB]
 rw[h2]at h1;exact h1.unique (z4i _ _ _ _)
theorem z1a (b:Nat) (args:List AV) (m:Mem):run E (.yl b) args m=q3g m b args fun k t=>go E (.rd b) k t m:=by
 have h1:Lim (fun n=>q2w E (n+1) (.yl b) args m) (run E (.yl b) args m):=(q69 (E:=E) (.yl b) args m).shift
 have h2:(fun n=>q2w E (n+1) (.yl b) args m)=fun n=>q3g m b args fun k t=>goF E (q2w E n) (.rd b) n k t m:=by
  funext n;simp only[q2w]
 rw[h2]at h1;exact h1.unique (Lim.q3g fun _ _=>z4i _ _ _ _)
theorem q00 {f:FuncId} {h:List AV->Mem->R} (hH:E.H f=some h) (args:List AV) (m:Mem):run E (.fn f) args m=h args m:=by
 have h1:Lim (fun n=>q2w E (n+1) (.fn f) args m) (run E (.fn f) args m):=(q69 (E:=E) (.fn f) args m).shift
 have h2:(fun n=>q2w E (n+1) (.fn f) args m)=fun _=>h args m:=by funext n;simp only[q2w,hH]
 rw[h2]at h1;exact h1.unique (.const _)
theorem j4M {f:Tg} {args:List AV} {m:Mem} {r:AV×Mem} (h:run E f args m=some r):∃n,q2w E n f args m=some r:=
 let ⟨N,hN⟩:=(q69 (E:=E) f args m).2 r h
 ⟨N,hN N (xnr N)⟩
end
end
section
open Go
structure CI where
 c:Nat
 d:Nat
 n:Nat
abbrev Phi:=Nat->Option CI
def Phi.le (p q:Phi):Prop:=∀b ci,p b=some ci->q b=some ci
def SR (p:Phi) (a:AA) (sz len cap:Nat) (ex:Bool) (v:Value):Prop:=
 ∃ci off cap',p a.b=some ci/\v=.slice (some ⟨ci.c,off,none⟩) len cap'/\len<=cap/\cap<=cap'/\(ex=true->cap'=cap)/\
  (ex=false->off+cap'*sz<=ci.n)/\(0<cap'->off=a.o+ci.d)
mutual
def VR (p:Phi):AV->Value->Prop
 | .undef,_=>True
 | .bool b,v=>v=.bool b
 | .int k n,v=>v=.int k n
 | .str s,v=>v=.string ⟨⟨s⟩⟩
 | .ptr none,v=>v=.pointer none
 | .ptr (some a),v=>∃ci,p a.b=some ci/\v=.pointer (some ⟨ci.c,a.o+ci.d,none⟩)
 | .sl none _ len cap _,v=>len=0/\cap=0/\v=.slice none 0 0
 | .sl (some a) sz len cap ex,v=>SR p a sz len cap ex v
 | .map none,v=>v=.map none
 | .map (some r),v=>∃ci,p r=some ci/\v=.map (some ci.c)
 | .fn f x y,v=>∃x' y',v=.func f ⟨x'⟩ ⟨y'⟩/\VRs p x x'/\VRs p y y'
 | .yld b,v=>∃ci,p b=some ci/\v=.func (.yield ci.c) #[] #[]
 | .nilFn,v=>v=.nilFunc
 | .iface t u,v=>∃u',v=.iface t u'/\VR p u u'
 | .nilIface,v=>v=.nilIface
 | .agg cs,v=>∃cs',v=.agg ⟨cs'⟩/\VRs p cs cs'
 | .tup vs,v=>∃vs',v=.tuple ⟨vs'⟩/\VRs p vs vs'
def VRs (p:Phi):List AV->List Value->Prop
 |[],vs=>vs=[]
 |a::as,vs=>∃v vs',vs=v::vs'/\VR p a v/\VRs p as vs'
end
mutual
theorem VR.mono {p q:Phi} (h:p.le q):∀{a:AV} {v:Value},VR p a v->VR q a v
 | .undef,_,_=>by simp[VR]
 | .bool _,_,r=>by simpa[VR]using r
 | .int ..,_,r=>by simpa[VR]using r
 | .str _,_,r=>by simpa[VR]using r
 | .ptr none,_,r=>by simpa[VR]using r
 | .ptr (some a),_,r=>by
  simp only[VR]at r⊢;obtain⟨ci,h1,h2⟩:=r;exact⟨ci,h _ _ h1,h2⟩
 | .sl none ..,_,r=>by simpa[VR]using r
 | .sl (some a) ..,_,r=>by
  simp only[VR,SR]at r⊢;obtain⟨ci,off,cap',h1,h2⟩:=r;exact⟨ci,off,cap',h _ _ h1,h2⟩
 | .map none,_,r=>by simpa[VR]using r
 | .map (some a),_,r=>by
  simp only[VR]at r⊢;obtain⟨ci,h1,h2⟩:=r;exact⟨ci,h _ _ h1,h2⟩
 | .fn f x y,_,r=>by
  simp only[VR]at r⊢;obtain⟨x',y',h1,h2,h3⟩:=r;exact⟨x',y',h1,VRs.mono h h2,VRs.mono h h3⟩
 | .yld b,_,r=>by
  simp only[VR]at r⊢;obtain⟨ci,h1,h2⟩:=r;exact⟨ci,h _ _ h1,h2⟩
 | .nilFn,_,r=>by simpa[VR]using r
 | .iface t u,_,r=>by
  simp only[VR]at r⊢;obtain⟨u',h1,h2⟩:=r;exact⟨u',h1,VR.mono h h2⟩
 | .nilIface,_,r=>by simpa[VR]using r
 | .agg cs,_,r=>by
  simp only[VR]at r⊢;obtain⟨u',h1,h2⟩:=r;exact⟨u',h1,VRs.mono h h2⟩
 | .tup cs,_,r=>by
  simp only[VR]at r⊢;obtain⟨u',h1,h2⟩:=r;exact⟨u',h1,VRs.mono h h2⟩
theorem VRs.mono {p q:Phi} (h:p.le q):∀{a:List AV} {v:List Value},VRs p a v->VRs q a v
 |[],_,r=>by simpa[VRs]using r
 |a::as,_,r=>by
  simp only[VRs]at r⊢;obtain⟨v,vs,h1,h2,h3⟩:=r;exact⟨v,vs,h1,VR.mono h h2,VRs.mono h h3⟩
end
section lists
variable {p:Phi}
theorem VRs.length:∀{as:List AV} {vs:List Value},VRs p as vs->vs.length=as.length
 |[],_,h=>by simp only[VRs]at h;simp[h]
 |a::as,_,h=>by
  simp only[VRs]at h;obtain⟨v,vs,rfl,_,h⟩:=h;simp[VRs.length h]
theorem VRs.get:∀{as:List AV} {vs:List Value},VRs p as vs->∀{i:Nat} {a:AV},as[i]? = some a->∃v,vs[i]? = some v/\VR p a v
 |[],_,_,i,a,e=>by simp at e
 |a::as,_,h,i,x,e=>by
  simp only[VRs]at h;obtain⟨v,vs,rfl,h1,h2⟩:=h;cases i with
  |zero=>simp at e;subst e;exact⟨v,by simp,h1⟩
  |succ i=>simp only[xgs]at e⊢;exact VRs.get h2 e
theorem VRs.q71:∀{as:List AV} {vs:List Value},vs.length=as.length->(∀(i:Nat) a,as[i]? = some a->∃v,vs[i]? = some v/\VR p a v)->VRs p as vs
 |[],vs,h,_=>by simp only[VRs];simpa using h
 |a::as,[],h,_=>by simp at h
 |a::as,v::vs,h,hg=>by
  simp only[VRs];refine⟨v,vs,rfl,?_,VRs.q71 (by simpa using h) fun i x e=>?_⟩
  ·obtain⟨v',e,r⟩:=hg 0 a (by simp);simp at e;subst e;exact r
  ·obtain⟨v',e',r⟩:=hg (i+1) x (by simpa using e);exact⟨v',by simpa using e',r⟩
theorem VRs.append {as bs:List AV} {vs us:List Value} (h:VRs p as vs) (h':VRs p bs us):VRs p (as++bs) (vs++us):=by
 induction as generalizing vs with
 |nil=>simp only[VRs]at h;subst h;simpa using h'
 |cons a as ih=>
  simp only[VRs]at h;obtain⟨v,vs,rfl,h1,h2⟩:=h;simp only[List.cons_append,VRs];exact⟨v,vs++us,rfl,h1,ih h2⟩
theorem VRs.take {as:List AV} {vs:List Value} (h:VRs p as vs) (n:Nat):VRs p (as.take n) (vs.take n):=by
 induction as generalizing vs n with
 |nil=>simp only[VRs]at h;subst h;simp[VRs]
 |cons a as ih=>
  simp only[VRs]at h;obtain⟨v,vs,rfl,h1,h2⟩:=h;cases n with
  |zero=>simp[VRs]
  |succ n=>simp only[List.take_succ_cons,VRs];exact⟨v,_,rfl,h1,ih h2 n⟩
theorem VRs.drop {as:List AV} {vs:List Value} (h:VRs p as vs) (n:Nat):VRs p (as.drop n) (vs.drop n):=by
 induction as generalizing vs n with
 |nil=>simp only[VRs]at h;subst h;simp[VRs]
 |cons a as ih=>
  simp only[VRs]at h;obtain⟨v,vs,rfl,h1,h2⟩:=h;cases n with
  |zero=>simp only[List.drop_zero,VRs];exact⟨v,vs,rfl,h1,h2⟩
  |succ n=>simp only[List.drop_succ_cons];exact ih h2 n
theorem VRs.set {as:List AV} {vs:List Value} (h:VRs p as vs) (i:Nat) {a:AV} {v:Value} (hv:VR p a v):VRs p (as.set i a) (vs.set i v):=by
 induction as generalizing vs i with
 |nil=>simp only[VRs]at h;subst h;simp[VRs]
 |cons b as ih=>
  simp only[VRs]at h;obtain⟨u,vs,rfl,h1,h2⟩:=h;cases i with
  |zero=>simp only[List.set_cons_zero,VRs];exact⟨v,vs,rfl,hv,h2⟩
  |succ i=>simp only[List.set_cons_succ,VRs];exact⟨u,_,rfl,h1,ih h2 i⟩
theorem VRs.replicate (n:Nat) {a:AV} {v:Value} (h:VR p a v):VRs p (List.replicate n a) (List.replicate n v):=by
 induction n with
 |zero=>simp[VRs]
 |succ n ih=>simp only[List.replicate_succ,VRs];exact⟨v,_,rfl,h,ih⟩
theorem VRs.flat {as:List AV} {vs:List Value} (h:VRs p as vs) (n:Nat):VRs p (List.replicate n as).flatten (List.replicate n vs).flatten:=by
 induction n with
 |zero=>simp[VRs]
 |succ n ih=>simp only[List.replicate_succ,List.flatten_cons];exact h.append ih
theorem VR.one {a:AV} {v:Value} (h:VR p a v) (h1:a.one=true):v.oneCell'=true/\v.cells=#[v]:=by
 cases a with
 |undef|agg _|tup _=>simp[AV.one]at h1
 |ptr x=>cases x<;>simp only[VR]at h<;>(first|subst h;exact⟨rfl,rfl⟩|(obtain⟨_,_,rfl⟩:=h;exact⟨rfl,rfl⟩))
 |map x=>cases x<;>simp only[VR]at h<;>(first|subst h;exact⟨rfl,rfl⟩|(obtain⟨_,_,rfl⟩:=h;exact⟨rfl,rfl⟩))
 |sl x sz l c e=>
  cases x with
  |none=>simp only[VR]at h;obtain⟨_,_,rfl⟩:=h;exact⟨rfl,rfl⟩
  |some x=>simp only[VR,SR]at h;obtain⟨_,_,_,_,rfl,_⟩:=h;exact⟨rfl,rfl⟩
 |fn f x y=>simp only[VR]at h;obtain⟨_,_,rfl,_⟩:=h;exact⟨rfl,rfl⟩
 |yld b=>simp only[VR]at h;obtain⟨_,_,rfl⟩:=h;exact⟨rfl,rfl⟩
 |iface t u=>simp only[VR]at h;obtain⟨_,rfl,_⟩:=h;exact⟨rfl,rfl⟩
 |bool _|int _ _|str _|nilFn|nilIface=>simp only[VR]at h;subst h;exact⟨rfl,rfl⟩
theorem VRs.ones {as:List AV} {vs:List Value} (h:VRs p as vs) (h1:as.all AV.one=true):∀v∈vs,v.oneCell'=true:=by
 induction as generalizing vs with
 |nil=>simp only[VRs]at h;subst h;simp
 |cons a as ih=>
  simp only[VRs]at h;obtain⟨v,vs,rfl,h2,h3⟩:=h;simp only[List.all_cons,Bool.and_eq_true]at h1;intro u hu;cases hu with
  |head=>exact(h2.one h1.1).1
  |tail _ hu=>exact ih h3 h1.2 u hu
theorem VR.cells {a:AV} {v:Value} (h:VR p a v) {cs:List AV} (hc:a.cells=some cs):∃vs,v.cells=⟨vs⟩/\VRs p cs vs/\cs.all AV.one=true:=by
 cases a with
 |undef|tup _=>simp[AV.cells]at hc
 |agg xs=>
  simp only[AV.cells]at hc;split at hc
  ·rename_i h1;cases hc;simp only[VR]at h;obtain⟨vs,rfl,h2⟩:=h;exact⟨vs,rfl,h2,h1⟩
  ·simp at hc
 | _=>
  simp only[AV.cells,xoi]at hc;subst hc;have h1:=h.one rfl;exact⟨[v],by rw[h1.2],by simp only[VRs];exact⟨v,[],rfl,h,rfl⟩,rfl⟩
end lists
theorem z9Y (p:Phi):∀{v:Value} {a:AV},ofV.ofPart v=some a->VR p a v:=by
 intro v a h;cases v with
 |string s=>simp only[ofV.ofPart,xoi]at h;subst h;cases s;rename_i d;cases d;simp[VR]
 |pointer x=>cases x<;>simp only[ofV.ofPart]at h<;>cases h;simp[VR]
 |slice x l c=>
  cases x with
  |some _=>simp[ofV.ofPart]at h
  |none=>cases l<;>cases c<;>simp only[ofV.ofPart]at h<;>cases h;simp[VR]
 |map x=>cases x<;>simp only[ofV.ofPart]at h<;>cases h;simp[VR]
 | _=>simp only[ofV.ofPart]at h<;>cases h<;>simp[VR]
theorem q7e (p:Phi):∀{vs:List Value} {as:List AV},ofV.ofParts vs=some as->VRs p as vs
 |[],as,h=>by simp only[ofV.ofParts,xoi]at h;subst h;simp[VRs]
 |v::vs,as,h=>by
  simp only[ofV.ofParts]at h;split at h
  ·rename_i a as' h1 h2;cases h;simp only[VRs];exact⟨v,vs,rfl,z9Y p h1,q7e p h2⟩
  ·simp at h
theorem z9Z (p:Phi) {v:Value} {a:AV} (h:ofV v=some a):VR p a v:=by
 cases v with
 |string s=>simp only[ofV,xoi]at h;subst h;cases s;rename_i d;cases d;simp[VR]
 |pointer x=>cases x<;>simp only[ofV]at h<;>cases h;simp[VR]
 |slice x l c=>
  cases x with
  |some _=>simp[ofV]at h
  |none=>cases l<;>cases c<;>simp only[ofV]at h<;>cases h;simp[VR]
 |map x=>cases x<;>simp only[ofV]at h<;>cases h;simp[VR]
 |func f x y=>
  cases x;rename_i x;cases y;rename_i y;cases x<;>cases y<;>simp only[ofV]at h<;>cases h;simp[VR,VRs]
 |agg cs=>
  cases cs;rename_i cs;simp only[ofV,xoe]at h;obtain⟨as,h1,rfl⟩:=h;simp only[VR];exact⟨cs,rfl,q7e p h1⟩
 | _=>simp only[ofV]at h<;>cases h<;>simp[VR]
def q2m (o:Oper):List Nat:=o.after.toList.filterMap fun e=>if Region.binds .any e then some e.on else none
def z4l (P:Program) (all:List Oper) (anc chk:List (List Nat)) (i j:Nat) (oi oj:Oper):Bool:=
 (anc.getD j []).contains i||
 (Oper.apart ⟨all⟩ oi oj&&!(decide (cls P oi.op=.e)&&decide (cls P oj.op=.e))&&
  (!((decide (cls P oi.op=.r)&&decide (cls P oj.op=.e))||(decide (cls P oi.op=.e)&&decide (cls P oj.op=.r)))||(chk.getD j []).contains i))
def z2y (anc:List (List Nat)) (j:Nat) (o:Oper):Bool:=
 (q2m o).all (fun e=>decide (e<j))&&
 (anc.getD j []).all (fun x=>(q2m o).contains x||(q2m o).any fun e=>(anc.getD e []).contains x)&&
 (match o.guard with|none=>true|some (g,_)=>(q2m o).contains g)
def rowOk (P:Program) (all:List Oper) (anc chk:List (List Nat)) (j:Nat):Bool:=
 match all[j]? with
 |some oj=>z2y anc j oj&&(List.range j).all fun i=>match all[i]? with
  |some oi=>z4l P all anc chk i j oi oj
  |none=>true
 |none=>true
def rOk (P:Program) (all:List Oper) (anc chk:List (List Nat)):Bool:=(List.range all.length).all (rowOk P all anc chk)
def AC.ok (P:Program):AC->Bool
 | .region _ ops draw chk anc=>!draw||(rOk P ops anc chk&&decide (chk.length=ops.length))
 | .seq a b=>a.ok P&&b.ok P
 | .cond _ x y=>x.ok P&&y.ok P
 | .block _ b=>b.ok P
 | .loop b=>b.ok P
 | .rangeFunc _ _ a b=>a.ok P&&b.ok P
 | .scope b=>b.ok P
 | .pt _ c=>c.ok P
 | _=>true
def ER (p:Phi):List (AV×AV)->List MapEntry->Prop
 |[],es=>es=[]
 |(k,v)::l,es=>∃e es',es=e::es'/\VR p k e.key/\VR p v e.val/\ER p l es'
theorem ER.mono {p q:Phi} (h:p.le q):∀{l:List (AV×AV)} {es:List MapEntry},ER p l es->ER q l es
 |[],_,r=>by simpa[ER]using r
 |(k,v)::l,_,r=>by
  simp only[ER]at r⊢;obtain⟨e,es,h1,h2,h3,h4⟩:=r;exact⟨e,es,h1,h2.mono h,h3.mono h,ER.mono h h4⟩
def BR (P:Program) (p:Phi) (ci:CI):Blk->Obj->Prop
 | .cells cs ro,o=>∃arr el fr,o=.cells arr el fr/\arr.size=ci.n/\(ro=false->∀i,¬(fr.1<=i/\i<fr.2))/\∀(i:Nat) a,cs[i]? = some a->∃v,arr[ci.d+i]? = some v/\VR p a v
 | .loop l,o=>∃fn vs d,o=.loop ⟨l.state,l.pending.map fun j=>j.code.erase,fn,⟨vs⟩,⟨l.params⟩,l.assign.erase,l.body.erase,d⟩/\VRs p l.tmps vs/\l.assign.ok P=true/\l.body.ok P=true
 | .map es,o=>∃ces clock,o=.map ces clock/\(∃l,l.Perm es/\ER p l ces.toList)/\(ces.toList.map (·.born)).Nodup/\∀e∈ces.toList,e.born<clock
theorem BR.mono {P:Program} {p q:Phi} (h:p.le q) {ci:CI}:∀{b:Blk} {o:Obj},BR P p ci b o->BR P q ci b o
 | .cells _cs _ro,_o,⟨arr,el,fr,h1,h2,h3,h4⟩=>⟨arr,el,fr,h1,h2,h3,fun i a hi=>let ⟨v,x,y⟩:=h4 i a hi;⟨v,x,y.mono h⟩⟩
 | .loop _l,_o,⟨fn,vs,d,h1,h2,h3⟩=>⟨fn,vs,d,h1,h2.mono h,h3⟩
 | .map _es,_o,⟨ces,clock,h1,⟨l,h2,h3⟩,h4⟩=>⟨ces,clock,h1,⟨l,h2,h3.mono h⟩,h4⟩
structure MR (P:Program) (p:Phi) (m:Mem) (w:World):Prop where
 has:∀b v ci,m.get b=some v->p b=some ci->∃o,w.heap[ci.c]? = some o/\BR P p ci v o
 inj:∀b ci b2 ci2,(m.get b).isSome=true->p b=some ci->p b2=some ci2->ci.c=ci2.c->b=b2\/(b2<m.next/\m.get b2=none)
 bnd:∀b ci,p b=some ci->ci.c<w.heap.size
 q2O:∀g,g<P.globals.size->∃n,p g=some ⟨g,0,n⟩
theorem MR.live {P:Program} {p:Phi} {m:Mem} {w:World} (h:MR P p m w) (b:Nat) (cs:List AV) (ro:Bool) (ci:CI) (hb:m.get b=some (.cells cs ro)) (hp:p b=some ci) :
  ∃arr el fr,w.heap[ci.c]? = some (.cells arr el fr)/\arr.size=ci.n/\(ro=false->∀i,¬(fr.1<=i/\i<fr.2))/\∀(i:Nat) a,cs[i]? = some a->∃v,arr[ci.d+i]? = some v/\VR p a v:=by
 obtain⟨o,h1,arr,el,fr,rfl,h2⟩:=h.has b _ ci hb hp;exact⟨arr,el,fr,h1,h2⟩
structure Sim (P:Program) (p:Phi) (m:Mem) (w:World) (p':Phi) (m':Mem) (w':World):Prop where
 le:p.le p'
 out:∀b,¬(m.next<=b/\b<m'.next)->p' b=p b
 next:m.next<=m'.next
 rel:MR P p' m' w'
 q34:∀b,b<m.next->p b=none->m'.get b=m.get b
 dead:∀b,b<m.next->m.get b=none->m'.get b=none
 q28:∀c,c<w.heap.size->(∀b ci,(m.get b).isSome=true->p b=some ci->ci.c≠c)->w'.heap[c]? = w.heap[c]?
 fresh:∀b ci,m.next<=b->b<m'.next->p' b=some ci->w.heap.size<=ci.c\/∃b0 ci0,(m.get b0).isSome=true/\p b0=some ci0/\ci0.c=ci.c
 ro:∀b cs ci,m.get b=some (.cells cs true)->p b=some ci->m'.get b=some (.cells cs true)/\w'.heap[ci.c]? = w.heap[ci.c]?
 size:w.heap.size<=w'.heap.size
 os:w'.os=w.os
 output:w'.output=w.output
 tape:w'.tape=w.tape
def q5x (p:Phi) (lo hi:Nat):Prop:=∀b,lo<=b->b<hi->p b=none
theorem Sim.refl {P:Program} {p:Phi} {m:Mem} {w:World} (h:MR P p m w):Sim P p m w p m w where
 le:=fun _ _ h=>h
 out:=fun _ _=>rfl
 next:=xnr _
 rel:=h
 q34:=fun _ _ _=>rfl
 dead:=fun _ _ h=>h
 q28:=fun _ _ _=>rfl
 fresh:=fun b ci h1 h2=>by omega
 ro:=fun _ _ _ h _=>⟨h,rfl⟩
 size:=xnr _
 os:=rfl
 output:=rfl
 tape:=rfl
theorem Sim.trans {P:Program} {p p1 p2:Phi} {m m1 m2:Mem} {w w1 w2:World} (a:Sim P p m w p1 m1 w1) (b:Sim P p1 m1 w1 p2 m2 w2) (_hf:q5x p m.next m2.next) :
  Sim P p m w p2 m2 w2 where
 le:=fun x ci h=>b.le x ci (a.le x ci h)
 out:=fun x h=>by
  rw[b.out x (by have:=a.next;omega),a.out x (by have:=b.next;omega)]
 next:=xnt0 a.next b.next
 rel:=b.rel
 q34:=fun x h1 h2=>by
  have e:p1 x=p x:=a.out x (by omega);rw[b.q34 x (by have:=a.next;omega) (by rw[e,h2]),a.q34 x h1 h2]
 dead:=fun x h1 h2=>b.dead x (by have:=a.next;omega) (a.dead x h1 h2)
 q28:=fun c h1 h2=>by
  rw[b.q28 c (by have:=a.size;omega) ?_,a.q28 c h1 h2];intro x ci h3 h4 e;by_cases hx:x<m.next
  ·have e1:p1 x=p x:=a.out x (by omega);refine h2 x ci ?_ (e1▸h4) e;cases hm:m.get x with
   |some _=>rfl
   |none=>rw[a.dead x hx hm]at h3;simp at h3
  ·by_cases hx1:x<m1.next
   ·rcases a.fresh x ci (by omega) hx1 h4 with h|⟨b0,ci0,h5,h6,h7⟩
    ·omega
    ·exact h2 b0 ci0 h5 h6 (h7.trans e)
   ·rw[Mem.q7T (by omega)]at h3;simp at h3
 fresh:=fun x ci h1 h2 h3=>by
  by_cases hx1:x<m1.next
  ·have e1:p2 x=p1 x:=b.out x (by omega);exact a.fresh x ci h1 hx1 (e1▸h3)
  ·rcases b.fresh x ci (by omega) h2 h3 with h|⟨b0,ci0,h5,h6,h7⟩
   ·left;have:=a.size;omega
   ·by_cases hx:b0<m.next
    ·have e1:p1 b0=p b0:=a.out b0 (by omega);right;refine⟨b0,ci0,?_,e1▸h6,h7⟩;cases hm:m.get b0 with
     |some _=>rfl
     |none=>rw[a.dead b0 hx hm]at h5;simp at h5
    ·by_cases hb1:b0<m1.next
     ·rcases a.fresh b0 ci0 (by omega) hb1 h6 with h|⟨b9,ci9,h8,h9,h10⟩
      ·left;omega
      ·right;exact⟨b9,ci9,h8,h9,h10.trans h7⟩
     ·rw[Mem.q7T (by omega)]at h5;simp at h5
 ro:=fun x cs ci h1 h2=>by
  obtain⟨h3,h4⟩:=a.ro x cs ci h1 h2;obtain⟨h5,h6⟩:=b.ro x cs ci h3 (a.le x ci h2);exact⟨h5,h6.trans h4⟩
 size:=xnt0 a.size b.size
 os:=b.os.trans a.os
 output:=b.output.trans a.output
 tape:=b.tape.trans a.tape
theorem q5x.step {P:Program} {p p1:Phi} {m m1:Mem} {w w1:World} (a:Sim P p m w p1 m1 w1) {hi:Nat} (hf:q5x p m.next hi):q5x p1 m1.next hi:=by
 intro b h1 h2;rw[a.out b (by omega)];exact hf b (by have:=a.next;omega) h2
theorem q5x.sub {p:Phi} {lo hi lo' hi':Nat} (hf:q5x p lo hi) (h1:lo<=lo') (h2:hi'<=hi):q5x p lo' hi':=fun b a c=>hf b (by omega) (by omega)
theorem MR.of_heap {P:Program} {p:Phi} {m:Mem} {w w':World} (h:MR P p m w) (e:w'.heap=w.heap):MR P p m w' where
 has:=fun b v ci h1 h2=>by rw[e];exact h.has b v ci h1 h2
 inj:=h.inj
 bnd:=fun b ci h1=>by rw[e];exact h.bnd b ci h1
 q2O:=h.q2O
theorem Sim.of_heap {P:Program} {p:Phi} {m:Mem} {w w':World} (h:MR P p m w) (e:w'.heap=w.heap) (e1:w'.os=w.os) (e2:w'.output=w.output) (e3:w'.tape=w.tape):Sim P p m w p m w' where
 le:=fun _ _ h=>h
 out:=fun _ _=>rfl
 next:=xnr _
 rel:=h.of_heap e
 q34:=fun _ _ _=>rfl
 dead:=fun _ _ h=>h
 q28:=fun c _ _=>by rw[e]
 fresh:=fun b ci h1 h2=>by omega
 ro:=fun _ _ _ h _=>⟨h,by rw[e]⟩
 size:=by rw[e];exact xnr _
 os:=e1
 output:=e2
 tape:=e3
theorem Sim.lay {P:Program} {p:Phi} {m:Mem} {w w':World} (h:MR P p m w) (hfree:p m.next=none) {v:Blk} {o:Obj} {c n:Nat} (hc:w.heap.size<=c) (hco:w'.heap[c]? = some o) (hk:∀i,i<w.heap.size->w'.heap[i]? = w.heap[i]?)
  (hsz:w.heap.size<=w'.heap.size) (e1:w'.os=w.os) (e2:w'.output=w.output) (e3:w'.tape=w.tape) (hv:∀q:Phi,p.le q->BR P q ⟨c,0,n⟩ v o) :
  Sim P p m w (fun b=>if b=m.next then some ⟨c,0,n⟩ else p b) (m.lay v) w':=by
 have hle:p.le (fun b=>if b=m.next then some ⟨c,0,n⟩ else p b):=by
  intro b ci hb;by_cases e:b=m.next
  ·subst e;rw[hfree]at hb;simp at hb
  ·simp[e,hb]
 have hcs:c<w'.heap.size:=(Array.getElem?_eq_some_iff.1 hco).1;refine⟨hle,?_,by simp,⟨?_,?_,?_,?_⟩,?_,?_,?_,?_,fun b cs2 ci h1 h2=>⟨by rw[Mem.q0E,if_neg (by have:=Mem.q0v h1;omega)];exact h1,hk _ (h.bnd b ci h2)⟩,hsz,e1,e2,e3⟩
 ·intro b hb;by_cases e:b=m.next
  ·exact absurd ⟨by omega,by simp;omega⟩ hb
  ·simp[e]
 ·intro b v' ci h1 h2;rw[Mem.q0E]at h1;by_cases e:b=m.next
  ·subst e;simp only[if_true]at h1 h2;cases h1;cases h2;exact⟨o,hco,hv _ hle⟩
  ·rw[if_neg e]at h1;simp only[if_neg e]at h2;obtain⟨o',h3,h4⟩:=h.has b v' ci h1 h2;exact⟨o',by rw[hk _ (h.bnd b ci h2)];exact h3,h4.mono hle⟩
 ·intro b ci b2 ci2 h1 h2 h3 h4;rw[Mem.q0E]at h1;by_cases e:b=m.next
  ·subst e;simp only[if_true]at h2;cases h2;by_cases e2:b2=m.next
   ·exact .inl e2.symm
   ·simp only[if_neg e2]at h3;have:=h.bnd b2 ci2 h3;simp only at h4;omega
  ·rw[if_neg e]at h1;rw[if_neg e]at h2;by_cases e2:b2=m.next
   ·subst e2;simp only[if_true]at h3;cases h3;have:=h.bnd b ci h2;simp only at h4;omega
   ·simp only[if_neg e2]at h3;rcases h.inj b ci b2 ci2 h1 h2 h3 h4 with h5|⟨h5,h6⟩
    ·exact .inl h5
    ·right;refine⟨by simp;omega,?_⟩;rw[Mem.q0E,if_neg e2];exact h6
 ·intro b ci hb;by_cases e:b=m.next
  ·simp only[e,if_true]at hb;cases hb;exact hcs
  ·simp only[if_neg e]at hb;have:=h.bnd b ci hb;omega
 ·intro g hg;obtain⟨n,hn⟩:=h.q2O g hg;exact⟨n,hle _ _ hn⟩
 ·intro b hb _;rw[Mem.q0E,if_neg (by omega)]
 ·intro b hb hd;rw[Mem.q0E,if_neg (by omega)];exact hd
 ·intro c hc _;exact hk c hc
 ·intro b ci h1 h2 h3;simp only[Mem.q0q]at h2;have e:b=m.next:=by omega
  simp only[e,if_true]at h3;cases h3;exact .inl hc
theorem Sim.alloc {P:Program} {p:Phi} {m:Mem} {w w':World} (h:MR P p m w) (_hG:P.globals.size<=m.next) (hfree:p m.next=none) {cs:List AV} {arr:Array Value} {el:TypeId} {fr:Nat×Nat}
  (hw:w'.heap=w.heap.push (.cells arr el fr)) (e1:w'.os=w.os) (e2:w'.output=w.output) (e3:w'.tape=w.tape)
  (hfr:∀i,¬(fr.1<=i/\i<fr.2)) (hcs:∀(i:Nat) a,cs[i]? = some a->∃v,arr[i]? = some v/\VR p a v) :
  Sim P p m w (fun b=>if b=m.next then some ⟨w.heap.size,0,arr.size⟩ else p b) (m.alloc cs) w':=
 Sim.lay h hfree (xnr _) (by rw[hw];simp) (fun i hi=>by rw[hw,Array.getElem?_push_lt hi,<-Array.getElem?_eq_getElem]) (by rw[hw];simp) e1 e2 e3
  fun q hq=>⟨arr,el,fr,rfl,rfl,fun _=>hfr,fun i a hi=>let ⟨v,x,y⟩:=hcs i a hi;⟨v,by simpa using x,y.mono hq⟩⟩
theorem Sim.j0T {P:Program} {p:Phi} {m:Mem} {w w':World} (h:MR P p m w) {b:Nat} {v0:Blk} {v:Option Blk} {ci:CI} (hb:m.get b=some v0) (hro:∀cs,v0≠.cells cs true) (hp:p b=some ci) {o:Obj} (ho:w'.heap[ci.c]? = some o)
  (hk:∀c,c≠ci.c->w'.heap[c]? = w.heap[c]?) (hsz:w'.heap.size=w.heap.size) (e1:w'.os=w.os) (e2:w'.output=w.output) (e3:w'.tape=w.tape) (hv:∀x,v=some x->BR P p ci x o) :
  Sim P p m w p (m.put b v) w':=by
 have hbl:=Mem.q0v hb;have hne:∀b2 v2 ci2,b2≠b->m.get b2=some v2->p b2=some ci2->ci2.c≠ci.c:=by
  intro b2 v2 ci2 e h1 h2 ec;rcases h.inj b2 ci2 b ci (by rw[h1];rfl) h2 hp ec with e'|⟨_,e'⟩
  ·exact e e'
  ·rw[hb]at e';simp at e'
 have hg:∀b2,b2≠b->(m.put b v).get b2=m.get b2:=fun b2 e=>by rw[Mem.get_put,if_neg (fun x=>e x.1)]
 have hgb:(m.put b v).get b=v:=by rw[Mem.get_put,if_pos ⟨rfl,hbl⟩]
 refine⟨fun _ _ h=>h,fun _ _=>rfl,by simp,⟨?_,?_,fun b2 ci2 h2=>by rw[hsz];exact h.bnd b2 ci2 h2,h.q2O⟩,?_,?_,?_,?_,?_,by omega,e1,e2,e3⟩
 ·intro b2 v2 ci2 h1 h2;by_cases e:b2=b
  ·subst e;rw[hgb]at h1;rw[hp]at h2;cases h2;exact⟨o,ho,hv _ h1⟩
  ·rw[hg b2 e]at h1;obtain⟨o',h3,h4⟩:=h.has b2 v2 ci2 h1 h2;exact⟨o',by rw[hk _ (hne b2 v2 ci2 e h1 h2)];exact h3,h4⟩
 ·intro b2 ci2 b3 ci3 h1 h2 h3 h4;by_cases e:b2=b
  ·subst e;rcases h.inj b2 ci2 b3 ci3 (by rw[hb];rfl) h2 h3 h4 with e'|⟨e1,e2⟩
   ·exact .inl e'
   ·by_cases e3:b3=b2
    ·exact .inl e3.symm
    ·right;exact⟨by simpa using e1,by rw[hg b3 e3];exact e2⟩
  ·rw[hg b2 e]at h1;rcases h.inj b2 ci2 b3 ci3 h1 h2 h3 h4 with e'|⟨e1,e2⟩
   ·exact .inl e'
   ·by_cases e3:b3=b
    ·subst e3;rw[hb]at e2;simp at e2
    ·right;exact⟨by simpa using e1,by rw[hg b3 e3];exact e2⟩
 ·intro b2 h1 h2;refine hg b2 ?_;rintro rfl;rw[hp]at h2;cases h2
 ·intro b2 h1 h2;by_cases e:b2=b
  ·subst e;rw[hb]at h2;cases h2
  ·rw[hg b2 e];exact h2
 ·intro c h1 h2;exact hk c fun e=>h2 b ci (by rw[hb];rfl) hp e.symm
 ·intro b2 ci2 h1 h2 h3;simp at h2;omega
 ·intro b2 cs2 ci2 h1 h2;have e:b2≠b:=by rintro rfl;rw[hb]at h1;cases h1;exact hro _ rfl
  exact⟨by rw[hg b2 e];exact h1,hk _ (hne b2 _ ci2 e h1 h2)⟩
end
end Go.Abs
