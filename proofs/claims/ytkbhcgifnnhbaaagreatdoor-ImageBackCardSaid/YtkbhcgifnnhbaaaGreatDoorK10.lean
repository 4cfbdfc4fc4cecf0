/- Texts of one claim, put together. -/
import Derived.Test.YtkbhcgifnnhbaaaGreatDoorK9
namespace Go.Abs
open Go
noncomputable section
inductive SV where
 |c (a:AV)
 |d (a:AV)
def SV.v:SV->AV
 | .c a=>a
 | .d a=>a
abbrev Ev:=List (Nat×SV)
def a2c {α:Type} (i:Nat) (K:SV->α):Ev->α
 |[]=>K (.c .undef)
 |(j,v)::l=>match Nat.beq j i with
  |true=>K v
  |false=>a2c i K l
def fnd (i:Nat) (e:Ev):SV:=a2c i (fun v=>v) e
theorem q82 {α:Type} (i:Nat) (K:SV->α):∀e:Ev,a2c i K e=K (fnd i e)
 |[]=>rfl
 |(j,v)::l=>by
  unfold fnd a2c;cases Nat.beq j i with
  |true=>rfl
  |false=>exact q82 i K l
theorem z1F (i j:Nat) (v:SV) (e:Ev):fnd i ((j,v)::e)=if j=i then v else fnd i e:=by
 show (match Nat.beq j i with|true=>v|false=>a2c i (fun v=>v) e)=_
 rw[a0L];by_cases h:j=i
 ·rw[dt h,xAb h]
 ·rw[df h,xAa h];rfl
structure Ops where
 P:Program
 nat:Nat->Nat
 pick:AV->AV->AV->Option AV
 nn:AV->Option AV
 bin:BinOp->Nat->AV->AV->Option AV
 un:UnOp->AV->Option AV
 conv:Nat->Nat->AV->Option AV
 fa:Nat->Nat->AV->Option AV
 fi:Nat->Nat->AV->Option AV
 ia:Nat->AV->AV->Option AV
 ix:Nat->AV->AV->Option AV
 s00:Nat->AV->Option AV
 s10:Nat->AV->AV->Option AV
 s01:Nat->AV->AV->Option AV
 s11:Nat->AV->AV->AV->Option AV
 s30:Nat->AV->AV->AV->Option AV
 s31:Nat->AV->AV->AV->AV->Option AV
 ext:Nat->AV->Option AV
 mi:Nat->AV->Option AV
 bld:Nat->List (Nat×AV)->Option AV
 len:Nat->AV->Option AV
 cap:Nat->AV->Option AV
 mn:AV->AV->Option AV
 mx:AV->AV->Option AV
 ld:Nat->AV->Mem->Option AV
 ts:Nat->AV->Mem->Option AV
 ent:AV->Mem->Option AV
 lk:Nat->Bool->AV->AV->Mem->Option AV
 lm:Nat->AV->Mem->Option AV
 al:List AV->Option (Blk×(Nat->AV))
 mm:Option (Blk×(Nat->AV))
 bx:AV->Option (Blk×(Nat->AV))
 bs:Nat->Nat->List AV->List (Nat×AV)->Option (Blk×(Nat->AV))
 ms:Nat->Nat->List AV->AV->AV->Option (Blk×(Nat->AV))
 sb:AV->Option (Blk×(Nat->AV))
 ap:Nat->Nat->AV->AV->Mem->R
 az:Nat->AV->AV->Mem->R
 cp:Nat->AV->AV->Mem->R
 rg:Nat->AV->Mem->R
 st:Nat->AV->AV->Mem->Option Mem
 mp:Nat->AV->AV->AV->Mem->Option Mem
 mdl:Nat->AV->AV->Mem->Option Mem
 cl:Nat->AV->Mem->Option Mem
 md:Nat->Md
 lo:Nat->Nat->List AV->q91
def q0c (E:Env):Ops where
 P:=E.P
 nat n:=n
 pick:=p3 z0d
 nn:=p1 nnA
 bin op t:=p2 (q0E E.P op t)
 un op:=p1 (unA op)
 conv a b:=p1 (q56 E.P a b)
 fa s i:=p1 fun a=>q0o E.P s a i
 fi s i:=p1 fun a=>z9d E.P s a i
 ia s:=p2 (q0A E.P s)
 ix s:=p2 (z0J E.P s)
 s00 s:=p1 fun a=>q0n E.P s a none none
 s10 s:=p2 fun a l=>q0n E.P s a (some l) none
 s01 s:=p2 fun a h=>q0n E.P s a none (some h)
 s11 s:=p3 fun a l h=>q0n E.P s a (some l) (some h)
 s30 s x h m:=q2V E.P s x none h m
 s31 s x l h m:=q2V E.P s x (some l) h m
 ext i:=p1 fun a=>q0q a i
 mi t:=p1 (q8o E.P t)
 bld s ps:=(some ps).bind (q11 E.P s)
 len s:=p1 (q2e E.P s)
 cap s:=p1 (j0I E.P s)
 mn:=p2 a6E
 mx:=p2 b0K
 ld s:=q1 (q1H E.P s)
 ts s:=q1 (q7V E.P s)
 ent:=q1 z3G
 lk s ok:=q2 fun a k=>q5c E.P s a k ok
 lm s:=q1 (b4M E.P s)
 al cs:=some (.cells cs false,pB)
 mm:=some (.map [],mB)
 bx:=q00
 bs:=bsA
 ms:=msA
 sb:=b1U
 ap:=apE
 az:=q19 E.P
 cp:=q1p
 rg:=q9H E.P
 st k a v m:=stV m a v k
 mp:=q37 E.P
 mdl:=q6W E.P
 cl:=q8Q E.P
 md f:=mdR (q8s E f)
 lo:=z9O E
section
variable (O:Ops) (P:Program)
def evK (e:Ev) (x:Operand) (K:SV->CM):CM:=
 match x with
 | .tmp i=>a2c i K e
 | .const v=>match ofV v with
  |some a=>K (.c a)
  |none=>.fail
 | .global g=>match Nat.blt g P.globals.size with
  |true=>K (.d (.ptr (some ⟨g,0⟩)))
  |false=>.fail
 | .func f=>K (.d (.fn (.func f) [] []))
def a8X (e:Ev):List Operand->(List AV->CM)->CM
 |[],K=>K []
 |x::xs,K=>evK P e x fun a=>a8X e xs fun az=>K (a.v::az)
def z5t (e:Ev):List (Nat×Operand)->(List (Nat×AV)->CM)->CM
 |[],K=>K []
 |(i,x)::xs,K=>evK P e x fun a=>z5t e xs fun az=>K ((i,a.v)::az)
def a3Y (e:Ev) (op:Op) (K:SV->CM):CM:=
 match op with
 | .move x | .assign x=>evK P e x K
 | .pick c a b=>evK P e c fun c=>evK P e a fun a=>evK P e b fun b=>match c with
  | .c (.bool true)=>K a
  | .c (.bool false)=>K b
  | .c _=>.fail
  | .d c=>.pu (O.pick c a.v b.v) fun x=>K (.d x)
 | .nilCheck x=>evK P e x fun a=>.pu (O.nn a.v) fun x=>K (.d x)
 | .binOp op xt x y _=>evK P e x fun a=>evK P e y fun b=>.pu (O.bin op xt a.v b.v) fun x=>K (.d x)
 | .unOp op _ x=>evK P e x fun a=>.pu (O.un op a.v) fun x=>K (.d x)
 | .convert s t x=>evK P e x fun a=>.pu (O.conv s t a.v) fun x=>K (.d x)
 | .fieldAddr s x i=>evK P e x fun a=>.pu (O.fa s i a.v) fun x=>K (.d x)
 | .field s x i=>evK P e x fun a=>.pu (O.fi s i a.v) fun x=>K (.d x)
 | .indexAddr s x i=>evK P e x fun a=>evK P e i fun b=>.pu (O.ia s a.v b.v) fun x=>K (.d x)
 | .index s x i=>evK P e x fun a=>evK P e i fun b=>.pu (O.ix s a.v b.v) fun x=>K (.d x)
 | .slice s x lo hi none=>evK P e x fun a=>
  match lo,hi with
  |none,none=>.pu (O.s00 s a.v) fun x=>K (.d x)
  |some lo,none=>evK P e lo fun l=>.pu (O.s10 s a.v l.v) fun x=>K (.d x)
  |none,some hi=>evK P e hi fun h=>.pu (O.s01 s a.v h.v) fun x=>K (.d x)
  |some lo,some hi=>evK P e lo fun l=>evK P e hi fun h=>.pu (O.s11 s a.v l.v h.v) fun x=>K (.d x)
 | .slice s x lo (some hi) (some mx)=>evK P e x fun a=>evK P e hi fun h=>evK P e mx fun m=>
  match lo with
  |none=>.pu (O.s30 s a.v h.v m.v) fun x=>K (.d x)
  |some lo=>evK P e lo fun l=>.pu (O.s31 s a.v l.v h.v m.v) fun x=>K (.d x)
 | .extract x i=>evK P e x fun a=>.pu (O.ext i a.v) fun x=>K (.d x)
 | .makeInterface xt x=>evK P e x fun a=>.pu (O.mi xt a.v) fun x=>K (.d x)
 | .makeFunc f first cap=>a8X P e first.toList fun a=>a8X P e cap.toList fun b=>K (.d (.fn f a b))
 | .build s parts=>z5t P e parts.toList fun ps=>.pu (O.bld s ps) fun x=>K (.d x)
 | .call {callee:=.builtin .len,args:=⟨[x]⟩,argTypes:=⟨[s]⟩}=>evK P e x fun a=>.pu (O.len s a.v) fun x=>K (.d x)
 | .call {callee:=.builtin .cap,args:=⟨[x]⟩,argTypes:=⟨[s]⟩}=>evK P e x fun a=>.pu (O.cap s a.v) fun x=>K (.d x)
 | .call {callee:=.builtin .min,args:=⟨[x,y]⟩,..}=>evK P e x fun a=>evK P e y fun b=>.pu (O.mn a.v b.v) fun x=>K (.d x)
 | .call {callee:=.builtin .max,args:=⟨[x,y]⟩,..}=>evK P e x fun a=>evK P e y fun b=>.pu (O.mx a.v b.v) fun x=>K (.d x)
 | _=>.fail
def a4i (e:Ev) (op:Op) (K:(Mem->Option AV)->CM):CM:=
 match op with
 | .load s x=>evK P e x fun a=>K (O.ld s a.v)
 | .convert s _ x=>evK P e x fun a=>K (O.ts s a.v)
 | .lookup s x k ok=>evK P e x fun a=>evK P e k fun k=>K (O.lk s ok a.v k.v)
 | .entry x=>evK P e x fun a=>K (O.ent a.v)
 | .call {callee:=.builtin .len,args:=⟨[x]⟩,argTypes:=⟨[s]⟩}=>evK P e x fun a=>K (O.lm s a.v)
 | _=>.fail
def z8I (e:Ev) (op:Op) (K:SV->CM):CM:=
 match op with
 | .alloc t=>match q2Y P t with
  |some cs=>.al (O.al cs) fun x=>K (.d x)
  |none=>.fail
 | .box _ x=>evK P e x fun a=>.al (O.bx a.v) fun x=>K (.d x)
 | .makeMap s none=>match P.underlying s with
  |some (.map ..)=>.al O.mm fun x=>K (.d x)
  | _=>.fail
 | .buildSlice s len parts=>match P.underlying s with
  |some (.slice t)=>match szT P t,q2Y P t with
   |some n,some zs=>match Nat.ble (len*n) 16777216&&Nat.beq zs.length n with
    |true=>z5t P e parts.toList fun ps=>.al (O.bs n len zs ps) fun x=>K (.d x)
    |false=>.fail
   | _,_=>.fail
  | _=>.fail
 | .makeSlice s l c=>evK P e l fun l=>evK P e c fun c=>match P.underlying s with
  |some (.slice t)=>match szT P t,q2Y P t,q5Y P t with
   |some n,some zs,some w=>.al (O.ms n w zs l.v c.v) fun x=>K (.d x)
   | _,_,_=>.fail
  | _=>.fail
 | .convert s t x=>match P.underlying s with
  |some _=>match P.underlying t with
   |some (.slice u)=>match P.underlying u,szT P u with
    |some (.int .u8),some 1=>evK P e x fun a=>.al (O.sb a.v) fun x=>K (.d x)
    | _,_=>.fail
   | _=>.fail
  |none=>.fail
 | _=>.fail
def b1Q (e:Ev) (op:Op) (K:SV->CM):CM:=
 match op with
 | .store s a v=>evK P e a fun a=>evK P e v fun v=>match szT P s with
  |some n=>.st (O.st n a.v v.v) (K (.c .undef))
  |none=>.fail
 | .call {callee:=.builtin .append,args:=⟨[s,x]⟩,argTypes:=⟨[st,xt]⟩}=>evK P e s fun s=>evK P e x fun x=>match P.underlying xt with
  |some (.int _)=>.ef (O.az st s.v x.v) fun x=>K (.d x)
  | _=>match q4V P st xt with
   |some nw=>.ef (O.ap nw.1 nw.2 s.v x.v) fun x=>K (.d x)
   |none=>.fail
 | .call {callee:=.builtin .copy,args:=⟨[d,x]⟩,argTypes:=⟨st::_⟩}=>match q5y P st with
  |some n=>evK P e d fun d=>evK P e x fun x=>.ef (O.cp n d.v x.v) fun x=>K (.d x)
  |none=>.fail
 | .mapUpdate s x k v | .insert s x k v=>evK P e x fun x=>evK P e k fun k=>evK P e v fun v=>.st (O.mp s x.v k.v v.v) (K (.c .undef))
 | .call {callee:=.builtin .delete,args:=⟨[x,k]⟩,argTypes:=⟨s::_⟩}=>evK P e x fun x=>evK P e k fun k=>.st (O.mdl s x.v k.v) (K (.c .undef))
 | .call {callee:=.builtin .clear,args:=⟨[x]⟩,argTypes:=⟨s::_⟩}=>evK P e x fun x=>.st (O.cl s x.v) (K (.c .undef))
 | .call {callee:=.value (.func g),args:=⟨xs⟩,..}=>a8X P e xs fun az=>.call g az fun x=>K (.d x)
 | .call {callee:=.value f,args:=⟨xs⟩,..}=>evK P e f fun f=>a8X P e xs fun az=>.callv f.v az fun x=>K (.d x)
 | .range s x=>evK P e x fun x=>.ef (O.rg s x.v) fun x=>K (.d x)
 | _=>.fail
def q3C (nt:Nat) (e:Ev) (d:Option Tmp) (v:SV):Ev:=
 match d with
 |some d=>match Nat.blt d nt with
  |true=>(d,v)::e
  |false=>e
 |none=>e
def z9E (nt:Nat) (sk:List Tmp) (ops:List Oper) (o:Oper) (e:Ev) (yes no:Ev->CM):CM:=
 match o.guard with
 |none=>yes e
 |some (j,want)=>match (ops[j]?).bind (·.dst) with
  |none=>.fail
  |some d=>a2c d (fun v=>match v with
   | .c (.bool b)=>match b,want with
    |true,true=>yes (q3C nt e (some d) (.c (.bool true)))
    |true,false=>no (q3C nt e (some d) (.c (.bool true)))
    |false,true=>no (q3C nt e (some d) (.c (.bool false)))
    |false,false=>yes (q3C nt e (some d) (.c (.bool false)))
   | .c (.tup [])=>match sk.contains d with
    |true=>no e
    |false=>.fail
   | .c _=>.fail
   | .d a=>match want with
    |true=>.ifv a (yes (q3C nt e (some d) (.c (.bool true)))) (no (q3C nt e (some d) (.c (.bool false))))
    |false=>.ifv a (no (q3C nt e (some d) (.c (.bool true)))) (yes (q3C nt e (some d) (.c (.bool false))))) e
def opC (e:Ev) (op:Op) (K:SV->CM):CM:=
 match cls P op with
 | .p=>a3Y O P e op K
 | .r=>a4i O P e op fun f=>.rm f fun x=>K (.d x)
 | .a=>z8I O P e op K
 | .e=>b1Q O P e op K
def b1S (nt:Nat) (all:List Oper):List Oper->List Tmp->Ev->(Ev->CM)->CM
 |[],_,e,K=>K e
 |o::os,sk,e,K=>
  z9E nt sk all o e
   (fun e=>opC O P e o.op fun v=>b1S nt all os (q7a sk o.dst) (q3C nt e o.dst v) K)
   (fun e=>b1S nt all os (o.dst.toList++sk) (q3C nt e o.dst (.c (.tup []))) K)
def j3S (f:Mem->Option AV) (v:AV) (c:List Nat):List (Nat×Mem)->CM->CM
 |[],K=>K
 |(j,m)::es,K=>match c.contains j with
  |true=>.chk (f m) v (j3S f v c es K)
  |false=>j3S f v c es K
def j3R (m:Mem) (c:List Nat):List (Nat×(Mem->Option AV)×AV)->CM->CM
 |[],K=>K
 |(j,f,v)::rs,K=>match c.contains j with
  |true=>.chk (f m) v (j3R m c rs K)
  |false=>j3R m c rs K
def z3F (nt:Nat) (all:List Oper):List (List Nat)->List Oper->List Tmp->Nat->List (Nat×(Mem->Option AV)×AV)->List (Nat×Mem)->Ev->(Ev->CM)->CM
 |c::cs,o::os,sk,i,rs,es,e,K=>
  z9E nt sk all o e
   (fun e=>match cls P o.op with
    | .p=>a3Y O P e o.op fun v=>z3F nt all cs os (q7a sk o.dst) (i+1) rs es (q3C nt e o.dst v) K
    | .r=>a4i O P e o.op fun f=>.rm f fun x=>
      j3S f x c es (z3F nt all cs os (q7a sk o.dst) (i+1) ((i,f,x)::rs) es (q3C nt e o.dst (.d x)) K)
    | .a=>z8I O P e o.op fun v=>z3F nt all cs os (q7a sk o.dst) (i+1) rs es (q3C nt e o.dst v) K
    | .e=>.memo fun m=>b1Q O P e o.op fun v=>.memo fun m'=>
      j3R m' c rs (z3F nt all cs os (q7a sk o.dst) (i+1) rs ((i,m)::es) (q3C nt e o.dst v) K))
   (fun e=>z3F nt all cs os (o.dst.toList++sk) (i+1) rs es (q3C nt e o.dst (.c (.tup []))) K)
 | _,[],_,_,_,_,e,K=>K e
 |[],_::_,_,_,_,_,_,_=>.fail
inductive IC where
 |skip
 |region (id:Nat) (ops:List Oper) (draw:Bool) (chk anc:List (List Nat))
 |seq (a b:IC)
 |cond (c:Operand) (x y:IC)
 |block (id:Nat) (b:IC)
 |loop (b:IC)
 |rangeFunc (i:Nat) (f:Operand) (ps:List Tmp) (a b:AC)
 |scope (b:IC)
 |exit (id:Nat)
 |ret
 |pt (i:Nat) (live:List Bool) (c:IC)
 |other (c:Code)
def q12:AC->Nat
 | .pt _ c=>q12 c+1
 | .seq a b=>q12 a+q12 b
 | .cond _ x y=>q12 x+q12 y
 | .block _ b=>q12 b
 | .loop b=>q12 b
 | .scope b=>q12 b
 | .rangeFunc _ _ a b=>q12 a+q12 b
 | _=>0
def q1o:AC->Nat
 | .pt _ c=>q1o c
 | .seq a b=>q1o a+q1o b
 | .cond _ x y=>q1o x+q1o y
 | .block _ b=>q1o b
 | .loop b=>q1o b
 | .scope b=>q1o b
 | .rangeFunc _ _ a b=>q1o a+q1o b+1
 | _=>0
def index:AC->Nat->Nat->IC
 | .skip,_,_=>.skip
 | .region id ops draw chk anc,_,_=>.region id ops draw chk anc
 | .seq a b,n,l=>.seq (index a n l) (index b (n+q12 a) (l+q1o a))
 | .cond c x y,n,l=>.cond c (index x n l) (index y (n+q12 x) (l+q1o x))
 | .block id b,n,l=>.block id (index b n l)
 | .loop b,n,l=>.loop (index b n l)
 | .scope b,n,l=>.scope (index b n l)
 | .rangeFunc f ps a b,_,l=>.rangeFunc l f ps a b
 | .exit id,_,_=>.exit id
 | .ret,_,_=>.ret
 | .pt live c,n,l=>.pt n live (index c (n+1) l)
 | .other c,_,_=>.other c
def lsK (e:Ev):List Nat->(List AV->CM)->CM
 |[],K=>K []
 |i::is,K=>a2c i (fun v=>lsK e is fun vs=>K (v.v::vs)) e
def q6U:Nat->List Bool->List Nat
 | _,[]=>[]
 |i,true::bs=>i::q6U (i+1) bs
 |i,false::bs=>q6U (i+1) bs
def z6l:Nat->List Bool->List Bool
 | 0,_=>[]
 |n+1,[]=>false::z6l n []
 |n+1,b::bs=>b::z6l n bs
def rvI:ResultVar->Nat
 | .tmp i=>i
 | .cell a _=>a
def z8H:List ResultVar->Bool
 |[]=>true
 | .tmp _::rs=>z8H rs
 | .cell ..::_=>false
def z7r:Nat->List ResultVar->List ResultVar
 | _,[]=>[]
 |n,.tmp _::rs=>.tmp n::z7r (n+1) rs
 |n,.cell _ ty::rs=>.cell n ty::z7r (n+1) rs
def a4j (nt:Nat) (rs:List ResultVar) (e:Ev):CM:=match j8X rs with
 |true=>lsK e (List.range nt) fun vs=>.ret (.tup vs)
 |false=>lsK e (rs.map rvI) fun vs=>match z8H rs with
  |true=>.ret (q0T vs)
  |false=>.resC O.P (z7r 0 rs) vs
def exK (ex:List (Nat×(Ev->CM))) (id:Nat) (e:Ev):CM:=
 match ex with
 |[]=>.fail
 |(j,K)::ex=>match Nat.beq j id with
  |true=>K e
  |false=>exK ex id e
variable (f nt:Nat) (rs:List ResultVar)
def goK (i:Nat) (live:List Bool) (e:Ev):CM:=lsK e (q6U 0 (z6l nt live)) fun vs=>.go (4096*f+i) vs
def a3I:IC->Ev->CM
 | .pt i live _,e=>goK f nt i live e
 | _,_=>.fail
def q6u:IC->List (Nat×(Ev->CM))->(Ev->CM)->Ev->CM
 | .skip,_,K,e=>K e
 | .region _ ops draw chk _,_,K,e=>match draw with
  |true=>z3F O P nt ops chk ops [] 0 [] [] e K
  |false=>match q9z ops with
   |some (it,d,os)=>evK P e it fun x=>.nxt x.v fun v=>b1S O P nt ops os [] (q3C nt e d (.d v)) K
   |none=>b1S O P nt ops ops [] e K
 | .seq a b,ex,K,e=>q6u a ex (fun e=>q6u b ex K e) e
 | .cond c x y,ex,K,e=>evK P e c fun v=>match v with
  | .c (.bool true)=>q6u x ex K e
  | .c (.bool false)=>q6u y ex K e
  | .c _=>.fail
  | .d a=>.cond a (q6u x ex K e) (q6u y ex K e)
 | .block id b,ex,K,e=>q6u b ((id,K)::ex) K e
 | .loop b,_,_,e=>a3I f nt b e
 | .scope b,ex,K,e=>q6u b ex K e
 | .rangeFunc i fo _ _ _,_,_,e=>evK P e fo fun fv=>lsK e (List.range nt) fun vs=>.rng (O.md f) fv.v (O.lo f i vs) (4096*f+i) vs
 | .exit id,ex,_,e=>exK ex id e
 | .ret,_,_,e=>a4j O nt rs e
 | .pt i live _,_,_,e=>goK f nt i live e
 | .other c,_,K,e=>match c with
  | .label _=>K e
  | _=>.fail
def q38:IC->List (Nat×(Ev->CM))->(Ev->CM)->List (Nat×List Bool×(Ev->CM))
 | .pt i l c,ex,K=>(i,l,fun e=>q6u O P f nt rs c ex K e)::q38 c ex K
 | .seq a b,ex,K=>q38 a ex (fun e=>q6u O P f nt rs b ex K e)++q38 b ex K
 | .cond _ x y,ex,K=>q38 x ex K++q38 y ex K
 | .block id b,ex,K=>q38 b ((id,K)::ex) K
 | .loop b,ex,_=>q38 b ex fun e=>a3I f nt b e
 | .scope b,ex,K=>q38 b ex K
 | _,_,_=>[]
def q36:IC->List (Nat×(Ev->CM))->(Ev->CM)->List (Nat×(Ev->CM)×List (Nat×(Ev->CM)))
 | .pt _ _ c,ex,K=>q36 c ex K
 | .seq a b,ex,K=>q36 a ex (fun e=>q6u O P f nt rs b ex K e)++q36 b ex K
 | .cond _ x y,ex,K=>q36 x ex K++q36 y ex K
 | .block id b,ex,K=>q36 b ((id,K)::ex) K
 | .loop b,ex,_=>q36 b ex fun e=>a3I f nt b e
 | .scope b,ex,K=>q36 b ex K
 | .rangeFunc i _ _ _ _,ex,K=>[(i,K,ex)]
 | _,_,_=>[]
def apN:Nat->(List AV->CM)->List AV->CM
 | 0,F=>ap0 (F [])
 |n+1,F=>apS fun a=>apN n fun az=>F (a::az)
def a18:Nat->List AV->Ev
 | _,[]=>[]
 |i,a::az=>(i,.d a)::a18 (i+1) az
def b3K:List Nat->List AV->Ev
 |i::is,a::az=>(i,.d a)::b3K is az
 | _,_=>[]
structure Ent where
 fn:List AV->CM
 gs:List (Nat×(List AV->CM))
 ls:List (Nat×(List AV->CM)×(List AV->CM)×List (Nat×(List AV->CM)))
def b5z (na:Nat) (c:IC):Ent where
 fn:=apN na fun az=>q6u O P f nt rs c [] (fun e=>a4j O nt rs e) (a18 0 az)
 gs:=(q38 O P f nt rs c [] fun e=>a4j O nt rs e).map fun x=>(4096*f+x.1,apN (q6U 0 (z6l nt x.2.1)).length fun az=>x.2.2 (b3K (q6U 0 (z6l nt x.2.1)) az))
 ls:=(q36 O P f nt rs c [] fun e=>a4j O nt rs e).map fun x=>(4096*f+x.1,apN nt (fun az=>x.2.1 (a18 0 az)),apN nt (fun az=>a4j O nt rs (a18 0 az)),x.2.2.map fun y=>(y.1,apN nt fun az=>exK x.2.2 y.1 (a18 0 az)))
end
end
section
def Rel (nt:Nat) (e:Ev) (t:List AV):Prop:=t.length=nt/\∀i,(fnd i e).v=nth t i
def z6s (nt:Nat) (sk:List Tmp) (e:Ev):Prop:=∀i∈sk,i<nt->fnd i e=.c (.tup [])
theorem a3M (t:List AV) (d i:Nat) (v:AV):nth (j1I t d v) i=if d=i/\d<t.length then v else nth t i:=by
 rw[q3M,q3M,q6g,xAe,xAe,xFm];by_cases h:d=i
 ·subst h;by_cases h2:d<t.length
  ·simp[h2]
  ·simp[h2]
 ·simp[h]
theorem z7B (t:List AV) (d:Nat) (v:AV):(j1I t d v).length=t.length:=by rw[q6g];simp
theorem a6F {t:List AV} {i:Nat} (h:t.length<=i):nth t i=.undef:=by rw[q3M,xAe,xAu h];rfl
theorem b1P (a b:Nat):Nat.blt a b=decide (a<b):=by
 show Nat.ble (a+1) b=_;by_cases h:a<b
 ·rw[dt h];exact Nat.ble_eq_true_of_le h
 ·rw[df h];cases e:Nat.ble (a+1) b with
  |false=>rfl
  |true=>exact absurd (xEb e) h
theorem q8b (nt:Nat) (e:Ev) (d:Nat) (v:SV) (i:Nat):fnd i (q3C nt e (some d) v)=if d=i/\d<nt then v else fnd i e:=by
 show fnd i (match Nat.blt d nt with|true=>(d,v)::e|false=>e)=_
 rw[b1P];by_cases h:d<nt
 ·rw[dt h];simp only[z1F,h,xFb]
 ·rw[df h];simp only[h,and_false,xAh]
theorem Rel.q3U {nt:Nat} {e:Ev} {t:List AV} (h:Rel nt e t) (d:Option Tmp) (v:SV):Rel nt (q3C nt e d v) (q3U t d v.v):=by
 cases d with
 |none=>exact h
 |some d=>
  refine⟨(z7B t d v.v).trans h.1,fun i=>?_⟩
  show _=nth (j1I t d v.v) i;rw[q8b,a3M,h.1];split
  ·rfl
  ·exact h.2 i
section
variable {E:Env} {d:Do} {nt:Nat} {e:Ev} {t:List AV} {m:Mem}
theorem q06 (h:Rel nt e t) (x:Operand) {K:SV->CM} {F:AV->R} (hK:∀v:SV,q0a d (K v) m=F v.v):q0a d (evK E.P e x K) m=(ev E.P t x).bind F:=by
 cases x with
 |tmp i=>show q0a d (a2c i K e) m=F (nth t i);rw[q82,hK,h.2]
 |const v=>
  show q0a d (match ofV v with|some a=>K (.c a)|none=>.fail) m=(ofV v).bind F
  cases ofV v with
  |none=>rfl
  |some a=>exact hK (.c a)
 |global g=>
  show q0a d (match Nat.blt g E.P.globals.size with|true=>K (.d (.ptr (some ⟨g,0⟩)))|false=>.fail) m=(if g<E.P.globals.size then some (.ptr (some ⟨g,0⟩)) else none).bind F
  rw[b1P];by_cases hg:g<E.P.globals.size
  ·rw[dt hg,xAb hg];exact hK (.d _)
  ·rw[df hg,xAa hg];rfl
 |func f=>exact hK (.d _)
theorem q8U (h:Rel nt e t):∀(xs:List Operand) {K:List AV->CM} {F:List AV->R},(∀v,q0a d (K v) m=F v)->q0a d (a8X E.P e xs K) m=(evs E.P t xs).bind F
 |[],K,F,hK=>hK []
 |x::xs,K,F,hK=>by
  unfold a8X;rw[q06 h x (F:=fun a=>(evs E.P t xs).bind fun az=>F (a::az)) fun v=>q8U h xs fun az=>hK _]
  have hu:evs E.P t (x::xs)=match ev E.P t x,evs E.P t xs with|some a,some az=>some (a::az) | _,_=>none:=rfl
  rw[hu];cases ev E.P t x with
  |none=>rfl
  |some a=>cases evs E.P t xs<;>rfl
theorem q9F (h:Rel nt e t):∀(xs:List (Nat×Operand)) {K:List (Nat×AV)->CM} {F:List (Nat×AV)->R},(∀v,q0a d (K v) m=F v)->q0a d (z5t E.P e xs K) m=(q2a E.P t xs).bind F
 |[],K,F,hK=>hK []
 |(i,x)::xs,K,F,hK=>by
  unfold z5t;rw[q06 h x (F:=fun a=>(q2a E.P t xs).bind fun az=>F ((i,a)::az)) fun v=>q9F h xs fun az=>hK _]
  have hu:q2a E.P t ((i,x)::xs)=match ev E.P t x,q2a E.P t xs with|some a,some az=>some ((i,a)::az) | _,_=>none:=rfl
  rw[hu];cases ev E.P t x with
  |none=>rfl
  |some a=>cases q2a E.P t xs<;>rfl
theorem q4Z {α β:Type} (a:Option α) (G:α->Option β) (F:β->R):(a.bind G).bind F=a.bind fun x=>(G x).bind F:=by cases a<;>rfl
theorem z9S (h:Rel nt e t) (op:Op) {K:SV->CM} {F:AV->R} (hK:∀v:SV,q0a d (K v) m=F v.v):q0a d (a3Y (q0c E) E.P e op K) m=(q5f E.P op t).bind F:=by
 have one:∀(x:Operand) (G:AV->Option AV) (G':AV->Option AV),(∀a,G' a=G a)->q0a d (evK E.P e x fun a=>.pu (G' a.v) fun x=>K (.d x)) m=((ev E.P t x).bind G).bind F:=fun x G G' hG=>by
  rw[q4Z];refine q06 h x (F:=fun a=>(G a).bind F) fun v=>?_
  rw[q3K,hG];cases G v.v with
  |none=>rfl
  |some r=>exact hK (.d r)
 have two:∀(x y:Operand) (G G':AV->AV->Option AV),(∀a b,G' a b=G a b)->q0a d (evK E.P e x fun a=>evK E.P e y fun b=>.pu (G' a.v b.v) fun x=>K (.d x)) m=((ev E.P t x).bind fun a=>(ev E.P t y).bind fun b=>G a b).bind F:=fun x y G G' hG=>by
  rw[q4Z];refine q06 h x (F:=fun a=>((ev E.P t y).bind (G a)).bind F) fun v=>?_
  rw[q4Z];refine q06 h y (F:=fun b=>(G v.v b).bind F) fun w=>?_
  rw[q3K,hG];cases G v.v w.v with
  |none=>rfl
  |some r=>exact hK (.d r)
 have three:∀(x y z:Operand) (G G':AV->AV->AV->Option AV),(∀a b c,G' a b c=G a b c)->q0a d (evK E.P e x fun a=>evK E.P e y fun b=>evK E.P e z fun c=>.pu (G' a.v b.v c.v) fun x=>K (.d x)) m =
   ((ev E.P t x).bind fun a=>(ev E.P t y).bind fun b=>(ev E.P t z).bind fun c=>G a b c).bind F:=fun x y z G G' hG=>by
  rw[q4Z];refine q06 h x (F:=fun a=>((ev E.P t y).bind fun b=>(ev E.P t z).bind fun c=>G a b c).bind F) fun v=>?_
  rw[q4Z];refine q06 h y (F:=fun b=>((ev E.P t z).bind fun c=>G v.v b c).bind F) fun w=>?_
  rw[q4Z];refine q06 h z (F:=fun c=>(G v.v w.v c).bind F) fun u=>?_
  rw[q3K,hG];cases G v.v w.v u.v with
  |none=>rfl
  |some r=>exact hK (.d r)
 unfold a3Y;split
 ·exact q06 h _ hK
 ·exact q06 h _ hK
 ·rename_i c a b;show _=((ev E.P t c).bind fun c=>(ev E.P t a).bind fun a=>(ev E.P t b).bind fun b=>z0d c a b).bind F
  rw[q4Z];refine q06 h c (F:=fun c=>((ev E.P t a).bind fun a=>(ev E.P t b).bind fun b=>z0d c a b).bind F) fun v=>?_
  rw[q4Z];refine q06 h a (F:=fun a=>((ev E.P t b).bind fun b=>z0d v.v a b).bind F) fun w=>?_
  rw[q4Z];refine q06 h b (F:=fun b=>(z0d v.v w.v b).bind F) fun u=>?_
  split
  ·exact hK w
  ·exact hK u
  ·rename_i x h1 h2;cases x with
   |bool b=>cases b with
    |true=>exact absurd rfl h1
    |false=>exact absurd rfl h2
   | _=>rfl
  ·rename_i x;rw[q3K];show (z0d x w.v u.v).bind (fun v=>q0a d (K (.d v)) m)=(z0d x w.v u.v).bind F
   cases z0d x w.v u.v with
   |none=>rfl
   |some r=>exact hK (.d r)
 ·exact one _ _ _ fun _=>rfl
 ·exact two _ _ _ _ fun _ _=>rfl
 ·exact one _ _ _ fun _=>rfl
 ·exact one _ _ _ fun _=>rfl
 ·exact one _ _ _ fun _=>rfl
 ·exact one _ _ _ fun _=>rfl
 ·exact two _ _ _ _ fun _ _=>rfl
 ·exact two _ _ _ _ fun _ _=>rfl
 ·rename_i s x lo hi;cases lo with
  |none=>cases hi with
   |none=>exact one _ _ _ fun _=>rfl
   |some hi=>exact two _ _ _ _ fun _ _=>rfl
  |some lo=>cases hi with
   |none=>exact two _ _ _ _ fun _ _=>rfl
   |some hi=>exact three _ _ _ _ _ fun _ _ _=>rfl
 ·rename_i s x lo hi mx;cases lo with
  |none=>exact three _ _ _ _ _ fun _ _ _=>rfl
  |some lo=>
   show _=((ev E.P t x).bind fun a=>(ev E.P t hi).bind fun h=>(ev E.P t mx).bind fun m=>(ev E.P t lo).bind fun l=>q2V E.P s a (some l) h m).bind F
   rw[q4Z];refine q06 h x (F:=fun a=>((ev E.P t hi).bind fun h=>(ev E.P t mx).bind fun m=>(ev E.P t lo).bind fun l=>q2V E.P s a (some l) h m).bind F) fun a=>?_
   rw[q4Z];refine q06 h hi (F:=fun h=>((ev E.P t mx).bind fun m=>(ev E.P t lo).bind fun l=>q2V E.P s a.v (some l) h m).bind F) fun b=>?_
   rw[q4Z];refine q06 h mx (F:=fun m=>((ev E.P t lo).bind fun l=>q2V E.P s a.v (some l) b.v m).bind F) fun c=>?_
   rw[q4Z];refine q06 h lo (F:=fun l=>(q2V E.P s a.v (some l) b.v c.v).bind F) fun l=>?_
   rw[q3K];show (q2V E.P s a.v (some l.v) b.v c.v).bind _=_;cases q2V E.P s a.v (some l.v) b.v c.v with
   |none=>rfl
   |some r=>exact hK (.d r)
 ·exact one _ _ _ fun _=>rfl
 ·exact one _ _ _ fun _=>rfl
 ·rename_i g first cap
  show _=((evs E.P t first.toList).bind fun a=>(evs E.P t cap.toList).bind fun b=>some (.fn g a b)).bind F
  rw[q4Z];refine q8U h _ fun a=>?_
  rw[q4Z];exact q8U h _ fun b=>hK _
 ·rename_i s ps;show _=((q2a E.P t ps.toList).bind (q11 E.P s)).bind F;rw[q4Z];refine q9F h _ fun a=>?_
  rw[q3K];show (q11 E.P s a).bind _=_;cases q11 E.P s a with
  |none=>rfl
  |some r=>exact hK (.d r)
 ·exact one _ _ _ fun _=>rfl
 ·exact one _ _ _ fun _=>rfl
 ·exact two _ _ _ _ fun _ _=>rfl
 ·exact two _ _ _ _ fun _ _=>rfl
 ·show none=_;unfold q5f;split<;>first|rfl|(exfalso;simp_all<;>(rename_i hh;first|exact hh _ _ _ _ _ rfl rfl rfl rfl rfl|exact hh _ _ _ _ rfl rfl rfl rfl))
theorem q3F (h:Rel nt e t) (x:Operand):(∃v:SV,ev E.P t x=some v.v/\∀K,evK E.P e x K=K v)\/(ev E.P t x=none/\∀K,evK E.P e x K=.fail):=by
 cases x with
 |tmp i=>exact .inl ⟨fnd i e,by rw[h.2];rfl,fun K=>q82 i K e⟩
 |const v=>
  cases hv:ofV v with
  |none=>exact .inr ⟨hv,fun K=>by show (match ofV v with|some a=>K (.c a)|none=>.fail)=_;rw[hv]⟩
  |some a=>exact .inl ⟨.c a,hv,fun K=>by show (match ofV v with|some a=>K (.c a)|none=>.fail)=_;rw[hv]⟩
 |global g=>
  by_cases hg:g<E.P.globals.size
  ·refine .inl ⟨.d (.ptr (some ⟨g,0⟩)),xAb hg,fun K=>?_⟩
   show (match Nat.blt g E.P.globals.size with|true=>K (.d (.ptr (some ⟨g,0⟩)))|false=>.fail)=_
   rw[b1P,dt hg]
  ·refine .inr ⟨xAa hg,fun K=>?_⟩
   show (match Nat.blt g E.P.globals.size with|true=>K (.d (.ptr (some ⟨g,0⟩)))|false=>.fail)=_
   rw[b1P,df hg]
 |func f=>exact .inl ⟨.d (.fn (.func f) [] []),rfl,fun K=>rfl⟩
theorem z90 (h:Rel nt e t) (op:Op) {K:(Mem->Option AV)->CM} {r:R} (h1:∀f,(∀m',f m'=q1r E.P op t m')->q0a d (K f) m=r) (h2:(∀m',q1r E.P op t m'=none)->r=none) :
  q0a d (a4i (q0c E) E.P e op K) m=r:=by
 have one:∀(x:Operand) (G:AV->Mem->Option AV) (G':AV->Mem->Option AV),(∀a m,G' a m=G a m)->(∀m',q1r E.P op t m'=(ev E.P t x).bind fun a=>G a m')->q0a d (evK E.P e x fun a=>K (G' a.v)) m=r:=fun x G G' hG he=>by
  rcases q3F (E:=E) h x with ⟨v,e1,e2⟩|⟨e1,e2⟩
  ·rw[e2];exact h1 _ fun m'=>by rw[he,e1,hG];rfl
  ·rw[e2];exact(h2 fun m'=>by rw[he,e1];rfl).symm
 unfold a4i;split
 ·exact one _ _ _ (fun _ _=>rfl) fun _=>rfl
 ·exact one _ _ _ (fun _ _=>rfl) fun _=>rfl
 ·rename_i s x k ok;rcases q3F (E:=E) h x with ⟨v,e1,e2⟩|⟨e1,e2⟩
  ·rw[e2];rcases q3F (E:=E) h k with ⟨w,e3,e4⟩|⟨e3,e4⟩
   ·rw[e4];refine h1 _ fun m'=>?_
    show _=(ev E.P t x).bind fun a=>(ev E.P t k).bind fun k=>q5c E.P s a k ok m'
    rw[e1,e3];rfl
   ·rw[e4];refine(h2 fun m'=>?_).symm
    show ((ev E.P t x).bind fun a=>(ev E.P t k).bind fun k=>q5c E.P s a k ok m')=_
    rw[e1,e3];rfl
  ·rw[e2];refine(h2 fun m'=>?_).symm
   show ((ev E.P t x).bind fun a=>(ev E.P t k).bind fun k=>q5c E.P s a k ok m')=_
   rw[e1];rfl
 ·exact one _ _ _ (fun _ _=>rfl) fun _=>rfl
 ·exact one _ _ _ (fun _ _=>rfl) fun _=>rfl
 ·refine(h2 fun m'=>?_).symm
  unfold q1r;split<;>first|rfl|(exfalso;simp_all<;>(rename_i hh;first|exact hh _ _ _ rfl rfl rfl|exact hh _ _ rfl rfl|exact hh _ _ _ _ rfl rfl rfl rfl|exact Bool.noConfusion (((hh _ _ _).1 rfl rfl rfl).symm.trans ((hh _ _ _).2 rfl rfl rfl))))
theorem z3f (h:Rel nt e t) (op:Op) {K:SV->CM} {F:AV->Mem->R} (hK:∀(v:SV) m,q0a d (K v) m=F v.v m):q0a d (z8I (q0c E) E.P e op K) m=(q3h E.P op t).bind fun ca=>F (ca.2 m.next) (m.lay ca.1):=by
 have al:∀(o:Option (Blk×(Nat->AV))),q0a d (.al o fun x=>K (.d x)) m=o.bind fun ca=>F (ca.2 m.next) (m.lay ca.1):=fun o=>by
  rw[z4U];cases o with
  |none=>rfl
  |some ca=>exact hK (.d _) _
 unfold z8I;split
 ·rename_i ty;show q0a d (match q2Y E.P ty with|some cs=>_|none=>_) m=((q2Y E.P ty).map fun cs=>(Blk.cells cs false,fun b=>AV.ptr (some ⟨b,0⟩))).bind _
  cases q2Y E.P ty with
  |none=>rfl
  |some cs=>exact al _
 ·rename_i ty x;show _=(((ev E.P t x).bind AV.cells).map fun cs=>(Blk.cells cs false,fun b=>AV.ptr (some ⟨b,0⟩))).bind _
  rcases q3F (E:=E) h x with ⟨v,e1,e2⟩|⟨e1,e2⟩
  ·rw[e2,e1];exact al _
  ·rw[e2,e1];rfl
 ·rename_i s;show _=(match E.P.underlying s with|some (.map ..)=>some (Blk.map [],fun b=>AV.map (some b)) | _=>none).bind _
  cases E.P.underlying s with
  |none=>rfl
  |some u=>
   cases u with
   |map k el=>exact al _
   | _=>rfl
 ·rename_i s len parts;show _=(match E.P.underlying s with
   |some (.slice e)=>match szT E.P e,q2Y E.P e with
    |some n,some zs=>if len*n<=16777216/\zs.length=n then (q2a E.P t parts.toList).bind fun ps=>
      (q0p (fun i=>some (i*n,n)) (List.replicate len zs).flatten ps).map fun cs=>(Blk.cells cs false,fun b=>AV.sl (some ⟨b,0⟩) n len len true) else none
    | _,_=>none
   | _=>none).bind _
  cases E.P.underlying s with
  |none=>rfl
  |some u=>
   cases u with
   |slice ty=>
    simp only;cases szT E.P ty with
    |none=>rfl
    |some n=>
     cases q2Y E.P ty with
     |none=>rfl
     |some zs=>
      simp only;by_cases hc:len*n<=16777216/\zs.length=n
      ·rw[xAb hc,show (Nat.ble (len*n) 16777216&&Nat.beq zs.length n)=true by rw[Nat.ble_eq_true_of_le hc.1,hc.2,Nat.beq_refl];rfl];rw[q4Z];exact q9F h _ fun ps=>al _
      ·rw[xAa hc];cases hb:(Nat.ble (len*n) 16777216&&Nat.beq zs.length n) with
       |false=>rfl
       |true=>
        rw[xAc]at hb;exact absurd ⟨xEb hb.1,Nat.eq_of_beq_eq_true hb.2⟩ hc
   | _=>rfl
 ·rename_i s l c;show _=((ev E.P t l).bind fun l=>(ev E.P t c).bind fun c=>
   match E.P.underlying s,l,c with
   |some (.slice e),.int .i64 l,.int .i64 c=>match szT E.P e,q2Y E.P e,q5Y E.P e with
    |some n,some zs,some w=>
     if 0<=l/\l<=c/\c<9223372036854775808/\c.toNat*w<=q0j/\zs.length=n then
      some (Blk.cells (List.replicate c.toNat zs).flatten false,fun b=>AV.sl (some ⟨b,0⟩) n l.toNat c.toNat true) else none
    | _,_,_=>none
   | _,_,_=>none).bind _
  rcases q3F (E:=E) h l with ⟨v,e1,e2⟩|⟨e1,e2⟩
  ·rcases q3F (E:=E) h c with ⟨w,e3,e4⟩|⟨e3,e4⟩
   ·rw[e2,e1,e4,e3];show q0a d _ m=Option.bind (match E.P.underlying s,v.v,w.v with|some (.slice e),.int .i64 l,.int .i64 c=>_ | _,_,_=>none) _
    cases E.P.underlying s with
    |none=>rfl
    |some u=>
     cases u with
     |slice ty=>
      simp only;cases h1:szT E.P ty with
      |none=>
       simp only;split
       ·rename_i h2 _ _;cases h2;simp only[h1];rfl
       ·rfl
      |some n=>
       cases h2:q2Y E.P ty with
       |none=>
        simp only;split
        ·rename_i h3 _ _;cases h3;simp only[h1,h2];rfl
        ·rfl
       |some zs=>
        cases h4:q5Y E.P ty with
        |none=>
         simp only;split
         ·rename_i h3 _ _;cases h3;simp only[h1,h2,h4];rfl
         ·rfl
        |some b=>
         simp only;refine(al _).trans ?_;show (msA n b zs v.v w.v).bind _=_;unfold msA;congr 1;split
         ·rename_i h5 h6;simp only[h5,h6,h1,h2,h4]
         ·rename_i hh;split
          ·rename_i h7 h5 h6;exact(hh _ _ h5 h6).elim
          ·rfl
     | _=>rfl
   ·rw[e2,e1,e4,e3];rfl
  ·rw[e2,e1];rfl
 ·rename_i s ty x;show _=((ev E.P t x).bind fun x=>
   match (E.P.underlying s).isSome,E.P.underlying ty,x with
   |true,some (.slice e),.str s=>match E.P.underlying e,szT E.P e with
    |some (.int .u8),some 1=>some (Blk.cells (s.map fun c=>AV.int .u8 c.toNat) true,fun b=>AV.sl (some ⟨b,0⟩) 1 s.length s.length false)
    | _,_=>none
   | _,_,_=>none).bind _
  rcases q3F (E:=E) h x with ⟨v,e1,e2⟩|⟨e1,e2⟩
  ·simp only[e2,e1,xAr];cases E.P.underlying s with
   |none=>rfl
   |some u0=>
    simp only[Option.isSome_some];cases E.P.underlying ty with
    |none=>rfl
    |some u=>
     cases u with
     |slice el=>
      simp only;by_cases hc:E.P.underlying el=some (.int .u8)/\szT E.P el=some 1
      ·simp only[hc.1,hc.2];refine(al _).trans ?_;show (b1U v.v).bind _=_;unfold b1U;congr 1;split<;>rename_i hh
       ·simp only[hh,hc.1,hc.2]
       ·split
        ·rename_i h5 h6;exact(hh _ h6).elim
        ·rfl
      ·have e4:∀s:List UInt8,(match E.P.underlying el,szT E.P el with
        |some (.int .u8),some 1=>some (Blk.cells (s.map fun c=>AV.int .u8 c.toNat) true,fun b=>AV.sl (some ⟨b,0⟩) 1 s.length s.length false)
        | _,_=>none)=none:=fun s=>by
        split
        ·rename_i h5 h6;exact absurd ⟨h5,h6⟩ hc
        ·rfl
       split
       ·rename_i h5 h6;exact absurd ⟨h5,h6⟩ hc
       ·show none=_;split
        ·rename_i h5 _;cases h5;rw[e4];rfl
        ·rfl
     | _=>rfl
  ·simp only[e2,e1,xDw];cases E.P.underlying s with
   |none=>rfl
   |some u0=>
    simp only;cases E.P.underlying ty with
    |none=>rfl
    |some u=>
     cases u with
     |slice el=>
      simp only;split<;>rfl
     | _=>rfl
 ·show none=_;unfold q3h;split<;>first|rfl|(exfalso;simp_all<;>(rename_i hh;first|exact hh _ _ _ rfl rfl rfl|exact hh _ _ rfl rfl|exact hh _ _ _ _ rfl rfl rfl rfl))
theorem j4o (h:Rel nt e t) (op:Op) {K:SV->CM} {F:AV->Mem->R} (hK:∀(v:SV) m,q0a d (K v) m=F v.v m):q0a d (b1Q (q0c E) E.P e op K) m=z6m d.call E.P op t m F:=by
 have st:∀(o:Mem->Option Mem),q0a d (.st o (K (.c .undef))) m=(o m).bind fun m'=>F .undef m':=fun o=>by
  rw[z4X];cases o m with
  |none=>rfl
  |some m'=>exact hK (.c .undef) _
 have ef:∀(o:Mem->R),q0a d (.ef o fun x=>K (.d x)) m=(o m).bind fun r=>F r.1 r.2:=fun o=>by
  rw[z4V];cases o m with
  |none=>rfl
  |some r=>exact hK (.d r.1) _
 unfold b1Q;split
 ·rename_i s a v;show _=(ev E.P t a).bind fun a=>(ev E.P t v).bind fun v=>(szT E.P s).bind fun n=>(stV m a v n).bind fun m'=>F .undef m'
  refine q06 h a (F:=fun a=>(ev E.P t v).bind fun v=>(szT E.P s).bind fun n=>(stV m a v n).bind fun m'=>F .undef m') fun a=>?_
  refine q06 h v (F:=fun v=>(szT E.P s).bind fun n=>(stV m a.v v n).bind fun m'=>F .undef m') fun v=>?_
  cases szT E.P s with
  |none=>rfl
  |some n=>exact st _
 ·rename_i s x sy xt;show _=(ev E.P t s).bind fun s=>(ev E.P t x).bind fun x=>(q3Y E.P sy xt s x m).bind fun r=>F r.1 r.2
  refine q06 h s (F:=fun s=>(ev E.P t x).bind fun x=>(q3Y E.P sy xt s x m).bind fun r=>F r.1 r.2) fun s=>?_
  refine q06 h x (F:=fun x=>(q3Y E.P sy xt s.v x m).bind fun r=>F r.1 r.2) fun x=>?_
  have hd:∀u:Option TypeDesc,q0a d (match (generalizing:=false) u with
    |some (.int _)=>.ef ((q0c E).az sy s.v x.v) fun x=>K (.d x)
    | _=>match q4V E.P sy xt with
     |some nw=>.ef ((q0c E).ap nw.1 nw.2 s.v x.v) fun x=>K (.d x)
     |none=>.fail) m=(match (generalizing:=false) u with
    |some (.int _)=>q19 E.P sy s.v x.v m
    | _=>(q4V E.P sy xt).bind fun nw=>q0H nw.1 nw.2 s.v x.v m).bind fun r=>F r.1 r.2:=fun u=>by
   split
   ·exact ef _
   ·cases q4V E.P sy xt with
    |none=>rfl
    |some nw=>exact ef _
  exact hd _
 ·rename_i dd x sy _;show _=(q5y E.P sy).bind fun n=>(ev E.P t dd).bind fun d=>(ev E.P t x).bind fun x=>(q1p n d x m).bind fun r=>F r.1 r.2
  cases q5y E.P sy with
  |none=>rfl
  |some n=>
   refine q06 h dd (F:=fun d=>(ev E.P t x).bind fun x=>(q1p n d x m).bind fun r=>F r.1 r.2) fun a=>?_
   exact q06 h x (F:=fun x=>(q1p n a.v x m).bind fun r=>F r.1 r.2) fun b=>ef _
 ·rename_i s x k v;show _=(ev E.P t x).bind fun x=>(ev E.P t k).bind fun k=>(ev E.P t v).bind fun v=>(q37 E.P s x k v m).bind fun m'=>F .undef m'
  refine q06 h x (F:=fun x=>(ev E.P t k).bind fun k=>(ev E.P t v).bind fun v=>(q37 E.P s x k v m).bind fun m'=>F .undef m') fun x=>?_
  refine q06 h k (F:=fun k=>(ev E.P t v).bind fun v=>(q37 E.P s x.v k v m).bind fun m'=>F .undef m') fun k=>?_
  exact q06 h v (F:=fun v=>(q37 E.P s x.v k.v v m).bind fun m'=>F .undef m') fun v=>st _
 ·rename_i s x k v;show _=(ev E.P t x).bind fun x=>(ev E.P t k).bind fun k=>(ev E.P t v).bind fun v=>(q37 E.P s x k v m).bind fun m'=>F .undef m'
  refine q06 h x (F:=fun x=>(ev E.P t k).bind fun k=>(ev E.P t v).bind fun v=>(q37 E.P s x k v m).bind fun m'=>F .undef m') fun x=>?_
  refine q06 h k (F:=fun k=>(ev E.P t v).bind fun v=>(q37 E.P s x.v k v m).bind fun m'=>F .undef m') fun k=>?_
  exact q06 h v (F:=fun v=>(q37 E.P s x.v k.v v m).bind fun m'=>F .undef m') fun v=>st _
 ·rename_i x k s _;show _=(ev E.P t x).bind fun x=>(ev E.P t k).bind fun k=>(q6W E.P s x k m).bind fun m'=>F .undef m'
  refine q06 h x (F:=fun x=>(ev E.P t k).bind fun k=>(q6W E.P s x k m).bind fun m'=>F .undef m') fun x=>?_
  exact q06 h k (F:=fun k=>(q6W E.P s x.v k m).bind fun m'=>F .undef m') fun k=>st _
 ·rename_i x s _;exact q06 h x (F:=fun x=>(q8Q E.P s x m).bind fun m'=>F .undef m') fun x=>st _
 ·rename_i g xs _;show _=(ev E.P t (.func g)).bind fun fv=>(evs E.P t xs).bind fun az=>(q1m d.call fv az m).bind fun r=>F r.1 r.2
  refine q8U h xs (F:=fun az=>(q1m d.call (.fn (.func g) [] []) az m).bind fun r=>F r.1 r.2) fun az=>?_
  rw[q9l];show _=(d.call (.fn g) ([]++az++[]) m).bind fun r=>F r.1 r.2
  rw[xAm,xBe];cases d.call (.fn g) az m with
  |none=>rfl
  |some r=>exact hK (.d r.1) _
 ·rename_i fo xs _ _;show _=(ev E.P t fo).bind fun fv=>(evs E.P t xs).bind fun az=>(q1m d.call fv az m).bind fun r=>F r.1 r.2
  refine q06 h fo (F:=fun fv=>(evs E.P t xs).bind fun az=>(q1m d.call fv az m).bind fun r=>F r.1 r.2) fun fv=>?_
  refine q8U h xs (F:=fun az=>(q1m d.call fv.v az m).bind fun r=>F r.1 r.2) fun az=>?_
  rw[q7Q];cases q1m d.call fv.v az m with
  |none=>rfl
  |some r=>exact hK (.d r.1) _
 ·rename_i s x;exact q06 h x (F:=fun x=>(q9H E.P s x m).bind fun r=>F r.1 r.2) fun x=>ef _
 ·show none=_;unfold z6m;split<;>first|rfl|(exfalso;simp_all;done)|(exfalso;simp_all<;>(rename_i hh;first|exact hh _ _ _ rfl rfl rfl|exact hh _ _ rfl rfl|exact hh _ _ _ _ rfl rfl rfl rfl))
theorem b4U (h:Rel nt e t) (op:Op) {K:SV->CM} {F:AV->Mem->R} (hK:∀(v:SV) m,q0a d (K v) m=F v.v m):q0a d (opC (q0c E) E.P e op K) m=opK d.call E.P op t m F:=by
 unfold opC opK;cases cls E.P op with
 |p=>exact z9S h op (F:=fun v=>F v m) fun v=>hK v m
 |r=>
  refine z90 (r:=(q1r E.P op t m).bind fun v=>F v m) h op (fun f hf=>?_) fun hn=>by rw[hn];rfl
  rw[q9p,hf];cases q1r E.P op t m with
  |none=>rfl
  |some v=>exact hK (.d v) m
 |a=>exact z3f h op hK
 |e=>exact j4o h op hK
theorem z6s.put {nt:Nat} {sk:List Tmp} {e:Ev} (h:z6s nt sk e) (d:Option Tmp) (v:SV):z6s nt (q7a sk d) (q3C nt e d v):=by
 cases d with
 |none=>exact h
 |some d=>
  intro i hi hl;obtain⟨h1,h2⟩:=List.mem_filter.1 (show i∈sk.filter (· != d) from hi);rw[q8b,xAa (fun hh=>by simp[hh.1]at h2)]
  exact h i h1 hl
theorem z6s.skip {nt:Nat} {sk:List Tmp} {e:Ev} (h:z6s nt sk e) (d:Option Tmp):z6s nt (d.toList++sk) (q3C nt e d (.c (.tup []))):=by
 cases d with
 |none=>exact h
 |some d=>
  intro i hi hl;rw[q8b];by_cases hd:d=i
  ·rw[xAb ⟨hd,hd▸hl⟩]
  ·rw[xAa (fun hh=>hd hh.1)]
   rcases xma.1 hi with h1|h1
   ·simp at h1;exact absurd h1.symm hd
   ·exact h i h1 hl
theorem z6s.know {nt:Nat} {sk:List Tmp} {e:Ev} (h:z6s nt sk e) (d:Tmp) (v:SV) (hd:d<nt->d∉sk):z6s nt sk (q3C nt e (some d) v):=by
 intro i hi hl;rw[q8b,xAa (fun hh:d=i/\d<nt=>hd hh.2 (hh.1▸hi))]
 exact h i hi hl
theorem z4R (h:Rel nt e t) {sk:List Tmp} (hs:z6s nt sk e) (ops:List Oper) (o:Oper) {y n:Ev->CM} {Y N:List AV->R} (hy:∀e t,Rel nt e t->z6s nt sk e->q0a d (y e) m=Y t) (hn:∀e t,Rel nt e t->z6s nt sk e->q0a d (n e) m=N t) :
  q0a d (z9E nt sk ops o e y n) m=q35 sk ops o t Y N:=by
 unfold z9E q35;cases o.guard with
 |none=>exact hy e t h hs
 |some jw=>
  obtain⟨j,want⟩:=jw;simp only;cases (ops[j]?).bind (·.dst) with
  |none=>rfl
  |some dd=>
   simp only;rw[q82,<-h.2];cases hv:fnd dd e with
   |c a=>
    have hb:a≠.tup []->dd<nt->dd∉sk:=fun ha hl hm=>by
     have:=hs dd hm hl;rw[hv]at this;exact ha (SV.c.inj this)
    cases a with
    |bool b=>
     have hput:∀b',b=b'->Rel nt (q3C nt e (some dd) (.c (.bool b'))) (j1I t dd (.bool b')):=fun b' _=>h.q3U (some dd) (.c (.bool b'))
     have hsk:∀b':Bool,z6s nt sk (q3C nt e (some dd) (.c (.bool b'))):=fun b'=>hs.know dd _ (hb (by simp))
     have hbeq:AV.beq (SV.c (.bool b)).v (.tup [])=false:=by cases b<;>rfl
     simp only[hbeq,xDg,xbq,xAh];cases b<;>cases want
     ·exact hy _ _ (hput _ rfl) (hsk _)
     ·exact hn _ _ (hput _ rfl) (hsk _)
     ·exact hn _ _ (hput _ rfl) (hsk _)
     ·exact hy _ _ (hput _ rfl) (hsk _)
    |tup vs=>
     cases vs with
     |nil=>
      cases hc:sk.contains dd with
      |true=>
       simp only[SV.v,show AV.beq (.tup []) (.tup [])=true from AV.beq_refl _,Bool.and_true,xAd];exact hn _ _ h hs
      |false=>simp only[xAt,xbq,xAh];rfl
     |cons v vs=>
      have hbeq:AV.beq (SV.c (.tup (v::vs))).v (.tup [])=false:=by simp[SV.v,AV.beq,AV.j0F]
      simp only[hbeq,xDg,xbq,xAh];rfl
    | _=>
     simp only[SV.v];simp only[AV.beq,xDg,xbq,xAh];rfl
   |d a=>
    have hnot:dd<nt->dd∉sk:=fun hl hm=>by
     have:=hs dd hm hl;rw[hv]at this;cases this
    have hcond:(sk.contains dd&&AV.beq a (.tup []))=false:=by
     by_cases hl:dd<nt
     ·have:sk.contains dd=false:=by
       cases hc:sk.contains dd with
       |false=>rfl
       |true=>exact absurd (xDi.1 hc) (hnot hl)
      rw[this];rfl
     ·have:=h.2 dd;rw[hv,a6F (show t.length<=dd by rw[h.1];exact Nat.le_of_not_lt hl)]at this;have ha:a=.undef:=this;rw[ha];simp[AV.beq]
    simp only[SV.v,hcond,xbq,xAh];have hT:=h.q3U (some dd) (.c (.bool true));have hF:=h.q3U (some dd) (.c (.bool false));have sT:=hs.know dd (.c (.bool true)) hnot;have sF:=hs.know dd (.c (.bool false)) hnot;cases want with
    |true=>
     simp only[q7v];rw[hy _ _ hT sT,hn _ _ hF sF];cases a with
     |bool b=>cases b<;>rfl
     | _=>rfl
    |false=>
     simp only[q7v];rw[hn _ _ hT sT,hy _ _ hF sF];cases a with
     |bool b=>cases b<;>rfl
     | _=>rfl
theorem z2i (all:List Oper) {K:Ev->CM} {F:List AV->Mem->R} (hK:∀e t m,Rel nt e t->q0a d (K e) m=F t m):∀(os:List Oper) (sk:List Tmp) (e:Ev) (t:List AV) (m:Mem),Rel nt e t->z6s nt sk e->
  q0a d (b1S (q0c E) E.P nt all os sk e K) m=z5o d.call E.P all os sk t m F
 |[],sk,e,t,m,h,hs=>hK e t m h
 |o::os,sk,e,t,m,h,hs=>by
  unfold b1S z5o;refine z4R h hs all o (fun e t h hs=>?_) fun e t h hs=>?_
  ·exact b4U h o.op fun v m=>z2i all hK os _ _ _ _ (h.q3U o.dst v) (hs.put o.dst v)
  ·exact z2i all hK os _ _ _ _ (h.q3U o.dst (.c (.tup []))) (hs.skip o.dst)
inductive b2M:List (Nat×(Mem->Option AV)×AV)->List (Nat×(Mem->Option AV)×AV)->Prop
 |nil:b2M [] []
 |cons {i:Nat} {f g:Mem->Option AV} {v:AV} {rs qs} (h:∀m,f m=g m) (hr:b2M rs qs):b2M ((i,f,v)::rs) ((i,g,v)::qs)
theorem z1n {f g:Mem->Option AV} (hf:∀m,f m=g m) (v:AV) (c:List Nat) {K:CM} {F:R} (hK:q0a d K m=F):∀es,q0a d (j3S f v c es K) m=z6C g v c es F
 |[]=>hK
 |(j,m0)::es=>by
  unfold j3S z6C;by_cases hj:j∈c
  ·rw[show c.contains j=true from xDi.2 hj,xAb hj,<-hf];simp only[q7u];rw[z1n hf v c hK es]
  ·rw[xAa hj];cases hc:c.contains j with
   |true=>exact absurd (xDi.1 hc) hj
   |false=>exact z1n hf v c hK es
theorem a1H (m0:Mem) (c:List Nat) {K:CM} {F:R} (hK:q0a d K m=F):∀{rs qs},b2M rs qs->q0a d (j3R m0 c rs K) m=z8M m0 c qs F:=by
 intro rs qs h;induction h with
 |nil=>exact hK
 | @cons j f g v rs qs hf _ ih=>
  unfold j3R z8M;by_cases hj:j∈c
  ·rw[show c.contains j=true from xDi.2 hj,xAb hj,<-hf];simp only[q7u];rw[ih]
  ·rw[xAa hj];cases hc:c.contains j with
   |true=>exact absurd (xDi.1 hc) hj
   |false=>exact ih
theorem q5A (all:List Oper) {K:Ev->CM} {F:List AV->Mem->R} (hK:∀e t m,Rel nt e t->q0a d (K e) m=F t m):∀(os:List Oper) (cs:List (List Nat)) (sk:List Tmp) (i:Nat) (rs qs) (es:List (Nat×Mem)) (e:Ev) (t:List AV) (m:Mem),b2M rs qs->Rel nt e t->z6s nt sk e->
  q0a d (z3F (q0c E) E.P nt all cs os sk i rs es e K) m=q2r d.call E.P all cs os sk i ⟨qs,es⟩ t m F
 |[],cs,sk,i,rs,qs,es,e,t,m,hr,h,hs=>by
  cases cs<;>exact hK e t m h
 |o::os,[],sk,i,rs,qs,es,e,t,m,hr,h,hs=>rfl
 |o::os,c::cs,sk,i,rs,qs,es,e,t,m,hr,h,hs=>by
  unfold z3F q2r;refine z4R h hs all o (fun e t h hs=>?_) fun e t h hs=>?_
  ·cases cls E.P o.op with
   |p=>
    exact z9S h o.op (F:=fun v=>q2r d.call E.P all cs os (q7a sk o.dst) (i+1) ⟨qs,es⟩ (q3U t o.dst v) m F) fun v=>q5A all hK os cs _ _ _ _ _ _ _ _ hr (h.q3U o.dst v) (hs.put o.dst v)
   |r=>
    refine z90 (r:=(q1r E.P o.op t m).bind fun v=>z6C (q1r E.P o.op t) v c es (q2r d.call E.P all cs os (q7a sk o.dst) (i+1) ⟨(i,q1r E.P o.op t,v)::qs,es⟩ (q3U t o.dst v) m F)) h o.op (fun f hf=>?_) fun hn=>by rw[hn];rfl
    rw[q9p,hf];cases hv:q1r E.P o.op t m with
    |none=>rfl
    |some v=>
     exact z1n hf v c (q5A all hK os cs _ _ _ _ _ _ _ _ (.cons hf hr) (h.q3U o.dst (.d v)) (hs.put o.dst (.d v))) es
   |a=>exact z3f h o.op (F:=fun v m=>q2r d.call E.P all cs os (q7a sk o.dst) (i+1) ⟨qs,es⟩ (q3U t o.dst v) m F) fun v m=>q5A all hK os cs _ _ _ _ _ _ _ _ hr (h.q3U o.dst v) (hs.put o.dst v)
   |e=>
    rw[q6c];refine j4o h o.op fun v m'=>?_
    rw[q6c];exact a1H m' c (q5A all hK os cs _ _ _ _ _ _ _ _ hr (h.q3U o.dst v) (hs.put o.dst v)) hr
  ·exact q5A all hK os cs _ _ _ _ _ _ _ _ hr (h.q3U o.dst (.c (.tup []))) (hs.skip o.dst)
end
end
end Go.Abs
