/- Texts of one claim, put together. -/
import Derived.Test.YtlginbmjiecglaaGreatDoorK0
import Derived.Test.YtlginbmjiecglaaGreatDoorK7
namespace Go.Abs
section
open Go
inductive Hint where
 |z
 |two (a b:Hint)
 |one (a:Hint)
 |pt (live:List Bool) (h:Hint)
 |reg (chk anc:List (List Nat))
def Hint.mark:Hint→Option (List Bool)
 | .pt l _=>some l
 | _=>none
def Hint.rest:Hint→Hint
 | .pt _ h=>h
 |h=>h
def Hint.fst:Hint→Hint
 | .two a _=>a
 | .one a=>a
 | _=>.z
def Hint.snd:Hint→Hint
 | .two _ b=>b
 | _=>.z
def Hint.chk:Hint→List (List Nat)
 | .reg c _=>c
 | _=>[]
def Hint.anc:Hint→List (List Nat)
 | .reg _ a=>a
 | _=>[]
def q6l (l:Option (List Bool)) (c:AC):AC:=
 match l with
 |some l=>.pt l c
 |none=>c
def q5v:Code→Hint→AC
 | .skip,h=>q6l h.mark .skip
 | .region id ops draw,h=>q6l h.mark (.region id ops.toList draw h.rest.chk h.rest.anc)
 | .seq a b,h=>q6l h.mark (.seq (q5v a h.rest.fst) (q5v b h.rest.snd))
 | .cond c x y,h=>q6l h.mark (.cond c (q5v x h.rest.fst) (q5v y h.rest.snd))
 | .block id b,h=>q6l h.mark (.block id (q5v b h.rest.fst))
 | .loop b,h=>q6l h.mark (.loop (q5v b h.rest.fst))
 | .rangeFunc f ps a b,h=>q6l h.mark (.rangeFunc f ps.toList (q5v a h.rest.fst) (q5v b h.rest.snd))
 | .scope b,h=>q6l h.mark (.scope (q5v b h.rest.fst))
 | .exit id,h=>q6l h.mark (.exit id)
 | .ret,h=>q6l h.mark .ret
 |c,h=>q6l h.mark (.other c)
theorem q1o (l:Option (List Bool)) (c:AC):(q6l l c).erase=c.erase:=by cases l<;>rfl
theorem q2g:∀(c:Code) (h:Hint),(q5v c h).erase=c
 | .skip,h=>q1o _ _
 | .region id ops draw,h=>by simp only[q5v,q1o,AC.erase]
 | .seq a b,h=>by simp only[q5v,q1o,AC.erase,q2g a,q2g b]
 | .cond c x y,h=>by simp only[q5v,q1o,AC.erase,q2g x,q2g y]
 | .block id b,h=>by simp only[q5v,q1o,AC.erase,q2g b]
 | .loop b,h=>by simp only[q5v,q1o,AC.erase,q2g b]
 | .exit id,h=>q1o _ _
 | .ret,h=>q1o _ _
 | .rangeFunc f ps a b,h=>by simp only[q5v,q1o,AC.erase,q2g a,q2g b]
 | .scope b,h=>by simp only[q5v,q1o,AC.erase,q2g b]
 | .label _,h=>q1o _ _
 | .goto _,h=>q1o _ _
 | .refuse _,h=>q1o _ _
def bodyOf (P:Program) (hints:FuncId→Option Hint) (f:FuncId):Option (List ResultVar×Nat×AC):=
 match hints f with
 |none=>none
 |some h=>match P.funcs[f]? with
  |some fn=>match fn.body with
   |some c=>some (fn.results.toList,fn.ntmps,q5v c h)
   |none=>none
  |none=>none
def fnLook (P:Program) (hints:FuncId→Option Hint) (f:FuncId):Bool:=
 match hints f with
 |none=>true
 |some h=>match P.funcs[f]? with
  | some fn => decide (fn.name ≠ "runtime.NumGoroutine") && match fn.body with
   |some c=>(q5v c h).ok P
   |none=>true
  |none=>true
def j9m (P:Program) (hints:FuncId→Option Hint) (H:FuncId→Option (List AV→Mem→R)):Env:=⟨P,bodyOf P hints,H⟩
theorem z6i {P:Program} {hints:FuncId→Option Hint} {H:FuncId→Option (List AV→Mem→R)} (hm:P.follows .mixedOrders=true) (n:Nat) (hn:∀f,n≤f→hints f=none)
  (hl:∀f,f<n→fnLook P hints f=true) (hH:∀f h,H f=some h→∀args m r m',h args m=some (r,m')→FnOk P (.fn f) args m r m'):EnvOk (j9m P hints H) where
 mixed:=hm
 hook:=hH
 body:=fun f rs nt c h=>by
  have hlt:f<n:=by
   rcases Nat.lt_or_ge f n with h1|h1
   ·exact h1
   ·simp[j9m,bodyOf,hn f h1]at h
  have hlook:=hl f hlt
  simp only[j9m,bodyOf]at h⊢
  unfold fnLook at hlook
  split at h
  ·cases h
  ·rename_i hh e
   simp only[e]at hlook
   split at h
   ·rename_i fn e2
    simp only[e2,Bool.and_eq_true,decide_eq_true_eq]at hlook
    split at h
    ·rename_i cc e3
     cases h
     simp only[e3]at hlook
     exact⟨fn,e2,by rw[q2g];exact e3,rfl,rfl,hlook.1,hlook.2⟩
    ·cases h
   ·cases h
end
end Go.Abs
