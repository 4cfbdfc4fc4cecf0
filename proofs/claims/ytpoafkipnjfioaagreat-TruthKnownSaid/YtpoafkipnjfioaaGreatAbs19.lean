/- Marks laid into a code by hints. -/
import Derived.Test.YtpoafkipnjfioaaGreatAbs18
namespace Go.Abs
open Go

inductive Hint where
  | z
  | two (a b : Hint)
  | one (a : Hint)
  | pt (live : List Bool) (h : Hint)
  | reg (chk anc : List (List Nat))

def Hint.mark : Hint → Option (List Bool)
  | .pt l _ => some l
  | _ => none
def Hint.rest : Hint → Hint
  | .pt _ h => h
  | h => h
def Hint.fst : Hint → Hint
  | .two a _ => a
  | .one a => a
  | _ => .z
def Hint.snd : Hint → Hint
  | .two _ b => b
  | _ => .z
def Hint.chk : Hint → List (List Nat)
  | .reg c _ => c
  | _ => []
def Hint.anc : Hint → List (List Nat)
  | .reg _ a => a
  | _ => []

def wrapPt (l : Option (List Bool)) (c : AC) : AC :=
  match l with
  | some l => .pt l c
  | none => c

def annot : Code → Hint → AC
  | .skip, h => wrapPt h.mark .skip
  | .region id ops draw, h => wrapPt h.mark (.region id ops.toList draw h.rest.chk h.rest.anc)
  | .seq a b, h => wrapPt h.mark (.seq (annot a h.rest.fst) (annot b h.rest.snd))
  | .cond c x y, h => wrapPt h.mark (.cond c (annot x h.rest.fst) (annot y h.rest.snd))
  | .block id b, h => wrapPt h.mark (.block id (annot b h.rest.fst))
  | .loop b, h => wrapPt h.mark (.loop (annot b h.rest.fst))
  | .rangeFunc f ps a b, h => wrapPt h.mark (.rangeFunc f ps.toList (annot a h.rest.fst) (annot b h.rest.snd))
  | .scope b, h => wrapPt h.mark (.scope (annot b h.rest.fst))
  | .exit id, h => wrapPt h.mark (.exit id)
  | .ret, h => wrapPt h.mark .ret
  | c, h => wrapPt h.mark (.other c)

theorem wrapPt_erase (l : Option (List Bool)) (c : AC) : (wrapPt l c).erase = c.erase := by cases l <;> rfl
theorem annot_erase : ∀ (c : Code) (h : Hint), (annot c h).erase = c
  | .skip, h => wrapPt_erase _ _
  | .region id ops draw, h => by simp only [annot, wrapPt_erase, AC.erase]
  | .seq a b, h => by simp only [annot, wrapPt_erase, AC.erase, annot_erase a, annot_erase b]
  | .cond c x y, h => by simp only [annot, wrapPt_erase, AC.erase, annot_erase x, annot_erase y]
  | .block id b, h => by simp only [annot, wrapPt_erase, AC.erase, annot_erase b]
  | .loop b, h => by simp only [annot, wrapPt_erase, AC.erase, annot_erase b]
  | .exit id, h => wrapPt_erase _ _
  | .ret, h => wrapPt_erase _ _
  | .rangeFunc f ps a b, h => by simp only [annot, wrapPt_erase, AC.erase, annot_erase a, annot_erase b]
  | .scope b, h => by simp only [annot, wrapPt_erase, AC.erase, annot_erase b]
  | .label _, h => wrapPt_erase _ _
  | .goto _, h => wrapPt_erase _ _
  | .refuse _, h => wrapPt_erase _ _

/-- A program's function, with hints. -/
def bodyOf (P : Program) (hints : FuncId → Option Hint) (f : FuncId) : Option (List ResultVar × Nat × AC) :=
  match hints f with
  | none => none
  | some h => match P.funcs[f]? with
    | some fn => match fn.body with
      | some c => some (fn.results.toList, fn.ntmps, annot c h)
      | none => none
    | none => none

/-- The look at one function. -/
def fnLook (P : Program) (hints : FuncId → Option Hint) (f : FuncId) : Bool :=
  match hints f with
  | none => true
  | some h => match P.funcs[f]? with
    | some fn => decide (fn.name ≠ "runtime.NumGoroutine") && match fn.body with
      | some c => (annot c h).ok P
      | none => true
    | none => true

def envOf (P : Program) (hints : FuncId → Option Hint) (H : FuncId → Option (List AV → Mem → R)) : Env := ⟨P, bodyOf P hints, H⟩

theorem envOf_ok {P : Program} {hints : FuncId → Option Hint} {H : FuncId → Option (List AV → Mem → R)} (hm : P.follows .mixedOrders = true) (n : Nat) (hn : ∀ f, n ≤ f → hints f = none)
    (hl : ∀ f, f < n → fnLook P hints f = true) (hH : ∀ f h, H f = some h → ∀ args m r m', h args m = some (r, m') → FnOk P (.fn f) args m r m') : EnvOk (envOf P hints H) where
  mixed := hm
  hook := hH
  body := fun f rs nt c h => by
    have hlt : f < n := by
      rcases Nat.lt_or_ge f n with h1 | h1
      · exact h1
      · simp [envOf, bodyOf, hn f h1] at h
    have hlook := hl f hlt
    simp only [envOf, bodyOf] at h ⊢
    unfold fnLook at hlook
    split at h
    · cases h
    · rename_i hh e
      simp only [e] at hlook
      split at h
      · rename_i fn e2
        simp only [e2, Bool.and_eq_true, decide_eq_true_eq] at hlook
        split at h
        · rename_i cc e3
          cases h
          simp only [e3] at hlook
          exact ⟨fn, e2, by rw [annot_erase]; exact e3, rfl, rfl, hlook.1, hlook.2⟩
        · cases h
      · cases h
end Go.Abs
