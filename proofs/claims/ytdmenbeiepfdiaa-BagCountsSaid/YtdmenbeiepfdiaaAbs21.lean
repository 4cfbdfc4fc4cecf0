/- Places at the marks of a code, for equations of functions. -/
import Derived.Test.YtdmenbeiepfdiaaAbs20
namespace Go.Abs
open Go

/-- What is to be done from each mark on, in the text's order. -/
def marks : AC → List AI → List (List AI)
  | .pt _ c, k => (.code c :: k) :: marks c k
  | .seq a b, k => marks a (.code b :: k) ++ marks b k
  | .cond _ x y, k => marks x k ++ marks y k
  | .block id b, k => marks b (.inBlock id :: k)
  | .loop b, k => marks b (.inLoop b :: k)
  | _, _ => []

def codeOf (E : Env) (f : FuncId) : AC :=
  match E.B f with
  | some (_, _, c) => c
  | none => .skip
def rsOf (E : Env) (f : FuncId) : List ResultVar :=
  match E.B f with
  | some (rs, _, _) => rs
  | none => []
def ntOf (E : Env) (f : FuncId) : Nat :=
  match E.B f with
  | some (_, n, _) => n
  | none => 0
def kAt (E : Env) (f i : Nat) : List AI := ((marks (codeOf E f) [])[i]?).getD []

/-- From a mark on. -/
noncomputable def goAt (E : Env) (f i : Nat) (t : List AV) (m : Mem) : R := go E (rsOf E f) (kAt E f i) t m

theorem goAt_eq {E : Env} {f i : Nat} (n : Nat) {t : List AV} {m : Mem} {r : R} (h : goC E (run E) (rsOf E f) (go E (rsOf E f)) n (kAt E f i) t m = r) : goAt E f i t m = r :=
  (go_unfold _ n _ _ _).trans h
theorem run_eq {E : Env} {f : Nat} (n : Nat) {args : List AV} {m : Mem} {r : R} (hH : E.H f = none) (hB : (E.B f).isSome = true)
    (h : goC E (run E) (rsOf E f) (go E (rsOf E f)) n [.code (codeOf E f)] (args ++ List.replicate (ntOf E f - args.length) .undef) m = r) : run E f args m = r := by
  cases e : E.B f with
  | none => simp [e] at hB
  | some b =>
    obtain ⟨rs, nt, c⟩ := b
    rw [run_body hH e]
    simp only [rsOf, codeOf, ntOf, e] at h
    exact (go_unfold _ n _ _ _).trans h

/-- A value that is true, or false. -/
def ifV (v : AV) (x y : R) : R :=
  match v with
  | .bool true => x
  | .bool false => y
  | _ => none

/-- New blocks, where the types are known. -/
def boxA (x : AV) : Option (List AV × (Nat → AV)) := ((some x).bind AV.cells).map fun cs => (cs, fun b => .ptr (some ⟨b, 0⟩))
def bsA (n len : Nat) (zs : List AV) (ps : List (Nat × AV)) : Option (List AV × (Nat → AV)) :=
  (some ps).bind fun ps => (fillA (fun i => some (i * n, n)) (List.replicate len zs).flatten ps).map fun cs => (cs, fun b => .sl (some ⟨b, 0⟩) n len len true)
def msA (n w : Nat) (zs : List AV) (l c : AV) : Option (List AV × (Nat → AV)) :=
  match l, c with
  | .int .i64 l, .int .i64 c =>
    if 0 ≤ l ∧ l ≤ c ∧ c < 9223372036854775808 ∧ c.toNat * w ≤ maxBytes ∧ zs.length = n then
      some ((List.replicate c.toNat zs).flatten, fun b => .sl (some ⟨b, 0⟩) n l.toNat c.toNat true) else none
  | _, _ => none
def s2bA (x : AV) : Option (List AV × (Nat → AV)) :=
  match x with
  | .str s => some (s.map fun c => .int .u8 c.toNat, fun b => .sl (some ⟨b, 0⟩) 1 s.length s.length false)
  | _ => none
end Go.Abs
