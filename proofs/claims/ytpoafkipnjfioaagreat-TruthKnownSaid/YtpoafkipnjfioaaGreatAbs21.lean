/- Places at the marks of a code, for equations of functions. -/
import Derived.Test.YtpoafkipnjfioaaGreatAbs20
namespace Go.Abs
open Go

/-- What is to be done from each mark on, in the text's order; what a round does, too. -/
def marks : AC → List AI → List (List AI)
  | .pt _ c, k => (.code c :: k) :: marks c k
  | .seq a b, k => marks a (.code b :: k) ++ marks b k
  | .cond _ x y, k => marks x k ++ marks y k
  | .block id b, k => marks b (.inBlock id :: k)
  | .loop b, k => marks b (.inLoop b :: k)
  | .scope b, k => marks b (.inScope b :: k)
  | .rangeFunc _ _ a b, _ => marks a [.beginRound, .code b] ++ marks b []
  | _, _ => []
/-- The loops over functions, in the text's order. -/
def loops : AC → List (List Tmp × AC × AC)
  | .pt _ c => loops c
  | .seq a b => loops a ++ loops b
  | .cond _ x y => loops x ++ loops y
  | .block _ b => loops b
  | .loop b => loops b
  | .scope b => loops b
  | .rangeFunc _ ps a b => (ps, a, b) :: (loops a ++ loops b)
  | _ => []

/-- What is to be done behind each of them. -/
def lmarks : AC → List AI → List (List AI)
  | .pt _ c, k => lmarks c k
  | .seq a b, k => lmarks a (.code b :: k) ++ lmarks b k
  | .cond _ x y, k => lmarks x k ++ lmarks y k
  | .block id b, k => lmarks b (.inBlock id :: k)
  | .loop b, k => lmarks b (.inLoop b :: k)
  | .scope b, k => lmarks b (.inScope b :: k)
  | .rangeFunc _ _ a b, k => k :: (lmarks a [.beginRound, .code b] ++ lmarks b [])
  | _, _ => []

def codeOf (E : Env) (f : FuncId) : AC :=
  match E.B f with
  | some (_, _, c) => c
  | none => .skip
def rsOf (E : Env) (f : FuncId) : List ResultVar :=
  match E.B f with
  | some (rs, _, _) => rs
  | none => []
def ntOf (E : Env) (f : FuncId) : Nat :=
  match E.B f with
  | some (_, n, _) => n
  | none => 0
def kAt (E : Env) (f i : Nat) : List AI := ((marks (codeOf E f) [])[i]?).getD []
/-- A loop's record, as it begins. -/
def loopOf (E : Env) (f i : Nat) (t : List AV) : LoopA :=
  match (loops (codeOf E f))[i]? with
  | some (ps, a, b) => ⟨.ready, none, t, ps, a, b⟩
  | none => ⟨.ready, none, t, [], .skip, .skip⟩

def kLoop (E : Env) (f i : Nat) : List AI := ((lmarks (codeOf E f) [])[i]?).getD []
/-- Behind the i-th loop over a function: 'j' is what is pending. -/
noncomputable def afterAt (E : Env) (f i : Nat) (j : Option Jmp) (t : List AV) (m : Mem) : R := go E (.fn (rsOf E f)) (pend j (kLoop E f i)) t m
noncomputable def afterRd (E : Env) (f i : Nat) (l : Nat) (j : Option Jmp) (t : List AV) (m : Mem) : R := go E (.rd l) (pend j (kLoop E f i)) t m
/-- A round's end. -/
noncomputable def rdFin (b : Nat) (j : Option Jmp) (m : Mem) : R :=
  match m.get b with
  | some (.loop l) => some (.bool j.isNone, m.put b (some (.loop { l with state := if j.isNone then .ready else .done, pending := j })))
  | _ => none
noncomputable def rdBegin (b : Nat) (m : Mem) : Option Mem :=
  match m.get b with
  | some (.loop l) => if l.state = .ready then some (m.put b (some (.loop { l with state := .busy }))) else none
  | _ => none

/-- From a mark on. -/
noncomputable def goAt (E : Env) (f i : Nat) (t : List AV) (m : Mem) : R := go E (.fn (rsOf E f)) (kAt E f i) t m
/-- From a mark in a round on. -/
noncomputable def roundAt (E : Env) (f i : Nat) (l : Nat) (t : List AV) (m : Mem) : R := go E (.rd l) (kAt E f i) t m

theorem goAt_eq {E : Env} {f i : Nat} (n : Nat) {t : List AV} {m : Mem} {r : R} (h : goC E (run E) (.fn (rsOf E f)) (go E (.fn (rsOf E f))) n (kAt E f i) t m = r) : goAt E f i t m = r :=
  (go_unfold _ n _ _ _).trans h
theorem roundAt_eq {E : Env} {f i l : Nat} (n : Nat) {t : List AV} {m : Mem} {r : R} (h : goC E (run E) (.rd l) (go E (.rd l)) n (kAt E f i) t m = r) : roundAt E f i l t m = r :=
  (go_unfold _ n _ _ _).trans h
theorem afterAt_eq {E : Env} {f i : Nat} {j : Option Jmp} (n : Nat) {t : List AV} {m : Mem} {r : R} (h : goC E (run E) (.fn (rsOf E f)) (go E (.fn (rsOf E f))) n (pend j (kLoop E f i)) t m = r) : afterAt E f i j t m = r :=
  (go_unfold _ n _ _ _).trans h
theorem afterRd_eq {E : Env} {f i l : Nat} {j : Option Jmp} (n : Nat) {t : List AV} {m : Mem} {r : R} (h : goC E (run E) (.rd l) (go E (.rd l)) n (pend j (kLoop E f i)) t m = r) : afterRd E f i l j t m = r :=
  (go_unfold _ n _ _ _).trans h
theorem run_eq {E : Env} {f : Nat} (n : Nat) {args : List AV} {m : Mem} {r : R} (hH : E.H f = none) (hB : (E.B f).isSome = true)
    (h : goC E (run E) (.fn (rsOf E f)) (go E (.fn (rsOf E f))) n [.code (codeOf E f)] (args ++ List.replicate (ntOf E f - args.length) .undef) m = r) : run E (.fn f) args m = r := by
  cases e : E.B f with
  | none => simp [e] at hB
  | some b =>
    obtain ⟨rs, nt, c⟩ := b
    rw [run_body hH e]
    simp only [rsOf, codeOf, ntOf, e] at h
    exact (go_unfold _ n _ _ _).trans h
/-- A round of the i-th loop of a function. -/
theorem round_eq {E : Env} {f i b : Nat} {args t : List AV} {m : Mem} {st : LoopState} {pe : Option Jmp} (hm : m.get b = some (.loop { loopOf E f i t with state := st, pending := pe })) (hl : args.length = (loopOf E f i t).params.length) (n : Nat) {r : R}
    (h : goC E (run E) (.rd b) (go E (.rd b)) n [.code (loopOf E f i t).assign, .beginRound, .code (loopOf E f i t).body] (bindP (loopOf E f i t).params args t) m = r) : run E (.yl b) args m = r := by
  have ht : (loopOf E f i t).tmps = t := by unfold loopOf; split <;> rfl
  rw [run_round, roundK, hm]
  simp only
  rw [if_pos hl, ht]
  exact (go_unfold _ n _ _ _).trans h

/-- A value that is true, or false. -/
def ifV (v : AV) (x y : R) : R :=
  match v with
  | .bool true => x
  | .bool false => y
  | _ => none

/-- New blocks, where the types are known. -/
def boxA (x : AV) : Option (Blk × (Nat → AV)) := ((some x).bind AV.cells).map fun cs => (.cells cs false, fun b => .ptr (some ⟨b, 0⟩))
def bsA (n len : Nat) (zs : List AV) (ps : List (Nat × AV)) : Option (Blk × (Nat → AV)) :=
  (some ps).bind fun ps => (fillA (fun i => some (i * n, n)) (List.replicate len zs).flatten ps).map fun cs => (.cells cs false, fun b => .sl (some ⟨b, 0⟩) n len len true)
def msA (n w : Nat) (zs : List AV) (l c : AV) : Option (Blk × (Nat → AV)) :=
  match l, c with
  | .int .i64 l, .int .i64 c =>
    if 0 ≤ l ∧ l ≤ c ∧ c < 9223372036854775808 ∧ c.toNat * w ≤ maxBytes ∧ zs.length = n then
      some (.cells (List.replicate c.toNat zs).flatten false, fun b => .sl (some ⟨b, 0⟩) n l.toNat c.toNat true) else none
  | _, _ => none
def s2bA (x : AV) : Option (Blk × (Nat → AV)) :=
  match x with
  | .str s => some (.cells (s.map fun c => .int .u8 c.toNat) true, fun b => .sl (some ⟨b, 0⟩) 1 s.length s.length false)
  | _ => none
end Go.Abs
