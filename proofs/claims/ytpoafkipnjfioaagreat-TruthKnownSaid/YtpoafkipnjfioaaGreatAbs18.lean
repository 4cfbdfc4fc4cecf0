/- Where a call begins: the abstract memory of a world; what a law's run gives. -/
import Derived.Test.YtpoafkipnjfioaaGreatAbs17
import Derived.Carry
import Derived.HandedShaped
namespace Go.Abs
open Go

/-- Is it a block of cells? -/
def isCells (w : World) (b : Nat) : Bool := match w.heap[b]? with | some (.cells ..) => true | _ => false

/-- A true value, abstractly: one cell's. -/
def absP (w : World) : Value → AV
  | .bool b => .bool b
  | .int k n => .int k n
  | .string s => .str s.data.toList
  | .pointer none => .ptr none
  | .pointer (some a) => if a.spot = none ∧ isCells w a.block = true then .ptr (some ⟨a.block, a.off⟩) else .undef
  | .slice none 0 0 => .sl none 0 0 0 true
  | .slice (some a) len cap => if a.spot = none ∧ isCells w a.block = true ∧ len ≤ cap then .sl (some ⟨a.block, a.off⟩) 0 len cap true else .undef
  | .map none => .map none
  | .nilFunc => .nilFn
  | .nilIface => .nilIface
  | _ => .undef
def absV (w : World) : Value → AV
  | .agg cs => .agg (cs.toList.map (absP w))
  | v => absP w v

def absBlk (w : World) (b : Nat) : Option Blk :=
  match w.heap[b]? with
  | some (.cells c _ _) => some (.cells (c.toList.map (absP w)) true)
  | _ => none
noncomputable def absT (w : World) : Nat → PT
  | 0 => .leaf
  | n + 1 => (absT w n).set n (absBlk w n)
noncomputable def absM (w : World) : Mem := ⟨w.heap.size, absT w w.heap.size⟩

theorem absT_get (w : World) : ∀ n b, (absT w n).get b = if b < n then absBlk w b else none
  | 0, b => by simp [absT, PT.get_leaf]
  | n + 1, b => by
    simp only [absT, PT.get_set, absT_get w n b]
    by_cases h : b = n
    · subst h; simp
    · rw [if_neg h]
      by_cases h2 : b < n
      · rw [if_pos h2, if_pos (by omega)]
      · rw [if_neg h2, if_neg (by omega)]
theorem absM_get (w : World) (b : Nat) : (absM w).get b = absBlk w b := by
  simp only [Mem.get_def, absM, absT_get]
  by_cases h : b < w.heap.size
  · simp [h]
  · rw [if_neg h]; simp [absBlk, Array.getElem?_eq_none (Nat.le_of_not_lt h)]

def absPhi (G : Nat) (w : World) : Phi := fun b =>
  match w.heap[b]? with
  | some (.cells c _ _) => some ⟨b, 0, c.size⟩
  | _ => if b < G then some ⟨b, 0, 0⟩ else none

theorem absPhi_cells {G : Nat} {w : World} {b : Nat} (h : isCells w b = true) : ∃ n, absPhi G w b = some ⟨b, 0, n⟩ := by
  unfold isCells at h
  unfold absPhi
  split at h
  · exact ⟨_, rfl⟩
  · cases h
theorem absPhi_c {G : Nat} {w : World} {b : Nat} {ci : CI} (h : absPhi G w b = some ci) : ci.c = b ∧ ci.d = 0 ∧ (b < w.heap.size ∨ b < G) := by
  unfold absPhi at h
  split at h
  · rename_i e; cases h
    exact ⟨rfl, rfl, .inl (Array.getElem?_eq_some_iff.1 e).1⟩
  · split at h
    · cases h; exact ⟨rfl, rfl, .inr ‹_›⟩
    · cases h

theorem absP_VR {G : Nat} {w : World} (v : Value) : VR (absPhi G w) (absP w v) v := by
  cases v with
  | string s => simp only [absP, VR]
  | pointer a =>
    cases a with
    | none => simp [absP, VR]
    | some a =>
      simp only [absP]
      split
      · rename_i h
        obtain ⟨n, hn⟩ := absPhi_cells (G := G) h.2
        simp only [VR]
        refine ⟨_, hn, ?_⟩
        cases a with
        | mk b o s => simp only at h; rw [h.1]; simp
      · simp [VR]
  | slice a len cap =>
    cases a with
    | none => cases len <;> cases cap <;> simp [absP, VR]
    | some a =>
      simp only [absP]
      split
      · rename_i h
        obtain ⟨n, hn⟩ := absPhi_cells (G := G) h.2.1
        simp only [VR, SR]
        refine ⟨_, a.off, cap, hn, ?_, h.2.2, Nat.le_refl _, fun _ => rfl, by simp, fun _ => by simp⟩
        cases a with
        | mk b o s => simp only at h; rw [h.1]
      · simp [VR]
  | map a => cases a <;> simp [absP, VR]
  | _ => simp [absP, VR]
theorem absV_eq {w : World} {v : Value} (h : ∀ cs, v ≠ .agg cs) : absV w v = absP w v := by cases v <;> first | rfl | exact absurd rfl (h _)
theorem absV_VR {G : Nat} {w : World} (v : Value) : VR (absPhi G w) (absV w v) v := by
  cases v with
  | agg cs =>
    simp only [absV, VR]
    refine ⟨cs.toList, rfl, VRs.of_get (by simp) fun i a hi => ?_⟩
    simp only [List.getElem?_map, Option.map_eq_some_iff] at hi
    obtain ⟨v, h1, rfl⟩ := hi
    exact ⟨v, h1, absP_VR v⟩
  | _ => rw [absV_eq (by simp)]; exact absP_VR _
theorem absVs_VRs {G : Nat} {w : World} : ∀ vs : List Value, VRs (absPhi G w) (vs.map (absV w)) vs
  | [] => by simp [VRs]
  | v :: vs => by simp only [List.map_cons, VRs]; exact ⟨v, vs, rfl, absV_VR v, absVs_VRs vs⟩

theorem absM_MR {P : Program} {w : World} (hG : P.globals.size ≤ w.heap.size) : MR P (absPhi P.globals.size w) (absM w) w where
  has := fun b v ci h1 h2 => by
    rw [absM_get] at h1
    unfold absBlk at h1
    unfold absPhi at h2
    split at h1
    · rename_i c el fr e
      rw [e] at h2
      cases h1; cases h2
      refine ⟨_, e, c, el, fr, rfl, rfl, (fun h => by cases h), fun i a hi => ?_⟩
      simp only [List.getElem?_map, Option.map_eq_some_iff] at hi
      obtain ⟨v, h3, rfl⟩ := hi
      exact ⟨v, by simpa using h3, absP_VR v⟩
    · cases h1
  inj := fun b ci b2 ci2 _ h2 h3 h4 => by
    left
    rw [← (absPhi_c h2).1, ← (absPhi_c h3).1, h4]
  bnd := fun b ci h => by
    obtain ⟨h1, _, h3⟩ := absPhi_c h
    rw [h1]; omega
  glob := fun g hg => by
    unfold absPhi
    split
    · exact ⟨_, rfl⟩
    · rw [if_pos hg]; exact ⟨_, rfl⟩

/-- A run with nothing from outside: the memory that knows nothing. -/
def noM (G : Nat) : Mem := ⟨G, .leaf⟩
def noPhi (G : Nat) : Phi := fun b => if b < G then some ⟨b, 0, 0⟩ else none
theorem noM_get (G b : Nat) : (noM G).get b = none := by simp [noM, Mem.get_def, PT.get_leaf]
theorem noM_MR {P : Program} {w : World} (hG : P.globals.size ≤ w.heap.size) : MR P (noPhi P.globals.size) (noM P.globals.size) w where
  has := fun b v ci h1 => by rw [noM_get] at h1; cases h1
  inj := fun b ci b2 ci2 h1 => by rw [noM_get] at h1; cases h1
  bnd := fun b ci h => by
    unfold noPhi at h
    split at h
    · cases h; simp only; omega
    · cases h
  glob := fun g hg => ⟨0, by simp [noPhi, hg]⟩

section
variable {E : Env}

/-- What a function with a body owes, in Calls' words. -/
theorem fnOk_calls {f : FuncId} {args : List AV} {m : Mem} {r : AV} {m' : Mem} (h : FnOk E.P (.fn f) args m r m') {fn : Func} (hfn : E.P.funcs[f]? = some fn) (hb : fn.body.isSome = true) (hn : fn.name ≠ "runtime.NumGoroutine")
    {p : Phi} {w : World} {cargs : List Value} (hm : MR E.P p m w) (hG : GP E.P ≤ m.next) (hf : Free p m.next m'.next) (hv : VRs p args cargs) :
    Calls E.P f ⟨cargs⟩ w fun e w' => ∃ cv p', e = .returned cv ∧ VR p' r cv ∧ Sim E.P p m w p' m' w' := by
  rcases h.2 p w cargs hm hG hf hv with ⟨_, _, _, _, h4⟩ | ⟨cv, w', p', h1, _⟩
  · exact h4
  · exfalso
    have hb2 : fn.body.isNone = false := by cases hbb : fn.body <;> simp [hbb] at hb ⊢
    have hn2 : (fn.name == "runtime.NumGoroutine") = false := by simpa using hn
    simp only [callFunc, Sem.run_bind, run_program, Result.andThen_ok, hfn, hn2, hb2, Bool.false_eq_true, if_false, Sem.run_pure] at h1
    cases h1

/-- A law's run. -/
theorem law_calls (hE : EnvOk E) {f : FuncId} {fn : Func} (hfn : E.P.funcs[f]? = some fn) (hb : fn.body.isSome = true) (hn : fn.name ≠ "runtime.NumGoroutine") {W : World} (hG : GP E.P ≤ W.heap.size) {args : List Value} {b : Bool} {m' : Mem}
    (h : run E (.fn f) (args.map (absV W)) (absM W) = some (.bool b, m')) : Calls E.P f ⟨args⟩ W fun e W' => e = .returned (.bool b) ∧ RowKit.Below W.heap.size W W' := by
  have hfree : Free (absPhi (GP E.P) W) (absM W).next m'.next := by
    intro x h1 h2
    simp only [absM] at h1
    cases e : absPhi (GP E.P) W x with
    | none => rfl
    | some ci => have := (absPhi_c e).2.2; omega
  refine (fnOk_calls (run_sound hE (.fn f) _ _ _ _ h) hfn hb hn (absM_MR hG) (by simpa [absM] using hG) hfree (absVs_VRs args)).mono ?_
  rintro e W' ⟨cv, p', rfl, h1, h2⟩
  simp only [VR] at h1
  subst h1
  refine ⟨rfl, h2.os, h2.tape, h2.output, h2.size, fun k hk => ?_⟩
  cases hc : isCells W k with
  | true =>
    unfold isCells at hc
    split at hc
    · rename_i c el fr e
      have h3 : (absM W).get k = some (.cells (c.toList.map (absP W)) true) := by rw [absM_get, absBlk, e]
      have h4 : absPhi (GP E.P) W k = some ⟨k, 0, c.size⟩ := by unfold absPhi; rw [e]
      exact (h2.ro k _ _ h3 h4).2
    · cases hc
  | false =>
    refine h2.keepC k hk fun b ci h3 h4 h5 => ?_
    have h6 := (absPhi_c h4).1
    have : b = k := by omega
    subst this
    rw [absM_get] at h3
    unfold absBlk at h3
    unfold isCells at hc
    split at h3
    · rename_i e; rw [e] at hc; cases hc
    · cases h3

/-- A closed law's run. -/
theorem law_closed (hE : EnvOk E) {f : FuncId} {fn : Func} (hfn : E.P.funcs[f]? = some fn) (hb : fn.body.isSome = true) (hn : fn.name ≠ "runtime.NumGoroutine") {W : World} (hG : GP E.P ≤ W.heap.size) {b : Bool} {m' : Mem}
    (h : run E (.fn f) [] (noM (GP E.P)) = some (.bool b, m')) : Calls E.P f #[] W fun e W' => e = .returned (.bool b) ∧ RowKit.Below W.heap.size W W' := by
  have hfree : Free (noPhi (GP E.P)) (noM (GP E.P)).next m'.next := by
    intro x h1 h2
    simp only [noM] at h1
    simp only [noPhi]; rw [if_neg (by omega)]
  refine (fnOk_calls (run_sound hE (.fn f) _ _ _ _ h) hfn hb hn (noM_MR hG) (by simp [noM]) hfree (cargs := []) (by simp [VRs])).mono ?_
  rintro e W' ⟨cv, p', rfl, h1, h2⟩
  simp only [VR] at h1
  subst h1
  refine ⟨rfl, h2.os, h2.tape, h2.output, h2.size, fun k hk => h2.keepC k hk fun b ci h3 => ?_⟩
  rw [noM_get] at h3; cases h3
end

/-- The world has at least the program's variables. -/
theorem shaped_size {P : Program} {W : World} (h : W.ShapedOpen P) (h0 : P.globals.size < (begin P (fun _ _ => 0) default).world.heap.size) : GP P ≤ W.heap.size := by
  obtain ⟨o, _, h1, _⟩ := h.2 P.globals.size (Nat.le_refl _) h0
  exact Nat.le_of_lt (Array.getElem?_eq_some_iff.1 h1).1
end Go.Abs
