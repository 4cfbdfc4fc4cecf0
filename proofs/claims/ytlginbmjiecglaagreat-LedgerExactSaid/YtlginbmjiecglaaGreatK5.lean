/- Texts of one claim, put together. -/
import Derived.Test.YtlginbmjiecglaaGreatK4
import Derived.Carry
import Derived.HandedShaped
import Derived.Test.YtlginbmjiecglaaGreatRows
import Derived.ProofKit
import Derived.Deep.Slices
import Derived.DataReads
import Derived.Lib.Overlaps
import Derived.Laws.Externs
section
namespace Go.Abs
open Go

def isCells (w : World) (b : Nat) : Bool := match w.heap[b]? with | some (.cells ..) => true | _ => false

def absP (w : World) : Value → AV
  | .bool b => .bool b
  | .int k n => .int k n
  | .string s => .str s.data.toList
  | .pointer none => .ptr none
  | .pointer (some a) => if a.spot = none ∧ isCells w a.block = true then .ptr (some ⟨a.block, a.off⟩) else .undef
  | .slice none 0 0 => .sl none 0 0 0 true
  | .slice (some a) len cap => if a.spot = none ∧ isCells w a.block = true ∧ len ≤ cap then .sl (some ⟨a.block, a.off⟩) 0 len cap true else .undef
  | .map none => .map none
  | .nilFunc => .nilFn
  | .nilIface => .nilIface
  | _ => .undef
def absV (w : World) : Value → AV
  | .agg cs => .agg (cs.toList.map (absP w))
  | v => absP w v

def absBlk (w : World) (b : Nat) : Option Blk :=
  match w.heap[b]? with
  | some (.cells c _ _) => some (.cells (c.toList.map (absP w)) true)
  | _ => none
noncomputable def absT (w : World) : Nat → PT
  | 0 => .leaf
  | n + 1 => (absT w n).set n (absBlk w n)
noncomputable def absM (w : World) : Mem := ⟨w.heap.size, absT w w.heap.size⟩

theorem absT_get (w : World) : ∀ n b, (absT w n).get b = if b < n then absBlk w b else none
  | 0, b => by simp [absT, PT.get_leaf]
  | n + 1, b => by
    simp only [absT, PT.get_set, absT_get w n b]
    by_cases h : b = n
    · subst h; simp
    · rw [if_neg h]
      by_cases h2 : b < n
      · rw [if_pos h2, if_pos (by omega)]
      · rw [if_neg h2, if_neg (by omega)]
theorem absM_get (w : World) (b : Nat) : (absM w).get b = absBlk w b := by
  simp only [Mem.get_def, absM, absT_get]
  by_cases h : b < w.heap.size
  · simp [h]
  · rw [if_neg h]; simp [absBlk, Array.getElem?_eq_none (Nat.le_of_not_lt h)]

def absPhi (G : Nat) (w : World) : Phi := fun b =>
  match w.heap[b]? with
  | some (.cells c _ _) => some ⟨b, 0, c.size⟩
  | _ => if b < G then some ⟨b, 0, 0⟩ else none

theorem absPhi_cells {G : Nat} {w : World} {b : Nat} (h : isCells w b = true) : ∃ n, absPhi G w b = some ⟨b, 0, n⟩ := by
  unfold isCells at h
  unfold absPhi
  split at h
  · exact ⟨_, rfl⟩
  · cases h
theorem absPhi_c {G : Nat} {w : World} {b : Nat} {ci : CI} (h : absPhi G w b = some ci) : ci.c = b ∧ ci.d = 0 ∧ (b < w.heap.size ∨ b < G) := by
  unfold absPhi at h
  split at h
  · rename_i e; cases h
    exact ⟨rfl, rfl, .inl (Array.getElem?_eq_some_iff.1 e).1⟩
  · split at h
    · cases h; exact ⟨rfl, rfl, .inr ‹_›⟩
    · cases h

theorem absP_VR {G : Nat} {w : World} (v : Value) : VR (absPhi G w) (absP w v) v := by
  cases v with
  | string s => simp only [absP, VR]
  | pointer a =>
    cases a with
    | none => simp [absP, VR]
    | some a =>
      simp only [absP]
      split
      · rename_i h
        obtain ⟨n, hn⟩ := absPhi_cells (G := G) h.2
        simp only [VR]
        refine ⟨_, hn, ?_⟩
        cases a with
        | mk b o s => simp only at h; rw [h.1]; simp
      · simp [VR]
  | slice a len cap =>
    cases a with
    | none => cases len <;> cases cap <;> simp [absP, VR]
    | some a =>
      simp only [absP]
      split
      · rename_i h
        obtain ⟨n, hn⟩ := absPhi_cells (G := G) h.2.1
        simp only [VR, SR]
        refine ⟨_, a.off, cap, hn, ?_, h.2.2, Nat.le_refl _, fun _ => rfl, by simp, fun _ => by simp⟩
        cases a with
        | mk b o s => simp only at h; rw [h.1]
      · simp [VR]
  | map a => cases a <;> simp [absP, VR]
  | _ => simp [absP, VR]
theorem absV_eq {w : World} {v : Value} (h : ∀ cs, v ≠ .agg cs) : absV w v = absP w v := by cases v <;> first | rfl | exact absurd rfl (h _)
theorem absV_VR {G : Nat} {w : World} (v : Value) : VR (absPhi G w) (absV w v) v := by
  cases v with
  | agg cs =>
    simp only [absV, VR]
    refine ⟨cs.toList, rfl, VRs.of_get (by simp) fun i a hi => ?_⟩
    simp only [List.getElem?_map, Option.map_eq_some_iff] at hi
    obtain ⟨v, h1, rfl⟩ := hi
    exact ⟨v, h1, absP_VR v⟩
  | _ => rw [absV_eq (by simp)]; exact absP_VR _
theorem absVs_VRs {G : Nat} {w : World} : ∀ vs : List Value, VRs (absPhi G w) (vs.map (absV w)) vs
  | [] => by simp [VRs]
  | v :: vs => by simp only [List.map_cons, VRs]; exact ⟨v, vs, rfl, absV_VR v, absVs_VRs vs⟩

theorem absM_MR {P : Program} {w : World} (hG : P.globals.size ≤ w.heap.size) : MR P (absPhi P.globals.size w) (absM w) w where
  has := fun b v ci h1 h2 => by
    rw [absM_get] at h1
    unfold absBlk at h1
    unfold absPhi at h2
    split at h1
    · rename_i c el fr e
      rw [e] at h2
      cases h1; cases h2
      refine ⟨_, e, c, el, fr, rfl, rfl, (fun h => by cases h), fun i a hi => ?_⟩
      simp only [List.getElem?_map, Option.map_eq_some_iff] at hi
      obtain ⟨v, h3, rfl⟩ := hi
      exact ⟨v, by simpa using h3, absP_VR v⟩
    · cases h1
  inj := fun b ci b2 ci2 _ h2 h3 h4 => by
    left
    rw [← (absPhi_c h2).1, ← (absPhi_c h3).1, h4]
  bnd := fun b ci h => by
    obtain ⟨h1, _, h3⟩ := absPhi_c h
    rw [h1]; omega
  glob := fun g hg => by
    unfold absPhi
    split
    · exact ⟨_, rfl⟩
    · rw [if_pos hg]; exact ⟨_, rfl⟩

def noM (G : Nat) : Mem := ⟨G, .leaf⟩
def noPhi (G : Nat) : Phi := fun b => if b < G then some ⟨b, 0, 0⟩ else none
theorem noM_get (G b : Nat) : (noM G).get b = none := by simp [noM, Mem.get_def, PT.get_leaf]
theorem noM_MR {P : Program} {w : World} (hG : P.globals.size ≤ w.heap.size) : MR P (noPhi P.globals.size) (noM P.globals.size) w where
  has := fun b v ci h1 => by rw [noM_get] at h1; cases h1
  inj := fun b ci b2 ci2 h1 => by rw [noM_get] at h1; cases h1
  bnd := fun b ci h => by
    unfold noPhi at h
    split at h
    · cases h; simp only; omega
    · cases h
  glob := fun g hg => ⟨0, by simp [noPhi, hg]⟩

section
variable {E : Env}

theorem fnOk_calls {f : FuncId} {args : List AV} {m : Mem} {r : AV} {m' : Mem} (h : FnOk E.P (.fn f) args m r m') {fn : Func} (hfn : E.P.funcs[f]? = some fn) (hb : fn.body.isSome = true) (hn : fn.name ≠ "runtime.NumGoroutine")
    {p : Phi} {w : World} {cargs : List Value} (hm : MR E.P p m w) (hG : GP E.P ≤ m.next) (hf : Free p m.next m'.next) (hv : VRs p args cargs) :
    Calls E.P f ⟨cargs⟩ w fun e w' => ∃ cv p', e = .returned cv ∧ VR p' r cv ∧ Sim E.P p m w p' m' w' := by
  rcases h.2 p w cargs hm hG hf hv with ⟨_, _, _, _, h4⟩ | ⟨cv, w', p', h1, _⟩
  · exact h4
  · exfalso
    have hb2 : fn.body.isNone = false := by cases hbb : fn.body <;> simp [hbb] at hb ⊢
    have hn2 : (fn.name == "runtime.NumGoroutine") = false := by simpa using hn
    simp only [callFunc, Sem.run_bind, run_program, Result.andThen_ok, hfn, hn2, hb2, Bool.false_eq_true, if_false, Sem.run_pure] at h1
    cases h1

theorem law_calls (hE : EnvOk E) {f : FuncId} {fn : Func} (hfn : E.P.funcs[f]? = some fn) (hb : fn.body.isSome = true) (hn : fn.name ≠ "runtime.NumGoroutine") {W : World} (hG : GP E.P ≤ W.heap.size) {args : List Value} {b : Bool} {m' : Mem}
    (h : run E (.fn f) (args.map (absV W)) (absM W) = some (.bool b, m')) : Calls E.P f ⟨args⟩ W fun e W' => e = .returned (.bool b) ∧ RowKit.Below W.heap.size W W' := by
  have hfree : Free (absPhi (GP E.P) W) (absM W).next m'.next := by
    intro x h1 h2
    simp only [absM] at h1
    cases e : absPhi (GP E.P) W x with
    | none => rfl
    | some ci => have := (absPhi_c e).2.2; omega
  refine (fnOk_calls (run_sound hE (.fn f) _ _ _ _ h) hfn hb hn (absM_MR hG) (by simpa [absM] using hG) hfree (absVs_VRs args)).mono ?_
  rintro e W' ⟨cv, p', rfl, h1, h2⟩
  simp only [VR] at h1
  subst h1
  refine ⟨rfl, h2.os, h2.tape, h2.output, h2.size, fun k hk => ?_⟩
  cases hc : isCells W k with
  | true =>
    unfold isCells at hc
    split at hc
    · rename_i c el fr e
      have h3 : (absM W).get k = some (.cells (c.toList.map (absP W)) true) := by rw [absM_get, absBlk, e]
      have h4 : absPhi (GP E.P) W k = some ⟨k, 0, c.size⟩ := by unfold absPhi; rw [e]
      exact (h2.ro k _ _ h3 h4).2
    · cases hc
  | false =>
    refine h2.keepC k hk fun b ci h3 h4 h5 => ?_
    have h6 := (absPhi_c h4).1
    have : b = k := by omega
    subst this
    rw [absM_get] at h3
    unfold absBlk at h3
    unfold isCells at hc
    split at h3
    · rename_i e; rw [e] at hc; cases hc
    · cases h3

theorem law_closed (hE : EnvOk E) {f : FuncId} {fn : Func} (hfn : E.P.funcs[f]? = some fn) (hb : fn.body.isSome = true) (hn : fn.name ≠ "runtime.NumGoroutine") {W : World} (hG : GP E.P ≤ W.heap.size) {b : Bool} {m' : Mem}
    (h : run E (.fn f) [] (noM (GP E.P)) = some (.bool b, m')) : Calls E.P f #[] W fun e W' => e = .returned (.bool b) ∧ RowKit.Below W.heap.size W W' := by
  have hfree : Free (noPhi (GP E.P)) (noM (GP E.P)).next m'.next := by
    intro x h1 h2
    simp only [noM] at h1
    simp only [noPhi]; rw [if_neg (by omega)]
  refine (fnOk_calls (run_sound hE (.fn f) _ _ _ _ h) hfn hb hn (noM_MR hG) (by simp [noM]) hfree (cargs := []) (by simp [VRs])).mono ?_
  rintro e W' ⟨cv, p', rfl, h1, h2⟩
  simp only [VR] at h1
  subst h1
  refine ⟨rfl, h2.os, h2.tape, h2.output, h2.size, fun k hk => h2.keepC k hk fun b ci h3 => ?_⟩
  rw [noM_get] at h3; cases h3
end

theorem shaped_size {P : Program} {W : World} (h : W.ShapedOpen P) (h0 : P.globals.size < (begin P (fun _ _ => 0) default).world.heap.size) : GP P ≤ W.heap.size := by
  obtain ⟨o, _, h1, _⟩ := h.2 P.globals.size (Nat.le_refl _) h0
  exact Nat.le_of_lt (Array.getElem?_eq_some_iff.1 h1).1
end Go.Abs
end
section
namespace Go.Abs
open Go

inductive Hint where
  | z
  | two (a b : Hint)
  | one (a : Hint)
  | pt (live : List Bool) (h : Hint)
  | reg (chk anc : List (List Nat))

def Hint.mark : Hint → Option (List Bool)
  | .pt l _ => some l
  | _ => none
def Hint.rest : Hint → Hint
  | .pt _ h => h
  | h => h
def Hint.fst : Hint → Hint
  | .two a _ => a
  | .one a => a
  | _ => .z
def Hint.snd : Hint → Hint
  | .two _ b => b
  | _ => .z
def Hint.chk : Hint → List (List Nat)
  | .reg c _ => c
  | _ => []
def Hint.anc : Hint → List (List Nat)
  | .reg _ a => a
  | _ => []

def wrapPt (l : Option (List Bool)) (c : AC) : AC :=
  match l with
  | some l => .pt l c
  | none => c

def annot : Code → Hint → AC
  | .skip, h => wrapPt h.mark .skip
  | .region id ops draw, h => wrapPt h.mark (.region id ops.toList draw h.rest.chk h.rest.anc)
  | .seq a b, h => wrapPt h.mark (.seq (annot a h.rest.fst) (annot b h.rest.snd))
  | .cond c x y, h => wrapPt h.mark (.cond c (annot x h.rest.fst) (annot y h.rest.snd))
  | .block id b, h => wrapPt h.mark (.block id (annot b h.rest.fst))
  | .loop b, h => wrapPt h.mark (.loop (annot b h.rest.fst))
  | .rangeFunc f ps a b, h => wrapPt h.mark (.rangeFunc f ps.toList (annot a h.rest.fst) (annot b h.rest.snd))
  | .scope b, h => wrapPt h.mark (.scope (annot b h.rest.fst))
  | .exit id, h => wrapPt h.mark (.exit id)
  | .ret, h => wrapPt h.mark .ret
  | c, h => wrapPt h.mark (.other c)

theorem wrapPt_erase (l : Option (List Bool)) (c : AC) : (wrapPt l c).erase = c.erase := by cases l <;> rfl
theorem annot_erase : ∀ (c : Code) (h : Hint), (annot c h).erase = c
  | .skip, h => wrapPt_erase _ _
  | .region id ops draw, h => by simp only [annot, wrapPt_erase, AC.erase]
  | .seq a b, h => by simp only [annot, wrapPt_erase, AC.erase, annot_erase a, annot_erase b]
  | .cond c x y, h => by simp only [annot, wrapPt_erase, AC.erase, annot_erase x, annot_erase y]
  | .block id b, h => by simp only [annot, wrapPt_erase, AC.erase, annot_erase b]
  | .loop b, h => by simp only [annot, wrapPt_erase, AC.erase, annot_erase b]
  | .exit id, h => wrapPt_erase _ _
  | .ret, h => wrapPt_erase _ _
  | .rangeFunc f ps a b, h => by simp only [annot, wrapPt_erase, AC.erase, annot_erase a, annot_erase b]
  | .scope b, h => by simp only [annot, wrapPt_erase, AC.erase, annot_erase b]
  | .label _, h => wrapPt_erase _ _
  | .goto _, h => wrapPt_erase _ _
  | .refuse _, h => wrapPt_erase _ _

def bodyOf (P : Program) (hints : FuncId → Option Hint) (f : FuncId) : Option (List ResultVar × Nat × AC) :=
  match hints f with
  | none => none
  | some h => match P.funcs[f]? with
    | some fn => match fn.body with
      | some c => some (fn.results.toList, fn.ntmps, annot c h)
      | none => none
    | none => none

def fnLook (P : Program) (hints : FuncId → Option Hint) (f : FuncId) : Bool :=
  match hints f with
  | none => true
  | some h => match P.funcs[f]? with
    | some fn => decide (fn.name ≠ "runtime.NumGoroutine") && match fn.body with
      | some c => (annot c h).ok P
      | none => true
    | none => true

def envOf (P : Program) (hints : FuncId → Option Hint) (H : FuncId → Option (List AV → Mem → R)) : Env := ⟨P, bodyOf P hints, H⟩

theorem envOf_ok {P : Program} {hints : FuncId → Option Hint} {H : FuncId → Option (List AV → Mem → R)} (hm : P.follows .mixedOrders = true) (n : Nat) (hn : ∀ f, n ≤ f → hints f = none)
    (hl : ∀ f, f < n → fnLook P hints f = true) (hH : ∀ f h, H f = some h → ∀ args m r m', h args m = some (r, m') → FnOk P (.fn f) args m r m') : EnvOk (envOf P hints H) where
  mixed := hm
  hook := hH
  body := fun f rs nt c h => by
    have hlt : f < n := by
      rcases Nat.lt_or_ge f n with h1 | h1
      · exact h1
      · simp [envOf, bodyOf, hn f h1] at h
    have hlook := hl f hlt
    simp only [envOf, bodyOf] at h ⊢
    unfold fnLook at hlook
    split at h
    · cases h
    · rename_i hh e
      simp only [e] at hlook
      split at h
      · rename_i fn e2
        simp only [e2, Bool.and_eq_true, decide_eq_true_eq] at hlook
        split at h
        · rename_i cc e3
          cases h
          simp only [e3] at hlook
          exact ⟨fn, e2, by rw [annot_erase]; exact e3, rfl, rfl, hlook.1, hlook.2⟩
        · cases h
      · cases h
end Go.Abs
end
section
namespace Go.Proofs.YtlginbmjiecglaaGreat
open Go Go.Abs
def hint2 : Hint := .z
def hint3 : Hint := (.two .z (.two .z (.two .z (.two .z (.two .z (.two .z (.pt [true, true, true, true, true, true, false, false, false, false, false, false, false, true] (.two .z (.two .z (.two .z (.two .z (.two .z (.two .z (.pt [true, false, true, true, true, true, false, false, false, false, false, false, false, true, false, true] (.two .z (.two .z (.two .z (.two .z (.two .z (.two .z (.two .z (.two (.reg [[], [], [], [], [], [], [], [], [], [], [], [], [], [], [], [], [], [], [], [], [], [17], [], [], [], [], [], [], [25], [], [], [], [], [], [], [], [], [], [], [], [], [], [], [], [], [], []] [[], [0], [0, 1], [1, 0, 2], [2, 0, 1, 3], [3, 4, 1, 0, 2], [2, 0, 1, 4, 3, 5], [5, 3, 4, 1, 0, 2, 6], [5, 3, 4, 1, 0, 2, 6], [8, 6, 2, 0, 1, 4, 3, 5, 7], [7, 8, 9, 5, 3, 4, 1, 0, 2, 6], [6, 2, 0, 1, 4, 3, 5, 9, 8, 7, 10], [10, 7, 8, 9, 5, 3, 4, 1, 0, 2, 6, 11], [10, 7, 8, 9, 5, 3, 4, 1, 0, 2, 6, 11], [13, 11, 6, 2, 0, 1, 4, 3, 5, 9, 8, 7, 10, 12], [12, 13, 14, 10, 7, 8, 9, 5, 3, 4, 1, 0, 2, 6, 11], [11, 6, 2, 0, 1, 4, 3, 5, 9, 8, 7, 10, 14, 13, 12, 15], [15, 12, 13, 14, 10, 7, 8, 9, 5, 3, 4, 1, 0, 2, 6, 11, 16], [15, 12, 13, 14, 10, 7, 8, 9, 5, 3, 4, 1, 0, 2, 6, 11, 16], [16, 11, 6, 2, 0, 1, 4, 3, 5, 9, 8, 7, 10, 14, 13, 12, 15, 18], [15, 12, 13, 14, 10, 7, 8, 9, 5, 3, 4, 1, 0, 2, 6, 11, 16], [20, 18, 15, 12, 13, 14, 10, 7, 8, 9, 5, 3, 4, 1, 0, 2, 6, 11, 16, 19], [19, 18, 20, 21, 16, 11, 6, 2, 0, 1, 4, 3, 5, 9, 8, 7, 10, 14, 13, 12, 15, 17], [17, 21, 20, 18, 19, 22, 15, 12, 13, 14, 10, 7, 8, 9, 5, 3, 4, 1, 0, 2, 6, 11, 16], [16, 11, 6, 2, 0, 1, 4, 3, 5, 9, 8, 7, 10, 14, 13, 12, 15, 22, 19, 18, 20, 21, 17, 23], [23, 17, 21, 20, 18, 19, 22, 15, 12, 13, 14, 10, 7, 8, 9, 5, 3, 4, 1, 0, 2, 6, 11, 16, 24], [23, 17, 21, 20, 18, 19, 22, 15, 12, 13, 14, 10, 7, 8, 9, 5, 3, 4, 1, 0, 2, 6, 11, 16, 24], [23, 17, 21, 20, 18, 19, 22, 15, 12, 13, 14, 10, 7, 8, 9, 5, 3, 4, 1, 0, 2, 6, 11, 16, 24], [27, 24, 16, 11, 6, 2, 0, 1, 4, 3, 5, 9, 8, 7, 10, 14, 13, 12, 15, 22, 19, 18, 20, 21, 17, 23, 26], [26, 27, 28, 24, 16, 11, 6, 2, 0, 1, 4, 3, 5, 9, 8, 7, 10, 14, 13, 12, 15, 22, 19, 18, 20, 21, 17, 23, 25], [25, 28, 27, 26, 29, 23, 17, 21, 20, 18, 19, 22, 15, 12, 13, 14, 10, 7, 8, 9, 5, 3, 4, 1, 0, 2, 6, 11, 16, 24], [24, 16, 11, 6, 2, 0, 1, 4, 3, 5, 9, 8, 7, 10, 14, 13, 12, 15, 22, 19, 18, 20, 21, 17, 23, 29, 26, 27, 28, 25, 30], [30, 25, 28, 27, 26, 29, 23, 17, 21, 20, 18, 19, 22, 15, 12, 13, 14, 10, 7, 8, 9, 5, 3, 4, 1, 0, 2, 6, 11, 16, 24, 31], [31, 24, 16, 11, 6, 2, 0, 1, 4, 3, 5, 9, 8, 7, 10, 14, 13, 12, 15, 22, 19, 18, 20, 21, 17, 23, 29, 26, 27, 28, 25, 30, 32], [32, 30, 25, 28, 27, 26, 29, 23, 17, 21, 20, 18, 19, 22, 15, 12, 13, 14, 10, 7, 8, 9, 5, 3, 4, 1, 0, 2, 6, 11, 16, 24, 31, 33], [33, 31, 24, 16, 11, 6, 2, 0, 1, 4, 3, 5, 9, 8, 7, 10, 14, 13, 12, 15, 22, 19, 18, 20, 21, 17, 23, 29, 26, 27, 28, 25, 30, 32, 34], [34, 32, 33, 35, 30, 25, 28, 27, 26, 29, 23, 17, 21, 20, 18, 19, 22, 15, 12, 13, 14, 10, 7, 8, 9, 5, 3, 4, 1, 0, 2, 6, 11, 16, 24, 31], [31, 24, 16, 11, 6, 2, 0, 1, 4, 3, 5, 9, 8, 7, 10, 14, 13, 12, 15, 22, 19, 18, 20, 21, 17, 23, 29, 26, 27, 28, 25, 30, 35, 33, 32, 34, 36], [36, 34, 32, 33, 35, 30, 25, 28, 27, 26, 29, 23, 17, 21, 20, 18, 19, 22, 15, 12, 13, 14, 10, 7, 8, 9, 5, 3, 4, 1, 0, 2, 6, 11, 16, 24, 31, 37], [37, 31, 24, 16, 11, 6, 2, 0, 1, 4, 3, 5, 9, 8, 7, 10, 14, 13, 12, 15, 22, 19, 18, 20, 21, 17, 23, 29, 26, 27, 28, 25, 30, 35, 33, 32, 34, 36, 38], [38, 36, 34, 32, 33, 35, 30, 25, 28, 27, 26, 29, 23, 17, 21, 20, 18, 19, 22, 15, 12, 13, 14, 10, 7, 8, 9, 5, 3, 4, 1, 0, 2, 6, 11, 16, 24, 31, 37, 39], [39, 37, 31, 24, 16, 11, 6, 2, 0, 1, 4, 3, 5, 9, 8, 7, 10, 14, 13, 12, 15, 22, 19, 18, 20, 21, 17, 23, 29, 26, 27, 28, 25, 30, 35, 33, 32, 34, 36, 38, 40], [40, 38, 36, 34, 32, 33, 35, 30, 25, 28, 27, 26, 29, 23, 17, 21, 20, 18, 19, 22, 15, 12, 13, 14, 10, 7, 8, 9, 5, 3, 4, 1, 0, 2, 6, 11, 16, 24, 31, 37, 39, 41], [36, 34, 32, 33, 35, 30, 25, 28, 27, 26, 29, 23, 17, 21, 20, 18, 19, 22, 15, 12, 13, 14, 10, 7, 8, 9, 5, 3, 4, 1, 0, 2, 6, 11, 16, 24, 31, 37], [43, 41, 39, 37, 31, 24, 16, 11, 6, 2, 0, 1, 4, 3, 5, 9, 8, 7, 10, 14, 13, 12, 15, 22, 19, 18, 20, 21, 17, 23, 29, 26, 27, 28, 25, 30, 35, 33, 32, 34, 36, 38, 40, 42], [42, 40, 38, 39, 41, 43, 44, 36, 34, 32, 33, 35, 30, 25, 28, 27, 26, 29, 23, 17, 21, 20, 18, 19, 22, 15, 12, 13, 14, 10, 7, 8, 9, 5, 3, 4, 1, 0, 2, 6, 11, 16, 24, 31, 37], [37, 31, 24, 16, 11, 6, 2, 0, 1, 4, 3, 5, 9, 8, 7, 10, 14, 13, 12, 15, 22, 19, 18, 20, 21, 17, 23, 29, 26, 27, 28, 25, 30, 35, 33, 32, 34, 36, 44, 43, 41, 39, 38, 40, 42, 45]]) .z))))))))))))))))))))))
def hint4 : Hint := (.two .z (.two .z (.two .z (.pt [true] .z))))
def hint5 : Hint := (.two .z (.two .z (.pt [true] .z)))
def hint6 : Hint := (.two .z (.two .z (.two .z (.pt [false, true] (.two .z (.two .z (.two .z (.two .z (.two .z (.two .z (.two (.reg [[], [], [], [], [], [], [], [], [], [], [], [], [], [], [], [], [], [], [], [], [], [], [], [], [], [], [], [], [27], [], [], []] [[], [0], [0, 1], [1, 0, 2], [2, 0, 1, 3], [3, 4, 1, 0, 2], [2, 0, 1, 4, 3, 5], [5, 3, 4, 1, 0, 2, 6], [6, 2, 0, 1, 4, 3, 5, 7], [7, 8, 5, 3, 4, 1, 0, 2, 6], [6, 2, 0, 1, 4, 3, 5, 8, 7, 9], [9, 7, 8, 5, 3, 4, 1, 0, 2, 6, 10], [10, 6, 2, 0, 1, 4, 3, 5, 8, 7, 9, 11], [11, 12, 9, 7, 8, 5, 3, 4, 1, 0, 2, 6, 10], [10, 6, 2, 0, 1, 4, 3, 5, 8, 7, 9, 12, 11, 13], [13, 11, 12, 9, 7, 8, 5, 3, 4, 1, 0, 2, 6, 10, 14], [14, 10, 6, 2, 0, 1, 4, 3, 5, 8, 7, 9, 12, 11, 13, 15], [15, 16, 13, 11, 12, 9, 7, 8, 5, 3, 4, 1, 0, 2, 6, 10, 14], [14, 10, 6, 2, 0, 1, 4, 3, 5, 8, 7, 9, 12, 11, 13, 16, 15, 17], [17, 15, 16, 13, 11, 12, 9, 7, 8, 5, 3, 4, 1, 0, 2, 6, 10, 14, 18], [18, 14, 10, 6, 2, 0, 1, 4, 3, 5, 8, 7, 9, 12, 11, 13, 16, 15, 17, 19], [19, 20, 17, 15, 16, 13, 11, 12, 9, 7, 8, 5, 3, 4, 1, 0, 2, 6, 10, 14, 18], [18, 14, 10, 6, 2, 0, 1, 4, 3, 5, 8, 7, 9, 12, 11, 13, 16, 15, 17, 20, 19, 21], [21, 19, 20, 17, 15, 16, 13, 11, 12, 9, 7, 8, 5, 3, 4, 1, 0, 2, 6, 10, 14, 18, 22], [22, 18, 14, 10, 6, 2, 0, 1, 4, 3, 5, 8, 7, 9, 12, 11, 13, 16, 15, 17, 20, 19, 21, 23], [23, 24, 21, 19, 20, 17, 15, 16, 13, 11, 12, 9, 7, 8, 5, 3, 4, 1, 0, 2, 6, 10, 14, 18, 22], [22, 18, 14, 10, 6, 2, 0, 1, 4, 3, 5, 8, 7, 9, 12, 11, 13, 16, 15, 17, 20, 19, 21, 24, 23, 25], [25, 23, 24, 21, 19, 20, 17, 15, 16, 13, 11, 12, 9, 7, 8, 5, 3, 4, 1, 0, 2, 6, 10, 14, 18, 22, 26], [25, 23, 24, 21, 19, 20, 17, 15, 16, 13, 11, 12, 9, 7, 8, 5, 3, 4, 1, 0, 2, 6, 10, 14, 18, 22, 26], [28, 26, 22, 18, 14, 10, 6, 2, 0, 1, 4, 3, 5, 8, 7, 9, 12, 11, 13, 16, 15, 17, 20, 19, 21, 24, 23, 25, 27], [27, 28, 29, 25, 23, 24, 21, 19, 20, 17, 15, 16, 13, 11, 12, 9, 7, 8, 5, 3, 4, 1, 0, 2, 6, 10, 14, 18, 22, 26], [26, 22, 18, 14, 10, 6, 2, 0, 1, 4, 3, 5, 8, 7, 9, 12, 11, 13, 16, 15, 17, 20, 19, 21, 24, 23, 25, 29, 28, 27, 30]]) .z)))))))))))
def hint7 : Hint := (.two .z (.two .z (.two .z (.pt [] .z))))
def hint8 : Hint := (.two .z (.two .z (.pt [true, true] (.two (.two (.reg [[], [], [], [], [], [], [], [], [4], [], [], [], [], [], [], [], []] [[], [0], [0, 1], [1, 0, 2], [2, 0, 1, 3], [], [5], [5, 6], [6, 5, 7], [7, 5, 6, 8, 3, 1, 0, 2, 4], [4, 2, 0, 1, 3, 8, 6, 5, 7, 9], [9, 7, 5, 6, 8, 3, 1, 0, 2, 4, 10], [10, 4, 2, 0, 1, 3, 8, 6, 5, 7, 9, 11], [11, 9, 7, 5, 6, 8, 3, 1, 0, 2, 4, 10, 12], [12, 10, 4, 2, 0, 1, 3, 8, 6, 5, 7, 9, 11, 13], [13, 11, 9, 7, 5, 6, 8, 3, 1, 0, 2, 4, 10, 12, 14], [14, 12, 11, 13, 15, 9, 7, 5, 6, 8, 3, 1, 0, 2, 4, 10]]) .z) (.pt [true, true] (.two .z (.two (.reg [[], [], [], [], [], [], [], [], [], [], [], [], [], [], []] [[], [0], [0, 1], [1, 0, 2], [], [4], [4, 5], [5, 4, 6], [], [8], [8, 9], [9, 8, 10], [], [12, 10, 8, 9, 11], [11, 9, 8, 10, 12, 13, 6, 4, 5, 7, 2, 0, 1, 3]]) .z)))))))
def hint9 : Hint := (.two .z (.two .z (.two .z (.pt [true, false, false, false, false, true, false, true, true, true] (.two .z (.pt [true, false, false, false, false, false, false, true, true, true] (.two (.two .z (.two (.two .z (.reg [[], [], [], [], [], [], [], []] [[], [0], [0, 1], [1, 0, 2], [], [4], [], [6, 4, 5, 2, 0, 1, 3]])) .z)) (.pt [false, false, false, false, false, false, false, false, false, true] .z))))))))
def hint10 : Hint := .z
def hint11 : Hint := (.two .z (.two .z (.two .z (.two .z (.pt [true, true, true, false, false, false, false, true] (.two .z (.pt [true, true, true, false, false, false, false, true] (.two .z (.two (.reg [[], [], [], [], [2], [], [2], [], []] [[], [], [], [0], [0, 3], [4, 3, 1, 0], [0, 1, 3, 4, 5], [6, 5, 4, 3, 2, 1, 0], [0, 1, 2, 3, 4, 5, 6, 7]]) (.two (.reg [[], [], [], [], [], [], [], [], []] [[], [0], [0, 1], [1, 0, 2], [], [], [5, 4], [], [7, 4, 5, 6, 2, 0, 1, 3]]) .z))))))))))
def hint12 : Hint := (.two .z (.two .z (.two .z (.two (.reg [[], [], [], [], [], [], [], [], [], [], [], [], [], [], [], []] [[], [0], [0, 1], [1, 0, 2], [], [4], [], [6], [6, 7, 4, 5], [5, 4, 7, 6, 8, 2, 0, 1, 3], [3, 1, 0, 2, 8, 6, 7, 4, 5, 9], [9, 5, 4, 7, 6, 8, 2, 0, 1, 3, 10], [9, 5, 4, 7, 6, 8, 2, 0, 1, 3, 10], [], [10, 3, 1, 0, 2, 8, 6, 7, 4, 5, 9, 11, 13], [13, 11, 14, 10, 3, 1, 0, 2, 8, 6, 7, 4, 5, 9, 12]]) (.two .z (.pt [true, false, false, false, false, false, false, true, true, false, true, true, false, true, true, false, true] (.two .z (.two .z (.pt [true, false, false, false, false, false, false, true, true, false, true, false, true, true, true, false, true] (.two .z (.two .z (.pt [true, false, false, false, false, false, false, true, true, false, true, false, true, true, false, false, true, false, true] (.two .z (.pt [true, false, false, false, false, false, false, false, true, false, true, false, true, true, false, false, true, false, true] (.two .z (.pt [true, false, false, false, false, false, false, false, true, false, true, false, true, true, false, false, true, false, true] (.two .z (.pt [true, false, false, false, false, false, false, false, true, false, true, false, false, true, false, false, true, false, true] (.two .z (.two .z (.two (.reg [[], [], [], [], [], [], [], [], [], [], []] [[], [0], [0, 1], [1, 0, 2], [], [4], [], [6], [6, 7, 4, 5], [], [9, 5, 4, 7, 6, 8, 2, 0, 1, 3]]) .z)))))))))))))))))))))
def hint13 : Hint := (.two .z (.two .z (.pt [false, false, true, true, true, false, true] (.two (.reg [[], [], [], [], [2], [], [], [], [2, 5, 6], [], [2, 5, 6], [], [], [], [], [], [], [], [], [], []] [[], [0], [0, 1], [], [3], [1, 0, 2, 3, 4], [4, 3, 5, 1, 0, 2], [], [7], [], [9], [9, 10, 7, 8], [], [12, 8, 7, 10, 9, 11], [11, 9, 10, 7, 8, 12, 13, 2, 0, 1, 5, 3, 4, 6], [], [15, 6, 4, 3, 5, 1, 0, 2, 13, 12, 8, 7, 10, 9, 11, 14], [14, 11, 9, 10, 7, 8, 12, 13, 2, 0, 1, 5, 3, 4, 6, 15, 16], [14, 11, 9, 10, 7, 8, 12, 13, 2, 0, 1, 5, 3, 4, 6, 15, 16], [18, 16, 15, 6, 4, 3, 5, 1, 0, 2, 13, 12, 8, 7, 10, 9, 11, 14, 17], [17, 19, 16, 15, 6, 4, 3, 5, 1, 0, 2, 13, 12, 8, 7, 10, 9, 11, 14, 18]]) .z))))
def hint14 : Hint := (.two .z (.two .z (.two .z (.pt [false, false, false, false, true, false, true, true] .z))))
def hint15 : Hint := (.two .z (.two .z (.two .z (.two .z (.two .z (.pt [false, false, false, false, false, false, true, false, true, false, false, false, true] .z))))))
def hint16 : Hint := (.two .z (.two .z (.two (.two .z (.one (.pt [true, false, true, true, false, true, false, true, false, true, false, false, false, false, false, false, false, false, false, true, false, true, false, false, false, false, false, false, false, false, false, false, false, false, true, false, false, false, false, false, false, false, false, false, false, false, false, true] (.two .z (.pt [false, false, false, true, false, true] .z))))) (.pt [true, false, true, true, false, false, false, true, false, true, false, false, false, false, false, false, false, false, false, false, false, false, false, false, false, false, false, false, false, false, false, false, false, false, true, false, false, false, false, false, false, false, false, false, false, false, false, true] (.two (.two .z (.one (.pt [true, false, true, true, false, false, false, true, false, true, false, false, false, false, false, false, false, false, false, false, false, false, false, false, false, false, false, false, false, false, false, false, true, false, true, false, false, false, false, false, false, false, false, false, false, false, false, true] (.two .z (.pt [false, false, false, true, false, false, false, true] .z))))) (.pt [true, false, true, true, false, false, false, false, false, true, false, false, false, false, false, false, false, false, false, false, false, false, false, false, false, false, false, false, false, false, false, false, false, false, false, false, false, false, false, false, false, false, false, false, false, false, false, true] (.two (.two .z (.one (.pt [false, false, true, true, false, false, false, false, false, true, false, false, false, false, false, false, false, false, false, false, false, false, false, false, false, false, false, false, false, false, false, false, false, false, false, false, false, false, false, false, false, false, false, false, false, true, false, true] (.two .z (.pt [false, false, false, true, false, false, false, false, false, true] .z))))) (.pt [false, false, true, true] .z))))))))
def hint17 : Hint := .z
def hint18 : Hint := (.two .z (.two .z (.pt [true] .z)))
def hint19 : Hint := (.two .z (.two .z (.pt [true] .z)))
def hint20 : Hint := (.two .z (.two .z (.pt [true] .z)))
def hint21 : Hint := (.two .z (.two .z (.two .z (.pt [false, false, false, false, true, false, true] .z))))
def hint22 : Hint := (.two .z (.two .z (.two .z (.pt [true, false, false, false, true, false, true] .z))))
def hint23 : Hint := (.two .z (.two (.two .z (.one (.one (.pt [true, false, false, true] (.two .z (.pt [true, false, false, true] (.two .z (.pt [true, false, false, true] .z)))))))) (.pt [true] .z)))
def hint24 : Hint := (.two .z (.two .z (.two (.one (.two .z (.two (.reg [[], [], [], [], [], [], [], []] [[], [0], [0, 1], [1, 0, 2], [], [], [5, 4, 2, 0, 1, 3], [3, 1, 0, 2, 4, 5, 6]]) (.two (.reg [[], [], [], [], [], [], [], [], [], [], []] [[], [0], [0, 1], [1, 0, 2], [2, 0, 1, 3], [], [5], [5, 6], [6, 5, 7], [7, 5, 6, 8, 3, 1, 0, 2, 4], [4, 2, 0, 1, 3, 8, 6, 5, 7, 9]]) (.two .z (.two .z (.reg [[], [], [], [], [], [], [], [], [], [], [], []] [[], [], [1], [1, 2], [2, 1, 3], [], [], [6], [6, 7, 5, 3, 1, 2, 4], [8, 7, 6, 5, 4, 3, 2, 1, 0], [0, 1, 2, 3, 4, 5, 6, 7, 8, 9], [9, 8, 7, 6, 5, 4, 3, 2, 1, 0, 10]]))))))) (.pt [] .z))))
def hint25 : Hint := .z
def hint26 : Hint := (.two .z (.two .z (.two (.one (.two .z (.two (.reg [[], [], [], [], [], [], [], []] [[], [0], [0, 1], [1, 0, 2], [], [], [5, 4, 2, 0, 1, 3], [3, 1, 0, 2, 4, 5, 6]]) (.two (.reg [[], [], [], [], [], [], [], [], [], [], []] [[], [0], [0, 1], [1, 0, 2], [2, 0, 1, 3], [], [5], [5, 6], [6, 5, 7], [7, 5, 6, 8, 3, 1, 0, 2, 4], [4, 2, 0, 1, 3, 8, 6, 5, 7, 9]]) (.two .z (.two .z (.reg [[], [], [], [], [], [], [], [], [], [], [], []] [[], [], [1], [1, 2], [2, 1, 3], [], [], [6], [6, 7, 5, 3, 1, 2, 4], [8, 7, 6, 5, 4, 3, 2, 1, 0], [0, 1, 2, 3, 4, 5, 6, 7, 8, 9], [9, 8, 7, 6, 5, 4, 3, 2, 1, 0, 10]]))))))) (.pt [] .z))))
def hint27 : Hint := (.two .z (.two .z (.two .z (.pt [true, false, false, false, true, true, false, true] (.two (.reg [[], [], [], [], [], [], [], [], [], [], [], [], []] [[], [0], [0, 1], [1, 0, 2], [], [4], [4, 5, 2, 0, 1, 3], [3, 1, 0, 2, 5, 4, 6], [6, 4, 5, 2, 0, 1, 3, 7], [6, 4, 5, 2, 0, 1, 3, 7], [], [7, 3, 1, 0, 2, 5, 4, 6, 8, 10], [10, 8, 11, 7, 3, 1, 0, 2, 5, 4, 6, 9]]) (.two (.reg [[], [], [1], [], []] [[], [], [0], [0, 2, 1], [1, 2, 0, 3]]) .z))))))
def hint28 : Hint := (.two .z (.two .z (.pt [] .z)))
def hint29 : Hint := (.two .z (.two (.reg [[], [], [], [], [], [], [], [], [], [], []] [[], [0], [0, 1], [], [3, 1, 0, 2], [2, 0, 1, 3, 4], [4, 3, 1, 0, 2, 5], [4, 3, 1, 0, 2, 5], [], [5, 2, 0, 1, 3, 4, 6, 8], [8, 6, 9, 5, 2, 0, 1, 3, 4, 7]]) (.two (.reg [[], [], [], [], [], [], [], [], [], [], []] [[], [0], [0, 1], [], [3, 1, 0, 2], [2, 0, 1, 3, 4], [4, 3, 1, 0, 2, 5], [4, 3, 1, 0, 2, 5], [], [5, 2, 0, 1, 3, 4, 6, 8], [8, 6, 9, 5, 2, 0, 1, 3, 4, 7]]) (.two .z (.pt [true, true, false, false, false, false, false, true, false, true] (.two (.reg [[], [], [], [], [], [3], [], []] [[], [], [], [], [2, 0], [0, 2, 4], [5, 4, 3, 2, 0, 1], [1, 0, 2, 3, 4, 5, 6]]) .z))))))
def hint30 : Hint := (.two .z (.reg [[], [], [], [], [], [], [], []] [[], [0], [0, 1], [1, 0, 2], [], [4], [], [6, 4, 5, 2, 0, 1, 3]]))
def hint31 : Hint := .z
def hint32 : Hint := (.two .z (.two .z (.pt [] .z)))
def hint33 : Hint := (.two .z (.two .z (.two .z (.pt [true, false, false, false, true, false, true] .z))))
def hint34 : Hint := (.two .z (.two .z (.two (.one (.two .z (.two (.reg [[], [], [], [], [], [], [], []] [[], [0], [0, 1], [1, 0, 2], [], [], [5, 4, 2, 0, 1, 3], [3, 1, 0, 2, 4, 5, 6]]) (.two (.reg [[], [], [], [], [], [], [], [], [], [], []] [[], [0], [0, 1], [1, 0, 2], [2, 0, 1, 3], [], [5], [5, 6], [6, 5, 7], [7, 5, 6, 8, 3, 1, 0, 2, 4], [4, 2, 0, 1, 3, 8, 6, 5, 7, 9]]) (.two .z (.two .z (.reg [[], [], [], [], [], [], [], [], [], [], [], []] [[], [], [1], [1, 2], [2, 1, 3], [], [], [6], [6, 7, 5, 3, 1, 2, 4], [8, 7, 6, 5, 4, 3, 2, 1, 0], [0, 1, 2, 3, 4, 5, 6, 7, 8, 9], [9, 8, 7, 6, 5, 4, 3, 2, 1, 0, 10]]))))))) (.pt [] .z))))
def hint35 : Hint := .z
def hint36 : Hint := (.two .z (.two .z (.pt [false, false, true, true, true, false, true] (.two .z (.pt [false, false, true, true, true, false, true] .z)))))
def hint37 : Hint := .z
def hint38 : Hint := (.two .z (.two .z (.two .z (.pt [false, true, false, false, true, false, true] .z))))
def hint39 : Hint := (.two .z (.two (.two .z (.two (.two (.reg [[], [], [], [0], [], [], []] [[], [], [1], [1, 2], [2, 1, 3], [3, 1, 2, 4, 0], [0, 4, 2, 1, 3, 5]]) .z) .z)) (.pt [false, true, true, false, true] (.two .z (.two .z (.two .z (.two .z (.two (.reg [[], [], [], [2], [], []] [[], [], [1, 0], [], [3, 0, 1, 2], [2, 1, 0, 3, 4]]) (.two .z (.pt [false, false, true, false, true, false, true] (.two (.reg [[], [], [], [], [], [], [], [4], [], []] [[], [0], [0, 1], [1, 0, 2], [2, 0, 1, 3], [3, 1, 0, 2, 4], [4, 3, 5, 1, 0, 2], [], [7, 2, 0, 1, 5, 3, 4, 6], [6, 4, 3, 5, 1, 0, 2, 7, 8]]) .z)))))))))))
def hint40 : Hint := (.two .z (.two .z (.two (.reg [[], [], [], [], [], [], [], [], [], [], [7], [], []] [[], [0], [], [2], [2, 3, 0, 1], [1, 0, 3, 2, 4], [4, 2, 3, 0, 1, 5], [5, 1, 0, 3, 2, 4, 6], [6, 4, 2, 3, 0, 1, 5, 7], [7, 6, 8, 4, 2, 3, 0, 1, 5], [], [10, 5, 1, 0, 3, 2, 4, 8, 6, 7, 9], [9, 7, 6, 8, 4, 2, 3, 0, 1, 5, 10, 11]]) .z)))
def hint41 : Hint := (.two .z (.two .z (.two .z (.two .z (.two .z (.pt [false, false, true, true, true, true] .z))))))
def hint42 : Hint := .z
def hint43 : Hint := .z
def hint44 : Hint := .z
def hint45 : Hint := (.two .z (.two .z (.two .z (.two .z (.pt [false, false, false, false, true, false, true, false, true] .z)))))
def hint46 : Hint := (.two .z (.two .z (.two .z (.two (.one (.one (.pt [true, true, false, false, false, false, true, true, true] (.two .z (.pt [true, true, false, false, false, false, true, true, true] .z))))) (.pt [true, true, false, false, false, false, true, true] .z)))))
def hint47 : Hint := (.two .z (.two .z (.two .z (.two .z (.pt [true, true, true, false, false, false, false, true] (.two .z (.two .z (.pt [true, true, true, false, false, false, false, true, true] (.two (.two .z (.two (.two .z (.two .z (.two (.reg [[], [], [], [], [], [], [], [], []] [[], [], [], [2, 1], [1, 2, 3, 0], [], [], [6, 5], [5, 6, 7, 0, 3, 2, 1, 4]]) .z))) .z)) (.pt [true, true, true, false, false, false, false, true, true] (.two .z (.two (.two .z (.two (.two (.reg [[], [], [], [], [], [], [], [], []] [[], [], [], [2, 1], [1, 2, 3, 0], [], [], [6, 5], [5, 6, 7, 0, 3, 2, 1, 4]]) .z) .z)) (.pt [true, true, true, false, false, false, false, true, true] .z)))))))))))))
def hint48 : Hint := (.two .z (.two .z (.two .z (.two .z (.pt [true, true, true, false, false, false, false, true] (.two .z (.two .z (.pt [true, true, true, false, false, false, false, true, true] (.two (.two .z (.two (.two .z (.two .z (.two (.reg [[], [], [], [], [], [], [], [], []] [[], [], [], [2, 1], [1, 2, 3, 0], [], [], [6, 5], [5, 6, 7, 0, 3, 2, 1, 4]]) .z))) .z)) (.pt [true, true, true, false, false, false, false, true, true] (.two .z (.two (.two .z (.two (.two (.reg [[], [], [], [], [], [], [], [], []] [[], [], [], [2, 1], [1, 2, 3, 0], [], [], [6, 5], [5, 6, 7, 0, 3, 2, 1, 4]]) .z) .z)) (.pt [true, true, true, false, false, false, false, true, true] .z)))))))))))))
def hint49 : Hint := (.two .z (.two .z (.two .z (.two (.one (.one (.pt [true, true, false, false, false, false, true, true, true] (.two .z (.pt [true, true, false, false, false, false, true, true, true] .z))))) (.pt [true, true, false, false, false, false, true, true] .z)))))
def hint50 : Hint := (.two .z (.two .z (.two .z (.two .z (.pt [true, true, true, false, false, false, false, true] (.two .z (.two .z (.pt [true, true, true, false, false, false, false, true, true] (.two (.two .z (.two (.two .z (.two .z (.two (.reg [[], [], [], [], [], [], [], [], []] [[], [], [], [2, 1], [1, 2, 3, 0], [], [], [6, 5], [5, 6, 7, 0, 3, 2, 1, 4]]) .z))) .z)) (.pt [true, true, true, false, false, false, false, true, true] (.two .z (.two (.two .z (.two (.two (.reg [[], [], [], [], [], [], [], [], []] [[], [], [], [2, 1], [1, 2, 3, 0], [], [], [6, 5], [5, 6, 7, 0, 3, 2, 1, 4]]) .z) .z)) (.pt [true, true, true, false, false, false, false, true, true] .z)))))))))))))
def hint51 : Hint := (.two .z (.two .z (.two .z (.two .z (.pt [true, true, true, false, false, false, false, true] (.two .z (.two .z (.pt [true, true, true, false, false, false, false, true, true] (.two (.two .z (.two (.two .z (.two .z (.two (.reg [[], [], [], [], [], [], [], [], []] [[], [], [], [2, 1], [1, 2, 3, 0], [], [], [6, 5], [5, 6, 7, 0, 3, 2, 1, 4]]) .z))) .z)) (.pt [true, true, true, false, false, false, false, true, true] (.two .z (.two (.two .z (.two (.two (.reg [[], [], [], [], [], [], [], [], []] [[], [], [], [2, 1], [1, 2, 3, 0], [], [], [6, 5], [5, 6, 7, 0, 3, 2, 1, 4]]) .z) .z)) (.pt [true, true, true, false, false, false, false, true, true] .z)))))))))))))
def hint52 : Hint := (.two .z (.two .z (.two .z (.pt [true, false, false, false, true, false, true] .z))))
def hint53 : Hint := (.two .z (.two .z (.pt [] .z)))
def hint54 : Hint := (.two .z (.two .z (.two .z (.two .z (.pt [false, false, false, false, true, false, true, false, true] .z)))))
def hint55 : Hint := .z
def hint56 : Hint := .z
def hint57 : Hint := (.two .z (.two .z (.two .z (.two .z (.pt [true, true, true, false, false, false, false, true] (.two .z (.two .z (.pt [true, true, true, false, false, false, false, true, true] (.two (.two .z (.two (.two .z (.two .z (.two (.reg [[], [], [], [], [], [], [], [], []] [[], [], [], [2, 1], [1, 2, 3, 0], [], [], [6, 5], [5, 6, 7, 0, 3, 2, 1, 4]]) .z))) .z)) (.pt [true, true, true, false, false, false, false, true, true] (.two .z (.two (.two .z (.two (.two (.reg [[], [], [], [], [], [], [], [], []] [[], [], [], [2, 1], [1, 2, 3, 0], [], [], [6, 5], [5, 6, 7, 0, 3, 2, 1, 4]]) .z) .z)) (.pt [true, true, true, false, false, false, false, true, true] .z)))))))))))))
def hint58 : Hint := (.two .z (.two .z (.pt [] .z)))
def hint59 : Hint := (.two .z (.two .z (.pt [false, false, true, true, true, false, true] (.two .z (.two .z (.two .z (.two .z (.pt [false, false, true, false, false, false, true, false, false, true, true] (.two .z (.pt [false, false, true, false, false, false, true, false, false, true] .z))))))))))
def hint60 : Hint := (.two .z (.two (.two .z (.one (.one (.pt [false, true, true, false, true] (.two .z (.pt [false, true, true, false, true] (.two .z (.pt [false, true, true, false, true] .z)))))))) (.pt [false, true, true] (.two .z (.two .z (.two .z (.pt [false, false, true, false, false, true, true] (.two .z (.pt [false, false, true, false, false, true, true] (.two .z (.two .z (.two .z (.two .z (.pt [false, false, true, false, false, true, true] .z))))))))))))))
def hint61 : Hint := (.two .z (.two .z (.two .z (.two .z (.two (.two .z (.one (.one (.pt [true, false, true, true, true, true] (.two .z (.pt [true, false, true, true, true, true] (.two .z (.pt [true, false, true, true, true, true] .z)))))))) (.pt [false, false, true, true] .z))))))
def hint62 : Hint := (.two .z (.two (.two .z (.one (.one (.pt [false, false, true, true, true, true, true] (.two .z (.pt [false, false, true, true, true, true, true] (.two (.one (.two .z (.two (.reg [[], [], [], [], [], [], [], [], [], [], [], [], [], []] [[], [0], [], [2], [2, 3], [3, 2, 4], [], [6], [6, 7], [7, 6, 8, 4, 2, 3, 5], [5, 3, 2, 4, 8, 6, 7, 9], [9, 7, 6, 8, 4, 2, 3, 5, 10, 0, 1], [11, 10, 9, 8, 7, 6, 5, 4, 3, 2, 1, 0], [0, 1, 2, 3, 4, 5, 6, 7, 8, 9, 10, 11, 12]]) .z))) (.pt [false, false, true, true, true, true, true] .z)))))))) (.pt [false, false, false, false, true, true] (.two (.reg [[], [], [1], []] [[], [], [0], [0, 2, 1]]) .z))))
def hint63 : Hint := (.two .z (.two (.two .z (.one (.one (.pt [false, false, true, true, false, true] (.two .z (.pt [false, false, true, true, false, true] (.two (.one (.two (.reg [[], [], [], [], [], [], []] [[], [0], [0, 1], [], [3], [3, 4], [4, 3, 5, 1, 0, 2]]) (.two (.two (.two (.reg [[], [], [], [], [], [], []] [[], [0], [0, 1], [], [3], [3, 4], [4, 3, 5, 1, 0, 2]]) .z) (.pt [] .z)) .z))) (.pt [false, false, true, true, false, true] .z)))))))) (.pt [] .z)))
def hint64 : Hint := (.two .z (.two .z (.two .z (.two (.two .z (.one (.one (.pt [false, false, true, true, true, true, true, true] (.two .z (.pt [false, false, true, true, true, true, true, true] (.two (.one (.two (.reg [[], [], [], [], [], [], [], [], [], []] [[], [0], [0, 1], [], [3], [3, 4], [4, 3, 5, 1, 0, 2], [], [7, 2, 0, 1, 5, 3, 4, 6], [6, 4, 3, 5, 1, 0, 2, 7, 8]]) .z)) (.pt [false, false, true, true, true, true, true, true] .z)))))))) (.pt [false, false, false, false, true, true] .z)))))
def hint65 : Hint := .z
def hint66 : Hint := (.two .z (.two .z (.two (.two .z (.one (.one (.pt [false, false, true, true, true, true, true] (.two .z (.pt [false, false, true, true, true, true, true] (.two (.one (.two .z (.two .z (.one (.one (.pt [false, false, true, true, true, true, true, true, true] (.two .z (.pt [false, false, true, true, true, true, true, true, true] (.two (.one (.two (.reg [[], [], [], [], [], [], [], [], [], [], [], [], [], [], [], []] [[], [], [1, 0], [0, 1, 2], [2, 1, 0, 3], [], [5], [5, 6], [], [8], [8, 9], [9, 8, 10, 6, 5, 7], [7, 5, 6, 10, 8, 9, 11, 3, 0, 1, 2, 4], [], [13, 4, 2, 1, 0, 3, 11, 9, 8, 10, 6, 5, 7, 12], [12, 7, 5, 6, 10, 8, 9, 11, 3, 0, 1, 2, 4, 13, 14]]) .z)) (.pt [false, false, true, true, true, true, true, true, true] .z)))))))))) (.pt [false, false, true, true, true, true, true] .z)))))))) (.pt [false, false, false, false, true, true] .z))))
def hint67 : Hint := (.reg [[], [], [1], [], [], []] [[], [0], [], [0, 1, 2], [], [4, 2, 3, 0, 1]])
def hint68 : Hint := (.two .z (.one (.one (.pt [false, true, true, false, false, false, false, false, true, true, true] (.two .z (.two .z (.pt [false, true, true, false, false, false, false, false, true, true, true] (.two .z (.pt [false, true, true, false, false, false, false, false, true, true, true] .z)))))))))
def hint69 : Hint := .z
def hint70 : Hint := .z
def hint71 : Hint := (.reg [[], [], [1], [], [], []] [[], [0], [], [0, 1, 2], [], [4, 2, 3, 0, 1]])
def hint72 : Hint := (.two .z (.one (.one (.pt [false, true, true, false, false, false, false, false, true, true, true] (.two .z (.two .z (.pt [false, true, true, false, false, false, false, false, true, true, true] (.two .z (.pt [false, true, true, false, false, false, false, false, true, true, true] .z)))))))))
def hint73 : Hint := .z
def hint74 : Hint := .z
def hint75 : Hint := (.reg [[], [], [1], [], [], []] [[], [0], [], [0, 1, 2], [], [4, 2, 3, 0, 1]])
def hint76 : Hint := (.two .z (.one (.one (.pt [false, true, true, false, false, false, false, false, true, true, true] (.two .z (.two .z (.pt [false, true, true, false, false, false, false, false, true, true, true] (.two .z (.pt [false, true, true, false, false, false, false, false, true, true, true] .z)))))))))
def hint77 : Hint := .z
def hint78 : Hint := .z
def hint80 : Hint := .z
def hint81 : Hint := .z
def hint83 : Hint := .z
def hint85 : Hint := .z
def hint86 : Hint := .z
def hint87 : Hint := .z
def hint89 : Hint := .z
def hint91 : Hint := .z
def hint93 : Hint := .z
def hint94 : Hint := (.two .z (.two .z (.pt [false, false, true, true] (.two .z (.pt [false, false, true, true] .z)))))
def hint96 : Hint := .z
def hint97 : Hint := (.two .z (.two .z (.pt [false, false, true, true, true, false, true] (.two .z (.two .z (.two (.reg [[], [], [], [], [0], [], [], [], [], [], []] [[], [], [], [2, 1], [1, 2, 3], [3, 2, 1, 4, 0], [0, 4, 1, 2, 3, 5], [5, 3, 2, 1, 4, 0, 6], [5, 3, 2, 1, 4, 0, 6], [6, 0, 4, 1, 2, 3, 5, 7], [7, 9, 6, 0, 4, 1, 2, 3, 5, 8]]) (.two .z (.two .z (.pt [false, false, false, true, true, false, true, false, false, true, false, false, true] (.two (.two .z (.one (.one (.pt [false, false, false, true, true, false, true, false, false, true, false, false, true, false, true] (.two .z (.pt [false, false, false, true, true, false, true, false, false, true, false, false, false, false, true] (.two .z (.pt [false, false, false, true, true, false, true, false, false, true, false, false, true, false, true] .z)))))))) (.pt [false, false, false, true, true, false, true, false, false, true] .z)))))))))))
def hint98 : Hint := (.two .z (.two (.reg [[], [], [], [], [], [], [], [], [], [1, 4], [], [], [], [], []] [[], [0], [0, 1], [], [3], [3, 4], [4, 3, 5, 1, 0, 2], [], [], [8, 7], [7, 8, 9, 2, 0, 1, 5, 3, 4, 6], [6, 4, 3, 5, 1, 0, 2, 9, 8, 7, 10], [6, 4, 3, 5, 1, 0, 2, 9, 8, 7, 10], [12, 10, 7, 8, 9, 2, 0, 1, 5, 3, 4, 6, 11], [11, 13, 10, 7, 8, 9, 2, 0, 1, 5, 3, 4, 6, 12]]) .z))
def hint99 : Hint := (.two .z (.two .z (.two .z (.pt [false, false, true, false, true, false, true] .z))))
def hint100 : Hint := (.two .z (.two .z (.two .z (.two (.two .z (.one (.one (.pt [false, false, true, true, true, true, true, true] (.two .z (.pt [false, false, true, true, true, true, true, true] (.two (.one (.two (.reg [[], [], [], [], [], [], [], [], [], [], []] [[], [0], [0, 1], [1, 0, 2], [], [4], [4, 5], [5, 4, 6, 2, 0, 1, 3], [], [8, 3, 1, 0, 2, 6, 4, 5, 7], [7, 5, 4, 6, 2, 0, 1, 3, 8, 9]]) .z)) (.pt [false, false, true, true, true, true, true, true] .z)))))))) (.pt [false, false, false, false, true, true] .z)))))
def hint101 : Hint := .z
def hint102 : Hint := .z
def hint103 : Hint := .z
def hint104 : Hint := .z
def hint105 : Hint := .z
def hint106 : Hint := .z
def hint107 : Hint := (.two .z (.two .z (.two .z (.two .z (.pt [false, false, false, false, false, false, false, false, true] .z)))))
def hint108 : Hint := .z
def hint109 : Hint := (.two .z (.two .z (.two (.two .z (.one (.one (.pt [false, true, true, false, true, false, true, true] (.two .z (.pt [false, true, true, false, true, false, true, true] (.two .z (.pt [false, true, true, false, true, false, true, true] .z)))))))) (.pt [false, false, true, false, true, false, true] .z))))
def hint110 : Hint := .z
def hint111 : Hint := (.two .z (.two .z (.two (.one (.one (.pt [true, false, false, true] (.two .z (.pt [true, false, false, true] (.two .z (.pt [true, false, false, true] .z))))))) (.pt [false, false, false, true] .z))))
def hint112 : Hint := (.two .z (.two .z (.pt [true, false, false, true, true] .z)))
def hint113 : Hint := (.two .z (.two .z (.pt [true, false, true] (.two .z (.two (.one (.one (.pt [true, false, true, false, true] (.two .z (.pt [true, false, true, false, true] (.two .z (.pt [true, false, true, false, true] .z))))))) (.pt [false, false, true, false, true] .z))))))
def hint114 : Hint := (.two .z (.one (.one (.pt [true, false, true, true] (.two .z (.pt [true, false, true, true] (.two (.one (.reg [[], [], [], [], [], [], [], [], [], [], [], [], [], [], [], []] [[], [], [], [], [], [], [5, 4], [4, 5, 6], [], [], [9, 8], [8, 9, 10], [10, 9, 8, 11, 7, 6, 5, 4, 1, 0], [0, 1, 4, 5, 6, 7, 11, 8, 9, 10, 12], [13, 12, 11, 10, 9, 8, 7, 6, 5, 4, 1, 0, 3, 2], [2, 3, 0, 1, 4, 5, 6, 7, 8, 9, 10, 11, 12, 13, 14]])) (.pt [true, false, true, true] .z))))))))
def hint115 : Hint := (.two .z (.one (.one (.pt [true, false, true, true] (.two .z (.pt [true, false, true, true] (.two (.one (.reg [[], [], [], [], [], [], [], [], [], [], [], [], [], [], [], []] [[], [], [], [], [], [], [5, 4], [4, 5, 6], [], [], [9, 8], [8, 9, 10], [10, 9, 8, 11, 7, 6, 5, 4, 1, 0], [0, 1, 4, 5, 6, 7, 11, 8, 9, 10, 12], [13, 12, 11, 10, 9, 8, 7, 6, 5, 4, 1, 0, 3, 2], [2, 3, 0, 1, 4, 5, 6, 7, 8, 9, 10, 11, 12, 13, 14]])) (.pt [true, false, true, true] .z))))))))
def hint116 : Hint := (.two .z (.one (.one (.pt [true, false, true, true] (.two .z (.pt [true, false, true, true] (.two (.one (.reg [[], [], [], [], [], [], [], [], [], [], [], [], [], [], [], []] [[], [], [], [], [], [], [5, 4], [4, 5, 6], [], [], [9, 8], [8, 9, 10], [10, 9, 8, 11, 7, 6, 5, 4, 1, 0], [0, 1, 4, 5, 6, 7, 11, 8, 9, 10, 12], [13, 12, 11, 10, 9, 8, 7, 6, 5, 4, 1, 0, 3, 2], [2, 3, 0, 1, 4, 5, 6, 7, 8, 9, 10, 11, 12, 13, 14]])) (.pt [true, false, true, true] .z))))))))
def hint117 : Hint := (.two .z (.one (.one (.pt [true, false, true, true] (.two .z (.pt [true, false, true, true] (.two (.one (.reg [[], [], [], [], [], [], [], [], [], [], [], [], [], [], [], []] [[], [], [], [], [], [], [5, 4], [4, 5, 6], [], [], [9, 8], [8, 9, 10], [10, 9, 8, 11, 7, 6, 5, 4, 1, 0], [0, 1, 4, 5, 6, 7, 11, 8, 9, 10, 12], [13, 12, 11, 10, 9, 8, 7, 6, 5, 4, 1, 0, 3, 2], [2, 3, 0, 1, 4, 5, 6, 7, 8, 9, 10, 11, 12, 13, 14]])) (.pt [true, false, true, true] .z))))))))
def hint118 : Hint := (.two .z (.two (.two .z (.two (.two (.reg [[], [], [1], [], []] [[], [], [0], [0, 2, 1], [1, 2, 0, 3]]) .z) .z)) (.pt [false, false, true, true, true, true] (.two .z (.two .z (.two .z (.two (.two .z (.two .z (.two .z (.two .z (.one (.one (.pt [false, false, true, true, true, true, false, false, false, true, true, true, true, true, true, true] (.two .z (.pt [false, false, true, true, true, true, false, false, false, true, true, true, true, true, true, true] (.two (.one (.two (.reg [[], [], [], [], [], [], [], [], [], [], [], [], [], []] [[], [], [1, 0], [], [3], [], [5], [5, 6, 3, 4], [4, 3, 6, 5, 7, 0, 1, 2], [], [], [10, 9], [2, 1, 0, 7, 5, 6, 3, 4, 8], [8, 4, 3, 6, 5, 7, 0, 1, 2, 12, 9, 10, 11]]) .z)) (.pt [false, false, true, true, true, true, false, false, false, true, true, true, true, true, true, true] .z))))))))))) (.pt [false, false, true, true, true, true, false, false, false, false, false, true, true, true, true] (.two .z (.two .z (.pt [false, false, true, false, true, true, false, false, false, false, false, false, false, true, true] (.two .z (.two (.reg [[], [], [1], [], []] [[], [], [0], [0, 2, 1], [1, 2, 0, 3]]) .z)))))))))))))
def hint119 : Hint := (.two .z (.one (.one (.pt [true, false, true, true] (.two .z (.pt [true, false, true, true] (.two (.one (.reg [[], [], [], [], [], [], [], [], [], [], [], [], [], [], [], []] [[], [], [], [], [], [], [5, 4], [4, 5, 6], [], [], [9, 8], [8, 9, 10], [10, 9, 8, 11, 7, 6, 5, 4, 1, 0], [0, 1, 4, 5, 6, 7, 11, 8, 9, 10, 12], [13, 12, 11, 10, 9, 8, 7, 6, 5, 4, 1, 0, 3, 2], [2, 3, 0, 1, 4, 5, 6, 7, 8, 9, 10, 11, 12, 13, 14]])) (.pt [true, false, true, true] .z))))))))
def hint120 : Hint := (.two .z (.two .z (.pt [true, true, true] (.two .z (.pt [true, true, true] (.two (.two .z (.two (.two (.reg [[], [], [], [], [], [], [], []] [[], [], [1, 0], [], [], [4, 3], [0, 1, 2], [2, 1, 0, 6, 3, 4, 5]]) .z) .z)) (.pt [true, true, true] (.two .z (.two .z (.two .z (.two .z (.two .z (.two .z (.two .z (.two .z (.two .z (.two .z (.two (.one (.one (.pt [false, false, true, false, false, false, false, false, true, true, true, true, false, true, true, true, true] (.two .z (.pt [false, false, true, false, false, false, false, false, true, true, true, true, false, true, true, true, true] .z))))) (.pt [false, false, true, false, false, false, false, false, true, true, true, true, false, true, true, true] (.two .z (.two .z (.two .z (.two (.one (.one (.pt [false, false, true, false, false, false, false, false, true, true, true, false, false, false, true, true, true, true, true] (.two .z (.pt [false, false, true, false, false, false, false, false, true, true, true, false, false, false, true, true, true, true, true] .z))))) (.pt [false, false, true, false, false, false, false, false, true, false, false, false, false, false, true, true, false, true, true] .z))))))))))))))))))))))))
def hint121 : Hint := (.two .z (.two (.two .z (.two (.two (.reg [[], [], [], [], [], [], []] [[], [0], [0, 1], [], [3], [1, 0, 2], [2, 0, 1, 5, 3, 4]]) .z) .z)) (.pt [false, true] .z)))
def hint122 : Hint := .z
def hint123 : Hint := .z
def hint124 : Hint := (.two .z (.two (.two .z (.two (.two .z (.pt [false, true, true, false, false, false, true] .z)) .z)) (.pt [false, true, true, false, false, false, true] (.two .z (.pt [false, true, true, false, false, false, true] .z)))))
def hint125 : Hint := .z
def hint126 : Hint := (.two .z (.two .z (.pt [true, false, true] (.two .z (.pt [true, false, true] (.two .z (.pt [true, false, true] .z)))))))
def hintTab : List (Option Hint) := [none, none, some hint2, some hint3, some hint4, some hint5, some hint6, some hint7, some hint8, some hint9, some hint10, some hint11, some hint12, some hint13, some hint14, some hint15, some hint16, some hint17, some hint18, some hint19, some hint20, some hint21, some hint22, some hint23, some hint24, some hint25, some hint26, some hint27, some hint28, some hint29, some hint30, some hint31, some hint32, some hint33, some hint34, some hint35, some hint36, some hint37, some hint38, some hint39, some hint40, some hint41, some hint42, some hint43, some hint44, some hint45, some hint46, some hint47, some hint48, some hint49, some hint50, some hint51, some hint52, some hint53, some hint54, some hint55, some hint56, some hint57, some hint58, some hint59, some hint60, some hint61, some hint62, some hint63, some hint64, some hint65, some hint66, some hint67, some hint68, some hint69, some hint70, some hint71, some hint72, some hint73, some hint74, some hint75, some hint76, some hint77, some hint78, none, some hint80, some hint81, none, some hint83, none, some hint85, some hint86, some hint87, none, some hint89, none, some hint91, none, some hint93, some hint94, none, some hint96, some hint97, some hint98, some hint99, some hint100, some hint101, some hint102, some hint103, some hint104, some hint105, some hint106, some hint107, some hint108, some hint109, some hint110, some hint111, some hint112, some hint113, some hint114, some hint115, some hint116, some hint117, some hint118, some hint119, some hint120, some hint121, some hint122, some hint123, some hint124, some hint125, some hint126, none, none, none, none, none, none, none, none, none, none, none, none, none, none, none, none, none, none]
def hints (f : FuncId) : Option Hint := (hintTab[f]?).getD none
end Go.Proofs.YtlginbmjiecglaaGreat
end
section
namespace Go.Abs
open Go Go.RowKit Go.ChangeShapes

section
variable {P : Program} {H : Type} {enc : TypeId × Value → H}

theorem trodAll_stays (hl : laidOutB P = true) {W W' : World} (hb : Below W.heap.size W W') : ∀ {ts : List TypeId} {vs : List Value} {ds : List (DataW H)} {ps : List MemPlace},
    (∀ t ∈ ts, P.readableRec t = true ∧ t < P.types.size) → DataW.TrodAll enc P W 0 (fun _ => true) true ts vs ds ps → (∀ x ∈ ps, x.block < W.heap.size) →
    DataW.TrodAll enc P W' 0 (fun b => decide (b < W.heap.size)) true ts vs ds ps
  | [], [], [], _, _, h, _ => h
  | [], _ :: _, _, _, _, h, _ => by simp [DataW.TrodAll] at h
  | [], [], _ :: _, _, _, h, _ => by simp [DataW.TrodAll] at h
  | _ :: _, [], _, _, _, h, _ => by simp [DataW.TrodAll] at h
  | _ :: _, _ :: _, [], _, _, h, _ => by simp [DataW.TrodAll] at h
  | t :: ts, v :: vs, d :: ds, ps, ht, h, hlt => by
    obtain ⟨p, q, h1, h2, rfl⟩ := h
    exact ⟨p, q, Below.trod hl (ht t (by simp)).1 (ht t (by simp)).2 h1 hb (fun x hx => hlt x (by simp [hx])),
      trodAll_stays hl hb (fun t' h' => ht t' (by simp [h'])) h2 (fun x hx => hlt x (by simp [hx])), rfl⟩

theorem law_post (hl : laidOutB P = true) {fn : Func} (hts : ∀ t ∈ fn.params.toList, P.readableRec t = true ∧ t < P.types.size) {tb : TypeId} (hrt : fn.resultTypes = #[tb]) (htb : P.underlying tb = some .bool) {s : ChangeSpec} (hv : s.vars = [])
    {apart : Bool} {W W' : World} {args : Array Value} {ds gs : List (DataW H)} {before : List MemPlace} (hW : DataW.Whole enc P fn.params.toList s.vars apart W args.toList ds gs before)
    (hfn : s.fn H (ds ++ gs) = { results := [.lit (.bool true)], args := ds }) (hb : Below W.heap.size W W') : s.post enc P fn apart true false false W args (.bool true) W' := by
  have hlt : ∀ x ∈ before, x.block < W.heap.size := fun x hx => hW.lt x hx
  obtain ⟨p, q, hA, hV, e, hz, hn⟩ := id hW
  rw [hv] at hV
  obtain ⟨rfl, rfl⟩ := trodVars_none hV
  simp only [List.append_nil] at e hfn
  subst e
  refine ⟨ds, [], before, [], before, [], by simpa using hW, ?_, ?_, ?_, hb.frame _, fun h => by cases h⟩
  · simp only [List.append_nil, hfn, hrt]
    exact trodAll_mk1 (shut_bool htb true)
  · simp only [List.append_nil, hfn]
    exact trodAll_stays hl hb hts hA hlt
  · simp only [List.append_nil, hfn, hv]
    rfl
end
end Go.Abs
end
section
namespace Go.Abs
open Go

def marks : AC → List AI → List (List AI)
  | .pt _ c, k => (.code c :: k) :: marks c k
  | .seq a b, k => marks a (.code b :: k) ++ marks b k
  | .cond _ x y, k => marks x k ++ marks y k
  | .block id b, k => marks b (.inBlock id :: k)
  | .loop b, k => marks b (.inLoop b :: k)
  | .scope b, k => marks b (.inScope b :: k)
  | .rangeFunc _ _ a b, _ => marks a [.beginRound, .code b] ++ marks b []
  | _, _ => []
def loops : AC → List (List Tmp × AC × AC)
  | .pt _ c => loops c
  | .seq a b => loops a ++ loops b
  | .cond _ x y => loops x ++ loops y
  | .block _ b => loops b
  | .loop b => loops b
  | .scope b => loops b
  | .rangeFunc _ ps a b => (ps, a, b) :: (loops a ++ loops b)
  | _ => []

def lmarks : AC → List AI → List (List AI)
  | .pt _ c, k => lmarks c k
  | .seq a b, k => lmarks a (.code b :: k) ++ lmarks b k
  | .cond _ x y, k => lmarks x k ++ lmarks y k
  | .block id b, k => lmarks b (.inBlock id :: k)
  | .loop b, k => lmarks b (.inLoop b :: k)
  | .scope b, k => lmarks b (.inScope b :: k)
  | .rangeFunc _ _ a b, k => k :: (lmarks a [.beginRound, .code b] ++ lmarks b [])
  | _, _ => []

def codeOf (E : Env) (f : FuncId) : AC :=
  match E.B f with
  | some (_, _, c) => c
  | none => .skip
def rsOf (E : Env) (f : FuncId) : List ResultVar :=
  match E.B f with
  | some (rs, _, _) => rs
  | none => []
def ntOf (E : Env) (f : FuncId) : Nat :=
  match E.B f with
  | some (_, n, _) => n
  | none => 0
def kAt (E : Env) (f i : Nat) : List AI := ((marks (codeOf E f) [])[i]?).getD []
def loopOf (E : Env) (f i : Nat) (t : List AV) : LoopA :=
  match (loops (codeOf E f))[i]? with
  | some (ps, a, b) => ⟨.ready, none, t, ps, a, b⟩
  | none => ⟨.ready, none, t, [], .skip, .skip⟩

def kLoop (E : Env) (f i : Nat) : List AI := ((lmarks (codeOf E f) [])[i]?).getD []
noncomputable def afterAt (E : Env) (f i : Nat) (j : Option Jmp) (t : List AV) (m : Mem) : R := go E (.fn (rsOf E f)) (pend j (kLoop E f i)) t m
noncomputable def afterRd (E : Env) (f i : Nat) (l : Nat) (j : Option Jmp) (t : List AV) (m : Mem) : R := go E (.rd l) (pend j (kLoop E f i)) t m
noncomputable def rdFin (b : Nat) (j : Option Jmp) (m : Mem) : R :=
  match m.get b with
  | some (.loop l) => some (.bool j.isNone, m.put b (some (.loop { l with state := if j.isNone then .ready else .done, pending := j })))
  | _ => none
noncomputable def rdBegin (b : Nat) (m : Mem) : Option Mem :=
  match m.get b with
  | some (.loop l) => if l.state = .ready then some (m.put b (some (.loop { l with state := .busy }))) else none
  | _ => none

noncomputable def goAt (E : Env) (f i : Nat) (t : List AV) (m : Mem) : R := go E (.fn (rsOf E f)) (kAt E f i) t m
noncomputable def roundAt (E : Env) (f i : Nat) (l : Nat) (t : List AV) (m : Mem) : R := go E (.rd l) (kAt E f i) t m

theorem goAt_eq {E : Env} {f i : Nat} (n : Nat) {t : List AV} {m : Mem} {r : R} (h : goC E (run E) (.fn (rsOf E f)) (go E (.fn (rsOf E f))) n (kAt E f i) t m = r) : goAt E f i t m = r :=
  (go_unfold _ n _ _ _).trans h
theorem roundAt_eq {E : Env} {f i l : Nat} (n : Nat) {t : List AV} {m : Mem} {r : R} (h : goC E (run E) (.rd l) (go E (.rd l)) n (kAt E f i) t m = r) : roundAt E f i l t m = r :=
  (go_unfold _ n _ _ _).trans h
theorem afterAt_eq {E : Env} {f i : Nat} {j : Option Jmp} (n : Nat) {t : List AV} {m : Mem} {r : R} (h : goC E (run E) (.fn (rsOf E f)) (go E (.fn (rsOf E f))) n (pend j (kLoop E f i)) t m = r) : afterAt E f i j t m = r :=
  (go_unfold _ n _ _ _).trans h
theorem afterRd_eq {E : Env} {f i l : Nat} {j : Option Jmp} (n : Nat) {t : List AV} {m : Mem} {r : R} (h : goC E (run E) (.rd l) (go E (.rd l)) n (pend j (kLoop E f i)) t m = r) : afterRd E f i l j t m = r :=
  (go_unfold _ n _ _ _).trans h
theorem run_eq {E : Env} {f : Nat} (n : Nat) {args : List AV} {m : Mem} {r : R} (hH : E.H f = none) (hB : (E.B f).isSome = true)
    (h : goC E (run E) (.fn (rsOf E f)) (go E (.fn (rsOf E f))) n [.code (codeOf E f)] (args ++ List.replicate (ntOf E f - args.length) .undef) m = r) : run E (.fn f) args m = r := by
  cases e : E.B f with
  | none => simp [e] at hB
  | some b =>
    obtain ⟨rs, nt, c⟩ := b
    rw [run_body hH e]
    simp only [rsOf, codeOf, ntOf, e] at h
    exact (go_unfold _ n _ _ _).trans h
theorem round_eq {E : Env} {f i b : Nat} {args t : List AV} {m : Mem} {st : LoopState} {pe : Option Jmp} (hm : m.get b = some (.loop { loopOf E f i t with state := st, pending := pe })) (hl : args.length = (loopOf E f i t).params.length) (n : Nat) {r : R}
    (h : goC E (run E) (.rd b) (go E (.rd b)) n [.code (loopOf E f i t).assign, .beginRound, .code (loopOf E f i t).body] (bindP (loopOf E f i t).params args t) m = r) : run E (.yl b) args m = r := by
  have ht : (loopOf E f i t).tmps = t := by unfold loopOf; split <;> rfl
  rw [run_round, roundK, hm]
  simp only
  rw [if_pos hl, ht]
  exact (go_unfold _ n _ _ _).trans h

def ifV (v : AV) (x y : R) : R :=
  match v with
  | .bool true => x
  | .bool false => y
  | _ => none

def boxA (x : AV) : Option (Blk × (Nat → AV)) := ((some x).bind AV.cells).map fun cs => (.cells cs false, fun b => .ptr (some ⟨b, 0⟩))
def bsA (n len : Nat) (zs : List AV) (ps : List (Nat × AV)) : Option (Blk × (Nat → AV)) :=
  (some ps).bind fun ps => (fillA (fun i => some (i * n, n)) (List.replicate len zs).flatten ps).map fun cs => (.cells cs false, fun b => .sl (some ⟨b, 0⟩) n len len true)
def msA (n w : Nat) (zs : List AV) (l c : AV) : Option (Blk × (Nat → AV)) :=
  match l, c with
  | .int .i64 l, .int .i64 c =>
    if 0 ≤ l ∧ l ≤ c ∧ c < 9223372036854775808 ∧ c.toNat * w ≤ maxBytes ∧ zs.length = n then
      some (.cells (List.replicate c.toNat zs).flatten false, fun b => .sl (some ⟨b, 0⟩) n l.toNat c.toNat true) else none
  | _, _ => none
def s2bA (x : AV) : Option (Blk × (Nat → AV)) :=
  match x with
  | .str s => some (.cells (s.map fun c => .int .u8 c.toNat) true, fun b => .sl (some ⟨b, 0⟩) 1 s.length s.length false)
  | _ => none
end Go.Abs
end
section
namespace Go.Abs
open Go

def Fr (m m' : Mem) (S : List Nat) : Prop := m.next ≤ m'.next ∧ ∀ c, c < m.next → c ∉ S → m'.get c = m.get c
theorem Fr.refl (m : Mem) : Fr m m [] := ⟨Nat.le_refl _, fun _ _ _ => rfl⟩
theorem Fr.mono {m m' : Mem} {S T : List Nat} (h : Fr m m' S) (hs : ∀ c, c ∈ S → c < m.next → c ∈ T) : Fr m m' T :=
  ⟨h.1, fun c hc hn => h.2 c hc fun hm => hn (hs c hm hc)⟩
theorem Fr.trans {m m' m'' : Mem} {S S' T : List Nat} (h : Fr m m' S) (h' : Fr m' m'' S') (hs : ∀ c, c ∈ S → c < m.next → c ∈ T) (hs' : ∀ c, c ∈ S' → c < m.next → c ∈ T) : Fr m m'' T :=
  ⟨Nat.le_trans h.1 h'.1, fun c hc hn => (h'.2 c (Nat.lt_of_lt_of_le hc h.1) fun hm => hn (hs' c hm hc)).trans (h.2 c hc fun hm => hn (hs c hm hc))⟩
theorem Fr.get {m m' : Mem} {S : List Nat} (h : Fr m m' S) {c : Nat} {v : Blk} (hc : m.get c = some v) (hn : c ∉ S) : m'.get c = some v := by
  rw [h.2 c (Mem.get_lt hc) hn]; exact hc
theorem Fr.alloc (m : Mem) (cs : List AV) : Fr m (m.alloc cs) [] := ⟨Nat.le_succ _, fun c hc _ => by rw [Mem.get_lay, if_neg (by omega)]⟩
theorem Fr.put (m : Mem) (b : Nat) (v : Option Blk) : Fr m (m.put b v) [b] := ⟨Nat.le_refl _, fun c _ hn => by rw [Mem.get_put, if_neg]; intro h; exact hn (by simp [h.1])⟩

def Sl (m : Mem) (s : AV) (l : List AV) : Prop :=
  (∃ sz ex, s = .sl none sz 0 0 ex ∧ l = []) ∨
  ∃ a sz cap ex cs ro, s = .sl (some a) sz l.length cap ex ∧ (1 = sz ∨ ex = true) ∧ l.length ≤ cap ∧ m.get a.b = some (.cells cs ro) ∧ a.o + l.length ≤ cs.length ∧ (cs.drop a.o).take l.length = l

def Row (m : Mem) (s : AV) (l : List AV) (rb : Option Nat) : Prop :=
  ((∃ sz ex, s = .sl none sz 0 0 ex) ∧ l = [] ∧ rb = none) ∨
  ∃ b sp ex, rb = some b ∧ s = .sl (some ⟨b, 0⟩) 1 l.length (l.length + sp.length) ex ∧ m.get b = some (.cells (l ++ sp) false)

theorem Row.sl {m : Mem} {s : AV} {l : List AV} {rb : Option Nat} (h : Row m s l rb) : Sl m s l := by
  rcases h with ⟨⟨sz, ex, rfl⟩, rfl, _⟩ | ⟨b, sp, ex, _, rfl, h⟩
  · exact .inl ⟨_, _, rfl, rfl⟩
  · exact .inr ⟨_, _, _, _, _, _, rfl, .inl rfl, by omega, h, by simp, by simp⟩

theorem Row.frame {m m' : Mem} {s : AV} {l : List AV} {rb : Option Nat} {S : List Nat} (h : Row m s l rb) (hf : Fr m m' S) (hd : ∀ b, rb = some b → b ∉ S) : Row m' s l rb := by
  rcases h with h | ⟨b, sp, ex, h1, h2, h3⟩
  · exact .inl h
  · exact .inr ⟨b, sp, ex, h1, h2, hf.get h3 (hd b h1)⟩
theorem Row.lt {m : Mem} {s : AV} {l : List AV} {b : Nat} (h : Row m s l (some b)) : b < m.next := by
  rcases h with ⟨_, _, h⟩ | ⟨b', sp, ex, h1, h2, h3⟩
  · cases h
  · cases h1; exact Mem.get_lt h3

theorem Sl.len {m : Mem} {s : AV} {l : List AV} (h : Sl m s l) : ∃ a sz cap ex, s = .sl a sz l.length cap ex := by
  rcases h with ⟨sz, ex, rfl, rfl⟩ | ⟨a, sz, cap, ex, cs, ro, rfl, _⟩
  · exact ⟨_, _, _, _, rfl⟩
  · exact ⟨_, _, _, _, rfl⟩

theorem Sl.src {m : Mem} {x : AV} {l : List AV} (h : Sl m x l) : srcA 1 x m = some (l.length, l) := by
  rcases h with ⟨sz, ex, rfl, rfl⟩ | ⟨a, sz, cap, ex, cs, ro, rfl, hs, h0, h1, h2, h3⟩
  · rfl
  · simp [srcA, ldCells, h1, h2, h3, show sz = 1 ∨ ex = true from hs.imp Eq.symm id]

theorem Sl.frame {m m' : Mem} {s : AV} {l : List AV} {S : List Nat} (h : Sl m s l) (hf : Fr m m' S) (hd : ∀ a sz n c ex, s = .sl (some a) sz n c ex → a.b ∉ S) : Sl m' s l := by
  rcases h with h | ⟨a, sz, cap, ex, cs, ro, h0, hs, h1, h2, h3, h4⟩
  · exact .inl h
  · exact .inr ⟨a, sz, cap, ex, cs, ro, h0, hs, h1, hf.get h2 (hd _ _ _ _ _ h0), h3, h4⟩

theorem drop_take_get {cs l : List AV} {o i : Nat} (h : (cs.drop o).take l.length = l) (hi : i < l.length) : cs[o + i]? = l[i]? := by
  have h2 : ((cs.drop o).take l.length)[i]? = l[i]? := by rw [h]
  rw [List.getElem?_take, if_pos hi, List.getElem?_drop] at h2
  exact h2

theorem Sl.elem {m : Mem} {s : AV} {l : List AV} (h : Sl m s l) {i : Nat} (hi : i < l.length) :
    ∃ a sz cap ex, s = .sl (some a) sz l.length cap ex ∧ (1 = sz ∨ ex = true) ∧ ixA 1 l.length a (i : Int) = some (.ptr (some ⟨a.b, a.o + i⟩)) ∧ ld1 m (.ptr (some ⟨a.b, a.o + i⟩)) = l[i]? := by
  rcases h with ⟨sz, ex, rfl, rfl⟩ | ⟨a, sz, cap, ex, cs, ro, h0, hs, h1, h2, h3, h4⟩
  · simp at hi
  · exact ⟨a, sz, cap, ex, h0, hs, by simp [ixA, hi], by simp only [ld1, h2]; exact drop_take_get h4 hi⟩

theorem append_row {m : Mem} {s x : AV} {l new : List AV} {rb : Option Nat} {w : Nat} (hr : Row m s l rb) (hx : Sl m x new) (hone : new.all AV.one = true)
    (hw : (l.length + new.length) * w ≤ maxBytes) :
    ∃ s' m' rb', appendA 1 w s x m = some (s', m') ∧ Row m' s' (l ++ new) rb' ∧ Fr m m' rb.toList ∧ (rb' = rb ∨ rb' = some m.next) := by
  unfold appendA
  rw [hx.src]
  simp only [hone, not_true_eq_false, if_false]
  rcases hr with ⟨⟨sz0, ex0, rfl⟩, rfl, rfl⟩ | ⟨b, sp, ex, rfl, rfl, hb⟩
  · simp only
    by_cases h0 : new.length = 0
    · rw [if_pos h0]
      have : new = [] := List.length_eq_zero_iff.1 h0
      subst this
      exact ⟨_, _, none, rfl, .inl ⟨⟨_, _, rfl⟩, rfl, rfl⟩, (Fr.refl m), .inl rfl⟩
    · rw [if_neg h0, if_pos (by simpa using hw)]
      refine ⟨_, _, some m.next, rfl, .inr ⟨m.next, [], false, rfl, by simp, by simp [Mem.get_lay]⟩, Fr.alloc _ _, .inr rfl⟩
  · simp only [true_or, if_true, Nat.mul_one, Nat.zero_add]
    by_cases h1 : l.length + new.length ≤ l.length + sp.length
    · rw [if_pos h1]
      have hst : stCells m ⟨b, l.length⟩ new = some (m.put b (some (.cells (l ++ new ++ sp.drop new.length) false))) := by
        simp only [stCells, hb]
        rw [if_pos (by simp; omega)]
        congr 4
        rw [List.take_left, List.drop_append]
        congr 1
        rw [List.drop_eq_nil_of_le (by omega), List.nil_append]
        congr 1; omega
      rw [hst]
      refine ⟨_, _, some b, rfl, .inr ⟨b, sp.drop new.length, ex, rfl, ?_, ?_⟩, (Fr.put m b _), .inl rfl⟩
      · congr 1 <;> simp; omega
      · rw [Mem.get_put, if_pos ⟨rfl, Mem.get_lt hb⟩]
    · rw [if_neg h1, if_pos hw]
      have hl : ldCells m ⟨b, 0⟩ l.length = some l := by simp [ldCells, hb]
      rw [hl]
      simp only
      cases ex with
      | true =>
        simp only [if_true]
        refine ⟨_, _, some m.next, rfl, .inr ⟨m.next, [], false, rfl, by simp, by simp [Mem.get_lay]⟩, (Fr.alloc _ _).mono (by simp), .inr rfl⟩
      | false =>
        simp only [Bool.false_eq_true, if_false, hb]
        refine ⟨_, _, some m.next, rfl, .inr ⟨m.next, [], false, rfl, by simp, by simp [Mem.get_lay]⟩, ?_, .inr rfl⟩
        exact (Fr.put m b none).trans (Fr.alloc _ _) (by simp) (by simp)

theorem remove_row {m : Mem} {s : AV} {l : List AV} {rb : Option Nat} {w k : Nat} (hr : Row m s l rb) (hk : k < l.length) (hone : l.all AV.one = true) :
    ∃ a cap ex s' m', s = .sl (some a) 1 l.length cap ex ∧ k ≤ cap ∧ l.length ≤ cap ∧ rb = some a.b ∧
      appendA 1 w (.sl (some ⟨a.b, a.o⟩) 1 k cap ex) (.sl (some ⟨a.b, a.o + (k + 1)⟩) 1 (l.length - (k + 1)) (cap - (k + 1)) ex) m = some (s', m') ∧
      Row m' s' (l.eraseIdx k) rb ∧ Fr m m' rb.toList ∧ m'.next = m.next := by
  rcases hr with ⟨⟨sz0, ex0, rfl⟩, rfl, rfl⟩ | ⟨b, sp, ex, rfl, rfl, hb⟩
  · simp at hk
  · have hx : Sl m (.sl (some ⟨b, 0 + (k + 1)⟩) 1 (l.drop (k + 1)).length (l.length + sp.length - (k + 1)) ex) (l.drop (k + 1)) := by
      refine .inr ⟨_, _, _, _, _, _, rfl, .inl rfl, by simp; omega, hb, by simp; omega, ?_⟩
      simp only [Nat.zero_add]
      rw [List.drop_append_of_le_length (by omega), List.take_left]
    have hlen : l.length - (k + 1) = (l.drop (k + 1)).length := by simp
    rw [hlen]
    refine ⟨⟨b, 0⟩, _, ex, .sl (some ⟨b, 0⟩) 1 (k + (l.drop (k + 1)).length) (l.length + sp.length) ex, m.put b (some (.cells (l.take k ++ l.drop (k + 1) ++ (l ++ sp).drop (k + (l.drop (k + 1)).length)) false)), rfl, by omega, by omega, rfl, ?_, ?_, (Fr.put m b _), rfl⟩
    · unfold appendA
      rw [hx.src]
      have : (l.drop (k + 1)).all AV.one = true := by
        rw [List.all_eq_true] at hone ⊢
        exact fun v hv => hone v (List.mem_of_mem_drop hv)
      simp only [this, not_true_eq_false, if_false, true_or, if_true, Nat.mul_one, Nat.zero_add]
      rw [if_pos (by simp; omega)]
      simp only [stCells, hb]
      rw [if_pos (by simp; omega)]
      simp only [Option.map_some]
      rw [List.take_append_of_le_length (by omega)]
    · have he : l.eraseIdx k = l.take k ++ l.drop (k + 1) := List.eraseIdx_eq_take_drop_succ _ _
      have hl : (l.eraseIdx k).length = k + (l.drop (k + 1)).length := by rw [he]; simp; omega
      refine .inr ⟨b, (l ++ sp).drop (k + (l.drop (k + 1)).length), ex, rfl, ?_, ?_⟩
      · rw [hl]; congr 1; simp; omega
      · rw [Mem.get_put, if_pos ⟨rfl, Mem.get_lt hb⟩, he]
end Go.Abs
end
section
namespace Go.Abs
open Go

section
variable {P : Program} {W : World} {H : Type} {enc : TypeId × Value → H} {t e : TypeId} {v : Value} {base : Nat}

theorem arg_int {k : IntKind} (ht : P.underlying t = some (.int k)) (h : Value.okWide P W .any base t v) : ∃ n, v = .int k n ∧ k.min ≤ n ∧ n ≤ k.max := by
  unfold Value.okWide at h
  simp only [ht] at h
  unfold Cell.okWide at h
  simp only [ht] at h
  unfold Cell.ok at h
  simp only [ht] at h
  cases v <;> simp only at h <;> first | exact h.elim | skip
  obtain ⟨rfl, h⟩ := h
  exact ⟨_, rfl, h⟩

theorem trod_int {k : IntKind} {b : Nat} {sp : Nat → Bool} {held : Bool} {m : Nat} {V : Value} {x : DataW H × List MemPlace} (ht : P.underlying t = some (.int k))
    (h : DataW.trod enc P W b sp held m t [V] = some x) : ∃ n, V = .int k n ∧ k.min ≤ n ∧ n ≤ k.max := by
  cases m with
  | zero => simp [DataW.trod] at h
  | succ m =>
    simp only [DataW.trod, ht] at h
    cases V <;> simp only at h <;> first | (cases h; done) | skip
    split at h
    · rename_i h1
      obtain ⟨rfl, h1⟩ := h1
      simp only [Lit.wf, Bool.and_eq_true, decide_eq_true_eq] at h1
      exact ⟨_, rfl, h1⟩
    · cases h
theorem trod_bool {b : Nat} {sp : Nat → Bool} {held : Bool} {m : Nat} {V : Value} {x : DataW H × List MemPlace} (ht : P.underlying t = some .bool)
    (h : DataW.trod enc P W b sp held m t [V] = some x) : ∃ n, V = .bool n := by
  cases m with
  | zero => simp [DataW.trod] at h
  | succ m =>
    simp only [DataW.trod, ht] at h
    cases V <;> simp only at h <;> first | (cases h; done) | skip
    exact ⟨_, rfl⟩
theorem mapM_mem {α β : Type} {f : α → Option β} : ∀ {l : List α} {r : List β}, l.mapM f = some r → ∀ x ∈ l, ∃ y, f x = some y := by
  intro l r h x hx
  obtain ⟨i, hi, rfl⟩ := List.mem_iff_getElem.1 hx
  have h1 := mapM_some_get h i l[i] (by simp)
  have h2 := mapM_some_length h
  rw [List.getElem?_eq_getElem (by omega)] at h1
  exact ⟨_, h1⟩
theorem trod_struct {fs : Array Field} {b : Nat} {sp : Nat → Bool} {held : Bool} {m : Nat} {cs : List Value} {x : DataW H × List MemPlace} (ht : P.underlying t = some (.struct fs))
    (h : DataW.trod enc P W b sp held m t cs = some x) :
    ∃ m', cs.length = P.cellsOf t ∧ ∀ f ∈ fs.toList, ∃ y, DataW.trod enc P W b sp held m' f.type ((cs.drop f.offset).take (P.cellsOf f.type)) = some y := by
  cases m with
  | zero => simp [DataW.trod] at h
  | succ m =>
    simp only [DataW.trod, ht] at h
    split at h
    · rename_i h1
      obtain ⟨r, h2, _⟩ := Option.map_eq_some_iff.1 h
      exact ⟨m, h1, fun f hf => mapM_mem h2 f hf⟩
    · cases h

theorem add_flat {a : Addr} (h : a.spot = none) (n : Nat) : a.add n = ⟨a.block, a.off + n, none⟩ := by
  unfold Addr.add
  split
  · rename_i e; subst e; cases a; simp_all
  · rfl

theorem arg_slice {d : DataW H} {p : List MemPlace} (ht : P.underlying t = some (.slice e)) (h : Value.okWide P W .any base t v) (hr : DataW.Trod enc P W 0 (fun _ => true) true t v d p) :
    absV W v = .sl none 0 0 0 true ∨
    ∃ (a : AA) (len cap : Nat) (cs : List Value), absV W v = .sl (some a) 0 len cap true ∧ len ≤ cap ∧ (absM W).get a.b = some (.cells (cs.map (absP W)) true) ∧
      ∃ m, ∀ i, i < cap → ((cs.drop (a.o + i * P.cellsOf e)).take (P.cellsOf e)).length = P.cellsOf e ∧
        ∃ y, DataW.trod enc P W 0 (fun _ => true) true m e ((cs.drop (a.o + i * P.cellsOf e)).take (P.cellsOf e)) = some y := by
  unfold Value.okWide at h
  simp only [ht] at h
  unfold Cell.okWide at h
  simp only [ht] at h
  unfold Cell.ok at h
  simp only [ht] at h
  obtain ⟨fuel, hr⟩ := hr
  cases v <;> first | exact False.elim h | skip
  rename_i a len cap
  cases a with
  | none =>
    left
    cases len with
    | zero => cases cap with
      | zero => rfl
      | succ n => exact False.elim h
    | succ n => exact False.elim h
  | some a =>
    right
    simp only at h
    obtain ⟨h1, h2, _, h3, row, n, h4, h5⟩ := h
    unfold World.shape? at h4
    split at h4
    · rename_i c el fr hc
      rcases Go.Deep.open_slice ht hr with ⟨h6, _⟩ | ⟨a', len', cap', mm, n', D, Pl, h6, _, _, _, h7, _, h8⟩
      · simp [Value.cells] at h6
      · simp only [Value.cells, List.cons.injEq, and_true] at h6
        injection h6 with e1 e2 e3
        cases e1; subst e2; subst e3
        refine ⟨⟨a.block, a.off⟩, len, cap, c.toList, ?_, h1, ?_, n', fun i hi => ?_⟩
        · simp [absV, absP, h3, isCells, hc, h1]
        · rw [absM_get, absBlk, hc]
        · obtain ⟨cs', h9, h10⟩ := h8 i (by rw [h7]; simpa using hi)
          obtain ⟨_, h11, h12⟩ := World.cells?_some h9
          have : (c.toList.drop (a.off + i * P.cellsOf e)).take (P.cellsOf e) = cs' := by
            apply List.ext_getElem?
            intro j
            rw [List.getElem?_take, List.getElem?_drop]
            split
            · rename_i hj
              rw [← h12 j hj]
              rw [add_flat h3, add_flat rfl]
              simp [World.cell?, hc]
            · rw [List.getElem?_eq_none (by omega)]
          simp only
          rw [this]
          exact ⟨h11, _, h10⟩
    · cases h4

theorem arg_ints {k : IntKind} {d : DataW H} {p : List MemPlace} (ht : P.underlying t = some (.slice e)) (he : P.underlying e = some (.int k)) (hn : P.cellsOf e = 1) (h : Value.okWide P W .any base t v)
    (hr : DataW.Trod enc P W 0 (fun _ => true) true t v d p) : ∃ xs : List Int, (Sl (absM W) (absV W v) (xs.map (AV.int k)) ∨ xs = [] ∧ ∃ a cap, absV W v = .sl (some a) 0 0 cap true) ∧ ∀ x ∈ xs, k.min ≤ x ∧ x ≤ k.max := by
  rcases arg_slice ht h hr with h | ⟨a, len, cap, cs, h1, h2, h3, m, h4⟩
  · exact ⟨[], .inl (.inl ⟨_, _, h, rfl⟩), by simp⟩
  · rw [hn] at h4
    have h5 : ∀ i, i < len → ∃ n : Int, cs[a.o + i]? = some (.int k n) ∧ k.min ≤ n ∧ n ≤ k.max := by
      intro i hi
      obtain ⟨h6, y, h7⟩ := h4 i (by omega)
      rw [Nat.mul_one] at h6 h7
      have h8 : a.o + i < cs.length := by simp at h6; omega
      have h9 : (cs.drop (a.o + i)).take 1 = [cs[a.o + i]] := by rw [List.drop_eq_getElem_cons h8]; rfl
      rw [h9] at h7
      obtain ⟨n, h10, h11⟩ := trod_int he h7
      exact ⟨n, by rw [List.getElem?_eq_getElem h8, h10], h11⟩
    obtain ⟨f, hf⟩ := Go.Deep.choose_lt h5
    by_cases h0 : len = 0
    · subst h0; exact ⟨[], .inr ⟨rfl, a, cap, h1⟩, by simp⟩
    refine ⟨(List.range len).map f, .inl <| .inr ⟨a, 0, cap, true, cs.map (absP W), true, ?_, .inr rfl, ?_, h3, ?_, ?_⟩, ?_⟩
    · simpa using h1
    · simpa using h2
    · simp only [List.length_map, List.length_range]
      have := (hf (len - 1) (by omega)).1
      have := (List.getElem?_eq_some_iff.1 this).1
      omega
    · apply List.ext_getElem?
      intro i
      simp only [List.length_map, List.length_range]
      rw [List.getElem?_take, List.getElem?_drop]
      split
      · rename_i hi
        simp [List.getElem?_map, (hf i hi).1, List.getElem?_range hi, absP]
      · rename_i hi
        rw [List.getElem?_eq_none (by simp; omega)]
    · intro x hx
      obtain ⟨i, hi, rfl⟩ := List.mem_map.1 hx
      exact (hf i (List.mem_range.1 hi)).2
end
theorem argAll_cons {P : Program} {W : World} {H : Type} {enc : TypeId × Value → H} {b : Nat} {sp : Nat → Bool} {held : Bool} {t : TypeId} {ts : List TypeId} {vs : List Value} {ds : List (DataW H)} {ps : List MemPlace}
    (h : DataW.TrodAll enc P W b sp held (t :: ts) vs ds ps) : ∃ v vs' d ds' p p', vs = v :: vs' ∧ ds = d :: ds' ∧ DataW.Trod enc P W b sp held t v d p ∧ DataW.TrodAll enc P W b sp held ts vs' ds' p' := by
  match vs, ds, h with
  | v :: vs, d :: ds, ⟨p, q, h1, h2, _⟩ => exact ⟨v, vs, d, ds, p, q, rfl, rfl, h1, h2⟩
theorem argAll_nil {P : Program} {W : World} {H : Type} {enc : TypeId × Value → H} {b : Nat} {sp : Nat → Bool} {held : Bool} {vs : List Value} {ds : List (DataW H)} {ps : List MemPlace}
    (h : DataW.TrodAll enc P W b sp held [] vs ds ps) : vs = [] ∧ ds = [] := by
  match vs, ds, h with
  | [], [], _ => exact ⟨rfl, rfl⟩
end Go.Abs
end
section
namespace Go.Abs
open Go

section
variable {P : Program}

theorem extern_ok {f : FuncId} {fn : Func} {e : Array Value → Sem Value} (hf : P.funcs[f]? = some fn) (hname : (fn.name == "runtime.NumGoroutine") = false) (hb : fn.body.isNone = true) (hn : Extern.findNext fn = none) (he : Extern.find fn = some e)
    {args : List AV} {m : Mem} {r : AV} {m' : Mem} (h0 : m.next ≤ m'.next) (h : ∀ (p : Phi) (w : World) (cargs : List Value), MR P p m w → GP P ≤ m.next → Free p m.next m'.next → VRs p args cargs →
      ∃ cv w' p', (e ⟨cargs⟩).run P w = .ok cv w' ∧ VR p' r cv ∧ Sim P p m w p' m' w') : FnOk P (.fn f) args m r m' := by
  refine ⟨h0, fun p w cargs hm hG hf2 hv => .inr ?_⟩
  obtain ⟨cv, w', p', h1, h2, h3⟩ := h p w cargs hm hG hf2 hv
  refine ⟨cv, w', p', ?_, h2, h3⟩
  rw [run_callFunc_extern hf hname hb hn he, h1]
  rfl

def add64H (args : List AV) (m : Mem) : R :=
  match args with
  | [.int .u64 x, .int .u64 y, .int .u64 c] =>
    if 0 ≤ x ∧ 0 ≤ y ∧ 0 ≤ c ∧ c ≤ 1 then some (.tup [.int .u64 ((x + y + c) % 18446744073709551616), .int .u64 ((x + y + c) / 18446744073709551616)], m) else none
  | _ => none
theorem add64_ok {f : FuncId} {fn : Func} (hf : P.funcs[f]? = some fn) (hname : (fn.name == "runtime.NumGoroutine") = false) (hb : fn.body.isNone = true) (hn : Extern.findNext fn = none) (he : Extern.find fn = some add64Entry)
    (args : List AV) (m : Mem) (r : AV) (m' : Mem) (h : add64H args m = some (r, m')) : FnOk P (.fn f) args m r m' := by
  unfold add64H at h
  split at h
  · rename_i x y c
    split at h
    · rename_i hc
      cases h
      refine extern_ok hf hname hb hn he (Nat.le_refl _) fun p w cargs hm hG hf2 hv => ?_
      simp only [VRs, VR] at hv
      obtain ⟨_, _, rfl, rfl, _, _, rfl, rfl, _, _, rfl, rfl, rfl⟩ := hv
      refine ⟨_, w, p, run_add64 x y c hc.1 hc.2.1 hc.2.2.1 hc.2.2.2 w, ?_, Sim.refl hm⟩
      simp only [VR, VRs]
      exact ⟨_, rfl, _, _, rfl, rfl, _, _, rfl, rfl, rfl⟩
    · cases h
  · cases h

def sub64Entry : Array Value → Sem Value := fun args => do
  let (x, y, b) ← Extern.MathBitsCarry.three "Sub64" args
  pure (Extern.MathBitsCarry.pair ((x + Extern.MathBitsCarry.m64 - y - b) % Extern.MathBitsCarry.m64) (if x < y + b then 1 else 0))
theorem run_sub64 (x y c : Int) (hx : 0 ≤ x) (hy : 0 ≤ y) (hy2 : y < 18446744073709551616) (hc0 : 0 ≤ c) (hc : c ≤ 1) (w : World) :
    (sub64Entry #[.int .u64 x, .int .u64 y, .int .u64 c]).run P w =
      .ok (.tuple #[.int .u64 ((x - y - c) % 18446744073709551616), .int .u64 (if x < y + c then 1 else 0)]) w := by
  have key : ∀ k : Nat, k ≤ 1 → (sub64Entry #[.int .u64 x, .int .u64 y, .int .u64 (k : Int)]).run P w =
      .ok (Extern.MathBitsCarry.pair ((x.toNat + Extern.MathBitsCarry.m64 - y.toNat - k) % Extern.MathBitsCarry.m64) (if x.toNat < y.toNat + k then 1 else 0)) w := by
    intro k hk
    have : k = 0 ∨ k = 1 := by omega
    rcases this with rfl | rfl <;> rfl
  obtain ⟨k, rfl⟩ := Int.eq_ofNat_of_zero_le hc0
  rw [key k (by omega)]
  obtain ⟨X, rfl⟩ := Int.eq_ofNat_of_zero_le hx
  obtain ⟨Y, rfl⟩ := Int.eq_ofNat_of_zero_le hy
  simp only [Extern.MathBitsCarry.pair, Extern.MathBitsCarry.m64, Int.toNat_natCast]
  have h1 : Int.ofNat ((X + 2 ^ 64 - Y - k) % 2 ^ 64) = ((X : Int) - (Y : Int) - (k : Int)) % 18446744073709551616 := by
    simp only [Int.ofNat_eq_natCast, Int.natCast_emod]
    omega
  have h2 : Int.ofNat (if X < Y + k then 1 else 0) = if (X : Int) < (Y : Int) + (k : Int) then 1 else 0 := by
    by_cases h : X < Y + k
    · rw [if_pos h, if_pos (by omega)]; rfl
    · rw [if_neg h, if_neg (by omega)]; rfl
  rw [h1, h2]
def sub64H (args : List AV) (m : Mem) : R :=
  match args with
  | [.int .u64 x, .int .u64 y, .int .u64 c] =>
    if 0 ≤ x ∧ 0 ≤ y ∧ y < 18446744073709551616 ∧ 0 ≤ c ∧ c ≤ 1 then some (.tup [.int .u64 ((x - y - c) % 18446744073709551616), .int .u64 (if x < y + c then 1 else 0)], m) else none
  | _ => none
theorem sub64_ok {f : FuncId} {fn : Func} (hf : P.funcs[f]? = some fn) (hname : (fn.name == "runtime.NumGoroutine") = false) (hb : fn.body.isNone = true) (hn : Extern.findNext fn = none) (he : Extern.find fn = some sub64Entry)
    (args : List AV) (m : Mem) (r : AV) (m' : Mem) (h : sub64H args m = some (r, m')) : FnOk P (.fn f) args m r m' := by
  unfold sub64H at h
  split at h
  · rename_i x y c
    split at h
    · rename_i hc
      cases h
      refine extern_ok hf hname hb hn he (Nat.le_refl _) fun p w cargs hm hG hf2 hv => ?_
      simp only [VRs, VR] at hv
      obtain ⟨_, _, rfl, rfl, _, _, rfl, rfl, _, _, rfl, rfl, rfl⟩ := hv
      refine ⟨_, w, p, run_sub64 x y c hc.1 hc.2.1 hc.2.2.1 hc.2.2.2.1 hc.2.2.2.2 w, ?_, Sim.refl hm⟩
      simp only [VR, VRs]
      exact ⟨_, rfl, _, _, rfl, rfl, _, _, rfl, rfl, rfl⟩
    · cases h
  · cases h

noncomputable def overlapsH (args : List AV) (m : Mem) : R :=
  match args with
  | [.sl (some a) _ _ _ _, .sl (some b) _ _ _ _] =>
    if a.b = b.b then none else
    match m.get a.b, m.get b.b with
    | some (.cells _ false), some (.cells (_ :: _) _) => some (.bool false, m)
    | _, _ => none
  | _ => none
theorem overlaps_ok {f : FuncId} {fn : Func} {st tr e : TypeId} {sz : Nat} (hf : P.funcs[f]? = some fn) (hname : (fn.name == "runtime.NumGoroutine") = false) (hb : fn.body.isNone = true) (hn : Extern.findNext fn = none)
    (he : Extern.find fn = some (Extern.SlicesOverlaps.overlaps #[st, st] #[tr])) (ht : P.underlying st = some (.slice e)) (hsz : szT P e = some sz)
    (args : List AV) (m : Mem) (r : AV) (m' : Mem) (h : overlapsH args m = some (r, m')) : FnOk P (.fn f) args m r m' := by
  unfold overlapsH at h
  split at h
  · rename_i a sa la ca xa b sb lb cb xb
    split at h
    · cases h
    · rename_i hne
      split at h
      · rename_i cs d ds ro ha hbb
        cases h
        refine extern_ok hf hname hb hn he (Nat.le_refl _) fun p w cargs hm hG hf2 hv => ?_
        simp only [VRs, VR, SR] at hv
        obtain ⟨_, _, rfl, ⟨ci, off, cap, h1, rfl, _⟩, _, _, rfl, ⟨ci2, off2, cap2, h2, rfl, _⟩, rfl⟩ := hv
        obtain ⟨arr, el, fr, g1, g2, g3, _⟩ := hm.live _ _ _ _ ha h1
        obtain ⟨arr2, el2, fr2, q1, q2, _, q4⟩ := hm.live _ _ _ _ hbb h2
        have g3 := g3 rfl
        have hc : ci.c ≠ ci2.c := by
          intro e
          rcases hm.inj a.b ci b.b ci2 (by rw [ha]; rfl) h1 h2 e with e' | ⟨_, e'⟩
          · exact hne e'
          · rw [hbb] at e'; cases e'
        have hk : arr2.size ≠ 0 := by
          obtain ⟨v, hv, _⟩ := q4 0 d rfl
          have := (Array.getElem?_eq_some_iff.1 hv).1
          omega
        refine ⟨.bool false, w, p, ?_, by simp [VR], Sim.refl hm⟩
        refine Lib.run_overlaps_apart (P := P) w st tr e ht sz (fun w => run_size hsz w) ⟨ci.c, off, none⟩ ⟨ci2.c, off2, none⟩ la cap lb cap2 hc el el2 arr.size arr2.size ?_ ?_ hk ?_ ?_
        · simp [World.shape?, g1]
        · simp [World.shape?, q1]
        · simp only [World.frozen?, g1]
          have := g3 off
          simp only [Bool.and_eq_false_iff, decide_eq_false_iff_not]
          by_cases h : fr.1 ≤ off
          · exact .inr fun h' => this ⟨h, h'⟩
          · exact .inl h
        · simp only [World.frozen?, g1]
          have := g3 arr.size
          simp only [Bool.and_eq_false_iff, decide_eq_false_iff_not]
          by_cases h : fr.1 ≤ arr.size
          · exact .inr fun h' => this ⟨h, h'⟩
          · exact .inl h
      · cases h
  · cases h
end
end Go.Abs
end
