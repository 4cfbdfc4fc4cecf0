/- Runs of a function at memories that are written out, as a hook: great closed runs in parts. No statement of a claim stands here. -/
import Derived.Test.YtolmealocdgdhaaGreatK9
namespace Go.Abs
open Go

/-- Nothing beyond a number. -/
noncomputable def PT.cut (n : Nat) (t : PT) : Nat → Nat → PT :=
  PT.rec (motive := fun _ => Nat → Nat → PT) (fun _ _ => .leaf)
    (fun v _ _ ihl ihr s off => .node (Bool.rec (motive := fun _ => Option Blk) none v (Nat.blt off n)) (ihl (Nat.mul 2 s) (Nat.add off s)) (ihr (Nat.mul 2 s) (Nat.add off (Nat.mul 2 s)))) t
theorem PT.cut_get {n : Nat} : ∀ (t : PT) (s off k : Nat), (PT.cut n t s off).get k = if off + s * k < n then t.get k else none
  | .leaf, s, off, k => by
    show PT.leaf.get k = _
    rw [PT.get_leaf]; split <;> rfl
  | .node v l r, s, off, k => by
    have hu : PT.cut n (.node v l r) s off = .node (Bool.rec (motive := fun _ => Option Blk) none v (Nat.blt off n)) (PT.cut n l (2 * s) (off + s)) (PT.cut n r (2 * s) (off + 2 * s)) := rfl
    rw [hu, PT.get_node', PT.get_node']
    by_cases h0 : k = 0
    · subst h0
      simp only [if_true, Nat.mul_zero, Nat.add_zero]
      rw [bltN]
      by_cases h : off < n
      · rw [if_pos h, decide_eq_true h]
      · rw [if_neg h, decide_eq_false h]
    · simp only [if_neg h0]
      by_cases e : k % 2 = 1
      · simp only [if_pos e]
        rw [PT.cut_get l, place_odd e]
      · simp only [if_neg e]
        rw [PT.cut_get r, place_even h0 e]

noncomputable def putsT (l : List (Nat × Blk)) (t : PT) : PT := List.rec (motive := fun _ => PT → PT) (fun t => t) (fun x _ ih t => ih (t.set x.1 (some x.2))) l t
noncomputable def getL (l : List (Nat × Blk)) (k : Nat) : Option Blk := List.rec (motive := fun _ => Option Blk) none (fun x _ ih => Option.rec (motive := fun _ => Option Blk) (Bool.rec (motive := fun _ => Option Blk) none (some x.2) (Nat.beq x.1 k)) some ih) l
theorem putsT_get : ∀ (l : List (Nat × Blk)) (t : PT) (k : Nat), (putsT l t).get k = match getL l k with | some v => some v | none => t.get k
  | [], t, k => rfl
  | x :: l, t, k => by
    have hu : putsT (x :: l) t = putsT l (t.set x.1 (some x.2)) := rfl
    have hg : getL (x :: l) k = Option.rec (motive := fun _ => Option Blk) (Bool.rec (motive := fun _ => Option Blk) none (some x.2) (Nat.beq x.1 k)) some (getL l k) := rfl
    rw [hu, putsT_get l, hg]
    cases getL l k with
    | some v => rfl
    | none =>
      show (t.set x.1 (some x.2)).get k = match (Bool.rec (motive := fun _ => Option Blk) none (some x.2) (Nat.beq x.1 k) : Option Blk) with | some v => some v | none => t.get k
      rw [PT.get_set, beqN]
      by_cases h : x.1 = k
      · rw [decide_eq_true h, if_pos h.symm]
      · rw [decide_eq_false h, if_neg (fun e => h e.symm)]

noncomputable def putsO (l : List (Nat × Option Blk)) (t : PT) : PT := List.rec (motive := fun _ => PT → PT) (fun t => t) (fun x _ ih t => ih (t.set x.1 x.2)) l t
noncomputable def getO (l : List (Nat × Option Blk)) (k : Nat) : Option (Option Blk) := List.rec (motive := fun _ => Option (Option Blk)) none (fun x _ ih => Option.rec (motive := fun _ => Option (Option Blk)) (Bool.rec (motive := fun _ => Option (Option Blk)) none (some x.2) (Nat.beq x.1 k)) some ih) l
theorem putsO_get : ∀ (l : List (Nat × Option Blk)) (t : PT) (k : Nat), (putsO l t).get k = match getO l k with | some v => v | none => t.get k
  | [], t, k => rfl
  | x :: l, t, k => by
    have hu : putsO (x :: l) t = putsO l (t.set x.1 x.2) := rfl
    have hg : getO (x :: l) k = Option.rec (motive := fun _ => Option (Option Blk)) (Bool.rec (motive := fun _ => Option (Option Blk)) none (some x.2) (Nat.beq x.1 k)) some (getO l k) := rfl
    rw [hu, putsO_get l, hg]
    cases getO l k with
    | some v => rfl
    | none =>
      show (t.set x.1 x.2).get k = match (Bool.rec (motive := fun _ => Option (Option Blk)) none (some x.2) (Nat.beq x.1 k) : Option (Option Blk)) with | some v => v | none => t.get k
      rw [PT.get_set, beqN]
      by_cases h : x.1 = k
      · rw [decide_eq_true h, if_pos h.symm]
      · rw [decide_eq_false h, if_neg (fun e => h e.symm)]

/-- A run that is written out: at this memory, with these arguments, this comes out; 'post': blocks that are new, or changed, or gone. -/
structure Frz where
  args : List AV
  next : Nat
  pre : List (Nat × Blk)
  r : AV
  next2 : Nat
  post : List (Nat × Option Blk)
noncomputable def Frz.M (e : Frz) : Mem := ⟨e.next, putsT e.pre .leaf⟩
noncomputable def Frz.M2 (e : Frz) : Mem := ⟨e.next2, putsO e.post (putsT e.pre .leaf)⟩
noncomputable def allL {α : Type} (p : α → Bool) (l : List α) : Bool := List.rec (motive := fun _ => Bool) true (fun x _ ih => Bool.rec (motive := fun _ => Bool) false ih (p x)) l
theorem allL_iff {α : Type} {p : α → Bool} : ∀ {l : List α}, allL p l = true → ∀ x ∈ l, p x = true
  | [], _, _, h => by cases h
  | y :: l, h, x, hx => by
    have hu : allL p (y :: l) = Bool.rec (motive := fun _ => Bool) false (allL p l) (p y) := rfl
    rw [hu] at h
    cases hy : p y with
    | false => rw [hy] at h; cases h
    | true =>
      rw [hy] at h
      rcases List.mem_cons.1 hx with rfl | hx
      · exact hy
      · exact allL_iff h x hx
noncomputable def sameAt (m : Mem) (x : Nat × Blk) : Bool := Option.rec (motive := fun _ => Bool) false (fun v => Blk.same v x.2) (m.get x.1)
theorem sameAt_iff {m : Mem} {x : Nat × Blk} (h : sameAt m x = true) : m.get x.1 = some x.2 := by
  unfold sameAt at h
  cases e : m.get x.1 with
  | none => rw [e] at h; cases h
  | some v => rw [e] at h; rw [Blk.same_eq h]
noncomputable def hasK (l : List (Nat × Blk)) (k : Nat) : Bool := List.rec (motive := fun _ => Bool) false (fun x _ ih => Bool.rec (motive := fun _ => Bool) ih true (Nat.beq x.1 k)) l
theorem hasK_iff : ∀ {l : List (Nat × Blk)} {k : Nat}, hasK l k = true → ∃ v, getL l k = some v
  | [], k, h => by cases h
  | x :: l, k, h => by
    have hu : hasK (x :: l) k = Bool.rec (motive := fun _ => Bool) (hasK l k) true (Nat.beq x.1 k) := rfl
    have hg : getL (x :: l) k = Option.rec (motive := fun _ => Option Blk) (Bool.rec (motive := fun _ => Option Blk) none (some x.2) (Nat.beq x.1 k)) some (getL l k) := rfl
    rw [hu] at h
    rw [hg]
    cases hl : getL l k with
    | some v => exact ⟨v, rfl⟩
    | none =>
      cases hb : Nat.beq x.1 k with
      | true => exact ⟨x.2, rfl⟩
      | false =>
        rw [hb] at h
        obtain ⟨v, hv⟩ := hasK_iff (show hasK l k = true from h)
        rw [hl] at hv; cases hv
noncomputable def hasO (l : List (Nat × Option Blk)) (k : Nat) : Bool := List.rec (motive := fun _ => Bool) false (fun x _ ih => Bool.rec (motive := fun _ => Bool) ih true (Nat.beq x.1 k)) l
theorem hasO_iff : ∀ {l : List (Nat × Option Blk)} {k : Nat}, hasO l k = true → ∃ v, getO l k = some v
  | [], k, h => by cases h
  | x :: l, k, h => by
    have hu : hasO (x :: l) k = Bool.rec (motive := fun _ => Bool) (hasO l k) true (Nat.beq x.1 k) := rfl
    have hg : getO (x :: l) k = Option.rec (motive := fun _ => Option (Option Blk)) (Bool.rec (motive := fun _ => Option (Option Blk)) none (some x.2) (Nat.beq x.1 k)) some (getO l k) := rfl
    rw [hu] at h
    rw [hg]
    cases hl : getO l k with
    | some v => exact ⟨v, rfl⟩
    | none =>
      cases hb : Nat.beq x.1 k with
      | true => exact ⟨x.2, rfl⟩
      | false =>
        rw [hb] at h
        obtain ⟨v, hv⟩ := hasO_iff (show hasO l k = true from h)
        rw [hl] at hv; cases hv
theorem getO_mem : ∀ {l : List (Nat × Option Blk)} {k : Nat} {v : Option Blk}, getO l k = some v → (k, v) ∈ l
  | [], k, v, h => by cases h
  | x :: l, k, v, h => by
    have hg : getO (x :: l) k = Option.rec (motive := fun _ => Option (Option Blk)) (Bool.rec (motive := fun _ => Option (Option Blk)) none (some x.2) (Nat.beq x.1 k)) some (getO l k) := rfl
    rw [hg] at h
    cases hl : getO l k with
    | some w => rw [hl] at h; cases h; exact List.mem_cons_of_mem _ (getO_mem hl)
    | none =>
      rw [hl] at h
      replace h : (Bool.rec (motive := fun _ => Option (Option Blk)) none (some x.2) (Nat.beq x.1 k) : Option (Option Blk)) = some v := h
      rw [beqN] at h
      by_cases e : x.1 = k
      · rw [decide_eq_true e] at h; cases h; rw [← e]; exact List.mem_cons_self
      · rw [decide_eq_false e] at h; cases h
/-- Is a place as it is said? -/
noncomputable def isAt (m : Mem) (x : Nat × Option Blk) : Bool := Option.rec (motive := fun _ => Bool) (Option.rec (motive := fun _ => Bool) true (fun _ => false) (m.get x.1)) (fun v => sameAt m (x.1, v)) x.2
theorem isAt_iff {m : Mem} {x : Nat × Option Blk} (h : isAt m x = true) : m.get x.1 = x.2 := by
  obtain ⟨k, v⟩ := x
  cases v with
  | some v => exact sameAt_iff (x := (k, v)) h
  | none =>
    have h' : (Option.rec (motive := fun _ => Bool) true (fun _ => false) (m.get k) : Bool) = true := h
    show m.get k = none
    cases e : m.get k with
    | none => rfl
    | some u => rw [e] at h'; cases h'
theorem getL_mem : ∀ {l : List (Nat × Blk)} {k : Nat} {v : Blk}, getL l k = some v → (k, v) ∈ l
  | [], k, v, h => by cases h
  | x :: l, k, v, h => by
    have hg : getL (x :: l) k = Option.rec (motive := fun _ => Option Blk) (Bool.rec (motive := fun _ => Option Blk) none (some x.2) (Nat.beq x.1 k)) some (getL l k) := rfl
    rw [hg] at h
    cases hl : getL l k with
    | some w => rw [hl] at h; cases h; exact List.mem_cons_of_mem _ (getL_mem hl)
    | none =>
      rw [hl] at h
      replace h : (Bool.rec (motive := fun _ => Option Blk) none (some x.2) (Nat.beq x.1 k) : Option Blk) = some v := h
      rw [beqN] at h
      by_cases e : x.1 = k
      · rw [decide_eq_true e] at h; cases h; rw [← e]; exact List.mem_cons_self
      · rw [decide_eq_false e] at h; cases h

/-- The look at a run: blocks that are old must be there still. -/
noncomputable def Frz.chk (e : Frz) (X : List AV → Mem → R) : Bool :=
  Option.rec (motive := fun _ => Bool) false (fun r => AV.beq r.1 e.r && (Nat.beq r.2.next e.next2 && (allL (fun x => Nat.blt x.1 e.next && (hasO e.post x.1 || sameAt r.2 x)) e.pre && allL (fun x => isAt r.2 x && (Nat.ble e.next x.1 || hasK e.pre x.1)) e.post))) (X e.args e.M)

theorem Sim.drop2 {P : Program} {p p' : Phi} {m m1 m2 : Mem} {w w' : World} (s : Sim P p m w p' m1 w') (hn : m2.next = m1.next) (h1 : ∀ b, b < m.next → m.get b ≠ none → m2.get b = m1.get b) (h2 : ∀ b, m2.get b = m1.get b ∨ m2.get b = none) : Sim P p m w p' m2 w' := by
  refine s.drop ⟨hn, fun b hb => ?_, h2⟩
  by_cases e : m.get b = none
  · rw [s.dead b hb e]
    rcases h2 b with g | g
    · rw [g]; exact s.dead b hb e
    · exact g
  · exact h1 b hb e
theorem FnOk.drop2 {P : Program} {f : FuncId} {args : List AV} {m m1 m2 : Mem} {r : AV} (h : FnOk P (.fn f) args m r m1) (hn : m2.next = m1.next) (h1 : ∀ b, b < m.next → m.get b ≠ none → m2.get b = m1.get b) (h2 : ∀ b, m2.get b = m1.get b ∨ m2.get b = none) : FnOk P (.fn f) args m r m2 := by
  refine ⟨by rw [hn]; exact h.1, fun p w cargs hm hG hf hv => ?_⟩
  rcases h.2 p w cargs hm hG (by rw [← hn]; exact hf) hv with ⟨fn, g1, g2, g3, g4⟩ | ⟨cv, w', q, g1, g2, g3⟩
  · refine .inl ⟨fn, g1, g2, g3, g4.mono ?_⟩
    rintro e w' ⟨cv, q, rfl, g5, g6⟩
    exact ⟨cv, q, rfl, g5, g6.drop2 hn h1 h2⟩
  · exact .inr ⟨cv, w', q, g1, g2, g3.drop2 hn h1 h2⟩

theorem Frz.M_get (e : Frz) (k : Nat) : e.M.get k = if k < e.next then getL e.pre k else none := by
  rw [Mem.get_def]
  show (if k < e.next then (putsT e.pre .leaf).get k else none) = _
  rw [putsT_get, PT.get_leaf]
  cases getL e.pre k <;> rfl
theorem Frz.M2_get (e : Frz) (k : Nat) : e.M2.get k = if k < e.next2 then (match getO e.post k with | some v => v | none => getL e.pre k) else none := by
  rw [Mem.get_def]
  show (if k < e.next2 then (putsO e.post (putsT e.pre .leaf)).get k else none) = _
  rw [putsO_get, putsT_get, PT.get_leaf]
  cases getO e.post k <;> cases getL e.pre k <;> rfl

theorem Frz.run_ok {P : Program} {f : FuncId} {e : Frz} {X : List AV → Mem → R} (hX : ∀ args m r m', X args m = some (r, m') → FnOk P (.fn f) args m r m') (h : e.chk X = true) : FnOk P (.fn f) e.args e.M e.r e.M2 ∧ (∀ x ∈ e.pre, x.1 < e.next) ∧ ∀ x ∈ e.post, e.next ≤ x.1 ∨ hasK e.pre x.1 = true := by
  unfold Frz.chk at h
  cases hx : X e.args e.M with
  | none => rw [hx] at h; cases h
  | some r =>
    obtain ⟨v, m1⟩ := r
    rw [hx] at h
    simp only [Bool.and_eq_true] at h
    obtain ⟨h1, h2, h3, h4⟩ := h
    have e1 := AV.eq_of_beq h1
    have e2 := Nat.eq_of_beq_eq_true h2
    subst e1
    have hf := hX _ _ _ _ hx
    have hpre : ∀ x ∈ e.pre, x.1 < e.next := fun x hx => by
      have := allL_iff h3 x hx
      simp only [Bool.and_eq_true] at this
      have h5 := this.1
      rw [bltN] at h5
      exact of_decide_eq_true h5
    have hval : ∀ k v, e.M2.get k = some v → m1.get k = some v := fun k v hk => by
      rw [Frz.M2_get] at hk
      split at hk
      · cases hp : getO e.post k with
        | some u =>
          rw [hp] at hk
          simp only at hk
          subst hk
          have := allL_iff h4 _ (getO_mem hp)
          simp only [Bool.and_eq_true] at this
          exact isAt_iff this.1
        | none =>
          rw [hp] at hk
          simp only at hk
          have := allL_iff h3 _ (getL_mem hk)
          simp only [Bool.and_eq_true, Bool.or_eq_true] at this
          rcases this.2 with h6 | h6
          · obtain ⟨u, hu⟩ := hasO_iff h6
            rw [hp] at hu; cases hu
          · exact sameAt_iff h6
      · cases hk
    refine ⟨hf.drop2 e2.symm (fun b hb hn => ?_) (fun b => ?_), hpre, fun x hx => ?_⟩
    · rw [Frz.M_get] at hn
      have hb' : b < e.next := hb
      rw [if_pos hb'] at hn
      have hle : e.next ≤ m1.next := hf.1
      rw [Frz.M2_get, if_pos (by omega)]
      cases hp : getO e.post b with
      | some u =>
        have := allL_iff h4 _ (getO_mem hp)
        simp only [Bool.and_eq_true] at this
        exact (isAt_iff this.1).symm
      | none =>
        cases hg : getL e.pre b with
        | none => exact absurd hg hn
        | some u => exact (hval b u (by rw [Frz.M2_get, if_pos (by omega), hp]; exact hg)).symm
    · cases hg : e.M2.get b with
      | none => exact .inr rfl
      | some u => exact .inl (hval b u hg).symm
    · have := allL_iff h4 x hx
      simp only [Bool.and_eq_true, Bool.or_eq_true] at this
      rcases this.2 with h6 | h6
      · exact .inl (Nat.le_of_ble_eq_true h6)
      · exact .inr h6

/-- Does a run that is written out serve here? -/
noncomputable def Frz.fits (e : Frz) (args : List AV) (m : Mem) : Bool := Nat.beq m.next e.next && (AV.beqs args e.args && allL (sameAt m) e.pre)
noncomputable def Frz.out (e : Frz) (m : Mem) : AV × Mem := (e.r, ⟨e.next2, putsO e.post (PT.cut e.next m.tab 1 0)⟩)
/-- Runs that are written out; where none serves: 'X'. -/
noncomputable def frzH (l : List Frz) (X : List AV → Mem → R) (args : List AV) (m : Mem) : R := List.rec (motive := fun _ => R) (X args m) (fun e _ ih => Bool.rec (motive := fun _ => R) ih (some (e.out m)) (e.fits args m)) l
theorem Frz.out_ok {P : Program} {f : FuncId} {e : Frz} (h : FnOk P (.fn f) e.args e.M e.r e.M2 ∧ (∀ x ∈ e.pre, x.1 < e.next) ∧ ∀ x ∈ e.post, e.next ≤ x.1 ∨ hasK e.pre x.1 = true) {args : List AV} {m : Mem} (hf : e.fits args m = true) :
    FnOk P (.fn f) args m e.r ⟨e.next2, putsO e.post (PT.cut e.next m.tab 1 0)⟩ := by
  obtain ⟨h, hpre, hpost⟩ := h
  unfold Frz.fits at hf
  simp only [Bool.and_eq_true] at hf
  obtain ⟨h1, h2, h3⟩ := hf
  have hn := Nat.eq_of_beq_eq_true h1
  rw [AV.eqs_of_beqs h2]
  have hin : ∀ k v, getL e.pre k = some v → m.get k = some v := fun k v hk => sameAt_iff (allL_iff h3 _ (getL_mem hk))
  have g2 : ∀ k, (⟨e.next2, putsO e.post (PT.cut e.next m.tab 1 0)⟩ : Mem).get k = if k < e.next2 then (match getO e.post k with | some v => v | none => m.get k) else none := fun k => by
    rw [Mem.get_def]
    show (if k < e.next2 then (putsO e.post (PT.cut e.next m.tab 1 0)).get k else none) = _
    rw [putsO_get, PT.cut_get, Mem.get_def, hn]
    simp only [Nat.zero_add, Nat.one_mul]
  have hle : e.next ≤ e.next2 := h.1
  refine h.frame ⟨hn.symm, fun b => ?_, rfl, fun b hb h0 => ?_, fun b hb => ?_⟩
  · rw [Frz.M_get]
    split
    · cases hg : getL e.pre b with
      | none => exact .inl rfl
      | some v => exact .inr (hin b v hg).symm
    · exact .inl rfl
  · rw [Frz.M_get, if_pos (by omega)] at h0
    rw [g2, if_pos (by omega)]
    cases hp : getO e.post b with
    | none => rfl
    | some v =>
      rcases hpost _ (getO_mem hp) with h6 | h6
      · simp only at h6; omega
      · obtain ⟨u, hu⟩ := hasK_iff h6
        simp only at hu
        rw [h0] at hu; cases hu
  · rw [g2, Frz.M2_get]
    by_cases h5 : b < e.next2
    · rw [if_pos h5, if_pos h5]
      cases hp : getO e.post b with
      | some v => rfl
      | none =>
        simp only
        cases hg : getL e.pre b with
        | some v => rw [hin b v hg]
        | none =>
          by_cases hlt : b < m.next
          · refine absurd ⟨hlt, ?_⟩ hb
            rw [Frz.M_get, hg]; split <;> rfl
          · exact Mem.get_ge (by omega)
    · rw [if_neg h5, if_neg h5]
theorem frzH_ok {P : Program} {f : FuncId} {X : List AV → Mem → R} (hX : ∀ args m r m', X args m = some (r, m') → FnOk P (.fn f) args m r m') : ∀ {l : List Frz}, (∀ e ∈ l, FnOk P (.fn f) e.args e.M e.r e.M2 ∧ (∀ x ∈ e.pre, x.1 < e.next) ∧ ∀ x ∈ e.post, e.next ≤ x.1 ∨ hasK e.pre x.1 = true) →
    ∀ args m r m', frzH l X args m = some (r, m') → FnOk P (.fn f) args m r m'
  | [], _, args, m, r, m', h => hX args m r m' h
  | e :: l, hl, args, m, r, m', h => by
    have hu : frzH (e :: l) X args m = Bool.rec (motive := fun _ => R) (frzH l X args m) (some (e.out m)) (e.fits args m) := rfl
    rw [hu] at h
    cases hf : e.fits args m with
    | true =>
      rw [hf] at h
      cases h
      exact Frz.out_ok (hl e List.mem_cons_self) hf
    | false =>
      rw [hf] at h
      exact frzH_ok hX (fun x hx => hl x (List.mem_cons_of_mem _ hx)) args m r m' h
theorem EnvOk.hookN {E : Env} (hE : EnvOk E) (f : FuncId) {h : List AV → Mem → R} (hh : ∀ args m r m', h args m = some (r, m') → FnOk E.P (.fn f) args m r m') : EnvOk { E with H := Abs.hookAt f h E.H } where
  mixed := hE.mixed
  body := fun x hx rs nt c hB => by
    by_cases e : x = f
    · subst e
      have := hookAt_same x h E.H
      rw [show Abs.hookAt x h E.H x = none from hx] at this; cases this
    · exact hE.body x ((hookAt_other e h E.H).symm.trans hx) rs nt c hB
  hook := fun x g hx => by
    by_cases e : x = f
    · subst e
      have := hookAt_same x h E.H
      rw [show Abs.hookAt x h E.H x = some g from hx] at this
      cases this
      exact hh
    · exact hE.hook x g ((hookAt_other e h E.H).symm.trans hx)
/-- Blocks, when some have changed. -/
noncomputable def upd (l : List (Nat × Blk)) (p : List (Nat × Option Blk)) : List (Nat × Blk) := List.rec (motive := fun _ => List (Nat × Blk)) (List.rec (motive := fun _ => List (Nat × Blk)) [] (fun x _ ih => Option.rec (motive := fun _ => List (Nat × Blk)) ih (fun v => (x.1, v) :: ih) x.2) p) (fun x _ ih => Bool.rec (motive := fun _ => List (Nat × Blk)) (x :: ih) ih (hasO p x.1)) l
/-- Bytes. -/
def b8 (l : List Nat) : List AV := l.map fun n => .int .u8 (.ofNat n)
end Go.Abs
