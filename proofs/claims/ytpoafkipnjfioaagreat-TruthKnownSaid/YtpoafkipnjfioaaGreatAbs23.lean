/- What a law's arguments read, in the abstract memory of the world where it is called. -/
import Derived.Test.YtpoafkipnjfioaaGreatAbs22
import Derived.Deep.Slices
import Derived.DataReads
namespace Go.Abs
open Go

section
variable {P : Program} {W : World} {H : Type} {enc : TypeId × Value → H} {t e : TypeId} {v : Value} {base : Nat}

theorem arg_int {k : IntKind} (ht : P.underlying t = some (.int k)) (h : Value.okWide P W .any base t v) : ∃ n, v = .int k n ∧ k.min ≤ n ∧ n ≤ k.max := by
  unfold Value.okWide at h
  simp only [ht] at h
  unfold Cell.okWide at h
  simp only [ht] at h
  unfold Cell.ok at h
  simp only [ht] at h
  cases v <;> simp only at h <;> first | exact h.elim | skip
  obtain ⟨rfl, h⟩ := h
  exact ⟨_, rfl, h⟩

theorem trod_int {k : IntKind} {b : Nat} {sp : Nat → Bool} {held : Bool} {m : Nat} {V : Value} {x : DataW H × List MemPlace} (ht : P.underlying t = some (.int k))
    (h : DataW.trod enc P W b sp held m t [V] = some x) : ∃ n, V = .int k n ∧ k.min ≤ n ∧ n ≤ k.max := by
  cases m with
  | zero => simp [DataW.trod] at h
  | succ m =>
    simp only [DataW.trod, ht] at h
    cases V <;> simp only at h <;> first | (cases h; done) | skip
    split at h
    · rename_i h1
      obtain ⟨rfl, h1⟩ := h1
      simp only [Lit.wf, Bool.and_eq_true, decide_eq_true_eq] at h1
      exact ⟨_, rfl, h1⟩
    · cases h
theorem trod_bool {b : Nat} {sp : Nat → Bool} {held : Bool} {m : Nat} {V : Value} {x : DataW H × List MemPlace} (ht : P.underlying t = some .bool)
    (h : DataW.trod enc P W b sp held m t [V] = some x) : ∃ n, V = .bool n := by
  cases m with
  | zero => simp [DataW.trod] at h
  | succ m =>
    simp only [DataW.trod, ht] at h
    cases V <;> simp only at h <;> first | (cases h; done) | skip
    exact ⟨_, rfl⟩
theorem mapM_mem {α β : Type} {f : α → Option β} : ∀ {l : List α} {r : List β}, l.mapM f = some r → ∀ x ∈ l, ∃ y, f x = some y := by
  intro l r h x hx
  obtain ⟨i, hi, rfl⟩ := List.mem_iff_getElem.1 hx
  have h1 := mapM_some_get h i l[i] (by simp)
  have h2 := mapM_some_length h
  rw [List.getElem?_eq_getElem (by omega)] at h1
  exact ⟨_, h1⟩
theorem trod_struct {fs : Array Field} {b : Nat} {sp : Nat → Bool} {held : Bool} {m : Nat} {cs : List Value} {x : DataW H × List MemPlace} (ht : P.underlying t = some (.struct fs))
    (h : DataW.trod enc P W b sp held m t cs = some x) :
    ∃ m', cs.length = P.cellsOf t ∧ ∀ f ∈ fs.toList, ∃ y, DataW.trod enc P W b sp held m' f.type ((cs.drop f.offset).take (P.cellsOf f.type)) = some y := by
  cases m with
  | zero => simp [DataW.trod] at h
  | succ m =>
    simp only [DataW.trod, ht] at h
    split at h
    · rename_i h1
      obtain ⟨r, h2, _⟩ := Option.map_eq_some_iff.1 h
      exact ⟨m, h1, fun f hf => mapM_mem h2 f hf⟩
    · cases h

theorem add_flat {a : Addr} (h : a.spot = none) (n : Nat) : a.add n = ⟨a.block, a.off + n, none⟩ := by
  unfold Addr.add
  split
  · rename_i e; subst e; cases a; simp_all
  · rfl

theorem arg_slice {d : DataW H} {p : List MemPlace} (ht : P.underlying t = some (.slice e)) (h : Value.okWide P W .any base t v) (hr : DataW.Trod enc P W 0 (fun _ => true) true t v d p) :
    absV W v = .sl none 0 0 0 true ∨
    ∃ (a : AA) (len cap : Nat) (cs : List Value), absV W v = .sl (some a) 0 len cap true ∧ len ≤ cap ∧ (absM W).get a.b = some (.cells (cs.map (absP W)) true) ∧
      ∃ m, ∀ i, i < cap → ((cs.drop (a.o + i * P.cellsOf e)).take (P.cellsOf e)).length = P.cellsOf e ∧
        ∃ y, DataW.trod enc P W 0 (fun _ => true) true m e ((cs.drop (a.o + i * P.cellsOf e)).take (P.cellsOf e)) = some y := by
  unfold Value.okWide at h
  simp only [ht] at h
  unfold Cell.okWide at h
  simp only [ht] at h
  unfold Cell.ok at h
  simp only [ht] at h
  obtain ⟨fuel, hr⟩ := hr
  cases v <;> first | exact False.elim h | skip
  rename_i a len cap
  cases a with
  | none =>
    left
    cases len with
    | zero => cases cap with
      | zero => rfl
      | succ n => exact False.elim h
    | succ n => exact False.elim h
  | some a =>
    right
    simp only at h
    obtain ⟨h1, h2, _, h3, row, n, h4, h5⟩ := h
    unfold World.shape? at h4
    split at h4
    · rename_i c el fr hc
      rcases Go.Deep.open_slice ht hr with ⟨h6, _⟩ | ⟨a', len', cap', mm, n', D, Pl, h6, _, _, _, h7, _, h8⟩
      · simp [Value.cells] at h6
      · simp only [Value.cells, List.cons.injEq, and_true] at h6
        injection h6 with e1 e2 e3
        cases e1; subst e2; subst e3
        refine ⟨⟨a.block, a.off⟩, len, cap, c.toList, ?_, h1, ?_, n', fun i hi => ?_⟩
        · simp [absV, absP, h3, isCells, hc, h1]
        · rw [absM_get, absBlk, hc]
        · obtain ⟨cs', h9, h10⟩ := h8 i (by rw [h7]; simpa using hi)
          obtain ⟨_, h11, h12⟩ := World.cells?_some h9
          have : (c.toList.drop (a.off + i * P.cellsOf e)).take (P.cellsOf e) = cs' := by
            apply List.ext_getElem?
            intro j
            rw [List.getElem?_take, List.getElem?_drop]
            split
            · rename_i hj
              rw [← h12 j hj]
              rw [add_flat h3, add_flat rfl]
              simp [World.cell?, hc]
            · rw [List.getElem?_eq_none (by omega)]
          simp only
          rw [this]
          exact ⟨h11, _, h10⟩
    · cases h4

/-- A slice of whole numbers. -/
theorem arg_ints {k : IntKind} {d : DataW H} {p : List MemPlace} (ht : P.underlying t = some (.slice e)) (he : P.underlying e = some (.int k)) (hn : P.cellsOf e = 1) (h : Value.okWide P W .any base t v)
    (hr : DataW.Trod enc P W 0 (fun _ => true) true t v d p) : ∃ xs : List Int, (Sl (absM W) (absV W v) (xs.map (AV.int k)) ∨ xs = [] ∧ ∃ a cap, absV W v = .sl (some a) 0 0 cap true) ∧ ∀ x ∈ xs, k.min ≤ x ∧ x ≤ k.max := by
  rcases arg_slice ht h hr with h | ⟨a, len, cap, cs, h1, h2, h3, m, h4⟩
  · exact ⟨[], .inl (.inl ⟨_, _, h, rfl⟩), by simp⟩
  · rw [hn] at h4
    have h5 : ∀ i, i < len → ∃ n : Int, cs[a.o + i]? = some (.int k n) ∧ k.min ≤ n ∧ n ≤ k.max := by
      intro i hi
      obtain ⟨h6, y, h7⟩ := h4 i (by omega)
      rw [Nat.mul_one] at h6 h7
      have h8 : a.o + i < cs.length := by simp at h6; omega
      have h9 : (cs.drop (a.o + i)).take 1 = [cs[a.o + i]] := by rw [List.drop_eq_getElem_cons h8]; rfl
      rw [h9] at h7
      obtain ⟨n, h10, h11⟩ := trod_int he h7
      exact ⟨n, by rw [List.getElem?_eq_getElem h8, h10], h11⟩
    obtain ⟨f, hf⟩ := Go.Deep.choose_lt h5
    by_cases h0 : len = 0
    · subst h0; exact ⟨[], .inr ⟨rfl, a, cap, h1⟩, by simp⟩
    refine ⟨(List.range len).map f, .inl <| .inr ⟨a, 0, cap, true, cs.map (absP W), true, ?_, .inr rfl, ?_, h3, ?_, ?_⟩, ?_⟩
    · simpa using h1
    · simpa using h2
    · simp only [List.length_map, List.length_range]
      have := (hf (len - 1) (by omega)).1
      have := (List.getElem?_eq_some_iff.1 this).1
      omega
    · apply List.ext_getElem?
      intro i
      simp only [List.length_map, List.length_range]
      rw [List.getElem?_take, List.getElem?_drop]
      split
      · rename_i hi
        simp [List.getElem?_map, (hf i hi).1, List.getElem?_range hi, absP]
      · rename_i hi
        rw [List.getElem?_eq_none (by simp; omega)]
    · intro x hx
      obtain ⟨i, hi, rfl⟩ := List.mem_map.1 hx
      exact (hf i (List.mem_range.1 hi)).2
end
/-- Arguments, one by one. -/
theorem argAll_cons {P : Program} {W : World} {H : Type} {enc : TypeId × Value → H} {b : Nat} {sp : Nat → Bool} {held : Bool} {t : TypeId} {ts : List TypeId} {vs : List Value} {ds : List (DataW H)} {ps : List MemPlace}
    (h : DataW.TrodAll enc P W b sp held (t :: ts) vs ds ps) : ∃ v vs' d ds' p p', vs = v :: vs' ∧ ds = d :: ds' ∧ DataW.Trod enc P W b sp held t v d p ∧ DataW.TrodAll enc P W b sp held ts vs' ds' p' := by
  match vs, ds, h with
  | v :: vs, d :: ds, ⟨p, q, h1, h2, _⟩ => exact ⟨v, vs, d, ds, p, q, rfl, rfl, h1, h2⟩
theorem argAll_nil {P : Program} {W : World} {H : Type} {enc : TypeId × Value → H} {b : Nat} {sp : Nat → Bool} {held : Bool} {vs : List Value} {ds : List (DataW H)} {ps : List MemPlace}
    (h : DataW.TrodAll enc P W b sp held [] vs ds ps) : vs = [] ∧ ds = [] := by
  match vs, ds, h with
  | [], [], _ => exact ⟨rfl, rfl⟩
end Go.Abs
