/- Texts of one claim, put together. -/
import Derived.Test.YtolmealocdgdhaaGreatK14
import Derived.Stop.Joined
section
namespace Go.Abs
open Go
section
variable {P : Program} {W : World} {H : Type} {enc : TypeId × Value → H} {t e : TypeId} {v : Value} {base : Nat}
theorem weights_all : ∀ {l : List (DataW H)} {y : DataW H}, y ∈ l → ∀ k, k ∈ y.weights P e → k ∈ DataW.weightsAll P e l
  | a :: l, y, hy, k, hk => by
    simp only [DataW.weightsAll, List.mem_append]
    rcases List.mem_cons.1 hy with rfl | hy
    · exact .inl hk
    · exact .inr (weights_all hy k hk)
theorem weights_slice (ht : P.underlying t = some (.slice e)) {l s : List (DataW H)} {y : DataW H} (hy : y ∈ l) : ∀ k, k ∈ y.weights P e → k ∈ (DataW.slice l s).weights P t := fun k hk => by
  simp only [DataW.weights, ht, List.mem_cons, List.mem_append]
  exact .inr (.inl (weights_all hy k hk))
theorem trod_string {b : Nat} {sp : Nat → Bool} {held : Bool} {m : Nat} {V : Value} {x : DataW H × List MemPlace} (ht : P.underlying t = some .string)
    (h : DataW.trod enc P W b sp held m t [V] = some x) : ∃ s : ByteArray, V = .string s ∧ s.data.toList.length ∈ x.1.weights P t := by
  cases m with
  | zero => simp [DataW.trod] at h
  | succ m =>
    simp only [DataW.trod, ht] at h
    cases V <;> simp only at h <;> first | (cases h; done) | skip
    split at h
    · cases h
      exact ⟨_, rfl, by simp [DataW.weights]⟩
    · cases h
theorem weights_each {b : Nat} {sp : Nat → Bool} {held : Bool} {m : Nat} {cs : List Value} : ∀ {l : List Field} {r : List (DataW H × List MemPlace)}, (l.mapM fun f => DataW.trod enc P W b sp held m f.type ((cs.drop f.offset).take (P.cellsOf f.type))) = some r →
    ∀ f ∈ l, ∃ y, DataW.trod enc P W b sp held m f.type ((cs.drop f.offset).take (P.cellsOf f.type)) = some y ∧ ∀ k, k ∈ y.1.weights P f.type → k ∈ DataW.weightsEach P (l.map (·.type)) (r.map (·.1))
  | a :: l, r, h, f, hf => by
    rw [List.mapM_cons] at h
    obtain ⟨y, h1, h2⟩ := Option.bind_eq_some_iff.1 h
    obtain ⟨r', h3, h4⟩ := Option.bind_eq_some_iff.1 h2
    cases h4
    simp only [List.map_cons, DataW.weightsEach, List.mem_append]
    rcases List.mem_cons.1 hf with rfl | hf
    · exact ⟨y, h1, fun k hk => .inl hk⟩
    · obtain ⟨y', e1, e2⟩ := weights_each h3 f hf
      exact ⟨y', e1, fun k hk => .inr (e2 k hk)⟩
theorem trod_structW {fs : Array Field} {b : Nat} {sp : Nat → Bool} {held : Bool} {m : Nat} {cs : List Value} {x : DataW H × List MemPlace} (ht : P.underlying t = some (.struct fs))
    (h : DataW.trod enc P W b sp held m t cs = some x) :
    ∃ m', cs.length = P.cellsOf t ∧ ∀ f ∈ fs.toList, ∃ y, DataW.trod enc P W b sp held m' f.type ((cs.drop f.offset).take (P.cellsOf f.type)) = some y ∧ ∀ k, k ∈ y.1.weights P f.type → k ∈ x.1.weights P t := by
  cases m with
  | zero => simp [DataW.trod] at h
  | succ m =>
    simp only [DataW.trod, ht] at h
    split at h
    · rename_i h1
      obtain ⟨r, h2, rfl⟩ := Option.map_eq_some_iff.1 h
      refine ⟨m, h1, fun f hf => ?_⟩
      obtain ⟨y, e1, e2⟩ := weights_each h2 f hf
      exact ⟨y, e1, fun k hk => by simp only [DataW.weights, ht]; exact e2 k hk⟩
    · cases h
theorem rowAt_off {fits : TypeId → Bool} : ∀ {d : Nat} {e : TypeId} {count off n : Nat}, rowAt P fits d e count off n = true → off ≤ count * P.cellsOf e
  | 0, e, count, off, n, h => by simp [rowAt] at h
  | d + 1, e, count, off, n, h => by
    unfold rowAt at h
    simp only at h
    split at h
    · cases h
    · have hm := Nat.div_add_mod off (P.cellsOf e)
      have hl := Nat.mod_lt off (Nat.pos_of_ne_zero ‹_›)
      rw [Bool.or_eq_true] at h
      rcases h with h | h
      · simp only [Bool.and_eq_true, beq_iff_eq, decide_eq_true_eq] at h
        have h2 : P.cellsOf e * (off / P.cellsOf e) ≤ P.cellsOf e * count := Nat.mul_le_mul_left _ (by omega)
        rw [Nat.mul_comm count]; omega
      · rw [Bool.and_eq_true, decide_eq_true_eq] at h
        have h2 : P.cellsOf e * (off / P.cellsOf e + 1) ≤ P.cellsOf e * count := Nat.mul_le_mul_left _ h.1
        rw [Nat.mul_succ] at h2
        rw [Nat.mul_comm count]; omega
theorem liesAt_off : ∀ {d : Nat} {e : TypeId} {count off : Nat} {u : TypeId} {n : Nat}, liesAt P d e count off u n = true → off ≤ count * P.cellsOf e
  | 0, e, count, off, u, n, h => by simp [liesAt] at h
  | d + 1, e, count, off, u, n, h => by
    unfold liesAt at h
    rw [Bool.or_eq_true] at h
    rcases h with h | h
    · exact rowAt_off h
    · split at h
      · exact liesAt_off h
      · cases h
theorem arg_sliceW {d : DataW H} {p : List MemPlace} (ht : P.underlying t = some (.slice e)) (h : Value.okWide P W .any base t v) (hr : DataW.Trod enc P W 0 (fun _ => true) true t v d p) :
    (∃ ex, absV W v = .sl none 0 0 0 ex) ∨
    ∃ (a : AA) (len cap : Nat) (cs : List Value), absV W v = .sl (some a) 0 len cap true ∧ len ≤ cap ∧ (absM W).get a.b = some (.cells (cs.map (absP W)) true) ∧
      (∃ m, ∀ i, i < len → ((cs.drop (a.o + i * P.cellsOf e)).take (P.cellsOf e)).length = P.cellsOf e ∧
        ∃ y, DataW.trod enc P W 0 (fun _ => true) true m e ((cs.drop (a.o + i * P.cellsOf e)).take (P.cellsOf e)) = some y ∧ ∀ k, k ∈ y.1.weights P e → k ∈ d.weights P t) ∧ a.o ≤ cs.length ∧ ∃ k, k ∈ d.weights P t ∧ len * P.bytesOf e ≤ k := by
  unfold Value.okWide at h
  simp only [ht] at h
  unfold Cell.okWide at h
  simp only [ht] at h
  unfold Cell.ok at h
  simp only [ht] at h
  obtain ⟨fuel, hr⟩ := hr
  cases v <;> first | exact False.elim h | skip
  rename_i a len cap
  cases a with
  | none =>
    left
    cases len with
    | zero => cases cap with
      | zero => exact ⟨_, rfl⟩
      | succ n => exact False.elim h
    | succ n => exact False.elim h
  | some a =>
    simp only at h
    obtain ⟨h1, h2, _, h3, row, n, h4, h5⟩ := h
    by_cases h0 : cap = 0
    · subst h0
      have : len = 0 := by omega
      subst this
      exact .inl ⟨_, rfl⟩
    right
    unfold World.shape? at h4
    split at h4
    · rename_i c el fr hc
      rcases Go.Deep.open_slice ht hr with ⟨h6, _⟩ | ⟨a', len', cap', mm, n', D, Pl, h6, _, _, _, h7, hd, h8⟩
      · simp [Value.cells] at h6
      · simp only [Value.cells, List.cons.injEq, and_true] at h6
        injection h6 with e1 e2 e3
        cases e1; subst e2; subst e3
        cases hd
        cases h4
        refine ⟨⟨a.block, a.off⟩, len, cap, c.toList, ?_, h1, ?_, ⟨n', fun i hi => ?_⟩, ?_, (len + (mm - len)) * P.bytesOf e, ?_, Nat.mul_le_mul_right _ (by omega)⟩
        · simp [absV, absP, h0, h3, isCells, hc, h1]
        · rw [absM_get, absBlk, hc]
        · obtain ⟨cs', h9, h10⟩ := h8 i (by rw [h7]; simp; omega)
          obtain ⟨_, h11, h12⟩ := World.cells?_some h9
          have : (c.toList.drop (a.off + i * P.cellsOf e)).take (P.cellsOf e) = cs' := by
            apply List.ext_getElem?
            intro j
            rw [List.getElem?_take, List.getElem?_drop]
            split
            · rename_i hj
              rw [← h12 j hj]
              rw [add_flat h3, add_flat rfl]
              simp [World.cell?, hc]
            · rw [List.getElem?_eq_none (by omega)]
          simp only
          rw [this]
          exact ⟨h11, _, h10, weights_slice ht (List.mem_map.2 ⟨i, List.mem_range.2 hi, rfl⟩)⟩
        · have h9 := liesAt_off h5
          have h10 := Nat.div_mul_le_self c.size (P.cellsOf row)
          simp only [Array.length_toList]
          omega
        · simp [DataW.weights, ht]
    · cases h4
theorem arg_rowsW {α : Type} [Inhabited α] {f : α → List AV} {Q : α → Prop} {n B : Nat} (hn0 : 0 < n) {d : DataW H} {p : List MemPlace} (ht : P.underlying t = some (.slice e)) (hn : P.cellsOf e = n) (h : Value.okWide P W .any base t v) (hr : DataW.Trod enc P W 0 (fun _ => true) true t v d p)
    (hB : ∀ k, k ∈ d.weights P t → k ≤ B)
    (hel : ∀ (m : Nat) (cs : List Value) (y : DataW H × List MemPlace), cs.length = n → DataW.trod enc P W 0 (fun _ => true) true m e cs = some y → (∀ k, k ∈ y.1.weights P e → k ≤ B) → ∃ a, cs.map (absP W) = f a ∧ Q a) (hf : ∀ a, (f a).length = n ∧ (f a).all AV.one = true) :
    ∃ l : List α, ARow n (absM W) (absV W v) (l.map f) ∧ ∀ a ∈ l, Q a := by
  rcases arg_sliceW ht h hr with ⟨ex, h⟩ | ⟨a, len, cap, cs, h1, h2, h3, ⟨m, h4⟩, _⟩
  · exact ⟨[], .inl ⟨by simp, .inl ⟨rfl, _, _, _, h⟩⟩, by simp⟩
  · rw [hn] at h4
    have h5 : ∀ i, i < len → ∃ x, ((cs.drop (a.o + i * n)).take n).map (absP W) = f x ∧ Q x := fun i hi => by
      obtain ⟨h6, y, h7, h8⟩ := h4 i hi
      exact hel m _ y h6 h7 fun k hk => hB k (h8 k hk)
    obtain ⟨g, hg⟩ := Go.Deep.choose_lt h5
    by_cases h0 : len = 0
    · subst h0
      exact ⟨[], .inr ⟨rfl, some a, 0, cap, true, h1⟩, by simp⟩
    refine ⟨(List.range len).map g, .inl ⟨fun x hx => ?_, .inr ⟨a.b, a.o, 0, cap, true, true, cs.map (absP W), ?_, .inr rfl, h3, ?_, ?_⟩⟩, fun x hx => ?_⟩
    · obtain ⟨y, _, rfl⟩ := List.mem_map.1 hx
      exact hf y
    · simpa using h1
    · have h6 := (h4 (len - 1) (by omega)).1
      simp only [List.length_take, List.length_drop] at h6
      simp only [List.length_map, List.length_range]
      have e : len * n = (len - 1) * n + n := by rw [← Nat.succ_mul]; congr 1; omega
      omega
    · rw [List.length_map, List.length_map, List.length_range, List.map_map]
      have := rows_of (cs := cs.map (absP W)) (o := a.o) (n := n) (fun i => f (g i)) len fun i hi => by
        rw [← List.map_drop, ← List.map_take]; exact (hg i hi).1
      exact this
    · obtain ⟨i, hi, rfl⟩ := List.mem_map.1 hx
      exact (hg i (List.mem_range.1 hi)).2
theorem arg_rowsV {α : Type} [Inhabited α] {f : α → List AV} {Q : α → Prop} {n B : Nat} (hn0 : 0 < n) {d : DataW H} {p : List MemPlace} (ht : P.underlying t = some (.slice e)) (hn : P.cellsOf e = n) (h : Value.okWide P W .any base t v) (hr : DataW.Trod enc P W 0 (fun _ => true) true t v d p)
    (hB : ∀ k, k ∈ d.weights P t → k ≤ B)
    (hel : ∀ (m : Nat) (cs : List Value) (y : DataW H × List MemPlace), cs.length = n → DataW.trod enc P W 0 (fun _ => true) true m e cs = some y → (∀ k, k ∈ y.1.weights P e → k ≤ B) → ∃ a, cs.map (absP W) = f a ∧ Q a) (hf : ∀ a, (f a).length = n ∧ (f a).all AV.one = true) :
    ∃ l : List α, VRow n (absM W) (absV W v) (l.map f) ∧ (∀ a ∈ l, Q a) ∧ l.length * P.bytesOf e ≤ B := by
  rcases arg_sliceW ht h hr with ⟨ex, h⟩ | ⟨a, len, cap, cs, h1, h2, h3, ⟨m, h4⟩, ho, k, hk1, hk2⟩
  · exact ⟨[], ⟨by simp, .inl ⟨rfl, _, _, _, h⟩⟩, by simp, by simp⟩
  · rw [hn] at h4
    have h5 : ∀ i, i < len → ∃ x, ((cs.drop (a.o + i * n)).take n).map (absP W) = f x ∧ Q x := fun i hi => by
      obtain ⟨h6, y, h7, h8⟩ := h4 i hi
      exact hel m _ y h6 h7 fun k hk => hB k (h8 k hk)
    obtain ⟨g, hg⟩ := Go.Deep.choose_lt h5
    refine ⟨(List.range len).map g, ⟨fun x hx => ?_, .inr ⟨a.b, a.o, 0, cap, true, true, cs.map (absP W), ?_, .inr rfl, h3, ?_, ?_⟩⟩, fun x hx => ?_, by rw [List.length_map, List.length_range]; exact Nat.le_trans hk2 (hB k hk1)⟩
    · obtain ⟨y, _, rfl⟩ := List.mem_map.1 hx
      exact hf y
    · simpa using h1
    · by_cases h0 : len = 0
      · subst h0; simpa using ho
      have h6 := (h4 (len - 1) (by omega)).1
      simp only [List.length_take, List.length_drop] at h6
      simp only [List.length_map, List.length_range]
      have e : len * n = (len - 1) * n + n := by rw [← Nat.succ_mul]; congr 1; omega
      omega
    · rw [List.length_map, List.length_map, List.length_range, List.map_map]
      have := rows_of (cs := cs.map (absP W)) (o := a.o) (n := n) (fun i => f (g i)) len fun i hi => by
        rw [← List.map_drop, ← List.map_take]; exact (hg i hi).1
      exact this
    · obtain ⟨i, hi, rfl⟩ := List.mem_map.1 hx
      exact (hg i (List.mem_range.1 hi)).2
end
end Go.Abs
end
section
namespace Go.Abs
open Go
section
variable {P : Program} {W : World} {H : Type} {enc : TypeId × Value → H} {t e u : TypeId} {base B m : Nat} {fs : Array Field} {cs : List Value}
def Rd (enc : TypeId × Value → H) (P : Program) (W : World) (B m : Nat) (fs : Array Field) (cs : List Value) : Prop :=
  ∀ f ∈ fs.toList, ∃ y, DataW.trod enc P W 0 (fun _ => true) true m f.type ((cs.drop f.offset).take (P.cellsOf f.type)) = some y ∧ ∀ k, k ∈ y.1.weights P f.type → k ≤ B
theorem Rd.of {x : DataW H × List MemPlace} (ht : P.underlying t = some (.struct fs)) (h : DataW.trod enc P W 0 (fun _ => true) true m t cs = some x) (hB : ∀ k, k ∈ x.1.weights P t → k ≤ B) : ∃ m', cs.length = P.cellsOf t ∧ Rd enc P W B m' fs cs := by
  obtain ⟨m', h1, h2⟩ := trod_structW ht h
  exact ⟨m', h1, fun f hf => let ⟨y, a, b⟩ := h2 f hf; ⟨y, a, fun k hk => hB k (b k hk)⟩⟩
theorem cell1 {o : Nat} (h : o < cs.length) : (cs.drop o).take 1 = [cs[o]] := by rw [List.drop_eq_getElem_cons h, List.take_succ_cons, List.take_zero]
theorem Rd.int (h : Rd enc P W B m fs cs) {o : Nat} {k : IntKind} (hg : ∃ g ∈ fs.toList, g.offset = o ∧ P.underlying g.type = some (.int k) ∧ P.cellsOf g.type = 1) (ho : o < cs.length) : ∃ n, cs[o]? = some (.int k n) ∧ k.min ≤ n ∧ n ≤ k.max := by
  obtain ⟨g, g1, rfl, g3, g4⟩ := hg
  obtain ⟨y, hy, _⟩ := h g g1
  rw [g4, cell1 ho] at hy
  obtain ⟨n, r1, r2, r3⟩ := trod_int g3 hy
  exact ⟨n, by rw [List.getElem?_eq_getElem ho, r1], r2, r3⟩
theorem Rd.str (h : Rd enc P W B m fs cs) {o : Nat} (hg : ∃ g ∈ fs.toList, g.offset = o ∧ P.underlying g.type = some .string ∧ P.cellsOf g.type = 1) (ho : o < cs.length) : ∃ s : ByteArray, cs[o]? = some (.string s) ∧ s.data.toList.length ≤ B := by
  obtain ⟨g, g1, rfl, g3, g4⟩ := hg
  obtain ⟨y, hy, hB⟩ := h g g1
  rw [g4, cell1 ho] at hy
  obtain ⟨s, r1, r2⟩ := trod_string g3 hy
  exact ⟨s, by rw [List.getElem?_eq_getElem ho, r1], hB _ r2⟩
theorem Rd.sub (h : Rd enc P W B m fs cs) {o n : Nat} {gs : Array Field} (hg : ∃ g ∈ fs.toList, g.offset = o ∧ P.underlying g.type = some (.struct gs) ∧ P.cellsOf g.type = n) : ∃ m', Rd enc P W B m' gs ((cs.drop o).take n) := by
  obtain ⟨g, g1, rfl, g3, rfl⟩ := hg
  obtain ⟨y, hy, hB⟩ := h g g1
  obtain ⟨m', _, r⟩ := Rd.of g3 hy hB
  exact ⟨m', r⟩
theorem Rd.wide (h : Rd enc P W B m fs cs) {o : Nat} {gs : Array Field} (hg : ∃ g ∈ fs.toList, g.offset = o ∧ P.underlying g.type = some (.struct gs) ∧ P.cellsOf g.type = 2)
    (h0 : ∃ g ∈ gs.toList, g.offset = 0 ∧ P.underlying g.type = some (.int .i64) ∧ P.cellsOf g.type = 1) (h1 : ∃ g ∈ gs.toList, g.offset = 1 ∧ P.underlying g.type = some (.int .u64) ∧ P.cellsOf g.type = 1) (ho : o + 2 ≤ cs.length) :
    ∃ w : Wd, w.ok ∧ cs[o]? = some (.int .i64 w.hi) ∧ cs[o + 1]? = some (.int .u64 w.lo) := by
  obtain ⟨m', r⟩ := h.sub hg
  have hl : ((cs.drop o).take 2).length = 2 := by simp; omega
  obtain ⟨a, a1, a2, a3⟩ := r.int h0 (by omega)
  obtain ⟨b, b1, b2, b3⟩ := r.int h1 (by omega)
  rw [List.getElem?_take, if_pos (by omega), List.getElem?_drop] at a1 b1
  have e1 : IntKind.i64.min = -9223372036854775808 := by decide
  have e2 : IntKind.i64.max = 9223372036854775807 := by decide
  have e3 : IntKind.u64.min = 0 := by decide
  have e4 : IntKind.u64.max = 18446744073709551615 := by decide
  exact ⟨⟨a, b⟩, by unfold Wd.ok; simp only; omega, a1, b1⟩
theorem arg_bool {v : Value} (ht : P.underlying t = some .bool) (h : Value.okWide P W .any base t v) : ∃ b, v = .bool b := by
  unfold Value.okWide at h
  simp only [ht] at h
  unfold Cell.okWide at h
  simp only [ht] at h
  unfold Cell.ok at h
  simp only [ht] at h
  cases v <;> first | exact False.elim h | exact ⟨_, rfl⟩
theorem field_rows {α : Type} [Inhabited α] {f : α → List AV} {Q : α → Prop} {n : Nat} (hn0 : 0 < n) {c : Value} {y : DataW H × List MemPlace} (ht : P.underlying u = some (.slice e)) (hn : P.cellsOf e = n) (hc : Cell.okWide P W .any base u c) (hy : DataW.trod enc P W 0 (fun _ => true) true m u [c] = some y) (hB : ∀ k, k ∈ y.1.weights P u → k ≤ B)
    (hel : ∀ (m : Nat) (cs : List Value) (y : DataW H × List MemPlace), cs.length = n → DataW.trod enc P W 0 (fun _ => true) true m e cs = some y → (∀ k, k ∈ y.1.weights P e → k ≤ B) → ∃ a, cs.map (absP W) = f a ∧ Q a) (hf : ∀ a, (f a).length = n ∧ (f a).all AV.one = true) :
    ∃ l : List α, VRow n (absM W) (absP W c) (l.map f) ∧ (∀ a ∈ l, Q a) ∧ l.length * P.bytesOf e ≤ B := by
  have hv : Value.okWide P W .any base u c := by unfold Value.okWide; simp only [ht]; exact hc
  have hc1 : c.cells = #[c] ∧ absV W c = absP W c := by
    unfold Cell.okWide at hc
    simp only [ht] at hc
    unfold Cell.ok at hc
    simp only [ht] at hc
    cases c <;> first | exact False.elim hc | exact ⟨rfl, rfl⟩
  have := arg_rowsV (d := y.1) (p := y.2) hn0 ht hn hv ⟨m, by rw [hc1.1]; exact hy⟩ hB hel hf
  rwa [hc1.2] at this
end
end Go.Abs
end
section
namespace Go.Abs
open Go
def kindsB (P : Program) (fs : Array Field) (ks : List IntKind) : Bool :=
  (List.range ks.length).all fun o => fs.toList.any fun g => g.offset == o && ((match P.underlying g.type with | some (.int k) => decide (ks[o]? = some k) | _ => false) && P.cellsOf g.type == 1)
theorem kinds_of {P : Program} {fs : Array Field} {ks : List IntKind} (h : kindsB P fs ks = true) {o : Nat} (ho : o < ks.length) : ∃ g ∈ fs.toList, g.offset = o ∧ P.underlying g.type = some (.int ks[o]) ∧ P.cellsOf g.type = 1 := by
  unfold kindsB at h
  have h1 := List.all_eq_true.1 h o (List.mem_range.2 ho)
  obtain ⟨g, hg, h2⟩ := List.any_eq_true.1 h1
  simp only [Bool.and_eq_true, beq_iff_eq] at h2
  obtain ⟨h3, h4, h5⟩ := h2
  refine ⟨g, hg, h3, ?_, h5⟩
  split at h4
  · rename_i k e
    have h6 := of_decide_eq_true h4
    rw [List.getElem?_eq_getElem ho] at h6
    rw [e, ← Option.some.inj h6]
  · cases h4
theorem arg_kinds {P : Program} {W : World} {H : Type} {enc : TypeId × Value → H} {t : TypeId} {v : Value} {base : Nat} {fs : Array Field} {ks : List IntKind} {p : List MemPlace} {d : DataW H} (ht : P.underlying t = some (.struct fs)) (hb : kindsB P fs ks = true) (hn : P.cellsOf t = ks.length)
    (h : Value.okWide P W .any base t v) (hr : DataW.Trod enc P W 0 (fun _ => true) true t v d p) : ∃ ns : List Int, ns.length = ks.length ∧ absV W v = .agg (List.zipWith AV.int ks ns) := by
  unfold Value.okWide at h
  simp only [ht] at h
  obtain ⟨cs, rfl, hsz, _⟩ := h
  obtain ⟨fuel, hr⟩ := hr
  obtain ⟨m', hl, hel⟩ := trod_struct ht hr
  simp only [Value.cells] at hl hel
  have h1 : ∀ o (ho : o < ks.length), ∃ n : Int, cs.toList[o]? = some (.int ks[o] n) := fun o ho => by
    obtain ⟨g, hg, rfl, g2, g3⟩ := kinds_of hb ho
    obtain ⟨y, hy⟩ := hel g hg
    rw [g3, List.drop_eq_getElem_cons (show g.offset < cs.toList.length by omega), List.take_succ_cons, List.take_zero] at hy
    obtain ⟨n, e, _⟩ := trod_int g2 hy
    exact ⟨n, by rw [List.getElem?_eq_getElem (by omega), e]⟩
  have h2 : ∀ o, o < ks.length → ∃ n : Int, ∀ ho : o < ks.length, cs.toList[o]? = some (.int ks[o] n) := fun o ho => by
    obtain ⟨n, e⟩ := h1 o ho
    exact ⟨n, fun _ => e⟩
  obtain ⟨g, hg⟩ := Go.Deep.choose_lt h2
  refine ⟨(List.range ks.length).map g, by simp, ?_⟩
  show AV.agg (cs.toList.map (absP W)) = _
  congr 1
  apply List.ext_getElem?
  intro o
  rw [List.getElem?_map, List.getElem?_zipWith, List.getElem?_map]
  by_cases ho : o < ks.length
  · rw [hg o ho ho, List.getElem?_eq_getElem ho, List.getElem?_range ho]; rfl
  · rw [List.getElem?_eq_none (by omega), List.getElem?_eq_none (by omega)]; rfl
end Go.Abs
end
section
namespace Go.Abs
open Go
section
variable {P : Program} {W : World} {H : Type} {enc : TypeId × Value → H} {t e : TypeId} {v : Value} {m B : Nat}
theorem absP_nil (W : World) : absP W (.slice none 0 0) = .sl none 0 0 0 true := rfl
theorem absP_zero (W : World) (a : Addr) : absP W (.slice (some a) 0 0) = .sl none 0 0 0 false := rfl
theorem trod_slice0 (ht : P.underlying t = some (.slice e)) (he : 0 < P.cellsOf e) {y : DataW H × List MemPlace} (h : DataW.trod enc P W 0 (fun _ => true) true m t [v] = some y) :
    (∃ ex, absP W v = .sl none 0 0 0 ex) ∨
    ∃ (a : AA) (len cap n : Nat) (cs : List Value), absP W v = .sl (some a) 0 len cap true ∧ len ≤ cap ∧ (absM W).get a.b = some (.cells (cs.map (absP W)) true) ∧
      (∀ i, i < len → ((cs.drop (a.o + i * P.cellsOf e)).take (P.cellsOf e)).length = P.cellsOf e ∧
        ∃ z, DataW.trod enc P W 0 (fun _ => true) true n e ((cs.drop (a.o + i * P.cellsOf e)).take (P.cellsOf e)) = some z ∧ ∀ k, k ∈ z.1.weights P e → k ∈ y.1.weights P t) ∧ a.o ≤ cs.length ∧ ∃ k, k ∈ y.1.weights P t ∧ len * P.bytesOf e ≤ k := by
  rcases Go.Deep.open_slice ht h with ⟨h6, _⟩ | ⟨a, len, cap, mm, n', D, Pl, h6, _, hlc, _, h7, hd, h8⟩
  · simp only [List.cons.injEq, and_true] at h6
    subst h6
    exact .inl ⟨_, rfl⟩
  · simp only [List.cons.injEq, and_true] at h6
    subst h6
    simp only [if_true] at h7
    by_cases h0 : cap = 0
    · subst h0
      have : len = 0 := by omega
      subst this
      exact .inl ⟨_, rfl⟩
    · right
      obtain ⟨c0, g1, _⟩ := h8 0 (by omega)
      obtain ⟨_, g2, g3⟩ := World.cells?_some g1
      have g4 := g3 0 he
      rw [Nat.zero_mul] at g4
      have ea : (a.add 0).add 0 = a := rfl
      rw [ea, List.getElem?_eq_getElem (by omega)] at g4
      unfold World.cell? at g4
      split at g4
      · rename_i c el fr hc
        split at g4
        · cases g4
        · rename_i hs
          have hsp : a.spot = none := by cases hq : a.spot with | none => rfl | some _ => rw [hq] at hs; simp at hs
          have hoff : a.off < c.size := (Array.getElem?_eq_some_iff.1 g4).1
          refine ⟨⟨a.block, a.off⟩, len, cap, n', c.toList, ?_, hlc, ?_, fun i hi => ?_, ?_, (len + (mm - len)) * P.bytesOf e, ?_, Nat.mul_le_mul_right _ (by omega)⟩
          · simp [absP, h0, hsp, isCells, hc, hlc]
          · rw [absM_get, absBlk, hc]
          · obtain ⟨cs', h9, h10⟩ := h8 i (by omega)
            obtain ⟨_, h11, h12⟩ := World.cells?_some h9
            have hcs : (c.toList.drop (a.off + i * P.cellsOf e)).take (P.cellsOf e) = cs' := by
              apply List.ext_getElem?
              intro j
              rw [List.getElem?_take, List.getElem?_drop]
              split
              · rename_i hj
                rw [← h12 j hj]
                rw [add_flat hsp, add_flat rfl]
                simp [World.cell?, hc]
              · rw [List.getElem?_eq_none (by omega)]
            simp only
            rw [hcs]
            refine ⟨h11, _, h10, ?_⟩
            subst hd
            exact weights_slice ht (List.mem_map.2 ⟨i, List.mem_range.2 hi, rfl⟩)
          · simp only [Array.length_toList]; omega
          · subst hd
            simp [DataW.weights, ht]
      · cases g4
theorem trod_rows {α : Type} [Inhabited α] {f : α → List AV} {Q : α → Prop} {n : Nat} (hn0 : 0 < n) (ht : P.underlying t = some (.slice e)) (hn : P.cellsOf e = n) {y : DataW H × List MemPlace} (h : DataW.trod enc P W 0 (fun _ => true) true m t [v] = some y)
    (hB : ∀ k, k ∈ y.1.weights P t → k ≤ B)
    (hel : ∀ (m : Nat) (cs : List Value) (y : DataW H × List MemPlace), cs.length = n → DataW.trod enc P W 0 (fun _ => true) true m e cs = some y → (∀ k, k ∈ y.1.weights P e → k ≤ B) → ∃ a, cs.map (absP W) = f a ∧ Q a) (hf : ∀ a, Q a → (f a).length = n ∧ (f a).all AV.one = true) :
    ∃ l : List α, VRow n (absM W) (absP W v) (l.map f) ∧ (∀ a ∈ l, Q a) ∧ l.length * P.bytesOf e ≤ B := by
  rcases trod_slice0 ht (by omega) h with ⟨ex, h⟩ | ⟨a, len, cap, m', cs, h1, h2, h3, h4, ho, k, hk1, hk2⟩
  · exact ⟨[], ⟨by simp, .inl ⟨rfl, _, _, _, h⟩⟩, by simp, by simp⟩
  · rw [hn] at h4
    have h5 : ∀ i, i < len → ∃ x, ((cs.drop (a.o + i * n)).take n).map (absP W) = f x ∧ Q x := fun i hi => by
      obtain ⟨h6, y, h7, h8⟩ := h4 i hi
      exact hel _ _ y h6 h7 fun k hk => hB k (h8 k hk)
    obtain ⟨g, hg⟩ := Go.Deep.choose_lt h5
    refine ⟨(List.range len).map g, ⟨fun x hx => ?_, .inr ⟨a.b, a.o, 0, cap, true, true, cs.map (absP W), ?_, .inr rfl, h3, ?_, ?_⟩⟩, fun x hx => ?_, by rw [List.length_map, List.length_range]; exact Nat.le_trans hk2 (hB k hk1)⟩
    · obtain ⟨y, hy, rfl⟩ := List.mem_map.1 hx
      obtain ⟨i, hi, rfl⟩ := List.mem_map.1 hy
      exact hf _ (hg i (List.mem_range.1 hi)).2
    · simpa using h1
    · by_cases h0 : len = 0
      · subst h0; simpa using ho
      have h6 := (h4 (len - 1) (by omega)).1
      simp only [List.length_take, List.length_drop] at h6
      simp only [List.length_map, List.length_range]
      have e : len * n = (len - 1) * n + n := by rw [← Nat.succ_mul]; congr 1; omega
      omega
    · rw [List.length_map, List.length_map, List.length_range, List.map_map]
      have := rows_of (cs := cs.map (absP W)) (o := a.o) (n := n) (fun i => f (g i)) len fun i hi => by
        rw [← List.map_drop, ← List.map_take]; exact (hg i hi).1
      exact this
    · obtain ⟨i, hi, rfl⟩ := List.mem_map.1 hx
      exact (hg i (List.mem_range.1 hi)).2
theorem arg_sl {base : Nat} {p : List MemPlace} {d : DataW H} (ht : P.underlying t = some (.slice e)) (hk : Value.okWide P W .any base t v) (h : DataW.Trod enc P W 0 (fun _ => true) true t v d p) : ∃ m, DataW.trod enc P W 0 (fun _ => true) true m t [v] = some (d, p) ∧ absV W v = absP W v := by
  obtain ⟨m, h⟩ := h
  have hc1 : v.cells = #[v] ∧ absV W v = absP W v := by
    unfold Value.okWide at hk
    simp only [ht] at hk
    unfold Cell.okWide at hk
    simp only [ht] at hk
    unfold Cell.ok at hk
    simp only [ht] at hk
    cases v <;> first | exact False.elim hk | exact ⟨rfl, rfl⟩
  exact ⟨m, by rw [hc1.1] at h; exact h, hc1.2⟩
end
abbrev u8 (l : List UInt8) : List AV := l.map fun c => AV.int .u8 c.toNat
abbrev rows1 (l : List AV) : List (List AV) := l.map fun x => [x]
theorem u8_of {n : Int} (h1 : 0 ≤ n) (h2 : n ≤ 255) : AV.int .u8 n = .int .u8 ((UInt8.ofNat n.toNat).toNat : Int) := by
  congr 1
  simp; omega
def Byt (m : Mem) (s : AV) (l : List UInt8) : Prop := VRow 1 m s (rows1 (u8 l))
end Go.Abs
end
section
namespace Go.Abs
open Go

abbrev mEnc (l : List (Int × AV)) : List (AV × AV) := l.map fun x => (AV.int .u64 x.1, x.2)
def lookI (k : Int) : List (Int × AV) → Option AV
  | [] => none
  | x :: l => if x.1 = k then some x.2 else lookI k l
def insI (k : Int) (v : AV) : List (Int × AV) → List (Int × AV)
  | [] => [(k, v)]
  | x :: l => if k < x.1 then (k, v) :: x :: l else x :: insI k v l
def setI (k : Int) (v : AV) (l : List (Int × AV)) : List (Int × AV) := l.map fun x => if x.1 = k then (k, v) else x
def putI (k : Int) (v : AV) (l : List (Int × AV)) : List (Int × AV) := if (lookI k l).isSome = true then setI k v l else insI k v l
theorem lookI_none {k : Int} : ∀ {l : List (Int × AV)}, lookI k l = none ↔ k ∉ l.map (·.1)
  | [] => by simp [lookI]
  | x :: l => by
    unfold lookI
    by_cases h : x.1 = k
    · simp [h]
    · rw [if_neg h, lookI_none (l := l)]
      simp only [List.map_cons, List.mem_cons, not_or]
      exact ⟨fun h' => ⟨fun e => h e.symm, h'⟩, fun h' => h'.2⟩
theorem keyEq_int (t : IntKind) (a b : Int) : keyEq (.int t) (.int .u64 a) (.int .u64 b) = some (a == b) := by simp [keyEq]
theorem mget_enc (t : IntKind) (k : Int) : ∀ {l : List (Int × AV)}, (l.map (·.1)).Nodup → mget (.int t) (.int .u64 k) (mEnc l) = some (lookI k l)
  | [], _ => rfl
  | x :: l, h => by
    rw [List.map_cons, List.nodup_cons] at h
    have ih := mget_enc t k h.2
    simp only [mEnc, List.map_cons, mget, keyEq_int] at ih ⊢
    rw [ih, show lookI k (x :: l) = if x.1 = k then some x.2 else lookI k l from rfl]
    by_cases e : x.1 = k
    · have : lookI k l = none := lookI_none.2 (by rw [← e]; exact h.1)
      simp [e, this]
    · have e' : (k == x.1) = false := by simpa using fun h => e h.symm
      rw [e', if_neg e]
theorem mset_enc (t : IntKind) (k : Int) (v : AV) (l : List (Int × AV)) : mset (.int t) (.int .u64 k) v (mEnc l) = mEnc (setI k v l) := by
  unfold mset mEnc setI
  rw [List.map_map, List.map_map]
  refine List.map_congr_left fun x _ => ?_
  simp only [Function.comp, keyEq_int]
  by_cases e : x.1 = k
  · simp [e]
  · have e' : (k == x.1) = false := by simpa using fun h => e h.symm
    simp [e, e']
theorem mins_enc (k : Int) (v : AV) : ∀ l : List (Int × AV), mins (.int .u64 k) v (mEnc l) = mEnc (insI k v l)
  | [] => rfl
  | x :: l => by
    have ih := mins_enc k v l
    show (if keyLt (.int .u64 k) (.int .u64 x.1) then (.int .u64 k, v) :: (.int .u64 x.1, x.2) :: mEnc l else (.int .u64 x.1, x.2) :: mins (.int .u64 k) v (mEnc l)) = _
    rw [ih, show insI k v (x :: l) = if k < x.1 then (k, v) :: x :: l else x :: insI k v l from rfl]
    by_cases h : k < x.1
    · rw [if_pos h, if_pos (by simpa [keyLt] using h)]; rfl
    · rw [if_neg h, if_neg (by simpa [keyLt] using h)]; rfl
theorem mput_enc (t : IntKind) (k : Int) (v : AV) {l : List (Int × AV)} (h : (l.map (·.1)).Nodup) : mput (.int t) (.int .u64 k) v (mEnc l) = some (mEnc (putI k v l)) := by
  unfold mput putI
  rw [mget_enc t k h]
  cases e : lookI k l with
  | none => simp [mins_enc]
  | some w => simp [mset_enc]
theorem insI_keys (k : Int) (v : AV) : ∀ l : List (Int × AV), ((insI k v l).map (·.1)).Perm (k :: l.map (·.1))
  | [] => .refl _
  | x :: l => by
    unfold insI
    split
    · exact .refl _
    · exact (List.Perm.cons _ (insI_keys k v l)).trans (.swap _ _ _)
theorem setI_keys (k : Int) (v : AV) (l : List (Int × AV)) : (setI k v l).map (·.1) = l.map (·.1) := by
  unfold setI
  rw [List.map_map]
  refine List.map_congr_left fun x _ => ?_
  simp only [Function.comp]
  split
  · rename_i e; exact e.symm
  · rfl
theorem putI_nodup (k : Int) (v : AV) {l : List (Int × AV)} (h : (l.map (·.1)).Nodup) : ((putI k v l).map (·.1)).Nodup := by
  unfold putI
  split
  · rw [setI_keys]; exact h
  · rename_i e
    refine (insI_keys k v l).nodup_iff.2 (List.nodup_cons.2 ⟨lookI_none.1 ?_, h⟩)
    cases e' : lookI k l with | none => rfl | some _ => rw [e'] at e; simp at e
theorem lookI_insI (k k2 : Int) (v : AV) : ∀ l : List (Int × AV), lookI k l = none → lookI k2 (insI k v l) = if k2 = k then some v else lookI k2 l
  | [], _ => by
    simp only [insI, lookI]
    by_cases e : k = k2
    · simp [e]
    · rw [if_neg e, if_neg fun h => e h.symm]
  | x :: l, h => by
    unfold lookI at h
    by_cases e : x.1 = k
    · rw [if_pos e] at h; cases h
    · rw [if_neg e] at h
      unfold insI
      split
      · show (if k = k2 then some v else lookI k2 (x :: l)) = _
        by_cases e2 : k = k2
        · simp [e2]
        · rw [if_neg e2, if_neg fun h => e2 h.symm]
      · show (if x.1 = k2 then some x.2 else lookI k2 (insI k v l)) = if k2 = k then some v else (if x.1 = k2 then some x.2 else lookI k2 l)
        rw [lookI_insI k k2 v l h]
        by_cases e2 : k2 = k
        · subst e2; simp [e]
        · simp [e2]
theorem lookI_setI (k k2 : Int) (v : AV) : ∀ l : List (Int × AV), lookI k2 (setI k v l) = if k2 = k then (lookI k l).map fun _ => v else lookI k2 l
  | [] => by simp [setI, lookI]
  | x :: l => by
    have ih := lookI_setI k k2 v l
    show (if (if x.1 = k then (k, v) else x).1 = k2 then some (if x.1 = k then (k, v) else x).2 else lookI k2 (setI k v l)) = _
    rw [ih]
    by_cases e : x.1 = k
    · by_cases e2 : k2 = k
      · subst e2; simp [e, lookI]
      · simp [e, e2, lookI, show ¬ k = k2 from fun h => e2 h.symm]
    · by_cases e2 : k2 = k
      · subst e2; simp [e, lookI]
      · simp [e, e2, lookI]
theorem lookI_putI (k k2 : Int) (v : AV) (l : List (Int × AV)) : lookI k2 (putI k v l) = if k2 = k then some v else lookI k2 l := by
  unfold putI
  cases e : lookI k l with
  | none => simp only [Option.isSome_none, Bool.false_eq_true, if_false]; exact lookI_insI k k2 v l e
  | some w =>
    simp only [Option.isSome_some, if_true]
    rw [lookI_setI, e]
    by_cases e2 : k2 = k <;> simp [e2]
end Go.Abs
end
section
namespace Go.Abs
open Go
noncomputable def gsN : List (Nat × (List AV → CM)) → Nat → List AV → CM
  | [], _ => fun _ => .fail
  | x :: _, 0 => x.2
  | _ :: l, n + 1 => gsN l n
section
variable (x0 x1 x2 x3 x4 x5 x6 x7 x8 x9 : Nat × (List AV → CM)) (l : List (Nat × (List AV → CM)))
theorem gsN_0 : gsN (x0 :: l) 0 = x0.2 := rfl
theorem gsN_1 : gsN (x0 :: x1 :: l) 1 = x1.2 := rfl
theorem gsN_2 : gsN (x0 :: x1 :: x2 :: l) 2 = x2.2 := rfl
theorem gsN_3 : gsN (x0 :: x1 :: x2 :: x3 :: l) 3 = x3.2 := rfl
theorem gsN_4 : gsN (x0 :: x1 :: x2 :: x3 :: x4 :: l) 4 = x4.2 := rfl
theorem gsN_5 : gsN (x0 :: x1 :: x2 :: x3 :: x4 :: x5 :: l) 5 = x5.2 := rfl
theorem gsN_6 : gsN (x0 :: x1 :: x2 :: x3 :: x4 :: x5 :: x6 :: l) 6 = x6.2 := rfl
theorem gsN_7 : gsN (x0 :: x1 :: x2 :: x3 :: x4 :: x5 :: x6 :: x7 :: l) 7 = x7.2 := rfl
theorem gsN_8 : gsN (x0 :: x1 :: x2 :: x3 :: x4 :: x5 :: x6 :: x7 :: x8 :: l) 8 = x8.2 := rfl
theorem gsN_9 : gsN (x0 :: x1 :: x2 :: x3 :: x4 :: x5 :: x6 :: x7 :: x8 :: x9 :: l) 9 = x9.2 := rfl
theorem gsN_10 (x10 : Nat × (List AV → CM)) : gsN (x0 :: x1 :: x2 :: x3 :: x4 :: x5 :: x6 :: x7 :: x8 :: x9 :: x10 :: l) 10 = x10.2 := rfl
theorem gsN_11 (x10 x11 : Nat × (List AV → CM)) : gsN (x0 :: x1 :: x2 :: x3 :: x4 :: x5 :: x6 :: x7 :: x8 :: x9 :: x10 :: x11 :: l) 11 = x11.2 := rfl
end
end Go.Abs
end
section
namespace Go.Proofs.YtolmealocdgdhaaGreat
open Go Go.Abs
set_option maxRecDepth 20000
set_option maxHeartbeats 4000000
noncomputable abbrev Ea (H : FuncId → Option (List AV → Mem → R)) : Env := EX Tryz.prog U.B H
noncomputable abbrev Da (H : FuncId → Option (List AV → Mem → R)) : Do := real (Ea H) (Mq (Ea H)) (Nq (Ea H))
theorem Da_call {H : FuncId → Option (List AV → Mem → R)} (t : Tg) (xs : List AV) (m : Mem) : (Da H).call t xs m = run (Ea H) t xs m := rfl
theorem tr_is {H : FuncId → Option (List AV → Mem → R)} (e : En Tryz.prog U.B) (hc : chkEn e = true) (hd : isDf e.rs = false) (h : H e.f = none) (xs : List AV) (m : Mem) (hn : e.t.fn xs ≠ .fail) : run (Ea H) (.fn e.f) xs m = interp (Da H) (e.t.fn xs) m := by
  have hr : rsOf (Ea H) e.f = e.rs := by unfold rsOf; rw [show (Ea H).B e.f = _ from e.hB]
  exact (((e.ok hc H).fn h (by rw [hr]; exact hd)) xs m).resolve_right hn
theorem tr_go {H : FuncId → Option (List AV → Mem → R)} (e : En Tryz.prog U.B) (hc : chkEn e = true) (k : Nat) (D : List AV → CM) (hD : pickE k e.t.gs = some D) (xs : List AV) (m : Mem) (hn : D xs ≠ .fail) : (Da H).gor k xs m = interp (Da H) (D xs) m :=
  (((e.ok hc H).gs _ (pickE_mem hD)) xs m).resolve_right hn
theorem hook_at {H : FuncId → Option (List AV → Mem → R)} {f : FuncId} {E : Env} (h : H f = some (cleanH E f)) {args : List AV} {m : Mem} {v : AV} (hv : v.flat) (hr : ∀ m2 : Mem, m.next ≤ m2.next → (∀ b, m2.get b = m.get b) → Res m2 (run E (.fn f) args m2) v) : run (Ea H) (.fn f) args m = some (v, m) := (run_hook h args m).trans (cleanH_eq hv hr)
theorem len36 (a : Option AA) (sz n c : Nat) (e : Bool) : lenT Tryz.prog 36 (.sl a sz n c e) = some (.int .i64 n) := by kernel_rfl
theorem fa32_1 (b o : Nat) : fieldAddrA Tryz.prog 32 (.ptr (some ⟨b, o⟩)) 1 = some (.ptr (some ⟨b, o + 1⟩)) := by kernel_rfl
theorem fa28_1 (b o : Nat) : fieldAddrA Tryz.prog 28 (.ptr (some ⟨b, o⟩)) 1 = some (.ptr (some ⟨b, o + 1⟩)) := by kernel_rfl
theorem fa28_3 (b o : Nat) : fieldAddrA Tryz.prog 28 (.ptr (some ⟨b, o⟩)) 3 = some (.ptr (some ⟨b, o + 3⟩)) := by kernel_rfl
theorem fa24_0 (b o : Nat) : fieldAddrA Tryz.prog 24 (.ptr (some ⟨b, o⟩)) 0 = some (.ptr (some ⟨b, o + 0⟩)) := by kernel_rfl
theorem ld3 (p : AV) (m : Mem) : loadA Tryz.prog 3 p m = ld1 m p := by kernel_rfl
theorem ld22 (p : AV) (m : Mem) : loadA Tryz.prog 22 p m = ld1 m p := by kernel_rfl
theorem ix36 (a : AA) (sz n c : Nat) (e : Bool) (k : IntKind) (i : Int) : indexAddrA Tryz.prog 36 (.sl (some a) sz n c e) (.int k i) = if 22 = sz ∨ e = true then ixA 22 n a i else none := by kernel_rfl
theorem ld32 (p : AV) (m : Mem) : loadA Tryz.prog 32 p m = ldN m p 22 := by kernel_rfl
theorem be4 (x y : Bool) : binA Tryz.prog .eql 4 (.bool x) (.bool y) = some (.bool ((x == y))) := by kernel_rfl
theorem fa32_2 (b o : Nat) : fieldAddrA Tryz.prog 32 (.ptr (some ⟨b, o⟩)) 2 = some (.ptr (some ⟨b, o + 17⟩)) := by kernel_rfl
theorem fa39_1 (b o : Nat) : fieldAddrA Tryz.prog 39 (.ptr (some ⟨b, o⟩)) 1 = some (.ptr (some ⟨b, o + 1⟩)) := by kernel_rfl
theorem ld29 (p : AV) (m : Mem) : loadA Tryz.prog 29 p m = ld1 m p := by kernel_rfl
theorem len29 (a : Option AA) (sz n c : Nat) (e : Bool) : lenT Tryz.prog 29 (.sl a sz n c e) = some (.int .i64 n) := by kernel_rfl
theorem ix29 (a : AA) (sz n c : Nat) (e : Bool) (k : IntKind) (i : Int) : indexAddrA Tryz.prog 29 (.sl (some a) sz n c e) (.int k i) = if 5 = sz ∨ e = true then ixA 5 n a i else none := by kernel_rfl
theorem ld4 (p : AV) (m : Mem) : loadA Tryz.prog 4 p m = ld1 m p := by kernel_rfl
theorem fa39_2 (b o : Nat) : fieldAddrA Tryz.prog 39 (.ptr (some ⟨b, o⟩)) 2 = some (.ptr (some ⟨b, o + 2⟩)) := by kernel_rfl
theorem ld39 (p : AV) (m : Mem) : loadA Tryz.prog 39 p m = ldN m p 5 := by kernel_rfl
theorem fa32_0 (b o : Nat) : fieldAddrA Tryz.prog 32 (.ptr (some ⟨b, o⟩)) 0 = some (.ptr (some ⟨b, o + 0⟩)) := by kernel_rfl
theorem bd32 (ps : List (Nat × AV)) : buildA Tryz.prog 32 ps = (fillA (fun i => ([(0, 1), (1, 16), (17, 1), (18, 1), (19, 1), (20, 1), (21, 1)] : List (Nat × Nat))[i]?) [.bool false, .int .i64 0, .int .i64 0, .int .i64 0, .int .u64 0, .int .i64 0, .int .u64 0, .int .u64 0, .int .i64 0, .int .u64 0, .int .u64 0, .int .i64 0, .int .u64 0, .int .i64 0, .int .i64 0, .int .i64 0, .int .i64 0, .sl none 0 0 0 true, .int .u64 0, .sl none 0 0 0 true, .int .i64 0, .int .i64 0] ps).map AV.agg := by kernel_rfl
theorem fa39_0 (b o : Nat) : fieldAddrA Tryz.prog 39 (.ptr (some ⟨b, o⟩)) 0 = some (.ptr (some ⟨b, o + 0⟩)) := by kernel_rfl
theorem fa39_4 (b o : Nat) : fieldAddrA Tryz.prog 39 (.ptr (some ⟨b, o⟩)) 4 = some (.ptr (some ⟨b, o + 4⟩)) := by kernel_rfl
theorem fa39_3 (b o : Nat) : fieldAddrA Tryz.prog 39 (.ptr (some ⟨b, o⟩)) 3 = some (.ptr (some ⟨b, o + 3⟩)) := by kernel_rfl
theorem ld30 (p : AV) (m : Mem) : loadA Tryz.prog 30 p m = ld1 m p := by kernel_rfl
theorem bd39 (ps : List (Nat × AV)) : buildA Tryz.prog 39 ps = (fillA (fun i => ([(0, 1), (1, 1), (2, 1), (3, 1), (4, 1)] : List (Nat × Nat))[i]?) [.int .i64 0, .int .u64 0, .int .u64 0, .sl none 0 0 0 true, .int .i64 0] ps).map AV.agg := by kernel_rfl
theorem len30 (a : Option AA) (sz n c : Nat) (e : Bool) : lenT Tryz.prog 30 (.sl a sz n c e) = some (.int .i64 n) := by kernel_rfl
theorem cv3_22 (k : IntKind) (n : Int) : convA Tryz.prog 3 22 (.int k n) = some (.int .u64 (IntKind.wrap .u64 n)) := by kernel_rfl
theorem cv22_3 (k : IntKind) (n : Int) : convA Tryz.prog 22 3 (.int k n) = some (.int .i64 (IntKind.wrap .i64 n)) := by kernel_rfl
theorem sl30 (a : AA) (sz n c : Nat) (e : Bool) (lo hi : Option AV) : sliceA Tryz.prog 30 (.sl (some a) sz n c e) lo hi = (match hiA hi n c with | some h => (match loA lo h with | some l => if 1 = sz ∨ e = true then some (.sl (some ⟨a.b, a.o + l * 1⟩) 1 (h - l) (c - l) e) else none | none => none) | none => none) := by kernel_rfl
theorem ts30 (a : AA) (sz n c : Nat) (e : Bool) (m : Mem) : toStrA Tryz.prog 30 (.sl (some a) sz n c e) m = ((ldCells m a n).bind bytesA).map AV.str := by kernel_rfl
theorem ld5 (p : AV) (m : Mem) : loadA Tryz.prog 5 p m = ld1 m p := by kernel_rfl
theorem ix30 (a : AA) (sz n c : Nat) (e : Bool) (k : IntKind) (i : Int) : indexAddrA Tryz.prog 30 (.sl (some a) sz n c e) (.int k i) = if 1 = sz ∨ e = true then ixA 1 n a i else none := by kernel_rfl
theorem ld103 (p : AV) (m : Mem) : loadA Tryz.prog 103 p m = ld1 m p := by kernel_rfl
theorem ld36 (p : AV) (m : Mem) : loadA Tryz.prog 36 p m = ld1 m p := by kernel_rfl
end Go.Proofs.YtolmealocdgdhaaGreat
end
section
namespace Go.Proofs.YtolmealocdgdhaaGreat
open Go Go.Abs
set_option maxRecDepth 20000
set_option maxHeartbeats 4000000
noncomputable abbrev e4 : En Tryz.prog U.B := U.t4.enA rfl Tryz.func4 rfl rfl
theorem c4 : chkEn e4 = true := by kernel_rfl
noncomputable def G4_0 : {D : List AV → CM // gsN (U.t4.x (OX Tryz.prog U.B)).gs 0 = D} := ⟨_, by conv => lhs; simp only [U.t4, realO, gsN_0]⟩
theorem g4_0_is {H : FuncId → Option (List AV → Mem → R)} (t7 : AV) (t17 : AV) (t18 : AV) (m : Mem) : (Da H).gor 16384 [t7, t17, t18] m = interp (Da H) (G4_0.1 [t7, t17, t18]) m := by
  rw [← G4_0.2]; exact tr_go e4 c4 16384 _ (by kernel_rfl) _ m (by rw [G4_0.2]; exact nofun)
noncomputable def G4_1 : {D : List AV → CM // gsN (U.t4.x (OX Tryz.prog U.B)).gs 1 = D} := ⟨_, by conv => lhs; simp only [U.t4, realO, gsN_1]⟩
theorem g4_1_is {H : FuncId → Option (List AV → Mem → R)} (t7 : AV) (t17 : AV) (t18 : AV) (t19 : AV) (m : Mem) : (Da H).gor 16385 [t7, t17, t18, t19] m = interp (Da H) (G4_1.1 [t7, t17, t18, t19]) m := by
  rw [← G4_1.2]; exact tr_go e4 c4 16385 _ (by kernel_rfl) _ m (by rw [G4_1.2]; exact nofun)
noncomputable def G4_2 : {D : List AV → CM // gsN (U.t4.x (OX Tryz.prog U.B)).gs 2 = D} := ⟨_, by conv => lhs; simp only [U.t4, realO, gsN_2]⟩
theorem g4_2_is {H : FuncId → Option (List AV → Mem → R)} (t7 : AV) (t17 : AV) (t18 : AV) (t19 : AV) (m : Mem) : (Da H).gor 16386 [t7, t17, t18, t19] m = interp (Da H) (G4_2.1 [t7, t17, t18, t19]) m := by
  rw [← G4_2.2]; exact tr_go e4 c4 16386 _ (by kernel_rfl) _ m (by rw [G4_2.2]; exact nofun)
noncomputable def G4_3 : {D : List AV → CM // gsN (U.t4.x (OX Tryz.prog U.B)).gs 3 = D} := ⟨_, by conv => lhs; simp only [U.t4, realO, gsN_3]⟩
theorem g4_3_is {H : FuncId → Option (List AV → Mem → R)} (t7 : AV) (t17 : AV) (t18 : AV) (t19 : AV) (m : Mem) : (Da H).gor 16387 [t7, t17, t18, t19] m = interp (Da H) (G4_3.1 [t7, t17, t18, t19]) m := by
  rw [← G4_3.2]; exact tr_go e4 c4 16387 _ (by kernel_rfl) _ m (by rw [G4_3.2]; exact nofun)
noncomputable def G4_4 : {D : List AV → CM // gsN (U.t4.x (OX Tryz.prog U.B)).gs 4 = D} := ⟨_, by conv => lhs; simp only [U.t4, realO, gsN_4]⟩
theorem g4_4_is {H : FuncId → Option (List AV → Mem → R)} (t7 : AV) (t17 : AV) (t18 : AV) (m : Mem) : (Da H).gor 16388 [t7, t17, t18] m = interp (Da H) (G4_4.1 [t7, t17, t18]) m := by
  rw [← G4_4.2]; exact tr_go e4 c4 16388 _ (by kernel_rfl) _ m (by rw [G4_4.2]; exact nofun)
noncomputable def F4 : {D : List AV → CM // (U.t4.x (OX Tryz.prog U.B)).fn = D} := ⟨_, by conv => lhs; simp only [U.t4, realO]⟩
theorem f4_is {H : FuncId → Option (List AV → Mem → R)} (h : H 4 = none) (a0 : AV) (a1 : AV) (a2 : AV) (a3 : AV) (a4 : AV) (a5 : AV) (a6 : AV) (a7 : AV) (m : Mem) : run (Ea H) (.fn 4) [a0, a1, a2, a3, a4, a5, a6, a7] m = interp (Da H) (F4.1 [a0, a1, a2, a3, a4, a5, a6, a7]) m := by
  rw [← F4.2]; exact tr_is e4 c4 (by kernel_rfl) h _ m (by rw [show e4.t.fn = F4.1 from F4.2]; exact nofun)
noncomputable abbrev e10 : En Tryz.prog U.B := U.t10.enA rfl Tryz.func10 rfl rfl
theorem c10 : chkEn e10 = true := by kernel_rfl
noncomputable def G10_0 : {D : List AV → CM // gsN (U.t10.x (OX Tryz.prog U.B)).gs 0 = D} := ⟨_, by conv => lhs; simp only [U.t10, realO, gsN_0]⟩
theorem g10_0_is {H : FuncId → Option (List AV → Mem → R)} (t2 : AV) (t3 : AV) (t5 : AV) (t9 : AV) (t10 : AV) (m : Mem) : (Da H).gor 40960 [t2, t3, t5, t9, t10] m = interp (Da H) (G10_0.1 [t2, t3, t5, t9, t10]) m := by
  rw [← G10_0.2]; exact tr_go e10 c10 40960 _ (by kernel_rfl) _ m (by rw [G10_0.2]; exact nofun)
noncomputable def G10_2 : {D : List AV → CM // gsN (U.t10.x (OX Tryz.prog U.B)).gs 1 = D} := ⟨_, by conv => lhs; simp only [U.t10, realO, gsN_1]⟩
theorem g10_2_is {H : FuncId → Option (List AV → Mem → R)} (t2 : AV) (m : Mem) : (Da H).gor 40962 [t2] m = interp (Da H) (G10_2.1 [t2]) m := by
  rw [← G10_2.2]; exact tr_go e10 c10 40962 _ (by kernel_rfl) _ m (by rw [G10_2.2]; exact nofun)
noncomputable def F10 : {D : List AV → CM // (U.t10.x (OX Tryz.prog U.B)).fn = D} := ⟨_, by conv => lhs; simp only [U.t10, realO]⟩
theorem f10_is {H : FuncId → Option (List AV → Mem → R)} (h : H 10 = none) (a0 : AV) (m : Mem) : run (Ea H) (.fn 10) [a0] m = interp (Da H) (F10.1 [a0]) m := by
  rw [← F10.2]; exact tr_is e10 c10 (by kernel_rfl) h _ m (by rw [show e10.t.fn = F10.1 from F10.2]; exact nofun)
noncomputable abbrev e11 : En Tryz.prog U.B := U.t11.enA rfl Tryz.func11 rfl rfl
theorem c11 : chkEn e11 = true := by kernel_rfl
noncomputable def G11_0 : {D : List AV → CM // gsN (U.t11.x (OX Tryz.prog U.B)).gs 0 = D} := ⟨_, by conv => lhs; simp only [U.t11, realO, gsN_0]⟩
theorem g11_0_is {H : FuncId → Option (List AV → Mem → R)} (t2 : AV) (t3 : AV) (m : Mem) : (Da H).gor 45056 [t2, t3] m = interp (Da H) (G11_0.1 [t2, t3]) m := by
  rw [← G11_0.2]; exact tr_go e11 c11 45056 _ (by kernel_rfl) _ m (by rw [G11_0.2]; exact nofun)
noncomputable def G11_1 : {D : List AV → CM // gsN (U.t11.x (OX Tryz.prog U.B)).gs 1 = D} := ⟨_, by conv => lhs; simp only [U.t11, realO, gsN_1]⟩
theorem g11_1_is {H : FuncId → Option (List AV → Mem → R)} (t2 : AV) (t5 : AV) (t23 : AV) (t24 : AV) (t25 : AV) (m : Mem) : (Da H).gor 45057 [t2, t5, t23, t24, t25] m = interp (Da H) (G11_1.1 [t2, t5, t23, t24, t25]) m := by
  rw [← G11_1.2]; exact tr_go e11 c11 45057 _ (by kernel_rfl) _ m (by rw [G11_1.2]; exact nofun)
noncomputable def G11_2 : {D : List AV → CM // gsN (U.t11.x (OX Tryz.prog U.B)).gs 2 = D} := ⟨_, by conv => lhs; simp only [U.t11, realO, gsN_2]⟩
theorem g11_2_is {H : FuncId → Option (List AV → Mem → R)} (t2 : AV) (t5 : AV) (t23 : AV) (t24 : AV) (t25 : AV) (m : Mem) : (Da H).gor 45058 [t2, t5, t23, t24, t25] m = interp (Da H) (G11_2.1 [t2, t5, t23, t24, t25]) m := by
  rw [← G11_2.2]; exact tr_go e11 c11 45058 _ (by kernel_rfl) _ m (by rw [G11_2.2]; exact nofun)
noncomputable def G11_3 : {D : List AV → CM // gsN (U.t11.x (OX Tryz.prog U.B)).gs 3 = D} := ⟨_, by conv => lhs; simp only [U.t11, realO, gsN_3]⟩
theorem g11_3_is {H : FuncId → Option (List AV → Mem → R)} (t2 : AV) (t5 : AV) (t23 : AV) (t24 : AV) (t25 : AV) (m : Mem) : (Da H).gor 45059 [t2, t5, t23, t24, t25] m = interp (Da H) (G11_3.1 [t2, t5, t23, t24, t25]) m := by
  rw [← G11_3.2]; exact tr_go e11 c11 45059 _ (by kernel_rfl) _ m (by rw [G11_3.2]; exact nofun)
noncomputable def G11_4 : {D : List AV → CM // gsN (U.t11.x (OX Tryz.prog U.B)).gs 4 = D} := ⟨_, by conv => lhs; simp only [U.t11, realO, gsN_4]⟩
theorem g11_4_is {H : FuncId → Option (List AV → Mem → R)} (t2 : AV) (t5 : AV) (m : Mem) : (Da H).gor 45060 [t2, t5] m = interp (Da H) (G11_4.1 [t2, t5]) m := by
  rw [← G11_4.2]; exact tr_go e11 c11 45060 _ (by kernel_rfl) _ m (by rw [G11_4.2]; exact nofun)
noncomputable def G11_5 : {D : List AV → CM // gsN (U.t11.x (OX Tryz.prog U.B)).gs 5 = D} := ⟨_, by conv => lhs; simp only [U.t11, realO, gsN_5]⟩
theorem g11_5_is {H : FuncId → Option (List AV → Mem → R)} (t5 : AV) (t8 : AV) (t35 : AV) (t36 : AV) (t37 : AV) (m : Mem) : (Da H).gor 45061 [t5, t8, t35, t36, t37] m = interp (Da H) (G11_5.1 [t5, t8, t35, t36, t37]) m := by
  rw [← G11_5.2]; exact tr_go e11 c11 45061 _ (by kernel_rfl) _ m (by rw [G11_5.2]; exact nofun)
noncomputable def G11_6 : {D : List AV → CM // gsN (U.t11.x (OX Tryz.prog U.B)).gs 6 = D} := ⟨_, by conv => lhs; simp only [U.t11, realO, gsN_6]⟩
theorem g11_6_is {H : FuncId → Option (List AV → Mem → R)} (t5 : AV) (t8 : AV) (t35 : AV) (t36 : AV) (t37 : AV) (m : Mem) : (Da H).gor 45062 [t5, t8, t35, t36, t37] m = interp (Da H) (G11_6.1 [t5, t8, t35, t36, t37]) m := by
  rw [← G11_6.2]; exact tr_go e11 c11 45062 _ (by kernel_rfl) _ m (by rw [G11_6.2]; exact nofun)
noncomputable def G11_7 : {D : List AV → CM // gsN (U.t11.x (OX Tryz.prog U.B)).gs 7 = D} := ⟨_, by conv => lhs; simp only [U.t11, realO, gsN_7]⟩
theorem g11_7_is {H : FuncId → Option (List AV → Mem → R)} (t5 : AV) (t8 : AV) (t10 : AV) (t11 : AV) (t12 : AV) (t35 : AV) (t36 : AV) (t37 : AV) (m : Mem) : (Da H).gor 45063 [t5, t8, t10, t11, t12, t35, t36, t37] m = interp (Da H) (G11_7.1 [t5, t8, t10, t11, t12, t35, t36, t37]) m := by
  rw [← G11_7.2]; exact tr_go e11 c11 45063 _ (by kernel_rfl) _ m (by rw [G11_7.2]; exact nofun)
noncomputable def G11_8 : {D : List AV → CM // gsN (U.t11.x (OX Tryz.prog U.B)).gs 8 = D} := ⟨_, by conv => lhs; simp only [U.t11, realO, gsN_8]⟩
theorem g11_8_is {H : FuncId → Option (List AV → Mem → R)} (t5 : AV) (t8 : AV) (t35 : AV) (t36 : AV) (t37 : AV) (m : Mem) : (Da H).gor 45064 [t5, t8, t35, t36, t37] m = interp (Da H) (G11_8.1 [t5, t8, t35, t36, t37]) m := by
  rw [← G11_8.2]; exact tr_go e11 c11 45064 _ (by kernel_rfl) _ m (by rw [G11_8.2]; exact nofun)
noncomputable def G11_9 : {D : List AV → CM // gsN (U.t11.x (OX Tryz.prog U.B)).gs 9 = D} := ⟨_, by conv => lhs; simp only [U.t11, realO, gsN_9]⟩
theorem g11_9_is {H : FuncId → Option (List AV → Mem → R)} (m : Mem) : (Da H).gor 45065 [] m = interp (Da H) (G11_9.1 []) m := by
  rw [← G11_9.2]; exact tr_go e11 c11 45065 _ (by kernel_rfl) _ m (by rw [G11_9.2]; exact nofun)
noncomputable def F11 : {D : List AV → CM // (U.t11.x (OX Tryz.prog U.B)).fn = D} := ⟨_, by conv => lhs; simp only [U.t11, realO]⟩
theorem f11_is {H : FuncId → Option (List AV → Mem → R)} (h : H 11 = none) (a0 : AV) (a1 : AV) (m : Mem) : run (Ea H) (.fn 11) [a0, a1] m = interp (Da H) (F11.1 [a0, a1]) m := by
  rw [← F11.2]; exact tr_is e11 c11 (by kernel_rfl) h _ m (by rw [show e11.t.fn = F11.1 from F11.2]; exact nofun)
noncomputable abbrev e12 : En Tryz.prog U.B := U.t12.enA rfl Tryz.func12 rfl rfl
theorem c12 : chkEn e12 = true := by kernel_rfl
noncomputable def F12 : {D : List AV → CM // (U.t12.x (OX Tryz.prog U.B)).fn = D} := ⟨_, by conv => lhs; simp only [U.t12, realO]⟩
theorem f12_is {H : FuncId → Option (List AV → Mem → R)} (h : H 12 = none) (a0 : AV) (a1 : AV) (a2 : AV) (m : Mem) : run (Ea H) (.fn 12) [a0, a1, a2] m = interp (Da H) (F12.1 [a0, a1, a2]) m := by
  rw [← F12.2]; exact tr_is e12 c12 (by kernel_rfl) h _ m (by rw [show e12.t.fn = F12.1 from F12.2]; exact nofun)
noncomputable abbrev e13 : En Tryz.prog U.B := U.t13.enA rfl Tryz.func13 rfl rfl
theorem c13 : chkEn e13 = true := by kernel_rfl
noncomputable def G13_0 : {D : List AV → CM // gsN (U.t13.x (OX Tryz.prog U.B)).gs 0 = D} := ⟨_, by conv => lhs; simp only [U.t13, realO, gsN_0]⟩
theorem g13_0_is {H : FuncId → Option (List AV → Mem → R)} (t0 : AV) (m : Mem) : (Da H).gor 53248 [t0] m = interp (Da H) (G13_0.1 [t0]) m := by
  rw [← G13_0.2]; exact tr_go e13 c13 53248 _ (by kernel_rfl) _ m (by rw [G13_0.2]; exact nofun)
noncomputable def F13 : {D : List AV → CM // (U.t13.x (OX Tryz.prog U.B)).fn = D} := ⟨_, by conv => lhs; simp only [U.t13, realO]⟩
theorem f13_is {H : FuncId → Option (List AV → Mem → R)} (h : H 13 = none) (a0 : AV) (a1 : AV) (m : Mem) : run (Ea H) (.fn 13) [a0, a1] m = interp (Da H) (F13.1 [a0, a1]) m := by
  rw [← F13.2]; exact tr_is e13 c13 (by kernel_rfl) h _ m (by rw [show e13.t.fn = F13.1 from F13.2]; exact nofun)
noncomputable abbrev e14 : En Tryz.prog U.B := U.t14.enA rfl Tryz.func14 rfl rfl
theorem c14 : chkEn e14 = true := by kernel_rfl
noncomputable def G14_0 : {D : List AV → CM // gsN (U.t14.x (OX Tryz.prog U.B)).gs 0 = D} := ⟨_, by conv => lhs; simp only [U.t14, realO, gsN_0]⟩
theorem g14_0_is {H : FuncId → Option (List AV → Mem → R)} (t2 : AV) (t3 : AV) (m : Mem) : (Da H).gor 57344 [t2, t3] m = interp (Da H) (G14_0.1 [t2, t3]) m := by
  rw [← G14_0.2]; exact tr_go e14 c14 57344 _ (by kernel_rfl) _ m (by rw [G14_0.2]; exact nofun)
noncomputable def G14_1 : {D : List AV → CM // gsN (U.t14.x (OX Tryz.prog U.B)).gs 1 = D} := ⟨_, by conv => lhs; simp only [U.t14, realO, gsN_1]⟩
theorem g14_1_is {H : FuncId → Option (List AV → Mem → R)} (t2 : AV) (t3 : AV) (t5 : AV) (t6 : AV) (m : Mem) : (Da H).gor 57345 [t2, t3, t5, t6] m = interp (Da H) (G14_1.1 [t2, t3, t5, t6]) m := by
  rw [← G14_1.2]; exact tr_go e14 c14 57345 _ (by kernel_rfl) _ m (by rw [G14_1.2]; exact nofun)
noncomputable def G14_2 : {D : List AV → CM // gsN (U.t14.x (OX Tryz.prog U.B)).gs 2 = D} := ⟨_, by conv => lhs; simp only [U.t14, realO, gsN_2]⟩
theorem g14_2_is {H : FuncId → Option (List AV → Mem → R)} (t2 : AV) (t3 : AV) (t5 : AV) (t6 : AV) (m : Mem) : (Da H).gor 57346 [t2, t3, t5, t6] m = interp (Da H) (G14_2.1 [t2, t3, t5, t6]) m := by
  rw [← G14_2.2]; exact tr_go e14 c14 57346 _ (by kernel_rfl) _ m (by rw [G14_2.2]; exact nofun)
noncomputable def G14_3 : {D : List AV → CM // gsN (U.t14.x (OX Tryz.prog U.B)).gs 3 = D} := ⟨_, by conv => lhs; simp only [U.t14, realO, gsN_3]⟩
theorem g14_3_is {H : FuncId → Option (List AV → Mem → R)} (t2 : AV) (t3 : AV) (t5 : AV) (t6 : AV) (t7 : AV) (m : Mem) : (Da H).gor 57347 [t2, t3, t5, t6, t7] m = interp (Da H) (G14_3.1 [t2, t3, t5, t6, t7]) m := by
  rw [← G14_3.2]; exact tr_go e14 c14 57347 _ (by kernel_rfl) _ m (by rw [G14_3.2]; exact nofun)
noncomputable def G14_4 : {D : List AV → CM // gsN (U.t14.x (OX Tryz.prog U.B)).gs 4 = D} := ⟨_, by conv => lhs; simp only [U.t14, realO, gsN_4]⟩
theorem g14_4_is {H : FuncId → Option (List AV → Mem → R)} (t2 : AV) (t3 : AV) (t5 : AV) (t6 : AV) (t7 : AV) (m : Mem) : (Da H).gor 57348 [t2, t3, t5, t6, t7] m = interp (Da H) (G14_4.1 [t2, t3, t5, t6, t7]) m := by
  rw [← G14_4.2]; exact tr_go e14 c14 57348 _ (by kernel_rfl) _ m (by rw [G14_4.2]; exact nofun)
noncomputable def G14_5 : {D : List AV → CM // gsN (U.t14.x (OX Tryz.prog U.B)).gs 5 = D} := ⟨_, by conv => lhs; simp only [U.t14, realO, gsN_5]⟩
theorem g14_5_is {H : FuncId → Option (List AV → Mem → R)} (t2 : AV) (t3 : AV) (t5 : AV) (t6 : AV) (t7 : AV) (m : Mem) : (Da H).gor 57349 [t2, t3, t5, t6, t7] m = interp (Da H) (G14_5.1 [t2, t3, t5, t6, t7]) m := by
  rw [← G14_5.2]; exact tr_go e14 c14 57349 _ (by kernel_rfl) _ m (by rw [G14_5.2]; exact nofun)
noncomputable def G14_6 : {D : List AV → CM // gsN (U.t14.x (OX Tryz.prog U.B)).gs 6 = D} := ⟨_, by conv => lhs; simp only [U.t14, realO, gsN_6]⟩
theorem g14_6_is {H : FuncId → Option (List AV → Mem → R)} (t2 : AV) (t3 : AV) (t5 : AV) (t6 : AV) (t7 : AV) (m : Mem) : (Da H).gor 57350 [t2, t3, t5, t6, t7] m = interp (Da H) (G14_6.1 [t2, t3, t5, t6, t7]) m := by
  rw [← G14_6.2]; exact tr_go e14 c14 57350 _ (by kernel_rfl) _ m (by rw [G14_6.2]; exact nofun)
noncomputable def G14_7 : {D : List AV → CM // gsN (U.t14.x (OX Tryz.prog U.B)).gs 7 = D} := ⟨_, by conv => lhs; simp only [U.t14, realO, gsN_7]⟩
theorem g14_7_is {H : FuncId → Option (List AV → Mem → R)} (t2 : AV) (t3 : AV) (t5 : AV) (t6 : AV) (t7 : AV) (m : Mem) : (Da H).gor 57351 [t2, t3, t5, t6, t7] m = interp (Da H) (G14_7.1 [t2, t3, t5, t6, t7]) m := by
  rw [← G14_7.2]; exact tr_go e14 c14 57351 _ (by kernel_rfl) _ m (by rw [G14_7.2]; exact nofun)
noncomputable def G14_8 : {D : List AV → CM // gsN (U.t14.x (OX Tryz.prog U.B)).gs 8 = D} := ⟨_, by conv => lhs; simp only [U.t14, realO, gsN_8]⟩
theorem g14_8_is {H : FuncId → Option (List AV → Mem → R)} (t2 : AV) (t3 : AV) (t5 : AV) (t6 : AV) (m : Mem) : (Da H).gor 57352 [t2, t3, t5, t6] m = interp (Da H) (G14_8.1 [t2, t3, t5, t6]) m := by
  rw [← G14_8.2]; exact tr_go e14 c14 57352 _ (by kernel_rfl) _ m (by rw [G14_8.2]; exact nofun)
noncomputable def G14_9 : {D : List AV → CM // gsN (U.t14.x (OX Tryz.prog U.B)).gs 9 = D} := ⟨_, by conv => lhs; simp only [U.t14, realO, gsN_9]⟩
theorem g14_9_is {H : FuncId → Option (List AV → Mem → R)} (m : Mem) : (Da H).gor 57353 [] m = interp (Da H) (G14_9.1 []) m := by
  rw [← G14_9.2]; exact tr_go e14 c14 57353 _ (by kernel_rfl) _ m (by rw [G14_9.2]; exact nofun)
noncomputable def F14 : {D : List AV → CM // (U.t14.x (OX Tryz.prog U.B)).fn = D} := ⟨_, by conv => lhs; simp only [U.t14, realO]⟩
theorem f14_is {H : FuncId → Option (List AV → Mem → R)} (h : H 14 = none) (a0 : AV) (a1 : AV) (m : Mem) : run (Ea H) (.fn 14) [a0, a1] m = interp (Da H) (F14.1 [a0, a1]) m := by
  rw [← F14.2]; exact tr_is e14 c14 (by kernel_rfl) h _ m (by rw [show e14.t.fn = F14.1 from F14.2]; exact nofun)
noncomputable abbrev e15 : En Tryz.prog U.B := U.t15.enA rfl Tryz.func15 rfl rfl
theorem c15 : chkEn e15 = true := by kernel_rfl
noncomputable def G15_0 : {D : List AV → CM // gsN (U.t15.x (OX Tryz.prog U.B)).gs 0 = D} := ⟨_, by conv => lhs; simp only [U.t15, realO, gsN_0]⟩
theorem g15_0_is {H : FuncId → Option (List AV → Mem → R)} (t0 : AV) (t3 : AV) (m : Mem) : (Da H).gor 61440 [t0, t3] m = interp (Da H) (G15_0.1 [t0, t3]) m := by
  rw [← G15_0.2]; exact tr_go e15 c15 61440 _ (by kernel_rfl) _ m (by rw [G15_0.2]; exact nofun)
noncomputable def G15_1 : {D : List AV → CM // gsN (U.t15.x (OX Tryz.prog U.B)).gs 1 = D} := ⟨_, by conv => lhs; simp only [U.t15, realO, gsN_1]⟩
theorem g15_1_is {H : FuncId → Option (List AV → Mem → R)} (t0 : AV) (t3 : AV) (m : Mem) : (Da H).gor 61441 [t0, t3] m = interp (Da H) (G15_1.1 [t0, t3]) m := by
  rw [← G15_1.2]; exact tr_go e15 c15 61441 _ (by kernel_rfl) _ m (by rw [G15_1.2]; exact nofun)
noncomputable def G15_2 : {D : List AV → CM // gsN (U.t15.x (OX Tryz.prog U.B)).gs 2 = D} := ⟨_, by conv => lhs; simp only [U.t15, realO, gsN_2]⟩
theorem g15_2_is {H : FuncId → Option (List AV → Mem → R)} (t0 : AV) (t3 : AV) (t4 : AV) (m : Mem) : (Da H).gor 61442 [t0, t3, t4] m = interp (Da H) (G15_2.1 [t0, t3, t4]) m := by
  rw [← G15_2.2]; exact tr_go e15 c15 61442 _ (by kernel_rfl) _ m (by rw [G15_2.2]; exact nofun)
noncomputable def G15_3 : {D : List AV → CM // gsN (U.t15.x (OX Tryz.prog U.B)).gs 3 = D} := ⟨_, by conv => lhs; simp only [U.t15, realO, gsN_3]⟩
theorem g15_3_is {H : FuncId → Option (List AV → Mem → R)} (t0 : AV) (t3 : AV) (t4 : AV) (m : Mem) : (Da H).gor 61443 [t0, t3, t4] m = interp (Da H) (G15_3.1 [t0, t3, t4]) m := by
  rw [← G15_3.2]; exact tr_go e15 c15 61443 _ (by kernel_rfl) _ m (by rw [G15_3.2]; exact nofun)
noncomputable def G15_4 : {D : List AV → CM // gsN (U.t15.x (OX Tryz.prog U.B)).gs 4 = D} := ⟨_, by conv => lhs; simp only [U.t15, realO, gsN_4]⟩
theorem g15_4_is {H : FuncId → Option (List AV → Mem → R)} (t0 : AV) (t3 : AV) (t4 : AV) (m : Mem) : (Da H).gor 61444 [t0, t3, t4] m = interp (Da H) (G15_4.1 [t0, t3, t4]) m := by
  rw [← G15_4.2]; exact tr_go e15 c15 61444 _ (by kernel_rfl) _ m (by rw [G15_4.2]; exact nofun)
noncomputable def G15_5 : {D : List AV → CM // gsN (U.t15.x (OX Tryz.prog U.B)).gs 5 = D} := ⟨_, by conv => lhs; simp only [U.t15, realO, gsN_5]⟩
theorem g15_5_is {H : FuncId → Option (List AV → Mem → R)} (t0 : AV) (t3 : AV) (m : Mem) : (Da H).gor 61445 [t0, t3] m = interp (Da H) (G15_5.1 [t0, t3]) m := by
  rw [← G15_5.2]; exact tr_go e15 c15 61445 _ (by kernel_rfl) _ m (by rw [G15_5.2]; exact nofun)
noncomputable def G15_6 : {D : List AV → CM // gsN (U.t15.x (OX Tryz.prog U.B)).gs 6 = D} := ⟨_, by conv => lhs; simp only [U.t15, realO, gsN_6]⟩
theorem g15_6_is {H : FuncId → Option (List AV → Mem → R)} (m : Mem) : (Da H).gor 61446 [] m = interp (Da H) (G15_6.1 []) m := by
  rw [← G15_6.2]; exact tr_go e15 c15 61446 _ (by kernel_rfl) _ m (by rw [G15_6.2]; exact nofun)
noncomputable def F15 : {D : List AV → CM // (U.t15.x (OX Tryz.prog U.B)).fn = D} := ⟨_, by conv => lhs; simp only [U.t15, realO]⟩
theorem f15_is {H : FuncId → Option (List AV → Mem → R)} (h : H 15 = none) (a0 : AV) (m : Mem) : run (Ea H) (.fn 15) [a0] m = interp (Da H) (F15.1 [a0]) m := by
  rw [← F15.2]; exact tr_is e15 c15 (by kernel_rfl) h _ m (by rw [show e15.t.fn = F15.1 from F15.2]; exact nofun)
noncomputable abbrev e43 : En Tryz.prog U.B := U.t43.enA rfl Tryz.func43 rfl rfl
theorem c43 : chkEn e43 = true := by kernel_rfl
noncomputable def F43 : {D : List AV → CM // (U.t43.x (OX Tryz.prog U.B)).fn = D} := ⟨_, by conv => lhs; simp only [U.t43, realO]⟩
theorem f43_is {H : FuncId → Option (List AV → Mem → R)} (h : H 43 = none) (a0 : AV) (m : Mem) : run (Ea H) (.fn 43) [a0] m = interp (Da H) (F43.1 [a0]) m := by
  rw [← F43.2]; exact tr_is e43 c43 (by kernel_rfl) h _ m (by rw [show e43.t.fn = F43.1 from F43.2]; exact nofun)
noncomputable abbrev e44 : En Tryz.prog U.B := U.t44.enA rfl Tryz.func44 rfl rfl
theorem c44 : chkEn e44 = true := by kernel_rfl
noncomputable def F44 : {D : List AV → CM // (U.t44.x (OX Tryz.prog U.B)).fn = D} := ⟨_, by conv => lhs; simp only [U.t44, realO]⟩
theorem f44_is {H : FuncId → Option (List AV → Mem → R)} (h : H 44 = none) (a0 : AV) (a1 : AV) (m : Mem) : run (Ea H) (.fn 44) [a0, a1] m = interp (Da H) (F44.1 [a0, a1]) m := by
  rw [← F44.2]; exact tr_is e44 c44 (by kernel_rfl) h _ m (by rw [show e44.t.fn = F44.1 from F44.2]; exact nofun)
noncomputable abbrev e45 : En Tryz.prog U.B := U.t45.enA rfl Tryz.func45 rfl rfl
theorem c45 : chkEn e45 = true := by kernel_rfl
noncomputable def F45 : {D : List AV → CM // (U.t45.x (OX Tryz.prog U.B)).fn = D} := ⟨_, by conv => lhs; simp only [U.t45, realO]⟩
theorem f45_is {H : FuncId → Option (List AV → Mem → R)} (h : H 45 = none) (a0 : AV) (a1 : AV) (m : Mem) : run (Ea H) (.fn 45) [a0, a1] m = interp (Da H) (F45.1 [a0, a1]) m := by
  rw [← F45.2]; exact tr_is e45 c45 (by kernel_rfl) h _ m (by rw [show e45.t.fn = F45.1 from F45.2]; exact nofun)
noncomputable abbrev e46 : En Tryz.prog U.B := U.t46.enA rfl Tryz.func46 rfl rfl
theorem c46 : chkEn e46 = true := by kernel_rfl
noncomputable def G46_0 : {D : List AV → CM // gsN (U.t46.x (OX Tryz.prog U.B)).gs 0 = D} := ⟨_, by conv => lhs; simp only [U.t46, realO, gsN_0]⟩
theorem g46_0_is {H : FuncId → Option (List AV → Mem → R)} (t0 : AV) (t1 : AV) (t2 : AV) (t3 : AV) (t9 : AV) (t10 : AV) (m : Mem) : (Da H).gor 188416 [t0, t1, t2, t3, t9, t10] m = interp (Da H) (G46_0.1 [t0, t1, t2, t3, t9, t10]) m := by
  rw [← G46_0.2]; exact tr_go e46 c46 188416 _ (by kernel_rfl) _ m (by rw [G46_0.2]; exact nofun)
noncomputable def G46_1 : {D : List AV → CM // gsN (U.t46.x (OX Tryz.prog U.B)).gs 1 = D} := ⟨_, by conv => lhs; simp only [U.t46, realO, gsN_1]⟩
theorem g46_1_is {H : FuncId → Option (List AV → Mem → R)} (t0 : AV) (t1 : AV) (t2 : AV) (t3 : AV) (t9 : AV) (t10 : AV) (m : Mem) : (Da H).gor 188417 [t0, t1, t2, t3, t9, t10] m = interp (Da H) (G46_1.1 [t0, t1, t2, t3, t9, t10]) m := by
  rw [← G46_1.2]; exact tr_go e46 c46 188417 _ (by kernel_rfl) _ m (by rw [G46_1.2]; exact nofun)
noncomputable def G46_2 : {D : List AV → CM // gsN (U.t46.x (OX Tryz.prog U.B)).gs 2 = D} := ⟨_, by conv => lhs; simp only [U.t46, realO, gsN_2]⟩
theorem g46_2_is {H : FuncId → Option (List AV → Mem → R)} (t0 : AV) (t1 : AV) (t2 : AV) (t3 : AV) (t9 : AV) (t10 : AV) (t11 : AV) (m : Mem) : (Da H).gor 188418 [t0, t1, t2, t3, t9, t10, t11] m = interp (Da H) (G46_2.1 [t0, t1, t2, t3, t9, t10, t11]) m := by
  rw [← G46_2.2]; exact tr_go e46 c46 188418 _ (by kernel_rfl) _ m (by rw [G46_2.2]; exact nofun)
noncomputable def G46_3 : {D : List AV → CM // gsN (U.t46.x (OX Tryz.prog U.B)).gs 3 = D} := ⟨_, by conv => lhs; simp only [U.t46, realO, gsN_3]⟩
theorem g46_3_is {H : FuncId → Option (List AV → Mem → R)} (t0 : AV) (t1 : AV) (t2 : AV) (t3 : AV) (t9 : AV) (t10 : AV) (m : Mem) : (Da H).gor 188419 [t0, t1, t2, t3, t9, t10] m = interp (Da H) (G46_3.1 [t0, t1, t2, t3, t9, t10]) m := by
  rw [← G46_3.2]; exact tr_go e46 c46 188419 _ (by kernel_rfl) _ m (by rw [G46_3.2]; exact nofun)
noncomputable def G46_4 : {D : List AV → CM // gsN (U.t46.x (OX Tryz.prog U.B)).gs 4 = D} := ⟨_, by conv => lhs; simp only [U.t46, realO, gsN_4]⟩
theorem g46_4_is {H : FuncId → Option (List AV → Mem → R)} (t9 : AV) (m : Mem) : (Da H).gor 188420 [t9] m = interp (Da H) (G46_4.1 [t9]) m := by
  rw [← G46_4.2]; exact tr_go e46 c46 188420 _ (by kernel_rfl) _ m (by rw [G46_4.2]; exact nofun)
noncomputable def F46 : {D : List AV → CM // (U.t46.x (OX Tryz.prog U.B)).fn = D} := ⟨_, by conv => lhs; simp only [U.t46, realO]⟩
theorem f46_is {H : FuncId → Option (List AV → Mem → R)} (h : H 46 = none) (a0 : AV) (a1 : AV) (a2 : AV) (a3 : AV) (m : Mem) : run (Ea H) (.fn 46) [a0, a1, a2, a3] m = interp (Da H) (F46.1 [a0, a1, a2, a3]) m := by
  rw [← F46.2]; exact tr_is e46 c46 (by kernel_rfl) h _ m (by rw [show e46.t.fn = F46.1 from F46.2]; exact nofun)
noncomputable abbrev e47 : En Tryz.prog U.B := U.t47.enA rfl Tryz.func47 rfl rfl
theorem c47 : chkEn e47 = true := by kernel_rfl
noncomputable def F47 : {D : List AV → CM // (U.t47.x (OX Tryz.prog U.B)).fn = D} := ⟨_, by conv => lhs; simp only [U.t47, realO]⟩
theorem f47_is {H : FuncId → Option (List AV → Mem → R)} (h : H 47 = none) (a0 : AV) (a1 : AV) (m : Mem) : run (Ea H) (.fn 47) [a0, a1] m = interp (Da H) (F47.1 [a0, a1]) m := by
  rw [← F47.2]; exact tr_is e47 c47 (by kernel_rfl) h _ m (by rw [show e47.t.fn = F47.1 from F47.2]; exact nofun)
noncomputable abbrev e90 : En Tryz.prog U.B := U.t90.enA rfl Tryz.func90 rfl rfl
theorem c90 : chkEn e90 = true := by kernel_rfl
noncomputable def G90_0 : {D : List AV → CM // gsN (U.t90.x (OX Tryz.prog U.B)).gs 0 = D} := ⟨_, by conv => lhs; simp only [U.t90, realO, gsN_0]⟩
theorem g90_0_is {H : FuncId → Option (List AV → Mem → R)} (t0 : AV) (t1 : AV) (m : Mem) : (Da H).gor 368640 [t0, t1] m = interp (Da H) (G90_0.1 [t0, t1]) m := by
  rw [← G90_0.2]; exact tr_go e90 c90 368640 _ (by kernel_rfl) _ m (by rw [G90_0.2]; exact nofun)
noncomputable def G90_1 : {D : List AV → CM // gsN (U.t90.x (OX Tryz.prog U.B)).gs 1 = D} := ⟨_, by conv => lhs; simp only [U.t90, realO, gsN_1]⟩
theorem g90_1_is {H : FuncId → Option (List AV → Mem → R)} (t0 : AV) (t1 : AV) (t12 : AV) (t13 : AV) (m : Mem) : (Da H).gor 368641 [t0, t1, t12, t13] m = interp (Da H) (G90_1.1 [t0, t1, t12, t13]) m := by
  rw [← G90_1.2]; exact tr_go e90 c90 368641 _ (by kernel_rfl) _ m (by rw [G90_1.2]; exact nofun)
noncomputable def G90_2 : {D : List AV → CM // gsN (U.t90.x (OX Tryz.prog U.B)).gs 2 = D} := ⟨_, by conv => lhs; simp only [U.t90, realO, gsN_2]⟩
theorem g90_2_is {H : FuncId → Option (List AV → Mem → R)} (t0 : AV) (t1 : AV) (t12 : AV) (t13 : AV) (m : Mem) : (Da H).gor 368642 [t0, t1, t12, t13] m = interp (Da H) (G90_2.1 [t0, t1, t12, t13]) m := by
  rw [← G90_2.2]; exact tr_go e90 c90 368642 _ (by kernel_rfl) _ m (by rw [G90_2.2]; exact nofun)
noncomputable def G90_3 : {D : List AV → CM // gsN (U.t90.x (OX Tryz.prog U.B)).gs 3 = D} := ⟨_, by conv => lhs; simp only [U.t90, realO, gsN_3]⟩
theorem g90_3_is {H : FuncId → Option (List AV → Mem → R)} (t0 : AV) (t1 : AV) (t12 : AV) (t13 : AV) (m : Mem) : (Da H).gor 368643 [t0, t1, t12, t13] m = interp (Da H) (G90_3.1 [t0, t1, t12, t13]) m := by
  rw [← G90_3.2]; exact tr_go e90 c90 368643 _ (by kernel_rfl) _ m (by rw [G90_3.2]; exact nofun)
noncomputable def G90_4 : {D : List AV → CM // gsN (U.t90.x (OX Tryz.prog U.B)).gs 4 = D} := ⟨_, by conv => lhs; simp only [U.t90, realO, gsN_4]⟩
theorem g90_4_is {H : FuncId → Option (List AV → Mem → R)} (m : Mem) : (Da H).gor 368644 [] m = interp (Da H) (G90_4.1 []) m := by
  rw [← G90_4.2]; exact tr_go e90 c90 368644 _ (by kernel_rfl) _ m (by rw [G90_4.2]; exact nofun)
noncomputable def F90 : {D : List AV → CM // (U.t90.x (OX Tryz.prog U.B)).fn = D} := ⟨_, by conv => lhs; simp only [U.t90, realO]⟩
theorem f90_is {H : FuncId → Option (List AV → Mem → R)} (h : H 90 = none) (a0 : AV) (a1 : AV) (m : Mem) : run (Ea H) (.fn 90) [a0, a1] m = interp (Da H) (F90.1 [a0, a1]) m := by
  rw [← F90.2]; exact tr_is e90 c90 (by kernel_rfl) h _ m (by rw [show e90.t.fn = F90.1 from F90.2]; exact nofun)
noncomputable abbrev e91 : En Tryz.prog U.B := U.t91.enA rfl Tryz.func91 rfl rfl
theorem c91 : chkEn e91 = true := by kernel_rfl
noncomputable def G91_0 : {D : List AV → CM // gsN (U.t91.x (OX Tryz.prog U.B)).gs 0 = D} := ⟨_, by conv => lhs; simp only [U.t91, realO, gsN_0]⟩
theorem g91_0_is {H : FuncId → Option (List AV → Mem → R)} (t0 : AV) (t2 : AV) (t6 : AV) (t7 : AV) (t8 : AV) (m : Mem) : (Da H).gor 372736 [t0, t2, t6, t7, t8] m = interp (Da H) (G91_0.1 [t0, t2, t6, t7, t8]) m := by
  rw [← G91_0.2]; exact tr_go e91 c91 372736 _ (by kernel_rfl) _ m (by rw [G91_0.2]; exact nofun)
noncomputable def G91_1 : {D : List AV → CM // gsN (U.t91.x (OX Tryz.prog U.B)).gs 1 = D} := ⟨_, by conv => lhs; simp only [U.t91, realO, gsN_1]⟩
theorem g91_1_is {H : FuncId → Option (List AV → Mem → R)} (t0 : AV) (t2 : AV) (t6 : AV) (t7 : AV) (t8 : AV) (m : Mem) : (Da H).gor 372737 [t0, t2, t6, t7, t8] m = interp (Da H) (G91_1.1 [t0, t2, t6, t7, t8]) m := by
  rw [← G91_1.2]; exact tr_go e91 c91 372737 _ (by kernel_rfl) _ m (by rw [G91_1.2]; exact nofun)
noncomputable def G91_2 : {D : List AV → CM // gsN (U.t91.x (OX Tryz.prog U.B)).gs 2 = D} := ⟨_, by conv => lhs; simp only [U.t91, realO, gsN_2]⟩
theorem g91_2_is {H : FuncId → Option (List AV → Mem → R)} (t0 : AV) (t2 : AV) (t6 : AV) (t7 : AV) (t8 : AV) (m : Mem) : (Da H).gor 372738 [t0, t2, t6, t7, t8] m = interp (Da H) (G91_2.1 [t0, t2, t6, t7, t8]) m := by
  rw [← G91_2.2]; exact tr_go e91 c91 372738 _ (by kernel_rfl) _ m (by rw [G91_2.2]; exact nofun)
noncomputable def F91 : {D : List AV → CM // (U.t91.x (OX Tryz.prog U.B)).fn = D} := ⟨_, by conv => lhs; simp only [U.t91, realO]⟩
theorem f91_is {H : FuncId → Option (List AV → Mem → R)} (h : H 91 = none) (a0 : AV) (a1 : AV) (a2 : AV) (m : Mem) : run (Ea H) (.fn 91) [a0, a1, a2] m = interp (Da H) (F91.1 [a0, a1, a2]) m := by
  rw [← F91.2]; exact tr_is e91 c91 (by kernel_rfl) h _ m (by rw [show e91.t.fn = F91.1 from F91.2]; exact nofun)
abbrev w_g4_0 := And.intro @aps <| And.intro @Da_call <| And.intro @obs @ips
abbrev w_g4_1 := And.intro @aps <| And.intro @Da_call <| And.intro @obs <| And.intro @ips <| And.intro @bin_lss <| And.intro @bin_slss @len36
abbrev w_g4_2 := And.intro @aps <| And.intro @Da_call <| And.intro @obs <| And.intro @ips <| And.intro @fa32_1 <| And.intro @fa28_1 <| And.intro @fa28_3 <| And.intro @fa24_0 <| And.intro @ld3 <| And.intro @ld22 <| And.intro @ix36 <| And.intro @Nat.zero_add <| And.intro @Nat.add_zero @ge
abbrev w_g4_3 := And.intro @aps <| And.intro @Da_call <| And.intro @obs <| And.intro @ips @bin_add
abbrev w_g4_4 := And.intro @aps <| And.intro @Da_call <| And.intro @obs <| And.intro @ips <| And.intro @bin_eql <| And.intro @bin_seql <| And.intro @ld32 @be4
abbrev w_f4 := And.intro @aps <| And.intro @Da_call <| And.intro @obs <| And.intro @ips <| And.intro @bin_add <| And.intro @bin_eql <| And.intro @bin_seql <| And.intro @bin_gtr <| And.intro @fa32_2 <| And.intro @fa39_1 <| And.intro @ld29 <| And.intro @ld22 <| And.intro @len29 <| And.intro @ix29 <| And.intro @Nat.zero_add <| And.intro @Nat.add_zero @ge
abbrev w_g10_0 := And.intro @aps <| And.intro @Da_call <| And.intro @obs @interp_rng
abbrev w_g10_2 := And.intro @aps <| And.intro @Da_call <| And.intro @obs <| And.intro @ips <| And.intro @nth0 <| And.intro @nth1 <| And.intro @nth2 <| And.intro @nth3 @ld4
abbrev w_f10 := And.intro @aps <| And.intro @Da_call <| And.intro @obs @ips
abbrev w_g11_0 := And.intro @aps <| And.intro @Da_call <| And.intro @obs <| And.intro @ips <| And.intro @fa32_2 <| And.intro @ld29 <| And.intro @len29 <| And.intro @Nat.zero_add <| And.intro @Nat.add_zero @ge
abbrev w_g11_1 := And.intro @aps <| And.intro @Da_call <| And.intro @obs <| And.intro @ips <| And.intro @bin_lss @bin_slss
abbrev w_g11_2 := And.intro @aps <| And.intro @Da_call <| And.intro @obs <| And.intro @ips <| And.intro @fa39_2 <| And.intro @ld39 <| And.intro @ld22 <| And.intro @ix29 <| And.intro @Nat.zero_add <| And.intro @Nat.add_zero @ge
abbrev w_g11_3 := And.intro @aps <| And.intro @Da_call <| And.intro @obs <| And.intro @ips @bin_add
abbrev w_g11_4 := And.intro @aps <| And.intro @Da_call <| And.intro @obs <| And.intro @ips <| And.intro @fa32_2 <| And.intro @ld29 <| And.intro @len29 <| And.intro @Nat.zero_add <| And.intro @Nat.add_zero @ge
abbrev w_g11_5 := And.intro @aps <| And.intro @Da_call <| And.intro @obs <| And.intro @ips <| And.intro @bin_lss @bin_slss
abbrev w_g11_6 := And.intro @aps <| And.intro @Da_call <| And.intro @obs <| And.intro @ips <| And.intro @ge <| And.intro @fa39_2 <| And.intro @ld39 <| And.intro @ld22 <| And.intro @ix29 <| And.intro @Nat.zero_add @Nat.add_zero
abbrev w_g11_7 := And.intro @aps <| And.intro @Da_call <| And.intro @obs <| And.intro @ips <| And.intro @bin_eql <| And.intro @bin_seql <| And.intro @fa39_1 <| And.intro @ld22 <| And.intro @Nat.zero_add <| And.intro @Nat.add_zero @ge
abbrev w_g11_8 := And.intro @aps <| And.intro @Da_call <| And.intro @obs <| And.intro @ips @bin_add
abbrev w_g11_9 := And.intro @aps <| And.intro @Da_call <| And.intro @obs @ips
abbrev w_f11 := And.intro @aps <| And.intro @Da_call <| And.intro @obs <| And.intro @ips <| And.intro @fa32_0 <| And.intro @ld4 <| And.intro @Nat.zero_add <| And.intro @Nat.add_zero @ge
abbrev w_f12 := And.intro @aps <| And.intro @Da_call <| And.intro @obs <| And.intro @ips <| And.intro @lcs <| And.intro @oms <| And.intro @Nat.zero_add <| And.intro @ift <| And.intro @ge <| And.intro @nth0 <| And.intro @nth1 <| And.intro @nth2 <| And.intro @nth3 <| And.intro @ld32 @bd32
abbrev w_g13_0 := And.intro @aps <| And.intro @Da_call <| And.intro @obs @ips
abbrev w_f13 := And.intro @aps <| And.intro @Da_call <| And.intro @obs <| And.intro @ips <| And.intro @bin_add <| And.intro @bin_lss @bin_slss
abbrev w_g14_0 := And.intro @aps <| And.intro @Da_call <| And.intro @obs <| And.intro @ips <| And.intro @bin_sub <| And.intro @fa32_2 <| And.intro @ld29 <| And.intro @len29 <| And.intro @Nat.zero_add <| And.intro @Nat.add_zero @ge
abbrev w_g14_1 := And.intro @aps <| And.intro @Da_call <| And.intro @obs <| And.intro @ips <| And.intro @bin_geq @bin_sgeq
abbrev w_g14_2 := And.intro @aps <| And.intro @Da_call <| And.intro @obs @ips
abbrev w_g14_3 := And.intro @aps <| And.intro @Da_call <| And.intro @obs <| And.intro @ips <| And.intro @bin_lss <| And.intro @bin_slss <| And.intro @fa32_2 <| And.intro @ld29 <| And.intro @len29 <| And.intro @Nat.zero_add <| And.intro @Nat.add_zero @ge
abbrev w_g14_4 := And.intro @aps <| And.intro @Da_call <| And.intro @obs <| And.intro @ips <| And.intro @bin_neq <| And.intro @bin_sneq <| And.intro @fa32_2 <| And.intro @fa39_2 <| And.intro @ld29 <| And.intro @ld22 <| And.intro @ix29 <| And.intro @Nat.zero_add <| And.intro @Nat.add_zero @ge
abbrev w_g14_5 := And.intro @aps <| And.intro @Da_call <| And.intro @obs <| And.intro @ips <| And.intro @bin_eql <| And.intro @bin_seql <| And.intro @fa32_2 <| And.intro @fa39_1 <| And.intro @ld29 <| And.intro @ld22 <| And.intro @ix29 <| And.intro @Nat.zero_add <| And.intro @Nat.add_zero @ge
abbrev w_g14_6 := And.intro @aps <| And.intro @Da_call <| And.intro @obs <| And.intro @ips <| And.intro @fa32_2 <| And.intro @ld29 <| And.intro @ld39 <| And.intro @ix29 <| And.intro @Nat.zero_add <| And.intro @Nat.add_zero @ge
abbrev w_g14_7 := And.intro @aps <| And.intro @Da_call <| And.intro @obs <| And.intro @ips @bin_add
abbrev w_g14_8 := And.intro @aps <| And.intro @Da_call <| And.intro @obs <| And.intro @ips @bin_sub
abbrev w_g14_9 := And.intro @aps <| And.intro @Da_call <| And.intro @obs @ips
abbrev w_f14 := And.intro @aps <| And.intro @Da_call <| And.intro @obs <| And.intro @ips <| And.intro @fa32_0 <| And.intro @ld4 <| And.intro @Nat.zero_add <| And.intro @Nat.add_zero @ge
abbrev w_g15_0 := And.intro @aps <| And.intro @Da_call <| And.intro @obs <| And.intro @ips <| And.intro @bin_lss <| And.intro @bin_slss @len36
abbrev w_g15_1 := And.intro @aps <| And.intro @Da_call <| And.intro @obs @ips
abbrev w_g15_2 := And.intro @aps <| And.intro @Da_call <| And.intro @obs <| And.intro @ips <| And.intro @bin_lss @bin_slss
abbrev w_g15_3 := And.intro @aps <| And.intro @Da_call <| And.intro @obs <| And.intro @ips <| And.intro @bin_eql <| And.intro @bin_seql <| And.intro @fa32_0 <| And.intro @fa32_1 <| And.intro @fa28_1 <| And.intro @fa28_3 <| And.intro @fa24_0 <| And.intro @ld32 <| And.intro @ld4 <| And.intro @ld3 <| And.intro @ld22 <| And.intro @ix36 <| And.intro @Nat.zero_add <| And.intro @Nat.add_zero @ge
abbrev w_g15_4 := And.intro @aps <| And.intro @Da_call <| And.intro @obs <| And.intro @ips @bin_add
abbrev w_g15_5 := And.intro @aps <| And.intro @Da_call <| And.intro @obs <| And.intro @ips @bin_add
abbrev w_g15_6 := And.intro @aps <| And.intro @Da_call <| And.intro @obs @ips
abbrev w_f15 := And.intro @aps <| And.intro @Da_call <| And.intro @obs @ips
abbrev w_f43 := And.intro @aps <| And.intro @Da_call <| And.intro @obs <| And.intro @ips <| And.intro @bin_eql <| And.intro @bin_seql <| And.intro @fa32_0 <| And.intro @fa32_1 <| And.intro @fa28_1 <| And.intro @ld4 <| And.intro @ld3 <| And.intro @Nat.zero_add <| And.intro @Nat.add_zero @ge
abbrev w_f44 := And.intro @aps <| And.intro @Da_call <| And.intro @obs @ips
abbrev w_f45 := And.intro @aps <| And.intro @Da_call <| And.intro @obs <| And.intro @ips <| And.intro @bin_eql <| And.intro @bin_seql <| And.intro @fa39_0 <| And.intro @fa39_1 <| And.intro @fa39_2 <| And.intro @fa39_4 <| And.intro @fa39_3 <| And.intro @ld3 <| And.intro @ld22 <| And.intro @ld30 <| And.intro @Nat.zero_add <| And.intro @Nat.add_zero @ge
abbrev w_g46_0 := And.intro @aps <| And.intro @Da_call <| And.intro @obs <| And.intro @ips <| And.intro @bin_lss <| And.intro @bin_slss @len29
abbrev w_g46_1 := And.intro @aps <| And.intro @Da_call <| And.intro @obs <| And.intro @ips <| And.intro @bin_add <| And.intro @bin_eql <| And.intro @bin_seql <| And.intro @bin_mul <| And.intro @lcs <| And.intro @oms <| And.intro @Nat.zero_add <| And.intro @ift <| And.intro @ge <| And.intro @fa39_0 <| And.intro @fa39_4 <| And.intro @fa39_3 <| And.intro @fa39_1 <| And.intro @ld3 <| And.intro @ld30 <| And.intro @ld22 <| And.intro @bd39 <| And.intro @len30 <| And.intro @ix29 <| And.intro @cv3_22 <| And.intro @cv22_3 <| And.intro @sl30 @Nat.add_zero
abbrev w_g46_2 := And.intro @aps <| And.intro @Da_call <| And.intro @obs <| And.intro @ips @ld39
abbrev w_g46_3 := And.intro @aps <| And.intro @Da_call <| And.intro @obs <| And.intro @ips @bin_add
abbrev w_g46_4 := And.intro @aps <| And.intro @Da_call <| And.intro @obs @ips
abbrev w_f46 := And.intro @aps <| And.intro @Da_call <| And.intro @obs @ips
abbrev w_f47 := And.intro @aps <| And.intro @Da_call <| And.intro @obs <| And.intro @ips <| And.intro @bin_eql <| And.intro @bin_seql <| And.intro @fa39_0 <| And.intro @fa39_1 <| And.intro @fa39_2 <| And.intro @fa39_3 <| And.intro @fa39_4 <| And.intro @ld3 <| And.intro @ld22 <| And.intro @ld30 <| And.intro @ts30 <| And.intro @Nat.zero_add <| And.intro @Nat.add_zero @ge
abbrev w_g90_0 := And.intro @aps <| And.intro @Da_call <| And.intro @obs <| And.intro @ips @len30
abbrev w_g90_1 := And.intro @aps <| And.intro @Da_call <| And.intro @obs <| And.intro @ips <| And.intro @bin_lss @bin_slss
abbrev w_g90_2 := And.intro @aps <| And.intro @Da_call <| And.intro @obs <| And.intro @ips <| And.intro @bin_neq <| And.intro @bin_sneq <| And.intro @ld5 @ix30
abbrev w_g90_3 := And.intro @aps <| And.intro @Da_call <| And.intro @obs <| And.intro @ips @bin_add
abbrev w_g90_4 := And.intro @aps <| And.intro @Da_call <| And.intro @obs @ips
abbrev w_f90 := And.intro @aps <| And.intro @Da_call <| And.intro @obs <| And.intro @ips <| And.intro @bin_neq <| And.intro @bin_sneq @len30
abbrev w_g91_0 := And.intro @aps <| And.intro @Da_call <| And.intro @obs <| And.intro @ips <| And.intro @bin_lss @bin_slss
abbrev w_g91_1 := And.intro @aps <| And.intro @Da_call <| And.intro @obs <| And.intro @ips <| And.intro @ld32 <| And.intro @ld103 @ix36
abbrev w_g91_2 := And.intro @aps <| And.intro @Da_call <| And.intro @obs <| And.intro @ips @bin_add
abbrev w_f91 := And.intro @aps <| And.intro @Da_call <| And.intro @obs <| And.intro @ips <| And.intro @ld36 @len36
end Go.Proofs.YtolmealocdgdhaaGreat
end
section
namespace Go.Abs
open Go

structure EntS where
  kind : Int
  term : Int
  index : Int
  sl : AV
  conf : Int
  data : List UInt8
instance : Inhabited EntS := ⟨⟨0, 0, 0, .undef, 0, []⟩⟩
def EntS.cells (e : EntS) : List AV := [.int .i64 e.kind, .int .u64 e.term, .int .u64 e.index, e.sl, .int .i64 e.conf]
def sameE (a b : EntS) : Bool := decide (a.kind = b.kind) && (decide (a.term = b.term) && (decide (a.index = b.index) && (decide (a.conf = b.conf) && decide (a.data = b.data))))
theorem sameE_comm (a b : EntS) : sameE a b = sameE b a := by
  unfold sameE
  simp only [eq_comm]
def alikeP (f : Int → Option EntS) : Bool → List EntS → Bool
  | _, [] => true
  | d, e :: l => match f e.index with
    | none => alikeP f d l
    | some x => if (decide (x.term = e.term) && (d || !sameE x e)) = true then false else alikeP f (d || !sameE x e) l
def innerR (e : EntS) : List EntS → Bool → Option Bool
  | [], s => some s
  | x :: b, s => if x.index ≠ e.index then innerR e b s else if ((s || decide (x.term = e.term)) && !sameE e x) = true then none else innerR e b (s || decide (x.term = e.term))
def alikeR (b : List EntS) : Bool → List EntS → Bool
  | _, [] => true
  | s, e :: l => match innerR e b s with
    | none => false
    | some s' => alikeR b s' l
def findE (b : List EntS) (k : Int) : Option EntS := b.find? fun x => decide (x.index = k)
def stepR (e : EntS) (x : Option EntS) (s : Bool) : Option Bool :=
  match x with
  | none => some s
  | some x => if ((s || decide (x.term = e.term)) && !sameE e x) = true then none else some (s || decide (x.term = e.term))
theorem innerR_none (e : EntS) : ∀ (b : List EntS) (s : Bool), e.index ∉ b.map (·.index) → innerR e b s = some s
  | [], _, _ => rfl
  | x :: b, s, h => by
    simp only [List.map_cons, List.mem_cons, not_or] at h
    unfold innerR
    rw [if_pos (fun h' => h.1 h'.symm), innerR_none e b s h.2]
theorem innerR_eq (e : EntS) : ∀ (b : List EntS) (s : Bool), (b.map (·.index)).Nodup → innerR e b s = stepR e (findE b e.index) s
  | [], _, _ => rfl
  | x :: b, s, h => by
    rw [List.map_cons, List.nodup_cons] at h
    unfold innerR findE
    by_cases hi : x.index = e.index
    · rw [if_neg (by simpa using hi), List.find?_cons_of_pos (by simpa using hi)]
      unfold stepR
      simp only
      split
      · rfl
      · exact innerR_none e b _ (by rw [← hi]; exact h.1)
    · rw [if_pos hi, List.find?_cons_of_neg (by simpa using hi)]
      exact innerR_eq e b s h.2
def foldR (b : List EntS) : List EntS → Option Bool
  | [] => some false
  | e :: l => (foldR b l).bind (stepR e (findE b e.index))
theorem alikeR_app (b : List EntS) (hb : (b.map (·.index)).Nodup) : ∀ (l : List EntS) (r : List EntS), alikeR b false (l.reverse ++ r) = match foldR b l with
    | none => false
    | some s => alikeR b s r
  | [], r => rfl
  | e :: l, r => by
    rw [List.reverse_cons, List.append_assoc, alikeR_app b hb l ([e] ++ r), show foldR b (e :: l) = (foldR b l).bind (stepR e (findE b e.index)) from rfl]
    cases foldR b l with
    | none => rfl
    | some s =>
      simp only [List.cons_append, List.nil_append, alikeR, innerR_eq e b s hb, Option.bind_some]
theorem alikeP_fold (b : List EntS) : ∀ (l : List EntS) (d : Bool), alikeP (findE b) d l = match foldR b l with
    | none => false
    | some s => !(s && d)
  | [], d => by simp [alikeP, foldR]
  | e :: l, d => by
    rw [show foldR b (e :: l) = (foldR b l).bind (stepR e (findE b e.index)) from rfl]
    unfold alikeP
    cases hx : findE b e.index with
    | none =>
      simp only
      rw [alikeP_fold b l d]
      cases foldR b l with
      | none => rfl
      | some s => rfl
    | some x =>
      simp only
      rw [alikeP_fold b l, sameE_comm x e]
      cases foldR b l with
      | none => simp
      | some s =>
        simp only [Option.bind_some, stepR]
        generalize decide (x.term = e.term) = t
        generalize sameE e x = q
        cases s <;> cases d <;> cases t <;> cases q <;> rfl
theorem alike_same {a b : List EntS} (hb : (b.map (·.index)).Nodup) : alikeP (findE b) false a = alikeR b false a.reverse := by
  have h := alikeR_app b hb a []
  rw [List.append_nil] at h
  rw [h, alikeP_fold]
  cases foldR b a with
  | none => rfl
  | some s => simp [alikeR]
end Go.Abs
end
section
namespace Go.Abs
open Go
theorem EnvOk.hookN {E : Env} (hE : EnvOk E) (f : FuncId) {h : List AV → Mem → R} (hh : ∀ args m r m', h args m = some (r, m') → FnOk E.P (.fn f) args m r m') : EnvOk { E with H := Abs.hookAt f h E.H } where
  mixed := hE.mixed
  body := fun x hx rs nt c hB => by
    by_cases e : x = f
    · subst e
      have := hookAt_same x h E.H
      rw [show Abs.hookAt x h E.H x = none from hx] at this; cases this
    · exact hE.body x ((hookAt_other e h E.H).symm.trans hx) rs nt c hB
  hook := fun x g hx => by
    by_cases e : x = f
    · subst e
      have := hookAt_same x h E.H
      rw [show Abs.hookAt x h E.H x = some g from hx] at this
      cases this
      exact hh
    · exact hE.hook x g ((hookAt_other e h E.H).symm.trans hx)
end Go.Abs
end
