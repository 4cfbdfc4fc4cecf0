/- BagMoves on the abstract machine. -/
import Derived.Test.YtdmenbeiepfdiaaBagK
import Derived.Test.YtdmenbeiepfdiaaAbs23
namespace Go.Proofs.Ytdmenbeiepfdiaa
open Go Go.Abs

theorem hi22_nil {sz c : Nat} {ex : Bool} {k : IntKind} (hc : c = 0) : sliceA Try.prog 22 (.sl none sz 0 c ex) none (some (.int k 0)) = some (.sl none 1 0 0 true) := by
  subst hc
  have : sliceA Try.prog 22 (.sl none sz 0 0 ex) none (some (.int k 0)) = match hiA (some (.int k 0)) 0 0 with
    | some h => match loA none h with
      | some _ => some (.sl none 1 0 0 true)
      | none => none
    | none => none := by kernel_rfl
  rw [this]
  simp [hiA, loA]

/-- All are put in. -/
theorem put_loop {m0 : Mem} {s k : AV} {ys : List Int} {b : Nat} (hs : Sl m0 s (ys.map I)) (hw : ys.length ≤ 256) (hb : m0.next ≤ b) :
    ∀ (d i : Nat) (m : Mem) (rb : Option Nat), i + d = ys.length → BagAt m b rb ((ys.take i).map I) 256 0 → Fr m0 m [] → (∀ c, rb = some c → m0.next ≤ c) →
      ∃ m' rb', g3_1 s k (.ptr (some ⟨b, 0⟩)) (.int .i64 i) m = g3_4 s k (.ptr (some ⟨b, 0⟩)) m' ∧ BagAt m' b rb' (ys.map I) 256 0 ∧ Fr m0 m' [] ∧ ∀ c, rb' = some c → m0.next ≤ c := by
  intro d
  induction d with
  | zero =>
    intro i m rb hi hB hf hrb
    obtain ⟨a', sz, cap, ex, rfl⟩ := hs.len
    refine ⟨m, rb, ?_, by rw [List.take_of_length_le (by omega)] at hB; exact hB, hf, hrb⟩
    rw [g3_1_eq]
    simp only [len22, Option.bind_some, List.length_map, binA_lss, decide_eq_false (show ¬ (i : Int) < (ys.length : Int) by omega), condA]
  | succ d ih =>
    intro i m rb hi hB hf hrb
    have hx : i < ys.length := by omega
    obtain ⟨m1, r1, h1, b1, f1, n1⟩ := (putI_ok hB (by simp; omega) (by simp; omega) (x := I ys[i]) rfl).next hf hb hrb
    have hB' : BagAt m1 b r1 ((ys.take (i + 1)).map I) 256 0 := by
      have : (ys.take (i + 1)).map I = (ys.take i).map I ++ [I ys[i]] := by rw [List.take_succ_eq_append_getElem hx, List.map_append, List.map_cons, List.map_nil]
      rw [this]; exact b1
    obtain ⟨m2, r2, h2, b2, f2, n2⟩ := ih (i + 1) m1 r1 (by omega) hB' f1 n1
    refine ⟨m2, r2, ?_, b2, f2, n2⟩
    obtain ⟨a1, sz, cap, ex, rfl, g1, g2, g3⟩ := (hs.frame hf (by simp)).elem (i := i) (by simpa using hx)
    simp only [List.length_map] at g2
    rw [g3_1_eq]
    simp only [len22, Option.bind_some, List.length_map, binA_lss, decide_eq_true (show (i : Int) < (ys.length : Int) by omega), condA]
    rw [g3_2_eq]
    simp only [ix22, g1, if_true, g2, ldE22, g3, List.getElem?_map, List.getElem?_eq_getElem hx, Option.map_some, Option.bind_some, h1]
    rw [g3_3_eq]
    simp only [binA_add, Option.bind_some]
    rw [wrap64 (by omega) (by omega)]
    simp only [List.length_map] at h2
    rw [show ((i : Int) + 1) = ((i + 1 : Nat) : Int) by omega, h2]

theorem sl_cap {m : Mem} {a : AA} {sz n cap : Nat} {ex : Bool} {l : List AV} (h : Sl m (.sl (some a) sz n cap ex) l) : n ≤ cap := by
  rcases h with ⟨_, _, h, _⟩ | ⟨a', sz', cap', ex', cs, ro, e0, _, e1, _⟩
  · cases h
  · cases e0; exact e1
theorem mapI_erase (ys : List Int) (p : Nat) : (ys.map I).eraseIdx p = (ys.eraseIdx p).map I := by
  simp only [List.eraseIdx_eq_take_drop_succ, List.map_append, List.map_take, List.map_drop]

theorem one_mapI (ys : List Int) : (ys.map I).all AV.one = true := by
  simp [AV.one]

theorem moves_none {m0 m : Mem} {a : Option AA} {sz cap : Nat} {ex : Bool} {b : Nat} {rb : Option Nat} (hB : BagAt m b rb [] 256 0) (_ : Fr m0 m []) (k : Int) :
    ∃ m', g3_1 (.sl a sz 0 cap ex) (.int .i64 k) (.ptr (some ⟨b, 0⟩)) (.int .i64 0) m = some (.bool true, m') := by
  rw [g3_1_eq]
  simp only [len22, Option.bind_some, binA_lss, decide_eq_false (show ¬ (0 : Int) < ((0 : Nat) : Int) by omega), condA]
  rw [g3_4_eq]
  simp only [len22, Option.bind_some, binA_eql, show (((0 : Nat) : Int) = 0) = True from eq_true rfl, decide_true, condA, takeI_out hB (k := k) (by simp; omega), extractA, List.getElem?_cons_zero, List.getElem?_cons_succ, unA, Bool.not_false]
  exact ⟨_, rfl⟩

/-- From the row on. -/
theorem moves_tail {m0 : Mem} {s : AV} {ys : List Int} {b : Nat} (hs : Sl m0 s (ys.map I)) (hw : ys.length ≤ 256) (hb : m0.next ≤ b) {m : Mem} (hB : BagAt m b none [] 256 0) (hf : Fr m0 m []) (k : Int) :
    ∃ m', g3_1 s (.int .i64 k) (.ptr (some ⟨b, 0⟩)) (.int .i64 0) m = some (.bool true, m') := by
  obtain ⟨m1, r1, h1, b1, f1, n1⟩ := put_loop (k := .int .i64 k) hs hw hb ys.length 0 m none (by omega) (by simpa using hB) hf (by simp)
  have h1' : g3_1 s (.int .i64 k) (.ptr (some ⟨b, 0⟩)) (.int .i64 0) m = g3_4 s (.int .i64 k) (.ptr (some ⟨b, 0⟩)) m1 := h1
  rw [h1', g3_4_eq]
  have hs1 := hs.frame f1 (by simp)
  by_cases h0 : ys.length = 0
  · obtain ⟨a', sz, cap, ex, rfl⟩ := hs.len
    have : ys = [] := List.length_eq_zero_iff.1 h0
    subst this
    simp only [len22, Option.bind_some, List.length_map, List.length_nil, binA_eql, show (((0 : Nat) : Int) = 0) = True from eq_true rfl, decide_true, condA, takeI_out b1 (k := k) (by simp; omega), extractA, List.getElem?_cons_zero, List.getElem?_cons_succ, unA, Bool.not_false]
    exact ⟨_, rfl⟩
  · have hpos : 0 < ys.length := by omega
    have hp0 : 0 ≤ k % (ys.length : Int) := Int.emod_nonneg _ (by omega)
    have hp1 : k % (ys.length : Int) < (ys.length : Int) := Int.emod_lt_of_pos _ (by omega)
    obtain ⟨p, hp⟩ : ∃ p : Nat, k % (ys.length : Int) = (p : Int) := ⟨(k % (ys.length : Int)).toNat, by omega⟩
    have hpl : p < ys.length := by omega
    obtain ⟨m2, r2, h2, b2, f2, n2⟩ := (takeI_in (k := p) b1 (by simpa using hpl) (by simp; omega)).next f1 hb n1
    have hs2 := hs.frame f2 (by simp)
    obtain ⟨a1, sz, cap, ex, rfl, g1, g2, g3⟩ := hs2.elem (i := p) (by simpa using hpl)
    simp only [List.length_map] at g2 hs2 h1 h1'
    have hcap : ys.length ≤ cap := sl_cap hs2
    have hk1 : IntKind.wrap .i64 ((p : Int) + 1) = ((p + 1 : Nat) : Int) := by rw [wrap64 (by omega) (by omega)]; try rfl
    obtain ⟨s3, m3, n3, c1, c2, c3, c4⟩ := copy_row (w := 8) (l := (ys.map I).take p) (sl_take (k := p) hs2 (by simp; omega)) (by rw [← List.map_take]; exact one_mapI _) (by simp; unfold maxBytes; omega)
    have hd : Sl m3 (.sl (some ⟨a1.b, a1.o + (p + 1)⟩) 1 (ys.length - (p + 1)) (cap - (p + 1)) ex) ((ys.map I).drop (p + 1)) := (sl_drop (k := p + 1) hs2 (by simp; omega)).frame c4 (by simp)
    obtain ⟨s4, m4, n4, d1, d2, d3, d4⟩ := more_row (w := 8) c2 c3 c4 hd (by rw [← List.map_drop]; exact one_mapI _) (by simp; unfold maxBytes; omega)
    have f4 : Fr m0 m4 [] := f2.trans d4 (by simp) (by simp)
    have g3' : ld1 m4 (.ptr (some ⟨a1.b, a1.o + p⟩)) = some (I ys[p]) := by
      obtain ⟨a1', sz', cap', ex', e, _, _, h3⟩ := (hs.frame f4 (by simp)).elem (i := p) (by simpa using hpl)
      cases e
      rw [h3]; simp [hpl]
    obtain ⟨s5, m5, n5, e1, e2, e3, e4⟩ := allI_is (b2.frame d4 (by simp) (by simp)) (by rw [mapI_erase, List.length_map]; have := List.length_eraseIdx_le ys p; omega)
    have hr5 : Sl m5 s5 ((ys.eraseIdx p).map I) := by rw [← mapI_erase]; exact e2.sl
    have hr4 : Sl m5 s4 ((ys.eraseIdx p).map I) := by
      have := (d2.frame e4 (by simp)).sl
      rw [← List.eraseIdx_eq_take_drop_succ, mapI_erase] at this
      exact this
    have hsame := same_is hr5 hr4 (by have := List.length_eraseIdx_le ys p; omega)
    simp only [len22, Option.bind_some, List.length_map, binA_eql, decide_eq_false (show ¬ (ys.length : Int) = 0 by omega), condA]
    rw [g3_5_eq]
    simp only [len22, Option.bind_some, List.length_map, pick_is m1 k (show (0 : Int) < ys.length by omega) (by omega), hp, h2, extractA, List.getElem?_cons_zero, List.getElem?_cons_succ, hi22 g1 (show p ≤ cap by omega), c1, binA_add, hk1, lo22 g1 (show p + 1 ≤ ys.length by omega), d1,
      ifV, ix22, g1, if_true, g2, ldE22, g3', List.getElem_map, binA_eql, decide_true, e1, hsame]
    exact ⟨_, rfl⟩

theorem moves_is {m : Mem} {s : AV} {xs : List Int} (hs : Sl m s (xs.map I) ∨ xs = [] ∧ ∃ a cap, s = .sl (some a) 0 0 cap true) (k : Int) : ∃ m', run E 3 [s, .int .i64 k] m = some (.bool true, m') := by
  rw [f3_eq]
  obtain ⟨m1, h1, b1, f1⟩ := newI_ok (m := m) (most := 256) (by omega)
  obtain ⟨m2, h2, f2⟩ := known_is m1
  have b2 := b1.frame f2 (by simp) (by simp)
  have f12 : Fr m m2 [] := f1.trans f2 (by simp) (by simp)
  simp only [h1, h2, Option.bind_some, extractA, List.getElem?_cons_zero, List.getElem?_cons_succ, unA, Bool.not_true, binA_neq, binA_eql, decide_true, ifV, ptr_ne, condA]
  rw [g3_0_eq]
  rcases hs with hs | ⟨rfl, a, cap, rfl⟩
  · obtain ⟨a', sz, cap, ex, rfl⟩ := hs.len
    simp only [len22, Option.bind_some, List.length_map, minA]
    have hmin : (if (256 : Int) < (xs.length : Int) then (256 : Int) else (xs.length : Int)) = ((min xs.length 256 : Nat) : Int) := by split <;> omega
    rw [hmin]
    cases a' with
    | none =>
      rcases hs with ⟨_, _, h, h'⟩ | ⟨a', sz', cap', ex', cs, ro, e0, _⟩
      · have : xs = [] := by simpa using h'
        subst this
        cases h
        rw [show (((min ([] : List Int).length 256 : Nat)) : Int) = 0 from rfl]
        simp only [List.map_nil, List.length_nil]
        rw [hi22_nil rfl]
        exact moves_tail (m0 := m) (ys := []) (.inl ⟨_, _, rfl, rfl⟩) (by simp) (Nat.le_refl _) b2 f12 k
      · cases e0
    | some a =>
      have hc : xs.length ≤ cap ∧ (1 = sz ∨ ex = true) := by
        rcases hs with ⟨_, _, h, _⟩ | ⟨a', sz', cap', ex', cs, ro, e0, e3, e1, _⟩
        · cases h
        · cases e0; exact ⟨by simpa using e1, e3⟩
      rw [hi22 hc.2 (show min xs.length 256 ≤ cap by omega)]
      have hs' := sl_take (k := min xs.length 256) hs (by simp; omega)
      rw [← List.map_take] at hs'
      exact moves_tail hs' (by simp; omega) (Nat.le_refl _) b2 f12 k
  · simp only [len22, Option.bind_some, minA]
    rw [show (if (256 : Int) < ((0 : Nat) : Int) then (256 : Int) else ((0 : Nat) : Int)) = ((0 : Nat) : Int) from rfl, hi22 (.inr rfl) (Nat.zero_le _)]
    simp only [Option.bind_some]
    exact moves_none b2 f12 k
end Go.Proofs.Ytdmenbeiepfdiaa
