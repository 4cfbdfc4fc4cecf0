/- Two slices alike; and the chapter's example, in whatever memory. -/
import Derived.Test.YtdmenbeiepfdiaaBagR
import Derived.Test.YtdmenbeiepfdiaaBagS
namespace Go.Proofs.Ytdmenbeiepfdiaa
open Go Go.Abs

abbrev I (n : Int) : AV := .int .i64 n

theorem same_loop {m : Mem} {a b : AV} {xs ys : List Int} (ha : Sl m a (xs.map I)) (hb : Sl m b (ys.map I)) (hl : xs.length = ys.length) (hw : xs.length < 65536) :
    ∀ (d i : Nat), i + d = xs.length → g12_1 a b (.int .i64 i) m = some (.bool (decide (xs.drop i = ys.drop i)), m) := by
  intro d
  induction d with
  | zero =>
    intro i hi
    obtain ⟨a', sz, cap, ex, rfl⟩ := ha.len
    rw [g12_1_eq]
    simp only [len22, Option.bind_some, List.length_map, binA_lss, decide_eq_false (show ¬ (i : Int) < (xs.length : Int) by omega), condA]
    rw [g12_4_eq, List.drop_eq_nil_of_le (by omega), List.drop_eq_nil_of_le (by omega)]
    simp
  | succ d ih =>
    intro i hi
    obtain ⟨a1, sz, cap, ex, rfl, h1, h2, h3⟩ := ha.elem (i := i) (by simp; omega)
    obtain ⟨b1, sz', cap', ex', rfl, h1', h2', h3'⟩ := hb.elem (i := i) (by simp; omega)
    have hx : i < xs.length := by omega
    have hy : i < ys.length := by omega
    simp only [List.length_map] at h2 h2'
    rw [g12_1_eq]
    simp only [len22, Option.bind_some, List.length_map, binA_lss, decide_eq_true (show (i : Int) < (xs.length : Int) by omega), condA]
    rw [g12_2_eq]
    simp only [ix22, h1, h1', if_true, h2, h2', ldE22, h3, h3', List.getElem?_map, List.getElem?_eq_getElem hx, List.getElem?_eq_getElem hy, Option.map_some, Option.bind_some, binA_neq]
    by_cases e : xs[i] = ys[i]
    · simp only [decide_eq_true e, Bool.not_true, condA]
      rw [g12_3_eq]
      simp only [binA_add, Option.bind_some]
      rw [wrap64 (by omega) (by omega)]
      have := ih (i + 1) (by omega)
      simp only [List.length_map] at this
      rw [show ((i : Int) + 1) = ((i + 1 : Nat) : Int) by omega, this]
      rw [List.drop_eq_getElem_cons hx, List.drop_eq_getElem_cons hy, e]
      simp only [List.cons.injEq, true_and]
    · simp only [decide_eq_false e, Bool.not_false, condA]
      rw [List.drop_eq_getElem_cons hx, List.drop_eq_getElem_cons hy]
      simp only [List.cons.injEq, e, false_and, decide_false]
theorem same_is {m : Mem} {a b : AV} {xs ys : List Int} (ha : Sl m a (xs.map I)) (hb : Sl m b (ys.map I)) (hw : xs.length < 65536) : run E 12 [a, b] m = some (.bool (decide (xs = ys)), m) := by
  have hA := ha
  have hB := hb
  obtain ⟨a1, sz, cap, ex, rfl⟩ := ha.len
  obtain ⟨b1, sz', cap', ex', rfl⟩ := hb.len
  rw [f12_eq]
  simp only [len22, Option.bind_some, List.length_map, binA_neq]
  by_cases e : xs.length = ys.length
  · simp only [decide_eq_true (show (xs.length : Int) = (ys.length : Int) by omega), Bool.not_true, condA]
    rw [g12_0_eq]
    have := same_loop hA hB e hw xs.length 0 (by omega)
    simp only [List.length_map, List.drop_zero] at this
    exact this
  · simp only [decide_eq_false (show ¬ (xs.length : Int) = (ys.length : Int) by omega), Bool.not_false, condA]
    rw [decide_eq_false (fun h => e (by rw [h]))]

theorem BagTo.next {m : Mem} {b : Nat} {rb : Option Nat} {v : AV} {l : List AV} {most lost : Int} {r : R} (h : BagTo m b rb v l most lost r) {m0 : Mem} (hf : Fr m0 m []) (hb : m0.next ≤ b) (hrb : ∀ c, rb = some c → m0.next ≤ c) :
    ∃ m' rb', r = some (v, m') ∧ BagAt m' b rb' l most lost ∧ Fr m0 m' [] ∧ ∀ c, rb' = some c → m0.next ≤ c := by
  obtain ⟨m', rb', h1, h2, h3, h4⟩ := h
  refine ⟨m', rb', h1, h2, hf.trans h3 (by simp) ?_, ?_⟩
  · intro c hc hlt
    simp only [List.mem_cons, Option.mem_toList] at hc
    rcases hc with rfl | hc
    · omega
    · have := hrb c hc; omega
  · intro c hc
    rcases h4 with e | ⟨n, e, hn⟩
    · exact hrb c (by rw [← e, hc])
    · rw [e] at hc; cases hc; have := hf.1; omega

theorem ptr_ne (a : AA) : binA Try.prog .eql 23 (.ptr (some a)) (.ptr none) = some (.bool false) := by kernel_rfl

/-- The chapter's example. -/
theorem known_is (m : Mem) : ∃ m', run E 8 [] m = some (.bool true, m') ∧ Fr m m' [] := by
  rw [f8_eq]
  obtain ⟨m1, h1, b1, f1⟩ := newI_ok (m := m) (most := 2) (by omega)
  rw [h1]
  simp only [Option.bind_some, extractA, List.getElem?_cons_zero, List.getElem?_cons_succ, binA_neq, binA_eql, decide_true, Bool.not_true, ifV, ptr_ne, condA]
  rw [g8_0_eq]
  obtain ⟨m2, r2, h2, b2, f2, n2⟩ := (putI_ok b1 (by simp) (by simp) (x := .int .i64 5) rfl).next f1 (Nat.le_refl _) (by simp)
  obtain ⟨m3, r3, h3, b3, f3, n3⟩ := (putI_ok b2 (by simp) (by simp) (x := .int .i64 6) rfl).next f2 (Nat.le_refl _) n2
  obtain ⟨m4, r4, h4, b4, f4, n4⟩ := (putI_full b3 (by simp) (.int .i64 7)).next f3 (Nat.le_refl _) n3
  obtain ⟨m5, r5, h5, b5, f5, n5⟩ := (takeI_in (k := 0) b4 (by simp) (by simp)).next f4 (Nat.le_refl _) n4
  obtain ⟨m6, r6, h6, b6, f6, n6⟩ := (doubleI_ok (k := 0) b5 (by simp) (by simp) (by simp)).next f5 (Nat.le_refl _) n5
  obtain ⟨s, m7, n, h7, k7, l7, f7⟩ := allI_is b6 (by simp)
  have b7 := b6.frame f7 (by simp) (by simp)
  have h5' : run E 10 [.ptr (some ⟨m.next, 0⟩), .int .i64 0] m4 = some (.tup [.int .i64 5, .bool true], m5) := h5
  have h6' : run E 21 [.ptr (some ⟨m.next, 0⟩), .int .i64 0] m5 = some (.bool true, m6) := h6
  have q : run E 27 [.ptr (some ⟨m.next, 0⟩)] m7 = some (.int .i64 1, m7) := lostI_is b7
  have hs : Sl m7 s [.int .i64 6, .int .i64 6] := k7.sl
  obtain ⟨a0, sz0, cap0, ex0, e0, g1, g2, g3⟩ := hs.elem (i := 0) (by simp)
  obtain ⟨a1, sz1, cap1, ex1, e1, g1', g2', g3'⟩ := hs.elem (i := 1) (by simp)
  subst e0
  cases e1
  have g2a : ixA 1 2 a0 0 = some (.ptr (some ⟨a0.b, a0.o + 0⟩)) := g2
  have g2b : ixA 1 2 a0 1 = some (.ptr (some ⟨a0.b, a0.o + 1⟩)) := g2'
  simp only [h2, h3, h4, h5', h6', h7, q, Option.bind_some, ifV, unA, Bool.not_false, extractA, List.getElem?_cons_zero, List.getElem?_cons_succ, binA_eql, decide_true, len22, List.length_cons, List.length_nil, ix22, g1, if_true, g2a, g2b, ldE22, g3, g3',
    show (((0 + 1 + 1 : Nat) : Int) = 2) = True from eq_true rfl]
  exact ⟨m7, rfl, f6.trans f7 (by simp) (by simp)⟩
end Go.Proofs.Ytdmenbeiepfdiaa
