/- What the methods of a bag do, in the abstract memory: a bag of numbers. -/
import Derived.Test.YtdmenbeiepfdiaaBag0
namespace Go.Proofs.Ytdmenbeiepfdiaa
open Go Go.Abs

theorem fa52_0 (a : AA) : fieldAddrA Try.prog 52 (.ptr (some a)) 0 = some (.ptr (some ⟨a.b, a.o⟩)) := by kernel_rfl
theorem fa52_1 (a : AA) : fieldAddrA Try.prog 52 (.ptr (some a)) 1 = some (.ptr (some ⟨a.b, a.o + 1⟩)) := by kernel_rfl
theorem fa52_2 (a : AA) : fieldAddrA Try.prog 52 (.ptr (some a)) 2 = some (.ptr (some ⟨a.b, a.o + 2⟩)) := by kernel_rfl
theorem ldS22 (p : AV) (m : Mem) : loadA Try.prog 22 p m = ld1 m p := by kernel_rfl
theorem ldE22 (p : AV) (m : Mem) : loadA Try.prog 3 p m = ld1 m p := by kernel_rfl
theorem len22 (a : Option AA) (sz n c : Nat) (e : Bool) : lenT Try.prog 22 (.sl a sz n c e) = some (.int .i64 n) := by kernel_rfl
theorem ix22 (a : AA) (sz n c : Nat) (e : Bool) (k : IntKind) (i : Int) : indexAddrA Try.prog 22 (.sl (some a) sz n c e) (.int k i) = if 1 = sz ∨ e = true then ixA 1 n a i else none := by kernel_rfl
theorem hi22 {a : AA} {sz n c : Nat} {e : Bool} {k : IntKind} {h : Nat} (hs : 1 = sz ∨ e = true) (hh : h ≤ c) : sliceA Try.prog 22 (.sl (some a) sz n c e) none (some (.int k h)) = some (.sl (some a) 1 h c e) := by
  have : sliceA Try.prog 22 (.sl (some a) sz n c e) none (some (.int k h)) = match hiA (some (.int k h)) n c with
    | some h => match loA none h with
      | some l => if 1 = sz ∨ e = true then some (.sl (some ⟨a.b, a.o + l * 1⟩) 1 (h - l) (c - l) e) else none
      | none => none
    | none => none := by kernel_rfl
  rw [this]
  simp [hiA, loA, hs, hh]
theorem lo22 {a : AA} {sz n c : Nat} {e : Bool} {k : IntKind} {l : Nat} (hs : 1 = sz ∨ e = true) (hl : l ≤ n) : sliceA Try.prog 22 (.sl (some a) sz n c e) (some (.int k l)) none = some (.sl (some ⟨a.b, a.o + l⟩) 1 (n - l) (c - l) e) := by
  have : sliceA Try.prog 22 (.sl (some a) sz n c e) (some (.int k l)) none = match hiA none n c with
    | some h => match loA (some (.int k l)) h with
      | some l => if 1 = sz ∨ e = true then some (.sl (some ⟨a.b, a.o + l * 1⟩) 1 (h - l) (c - l) e) else none
      | none => none
    | none => none := by kernel_rfl
  rw [this]
  simp [hiA, loA, hs, hl]

section
variable {m : Mem} {b : Nat} {rb : Option Nat} {l : List AV} {most lost : Int}

theorem putI_full (h : BagAt m b rb l most lost) (hf : most ≤ l.length) (x : AV) :
    BagTo m b rb (.bool false) l most (IntKind.wrap .i64 (lost + 1)) (run E 9 [.ptr (some ⟨b, 0⟩), x] m) := by
  obtain ⟨s, hb, hr, hne, hone⟩ := h
  obtain ⟨a, sz, cap, ex, rfl⟩ := hr.sl.len
  rw [f9_eq]
  simp only [nnA, Option.bind_some, fa52_0, fa52_1, fa52_2, ldS22, ld3, len22, ld1_of hb, List.getElem?_cons_zero, List.getElem?_cons_succ, Nat.zero_add, binA_geq, binA_add, decide_eq_true hf, condA]
  rw [stV1 hb (by rfl) (by simp)]
  refine ⟨_, rb, rfl, ⟨_, by rw [Mem.get_put, if_pos ⟨rfl, Mem.get_lt hb⟩]; rfl, hr.frame (Fr.put _ _ _) ?_, hne, hone⟩, (Fr.put _ _ _).mono (by simp), .inl rfl⟩
  intro c hc hm
  simp only [List.mem_singleton] at hm
  exact hne (by rw [hc, hm])

theorem putI_ok (h : BagAt m b rb l most lost) (hf : l.length < most) (hw : l.length < 65536) {x : AV} (hx : x.one = true) :
    BagTo m b rb (.bool true) (l ++ [x]) most lost (run E 9 [.ptr (some ⟨b, 0⟩), x] m) := by
  obtain ⟨s, hb, hr, hne, hone⟩ := h
  obtain ⟨a, sz, cap, ex, rfl⟩ := hr.sl.len
  rw [f9_eq]
  simp only [nnA, Option.bind_some, fa52_0, fa52_1, fa52_2, ldS22, ld3, len22, ld1_of hb, List.getElem?_cons_zero, List.getElem?_cons_succ, Nat.zero_add, binA_geq, decide_eq_false (show ¬ most ≤ (l.length : Int) by omega), condA]
  rw [g9_0_eq]
  simp only [nnA, Option.bind_some, fa52_0, ldS22, ld1_of hb, List.getElem?_cons_zero, bs_one hx]
  exact add_row hb hr hne hone hx (by omega) (by unfold maxBytes; omega)

theorem peekI_in (h : BagAt m b rb l most lost) {k : Nat} (hk : k < l.length) : run E 23 [.ptr (some ⟨b, 0⟩), .int .i64 k] m = some (.tup [l[k], .bool true], m) := by
  obtain ⟨s, hb, hr, hne, hone⟩ := h
  obtain ⟨a, sz, cap, ex, rfl, h1, h2, h3⟩ := hr.sl.elem hk
  rw [f23_eq]
  simp only [nnA, Option.bind_some, fa52_0, ldS22, len22, ld1_of hb, List.getElem?_cons_zero, binA_geq, binA_lss, decide_eq_false (show ¬ (k : Int) < 0 by omega), decide_eq_false (show ¬ (l.length : Int) ≤ (k : Int) by omega), condA, ifV]
  rw [g23_0_eq]
  simp only [nnA, Option.bind_some, fa52_0, ldS22, ldE22, ld1_of hb, List.getElem?_cons_zero, ix22, h1, if_true, h2, h3, List.getElem?_eq_getElem hk]
theorem peekI_out (h : BagAt m b rb l most lost) {k : Int} (hk : k < 0 ∨ (l.length : Int) ≤ k) : run E 23 [.ptr (some ⟨b, 0⟩), .int .i64 k] m = some (.tup [.int .i64 0, .bool false], m) := by
  obtain ⟨s, hb, hr, hne, hone⟩ := h
  obtain ⟨a, sz, cap, ex, rfl⟩ := hr.sl.len
  rw [f23_eq]
  by_cases h0 : k < 0
  · simp only [binA_lss, decide_eq_true h0, Option.bind_some, ifV]
  · have h1 : (l.length : Int) ≤ k := by omega
    simp only [nnA, Option.bind_some, fa52_0, ldS22, len22, ld1_of hb, List.getElem?_cons_zero, binA_geq, binA_lss, decide_eq_false h0, decide_eq_true h1, condA, ifV]

theorem lenI_is (h : BagAt m b rb l most lost) : run E 26 [.ptr (some ⟨b, 0⟩)] m = some (.int .i64 l.length, m) := by
  obtain ⟨s, hb, hr, hne, hone⟩ := h
  obtain ⟨a, sz, cap, ex, rfl⟩ := hr.sl.len
  rw [f26_eq]
  simp only [nnA, Option.bind_some, fa52_0, ldS22, len22, ld1_of hb, List.getElem?_cons_zero]
theorem lostI_is (h : BagAt m b rb l most lost) : run E 27 [.ptr (some ⟨b, 0⟩)] m = some (.int .i64 lost, m) := by
  obtain ⟨s, hb, hr, hne, hone⟩ := h
  rw [f27_eq]
  simp only [nnA, Option.bind_some, fa52_2, ld3, ld1_of hb, List.getElem?_cons_zero, List.getElem?_cons_succ, Nat.zero_add]

theorem takeI_in (h : BagAt m b rb l most lost) {k : Nat} (hk : k < l.length) (hw : l.length < 65536) : BagTo m b rb (.tup [l[k], .bool true]) (l.eraseIdx k) most lost (run E 10 [.ptr (some ⟨b, 0⟩), .int .i64 k] m) := by
  rw [f10_eq, peekI_in h hk]
  obtain ⟨s, hb, hr, hne, hone⟩ := h
  obtain ⟨a, cap, ex, s', m', rfl, h1, h1', h2, h3, h4, h5, h6⟩ := remove_row (w := 8) hr hk hone
  have hs : (1 : Nat) = 1 ∨ ex = true := .inl rfl
  have hk1 : IntKind.wrap .i64 ((k : Int) + 1) = ((k + 1 : Nat) : Int) := by rw [wrap64 (by omega) (by omega)]; try rfl
  simp only [Option.bind_some, extractA, List.getElem?_cons_zero, List.getElem?_cons_succ, condA, nnA, fa52_0, ldS22, ld1_of hb, binA_add, hk1, hi22 hs h1, lo22 hs (show k + 1 ≤ l.length by omega), h3]
  have hb' : m'.get b = some (.cells [.sl (some a) 1 l.length cap ex, .int .i64 most, .int .i64 lost] false) := h5.get hb (by rw [h2]; simp; intro e; exact hne (by rw [h2, e]))
  rw [stV_row hb' h4]
  simp only [Option.bind_some]
  rw [g10_0_eq]
  refine ⟨_, rb, rfl, ⟨_, by rw [Mem.get_put, if_pos ⟨rfl, Mem.get_lt hb'⟩], h4.frame (Fr.put _ _ _) ?_, hne, ?_⟩, h5.trans (Fr.put _ _ _) (by simp +contextual) (by simp), .inl rfl⟩
  · intro c hc hm
    simp only [List.mem_singleton] at hm
    exact hne (by rw [hc, hm])
  · rw [List.all_eq_true] at hone ⊢
    exact fun v hv => hone v (List.mem_of_mem_eraseIdx hv)
theorem takeI_out (h : BagAt m b rb l most lost) {k : Int} (hk : k < 0 ∨ (l.length : Int) ≤ k) : run E 10 [.ptr (some ⟨b, 0⟩), .int .i64 k] m = some (.tup [.int .i64 0, .bool false], m) := by
  rw [f10_eq, peekI_out h hk]
  simp only [Option.bind_some, extractA, List.getElem?_cons_zero, List.getElem?_cons_succ, condA]
  rw [g10_0_eq]

theorem doubleI_out (h : BagAt m b rb l most lost) {k : Int} (hk : k < 0 ∨ (l.length : Int) ≤ k) : run E 21 [.ptr (some ⟨b, 0⟩), .int .i64 k] m = some (.bool false, m) := by
  rw [f21_eq, peekI_out h hk]
  simp only [Option.bind_some, extractA, List.getElem?_cons_zero, List.getElem?_cons_succ, unA, Bool.not_false, ifV]
theorem doubleI_full (h : BagAt m b rb l most lost) {k : Nat} (hk : k < l.length) (hf : most ≤ l.length) : run E 21 [.ptr (some ⟨b, 0⟩), .int .i64 k] m = some (.bool false, m) := by
  rw [f21_eq, peekI_in h hk]
  obtain ⟨s, hb, hr, hne, hone⟩ := h
  obtain ⟨a, sz, cap, ex, rfl⟩ := hr.sl.len
  simp only [Option.bind_some, extractA, List.getElem?_cons_zero, List.getElem?_cons_succ, unA, Bool.not_true, ifV, nnA, fa52_0, fa52_1, ldS22, ld3, len22, ld1_of hb, Nat.zero_add, binA_geq, decide_eq_true hf, condA]
theorem doubleI_ok (h : BagAt m b rb l most lost) {k : Nat} (hk : k < l.length) (hf : l.length < most) (hw : l.length < 65536) :
    BagTo m b rb (.bool true) (l ++ [l[k]]) most lost (run E 21 [.ptr (some ⟨b, 0⟩), .int .i64 k] m) := by
  rw [f21_eq, peekI_in h hk]
  obtain ⟨s, hb, hr, hne, hone⟩ := h
  obtain ⟨a, sz, cap, ex, rfl⟩ := hr.sl.len
  have hx : (l[k]).one = true := (List.all_eq_true.1 hone) _ (List.getElem_mem hk)
  simp only [Option.bind_some, extractA, List.getElem?_cons_zero, List.getElem?_cons_succ, unA, Bool.not_true, ifV, nnA, fa52_0, fa52_1, ldS22, ld3, len22, ld1_of hb, Nat.zero_add, binA_geq, decide_eq_false (show ¬ most ≤ (l.length : Int) by omega), condA]
  rw [g21_0_eq]
  simp only [nnA, Option.bind_some, fa52_0, ldS22, ld1_of hb, List.getElem?_cons_zero, bs_one hx]
  exact add_row hb hr hne hone hx (by omega) (by unfold maxBytes; omega)

theorem allI_is (h : BagAt m b rb l most lost) (hw : l.length < 65536) : ∃ s m' n, run E 13 [.ptr (some ⟨b, 0⟩)] m = some (s, m') ∧ Row m' s l (some n) ∧ m.next ≤ n ∧ Fr m m' [] := by
  obtain ⟨s, hb, hr, hne, hone⟩ := h
  rw [f13_eq]
  have hf0 := Fr.alloc m []
  simp only [nnA, Option.bind_some, fa52_0, ldS22, ld1_of (hf0.get hb (by simp)), List.getElem?_cons_zero]
  exact all_row hr hone (by unfold maxBytes; omega)

theorem newI_bad {most : Int} (hm : most < 1 ∨ 256 < most) : run E 7 [.int .i64 most] m = some (.tup [.ptr none, .int .i64 1], m) := by
  rw [f7_eq]
  by_cases h : most < 1
  · simp only [binA_lss, decide_eq_true h, Option.bind_some, ifV]
  · simp only [binA_lss, binA_gtr, decide_eq_false h, decide_eq_true (show (256 : Int) < most by omega), Option.bind_some, ifV, condA]
theorem newI_ok {most : Int} (hm : 1 ≤ most ∧ most ≤ 256) : ∃ m', run E 7 [.int .i64 most] m = some (.tup [.ptr (some ⟨m.next, 0⟩), .int .i64 0], m') ∧ BagAt m' m.next none [] most 0 ∧ Fr m m' [] := by
  rw [f7_eq]
  simp only [binA_lss, binA_gtr, decide_eq_false (show ¬ most < 1 by omega), decide_eq_false (show ¬ (256 : Int) < most by omega), Option.bind_some, ifV, condA]
  rw [g7_0_eq]
  have hb : buildA Try.prog 52 [(1, .int .i64 most)] = some (.agg [.sl none 0 0 0 true, .int .i64 most, .int .i64 0]) := by kernel_rfl
  rw [hb]
  exact ⟨_, rfl, ⟨_, by rw [Mem.get_alloc, if_pos rfl], .inl ⟨⟨_, _, rfl⟩, rfl, rfl⟩, by simp, rfl⟩, Fr.alloc _ _⟩
end
end Go.Proofs.Ytdmenbeiepfdiaa
