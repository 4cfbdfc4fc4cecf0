/- What the document's bag does, in the abstract memory; Pick and same. -/
import Derived.Test.YtdmenbeiepfdiaaBagI
namespace Go.Proofs.Ytdmenbeiepfdiaa
open Go Go.Abs

/-- The document's bag at a block. -/
def RefAt (m : Mem) (b : Nat) (rb : Option Nat) (l : List AV) (most lost : Int) : Prop :=
  ∃ s, m.get b = some (.cells [.int .i64 most, .int .i64 lost, s] false) ∧ Row m s l rb ∧ rb ≠ some b ∧ l.all AV.one = true
def RefTo (m : Mem) (b : Nat) (rb : Option Nat) (v : AV) (l : List AV) (most lost : Int) (r : R) : Prop :=
  ∃ m' rb', r = some (v, m') ∧ RefAt m' b rb' l most lost ∧ Fr m m' (b :: rb.toList) ∧ (rb' = rb ∨ ∃ n, rb' = some n ∧ m.next ≤ n)
theorem RefAt.frame {m m' : Mem} {b : Nat} {rb : Option Nat} {l : List AV} {most lost : Int} {S : List Nat} (h : RefAt m b rb l most lost) (hf : Fr m m' S) (hb : b ∉ S) (hr : ∀ c, rb = some c → c ∉ S) : RefAt m' b rb l most lost := by
  obtain ⟨s, h1, h2, h3, h4⟩ := h
  exact ⟨s, hf.get h1 hb, h2.frame hf hr, h3, h4⟩
theorem RefAt.lt {m : Mem} {b : Nat} {rb : Option Nat} {l : List AV} {most lost : Int} (h : RefAt m b rb l most lost) : b < m.next := by
  obtain ⟨s, h1, h2, h3, h4⟩ := h
  exact Mem.get_lt h1
theorem RefAt.rlt {m : Mem} {b c : Nat} {l : List AV} {most lost : Int} (h : RefAt m b (some c) l most lost) : c < m.next := by
  obtain ⟨s, h1, h2, h3, h4⟩ := h
  exact h2.lt

theorem fa45_0 (a : AA) : fieldAddrA Try.prog 45 (.ptr (some a)) 0 = some (.ptr (some ⟨a.b, a.o⟩)) := by kernel_rfl
theorem fa45_1 (a : AA) : fieldAddrA Try.prog 45 (.ptr (some a)) 1 = some (.ptr (some ⟨a.b, a.o + 1⟩)) := by kernel_rfl
theorem fa45_2 (a : AA) : fieldAddrA Try.prog 45 (.ptr (some a)) 2 = some (.ptr (some ⟨a.b, a.o + 2⟩)) := by kernel_rfl

theorem sl_take {m : Mem} {a : AA} {sz n cap : Nat} {ex : Bool} {l : List AV} (h : Sl m (.sl (some a) sz n cap ex) l) {k : Nat} (hk : k ≤ l.length) : Sl m (.sl (some a) 1 k cap ex) (l.take k) := by
  rcases h with ⟨sz, ex, h, _⟩ | ⟨a', sz', cap', ex', cs, ro, h0, hs, h1, h2, h3, h4⟩
  · cases h
  · cases h0
    have e : (l.take k).length = k := by simp; omega
    refine .inr ⟨a, 1, cap, ex, cs, ro, by rw [e], .inl rfl, by omega, h2, by omega, ?_⟩
    have := congrArg (List.take k) h4
    rw [List.take_take, Nat.min_eq_left hk] at this
    rw [e]; exact this
theorem sl_drop {m : Mem} {a : AA} {sz n cap : Nat} {ex : Bool} {l : List AV} (h : Sl m (.sl (some a) sz n cap ex) l) {k : Nat} (hk : k ≤ l.length) : Sl m (.sl (some ⟨a.b, a.o + k⟩) 1 (n - k) (cap - k) ex) (l.drop k) := by
  rcases h with ⟨sz, ex, h, _⟩ | ⟨a', sz', cap', ex', cs, ro, h0, hs, h1, h2, h3, h4⟩
  · cases h
  · cases h0
    have e : (l.drop k).length = l.length - k := by simp
    refine .inr ⟨⟨a.b, a.o + k⟩, 1, cap - k, ex, cs, ro, by rw [e], .inl rfl, by omega, h2, by simp; omega, ?_⟩
    rw [e, ← List.drop_drop, ← List.drop_take, h4]

/-- A fresh copy. -/
theorem copy_row {m : Mem} {s : AV} {l : List AV} {w : Nat} (hr : Sl m s l) (hone : l.all AV.one = true) (hw : l.length * w ≤ maxBytes) :
    ∃ s' m' n, appendA 1 w (.sl (some ⟨m.next, 0⟩) 1 0 0 true) s (m.alloc []) = some (s', m') ∧ Row m' s' l (some n) ∧ m.next ≤ n ∧ Fr m m' [] := by
  have hf0 := Fr.alloc m []
  have hr0 : Sl (m.alloc []) s l := hr.frame hf0 (by simp)
  have hn : Row (m.alloc []) (.sl (some ⟨m.next, 0⟩) 1 0 0 true) [] (some m.next) := .inr ⟨m.next, [], true, rfl, rfl, by simp [Mem.get_alloc]⟩
  obtain ⟨s', m', rb', h1, h2, h3, h4⟩ := append_row (x := s) hn hr0 hone (by simpa using hw)
  refine ⟨s', m', rb'.getD 0, h1, ?_, ?_, ?_⟩
  · rcases h4 with e | e <;> (subst e; simpa using h2)
  · rcases h4 with e | e <;> (subst e; simp)
  · refine ⟨Nat.le_trans hf0.1 h3.1, fun c hc _ => ?_⟩
    rw [h3.2 c (Nat.lt_of_lt_of_le hc hf0.1) (by simp; omega), hf0.2 c hc (by simp)]

/-- One is appended to a row that is fresh. -/
theorem push_row {m0 m : Mem} {s x : AV} {l : List AV} {n w : Nat} (hr : Row m s l (some n)) (hn : m0.next ≤ n) (hf : Fr m0 m []) (hx : x.one = true) (hw : (l.length + 1) * w ≤ maxBytes) :
    ∃ s' m' n', appendA 1 w s (.sl (some ⟨m.next, 0⟩) 1 1 1 true) (m.alloc [x]) = some (s', m') ∧ Row m' s' (l ++ [x]) (some n') ∧ m0.next ≤ n' ∧ Fr m0 m' [] := by
  have hf0 := Fr.alloc m [x]
  have hS : Sl (m.alloc [x]) (.sl (some ⟨m.next, 0⟩) 1 1 1 true) [x] := .inr ⟨⟨m.next, 0⟩, 1, 1, true, [x], false, rfl, .inl rfl, Nat.le_refl _, by simp [Mem.get_alloc], by simp, by simp⟩
  obtain ⟨s', m', rb', h1, h2, h3, h4⟩ := append_row (hr.frame hf0 (by simp)) hS (by simp [hx]) (by simpa using hw)
  have hm := hf.1
  refine ⟨s', m', rb'.getD 0, h1, ?_, ?_, ?_⟩
  · rcases h4 with e | e <;> (subst e; simpa using h2)
  · rcases h4 with e | e <;> (subst e; simp; omega)
  · refine ⟨Nat.le_trans hm (Nat.le_trans hf0.1 h3.1), fun c hc _ => ?_⟩
    rw [h3.2 c (by simp; omega) (by simp; omega), hf0.2 c (by omega) (by simp), hf.2 c hc (by simp)]
/-- Some are appended to a row that is fresh. -/
theorem more_row {m0 m : Mem} {s x : AV} {l new : List AV} {n w : Nat} (hr : Row m s l (some n)) (hn : m0.next ≤ n) (hf : Fr m0 m []) (hx : Sl m x new) (hone : new.all AV.one = true) (hw : (l.length + new.length) * w ≤ maxBytes) :
    ∃ s' m' n', appendA 1 w s x m = some (s', m') ∧ Row m' s' (l ++ new) (some n') ∧ m0.next ≤ n' ∧ Fr m0 m' [] := by
  obtain ⟨s', m', rb', h1, h2, h3, h4⟩ := append_row hr hx hone hw
  have hm := hf.1
  refine ⟨s', m', rb'.getD 0, h1, ?_, ?_, ?_⟩
  · rcases h4 with e | e <;> (subst e; simpa using h2)
  · rcases h4 with e | e <;> (subst e; simp; omega)
  · refine ⟨Nat.le_trans hm h3.1, fun c hc _ => ?_⟩
    rw [h3.2 c (by omega) (by simp; omega), hf.2 c hc (by simp)]

section
variable {m : Mem} {b : Nat} {rb : Option Nat} {l : List AV} {most lost : Int}

theorem ref_set {m m' : Mem} {s s' x y : AV} {l' : List AV} {n : Nat} (hb : m.get b = some (.cells [.int .i64 most, .int .i64 lost, s] false)) (hf : Fr m m' []) (hr : Row m' s' l' (some n)) (hn : m.next ≤ n) (hone : l'.all AV.one = true) :
    ∃ m'', stV m' (.ptr (some ⟨b, 2⟩)) s' 1 = some m'' ∧ RefAt m'' b (some n) l' most lost ∧ Fr m m'' (b :: rb.toList) := by
  have hb' := hf.get hb (by simp)
  have hbm := Mem.get_lt hb
  rw [stV1 hb' (cells_one (row_one hr)) (by simp)]
  refine ⟨_, rfl, ⟨s', by rw [Mem.get_put, if_pos ⟨rfl, Mem.get_lt hb'⟩]; rfl, hr.frame (Fr.put _ _ _) ?_, by simp; omega, hone⟩, hf.trans (Fr.put _ _ _) (by simp) (by simp)⟩
  intro c hc hm
  simp only [List.mem_singleton] at hm
  simp only [Option.some.injEq] at hc
  omega

theorem rput_full (h : RefAt m b rb l most lost) (hf : most ≤ l.length) (x : AV) :
    RefTo m b rb (.bool false) l most (IntKind.wrap .i64 (lost + 1)) (run E 25 [.ptr (some ⟨b, 0⟩), x] m) := by
  obtain ⟨s, hb, hr, hne, hone⟩ := h
  obtain ⟨a, sz, cap, ex, rfl⟩ := hr.sl.len
  rw [f25_eq]
  simp only [nnA, Option.bind_some, fa45_0, fa45_1, fa45_2, ldS22, ld3, len22, ld1_of hb, List.getElem?_cons_zero, List.getElem?_cons_succ, Nat.zero_add, binA_geq, binA_add, decide_eq_true hf, condA]
  rw [stV1 hb (by rfl) (by simp)]
  refine ⟨_, rb, rfl, ⟨_, by rw [Mem.get_put, if_pos ⟨rfl, Mem.get_lt hb⟩]; rfl, hr.frame (Fr.put _ _ _) ?_, hne, hone⟩, (Fr.put _ _ _).mono (by simp), .inl rfl⟩
  intro c hc hm
  simp only [List.mem_singleton] at hm
  exact hne (by rw [hc, hm])

theorem rput_ok (h : RefAt m b rb l most lost) (hf : l.length < most) (hw : l.length < 65536) {x : AV} (hx : x.one = true) :
    RefTo m b rb (.bool true) (l ++ [x]) most lost (run E 25 [.ptr (some ⟨b, 0⟩), x] m) := by
  obtain ⟨s, hb, hr, hne, hone⟩ := h
  obtain ⟨a, sz, cap, ex, rfl⟩ := hr.sl.len
  rw [f25_eq]
  simp only [nnA, Option.bind_some, fa45_0, fa45_1, fa45_2, ldS22, ld3, len22, ld1_of hb, List.getElem?_cons_zero, List.getElem?_cons_succ, Nat.zero_add, binA_geq, decide_eq_false (show ¬ most ≤ (l.length : Int) by omega), condA]
  rw [g25_0_eq]
  obtain ⟨s1, m1, n1, h1, h2, h3, h4⟩ := copy_row (w := 8) hr.sl hone (by unfold maxBytes; omega)
  simp only [nnA, Option.bind_some, fa45_2, ldS22, ld1_of ((Fr.alloc m []).get hb (by simp)), List.getElem?_cons_zero, List.getElem?_cons_succ, Nat.zero_add, h1, bs_one hx]
  obtain ⟨s2, m2, n2, k1, k2, k3, k4⟩ := push_row (w := 8) h2 h3 h4 hx (by unfold maxBytes; omega)
  rw [k1]
  simp only [Option.bind_some]
  obtain ⟨m3, e1, e2, e3⟩ := ref_set (rb := rb) (x := .undef) (y := .undef) hb k4 k2 k3 (by simp [hone, hx])
  rw [e1]
  exact ⟨m3, some n2, rfl, e2, e3, .inr ⟨n2, rfl, k3⟩⟩

theorem rpeek_in (h : RefAt m b rb l most lost) {k : Nat} (hk : k < l.length) : run E 24 [.ptr (some ⟨b, 0⟩), .int .i64 k] m = some (.tup [l[k], .bool true], m) := by
  obtain ⟨s, hb, hr, hne, hone⟩ := h
  obtain ⟨a, sz, cap, ex, rfl, h1, h2, h3⟩ := hr.sl.elem hk
  rw [f24_eq]
  simp only [nnA, Option.bind_some, fa45_2, ldS22, len22, ld1_of hb, List.getElem?_cons_zero, List.getElem?_cons_succ, Nat.zero_add, binA_geq, binA_lss, decide_eq_false (show ¬ (k : Int) < 0 by omega), decide_eq_false (show ¬ (l.length : Int) ≤ (k : Int) by omega), condA, ifV]
  rw [g24_0_eq]
  simp only [nnA, Option.bind_some, fa45_2, ldS22, ldE22, ld1_of hb, List.getElem?_cons_zero, List.getElem?_cons_succ, Nat.zero_add, ix22, h1, if_true, h2, h3, List.getElem?_eq_getElem hk]
theorem rpeek_out (h : RefAt m b rb l most lost) {k : Int} (hk : k < 0 ∨ (l.length : Int) ≤ k) : run E 24 [.ptr (some ⟨b, 0⟩), .int .i64 k] m = some (.tup [.int .i64 0, .bool false], m) := by
  obtain ⟨s, hb, hr, hne, hone⟩ := h
  obtain ⟨a, sz, cap, ex, rfl⟩ := hr.sl.len
  rw [f24_eq]
  by_cases h0 : k < 0
  · simp only [binA_lss, decide_eq_true h0, Option.bind_some, ifV]
  · have h1 : (l.length : Int) ≤ k := by omega
    simp only [nnA, Option.bind_some, fa45_2, ldS22, len22, ld1_of hb, List.getElem?_cons_zero, List.getElem?_cons_succ, Nat.zero_add, binA_geq, binA_lss, decide_eq_false h0, decide_eq_true h1, condA, ifV]

theorem rtake_in (h : RefAt m b rb l most lost) {k : Nat} (hk : k < l.length) (hw : l.length < 65536) : RefTo m b rb (.tup [l[k], .bool true]) (l.eraseIdx k) most lost (run E 20 [.ptr (some ⟨b, 0⟩), .int .i64 k] m) := by
  rw [f20_eq, rpeek_in h hk]
  obtain ⟨s, hb, hr, hne, hone⟩ := h
  obtain ⟨a, sz, cap, ex, rfl, hs, h2, h3⟩ := hr.sl.elem hk
  have hcap : l.length ≤ cap := by
    rcases hr.sl with ⟨_, _, h, _⟩ | ⟨a', sz', cap', ex', cs, ro, h0, _, h1, _⟩
    · cases h
    · cases h0; exact h1
  have hk1 : IntKind.wrap .i64 ((k : Int) + 1) = ((k + 1 : Nat) : Int) := by rw [wrap64 (by omega) (by omega)]; try rfl
  have hone1 : (l.take k).all AV.one = true := by rw [List.all_eq_true] at hone ⊢; exact fun v hv => hone v (List.mem_of_mem_take hv)
  have hone2 : (l.drop (k + 1)).all AV.one = true := by rw [List.all_eq_true] at hone ⊢; exact fun v hv => hone v (List.mem_of_mem_drop hv)
  obtain ⟨s1, m1, n1, c1, c2, c3, c4⟩ := copy_row (w := 8) (sl_take (k := k) hr.sl (by omega)) hone1 (by simp; unfold maxBytes; omega)
  have hb1 := c4.get hb (by simp)
  have hd : Sl m1 (.sl (some ⟨a.b, a.o + (k + 1)⟩) 1 (l.length - (k + 1)) (cap - (k + 1)) ex) (l.drop (k + 1)) := (sl_drop (k := k + 1) hr.sl (by omega)).frame c4 (by simp)
  obtain ⟨s2, m2, n2, d1, d2, d3, d4⟩ := more_row (w := 8) c2 c3 c4 hd hone2 (by simp; unfold maxBytes; omega)
  simp only [Option.bind_some, extractA, List.getElem?_cons_zero, List.getElem?_cons_succ, condA, nnA, fa45_2, ldS22, ld1_of ((Fr.alloc m []).get hb (by simp)), ld1_of hb1, Nat.zero_add, binA_add, hk1, hi22 hs (show k ≤ cap by omega), lo22 hs (show k + 1 ≤ l.length by omega), c1, if_true, d1]
  obtain ⟨m3, e1, e2, e3⟩ := ref_set (rb := rb) (x := .undef) (y := .undef) hb d4 d2 d3 (by simp only [List.all_append, hone1, hone2, Bool.and_self])
  rw [e1]
  simp only [Option.bind_some]
  rw [g20_0_eq]
  refine ⟨m3, some n2, rfl, ?_, e3, .inr ⟨n2, rfl, d3⟩⟩
  rw [List.eraseIdx_eq_take_drop_succ]; exact e2
theorem rtake_out (h : RefAt m b rb l most lost) {k : Int} (hk : k < 0 ∨ (l.length : Int) ≤ k) : run E 20 [.ptr (some ⟨b, 0⟩), .int .i64 k] m = some (.tup [.int .i64 0, .bool false], m) := by
  rw [f20_eq, rpeek_out h hk]
  simp only [Option.bind_some, extractA, List.getElem?_cons_zero, List.getElem?_cons_succ, condA]
  rw [g20_0_eq]

theorem rdouble_out (h : RefAt m b rb l most lost) {k : Int} (hk : k < 0 ∨ (l.length : Int) ≤ k) : run E 22 [.ptr (some ⟨b, 0⟩), .int .i64 k] m = some (.bool false, m) := by
  rw [f22_eq, rpeek_out h hk]
  simp only [Option.bind_some, extractA, List.getElem?_cons_zero, List.getElem?_cons_succ, unA, Bool.not_false, ifV]
theorem rdouble_full (h : RefAt m b rb l most lost) {k : Nat} (hk : k < l.length) (hf : most ≤ l.length) : run E 22 [.ptr (some ⟨b, 0⟩), .int .i64 k] m = some (.bool false, m) := by
  rw [f22_eq, rpeek_in h hk]
  obtain ⟨s, hb, hr, hne, hone⟩ := h
  obtain ⟨a, sz, cap, ex, rfl⟩ := hr.sl.len
  simp only [Option.bind_some, extractA, List.getElem?_cons_zero, List.getElem?_cons_succ, unA, Bool.not_true, ifV, nnA, fa45_0, fa45_1, fa45_2, ldS22, ld3, len22, ld1_of hb, Nat.zero_add, binA_geq, decide_eq_true hf, condA]
theorem rdouble_ok (h : RefAt m b rb l most lost) {k : Nat} (hk : k < l.length) (hf : l.length < most) (hw : l.length < 65536) :
    RefTo m b rb (.bool true) (l ++ [l[k]]) most lost (run E 22 [.ptr (some ⟨b, 0⟩), .int .i64 k] m) := by
  rw [f22_eq, rpeek_in h hk]
  obtain ⟨s, hb, hr, hne, hone⟩ := h
  obtain ⟨a, sz, cap, ex, rfl⟩ := hr.sl.len
  have hx : (l[k]).one = true := (List.all_eq_true.1 hone) _ (List.getElem_mem hk)
  simp only [Option.bind_some, extractA, List.getElem?_cons_zero, List.getElem?_cons_succ, unA, Bool.not_true, ifV, nnA, fa45_0, fa45_1, fa45_2, ldS22, ld3, len22, ld1_of hb, Nat.zero_add, binA_geq, decide_eq_false (show ¬ most ≤ (l.length : Int) by omega), condA]
  rw [g22_0_eq]
  obtain ⟨s1, m1, n1, h1, h2, h3, h4⟩ := copy_row (w := 8) hr.sl hone (by unfold maxBytes; omega)
  simp only [nnA, Option.bind_some, fa45_2, ldS22, ld1_of ((Fr.alloc m []).get hb (by simp)), List.getElem?_cons_zero, List.getElem?_cons_succ, Nat.zero_add, h1, bs_one hx]
  obtain ⟨s2, m2, n2, k1, k2, k3, k4⟩ := push_row (w := 8) h2 h3 h4 hx (by unfold maxBytes; omega)
  rw [k1]
  simp only [Option.bind_some]
  obtain ⟨m3, e1, e2, e3⟩ := ref_set (rb := rb) (x := .undef) (y := .undef) hb k4 k2 k3 (by simp [hone, hx])
  rw [e1]
  exact ⟨m3, some n2, rfl, e2, e3, .inr ⟨n2, rfl, k3⟩⟩
end

/-- Pick: what is left by m, from 0 on. -/
theorem pick_is (m : Mem) (n : Int) {k : Int} (h0 : 0 < k) (h1 : k < 9223372036854775808) : run E 11 [.int .i64 n, .int .i64 k] m = some (.int .i64 (n % k), m) := by
  rw [f11_eq]
  have ht : -k < n.tmod k ∧ n.tmod k < k := by
    have := Int.natAbs_tmod n k
    have h2 := Nat.mod_lt n.natAbs (show 0 < k.natAbs by omega)
    omega
  have he : n % k = if n.tmod k < 0 then n.tmod k + k else n.tmod k := by
    have h3 := Int.mul_tdiv_add_tmod n k
    have h4 : n % k = n.tmod k % k := by
      conv => lhs; rw [← h3, Int.add_comm, Int.add_mul_emod_self_left]
    rw [h4]
    split
    · rw [← Int.add_emod_right, Int.emod_eq_of_lt (by omega) (by omega)]
    · rw [Int.emod_eq_of_lt (by omega) (by omega)]
  simp only [binA_rem _ _ _ _ (show k ≠ 0 by omega), Option.bind_some, binA_lss]
  by_cases h : n.tmod k < 0
  · simp only [decide_eq_true h, condA, binA_add, Option.bind_some]
    rw [g11_0_eq, he, if_pos h, wrap64 (by omega) (by omega)]
  · simp only [decide_eq_false h, condA]
    rw [g11_0_eq, he, if_neg h]
end Go.Proofs.Ytdmenbeiepfdiaa
