/- Texts of one claim, put together. -/
import Derived.Test.YtlginbmjiecglaaGreatK17
section
namespace Go.Proofs.YtlginbmjiecglaaGreat
open Go Go.Abs

theorem name_loop (s : List UInt8) (hl : s.length < 4611686018427387904) (m : Mem) : ∀ (d i : Nat), s.length - i ≤ d → i ≤ s.length → D15.gor 94208 [.str s, .int .i64 i] m = some (.bool ((s.drop i).all (fun c => decide (65 ≤ c.toNat) && decide (c.toNat ≤ 90)) && decide (s.length = 3)), m) := by
  intro d
  induction d with
  | zero =>
    intro i hd hi
    have e : i = s.length := by omega
    subst e
    simp only [aps, ips, g23_0_is (H := H15), T.g23_0, Option.bind_some, p1, p2, bin_lss, condA, len9, decide_eq_false (show ¬ ((s.length : Nat) : Int) < (s.length : Int) by omega), g23_3_is (H := H15), T.g23_3, bin_eql, List.drop_length, List.all_nil, Bool.true_and]
    rw [show decide ((s.length : Int) = 3) = decide (s.length = 3) by by_cases h : s.length = 3 <;> simp [h]; omega]
  | succ d ih =>
    intro i hd hi
    by_cases e : i = s.length
    · exact ih i (by omega) hi
    · have hlt : i < s.length := by omega
      simp only [aps, ips, g23_0_is (H := H15), T.g23_0, Option.bind_some, p1, p2, bin_lss, condA, len9, decide_eq_true (show (i : Int) < (s.length : Int) by omega)]
      have h0 : (0 : Int) ≤ (i : Int) := by omega
      simp only [aps, ips, g23_1_is (H := H15), T.g23_1, Option.bind_some, p2, bin_gtr, bin_lss, condA, ifV, iv9, if_pos h0, Int.toNat_natCast, List.getElem?_eq_getElem hlt]
      rw [List.drop_eq_getElem_cons hlt, List.all_cons]
      by_cases h1 : (s[i].toNat : Int) < 65
      · simp only [decide_eq_true h1, decide_eq_false (show ¬ 65 ≤ s[i].toNat by omega), Bool.false_and]
      · by_cases h2 : (90 : Int) < (s[i].toNat : Int)
        · simp only [decide_eq_false h1, decide_eq_true h2, decide_eq_false (show ¬ s[i].toNat ≤ 90 by omega), Bool.false_and, Bool.and_false]
        · simp only [aps, ips, decide_eq_false h1, decide_eq_false h2, g23_2_is (H := H15), T.g23_2, Option.bind_some, p2, bin_add, decide_eq_true (show 65 ≤ s[i].toNat by omega), decide_eq_true (show s[i].toNat ≤ 90 by omega), Bool.true_and]
          rw [wrap_i64 (by have := hl; omega) (by have := hl; omega), show (i : Int) + 1 = ((i + 1 : Nat) : Int) by omega]
          exact ih (i + 1) (by omega) (by omega)
theorem name_is (s : List UInt8) (hl : s.length < 4611686018427387904) (m : Mem) : run E15 (.fn 23) [.str s] m = some (.bool (nameB s), m) := by
  simp only [aps, ips, f23_is (H := H15) rfl, T.f23]
  exact name_loop s hl m s.length 0 (by omega) (by omega)

section
variable {m : Mem} {b : Nat} {st : LSt} {F : List Nat}

theorem coin_is (h : LedgerAt m b st F) (hs : Srt strLess (st.purses.map (·.name))) (hl : st.purses.length ≤ 8) (name : List UInt8) (hn : name.length < 4611686018427387904) {scale : Int} (h0 : 0 ≤ scale) :
    ∃ m' F', run E15 (.fn 7) [.ptr (some ⟨b, 0⟩), .str name, .int .u64 scale] m = some (.int .i64 (coinF st name scale).1, m') ∧ LedgerAt m' b (coinF st name scale).2 F' ∧ Fr m m' F ∧ ∀ c, c ∈ F' → c ∈ F ∨ m.next ≤ c := by
  obtain ⟨tp, tq, ta, FP, FQ, FA, h1, h2, h3, h4, h5, h6, h7, h8, h9, h10, rfl⟩ := h.ex
  obtain ⟨v, m1, g1, g2, g3, g4, g5, g6⟩ := getP_is h2 hs (by simp; omega) name
  have a3 : ∀ i : Nat, ld1 m (.ptr (some ⟨b, i⟩)) = [.int .i64 st.most, .ptr (some ⟨tp, 0⟩), .ptr (some ⟨tq, 0⟩), .ptr (some ⟨ta, 0⟩), .int .u64 st.latest][i]? := fun i => ld1_at h1
  have f2 : Fr m ((m1.lay (.cells [.str [], .int .i64 0, .int .i64 0, .int .u64 0] false)).put m1.next (some (.cells v false))) [] := (g6.lay _).put' (.inr g6.next)
  have e2 := st_all (n := 4) (lay_self m1 (.cells [.str [], .int .i64 0, .int .i64 0, .int .u64 0] false)) rfl g4 g5
  have a4 : ∀ i : Nat, ld1 ((m1.lay (.cells [.str [], .int .i64 0, .int .i64 0, .int .u64 0] false)).put m1.next (some (.cells v false))) (.ptr (some ⟨b, i⟩)) = [.int .i64 st.most, .ptr (some ⟨tp, 0⟩), .ptr (some ⟨tq, 0⟩), .ptr (some ⟨ta, 0⟩), .int .u64 st.latest][i]? := fun i => ld1_at (f2.get h1 (by simp))
  unfold coinF
  simp only [lcs, ge, aps, ips, f7_is (H := H15) rfl, T.f7, D2_call, Option.bind_some, p1, q1, pB, p2, bin_gtr, fillA, AV.cells, Option.map_some, Nat.reduceAdd, Nat.reduceLeDiff, if_true, nnA, extractA, condA, unA, fa60_1, ld56, bd64, cv30_3, a3, g1, e2, name_is name hn]
  cases hb : nameB name with
  | false =>
    simp only [Bool.not_false, if_true]
    exact ⟨_, _, rfl, h.frame0 f2, f2.any _, fun c hc => .inl hc⟩
  | true =>
    simp only [Bool.not_true, Bool.true_eq_false, if_false]
    by_cases hsc : 18 < scale
    · simp only [decide_eq_true hsc, if_pos hsc]
      exact ⟨_, _, rfl, h.frame0 f2, f2.any _, fun c hc => .inl hc⟩
    · simp only [decide_eq_false hsc, if_neg hsc]
      cases hk : hasK strLess name (st.purses.map (·.name)) with
      | true =>
        simp only [if_true]
        exact ⟨_, _, rfl, h.frame0 f2, f2.any _, fun c hc => .inl hc⟩
      | false =>
        obtain ⟨m3, FP', p1', p2', p3', p4'⟩ := putP_is (h2.frame f2 (by simp)) hs (by simp; omega) name (v := (PurseV.mk name scale ⟨0, 0⟩).cells) rfl rfl
        have e4 : (AV.agg [.str name, .int .i64 scale, .int .i64 0, .int .u64 0]) = .agg (PurseV.mk name scale ⟨0, 0⟩).cells := rfl
        simp only [ge, Option.bind_some, a4, wrap_i64 (n := scale) (by omega) (by omega), e4, p1', Bool.false_eq_true, if_false, hk, Bool.false_or, List.length_map]
        simp only [putK, putV, hk, Bool.false_eq_true, if_false, List.length_map] at p2'
        by_cases hf : 8 ≤ st.purses.length
        · rw [if_neg (show ¬ ((st.purses.length : Int) < 8) by omega), if_neg (show ¬ ((st.purses.length : Int) < 8) by omega)] at p2'
          simp only [decide_eq_false (show ¬ ((st.purses.length : Int) < 8) by omega), Bool.not_false, if_pos hf]
          obtain ⟨F', q1, q2, q3⟩ := LedgerAt.purses (ps := st.purses) (f2.get h1 (by simp)) (h2.frame f2 (by simp)) (h3.frame f2 (by simp)) (h4.frame f2 (by simp)) h5 h6 h7 h8 h9 h10 p3' p2' p4'
          exact ⟨_, F', rfl, q1, (f2.any _).step q2 (fun c hc => .inl hc), fun c hc => (q3 c hc).imp id (fun h => Nat.le_trans f2.next h)⟩
        · rw [if_pos (show ((st.purses.length : Int) < 8) by omega), if_pos (show ((st.purses.length : Int) < 8) by omega)] at p2'
          simp only [aps, ips, decide_eq_true (show ((st.purses.length : Int) < 8) by omega), Bool.not_true, if_neg hf, g7_0_is (H := H15), T.g7_0]
          obtain ⟨F', q1, q2, q3⟩ := LedgerAt.purses (ps := insL (lb strLess name (st.purses.map (·.name))) ⟨name, scale, ⟨0, 0⟩⟩ st.purses) (f2.get h1 (by simp)) (h2.frame f2 (by simp)) (h3.frame f2 (by simp)) (h4.frame f2 (by simp)) h5 h6 h7 h8 h9 h10 p3' (by rw [insL_map, insL_map]; exact p2') p4'
          exact ⟨_, F', rfl, q1, (f2.any _).step q2 (fun c hc => .inl hc), fun c hc => (q3 c hc).imp id (fun h => Nat.le_trans f2.next h)⟩

theorem lenA_is {ks : List Int} {vs : List (List AV)} {most : Int} {t : Nat} (h : TabAt (.int .u64) 4 m t ks vs most F) : run E15 (.fn 25) [.ptr (some ⟨t, 0⟩)] m = some (.int .i64 ks.length, m) := by
  obtain ⟨⟨sk, sv, kb, vb, h1, h2, h3, h4, h5, h6, rfl⟩, h7⟩ := h
  obtain ⟨a, sz, cap, ex, rfl⟩ := h2.klen
  have a3 : ∀ i : Nat, ld1 m (.ptr (some ⟨t, i⟩)) = [.sl a sz ks.length cap ex, sv, .int .i64 most][i]? := fun i => ld1_at h1
  simp only [ge, aps, ips, f25_is (H := H15) rfl, T.f25, Option.bind_some, p1, q1, nnA, fa116_0, ld114, len114, Nat.add_zero, a3]

theorem open_is (h : LedgerAt m b st F) (hs : Srt strLess (st.purses.map (·.name))) (hl : st.purses.length ≤ 8) (hsa : Srt intLess (st.accs.map (·.id))) (hla : st.accs.length ≤ 64) (hid : ∀ a ∈ st.accs, a.id ≤ st.latest) (h0 : 0 ≤ st.latest)
    (name : List UInt8) :
    ∃ m' F', run E15 (.fn 8) [.ptr (some ⟨b, 0⟩), .str name] m = some (.tup [.int .u64 (openF st name).1, .int .i64 (openF st name).2.1], m') ∧ LedgerAt m' b (openF st name).2.2 F' ∧ Fr m m' F ∧ ∀ c, c ∈ F' → c ∈ F ∨ m.next ≤ c := by
  obtain ⟨tp, tq, ta, FP, FQ, FA, h1, h2, h3, h4, h5, h6, h7, h8, h9, h10, rfl⟩ := h.ex
  obtain ⟨v, m1, g1, g2, g3, g4, g5, g6⟩ := getP_is h2 hs (by simp; omega) name
  have a3 : ∀ i : Nat, ld1 m (.ptr (some ⟨b, i⟩)) = [.int .i64 st.most, .ptr (some ⟨tp, 0⟩), .ptr (some ⟨tq, 0⟩), .ptr (some ⟨ta, 0⟩), .int .u64 st.latest][i]? := fun i => ld1_at h1
  have f2 : Fr m ((m1.lay (.cells [.str [], .int .i64 0, .int .i64 0, .int .u64 0] false)).put m1.next (some (.cells v false))) [] := (g6.lay _).put' (.inr g6.next)
  have e2 := st_all (n := 4) (lay_self m1 (.cells [.str [], .int .i64 0, .int .i64 0, .int .u64 0] false)) rfl g4 g5
  obtain ⟨m2, hm2⟩ : ∃ m2, m2 = (m1.lay (.cells [.str [], .int .i64 0, .int .i64 0, .int .u64 0] false)).put m1.next (some (.cells v false)) := ⟨_, rfl⟩
  rw [← hm2] at f2 e2
  have b1 := f2.get h1 (by simp)
  have b2 := h2.frame f2 (by simp)
  have b3 := h3.frame f2 (by simp)
  have b4 := h4.frame f2 (by simp)
  have a4 : ∀ i : Nat, ld1 m2 (.ptr (some ⟨b, i⟩)) = [.int .i64 st.most, .ptr (some ⟨tp, 0⟩), .ptr (some ⟨tq, 0⟩), .ptr (some ⟨ta, 0⟩), .int .u64 st.latest][i]? := fun i => ld1_at b1
  unfold openF
  simp only [ge, aps, ips, f8_is (H := H15) rfl, T.f8, D2_call, Option.bind_some, p1, q1, pB, nnA, extractA, condA, unA, fa60_1, ld56, Nat.zero_add, a3, g1, e2]
  cases hk : hasK strLess name (st.purses.map (·.name)) with
  | false =>
    simp only [Bool.not_false, if_true]
    exact ⟨_, _, rfl, h.frame0 f2, f2.any _, fun c hc => .inl hc⟩
  | true =>
    simp only [Bool.not_true, Bool.true_eq_false, if_false]
    simp only [ge, aps, ips, g8_0_is (H := H15), T.g8_0, D2_call, Option.bind_some, p1, q1, p2, bin_geq, nnA, condA, ifV, fa60_3, fa60_0, fa60_4, ld58, ld3, ld30, Nat.zero_add, Nat.add_zero, a4, lenA_is b4, List.length_map, if_true]
    by_cases hm : st.most ≤ (st.accs.length : Int)
    · simp only [hm, true_or, if_true]
      exact ⟨_, _, rfl, h.frame0 f2, f2.any _, fun c hc => .inl hc⟩
    · simp only [hm, false_or]
      by_cases hlt : 72057594037927935 ≤ st.latest
      · simp only [decide_eq_true hlt, if_pos hlt]
        exact ⟨_, _, rfl, h.frame0 f2, f2.any _, fun c hc => .inl hc⟩
      · simp only [decide_eq_false hlt, if_neg hlt, decide_false]
        obtain ⟨m3, hm3⟩ : ∃ m3, m3 = m2.put b (some (.cells [.int .i64 st.most, .ptr (some ⟨tp, 0⟩), .ptr (some ⟨tq, 0⟩), .ptr (some ⟨ta, 0⟩), .int .u64 (st.latest + 1)] false)) := ⟨_, rfl⟩
        obtain ⟨c1, c2, c3, c4, c5, c6⟩ := LedgerAt.latest (st.latest + 1) b1 b2 b3 b4 h5 h6 h7 hm3
        have a5 : ∀ i : Nat, ld1 m3 (.ptr (some ⟨b, i⟩)) = [.int .i64 st.most, .ptr (some ⟨tp, 0⟩), .ptr (some ⟨tq, 0⟩), .ptr (some ⟨ta, 0⟩), .int .u64 (st.latest + 1)][i]? := fun i => ld1_at c3
        have hall : ∀ x ∈ st.accs.map (·.id), intLess x (st.latest + 1) = true := by
          intro x hx
          obtain ⟨a, ha, rfl⟩ := List.mem_map.1 hx
          have := hid a ha
          simp [intLess]; omega
        obtain ⟨m4, FA', d1, d2, d3, d4⟩ := putA_is c6 hsa (by simp; omega) (st.latest + 1) (v := (AccV.mk (st.latest + 1) name ⟨0, 0⟩).cells) rfl rfl
        have e4 : (AV.agg [.int .u64 (st.latest + 1), .str name, .int .i64 0, .int .u64 0]) = .agg (AccV.mk (st.latest + 1) name ⟨0, 0⟩).cells := rfl
        have hlt' : ((st.accs.length : Nat) : Int) < st.most := by omega
        simp only [putK, putV, has_end hall, lb_end hall, Bool.false_eq_true, if_false, List.length_map, if_pos hlt'] at d2
        have e5 : insL st.accs.length (st.latest + 1) (st.accs.map (·.id)) = (st.accs ++ [AccV.mk (st.latest + 1) name ⟨0, 0⟩]).map (·.id) := by
          have := insL_end (st.latest + 1) (st.accs.map (·.id)); simp only [List.length_map] at this; rw [this]; simp
        have e6 : insL st.accs.length (AccV.mk (st.latest + 1) name ⟨0, 0⟩).cells (st.accs.map (·.cells)) = (st.accs ++ [AccV.mk (st.latest + 1) name ⟨0, 0⟩]).map (·.cells) := by
          have := insL_end (AccV.mk (st.latest + 1) name ⟨0, 0⟩).cells (st.accs.map (·.cells)); simp only [List.length_map] at this; rw [this]; simp
        rw [e5, e6] at d2
        obtain ⟨F', q1, q2, q3⟩ := LedgerAt.accs (st := { st with latest := st.latest + 1 }) c3 c4 c5 c6 h5 h6 h7 h8 h9 h10 d3 d2 d4
        have f3 : Fr m m3 (b :: (FP ++ FQ ++ FA)) := (f2.any _).step c2 (by simp)
        have f4 : Fr m m4 (b :: (FP ++ FQ ++ FA)) := f3.step q2 (fun c hc => .inl hc)
        have a6 : ∀ i : Nat, ld1 m4 (.ptr (some ⟨b, i⟩)) = [.int .i64 st.most, .ptr (some ⟨tp, 0⟩), .ptr (some ⟨tq, 0⟩), .ptr (some ⟨ta, 0⟩), .int .u64 (st.latest + 1)][i]? := fun i => ld1_at (d3.get c3 h7)
        refine ⟨m4, F', ?_, q1, f4, fun c hc => (q3 c hc).imp id (fun h => Nat.le_trans f3.next h)⟩
        simp only [lcs, ge, aps, ips, g8_1_is (H := H15), T.g8_1, D2_call, Option.bind_some, p1, p2, bin_add, fillA, AV.cells, Option.map_some, Nat.reduceAdd, Nat.reduceLeDiff, if_true, nnA, fa60_4, fa60_3, ld30, ld58, bd70, a4, wrap_u64 (x := st.latest + 1) (by omega) (by omega), c1, a5, e4, d1, a6]

theorem new_is (m : Mem) {most : Int} (h1 : 1 ≤ most) (h2 : most ≤ 64) :
    ∃ b m' F, run E15 (.fn 5) [.int .i64 most] m = some (.tup [.ptr (some ⟨b, 0⟩), .int .i64 0], m') ∧ LedgerAt m' b ⟨[], [], [], 0, most⟩ F ∧ Fr m m' [] ∧ ∀ c, c ∈ F → m.next ≤ c := by
  obtain ⟨m1, hm1⟩ : ∃ m1, m1 = m.lay (.cells [.int .i64 most, .ptr none, .ptr none, .ptr none, .int .u64 0] false) := ⟨_, rfl⟩
  have b1 : m1.get m.next = some (.cells [.int .i64 most, .ptr none, .ptr none, .ptr none, .int .u64 0] false) := by rw [hm1]; exact lay_self _ _
  have n1 : m1.next = m.next + 1 := by rw [hm1]; rfl
  have f1 : Fr m m1 [] := by rw [hm1]; exact (Fr.refl m).lay _
  obtain ⟨m2', p1, p2⟩ := newP_is m1 (most := 8) (by omega) (by omega)
  have b2 := (show m2'.get m.next = m1.get m.next by rw [p2, lay_ne (by omega)]).trans b1
  have s2 := stV_at (v := .ptr (some ⟨m1.next, 0⟩)) (o := 1) (n := 1) b2 rfl rfl (by simp)
  obtain ⟨m2, hm2⟩ : ∃ m2, m2 = m2'.put m.next (some (.cells [.int .i64 most, .ptr (some ⟨m1.next, 0⟩), .ptr none, .ptr none, .int .u64 0] false)) := ⟨_, rfl⟩
  have s2' : stV m2' (.ptr (some ⟨m.next, 1⟩)) (.ptr (some ⟨m1.next, 0⟩)) 1 = some m2 := by rw [hm2]; simpa using s2
  have n2 : m2.next = m.next + 2 := by rw [hm2, p2]; simp [n1]
  have b2' : m2.get m.next = some (.cells [.int .i64 most, .ptr (some ⟨m1.next, 0⟩), .ptr none, .ptr none, .int .u64 0] false) := by rw [hm2]; exact put_self b2
  have t2 : m2.get m1.next = some (.cells [.sl none 0 0 0 true, .sl none 0 0 0 true, .int .i64 8] false) := by rw [hm2, put_ne (by omega), p2]; exact lay_self _ _
  have f2 : Fr m m2 [] := by rw [hm2, p2]; exact (f1.lay _).put' (.inr (Nat.le_refl _))
  obtain ⟨m3', q1, q2⟩ := newQ_is m2 (most := 64) (by omega) (by omega)
  have b3 := (show m3'.get m.next = m2.get m.next by rw [q2, lay_ne (by omega)]).trans b2'
  have s3 := stV_at (v := .ptr (some ⟨m2.next, 0⟩)) (o := 2) (n := 1) b3 rfl rfl (by simp)
  obtain ⟨m3, hm3⟩ : ∃ m3, m3 = m3'.put m.next (some (.cells [.int .i64 most, .ptr (some ⟨m1.next, 0⟩), .ptr (some ⟨m2.next, 0⟩), .ptr none, .int .u64 0] false)) := ⟨_, rfl⟩
  have s3' : stV m3' (.ptr (some ⟨m.next, 2⟩)) (.ptr (some ⟨m2.next, 0⟩)) 1 = some m3 := by rw [hm3]; simpa using s3
  have n3 : m3.next = m.next + 3 := by rw [hm3, q2]; simp [n2]
  have b3' : m3.get m.next = some (.cells [.int .i64 most, .ptr (some ⟨m1.next, 0⟩), .ptr (some ⟨m2.next, 0⟩), .ptr none, .int .u64 0] false) := by rw [hm3]; exact put_self b3
  have t3 : m3.get m2.next = some (.cells [.sl none 0 0 0 true, .sl none 0 0 0 true, .int .i64 64] false) := by rw [hm3, put_ne (by omega), q2]; exact lay_self _ _
  have t23 : m3.get m1.next = some (.cells [.sl none 0 0 0 true, .sl none 0 0 0 true, .int .i64 8] false) := by rw [hm3, put_ne (by omega), q2, lay_ne (by omega)]; exact t2
  have f3 : Fr m m3 [] := by rw [hm3, q2]; exact (f2.lay _).put' (.inr (Nat.le_refl _))
  obtain ⟨m4', r1, r2⟩ := newA_is m3 (most := most) (by omega) (by omega)
  have b4 := (show m4'.get m.next = m3.get m.next by rw [r2, lay_ne (by omega)]).trans b3'
  have s4 := stV_at (v := .ptr (some ⟨m3.next, 0⟩)) (o := 3) (n := 1) b4 rfl rfl (by simp)
  obtain ⟨m4, hm4⟩ : ∃ m4, m4 = m4'.put m.next (some (.cells [.int .i64 most, .ptr (some ⟨m1.next, 0⟩), .ptr (some ⟨m2.next, 0⟩), .ptr (some ⟨m3.next, 0⟩), .int .u64 0] false)) := ⟨_, rfl⟩
  have s4' : stV m4' (.ptr (some ⟨m.next, 3⟩)) (.ptr (some ⟨m3.next, 0⟩)) 1 = some m4 := by rw [hm4]; simpa using s4
  have b4' : m4.get m.next = some (.cells [.int .i64 most, .ptr (some ⟨m1.next, 0⟩), .ptr (some ⟨m2.next, 0⟩), .ptr (some ⟨m3.next, 0⟩), .int .u64 0] false) := by rw [hm4]; exact put_self b4
  have t4 : m4.get m3.next = some (.cells [.sl none 0 0 0 true, .sl none 0 0 0 true, .int .i64 most] false) := by rw [hm4, put_ne (by omega), r2]; exact lay_self _ _
  have t34 : m4.get m2.next = some (.cells [.sl none 0 0 0 true, .sl none 0 0 0 true, .int .i64 64] false) := by rw [hm4, put_ne (by omega), r2, lay_ne (by omega)]; exact t3
  have t24 : m4.get m1.next = some (.cells [.sl none 0 0 0 true, .sl none 0 0 0 true, .int .i64 8] false) := by rw [hm4, put_ne (by omega), r2, lay_ne (by omega)]; exact t23
  have f4 : Fr m m4 [] := by rw [hm4, r2]; exact (f3.lay _).put' (.inr (Nat.le_refl _))
  refine ⟨m.next, m4, m.next :: ([m1.next] ++ [m2.next] ++ [m3.next]), ?_, ⟨m1.next, m2.next, m3.next, _, _, _, b4', TabAt.new t24, TabAt.new t34, TabAt.new t4, by simp; omega, by simp; omega, by simp; omega, ?_, ?_, ?_, rfl⟩, f4, ?_⟩
  · simp only [aps, ips, f5_is (H := H15) rfl, T.f5, Option.bind_some, bin_gtr, bin_lss, condA, ifV, decide_eq_false (show ¬ most < 1 by omega), decide_eq_false (show ¬ (64 : Int) < most by omega)]
    simp only [lcs, ge, aps, ips, g5_0_is (H := H15), T.g5_0, D2_call, Option.bind_some, p1, fillA, AV.cells, Option.map_some, Nat.reduceAdd, Nat.reduceLeDiff, if_true, boxA, nnA, extractA, fa60_1, fa60_2, fa60_3, bd60, AV.one, ← hm1, s2', q1, s3', r1, s4']
  · intro c h h'; simp only [List.mem_singleton] at h h'; omega
  · intro c h h'; simp only [List.mem_singleton] at h h'; omega
  · intro c h h'; simp only [List.mem_singleton] at h h'; omega
  · intro c hc
    simp only [List.mem_cons, List.mem_append, List.not_mem_nil, or_false] at hc
    omega
end
end Go.Proofs.YtlginbmjiecglaaGreat
end
section
namespace Go.Abs
open Go

def nilP : PurseV := ⟨[], 0, ⟨0, 0⟩⟩
def nilA : AccV := ⟨0, [], ⟨0, 0⟩⟩
def nilQ : PairV := ⟨[], [], ⟨0, 0⟩, 0, ⟨0, 0⟩, ⟨0, 0⟩⟩
def LSt.getP (st : LSt) (k : List UInt8) : Option PurseV := if hasK strLess k (st.purses.map (·.name)) = true then st.purses[lb strLess k (st.purses.map (·.name))]? else none
def LSt.getQ (st : LSt) (k : List UInt8) : Option PairV := if hasK strLess k (st.pairs.map (·.key)) = true then st.pairs[lb strLess k (st.pairs.map (·.key))]? else none
def LSt.getA (st : LSt) (k : Int) : Option AccV := if hasK intLess k (st.accs.map (·.id)) = true then st.accs[lb intLess k (st.accs.map (·.id))]? else none

theorem has_lt {κ : Type} [DecidableEq κ] {lt : κ → κ → Bool} {k : κ} {ks : List κ} (h : hasK lt k ks = true) : lb lt k ks < ks.length := by
  have : ks[lb lt k ks]? = some k := by simpa [hasK] using h
  exact (List.getElem?_eq_some_iff.1 this).1
theorem has_at {κ : Type} [DecidableEq κ] {lt : κ → κ → Bool} {k : κ} {ks : List κ} (h : hasK lt k ks = true) : ks[lb lt k ks]? = some k := by simpa [hasK] using h
theorem LSt.getP_some {st : LSt} {k : List UInt8} (h : hasK strLess k (st.purses.map (·.name)) = true) : ∃ p, st.getP k = some p ∧ p.name = k ∧ st.purses[lb strLess k (st.purses.map (·.name))]? = some p ∧ p ∈ st.purses := by
  have hl := has_lt h
  rw [List.length_map] at hl
  have ha := has_at h
  rw [List.getElem?_map, List.getElem?_eq_getElem hl] at ha
  exact ⟨_, by unfold LSt.getP; rw [if_pos h, List.getElem?_eq_getElem hl], by simpa using ha, List.getElem?_eq_getElem hl, List.getElem_mem hl⟩
theorem LSt.getP_none {st : LSt} {k : List UInt8} (h : hasK strLess k (st.purses.map (·.name)) = false) : st.getP k = none := by unfold LSt.getP; rw [if_neg (by rw [h]; decide)]
theorem LSt.getQ_some {st : LSt} {k : List UInt8} (h : hasK strLess k (st.pairs.map (·.key)) = true) : ∃ p, st.getQ k = some p ∧ p.key = k ∧ st.pairs[lb strLess k (st.pairs.map (·.key))]? = some p ∧ p ∈ st.pairs := by
  have hl := has_lt h
  rw [List.length_map] at hl
  have ha := has_at h
  rw [List.getElem?_map, List.getElem?_eq_getElem hl] at ha
  exact ⟨_, by unfold LSt.getQ; rw [if_pos h, List.getElem?_eq_getElem hl], by simpa using ha, List.getElem?_eq_getElem hl, List.getElem_mem hl⟩
theorem LSt.getQ_none {st : LSt} {k : List UInt8} (h : hasK strLess k (st.pairs.map (·.key)) = false) : st.getQ k = none := by unfold LSt.getQ; rw [if_neg (by rw [h]; decide)]
theorem LSt.getA_some {st : LSt} {k : Int} (h : hasK intLess k (st.accs.map (·.id)) = true) : ∃ p, st.getA k = some p ∧ p.id = k ∧ st.accs[lb intLess k (st.accs.map (·.id))]? = some p ∧ p ∈ st.accs := by
  have hl := has_lt h
  rw [List.length_map] at hl
  have ha := has_at h
  rw [List.getElem?_map, List.getElem?_eq_getElem hl] at ha
  exact ⟨_, by unfold LSt.getA; rw [if_pos h, List.getElem?_eq_getElem hl], by simpa using ha, List.getElem?_eq_getElem hl, List.getElem_mem hl⟩
theorem LSt.getA_none {st : LSt} {k : Int} (h : hasK intLess k (st.accs.map (·.id)) = false) : st.getA k = none := by unfold LSt.getA; rw [if_neg (by rw [h]; decide)]

theorem PurseV.flat (p : PurseV) : AV.lts 0 p.cells := by simp [PurseV.cells, AV.lts, AV.lt]
theorem PairV.flat (p : PairV) : AV.lts 0 p.cells := by simp [PairV.cells, AV.lts, AV.lt]
theorem AccV.flat (p : AccV) : AV.lts 0 p.cells := by simp [AccV.cells, AV.lts, AV.lt]
theorem Fr.same {m m2 : Mem} (h : m.next ≤ m2.next) (h' : ∀ b, m2.get b = m.get b) : Fr m m2 [] := ⟨h, fun c _ _ => h' c⟩

def rightR (w : Wd) (s : Int) : Bool := decide ((0 ≤ s ∧ s ≤ 18) ∧ 0 < w.val)
def LSt.of (st : LSt) (id : Int) : AccV × PurseV × Int :=
  match st.getA id with
  | none => (nilA, nilP, 40)
  | some a => (a, (st.getP a.coin).getD nilP, 0)
def fitsE (p : PurseV) (w : Wd) (s : Int) : Int := if s ≠ p.scale then 21 else if w.val ≤ 0 then 43 else 0

section
variable {b n : Nat}
theorem bnx0 (h : b < n) : (b = n) = False := by simp; omega
theorem bnx1 (h : b < n) : (b = n + 1) = False := by simp; omega
theorem bnx2 (h : b < n) : (b = n + 1 + 1) = False := by simp; omega
theorem bnx3 (h : b < n) : (b = n + 1 + 1 + 1) = False := by simp; omega
theorem bnx4 (h : b < n) : (b = n + 1 + 1 + 1 + 1) = False := by simp; omega
theorem bnx5 (h : b < n) : (b = n + 1 + 1 + 1 + 1 + 1) = False := by simp; omega
theorem bnx6 (h : b < n) : (b = n + 1 + 1 + 1 + 1 + 1 + 1) = False := by simp; omega
theorem bnx7 (h : b < n) : (b = n + 1 + 1 + 1 + 1 + 1 + 1 + 1) = False := by simp; omega
theorem bnx8 (h : b < n) : (b = n + 1 + 1 + 1 + 1 + 1 + 1 + 1 + 1) = False := by simp; omega
theorem bnx9 (h : b < n) : (b = n + 1 + 1 + 1 + 1 + 1 + 1 + 1 + 1 + 1) = False := by simp; omega
theorem bnx10 (h : b < n) : (b = n + 1 + 1 + 1 + 1 + 1 + 1 + 1 + 1 + 1 + 1) = False := by simp; omega
theorem bnx11 (h : b < n) : (b = n + 1 + 1 + 1 + 1 + 1 + 1 + 1 + 1 + 1 + 1 + 1) = False := by simp; omega
theorem bnx12 (h : b < n) : (b = n + 1 + 1 + 1 + 1 + 1 + 1 + 1 + 1 + 1 + 1 + 1 + 1) = False := by simp; omega
theorem bnx13 (h : b < n) : (b = n + 1 + 1 + 1 + 1 + 1 + 1 + 1 + 1 + 1 + 1 + 1 + 1 + 1) = False := by simp; omega
theorem bnx14 (h : b < n) : (b = n + 1 + 1 + 1 + 1 + 1 + 1 + 1 + 1 + 1 + 1 + 1 + 1 + 1 + 1) = False := by simp; omega
end
theorem nn9 (n : Nat) : (n = n + 1 + 1 + 1 + 1 + 1 + 1 + 1 + 1 + 1) = False := by simp; omega
theorem nn10 (n : Nat) : (n = n + 1 + 1 + 1 + 1 + 1 + 1 + 1 + 1 + 1 + 1) = False := by simp; omega
theorem nn11 (n : Nat) : (n = n + 1 + 1 + 1 + 1 + 1 + 1 + 1 + 1 + 1 + 1 + 1) = False := by simp; omega
theorem nn12 (n : Nat) : (n = n + 1 + 1 + 1 + 1 + 1 + 1 + 1 + 1 + 1 + 1 + 1 + 1) = False := by simp; omega
theorem nn13 (n : Nat) : (n = n + 1 + 1 + 1 + 1 + 1 + 1 + 1 + 1 + 1 + 1 + 1 + 1 + 1) = False := by simp; omega
theorem nn14 (n : Nat) : (n = n + 1 + 1 + 1 + 1 + 1 + 1 + 1 + 1 + 1 + 1 + 1 + 1 + 1 + 1) = False := by simp; omega
theorem frl {m M : Mem} {S : List Nat} (h : Fr m M S) (v : Blk) : Fr m (M.lay v) S := h.lay v
structure LWf (st : LSt) : Prop where
  sp : Srt strLess (st.purses.map (·.name))
  lp : st.purses.length ≤ 8
  sq : Srt strLess (st.pairs.map (·.key))
  lq : st.pairs.length ≤ 64
  sa : Srt intLess (st.accs.map (·.id))
  la : st.accs.length ≤ 64
  okp : ∀ p ∈ st.purses, 0 ≤ p.scale ∧ p.scale ≤ 18 ∧ p.out.ok ∧ nameB p.name = true
  okq : ∀ q ∈ st.pairs, q.rate.ok ∧ rightR q.rate q.rscale = true ∧ q.inx.ok ∧ q.outy.ok ∧ (st.getP q.x).isSome = true ∧ (st.getP q.y).isSome = true
  oka : ∀ a ∈ st.accs, a.bal.ok ∧ 0 ≤ a.id ∧ a.id ≤ st.latest ∧ (st.getP a.coin).isSome = true
  lat : 0 ≤ st.latest ∧ st.latest ≤ 72057594037927935
end Go.Abs
end
section
namespace Go.Abs
open Go

theorem set_here {α : Type} {l : List α} {i : Nat} {x : α} (h : l[i]? = some x) : l.set i x = l := by
  obtain ⟨hi, rfl⟩ := List.getElem?_eq_some_iff.1 h
  exact List.set_getElem_self hi
def LSt.iA (st : LSt) (k : Int) : Nat := lb intLess k (st.accs.map (·.id))
def LSt.iP (st : LSt) (k : List UInt8) : Nat := lb strLess k (st.purses.map (·.name))
def LSt.iQ (st : LSt) (k : List UInt8) : Nat := lb strLess k (st.pairs.map (·.key))
def LSt.setA (st : LSt) (a : AccV) : LSt := { st with accs := st.accs.set (st.iA a.id) a }
def LSt.setP (st : LSt) (p : PurseV) : LSt := { st with purses := st.purses.set (st.iP p.name) p }
def LSt.putQ (st : LSt) (q : PairV) : LSt :=
  { st with pairs := if hasK strLess q.key (st.pairs.map (·.key)) = true then st.pairs.set (st.iQ q.key) q else if st.pairs.length < 64 then insL (st.iQ q.key) q st.pairs else st.pairs }
theorem LSt.ids_setA {st : LSt} {a : AccV} (h : hasK intLess a.id (st.accs.map (·.id)) = true) : (st.setA a).accs.map (·.id) = st.accs.map (·.id) := by
  unfold LSt.setA LSt.iA
  rw [List.map_set]
  exact set_here (has_at h)
theorem LSt.names_setP {st : LSt} {p : PurseV} (h : hasK strLess p.name (st.purses.map (·.name)) = true) : (st.setP p).purses.map (·.name) = st.purses.map (·.name) := by
  unfold LSt.setP LSt.iP
  rw [List.map_set]
  exact set_here (has_at h)

def fits2 (x y w : Wd) : Bool := fitsW (x.val - w.val) && fitsW (y.val + w.val)
def depositF (st : LSt) (id : Int) (w : Wd) (s : Int) : Int × LSt :=
  let o := st.of id
  if o.2.2 ≠ 0 then (o.2.2, st) else
  if fitsE o.2.1 w s ≠ 0 then (fitsE o.2.1 w s, st) else
  if fits2 o.2.1.out o.1.bal w = true then (0, (st.setA { o.1 with bal := Wd.of (o.1.bal.val + w.val) }).setP { o.2.1 with out := Wd.of (o.2.1.out.val - w.val) }) else (20, st)
def withdrawF (st : LSt) (id : Int) (w : Wd) (s : Int) : Int × LSt :=
  let o := st.of id
  if o.2.2 ≠ 0 then (o.2.2, st) else
  if fitsE o.2.1 w s ≠ 0 then (fitsE o.2.1 w s, st) else
  if o.1.bal.val < w.val then (42, st) else
  if fits2 o.1.bal o.2.1.out w = true then (0, (st.setA { o.1 with bal := Wd.of (o.1.bal.val - w.val) }).setP { o.2.1 with out := Wd.of (o.2.1.out.val + w.val) }) else (20, st)
def transferF (st : LSt) (a b : Int) (w : Wd) (s : Int) : Int × LSt :=
  let o := st.of a
  let p := st.of b
  if o.2.2 ≠ 0 then (o.2.2, st) else
  if p.2.2 ≠ 0 then (p.2.2, st) else
  if a = b then (45, st) else
  if o.2.1.name ≠ p.2.1.name then (41, st) else
  if fitsE o.2.1 w s ≠ 0 then (fitsE o.2.1 w s, st) else
  if o.1.bal.val < w.val then (42, st) else
  if fits2 o.1.bal p.1.bal w = true then (0, (st.setA { o.1 with bal := Wd.of (o.1.bal.val - w.val) }).setA { p.1 with bal := Wd.of (p.1.bal.val + w.val) }) else (20, st)
def rateCode (w : Wd) (s : Int) : Int := if 0 ≤ s ∧ s ≤ 18 then (if 0 < w.val then 0 else 44) else 21
def rateF (st : LSt) (x y : List UInt8) (w : Wd) (s : Int) : Int × LSt :=
  if (st.getP x).isSome = false ∨ (st.getP y).isSome = false then (41, st) else
  if x = y then (45, st) else
  if rateCode w s ≠ 0 then (rateCode w s, st) else
  (0, st.putQ { (st.getQ (x ++ y)).getD nilQ with x := x, y := y, rate := w, rscale := s })
def balanceF (st : LSt) (id : Int) : Wd × Int × Int :=
  let o := st.of id
  if o.2.2 ≠ 0 then (⟨0, 0⟩, 0, o.2.2) else (o.1.bal, o.2.1.scale, 0)
def outsideF (st : LSt) (x : List UInt8) : Wd × Int × Int :=
  match st.getP x with
  | none => (⟨0, 0⟩, 0, 41)
  | some p => (p.out, p.scale, 0)
def betweenF (st : LSt) (x y : List UInt8) : Wd × Int × Int :=
  if (st.getP x).isSome = false ∨ (st.getP y).isSome = false then (⟨0, 0⟩, 0, 41) else
  match st.getQ (x ++ y) with
  | none => (⟨0, 0⟩, 0, 44)
  | some q => (q.inx, ((st.getP x).getD nilP).scale, 0)
theorem LSt.of_cases {st : LSt} (w : LWf st) (id : Int) : (st.of id = (nilA, nilP, 40) ∧ st.getA id = none) ∨
    ∃ a p, st.of id = (a, p, 0) ∧ st.getA id = some a ∧ st.getP a.coin = some p ∧ a.id = id ∧ hasK intLess id (st.accs.map (·.id)) = true ∧ p.name = a.coin ∧ hasK strLess p.name (st.purses.map (·.name)) = true ∧ a ∈ st.accs ∧ p ∈ st.purses := by
  cases hk : hasK intLess id (st.accs.map (·.id)) with
  | false =>
    have := LSt.getA_none hk
    exact .inl ⟨by unfold LSt.of; rw [this], this⟩
  | true =>
    obtain ⟨a, a1, a2, a3, a4⟩ := LSt.getA_some hk
    have h1 := (w.oka a a4).2.2.2
    cases hp : hasK strLess a.coin (st.purses.map (·.name)) with
    | false => rw [LSt.getP_none hp] at h1; simp at h1
    | true =>
      obtain ⟨p, p1, p2, p3, p4⟩ := LSt.getP_some hp
      exact .inr ⟨a, p, by unfold LSt.of; rw [a1]; simp only [p1]; rfl, a1, p1, a2, rfl, p2, by rw [p2]; exact hp, a4, p4⟩
theorem res_code {n : Int} : decide ((Wd.res n).2 = 0) = fitsW n := by
  unfold Wd.res
  cases h : fitsW n <;> simp
noncomputable def hooksCR (E : Env) (S R : List FuncId) : FuncId → Option (List AV → Mem → Abs.R) := fun f => if f ∈ S then some (cleanH E f) else if f ∈ R then some (run E (.fn f)) else E.H f
theorem hooksCR_ok {E : Env} (hE : EnvOk E) (S R : List FuncId) : EnvOk { E with H := hooksCR E S R } where
  mixed := hE.mixed
  body := hE.body
  hook := fun f h e args m r m' hr => by
    simp only [hooksCR] at e
    split at e
    · cases e; exact clean_ok hE args m r m' hr
    · split at e
      · cases e; exact run_sound hE (.fn f) args m r m' hr
      · exact hE.hook f h e args m r m' hr
end Go.Abs
end
section
namespace Go.Proofs.YtlginbmjiecglaaGreat
set_option maxRecDepth 4000
open Go Go.Abs
def S17 : List FuncId := [22, 52, 33]
def R17 : List FuncId := [24, 26, 34, 5, 7, 8]
noncomputable def H17 : FuncId → Option (List AV → Mem → R) := hooksCR E15 S17 R17
noncomputable abbrev E17 : Env := T.EH H17
theorem E17_ok : EnvOk E17 := hooksCR_ok E15_ok S17 R17
noncomputable abbrev D17 : Do := T.Rl H17
section
variable {H : FuncId → Option (List AV → Mem → R)} {m : Mem} {t : Nat} {st : LSt} {most : Int} {F : List Nat}
theorem getp_at (h : H 22 = some (cleanH E15 22)) (w : LWf st) (ht : TabAt .str 4 m t (st.purses.map (·.name)) (st.purses.map (·.cells)) most F) (k : List UInt8) (M : Mem) (hM : Fr m M []) :
    run (T.EH H) (.fn 22) [.ptr (some ⟨t, 0⟩), .str k] M = some (.tup [.agg ((st.getP k).getD nilP).cells, .bool (st.getP k).isSome], M) := by
  refine hook_at h (by simp [AV.flat, AV.lt, AV.lts, PurseV.flat]) fun m2 h1 h2 => ?_
  obtain ⟨v, m', g1, g2, g3, g4, g5, g6⟩ := getP_is ((ht.frame hM (by simp)).frame (Fr.same h1 h2) (by simp)) w.sp (by have := w.lp; simp; omega) k
  refine ⟨m', ?_, g6⟩
  rw [g1]
  cases hk : hasK strLess k (st.purses.map (·.name)) with
  | true =>
    obtain ⟨p, p1, p2, p3, p4⟩ := LSt.getP_some hk
    have := g2 hk
    rw [List.getElem?_map, p3] at this
    rw [p1]
    simp only [Option.map_some, Option.some.injEq] at this
    rw [← this]; rfl
  | false =>
    rw [LSt.getP_none hk, g3 hk]; rfl
theorem geta_at (h : H 52 = some (cleanH E15 52)) (w : LWf st) (ht : TabAt (.int .u64) 4 m t (st.accs.map (·.id)) (st.accs.map (·.cells)) most F) (k : Int) (M : Mem) (hM : Fr m M []) :
    run (T.EH H) (.fn 52) [.ptr (some ⟨t, 0⟩), .int .u64 k] M = some (.tup [.agg ((st.getA k).getD nilA).cells, .bool (st.getA k).isSome], M) := by
  refine hook_at h (by simp [AV.flat, AV.lt, AV.lts, AccV.flat]) fun m2 h1 h2 => ?_
  obtain ⟨v, m', g1, g2, g3, g4, g5, g6⟩ := getA_is ((ht.frame hM (by simp)).frame (Fr.same h1 h2) (by simp)) w.sa (by have := w.la; simp; omega) k
  refine ⟨m', ?_, g6⟩
  rw [g1]
  cases hk : hasK intLess k (st.accs.map (·.id)) with
  | true =>
    obtain ⟨p, p1, p2, p3, p4⟩ := LSt.getA_some hk
    have := g2 hk
    rw [List.getElem?_map, p3] at this
    rw [p1]
    simp only [Option.map_some, Option.some.injEq] at this
    rw [← this]; rfl
  | false =>
    rw [LSt.getA_none hk, g3 hk]; rfl
theorem getq_at (h : H 33 = some (cleanH E15 33)) (w : LWf st) (ht : TabAt .str 9 m t (st.pairs.map (·.key)) (st.pairs.map (·.cells)) most F) (k : List UInt8) (M : Mem) (hM : Fr m M []) :
    run (T.EH H) (.fn 33) [.ptr (some ⟨t, 0⟩), .str k] M = some (.tup [.agg ((st.getQ k).getD nilQ).cells, .bool (st.getQ k).isSome], M) := by
  refine hook_at h (by simp [AV.flat, AV.lt, AV.lts, PairV.flat]) fun m2 h1 h2 => ?_
  obtain ⟨v, m', g1, g2, g3, g4, g5, g6⟩ := getQ_is ((ht.frame hM (by simp)).frame (Fr.same h1 h2) (by simp)) w.sq (by have := w.lq; simp; omega) k
  refine ⟨m', ?_, g6⟩
  rw [g1]
  cases hk : hasK strLess k (st.pairs.map (·.key)) with
  | true =>
    obtain ⟨p, p1, p2, p3, p4⟩ := LSt.getQ_some hk
    have := g2 hk
    rw [List.getElem?_map, p3] at this
    rw [p1]
    simp only [Option.map_some, Option.some.injEq] at this
    rw [← this]; rfl
  | false =>
    rw [LSt.getQ_none hk, g3 hk]; rfl
end
theorem raw_at {H : FuncId → Option (List AV → Mem → R)} {f : FuncId} (h : H f = some (run E15 (.fn f))) (xs : List AV) (m : Mem) : run (T.EH H) (.fn f) xs m = run E15 (.fn f) xs m := run_hook h xs m
section
variable {m : Mem} {b : Nat} {st : LSt} {F : List Nat}
theorem of_is2 (h : LedgerAt m b st F) (w : LWf st) (id : Int) : Res m (run E17 (.fn 27) [.ptr (some ⟨b, 0⟩), .int .u64 id] m) (.tup [.agg (st.of id).1.cells, .agg (st.of id).2.1.cells, .int .i64 (st.of id).2.2]) := by
  obtain ⟨tp, tq, ta, FP, FQ, FA, h1, h2, h3, h4, h5, h6, h7, h8, h9, h10, rfl⟩ := h.ex
  have hb := Mem.get_lt h1
  have a3 : ∀ i : Nat, ld1 m (.ptr (some ⟨b, i⟩)) = [.int .i64 st.most, .ptr (some ⟨tp, 0⟩), .ptr (some ⟨tq, 0⟩), .ptr (some ⟨ta, 0⟩), .int .u64 st.latest][i]? := fun i => ld1_at h1
  have ga := geta_at (H := H17) rfl w h4 id
  unfold LSt.of
  cases hA : st.getA id with
  | none =>
    rw [hA] at ga
    simp only [Option.getD_none, Option.isSome_none, nilA, AccV.cells] at ga
    simp (maxDischargeDepth := 20) only [lms, lcs, ge, aps, ips, f27_is (H := H17) rfl, T.f27, D2_call, Option.bind_some, pB, p1, q1, fillA, AV.cells, Option.map_some, Nat.reduceAdd, Nat.reduceLeDiff, if_true, nnA, extractA, condA, unA, resA, nth0, nth1, nth2, tupA, fa60_3, ld58, ld70, ld64, bd64, AV.one, if_false, over, bnx0 hb, bnx1 hb, a3, ga, frl, Fr.refl, Bool.not_false, nilA, nilP, AccV.cells, PurseV.cells]
    refine Res.eq ?_ rfl
    (repeat apply Fr.lays)
    exact Fr.refl _
  | some a =>
    have gp := getp_at (H := H17) rfl w h2 a.coin
    rw [hA] at ga
    simp only [Option.getD_some, Option.isSome_some, AccV.cells] at ga
    simp only [PurseV.cells] at gp
    simp (maxDischargeDepth := 20) only [lms, lcs, ge, aps, ips, f27_is (H := H17) rfl, T.f27, D2_call, Option.bind_some, pB, p1, q1, fillA, AV.cells, Option.map_some, Nat.reduceAdd, Nat.reduceLeDiff, if_true, nnA, extractA, condA, unA, resA, nth0, nth1, nth2, tupA, fa60_3, ld58, ld70, ld64, bd64, AV.one, if_false, over, bnx0 hb, bnx1 hb, a3, ga, frl, Fr.refl, Bool.not_true, AccV.cells, PurseV.cells]
    simp (maxDischargeDepth := 20) only [lms, lcs, ge, aps, ips, g27_0_is (H := H17), T.g27_0, D2_call, Option.bind_some, p1, q1, pB, nnA, extractA, resA, nth0, nth1, nth2, tupA, fa60_1, fa70_1, ld56, ld9, ld70, ld64, Nat.reduceAdd, AV.one, if_true, if_false, over, AV.cells, Nat.reduceLeDiff, Option.map_some, bnx0 hb, bnx1 hb, bnx2 hb, a3, gp, frl, Fr.refl]
    refine Res.eq ?_ rfl
    (repeat apply Fr.lays)
    exact Fr.refl _
end
end Go.Proofs.YtlginbmjiecglaaGreat
end
section
namespace Go.Proofs.YtlginbmjiecglaaGreat
set_option maxRecDepth 4000
open Go Go.Abs
theorem sgn_le (x : Int) : decide (sgn x ≤ 0) = decide (x ≤ 0) := by unfold sgn; apply decide_eq_decide.mpr; split <;> (try split) <;> omega
theorem sgn_lt (x : Int) : decide (sgn x < 0) = decide (x < 0) := by unfold sgn; apply decide_eq_decide.mpr; split <;> (try split) <;> omega
theorem fits_is2 (p : PurseV) {w : Wd} (hw : w.ok) (s : Int) (m : Mem) : Res m (run E17 (.fn 28) [.agg p.cells, .agg (decC w s)] m) (.int .i64 (fitsE p w s)) := by
  have sg := fun m => sign_at (H := H17) rfl hw m
  unfold fitsE
  simp only [PurseV.cells, decC, Wd.cells] at sg ⊢
  by_cases h : s = p.scale
  · rw [if_neg (by simp [h])]
    by_cases h2 : w.val ≤ 0
    · rw [if_pos h2]
      have e2 := sgn_le w.val
      rw [decide_eq_true h2] at e2
      simp only [lms, lcs, ge, aps, ips, f28_is (H := H17) rfl, T.f28, D2_call, Option.bind_some, p1, q1, p2, bin_leq, bin_neq, boxA, condA, fa37_1, fa64_1, fa37_0, ld3, ld35, Nat.reduceAdd, AV.one, if_true, if_false, AV.cells, Nat.reduceLeDiff, Option.map_some, decide_eq_true h, Bool.not_true, sg, e2]
      refine Res.eq ?_ rfl
      (repeat apply Fr.lays)
      exact Fr.refl _
    · rw [if_neg h2]
      have e2 := sgn_le w.val
      rw [decide_eq_false h2] at e2
      simp only [lms, lcs, ge, aps, ips, f28_is (H := H17) rfl, T.f28, D2_call, Option.bind_some, p1, q1, p2, bin_leq, bin_neq, boxA, condA, fa37_1, fa64_1, fa37_0, ld3, ld35, Nat.reduceAdd, AV.one, if_true, if_false, AV.cells, Nat.reduceLeDiff, Option.map_some, decide_eq_true h, Bool.not_true, sg, e2]
      simp only [aps, ips, g28_0_is (H := H17), T.g28_0]
      refine Res.eq ?_ rfl
      (repeat apply Fr.lays)
      exact Fr.refl _
  · rw [if_pos h]
    simp only [lms, lcs, ge, aps, ips, f28_is (H := H17) rfl, T.f28, D2_call, Option.bind_some, p1, q1, p2, bin_neq, boxA, condA, fa37_1, fa64_1, fa37_0, ld3, ld35, Nat.reduceAdd, AV.one, if_true, if_false, AV.cells, Nat.reduceLeDiff, Option.map_some, decide_eq_false h, Bool.not_false]
    refine Res.eq ?_ rfl
    (repeat apply Fr.lays)
    exact Fr.refl _
theorem poor_is (a : AccV) (ha : a.bal.ok) {w : Wd} (hw : w.ok) (s : Int) (m : Mem) : Res m (run E17 (.fn 35) [.agg a.cells, .agg (decC w s)] m) (.bool (decide (a.bal.val < w.val))) := by
  have cm := fun m => cmp_at (H := H17) rfl ha hw m
  have e := sgn_lt (a.bal.val - w.val)
  simp only [AccV.cells, decC, Wd.cells] at cm ⊢
  simp only [lms, lcs, aps, ips, f35_is (H := H17) rfl, T.f35, D2_call, Option.bind_some, p1, q1, p2, bin_lss, boxA, fa70_2, fa37_0, ld35, Nat.reduceAdd, AV.one, if_true, if_false, AV.cells, Nat.reduceLeDiff, Option.map_some, cm, e]
  refine Res.eq ?_ (by congr 1; exact decide_eq_decide.mpr (by omega))
  (repeat apply Fr.lays)
  exact Fr.refl _
def S18 : List FuncId := [27, 28, 35]
noncomputable def H18 : FuncId → Option (List AV → Mem → R) := hooksC E17 S18
noncomputable abbrev E18 : Env := T.EH H18
theorem E18_ok : EnvOk E18 := hooksC_ok E17_ok S18
noncomputable abbrev D18 : Do := T.Rl H18
section
variable {H : FuncId → Option (List AV → Mem → R)} {m : Mem} {b : Nat} {st : LSt} {F : List Nat}
theorem of_at2 (hh : H 27 = some (cleanH E17 27)) (h : LedgerAt m b st F) (w : LWf st) (id : Int) (M : Mem) (hM : Fr m M []) :
    run (T.EH H) (.fn 27) [.ptr (some ⟨b, 0⟩), .int .u64 id] M = some (.tup [.agg (st.of id).1.cells, .agg (st.of id).2.1.cells, .int .i64 (st.of id).2.2], M) :=
  hook_at hh (by simp [AV.flat, AV.lt, AV.lts, AccV.flat, PurseV.flat]) fun m2 h1 h2 => of_is2 ((h.frame0 hM).frame0 (Fr.same h1 h2)) w id
theorem fits_at (hh : H 28 = some (cleanH E17 28)) (p : PurseV) {w : Wd} (hw : w.ok) (s : Int) (m : Mem) : run (T.EH H) (.fn 28) [.agg p.cells, .agg (decC w s)] m = some (.int .i64 (fitsE p w s), m) :=
  hook_at hh (by simp [AV.flat, AV.lt]) fun m2 _ _ => fits_is2 p hw s m2
theorem poor_at (hh : H 35 = some (cleanH E17 35)) (a : AccV) (ha : a.bal.ok) {w : Wd} (hw : w.ok) (s : Int) (m : Mem) : run (T.EH H) (.fn 35) [.agg a.cells, .agg (decC w s)] m = some (.bool (decide (a.bal.val < w.val)), m) :=
  hook_at hh (by simp [AV.flat, AV.lt]) fun m2 _ _ => poor_is a ha hw s m2
end
section
variable {m : Mem} {b : Nat} {st : LSt} {F : List Nat}
theorem setA_is (h : LedgerAt m b st F) (hs : Srt intLess (st.accs.map (·.id))) (hl : st.accs.length ≤ 64) (a : AccV) (ha : hasK intLess a.id (st.accs.map (·.id)) = true) :
    ∃ m' F', run E18 (.fn 30) [.ptr (some ⟨b, 0⟩), .agg a.cells] m = some (.undef, m') ∧ LedgerAt m' b (st.setA a) F' ∧ Fr m m' F ∧ ∀ c, c ∈ F' → c ∈ F ∨ m.next ≤ c := by
  obtain ⟨tp, tq, ta, FP, FQ, FA, h1, h2, h3, h4, h5, h6, h7, h8, h9, h10, rfl⟩ := h.ex
  have f1 : Fr m (m.lay (.cells a.cells false)) [] := (Fr.refl m).lay _
  have hb := Mem.get_lt h1
  have a3 : ∀ i : Nat, ld1 m (.ptr (some ⟨b, i⟩)) = [.int .i64 st.most, .ptr (some ⟨tp, 0⟩), .ptr (some ⟨tq, 0⟩), .ptr (some ⟨ta, 0⟩), .int .u64 st.latest][i]? := fun i => ld1_at h1
  obtain ⟨m1, FA', g1, g2, g3, g4⟩ := putA_is (h4.frame f1 (by simp)) hs (by simp; omega) a.id (v := a.cells) rfl rfl
  simp only [putK, putV, ha, if_true] at g2
  have e1 : st.accs.map (·.id) = (st.setA a).accs.map (·.id) := (LSt.ids_setA ha).symm
  have e2 : (st.accs.map (·.cells)).set (lb intLess a.id (st.accs.map (·.id))) a.cells = (st.setA a).accs.map (·.cells) := by
    unfold LSt.setA LSt.iA; rw [List.map_set]
  rw [e2] at g2
  obtain ⟨F', q1, q2, q3⟩ := LedgerAt.accs (az := (st.setA a).accs) (f1.get h1 (by simp)) (h2.frame f1 (by simp)) (h3.frame f1 (by simp)) (h4.frame f1 (by simp)) h5 h6 h7 h8 h9 h10 g3 (by rw [← e1]; exact g2) g4
  refine ⟨m1, F', ?_, q1, (f1.any _).step q2 (fun c hc => .inl hc), fun c hc => (q3 c hc).imp id (fun h => Nat.le_trans f1.next h)⟩
  have g1' : run E18 (.fn 26) [.ptr (some ⟨ta, 0⟩), .int .u64 a.id, .agg a.cells] (m.lay (.cells a.cells false)) = _ := (raw_at (H := H18) rfl _ _).trans g1
  simp only [AccV.cells] at g1'
  simp only [lms, lcs, ge, aps, ips, AccV.cells, f30_is (H := H18) rfl, T.f30, D2_call, Option.bind_some, p1, boxA, nnA, fa60_3, fa70_0, ld58, ld30, ld70, Nat.reduceAdd, AV.one, if_true, if_false, AV.cells, Nat.reduceLeDiff, Option.map_some, bnx0 hb, a3, g1']
theorem setP_is (h : LedgerAt m b st F) (hs : Srt strLess (st.purses.map (·.name))) (hl : st.purses.length ≤ 8) (p : PurseV) (hp : hasK strLess p.name (st.purses.map (·.name)) = true) {tp tq ta : AV}
    (hb : m.get b = some (.cells [.int .i64 st.most, tp, tq, ta, .int .u64 st.latest] false)) :
    ∃ m' F', run E18 (.fn 24) [tp, .str p.name, .agg p.cells] m = some (.bool true, m') ∧ LedgerAt m' b (st.setP p) F' ∧ Fr m m' F ∧ ∀ c, c ∈ F' → c ∈ F ∨ m.next ≤ c := by
  obtain ⟨tp', tq', ta', FP, FQ, FA, h1, h2, h3, h4, h5, h6, h7, h8, h9, h10, rfl⟩ := h.ex
  rw [h1] at hb
  simp only [Option.some.injEq, Blk.cells.injEq, List.cons.injEq, and_true, true_and] at hb
  obtain ⟨rfl, rfl, rfl⟩ := hb
  obtain ⟨m1, FP', g1, g2, g3, g4⟩ := putP_is h2 hs (by simp; omega) p.name (v := p.cells) rfl rfl
  simp only [putK, putV, hp, if_true, Bool.true_or] at g1 g2
  have e1 : st.purses.map (·.name) = (st.setP p).purses.map (·.name) := (LSt.names_setP hp).symm
  have e2 : (st.purses.map (·.cells)).set (lb strLess p.name (st.purses.map (·.name))) p.cells = (st.setP p).purses.map (·.cells) := by
    unfold LSt.setP LSt.iP; rw [List.map_set]
  rw [e2] at g2
  obtain ⟨F', q1, q2, q3⟩ := LedgerAt.purses (ps := (st.setP p).purses) h1 h2 h3 h4 h5 h6 h7 h8 h9 h10 g3 (by rw [← e1]; exact g2) g4
  exact ⟨m1, F', (raw_at (H := H18) rfl _ _).trans g1, q1, q2, q3⟩
theorem putQ_is2 (h : LedgerAt m b st F) (hs : Srt strLess (st.pairs.map (·.key))) (hl : st.pairs.length ≤ 64) (q : PairV) {tp tq ta : AV}
    (hb : m.get b = some (.cells [.int .i64 st.most, tp, tq, ta, .int .u64 st.latest] false)) :
    ∃ r m' F', run E18 (.fn 34) [tq, .str q.key, .agg q.cells] m = some (r, m') ∧ LedgerAt m' b (st.putQ q) F' ∧ Fr m m' F ∧ ∀ c, c ∈ F' → c ∈ F ∨ m.next ≤ c := by
  obtain ⟨tp', tq', ta', FP, FQ, FA, h1, h2, h3, h4, h5, h6, h7, h8, h9, h10, rfl⟩ := h.ex
  rw [h1] at hb
  simp only [Option.some.injEq, Blk.cells.injEq, List.cons.injEq, and_true, true_and] at hb
  obtain ⟨rfl, rfl, rfl⟩ := hb
  obtain ⟨m1, FQ', g1, g2, g3, g4⟩ := putQ_is h3 hs (by simp; omega) q.key (v := q.cells) rfl rfl
  have key : TabAt .str 9 m1 tq' ((st.putQ q).pairs.map (·.key)) ((st.putQ q).pairs.map (·.cells)) 64 FQ' := by
    unfold putK putV at g2
    unfold LSt.putQ LSt.iQ
    by_cases hk : hasK strLess q.key (st.pairs.map (·.key)) = true
    · simp only [hk, if_true] at g2 ⊢
      rw [List.map_set, List.map_set, set_here (has_at hk)]
      exact g2
    · simp only [hk, Bool.false_eq_true, if_false, List.length_map] at g2 ⊢
      by_cases hf : st.pairs.length < 64
      · rw [if_pos (by omega), if_pos (by omega)] at g2
        rw [if_pos hf, insL_map, insL_map]
        exact g2
      · rw [if_neg (by omega), if_neg (by omega)] at g2
        rw [if_neg hf]
        exact g2
  obtain ⟨F', q1, q2, q3⟩ := LedgerAt.pairs (qs := (st.putQ q).pairs) h1 h2 h3 h4 h5 h6 h7 h8 h9 h10 g3 key g4
  exact ⟨_, m1, F', (raw_at (H := H18) rfl _ _).trans g1, q1, q2, q3⟩
end
end Go.Proofs.YtlginbmjiecglaaGreat
end
section
namespace Go.Proofs.YtlginbmjiecglaaGreat
set_option maxRecDepth 4000
open Go Go.Abs
section
variable {m : Mem} {b : Nat} {st : LSt} {F : List Nat}
theorem deposit_is (h : LedgerAt m b st F) (w : LWf st) (id : Int) {x : Wd} (hx : x.ok) (s : Int) :
    ∃ m' F', run E18 (.fn 9) [.ptr (some ⟨b, 0⟩), .int .u64 id, .agg (decC x s)] m = some (.int .i64 (depositF st id x s).1, m') ∧ LedgerAt m' b (depositF st id x s).2 F' ∧ Fr m m' F ∧ ∀ c, c ∈ F' → c ∈ F ∨ m.next ≤ c := by
  have om := of_at2 (H := H18) rfl h w id
  have hlt := h.lt
  unfold depositF
  rcases LSt.of_cases w id with ⟨e, _⟩ | ⟨a, p, e, ga, gp, hid, hka, hpn, hkp, ma, mp⟩
  · rw [e] at om ⊢
    simp only [decC, nilA, nilP, AccV.cells, PurseV.cells] at om ⊢
    simp (maxDischargeDepth := 20) only [lms, lcs, ge, aps, ips, f9_is (H := H18) rfl, T.f9, D2_call, Option.bind_some, p1, pB, p2, q1, bin_eql, boxA, extractA, condA, ld64, ld37, AV.one, if_true, if_false, over, AV.cells, Nat.reduceAdd, Nat.reduceLeDiff, Option.map_some, om, frl, Fr.refl, decide_eq_false (show ¬ (40 : Int) = 0 by omega), g9_0_is (H := H18), T.g9_0, fa64_2, fa70_2, ld35, g9_1_is (H := H18), T.g9_1, nnA, fa60_1, fa64_0, ld70, ld56, ld9, g9_2_is (H := H18), T.g9_2]
    refine ⟨_, F, rfl, ?_, ?_, fun c hc => .inl hc⟩
    · simp only [ne_eq, show ¬ (40 : Int) = 0 by omega, not_false_eq_true, if_true]
      exact h.frame0 ((((Fr.refl m).lay _).lay _).lay _)
    · exact ((((Fr.refl m).lay _).lay _).lay _).any F
  · rw [e] at om ⊢
    have ft := fun m => fits_at (H := H18) rfl p hx s m
    obtain ⟨fe, hfe⟩ : ∃ fe, fe = fitsE p x s := ⟨_, rfl⟩
    simp only [← hfe, decC, AccV.cells, PurseV.cells] at om ft ⊢
    simp only [ne_eq, not_true_eq_false, if_false]
    by_cases f0 : fe = 0
    · subst f0
      have hpo := (w.okp p mp).2.2.1
      have hab := (w.oka a ma).1
      have su := fun m => sub_at (H := H18) rfl hpo hx m
      have ad := fun m => add_at (H := H18) rfl hab hx m
      simp only [Wd.cells] at su ad
      have c1 := res_code (n := p.out.val - x.val)
      have c2 := res_code (n := a.bal.val + x.val)
      unfold fits2
      cases e1 : fitsW (p.out.val - x.val) with
      | false =>
        rw [e1] at c1
        simp (maxDischargeDepth := 20) only [lms, lcs, ge, aps, ips, f9_is (H := H18) rfl, T.f9, D2_call, Option.bind_some, p1, pB, p2, q1, bin_eql, boxA, extractA, condA, ld64, ld37, AV.one, if_true, if_false, over, AV.cells, Nat.reduceAdd, Nat.reduceLeDiff, Option.map_some, om, frl, Fr.refl, decide_true, ft, g9_0_is (H := H18), T.g9_0, fa64_2, fa70_2, fa37_0, ld35, f29_is (H := H18) rfl, T.f29, bin_neq, nnA, ifV, su, ad, c1, Bool.not_false, g9_1_is (H := H18), T.g9_1, fa60_1, fa64_0, ld70, ld56, ld9, decide_eq_false (show ¬ (20 : Int) = 0 by omega), g9_2_is (H := H18), T.g9_2, Bool.false_and, Bool.false_eq_true]
        refine ⟨_, F, rfl, h.frame0 ?_, Fr.any F ?_, fun c hc => .inl hc⟩
        all_goals ((repeat apply Fr.lays); exact Fr.refl _)
      | true =>
        rw [e1] at c1
        cases e2 : fitsW (a.bal.val + x.val) with
        | false =>
          rw [e2] at c2
          simp (maxDischargeDepth := 20) only [lms, lcs, ge, aps, ips, f9_is (H := H18) rfl, T.f9, D2_call, Option.bind_some, p1, pB, p2, q1, bin_eql, boxA, extractA, condA, ld64, ld37, AV.one, if_true, if_false, over, AV.cells, Nat.reduceAdd, Nat.reduceLeDiff, Option.map_some, om, frl, Fr.refl, decide_true, ft, g9_0_is (H := H18), T.g9_0, fa64_2, fa70_2, fa37_0, ld35, f29_is (H := H18) rfl, T.f29, bin_neq, nnA, ifV, su, ad, c1, c2, Bool.not_true, Bool.not_false, g9_1_is (H := H18), T.g9_1, fa60_1, fa64_0, ld70, ld56, ld9, decide_eq_false (show ¬ (20 : Int) = 0 by omega), g9_2_is (H := H18), T.g9_2, Bool.and_false, Bool.false_eq_true]
          refine ⟨_, F, rfl, h.frame0 ?_, Fr.any F ?_, fun c hc => .inl hc⟩
          all_goals ((repeat apply Fr.lays); exact Fr.refl _)
        | true =>
          rw [e2] at c2
          rw [res_fits e1] at su
          rw [res_fits e2] at ad
          obtain ⟨nx, hnx⟩ : ∃ nx, nx = Wd.of (p.out.val - x.val) := ⟨_, rfl⟩
          obtain ⟨ny, hny⟩ : ∃ ny, ny = Wd.of (a.bal.val + x.val) := ⟨_, rfl⟩
          rw [← hnx] at su ⊢
          rw [← hny] at ad ⊢
          obtain ⟨M6, hM6⟩ : ∃ M6, M6 = (((((m.lay (.cells [.int .i64 x.hi, .int .u64 x.lo, .int .i64 s] false)).lay (.cells (AccV.mk a.id a.coin ny).cells false)).lay (.cells (PurseV.mk p.name p.scale nx).cells false)).lay (.cells x.cells false)).lay (.cells nx.cells false)).lay (.cells ny.cells false) := ⟨_, rfl⟩
          have f6 : Fr m M6 [] := by rw [hM6]; (repeat apply Fr.lays); exact Fr.refl _
          have n6 : m.next ≤ M6.next := f6.next
          have p6 : M6.get (m.next + 1 + 1) = some (.cells (PurseV.mk p.name p.scale nx).cells false) := by rw [hM6]; simp [Mem.get_lay]
          obtain ⟨m7, F7, g1, g2, g3, g4⟩ := setA_is (h.frame0 f6) w.sa w.la (AccV.mk a.id a.coin ny) (by rw [hid]; exact hka)
          obtain ⟨tp, tq, ta, FP, FQ, FA, k1, _⟩ := g2.ex
          have p7 := g3.get p6 (fun hc => by have := hlt _ hc; omega)
          have a7 : ∀ i : Nat, ld1 m7 (.ptr (some ⟨b, i⟩)) = [.int .i64 st.most, .ptr (some ⟨tp, 0⟩), .ptr (some ⟨tq, 0⟩), .ptr (some ⟨ta, 0⟩), .int .u64 st.latest][i]? := fun i => ld1_at k1
          have b7 : ∀ i : Nat, ld1 m7 (.ptr (some ⟨m.next + 1 + 1, i⟩)) = (PurseV.mk p.name p.scale nx).cells[i]? := fun i => ld1_at p7
          have d7 : ldN m7 (.ptr (some ⟨m.next + 1 + 1, 0⟩)) 4 = some (.agg (PurseV.mk p.name p.scale nx).cells) := ld_all p7 rfl
          obtain ⟨m8, F8, j1, j2, j3, j4⟩ := setP_is g2 w.sp w.lp (PurseV.mk p.name p.scale nx) hkp k1
          rw [hM6] at g1
          simp only [AccV.cells, PurseV.cells, Wd.cells] at g1 j1 a7 b7 d7
          simp (maxDischargeDepth := 20) only [lms, lcs, ge, aps, ips, f9_is (H := H18) rfl, T.f9, D2_call, Option.bind_some, p1, pB, p2, q1, bin_eql, boxA, extractA, condA, ld64, ld37, AV.one, if_true, if_false, over, AV.cells, Nat.reduceAdd, Nat.reduceLeDiff, Option.map_some, om, frl, Fr.refl, decide_true, ft, g9_0_is (H := H18), T.g9_0, fa64_2, fa70_2, fa37_0, ld35, f29_is (H := H18) rfl, T.f29, bin_neq, nnA, ifV, su, ad, Bool.not_true, g29_0_is (H := H18), T.g29_0, g9_1_is (H := H18), T.g9_1, fa60_1, fa64_0, ld70, ld56, ld9, g1, a7, b7, d7, j1, g9_2_is (H := H18), T.g9_2]
          exact ⟨m8, F8, rfl, j2, ((f6.any F).step g3 (fun c hc => .inl hc)).step j3 (fun c hc => (g4 c hc).imp (fun h => h) (fun h => Nat.le_trans n6 h)), fun c hc => by
            rcases j4 c hc with h1 | h1
            · exact (g4 c h1).imp (fun h => h) (fun h => Nat.le_trans n6 h)
            · exact .inr (Nat.le_trans n6 (Nat.le_trans g3.next h1))⟩
    · rw [if_pos f0]
      simp (maxDischargeDepth := 20) only [lms, lcs, ge, aps, ips, f9_is (H := H18) rfl, T.f9, D2_call, Option.bind_some, p1, pB, p2, q1, bin_eql, boxA, extractA, condA, ld64, ld37, AV.one, if_true, if_false, over, AV.cells, Nat.reduceAdd, Nat.reduceLeDiff, Option.map_some, om, frl, Fr.refl, decide_true, ft, decide_eq_false f0, g9_0_is (H := H18), T.g9_0, fa64_2, fa70_2, fa37_0, ld35, g9_1_is (H := H18), T.g9_1, nnA, fa60_1, fa64_0, ld70, ld56, ld9, g9_2_is (H := H18), T.g9_2]
      exact ⟨_, F, rfl, h.frame0 ((((Fr.refl m).lay _).lay _).lay _), ((((Fr.refl m).lay _).lay _).lay _).any F, fun c hc => .inl hc⟩
end
end Go.Proofs.YtlginbmjiecglaaGreat
end
section
namespace Go.Proofs.YtlginbmjiecglaaGreat
set_option maxRecDepth 4000
open Go Go.Abs
theorem nameB_len {s : List UInt8} (h : nameB s = true) : s.length = 3 := by
  unfold nameB at h
  simp only [Bool.and_eq_true, decide_eq_true_eq] at h
  exact h.2
theorem getP_len {st : LSt} (w : LWf st) {k : List UInt8} (h : (st.getP k).isSome = true) : k.length = 3 := by
  cases hk : hasK strLess k (st.purses.map (·.name)) with
  | false => rw [LSt.getP_none hk] at h; simp at h
  | true =>
    obtain ⟨p, p1, p2, p3, p4⟩ := LSt.getP_some hk
    rw [← p2]; exact nameB_len (w.okp p p4).2.2.2
section
variable {m : Mem} {b : Nat} {st : LSt} {F : List Nat}
theorem balance_is (h : LedgerAt m b st F) (w : LWf st) (id : Int) :
    Res m (run E18 (.fn 14) [.ptr (some ⟨b, 0⟩), .int .u64 id] m) (.tup [.agg (decC (balanceF st id).1 (balanceF st id).2.1), .int .i64 (balanceF st id).2.2]) := by
  have om := of_at2 (H := H18) rfl h w id
  unfold balanceF
  obtain ⟨o, ho⟩ : ∃ o, o = st.of id := ⟨_, rfl⟩
  rw [← ho] at om ⊢
  obtain ⟨a, p, e⟩ := o
  simp only [AccV.cells, PurseV.cells] at om
  by_cases he : e = 0
  · subst he
    simp (maxDischargeDepth := 20) only [lms, lcs, ge, aps, ips, f14_is (H := H18) rfl, T.f14, D2_call, Option.bind_some, pB, p1, p2, bin_neq, fillA, AV.cells, Option.map_some, Nat.reduceAdd, Nat.reduceLeDiff, if_true, extractA, condA, resA, nth0, nth1, tupA, ld37, bd37, AV.one, if_false, over, om, frl, Fr.refl, decide_true, Bool.not_true]
    simp only [lms, lcs, ge, aps, ips, g14_0_is (H := H18), T.g14_0, Option.bind_some, p1, q1, fillA, AV.cells, Option.map_some, Nat.reduceAdd, Nat.reduceLeDiff, if_true, resA, nth0, nth1, tupA, fa70_2, fa64_1, ld35, ld3, ld37, bd37, AV.one, if_false, over]
    refine Res.eq ?_ (by simp [decC])
    (repeat apply Fr.lays)
    exact Fr.refl _
  · simp (maxDischargeDepth := 20) only [lms, lcs, ge, aps, ips, f14_is (H := H18) rfl, T.f14, D2_call, Option.bind_some, pB, p1, p2, bin_neq, fillA, AV.cells, Option.map_some, Nat.reduceAdd, Nat.reduceLeDiff, if_true, extractA, condA, resA, nth0, nth1, tupA, ld37, bd37, AV.one, if_false, over, om, frl, Fr.refl, decide_eq_false he, Bool.not_false]
    refine Res.eq ?_ (by simp [decC, he])
    (repeat apply Fr.lays)
    exact Fr.refl _
theorem between_is (h : LedgerAt m b st F) (w : LWf st) (x y : List UInt8) (hxy : x.length + y.length ≤ 4611686018427387904) :
    Res m (run E18 (.fn 15) [.ptr (some ⟨b, 0⟩), .str x, .str y] m) (.tup [.agg (decC (betweenF st x y).1 (betweenF st x y).2.1), .int .i64 (betweenF st x y).2.2]) := by
  obtain ⟨tp, tq, ta, FP, FQ, FA, h1, h2, h3, h4, h5, h6, h7, h8, h9, h10, rfl⟩ := h.ex
  have hb := Mem.get_lt h1
  have a3 : ∀ i : Nat, ld1 m (.ptr (some ⟨b, i⟩)) = [.int .i64 st.most, .ptr (some ⟨tp, 0⟩), .ptr (some ⟨tq, 0⟩), .ptr (some ⟨ta, 0⟩), .int .u64 st.latest][i]? := fun i => ld1_at h1
  have gx := getp_at (H := H18) rfl w h2 x
  have gy := getp_at (H := H18) rfl w h2 y
  have gq := getq_at (H := H18) rfl w h3 (x ++ y)
  have sa := bin_sadd (P := Tryz.prog) 9 x y hxy
  unfold betweenF
  simp only [PurseV.cells, PairV.cells] at gx gy gq
  cases hx : st.getP x with
  | none =>
    rw [hx] at gx
    simp only [Option.isSome_none, Option.getD_none] at gx
    simp (maxDischargeDepth := 20) only [lms, lcs, ge, aps, ips, f15_is (H := H18) rfl, T.f15, D2_call, Option.bind_some, pB, p1, q1, p2, fillA, AV.cells, Option.map_some, Nat.reduceAdd, Nat.reduceLeDiff, if_true, nnA, extractA, condA, ifV, unA, resA, nth0, nth1, tupA, fa60_1, fa60_2, ld56, ld57, ld37, bd37, AV.one, if_false, over, bnx0 hb, bnx1 hb, bnx2 hb, a3, gx, gy, sa, gq, frl, Fr.refl, Bool.not_false]
    refine Res.eq ?_ (by simp [decC])
    (repeat apply Fr.lays)
    exact Fr.refl _
  | some p =>
    rw [hx] at gx
    simp only [Option.isSome_some, Option.getD_some] at gx
    cases hy : st.getP y with
    | none =>
      rw [hy] at gy
      simp only [Option.isSome_none, Option.getD_none] at gy
      simp (maxDischargeDepth := 20) only [lms, lcs, ge, aps, ips, f15_is (H := H18) rfl, T.f15, D2_call, Option.bind_some, pB, p1, q1, p2, fillA, AV.cells, Option.map_some, Nat.reduceAdd, Nat.reduceLeDiff, if_true, nnA, extractA, condA, ifV, unA, resA, nth0, nth1, tupA, fa60_1, fa60_2, ld56, ld57, ld37, bd37, AV.one, if_false, over, bnx0 hb, bnx1 hb, bnx2 hb, a3, gx, gy, sa, gq, frl, Fr.refl, Bool.not_false, Bool.not_true]
      refine Res.eq ?_ (by simp [decC])
      (repeat apply Fr.lays)
      exact Fr.refl _
    | some q =>
      rw [hy] at gy
      simp only [Option.isSome_some, Option.getD_some] at gy
      cases hq : st.getQ (x ++ y) with
      | none =>
        rw [hq] at gq
        simp only [Option.isSome_none, Option.getD_none] at gq
        simp (maxDischargeDepth := 20) only [lms, lcs, ge, aps, ips, f15_is (H := H18) rfl, T.f15, D2_call, Option.bind_some, pB, p1, q1, p2, fillA, AV.cells, Option.map_some, Nat.reduceAdd, Nat.reduceLeDiff, if_true, nnA, extractA, condA, ifV, unA, resA, nth0, nth1, tupA, fa60_1, fa60_2, ld56, ld57, ld37, bd37, AV.one, if_false, over, bnx0 hb, bnx1 hb, bnx2 hb, a3, gx, gy, sa, gq, frl, Fr.refl, Bool.not_false, Bool.not_true]
        refine Res.eq ?_ (by simp [decC])
        (repeat apply Fr.lays)
        exact Fr.refl _
      | some r =>
        rw [hq] at gq
        simp only [Option.isSome_some, Option.getD_some] at gq
        simp (maxDischargeDepth := 20) only [lms, lcs, ge, aps, ips, f15_is (H := H18) rfl, T.f15, D2_call, Option.bind_some, pB, p1, q1, p2, fillA, AV.cells, Option.map_some, Nat.reduceAdd, Nat.reduceLeDiff, if_true, nnA, extractA, condA, ifV, unA, resA, nth0, nth1, tupA, fa60_1, fa60_2, ld56, ld57, ld37, bd37, AV.one, if_false, over, bnx0 hb, bnx1 hb, bnx2 hb, a3, gx, gy, sa, gq, frl, Fr.refl, Bool.not_true]
        simp only [lms, lcs, ge, aps, ips, g15_0_is (H := H18), T.g15_0, Option.bind_some, p1, q1, fillA, AV.cells, Option.map_some, Nat.reduceAdd, Nat.reduceLeDiff, if_true, resA, nth0, nth1, tupA, fa54_3, fa64_1, ld35, ld3, ld37, bd37, AV.one, if_false, over]
        refine Res.eq ?_ (by simp [decC])
        (repeat apply Fr.lays)
        exact Fr.refl _
theorem rate_is (h : LedgerAt m b st F) (w : LWf st) (x y : List UInt8) {r : Wd} (hr : r.ok) (s : Int) :
    ∃ m' F', run E18 (.fn 11) [.ptr (some ⟨b, 0⟩), .str x, .str y, .agg (decC r s)] m = some (.int .i64 (rateF st x y r s).1, m') ∧ LedgerAt m' b (rateF st x y r s).2 F' ∧ Fr m m' F ∧ ∀ c, c ∈ F' → c ∈ F ∨ m.next ≤ c := by
  have h' := h
  obtain ⟨tp, tq, ta, FP, FQ, FA, h1, h2, h3, h4, h5, h6, h7, h8, h9, h10, e⟩ := h.ex
  have hb := Mem.get_lt h1
  have a3 : ∀ i : Nat, ld1 m (.ptr (some ⟨b, i⟩)) = [.int .i64 st.most, .ptr (some ⟨tp, 0⟩), .ptr (some ⟨tq, 0⟩), .ptr (some ⟨ta, 0⟩), .int .u64 st.latest][i]? := fun i => ld1_at h1
  have gx := getp_at (H := H18) rfl w h2 x
  have gy := getp_at (H := H18) rfl w h2 y
  have rr := fun m => rright_at (H := H18) rfl hr s m
  unfold rateF
  rw [show rateCode r s = rateE r s from rfl]
  simp only [PurseV.cells, decC] at gx gy rr ⊢
  cases hx : (st.getP x).isSome with
  | false =>
    rw [hx] at gx
    simp (maxDischargeDepth := 20) only [lms, lcs, ge, aps, ips, f11_is (H := H18) rfl, T.f11, D2_call, Option.bind_some, p1, q1, pB, p2, bin_seql, boxA, nnA, extractA, condA, ifV, unA, fa60_1, ld56, Nat.reduceAdd, AV.one, if_true, if_false, over, AV.cells, Nat.reduceLeDiff, Option.map_some, bnx0 hb, bnx1 hb, a3, gx, gy, frl, Fr.refl, Bool.not_false, true_or]
    refine ⟨_, F, rfl, h'.frame0 ?_, Fr.any F ?_, fun c hc => .inl hc⟩
    all_goals ((repeat apply Fr.lays); exact Fr.refl _)
  | true =>
    rw [hx] at gx
    cases hy : (st.getP y).isSome with
    | false =>
      rw [hy] at gy
      simp (maxDischargeDepth := 20) only [lms, lcs, ge, aps, ips, f11_is (H := H18) rfl, T.f11, D2_call, Option.bind_some, p1, q1, pB, p2, bin_seql, boxA, nnA, extractA, condA, ifV, unA, fa60_1, ld56, Nat.reduceAdd, AV.one, if_true, if_false, over, AV.cells, Nat.reduceLeDiff, Option.map_some, bnx0 hb, bnx1 hb, a3, gx, gy, frl, Fr.refl, Bool.not_false, Bool.not_true, or_true]
      refine ⟨_, F, rfl, h'.frame0 ?_, Fr.any F ?_, fun c hc => .inl hc⟩
      all_goals ((repeat apply Fr.lays); exact Fr.refl _)
    | true =>
      rw [hy] at gy
      have hlx := getP_len w hx
      have hly := getP_len w hy
      have sa := bin_sadd (P := Tryz.prog) 9 x y (by omega)
      have gq := getq_at (H := H18) rfl w h3 (x ++ y)
      simp only [Bool.true_eq_false, or_self, if_false]
      by_cases hxy : x = y
      · rw [if_pos hxy]
        simp (maxDischargeDepth := 20) only [lms, lcs, ge, aps, ips, f11_is (H := H18) rfl, T.f11, D2_call, Option.bind_some, p1, q1, pB, p2, bin_seql, boxA, nnA, extractA, condA, ifV, unA, fa60_1, ld56, Nat.reduceAdd, AV.one, if_true, if_false, over, AV.cells, Nat.reduceLeDiff, Option.map_some, bnx0 hb, bnx1 hb, a3, gx, gy, frl, Fr.refl, Bool.not_true, decide_eq_true hxy]
        refine ⟨_, F, rfl, h'.frame0 ?_, Fr.any F ?_, fun c hc => .inl hc⟩
        all_goals ((repeat apply Fr.lays); exact Fr.refl _)
      · rw [if_neg hxy]
        obtain ⟨re, hre⟩ : ∃ re, re = rateE r s := ⟨_, rfl⟩
        rw [← hre] at rr ⊢
        by_cases hz : re = 0
        · subst hz
          obtain ⟨q, hq⟩ : ∃ q, q = (st.getQ (x ++ y)).getD nilQ := ⟨_, rfl⟩
          rw [← hq] at gq ⊢
          obtain ⟨M4, hM4⟩ : ∃ M4, M4 = (((m.lay (.cells [.int .i64 r.hi, .int .u64 r.lo, .int .i64 s] false)).lay (.cells ((st.getP x).getD nilP).cells false)).lay (.cells ((st.getP y).getD nilP).cells false)).lay (.cells (PairV.mk x y r s q.inx q.outy).cells false) := ⟨_, rfl⟩
          have f4 : Fr m M4 [] := by rw [hM4]; (repeat apply Fr.lays); exact Fr.refl _
          obtain ⟨r', m5, F5, j1, j2, j3, j4⟩ := putQ_is2 (h'.frame0 f4) w.sq w.lq (PairV.mk x y r s q.inx q.outy) (f4.get h1 (by simp))
          rw [hM4] at j1
          simp only [PurseV.cells, PairV.cells, PairV.key] at j1 gq
          simp (maxDischargeDepth := 20) only [lms, lcs, ge, aps, ips, f11_is (H := H18) rfl, T.f11, D2_call, Option.bind_some, p1, q1, pB, p2, bin_seql, boxA, nnA, extractA, condA, ifV, unA, fa60_1, ld56, Nat.reduceAdd, AV.one, if_true, if_false, over, AV.cells, Nat.reduceLeDiff, Option.map_some, bnx0 hb, bnx1 hb, bnx2 hb, bnx3 hb, a3, gx, gy, frl, Fr.refl, Bool.not_true, decide_eq_false hxy, g11_0_is (H := H18), T.g11_0, bin_neq, ld37, rr, decide_true, g11_1_is (H := H18), T.g11_1, fa60_2, fa54_0, fa54_1, fa54_2, ld57, ld54, sa, gq, j1]
          refine ⟨m5, F5, by simp, by simpa using j2, (f4.any F).step j3 (fun c hc => .inl hc), fun c hc => (j4 c hc).imp (fun h => h) (fun h => Nat.le_trans f4.next h)⟩
        · rw [if_pos hz]
          simp (maxDischargeDepth := 20) only [lms, lcs, ge, aps, ips, f11_is (H := H18) rfl, T.f11, D2_call, Option.bind_some, p1, q1, pB, p2, bin_seql, boxA, nnA, extractA, condA, ifV, unA, fa60_1, ld56, Nat.reduceAdd, AV.one, if_true, if_false, over, AV.cells, Nat.reduceLeDiff, Option.map_some, bnx0 hb, bnx1 hb, a3, gx, gy, frl, Fr.refl, Bool.not_true, decide_eq_false hxy, g11_0_is (H := H18), T.g11_0, bin_neq, ld37, rr, decide_eq_false hz, Bool.not_false]
          refine ⟨_, F, rfl, h'.frame0 ?_, Fr.any F ?_, fun c hc => .inl hc⟩
          all_goals ((repeat apply Fr.lays); exact Fr.refl _)
end
end Go.Proofs.YtlginbmjiecglaaGreat
end
section
namespace Go.Proofs.YtlginbmjiecglaaGreat
set_option maxRecDepth 8000
open Go Go.Abs
theorem moves_is {M : Mem} {b1 o1 b2 o2 : Nat} {c1 c2 : List AV} (g1 : M.get b1 = some (.cells c1 false)) (g2 : M.get b2 = some (.cells c2 false)) (hne : b1 ≠ b2) {x y w : Wd} (hx : x.ok) (hy : y.ok) (hw : w.ok)
    (l1 : o1 + 2 ≤ c1.length) (l2 : o2 + 2 ≤ c2.length) (e1 : (c1.drop o1).take 2 = x.cells) (e2 : (c2.drop o2).take 2 = y.cells) :
    (fits2 x y w = false → Res M (run E18 (.fn 29) [.ptr (some ⟨b1, o1⟩), .ptr (some ⟨b2, o2⟩), .agg w.cells] M) (.int .i64 20)) ∧
    (fits2 x y w = true → ∃ M', run E18 (.fn 29) [.ptr (some ⟨b1, o1⟩), .ptr (some ⟨b2, o2⟩), .agg w.cells] M = some (.int .i64 0, M') ∧
      M'.get b1 = some (.cells (c1.take o1 ++ (Wd.of (x.val - w.val)).cells ++ c1.drop (o1 + 2)) false) ∧ M'.get b2 = some (.cells (c2.take o2 ++ (Wd.of (y.val + w.val)).cells ++ c2.drop (o2 + 2)) false) ∧ Fr M M' [b1, b2]) := by
  have hb1 := Mem.get_lt g1
  have hb2 := Mem.get_lt g2
  have su := fun m => sub_at (H := H18) rfl hx hw m
  have ad := fun m => add_at (H := H18) rfl hy hw m
  have k1 := res_code (n := x.val - w.val)
  have k2 := res_code (n := y.val + w.val)
  have r1 := ldN_at (o := o1) (n := 2) g1 l1
  have r2 := ldN_at (o := o2) (n := 2) g2 l2
  rw [e1] at r1
  rw [e2] at r2
  simp only [Wd.cells] at su ad r1 r2
  have bb := hne
  constructor
  · intro hf
    unfold fits2 at hf
    simp only [Wd.cells]
    cases f1 : fitsW (x.val - w.val) with
    | false =>
      rw [f1] at k1
      simp only [lms, lcs, ge, aps, ips, f29_is (H := H18) rfl, T.f29, D2_call, Option.bind_some, p1, q1, pB, p2, bin_neq, boxA, nnA, extractA, condA, ifV, ld35, AV.one, if_true, if_false, over, AV.cells, Nat.reduceAdd, Nat.reduceLeDiff, Option.map_some, bnx0 hb1, bnx0 hb2, bnx1 hb2, r1, r2, su, ad, k1, Bool.not_false]
      refine Res.eq ?_ rfl
      (repeat apply Fr.lays)
      exact Fr.refl _
    | true =>
      rw [f1, Bool.true_and] at hf
      rw [f1] at k1
      rw [hf] at k2
      simp only [lms, lcs, ge, aps, ips, f29_is (H := H18) rfl, T.f29, D2_call, Option.bind_some, p1, q1, pB, p2, bin_neq, boxA, nnA, extractA, condA, ifV, ld35, AV.one, if_true, if_false, over, AV.cells, Nat.reduceAdd, Nat.reduceLeDiff, Option.map_some, bnx0 hb1, bnx0 hb2, bnx1 hb2, r1, r2, su, ad, k1, k2, Bool.not_false, Bool.not_true]
      refine Res.eq ?_ rfl
      (repeat apply Fr.lays)
      exact Fr.refl _
  · intro hf
    unfold fits2 at hf
    rw [Bool.and_eq_true] at hf
    rw [hf.1] at k1
    rw [hf.2] at k2
    rw [res_fits hf.1] at su
    rw [res_fits hf.2] at ad
    obtain ⟨nx, hnx⟩ : ∃ nx, nx = Wd.of (x.val - w.val) := ⟨_, rfl⟩
    obtain ⟨ny, hny⟩ : ∃ ny, ny = Wd.of (y.val + w.val) := ⟨_, rfl⟩
    rw [← hnx] at su ⊢
    rw [← hny] at ad ⊢
    have s1 := stV_at (v := .agg nx.cells) (vs := nx.cells) (o := o1) (n := 2) g1 rfl rfl l1
    obtain ⟨M1, hM1⟩ : ∃ M1, M1 = M.put b1 (some (.cells (c1.take o1 ++ nx.cells ++ c1.drop (o1 + 2)) false)) := ⟨_, rfl⟩
    have s1' : stV M (.ptr (some ⟨b1, o1⟩)) (.agg [.int .i64 nx.hi, .int .u64 nx.lo]) 2 = some M1 := by rw [hM1]; exact s1
    have q1 : M1.get b1 = some (.cells (c1.take o1 ++ nx.cells ++ c1.drop (o1 + 2)) false) := by rw [hM1]; exact put_self g1
    have q2 : M1.get b2 = some (.cells c2 false) := by rw [hM1, put_ne (fun h => hne h.symm)]; exact g2
    have n1 : M1.next = M.next := by rw [hM1]; rfl
    have s2 := stV_at (v := .agg ny.cells) (vs := ny.cells) (o := o2) (n := 2) q2 rfl rfl l2
    obtain ⟨M2, hM2⟩ : ∃ M2, M2 = M1.put b2 (some (.cells (c2.take o2 ++ ny.cells ++ c2.drop (o2 + 2)) false)) := ⟨_, rfl⟩
    have s2' : stV M1 (.ptr (some ⟨b2, o2⟩)) (.agg [.int .i64 ny.hi, .int .u64 ny.lo]) 2 = some M2 := by rw [hM2]; exact s2
    have p1 : M2.get b1 = some (.cells (c1.take o1 ++ nx.cells ++ c1.drop (o1 + 2)) false) := by rw [hM2, put_ne hne]; exact q1
    have p2 : M2.get b2 = some (.cells (c2.take o2 ++ ny.cells ++ c2.drop (o2 + 2)) false) := by rw [hM2]; exact put_self q2
    have n2 : M2.next = M.next := by rw [hM2]; exact n1
    have f2 : Fr M M2 [b1, b2] := by
      rw [hM2, hM1]
      exact ((Fr.refl' M [b1, b2]).put' (.inl (by simp))).put' (.inl (by simp))
    have hb1' : b1 < M2.next := by omega
    have hb2' : b2 < M2.next := by omega
    refine ⟨((M2.lay (.cells w.cells false)).lay (.cells nx.cells false)).lay (.cells ny.cells false), ?_, ?_, ?_, ?_⟩
    · simp only [Wd.cells]
      simp only [lms, lcs, ge, aps, ips, f29_is (H := H18) rfl, T.f29, D2_call, Option.bind_some, pB, bin_neq, boxA, nnA, extractA, condA, ifV, ld35, AV.one, if_true, if_false, over, AV.cells, Nat.reduceAdd, Nat.reduceLeDiff, Option.map_some, bnx0 hb1, bnx0 hb2, bnx1 hb2, r1, r2, su, ad, decide_true, Bool.not_true]
      simp only [lms, lcs, aps, ips, g29_0_is (H := H18), T.g29_0, Option.bind_some, nnA, ld35, AV.one, if_true, if_false, over, AV.cells, Nat.reduceAdd, Nat.reduceLeDiff, Option.map_some, bnx0 hb1, bnx1 hb1, bnx2 hb1, bnx0 hb2, bnx1 hb2, bnx2 hb2, s1', s2', n1]
    · simp only [Mem.get_lay, Mem.next_lay, bnx0 hb1', bnx1 hb1', bnx2 hb1', if_false]
      exact p1
    · simp only [Mem.get_lay, Mem.next_lay, bnx0 hb2', bnx1 hb2', bnx2 hb2', if_false]
      exact p2
    · exact ((f2.lay _).lay _).lay _
end Go.Proofs.YtlginbmjiecglaaGreat
end
section
namespace Go.Proofs.YtlginbmjiecglaaGreat
set_option maxRecDepth 8000
open Go Go.Abs
def crossD (w : Wd) (s : Int) (v : Wd) (t : Int) (n : Int) : Wd × Int × Int :=
  if (0 ≤ s ∧ s ≤ 18) ∧ (0 ≤ n ∧ n ≤ 18) then
    if 0 < w.val then
      if rateE v t = 0 then (if fitsW (mulV w.val v.val (s + t - n)) = true then (Wd.of (mulV w.val v.val (s + t - n)), n, 0) else (⟨0, 0⟩, 0, 20)) else (⟨0, 0⟩, 0, rateE v t)
    else (⟨0, 0⟩, 0, 43)
  else (⟨0, 0⟩, 0, 21)
theorem crossR_eq (w : Wd) (s : Int) (v : Wd) (t : Int) (n : Int) : crossR w s v t n = .tup [.agg (decC (crossD w s v t n).1 (crossD w s v t n).2.1), .int .i64 (crossD w s v t n).2.2] := by
  unfold crossR crossD decRes
  (repeat' split) <;> rfl
theorem crossD_ok (w : Wd) (s : Int) (v : Wd) (t : Int) (n : Int) : (crossD w s v t n).1.ok := by
  unfold crossD
  (repeat' split) <;> first | exact wd_ok0 | exact Wd.of_ok (by assumption)
def convT (st : LSt) (a : AccV) (p : PurseV) (a' : AccV) (p' : PurseV) (q : PairV) (w : Wd) (s : Int) : Wd × Int × Int × LSt :=
  if fitsE p w s ≠ 0 then (⟨0, 0⟩, 0, fitsE p w s, st) else
  if a.bal.val < w.val then (⟨0, 0⟩, 0, 42, st) else
  let g := crossD w s q.rate q.rscale p'.scale
  if g.2.2 ≠ 0 then (⟨0, 0⟩, 0, g.2.2, st) else
  if fits2 a.bal q.inx w = false ∨ fits2 q.outy a'.bal g.1 = false then (⟨0, 0⟩, 0, 20, st) else
  (g.1, g.2.1, 0, ((st.setA { a with bal := Wd.of (a.bal.val - w.val) }).setA { a' with bal := Wd.of (a'.bal.val + g.1.val) }).putQ { q with inx := Wd.of (q.inx.val + w.val), outy := Wd.of (q.outy.val - g.1.val) })
def convertF (st : LSt) (a b : Int) (w : Wd) (s : Int) : Wd × Int × Int × LSt :=
  let o := st.of a
  let p := st.of b
  if o.2.2 ≠ 0 then (⟨0, 0⟩, 0, o.2.2, st) else
  if p.2.2 ≠ 0 then (⟨0, 0⟩, 0, p.2.2, st) else
  if o.2.1.name = p.2.1.name then (⟨0, 0⟩, 0, 45, st) else
  match st.getQ (o.2.1.name ++ p.2.1.name) with
  | none => (⟨0, 0⟩, 0, 44, st)
  | some q => convT st o.1 o.2.1 p.1 p.2.1 q w s
def z3 : List AV := [.int .i64 0, .int .u64 0, .int .i64 0]
theorem conv_err4 {M : Mem} {n : Nat} {e : Int} (he : e ≠ 0) (h8 : M.get (n + 1) = some (.cells z3 false)) (t0 t10 t13 t16 t18 : AV) :
    ∃ M', D18.gor 49156 [t0, .ptr (some ⟨n + 1, 0⟩), t10, .int .i64 e, t13, t16, t18] M = some (.tup [.agg z3, .int .i64 e], M') ∧ Fr M M' [n + 1] := by
  have s1 := st_all (n := 3) (v := z3) h8 rfl rfl rfl
  have l1 : ldN (M.put (n + 1) (some (.cells z3 false))) (.ptr (some ⟨n + 1, 0⟩)) 3 = some (.agg z3) := ld_all (put_self h8) rfl
  refine ⟨M.put (n + 1) (some (.cells z3 false)), ?_, Fr.put _ _ _⟩
  simp only [z3] at s1 l1 ⊢
  simp only [aps, ips, g12_4_is (H := H18), T.g12_4, Option.bind_some, p2, p1, bin_neq, fillA, Option.map_some, condA, resA, nth0, nth1, tupA, ld37, bd37, decide_eq_false he, Bool.not_false, s1, l1]
theorem conv_err2 {M : Mem} {n : Nat} {e : Int} (he : e ≠ 0) (h8 : M.get (n + 1) = some (.cells z3 false)) (t0 t7 t10 t13 t16 t18 : AV) :
    ∃ M', D18.gor 49154 [t0, t7, .ptr (some ⟨n + 1, 0⟩), t10, .int .i64 e, t13, t16, t18] M = some (.tup [.agg z3, .int .i64 e], M') ∧ Fr M M' [n + 1] := by
  simp only [aps, ips, g12_2_is (H := H18), T.g12_2, D2_call, Option.bind_some, p2, p1, q1, bin_eql, condA, ld35, decide_eq_false he, g12_3_is (H := H18), T.g12_3]
  exact conv_err4 he h8 _ _ _ _ _
theorem conv_err1 {M : Mem} {n : Nat} {e : Int} (he : e ≠ 0) (h8 : M.get (n + 1) = some (.cells z3 false)) (t0 t7 t10 t13 t14 t16 : AV) :
    ∃ M', D18.gor 49153 [t0, t7, .ptr (some ⟨n + 1, 0⟩), t10, .int .i64 e, t13, t14, t16] M = some (.tup [.agg z3, .int .i64 e], M') ∧ Fr M M' [n + 1] := by
  have hl := Mem.get_lt h8
  have h8' : (M.lay (.cells z3 false)).get (n + 1) = some (.cells z3 false) := by rw [lay_ne (by omega)]; exact h8
  obtain ⟨M', g1, g2⟩ := conv_err2 (M := M.lay (.cells z3 false)) he h8' t0 t7 t10 t13 t16 (.ptr (some ⟨M.next, 0⟩))
  refine ⟨M', ?_, ((Fr.refl' M [n + 1]).lay _).step g2 (fun c hc => .inl hc)⟩
  simp only [z3] at g1 ⊢
  simp only [aps, ips, g12_1_is (H := H18), T.g12_1, D2_call, Option.bind_some, pB, p2, q1, p1, bin_eql, extractA, condA, ld37, ld3, decide_eq_false he]
  exact g1
section
variable {M : Mem} {n b : Nat} {st : LSt} {F : List Nat}
theorem conv_put (h : LedgerAt M b st F) (w : LWf st) (hF : ∀ c, c ∈ F → c < n) {a a' : AccV} {q : PairV} {gw : Wd} {gs : Int} {g : Nat}
    (ha : hasK intLess a.id (st.accs.map (·.id)) = true) (ha' : hasK intLess a'.id (st.accs.map (·.id)) = true) (hk : (st.getP q.x).isSome = true ∧ (st.getP q.y).isSome = true)
    (h8 : M.get (n + 1) = some (.cells z3 false)) (hX : M.get (n + 1 + 1) = some (.cells a.cells false)) (hY : M.get (n + 1 + 1 + 1 + 1) = some (.cells a'.cells false)) (hQ : M.get (n + 1 + 1 + 1 + 1 + 1 + 1) = some (.cells q.cells false))
    (hg : M.get g = some (.cells (decC gw gs) false)) (hgn : n + 1 + 1 + 1 + 1 + 1 + 1 < g) :
    ∃ m' F', D18.gor 49157 [.ptr (some ⟨b, 0⟩), .ptr (some ⟨n + 1, 0⟩), .ptr (some ⟨n + 1 + 1, 0⟩), .ptr (some ⟨n + 1 + 1 + 1 + 1, 0⟩), .ptr (some ⟨n + 1 + 1 + 1 + 1 + 1 + 1, 0⟩), .ptr (some ⟨g, 0⟩)] M = some (.tup [.agg (decC gw gs), .int .i64 0], m') ∧
      LedgerAt m' b (((st.setA a).setA a').putQ q) F' ∧ Fr M m' ((n + 1) :: F) ∧ ∀ c, c ∈ F' → c ∈ F ∨ M.next ≤ c := by
  have nF : ∀ k, n ≤ k → k ∉ F := fun k hk hc => by have := hF k hc; omega
  obtain ⟨m1, F1, g1, g2, g3, g4⟩ := setA_is h w.sa w.la a ha
  have nF1 : ∀ k, n ≤ k → k < M.next → k ∉ F1 := fun k hk hk2 hc => by rcases g4 k hc with h1 | h1; exact nF k hk h1; omega
  have ids := LSt.ids_setA ha
  obtain ⟨m2, F2, j1, j2, j3, j4⟩ := setA_is g2 (by rw [ids]; exact w.sa) (by show (st.accs.set _ _).length ≤ 64; rw [List.length_set]; exact w.la) a' (by rw [ids]; exact ha')
  have nF2 : ∀ k, n ≤ k → k < M.next → k ∉ F2 := fun k hk hk2 hc => by
    rcases j4 k hc with h1 | h1
    · exact nF1 k hk hk2 h1
    · have := g3.next; omega
  obtain ⟨tp, tq, ta, FP, FQ, FA, k1, _⟩ := j2.ex
  obtain ⟨r, m3, F3, i1, i2, i3, i4⟩ := putQ_is2 j2 w.sq w.lq q k1
  have l8 := Mem.get_lt h8
  have lX := Mem.get_lt hX
  have lY := Mem.get_lt hY
  have lQ := Mem.get_lt hQ
  have lg := Mem.get_lt hg
  have y1 := g3.get hY (nF _ (by omega))
  have q2 := j3.get (g3.get hQ (nF _ (by omega))) (nF1 _ (by omega) (by omega))
  have t3 := i3.get (j3.get (g3.get hg (nF _ (by omega))) (nF1 _ (by omega) (by omega))) (nF2 _ (by omega) (by omega))
  have e3 := i3.get (j3.get (g3.get h8 (nF _ (by omega))) (nF1 _ (by omega) (by omega))) (nF2 _ (by omega) (by omega))
  have dX : ldN M (.ptr (some ⟨n + 1 + 1, 0⟩)) 4 = some (.agg a.cells) := ld_all hX rfl
  have dY : ldN m1 (.ptr (some ⟨n + 1 + 1 + 1 + 1, 0⟩)) 4 = some (.agg a'.cells) := ld_all y1 rfl
  have dQ : ldN m2 (.ptr (some ⟨n + 1 + 1 + 1 + 1 + 1 + 1, 0⟩)) 9 = some (.agg q.cells) := ld_all q2 rfl
  have bQ : ∀ i : Nat, ld1 m2 (.ptr (some ⟨n + 1 + 1 + 1 + 1 + 1 + 1, i⟩)) = q.cells[i]? := fun i => ld1_at q2
  have a2 : ∀ i : Nat, ld1 m2 (.ptr (some ⟨b, i⟩)) = [.int .i64 st.most, .ptr (some ⟨tp, 0⟩), .ptr (some ⟨tq, 0⟩), .ptr (some ⟨ta, 0⟩), .int .u64 st.latest][i]? := fun i => ld1_at k1
  have dg : ldN m3 (.ptr (some ⟨g, 0⟩)) 3 = some (.agg (decC gw gs)) := ld_all t3 rfl
  have s8 := st_all (n := 3) (v := decC gw gs) e3 rfl rfl rfl
  have d8 : ldN (m3.put (n + 1) (some (.cells (decC gw gs) false))) (.ptr (some ⟨n + 1, 0⟩)) 3 = some (.agg (decC gw gs)) := ld_all (put_self e3) rfl
  have sa := bin_sadd (P := Tryz.prog) 9 q.x q.y (by have := getP_len w hk.1; have := getP_len w hk.2; omega)
  have f3 : Fr M m3 ((n + 1) :: F) := (((g3.mono (by simp +contextual)).step j3 (fun c hc => by rcases g4 c hc with h1 | h1; exact .inl (by simp [h1]); exact .inr h1)).step i3 (fun c hc => by
    rcases j4 c hc with h1 | h1
    · rcases g4 c h1 with h2 | h2
      · exact .inl (by simp [h2])
      · exact .inr h2
    · exact .inr (Nat.le_trans g3.next h1)))
  refine ⟨m3.put (n + 1) (some (.cells (decC gw gs) false)), F3, ?_, i2.frame (Fr.put _ _ _) ?_, f3.put' (.inl (by simp)), ?_⟩
  · simp only [decC, AccV.cells, PairV.cells, PairV.key] at dX dY dQ bQ g1 j1 i1 dg s8 d8 ⊢
    simp only [ge, aps, ips, g12_5_is (H := H18), T.g12_5, D2_call, Option.bind_some, q1, p1, p2, nnA, resA, nth0, nth1, tupA, fa60_2, fa54_0, fa54_1, ld70, ld57, ld9, ld54, ld37, Nat.zero_add, Nat.add_zero, dX, g1, dY, j1, a2, bQ, dQ, sa, i1, dg, s8, d8]
  · intro c hc hm
    simp only [List.mem_singleton] at hm
    subst hm
    rcases i4 _ hc with h1 | h1
    · exact nF2 _ (by omega) l8 h1
    · have := g3.next; have := j3.next; omega
  · intro c hc
    rcases i4 c hc with h1 | h1
    · rcases j4 c h1 with h2 | h2
      · exact g4 c h2
      · exact .inr (Nat.le_trans g3.next h2)
    · exact .inr (Nat.le_trans g3.next (Nat.le_trans j3.next h1))
end
end Go.Proofs.YtlginbmjiecglaaGreat
end
