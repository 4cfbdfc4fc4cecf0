/- What New, Coin and Open of a ledger do. -/
import Derived.Test.YtlginbmjiecglaaTabP
import Derived.Test.YtlginbmjiecglaaTabA
import Derived.Test.YtlginbmjiecglaaTabQN
import Derived.Test.YtlginbmjiecglaaAbs31
namespace Go.Proofs.Ytlginbmjiecglaa
open Go Go.Abs

theorem name_loop (s : List UInt8) (hl : s.length < 4611686018427387904) (m : Mem) : ∀ (d i : Nat), s.length - i ≤ d → i ≤ s.length → D2.gor 65536 [.str s, .int .i64 i] m = some (.bool ((s.drop i).all (fun c => decide (65 ≤ c.toNat) && decide (c.toNat ≤ 90)) && decide (s.length = 3)), m) := by
  intro d
  induction d with
  | zero =>
    intro i hd hi
    have e : i = s.length := by omega
    subst e
    simp only [g16_0_is, T.g16_0, apS_cons, ap0_nil, D2_call, Option.bind_some, interp_pu, interp_cond, interp_go, p1, p2, bin_lss, bin_slss, condA, len9, decide_eq_false (show ¬ ((s.length : Nat) : Int) < (s.length : Int) by omega), g16_3_is, T.g16_3, apS_cons, ap0_nil, D2_call, Option.bind_some, interp_pu, interp_ret, p1, p2, bin_eql, bin_seql, len9, List.drop_length, List.all_nil, Bool.true_and]
    rw [show decide ((s.length : Int) = 3) = decide (s.length = 3) by by_cases h : s.length = 3 <;> simp [h]; omega]
  | succ d ih =>
    intro i hd hi
    by_cases e : i = s.length
    · exact ih i (by omega) hi
    · have hlt : i < s.length := by omega
      simp only [g16_0_is, T.g16_0, apS_cons, ap0_nil, D2_call, Option.bind_some, interp_pu, interp_cond, interp_go, p1, p2, bin_lss, bin_slss, condA, len9, decide_eq_true (show (i : Int) < (s.length : Int) by omega)]
      have h0 : (0 : Int) ≤ (i : Int) := by omega
      simp only [g16_1_is, T.g16_1, apS_cons, ap0_nil, D2_call, Option.bind_some, interp_pu, interp_ifv, interp_ret, interp_cond, interp_go, p2, bin_gtr, bin_lss, bin_slss, condA, ifV, iv9, if_pos h0, Int.toNat_natCast, List.getElem?_eq_getElem hlt]
      rw [List.drop_eq_getElem_cons hlt, List.all_cons]
      by_cases h1 : (s[i].toNat : Int) < 65
      · simp only [decide_eq_true h1, decide_eq_false (show ¬ 65 ≤ s[i].toNat by omega), Bool.false_and]
      · by_cases h2 : (90 : Int) < (s[i].toNat : Int)
        · simp only [decide_eq_false h1, decide_eq_true h2, decide_eq_false (show ¬ s[i].toNat ≤ 90 by omega), Bool.false_and, Bool.and_false]
        · simp only [decide_eq_false h1, decide_eq_false h2, g16_2_is, T.g16_2, apS_cons, ap0_nil, D2_call, Option.bind_some, interp_pu, interp_go, p2, bin_add, decide_eq_true (show 65 ≤ s[i].toNat by omega), decide_eq_true (show s[i].toNat ≤ 90 by omega), Bool.true_and]
          rw [wrap_i64 (by have := hl; omega) (by have := hl; omega), show (i : Int) + 1 = ((i + 1 : Nat) : Int) by omega]
          exact ih (i + 1) (by omega) (by omega)
theorem name_is (s : List UInt8) (hl : s.length < 4611686018427387904) (m : Mem) : run E2 (.fn 16) [.str s] m = some (.bool (nameB s), m) := by
  simp only [f16_is, T.f16, apS_cons, ap0_nil, D2_call, Option.bind_some, interp_go]
  exact name_loop s hl m s.length 0 (by omega) (by omega)

section
variable {m : Mem} {b : Nat} {st : LSt} {F : List Nat}

theorem coin_is (h : LedgerAt m b st F) (hs : Srt strLess (st.purses.map (·.name))) (hl : st.purses.length ≤ 8) (name : List UInt8) (hn : name.length < 4611686018427387904) {scale : Int} (h0 : 0 ≤ scale) :
    ∃ m' F', run E2 (.fn 7) [.ptr (some ⟨b, 0⟩), .str name, .int .u64 scale] m = some (.int .i64 (coinF st name scale).1, m') ∧ LedgerAt m' b (coinF st name scale).2 F' ∧ Fr m m' F ∧ ∀ c, c ∈ F' → c ∈ F ∨ m.next ≤ c := by
  obtain ⟨tp, tq, ta, FP, FQ, FA, h1, h2, h3, h4, h5, h6, h7, h8, h9, h10, rfl⟩ := h.ex
  obtain ⟨v, m1, g1, g2, g3, g4, g5, g6⟩ := getP_is h2 hs (by simp; omega) name
  have a3 : ∀ i : Nat, ld1 m (.ptr (some ⟨b, i⟩)) = [.int .i64 st.most, .ptr (some ⟨tp, 0⟩), .ptr (some ⟨tq, 0⟩), .ptr (some ⟨ta, 0⟩), .int .u64 st.latest][i]? := fun i => ld1_at h1
  have f2 : Fr m ((m1.lay (.cells [.str [], .int .i64 0, .int .i64 0, .int .u64 0] false)).put m1.next (some (.cells v false))) [] := (g6.lay _).put' (.inr g6.next)
  have e2 := st_all (n := 4) (lay_self m1 (.cells [.str [], .int .i64 0, .int .i64 0, .int .u64 0] false)) rfl g4 g5
  have a4 : ∀ i : Nat, ld1 ((m1.lay (.cells [.str [], .int .i64 0, .int .i64 0, .int .u64 0] false)).put m1.next (some (.cells v false))) (.ptr (some ⟨b, i⟩)) = [.int .i64 st.most, .ptr (some ⟨tp, 0⟩), .ptr (some ⟨tq, 0⟩), .ptr (some ⟨ta, 0⟩), .int .u64 st.latest][i]? := fun i => ld1_at (f2.get h1 (by simp))
  unfold coinF
  simp only [f7_is, T.f7, apS_cons, ap0_nil, D2_call, Option.bind_some, interp_pu, interp_rm, interp_call, interp_al, interp_st, interp_cond, interp_ret, interp_go, p1, q1, pB, p2, bin_gtr, fillA, AV.cells, List.take_succ_cons, List.take_zero, List.drop_succ_cons, List.drop_zero, List.cons_append, List.nil_append, List.append_nil, List.length_cons, List.length_nil, Option.map_some, Nat.zero_add, Nat.reduceAdd, Nat.reduceLeDiff, if_true, List.getElem?_cons_zero, List.getElem?_cons_succ, nnA, extractA, List.getElem?_cons_zero, List.getElem?_cons_succ, condA, unA, fa38_1, ld34, bd44, cv22_3, Nat.add_zero, a3, g1, e2, name_is name hn]
  cases hb : nameB name with
  | false =>
    simp only [Bool.not_false, if_true]
    exact ⟨_, _, rfl, h.frame0 f2, f2.any _, fun c hc => .inl hc⟩
  | true =>
    simp only [Bool.not_true, Bool.true_eq_false, if_false]
    by_cases hsc : 18 < scale
    · simp only [decide_eq_true hsc, if_pos hsc]
      exact ⟨_, _, rfl, h.frame0 f2, f2.any _, fun c hc => .inl hc⟩
    · simp only [decide_eq_false hsc, if_neg hsc]
      cases hk : hasK strLess name (st.purses.map (·.name)) with
      | true =>
        simp only [if_true]
        exact ⟨_, _, rfl, h.frame0 f2, f2.any _, fun c hc => .inl hc⟩
      | false =>
        obtain ⟨m3, FP', p1', p2', p3', p4'⟩ := putP_is (h2.frame f2 (by simp)) hs (by simp; omega) name (v := (PurseV.mk name scale ⟨0, 0⟩).cells) rfl rfl
        have e4 : (AV.agg [.str name, .int .i64 scale, .int .i64 0, .int .u64 0]) = .agg (PurseV.mk name scale ⟨0, 0⟩).cells := rfl
        simp only [f7_is, T.f7, apS_cons, ap0_nil, D2_call, Option.bind_some, interp_pu, interp_rm, interp_call, interp_al, interp_st, interp_cond, interp_ret, interp_go, p1, q1, pB, p2, bin_gtr, fillA, AV.cells, List.take_succ_cons, List.take_zero, List.drop_succ_cons, List.drop_zero, List.cons_append, List.nil_append, List.append_nil, List.length_cons, List.length_nil, Option.map_some, Nat.zero_add, Nat.reduceAdd, Nat.reduceLeDiff, if_true, List.getElem?_cons_zero, List.getElem?_cons_succ, nnA, extractA, List.getElem?_cons_zero, List.getElem?_cons_succ, condA, unA, fa38_1, ld34, bd44, cv22_3, Nat.add_zero, a4, wrap_i64 (n := scale) (by omega) (by omega), e4, p1', Bool.false_eq_true, if_false, hk, Bool.false_or, List.length_map]
        simp only [putK, putV, hk, Bool.false_eq_true, if_false, List.length_map] at p2'
        by_cases hf : 8 ≤ st.purses.length
        · rw [if_neg (show ¬ ((st.purses.length : Int) < 8) by omega), if_neg (show ¬ ((st.purses.length : Int) < 8) by omega)] at p2'
          simp only [decide_eq_false (show ¬ ((st.purses.length : Int) < 8) by omega), Bool.not_false, if_pos hf, unA, Option.bind_some]
          obtain ⟨F', q1, q2, q3⟩ := LedgerAt.purses (ps := st.purses) (f2.get h1 (by simp)) (h2.frame f2 (by simp)) (h3.frame f2 (by simp)) (h4.frame f2 (by simp)) h5 h6 h7 h8 h9 h10 p3' p2' p4'
          exact ⟨_, F', rfl, q1, (f2.any _).step q2 (fun c hc => .inl hc), fun c hc => (q3 c hc).imp id (fun h => Nat.le_trans f2.next h)⟩
        · rw [if_pos (show ((st.purses.length : Int) < 8) by omega), if_pos (show ((st.purses.length : Int) < 8) by omega)] at p2'
          simp only [decide_eq_true (show ((st.purses.length : Int) < 8) by omega), Bool.not_true, if_neg hf, unA, g7_0_is, T.g7_0, apS_cons, ap0_nil, D2_call, Option.bind_some, interp_ret]
          obtain ⟨F', q1, q2, q3⟩ := LedgerAt.purses (ps := insL (lb strLess name (st.purses.map (·.name))) ⟨name, scale, ⟨0, 0⟩⟩ st.purses) (f2.get h1 (by simp)) (h2.frame f2 (by simp)) (h3.frame f2 (by simp)) (h4.frame f2 (by simp)) h5 h6 h7 h8 h9 h10 p3' (by rw [insL_map, insL_map]; exact p2') p4'
          exact ⟨_, F', rfl, q1, (f2.any _).step q2 (fun c hc => .inl hc), fun c hc => (q3 c hc).imp id (fun h => Nat.le_trans f2.next h)⟩

theorem lenA_is {ks : List Int} {vs : List (List AV)} {most : Int} {t : Nat} (h : TabAt (.int .u64) 4 m t ks vs most F) : run E2 (.fn 18) [.ptr (some ⟨t, 0⟩)] m = some (.int .i64 ks.length, m) := by
  obtain ⟨⟨sk, sv, kb, vb, h1, h2, h3, h4, h5, h6, rfl⟩, h7⟩ := h
  obtain ⟨a, sz, cap, ex, rfl⟩ := h2.klen
  have a3 : ∀ i : Nat, ld1 m (.ptr (some ⟨t, i⟩)) = [.sl a sz ks.length cap ex, sv, .int .i64 most][i]? := fun i => ld1_at h1
  simp only [f18_is, T.f18, apS_cons, ap0_nil, D2_call, Option.bind_some, interp_pu, interp_rm, interp_ret, p1, q1, nnA, fa75_0, ld72, len72, Nat.zero_add, Nat.add_zero, Nat.reduceAdd, List.getElem?_cons_zero, List.getElem?_cons_succ, a3]

theorem open_is (h : LedgerAt m b st F) (hs : Srt strLess (st.purses.map (·.name))) (hl : st.purses.length ≤ 8) (hsa : Srt intLess (st.accs.map (·.id))) (hla : st.accs.length ≤ 64) (hid : ∀ a ∈ st.accs, a.id ≤ st.latest) (h0 : 0 ≤ st.latest)
    (name : List UInt8) :
    ∃ m' F', run E2 (.fn 8) [.ptr (some ⟨b, 0⟩), .str name] m = some (.tup [.int .u64 (openF st name).1, .int .i64 (openF st name).2.1], m') ∧ LedgerAt m' b (openF st name).2.2 F' ∧ Fr m m' F ∧ ∀ c, c ∈ F' → c ∈ F ∨ m.next ≤ c := by
  obtain ⟨tp, tq, ta, FP, FQ, FA, h1, h2, h3, h4, h5, h6, h7, h8, h9, h10, rfl⟩ := h.ex
  obtain ⟨v, m1, g1, g2, g3, g4, g5, g6⟩ := getP_is h2 hs (by simp; omega) name
  have a3 : ∀ i : Nat, ld1 m (.ptr (some ⟨b, i⟩)) = [.int .i64 st.most, .ptr (some ⟨tp, 0⟩), .ptr (some ⟨tq, 0⟩), .ptr (some ⟨ta, 0⟩), .int .u64 st.latest][i]? := fun i => ld1_at h1
  have f2 : Fr m ((m1.lay (.cells [.str [], .int .i64 0, .int .i64 0, .int .u64 0] false)).put m1.next (some (.cells v false))) [] := (g6.lay _).put' (.inr g6.next)
  have e2 := st_all (n := 4) (lay_self m1 (.cells [.str [], .int .i64 0, .int .i64 0, .int .u64 0] false)) rfl g4 g5
  obtain ⟨m2, hm2⟩ : ∃ m2, m2 = (m1.lay (.cells [.str [], .int .i64 0, .int .i64 0, .int .u64 0] false)).put m1.next (some (.cells v false)) := ⟨_, rfl⟩
  rw [← hm2] at f2 e2
  have b1 := f2.get h1 (by simp)
  have b2 := h2.frame f2 (by simp)
  have b3 := h3.frame f2 (by simp)
  have b4 := h4.frame f2 (by simp)
  have a4 : ∀ i : Nat, ld1 m2 (.ptr (some ⟨b, i⟩)) = [.int .i64 st.most, .ptr (some ⟨tp, 0⟩), .ptr (some ⟨tq, 0⟩), .ptr (some ⟨ta, 0⟩), .int .u64 st.latest][i]? := fun i => ld1_at b1
  unfold openF
  simp only [f8_is, T.f8, apS_cons, ap0_nil, D2_call, Option.bind_some, interp_pu, interp_rm, interp_call, interp_al, interp_st, interp_cond, interp_ret, interp_go, p1, q1, pB, nnA, extractA, List.getElem?_cons_zero, List.getElem?_cons_succ, condA, unA, fa38_1, ld34, Nat.zero_add, Nat.add_zero, Nat.reduceAdd, a3, g1, e2]
  cases hk : hasK strLess name (st.purses.map (·.name)) with
  | false =>
    simp only [Bool.not_false, if_true]
    exact ⟨_, _, rfl, h.frame0 f2, f2.any _, fun c hc => .inl hc⟩
  | true =>
    simp only [Bool.not_true, Bool.true_eq_false, if_false]
    simp only [g8_0_is, T.g8_0, apS_cons, ap0_nil, D2_call, Option.bind_some, interp_pu, interp_rm, interp_memo, interp_call, interp_chk, interp_ifv, interp_ret, interp_cond, interp_go, p1, q1, p2, bin_geq, bin_sgeq, nnA, condA, ifV, fa38_3, fa38_0, fa38_4, ld36, ld3, ld22, Nat.zero_add, Nat.add_zero, Nat.reduceAdd, List.getElem?_cons_zero, List.getElem?_cons_succ, a4, lenA_is b4, List.length_map, if_true]
    by_cases hm : st.most ≤ (st.accs.length : Int)
    · simp only [decide_eq_true hm, hm, true_or, if_true]
      exact ⟨_, _, rfl, h.frame0 f2, f2.any _, fun c hc => .inl hc⟩
    · simp only [decide_eq_false hm, hm, false_or]
      by_cases hlt : 72057594037927935 ≤ st.latest
      · simp only [decide_eq_true hlt, if_pos hlt, decide_true]
        exact ⟨_, _, rfl, h.frame0 f2, f2.any _, fun c hc => .inl hc⟩
      · simp only [decide_eq_false hlt, if_neg hlt, decide_false]
        obtain ⟨m3, hm3⟩ : ∃ m3, m3 = m2.put b (some (.cells [.int .i64 st.most, .ptr (some ⟨tp, 0⟩), .ptr (some ⟨tq, 0⟩), .ptr (some ⟨ta, 0⟩), .int .u64 (st.latest + 1)] false)) := ⟨_, rfl⟩
        obtain ⟨c1, c2, c3, c4, c5, c6⟩ := LedgerAt.latest (st.latest + 1) b1 b2 b3 b4 h5 h6 h7 hm3
        have a5 : ∀ i : Nat, ld1 m3 (.ptr (some ⟨b, i⟩)) = [.int .i64 st.most, .ptr (some ⟨tp, 0⟩), .ptr (some ⟨tq, 0⟩), .ptr (some ⟨ta, 0⟩), .int .u64 (st.latest + 1)][i]? := fun i => ld1_at c3
        have hall : ∀ x ∈ st.accs.map (·.id), intLess x (st.latest + 1) = true := by
          intro x hx
          obtain ⟨a, ha, rfl⟩ := List.mem_map.1 hx
          have := hid a ha
          simp [intLess]; omega
        obtain ⟨m4, FA', d1, d2, d3, d4⟩ := putA_is c6 hsa (by simp; omega) (st.latest + 1) (v := (AccV.mk (st.latest + 1) name ⟨0, 0⟩).cells) rfl rfl
        have e4 : (AV.agg [.int .u64 (st.latest + 1), .str name, .int .i64 0, .int .u64 0]) = .agg (AccV.mk (st.latest + 1) name ⟨0, 0⟩).cells := rfl
        have hlt' : ((st.accs.length : Nat) : Int) < st.most := by omega
        simp only [putK, putV, has_end hall, lb_end hall, Bool.false_eq_true, if_false, List.length_map, if_pos hlt'] at d2
        have e5 : insL st.accs.length (st.latest + 1) (st.accs.map (·.id)) = (st.accs ++ [AccV.mk (st.latest + 1) name ⟨0, 0⟩]).map (·.id) := by
          have := insL_end (st.latest + 1) (st.accs.map (·.id)); simp only [List.length_map] at this; rw [this]; simp
        have e6 : insL st.accs.length (AccV.mk (st.latest + 1) name ⟨0, 0⟩).cells (st.accs.map (·.cells)) = (st.accs ++ [AccV.mk (st.latest + 1) name ⟨0, 0⟩]).map (·.cells) := by
          have := insL_end (AccV.mk (st.latest + 1) name ⟨0, 0⟩).cells (st.accs.map (·.cells)); simp only [List.length_map] at this; rw [this]; simp
        rw [e5, e6] at d2
        obtain ⟨F', q1, q2, q3⟩ := LedgerAt.accs (st := { st with latest := st.latest + 1 }) c3 c4 c5 c6 h5 h6 h7 h8 h9 h10 d3 d2 d4
        have f3 : Fr m m3 (b :: (FP ++ FQ ++ FA)) := (f2.any _).step c2 (by simp)
        have f4 : Fr m m4 (b :: (FP ++ FQ ++ FA)) := f3.step q2 (fun c hc => .inl hc)
        have a6 : ∀ i : Nat, ld1 m4 (.ptr (some ⟨b, i⟩)) = [.int .i64 st.most, .ptr (some ⟨tp, 0⟩), .ptr (some ⟨tq, 0⟩), .ptr (some ⟨ta, 0⟩), .int .u64 (st.latest + 1)][i]? := fun i => ld1_at (d3.get c3 h7)
        refine ⟨m4, F', ?_, q1, f4, fun c hc => (q3 c hc).imp id (fun h => Nat.le_trans f3.next h)⟩
        simp only [g8_1_is, T.g8_1, apS_cons, ap0_nil, D2_call, Option.bind_some, interp_pu, interp_rm, interp_st, interp_call, interp_ret, p1, q1, p2, bin_add, fillA, AV.cells, List.take_succ_cons, List.take_zero, List.drop_succ_cons, List.drop_zero, List.cons_append, List.nil_append, List.append_nil, List.length_cons, List.length_nil, Option.map_some, Nat.zero_add, Nat.reduceAdd, Nat.reduceLeDiff, if_true, List.getElem?_cons_zero, List.getElem?_cons_succ, nnA, fa38_4, fa38_3, ld22, ld36, bd54, Nat.add_zero, a4, wrap_u64 (x := st.latest + 1) (by omega) (by omega), c1, a5, e4, d1, a6, decide_false]

theorem new_is (m : Mem) {most : Int} (h1 : 1 ≤ most) (h2 : most ≤ 64) :
    ∃ b m' F, run E2 (.fn 5) [.int .i64 most] m = some (.tup [.ptr (some ⟨b, 0⟩), .int .i64 0], m') ∧ LedgerAt m' b ⟨[], [], [], 0, most⟩ F ∧ Fr m m' [] ∧ ∀ c, c ∈ F → m.next ≤ c := by
  obtain ⟨m1, hm1⟩ : ∃ m1, m1 = m.lay (.cells [.int .i64 most, .ptr none, .ptr none, .ptr none, .int .u64 0] false) := ⟨_, rfl⟩
  have b1 : m1.get m.next = some (.cells [.int .i64 most, .ptr none, .ptr none, .ptr none, .int .u64 0] false) := by rw [hm1]; exact lay_self _ _
  have n1 : m1.next = m.next + 1 := by rw [hm1]; rfl
  have f1 : Fr m m1 [] := by rw [hm1]; exact (Fr.refl m).lay _
  -- purses
  obtain ⟨m2', p1, p2⟩ := newP_is m1 (most := 8) (by omega) (by omega)
  have b2 := (show m2'.get m.next = m1.get m.next by rw [p2, lay_ne (by omega)]).trans b1
  have s2 := stV_at (v := .ptr (some ⟨m1.next, 0⟩)) (o := 1) (n := 1) b2 rfl rfl (by simp)
  obtain ⟨m2, hm2⟩ : ∃ m2, m2 = m2'.put m.next (some (.cells [.int .i64 most, .ptr (some ⟨m1.next, 0⟩), .ptr none, .ptr none, .int .u64 0] false)) := ⟨_, rfl⟩
  have s2' : stV m2' (.ptr (some ⟨m.next, 1⟩)) (.ptr (some ⟨m1.next, 0⟩)) 1 = some m2 := by rw [hm2]; simpa using s2
  have n2 : m2.next = m.next + 2 := by rw [hm2, p2]; simp [n1]
  have b2' : m2.get m.next = some (.cells [.int .i64 most, .ptr (some ⟨m1.next, 0⟩), .ptr none, .ptr none, .int .u64 0] false) := by rw [hm2]; exact put_self b2
  have t2 : m2.get m1.next = some (.cells [.sl none 0 0 0 true, .sl none 0 0 0 true, .int .i64 8] false) := by rw [hm2, put_ne (by omega), p2]; exact lay_self _ _
  have f2 : Fr m m2 [] := by rw [hm2, p2]; exact (f1.lay _).put' (.inr (Nat.le_refl _))
  -- pairs
  obtain ⟨m3', q1, q2⟩ := newQ_is m2 (most := 64) (by omega) (by omega)
  have b3 := (show m3'.get m.next = m2.get m.next by rw [q2, lay_ne (by omega)]).trans b2'
  have s3 := stV_at (v := .ptr (some ⟨m2.next, 0⟩)) (o := 2) (n := 1) b3 rfl rfl (by simp)
  obtain ⟨m3, hm3⟩ : ∃ m3, m3 = m3'.put m.next (some (.cells [.int .i64 most, .ptr (some ⟨m1.next, 0⟩), .ptr (some ⟨m2.next, 0⟩), .ptr none, .int .u64 0] false)) := ⟨_, rfl⟩
  have s3' : stV m3' (.ptr (some ⟨m.next, 2⟩)) (.ptr (some ⟨m2.next, 0⟩)) 1 = some m3 := by rw [hm3]; simpa using s3
  have n3 : m3.next = m.next + 3 := by rw [hm3, q2]; simp [n2]
  have b3' : m3.get m.next = some (.cells [.int .i64 most, .ptr (some ⟨m1.next, 0⟩), .ptr (some ⟨m2.next, 0⟩), .ptr none, .int .u64 0] false) := by rw [hm3]; exact put_self b3
  have t3 : m3.get m2.next = some (.cells [.sl none 0 0 0 true, .sl none 0 0 0 true, .int .i64 64] false) := by rw [hm3, put_ne (by omega), q2]; exact lay_self _ _
  have t23 : m3.get m1.next = some (.cells [.sl none 0 0 0 true, .sl none 0 0 0 true, .int .i64 8] false) := by rw [hm3, put_ne (by omega), q2, lay_ne (by omega)]; exact t2
  have f3 : Fr m m3 [] := by rw [hm3, q2]; exact (f2.lay _).put' (.inr (Nat.le_refl _))
  -- accounts
  obtain ⟨m4', r1, r2⟩ := newA_is m3 (most := most) (by omega) (by omega)
  have b4 := (show m4'.get m.next = m3.get m.next by rw [r2, lay_ne (by omega)]).trans b3'
  have s4 := stV_at (v := .ptr (some ⟨m3.next, 0⟩)) (o := 3) (n := 1) b4 rfl rfl (by simp)
  obtain ⟨m4, hm4⟩ : ∃ m4, m4 = m4'.put m.next (some (.cells [.int .i64 most, .ptr (some ⟨m1.next, 0⟩), .ptr (some ⟨m2.next, 0⟩), .ptr (some ⟨m3.next, 0⟩), .int .u64 0] false)) := ⟨_, rfl⟩
  have s4' : stV m4' (.ptr (some ⟨m.next, 3⟩)) (.ptr (some ⟨m3.next, 0⟩)) 1 = some m4 := by rw [hm4]; simpa using s4
  have b4' : m4.get m.next = some (.cells [.int .i64 most, .ptr (some ⟨m1.next, 0⟩), .ptr (some ⟨m2.next, 0⟩), .ptr (some ⟨m3.next, 0⟩), .int .u64 0] false) := by rw [hm4]; exact put_self b4
  have t4 : m4.get m3.next = some (.cells [.sl none 0 0 0 true, .sl none 0 0 0 true, .int .i64 most] false) := by rw [hm4, put_ne (by omega), r2]; exact lay_self _ _
  have t34 : m4.get m2.next = some (.cells [.sl none 0 0 0 true, .sl none 0 0 0 true, .int .i64 64] false) := by rw [hm4, put_ne (by omega), r2, lay_ne (by omega)]; exact t3
  have t24 : m4.get m1.next = some (.cells [.sl none 0 0 0 true, .sl none 0 0 0 true, .int .i64 8] false) := by rw [hm4, put_ne (by omega), r2, lay_ne (by omega)]; exact t23
  have f4 : Fr m m4 [] := by rw [hm4, r2]; exact (f3.lay _).put' (.inr (Nat.le_refl _))
  refine ⟨m.next, m4, m.next :: ([m1.next] ++ [m2.next] ++ [m3.next]), ?_, ⟨m1.next, m2.next, m3.next, _, _, _, b4', TabAt.new t24, TabAt.new t34, TabAt.new t4, by simp; omega, by simp; omega, by simp; omega, ?_, ?_, ?_, rfl⟩, f4, ?_⟩
  · simp only [f5_is, T.f5, apS_cons, ap0_nil, D2_call, Option.bind_some, interp_pu, interp_ifv, interp_ret, interp_cond, interp_go, p2, bin_gtr, bin_lss, bin_slss, condA, ifV, decide_eq_false (show ¬ most < 1 by omega), decide_eq_false (show ¬ (64 : Int) < most by omega)]
    simp only [g5_0_is, T.g5_0, apS_cons, ap0_nil, D2_call, Option.bind_some, interp_pu, interp_al, interp_call, interp_st, interp_ret, p1, fillA, AV.cells, List.take_succ_cons, List.take_zero, List.drop_succ_cons, List.drop_zero, List.cons_append, List.nil_append, List.append_nil, List.length_cons, List.length_nil, Option.map_some, Nat.zero_add, Nat.reduceAdd, Nat.reduceLeDiff, if_true, List.getElem?_cons_zero, List.getElem?_cons_succ, boxA, nnA, extractA, List.getElem?_cons_zero, List.getElem?_cons_succ, fa38_1, fa38_2, fa38_3, bd38, Nat.add_zero, List.all_cons, List.all_nil, AV.one, Bool.and_self, Bool.and_true, ← hm1, p1, s2', q1, s3', r1, s4']
  · intro c h h'; simp only [List.mem_singleton] at h h'; omega
  · intro c h h'; simp only [List.mem_singleton] at h h'; omega
  · intro c h h'; simp only [List.mem_singleton] at h h'; omega
  · intro c hc
    simp only [List.mem_cons, List.mem_append, List.not_mem_nil, or_false] at hc
    omega
end
end Go.Proofs.Ytlginbmjiecglaa
