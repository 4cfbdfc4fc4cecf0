/- A table's functions. -/
import Derived.Test.YtlginbmjiecglaaBsS
namespace Go.Proofs.Ytlginbmjiecglaa
open Go Go.Abs

theorem inkP_is (xs : List AV) (m : Mem) : run E2 (.fn 26) xs m = insH Try.prog 65 xs m := run_hook rfl xs m
theorem invP_is (xs : List AV) (m : Mem) : run E2 (.fn 27) xs m = insH Try.prog 66 xs m := run_hook rfl xs m

section
variable {m : Mem} {t : Nat} {ks : List (List UInt8)} {vs : List (List AV)} {most : Int} {F : List Nat}

/-- A new table. -/
theorem newP_is (m : Mem) {most : Int} (h1 : 1 ≤ most) (h2 : most ≤ 4096) : ∃ m', run E2 (.fn 9) [.int .i64 most] m = some (.tup [.ptr (some ⟨m.next, 0⟩), .int .i64 0], m') ∧ m' = m.lay (.cells [.sl none 0 0 0 true, .sl none 0 0 0 true, .int .i64 most] false) := by
  refine ⟨_, ?_, rfl⟩
  simp only [f9_is, T.f9, apS_cons, ap0_nil, D2_call, Option.bind_some, interp_pu, interp_ifv, interp_ret, interp_cond, interp_go, p2, bin_gtr, bin_lss, bin_slss, condA, ifV, decide_eq_false (show ¬ most < 1 by omega), decide_eq_false (show ¬ (4096 : Int) < most by omega)]
  simp only [g9_0_is, T.g9_0, apS_cons, ap0_nil, D2_call, Option.bind_some, interp_pu, interp_al, interp_ret, p1, fillA, AV.cells, List.take_succ_cons, List.take_zero, List.drop_succ_cons, List.drop_zero, List.cons_append, List.nil_append, List.append_nil, List.length_cons, List.length_nil, Option.map_some, Nat.zero_add, Nat.reduceAdd, Nat.reduceLeDiff, if_true, List.getElem?_cons_zero, List.getElem?_cons_succ, boxA, bd68, List.all_cons, List.all_nil, AV.one, Bool.and_self, Bool.and_true]

/-- A value looked for. -/
theorem getP_in (h : TabAt (.str) 4 m t ks vs most F) (hs : Srt strLess ks) (hl : ks.length < 65536) (k : (List UInt8)) (hk : hasK strLess k ks = true) :
    ∃ v m', vs[lb strLess k ks]? = some v ∧ run E2 (.fn 15) [.ptr (some ⟨t, 0⟩), .str k] m = some (.tup [.agg v, .bool true], m') ∧ Fr m m' [] := by
  obtain ⟨⟨sk, sv, kb, vb, h1, h2, h3, h4, h5, h6, rfl⟩, h7⟩ := h
  have hlt : lb strLess k ks < ks.length := by
    have : ks[lb strLess k ks]? = some k := by simpa [hasK] using hk
    exact (List.getElem?_eq_some_iff.1 this).1
  have hf : Fr m (m.lay (.cells [.str [], .int .i64 0, .int .i64 0, .int .u64 0] false)) [] := (Fr.refl m).lay _
  have g1 := hf.get h1 (by simp)
  have g2 := h2.frame hf (by simp)
  have g3 := h3.frame hf (by simp)
  obtain ⟨b, rfl, a1, a2⟩ := g3.val (i := lb strLess k ks) (by omega)
  have a3 : ∀ i : Nat, ld1 (m.lay (.cells [.str [], .int .i64 0, .int .i64 0, .int .u64 0] false)) (.ptr (some ⟨t, i⟩)) = [sk, .sl (some ⟨b, 0⟩) 4 vs.length vs.length false, .int .i64 most][i]? := fun i => ld1_at g1
  have hv := h3.1 _ (List.getElem_mem (show lb strLess k ks < vs.length by omega))
  refine ⟨vs[lb strLess k ks], (m.lay (.cells [.str [], .int .i64 0, .int .i64 0, .int .u64 0] false)).put m.next (some (.cells vs[lb strLess k ks] false)), List.getElem?_eq_getElem (by omega), ?_, hf.put' (.inr (Nat.le_refl _))⟩
  simp only [f15_is, T.f15, apS_cons, ap0_nil, D2_call, Option.bind_some, interp_al, interp_pu, interp_rm, interp_call, interp_cond, interp_st, interp_resC, interp_go, pB, p1, q1, nnA, extractA, List.getElem?_cons_zero, List.getElem?_cons_succ, condA, unA, resA, nth0, nth1, nth2, nth3, tupA, fa68_0, ld65, ld44, Nat.zero_add, Nat.add_zero, Nat.reduceAdd, a3, bsS_is g2 hs (by omega), hk, Bool.not_true, g15_0_is, T.g15_0, apS_cons, ap0_nil, D2_call, Option.bind_some, interp_pu, interp_rm, interp_st, interp_resC, p1, q1, p2, nnA, resA, nth0, nth1, nth2, nth3, tupA, fa68_1, ld66, ld44, ix66, Nat.zero_add, Nat.add_zero, Nat.reduceAdd, List.getElem?_cons_zero, List.getElem?_cons_succ, true_or, if_true, a1, a2, st_all (n := 4) (lay_self m (.cells [.str [], .int .i64 0, .int .i64 0, .int .u64 0] false)) rfl hv.1 hv.2, ld_all (n := 4) (put_self (lay_self m (.cells [.str [], .int .i64 0, .int .i64 0, .int .u64 0] false))) hv.1]
theorem getP_out (h : TabAt (.str) 4 m t ks vs most F) (hs : Srt strLess ks) (hl : ks.length < 65536) (k : (List UInt8)) (hk : hasK strLess k ks = false) :
    ∃ m', run E2 (.fn 15) [.ptr (some ⟨t, 0⟩), .str k] m = some (.tup [.agg [.str [], .int .i64 0, .int .i64 0, .int .u64 0], .bool false], m') ∧ Fr m m' [] := by
  obtain ⟨⟨sk, sv, kb, vb, h1, h2, h3, h4, h5, h6, rfl⟩, h7⟩ := h
  have hf : Fr m (m.lay (.cells [.str [], .int .i64 0, .int .i64 0, .int .u64 0] false)) [] := (Fr.refl m).lay _
  have g1 := hf.get h1 (by simp)
  have g2 := h2.frame hf (by simp)
  have a3 : ∀ i : Nat, ld1 (m.lay (.cells [.str [], .int .i64 0, .int .i64 0, .int .u64 0] false)) (.ptr (some ⟨t, i⟩)) = [sk, sv, .int .i64 most][i]? := fun i => ld1_at g1
  have g3 : ((m.lay (.cells [.str [], .int .i64 0, .int .i64 0, .int .u64 0] false)).lay (.cells [.str [], .int .i64 0, .int .i64 0, .int .u64 0] false)).get m.next = some (.cells [.str [], .int .i64 0, .int .i64 0, .int .u64 0] false) := by rw [lay_ne (by simp)]; exact lay_self _ _
  refine ⟨((m.lay (.cells [.str [], .int .i64 0, .int .i64 0, .int .u64 0] false)).lay (.cells [.str [], .int .i64 0, .int .i64 0, .int .u64 0] false)).put m.next (some (.cells [.str [], .int .i64 0, .int .i64 0, .int .u64 0] false)), ?_, (hf.lay _).put' (.inr (Nat.le_refl _))⟩
  simp only [f15_is, T.f15, apS_cons, ap0_nil, D2_call, Option.bind_some, interp_al, interp_pu, interp_rm, interp_call, interp_cond, interp_st, interp_resC, interp_go, pB, p1, q1, nnA, extractA, List.getElem?_cons_zero, List.getElem?_cons_succ, condA, unA, resA, nth0, nth1, nth2, nth3, tupA, fa68_0, ld65, ld44, Nat.zero_add, Nat.add_zero, Nat.reduceAdd, a3, bsS_is g2 hs (by omega), hk, Bool.not_false, ld_all (n := 4) (lay_self (m.lay (.cells [.str [], .int .i64 0, .int .i64 0, .int .u64 0] false)) (.cells [.str [], .int .i64 0, .int .i64 0, .int .u64 0] false)) rfl, st_all (n := 4) g3 rfl (show ([.str [], .int .i64 0, .int .i64 0, .int .u64 0] : List AV).length = 4 by rfl) (by rfl), ld_all (n := 4) (v := [.str [], .int .i64 0, .int .i64 0, .int .u64 0]) (put_self g3) rfl]

/-- A value put where one is. -/
theorem putP_in (h : TabAt (.str) 4 m t ks vs most F) (hs : Srt strLess ks) (hl : ks.length < 65536) (k : (List UInt8)) (hk : hasK strLess k ks = true) {v : List AV} (hv : v.length = 4) (ho : v.all AV.one = true) :
    ∃ m', run E2 (.fn 17) [.ptr (some ⟨t, 0⟩), .str k, .agg v] m = some (.bool true, m') ∧ TabAt (.str) 4 m' t ks (vs.set (lb strLess k ks) v) most F ∧ Fr m m' F := by
  have hlt : lb strLess k ks < ks.length := by
    have : ks[lb strLess k ks]? = some k := by simpa [hasK] using hk
    exact (List.getElem?_eq_some_iff.1 this).1
  have hf : Fr m (m.lay (.cells v false)) [] := (Fr.refl m).lay _
  have h' := h.frame hf (by simp)
  obtain ⟨sk, sv, b, m', g1, rfl, a1, a2, a5, a6⟩ := h'.set hlt hv ho
  obtain ⟨⟨sk', sv', kb, vb, h1, h2, h3, h4, h5, h6, e⟩, h7⟩ := h'
  rw [g1] at h1
  cases h1
  have a3 : ∀ i : Nat, ld1 (m.lay (.cells v false)) (.ptr (some ⟨t, i⟩)) = [sk, .sl (some ⟨b, 0⟩) 4 vs.length vs.length false, .int .i64 most][i]? := fun i => ld1_at g1
  have a4 : ldN (m.lay (.cells v false)) (.ptr (some ⟨m.next, 0⟩)) 4 = some (.agg v) := by
    rw [ldN_at (lay_self _ _) (by omega), List.drop_zero, List.take_of_length_le (by omega)]
  refine ⟨m', ?_, a5, (hf.any F).step a6 (fun c hc => .inl hc)⟩
  simp only [f17_is, T.f17, apS_cons, ap0_nil, D2_call, Option.bind_some, interp_al, interp_pu, interp_rm, interp_call, interp_cond, interp_st, interp_go, interp_ret, p1, q1, p2, bin_geq, bin_sgeq, boxA, nnA, extractA, List.getElem?_cons_zero, List.getElem?_cons_succ, condA, fa68_0, fa68_1, fa68_2, ld65, ld66, ld44, ld3, len65, ix66, Nat.zero_add, Nat.add_zero, Nat.reduceAdd, agg_cells ho, Option.map_some, a3, a4, bsS_is h2 hs (by omega), hk, true_or, if_true, a1, a2, g17_0_is, T.g17_0, apS_cons, ap0_nil, D2_call, Option.bind_some, interp_ret]

/-- No room. -/
theorem putP_full (h : TabAt (.str) 4 m t ks vs most F) (hs : Srt strLess ks) (hl : ks.length < 65536) (k : (List UInt8)) (hk : hasK strLess k ks = false) (hf : most ≤ ks.length) {v : List AV} (ho : v.all AV.one = true) :
    ∃ m', run E2 (.fn 17) [.ptr (some ⟨t, 0⟩), .str k, .agg v] m = some (.bool false, m') ∧ Fr m m' [] := by
  obtain ⟨⟨sk, sv, kb, vb, h1, h2, h3, h4, h5, h6, rfl⟩, h7⟩ := h
  have hf0 : Fr m (m.lay (.cells v false)) [] := (Fr.refl m).lay _
  have g1 := hf0.get h1 (by simp)
  have g2 := h2.frame hf0 (by simp)
  obtain ⟨a, sz, cap, ex, rfl⟩ := h2.klen
  have a3 : ∀ i : Nat, ld1 (m.lay (.cells v false)) (.ptr (some ⟨t, i⟩)) = [.sl a sz ks.length cap ex, sv, .int .i64 most][i]? := fun i => ld1_at g1
  refine ⟨_, ?_, hf0⟩
  simp only [f17_is, T.f17, apS_cons, ap0_nil, D2_call, Option.bind_some, interp_al, interp_pu, interp_rm, interp_call, interp_cond, interp_st, interp_go, interp_ret, p1, q1, p2, bin_geq, bin_sgeq, boxA, nnA, extractA, List.getElem?_cons_zero, List.getElem?_cons_succ, condA, fa68_0, fa68_1, fa68_2, ld65, ld66, ld44, ld3, len65, ix66, Nat.zero_add, Nat.add_zero, Nat.reduceAdd, agg_cells ho, Option.map_some, a3, bsS_is g2 hs (by omega), hk, decide_eq_true (show most ≤ (ks.length : Int) by omega)]

/-- A new key. -/
theorem putP_new (h : TabAt (.str) 4 m t ks vs most F) (hs : Srt strLess ks) (hl : ks.length < 4096) (k : (List UInt8)) (hk : hasK strLess k ks = false) (hf : (ks.length : Int) < most) {v : List AV} (hv : v.length = 4) (ho : v.all AV.one = true) :
    ∃ m' F', run E2 (.fn 17) [.ptr (some ⟨t, 0⟩), .str k, .agg v] m = some (.bool true, m') ∧ TabAt (.str) 4 m' t (insL (lb strLess k ks) k ks) (insL (lb strLess k ks) v vs) most F' ∧ Fr m m' F ∧ ∀ c, c ∈ F' → c ∈ F ∨ m.next ≤ c := by
  have hf0 : Fr m (m.lay (.cells v false)) [] := (Fr.refl m).lay _
  have h' := h.frame hf0 (by simp)
  obtain ⟨sk, sv, sk', m2, sv', m5, F', g1, a1, a2, a3, a4, b1, b2, b3, b4, b5, b6⟩ := h'.ins (P := Try.prog) (st1 := 65) (e1 := 9) (st2 := 66) (e2 := 44) (w1 := 16) (w2 := 40) (zs1 := [.str []]) (zs2 := [.str [], .int .i64 0, .int .i64 0, .int .u64 0]) (by kernel_rfl) (by kernel_rfl) (by kernel_rfl) (by kernel_rfl) (by kernel_rfl) (by decide) (by kernel_rfl) (by kernel_rfl) (by kernel_rfl) (by kernel_rfl) (by kernel_rfl) (by decide) (by decide)
    (fun _ => rfl) (lb_le k ks) hl (by decide) (k := k) hv ho
  obtain ⟨⟨sk1, sv1, kb, vb, h1, h2, h3, h4, h5, h6, e⟩, h7⟩ := h'
  rw [g1] at h1
  cases h1
  obtain ⟨x, sz, cap, ex, rfl⟩ := h2.klen
  have c1 : ∀ i : Nat, ld1 (m.lay (.cells v false)) (.ptr (some ⟨t, i⟩)) = [.sl x sz ks.length cap ex, sv, .int .i64 most][i]? := fun i => ld1_at g1
  have c2 : ∀ i : Nat, ld1 (m2.put t (some (.cells [sk', sv, .int .i64 most] false))) (.ptr (some ⟨t, i⟩)) = [sk', sv, .int .i64 most][i]? := fun i => ld1_at a3
  have c3 : ldN (m2.put t (some (.cells [sk', sv, .int .i64 most] false))) (.ptr (some ⟨m.next, 0⟩)) 4 = some (.agg v) := by
    have : (m2.put t (some (.cells [sk', sv, .int .i64 most] false))).get m.next = some (.cells v false) := b4.get (lay_self _ _) (fun hm => by have := h.lt _ hm; omega)
    rw [ldN_at this (by omega), List.drop_zero, List.take_of_length_le (by omega)]
  have c4 : (m2.put t (some (.cells [sk', sv, .int .i64 most] false))).next = m2.next := rfl
  refine ⟨_, F', ?_, b3, (hf0.any F).step b5 (fun c hc => .inl hc), fun c hc => (b6 c hc).imp id (fun h => by have : m.next ≤ (m.lay (.cells v false)).next := hf0.next; omega)⟩
  simp only [f17_is, T.f17, apS_cons, ap0_nil, D2_call, Option.bind_some, interp_al, interp_pu, interp_rm, interp_call, interp_cond, interp_st, interp_go, interp_ret, p1, q1, p2, bin_geq, bin_sgeq, boxA, nnA, extractA, List.getElem?_cons_zero, List.getElem?_cons_succ, condA, fa68_0, fa68_1, fa68_2, ld65, ld66, ld44, ld3, len65, ix66, Nat.zero_add, Nat.add_zero, Nat.reduceAdd, agg_cells ho, Option.map_some, bs_one1 (x := .str k) (by rfl), bs_agg (n := 4) (zs := [.str [], .int .i64 0, .int .i64 0, .int .u64 0]) ho hv (by rfl), c1, bsS_is h2 hs (by omega), hk, decide_eq_false (show ¬ most ≤ (ks.length : Int) by omega), inkP_is, invP_is, a1, a2, c2, c3, c4, b1, b2, g17_0_is, T.g17_0, apS_cons, ap0_nil, D2_call, Option.bind_some, interp_ret]

/-- Looked for, in one. -/
theorem getP_is (h : TabAt (.str) 4 m t ks vs most F) (hs : Srt strLess ks) (hl : ks.length < 65536) (k : (List UInt8)) :
    ∃ v m', run E2 (.fn 15) [.ptr (some ⟨t, 0⟩), .str k] m = some (.tup [.agg v, .bool (hasK strLess k ks)], m') ∧ (hasK strLess k ks = true → vs[lb strLess k ks]? = some v) ∧ (hasK strLess k ks = false → v = [.str [], .int .i64 0, .int .i64 0, .int .u64 0]) ∧ v.length = 4 ∧ v.all AV.one = true ∧ Fr m m' [] := by
  cases hk : hasK strLess k ks with
  | true =>
    obtain ⟨v, m', h1, h2, h3⟩ := getP_in h hs hl k hk
    obtain ⟨⟨sk, sv, kb, vb, _, _, g3, _⟩, _⟩ := h
    have := g3.1 v (List.mem_of_getElem? h1)
    exact ⟨v, m', h2, fun _ => h1, nofun, this.1, this.2, h3⟩
  | false =>
    obtain ⟨m', h2, h3⟩ := getP_out h hs hl k hk
    exact ⟨_, m', h2, nofun, fun _ => rfl, rfl, rfl, h3⟩
/-- Put, in one. -/
theorem putP_is (h : TabAt (.str) 4 m t ks vs most F) (hs : Srt strLess ks) (hl : ks.length < 4096) (k : (List UInt8)) {v : List AV} (hv : v.length = 4) (ho : v.all AV.one = true) :
    ∃ m' F', run E2 (.fn 17) [.ptr (some ⟨t, 0⟩), .str k, .agg v] m = some (.bool (hasK strLess k ks || decide ((ks.length : Int) < most)), m') ∧
      TabAt (.str) 4 m' t (putK strLess k ks most) (putV strLess k ks v vs most) most F' ∧ Fr m m' F ∧ ∀ c, c ∈ F' → c ∈ F ∨ m.next ≤ c := by
  unfold putK putV
  cases hk : hasK strLess k ks with
  | true =>
    obtain ⟨m', h1, h2, h3⟩ := putP_in h hs (by omega) k hk hv ho
    exact ⟨m', F, h1, by simpa using h2, h3, fun c hc => .inl hc⟩
  | false =>
    by_cases hf : (ks.length : Int) < most
    · obtain ⟨m', F', h1, h2, h3, h4⟩ := putP_new h hs hl k hk hf hv ho
      exact ⟨m', F', by simpa [hf] using h1, by simpa [hf] using h2, h3, h4⟩
    · obtain ⟨m', h1, h2⟩ := putP_full h hs (by omega) k hk (by omega) ho
      exact ⟨m', F, by simpa [hf] using h1, by simpa [hf] using h.frame h2 (by simp), h2.any F, fun c hc => .inl hc⟩
end
end Go.Proofs.Ytlginbmjiecglaa
