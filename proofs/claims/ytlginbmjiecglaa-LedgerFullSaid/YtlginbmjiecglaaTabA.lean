/- A table's functions. -/
import Derived.Test.YtlginbmjiecglaaBsU
namespace Go.Proofs.Ytlginbmjiecglaa
open Go Go.Abs

theorem inkA_is (xs : List AV) (m : Mem) : run E2 (.fn 29) xs m = insH Try.prog 72 xs m := run_hook rfl xs m
theorem invA_is (xs : List AV) (m : Mem) : run E2 (.fn 30) xs m = insH Try.prog 73 xs m := run_hook rfl xs m

section
variable {m : Mem} {t : Nat} {ks : List Int} {vs : List (List AV)} {most : Int} {F : List Nat}

/-- A new table. -/
theorem newA_is (m : Mem) {most : Int} (h1 : 1 ≤ most) (h2 : most ≤ 4096) : ∃ m', run E2 (.fn 11) [.int .i64 most] m = some (.tup [.ptr (some ⟨m.next, 0⟩), .int .i64 0], m') ∧ m' = m.lay (.cells [.sl none 0 0 0 true, .sl none 0 0 0 true, .int .i64 most] false) := by
  refine ⟨_, ?_, rfl⟩
  simp only [f11_is, T.f11, apS_cons, ap0_nil, D2_call, Option.bind_some, interp_pu, interp_ifv, interp_ret, interp_cond, interp_go, p2, bin_gtr, bin_lss, bin_slss, condA, ifV, decide_eq_false (show ¬ most < 1 by omega), decide_eq_false (show ¬ (4096 : Int) < most by omega)]
  simp only [g11_0_is, T.g11_0, apS_cons, ap0_nil, D2_call, Option.bind_some, interp_pu, interp_al, interp_ret, p1, fillA, AV.cells, List.take_succ_cons, List.take_zero, List.drop_succ_cons, List.drop_zero, List.cons_append, List.nil_append, List.append_nil, List.length_cons, List.length_nil, Option.map_some, Nat.zero_add, Nat.reduceAdd, Nat.reduceLeDiff, if_true, List.getElem?_cons_zero, List.getElem?_cons_succ, boxA, bd75, List.all_cons, List.all_nil, AV.one, Bool.and_self, Bool.and_true]

/-- A value looked for. -/
theorem getA_in (h : TabAt (.int .u64) 4 m t ks vs most F) (hs : Srt intLess ks) (hl : ks.length < 65536) (k : Int) (hk : hasK intLess k ks = true) :
    ∃ v m', vs[lb intLess k ks]? = some v ∧ run E2 (.fn 31) [.ptr (some ⟨t, 0⟩), .int .u64 k] m = some (.tup [.agg v, .bool true], m') ∧ Fr m m' [] := by
  obtain ⟨⟨sk, sv, kb, vb, h1, h2, h3, h4, h5, h6, rfl⟩, h7⟩ := h
  have hlt : lb intLess k ks < ks.length := by
    have : ks[lb intLess k ks]? = some k := by simpa [hasK] using hk
    exact (List.getElem?_eq_some_iff.1 this).1
  have hf : Fr m (m.lay (.cells [.int .u64 0, .str [], .int .i64 0, .int .u64 0] false)) [] := (Fr.refl m).lay _
  have g1 := hf.get h1 (by simp)
  have g2 := h2.frame hf (by simp)
  have g3 := h3.frame hf (by simp)
  obtain ⟨b, rfl, a1, a2⟩ := g3.val (i := lb intLess k ks) (by omega)
  have a3 : ∀ i : Nat, ld1 (m.lay (.cells [.int .u64 0, .str [], .int .i64 0, .int .u64 0] false)) (.ptr (some ⟨t, i⟩)) = [sk, .sl (some ⟨b, 0⟩) 4 vs.length vs.length false, .int .i64 most][i]? := fun i => ld1_at g1
  have hv := h3.1 _ (List.getElem_mem (show lb intLess k ks < vs.length by omega))
  refine ⟨vs[lb intLess k ks], (m.lay (.cells [.int .u64 0, .str [], .int .i64 0, .int .u64 0] false)).put m.next (some (.cells vs[lb intLess k ks] false)), List.getElem?_eq_getElem (by omega), ?_, hf.put' (.inr (Nat.le_refl _))⟩
  simp only [f31_is, T.f31, apS_cons, ap0_nil, D2_call, Option.bind_some, interp_al, interp_pu, interp_rm, interp_call, interp_cond, interp_st, interp_resC, interp_go, pB, p1, q1, nnA, extractA, List.getElem?_cons_zero, List.getElem?_cons_succ, condA, unA, resA, nth0, nth1, nth2, nth3, tupA, fa75_0, ld72, ld54, Nat.zero_add, Nat.add_zero, Nat.reduceAdd, a3, bsU_is g2 hs (by omega), hk, Bool.not_true, g31_0_is, T.g31_0, apS_cons, ap0_nil, D2_call, Option.bind_some, interp_pu, interp_rm, interp_st, interp_resC, p1, q1, p2, nnA, resA, nth0, nth1, nth2, nth3, tupA, fa75_1, ld73, ld54, ix73, Nat.zero_add, Nat.add_zero, Nat.reduceAdd, List.getElem?_cons_zero, List.getElem?_cons_succ, true_or, if_true, a1, a2, st_all (n := 4) (lay_self m (.cells [.int .u64 0, .str [], .int .i64 0, .int .u64 0] false)) rfl hv.1 hv.2, ld_all (n := 4) (put_self (lay_self m (.cells [.int .u64 0, .str [], .int .i64 0, .int .u64 0] false))) hv.1]
theorem getA_out (h : TabAt (.int .u64) 4 m t ks vs most F) (hs : Srt intLess ks) (hl : ks.length < 65536) (k : Int) (hk : hasK intLess k ks = false) :
    ∃ m', run E2 (.fn 31) [.ptr (some ⟨t, 0⟩), .int .u64 k] m = some (.tup [.agg [.int .u64 0, .str [], .int .i64 0, .int .u64 0], .bool false], m') ∧ Fr m m' [] := by
  obtain ⟨⟨sk, sv, kb, vb, h1, h2, h3, h4, h5, h6, rfl⟩, h7⟩ := h
  have hf : Fr m (m.lay (.cells [.int .u64 0, .str [], .int .i64 0, .int .u64 0] false)) [] := (Fr.refl m).lay _
  have g1 := hf.get h1 (by simp)
  have g2 := h2.frame hf (by simp)
  have a3 : ∀ i : Nat, ld1 (m.lay (.cells [.int .u64 0, .str [], .int .i64 0, .int .u64 0] false)) (.ptr (some ⟨t, i⟩)) = [sk, sv, .int .i64 most][i]? := fun i => ld1_at g1
  have g3 : ((m.lay (.cells [.int .u64 0, .str [], .int .i64 0, .int .u64 0] false)).lay (.cells [.int .u64 0, .str [], .int .i64 0, .int .u64 0] false)).get m.next = some (.cells [.int .u64 0, .str [], .int .i64 0, .int .u64 0] false) := by rw [lay_ne (by simp)]; exact lay_self _ _
  refine ⟨((m.lay (.cells [.int .u64 0, .str [], .int .i64 0, .int .u64 0] false)).lay (.cells [.int .u64 0, .str [], .int .i64 0, .int .u64 0] false)).put m.next (some (.cells [.int .u64 0, .str [], .int .i64 0, .int .u64 0] false)), ?_, (hf.lay _).put' (.inr (Nat.le_refl _))⟩
  simp only [f31_is, T.f31, apS_cons, ap0_nil, D2_call, Option.bind_some, interp_al, interp_pu, interp_rm, interp_call, interp_cond, interp_st, interp_resC, interp_go, pB, p1, q1, nnA, extractA, List.getElem?_cons_zero, List.getElem?_cons_succ, condA, unA, resA, nth0, nth1, nth2, nth3, tupA, fa75_0, ld72, ld54, Nat.zero_add, Nat.add_zero, Nat.reduceAdd, a3, bsU_is g2 hs (by omega), hk, Bool.not_false, ld_all (n := 4) (lay_self (m.lay (.cells [.int .u64 0, .str [], .int .i64 0, .int .u64 0] false)) (.cells [.int .u64 0, .str [], .int .i64 0, .int .u64 0] false)) rfl, st_all (n := 4) g3 rfl (show ([.int .u64 0, .str [], .int .i64 0, .int .u64 0] : List AV).length = 4 by rfl) (by rfl), ld_all (n := 4) (v := [.int .u64 0, .str [], .int .i64 0, .int .u64 0]) (put_self g3) rfl]

/-- A value put where one is. -/
theorem putA_in (h : TabAt (.int .u64) 4 m t ks vs most F) (hs : Srt intLess ks) (hl : ks.length < 65536) (k : Int) (hk : hasK intLess k ks = true) {v : List AV} (hv : v.length = 4) (ho : v.all AV.one = true) :
    ∃ m', run E2 (.fn 19) [.ptr (some ⟨t, 0⟩), .int .u64 k, .agg v] m = some (.bool true, m') ∧ TabAt (.int .u64) 4 m' t ks (vs.set (lb intLess k ks) v) most F ∧ Fr m m' F := by
  have hlt : lb intLess k ks < ks.length := by
    have : ks[lb intLess k ks]? = some k := by simpa [hasK] using hk
    exact (List.getElem?_eq_some_iff.1 this).1
  have hf : Fr m (m.lay (.cells v false)) [] := (Fr.refl m).lay _
  have h' := h.frame hf (by simp)
  obtain ⟨sk, sv, b, m', g1, rfl, a1, a2, a5, a6⟩ := h'.set hlt hv ho
  obtain ⟨⟨sk', sv', kb, vb, h1, h2, h3, h4, h5, h6, e⟩, h7⟩ := h'
  rw [g1] at h1
  cases h1
  have a3 : ∀ i : Nat, ld1 (m.lay (.cells v false)) (.ptr (some ⟨t, i⟩)) = [sk, .sl (some ⟨b, 0⟩) 4 vs.length vs.length false, .int .i64 most][i]? := fun i => ld1_at g1
  have a4 : ldN (m.lay (.cells v false)) (.ptr (some ⟨m.next, 0⟩)) 4 = some (.agg v) := by
    rw [ldN_at (lay_self _ _) (by omega), List.drop_zero, List.take_of_length_le (by omega)]
  refine ⟨m', ?_, a5, (hf.any F).step a6 (fun c hc => .inl hc)⟩
  simp only [f19_is, T.f19, apS_cons, ap0_nil, D2_call, Option.bind_some, interp_al, interp_pu, interp_rm, interp_call, interp_cond, interp_st, interp_go, interp_ret, p1, q1, p2, bin_geq, bin_sgeq, boxA, nnA, extractA, List.getElem?_cons_zero, List.getElem?_cons_succ, condA, fa75_0, fa75_1, fa75_2, ld72, ld73, ld54, ld3, len72, ix73, Nat.zero_add, Nat.add_zero, Nat.reduceAdd, agg_cells ho, Option.map_some, a3, a4, bsU_is h2 hs (by omega), hk, true_or, if_true, a1, a2, g19_0_is, T.g19_0, apS_cons, ap0_nil, D2_call, Option.bind_some, interp_ret]

/-- No room. -/
theorem putA_full (h : TabAt (.int .u64) 4 m t ks vs most F) (hs : Srt intLess ks) (hl : ks.length < 65536) (k : Int) (hk : hasK intLess k ks = false) (hf : most ≤ ks.length) {v : List AV} (ho : v.all AV.one = true) :
    ∃ m', run E2 (.fn 19) [.ptr (some ⟨t, 0⟩), .int .u64 k, .agg v] m = some (.bool false, m') ∧ Fr m m' [] := by
  obtain ⟨⟨sk, sv, kb, vb, h1, h2, h3, h4, h5, h6, rfl⟩, h7⟩ := h
  have hf0 : Fr m (m.lay (.cells v false)) [] := (Fr.refl m).lay _
  have g1 := hf0.get h1 (by simp)
  have g2 := h2.frame hf0 (by simp)
  obtain ⟨a, sz, cap, ex, rfl⟩ := h2.klen
  have a3 : ∀ i : Nat, ld1 (m.lay (.cells v false)) (.ptr (some ⟨t, i⟩)) = [.sl a sz ks.length cap ex, sv, .int .i64 most][i]? := fun i => ld1_at g1
  refine ⟨_, ?_, hf0⟩
  simp only [f19_is, T.f19, apS_cons, ap0_nil, D2_call, Option.bind_some, interp_al, interp_pu, interp_rm, interp_call, interp_cond, interp_st, interp_go, interp_ret, p1, q1, p2, bin_geq, bin_sgeq, boxA, nnA, extractA, List.getElem?_cons_zero, List.getElem?_cons_succ, condA, fa75_0, fa75_1, fa75_2, ld72, ld73, ld54, ld3, len72, ix73, Nat.zero_add, Nat.add_zero, Nat.reduceAdd, agg_cells ho, Option.map_some, a3, bsU_is g2 hs (by omega), hk, decide_eq_true (show most ≤ (ks.length : Int) by omega)]

/-- A new key. -/
theorem putA_new (h : TabAt (.int .u64) 4 m t ks vs most F) (hs : Srt intLess ks) (hl : ks.length < 4096) (k : Int) (hk : hasK intLess k ks = false) (hf : (ks.length : Int) < most) {v : List AV} (hv : v.length = 4) (ho : v.all AV.one = true) :
    ∃ m' F', run E2 (.fn 19) [.ptr (some ⟨t, 0⟩), .int .u64 k, .agg v] m = some (.bool true, m') ∧ TabAt (.int .u64) 4 m' t (insL (lb intLess k ks) k ks) (insL (lb intLess k ks) v vs) most F' ∧ Fr m m' F ∧ ∀ c, c ∈ F' → c ∈ F ∨ m.next ≤ c := by
  have hf0 : Fr m (m.lay (.cells v false)) [] := (Fr.refl m).lay _
  have h' := h.frame hf0 (by simp)
  obtain ⟨sk, sv, sk', m2, sv', m5, F', g1, a1, a2, a3, a4, b1, b2, b3, b4, b5, b6⟩ := h'.ins (P := Try.prog) (st1 := 72) (e1 := 22) (st2 := 73) (e2 := 54) (w1 := 8) (w2 := 40) (zs1 := [.int .u64 0]) (zs2 := [.int .u64 0, .str [], .int .i64 0, .int .u64 0]) (by kernel_rfl) (by kernel_rfl) (by kernel_rfl) (by kernel_rfl) (by kernel_rfl) (by decide) (by kernel_rfl) (by kernel_rfl) (by kernel_rfl) (by kernel_rfl) (by kernel_rfl) (by decide) (by decide)
    (fun _ => rfl) (lb_le k ks) hl (by decide) (k := k) hv ho
  obtain ⟨⟨sk1, sv1, kb, vb, h1, h2, h3, h4, h5, h6, e⟩, h7⟩ := h'
  rw [g1] at h1
  cases h1
  obtain ⟨x, sz, cap, ex, rfl⟩ := h2.klen
  have c1 : ∀ i : Nat, ld1 (m.lay (.cells v false)) (.ptr (some ⟨t, i⟩)) = [.sl x sz ks.length cap ex, sv, .int .i64 most][i]? := fun i => ld1_at g1
  have c2 : ∀ i : Nat, ld1 (m2.put t (some (.cells [sk', sv, .int .i64 most] false))) (.ptr (some ⟨t, i⟩)) = [sk', sv, .int .i64 most][i]? := fun i => ld1_at a3
  have c3 : ldN (m2.put t (some (.cells [sk', sv, .int .i64 most] false))) (.ptr (some ⟨m.next, 0⟩)) 4 = some (.agg v) := by
    have : (m2.put t (some (.cells [sk', sv, .int .i64 most] false))).get m.next = some (.cells v false) := b4.get (lay_self _ _) (fun hm => by have := h.lt _ hm; omega)
    rw [ldN_at this (by omega), List.drop_zero, List.take_of_length_le (by omega)]
  have c4 : (m2.put t (some (.cells [sk', sv, .int .i64 most] false))).next = m2.next := rfl
  refine ⟨_, F', ?_, b3, (hf0.any F).step b5 (fun c hc => .inl hc), fun c hc => (b6 c hc).imp id (fun h => by have : m.next ≤ (m.lay (.cells v false)).next := hf0.next; omega)⟩
  simp only [f19_is, T.f19, apS_cons, ap0_nil, D2_call, Option.bind_some, interp_al, interp_pu, interp_rm, interp_call, interp_cond, interp_st, interp_go, interp_ret, p1, q1, p2, bin_geq, bin_sgeq, boxA, nnA, extractA, List.getElem?_cons_zero, List.getElem?_cons_succ, condA, fa75_0, fa75_1, fa75_2, ld72, ld73, ld54, ld3, len72, ix73, Nat.zero_add, Nat.add_zero, Nat.reduceAdd, agg_cells ho, Option.map_some, bs_one1 (x := .int .u64 k) (by rfl), bs_agg (n := 4) (zs := [.int .u64 0, .str [], .int .i64 0, .int .u64 0]) ho hv (by rfl), c1, bsU_is h2 hs (by omega), hk, decide_eq_false (show ¬ most ≤ (ks.length : Int) by omega), inkA_is, invA_is, a1, a2, c2, c3, c4, b1, b2, g19_0_is, T.g19_0, apS_cons, ap0_nil, D2_call, Option.bind_some, interp_ret]

/-- Looked for, in one. -/
theorem getA_is (h : TabAt (.int .u64) 4 m t ks vs most F) (hs : Srt intLess ks) (hl : ks.length < 65536) (k : Int) :
    ∃ v m', run E2 (.fn 31) [.ptr (some ⟨t, 0⟩), .int .u64 k] m = some (.tup [.agg v, .bool (hasK intLess k ks)], m') ∧ (hasK intLess k ks = true → vs[lb intLess k ks]? = some v) ∧ (hasK intLess k ks = false → v = [.int .u64 0, .str [], .int .i64 0, .int .u64 0]) ∧ v.length = 4 ∧ v.all AV.one = true ∧ Fr m m' [] := by
  cases hk : hasK intLess k ks with
  | true =>
    obtain ⟨v, m', h1, h2, h3⟩ := getA_in h hs hl k hk
    obtain ⟨⟨sk, sv, kb, vb, _, _, g3, _⟩, _⟩ := h
    have := g3.1 v (List.mem_of_getElem? h1)
    exact ⟨v, m', h2, fun _ => h1, nofun, this.1, this.2, h3⟩
  | false =>
    obtain ⟨m', h2, h3⟩ := getA_out h hs hl k hk
    exact ⟨_, m', h2, nofun, fun _ => rfl, rfl, rfl, h3⟩
/-- Put, in one. -/
theorem putA_is (h : TabAt (.int .u64) 4 m t ks vs most F) (hs : Srt intLess ks) (hl : ks.length < 4096) (k : Int) {v : List AV} (hv : v.length = 4) (ho : v.all AV.one = true) :
    ∃ m' F', run E2 (.fn 19) [.ptr (some ⟨t, 0⟩), .int .u64 k, .agg v] m = some (.bool (hasK intLess k ks || decide ((ks.length : Int) < most)), m') ∧
      TabAt (.int .u64) 4 m' t (putK intLess k ks most) (putV intLess k ks v vs most) most F' ∧ Fr m m' F ∧ ∀ c, c ∈ F' → c ∈ F ∨ m.next ≤ c := by
  unfold putK putV
  cases hk : hasK intLess k ks with
  | true =>
    obtain ⟨m', h1, h2, h3⟩ := putA_in h hs (by omega) k hk hv ho
    exact ⟨m', F, h1, by simpa using h2, h3, fun c hc => .inl hc⟩
  | false =>
    by_cases hf : (ks.length : Int) < most
    · obtain ⟨m', F', h1, h2, h3, h4⟩ := putA_new h hs hl k hk hf hv ho
      exact ⟨m', F', by simpa [hf] using h1, by simpa [hf] using h2, h3, h4⟩
    · obtain ⟨m', h1, h2⟩ := putA_full h hs (by omega) k hk (by omega) ho
      exact ⟨m', F, by simpa [hf] using h1, by simpa [hf] using h.frame h2 (by simp), h2.any F, fun c hc => .inl hc⟩
end
end Go.Proofs.Ytlginbmjiecglaa
