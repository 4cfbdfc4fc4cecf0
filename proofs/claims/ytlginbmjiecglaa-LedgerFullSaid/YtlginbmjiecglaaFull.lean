/- As many currencies and accounts as may be: the law's run. -/
import Derived.Test.YtlginbmjiecglaaLed
namespace Go.Proofs.Ytlginbmjiecglaa
open Go Go.Abs

theorem pick_is (m : Mem) (k : Int) {n : Int} (h0 : 0 < n) (h1 : n < 4611686018427387904) : run E2 (.fn 4) [.int .i64 k, .int .i64 n] m = some (.int .i64 (k % n), m) := by
  have e : k.tmod n = if 0 ≤ k then k % n else if k % n = 0 then 0 else k % n - n := by
    rw [Int.tmod_eq_emod]
    split
    · rename_i h
      rcases h with h | h
      · rw [if_pos h]; omega
      · by_cases h2 : 0 ≤ k
        · rw [if_pos h2]; omega
        · rw [if_neg h2, if_pos (Int.emod_eq_zero_of_dvd h), Int.emod_eq_zero_of_dvd h]; omega
    · rename_i h
      rw [if_neg (fun h2 => h (.inl h2))]
      have : ¬ k % n = 0 := fun h2 => h (.inr (Int.dvd_of_emod_eq_zero h2))
      rw [if_neg this]
      have := Int.natAbs_of_nonneg (show 0 ≤ n by omega)
      omega
  have p0 := Int.emod_nonneg k (show n ≠ 0 by omega)
  have p1 := Int.emod_lt_of_pos k h0
  simp only [f4_is, T.f4, apS_cons, ap0_nil, D2_call, Option.bind_some, interp_pu, interp_cond, interp_go, p2, bin_add, bin_lss, bin_slss, condA, bin_rem _ _ _ _ (show n ≠ 0 by omega)]
  by_cases hn : k.tmod n < 0
  · simp only [decide_eq_true hn, g4_0_is, T.g4_0, apS_cons, ap0_nil, D2_call, Option.bind_some, interp_ret]
    have e2 : k.tmod n + n = k % n := by
      rw [e] at hn ⊢
      split at hn
      · omega
      · split at hn
        · omega
        · rename_i g1 g2; rw [if_neg g1, if_neg g2]; omega
    rw [e2, wrap_i64 (by omega) (by omega)]
  · simp only [decide_eq_false hn, g4_0_is, T.g4_0, apS_cons, ap0_nil, D2_call, Option.bind_some, interp_ret]
    have e2 : k.tmod n = k % n := by
      rw [e] at hn ⊢
      split at hn
      · rename_i g1; rw [if_pos g1]
      · split at hn
        · rename_i g1 g2; rw [if_neg g1, if_pos g2, g2]
        · omega
    rw [e2]

/-! The names, and what there is behind so many rounds. -/
def nm (i : Nat) : List UInt8 := [UInt8.ofNat (65 + i), 88, 89]
def pur (n : Nat) (s : Int) : List PurseV := (List.range n).map fun j => ⟨nm j, s, ⟨0, 0⟩⟩
def acs (n : Nat) : List AccV := (List.range n).map fun (j : Nat) => ⟨(j : Int) + 1, nm (j % 8), ⟨0, 0⟩⟩
theorem pur_names (n : Nat) (s : Int) : (pur n s).map (·.name) = (List.range n).map nm := by simp [pur]
theorem pur_succ (n : Nat) (s : Int) : pur (n + 1) s = pur n s ++ [⟨nm n, s, ⟨0, 0⟩⟩] := by simp [pur, List.range_succ]
theorem acs_succ (n : Nat) : acs (n + 1) = acs n ++ [⟨(n : Int) + 1, nm (n % 8), ⟨0, 0⟩⟩] := by simp [acs, List.range_succ]
theorem pur_len (n : Nat) (s : Int) : (pur n s).length = n := by simp [pur]
theorem acs_len (n : Nat) : (acs n).length = n := by simp [acs]
theorem nm_name : ∀ i, i < 8 → nameB (nm i) = true := by decide
theorem nm_new : ∀ i, i < 8 → hasK strLess (nm i) ((List.range i).map nm) = false := by decide
theorem nm_lb : ∀ i, i < 8 → lb strLess (nm i) ((List.range i).map nm) = i := by decide
theorem nm_has : ∀ i, i < 8 → hasK strLess (nm i) ((List.range 8).map nm) = true := by decide
theorem nm_srt : ∀ i, i < 9 → Srt strLess ((List.range i).map nm) := by unfold Srt; decide
theorem acs_srt (n : Nat) : Srt intLess ((acs n).map (·.id)) := by
  unfold Srt acs
  rw [List.map_map, List.pairwise_map]
  refine List.Pairwise.imp ?_ (List.pairwise_lt_range (n := n))
  intro a b h
  simp [intLess]; omega
theorem acs_id (n : Nat) : ∀ a ∈ acs n, a.id ≤ (n : Int) := by
  intro a ha
  simp only [acs, List.mem_map, List.mem_range] at ha
  obtain ⟨j, hj, rfl⟩ := ha
  simp only; omega

theorem coin_step {i : Nat} (hi : i < 8) {s : Int} (hs : s ≤ 18) (xs : List AccV) (lt most : Int) : coinF ⟨pur i s, [], xs, lt, most⟩ (nm i) s = (0, ⟨pur (i + 1) s, [], xs, lt, most⟩) := by
  unfold coinF
  simp only [pur_names, nm_name i hi, nm_new i hi, nm_lb i hi, pur_len, Bool.true_eq_false, Bool.false_eq_true, if_false]
  rw [if_neg (by omega), if_neg (by omega)]
  have := insL_end (PurseV.mk (nm i) s ⟨0, 0⟩) (pur i s)
  rw [pur_len] at this
  rw [this, pur_succ]
theorem open_step {i : Nat} (hi : i < 64) {s most : Int} (hm : (i : Int) < most) : openF ⟨pur 8 s, [], acs i, (i : Int), most⟩ (nm (i % 8)) = ((i : Int) + 1, 0, (⟨pur 8 s, [], acs (i + 1), ((i + 1 : Nat) : Int), most⟩ : LSt)) := by
  unfold openF
  simp only [pur_names, nm_has (i % 8) (by omega), acs_len, Bool.true_eq_false, if_false]
  rw [if_neg (by omega), acs_succ]
  rfl

/-- A name made of bytes. -/
theorem made {m : Mem} {i : Nat} (hi : i < 8) : ldCells (m.lay (.cells [.int .u8 (65 + (i : Int)), .int .u8 88, .int .u8 89] false)) ⟨m.next, 0⟩ 3 = some [.int .u8 (65 + (i : Int)), .int .u8 88, .int .u8 89] := by
  simp [ldCells, lay_self]
theorem made_str {i : Nat} (_ : i < 8) : bytesA [.int .u8 (65 + (i : Int)), .int .u8 88, .int .u8 89] = some (nm i) := by
  simp only [bytesA, Option.map_some, nm]
  rw [show (65 + (i : Int)).toNat = 65 + i by omega]
  rfl
theorem wrap_u8 {x : Int} (h1 : 0 ≤ x) (h2 : x < 256) : IntKind.wrap .u8 x = x := by
  have e : IntKind.wrap .u8 x = x % 256 := by simp [IntKind.wrap, IntKind.bits, IntKind.signed]
  rw [e]; omega
theorem bs_name (x : Int) : bsA 1 3 [.int .u8 0] [(0, .int .u8 x), (1, .int .u8 88), (2, .int .u8 89)] = some (.cells [.int .u8 x, .int .u8 88, .int .u8 89] false, fun b => .sl (some ⟨b, 0⟩) 1 3 3 true) := by rfl

section
variable {b : Nat} {most scale : Int}
theorem full_coins (hsc : 0 ≤ scale) : ∀ (d i : Nat) (m : Mem) (F : List Nat), i + d = 8 → LedgerAt m b ⟨pur i (scale % 19), [], [], 0, most⟩ F →
    ∃ m' F', D2.gor 12289 [.int .i64 most, .int .u64 scale, .ptr (some ⟨b, 0⟩), .int .i64 i] m = D2.gor 12292 [.int .i64 most, .ptr (some ⟨b, 0⟩)] m' ∧ LedgerAt m' b ⟨pur 8 (scale % 19), [], [], 0, most⟩ F' := by
  intro d
  induction d with
  | zero =>
    intro i m F hi hL
    have : i = 8 := by omega
    subst this
    refine ⟨m, F, ?_, hL⟩
    simp only [g3_1_is, T.g3_1, apS_cons, ap0_nil, D2_call, Option.bind_some, interp_pu, interp_cond, interp_go, p2, bin_lss, bin_slss, condA, decide_eq_false (show ¬ ((8 : Nat) : Int) < 8 by omega)]
  | succ d ih =>
    intro i m F hi hL
    have hi8 : i < 8 := by omega
    have hf : Fr m (m.lay (.cells [.int .u8 (65 + (i : Int)), .int .u8 88, .int .u8 89] false)) [] := (Fr.refl m).lay _
    obtain ⟨m1, F1, h1, h2, h3, h4⟩ := coin_is (hL.frame0 hf) (by rw [pur_names]; exact nm_srt i (by omega)) (by rw [pur_len]; omega) (nm i) (by simp [nm]) (scale := scale % 19) (by omega)
    rw [coin_step hi8 (by omega)] at h1 h2
    obtain ⟨m2, F2, g1, g2⟩ := ih (i + 1) m1 F1 (by omega) h2
    refine ⟨m2, F2, ?_, g2⟩
    have e19 : scale.tmod 19 = scale % 19 := Int.tmod_eq_emod_of_nonneg hsc
    simp only [g3_1_is, T.g3_1, apS_cons, ap0_nil, D2_call, Option.bind_some, interp_pu, interp_cond, interp_go, p2, bin_lss, bin_slss, condA, decide_eq_true (show ((i : Nat) : Int) < 8 by omega)]
    simp only [g3_2_is, T.g3_2, apS_cons, ap0_nil, D2_call, Option.bind_some, interp_pu, interp_al, interp_rm, interp_call, interp_cond, interp_ret, interp_go, p2, p1, q1, bin_add, bin_neq, bin_sneq, condA, cv3_5, ts30, wrap_i64 (n := 65 + (i : Int)) (by omega) (by omega), wrap_u8 (x := 65 + (i : Int)) (by omega) (by omega), bs_name, made hi8, made_str hi8, Option.map_some, bin_rem _ _ _ _ (show (19 : Int) ≠ 0 by omega), e19, h1, decide_true, Bool.not_true]
    simp only [g3_3_is, T.g3_3, apS_cons, ap0_nil, D2_call, Option.bind_some, interp_pu, interp_go, p2, bin_add, wrap_i64 (n := (i : Int) + 1) (by omega) (by omega)]
    exact g1
theorem full_opens (hm : most ≤ 64) : ∀ (d i : Nat) (m : Mem) (F : List Nat) (s : Int), ((i + d : Nat) : Int) = most → LedgerAt m b ⟨pur 8 s, [], acs i, i, most⟩ F →
    ∃ m' F' i', D2.gor 12293 [.int .i64 most, .ptr (some ⟨b, 0⟩), .int .i64 i] m = D2.gor 12296 [.ptr (some ⟨b, 0⟩)] m' ∧ ((i' : Nat) : Int) = most ∧ LedgerAt m' b ⟨pur 8 s, [], acs i', i', most⟩ F' := by
  intro d
  induction d with
  | zero =>
    intro i m F s hi hL
    refine ⟨m, F, i, ?_, by omega, hL⟩
    simp only [g3_5_is, T.g3_5, apS_cons, ap0_nil, D2_call, Option.bind_some, interp_pu, interp_cond, interp_go, p2, bin_lss, bin_slss, condA, decide_eq_false (show ¬ ((i : Nat) : Int) < most by omega)]
  | succ d ih =>
    intro i m F s hi hL
    have hi8 : i % 8 < 8 := by omega
    have hf : Fr m (m.lay (.cells [.int .u8 (65 + ((i % 8 : Nat) : Int)), .int .u8 88, .int .u8 89] false)) [] := (Fr.refl m).lay _
    obtain ⟨m1, F1, h1, h2, h3, h4⟩ := open_is (hL.frame0 hf) (by rw [pur_names]; exact nm_srt 8 (by omega)) (by rw [pur_len]; omega) (acs_srt i) (by rw [acs_len]; omega) (acs_id i) (by simp only; omega) (nm (i % 8))
    rw [open_step (by omega) (by omega)] at h1 h2
    obtain ⟨m2, F2, i2, g1, g2, g3⟩ := ih (i + 1) m1 F1 s (by omega) h2
    refine ⟨m2, F2, i2, ?_, g2, g3⟩
    have e8 : (i : Int).tmod 8 = ((i % 8 : Nat) : Int) := by rw [Int.tmod_eq_emod_of_nonneg (by omega)]; omega
    simp only [g3_5_is, T.g3_5, apS_cons, ap0_nil, D2_call, Option.bind_some, interp_pu, interp_cond, interp_go, p2, bin_lss, bin_slss, condA, decide_eq_true (show ((i : Nat) : Int) < most by omega)]
    simp only [g3_6_is, T.g3_6, apS_cons, ap0_nil, D2_call, Option.bind_some, interp_pu, interp_al, interp_rm, interp_call, interp_ifv, interp_ret, interp_cond, interp_go, p2, p1, q1, bin_add, bin_neq, bin_sneq, extractA, List.getElem?_cons_zero, List.getElem?_cons_succ, condA, ifV, cv3_5, cv3_22, ts30, bin_rem _ _ _ _ (show (8 : Int) ≠ 0 by omega), e8, wrap_i64 (n := 65 + ((i % 8 : Nat) : Int)) (by omega) (by omega), wrap_u8 (x := 65 + ((i % 8 : Nat) : Int)) (by omega) (by omega), bs_name, made hi8, made_str hi8, Option.map_some, h1, decide_true, Bool.not_true, wrap_i64 (n := (i : Int) + 1) (by omega) (by omega), wrap_u64 (x := (i : Int) + 1) (by omega) (by omega)]
    simp only [g3_7_is, T.g3_7, apS_cons, ap0_nil, D2_call, Option.bind_some, interp_pu, interp_go, p2, bin_add, wrap_i64 (n := (i : Int) + 1) (by omega) (by omega)]
    exact g1

theorem zzz : hasK strLess [90, 90, 90] ((List.range 8).map nm) = false ∧ nameB [90, 90, 90] = true ∧ hasK strLess [65, 88, 89] ((List.range 8).map nm) = true ∧ nameB [65, 88, 89] = true := by decide

theorem full_end {i : Nat} {m : Mem} {F : List Nat} {s : Int} (hi : (i : Int) = most) (hm : most ≤ 64) (hL : LedgerAt m b ⟨pur 8 s, [], acs i, i, most⟩ F) : ∃ m', D2.gor 12296 [.ptr (some ⟨b, 0⟩)] m = some (.bool true, m') := by
  obtain ⟨z1, z2, z3, z4⟩ := zzz
  obtain ⟨m1, F1, h1, h2, _⟩ := open_is hL (by rw [pur_names]; exact nm_srt 8 (by omega)) (by rw [pur_len]; omega) (acs_srt i) (by rw [acs_len]; omega) (acs_id i) (by simp only; omega) [65, 88, 89]
  have e1 : openF ⟨pur 8 s, [], acs i, i, most⟩ [65, 88, 89] = (0, 2, ⟨pur 8 s, [], acs i, i, most⟩) := by
    unfold openF; simp only [pur_names, z3, acs_len, Bool.true_eq_false, if_false]; rw [if_pos (.inl (by omega))]
  rw [e1] at h1 h2
  obtain ⟨m2, F2, h3, h4, _⟩ := coin_is h2 (by rw [pur_names]; exact nm_srt 8 (by omega)) (by rw [pur_len]; omega) [90, 90, 90] (by simp) (scale := 0) (by omega)
  have e2 : coinF ⟨pur 8 s, [], acs i, i, most⟩ [90, 90, 90] 0 = (2, ⟨pur 8 s, [], acs i, i, most⟩) := by
    unfold coinF; simp only [pur_names, z1, z2, pur_len, Bool.true_eq_false, Bool.false_eq_true, if_false]; rw [if_neg (by omega), if_pos (by omega)]
  rw [e2] at h3 h4
  obtain ⟨m3, F3, h5, h6, _⟩ := coin_is h4 (by rw [pur_names]; exact nm_srt 8 (by omega)) (by rw [pur_len]; omega) [65, 88, 89] (by simp) (scale := 0) (by omega)
  have e3 : coinF ⟨pur 8 s, [], acs i, i, most⟩ [65, 88, 89] 0 = (45, ⟨pur 8 s, [], acs i, i, most⟩) := by
    unfold coinF; simp only [pur_names, z3, z4, Bool.true_eq_false, if_false, if_true]; rw [if_neg (by omega)]
  rw [e3] at h5 h6
  obtain ⟨m4, F4, h7, h8, _⟩ := coin_is h6 (by rw [pur_names]; exact nm_srt 8 (by omega)) (by rw [pur_len]; omega) [90, 90, 90] (by simp) (scale := 19) (by omega)
  have e4 : coinF ⟨pur 8 s, [], acs i, i, most⟩ [90, 90, 90] 19 = (21, ⟨pur 8 s, [], acs i, i, most⟩) := by
    unfold coinF; simp only [z2, Bool.true_eq_false, if_false]; rw [if_pos (by omega)]
  rw [e4] at h7
  refine ⟨m4, ?_⟩
  simp only [g3_8_is, T.g3_8, apS_cons, ap0_nil, D2_call, Option.bind_some, interp_call, interp_pu, interp_ifv, interp_ret, p1, p2, bin_eql, bin_seql, extractA, List.getElem?_cons_zero, List.getElem?_cons_succ, ifV, h1, h3, h5, h7, decide_true]
end

theorem full_is (m : Mem) (k : Int) {scale : Int} (hsc : 0 ≤ scale) : ∃ m', run E2 (.fn 3) [.int .i64 k, .int .u64 scale] m = some (.bool true, m') := by
  have p0 := Int.emod_nonneg k (show (64 : Int) ≠ 0 by omega)
  have p1 := Int.emod_lt_of_pos k (show (0 : Int) < 64 by omega)
  obtain ⟨b, m1, F1, h1, h2, _⟩ := new_is m (most := 1 + k % 64) (by omega) (by omega)
  obtain ⟨m2, F2, h3, h4⟩ := full_coins (b := b) (most := 1 + k % 64) hsc 8 0 m1 F1 rfl h2
  obtain ⟨n, hn⟩ : ∃ n : Nat, (n : Int) = 1 + k % 64 := ⟨(1 + k % 64).toNat, by omega⟩
  obtain ⟨m3, F3, i, h5, h6, h7⟩ := full_opens (b := b) (most := 1 + k % 64) (by omega) n 0 m2 F2 (scale % 19) (by omega) (show LedgerAt m2 b ⟨pur 8 (scale % 19), [], acs 0, ((0 : Nat) : Int), 1 + k % 64⟩ F2 from h4)
  obtain ⟨m4, h8⟩ := full_end h6 (by omega) h7
  refine ⟨m4, ?_⟩
  have h3' : D2.gor 12289 [.int .i64 (1 + k % 64), .int .u64 scale, .ptr (some ⟨b, 0⟩), .int .i64 0] m1 = D2.gor 12292 [.int .i64 (1 + k % 64), .ptr (some ⟨b, 0⟩)] m2 := h3
  have h5' : D2.gor 12293 [.int .i64 (1 + k % 64), .ptr (some ⟨b, 0⟩), .int .i64 0] m2 = D2.gor 12296 [.ptr (some ⟨b, 0⟩)] m3 := h5
  have hp : binA Try.prog .eql 24 (.ptr (some ⟨b, 0⟩)) (.ptr none) = some (.bool false) := by kernel_rfl
  simp only [f3_is, T.f3, apS_cons, ap0_nil, D2_call, Option.bind_some, interp_call, interp_pu, interp_ifv, interp_ret, interp_cond, interp_go, p2, p1, bin_add, bin_eql, bin_seql, bin_neq, bin_sneq, extractA, List.getElem?_cons_zero, List.getElem?_cons_succ, condA, ifV, unA, pick_is m k (show (0 : Int) < 64 by omega) (by omega), wrap_i64 (n := 1 + k % 64) (by omega) (by omega), h1, known_is, Bool.not_true, decide_true, hp]
  simp only [g3_0_is, T.g3_0, apS_cons, ap0_nil, D2_call, Option.bind_some, interp_go, h3']
  simp only [g3_4_is, T.g3_4, apS_cons, ap0_nil, D2_call, Option.bind_some, interp_go, h5', h8]
end Go.Proofs.Ytlginbmjiecglaa
