/- slices.BinarySearch: where a key is, or belongs. -/
import Derived.Test.YtlginbmjiecglaaIs
import Derived.Test.YtlginbmjiecglaaAbs30
namespace Go.Proofs.Ytlginbmjiecglaa
open Go Go.Abs

theorem lessS_is (a b : (List UInt8)) (m : Mem) : run E2 (.fn 35) [.str a, .str b] m = some (.bool (strLess a b), m) := by
  simp only [f35_is, T.f35, apS_cons, ap0_nil, D2_call, Option.bind_some, interp_call, interp_ifv, interp_pu, interp_ret, p1, p2, bin_lss, bin_slss, ifV, unA, f49_is, T.f49, apS_cons, ap0_nil, D2_call, Option.bind_some, interp_pu, interp_ret, p2, bin_neq, bin_sneq, decide_true, Bool.not_true]
  try rfl

section
variable {m : Mem} {sk : AV} {ks : List (List UInt8)} {kb : Option Nat}
theorem bsS_loop (h : TRow 1 m sk (ks.map fun k => [.str k]) kb) (hs : Srt strLess ks) (hl : ks.length < 4611686018427387904) (k : (List UInt8)) : ∀ (d i j : Nat), j - i ≤ d → i ≤ j → j ≤ ks.length →
    (∀ x (hx : x < ks.length), x < i → strLess ks[x] k = true) → (∀ x (hx : x < ks.length), j ≤ x → strLess ks[x] k = false) →
    D2.gor 102400 [sk, .str k, .int .i64 ks.length, .int .i64 i, .int .i64 j] m = some (.tup [.int .i64 (lb strLess k ks : Nat), .bool (hasK strLess k ks)], m) := by
  intro d
  induction d with
  | zero =>
    intro i j hd hij hj h1 h2
    have e : i = j := by omega
    subst e
    have hlb : lb strLess k ks = i := lb_unique hj h1 (fun hx => h2 i hx (Nat.le_refl _))
    simp only [g25_0_is, T.g25_0, apS_cons, ap0_nil, D2_call, Option.bind_some, interp_pu, interp_cond, interp_go, p2, bin_lss, bin_slss, condA, decide_eq_false (show ¬ (i : Int) < (i : Int) by omega)]
    by_cases hi : i < ks.length
    · obtain ⟨b, rfl, g1, g2⟩ := h.key hi
      simp only [g25_2_is, T.g25_2, apS_cons, ap0_nil, D2_call, Option.bind_some, interp_pu, interp_ifv, interp_rm, interp_ret, interp_call, p2, q1, bin_eql, bin_seql, bin_lss, bin_slss, ifV, ld9, ix65, decide_eq_true (show (i : Int) < (ks.length : Int) by omega), true_or, if_true, g1, g2, f36_is, T.f36, apS_cons, ap0_nil, D2_call, Option.bind_some, interp_pu, interp_ret, p2, bin_neq, bin_sneq, decide_true, Bool.not_true]
      by_cases hk : ks[i] = k
      · rw [decide_eq_true hk]
        simp only [hasK, hlb, List.getElem?_eq_getElem hi, hk, decide_true]
      · rw [decide_eq_false hk]
        simp only [hasK, hlb, List.getElem?_eq_getElem hi, Option.some.injEq, decide_eq_false hk]
    · simp only [g25_2_is, T.g25_2, apS_cons, ap0_nil, D2_call, Option.bind_some, interp_pu, interp_ifv, interp_rm, interp_ret, interp_call, p2, q1, bin_eql, bin_seql, bin_lss, bin_slss, ifV, ld9, ix65, decide_eq_false (show ¬ (i : Int) < (ks.length : Int) by omega)]
      simp only [hasK, hlb, List.getElem?_eq_none (show ks.length ≤ i by omega), reduceCtorEq, decide_false]
  | succ d ih =>
    intro i j hd hij hj h1 h2
    by_cases e : i = j
    · exact ih i j (by omega) hij hj h1 h2
    · have hlt : i < j := by omega
      obtain ⟨hh, hh1⟩ : ∃ hh : Nat, hh = (i + j) / 2 := ⟨_, rfl⟩
      have hh2 : i ≤ hh ∧ hh < j := by omega
      have hh3 : IntKind.wrap .i64 ((IntKind.wrap .u64 (IntKind.wrap .i64 ((i : Int) + (j : Int)))).fdiv (2 ^ (min (1 : Int).toNat IntKind.u64.bits))) = (hh : Int) := by
        rw [wrap_i64 (n := (i : Int) + j) (by omega) (by omega), wrap_u64 (by omega) (by omega)]
        have : ((2 : Int) ^ (min (1 : Int).toNat IntKind.u64.bits)) = 2 := by rfl
        rw [this, Int.fdiv_eq_ediv_of_nonneg _ (by omega), wrap_i64 (by omega) (by omega)]
        omega
      have hx : hh < ks.length := by omega
      obtain ⟨b, rfl, g1, g2⟩ := h.key hx
      simp only [g25_0_is, T.g25_0, apS_cons, ap0_nil, D2_call, Option.bind_some, interp_pu, interp_cond, interp_go, p2, bin_lss, bin_slss, condA, decide_eq_true (show (i : Int) < (j : Int) by omega)]
      simp only [g25_1_is, T.g25_1, apS_cons, ap0_nil, D2_call, Option.bind_some, interp_pu, interp_rm, interp_call, interp_cond, interp_go, p2, p1, q1, bin_add, condA, ld9, ix65, cv3_95, cv95_3, bin_shr _ _ _ _ _ (show (0 : Int) ≤ 1 by omega), hh3, true_or, if_true, g1, g2, lessS_is]
      cases hc : strLess ks[hh] k with
      | true =>
        simp only
        rw [wrap_i64 (by omega) (by omega), show (hh : Int) + 1 = ((hh + 1 : Nat) : Int) by omega]
        refine ih (hh + 1) j (by omega) (by omega) hj (fun x hx' hlt' => ?_) h2
        by_cases e2 : x = hh
        · subst e2; exact hc
        · exact strLess_trans _ _ _ (srt_lt hs (show x < hh by omega) hx) hc
      | false =>
        simp only
        refine ih i hh (by omega) (by omega) (by omega) h1 (fun x hx' hle => ?_)
        by_cases e2 : x = hh
        · subst e2; exact hc
        · cases hc2 : strLess ks[x] k with
          | false => rfl
          | true => rw [strLess_trans _ _ _ (srt_lt hs (show hh < x by omega) hx') hc2] at hc; cases hc
theorem bsS_is (h : TRow 1 m sk (ks.map fun k => [.str k]) kb) (hs : Srt strLess ks) (hl : ks.length < 4611686018427387904) (k : (List UInt8)) :
    run E2 (.fn 25) [sk, .str k] m = some (.tup [.int .i64 (lb strLess k ks : Nat), .bool (hasK strLess k ks)], m) := by
  have := bsS_loop h hs hl k ks.length 0 ks.length (by omega) (by omega) (Nat.le_refl _) (by intro x _ hx; omega) (by intro x hx hx'; omega)
  obtain ⟨a, sz, cap, ex, rfl⟩ := h.klen
  simp only [f25_is, T.f25, apS_cons, ap0_nil, D2_call, Option.bind_some, interp_pu, interp_go, p1, len65]
  exact this
end
end Go.Proofs.Ytlginbmjiecglaa
