/- Texts of one claim, put together. -/
import Derived.Test.YtlginbmjiecglaaGreatK14
section
namespace Go.Proofs.YtlginbmjiecglaaGreat
set_option maxRecDepth 4000
open Go Go.Abs

theorem wide_eql (a b c d : Int) : binA Tryz.prog .eql 35 (.agg [.int .i64 a, .int .u64 b]) (.agg [.int .i64 c, .int .u64 d]) = some (.bool (decide (a = c) && decide (b = d))) := by
  have h : eqA Tryz.prog 50 35 (.agg [.int .i64 a, .int .u64 b]) (.agg [.int .i64 c, .int .u64 d]) = (match (a == c) with | true => (match (b == d) with | true => some true | false => some false) | false => some false) := by kernel_rfl
  have h2 : binA Tryz.prog .eql 35 (.agg [.int .i64 a, .int .u64 b]) (.agg [.int .i64 c, .int .u64 d]) = (match eqA Tryz.prog 50 35 (.agg [.int .i64 a, .int .u64 b]) (.agg [.int .i64 c, .int .u64 d]) with | some b => some (.bool b) | none => none) := by kernel_rfl
  rw [h2, h, show (a == c) = decide (a = c) from rfl, show (b == d) = decide (b = d) from rfl]
  cases decide (a = c) <;> cases decide (b = d) <;> rfl

theorem of_is {n : Int} (h1 : -9223372036854775808 ≤ n) (h2 : n < 9223372036854775808) (m : Mem) : Res m (run E2 (.fn 31) [.int .i64 n] m) (.agg (Wd.of n).cells) := by
  have e1 : n.fdiv (2 ^ (min (63 : Int).toNat IntKind.i64.bits)) = n / 18446744073709551616 := by
    have : ((2 : Int) ^ (min (63 : Int).toNat IntKind.i64.bits)) = 9223372036854775808 := by rfl
    rw [this, Int.fdiv_eq_ediv_of_nonneg _ (by omega)]; omega
  simp only [lms, lcs, ge, aps, ips, f31_is (H := H2) rfl, T.f31, Option.bind_some, pB, p2, p1, fillA, AV.cells, Option.map_some, Nat.reduceAdd, Nat.reduceLeDiff, if_true, resA, nth0, tupA, ld35, bd35, cv2_30, Wd.cells, AV.one, over, bin_shr _ _ _ _ _ (show (0 : Int) ≤ 63 by omega), e1, wrap_u64_mod]
  refine Res.eq ?_ rfl
  (repeat apply Fr.lays)
  exact Fr.refl _

theorem sign_is {a : Wd} (ha : a.ok) (m : Mem) : Res m (run E2 (.fn 53) [.agg a.cells] m) (.int .i64 (sgn a.val)) := by
  obtain ⟨ah, al⟩ := a
  obtain ⟨a1, a2, a3, a4⟩ := ha
  simp only [Wd.val] at *
  unfold sgn
  simp only [lms, lcs, ge, aps, ips, f53_is (H := H2) rfl, T.f53, Option.bind_some, p1, q1, p2, bin_eql, bin_lss, boxA, condA, ifV, fa35_0, fa35_1, ld2, ld30, Wd.cells, AV.one, if_true, AV.cells, Option.map_some]
  by_cases h1 : ah < 0
  · rw [if_pos (by omega)]
    simp only [decide_eq_true h1]
    exact Res.eq ((Fr.refl m).lay _) rfl
  · rw [if_neg (by omega)]
    simp only [decide_eq_false h1]
    by_cases h2 : ah = 0
    · simp only [decide_eq_true h2]
      by_cases h3 : al = 0
      · rw [if_pos (by omega)]
        simp only [decide_eq_true h3]
        exact Res.eq ((Fr.refl m).lay _) rfl
      · rw [if_neg (by omega)]
        simp only [aps, ips, decide_eq_false h3, g53_0_is (H := H2), T.g53_0]
        exact Res.eq ((Fr.refl m).lay _) rfl
    · rw [if_neg (by omega)]
      simp only [aps, ips, decide_eq_false h2, g53_0_is (H := H2), T.g53_0]
      exact Res.eq ((Fr.refl m).lay _) rfl

theorem cmp_is {a b : Wd} (ha : a.ok) (hb : b.ok) (m : Mem) : Res m (run E2 (.fn 58) [.agg a.cells, .agg b.cells] m) (.int .i64 (sgn (a.val - b.val))) := by
  obtain ⟨ah, al⟩ := a
  obtain ⟨bh, bl⟩ := b
  obtain ⟨a1, a2, a3, a4⟩ := ha
  obtain ⟨b1, b2, b3, b4⟩ := hb
  simp only [Wd.val] at *
  unfold sgn
  simp only [lms, lcs, ge, aps, ips, f58_is (H := H2) rfl, T.f58, Option.bind_some, p1, q1, p2, bin_eql, bin_lss, boxA, condA, ifV, fa35_0, fa35_1, ld2, ld30, ld35, Nat.reduceAdd, Wd.cells, AV.one, if_true, if_false, AV.cells, Nat.reduceLeDiff, Option.map_some, wide_eql]
  by_cases h1 : ah < bh
  · rw [if_pos (by omega)]
    simp only [decide_eq_true h1]
    exact Res.eq (((Fr.refl m).lay _).lay _) rfl
  · simp only [decide_eq_false h1]
    by_cases h2 : ah = bh
    · simp only [decide_eq_true h2]
      by_cases h3 : al < bl
      · rw [if_pos (by omega)]
        simp only [decide_eq_true h3]
        exact Res.eq (((Fr.refl m).lay _).lay _) rfl
      · rw [if_neg (by omega)]
        simp only [decide_eq_false h3]
        by_cases h4 : al = bl
        · rw [if_pos (by omega)]
          simp only [decide_eq_true h4, Bool.and_self]
          exact Res.eq (((Fr.refl m).lay _).lay _) rfl
        · rw [if_neg (by omega)]
          simp only [aps, ips, decide_eq_false h4, Bool.and_false, g58_0_is (H := H2), T.g58_0]
          exact Res.eq (((Fr.refl m).lay _).lay _) rfl
    · rw [if_neg (by omega), if_neg (by omega)]
      simp only [aps, ips, decide_eq_false h2, Bool.false_and, g58_0_is (H := H2), T.g58_0]
      exact Res.eq (((Fr.refl m).lay _).lay _) rfl

def absI (n : Int) : Int := if n < 0 then -n else n
theorem size_is {a : Wd} (ha : a.ok) (m : Mem) : Res m (run E2 (.fn 121) [.agg a.cells] m) (.tup [.int .u64 (absI a.val / 18446744073709551616), .int .u64 (absI a.val % 18446744073709551616)]) := by
  obtain ⟨ah, al⟩ := a
  obtain ⟨a1, a2, a3, a4⟩ := ha
  simp only [Wd.val] at *
  unfold absI
  by_cases h1 : 0 ≤ ah
  · rw [if_neg (by omega)]
    simp only [lms, lcs, ge, aps, ips, f121_is (H := H2) rfl, T.f121, Option.bind_some, p1, q1, p2, bin_geq, boxA, condA, fa35_0, fa35_1, ld2, ld30, cv2_30, Wd.cells, AV.one, if_true, AV.cells, Option.map_some, decide_eq_true h1, wrap_u64_mod]
    have e1 : (ah * 18446744073709551616 + al) / 18446744073709551616 = ah := by omega
    have e2 : (ah * 18446744073709551616 + al) % 18446744073709551616 = al := by omega
    have e3 : ah % 18446744073709551616 = ah := by omega
    rw [e1, e2, e3]
    exact Res.eq ((Fr.refl m).lay _) rfl
  · rw [if_pos (by omega)]
    obtain ⟨c, hc⟩ : ∃ c : Int, c = (if 0 < al + 0 then 1 else 0) := ⟨_, rfl⟩
    have c0 : 0 ≤ c ∧ c ≤ 1 := by omega
    simp only [lms, lcs, ge, aps, ips, f121_is (H := H2) rfl, T.f121, Option.bind_some, p1, q1, p2, bin_geq, boxA, condA, fa35_0, fa35_1, ld2, ld30, cv2_30, Wd.cells, AV.one, if_true, AV.cells, Option.map_some, decide_eq_false (show ¬ ah ≥ 0 by omega)]
    simp only [lms, lcs, ge, aps, ips, g121_0_is (H := H2), T.g121_0, D2_call, Option.bind_some, p1, q1, extractA, fa35_1, fa35_0, ld30, ld2, cv2_30, if_true, hsub_is _ (show (0 : Int) ≤ 0 ∧ 0 ≤ al ∧ al < 18446744073709551616 ∧ (0 : Int) ≤ 0 ∧ (0 : Int) ≤ 1 by omega), wrap_u64_mod, ← hc, hsub_is _ (show (0 : Int) ≤ 0 ∧ 0 ≤ ah % 18446744073709551616 ∧ ah % 18446744073709551616 < 18446744073709551616 ∧ 0 ≤ c ∧ c ≤ 1 by omega)]
    have e1 : -(ah * 18446744073709551616 + al) / 18446744073709551616 = (0 - ah % 18446744073709551616 - c) % 18446744073709551616 := by
      by_cases h0 : 0 < al + 0
      · rw [if_pos h0] at hc; omega
      · rw [if_neg h0] at hc; omega
    have e2 : -(ah * 18446744073709551616 + al) % 18446744073709551616 = (0 - al - 0) % 18446744073709551616 := by omega
    rw [e1, e2]
    exact Res.eq ((Fr.refl m).lay _) rfl

theorem signed_is (below : Bool) {hi lo : Int} (h1 : 0 ≤ hi) (h2 : hi < 18446744073709551616) (h3 : 0 ≤ lo) (h4 : lo < 18446744073709551616) (m : Mem) :
    Res m (run E2 (.fn 124) [.bool below, .int .u64 hi, .int .u64 lo] m) (.tup [.agg (Wd.res (if below then -(hi * 18446744073709551616 + lo) else hi * 18446744073709551616 + lo)).1.cells, .int .i64 (Wd.res (if below then -(hi * 18446744073709551616 + lo) else hi * 18446744073709551616 + lo)).2]) := by
  cases below with
  | false =>
    simp only [lms, lcs, aps, ips, f124_is (H := H2) rfl, T.f124, Option.bind_some, pB, p1, p2, bin_geq, fillA, AV.cells, Option.map_some, Nat.reduceAdd, Nat.reduceLeDiff, if_true, condA, unA, resA, nth0, nth1, tupA, ld35, bd35, Wd.cells, AV.one, if_false, over, Bool.not_false, Bool.false_eq_true]
    by_cases h : 9223372036854775808 ≤ hi
    · simp only [decide_eq_true h]
      exact Res.eq ((Fr.refl m).lay _) (res_over (fits_false (by omega)))
    · simp only [lms, lcs, ge, aps, ips, decide_eq_false h, g124_0_is (H := H2), T.g124_0, Option.bind_some, p1, fillA, AV.cells, Option.map_some, Nat.reduceAdd, Nat.reduceLeDiff, if_true, resA, nth0, nth1, tupA, ld35, bd35, cv30_2, AV.one, over, wrap_i64 (n := hi) (by omega) (by omega)]
      exact Res.eq ((Fr.refl m).lay _) (res_ok (fits_true (by omega) (by omega)) (by omega) (by omega))
  | true =>
    simp only [aps, ips, f124_is (H := H2) rfl, T.f124, Option.bind_some, pB, p1, p2, bin_geq, fillA, Option.map_some, if_true, condA, unA, resA, nth0, nth1, tupA, ld35, bd35, Wd.cells, Bool.not_true]
    simp only [lms, lcs, aps, ips, g124_1_is (H := H2), T.g124_1, Option.bind_some, p2, p1, bin_eql, bin_gtr, fillA, AV.cells, Option.map_some, Nat.reduceAdd, Nat.reduceLeDiff, if_true, condA, ifV, resA, nth0, nth1, tupA, ld35, bd35, AV.one, over]
    have main : hi * 18446744073709551616 + lo ≤ 170141183460469231731687303715884105728 → Res m ((T.Rl H2).gor 507906 [.int .u64 hi, .int .u64 lo, .ptr (some ⟨m.next, 0⟩)] (m.lay (.cells [.int .i64 0, .int .u64 0] false))) (.tup [.agg (Wd.res (-(hi * 18446744073709551616 + lo))).1.cells, .int .i64 (Wd.res (-(hi * 18446744073709551616 + lo))).2]) := by
      intro hle
      obtain ⟨c, hc⟩ : ∃ c : Int, c = (if 0 < lo + 0 then 1 else 0) := ⟨_, rfl⟩
      have c0 : 0 ≤ c ∧ c ≤ 1 := by omega
      have hw : IntKind.wrap .i64 ((0 - hi - c) % 18446744073709551616) = -hi - c := by rw [wrap_i64_if]; omega
      simp only [lms, lcs, ge, aps, ips, g124_2_is (H := H2), T.g124_2, D2_call, Option.bind_some, p1, fillA, AV.cells, Option.map_some, Nat.reduceAdd, Nat.reduceLeDiff, if_true, extractA, resA, nth0, nth1, tupA, ld35, bd35, cv30_2, Wd.cells, AV.one, over, hsub_is _ (show (0 : Int) ≤ 0 ∧ 0 ≤ lo ∧ lo < 18446744073709551616 ∧ (0 : Int) ≤ 0 ∧ (0 : Int) ≤ 1 by omega), ← hc, hsub_is _ (show (0 : Int) ≤ 0 ∧ 0 ≤ hi ∧ hi < 18446744073709551616 ∧ 0 ≤ c ∧ c ≤ 1 by omega), hw]
      exact Res.eq ((Fr.refl m).lay _) (res_ok (fits_true (by omega) (by omega)) (by omega) (by omega))
    by_cases h : 9223372036854775808 < hi
    · simp only [decide_eq_true h]
      exact Res.eq ((Fr.refl m).lay _) (res_over (fits_false (by omega)))
    · simp only [decide_eq_false h]
      by_cases h5 : hi = 9223372036854775808
      · simp only [decide_eq_true h5]
        by_cases h6 : 0 < lo
        · simp only [decide_eq_true h6]
          exact Res.eq ((Fr.refl m).lay _) (res_over (fits_false (by omega)))
        · simp only [decide_eq_false h6]
          exact main (by omega)
      · simp only [decide_eq_false h5]
        exact main (by omega)

theorem ten_loop (m : Mem) : ∀ (d j : Nat), j + d ≤ 18 → D2.gor 454656 [.int .i64 (d : Int), .int .u64 (tenP j)] m = some (.int .u64 (tenP (j + d)), m) := by
  intro d
  induction d with
  | zero =>
    intro j _
    simp only [aps, ips, g111_0_is (H := H2), T.g111_0, Option.bind_some, p2, bin_gtr, condA, decide_eq_false (show ¬ (0 : Int) < ((0 : Nat) : Int) by omega), g111_3_is (H := H2), T.g111_3, Nat.add_zero]
  | succ d ih =>
    intro j hj
    have h1 := tenP_pos j
    have h2 := tenP_le (k := j) (by omega)
    simp only [aps, ips, g111_0_is (H := H2), T.g111_0, Option.bind_some, p2, bin_gtr, condA, decide_eq_true (show (0 : Int) < ((d + 1 : Nat) : Int) by omega)]
    simp only [aps, ips, g111_1_is (H := H2), T.g111_1, Option.bind_some, p2, bin_mul, wrap_u64 (x := tenP j * 10) (by omega) (by omega)]
    simp only [aps, ips, g111_2_is (H := H2), T.g111_2, Option.bind_some, p2, bin_sub, wrap_i64 (n := ((d + 1 : Nat) : Int) - 1) (by omega) (by omega), ← tenP_succ]
    rw [show ((d + 1 : Nat) : Int) - 1 = (d : Int) by omega, ih (j + 1) (by omega), show j + 1 + d = j + (d + 1) by omega]
theorem ten_is {k : Nat} (hk : k ≤ 18) (m : Mem) : run E2 (.fn 111) [.int .i64 (k : Int)] m = some (.int .u64 (tenP k), m) := by
  have := ten_loop m k 0 (by omega)
  rw [Nat.zero_add] at this
  simp only [aps, ips, f111_is (H := H2) rfl, T.f111]
  exact this
theorem scale_is (n : Int) (m : Mem) : run E2 (.fn 93) [.int .i64 n] m = some (.bool (decide (0 ≤ n ∧ n ≤ 18)), m) := by
  simp only [aps, ips, f93_is (H := H2) rfl, T.f93, Option.bind_some, p2, bin_geq, bin_leq, ifV]
  by_cases h1 : 0 ≤ n
  · by_cases h2 : n ≤ 18 <;> simp [h1, h2]
  · simp [h1]
def decC (w : Wd) (s : Int) : List AV := [.int .i64 w.hi, .int .u64 w.lo, .int .i64 s]
theorem dright_is (w : Wd) (s : Int) (m : Mem) : Res m (run E2 (.fn 55) [.agg (decC w s)] m) (.bool (decide (0 ≤ s ∧ s ≤ 18))) := by
  simp only [lms, lcs, ge, aps, ips, decC, f55_is (H := H2) rfl, T.f55, D2_call, Option.bind_some, p1, q1, boxA, fa37_1, ld3, AV.one, if_true, AV.cells, Option.map_some, scale_is]
  exact Res.eq ((Fr.refl m).lay _) rfl
end Go.Proofs.YtlginbmjiecglaaGreat
end
section
namespace Go.Proofs.YtlginbmjiecglaaGreat
set_option maxRecDepth 4000
open Go Go.Abs
def S3 : List FuncId := [54, 45, 122, 120, 31, 53, 58, 121, 124, 111, 93, 55]
noncomputable def H3 : FuncId → Option (List AV → Mem → R) := hooksC E2 S3
noncomputable abbrev E3 : Env := T.EH H3
theorem E3_ok : EnvOk E3 := hooksC_ok E2_ok S3
noncomputable abbrev D3 : Do := T.Rl H3

section
variable {H : FuncId → Option (List AV → Mem → R)}
theorem add_at (h : H 54 = some (cleanH E2 54)) {a b : Wd} (ha : a.ok) (hb : b.ok) (m : Mem) : run (T.EH H) (.fn 54) [.agg a.cells, .agg b.cells] m = some (.tup [.agg (Wd.res (a.val + b.val)).1.cells, .int .i64 (Wd.res (a.val + b.val)).2], m) :=
  hook_at h (by simp [AV.flat, AV.lt, AV.lts, Wd.cells]) fun m2 _ _ => add_is a b ha hb m2
theorem sub_at (h : H 45 = some (cleanH E2 45)) {a b : Wd} (ha : a.ok) (hb : b.ok) (m : Mem) : run (T.EH H) (.fn 45) [.agg a.cells, .agg b.cells] m = some (.tup [.agg (Wd.res (a.val - b.val)).1.cells, .int .i64 (Wd.res (a.val - b.val)).2], m) :=
  hook_at h (by simp [AV.flat, AV.lt, AV.lts, Wd.cells]) fun m2 _ _ => sub_is a b ha hb m2
theorem mul64_at (h : H 122 = some (cleanH E2 122)) {x y : Int} (hx : 0 ≤ x ∧ x < 18446744073709551616) (hy : 0 ≤ y ∧ y < 18446744073709551616) (m : Mem) : run (T.EH H) (.fn 122) [.int .u64 x, .int .u64 y] m = some (.tup [.int .u64 (x * y / 18446744073709551616), .int .u64 (x * y % 18446744073709551616)], m) :=
  hook_at h (by simp [AV.flat, AV.lt, AV.lts]) fun m2 _ _ => ⟨m2, mul64_is hx.1 hx.2 hy.1 hy.2 m2, Fr.refl _⟩
theorem div64_at (h : H 120 = some (cleanH E2 120)) {hi lo y : Int} (h0 : 0 ≤ hi) (hlt : hi < y) (hy : y < 18446744073709551616) (hl : 0 ≤ lo ∧ lo < 18446744073709551616) (m : Mem) : run (T.EH H) (.fn 120) [.int .u64 hi, .int .u64 lo, .int .u64 y] m = some (.tup [.int .u64 ((hi * 18446744073709551616 + lo) / y), .int .u64 ((hi * 18446744073709551616 + lo) % y)], m) :=
  hook_at h (by simp [AV.flat, AV.lt, AV.lts]) fun m2 _ _ => ⟨m2, div64_is h0 hlt hy hl.1 hl.2 m2, Fr.refl _⟩
theorem of_at (h : H 31 = some (cleanH E2 31)) {n : Int} (h1 : -9223372036854775808 ≤ n) (h2 : n < 9223372036854775808) (m : Mem) : run (T.EH H) (.fn 31) [.int .i64 n] m = some (.agg (Wd.of n).cells, m) :=
  hook_at h (by simp [AV.flat, AV.lt, AV.lts, Wd.cells]) fun m2 _ _ => of_is h1 h2 m2
theorem sign_at (h : H 53 = some (cleanH E2 53)) {a : Wd} (ha : a.ok) (m : Mem) : run (T.EH H) (.fn 53) [.agg a.cells] m = some (.int .i64 (sgn a.val), m) :=
  hook_at h (by simp [AV.flat, AV.lt]) fun m2 _ _ => sign_is ha m2
theorem cmp_at (h : H 58 = some (cleanH E2 58)) {a b : Wd} (ha : a.ok) (hb : b.ok) (m : Mem) : run (T.EH H) (.fn 58) [.agg a.cells, .agg b.cells] m = some (.int .i64 (sgn (a.val - b.val)), m) :=
  hook_at h (by simp [AV.flat, AV.lt]) fun m2 _ _ => cmp_is ha hb m2
theorem size_at (h : H 121 = some (cleanH E2 121)) {a : Wd} (ha : a.ok) (m : Mem) : run (T.EH H) (.fn 121) [.agg a.cells] m = some (.tup [.int .u64 (absI a.val / 18446744073709551616), .int .u64 (absI a.val % 18446744073709551616)], m) :=
  hook_at h (by simp [AV.flat, AV.lt, AV.lts]) fun m2 _ _ => size_is ha m2
theorem signed_at (h : H 124 = some (cleanH E2 124)) (below : Bool) {hi lo : Int} (h1 : 0 ≤ hi ∧ hi < 18446744073709551616) (h3 : 0 ≤ lo ∧ lo < 18446744073709551616) (m : Mem) :
    run (T.EH H) (.fn 124) [.bool below, .int .u64 hi, .int .u64 lo] m = some (.tup [.agg (Wd.res (if below then -(hi * 18446744073709551616 + lo) else hi * 18446744073709551616 + lo)).1.cells, .int .i64 (Wd.res (if below then -(hi * 18446744073709551616 + lo) else hi * 18446744073709551616 + lo)).2], m) :=
  hook_at h (by simp [AV.flat, AV.lt, AV.lts, Wd.cells]) fun m2 _ _ => signed_is below h1.1 h1.2 h3.1 h3.2 m2
theorem ten_at (h : H 111 = some (cleanH E2 111)) {k : Nat} (hk : k ≤ 18) (m : Mem) : run (T.EH H) (.fn 111) [.int .i64 (k : Int)] m = some (.int .u64 (tenP k), m) :=
  hook_at h (by simp [AV.flat, AV.lt]) fun m2 _ _ => ⟨m2, ten_is hk m2, Fr.refl _⟩
theorem scale_at (h : H 93 = some (cleanH E2 93)) (n : Int) (m : Mem) : run (T.EH H) (.fn 93) [.int .i64 n] m = some (.bool (decide (0 ≤ n ∧ n ≤ 18)), m) :=
  hook_at h (by simp [AV.flat, AV.lt]) fun m2 _ _ => ⟨m2, scale_is n m2, Fr.refl _⟩
theorem dright_at (h : H 55 = some (cleanH E2 55)) (w : Wd) (s : Int) (m : Mem) : run (T.EH H) (.fn 55) [.agg (decC w s)] m = some (.bool (decide (0 ≤ s ∧ s ≤ 18)), m) :=
  hook_at h (by simp [AV.flat, AV.lt]) fun m2 _ _ => dright_is w s m2
end
theorem hadd_at {H : FuncId → Option (List AV → Mem → R)} (h : H 92 = some add64H) {x y c : Int} (m : Mem) (hh : 0 ≤ x ∧ 0 ≤ y ∧ 0 ≤ c ∧ c ≤ 1) : run (T.EH H) (.fn 92) [.int .u64 x, .int .u64 y, .int .u64 c] m = some (.tup [.int .u64 ((x + y + c) % 18446744073709551616), .int .u64 ((x + y + c) / 18446744073709551616)], m) := by
  rw [run_hook (h := add64H) h]
  simp only [add64H, if_pos hh]
theorem hsub_at {H : FuncId → Option (List AV → Mem → R)} (h : H 79 = some sub64H) {x y c : Int} (m : Mem) (hh : 0 ≤ x ∧ 0 ≤ y ∧ y < 18446744073709551616 ∧ 0 ≤ c ∧ c ≤ 1) : run (T.EH H) (.fn 79) [.int .u64 x, .int .u64 y, .int .u64 c] m = some (.tup [.int .u64 ((x - y - c) % 18446744073709551616), .int .u64 (if x < y + c then 1 else 0)], m) := by
  rw [run_hook (h := sub64H) h]
  simp only [sub64H, if_pos hh]
end Go.Proofs.YtlginbmjiecglaaGreat
end
section
namespace Go.Proofs.YtlginbmjiecglaaGreat
set_option maxRecDepth 4000
open Go Go.Abs

theorem pcl1_is {x y z0 z1 z2 z3 : Int} (hx : 0 ≤ x ∧ x < 18446744073709551616) (hy : 0 ≤ y ∧ y < 18446744073709551616) (h0 : 0 ≤ z0 ∧ z0 < 18446744073709551616) (h1 : 0 ≤ z1 ∧ z1 < 18446744073709551616) (h2 : 0 ≤ z2 ∧ z2 < 18446744073709551616) (h3 : 0 ≤ z3 ∧ z3 < 18446744073709551616)
    (hs : z3 * 340282366920938463463374607431768211456 + z2 * 18446744073709551616 + z1 + x * y < 6277101735386680763835789423207666416102355444464034512896) (m : Mem) :
    run E3 (.fn 123) [.int .u64 x, .int .u64 y, .int .i64 1, .ptr (some ⟨m.next, 0⟩)] (m.lay (.cells [.int .u64 z0, .int .u64 z1, .int .u64 z2, .int .u64 z3] false)) =
      some (.undef, m.lay (.cells [.int .u64 z0, .int .u64 ((z1 + x * y) % 18446744073709551616), .int .u64 ((z2 * 18446744073709551616 + z1 + x * y) / 18446744073709551616 % 18446744073709551616), .int .u64 (z3 + (z2 * 18446744073709551616 + z1 + x * y) / 340282366920938463463374607431768211456)] false)) := by
  have hm := mul_Q hx.1 hx.2 hy.1 hy.2
  have w2 : IntKind.wrap .i64 (1 + 1) = 2 := wrap_i64 (by omega) (by omega)
  have w3 : IntKind.wrap .i64 (1 + 2) = 3 := wrap_i64 (by omega) (by omega)
  simp only [lms, ge, aps, ips, f123_is (H := H3) rfl, T.f123, D2_call, Option.bind_some, p1, p2, q1, bin_add, bin_lss, extractA, condA, ld30, ix167, if_true, mul64_at (H := H3) rfl hx hy, w2, w3, ix4_1, ix4_2, ix4_3]
  generalize x * y = t at *
  obtain ⟨c, hc⟩ : ∃ c, c = (z1 + t % 18446744073709551616 + 0) / 18446744073709551616 := ⟨_, rfl⟩
  obtain ⟨c2, hc2⟩ : ∃ c2, c2 = (z2 + t / 18446744073709551616 + c) / 18446744073709551616 := ⟨_, rfl⟩
  simp only [lms, lcs, ge, hadd_at (H := H3) rfl _ (show 0 ≤ z1 ∧ 0 ≤ t % 18446744073709551616 ∧ (0 : Int) ≤ 0 ∧ (0 : Int) ≤ 1 by omega), ← hc, if_true, over, AV.cells, Nat.reduceAdd, Nat.reduceLeDiff, Option.map_some, hadd_at (H := H3) rfl _ (show 0 ≤ z2 ∧ 0 ≤ t / 18446744073709551616 ∧ 0 ≤ c ∧ c ≤ 1 by omega), ← hc2, decide_eq_true (show (3 : Int) < 4 by omega), Option.bind_some, bin_add]
  rw [wrap_u64 (x := z3 + c2) (by omega) (by omega), show (z1 + t % 18446744073709551616 + 0) % 18446744073709551616 = (z1 + t) % 18446744073709551616 by omega, show (z2 + t / 18446744073709551616 + c) % 18446744073709551616 = (z2 * 18446744073709551616 + z1 + t) / 18446744073709551616 % 18446744073709551616 by omega,
    show z3 + c2 = z3 + (z2 * 18446744073709551616 + z1 + t) / 340282366920938463463374607431768211456 by omega]
theorem pcl2_is {x y z0 z1 z2 z3 : Int} (hx : 0 ≤ x ∧ x < 18446744073709551616) (hy : 0 ≤ y ∧ y < 18446744073709551616) (h0 : 0 ≤ z0 ∧ z0 < 18446744073709551616) (h1 : 0 ≤ z1 ∧ z1 < 18446744073709551616) (h2 : 0 ≤ z2 ∧ z2 < 18446744073709551616) (h3 : 0 ≤ z3 ∧ z3 < 18446744073709551616)
    (m : Mem) :
    run E3 (.fn 123) [.int .u64 x, .int .u64 y, .int .i64 2, .ptr (some ⟨m.next, 0⟩)] (m.lay (.cells [.int .u64 z0, .int .u64 z1, .int .u64 z2, .int .u64 z3] false)) =
      some (.undef, m.lay (.cells [.int .u64 z0, .int .u64 z1, .int .u64 ((z2 + x * y) % 18446744073709551616), .int .u64 ((z3 * 18446744073709551616 + z2 + x * y) / 18446744073709551616 % 18446744073709551616)] false)) := by
  have hm := mul_Q hx.1 hx.2 hy.1 hy.2
  have w2 : IntKind.wrap .i64 (2 + 1) = 3 := wrap_i64 (by omega) (by omega)
  have w3 : IntKind.wrap .i64 (2 + 2) = 4 := wrap_i64 (by omega) (by omega)
  simp only [lms, ge, aps, ips, f123_is (H := H3) rfl, T.f123, D2_call, Option.bind_some, p1, p2, q1, bin_add, bin_lss, extractA, condA, ld30, ix167, if_true, mul64_at (H := H3) rfl hx hy, w2, w3, ix4_2, ix4_3]
  generalize x * y = t at *
  obtain ⟨c, hc⟩ : ∃ c, c = (z2 + t % 18446744073709551616 + 0) / 18446744073709551616 := ⟨_, rfl⟩
  simp only [lms, lcs, ge, hadd_at (H := H3) rfl _ (show 0 ≤ z2 ∧ 0 ≤ t % 18446744073709551616 ∧ (0 : Int) ≤ 0 ∧ (0 : Int) ≤ 1 by omega), ← hc, if_true, over, AV.cells, Nat.reduceAdd, Nat.reduceLeDiff, Option.map_some, hadd_at (H := H3) rfl _ (show 0 ≤ z3 ∧ 0 ≤ t / 18446744073709551616 ∧ 0 ≤ c ∧ c ≤ 1 by omega), decide_eq_false (show ¬ (4 : Int) < 4 by omega), Option.bind_some]
  rw [show (z2 + t % 18446744073709551616 + 0) % 18446744073709551616 = (z2 + t) % 18446744073709551616 by omega, show (z3 + t / 18446744073709551616 + c) % 18446744073709551616 = (z3 * 18446744073709551616 + z2 + t) / 18446744073709551616 % 18446744073709551616 by omega]

theorem absI_nn (n : Int) : 0 ≤ absI n := by unfold absI; split <;> omega
theorem absI_le {a : Wd} (ha : a.ok) : absI a.val ≤ 170141183460469231731687303715884105728 := by
  obtain ⟨h1, h2, h3, h4⟩ := ha
  unfold absI Wd.val; split <;> omega
theorem prod_lt {a b : Wd} (ha : a.ok) (hb : b.ok) : 0 ≤ absI a.val * absI b.val ∧ absI a.val * absI b.val ≤ 28948022309329048855892746252171976963317496166410141009864396001978282409984 := by
  refine ⟨Int.mul_nonneg (absI_nn _) (absI_nn _), ?_⟩
  have h1 : absI a.val * absI b.val ≤ 170141183460469231731687303715884105728 * absI b.val := Int.mul_le_mul_of_nonneg_right (absI_le ha) (absI_nn _)
  have h2 := absI_le hb
  omega

theorem product_is {a b : Wd} (ha : a.ok) (hb : b.ok) (m : Mem) : Res m (run E3 (.fn 110) [.agg a.cells, .agg b.cells] m) (.agg (digs4 (absI a.val * absI b.val))) := by
  obtain ⟨hle1, hle2⟩ := prod_lt ha hb
  have hA := absI_le ha
  have hB := absI_le hb
  have nA := absI_nn a.val
  have nB := absI_nn b.val
  have sA := fun m => size_at (H := H3) rfl ha m
  have sB' := fun m => size_at (H := H3) rfl hb m
  obtain ⟨ac, hac⟩ : ∃ ac, ac = a.cells := ⟨_, rfl⟩
  obtain ⟨bc, hbc⟩ : ∃ bc, bc = b.cells := ⟨_, rfl⟩
  have lac : ac.length = 2 := by rw [hac]; rfl
  have lbc : bc.length = 2 := by rw [hbc]; rfl
  have oac : ac.all AV.one = true := by rw [hac]; rfl
  have obc : bc.all AV.one = true := by rw [hbc]; rfl
  rw [← hac] at sA
  rw [← hbc] at sB'
  rw [← hac, ← hbc]
  obtain ⟨A, hA'⟩ : ∃ A, A = absI a.val := ⟨_, rfl⟩
  obtain ⟨B, hB'⟩ : ∃ B, B = absI b.val := ⟨_, rfl⟩
  rw [← hA'] at sA hle1 hle2 hA nA ⊢
  rw [← hB'] at sB' hle1 hle2 hB nB ⊢
  clear hac hbc hA' hB'
  obtain ⟨ah, hah⟩ : ∃ ah, ah = A / 18446744073709551616 := ⟨_, rfl⟩
  obtain ⟨al, hal⟩ : ∃ al, al = A % 18446744073709551616 := ⟨_, rfl⟩
  obtain ⟨bh, hbh⟩ : ∃ bh, bh = B / 18446744073709551616 := ⟨_, rfl⟩
  obtain ⟨bl, hbl⟩ : ∃ bl, bl = B % 18446744073709551616 := ⟨_, rfl⟩
  simp only [← hah, ← hal] at sA
  simp only [← hbh, ← hbl] at sB'
  have rah : 0 ≤ ah ∧ ah < 18446744073709551616 := by omega
  have ral : 0 ≤ al ∧ al < 18446744073709551616 := by omega
  have rbh : 0 ≤ bh ∧ bh < 18446744073709551616 := by omega
  have rbl : 0 ≤ bl ∧ bl < 18446744073709551616 := by omega
  have eP : A * B = ah * bh * 340282366920938463463374607431768211456 + (al * bh + ah * bl) * 18446744073709551616 + al * bl := by
    rw [← mul_words]; congr 1 <;> omega
  have t0 := mul_Q ral.1 ral.2 rbl.1 rbl.2
  have t1 := mul_Q ral.1 ral.2 rbh.1 rbh.2
  have t2 := mul_Q rah.1 rah.2 rbl.1 rbl.2
  have t3 := mul_Q rah.1 rah.2 rbh.1 rbh.2
  obtain ⟨w0, hw0⟩ : ∃ w0, w0 = al * bl % 18446744073709551616 := ⟨_, rfl⟩
  obtain ⟨w1, hw1⟩ : ∃ w1, w1 = al * bl / 18446744073709551616 := ⟨_, rfl⟩
  have k1 := fun m => pcl1_is (x := al) (y := bh) (z0 := w0) (z1 := w1) (z2 := 0) (z3 := 0) ral rbh (by omega) (by omega) (by omega) (by omega) (by omega) m
  obtain ⟨x1, hx1⟩ : ∃ x1, x1 = (w1 + al * bh) % 18446744073709551616 := ⟨_, rfl⟩
  obtain ⟨x2, hx2⟩ : ∃ x2, x2 = (0 * 18446744073709551616 + w1 + al * bh) / 18446744073709551616 % 18446744073709551616 := ⟨_, rfl⟩
  obtain ⟨x3, hx3⟩ : ∃ x3, x3 = 0 + (0 * 18446744073709551616 + w1 + al * bh) / 340282366920938463463374607431768211456 := ⟨_, rfl⟩
  simp only [← hx1, ← hx2, ← hx3] at k1
  have k2 := fun m => pcl1_is (x := ah) (y := bl) (z0 := w0) (z1 := x1) (z2 := x2) (z3 := x3) rah rbl (by omega) (by omega) (by omega) (by omega) (by omega) m
  obtain ⟨y1, hy1⟩ : ∃ y1, y1 = (x1 + ah * bl) % 18446744073709551616 := ⟨_, rfl⟩
  obtain ⟨y2, hy2⟩ : ∃ y2, y2 = (x2 * 18446744073709551616 + x1 + ah * bl) / 18446744073709551616 % 18446744073709551616 := ⟨_, rfl⟩
  obtain ⟨y3, hy3⟩ : ∃ y3, y3 = x3 + (x2 * 18446744073709551616 + x1 + ah * bl) / 340282366920938463463374607431768211456 := ⟨_, rfl⟩
  simp only [← hy1, ← hy2, ← hy3] at k2
  have k3 := fun m => pcl2_is (x := ah) (y := bh) (z0 := w0) (z1 := y1) (z2 := y2) (z3 := y3) rah rbh (by omega) (by omega) (by omega) (by omega) m
  obtain ⟨v2, hv2⟩ : ∃ v2, v2 = (y2 + ah * bh) % 18446744073709551616 := ⟨_, rfl⟩
  obtain ⟨v3, hv3⟩ : ∃ v3, v3 = (y3 * 18446744073709551616 + y2 + ah * bh) / 18446744073709551616 % 18446744073709551616 := ⟨_, rfl⟩
  simp only [← hv2, ← hv3] at k3
  have hd : digs4 (A * B) = [.int .u64 w0, .int .u64 y1, .int .u64 v2, .int .u64 v3] := by
    apply digs4_of (by omega) (by omega) (by omega) (by omega)
    rw [eP]
    generalize al * bl = q0 at *
    generalize al * bh = q1 at *
    generalize ah * bl = q2 at *
    generalize ah * bh = q3 at *
    have e1 : w1 * 18446744073709551616 + w0 = q0 := by omega
    have e2 : x3 * 340282366920938463463374607431768211456 + x2 * 18446744073709551616 + x1 = w1 + q1 := by omega
    have e3 : y3 * 340282366920938463463374607431768211456 + y2 * 18446744073709551616 + y1 = x3 * 340282366920938463463374607431768211456 + x2 * 18446744073709551616 + x1 + q2 := by omega
    have e4 : v3 * 18446744073709551616 + v2 = y3 * 18446744073709551616 + y2 + q3 := by omega
    omega
  rw [hd]
  have k1 := k1 (((m.lay (.cells ac false)).lay (.cells bc false)).lay (.cells [.int .u64 0, .int .u64 0, .int .u64 0, .int .u64 0] false))
  have k2 := k2 (((m.lay (.cells ac false)).lay (.cells bc false)).lay (.cells [.int .u64 0, .int .u64 0, .int .u64 0, .int .u64 0] false))
  have k3 := k3 (((m.lay (.cells ac false)).lay (.cells bc false)).lay (.cells [.int .u64 0, .int .u64 0, .int .u64 0, .int .u64 0] false))
  simp only [Mem.next_lay] at k1 k2 k3
  simp only [lms, lcs, ge, aps, ips, f110_is (H := H3) rfl, T.f110, D2_call, Option.bind_some, pB, q1, p1, p2, boxA, extractA, resA, nth0, tupA, ld35, ld167, ix167, oac, obc, AV.one, if_true, if_false, over, AV.cells, Nat.reduceAdd, Nat.reduceLeDiff, Option.map_some, lac, lbc, List.take_of_length_le (show ac.length ≤ 2 by omega), List.take_of_length_le (show bc.length ≤ 2 by omega), sA, sB', mul64_at (H := H3) rfl ral rbl, ← hw0, ← hw1, ix4_0, ix4_1, callA, k1, k2, k3]
  refine Res.eq ?_ rfl
  (repeat apply Fr.lays)
  exact Fr.refl _

theorem narrow_is (below : Bool) {n : Int} (h0 : 0 ≤ n) (h1 : n < 115792089237316195423570985008687907853269984665640564039457584007913129639936) (m : Mem) :
    Res m (run E3 (.fn 112) [.bool below, .agg (digs4 n)] m) (.tup [.agg (Wd.res (if below then -n else n)).1.cells, .int .i64 (Wd.res (if below then -n else n)).2]) := by
  obtain ⟨z0, z1, z2, z3, e, g0, g1, g2, g3, en⟩ := digs4_ex h0 h1
  rw [e]
  simp only [lms, lcs, ge, aps, ips, f112_is (H := H3) rfl, T.f112, Option.bind_some, pB, p2, q1, p1, bin_neq, fillA, AV.cells, Option.map_some, Nat.reduceAdd, Nat.reduceLeDiff, if_true, boxA, condA, ifV, resA, nth0, nth1, tupA, ld30, ld35, bd35, ix167, Wd.cells, AV.one, if_false, over, ix4_2, ix4_3]
  by_cases h3 : z3 = 0
  · simp only [decide_eq_true h3, Bool.not_true]
    by_cases h2 : z2 = 0
    · simp only [decide_eq_true h2, Bool.not_true]
      have en2 : n = z1 * 18446744073709551616 + z0 := by omega
      rw [en2]
      simp only [lms, lcs, ge, aps, ips, g112_0_is (H := H3), T.g112_0, D2_call, Option.bind_some, p2, q1, p1, extractA, resA, nth0, nth1, tupA, ld30, ld35, ix167, Wd.cells, AV.one, if_true, if_false, over, AV.cells, Nat.reduceAdd, Nat.reduceLeDiff, Option.map_some, ix4_0, ix4_1, signed_at (H := H3) rfl below g1 g0]
      refine Res.eq ?_ rfl
      (repeat apply Fr.lays)
      exact Fr.refl _
    · simp only [decide_eq_false h2, Bool.not_false]
      refine Res.eq ?_ (res_over (fits_false ?_))
      · (repeat apply Fr.lays)
        exact Fr.refl _
      · cases below
        · simp only [Bool.false_eq_true, if_false]; omega
        · simp only [if_true]; omega
  · simp only [decide_eq_false h3, Bool.not_false]
    refine Res.eq ?_ (res_over (fits_false ?_))
    · (repeat apply Fr.lays)
      exact Fr.refl _
    · cases below
      · simp only [Bool.false_eq_true, if_false]; omega
      · simp only [if_true]; omega

theorem over_is {n d : Int} (h0 : 0 ≤ n) (h1 : n < 115792089237316195423570985008687907853269984665640564039457584007913129639936) (hd : 0 < d) (hd2 : d < 18446744073709551616) (m : Mem) :
    Res m (run E3 (.fn 109) [.agg (digs4 n), .int .u64 d] m) (.tup [.agg (digs4 (n / d)), .int .u64 (n % d)]) := by
  obtain ⟨z0, z1, z2, z3, e, g0, g1, g2, g3, en⟩ := digs4_ex h0 h1
  rw [e]
  have st : ∀ r z : Int, 0 ≤ r → r < d → 0 ≤ z → z < 18446744073709551616 → 0 ≤ (r * 18446744073709551616 + z) / d ∧ (r * 18446744073709551616 + z) / d < 18446744073709551616 ∧ 0 ≤ (r * 18446744073709551616 + z) % d ∧ (r * 18446744073709551616 + z) % d < d ∧
      r * 18446744073709551616 + z = (r * 18446744073709551616 + z) / d * d + (r * 18446744073709551616 + z) % d := by
    intro r z hr hr2 hz hz2
    exact ⟨Int.ediv_nonneg (by omega) (by omega), Int.ediv_lt_of_lt_mul hd (by
      have : r * 18446744073709551616 + 18446744073709551616 ≤ d * 18446744073709551616 := by omega
      rw [Int.mul_comm 18446744073709551616 d]; omega), Int.emod_nonneg _ (by omega), Int.emod_lt_of_pos _ hd, (Int.ediv_mul_add_emod _ _).symm⟩
  obtain ⟨u3, hq3⟩ : ∃ u3, u3 = (0 * 18446744073709551616 + z3) / d := ⟨_, rfl⟩
  obtain ⟨r3, hr3⟩ : ∃ r3, r3 = (0 * 18446744073709551616 + z3) % d := ⟨_, rfl⟩
  have s3 := st 0 z3 (by omega) hd g3.1 g3.2
  rw [← hq3, ← hr3] at s3
  obtain ⟨u2, hq2⟩ : ∃ u2, u2 = (r3 * 18446744073709551616 + z2) / d := ⟨_, rfl⟩
  obtain ⟨r2, hr2⟩ : ∃ r2, r2 = (r3 * 18446744073709551616 + z2) % d := ⟨_, rfl⟩
  have s2 := st r3 z2 s3.2.2.1 s3.2.2.2.1 g2.1 g2.2
  rw [← hq2, ← hr2] at s2
  obtain ⟨u1, hq1⟩ : ∃ u1, u1 = (r2 * 18446744073709551616 + z1) / d := ⟨_, rfl⟩
  obtain ⟨r1, hr1⟩ : ∃ r1, r1 = (r2 * 18446744073709551616 + z1) % d := ⟨_, rfl⟩
  have s1 := st r2 z1 s2.2.2.1 s2.2.2.2.1 g1.1 g1.2
  rw [← hq1, ← hr1] at s1
  obtain ⟨u0, hq0⟩ : ∃ u0, u0 = (r1 * 18446744073709551616 + z0) / d := ⟨_, rfl⟩
  obtain ⟨r0, hr0⟩ : ∃ r0, r0 = (r1 * 18446744073709551616 + z0) % d := ⟨_, rfl⟩
  have s0 := st r1 z0 s1.2.2.1 s1.2.2.2.1 g0.1 g0.2
  rw [← hq0, ← hr0] at s0
  obtain ⟨f1, f2⟩ := over_join (d := d) (p0 := z0) (p1 := z1) (p2 := z2) (p3 := z3) (q3 := u3) (r3 := r3) (q2 := u2) (r2 := r2) (q1 := u1) (r1 := r1) (q0 := u0) (r0 := r0) (by omega) (by omega) (by omega) (by omega) s0.2.2.1 s0.2.2.2.1
  rw [← en] at f1 f2
  rw [digs4_of ⟨s0.1, s0.2.1⟩ ⟨s1.1, s1.2.1⟩ ⟨s2.1, s2.2.1⟩ ⟨s3.1, s3.2.1⟩ f1, f2]
  have w1 : IntKind.wrap .i64 (3 - 1) = 2 := wrap_i64 (by omega) (by omega)
  have w2 : IntKind.wrap .i64 (2 - 1) = 1 := wrap_i64 (by omega) (by omega)
  have w3 : IntKind.wrap .i64 (1 - 1) = 0 := wrap_i64 (by omega) (by omega)
  have w4 : IntKind.wrap .i64 (0 - 1) = -1 := wrap_i64 (by omega) (by omega)
  have c3 : decide ((0 : Int) ≤ 3) = true := by decide
  have c2 : decide ((0 : Int) ≤ 2) = true := by decide
  have c1 : decide ((0 : Int) ≤ 1) = true := by decide
  have c0 : decide ((0 : Int) ≤ 0) = true := by decide
  have cm : decide ((0 : Int) ≤ -1) = false := by decide
  simp only [lms, lcs, aps, ips, f109_is (H := H3) rfl, T.f109, Option.bind_some, pB, boxA, AV.one, if_true, AV.cells, Option.map_some]
  simp only [aps, ips, g109_0_is (H := H3), T.g109_0, Option.bind_some, p2, bin_geq, condA, c3]
  simp only [lms, lcs, ge, aps, ips, g109_1_is (H := H3), T.g109_1, D2_call, Option.bind_some, p2, q1, p1, extractA, ld30, ix167, if_true, if_false, over, AV.cells, Nat.reduceAdd, Nat.reduceLeDiff, Option.map_some, ix4_3, div64_at (H := H3) rfl (show (0 : Int) ≤ 0 by omega) hd hd2 g3, ← hq3, ← hr3]
  simp only [aps, ips, g109_2_is (H := H3), T.g109_2, Option.bind_some, p2, bin_sub, w1]
  simp only [aps, ips, g109_0_is (H := H3), T.g109_0, Option.bind_some, p2, bin_geq, condA, c2]
  simp only [lms, lcs, ge, aps, ips, g109_1_is (H := H3), T.g109_1, D2_call, Option.bind_some, p2, q1, p1, extractA, ld30, ix167, if_true, if_false, over, AV.cells, Nat.reduceAdd, Nat.reduceLeDiff, Option.map_some, ix4_2, div64_at (H := H3) rfl s3.2.2.1 s3.2.2.2.1 hd2 g2, ← hq2, ← hr2]
  simp only [aps, ips, g109_2_is (H := H3), T.g109_2, Option.bind_some, p2, bin_sub, w2]
  simp only [aps, ips, g109_0_is (H := H3), T.g109_0, Option.bind_some, p2, bin_geq, condA, c1]
  simp only [lms, lcs, ge, aps, ips, g109_1_is (H := H3), T.g109_1, D2_call, Option.bind_some, p2, q1, p1, extractA, ld30, ix167, if_true, if_false, over, AV.cells, Nat.reduceAdd, Nat.reduceLeDiff, Option.map_some, ix4_1, div64_at (H := H3) rfl s2.2.2.1 s2.2.2.2.1 hd2 g1, ← hq1, ← hr1]
  simp only [aps, ips, g109_2_is (H := H3), T.g109_2, Option.bind_some, p2, bin_sub, w3]
  simp only [aps, ips, g109_0_is (H := H3), T.g109_0, Option.bind_some, p2, bin_geq, condA, c0]
  simp only [lms, lcs, ge, aps, ips, g109_1_is (H := H3), T.g109_1, D2_call, Option.bind_some, p2, q1, p1, extractA, ld30, ix167, if_true, if_false, over, AV.cells, Nat.reduceAdd, Nat.reduceLeDiff, Option.map_some, ix4_0, div64_at (H := H3) rfl s1.2.2.1 s1.2.2.2.1 hd2 g0, ← hq0, ← hr0]
  simp only [aps, ips, g109_2_is (H := H3), T.g109_2, Option.bind_some, p2, bin_sub, w4]
  simp only [aps, ips, g109_0_is (H := H3), T.g109_0, Option.bind_some, p2, bin_geq, condA, cm]
  simp only [lms, lcs, aps, ips, g109_3_is (H := H3), T.g109_3, Option.bind_some, q1, resA, nth0, nth1, tupA, ld167, AV.one, if_true, if_false, over, AV.cells, Nat.reduceAdd, Nat.reduceLeDiff, Option.map_some]
  refine Res.eq ?_ rfl
  (repeat apply Fr.lays)
  exact Fr.refl _
end Go.Proofs.YtlginbmjiecglaaGreat
end
section
namespace Go.Proofs.YtlginbmjiecglaaGreat
set_option maxRecDepth 4000
open Go Go.Abs

def sgI (neg : Bool) (n : Int) : Int := if neg then -n else n
theorem wdiv_is {a : Wd} (ha : a.ok) {p : Int} (hp : 0 < p) (hp2 : p < 18446744073709551616) (m : Mem) :
    Res m (run E3 (.fn 118) [.agg a.cells, .agg (Wd.mk 0 p).cells] m) (.tup [.agg (Wd.of (sgI (decide (a.hi < 0)) (absI a.val / p))).cells, .agg (Wd.of (sgI (decide (a.hi < 0)) (absI a.val % p))).cells, .int .i64 0]) := by
  have hA := absI_le ha
  have nA := absI_nn a.val
  have sA := fun m => size_at (H := H3) rfl ha m
  have sP := fun m => size_at (H := H3) rfl (a := ⟨0, p⟩) ⟨by simp, by simp, by simp only; omega, by simp only; omega⟩ m
  have hpv : absI (Wd.mk 0 p).val = p := by unfold absI Wd.val; simp only; split <;> omega
  rw [hpv] at sP
  have e1 : p / 18446744073709551616 = 0 := by omega
  have e2 : p % 18446744073709551616 = p := by omega
  rw [e1, e2] at sP
  obtain ⟨ah, al⟩ := a
  obtain ⟨a1, a2, a3, a4⟩ := ha
  simp only [Wd.cells] at sA sP ⊢
  have hneg : ah < 0 → absI (Wd.mk ah al).val ≤ 170141183460469231731687303715884105728 := fun _ => hA
  have hpos : ¬ ah < 0 → absI (Wd.mk ah al).val < 170141183460469231731687303715884105728 := by
    intro h; unfold absI Wd.val; simp only; simp only at a2 a3 a4; split <;> omega
  obtain ⟨A, hA'⟩ : ∃ A, A = absI (Wd.mk ah al).val := ⟨_, rfl⟩
  rw [← hA'] at sA hA nA hneg hpos ⊢
  clear hA'
  obtain ⟨bh, hbh⟩ : ∃ bh, bh = A / 18446744073709551616 := ⟨_, rfl⟩
  obtain ⟨bl, hbl⟩ : ∃ bl, bl = A % 18446744073709551616 := ⟨_, rfl⟩
  simp only [← hbh, ← hbl] at sA
  have rbh : 0 ≤ bh ∧ bh < 18446744073709551616 := by omega
  have rbl : 0 ≤ bl ∧ bl < 18446744073709551616 := by omega
  have h1 : 0 ≤ bh % p ∧ bh % p < p := ⟨Int.emod_nonneg _ (by omega), Int.emod_lt_of_pos _ hp⟩
  have h2 : 0 ≤ bh / p ∧ bh / p ≤ bh := ⟨Int.ediv_nonneg (by omega) (by omega), Int.ediv_le_self _ (by omega)⟩
  have h3 : bh = bh / p * p + bh % p := (Int.ediv_mul_add_emod _ _).symm
  have t1 : bh.tdiv p = bh / p := Int.tdiv_eq_ediv_of_nonneg rbh.1
  have t2 : bh.tmod p = bh % p := Int.tmod_eq_emod_of_nonneg rbh.1
  have eA : bh * 18446744073709551616 + bl = A := by omega
  generalize bh / p = qh at *
  generalize bh % p = rh at *
  obtain ⟨ql, hql⟩ : ∃ ql, ql = (rh * 18446744073709551616 + bl) / p := ⟨_, rfl⟩
  obtain ⟨rl, hrl⟩ : ∃ rl, rl = (rh * 18446744073709551616 + bl) % p := ⟨_, rfl⟩
  have h4 : 0 ≤ ql ∧ ql < 18446744073709551616 := by
    rw [hql]
    exact ⟨Int.ediv_nonneg (by omega) (by omega), Int.ediv_lt_of_lt_mul hp (by
      have : rh * 18446744073709551616 + 18446744073709551616 ≤ p * 18446744073709551616 := by omega
      rw [Int.mul_comm 18446744073709551616 p]; omega)⟩
  have h5 : 0 ≤ rl ∧ rl < p := by rw [hrl]; exact ⟨Int.emod_nonneg _ (by omega), Int.emod_lt_of_pos _ hp⟩
  have h6 : rh * 18446744073709551616 + bl = ql * p + rl := by rw [hql, hrl]; exact (Int.ediv_mul_add_emod _ _).symm
  have e3 : A = rl + (qh * 18446744073709551616 + ql) * p := by
    have m1 : qh * 18446744073709551616 * p = qh * p * 18446744073709551616 := Int.mul_right_comm _ _ _
    rw [Int.add_mul, m1]; omega
  have e4 : A / p = qh * 18446744073709551616 + ql := by
    rw [e3, Int.add_mul_ediv_right _ _ (by omega), Int.ediv_eq_zero_of_lt h5.1 h5.2]; omega
  have e5 : A % p = rl := by
    rw [e3, Int.add_mul_emod_self_right, Int.emod_eq_of_lt h5.1 h5.2]
  have e6 : A / p ≤ A := Int.ediv_le_self _ nA
  rw [e4, e5] at *
  have fit1 : Wd.res (if decide (ah < 0) = true then -(qh * 18446744073709551616 + ql) else qh * 18446744073709551616 + ql) = (Wd.of (sgI (decide (ah < 0)) (qh * 18446744073709551616 + ql)), 0) := by
    unfold Wd.res sgI
    rw [if_pos]
    by_cases h : ah < 0
    · simp only [h, decide_true, if_true]; have := hneg h; exact fits_true (by omega) (by omega)
    · simp only [h, decide_false, Bool.false_eq_true, if_false]; have := hpos h; exact fits_true (by omega) (by omega)
  have fit2 : Wd.res (if decide (ah < 0) = true then -(0 * 18446744073709551616 + rl) else 0 * 18446744073709551616 + rl) = (Wd.of (sgI (decide (ah < 0)) rl), 0) := by
    unfold Wd.res sgI
    rw [Int.zero_mul, Int.zero_add, if_pos]
    by_cases h : ah < 0
    · simp only [h, decide_true, if_true]; exact fits_true (by omega) (by omega)
    · simp only [h, decide_false, Bool.false_eq_true, if_false]; exact fits_true (by omega) (by omega)
  have sg1 := fun m => signed_at (H := H3) rfl (decide (ah < 0)) (hi := qh) (lo := ql) ⟨by omega, by omega⟩ h4 m
  have sg2 := fun m => signed_at (H := H3) rfl (decide (ah < 0)) (hi := 0) (lo := rl) ⟨by omega, by omega⟩ ⟨by omega, by omega⟩ m
  simp only [fit1] at sg1
  simp only [fit2] at sg2
  have z0 : (!(decide (ah < 0) == decide ((0 : Int) < 0))) = decide (ah < 0) := by cases decide (ah < 0) <;> rfl
  simp only [lms, lcs, aps, ips, f118_is (H := H3) rfl, T.f118, Option.bind_some, pB, q1, p1, p2, fillA, AV.cells, Option.map_some, Nat.reduceAdd, Nat.reduceLeDiff, if_true, boxA, condA, resA, nth0, nth1, nth2, tupA, ld35, bd35, AV.one, if_false, over, wide_eql, decide_true, Bool.true_and, decide_eq_false (show ¬ p = 0 by omega)]
  simp only [lms, lcs, ge, aps, ips, g118_0_is (H := H3), T.g118_0, D2_call, Option.bind_some, q1, p1, p2, bin_eql, extractA, condA, ld35, if_true, if_false, Nat.reduceAdd, Nat.reduceLeDiff, sA, sP, decide_true, bin_quo _ _ _ _ (show p ≠ 0 by omega), bin_rem _ _ _ _ (show p ≠ 0 by omega), t1, t2, wrap_u64 (x := qh) (by omega) (by omega), div64_at (H := H3) rfl h1.1 h1.2 hp2 rbl, ← hql, ← hrl]
  simp only [lms, lcs, ge, aps, ips, g118_4_is (H := H3), T.g118_4, D2_call, Option.bind_some, p1, q1, p2, bin_lss, bin_neq, fillA, AV.cells, Option.map_some, Nat.reduceAdd, Nat.reduceLeDiff, if_true, extractA, condA, resA, nth0, nth1, nth2, tupA, fa35_0, ld2, ld35, bd35, bn4, Wd.cells, AV.one, if_false, over, z0, sg1, decide_true, Bool.not_true]
  simp only [lms, lcs, ge, aps, ips, g118_5_is (H := H3), T.g118_5, D2_call, Option.bind_some, p1, q1, p2, bin_lss, extractA, resA, nth0, nth1, nth2, tupA, fa35_0, ld2, ld35, Nat.reduceAdd, Wd.cells, AV.one, if_true, if_false, over, AV.cells, Nat.reduceLeDiff, Option.map_some, sg2]
  refine Res.eq ?_ rfl
  (repeat apply Fr.lays)
  exact Fr.refl _
end Go.Proofs.YtlginbmjiecglaaGreat
end
section
namespace Go.Proofs.YtlginbmjiecglaaGreat
set_option maxRecDepth 4000
open Go Go.Abs
def S4 : List FuncId := [110, 109, 112, 118]
noncomputable def H4 : FuncId → Option (List AV → Mem → R) := hooksC E3 S4
noncomputable abbrev E4 : Env := T.EH H4
theorem E4_ok : EnvOk E4 := hooksC_ok E3_ok S4
noncomputable abbrev D4 : Do := T.Rl H4
section
variable {H : FuncId → Option (List AV → Mem → R)}
theorem prod_at (h : H 110 = some (cleanH E3 110)) {a b : Wd} (ha : a.ok) (hb : b.ok) (m : Mem) : run (T.EH H) (.fn 110) [.agg a.cells, .agg b.cells] m = some (.agg (digs4 (absI a.val * absI b.val)), m) :=
  hook_at h (by simp [AV.flat, AV.lt, AV.lts, digs4]) fun m2 _ _ => product_is ha hb m2
theorem over_at (h : H 109 = some (cleanH E3 109)) {n d : Int} (h0 : 0 ≤ n) (h1 : n < 115792089237316195423570985008687907853269984665640564039457584007913129639936) (hd : 0 < d) (hd2 : d < 18446744073709551616) (m : Mem) : run (T.EH H) (.fn 109) [.agg (digs4 n), .int .u64 d] m = some (.tup [.agg (digs4 (n / d)), .int .u64 (n % d)], m) :=
  hook_at h (by simp [AV.flat, AV.lt, AV.lts, digs4]) fun m2 _ _ => over_is h0 h1 hd hd2 m2
theorem narrow_at (h : H 112 = some (cleanH E3 112)) (below : Bool) {n : Int} (h0 : 0 ≤ n) (h1 : n < 115792089237316195423570985008687907853269984665640564039457584007913129639936) (m : Mem) :
    run (T.EH H) (.fn 112) [.bool below, .agg (digs4 n)] m = some (.tup [.agg (Wd.res (if below then -n else n)).1.cells, .int .i64 (Wd.res (if below then -n else n)).2], m) :=
  hook_at h (by simp [AV.flat, AV.lt, AV.lts, Wd.cells]) fun m2 _ _ => narrow_is below h0 h1 m2
theorem wdiv_at (h : H 118 = some (cleanH E3 118)) {a : Wd} (ha : a.ok) {p : Int} (hp : 0 < p) (hp2 : p < 18446744073709551616) (m : Mem) :
    run (T.EH H) (.fn 118) [.agg a.cells, .agg (Wd.mk 0 p).cells] m = some (.tup [.agg (Wd.of (sgI (decide (a.hi < 0)) (absI a.val / p))).cells, .agg (Wd.of (sgI (decide (a.hi < 0)) (absI a.val % p))).cells, .int .i64 0], m) :=
  hook_at h (by simp [AV.flat, AV.lt, AV.lts, Wd.cells]) fun m2 _ _ => wdiv_is ha hp hp2 m2
end
end Go.Proofs.YtlginbmjiecglaaGreat
end
section
namespace Go.Proofs.YtlginbmjiecglaaGreat
set_option maxRecDepth 4000
open Go Go.Abs

theorem neg_val {ah al : Int} (h : (Wd.mk ah al).ok) : decide (ah < 0) = decide ((Wd.mk ah al).val < 0) := by
  obtain ⟨h1, h2, h3, h4⟩ := h
  simp only at h1 h2 h3 h4
  unfold Wd.val
  by_cases h : ah < 0
  · rw [decide_eq_true h, decide_eq_true (by simp only; omega)]
  · rw [decide_eq_false h, decide_eq_false (by simp only; omega)]
theorem sgmul (x y : Int) : (if (!(decide (x < 0) == decide (y < 0))) = true then -(absI x * absI y) else absI x * absI y) = x * y := by
  unfold absI
  by_cases h1 : x < 0 <;> by_cases h2 : y < 0 <;> simp [h1, h2, Int.neg_mul, Int.mul_neg]
theorem wmul_is {a b : Wd} (ha : a.ok) (hb : b.ok) (m : Mem) : Res m (run E4 (.fn 98) [.agg a.cells, .agg b.cells] m) (.tup [.agg (Wd.res (a.val * b.val)).1.cells, .int .i64 (Wd.res (a.val * b.val)).2]) := by
  obtain ⟨hle1, hle2⟩ := prod_lt ha hb
  have pr := fun m => prod_at (H := H4) rfl ha hb m
  have nr := fun m => narrow_at (H := H4) rfl (!(decide (a.val < 0) == decide (b.val < 0))) hle1 (by omega) m
  rw [sgmul] at nr
  obtain ⟨ah, al⟩ := a
  obtain ⟨bh, bl⟩ := b
  rw [← neg_val ha, ← neg_val hb] at nr
  simp only [Wd.cells] at pr nr ⊢
  simp only [lms, lcs, ge, aps, ips, f98_is (H := H4) rfl, T.f98, D2_call, Option.bind_some, pB, p1, q1, p2, bin_lss, boxA, extractA, resA, nth0, nth1, tupA, fa35_0, ld2, ld35, bn4, Nat.reduceAdd, AV.one, if_true, if_false, over, AV.cells, Nat.reduceLeDiff, Option.map_some, pr, nr]
  refine Res.eq ?_ rfl
  (repeat apply Fr.lays)
  exact Fr.refl _

theorem inc_loop (t3 t4 t6 : AV) (up : Bool) {n : Int} (h0 : 0 ≤ n) (h1 : n + 1 < 115792089237316195423570985008687907853269984665640564039457584007913129639936) (m : Mem) :
    D4.gor 397313 [t3, t4, t6, .ptr (some ⟨m.next, 0⟩), .bool up] (m.lay (.cells (digs4 n) false)) = D4.gor 397317 [t3, t4, t6, .ptr (some ⟨m.next, 0⟩)] (m.lay (.cells (digs4 (n + if up = true then 1 else 0)) false)) := by
  obtain ⟨z0, z1, z2, z3, e, g0, g1, g2, g3, en⟩ := digs4_ex h0 (show n < 115792089237316195423570985008687907853269984665640564039457584007913129639936 by omega)
  have c0 : decide ((0 : Int) < 4) = true := by decide
  have c1 : decide ((1 : Int) < 4) = true := by decide
  have c2 : decide ((2 : Int) < 4) = true := by decide
  have c3 : decide ((3 : Int) < 4) = true := by decide
  have w1 : IntKind.wrap .i64 (0 + 1) = 1 := wrap_i64 (by omega) (by omega)
  have w2 : IntKind.wrap .i64 (1 + 1) = 2 := wrap_i64 (by omega) (by omega)
  have w3 : IntKind.wrap .i64 (2 + 1) = 3 := wrap_i64 (by omega) (by omega)
  have w4 : IntKind.wrap .i64 (3 + 1) = 4 := wrap_i64 (by omega) (by omega)
  cases up with
  | false =>
    simp only [Bool.false_eq_true, if_false, Int.add_zero]
    simp only [aps, ips, g97_1_is (H := H4), T.g97_1]
    simp only [aps, ips, g97_2_is (H := H4), T.g97_2, Option.bind_some, p2, bin_lss, condA, ifV, c0]
  | true =>
    simp only [if_true]
    rw [e]
    simp only [aps, ips, g97_1_is (H := H4), T.g97_1]
    simp only [aps, ips, g97_2_is (H := H4), T.g97_2, Option.bind_some, p2, bin_lss, condA, ifV, c0]
    simp only [lms, lcs, ge, aps, ips, g97_3_is (H := H4), T.g97_3, Option.bind_some, p2, q1, bin_add, bin_eql, ld30, ix167, if_true, over, AV.cells, Nat.reduceAdd, Nat.reduceLeDiff, Option.map_some, ix4_0, wrap_u64_mod]
    by_cases f0 : z0 + 1 = 18446744073709551616
    · have e0 : (z0 + 1) % 18446744073709551616 = 0 := by omega
      simp only [aps, ips, e0, decide_true, g97_4_is (H := H4), T.g97_4, Option.bind_some, p2, bin_add, w1]
      simp only [aps, ips, g97_2_is (H := H4), T.g97_2, Option.bind_some, p2, bin_lss, condA, ifV, c1]
      simp only [lms, lcs, ge, aps, ips, g97_3_is (H := H4), T.g97_3, Option.bind_some, p2, q1, bin_add, bin_eql, ld30, ix167, if_true, over, AV.cells, Nat.reduceAdd, Nat.reduceLeDiff, Option.map_some, ix4_1, wrap_u64_mod]
      by_cases f1 : z1 + 1 = 18446744073709551616
      · have e1 : (z1 + 1) % 18446744073709551616 = 0 := by omega
        simp only [aps, ips, e1, decide_true, g97_4_is (H := H4), T.g97_4, Option.bind_some, p2, bin_add, w2]
        simp only [aps, ips, g97_2_is (H := H4), T.g97_2, Option.bind_some, p2, bin_lss, condA, ifV, c2]
        simp only [lms, lcs, ge, aps, ips, g97_3_is (H := H4), T.g97_3, Option.bind_some, p2, q1, bin_add, bin_eql, ld30, ix167, if_true, over, AV.cells, Nat.reduceAdd, Nat.reduceLeDiff, Option.map_some, ix4_2, wrap_u64_mod]
        by_cases f2 : z2 + 1 = 18446744073709551616
        · have e2 : (z2 + 1) % 18446744073709551616 = 0 := by omega
          simp only [aps, ips, e2, decide_true, g97_4_is (H := H4), T.g97_4, Option.bind_some, p2, bin_add, w3]
          simp only [aps, ips, g97_2_is (H := H4), T.g97_2, Option.bind_some, p2, bin_lss, condA, ifV, c3]
          simp only [lms, lcs, ge, aps, ips, g97_3_is (H := H4), T.g97_3, Option.bind_some, p2, q1, bin_add, bin_eql, ld30, ix167, if_true, over, AV.cells, Nat.reduceAdd, Nat.reduceLeDiff, Option.map_some, ix4_3, wrap_u64_mod]
          have e3 : (z3 + 1) % 18446744073709551616 = z3 + 1 := by omega
          simp only [aps, ips, e3, decide_eq_false (show ¬ z3 + 1 = 0 by omega), g97_4_is (H := H4), T.g97_4, Option.bind_some, p2, bin_add, w4]
          simp only [aps, ips, g97_2_is (H := H4), T.g97_2, Option.bind_some, p2, bin_lss, condA, ifV, decide_eq_false (show ¬ (4 : Int) < 4 by omega)]
          rw [digs4_of (p0 := 0) (p1 := 0) (p2 := 0) (p3 := z3 + 1) (by omega) (by omega) (by omega) (by omega) (by omega)]
        · have e2 : (z2 + 1) % 18446744073709551616 = z2 + 1 := by omega
          simp only [aps, ips, e2, decide_eq_false (show ¬ z2 + 1 = 0 by omega), g97_4_is (H := H4), T.g97_4, Option.bind_some, p2, bin_add, w3]
          simp only [aps, ips, g97_2_is (H := H4), T.g97_2, Option.bind_some, p2, bin_lss, condA, ifV, c3]
          rw [digs4_of (p0 := 0) (p1 := 0) (p2 := z2 + 1) (p3 := z3) (by omega) (by omega) (by omega) (by omega) (by omega)]
      · have e1 : (z1 + 1) % 18446744073709551616 = z1 + 1 := by omega
        simp only [aps, ips, e1, decide_eq_false (show ¬ z1 + 1 = 0 by omega), g97_4_is (H := H4), T.g97_4, Option.bind_some, p2, bin_add, w2]
        simp only [aps, ips, g97_2_is (H := H4), T.g97_2, Option.bind_some, p2, bin_lss, condA, ifV, c2]
        rw [digs4_of (p0 := 0) (p1 := z1 + 1) (p2 := z2) (p3 := z3) (by omega) (by omega) (by omega) (by omega) (by omega)]
    · have e0 : (z0 + 1) % 18446744073709551616 = z0 + 1 := by omega
      simp only [aps, ips, e0, decide_eq_false (show ¬ z0 + 1 = 0 by omega), g97_4_is (H := H4), T.g97_4, Option.bind_some, p2, bin_add, w1]
      simp only [aps, ips, g97_2_is (H := H4), T.g97_2, Option.bind_some, p2, bin_lss, condA, ifV, c1]
      rw [digs4_of (p0 := z0 + 1) (p1 := z1) (p2 := z2) (p3 := z3) (by omega) (by omega) (by omega) (by omega) (by omega)]

theorem d4_one (n : Int) : (digs4 n).all AV.one = true := rfl
theorem d4_len (n : Int) : (digs4 n).length = 4 := rfl
theorem d4_drop (n : Int) : (digs4 n).drop 4 = [] := rfl
theorem d4_take (n : Int) : (digs4 n).take 4 = digs4 n := rfl
def scF (x y : Int) (k : Nat) : Int := if (!(decide (x < 0) == decide (y < 0))) = true then -(rhe (absI x * absI y) k) else rhe (absI x * absI y) k

theorem scaled_is {a b : Wd} (ha : a.ok) (hb : b.ok) {k : Nat} (hk : k ≤ 36) (m : Mem) :
    Res m (run E4 (.fn 97) [.agg a.cells, .agg b.cells, .int .i64 (k : Int)] m) (.tup [.agg (Wd.res (scF a.val b.val k)).1.cells, .int .i64 (Wd.res (scF a.val b.val k)).2]) := by
  obtain ⟨hle1, hle2⟩ := prod_lt ha hb
  have pr := fun m => prod_at (H := H4) rfl ha hb m
  have hr0 := rhe_nn hle1 k
  have hr1 := rhe_le hle1 k
  have nr := fun m => narrow_at (H := H4) rfl (!(decide (a.val < 0) == decide (b.val < 0))) hr0 (by omega) m
  have hsc : (if (!(decide (a.val < 0) == decide (b.val < 0))) = true then -(rhe (absI a.val * absI b.val) k) else rhe (absI a.val * absI b.val) k) = scF a.val b.val k := rfl
  rw [hsc] at nr
  clear hsc
  obtain ⟨lw, hlw⟩ : ∃ lw, lw = min k 18 := ⟨_, rfl⟩
  have p1' := tenP_pos lw
  have p2' := tenP_pos (k - lw)
  have b1' := tenP_le (k := lw) (by omega)
  have b2' := tenP_le (k := k - lw) (by omega)
  obtain ⟨P, hP⟩ : ∃ P, P = absI a.val * absI b.val := ⟨_, rfl⟩
  rw [← hP] at pr nr hle1 hle2 hr0 hr1
  have q0 : 0 ≤ P / tenP lw ∧ P / tenP lw ≤ P := ⟨Int.ediv_nonneg hle1 (by omega), Int.ediv_le_self _ hle1⟩
  have o1 := fun m => over_at (H := H4) rfl hle1 (by omega) p1' (by omega) m
  have o2 := fun m => over_at (H := H4) rfl q0.1 (by omega) p2' (by omega) m
  have r1 : 0 ≤ P % tenP lw ∧ P % tenP lw < tenP lw := ⟨Int.emod_nonneg _ (by omega), Int.emod_lt_of_pos _ p1'⟩
  have r2 : 0 ≤ P / tenP lw % tenP (k - lw) ∧ P / tenP lw % tenP (k - lw) < tenP (k - lw) := ⟨Int.emod_nonneg _ (by omega), Int.emod_lt_of_pos _ p2'⟩
  have q1 : 0 ≤ P / tenP lw / tenP (k - lw) ∧ P / tenP lw / tenP (k - lw) ≤ P / tenP lw := ⟨Int.ediv_nonneg q0.1 (by omega), Int.ediv_le_self _ q0.1⟩
  have t1 := fun m => ten_at (H := H4) rfl (k := lw) (by omega) m
  have t2 := fun m => ten_at (H := H4) rfl (k := k - lw) (by omega) m
  have hmin : (if (18 : Int) < (k : Int) then (18 : Int) else (k : Int)) = (lw : Int) := by rw [hlw]; split <;> omega
  have hsub : IntKind.wrap .i64 ((k : Int) - (lw : Int)) = ((k - lw : Nat) : Int) := by rw [wrap_i64 (by omega) (by omega)]; omega
  obtain ⟨ah, al⟩ := a
  obtain ⟨bh, bl⟩ := b
  rw [← neg_val ha, ← neg_val hb] at nr
  simp only [Wd.cells] at pr nr ⊢
  obtain ⟨Q, hQ⟩ : ∃ Q, Q = P / tenP lw / tenP (k - lw) := ⟨_, rfl⟩
  rw [← hQ] at q1
  simp only [← hQ] at o2
  obtain ⟨z0, z1, z2, z3, e, g0, g1, g2, g3, en⟩ := digs4_ex q1.1 (by omega)
  have hodd : (z0 % 2 = 1) = (Q % 2 = 1) := by rw [en]; apply propext; constructor <;> intro h <;> omega
  have fin : ∀ up : Bool, rhe P k = Q + (if up = true then 1 else 0) →
      Res m (D4.gor 397313 [.ptr (some ⟨m.next, 0⟩), .ptr (some ⟨m.next + 1, 0⟩), .ptr (some ⟨m.next + 1 + 1, 0⟩), .ptr (some ⟨m.next + 1 + 1 + 1, 0⟩), .bool up]
        ((((m.lay (.cells [.int .i64 ah, .int .u64 al] false)).lay (.cells [.int .i64 bh, .int .u64 bl] false)).lay (.cells [.int .i64 0, .int .u64 0] false)).lay (.cells (digs4 Q) false)))
        (.tup [.agg (Wd.res (scF (Wd.mk ah al).val (Wd.mk bh bl).val k)).1.cells, .int .i64 (Wd.res (scF (Wd.mk ah al).val (Wd.mk bh bl).val k)).2]) := by
    intro up hup
    have il := inc_loop (.ptr (some ⟨m.next, 0⟩)) (.ptr (some ⟨m.next + 1, 0⟩)) (.ptr (some ⟨m.next + 1 + 1, 0⟩)) up q1.1 (show Q + 1 < _ by omega) (((m.lay (.cells [.int .i64 ah, .int .u64 al] false)).lay (.cells [.int .i64 bh, .int .u64 bl] false)).lay (.cells [.int .i64 0, .int .u64 0] false))
    simp only [Mem.next_lay] at il
    rw [il, ← hup]
    have ld : ∀ M : Mem, ldN (M.lay (.cells (digs4 (rhe P k)) false)) (.ptr (some ⟨M.next, 0⟩)) 4 = some (.agg (digs4 (rhe P k))) := fun M => ld_all (lay_self M _) rfl
    have ld' := ld (((m.lay (.cells [.int .i64 ah, .int .u64 al] false)).lay (.cells [.int .i64 bh, .int .u64 bl] false)).lay (.cells [.int .i64 0, .int .u64 0] false))
    simp only [Mem.next_lay] at ld'
    simp only [lms, lcs, ge, aps, ips, g97_5_is (H := H4), T.g97_5, D2_call, Option.bind_some, p1, p2, bin_lss, extractA, resA, nth0, nth1, tupA, fa35_0, ld2, ld167, ld35, bn4, Nat.reduceAdd, ld', Wd.cells, AV.one, if_true, if_false, over, AV.cells, Nat.reduceLeDiff, Option.map_some, nr]
    refine Res.eq ?_ rfl
    (repeat apply Fr.lays)
    exact Fr.refl _
  rw [e] at fin o2
  simp only [lms, lcs, aps, ips, f97_is (H := H4) rfl, T.f97, Option.bind_some, pB, p2, p1, bin_gtr, bin_lss, fillA, AV.cells, Option.map_some, if_true, boxA, condA, ifV, resA, nth0, nth1, tupA, ld35, bd35, AV.one, decide_eq_false (show ¬ (k : Int) < 0 by omega), decide_eq_false (show ¬ (36 : Int) < (k : Int) by omega)]
  have hq1 : IntKind.wrap .u64 ((tenP lw).tdiv 2) = tenP lw / 2 := by rw [Int.tdiv_eq_ediv_of_nonneg (by omega), wrap_u64 (by omega) (by omega)]
  have hq2 : IntKind.wrap .u64 ((tenP (k - lw)).tdiv 2) = tenP (k - lw) / 2 := by rw [Int.tdiv_eq_ediv_of_nonneg (by omega), wrap_u64 (by omega) (by omega)]
  have ha1 := bin_and1 (P := Tryz.prog) 30 g0.1 g0.2
  have z2 : (2 : Int) ≠ 0 := by omega
  simp only [lms, lcs, ge, aps, ips, g97_0_is (H := H4), T.g97_0, D2_call, Option.bind_some, p2, p1, pB, bin_eql, bin_gtr, bin_sub, extractA, condA, ifV, ld35, ld167, ld30, ix167, AV.one, if_true, if_false, over, AV.cells, Nat.reduceAdd, Nat.reduceLeDiff, Option.map_some, minA, hmin, pr, t1, o1, hsub, t2, d4_one, d4_len, d4_take, d4_drop, o2, bin_quo _ _ _ _ z2, hq1, hq2, ix4_0, ha1]
  by_cases k0 : k = 0
  · subst k0
    have hl0 : lw = 0 := by omega
    subst hl0
    simp only [decide_eq_true (show ((0 : Nat) : Int) = 0 by rfl)]
    refine fin false ?_
    have e1 : tenP 0 = 1 := rfl
    rw [rhe_zero, hQ, Nat.sub_self, e1, Int.ediv_one, Int.ediv_one]
    simp
  · simp only [decide_eq_false (show ¬ (k : Int) = 0 by omega)]
    by_cases k1 : k ≤ 18
    · have hl : lw = k := by omega
      subst hl
      simp only [decide_true]
      have e1 : tenP (lw - lw) = 1 := by rw [Nat.sub_self]; rfl
      have eQ : Q = P / tenP lw := by rw [hQ, e1, Int.ediv_one]
      have hr := rhe_one (n := P) (k := lw) (by omega)
      rw [← eQ] at hr
      by_cases c1 : tenP lw / 2 < P % tenP lw
      · simp only [decide_eq_true c1]
        exact fin true (by rw [hr, if_pos (.inl c1)]; simp)
      · simp only [decide_eq_false c1]
        by_cases c2 : P % tenP lw = tenP lw / 2
        · simp only [decide_eq_true c2]
          refine fin _ ?_
          rw [hr]
          by_cases c3 : z0 % 2 = 1
          · rw [if_pos (.inr ⟨c2, Eq.mp hodd c3⟩)]; simp [c3]
          · have c5 : ¬ Q % 2 = 1 := fun h => c3 (Eq.mpr hodd h)
            rw [if_neg (by omega)]; simp [c3]
        · simp only [decide_eq_false c2]
          exact fin false (by rw [hr, if_neg (by omega)]; simp)
    · have hl : lw = 18 := by omega
      simp only [decide_eq_false (show ¬ (k : Int) = (lw : Int) by omega)]
      have hr := rhe_two (n := P) lw (k - lw) (by omega) (by omega)
      rw [show lw + (k - lw) = k by omega, ← hQ] at hr
      by_cases c1 : tenP (k - lw) / 2 < P / tenP lw % tenP (k - lw)
      · simp only [decide_eq_true c1]
        exact fin true (by rw [hr, if_pos (.inl c1)]; simp)
      · simp only [decide_eq_false c1]
        by_cases c2 : P / tenP lw % tenP (k - lw) = tenP (k - lw) / 2
        · simp only [decide_eq_true c2]
          by_cases c4 : 0 < P % tenP lw
          · simp only [decide_eq_true c4]
            exact fin true (by rw [hr, if_pos (.inr ⟨c2, .inl c4⟩)]; simp)
          · simp only [decide_eq_false c4]
            refine fin _ ?_
            rw [hr]
            by_cases c3 : z0 % 2 = 1
            · rw [if_pos (.inr ⟨c2, .inr (Eq.mp hodd c3)⟩)]; simp [c3]
            · have c5 : ¬ Q % 2 = 1 := fun h => c3 (Eq.mpr hodd h)
              rw [if_neg (by omega)]; simp [c3]
        · simp only [decide_eq_false c2]
          exact fin false (by rw [hr, if_neg (by omega)]; simp)
end Go.Proofs.YtlginbmjiecglaaGreat
end
section
namespace Go.Proofs.YtlginbmjiecglaaGreat
set_option maxRecDepth 4000
open Go Go.Abs
def S5 : List FuncId := [98, 97]
noncomputable def H5 : FuncId → Option (List AV → Mem → R) := hooksC E4 S5
noncomputable abbrev E5 : Env := T.EH H5
theorem E5_ok : EnvOk E5 := hooksC_ok E4_ok S5
noncomputable abbrev D5 : Do := T.Rl H5
section
variable {H : FuncId → Option (List AV → Mem → R)}
theorem wmul_at (h : H 98 = some (cleanH E4 98)) {a b : Wd} (ha : a.ok) (hb : b.ok) (m : Mem) : run (T.EH H) (.fn 98) [.agg a.cells, .agg b.cells] m = some (.tup [.agg (Wd.res (a.val * b.val)).1.cells, .int .i64 (Wd.res (a.val * b.val)).2], m) :=
  hook_at h (by simp [AV.flat, AV.lt, AV.lts, Wd.cells]) fun m2 _ _ => wmul_is ha hb m2
theorem scaled_at (h : H 97 = some (cleanH E4 97)) {a b : Wd} (ha : a.ok) (hb : b.ok) {k : Nat} (hk : k ≤ 36) (m : Mem) :
    run (T.EH H) (.fn 97) [.agg a.cells, .agg b.cells, .int .i64 (k : Int)] m = some (.tup [.agg (Wd.res (scF a.val b.val k)).1.cells, .int .i64 (Wd.res (scF a.val b.val k)).2], m) :=
  hook_at h (by simp [AV.flat, AV.lt, AV.lts, Wd.cells]) fun m2 _ _ => scaled_is ha hb hk m2
end
theorem tenP_le38 {k : Nat} (h : k ≤ 38) : tenP k ≤ 100000000000000000000000000000000000000 := by
  have h1 := tenP_add k (38 - k)
  rw [show k + (38 - k) = 38 by omega, show tenP 38 = 100000000000000000000000000000000000000 from rfl] at h1
  have h2 := tenP_pos (38 - k)
  have h3 := tenP_pos k
  have h4 : tenP k * 1 ≤ tenP k * tenP (38 - k) := Int.mul_le_mul_of_nonneg_left (by omega) (by omega)
  omega
theorem tenP_fits {k : Nat} (h : k ≤ 38) : fitsW (tenP k) = true := by
  have h1 := tenP_le38 h
  have h2 := tenP_pos k
  exact fits_true (by omega) (by omega)
theorem res_fits {n : Int} (h : fitsW n = true) : Wd.res n = (.of n, 0) := if_pos h
theorem res_not {n : Int} (h : fitsW n = false) : Wd.res n = (⟨0, 0⟩, 20) := if_neg (by rw [h]; decide)
theorem wd_ok0 : (Wd.mk 0 0).ok := by unfold Wd.ok; simp
theorem wd_ok10 : (Wd.mk 0 10).ok := by unfold Wd.ok; simp
theorem pow_loop (m : Mem) : ∀ (d j : Nat), j + d ≤ 38 →
    Res m (D5.gor 462849 [.int .i64 (d : Int), .ptr (some ⟨m.next, 0⟩), .ptr (some ⟨m.next + 1, 0⟩)] ((m.lay (.cells [.int .i64 0, .int .u64 0] false)).lay (.cells (Wd.of (tenP j)).cells false)))
      (.tup [.agg (Wd.of (tenP (j + d))).cells, .int .i64 0]) := by
  intro d
  induction d with
  | zero =>
    intro j _
    simp only [aps, ips, g113_1_is (H := H5), T.g113_1, Option.bind_some, p2, bin_gtr, condA, decide_eq_false (show ¬ (0 : Int) < ((0 : Nat) : Int) by omega)]
    simp only [lms, lcs, aps, ips, g113_4_is (H := H5), T.g113_4, Option.bind_some, q1, resA, nth0, nth1, tupA, ld35, Wd.cells, AV.one, if_true, if_false, over, AV.cells, Nat.reduceAdd, Nat.reduceLeDiff, Option.map_some]
    exact Res.eq (((Fr.refl m).lay _).lay _) rfl
  | succ d ih =>
    intro j hj
    have wm := fun m => wmul_at (H := H5) rfl (a := Wd.of (tenP j)) (b := ⟨0, 10⟩) (Wd.of_ok (tenP_fits (by omega))) wd_ok10 m
    rw [Wd.of_val, show (Wd.mk 0 10).val = 10 from rfl, ← tenP_succ, res_fits (tenP_fits (by omega))] at wm
    have hi := ih (j + 1) (by omega)
    rw [show j + 1 + d = j + (d + 1) by omega] at hi
    simp only [Wd.cells] at wm hi ⊢
    simp only [aps, ips, g113_1_is (H := H5), T.g113_1, Option.bind_some, p2, bin_gtr, condA, decide_eq_true (show (0 : Int) < ((d + 1 : Nat) : Int) by omega)]
    simp only [lms, lcs, ge, aps, ips, g113_2_is (H := H5), T.g113_2, D2_call, Option.bind_some, q1, p1, fillA, AV.cells, Option.map_some, Nat.reduceAdd, Nat.reduceLeDiff, if_true, extractA, ld35, bd35, AV.one, over, wm]
    simp only [aps, ips, g113_3_is (H := H5), T.g113_3, Option.bind_some, p2, bin_sub, show ((d + 1 : Nat) : Int) - 1 = (d : Int) by omega, wrap_i64 (n := (d : Int)) (by omega) (by omega)]
    exact hi
theorem pow_is {k : Nat} (hk : k ≤ 38) (m : Mem) : Res m (run E5 (.fn 113) [.int .i64 (k : Int)] m) (.tup [.agg (Wd.of (tenP k)).cells, .int .i64 0]) := by
  have lp := pow_loop m k 0 (by omega)
  rw [Nat.zero_add] at lp
  have e0 : (Wd.of (tenP 0)).cells = [.int .i64 0, .int .u64 1] := rfl
  rw [e0] at lp
  simp only [aps, ips, f113_is (H := H5) rfl, T.f113, Option.bind_some, pB, p2, p1, bin_gtr, bin_lss, fillA, Option.map_some, condA, ifV, resA, nth0, nth1, tupA, ld35, bd35, Wd.cells, decide_eq_false (show ¬ (k : Int) < 0 by omega), decide_eq_false (show ¬ (38 : Int) < (k : Int) by omega)]
  simp only [lms, lcs, ge, aps, ips, g113_0_is (H := H5), T.g113_0, Option.bind_some, p1, pB, fillA, AV.cells, Option.map_some, Nat.reduceAdd, Nat.reduceLeDiff, if_true, bd35, AV.one, over]
  exact lp
def S6 : List FuncId := [113]
noncomputable def H6 : FuncId → Option (List AV → Mem → R) := hooksC E5 S6
noncomputable abbrev E6 : Env := T.EH H6
theorem E6_ok : EnvOk E6 := hooksC_ok E5_ok S6
noncomputable abbrev D6 : Do := T.Rl H6
theorem pow_at {H : FuncId → Option (List AV → Mem → R)} (h : H 113 = some (cleanH E5 113)) {k : Nat} (hk : k ≤ 38) (m : Mem) : run (T.EH H) (.fn 113) [.int .i64 (k : Int)] m = some (.tup [.agg (Wd.of (tenP k)).cells, .int .i64 0], m) :=
  hook_at h (by simp [AV.flat, AV.lt, AV.lts, Wd.cells]) fun m2 _ _ => pow_is hk m2
theorem finer_is {c : Wd} (hc : c.ok) {k : Nat} (hk : k ≤ 38) (m : Mem) : Res m (run E6 (.fn 99) [.agg c.cells, .int .i64 (k : Int)] m) (.tup [.agg (Wd.res (c.val * tenP k)).1.cells, .int .i64 (Wd.res (c.val * tenP k)).2]) := by
  have pw := fun m => pow_at (H := H6) rfl hk m
  have wm := fun m => wmul_at (H := H6) rfl hc (b := Wd.of (tenP k)) (Wd.of_ok (tenP_fits hk)) m
  rw [Wd.of_val] at wm
  simp only [Wd.cells] at pw wm ⊢
  simp only [lms, lcs, ge, aps, ips, f99_is (H := H6) rfl, T.f99, D2_call, Option.bind_some, pB, p1, p2, bin_neq, fillA, AV.cells, Option.map_some, Nat.reduceAdd, Nat.reduceLeDiff, if_true, boxA, extractA, condA, resA, nth0, nth1, tupA, ld35, bd35, AV.one, if_false, over, pw]
  simp only [lms, lcs, ge, aps, ips, g99_0_is (H := H6), T.g99_0, D2_call, Option.bind_some, q1, p1, extractA, resA, nth0, nth1, tupA, ld35, AV.one, if_true, if_false, over, AV.cells, Nat.reduceAdd, Nat.reduceLeDiff, Option.map_some, wm]
  refine Res.eq ?_ rfl
  (repeat apply Fr.lays)
  exact Fr.refl _
theorem of_small {n : Int} (h0 : 0 ≤ n) (h1 : n < 18446744073709551616) : Wd.of n = ⟨0, n⟩ := by unfold Wd.of; congr 1 <;> omega
theorem sgI_fits {b : Bool} {n : Int} (h0 : 0 ≤ n) (h1 : n < 170141183460469231731687303715884105728) : fitsW (sgI b n) = true := by
  unfold sgI; split <;> exact fits_true (by omega) (by omega)
theorem sgI_val {a : Wd} (ha : a.ok) : sgI (decide (a.hi < 0)) (absI a.val) = a.val := by
  rw [show a.hi = (Wd.mk a.hi a.lo).hi from rfl]
  have := neg_val (ah := a.hi) (al := a.lo) ha
  simp only at this ⊢
  rw [this]
  show sgI (decide (a.val < 0)) (absI a.val) = a.val
  unfold sgI absI
  by_cases h : a.val < 0
  · simp only [decide_eq_true h, if_pos h, if_true]; omega
  · simp only [decide_eq_false h, if_neg h, Bool.false_eq_true, if_false]
theorem abs_le {a : Wd} (ha : a.ok) : 0 ≤ absI a.val ∧ absI a.val ≤ 170141183460469231731687303715884105728 := by
  obtain ⟨h1, h2, h3, h4⟩ := ha
  unfold absI Wd.val
  split <;> constructor <;> omega
theorem sgn_quo {a : Wd} (ha : a.ok) {p : Int} (hp : 0 < p) : (sgn (sgI (decide (a.hi < 0)) (absI a.val / p)) ≠ 0 → sgn (sgI (decide (a.hi < 0)) (absI a.val / p)) = sgn a.val) ∧
    (sgn (sgI (decide (a.hi < 0)) (absI a.val / p)) = 0 → sgn (sgI (decide (a.hi < 0)) (absI a.val % p)) = sgn a.val) := by
  have hv := sgI_val ha
  have h0 := (abs_le ha).1
  obtain ⟨A, hA⟩ : ∃ A, A = absI a.val := ⟨_, rfl⟩
  rw [← hA] at hv h0 ⊢
  rw [← hv]
  have q0 : 0 ≤ A / p := Int.ediv_nonneg h0 (by omega)
  have hq : A / p ≤ A := Int.ediv_le_self _ h0
  constructor
  · intro h
    have : A / p ≠ 0 := by intro h2; apply h; rw [h2]; unfold sgn sgI; split <;> simp
    cases decide (a.hi < 0) <;> simp only [sgI, sgn, Bool.false_eq_true, if_false, if_true] <;> (repeat' split) <;> omega
  · intro h
    have h2 : A / p = 0 := by
      apply Classical.byContradiction
      intro h3
      revert h
      cases decide (a.hi < 0) <;> simp only [sgI, sgn, Bool.false_eq_true, if_false, if_true] <;> (repeat' split) <;> omega
    have h3 := Int.emod_add_mul_ediv A p
    rw [h2, Int.mul_zero, Int.add_zero] at h3
    rw [h3]
theorem fcmp0_is {w : Wd} (hw : w.ok) {s : Nat} (hs : s ≤ 18) (m : Mem) : Res m (run E6 (.fn 107) [.agg (decC w (s : Int)), .agg (decC ⟨0, 0⟩ 0)] m) (.int .i64 (sgn w.val)) := by
  have p0 := tenP_pos s
  have p1 := tenP_le hs
  have pw := fun m => pow_at (H := H6) rfl (k := s) (by omega) m
  rw [of_small (by omega) (by omega)] at pw
  have wd := fun m => wdiv_at (H := H6) rfl hw p0 (by omega) m
  obtain ⟨hA0, hA1⟩ := abs_le hw
  have q0 : 0 ≤ absI w.val / tenP s := Int.ediv_nonneg hA0 (by omega)
  have qle : absI w.val / tenP s ≤ absI w.val := Int.ediv_le_self _ hA0
  have r0 : 0 ≤ absI w.val % tenP s ∧ absI w.val % tenP s < tenP s := ⟨Int.emod_nonneg _ (by omega), Int.emod_lt_of_pos _ p0⟩
  obtain ⟨s1, s2⟩ := sgn_quo hw p0
  have fq : fitsW (sgI (decide (w.hi < 0)) (absI w.val / tenP s)) = true := by
    have := sgI_val hw
    have hf := Wd.val_fits hw
    rw [← this] at hf
    unfold fitsW at hf ⊢
    simp only [Bool.and_eq_true, decide_eq_true_eq] at hf ⊢
    revert hf
    cases decide (w.hi < 0) <;> simp only [sgI, Bool.false_eq_true, if_false, if_true] <;> omega
  have fr : fitsW (sgI (decide (w.hi < 0)) (absI w.val % tenP s)) = true := sgI_fits r0.1 (by omega)
  have cm := fun m => cmp_at (H := H6) rfl (Wd.of_ok fq) wd_ok0 m
  rw [Wd.of_val, show (Wd.mk 0 0).val = 0 from rfl, Int.sub_zero] at cm
  have sg := fun m => sign_at (H := H6) rfl (Wd.of_ok fr) m
  rw [Wd.of_val] at sg
  have hsub : IntKind.wrap .i64 ((s : Int) - 0) = (s : Int) := by rw [Int.sub_zero]; exact wrap_i64 (by omega) (by omega)
  obtain ⟨wh, wl⟩ := w
  simp only [Wd.cells] at pw wd cm sg ⊢
  obtain ⟨c, hc⟩ : ∃ c, c = sgn (sgI (decide (wh < 0)) (absI (Wd.mk wh wl).val / tenP s)) := ⟨_, rfl⟩
  simp only at cm s1 s2
  rw [← hc] at cm s1 s2
  simp only [lms, lcs, ge, aps, ips, decC, f107_is (H := H6) rfl, T.f107, D2_call, Option.bind_some, q1, p2, pB, bin_neq, bin_sub, boxA, extractA, condA, fa37_1, fa37_0, ld3, ld35, Nat.reduceAdd, AV.one, if_true, if_false, over, AV.cells, Nat.reduceLeDiff, Option.map_some, hsub, pw, wd, cm]
  by_cases h : c = 0
  · simp only [h, decide_true, Bool.not_true]
    simp only [lms, lcs, aps, ips, g107_0_is (H := H6), T.g107_0, D2_call, Option.bind_some, q1, ld35, if_true, Nat.reduceAdd, Nat.reduceLeDiff, sg]
    refine Res.eq ?_ (by rw [s2 h])
    (repeat apply Fr.lays)
    exact Fr.refl _
  · simp only [decide_eq_false h, Bool.not_false]
    refine Res.eq ?_ (by rw [s1 h])
    (repeat apply Fr.lays)
    exact Fr.refl _
def S7 : List FuncId := [99, 107]
noncomputable def H7 : FuncId → Option (List AV → Mem → R) := hooksC E6 S7
noncomputable abbrev E7 : Env := T.EH H7
theorem E7_ok : EnvOk E7 := hooksC_ok E6_ok S7
noncomputable abbrev D7 : Do := T.Rl H7
section
variable {H : FuncId → Option (List AV → Mem → R)}
theorem finer_at (h : H 99 = some (cleanH E6 99)) {c : Wd} (hc : c.ok) {k : Nat} (hk : k ≤ 38) (m : Mem) : run (T.EH H) (.fn 99) [.agg c.cells, .int .i64 (k : Int)] m = some (.tup [.agg (Wd.res (c.val * tenP k)).1.cells, .int .i64 (Wd.res (c.val * tenP k)).2], m) :=
  hook_at h (by simp [AV.flat, AV.lt, AV.lts, Wd.cells]) fun m2 _ _ => finer_is hc hk m2
theorem fcmp0_at (h : H 107 = some (cleanH E6 107)) {w : Wd} (hw : w.ok) {s : Nat} (hs : s ≤ 18) (m : Mem) : run (T.EH H) (.fn 107) [.agg (decC w (s : Int)), .agg (decC ⟨0, 0⟩ 0)] m = some (.int .i64 (sgn w.val), m) :=
  hook_at h (by simp [AV.flat, AV.lt]) fun m2 _ _ => fcmp0_is hw hs m2
end
theorem dcmp0_is {w : Wd} (hw : w.ok) (s : Int) (m : Mem) : Res m (run E7 (.fn 94) [.agg (decC w s), .agg (decC ⟨0, 0⟩ 0)] m) (.tup [.int .i64 (if 0 ≤ s ∧ s ≤ 18 then sgn w.val else 0), .int .i64 (if 0 ≤ s ∧ s ≤ 18 then 0 else 21)]) := by
  have dr := fun m => dright_at (H := H7) rfl w s m
  have dr0 := fun m => dright_at (H := H7) rfl ⟨0, 0⟩ 0 m
  rw [decide_eq_true (show (0 : Int) ≤ 0 ∧ (0 : Int) ≤ 18 by omega)] at dr0
  by_cases h : 0 ≤ s ∧ s ≤ 18
  · obtain ⟨n, rfl⟩ : ∃ n : Nat, s = n := ⟨s.toNat, by omega⟩
    have fc := fun m => fcmp0_at (H := H7) rfl hw (s := n) (by omega) m
    rw [decide_eq_true h] at dr
    rw [if_pos h, if_pos h]
    simp only [decC] at dr dr0 fc ⊢
    simp only [lms, lcs, aps, ips, f94_is (H := H7) rfl, T.f94, D2_call, Option.bind_some, q1, p1, boxA, condA, ifV, unA, ld37, AV.one, if_true, if_false, AV.cells, Nat.reduceAdd, Nat.reduceLeDiff, Option.map_some, dr, dr0, Bool.not_true]
    simp only [lms, lcs, ge, aps, ips, g94_0_is (H := H7), T.g94_0, D2_call, Option.bind_some, p1, q1, p2, bin_lss, condA, fa37_1, ld3, ld37, Nat.reduceAdd, if_true, if_false, Nat.reduceLeDiff, decide_eq_false (show ¬ (n : Int) < 0 by omega)]
    simp only [lms, lcs, aps, ips, g94_1_is (H := H7), T.g94_1, D2_call, Option.bind_some, q1, ld37, if_true, if_false, Nat.reduceAdd, Nat.reduceLeDiff, fc]
    refine Res.eq ?_ rfl
    (repeat apply Fr.lays)
    exact Fr.refl _
  · rw [decide_eq_false h] at dr
    rw [if_neg h, if_neg h]
    simp only [decC] at dr dr0 ⊢
    simp only [lms, lcs, aps, ips, f94_is (H := H7) rfl, T.f94, D2_call, Option.bind_some, q1, p1, boxA, condA, ifV, unA, ld37, AV.one, if_true, if_false, AV.cells, Nat.reduceAdd, Nat.reduceLeDiff, Option.map_some, dr, Bool.not_false]
    refine Res.eq ?_ rfl
    (repeat apply Fr.lays)
    exact Fr.refl _
def mulV (x y k : Int) : Int := if 0 ≤ k then scF x y k.toNat else x * y * tenP (-k).toNat
def decRes (n : Int) (to : Int) : AV := .tup [.agg (if fitsW n = true then decC (.of n) to else decC ⟨0, 0⟩ 0), .int .i64 (if fitsW n = true then 0 else 20)]
theorem fits_mul {n p : Int} (hp : 0 < p) (h : fitsW n = false) : fitsW (n * p) = false := by
  have h2 : ¬ (-170141183460469231731687303715884105728 ≤ n ∧ n < 170141183460469231731687303715884105728) := by
    intro h3
    rw [fits_true h3.1 h3.2] at h
    exact absurd h (by decide)
  apply fits_false
  by_cases h3 : n < 0
  · have := Int.mul_le_mul_of_nonneg_left (show 1 ≤ p by omega) (show 0 ≤ -n by omega)
    rw [Int.mul_one, Int.neg_mul] at this
    omega
  · have := Int.mul_le_mul_of_nonneg_left (show 1 ≤ p by omega) (show 0 ≤ n by omega)
    rw [Int.mul_one] at this
    omega
theorem dmul_is {a b : Wd} (ha : a.ok) (hb : b.ok) {s t to : Int} (hs : 0 ≤ s ∧ s ≤ 18) (ht : 0 ≤ t ∧ t ≤ 18) (hto : 0 ≤ to ∧ to ≤ 18) (m : Mem) :
    Res m (run E7 (.fn 59) [.agg (decC a s), .agg (decC b t), .int .i64 to] m) (decRes (mulV a.val b.val (s + t - to)) to) := by
  have dr := fun m => dright_at (H := H7) rfl a s m
  have dr2 := fun m => dright_at (H := H7) rfl b t m
  have sc := fun m => scale_at (H := H7) rfl to m
  rw [decide_eq_true hs] at dr
  rw [decide_eq_true ht] at dr2
  rw [decide_eq_true hto] at sc
  have hk1 : IntKind.wrap .i64 (s + t) = s + t := wrap_i64 (by omega) (by omega)
  have hk2 : IntKind.wrap .i64 (s + t - to) = s + t - to := wrap_i64 (by omega) (by omega)
  have fin : ∀ (n : Int) (z0 z1 z2 : AV) (z3 z4 : List AV), Res m (D7.gor 241665 [.int .i64 to, .ptr (some ⟨m.next + 1 + 1, 0⟩), .ptr (some ⟨m.next + 1 + 1 + 1, 0⟩), .int .i64 (Wd.res n).2]
      ((((m.lay (.cells z3 false)).lay (.cells z4 false)).lay (.cells [z0, z1, z2] false)).lay (.cells (Wd.res n).1.cells false))) (decRes n to) := by
    intro n z0 z1 z2 z3 z4
    cases hf : fitsW n with
    | true =>
      simp only [res_fits hf, Wd.cells, decRes, hf, if_true, decC]
      simp only [lms, lcs, aps, ips, g59_1_is (H := H7), T.g59_1, Option.bind_some, p2, p1, bin_neq, fillA, AV.cells, Option.map_some, Nat.reduceAdd, Nat.reduceLeDiff, if_true, condA, resA, nth0, nth1, tupA, ld37, bd37, AV.one, if_false, over]
      simp only [lms, lcs, ge, aps, ips, g59_2_is (H := H7), T.g59_2, Option.bind_some, q1, p1, fillA, AV.cells, Option.map_some, Nat.reduceAdd, Nat.reduceLeDiff, if_true, resA, nth0, nth1, tupA, ld35, ld37, bd37, AV.one, if_false, over]
      refine Res.eq ?_ rfl
      (repeat apply Fr.lays)
      exact Fr.refl _
    | false =>
      simp only [res_not hf, Wd.cells, decRes, hf, Bool.false_eq_true, if_false, decC]
      simp only [lms, lcs, aps, ips, g59_1_is (H := H7), T.g59_1, Option.bind_some, p2, p1, bin_neq, fillA, AV.cells, Option.map_some, Nat.reduceAdd, Nat.reduceLeDiff, if_true, condA, resA, nth0, nth1, tupA, ld37, bd37, AV.one, if_false, over]
      refine Res.eq ?_ rfl
      (repeat apply Fr.lays)
      exact Fr.refl _
  unfold mulV
  by_cases hk : 0 ≤ s + t - to
  · rw [if_pos hk]
    have sd := fun m => scaled_at (H := H7) rfl ha hb (k := (s + t - to).toNat) (by omega) m
    rw [Int.toNat_of_nonneg hk] at sd
    simp only [decC] at dr dr2
    simp only [Wd.cells] at sd fin
    simp only [lms, lcs, aps, ips, decC, f59_is (H := H7) rfl, T.f59, D2_call, Option.bind_some, pB, q1, p1, fillA, AV.cells, Option.map_some, Nat.reduceAdd, Nat.reduceLeDiff, if_true, boxA, condA, ifV, unA, resA, nth0, nth1, tupA, ld37, bd37, AV.one, if_false, over, dr, dr2, sc, Bool.not_true]
    simp only [lms, lcs, ge, aps, ips, g59_0_is (H := H7), T.g59_0, D2_call, Option.bind_some, p1, q1, p2, pB, bin_add, bin_geq, bin_sub, extractA, condA, fa37_1, fa37_0, ld3, ld35, Nat.reduceAdd, AV.one, if_true, if_false, over, AV.cells, Nat.reduceLeDiff, Option.map_some, hk1, hk2, decide_eq_true hk, sd]
    exact fin _ _ _ _ _ _
  · rw [if_neg hk]
    have wm := fun m => wmul_at (H := H7) rfl ha hb m
    simp only [decC] at dr dr2
    simp only [Wd.cells] at fin
    have hneg : IntKind.wrap .i64 (0 - (s + t - to)) = (((-(s + t - to)).toNat : Nat) : Int) := by rw [Int.toNat_of_nonneg (by omega), wrap_i64 (by omega) (by omega)]; omega
    cases hf : fitsW (a.val * b.val) with
    | true =>
      rw [res_fits hf] at wm
      have fi := fun m => finer_at (H := H7) rfl (Wd.of_ok hf) (k := (-(s + t - to)).toNat) (by omega) m
      rw [Wd.of_val] at fi
      simp only [Wd.cells] at wm fi
      simp only [lms, lcs, aps, ips, decC, f59_is (H := H7) rfl, T.f59, D2_call, Option.bind_some, pB, q1, p1, fillA, AV.cells, Option.map_some, Nat.reduceAdd, Nat.reduceLeDiff, if_true, boxA, condA, ifV, unA, resA, nth0, nth1, tupA, ld37, bd37, AV.one, if_false, over, dr, dr2, sc, Bool.not_true]
      simp only [lms, lcs, ge, aps, ips, g59_0_is (H := H7), T.g59_0, D2_call, Option.bind_some, p1, q1, p2, pB, bin_add, bin_eql, bin_geq, bin_sub, extractA, condA, fa37_1, fa37_0, ld3, ld35, Nat.reduceAdd, AV.one, if_true, if_false, over, AV.cells, Nat.reduceLeDiff, Option.map_some, hk1, hk2, decide_eq_false hk, wm, unA, hneg, fi, decide_true]
      exact fin (a.val * b.val * tenP (-(s + t - to)).toNat) _ _ _ _ _
    | false =>
      have hf2 := fits_mul (tenP_pos (-(s + t - to)).toNat) hf
      have f2 := fin (a.val * b.val * tenP (-(s + t - to)).toNat)
      rw [res_not hf] at wm
      rw [res_not hf2] at f2
      simp only [Wd.cells] at wm f2
      simp only [lms, lcs, aps, ips, decC, f59_is (H := H7) rfl, T.f59, D2_call, Option.bind_some, pB, q1, p1, fillA, AV.cells, Option.map_some, Nat.reduceAdd, Nat.reduceLeDiff, if_true, boxA, condA, ifV, unA, resA, nth0, nth1, tupA, ld37, bd37, AV.one, if_false, over, dr, dr2, sc, Bool.not_true]
      simp only [lms, lcs, ge, aps, ips, g59_0_is (H := H7), T.g59_0, D2_call, Option.bind_some, p1, q1, p2, pB, bin_add, bin_eql, bin_geq, bin_sub, extractA, condA, fa37_1, fa37_0, ld3, ld35, Nat.reduceAdd, AV.one, if_true, if_false, over, AV.cells, Nat.reduceLeDiff, Option.map_some, hk1, hk2, decide_eq_false hk, wm, decide_eq_false (show ¬ (20 : Int) = 0 by omega)]
      exact f2 _ _ _ _ _
end Go.Proofs.YtlginbmjiecglaaGreat
end
