/- Texts of one claim, put together. -/
import Derived.Test.YtlginbmjiecglaaGreatK16
section
namespace Go.Proofs.YtlginbmjiecglaaGreat
set_option maxRecDepth 4000
open Go Go.Abs
def S13 : List FuncId := [62, 61, 65, 41, 60]
noncomputable def H13 : FuncId → Option (List AV → Mem → R) := hooksC E12 S13
noncomputable abbrev E13 : Env := T.EH H13
theorem E13_ok : EnvOk E13 := hooksC_ok E12_ok S13
noncomputable abbrev D13 : Do := T.Rl H13
section
variable {H : FuncId → Option (List AV → Mem → R)}
theorem rdiv_at (h : H 62 = some (cleanH E12 62)) {a b : Nat} (ha : a < 4294967296 ^ 16) (hb : b < 4294967296 ^ 16) (hb0 : 0 < b) (m : Mem) : run (T.EH H) (.fn 62) [.agg (D16 a), .agg (D16 b)] m = some (.tup [.agg (D16 (a / b)), .agg (D16 (a % b))], m) :=
  hook_at h (by simp [AV.flat, AV.lt, AV.lts, D16_flat]) fun m2 _ _ => rdiv_is ha hb hb0 m2
theorem rten_at (h : H 61 = some (cleanH E12 61)) {k : Nat} (hk : k ≤ 60) (m : Mem) : run (T.EH H) (.fn 61) [.int .i64 (k : Int)] m = some (.agg (D16 (10 ^ k)), m) :=
  hook_at h (by simp [AV.flat, AV.lt, D16_flat]) fun m2 _ _ => rten_is hk m2
theorem rzero_at (h : H 65 = some (cleanH E12 65)) {a : Nat} (ha : a < 4294967296 ^ 16) (m : Mem) : run (T.EH H) (.fn 65) [.agg (D16 a)] m = some (.bool (decide (a = 0)), m) :=
  hook_at h (by simp [AV.flat, AV.lt]) fun m2 _ _ => rzero_is ha m2
theorem rof_at (h : H 41 = some (cleanH E12 41)) {a : Wd} (ha : a.ok) (m : Mem) : run (T.EH H) (.fn 41) [.agg a.cells] m = some (.agg (bigC a.val), m) :=
  hook_at h (by simp [AV.flat, AV.lt, bigC_flat]) fun m2 _ _ => rof_is ha m2
theorem rwide_at (h : H 60 = some (cleanH E12 60)) {x : Int} (hx : x.natAbs < 4294967296 ^ 16) (m : Mem) : run (T.EH H) (.fn 60) [.agg (bigC x)] m = some (.tup [.agg (wideV x).1.cells, .bool (wideV x).2], m) :=
  hook_at h (by simp [AV.flat, AV.lt, AV.lts, Wd.cells]) fun m2 _ _ => rwide_is hx m2
end
theorem pow_le16 {n k : Nat} (h : n < 4294967296 ^ k) (hk : k ≤ 16) : n < 4294967296 ^ 16 := Nat.lt_of_lt_of_le h (Nat.pow_le_pow_right (by omega) hk)
theorem mul_lt15 {a b : Nat} (ha : a < 4294967296 ^ 8) (hb : b < 4294967296 ^ 7) : a * b < 4294967296 ^ 16 := by
  have h := Nat.mul_lt_mul'' ha hb
  rw [← Nat.pow_add] at h
  exact pow_le16 h (by omega)
theorem rtimes_is {a b : Int} (ha : a.natAbs < 4294967296 ^ 8) (hb : b.natAbs < 4294967296 ^ 7) (m : Mem) : Res m (run E13 (.fn 40) [.agg (bigC a), .agg (bigC b)] m) (.agg (bigC (a * b))) := by
  have mu := fun m => rmul_at (H := H13) rfl ha hb m
  have zr := fun m => rzero_at (H := H13) rfl (mul_lt15 ha hb) m
  unfold bigC
  rw [Int.natAbs_mul]
  by_cases h : (decide (a < 0) == decide (b < 0)) = true
  · have hn : decide (a * b < 0) = false := by
      apply decide_eq_false
      intro hh
      have h' := eq_of_beq h
      by_cases h1 : a < 0
      · rw [decide_eq_true h1] at h'
        have h2 := of_decide_eq_true h'.symm
        have := Int.mul_pos_of_neg_of_neg h1 h2
        omega
      · rw [decide_eq_false h1] at h'
        have h2 := of_decide_eq_false h'.symm
        have := Int.mul_nonneg (show 0 ≤ a by omega) (show 0 ≤ b by omega)
        omega
    simp only [lms, lcs, ge, aps, ips, f40_is (H := H13) rfl, T.f40, D2_call, Option.bind_some, pB, p1, q1, p2, fillA, AV.cells, Option.map_some, Nat.reduceAdd, Nat.reduceLeDiff, if_true, boxA, ifV, unA, resA, nth0, tupA, fa95_1, fa95_0, ld93, ld4, ld95, bd95, bn4, AV.one, if_false, D16_len, D16_take, D16_drop, D16_one, over_all, over17, z16, mu, h, Bool.not_true, hn]
    refine Res.eq ?_ rfl
    (repeat apply Fr.lays)
    exact Fr.refl _
  · rw [Bool.not_eq_true] at h
    have hn : (!decide (a.natAbs * b.natAbs = 0)) = decide (a * b < 0) := by
      have h' : ¬ (decide (a < 0) = decide (b < 0)) := by intro e; rw [e] at h; simp at h
      have hz : (a.natAbs * b.natAbs = 0) = (a * b = 0) := by rw [← Int.natAbs_mul]; apply propext; exact Int.natAbs_eq_zero
      rw [← decide_not]
      apply decide_eq_decide.mpr
      rw [hz]
      by_cases h1 : a < 0
      · rw [decide_eq_true h1] at h'
        have h2 : ¬ b < 0 := fun x => h' (decide_eq_true x).symm
        have := Int.mul_nonneg (show 0 ≤ -a by omega) (show 0 ≤ b by omega)
        rw [Int.neg_mul] at this
        omega
      · rw [decide_eq_false h1] at h'
        have h2 : b < 0 := by
          apply Classical.byContradiction
          intro x
          exact h' (decide_eq_false x).symm
        have := Int.mul_nonneg (show 0 ≤ a by omega) (show 0 ≤ -b by omega)
        rw [Int.mul_neg] at this
        omega
    simp only [lms, lcs, ge, aps, ips, f40_is (H := H13) rfl, T.f40, D2_call, Option.bind_some, pB, p1, q1, p2, fillA, AV.cells, Option.map_some, Nat.reduceAdd, Nat.reduceLeDiff, if_true, boxA, ifV, unA, resA, nth0, tupA, fa95_1, fa95_0, ld93, ld4, ld95, bd95, bn4, AV.one, if_false, D16_len, D16_take, D16_drop, D16_one, over_all, over17, z16, mu, h, Bool.not_false, zr, hn]
    refine Res.eq ?_ rfl
    (repeat apply Fr.lays)
    exact Fr.refl _
theorem wideV_fits {x : Int} (h : fitsW x = true) : wideV x = (Wd.of x, true) := by unfold wideV; rw [if_pos h]
theorem wideV_not {x : Int} (h : fitsW x = false) : (wideV x).2 = false := by unfold wideV; rw [if_neg (by rw [h]; decide)]; split <;> rfl
theorem rdec_is {x : Int} (hx : x.natAbs < 4294967296 ^ 16) (to : Int) (m : Mem) : Res m (run E13 (.fn 38) [.agg (bigC x), .int .i64 to] m) (decRes x to) := by
  have wd := fun m => rwide_at (H := H13) rfl hx m
  unfold decRes
  cases hf : fitsW x with
  | true =>
    rw [wideV_fits hf] at wd
    simp only [bigC, Wd.cells, decC, if_true] at wd ⊢
    simp only [lms, lcs, ge, aps, ips, f38_is (H := H13) rfl, T.f38, D2_call, Option.bind_some, pB, q1, p1, fillA, AV.cells, Option.map_some, Nat.reduceAdd, Nat.reduceLeDiff, if_true, boxA, extractA, condA, unA, resA, nth0, nth1, tupA, ld95, ld37, bd37, AV.one, if_false, over, D16_len, D16_take, D16_one, wd, Bool.not_true]
    simp only [lms, lcs, ge, aps, ips, g38_0_is (H := H13), T.g38_0, Option.bind_some, q1, p1, fillA, AV.cells, Option.map_some, Nat.reduceAdd, Nat.reduceLeDiff, if_true, resA, nth0, nth1, tupA, ld35, ld37, bd37, AV.one, if_false, over]
    refine Res.eq ?_ rfl
    (repeat apply Fr.lays)
    exact Fr.refl _
  | false =>
    rw [wideV_not hf] at wd
    simp only [bigC, Wd.cells, decC, Bool.false_eq_true, if_false] at wd ⊢
    simp only [lms, lcs, ge, aps, ips, f38_is (H := H13) rfl, T.f38, D2_call, Option.bind_some, pB, q1, p1, fillA, AV.cells, Option.map_some, Nat.reduceAdd, Nat.reduceLeDiff, if_true, boxA, extractA, condA, unA, resA, nth0, nth1, tupA, ld95, ld37, bd37, AV.one, if_false, over, D16_len, D16_take, D16_one, wd, Bool.not_false]
    refine Res.eq ?_ rfl
    (repeat apply Fr.lays)
    exact Fr.refl _
theorem rright_is2 (w : Wd) (s : Int) (m : Mem) : Res m (run E13 (.fn 37) [.agg (decC w s)] m) (.bool (decide (0 ≤ s ∧ s ≤ 18))) := by
  by_cases h1 : 0 ≤ s
  · simp only [lms, lcs, ge, aps, ips, decC, f37_is (H := H13) rfl, T.f37, Option.bind_some, p1, q1, p2, bin_geq, bin_leq, boxA, ifV, fa37_1, ld3, AV.one, if_true, AV.cells, Option.map_some, decide_eq_true (show s ≥ 0 from h1)]
    refine Res.eq ?_ (by congr 1; exact decide_eq_decide.mpr (by omega))
    (repeat apply Fr.lays)
    exact Fr.refl _
  · simp only [lms, lcs, ge, aps, ips, decC, f37_is (H := H13) rfl, T.f37, Option.bind_some, p1, q1, p2, bin_geq, bin_leq, boxA, ifV, fa37_1, ld3, AV.one, if_true, AV.cells, Option.map_some, decide_eq_false (show ¬ s ≥ 0 from h1)]
    refine Res.eq ?_ (by congr 1; exact (decide_eq_false (by omega)).symm)
    (repeat apply Fr.lays)
    exact Fr.refl _
end Go.Proofs.YtlginbmjiecglaaGreat
end
section
namespace Go.Proofs.YtlginbmjiecglaaGreat
set_option maxRecDepth 4000
open Go Go.Abs
def S14 : List FuncId := [40, 38, 37]
noncomputable def H14 : FuncId → Option (List AV → Mem → R) := hooksC E13 S14
noncomputable abbrev E14 : Env := T.EH H14
theorem E14_ok : EnvOk E14 := hooksC_ok E13_ok S14
noncomputable abbrev D14 : Do := T.Rl H14
section
variable {H : FuncId → Option (List AV → Mem → R)}
theorem rtimes_at (h : H 40 = some (cleanH E13 40)) {a b : Int} (ha : a.natAbs < 4294967296 ^ 8) (hb : b.natAbs < 4294967296 ^ 7) (m : Mem) : run (T.EH H) (.fn 40) [.agg (bigC a), .agg (bigC b)] m = some (.agg (bigC (a * b)), m) :=
  hook_at h (by simp [AV.flat, AV.lt, bigC_flat]) fun m2 _ _ => rtimes_is ha hb m2
theorem rdec_at (h : H 38 = some (cleanH E13 38)) {x : Int} (hx : x.natAbs < 4294967296 ^ 16) (to : Int) (m : Mem) : run (T.EH H) (.fn 38) [.agg (bigC x), .int .i64 to] m = some (decRes x to, m) :=
  hook_at h (decRes_flat _ _) fun m2 _ _ => rdec_is hx to m2
theorem rright_at2 (h : H 37 = some (cleanH E13 37)) (w : Wd) (s : Int) (m : Mem) : run (T.EH H) (.fn 37) [.agg (decC w s)] m = some (.bool (decide (0 ≤ s ∧ s ≤ 18)), m) :=
  hook_at h (by simp [AV.flat, AV.lt]) fun m2 _ _ => rright_is2 w s m2
end
theorem tenP_nat (k : Nat) : tenP k = ((10 ^ k : Nat) : Int) := by unfold tenP; exact (Int.natCast_pow 10 k).symm
def rndV (x k : Int) : Int := if k ≤ 0 then x * tenP (-k).toNat else if x < 0 then -(rhe (-x) k.toNat) else rhe x k.toNat
theorem rnd_fin {x : Int} {q : Nat} (hq : q < 4294967296 ^ 16) (hz : x = 0 → q = 0) (m : Mem) (c0 c1 c2 c3 : List AV) :
    Res m (D14.gor 159745 [.ptr (some ⟨m.next, 0⟩), .ptr (some ⟨m.next + 1, 0⟩), .ptr (some ⟨m.next + 1 + 1 + 1, 0⟩)]
      ((((((m.lay (.cells (bigC x) false)).lay (.cells (.bool false :: D16 0) false)).lay (.cells c0 false)).lay (.cells (D16 q) false)).lay (.cells c1 false)).lay (.cells c2 false))) (.agg (bigC (if x < 0 then -(q : Int) else (q : Int)))) := by
  have zr := fun m => rzero_at (H := H14) rfl hq m
  by_cases h : x < 0
  · rw [if_pos h]
    have hn : (!decide (q = 0)) = decide (-(q : Int) < 0) := by rw [← decide_not]; exact decide_eq_decide.mpr (by omega)
    simp only [bigC, decide_eq_true h, show (-(q : Int)).natAbs = q by omega]
    simp only [lms, lcs, ge, aps, ips, g39_1_is (H := H14), T.g39_1, D2_call, Option.bind_some, p1, q1, fillA, AV.cells, Option.map_some, Nat.reduceAdd, Nat.reduceLeDiff, if_true, ifV, unA, resA, nth0, tupA, fa95_0, ld4, ld93, ld95, bd95, if_false, D16_len, D16_take, D16_drop, D16_one, over17, z16, zr, hn]
    refine Res.eq ?_ rfl
    (repeat apply Fr.lays)
    exact Fr.refl _
  · rw [if_neg h]
    simp only [bigC, decide_eq_false h, show ((q : Int)).natAbs = q by omega, decide_eq_false (show ¬ (q : Int) < 0 by omega)]
    simp only [lms, lcs, ge, aps, ips, g39_1_is (H := H14), T.g39_1, D2_call, Option.bind_some, p1, q1, fillA, AV.cells, Option.map_some, Nat.reduceAdd, Nat.reduceLeDiff, if_true, ifV, unA, resA, nth0, tupA, fa95_0, ld4, ld93, ld95, bd95, if_false, D16_len, D16_take, D16_drop, D16_one, over17, z16]
    refine Res.eq ?_ rfl
    (repeat apply Fr.lays)
    exact Fr.refl _
theorem rround_is {x : Int} (hx : x.natAbs < 4294967296 ^ 8) {k : Int} (hk0 : -60 ≤ k) (hk1 : k ≤ 60) (m : Mem) : Res m (run E14 (.fn 39) [.agg (bigC x), .int .i64 k] m) (.agg (bigC (rndV x k))) := by
  by_cases h : k ≤ 0
  · obtain ⟨j, hj⟩ : ∃ j : Nat, k = -(j : Int) := ⟨(-k).toNat, by omega⟩
    subst hj
    have tn := fun m => rten_at (H := H14) rfl (k := j) (by omega) m
    have ti := fun m => rtimes_at (H := H14) rfl hx (b := ((10 ^ j : Nat) : Int)) (by rw [Int.natAbs_natCast]; exact ten_small (by omega)) m
    have hb : bigC ((10 ^ j : Nat) : Int) = .bool false :: D16 (10 ^ j) := by
      unfold bigC
      rw [Int.natAbs_natCast, decide_eq_false (Int.not_lt.mpr (Int.natCast_nonneg _))]
    rw [hb] at ti
    have hr : rndV x (-(j : Int)) = x * ((10 ^ j : Nat) : Int) := by
      unfold rndV
      rw [if_pos h, show (-(-(j : Int))).toNat = j by omega, tenP_nat]
    rw [hr]
    have hneg : IntKind.wrap .i64 (0 - -(j : Int)) = (j : Int) := by rw [wrap_i64 (by omega) (by omega)]; omega
    simp only [bigC] at ti ⊢
    simp only [lms, lcs, ge, aps, ips, f39_is (H := H14) rfl, T.f39, D2_call, Option.bind_some, pB, p2, q1, p1, bin_leq, fillA, AV.cells, Option.map_some, Nat.reduceAdd, Nat.reduceLeDiff, if_true, boxA, condA, resA, nth0, tupA, ld95, bd95, unA, AV.one, if_false, D16_len, D16_take, D16_drop, D16_one, over17, z16, decide_eq_true h, hneg, tn, ti]
    refine Res.eq ?_ rfl
    (repeat apply Fr.lays)
    exact Fr.refl _
  · obtain ⟨j, hj⟩ : ∃ j : Nat, k = (j : Int) := ⟨k.toNat, by omega⟩
    subst hj
    have tn := fun m => rten_at (H := H14) rfl (k := j) (by omega) m
    have hp : 0 < 10 ^ j := Nat.pow_pos (by omega)
    have hpl := ten_small (k := j) (by omega)
    have hpl' := pow_le16 hpl (by omega)
    have dv := fun m => rdiv_at (H := H14) rfl (pow_le16 hx (by omega)) hpl' hp m
    obtain ⟨n, hn⟩ : ∃ n, n = x.natAbs := ⟨_, rfl⟩
    rw [← hn] at dv
    have hx' := hx
    rw [← hn] at hx
    have ql : n / 10 ^ j ≤ n := Nat.div_le_self _ _
    have rl := Nat.mod_lt n hp
    have fin := fun {q : Nat} hq hz => rnd_fin (x := x) (q := q) hq hz m
    have tP := tenP_nat j
    have hq1 : n / 10 ^ j + 1 < 4294967296 ^ 16 := by
      have h1 : n + 1 < 4294967296 ^ 16 := Nat.lt_of_le_of_lt (show n + 1 ≤ 4294967296 ^ 8 from hx) (Nat.pow_lt_pow_right (by omega) (by omega))
      omega
    have hval : rndV x (j : Int) = (if x < 0 then -(((if 10 ^ j < 2 * (n % 10 ^ j) ∨ (2 * (n % 10 ^ j) = 10 ^ j ∧ n / 10 ^ j % 2 = 1) then n / 10 ^ j + 1 else n / 10 ^ j : Nat) : Int)) else ((if 10 ^ j < 2 * (n % 10 ^ j) ∨ (2 * (n % 10 ^ j) = 10 ^ j ∧ n / 10 ^ j % 2 = 1) then n / 10 ^ j + 1 else n / 10 ^ j : Nat) : Int)) := by
      have key : rhe (n : Int) j = ((if 10 ^ j < 2 * (n % 10 ^ j) ∨ (2 * (n % 10 ^ j) = 10 ^ j ∧ n / 10 ^ j % 2 = 1) then n / 10 ^ j + 1 else n / 10 ^ j : Nat) : Int) := by
        unfold rhe
        rw [tP, ← Int.natCast_ediv, ← Int.natCast_emod]
        by_cases hc : 10 ^ j < 2 * (n % 10 ^ j) ∨ (2 * (n % 10 ^ j) = 10 ^ j ∧ n / 10 ^ j % 2 = 1)
        · rw [if_pos hc, if_pos (by omega)]; rfl
        · rw [if_neg hc, if_neg (by omega)]
      unfold rndV
      rw [if_neg h, show ((j : Int)).toNat = j by omega]
      by_cases hneg : x < 0
      · rw [if_pos hneg, if_pos hneg, show -x = (n : Int) by omega, key]
      · rw [if_neg hneg, if_neg hneg, show x = (n : Int) by omega, key]
    have hz : x = 0 → (if 10 ^ j < 2 * (n % 10 ^ j) ∨ (2 * (n % 10 ^ j) = 10 ^ j ∧ n / 10 ^ j % 2 = 1) then n / 10 ^ j + 1 else n / 10 ^ j) = 0 := by
      intro h0
      have : n = 0 := by omega
      subst this
      rw [Nat.zero_mod, Nat.zero_div]
      rw [if_neg (by omega)]
    rw [hval]
    obtain ⟨p, hpp⟩ : ∃ p, p = 10 ^ j := ⟨_, rfl⟩
    rw [← hpp] at tn hp hpl hpl' dv ql rl hq1 hz ⊢
    obtain ⟨q, hqq⟩ : ∃ q, q = n / p := ⟨_, rfl⟩
    obtain ⟨r, hrr⟩ : ∃ r, r = n % p := ⟨_, rfl⟩
    rw [← hqq] at dv ql hq1 hz ⊢
    rw [← hrr] at dv rl hz ⊢
    have a1 := fun m => radd_at (H := H14) rfl r r m
    have a2 := fun m => radd_at (H := H14) rfl q 1 m
    have hr2 : r + r < 4294967296 ^ 16 := by
      have h1 : r + r ≤ 4294967296 ^ 7 + 4294967296 ^ 7 := by omega
      exact Nat.lt_of_le_of_lt h1 (by decide)
    have cm := fun m => rcmp_at (H := H14) rfl hr2 hpl' m
    have s1 : over (D16 0) 0 (.int .u64 1) 1 = some (D16 1) := set_small (n := 1) (by omega)
    have hodd : ((dig q 0 : Nat) : Int).tmod 2 = ((q % 2 : Nat) : Int) := by
      rw [Int.tmod_eq_emod_of_nonneg (Int.natCast_nonneg _), dig0]; omega
    have z2 : (2 : Int) ≠ 0 := by omega
    simp only [bigC] at fin
    simp only [lms, lcs, ge, aps, ips, bigC, ← hn, f39_is (H := H14) rfl, T.f39, D2_call, Option.bind_some, pB, p2, q1, p1, bin_leq, fillA, AV.cells, Option.map_some, Nat.reduceAdd, Nat.reduceLeDiff, if_true, boxA, condA, resA, nth0, tupA, ld95, bd95, AV.one, D16_len, D16_one, z16, decide_eq_false h]
    simp only [← hn] at fin
    by_cases c1 : p < 2 * r
    · have hI : (if p < 2 * r ∨ (2 * r = p ∧ q % 2 = 1) then q + 1 else q) = q + 1 := if_pos (.inl c1)
      rw [hI] at hz ⊢
      have e1 : decide ((0 : Int) < cmpN (r + r) p) = true := by unfold cmpN; rw [if_neg (by omega), if_neg (by omega)]; rfl
      simp only [lms, lcs, ge, aps, ips, g39_0_is (H := H14), T.g39_0, D2_call, Option.bind_some, pB, p1, q1, p2, bin_eql, bin_gtr, extractA, condA, ifV, fa95_1, ld93, ld30, ix93, Nat.reduceAdd, if_true, if_false, D16_len, D16_take, over_all, Nat.reduceLeDiff, Option.map_some, z16, ix16z, s1, tn, dv, a1, cm, e1, a2]
      exact fin hq1 hz _ _ _ []
    · have e1 : decide ((0 : Int) < cmpN (r + r) p) = false := by unfold cmpN; split <;> (try split) <;> first | rfl | omega
      by_cases c2 : 2 * r = p
      · have e2 : decide (cmpN (r + r) p = 0) = true := by unfold cmpN; rw [if_neg (by omega), if_pos (by omega)]; rfl
        by_cases c3 : q % 2 = 1
        · have hI : (if p < 2 * r ∨ (2 * r = p ∧ q % 2 = 1) then q + 1 else q) = q + 1 := if_pos (.inr ⟨c2, c3⟩)
          rw [hI] at hz ⊢
          have e3 : decide (((q % 2 : Nat) : Int) = 1) = true := decide_eq_true (by omega)
          simp only [lms, lcs, ge, aps, ips, g39_0_is (H := H14), T.g39_0, D2_call, Option.bind_some, pB, p1, q1, p2, bin_eql, bin_gtr, extractA, condA, ifV, fa95_1, ld93, ld30, ix93, Nat.reduceAdd, if_true, if_false, D16_len, D16_take, over_all, Nat.reduceLeDiff, Option.map_some, z16, ix16z, s1, tn, dv, a1, cm, e1, e2, D16_get _ (show 0 < 16 by omega), bin_rem _ _ _ _ z2, hodd, e3, a2]
          exact fin hq1 hz _ _ _ []
        · have hI : (if p < 2 * r ∨ (2 * r = p ∧ q % 2 = 1) then q + 1 else q) = q := if_neg (by omega)
          rw [hI] at hz ⊢
          have e3 : decide (((q % 2 : Nat) : Int) = 1) = false := decide_eq_false (by omega)
          simp only [lms, lcs, ge, aps, ips, g39_0_is (H := H14), T.g39_0, D2_call, Option.bind_some, pB, p1, q1, p2, bin_eql, bin_gtr, extractA, condA, ifV, fa95_1, ld93, ld30, ix93, Nat.reduceAdd, if_true, if_false, D16_len, D16_take, over_all, Nat.reduceLeDiff, Option.map_some, z16, ix16z, s1, tn, dv, a1, cm, e1, e2, D16_get _ (show 0 < 16 by omega), bin_rem _ _ _ _ z2, hodd, e3]
          exact fin (by omega) hz _ _ _ []
      · have e2 : decide (cmpN (r + r) p = 0) = false := by unfold cmpN; split <;> (try split) <;> first | rfl | omega
        have hI : (if p < 2 * r ∨ (2 * r = p ∧ q % 2 = 1) then q + 1 else q) = q := if_neg (by omega)
        rw [hI] at hz ⊢
        simp only [lms, lcs, ge, aps, ips, g39_0_is (H := H14), T.g39_0, D2_call, Option.bind_some, pB, p1, q1, p2, bin_eql, bin_gtr, extractA, condA, ifV, fa95_1, ld93, ld30, ix93, Nat.reduceAdd, if_true, if_false, D16_len, D16_take, over_all, Nat.reduceLeDiff, Option.map_some, z16, ix16z, s1, tn, dv, a1, cm, e1, e2]
        exact fin (by omega) hz _ _ _ []
end Go.Proofs.YtlginbmjiecglaaGreat
end
section
namespace Go.Proofs.YtlginbmjiecglaaGreat
set_option maxRecDepth 4000
open Go Go.Abs
def S15 : List FuncId := [39]
noncomputable def H15 : FuncId → Option (List AV → Mem → R) := hooksC E14 S15
noncomputable abbrev E15 : Env := T.EH H15
theorem E15_ok : EnvOk E15 := hooksC_ok E14_ok S15
noncomputable abbrev D15 : Do := T.Rl H15
theorem rround_at {H : FuncId → Option (List AV → Mem → R)} (h : H 39 = some (cleanH E14 39)) {x : Int} (hx : x.natAbs < 4294967296 ^ 8) {k : Int} (hk0 : -60 ≤ k) (hk1 : k ≤ 60) (m : Mem) : run (T.EH H) (.fn 39) [.agg (bigC x), .int .i64 k] m = some (.agg (bigC (rndV x k)), m) :=
  hook_at h (by simp [AV.flat, AV.lt, bigC_flat]) fun m2 _ _ => rround_is hx hk0 hk1 m2
theorem wd_nat {w : Wd} (h : w.ok) : w.val.natAbs ≤ 170141183460469231731687303715884105728 := by
  have := abs_le h
  unfold absI at this
  split at this <;> omega
theorem rhe_of_zero (k : Nat) : rhe 0 k = 0 := by
  unfold rhe
  rw [Int.zero_emod, Int.zero_ediv]
  have := tenP_pos k
  rw [if_neg (by omega)]
theorem rnd_mul (x y k : Int) : rndV (x * y) k = mulV x y k := by
  have hs := sgmul x y
  unfold mulV scF
  obtain ⟨A, hA⟩ : ∃ A, A = absI x * absI y := ⟨_, rfl⟩
  have hA0 : 0 ≤ A := by
    rw [hA]
    have h0 : ∀ z, 0 ≤ absI z := fun z => by unfold absI; split <;> omega
    exact Int.mul_nonneg (h0 x) (h0 y)
  rw [← hA] at hs ⊢
  unfold rndV
  by_cases hk : 0 ≤ k
  · rw [if_pos hk]
    by_cases hk0 : k = 0
    · subst hk0
      rw [if_pos (by omega), show (-(0 : Int)).toNat = 0 from rfl, show (0 : Int).toNat = 0 from rfl, show tenP 0 = 1 from rfl, Int.mul_one, rhe_zero]
      exact hs.symm
    · rw [if_neg (by omega)]
      by_cases hb : (!(decide (x < 0) == decide (y < 0))) = true
      · rw [if_pos hb] at hs ⊢
        by_cases h : x * y < 0
        · rw [if_pos h, show -(x * y) = A by omega]
        · rw [if_neg h]
          have h0 : A = 0 := by omega
          have h1 : x * y = 0 := by omega
          rw [h0, h1, rhe_of_zero]; rfl
      · rw [if_neg hb] at hs ⊢
        rw [if_neg (by omega), ← hs]
  · rw [if_neg hk, if_pos (by omega)]
theorem rhe_bound {n : Int} (h : 0 ≤ n) (k : Nat) : (rhe n k).natAbs ≤ n.natAbs + 1 := by
  have h1 := rhe_nn h k
  have h2 := rhe_le h k
  omega
theorem rnd_bound {x k : Int} (hx : x.natAbs < 4294967296 ^ 8) (hk : -18 ≤ k) : (rndV x k).natAbs < 4294967296 ^ 16 := by
  unfold rndV
  split
  · rw [Int.natAbs_mul, tenP_nat, Int.natAbs_natCast]
    exact mul_lt15 hx (ten_small (by omega))
  · have h8 : 4294967296 ^ 8 + 1 < 4294967296 ^ 16 := by decide
    split
    · have := rhe_bound (show 0 ≤ -x by omega) k.toNat
      rw [Int.natAbs_neg] at this
      rw [Int.natAbs_neg]
      omega
    · have := rhe_bound (show 0 ≤ x by omega) k.toNat
      omega
theorem wd_mul {a b : Wd} (ha : a.ok) (hb : b.ok) : (a.val * b.val).natAbs < 4294967296 ^ 8 := by
  rw [Int.natAbs_mul]
  exact Nat.lt_of_le_of_lt (Nat.mul_le_mul (wd_nat ha) (wd_nat hb)) (by decide)
theorem wd_lt {a : Wd} (ha : a.ok) : a.val.natAbs < 4294967296 ^ 7 := Nat.lt_of_le_of_lt (wd_nat ha) (by decide)
theorem wd_lt8 {a : Wd} (ha : a.ok) : a.val.natAbs < 4294967296 ^ 8 := Nat.lt_of_le_of_lt (wd_nat ha) (by decide)
theorem wd_lt15 {a : Wd} (ha : a.ok) : a.val.natAbs < 4294967296 ^ 15 := Nat.lt_of_le_of_lt (wd_nat ha) (by decide)
theorem rmuldec_is {a b : Wd} (ha : a.ok) (hb : b.ok) {s t to : Int} (hs : 0 ≤ s ∧ s ≤ 18) (ht : 0 ≤ t ∧ t ≤ 18) (hto : 0 ≤ to ∧ to ≤ 18) (m : Mem) :
    Res m (run E15 (.fn 13) [.agg (decC a s), .agg (decC b t), .int .i64 to] m) (decRes (mulV a.val b.val (s + t - to)) to) := by
  have r1 := fun m => rright_at2 (H := H15) rfl a s m
  have r2 := fun m => rright_at2 (H := H15) rfl b t m
  rw [decide_eq_true hs] at r1
  rw [decide_eq_true ht] at r2
  have o1 := fun m => rof_at (H := H15) rfl ha m
  have o2 := fun m => rof_at (H := H15) rfl hb m
  have ti := fun m => rtimes_at (H := H15) rfl (wd_lt8 ha) (wd_lt hb) m
  have ro := fun m => rround_at (H := H15) rfl (wd_mul ha hb) (k := s + t - to) (by omega) (by omega) m
  have rd := fun m => rdec_at (H := H15) rfl (rnd_bound (wd_mul ha hb) (k := s + t - to) (by omega)) to m
  rw [rnd_mul] at ro rd
  have hk1 : IntKind.wrap .i64 (s + t) = s + t := wrap_i64 (by omega) (by omega)
  have hk2 : IntKind.wrap .i64 (s + t - to) = s + t - to := wrap_i64 (by omega) (by omega)
  obtain ⟨ah, al⟩ := a
  obtain ⟨bh, bl⟩ := b
  obtain ⟨N, hN⟩ : ∃ N, N = mulV (Wd.mk ah al).val (Wd.mk bh bl).val (s + t - to) := ⟨_, rfl⟩
  rw [← hN] at ro rd ⊢
  simp only [decC, Wd.cells] at r1 r2 o1 o2
  simp only [lms, lcs, aps, ips, decC, f13_is (H := H15) rfl, T.f13, D2_call, Option.bind_some, pB, q1, p1, p2, bin_gtr, bin_lss, fillA, AV.cells, Option.map_some, Nat.reduceAdd, Nat.reduceLeDiff, if_true, boxA, condA, ifV, unA, resA, nth0, nth1, tupA, ld37, bd37, AV.one, if_false, over, r1, r2, Bool.not_true, decide_eq_false (show ¬ to < 0 by omega), decide_eq_false (show ¬ (18 : Int) < to by omega)]
  unfold decRes at rd ⊢
  cases hf : fitsW N with
  | true =>
    simp only [hf, if_true, decC] at rd ⊢
    simp only [lms, lcs, ge, aps, ips, g13_0_is (H := H15), T.g13_0, D2_call, Option.bind_some, p1, q1, p2, bin_add, bin_sub, extractA, resA, nth0, nth1, tupA, fa37_0, fa37_1, ld35, ld3, ld37, Nat.reduceAdd, AV.one, if_true, if_false, over, AV.cells, Nat.reduceLeDiff, Option.map_some, o1, o2, ti, hk1, hk2, ro, rd]
    refine Res.eq ?_ rfl
    (repeat apply Fr.lays)
    exact Fr.refl _
  | false =>
    simp only [hf, Bool.false_eq_true, if_false, decC] at rd ⊢
    simp only [lms, lcs, ge, aps, ips, g13_0_is (H := H15), T.g13_0, D2_call, Option.bind_some, p1, q1, p2, bin_add, bin_sub, extractA, resA, nth0, nth1, tupA, fa37_0, fa37_1, ld35, ld3, ld37, Nat.reduceAdd, AV.one, if_true, if_false, over, AV.cells, Nat.reduceLeDiff, Option.map_some, o1, o2, ti, hk1, hk2, ro, rd]
    refine Res.eq ?_ rfl
    (repeat apply Fr.lays)
    exact Fr.refl _
end Go.Proofs.YtlginbmjiecglaaGreat
end
section
namespace Go.Proofs.YtlginbmjiecglaaGreat
open Go Go.Abs

theorem lessS_is (a b : (List UInt8)) (m : Mem) : run E15 (.fn 80) [.str a, .str b] m = some (.bool (strLess a b), m) := by
  simp only [aps, ips, f80_is (H := H15) rfl, T.f80, D2_call, Option.bind_some, p1, p2, bin_slss, ifV, unA, f101_is (H := H15) rfl, T.f101, bin_sneq, decide_true, Bool.not_true]
  try rfl

section
variable {m : Mem} {sk : AV} {ks : List (List UInt8)} {kb : Option Nat}
theorem bsS_loop (h : TRow 1 m sk (ks.map fun k => [.str k]) kb) (hs : Srt strLess ks) (hl : ks.length < 4611686018427387904) (k : (List UInt8)) : ∀ (d i j : Nat), j - i ≤ d → i ≤ j → j ≤ ks.length →
    (∀ x (hx : x < ks.length), x < i → strLess ks[x] k = true) → (∀ x (hx : x < ks.length), j ≤ x → strLess ks[x] k = false) →
    D15.gor 188416 [sk, .str k, .int .i64 ks.length, .int .i64 i, .int .i64 j] m = some (.tup [.int .i64 (lb strLess k ks : Nat), .bool (hasK strLess k ks)], m) := by
  intro d
  induction d with
  | zero =>
    intro i j hd hij hj h1 h2
    have e : i = j := by omega
    subst e
    have hlb : lb strLess k ks = i := lb_unique hj h1 (fun hx => h2 i hx (Nat.le_refl _))
    simp only [aps, ips, g46_0_is (H := H15), T.g46_0, Option.bind_some, p2, bin_lss, condA, decide_eq_false (show ¬ (i : Int) < (i : Int) by omega)]
    by_cases hi : i < ks.length
    · obtain ⟨b, rfl, g1, g2⟩ := h.key hi
      simp only [aps, ips, g46_2_is (H := H15), T.g46_2, D2_call, Option.bind_some, p2, q1, bin_seql, bin_lss, ifV, ld9, ix109, decide_eq_true (show (i : Int) < (ks.length : Int) by omega), true_or, if_true, g1, g2, f81_is (H := H15) rfl, T.f81, bin_sneq, decide_true, Bool.not_true]
      by_cases hk : ks[i] = k
      · rw [decide_eq_true hk]
        simp only [hasK, hlb, List.getElem?_eq_getElem hi, hk, decide_true]
      · rw [decide_eq_false hk]
        simp only [hasK, hlb, List.getElem?_eq_getElem hi, Option.some.injEq, decide_eq_false hk]
    · simp only [aps, ips, g46_2_is (H := H15), T.g46_2, D2_call, Option.bind_some, p2, q1, bin_lss, ifV, ld9, decide_eq_false (show ¬ (i : Int) < (ks.length : Int) by omega)]
      simp only [hasK, hlb, List.getElem?_eq_none (show ks.length ≤ i by omega), reduceCtorEq, decide_false]
  | succ d ih =>
    intro i j hd hij hj h1 h2
    by_cases e : i = j
    · exact ih i j (by omega) hij hj h1 h2
    · have hlt : i < j := by omega
      obtain ⟨hh, hh1⟩ : ∃ hh : Nat, hh = (i + j) / 2 := ⟨_, rfl⟩
      have hh2 : i ≤ hh ∧ hh < j := by omega
      have hh3 : IntKind.wrap .i64 ((IntKind.wrap .u64 (IntKind.wrap .i64 ((i : Int) + (j : Int)))).fdiv (2 ^ (min (1 : Int).toNat IntKind.u64.bits))) = (hh : Int) := by
        rw [wrap_i64 (n := (i : Int) + j) (by omega) (by omega), wrap_u64 (by omega) (by omega)]
        have : ((2 : Int) ^ (min (1 : Int).toNat IntKind.u64.bits)) = 2 := by rfl
        rw [this, Int.fdiv_eq_ediv_of_nonneg _ (by omega), wrap_i64 (by omega) (by omega)]
        omega
      have hx : hh < ks.length := by omega
      obtain ⟨b, rfl, g1, g2⟩ := h.key hx
      simp only [aps, ips, g46_0_is (H := H15), T.g46_0, Option.bind_some, p2, bin_lss, condA, decide_eq_true (show (i : Int) < (j : Int) by omega)]
      simp only [aps, ips, g46_1_is (H := H15), T.g46_1, D2_call, Option.bind_some, p2, p1, q1, bin_add, condA, ld9, ix109, cv3_127, cv127_3, bin_shr _ _ _ _ _ (show (0 : Int) ≤ 1 by omega), hh3, true_or, if_true, g1, g2, lessS_is]
      cases hc : strLess ks[hh] k with
      | true =>
        simp only
        rw [wrap_i64 (by omega) (by omega), show (hh : Int) + 1 = ((hh + 1 : Nat) : Int) by omega]
        refine ih (hh + 1) j (by omega) (by omega) hj (fun x hx' hlt' => ?_) h2
        by_cases e2 : x = hh
        · subst e2; exact hc
        · exact strLess_trans _ _ _ (srt_lt hs (show x < hh by omega) hx) hc
      | false =>
        simp only
        refine ih i hh (by omega) (by omega) (by omega) h1 (fun x hx' hle => ?_)
        by_cases e2 : x = hh
        · subst e2; exact hc
        · cases hc2 : strLess ks[x] k with
          | false => rfl
          | true => rw [strLess_trans _ _ _ (srt_lt hs (show hh < x by omega) hx') hc2] at hc; cases hc
theorem bsS_is (h : TRow 1 m sk (ks.map fun k => [.str k]) kb) (hs : Srt strLess ks) (hl : ks.length < 4611686018427387904) (k : (List UInt8)) :
    run E15 (.fn 46) [sk, .str k] m = some (.tup [.int .i64 (lb strLess k ks : Nat), .bool (hasK strLess k ks)], m) := by
  have := bsS_loop h hs hl k ks.length 0 ks.length (by omega) (by omega) (Nat.le_refl _) (by intro x _ hx; omega) (by intro x hx hx'; omega)
  obtain ⟨a, sz, cap, ex, rfl⟩ := h.klen
  simp only [aps, ips, f46_is (H := H15) rfl, T.f46, Option.bind_some, p1, len109]
  exact this
end
end Go.Proofs.YtlginbmjiecglaaGreat
end
section
namespace Go.Proofs.YtlginbmjiecglaaGreat
open Go Go.Abs

theorem inkP_is (xs : List AV) (m : Mem) : run E15 (.fn 47) xs m = insH Tryz.prog 109 xs m := run_hook rfl xs m
theorem invP_is (xs : List AV) (m : Mem) : run E15 (.fn 48) xs m = insH Tryz.prog 45 xs m := run_hook rfl xs m

section
variable {m : Mem} {t : Nat} {ks : List (List UInt8)} {vs : List (List AV)} {most : Int} {F : List Nat}

theorem newP_is (m : Mem) {most : Int} (h1 : 1 ≤ most) (h2 : most ≤ 4096) : ∃ m', run E15 (.fn 18) [.int .i64 most] m = some (.tup [.ptr (some ⟨m.next, 0⟩), .int .i64 0], m') ∧ m' = m.lay (.cells [.sl none 0 0 0 true, .sl none 0 0 0 true, .int .i64 most] false) := by
  refine ⟨_, ?_, rfl⟩
  simp only [aps, ips, f18_is (H := H15) rfl, T.f18, Option.bind_some, p2, bin_gtr, bin_lss, condA, ifV, decide_eq_false (show ¬ most < 1 by omega), decide_eq_false (show ¬ (4096 : Int) < most by omega)]
  simp only [lcs, ge, aps, ips, g18_0_is (H := H15), T.g18_0, Option.bind_some, p1, fillA, AV.cells, Option.map_some, Nat.reduceAdd, Nat.reduceLeDiff, if_true, boxA, bd111, AV.one]

theorem getP_in (h : TabAt (.str) 4 m t ks vs most F) (hs : Srt strLess ks) (hl : ks.length < 65536) (k : (List UInt8)) (hk : hasK strLess k ks = true) :
    ∃ v m', vs[lb strLess k ks]? = some v ∧ run E15 (.fn 22) [.ptr (some ⟨t, 0⟩), .str k] m = some (.tup [.agg v, .bool true], m') ∧ Fr m m' [] := by
  obtain ⟨⟨sk, sv, kb, vb, h1, h2, h3, h4, h5, h6, rfl⟩, h7⟩ := h
  have hlt : lb strLess k ks < ks.length := by
    have : ks[lb strLess k ks]? = some k := by simpa [hasK] using hk
    exact (List.getElem?_eq_some_iff.1 this).1
  have hf : Fr m (m.lay (.cells [.str [], .int .i64 0, .int .i64 0, .int .u64 0] false)) [] := (Fr.refl m).lay _
  have g1 := hf.get h1 (by simp)
  have g2 := h2.frame hf (by simp)
  have g3 := h3.frame hf (by simp)
  obtain ⟨b, rfl, a1, a2⟩ := g3.val (i := lb strLess k ks) (by omega)
  have a3 : ∀ i : Nat, ld1 (m.lay (.cells [.str [], .int .i64 0, .int .i64 0, .int .u64 0] false)) (.ptr (some ⟨t, i⟩)) = [sk, .sl (some ⟨b, 0⟩) 4 vs.length vs.length false, .int .i64 most][i]? := fun i => ld1_at g1
  have hv := h3.1 _ (List.getElem_mem (show lb strLess k ks < vs.length by omega))
  refine ⟨vs[lb strLess k ks], (m.lay (.cells [.str [], .int .i64 0, .int .i64 0, .int .u64 0] false)).put m.next (some (.cells vs[lb strLess k ks] false)), List.getElem?_eq_getElem (by omega), ?_, hf.put' (.inr (Nat.le_refl _))⟩
  simp only [ge, aps, ips, f22_is (H := H15) rfl, T.f22, D2_call, Option.bind_some, pB, p1, q1, nnA, extractA, condA, unA, resA, nth0, nth1, tupA, fa111_0, ld109, ld64, Nat.zero_add, Nat.add_zero, a3, bsS_is g2 hs (by omega), hk, Bool.not_true, g22_0_is (H := H15), T.g22_0, p2, fa111_1, ld45, ix45, true_or, if_true, a1, a2, st_all (n := 4) (lay_self m (.cells [.str [], .int .i64 0, .int .i64 0, .int .u64 0] false)) rfl hv.1 hv.2, ld_all (n := 4) (put_self (lay_self m (.cells [.str [], .int .i64 0, .int .i64 0, .int .u64 0] false))) hv.1]
theorem getP_out (h : TabAt (.str) 4 m t ks vs most F) (hs : Srt strLess ks) (hl : ks.length < 65536) (k : (List UInt8)) (hk : hasK strLess k ks = false) :
    ∃ m', run E15 (.fn 22) [.ptr (some ⟨t, 0⟩), .str k] m = some (.tup [.agg [.str [], .int .i64 0, .int .i64 0, .int .u64 0], .bool false], m') ∧ Fr m m' [] := by
  obtain ⟨⟨sk, sv, kb, vb, h1, h2, h3, h4, h5, h6, rfl⟩, h7⟩ := h
  have hf : Fr m (m.lay (.cells [.str [], .int .i64 0, .int .i64 0, .int .u64 0] false)) [] := (Fr.refl m).lay _
  have g1 := hf.get h1 (by simp)
  have g2 := h2.frame hf (by simp)
  have a3 : ∀ i : Nat, ld1 (m.lay (.cells [.str [], .int .i64 0, .int .i64 0, .int .u64 0] false)) (.ptr (some ⟨t, i⟩)) = [sk, sv, .int .i64 most][i]? := fun i => ld1_at g1
  have g3 : ((m.lay (.cells [.str [], .int .i64 0, .int .i64 0, .int .u64 0] false)).lay (.cells [.str [], .int .i64 0, .int .i64 0, .int .u64 0] false)).get m.next = some (.cells [.str [], .int .i64 0, .int .i64 0, .int .u64 0] false) := by rw [lay_ne (by simp)]; exact lay_self _ _
  refine ⟨((m.lay (.cells [.str [], .int .i64 0, .int .i64 0, .int .u64 0] false)).lay (.cells [.str [], .int .i64 0, .int .i64 0, .int .u64 0] false)).put m.next (some (.cells [.str [], .int .i64 0, .int .i64 0, .int .u64 0] false)), ?_, (hf.lay _).put' (.inr (Nat.le_refl _))⟩
  simp only [ge, aps, ips, f22_is (H := H15) rfl, T.f22, D2_call, Option.bind_some, pB, p1, q1, nnA, extractA, condA, unA, resA, nth0, nth1, tupA, fa111_0, ld109, ld64, Nat.add_zero, a3, bsS_is g2 hs (by omega), hk, Bool.not_false, ld_all (n := 4) (lay_self (m.lay (.cells [.str [], .int .i64 0, .int .i64 0, .int .u64 0] false)) (.cells [.str [], .int .i64 0, .int .i64 0, .int .u64 0] false)) rfl, st_all (n := 4) g3 rfl (show ([.str [], .int .i64 0, .int .i64 0, .int .u64 0] : List AV).length = 4 by rfl) (by rfl), ld_all (n := 4) (v := [.str [], .int .i64 0, .int .i64 0, .int .u64 0]) (put_self g3) rfl]

theorem putP_in (h : TabAt (.str) 4 m t ks vs most F) (hs : Srt strLess ks) (hl : ks.length < 65536) (k : (List UInt8)) (hk : hasK strLess k ks = true) {v : List AV} (hv : v.length = 4) (ho : v.all AV.one = true) :
    ∃ m', run E15 (.fn 24) [.ptr (some ⟨t, 0⟩), .str k, .agg v] m = some (.bool true, m') ∧ TabAt (.str) 4 m' t ks (vs.set (lb strLess k ks) v) most F ∧ Fr m m' F := by
  have hlt : lb strLess k ks < ks.length := by
    have : ks[lb strLess k ks]? = some k := by simpa [hasK] using hk
    exact (List.getElem?_eq_some_iff.1 this).1
  have hf : Fr m (m.lay (.cells v false)) [] := (Fr.refl m).lay _
  have h' := h.frame hf (by simp)
  obtain ⟨sk, sv, b, m', g1, rfl, a1, a2, a5, a6⟩ := h'.set hlt hv ho
  obtain ⟨⟨sk', sv', kb, vb, h1, h2, h3, h4, h5, h6, e⟩, h7⟩ := h'
  rw [g1] at h1
  cases h1
  have a3 : ∀ i : Nat, ld1 (m.lay (.cells v false)) (.ptr (some ⟨t, i⟩)) = [sk, .sl (some ⟨b, 0⟩) 4 vs.length vs.length false, .int .i64 most][i]? := fun i => ld1_at g1
  have a4 : ldN (m.lay (.cells v false)) (.ptr (some ⟨m.next, 0⟩)) 4 = some (.agg v) := by
    rw [ldN_at (lay_self _ _) (by omega), List.drop_zero, List.take_of_length_le (by omega)]
  refine ⟨m', ?_, a5, (hf.any F).step a6 (fun c hc => .inl hc)⟩
  simp only [ge, aps, ips, f24_is (H := H15) rfl, T.f24, D2_call, Option.bind_some, p1, q1, p2, boxA, nnA, extractA, condA, fa111_0, fa111_1, fa111_2, ld109, ld45, ld64, ld3, ix45, Nat.zero_add, Nat.add_zero, agg_cells ho, Option.map_some, a3, a4, bsS_is h2 hs (by omega), hk, true_or, if_true, a1, a2, g24_0_is (H := H15), T.g24_0]

theorem putP_full (h : TabAt (.str) 4 m t ks vs most F) (hs : Srt strLess ks) (hl : ks.length < 65536) (k : (List UInt8)) (hk : hasK strLess k ks = false) (hf : most ≤ ks.length) {v : List AV} (ho : v.all AV.one = true) :
    ∃ m', run E15 (.fn 24) [.ptr (some ⟨t, 0⟩), .str k, .agg v] m = some (.bool false, m') ∧ Fr m m' [] := by
  obtain ⟨⟨sk, sv, kb, vb, h1, h2, h3, h4, h5, h6, rfl⟩, h7⟩ := h
  have hf0 : Fr m (m.lay (.cells v false)) [] := (Fr.refl m).lay _
  have g1 := hf0.get h1 (by simp)
  have g2 := h2.frame hf0 (by simp)
  obtain ⟨a, sz, cap, ex, rfl⟩ := h2.klen
  have a3 : ∀ i : Nat, ld1 (m.lay (.cells v false)) (.ptr (some ⟨t, i⟩)) = [.sl a sz ks.length cap ex, sv, .int .i64 most][i]? := fun i => ld1_at g1
  refine ⟨_, ?_, hf0⟩
  simp only [ge, aps, ips, f24_is (H := H15) rfl, T.f24, D2_call, Option.bind_some, p1, q1, p2, bin_geq, boxA, nnA, extractA, condA, fa111_0, fa111_1, fa111_2, ld109, ld45, ld64, ld3, len109, Nat.zero_add, Nat.add_zero, agg_cells ho, Option.map_some, a3, bsS_is g2 hs (by omega), hk, decide_eq_true (show most ≤ (ks.length : Int) by omega)]

theorem putP_new (h : TabAt (.str) 4 m t ks vs most F) (hs : Srt strLess ks) (hl : ks.length < 4096) (k : (List UInt8)) (hk : hasK strLess k ks = false) (hf : (ks.length : Int) < most) {v : List AV} (hv : v.length = 4) (ho : v.all AV.one = true) :
    ∃ m' F', run E15 (.fn 24) [.ptr (some ⟨t, 0⟩), .str k, .agg v] m = some (.bool true, m') ∧ TabAt (.str) 4 m' t (insL (lb strLess k ks) k ks) (insL (lb strLess k ks) v vs) most F' ∧ Fr m m' F ∧ ∀ c, c ∈ F' → c ∈ F ∨ m.next ≤ c := by
  have hf0 : Fr m (m.lay (.cells v false)) [] := (Fr.refl m).lay _
  have h' := h.frame hf0 (by simp)
  obtain ⟨sk, sv, sk', m2, sv', m5, F', g1, a1, a2, a3, a4, b1, b2, b3, b4, b5, b6⟩ := h'.ins (P := Tryz.prog) (st1 := 109) (e1 := 9) (st2 := 45) (e2 := 64) (w1 := 16) (w2 := 40) (zs1 := [.str []]) (zs2 := [.str [], .int .i64 0, .int .i64 0, .int .u64 0]) (by kernel_rfl) (by kernel_rfl) (by kernel_rfl) (by kernel_rfl) (by kernel_rfl) (by decide) (by kernel_rfl) (by kernel_rfl) (by kernel_rfl) (by kernel_rfl) (by kernel_rfl) (by decide) (by decide)
    (fun _ => rfl) (lb_le k ks) hl (by decide) (k := k) hv ho
  obtain ⟨⟨sk1, sv1, kb, vb, h1, h2, h3, h4, h5, h6, e⟩, h7⟩ := h'
  rw [g1] at h1
  cases h1
  obtain ⟨x, sz, cap, ex, rfl⟩ := h2.klen
  have c1 : ∀ i : Nat, ld1 (m.lay (.cells v false)) (.ptr (some ⟨t, i⟩)) = [.sl x sz ks.length cap ex, sv, .int .i64 most][i]? := fun i => ld1_at g1
  have c2 : ∀ i : Nat, ld1 (m2.put t (some (.cells [sk', sv, .int .i64 most] false))) (.ptr (some ⟨t, i⟩)) = [sk', sv, .int .i64 most][i]? := fun i => ld1_at a3
  have c3 : ldN (m2.put t (some (.cells [sk', sv, .int .i64 most] false))) (.ptr (some ⟨m.next, 0⟩)) 4 = some (.agg v) := by
    have : (m2.put t (some (.cells [sk', sv, .int .i64 most] false))).get m.next = some (.cells v false) := b4.get (lay_self _ _) (fun hm => by have := h.lt _ hm; omega)
    rw [ldN_at this (by omega), List.drop_zero, List.take_of_length_le (by omega)]
  have c4 : (m2.put t (some (.cells [sk', sv, .int .i64 most] false))).next = m2.next := rfl
  refine ⟨_, F', ?_, b3, (hf0.any F).step b5 (fun c hc => .inl hc), fun c hc => (b6 c hc).imp id (fun h => by have : m.next ≤ (m.lay (.cells v false)).next := hf0.next; omega)⟩
  simp only [ge, aps, ips, f24_is (H := H15) rfl, T.f24, D2_call, Option.bind_some, p1, q1, p2, bin_geq, boxA, nnA, extractA, condA, fa111_0, fa111_1, fa111_2, ld109, ld45, ld64, ld3, len109, Nat.zero_add, Nat.add_zero, agg_cells ho, Option.map_some, bs_one1 (x := .str k) (by rfl), bs_agg (n := 4) (zs := [.str [], .int .i64 0, .int .i64 0, .int .u64 0]) ho hv (by rfl), c1, bsS_is h2 hs (by omega), hk, decide_eq_false (show ¬ most ≤ (ks.length : Int) by omega), inkP_is, invP_is, a1, a2, c2, c3, c4, b1, b2, g24_0_is (H := H15), T.g24_0]

theorem getP_is (h : TabAt (.str) 4 m t ks vs most F) (hs : Srt strLess ks) (hl : ks.length < 65536) (k : (List UInt8)) :
    ∃ v m', run E15 (.fn 22) [.ptr (some ⟨t, 0⟩), .str k] m = some (.tup [.agg v, .bool (hasK strLess k ks)], m') ∧ (hasK strLess k ks = true → vs[lb strLess k ks]? = some v) ∧ (hasK strLess k ks = false → v = [.str [], .int .i64 0, .int .i64 0, .int .u64 0]) ∧ v.length = 4 ∧ v.all AV.one = true ∧ Fr m m' [] := by
  cases hk : hasK strLess k ks with
  | true =>
    obtain ⟨v, m', h1, h2, h3⟩ := getP_in h hs hl k hk
    obtain ⟨⟨sk, sv, kb, vb, _, _, g3, _⟩, _⟩ := h
    have := g3.1 v (List.mem_of_getElem? h1)
    exact ⟨v, m', h2, fun _ => h1, nofun, this.1, this.2, h3⟩
  | false =>
    obtain ⟨m', h2, h3⟩ := getP_out h hs hl k hk
    exact ⟨_, m', h2, nofun, fun _ => rfl, rfl, rfl, h3⟩
theorem putP_is (h : TabAt (.str) 4 m t ks vs most F) (hs : Srt strLess ks) (hl : ks.length < 4096) (k : (List UInt8)) {v : List AV} (hv : v.length = 4) (ho : v.all AV.one = true) :
    ∃ m' F', run E15 (.fn 24) [.ptr (some ⟨t, 0⟩), .str k, .agg v] m = some (.bool (hasK strLess k ks || decide ((ks.length : Int) < most)), m') ∧
      TabAt (.str) 4 m' t (putK strLess k ks most) (putV strLess k ks v vs most) most F' ∧ Fr m m' F ∧ ∀ c, c ∈ F' → c ∈ F ∨ m.next ≤ c := by
  unfold putK putV
  cases hk : hasK strLess k ks with
  | true =>
    obtain ⟨m', h1, h2, h3⟩ := putP_in h hs (by omega) k hk hv ho
    exact ⟨m', F, h1, by simpa using h2, h3, fun c hc => .inl hc⟩
  | false =>
    by_cases hf : (ks.length : Int) < most
    · obtain ⟨m', F', h1, h2, h3, h4⟩ := putP_new h hs hl k hk hf hv ho
      exact ⟨m', F', by simpa [hf] using h1, by simpa [hf] using h2, h3, h4⟩
    · obtain ⟨m', h1, h2⟩ := putP_full h hs (by omega) k hk (by omega) ho
      exact ⟨m', F, by simpa [hf] using h1, by simpa [hf] using h.frame h2 (by simp), h2.any F, fun c hc => .inl hc⟩
end
end Go.Proofs.YtlginbmjiecglaaGreat
end
section
namespace Go.Proofs.YtlginbmjiecglaaGreat
open Go Go.Abs

theorem lessU_is (a b : Int) (m : Mem) : run E15 (.fn 86) [.int .u64 a, .int .u64 b] m = some (.bool (intLess a b), m) := by
  simp only [aps, ips, f86_is (H := H15) rfl, T.f86, D2_call, Option.bind_some, p1, p2, bin_lss, ifV, unA, f104_is (H := H15) rfl, T.f104, bin_neq, decide_true, Bool.not_true]
  try rfl

section
variable {m : Mem} {sk : AV} {ks : List Int} {kb : Option Nat}
theorem bsU_loop (h : TRow 1 m sk (ks.map fun k => [.int .u64 k]) kb) (hs : Srt intLess ks) (hl : ks.length < 4611686018427387904) (k : Int) : ∀ (d i j : Nat), j - i ≤ d → i ≤ j → j ≤ ks.length →
    (∀ x (hx : x < ks.length), x < i → intLess ks[x] k = true) → (∀ x (hx : x < ks.length), j ≤ x → intLess ks[x] k = false) →
    D15.gor 200704 [sk, .int .u64 k, .int .i64 ks.length, .int .i64 i, .int .i64 j] m = some (.tup [.int .i64 (lb intLess k ks : Nat), .bool (hasK intLess k ks)], m) := by
  intro d
  induction d with
  | zero =>
    intro i j hd hij hj h1 h2
    have e : i = j := by omega
    subst e
    have hlb : lb intLess k ks = i := lb_unique hj h1 (fun hx => h2 i hx (Nat.le_refl _))
    simp only [aps, ips, g49_0_is (H := H15), T.g49_0, Option.bind_some, p2, bin_lss, condA, decide_eq_false (show ¬ (i : Int) < (i : Int) by omega)]
    by_cases hi : i < ks.length
    · obtain ⟨b, rfl, g1, g2⟩ := h.key hi
      simp only [aps, ips, g49_2_is (H := H15), T.g49_2, D2_call, Option.bind_some, p2, q1, bin_eql, bin_lss, ifV, ld30, ix114, decide_eq_true (show (i : Int) < (ks.length : Int) by omega), true_or, if_true, g1, g2, f87_is (H := H15) rfl, T.f87, bin_neq, decide_true, Bool.not_true]
      by_cases hk : ks[i] = k
      · rw [decide_eq_true hk]
        simp only [hasK, hlb, List.getElem?_eq_getElem hi, hk, decide_true]
      · rw [decide_eq_false hk]
        simp only [hasK, hlb, List.getElem?_eq_getElem hi, Option.some.injEq, decide_eq_false hk]
    · simp only [aps, ips, g49_2_is (H := H15), T.g49_2, D2_call, Option.bind_some, p2, q1, bin_lss, ifV, ld30, decide_eq_false (show ¬ (i : Int) < (ks.length : Int) by omega)]
      simp only [hasK, hlb, List.getElem?_eq_none (show ks.length ≤ i by omega), reduceCtorEq, decide_false]
  | succ d ih =>
    intro i j hd hij hj h1 h2
    by_cases e : i = j
    · exact ih i j (by omega) hij hj h1 h2
    · have hlt : i < j := by omega
      obtain ⟨hh, hh1⟩ : ∃ hh : Nat, hh = (i + j) / 2 := ⟨_, rfl⟩
      have hh2 : i ≤ hh ∧ hh < j := by omega
      have hh3 : IntKind.wrap .i64 ((IntKind.wrap .u64 (IntKind.wrap .i64 ((i : Int) + (j : Int)))).fdiv (2 ^ (min (1 : Int).toNat IntKind.u64.bits))) = (hh : Int) := by
        rw [wrap_i64 (n := (i : Int) + j) (by omega) (by omega), wrap_u64 (by omega) (by omega)]
        have : ((2 : Int) ^ (min (1 : Int).toNat IntKind.u64.bits)) = 2 := by rfl
        rw [this, Int.fdiv_eq_ediv_of_nonneg _ (by omega), wrap_i64 (by omega) (by omega)]
        omega
      have hx : hh < ks.length := by omega
      obtain ⟨b, rfl, g1, g2⟩ := h.key hx
      simp only [aps, ips, g49_0_is (H := H15), T.g49_0, Option.bind_some, p2, bin_lss, condA, decide_eq_true (show (i : Int) < (j : Int) by omega)]
      simp only [aps, ips, g49_1_is (H := H15), T.g49_1, D2_call, Option.bind_some, p2, p1, q1, bin_add, condA, ld30, ix114, cv3_127, cv127_3, bin_shr _ _ _ _ _ (show (0 : Int) ≤ 1 by omega), hh3, true_or, if_true, g1, g2, lessU_is]
      cases hc : intLess ks[hh] k with
      | true =>
        simp only
        rw [wrap_i64 (by omega) (by omega), show (hh : Int) + 1 = ((hh + 1 : Nat) : Int) by omega]
        refine ih (hh + 1) j (by omega) (by omega) hj (fun x hx' hlt' => ?_) h2
        by_cases e2 : x = hh
        · subst e2; exact hc
        · exact intLess_trans _ _ _ (srt_lt hs (show x < hh by omega) hx) hc
      | false =>
        simp only
        refine ih i hh (by omega) (by omega) (by omega) h1 (fun x hx' hle => ?_)
        by_cases e2 : x = hh
        · subst e2; exact hc
        · cases hc2 : intLess ks[x] k with
          | false => rfl
          | true => rw [intLess_trans _ _ _ (srt_lt hs (show hh < x by omega) hx') hc2] at hc; cases hc
theorem bsU_is (h : TRow 1 m sk (ks.map fun k => [.int .u64 k]) kb) (hs : Srt intLess ks) (hl : ks.length < 4611686018427387904) (k : Int) :
    run E15 (.fn 49) [sk, .int .u64 k] m = some (.tup [.int .i64 (lb intLess k ks : Nat), .bool (hasK intLess k ks)], m) := by
  have := bsU_loop h hs hl k ks.length 0 ks.length (by omega) (by omega) (Nat.le_refl _) (by intro x _ hx; omega) (by intro x hx hx'; omega)
  obtain ⟨a, sz, cap, ex, rfl⟩ := h.klen
  simp only [aps, ips, f49_is (H := H15) rfl, T.f49, Option.bind_some, p1, len114]
  exact this
end
end Go.Proofs.YtlginbmjiecglaaGreat
end
section
namespace Go.Proofs.YtlginbmjiecglaaGreat
open Go Go.Abs

theorem inkA_is (xs : List AV) (m : Mem) : run E15 (.fn 50) xs m = insH Tryz.prog 114 xs m := run_hook rfl xs m
theorem invA_is (xs : List AV) (m : Mem) : run E15 (.fn 51) xs m = insH Tryz.prog 47 xs m := run_hook rfl xs m

section
variable {m : Mem} {t : Nat} {ks : List Int} {vs : List (List AV)} {most : Int} {F : List Nat}

theorem newA_is (m : Mem) {most : Int} (h1 : 1 ≤ most) (h2 : most ≤ 4096) : ∃ m', run E15 (.fn 20) [.int .i64 most] m = some (.tup [.ptr (some ⟨m.next, 0⟩), .int .i64 0], m') ∧ m' = m.lay (.cells [.sl none 0 0 0 true, .sl none 0 0 0 true, .int .i64 most] false) := by
  refine ⟨_, ?_, rfl⟩
  simp only [aps, ips, f20_is (H := H15) rfl, T.f20, Option.bind_some, p2, bin_gtr, bin_lss, condA, ifV, decide_eq_false (show ¬ most < 1 by omega), decide_eq_false (show ¬ (4096 : Int) < most by omega)]
  simp only [lcs, ge, aps, ips, g20_0_is (H := H15), T.g20_0, Option.bind_some, p1, fillA, AV.cells, Option.map_some, Nat.reduceAdd, Nat.reduceLeDiff, if_true, boxA, bd116, AV.one]

theorem getA_in (h : TabAt (.int .u64) 4 m t ks vs most F) (hs : Srt intLess ks) (hl : ks.length < 65536) (k : Int) (hk : hasK intLess k ks = true) :
    ∃ v m', vs[lb intLess k ks]? = some v ∧ run E15 (.fn 52) [.ptr (some ⟨t, 0⟩), .int .u64 k] m = some (.tup [.agg v, .bool true], m') ∧ Fr m m' [] := by
  obtain ⟨⟨sk, sv, kb, vb, h1, h2, h3, h4, h5, h6, rfl⟩, h7⟩ := h
  have hlt : lb intLess k ks < ks.length := by
    have : ks[lb intLess k ks]? = some k := by simpa [hasK] using hk
    exact (List.getElem?_eq_some_iff.1 this).1
  have hf : Fr m (m.lay (.cells [.int .u64 0, .str [], .int .i64 0, .int .u64 0] false)) [] := (Fr.refl m).lay _
  have g1 := hf.get h1 (by simp)
  have g2 := h2.frame hf (by simp)
  have g3 := h3.frame hf (by simp)
  obtain ⟨b, rfl, a1, a2⟩ := g3.val (i := lb intLess k ks) (by omega)
  have a3 : ∀ i : Nat, ld1 (m.lay (.cells [.int .u64 0, .str [], .int .i64 0, .int .u64 0] false)) (.ptr (some ⟨t, i⟩)) = [sk, .sl (some ⟨b, 0⟩) 4 vs.length vs.length false, .int .i64 most][i]? := fun i => ld1_at g1
  have hv := h3.1 _ (List.getElem_mem (show lb intLess k ks < vs.length by omega))
  refine ⟨vs[lb intLess k ks], (m.lay (.cells [.int .u64 0, .str [], .int .i64 0, .int .u64 0] false)).put m.next (some (.cells vs[lb intLess k ks] false)), List.getElem?_eq_getElem (by omega), ?_, hf.put' (.inr (Nat.le_refl _))⟩
  simp only [ge, aps, ips, f52_is (H := H15) rfl, T.f52, D2_call, Option.bind_some, pB, p1, q1, nnA, extractA, condA, unA, resA, nth0, nth1, tupA, fa116_0, ld114, ld70, Nat.zero_add, Nat.add_zero, a3, bsU_is g2 hs (by omega), hk, Bool.not_true, g52_0_is (H := H15), T.g52_0, p2, fa116_1, ld47, ix47, true_or, if_true, a1, a2, st_all (n := 4) (lay_self m (.cells [.int .u64 0, .str [], .int .i64 0, .int .u64 0] false)) rfl hv.1 hv.2, ld_all (n := 4) (put_self (lay_self m (.cells [.int .u64 0, .str [], .int .i64 0, .int .u64 0] false))) hv.1]
theorem getA_out (h : TabAt (.int .u64) 4 m t ks vs most F) (hs : Srt intLess ks) (hl : ks.length < 65536) (k : Int) (hk : hasK intLess k ks = false) :
    ∃ m', run E15 (.fn 52) [.ptr (some ⟨t, 0⟩), .int .u64 k] m = some (.tup [.agg [.int .u64 0, .str [], .int .i64 0, .int .u64 0], .bool false], m') ∧ Fr m m' [] := by
  obtain ⟨⟨sk, sv, kb, vb, h1, h2, h3, h4, h5, h6, rfl⟩, h7⟩ := h
  have hf : Fr m (m.lay (.cells [.int .u64 0, .str [], .int .i64 0, .int .u64 0] false)) [] := (Fr.refl m).lay _
  have g1 := hf.get h1 (by simp)
  have g2 := h2.frame hf (by simp)
  have a3 : ∀ i : Nat, ld1 (m.lay (.cells [.int .u64 0, .str [], .int .i64 0, .int .u64 0] false)) (.ptr (some ⟨t, i⟩)) = [sk, sv, .int .i64 most][i]? := fun i => ld1_at g1
  have g3 : ((m.lay (.cells [.int .u64 0, .str [], .int .i64 0, .int .u64 0] false)).lay (.cells [.int .u64 0, .str [], .int .i64 0, .int .u64 0] false)).get m.next = some (.cells [.int .u64 0, .str [], .int .i64 0, .int .u64 0] false) := by rw [lay_ne (by simp)]; exact lay_self _ _
  refine ⟨((m.lay (.cells [.int .u64 0, .str [], .int .i64 0, .int .u64 0] false)).lay (.cells [.int .u64 0, .str [], .int .i64 0, .int .u64 0] false)).put m.next (some (.cells [.int .u64 0, .str [], .int .i64 0, .int .u64 0] false)), ?_, (hf.lay _).put' (.inr (Nat.le_refl _))⟩
  simp only [ge, aps, ips, f52_is (H := H15) rfl, T.f52, D2_call, Option.bind_some, pB, p1, q1, nnA, extractA, condA, unA, resA, nth0, nth1, tupA, fa116_0, ld114, ld70, Nat.add_zero, a3, bsU_is g2 hs (by omega), hk, Bool.not_false, ld_all (n := 4) (lay_self (m.lay (.cells [.int .u64 0, .str [], .int .i64 0, .int .u64 0] false)) (.cells [.int .u64 0, .str [], .int .i64 0, .int .u64 0] false)) rfl, st_all (n := 4) g3 rfl (show ([.int .u64 0, .str [], .int .i64 0, .int .u64 0] : List AV).length = 4 by rfl) (by rfl), ld_all (n := 4) (v := [.int .u64 0, .str [], .int .i64 0, .int .u64 0]) (put_self g3) rfl]

theorem putA_in (h : TabAt (.int .u64) 4 m t ks vs most F) (hs : Srt intLess ks) (hl : ks.length < 65536) (k : Int) (hk : hasK intLess k ks = true) {v : List AV} (hv : v.length = 4) (ho : v.all AV.one = true) :
    ∃ m', run E15 (.fn 26) [.ptr (some ⟨t, 0⟩), .int .u64 k, .agg v] m = some (.bool true, m') ∧ TabAt (.int .u64) 4 m' t ks (vs.set (lb intLess k ks) v) most F ∧ Fr m m' F := by
  have hlt : lb intLess k ks < ks.length := by
    have : ks[lb intLess k ks]? = some k := by simpa [hasK] using hk
    exact (List.getElem?_eq_some_iff.1 this).1
  have hf : Fr m (m.lay (.cells v false)) [] := (Fr.refl m).lay _
  have h' := h.frame hf (by simp)
  obtain ⟨sk, sv, b, m', g1, rfl, a1, a2, a5, a6⟩ := h'.set hlt hv ho
  obtain ⟨⟨sk', sv', kb, vb, h1, h2, h3, h4, h5, h6, e⟩, h7⟩ := h'
  rw [g1] at h1
  cases h1
  have a3 : ∀ i : Nat, ld1 (m.lay (.cells v false)) (.ptr (some ⟨t, i⟩)) = [sk, .sl (some ⟨b, 0⟩) 4 vs.length vs.length false, .int .i64 most][i]? := fun i => ld1_at g1
  have a4 : ldN (m.lay (.cells v false)) (.ptr (some ⟨m.next, 0⟩)) 4 = some (.agg v) := by
    rw [ldN_at (lay_self _ _) (by omega), List.drop_zero, List.take_of_length_le (by omega)]
  refine ⟨m', ?_, a5, (hf.any F).step a6 (fun c hc => .inl hc)⟩
  simp only [ge, aps, ips, f26_is (H := H15) rfl, T.f26, D2_call, Option.bind_some, p1, q1, p2, boxA, nnA, extractA, condA, fa116_0, fa116_1, fa116_2, ld114, ld47, ld70, ld3, ix47, Nat.zero_add, Nat.add_zero, agg_cells ho, Option.map_some, a3, a4, bsU_is h2 hs (by omega), hk, true_or, if_true, a1, a2, g26_0_is (H := H15), T.g26_0]

theorem putA_full (h : TabAt (.int .u64) 4 m t ks vs most F) (hs : Srt intLess ks) (hl : ks.length < 65536) (k : Int) (hk : hasK intLess k ks = false) (hf : most ≤ ks.length) {v : List AV} (ho : v.all AV.one = true) :
    ∃ m', run E15 (.fn 26) [.ptr (some ⟨t, 0⟩), .int .u64 k, .agg v] m = some (.bool false, m') ∧ Fr m m' [] := by
  obtain ⟨⟨sk, sv, kb, vb, h1, h2, h3, h4, h5, h6, rfl⟩, h7⟩ := h
  have hf0 : Fr m (m.lay (.cells v false)) [] := (Fr.refl m).lay _
  have g1 := hf0.get h1 (by simp)
  have g2 := h2.frame hf0 (by simp)
  obtain ⟨a, sz, cap, ex, rfl⟩ := h2.klen
  have a3 : ∀ i : Nat, ld1 (m.lay (.cells v false)) (.ptr (some ⟨t, i⟩)) = [.sl a sz ks.length cap ex, sv, .int .i64 most][i]? := fun i => ld1_at g1
  refine ⟨_, ?_, hf0⟩
  simp only [ge, aps, ips, f26_is (H := H15) rfl, T.f26, D2_call, Option.bind_some, p1, q1, p2, bin_geq, boxA, nnA, extractA, condA, fa116_0, fa116_1, fa116_2, ld114, ld47, ld70, ld3, len114, Nat.zero_add, Nat.add_zero, agg_cells ho, Option.map_some, a3, bsU_is g2 hs (by omega), hk, decide_eq_true (show most ≤ (ks.length : Int) by omega)]

theorem putA_new (h : TabAt (.int .u64) 4 m t ks vs most F) (hs : Srt intLess ks) (hl : ks.length < 4096) (k : Int) (hk : hasK intLess k ks = false) (hf : (ks.length : Int) < most) {v : List AV} (hv : v.length = 4) (ho : v.all AV.one = true) :
    ∃ m' F', run E15 (.fn 26) [.ptr (some ⟨t, 0⟩), .int .u64 k, .agg v] m = some (.bool true, m') ∧ TabAt (.int .u64) 4 m' t (insL (lb intLess k ks) k ks) (insL (lb intLess k ks) v vs) most F' ∧ Fr m m' F ∧ ∀ c, c ∈ F' → c ∈ F ∨ m.next ≤ c := by
  have hf0 : Fr m (m.lay (.cells v false)) [] := (Fr.refl m).lay _
  have h' := h.frame hf0 (by simp)
  obtain ⟨sk, sv, sk', m2, sv', m5, F', g1, a1, a2, a3, a4, b1, b2, b3, b4, b5, b6⟩ := h'.ins (P := Tryz.prog) (st1 := 114) (e1 := 30) (st2 := 47) (e2 := 70) (w1 := 8) (w2 := 40) (zs1 := [.int .u64 0]) (zs2 := [.int .u64 0, .str [], .int .i64 0, .int .u64 0]) (by kernel_rfl) (by kernel_rfl) (by kernel_rfl) (by kernel_rfl) (by kernel_rfl) (by decide) (by kernel_rfl) (by kernel_rfl) (by kernel_rfl) (by kernel_rfl) (by kernel_rfl) (by decide) (by decide)
    (fun _ => rfl) (lb_le k ks) hl (by decide) (k := k) hv ho
  obtain ⟨⟨sk1, sv1, kb, vb, h1, h2, h3, h4, h5, h6, e⟩, h7⟩ := h'
  rw [g1] at h1
  cases h1
  obtain ⟨x, sz, cap, ex, rfl⟩ := h2.klen
  have c1 : ∀ i : Nat, ld1 (m.lay (.cells v false)) (.ptr (some ⟨t, i⟩)) = [.sl x sz ks.length cap ex, sv, .int .i64 most][i]? := fun i => ld1_at g1
  have c2 : ∀ i : Nat, ld1 (m2.put t (some (.cells [sk', sv, .int .i64 most] false))) (.ptr (some ⟨t, i⟩)) = [sk', sv, .int .i64 most][i]? := fun i => ld1_at a3
  have c3 : ldN (m2.put t (some (.cells [sk', sv, .int .i64 most] false))) (.ptr (some ⟨m.next, 0⟩)) 4 = some (.agg v) := by
    have : (m2.put t (some (.cells [sk', sv, .int .i64 most] false))).get m.next = some (.cells v false) := b4.get (lay_self _ _) (fun hm => by have := h.lt _ hm; omega)
    rw [ldN_at this (by omega), List.drop_zero, List.take_of_length_le (by omega)]
  have c4 : (m2.put t (some (.cells [sk', sv, .int .i64 most] false))).next = m2.next := rfl
  refine ⟨_, F', ?_, b3, (hf0.any F).step b5 (fun c hc => .inl hc), fun c hc => (b6 c hc).imp id (fun h => by have : m.next ≤ (m.lay (.cells v false)).next := hf0.next; omega)⟩
  simp only [ge, aps, ips, f26_is (H := H15) rfl, T.f26, D2_call, Option.bind_some, p1, q1, p2, bin_geq, boxA, nnA, extractA, condA, fa116_0, fa116_1, fa116_2, ld114, ld47, ld70, ld3, len114, Nat.zero_add, Nat.add_zero, agg_cells ho, Option.map_some, bs_one1 (x := .int .u64 k) (by rfl), bs_agg (n := 4) (zs := [.int .u64 0, .str [], .int .i64 0, .int .u64 0]) ho hv (by rfl), c1, bsU_is h2 hs (by omega), hk, decide_eq_false (show ¬ most ≤ (ks.length : Int) by omega), inkA_is, invA_is, a1, a2, c2, c3, c4, b1, b2, g26_0_is (H := H15), T.g26_0]

theorem getA_is (h : TabAt (.int .u64) 4 m t ks vs most F) (hs : Srt intLess ks) (hl : ks.length < 65536) (k : Int) :
    ∃ v m', run E15 (.fn 52) [.ptr (some ⟨t, 0⟩), .int .u64 k] m = some (.tup [.agg v, .bool (hasK intLess k ks)], m') ∧ (hasK intLess k ks = true → vs[lb intLess k ks]? = some v) ∧ (hasK intLess k ks = false → v = [.int .u64 0, .str [], .int .i64 0, .int .u64 0]) ∧ v.length = 4 ∧ v.all AV.one = true ∧ Fr m m' [] := by
  cases hk : hasK intLess k ks with
  | true =>
    obtain ⟨v, m', h1, h2, h3⟩ := getA_in h hs hl k hk
    obtain ⟨⟨sk, sv, kb, vb, _, _, g3, _⟩, _⟩ := h
    have := g3.1 v (List.mem_of_getElem? h1)
    exact ⟨v, m', h2, fun _ => h1, nofun, this.1, this.2, h3⟩
  | false =>
    obtain ⟨m', h2, h3⟩ := getA_out h hs hl k hk
    exact ⟨_, m', h2, nofun, fun _ => rfl, rfl, rfl, h3⟩
theorem putA_is (h : TabAt (.int .u64) 4 m t ks vs most F) (hs : Srt intLess ks) (hl : ks.length < 4096) (k : Int) {v : List AV} (hv : v.length = 4) (ho : v.all AV.one = true) :
    ∃ m' F', run E15 (.fn 26) [.ptr (some ⟨t, 0⟩), .int .u64 k, .agg v] m = some (.bool (hasK intLess k ks || decide ((ks.length : Int) < most)), m') ∧
      TabAt (.int .u64) 4 m' t (putK intLess k ks most) (putV intLess k ks v vs most) most F' ∧ Fr m m' F ∧ ∀ c, c ∈ F' → c ∈ F ∨ m.next ≤ c := by
  unfold putK putV
  cases hk : hasK intLess k ks with
  | true =>
    obtain ⟨m', h1, h2, h3⟩ := putA_in h hs (by omega) k hk hv ho
    exact ⟨m', F, h1, by simpa using h2, h3, fun c hc => .inl hc⟩
  | false =>
    by_cases hf : (ks.length : Int) < most
    · obtain ⟨m', F', h1, h2, h3, h4⟩ := putA_new h hs hl k hk hf hv ho
      exact ⟨m', F', by simpa [hf] using h1, by simpa [hf] using h2, h3, h4⟩
    · obtain ⟨m', h1, h2⟩ := putA_full h hs (by omega) k hk (by omega) ho
      exact ⟨m', F, by simpa [hf] using h1, by simpa [hf] using h.frame h2 (by simp), h2.any F, fun c hc => .inl hc⟩
end
end Go.Proofs.YtlginbmjiecglaaGreat
end
section
namespace Go.Proofs.YtlginbmjiecglaaGreat
open Go Go.Abs

theorem inkQ_is (xs : List AV) (m : Mem) : run E15 (.fn 47) xs m = insH Tryz.prog 109 xs m := run_hook rfl xs m
theorem invQ_is (xs : List AV) (m : Mem) : run E15 (.fn 57) xs m = insH Tryz.prog 46 xs m := run_hook rfl xs m

section
variable {m : Mem} {t : Nat} {ks : List (List UInt8)} {vs : List (List AV)} {most : Int} {F : List Nat}

theorem newQ_is (m : Mem) {most : Int} (h1 : 1 ≤ most) (h2 : most ≤ 4096) : ∃ m', run E15 (.fn 19) [.int .i64 most] m = some (.tup [.ptr (some ⟨m.next, 0⟩), .int .i64 0], m') ∧ m' = m.lay (.cells [.sl none 0 0 0 true, .sl none 0 0 0 true, .int .i64 most] false) := by
  refine ⟨_, ?_, rfl⟩
  simp only [aps, ips, f19_is (H := H15) rfl, T.f19, Option.bind_some, p2, bin_gtr, bin_lss, condA, ifV, decide_eq_false (show ¬ most < 1 by omega), decide_eq_false (show ¬ (4096 : Int) < most by omega)]
  simp only [lcs, ge, aps, ips, g19_0_is (H := H15), T.g19_0, Option.bind_some, p1, fillA, AV.cells, Option.map_some, Nat.reduceAdd, Nat.reduceLeDiff, if_true, boxA, bd113, AV.one]

theorem getQ_in (h : TabAt (.str) 9 m t ks vs most F) (hs : Srt strLess ks) (hl : ks.length < 65536) (k : (List UInt8)) (hk : hasK strLess k ks = true) :
    ∃ v m', vs[lb strLess k ks]? = some v ∧ run E15 (.fn 33) [.ptr (some ⟨t, 0⟩), .str k] m = some (.tup [.agg v, .bool true], m') ∧ Fr m m' [] := by
  obtain ⟨⟨sk, sv, kb, vb, h1, h2, h3, h4, h5, h6, rfl⟩, h7⟩ := h
  have hlt : lb strLess k ks < ks.length := by
    have : ks[lb strLess k ks]? = some k := by simpa [hasK] using hk
    exact (List.getElem?_eq_some_iff.1 this).1
  have hf : Fr m (m.lay (.cells [.str [], .str [], .int .i64 0, .int .u64 0, .int .i64 0, .int .i64 0, .int .u64 0, .int .i64 0, .int .u64 0] false)) [] := (Fr.refl m).lay _
  have g1 := hf.get h1 (by simp)
  have g2 := h2.frame hf (by simp)
  have g3 := h3.frame hf (by simp)
  obtain ⟨b, rfl, a1, a2⟩ := g3.val (i := lb strLess k ks) (by omega)
  have a3 : ∀ i : Nat, ld1 (m.lay (.cells [.str [], .str [], .int .i64 0, .int .u64 0, .int .i64 0, .int .i64 0, .int .u64 0, .int .i64 0, .int .u64 0] false)) (.ptr (some ⟨t, i⟩)) = [sk, .sl (some ⟨b, 0⟩) 9 vs.length vs.length false, .int .i64 most][i]? := fun i => ld1_at g1
  have hv := h3.1 _ (List.getElem_mem (show lb strLess k ks < vs.length by omega))
  refine ⟨vs[lb strLess k ks], (m.lay (.cells [.str [], .str [], .int .i64 0, .int .u64 0, .int .i64 0, .int .i64 0, .int .u64 0, .int .i64 0, .int .u64 0] false)).put m.next (some (.cells vs[lb strLess k ks] false)), List.getElem?_eq_getElem (by omega), ?_, hf.put' (.inr (Nat.le_refl _))⟩
  simp only [ge, aps, ips, f33_is (H := H15) rfl, T.f33, D2_call, Option.bind_some, pB, p1, q1, nnA, extractA, condA, unA, resA, nth0, nth1, tupA, fa113_0, ld109, ld54, Nat.zero_add, Nat.add_zero, a3, bsS_is g2 hs (by omega), hk, Bool.not_true, g33_0_is (H := H15), T.g33_0, p2, fa113_1, ld46, ix46, true_or, if_true, a1, a2, st_all (n := 9) (lay_self m (.cells [.str [], .str [], .int .i64 0, .int .u64 0, .int .i64 0, .int .i64 0, .int .u64 0, .int .i64 0, .int .u64 0] false)) rfl hv.1 hv.2, ld_all (n := 9) (put_self (lay_self m (.cells [.str [], .str [], .int .i64 0, .int .u64 0, .int .i64 0, .int .i64 0, .int .u64 0, .int .i64 0, .int .u64 0] false))) hv.1]
theorem getQ_out (h : TabAt (.str) 9 m t ks vs most F) (hs : Srt strLess ks) (hl : ks.length < 65536) (k : (List UInt8)) (hk : hasK strLess k ks = false) :
    ∃ m', run E15 (.fn 33) [.ptr (some ⟨t, 0⟩), .str k] m = some (.tup [.agg [.str [], .str [], .int .i64 0, .int .u64 0, .int .i64 0, .int .i64 0, .int .u64 0, .int .i64 0, .int .u64 0], .bool false], m') ∧ Fr m m' [] := by
  obtain ⟨⟨sk, sv, kb, vb, h1, h2, h3, h4, h5, h6, rfl⟩, h7⟩ := h
  have hf : Fr m (m.lay (.cells [.str [], .str [], .int .i64 0, .int .u64 0, .int .i64 0, .int .i64 0, .int .u64 0, .int .i64 0, .int .u64 0] false)) [] := (Fr.refl m).lay _
  have g1 := hf.get h1 (by simp)
  have g2 := h2.frame hf (by simp)
  have a3 : ∀ i : Nat, ld1 (m.lay (.cells [.str [], .str [], .int .i64 0, .int .u64 0, .int .i64 0, .int .i64 0, .int .u64 0, .int .i64 0, .int .u64 0] false)) (.ptr (some ⟨t, i⟩)) = [sk, sv, .int .i64 most][i]? := fun i => ld1_at g1
  have g3 : ((m.lay (.cells [.str [], .str [], .int .i64 0, .int .u64 0, .int .i64 0, .int .i64 0, .int .u64 0, .int .i64 0, .int .u64 0] false)).lay (.cells [.str [], .str [], .int .i64 0, .int .u64 0, .int .i64 0, .int .i64 0, .int .u64 0, .int .i64 0, .int .u64 0] false)).get m.next = some (.cells [.str [], .str [], .int .i64 0, .int .u64 0, .int .i64 0, .int .i64 0, .int .u64 0, .int .i64 0, .int .u64 0] false) := by rw [lay_ne (by simp)]; exact lay_self _ _
  refine ⟨((m.lay (.cells [.str [], .str [], .int .i64 0, .int .u64 0, .int .i64 0, .int .i64 0, .int .u64 0, .int .i64 0, .int .u64 0] false)).lay (.cells [.str [], .str [], .int .i64 0, .int .u64 0, .int .i64 0, .int .i64 0, .int .u64 0, .int .i64 0, .int .u64 0] false)).put m.next (some (.cells [.str [], .str [], .int .i64 0, .int .u64 0, .int .i64 0, .int .i64 0, .int .u64 0, .int .i64 0, .int .u64 0] false)), ?_, (hf.lay _).put' (.inr (Nat.le_refl _))⟩
  simp only [ge, aps, ips, f33_is (H := H15) rfl, T.f33, D2_call, Option.bind_some, pB, p1, q1, nnA, extractA, condA, unA, resA, nth0, nth1, tupA, fa113_0, ld109, ld54, Nat.add_zero, a3, bsS_is g2 hs (by omega), hk, Bool.not_false, ld_all (n := 9) (lay_self (m.lay (.cells [.str [], .str [], .int .i64 0, .int .u64 0, .int .i64 0, .int .i64 0, .int .u64 0, .int .i64 0, .int .u64 0] false)) (.cells [.str [], .str [], .int .i64 0, .int .u64 0, .int .i64 0, .int .i64 0, .int .u64 0, .int .i64 0, .int .u64 0] false)) rfl, st_all (n := 9) g3 rfl (show ([.str [], .str [], .int .i64 0, .int .u64 0, .int .i64 0, .int .i64 0, .int .u64 0, .int .i64 0, .int .u64 0] : List AV).length = 9 by rfl) (by rfl), ld_all (n := 9) (v := [.str [], .str [], .int .i64 0, .int .u64 0, .int .i64 0, .int .i64 0, .int .u64 0, .int .i64 0, .int .u64 0]) (put_self g3) rfl]

theorem putQ_in (h : TabAt (.str) 9 m t ks vs most F) (hs : Srt strLess ks) (hl : ks.length < 65536) (k : (List UInt8)) (hk : hasK strLess k ks = true) {v : List AV} (hv : v.length = 9) (ho : v.all AV.one = true) :
    ∃ m', run E15 (.fn 34) [.ptr (some ⟨t, 0⟩), .str k, .agg v] m = some (.bool true, m') ∧ TabAt (.str) 9 m' t ks (vs.set (lb strLess k ks) v) most F ∧ Fr m m' F := by
  have hlt : lb strLess k ks < ks.length := by
    have : ks[lb strLess k ks]? = some k := by simpa [hasK] using hk
    exact (List.getElem?_eq_some_iff.1 this).1
  have hf : Fr m (m.lay (.cells v false)) [] := (Fr.refl m).lay _
  have h' := h.frame hf (by simp)
  obtain ⟨sk, sv, b, m', g1, rfl, a1, a2, a5, a6⟩ := h'.set hlt hv ho
  obtain ⟨⟨sk', sv', kb, vb, h1, h2, h3, h4, h5, h6, e⟩, h7⟩ := h'
  rw [g1] at h1
  cases h1
  have a3 : ∀ i : Nat, ld1 (m.lay (.cells v false)) (.ptr (some ⟨t, i⟩)) = [sk, .sl (some ⟨b, 0⟩) 9 vs.length vs.length false, .int .i64 most][i]? := fun i => ld1_at g1
  have a4 : ldN (m.lay (.cells v false)) (.ptr (some ⟨m.next, 0⟩)) 9 = some (.agg v) := by
    rw [ldN_at (lay_self _ _) (by omega), List.drop_zero, List.take_of_length_le (by omega)]
  refine ⟨m', ?_, a5, (hf.any F).step a6 (fun c hc => .inl hc)⟩
  simp only [ge, aps, ips, f34_is (H := H15) rfl, T.f34, D2_call, Option.bind_some, p1, q1, p2, boxA, nnA, extractA, condA, fa113_0, fa113_1, fa113_2, ld109, ld46, ld54, ld3, ix46, Nat.zero_add, Nat.add_zero, agg_cells ho, Option.map_some, a3, a4, bsS_is h2 hs (by omega), hk, true_or, if_true, a1, a2, g34_0_is (H := H15), T.g34_0]

theorem putQ_full (h : TabAt (.str) 9 m t ks vs most F) (hs : Srt strLess ks) (hl : ks.length < 65536) (k : (List UInt8)) (hk : hasK strLess k ks = false) (hf : most ≤ ks.length) {v : List AV} (ho : v.all AV.one = true) :
    ∃ m', run E15 (.fn 34) [.ptr (some ⟨t, 0⟩), .str k, .agg v] m = some (.bool false, m') ∧ Fr m m' [] := by
  obtain ⟨⟨sk, sv, kb, vb, h1, h2, h3, h4, h5, h6, rfl⟩, h7⟩ := h
  have hf0 : Fr m (m.lay (.cells v false)) [] := (Fr.refl m).lay _
  have g1 := hf0.get h1 (by simp)
  have g2 := h2.frame hf0 (by simp)
  obtain ⟨a, sz, cap, ex, rfl⟩ := h2.klen
  have a3 : ∀ i : Nat, ld1 (m.lay (.cells v false)) (.ptr (some ⟨t, i⟩)) = [.sl a sz ks.length cap ex, sv, .int .i64 most][i]? := fun i => ld1_at g1
  refine ⟨_, ?_, hf0⟩
  simp only [ge, aps, ips, f34_is (H := H15) rfl, T.f34, D2_call, Option.bind_some, p1, q1, p2, bin_geq, boxA, nnA, extractA, condA, fa113_0, fa113_1, fa113_2, ld109, ld46, ld54, ld3, len109, Nat.zero_add, Nat.add_zero, agg_cells ho, Option.map_some, a3, bsS_is g2 hs (by omega), hk, decide_eq_true (show most ≤ (ks.length : Int) by omega)]

theorem putQ_new (h : TabAt (.str) 9 m t ks vs most F) (hs : Srt strLess ks) (hl : ks.length < 4096) (k : (List UInt8)) (hk : hasK strLess k ks = false) (hf : (ks.length : Int) < most) {v : List AV} (hv : v.length = 9) (ho : v.all AV.one = true) :
    ∃ m' F', run E15 (.fn 34) [.ptr (some ⟨t, 0⟩), .str k, .agg v] m = some (.bool true, m') ∧ TabAt (.str) 9 m' t (insL (lb strLess k ks) k ks) (insL (lb strLess k ks) v vs) most F' ∧ Fr m m' F ∧ ∀ c, c ∈ F' → c ∈ F ∨ m.next ≤ c := by
  have hf0 : Fr m (m.lay (.cells v false)) [] := (Fr.refl m).lay _
  have h' := h.frame hf0 (by simp)
  obtain ⟨sk, sv, sk', m2, sv', m5, F', g1, a1, a2, a3, a4, b1, b2, b3, b4, b5, b6⟩ := h'.ins (P := Tryz.prog) (st1 := 109) (e1 := 9) (st2 := 46) (e2 := 54) (w1 := 16) (w2 := 88) (zs1 := [.str []]) (zs2 := [.str [], .str [], .int .i64 0, .int .u64 0, .int .i64 0, .int .i64 0, .int .u64 0, .int .i64 0, .int .u64 0]) (by kernel_rfl) (by kernel_rfl) (by kernel_rfl) (by kernel_rfl) (by kernel_rfl) (by decide) (by kernel_rfl) (by kernel_rfl) (by kernel_rfl) (by kernel_rfl) (by kernel_rfl) (by decide) (by decide)
    (fun _ => rfl) (lb_le k ks) hl (by decide) (k := k) hv ho
  obtain ⟨⟨sk1, sv1, kb, vb, h1, h2, h3, h4, h5, h6, e⟩, h7⟩ := h'
  rw [g1] at h1
  cases h1
  obtain ⟨x, sz, cap, ex, rfl⟩ := h2.klen
  have c1 : ∀ i : Nat, ld1 (m.lay (.cells v false)) (.ptr (some ⟨t, i⟩)) = [.sl x sz ks.length cap ex, sv, .int .i64 most][i]? := fun i => ld1_at g1
  have c2 : ∀ i : Nat, ld1 (m2.put t (some (.cells [sk', sv, .int .i64 most] false))) (.ptr (some ⟨t, i⟩)) = [sk', sv, .int .i64 most][i]? := fun i => ld1_at a3
  have c3 : ldN (m2.put t (some (.cells [sk', sv, .int .i64 most] false))) (.ptr (some ⟨m.next, 0⟩)) 9 = some (.agg v) := by
    have : (m2.put t (some (.cells [sk', sv, .int .i64 most] false))).get m.next = some (.cells v false) := b4.get (lay_self _ _) (fun hm => by have := h.lt _ hm; omega)
    rw [ldN_at this (by omega), List.drop_zero, List.take_of_length_le (by omega)]
  have c4 : (m2.put t (some (.cells [sk', sv, .int .i64 most] false))).next = m2.next := rfl
  refine ⟨_, F', ?_, b3, (hf0.any F).step b5 (fun c hc => .inl hc), fun c hc => (b6 c hc).imp id (fun h => by have : m.next ≤ (m.lay (.cells v false)).next := hf0.next; omega)⟩
  simp only [ge, aps, ips, f34_is (H := H15) rfl, T.f34, D2_call, Option.bind_some, p1, q1, p2, bin_geq, boxA, nnA, extractA, condA, fa113_0, fa113_1, fa113_2, ld109, ld46, ld54, ld3, len109, Nat.zero_add, Nat.add_zero, agg_cells ho, Option.map_some, bs_one1 (x := .str k) (by rfl), bs_agg (n := 9) (zs := [.str [], .str [], .int .i64 0, .int .u64 0, .int .i64 0, .int .i64 0, .int .u64 0, .int .i64 0, .int .u64 0]) ho hv (by rfl), c1, bsS_is h2 hs (by omega), hk, decide_eq_false (show ¬ most ≤ (ks.length : Int) by omega), inkQ_is, invQ_is, a1, a2, c2, c3, c4, b1, b2, g34_0_is (H := H15), T.g34_0]

theorem getQ_is (h : TabAt (.str) 9 m t ks vs most F) (hs : Srt strLess ks) (hl : ks.length < 65536) (k : (List UInt8)) :
    ∃ v m', run E15 (.fn 33) [.ptr (some ⟨t, 0⟩), .str k] m = some (.tup [.agg v, .bool (hasK strLess k ks)], m') ∧ (hasK strLess k ks = true → vs[lb strLess k ks]? = some v) ∧ (hasK strLess k ks = false → v = [.str [], .str [], .int .i64 0, .int .u64 0, .int .i64 0, .int .i64 0, .int .u64 0, .int .i64 0, .int .u64 0]) ∧ v.length = 9 ∧ v.all AV.one = true ∧ Fr m m' [] := by
  cases hk : hasK strLess k ks with
  | true =>
    obtain ⟨v, m', h1, h2, h3⟩ := getQ_in h hs hl k hk
    obtain ⟨⟨sk, sv, kb, vb, _, _, g3, _⟩, _⟩ := h
    have := g3.1 v (List.mem_of_getElem? h1)
    exact ⟨v, m', h2, fun _ => h1, nofun, this.1, this.2, h3⟩
  | false =>
    obtain ⟨m', h2, h3⟩ := getQ_out h hs hl k hk
    exact ⟨_, m', h2, nofun, fun _ => rfl, rfl, rfl, h3⟩
theorem putQ_is (h : TabAt (.str) 9 m t ks vs most F) (hs : Srt strLess ks) (hl : ks.length < 4096) (k : (List UInt8)) {v : List AV} (hv : v.length = 9) (ho : v.all AV.one = true) :
    ∃ m' F', run E15 (.fn 34) [.ptr (some ⟨t, 0⟩), .str k, .agg v] m = some (.bool (hasK strLess k ks || decide ((ks.length : Int) < most)), m') ∧
      TabAt (.str) 9 m' t (putK strLess k ks most) (putV strLess k ks v vs most) most F' ∧ Fr m m' F ∧ ∀ c, c ∈ F' → c ∈ F ∨ m.next ≤ c := by
  unfold putK putV
  cases hk : hasK strLess k ks with
  | true =>
    obtain ⟨m', h1, h2, h3⟩ := putQ_in h hs (by omega) k hk hv ho
    exact ⟨m', F, h1, by simpa using h2, h3, fun c hc => .inl hc⟩
  | false =>
    by_cases hf : (ks.length : Int) < most
    · obtain ⟨m', F', h1, h2, h3, h4⟩ := putQ_new h hs hl k hk hf hv ho
      exact ⟨m', F', by simpa [hf] using h1, by simpa [hf] using h2, h3, h4⟩
    · obtain ⟨m', h1, h2⟩ := putQ_full h hs (by omega) k hk (by omega) ho
      exact ⟨m', F, by simpa [hf] using h1, by simpa [hf] using h.frame h2 (by simp), h2.any F, fun c hc => .inl hc⟩
end
end Go.Proofs.YtlginbmjiecglaaGreat
end
