/- Texts of one claim, put together. -/
import Derived.Test.YtlginbmjiecglaaGreatK15
section
namespace Go.Proofs.YtlginbmjiecglaaGreat
set_option maxRecDepth 4000
open Go Go.Abs
def S8 : List FuncId := [94, 59]
noncomputable def H8 : FuncId → Option (List AV → Mem → R) := hooksC E7 S8
noncomputable abbrev E8 : Env := T.EH H8
theorem E8_ok : EnvOk E8 := hooksC_ok E7_ok S8
noncomputable abbrev D8 : Do := T.Rl H8
theorem decC_flat (w : Wd) (s : Int) : AV.lts 0 (decC w s) := by simp [AV.lt, AV.lts, decC]
theorem decRes_flat (n to : Int) : (decRes n to).flat := by unfold decRes; split <;> simp [AV.flat, AV.lt, AV.lts, decC]
section
variable {H : FuncId → Option (List AV → Mem → R)}
theorem dcmp0_at (h : H 94 = some (cleanH E7 94)) {w : Wd} (hw : w.ok) (s : Int) (m : Mem) : run (T.EH H) (.fn 94) [.agg (decC w s), .agg (decC ⟨0, 0⟩ 0)] m = some (.tup [.int .i64 (if 0 ≤ s ∧ s ≤ 18 then sgn w.val else 0), .int .i64 (if 0 ≤ s ∧ s ≤ 18 then 0 else 21)], m) :=
  hook_at h (by simp [AV.flat, AV.lt, AV.lts]) fun m2 _ _ => dcmp0_is hw s m2
theorem dmul_at (h : H 59 = some (cleanH E7 59)) {a b : Wd} (ha : a.ok) (hb : b.ok) {s t to : Int} (hs : 0 ≤ s ∧ s ≤ 18) (ht : 0 ≤ t ∧ t ≤ 18) (hto : 0 ≤ to ∧ to ≤ 18) (m : Mem) :
    run (T.EH H) (.fn 59) [.agg (decC a s), .agg (decC b t), .int .i64 to] m = some (decRes (mulV a.val b.val (s + t - to)) to, m) :=
  hook_at h (decRes_flat _ _) fun m2 _ _ => dmul_is ha hb hs ht hto m2
end
theorem above_is {w : Wd} (hw : w.ok) (s : Int) (m : Mem) : Res m (run E8 (.fn 56) [.agg (decC w s)] m) (.bool (decide ((0 ≤ s ∧ s ≤ 18) ∧ 0 < w.val))) := by
  have dc := fun m => dcmp0_at (H := H8) rfl hw s m
  simp only [decC] at dc ⊢
  by_cases h : 0 ≤ s ∧ s ≤ 18
  · simp only [if_pos h] at dc
    simp only [lms, lcs, ge, aps, ips, f56_is (H := H8) rfl, T.f56, D2_call, Option.bind_some, q1, p1, p2, bin_eql, bin_gtr, fillA, AV.cells, Option.map_some, Nat.reduceAdd, Nat.reduceLeDiff, if_true, boxA, extractA, ifV, ld37, bd37, AV.one, dc, decide_true]
    refine Res.eq ?_ ?_
    · (repeat apply Fr.lays)
      exact Fr.refl _
    · congr 1
      unfold sgn
      apply decide_eq_decide.mpr
      split <;> (try split) <;> omega
  · simp only [if_neg h] at dc
    simp only [lms, lcs, ge, aps, ips, f56_is (H := H8) rfl, T.f56, D2_call, Option.bind_some, q1, p1, p2, bin_eql, fillA, AV.cells, Option.map_some, Nat.reduceAdd, Nat.reduceLeDiff, if_true, boxA, extractA, ifV, ld37, bd37, AV.one, dc, decide_eq_false (show ¬ (21 : Int) = 0 by omega)]
    refine Res.eq ?_ ?_
    · (repeat apply Fr.lays)
      exact Fr.refl _
    · rw [decide_eq_false (by omega)]
def S9 : List FuncId := [56]
noncomputable def H9 : FuncId → Option (List AV → Mem → R) := hooksC E8 S9
noncomputable abbrev E9 : Env := T.EH H9
theorem E9_ok : EnvOk E9 := hooksC_ok E8_ok S9
noncomputable abbrev D9 : Do := T.Rl H9
theorem above_at {H : FuncId → Option (List AV → Mem → R)} (h : H 56 = some (cleanH E8 56)) {w : Wd} (hw : w.ok) (s : Int) (m : Mem) : run (T.EH H) (.fn 56) [.agg (decC w s)] m = some (.bool (decide ((0 ≤ s ∧ s ≤ 18) ∧ 0 < w.val)), m) :=
  hook_at h (by simp [AV.flat, AV.lt]) fun m2 _ _ => above_is hw s m2
def rateE (w : Wd) (s : Int) : Int := if 0 ≤ s ∧ s ≤ 18 then (if 0 < w.val then 0 else 44) else 21
theorem rright_is {w : Wd} (hw : w.ok) (s : Int) (m : Mem) : Res m (run E9 (.fn 32) [.agg (decC w s)] m) (.int .i64 (rateE w s)) := by
  have dr := fun m => dright_at (H := H9) rfl w s m
  have ab := fun m => above_at (H := H9) rfl hw s m
  unfold rateE
  by_cases h : 0 ≤ s ∧ s ≤ 18
  · rw [if_pos h]
    rw [decide_eq_true h] at dr
    by_cases h2 : 0 < w.val
    · rw [if_pos h2]
      rw [decide_eq_true ⟨h, h2⟩] at ab
      simp only [decC] at dr ab ⊢
      simp only [lms, lcs, aps, ips, f32_is (H := H9) rfl, T.f32, D2_call, Option.bind_some, q1, p1, boxA, condA, unA, ld37, AV.one, if_true, AV.cells, Nat.reduceAdd, Nat.reduceLeDiff, Option.map_some, dr, ab, Bool.not_true]
      simp only [aps, ips, g32_0_is (H := H9), T.g32_0]
      refine Res.eq ?_ rfl
      (repeat apply Fr.lays)
      exact Fr.refl _
    · rw [if_neg h2]
      rw [decide_eq_false (by omega)] at ab
      simp only [decC] at dr ab ⊢
      simp only [lms, lcs, aps, ips, f32_is (H := H9) rfl, T.f32, D2_call, Option.bind_some, q1, p1, boxA, condA, unA, ld37, AV.one, if_true, AV.cells, Nat.reduceAdd, Nat.reduceLeDiff, Option.map_some, dr, ab, Bool.not_true, Bool.not_false]
      refine Res.eq ?_ rfl
      (repeat apply Fr.lays)
      exact Fr.refl _
  · rw [if_neg h]
    rw [decide_eq_false h] at dr
    simp only [decC] at dr ⊢
    simp only [lms, lcs, aps, ips, f32_is (H := H9) rfl, T.f32, D2_call, Option.bind_some, q1, p1, boxA, condA, unA, ld37, AV.one, if_true, AV.cells, Nat.reduceAdd, Nat.reduceLeDiff, Option.map_some, dr, Bool.not_false]
    refine Res.eq ?_ rfl
    (repeat apply Fr.lays)
    exact Fr.refl _
def S10 : List FuncId := [32]
noncomputable def H10 : FuncId → Option (List AV → Mem → R) := hooksC E9 S10
noncomputable abbrev E10 : Env := T.EH H10
theorem E10_ok : EnvOk E10 := hooksC_ok E9_ok S10
noncomputable abbrev D10 : Do := T.Rl H10
theorem rright_at {H : FuncId → Option (List AV → Mem → R)} (h : H 32 = some (cleanH E9 32)) {w : Wd} (hw : w.ok) (s : Int) (m : Mem) : run (T.EH H) (.fn 32) [.agg (decC w s)] m = some (.int .i64 (rateE w s), m) :=
  hook_at h (by simp [AV.flat, AV.lt]) fun m2 _ _ => rright_is hw s m2
def crossR (w : Wd) (s : Int) (v : Wd) (t : Int) (n : Int) : AV :=
  if (0 ≤ s ∧ s ≤ 18) ∧ (0 ≤ n ∧ n ≤ 18) then
    if 0 < w.val then
      if rateE v t = 0 then decRes (mulV w.val v.val (s + t - n)) n else .tup [.agg (decC ⟨0, 0⟩ 0), .int .i64 (rateE v t)]
    else .tup [.agg (decC ⟨0, 0⟩ 0), .int .i64 43]
  else .tup [.agg (decC ⟨0, 0⟩ 0), .int .i64 21]
theorem rateE_zero {v : Wd} {t : Int} (h : rateE v t = 0) : (0 ≤ t ∧ t ≤ 18) ∧ 0 < v.val := by
  unfold rateE at h
  split at h
  · split at h
    · exact ⟨‹_›, ‹_›⟩
    · omega
  · omega
theorem cross_is {w v : Wd} (hw : w.ok) (hv : v.ok) (s t n : Int) (m : Mem) : Res m (run E10 (.fn 36) [.agg (decC w s), .agg (decC v t), .int .i64 n] m) (crossR w s v t n) := by
  have dr := fun m => dright_at (H := H10) rfl w s m
  have ab := fun m => above_at (H := H10) rfl hw s m
  have rr := fun m => rright_at (H := H10) rfl hv t m
  unfold crossR
  by_cases h : 0 ≤ s ∧ s ≤ 18
  · rw [decide_eq_true h] at dr
    by_cases hn : 0 ≤ n ∧ n ≤ 18
    · rw [if_pos ⟨h, hn⟩]
      by_cases h2 : 0 < w.val
      · rw [if_pos h2]
        rw [decide_eq_true ⟨h, h2⟩] at ab
        by_cases h3 : rateE v t = 0
        · rw [if_pos h3]
          have hr := rateE_zero h3
          have dm := fun m => dmul_at (H := H10) rfl hw hv h hr.1 hn m
          obtain ⟨N, hN⟩ : ∃ N, N = mulV w.val v.val (s + t - n) := ⟨_, rfl⟩
          rw [← hN] at dm ⊢
          clear hN
          unfold decRes at dm ⊢
          simp only [decC] at dr ab rr
          simp only [lms, lcs, aps, ips, f36_is (H := H10) rfl, T.f36, D2_call, Option.bind_some, pB, q1, p1, p2, bin_gtr, bin_lss, fillA, AV.cells, Option.map_some, Nat.reduceAdd, Nat.reduceLeDiff, if_true, boxA, condA, ifV, unA, resA, nth0, nth1, tupA, ld37, bd37, AV.one, if_false, over, decC, dr, ab, Bool.not_true, decide_eq_false (show ¬ n < 0 by omega), decide_eq_false (show ¬ (18 : Int) < n by omega)]
          simp only [lms, lcs, aps, ips, g36_0_is (H := H10), T.g36_0, D2_call, Option.bind_some, q1, p2, p1, bin_neq, fillA, AV.cells, Option.map_some, Nat.reduceAdd, Nat.reduceLeDiff, if_true, condA, resA, nth0, nth1, tupA, ld37, bd37, AV.one, if_false, over, rr, h3, decide_true, Bool.not_true]
          simp only [decC] at dm
          cases hf : fitsW N with
          | true =>
            simp only [hf, if_true] at dm
            simp only [lms, lcs, ge, aps, ips, g36_1_is (H := H10), T.g36_1, D2_call, Option.bind_some, q1, p1, extractA, resA, nth0, nth1, tupA, ld37, AV.one, if_true, if_false, over, AV.cells, Nat.reduceAdd, Nat.reduceLeDiff, Option.map_some, dm]
            refine Res.eq ?_ rfl
            (repeat apply Fr.lays)
            exact Fr.refl _
          | false =>
            simp only [hf, Bool.false_eq_true, if_false] at dm
            simp only [lms, lcs, ge, aps, ips, g36_1_is (H := H10), T.g36_1, D2_call, Option.bind_some, q1, p1, extractA, resA, nth0, nth1, tupA, ld37, AV.one, if_true, if_false, over, AV.cells, Nat.reduceAdd, Nat.reduceLeDiff, Option.map_some, dm, Bool.false_eq_true]
            refine Res.eq ?_ rfl
            (repeat apply Fr.lays)
            exact Fr.refl _
        · rw [if_neg h3]
          simp only [decC] at dr ab rr
          simp only [lms, lcs, aps, ips, f36_is (H := H10) rfl, T.f36, D2_call, Option.bind_some, pB, q1, p1, p2, bin_gtr, bin_lss, fillA, AV.cells, Option.map_some, Nat.reduceAdd, Nat.reduceLeDiff, if_true, boxA, condA, ifV, unA, resA, nth0, nth1, tupA, ld37, bd37, AV.one, if_false, over, decC, dr, ab, Bool.not_true, decide_eq_false (show ¬ n < 0 by omega), decide_eq_false (show ¬ (18 : Int) < n by omega)]
          simp only [lms, lcs, aps, ips, g36_0_is (H := H10), T.g36_0, D2_call, Option.bind_some, q1, p2, p1, bin_neq, fillA, AV.cells, Option.map_some, Nat.reduceAdd, Nat.reduceLeDiff, if_true, condA, resA, nth0, nth1, tupA, ld37, bd37, AV.one, if_false, over, rr, decide_eq_false h3, Bool.not_false]
          refine Res.eq ?_ rfl
          (repeat apply Fr.lays)
          exact Fr.refl _
      · rw [if_neg h2]
        rw [decide_eq_false (by omega)] at ab
        simp only [decC] at dr ab
        simp only [lms, lcs, aps, ips, f36_is (H := H10) rfl, T.f36, D2_call, Option.bind_some, pB, q1, p1, p2, bin_gtr, bin_lss, fillA, AV.cells, Option.map_some, Nat.reduceAdd, Nat.reduceLeDiff, if_true, boxA, condA, ifV, unA, resA, nth0, nth1, tupA, ld37, bd37, AV.one, if_false, over, decC, dr, ab, Bool.not_true, Bool.not_false, decide_eq_false (show ¬ n < 0 by omega), decide_eq_false (show ¬ (18 : Int) < n by omega)]
        refine Res.eq ?_ rfl
        (repeat apply Fr.lays)
        exact Fr.refl _
    · rw [if_neg (by omega)]
      simp only [decC] at dr
      by_cases h4 : n < 0
      · simp only [lms, lcs, aps, ips, f36_is (H := H10) rfl, T.f36, D2_call, Option.bind_some, pB, q1, p1, p2, bin_gtr, bin_lss, fillA, AV.cells, Option.map_some, Nat.reduceAdd, Nat.reduceLeDiff, if_true, boxA, condA, ifV, unA, resA, nth0, nth1, tupA, ld37, bd37, AV.one, if_false, over, decC, dr, Bool.not_true, decide_eq_true h4]
        refine Res.eq ?_ rfl
        (repeat apply Fr.lays)
        exact Fr.refl _
      · simp only [lms, lcs, aps, ips, f36_is (H := H10) rfl, T.f36, D2_call, Option.bind_some, pB, q1, p1, p2, bin_gtr, bin_lss, fillA, AV.cells, Option.map_some, Nat.reduceAdd, Nat.reduceLeDiff, if_true, boxA, condA, ifV, unA, resA, nth0, nth1, tupA, ld37, bd37, AV.one, if_false, over, decC, dr, Bool.not_true, decide_eq_false h4, decide_eq_true (show (18 : Int) < n by omega)]
        refine Res.eq ?_ rfl
        (repeat apply Fr.lays)
        exact Fr.refl _
  · rw [if_neg (by omega)]
    rw [decide_eq_false h] at dr
    simp only [decC] at dr
    simp only [lms, lcs, aps, ips, f36_is (H := H10) rfl, T.f36, D2_call, Option.bind_some, pB, q1, p1, p2, bin_gtr, bin_lss, fillA, AV.cells, Option.map_some, Nat.reduceAdd, Nat.reduceLeDiff, if_true, boxA, condA, ifV, unA, resA, nth0, nth1, tupA, ld37, bd37, AV.one, if_false, over, decC, dr, Bool.not_false]
    refine Res.eq ?_ rfl
    (repeat apply Fr.lays)
    exact Fr.refl _
def S11 : List FuncId := [36]
noncomputable def H11 : FuncId → Option (List AV → Mem → R) := hooksC E10 S11
noncomputable abbrev E11 : Env := T.EH H11
theorem E11_ok : EnvOk E11 := hooksC_ok E10_ok S11
noncomputable abbrev D11 : Do := T.Rl H11
theorem crossR_flat (w : Wd) (s : Int) (v : Wd) (t : Int) (n : Int) : (crossR w s v t n).flat := by
  unfold crossR
  (repeat' split) <;> first | exact decRes_flat _ _ | simp [AV.flat, AV.lt, AV.lts, decC]
theorem cross_at {H : FuncId → Option (List AV → Mem → R)} (h : H 36 = some (cleanH E10 36)) {w v : Wd} (hw : w.ok) (hv : v.ok) (s t n : Int) (m : Mem) : run (T.EH H) (.fn 36) [.agg (decC w s), .agg (decC v t), .int .i64 n] m = some (crossR w s v t n, m) :=
  hook_at h (crossR_flat _ _ _ _ _) fun m2 _ _ => cross_is hw hv s t n m2
end Go.Proofs.YtlginbmjiecglaaGreat
end
section
namespace Go.Abs
open Go

def dig (n i : Nat) : Nat := n / 4294967296 ^ i % 4294967296
def D16 (n : Nat) : List AV := (List.range 16).map fun i => .int .u64 ((dig n i : Nat) : Int)
theorem dig_lt (n i : Nat) : dig n i < 4294967296 := Nat.mod_lt _ (by omega)
theorem D16_len (n : Nat) : (D16 n).length = 16 := by simp [D16]
theorem D16_get (n : Nat) {i : Nat} (h : i < 16) : (D16 n)[i]? = some (.int .u64 ((dig n i : Nat) : Int)) := by
  simp [D16, List.getElem?_map, List.getElem?_range h]
theorem D16_one (n : Nat) : (D16 n).all AV.one = true := by
  simp [D16, List.all_map, List.all_eq_true, AV.one]
theorem D16_take (n : Nat) : (D16 n).take 16 = D16 n := List.take_of_length_le (by rw [D16_len]; exact Nat.le_refl _)
theorem D16_drop (n : Nat) : (D16 n).drop 16 = [] := List.drop_of_length_le (by rw [D16_len]; exact Nat.le_refl _)
theorem D16_flat (n : Nat) : AV.lts 0 (D16 n) := by simp [D16, AV.lts, AV.lt, List.range, List.range.loop]
theorem D16_ext {n N : Nat} (h : ∀ i, i < 16 → dig n i = dig N i) : D16 n = D16 N := by
  unfold D16
  apply List.map_congr_left
  intro i hi
  rw [h i (List.mem_range.mp hi)]
theorem z16 : [AV.int .u64 0, .int .u64 0, .int .u64 0, .int .u64 0, .int .u64 0, .int .u64 0, .int .u64 0, .int .u64 0, .int .u64 0, .int .u64 0, .int .u64 0, .int .u64 0, .int .u64 0, .int .u64 0, .int .u64 0, .int .u64 0] = D16 0 := by
  unfold D16 dig
  simp [List.range, List.range.loop]
theorem over_dig (n : Nat) {i : Nat} (h : i < 16) (v : Int) : over (D16 n) i (.int .u64 v) 1 = some ((D16 n).set i (.int .u64 v)) := by
  unfold over
  simp only [AV.cells, List.length_cons, List.length_nil, Nat.zero_add, if_true, D16_len, if_pos (show i + 1 ≤ 16 by omega)]
  rw [List.set_eq_take_append_cons_drop, if_pos (by rw [D16_len]; exact h)]
  simp
theorem set_dig {n N i : Nat} {v : Int} (h : i < 16) (e : ∀ j, j < 16 → j ≠ i → dig n j = dig N j) (hv : v = ((dig N i : Nat) : Int)) : (D16 n).set i (.int .u64 v) = D16 N := by
  apply List.ext_getElem?
  intro j
  by_cases hj : j < 16
  · rw [D16_get N hj, List.getElem?_set]
    by_cases hij : i = j
    · subst hij
      rw [if_pos rfl, if_pos (by rw [D16_len]; exact h), hv]
    · rw [if_neg hij, D16_get n hj, e j hj (fun x => hij x.symm)]
  · rw [List.getElem?_eq_none (by rw [List.length_set, D16_len]; omega), List.getElem?_eq_none (by rw [D16_len]; omega)]
theorem over_set {n N i : Nat} {v : Int} (h : i < 16) (e : ∀ j, j < 16 → j ≠ i → dig n j = dig N j) (hv : v = ((dig N i : Nat) : Int)) : over (D16 n) i (.int .u64 v) 1 = some (D16 N) := by
  rw [over_dig n h, set_dig h e hv]
theorem over_all (n N : Nat) : over (D16 n) 0 (.agg (D16 N)) 16 = some (D16 N) := by
  unfold over
  have hl := D16_len N
  simp only [AV.cells, D16_one, if_true]
  rw [if_pos hl, D16_len, if_pos (by omega)]
  simp [D16_drop]
theorem ix16 (b o : Nat) {i : Nat} (h : i < 16) : ixA 1 16 ⟨b, o⟩ (i : Int) = some (.ptr (some ⟨b, o + i⟩)) := by
  unfold ixA
  rw [if_pos (by omega), if_pos (by omega)]
  simp
theorem pow_add_one (i : Nat) : 4294967296 ^ (i + 1) = 4294967296 ^ i * 4294967296 := Nat.pow_succ ..
theorem B_pos (i : Nat) : 0 < 4294967296 ^ i := Nat.pow_pos (by omega)
theorem dig_mod (n i j : Nat) : dig (n % 4294967296 ^ i) j = if j < i then dig n j else 0 := by
  unfold dig
  by_cases h : j < i
  · rw [if_pos h]
    obtain ⟨k, rfl⟩ : ∃ k, i = j + 1 + k := ⟨i - (j + 1), by omega⟩
    rw [Nat.pow_add, pow_add_one, Nat.mul_assoc, Nat.mod_mul_right_div_self, Nat.mod_mul_right_mod]
  · rw [if_neg h]
    have : n % 4294967296 ^ i < 4294967296 ^ j := Nat.lt_of_lt_of_le (Nat.mod_lt _ (B_pos i)) (Nat.pow_le_pow_right (by omega) (by omega))
    rw [Nat.div_eq_of_lt this]
theorem dig_mod_step {n i : Nat} : ∀ j, j < 16 → j ≠ i → dig (n % 4294967296 ^ i) j = dig (n % 4294967296 ^ (i + 1)) j := by
  intro j _ hj
  rw [dig_mod, dig_mod]
  by_cases h : j < i
  · rw [if_pos h, if_pos (by omega)]
  · rw [if_neg h, if_neg (by omega)]
theorem dig_mod_at (n i : Nat) : dig (n % 4294967296 ^ (i + 1)) i = dig n i := by rw [dig_mod, if_pos (by omega)]
theorem D16_mod (n : Nat) : D16 (n % 4294967296 ^ 16) = D16 n := D16_ext fun i hi => by rw [dig_mod, if_pos hi]
theorem dig_add {n i d : Nat} (h : dig n i + d < 4294967296) : ∀ j, dig (n + d * 4294967296 ^ i) j = dig n j + if j = i then d else 0 := by
  intro j
  unfold dig at h ⊢
  have hB := B_pos i
  by_cases h1 : j = i
  · subst h1
    rw [if_pos rfl, Nat.add_mul_div_right _ _ hB]
    omega
  · rw [if_neg h1, Nat.add_zero]
    by_cases h2 : j < i
    · obtain ⟨k, rfl⟩ : ∃ k, i = j + 1 + k := ⟨i - (j + 1), by omega⟩
      have e : d * 4294967296 ^ (j + 1 + k) = (d * 4294967296 ^ k * 4294967296) * 4294967296 ^ j := by
        rw [Nat.pow_add, pow_add_one]; simp only [Nat.mul_comm, Nat.mul_left_comm, Nat.mul_assoc]
      rw [e, Nat.add_mul_div_right _ _ (B_pos j), Nat.add_mul_mod_self_right]
    · obtain ⟨k, rfl⟩ : ∃ k, j = i + 1 + k := ⟨j - (i + 1), by omega⟩
      have e : 4294967296 ^ (i + 1 + k) = 4294967296 ^ i * (4294967296 * 4294967296 ^ k) := by rw [Nat.pow_add, pow_add_one, Nat.mul_assoc]
      rw [e, ← Nat.div_div_eq_div_mul, ← Nat.div_div_eq_div_mul, ← Nat.div_div_eq_div_mul, ← Nat.div_div_eq_div_mul, Nat.add_mul_div_right _ _ hB]
      congr 2
      omega
theorem dig_rest (n i : Nat) : n / 4294967296 ^ (i + 1) = n / 4294967296 ^ i / 4294967296 := by rw [pow_add_one, Nat.div_div_eq_div_mul]
theorem dig_mod_rest (n i : Nat) : n % 4294967296 ^ (i + 1) = n % 4294967296 ^ i + dig n i * 4294967296 ^ i := by
  rw [pow_add_one, Nat.mod_mul, dig, Nat.mul_comm]
theorem eq_of_D16 {a b : Nat} (ha : a < 4294967296 ^ 16) (hb : b < 4294967296 ^ 16) (h : ∀ i, i < 16 → dig a i = dig b i) : a = b := by
  have : ∀ i, i ≤ 16 → a % 4294967296 ^ i = b % 4294967296 ^ i := by
    intro i
    induction i with
    | zero => intro _; rw [Nat.pow_zero, Nat.mod_one, Nat.mod_one]
    | succ i ih => intro hi; rw [dig_mod_rest, dig_mod_rest, ih (by omega), h i (by omega)]
  have := this 16 (by omega)
  rwa [Nat.mod_eq_of_lt ha, Nat.mod_eq_of_lt hb] at this
section bin
variable {P : Program}
theorem bin_remB (t : TypeId) (x : Nat) : binA P .rem t (.int .u64 (x : Int)) (.int .u64 4294967296) = some (.int .u64 ((x % 4294967296 : Nat) : Int)) := by
  rw [bin_rem _ _ _ _ (by omega), Int.tmod_eq_emod_of_nonneg (by omega)]; simp
theorem bin_quoB (t : TypeId) {x : Nat} (h : x < 18446744073709551616) : binA P .quo t (.int .u64 (x : Int)) (.int .u64 4294967296) = some (.int .u64 ((x / 4294967296 : Nat) : Int)) := by
  rw [bin_quo _ _ _ _ (by omega), Int.tdiv_eq_ediv_of_nonneg (by omega), wrap_u64 (by omega) (by omega)]; simp
end bin
theorem mul_lt_B {a b : Nat} (ha : a < 4294967296) (hb : b < 4294967296) : a * b ≤ 18446744065119617025 := by
  have := Nat.mul_le_mul (show a ≤ 4294967295 by omega) (show b ≤ 4294967295 by omega)
  omega
end Go.Abs
end
section
namespace Go.Abs
open Go

theorem una_not {x : Int} (h : 0 ≤ x) (h2 : x < 18446744073709551616) : unA .xor (.int .u64 x) = some (.int .u64 (18446744073709551615 - x)) := by
  obtain ⟨n, rfl⟩ : ∃ n : Nat, x = n := ⟨x.toNat, by omega⟩
  have e : unA .xor (.int .u64 (n : Int)) = some (.int .u64 (IntKind.wrap .u64 (((BitVec.ofInt 64 18446744073709551615 ^^^ BitVec.ofInt 64 (n : Int)).toNat : Nat) : Int))) := rfl
  rw [e, show BitVec.ofInt 64 18446744073709551615 = BitVec.allOnes 64 from by decide, BitVec.allOnes_xor, BitVec.toNat_not, show BitVec.ofInt 64 (n : Int) = BitVec.ofNat 64 n from BitVec.ofInt_natCast .., BitVec.toNat_ofNat, wrap_u64_mod]
  congr 2
  omega
theorem bit_dig (a i : Nat) : dig a (i / 32) / 2 ^ (i % 32) % 2 = a / 2 ^ i % 2 := by
  have e : a / 2 ^ i = a / 4294967296 ^ (i / 32) / 2 ^ (i % 32) := by
    rw [Nat.div_div_eq_div_mul, show (4294967296 : Nat) = 2 ^ 32 from rfl, ← Nat.pow_mul, ← Nat.pow_add, Nat.div_add_mod]
  rw [e]
  unfold dig
  obtain ⟨y, hy⟩ : ∃ y, y = a / 4294967296 ^ (i / 32) := ⟨_, rfl⟩
  obtain ⟨s, hs⟩ : ∃ s, s = i % 32 := ⟨_, rfl⟩
  rw [← hy, ← hs]
  have h : s < 32 := by omega
  clear hy hs e
  revert h
  revert s
  intro s h
  have h32 : s = 0 ∨ s = 1 ∨ s = 2 ∨ s = 3 ∨ s = 4 ∨ s = 5 ∨ s = 6 ∨ s = 7 ∨ s = 8 ∨ s = 9 ∨ s = 10 ∨ s = 11 ∨ s = 12 ∨ s = 13 ∨ s = 14 ∨ s = 15 ∨ s = 16 ∨ s = 17 ∨ s = 18 ∨ s = 19 ∨ s = 20 ∨ s = 21 ∨ s = 22 ∨ s = 23 ∨ s = 24 ∨ s = 25 ∨ s = 26 ∨ s = 27 ∨ s = 28 ∨ s = 29 ∨ s = 30 ∨ s = 31 := by omega
  clear h
  rcases h32 with rfl | rfl | rfl | rfl | rfl | rfl | rfl | rfl | rfl | rfl | rfl | rfl | rfl | rfl | rfl | rfl | rfl | rfl | rfl | rfl | rfl | rfl | rfl | rfl | rfl | rfl | rfl | rfl | rfl | rfl | rfl | rfl <;> (simp only [Nat.reducePow]; omega)
theorem pow_split (i : Nat) : 2 ^ i = 2 ^ (i % 32) * 4294967296 ^ (i / 32) := by
  rw [show (4294967296 : Nat) = 2 ^ 32 from rfl, ← Nat.pow_mul, ← Nat.pow_add, Nat.mod_add_div]
theorem pow32_lt {s : Nat} (h : s < 32) : 2 ^ s < 4294967296 := by
  have := Nat.pow_lt_pow_right (a := 2) (by omega) h
  simpa using this
theorem bit_room (Q i : Nat) : dig (Q * 2 ^ (i + 1)) (i / 32) + 2 ^ (i % 32) < 4294967296 := by
  have e : Q * 2 ^ (i + 1) = Q * 2 * 2 ^ (i % 32) * 4294967296 ^ (i / 32) := by
    rw [Nat.pow_succ, pow_split i]; simp only [Nat.mul_comm, Nat.mul_assoc]
  unfold dig
  rw [e, Nat.mul_div_cancel _ (B_pos _)]
  obtain ⟨s, hs⟩ : ∃ s, s = i % 32 := ⟨_, rfl⟩
  rw [← hs]
  have h : s < 32 := by omega
  clear hs e
  revert h
  revert s
  intro s h
  have h32 : s = 0 ∨ s = 1 ∨ s = 2 ∨ s = 3 ∨ s = 4 ∨ s = 5 ∨ s = 6 ∨ s = 7 ∨ s = 8 ∨ s = 9 ∨ s = 10 ∨ s = 11 ∨ s = 12 ∨ s = 13 ∨ s = 14 ∨ s = 15 ∨ s = 16 ∨ s = 17 ∨ s = 18 ∨ s = 19 ∨ s = 20 ∨ s = 21 ∨ s = 22 ∨ s = 23 ∨ s = 24 ∨ s = 25 ∨ s = 26 ∨ s = 27 ∨ s = 28 ∨ s = 29 ∨ s = 30 ∨ s = 31 := by omega
  clear h
  rcases h32 with rfl | rfl | rfl | rfl | rfl | rfl | rfl | rfl | rfl | rfl | rfl | rfl | rfl | rfl | rfl | rfl | rfl | rfl | rfl | rfl | rfl | rfl | rfl | rfl | rfl | rfl | rfl | rfl | rfl | rfl | rfl | rfl <;> (simp only [Nat.reducePow]; omega)
theorem bin_shr_n {P : Program} (t : TypeId) {x n : Nat} (hx : x < 4294967296) (hn : n < 32) : binA P .shr t (.int .u64 (x : Int)) (.int .u64 (n : Int)) = some (.int .u64 ((x / 2 ^ n : Nat) : Int)) := by
  rw [bin_shrn t n (by omega)]
  congr 2
theorem bin_shl_n {P : Program} (t : TypeId) {n : Nat} (hn : n < 32) : binA P .shl t (.int .u64 1) (.int .u64 (n : Int)) = some (.int .u64 ((2 ^ n : Nat) : Int)) := by
  rw [bin_shln t n (by omega)]
  congr 2
  have := pow32_lt hn
  rw [Int.one_mul, show (2 : Int) ^ n = ((2 ^ n : Nat) : Int) from (Int.natCast_pow 2 n).symm]
  obtain ⟨w, hw⟩ : ∃ w, w = 2 ^ n := ⟨_, rfl⟩
  rw [← hw] at this ⊢
  omega
theorem div_bit {x b bit : Nat} (hb : 0 < b) :
    (b ≤ 2 * (x % b) + bit → bit ≤ 1 → (2 * x + bit) / b = 2 * (x / b) + 1 ∧ (2 * x + bit) % b = 2 * (x % b) + bit - b) ∧
    (2 * (x % b) + bit < b → (2 * x + bit) / b = 2 * (x / b) ∧ (2 * x + bit) % b = 2 * (x % b) + bit) := by
  have h := Nat.div_add_mod x b
  have hl := Nat.mod_lt x hb
  obtain ⟨q, hq⟩ : ∃ q, q = x / b := ⟨_, rfl⟩
  obtain ⟨r, hr⟩ : ∃ r, r = x % b := ⟨_, rfl⟩
  rw [← hq, ← hr] at h ⊢
  rw [← hr] at hl
  constructor
  · intro h1 h2
    apply (Nat.div_mod_unique hb).mpr
    rw [Nat.mul_add, Nat.mul_left_comm]
    omega
  · intro h1
    apply (Nat.div_mod_unique hb).mpr
    rw [Nat.mul_left_comm]
    omega
theorem half_bit (a i : Nat) : a / 2 ^ i = 2 * (a / 2 ^ (i + 1)) + a / 2 ^ i % 2 := by
  rw [Nat.pow_succ, ← Nat.div_div_eq_div_mul]; omega
end Go.Abs
end
section
namespace Go.Abs
open Go

def bigC (x : Int) : List AV := .bool (decide (x < 0)) :: D16 x.natAbs
theorem over_cons (x : AV) (cs : List AV) (i : Nat) (v : AV) (n : Nat) : over (x :: cs) (i + 1) v n = (over cs i v n).map (x :: ·) := by
  unfold over
  cases v.cells with
  | none => rfl
  | some vs =>
    simp only
    by_cases h : vs.length = n
    · simp only [if_pos h, List.length_cons]
      by_cases h2 : i + n ≤ cs.length
      · rw [if_pos (by omega), if_pos h2]
        simp [show i + 1 + n = i + n + 1 by omega]
      · rw [if_neg (by omega), if_neg h2]; rfl
    · simp only [if_neg h]; rfl
theorem over17 (x : AV) (b : Bool) (a n : Nat) : over (x :: D16 a) 0 (.agg (.bool b :: D16 n)) 17 = some (.bool b :: D16 n) := by
  unfold over
  simp only [AV.cells, List.all_cons, AV.one, Bool.true_and, D16_one, if_true, List.length_cons, D16_len, List.take_zero, List.nil_append, Nat.zero_add]
  rw [if_pos (Nat.le_refl _), List.drop_succ_cons, D16_drop, List.append_nil]
theorem dig_top {n i : Nat} (h : n < 4294967296 ^ i) : dig n i = 0 := by unfold dig; rw [Nat.div_eq_of_lt h, Nat.zero_mod]
theorem over_top {n i d : Nat} (hi : i < 16) (h : n < 4294967296 ^ i) (hd : d < 4294967296) : over (D16 n) i (.int .u64 (d : Int)) 1 = some (D16 (n + d * 4294967296 ^ i)) := by
  have z := dig_top h
  have a := dig_add (n := n) (i := i) (d := d) (by omega)
  exact over_set hi (fun j _ hj => by rw [a j, if_neg hj]; rfl) (by rw [a i, if_pos rfl, z, Nat.zero_add])
theorem over_top17 (x : AV) {n i d : Nat} (hi : i < 16) (h : n < 4294967296 ^ i) (hd : d < 4294967296) : over (x :: D16 n) (i + 1) (.int .u64 (d : Int)) 1 = some (x :: D16 (n + d * 4294967296 ^ i)) := by
  rw [over_cons, over_top hi h hd]; rfl
theorem ix17_0 (b : Nat) : ixA 1 16 ⟨b, 1⟩ 0 = some (.ptr (some ⟨b, 1⟩)) := by simp [ixA]
theorem ix17_1 (b : Nat) : ixA 1 16 ⟨b, 1⟩ 1 = some (.ptr (some ⟨b, 2⟩)) := by simp [ixA]
theorem ix17_2 (b : Nat) : ixA 1 16 ⟨b, 1⟩ 2 = some (.ptr (some ⟨b, 3⟩)) := by simp [ixA]
theorem ix17_3 (b : Nat) : ixA 1 16 ⟨b, 1⟩ 3 = some (.ptr (some ⟨b, 4⟩)) := by simp [ixA]
theorem ix17 (b : Nat) {i : Nat} (h : i < 16) : ixA 1 16 ⟨b, 1⟩ (i : Int) = some (.ptr (some ⟨b, i + 1⟩)) := by rw [ix16 _ _ h, Nat.add_comm]
theorem bigC_flat (x : Int) : AV.lts 0 (bigC x) := by simp [bigC, AV.lts, AV.lt, D16_flat]
def wideV (x : Int) : Wd × Bool :=
  if fitsW x = true then (Wd.of x, true) else if 0 ≤ x ∧ x < 340282366920938463463374607431768211456 then (⟨x / 18446744073709551616 - 18446744073709551616, x % 18446744073709551616⟩, false) else (⟨0, 0⟩, false)
theorem dig0 (n : Nat) : dig n 0 = n % 4294967296 := by unfold dig; rw [Nat.pow_zero, Nat.div_one]
theorem dig1 (n : Nat) : dig n 1 = n / 4294967296 % 4294967296 := by unfold dig; rw [Nat.pow_one]
theorem dig2 (n : Nat) : dig n 2 = n / 18446744073709551616 % 4294967296 := rfl
theorem dig3 (n : Nat) : dig n 3 = n / 79228162514264337593543950336 % 4294967296 := rfl
end Go.Abs
end
section
namespace Go.Proofs.YtlginbmjiecglaaGreat
set_option maxRecDepth 4000
open Go Go.Abs

theorem radd_loop (a b : Nat) (m : Mem) : ∀ (d i c : Nat), i + d = 16 → (a + b) / 4294967296 ^ i = a / 4294967296 ^ i + b / 4294967296 ^ i + c → c ≤ 1 →
    Res m (D11.gor 262144 [.ptr (some ⟨m.next, 0⟩), .ptr (some ⟨m.next + 1, 0⟩), .ptr (some ⟨m.next + 1 + 1, 0⟩), .ptr (some ⟨m.next + 1 + 1 + 1, 0⟩), .int .u64 (c : Int), .int .i64 (i : Int)]
      ((((m.lay (.cells (D16 a) false)).lay (.cells (D16 b) false)).lay (.cells (D16 0) false)).lay (.cells (D16 ((a + b) % 4294967296 ^ i)) false))) (.agg (D16 (a + b))) := by
  intro d
  induction d with
  | zero =>
    intro i c hi _ _
    have : i = 16 := by omega
    subst this
    simp only [aps, ips, g64_0_is (H := H11), T.g64_0, Option.bind_some, p2, bin_lss, condA, decide_eq_false (show ¬ ((16 : Nat) : Int) < 16 by omega)]
    simp only [lms, lcs, aps, ips, g64_3_is (H := H11), T.g64_3, Option.bind_some, q1, resA, nth0, tupA, ld93, if_true, if_false, D16_len, D16_take, over_all, Nat.reduceLeDiff, Option.map_some, D16_mod]
    refine Res.eq ?_ rfl
    (repeat apply Fr.lays)
    exact Fr.refl _
  | succ d ih =>
    intro i c hi hc hc1
    have h16 : i < 16 := by omega
    have la := dig_lt a i
    have lb := dig_lt b i
    obtain ⟨s, hs⟩ : ∃ s, s = dig a i + dig b i + c := ⟨_, rfl⟩
    have e1 : dig (a + b) i = s % 4294967296 := by unfold dig at hs ⊢; omega
    have e2 : (a + b) / 4294967296 ^ (i + 1) = a / 4294967296 ^ (i + 1) + b / 4294967296 ^ (i + 1) + s / 4294967296 := by
      rw [dig_rest, dig_rest, dig_rest]; unfold dig at hs; omega
    have hw : IntKind.wrap .u64 (IntKind.wrap .u64 ((dig a i : Int) + (dig b i : Int)) + (c : Int)) = ((s : Nat) : Int) := by rw [wrap_u64_mod, wrap_u64_mod]; omega
    have ov : over (D16 ((a + b) % 4294967296 ^ i)) i (.int .u64 ((s % 4294967296 : Nat) : Int)) 1 = some (D16 ((a + b) % 4294967296 ^ (i + 1))) :=
      over_set h16 dig_mod_step (by rw [dig_mod_at, e1])
    simp only [aps, ips, g64_0_is (H := H11), T.g64_0, Option.bind_some, p2, bin_lss, condA, decide_eq_true (show (i : Int) < 16 by omega)]
    simp only [lms, lcs, aps, ips, g64_1_is (H := H11), T.g64_1, Option.bind_some, p2, q1, bin_add, ld30, ix93, if_true, if_false, Option.map_some, ix16 _ _ h16, D16_get _ h16, hw, bin_remB, bin_quoB _ (show s < 18446744073709551616 by omega), ov]
    simp only [aps, ips, g64_2_is (H := H11), T.g64_2, Option.bind_some, p2, bin_add, show (i : Int) + 1 = ((i + 1 : Nat) : Int) by omega, wrap_i64 (n := ((i + 1 : Nat) : Int)) (by omega) (by omega)]
    exact ih (i + 1) (s / 4294967296) (by omega) e2 (by omega)
theorem radd_is (a b : Nat) (m : Mem) : Res m (run E11 (.fn 64) [.agg (D16 a), .agg (D16 b)] m) (.agg (D16 (a + b))) := by
  have lp := radd_loop a b m 16 0 0 rfl (by simp) (by omega)
  rw [Nat.pow_zero, Nat.mod_one] at lp
  simp only [lms, aps, ips, f64_is (H := H11) rfl, T.f64, Option.bind_some, pB, boxA, if_true, D16_one, AV.cells, Option.map_some, z16]
  exact lp

theorem rsub_loop {a b N : Nat} (hN : a = b + N) (m : Mem) : ∀ (d i c : Nat), i + d = 16 → a / 4294967296 ^ i = b / 4294967296 ^ i + N / 4294967296 ^ i + c → c ≤ 1 →
    Res m (D11.gor 409600 [.ptr (some ⟨m.next, 0⟩), .ptr (some ⟨m.next + 1, 0⟩), .ptr (some ⟨m.next + 1 + 1, 0⟩), .ptr (some ⟨m.next + 1 + 1 + 1, 0⟩), .int .u64 (c : Int), .int .i64 (i : Int)]
      ((((m.lay (.cells (D16 a) false)).lay (.cells (D16 b) false)).lay (.cells (D16 0) false)).lay (.cells (D16 (N % 4294967296 ^ i)) false))) (.agg (D16 N)) := by
  intro d
  induction d with
  | zero =>
    intro i c hi _ _
    have : i = 16 := by omega
    subst this
    simp only [aps, ips, g100_0_is (H := H11), T.g100_0, Option.bind_some, p2, bin_lss, condA, decide_eq_false (show ¬ ((16 : Nat) : Int) < 16 by omega)]
    simp only [lms, lcs, aps, ips, g100_3_is (H := H11), T.g100_3, Option.bind_some, q1, resA, nth0, tupA, ld93, if_true, if_false, D16_len, D16_take, over_all, Nat.reduceLeDiff, Option.map_some, D16_mod]
    refine Res.eq ?_ rfl
    (repeat apply Fr.lays)
    exact Fr.refl _
  | succ d ih =>
    intro i c hi hc hc1
    have h16 : i < 16 := by omega
    have la := dig_lt a i
    have lb := dig_lt b i
    obtain ⟨s, hs⟩ : ∃ s, s = dig a i + 4294967296 - dig b i - c := ⟨_, rfl⟩
    have e1 : dig N i = s % 4294967296 := by unfold dig at hs ⊢; omega
    have e2 : a / 4294967296 ^ (i + 1) = b / 4294967296 ^ (i + 1) + N / 4294967296 ^ (i + 1) + (1 - s / 4294967296) := by
      rw [dig_rest, dig_rest, dig_rest]; unfold dig at hs; omega
    have hw : IntKind.wrap .u64 (IntKind.wrap .u64 (IntKind.wrap .u64 ((dig a i : Int) + 4294967296) - (dig b i : Int)) - (c : Int)) = ((s : Nat) : Int) := by rw [wrap_u64_mod, wrap_u64_mod, wrap_u64_mod]; omega
    have hw2 : IntKind.wrap .u64 (1 - ((s / 4294967296 : Nat) : Int)) = ((1 - s / 4294967296 : Nat) : Int) := by rw [wrap_u64_mod]; omega
    have ov : over (D16 (N % 4294967296 ^ i)) i (.int .u64 ((s % 4294967296 : Nat) : Int)) 1 = some (D16 (N % 4294967296 ^ (i + 1))) :=
      over_set h16 dig_mod_step (by rw [dig_mod_at, e1])
    simp only [aps, ips, g100_0_is (H := H11), T.g100_0, Option.bind_some, p2, bin_lss, condA, decide_eq_true (show (i : Int) < 16 by omega)]
    simp only [lms, lcs, aps, ips, g100_1_is (H := H11), T.g100_1, Option.bind_some, p2, q1, bin_add, bin_sub, ld30, ix93, if_true, if_false, Option.map_some, ix16 _ _ h16, D16_get _ h16, hw, bin_remB, bin_quoB _ (show s < 18446744073709551616 by omega), ov, hw2]
    simp only [aps, ips, g100_2_is (H := H11), T.g100_2, Option.bind_some, p2, bin_add, show (i : Int) + 1 = ((i + 1 : Nat) : Int) by omega, wrap_i64 (n := ((i + 1 : Nat) : Int)) (by omega) (by omega)]
    exact ih (i + 1) (1 - s / 4294967296) (by omega) e2 (by omega)
theorem rsub_is {a b : Nat} (h : b ≤ a) (m : Mem) : Res m (run E11 (.fn 100) [.agg (D16 a), .agg (D16 b)] m) (.agg (D16 (a - b))) := by
  have lp := rsub_loop (N := a - b) (show a = b + (a - b) by omega) m 16 0 0 rfl (by simp; omega) (by omega)
  rw [Nat.pow_zero, Nat.mod_one] at lp
  simp only [lms, aps, ips, f100_is (H := H11) rfl, T.f100, Option.bind_some, pB, boxA, if_true, D16_one, AV.cells, Option.map_some, z16]
  exact lp

def cmpN (a b : Nat) : Int := if a < b then -1 else if a = b then 0 else 1
theorem rcmp_loop (a b : Nat) (m : Mem) : ∀ (k : Nat), k ≤ 16 → a / 4294967296 ^ k = b / 4294967296 ^ k →
    Res m (D11.gor 258048 [.ptr (some ⟨m.next, 0⟩), .ptr (some ⟨m.next + 1, 0⟩), .int .i64 ((k : Int) - 1)]
      ((m.lay (.cells (D16 a) false)).lay (.cells (D16 b) false))) (.int .i64 (cmpN a b)) := by
  intro k
  induction k with
  | zero =>
    intro _ h
    rw [Nat.pow_zero, Nat.div_one, Nat.div_one] at h
    simp only [aps, ips, g63_0_is (H := H11), T.g63_0, Option.bind_some, p2, bin_geq, condA, decide_eq_false (show ¬ ((0 : Nat) : Int) - 1 ≥ 0 by omega)]
    simp only [aps, ips, g63_4_is (H := H11), T.g63_4]
    refine Res.eq ?_ (by unfold cmpN; rw [if_neg (by omega), if_pos h])
    (repeat apply Fr.lays)
    exact Fr.refl _
  | succ k ih =>
    intro hk h
    have h16 : k < 16 := by omega
    rw [dig_rest, dig_rest] at h
    simp only [show ((k + 1 : Nat) : Int) - 1 = (k : Int) by omega]
    simp only [aps, ips, g63_0_is (H := H11), T.g63_0, Option.bind_some, p2, bin_geq, condA, decide_eq_true (show (k : Int) ≥ 0 by omega)]
    by_cases e : dig a k = dig b k
    · have e' : decide ((dig a k : Int) = (dig b k : Int)) = true := decide_eq_true (by omega)
      simp only [lms, lcs, aps, ips, g63_1_is (H := H11), T.g63_1, Option.bind_some, p2, q1, bin_lss, bin_neq, condA, ld30, ix93, if_true, if_false, ix16 _ _ h16, D16_get _ h16, e', Bool.not_true]
      simp only [aps, ips, g63_3_is (H := H11), T.g63_3, Option.bind_some, p2, bin_sub, wrap_i64 (n := (k : Int) - 1) (by omega) (by omega)]
      exact ih (by omega) (by unfold dig at e; omega)
    · have e' : decide ((dig a k : Int) = (dig b k : Int)) = false := decide_eq_false (by omega)
      by_cases l : dig a k < dig b k
      · have l' : decide ((dig a k : Int) < (dig b k : Int)) = true := decide_eq_true (by omega)
        simp only [lms, lcs, aps, ips, g63_1_is (H := H11), T.g63_1, Option.bind_some, p2, q1, bin_lss, bin_neq, condA, ld30, ix93, if_true, if_false, ix16 _ _ h16, D16_get _ h16, e', l', Bool.not_false]
        have : a < b := by
          apply Classical.byContradiction
          intro hn
          have := Nat.div_le_div_right (c := 4294967296 ^ k) (show b ≤ a by omega)
          unfold dig at l
          omega
        refine Res.eq ?_ (by unfold cmpN; rw [if_pos this])
        (repeat apply Fr.lays)
        exact Fr.refl _
      · have l' : decide ((dig a k : Int) < (dig b k : Int)) = false := decide_eq_false (by omega)
        simp only [lms, lcs, aps, ips, g63_1_is (H := H11), T.g63_1, Option.bind_some, p2, q1, bin_lss, bin_neq, condA, ld30, ix93, if_true, if_false, ix16 _ _ h16, D16_get _ h16, e', l', Bool.not_false]
        simp only [aps, ips, g63_2_is (H := H11), T.g63_2]
        have : b < a := by
          apply Classical.byContradiction
          intro hn
          have := Nat.div_le_div_right (c := 4294967296 ^ k) (show a ≤ b by omega)
          unfold dig at l e
          omega
        refine Res.eq ?_ (by unfold cmpN; rw [if_neg (by omega), if_neg (by omega)])
        (repeat apply Fr.lays)
        exact Fr.refl _
theorem rcmp_is {a b : Nat} (ha : a < 4294967296 ^ 16) (hb : b < 4294967296 ^ 16) (m : Mem) : Res m (run E11 (.fn 63) [.agg (D16 a), .agg (D16 b)] m) (.int .i64 (cmpN a b)) := by
  have lp := rcmp_loop a b m 16 (by omega) (by rw [Nat.div_eq_of_lt ha, Nat.div_eq_of_lt hb])
  simp only [lms, aps, ips, f63_is (H := H11) rfl, T.f63, Option.bind_some, boxA, if_true, D16_one, AV.cells, Option.map_some]
  exact lp
end Go.Proofs.YtlginbmjiecglaaGreat
end
section
namespace Go.Proofs.YtlginbmjiecglaaGreat
set_option maxRecDepth 4000
open Go Go.Abs

theorem set_at (n i v : Nat) (hv : v < 4294967296) : ∃ N, N + dig n i * 4294967296 ^ i = n + v * 4294967296 ^ i ∧ (∀ j, j < 16 → j ≠ i → dig n j = dig N j) ∧ dig N i = v := by
  have hle : dig n i * 4294967296 ^ i ≤ n := by
    have h1 : dig n i ≤ n / 4294967296 ^ i := Nat.mod_le _ _
    exact Nat.le_trans (Nat.mul_le_mul_right _ h1) (Nat.div_mul_le_self _ _)
  obtain ⟨n0, hn0⟩ : ∃ n0, n = n0 + dig n i * 4294967296 ^ i := ⟨n - dig n i * 4294967296 ^ i, by omega⟩
  have d0 : dig n0 i = 0 := by
    obtain ⟨t, ht⟩ : ∃ t, t = dig n i := ⟨_, rfl⟩
    have hq : n / 4294967296 ^ i = n0 / 4294967296 ^ i + t := by
      rw [hn0, ← ht, Nat.add_mul_div_right _ _ (B_pos i)]
    have h1 : t = (n0 / 4294967296 ^ i + t) % 4294967296 := by rw [← hq]; exact ht
    have h2 := dig_lt n0 i
    have h3 := dig_lt n i
    unfold dig at h2 ⊢
    omega
  have s1 := dig_add (n := n0) (i := i) (d := dig n i) (by have := dig_lt n i; omega)
  rw [← hn0] at s1
  have s2 := dig_add (n := n0) (i := i) (d := v) (by omega)
  refine ⟨n0 + v * 4294967296 ^ i, by omega, fun j _ hj => ?_, ?_⟩
  · rw [s1 j, s2 j, if_neg hj, if_neg hj]
  · rw [s2 i, if_pos rfl, d0, Nat.zero_add]
theorem rmul_inner (a b base : Nat) (m : Mem) {i : Nat} (hi : i < 8) : ∀ (d k c V : Nat), k + d = 8 → c < 4294967296 → V + c * 4294967296 ^ (i + k) = base + dig a i * (b % 4294967296 ^ k) * 4294967296 ^ i →
    ∃ V' c', c' < 4294967296 ∧ V' + c' * 4294967296 ^ (i + 8) = base + dig a i * (b % 4294967296 ^ 8) * 4294967296 ^ i ∧
    D11.gor 270338 [.ptr (some ⟨m.next, 0⟩), .ptr (some ⟨m.next + 1, 0⟩), .ptr (some ⟨m.next + 1 + 1, 0⟩), .ptr (some ⟨m.next + 1 + 1 + 1, 0⟩), .int .i64 (i : Int), .int .u64 (c : Int), .int .i64 (k : Int)]
      ((((m.lay (.cells (D16 a) false)).lay (.cells (D16 b) false)).lay (.cells (D16 0) false)).lay (.cells (D16 V) false)) =
    D11.gor 270341 [.ptr (some ⟨m.next, 0⟩), .ptr (some ⟨m.next + 1, 0⟩), .ptr (some ⟨m.next + 1 + 1, 0⟩), .ptr (some ⟨m.next + 1 + 1 + 1, 0⟩), .int .i64 (i : Int)]
      ((((m.lay (.cells (D16 a) false)).lay (.cells (D16 b) false)).lay (.cells (D16 0) false)).lay (.cells (D16 V') false)) := by
  intro d
  induction d with
  | zero =>
    intro k c V hk hc hV
    have : k = 8 := by omega
    subst this
    refine ⟨V, c, hc, hV, ?_⟩
    simp only [aps, ips, g66_2_is (H := H11), T.g66_2, Option.bind_some, p2, bin_lss, condA, decide_eq_false (show ¬ ((8 : Nat) : Int) < 8 by omega)]
  | succ d ih =>
    intro k c V hk hc hV
    have h16 : i + k < 16 := by omega
    have lt := dig_lt V (i + k)
    have lm := mul_lt_B (dig_lt a i) (dig_lt b k)
    obtain ⟨X, hX⟩ : ∃ X, X = dig a i * dig b k := ⟨_, rfl⟩
    rw [← hX] at lm
    obtain ⟨s, hs⟩ : ∃ s, s = dig V (i + k) + X + c := ⟨_, rfl⟩
    obtain ⟨N, hN, o1, o2⟩ := set_at V (i + k) (s % 4294967296) (Nat.mod_lt _ (by omega))
    have inv : N + s / 4294967296 * 4294967296 ^ (i + (k + 1)) = base + dig a i * (b % 4294967296 ^ (k + 1)) * 4294967296 ^ i := by
      have e3 : dig a i * (b % 4294967296 ^ k + dig b k * 4294967296 ^ k) * 4294967296 ^ i = dig a i * (b % 4294967296 ^ k) * 4294967296 ^ i + X * 4294967296 ^ (i + k) := by
        rw [Nat.mul_add, Nat.add_mul, hX, Nat.pow_add]
        simp only [Nat.mul_comm, Nat.mul_left_comm, Nat.mul_assoc]
      rw [show i + (k + 1) = (i + k) + 1 by omega, pow_add_one, dig_mod_rest, e3]
      have e1 : s * 4294967296 ^ (i + k) = dig V (i + k) * 4294967296 ^ (i + k) + X * 4294967296 ^ (i + k) + c * 4294967296 ^ (i + k) := by rw [hs, Nat.add_mul, Nat.add_mul]
      have e2 : s * 4294967296 ^ (i + k) = s % 4294967296 * 4294967296 ^ (i + k) + s / 4294967296 * (4294967296 ^ (i + k) * 4294967296) := by
        rw [show s / 4294967296 * (4294967296 ^ (i + k) * 4294967296) = (4294967296 * (s / 4294967296)) * 4294967296 ^ (i + k) by simp only [Nat.mul_comm, Nat.mul_left_comm, Nat.mul_assoc], ← Nat.add_mul, Nat.mod_add_div]
      omega
    have hw : IntKind.wrap .u64 (IntKind.wrap .u64 ((dig V (i + k) : Int) + IntKind.wrap .u64 ((dig a i : Int) * (dig b k : Int))) + (c : Int)) = ((s : Nat) : Int) := by
      rw [← Int.natCast_mul, ← hX, wrap_u64_mod, wrap_u64_mod, wrap_u64_mod]; omega
    have hik : IntKind.wrap .i64 ((i : Int) + (k : Int)) = ((i + k : Nat) : Int) := by rw [wrap_i64 (by omega) (by omega)]; omega
    have ov : over (D16 V) (i + k) (.int .u64 ((s % 4294967296 : Nat) : Int)) 1 = some (D16 N) := over_set h16 o1 (by rw [o2])
    obtain ⟨V', c', r1, r2, r3⟩ := ih (k + 1) (s / 4294967296) N (by omega) (by omega) inv
    refine ⟨V', c', r1, r2, ?_⟩
    simp only [aps, ips, g66_2_is (H := H11), T.g66_2, Option.bind_some, p2, bin_lss, condA, decide_eq_true (show (k : Int) < 8 by omega)]
    simp only [lms, lcs, aps, ips, g66_3_is (H := H11), T.g66_3, Option.bind_some, p2, q1, bin_add, bin_mul, ld30, ix93, if_true, if_false, Option.map_some, hik, ix16 _ _ h16, ix16 _ _ (show i < 16 by omega), ix16 _ _ (show k < 16 by omega), D16_get _ h16, D16_get _ (show i < 16 by omega), D16_get _ (show k < 16 by omega), hw, bin_remB, bin_quoB _ (show s < 18446744073709551616 by omega), ov]
    simp only [aps, ips, g66_4_is (H := H11), T.g66_4, Option.bind_some, p2, bin_add, show (k : Int) + 1 = ((k + 1 : Nat) : Int) by omega, wrap_i64 (n := ((k + 1 : Nat) : Int)) (by omega) (by omega)]
    exact r3
theorem rmul_loop {a b : Nat} (ha : a < 4294967296 ^ 8) (hb : b < 4294967296 ^ 7) (m : Mem) : ∀ (d i : Nat), i + d = 8 →
    Res m (D11.gor 270336 [.ptr (some ⟨m.next, 0⟩), .ptr (some ⟨m.next + 1, 0⟩), .ptr (some ⟨m.next + 1 + 1, 0⟩), .ptr (some ⟨m.next + 1 + 1 + 1, 0⟩), .int .i64 (i : Int)]
      ((((m.lay (.cells (D16 a) false)).lay (.cells (D16 b) false)).lay (.cells (D16 0) false)).lay (.cells (D16 (a % 4294967296 ^ i * b)) false))) (.agg (D16 (a * b))) := by
  have hb8 : b % 4294967296 ^ 8 = b := Nat.mod_eq_of_lt (Nat.lt_of_lt_of_le hb (Nat.pow_le_pow_right (by omega) (by omega)))
  intro d
  induction d with
  | zero =>
    intro i hi
    have : i = 8 := by omega
    subst this
    simp only [aps, ips, g66_0_is (H := H11), T.g66_0, Option.bind_some, p2, bin_lss, condA, decide_eq_false (show ¬ ((8 : Nat) : Int) < 8 by omega)]
    simp only [lms, lcs, aps, ips, g66_6_is (H := H11), T.g66_6, Option.bind_some, q1, resA, nth0, tupA, ld93, if_true, if_false, D16_len, D16_take, over_all, Nat.reduceLeDiff, Option.map_some, Nat.mod_eq_of_lt ha]
    refine Res.eq ?_ rfl
    (repeat apply Fr.lays)
    exact Fr.refl _
  | succ d ih =>
    intro i hi
    obtain ⟨V', c', r1, r2, r3⟩ := rmul_inner a b (a % 4294967296 ^ i * b) m (show i < 8 by omega) 8 0 0 (a % 4294967296 ^ i * b) rfl (by omega) (by rw [Nat.pow_zero, Nat.mod_one, Nat.mul_zero, Nat.zero_mul, Nat.zero_mul])
    have e : a % 4294967296 ^ i * b + dig a i * (b % 4294967296 ^ 8) * 4294967296 ^ i = a % 4294967296 ^ (i + 1) * b := by
      rw [hb8, dig_mod_rest, Nat.add_mul, Nat.mul_right_comm]
    rw [e] at r2
    have lt : a % 4294967296 ^ (i + 1) * b < 4294967296 ^ (i + 8) := by
      have h1 : a % 4294967296 ^ (i + 1) < 4294967296 ^ (i + 1) := Nat.mod_lt _ (B_pos _)
      have h2 : 4294967296 ^ (i + 8) = 4294967296 ^ (i + 1) * 4294967296 ^ 7 := by rw [← Nat.pow_add, show i + 1 + 7 = i + 8 by omega]
      rw [h2]
      exact Nat.mul_lt_mul'' h1 hb
    have c0 : c' = 0 := by
      apply Classical.byContradiction
      intro h
      have := Nat.mul_le_mul_right (4294967296 ^ (i + 8)) (show 1 ≤ c' by omega)
      rw [Nat.one_mul] at this
      omega
    subst c0
    rw [Nat.zero_mul, Nat.add_zero] at r2
    rw [r2] at r3
    simp only [aps, ips, g66_0_is (H := H11), T.g66_0, Option.bind_some, p2, bin_lss, condA, decide_eq_true (show (i : Int) < 8 by omega)]
    simp only [aps, ips, g66_1_is (H := H11), T.g66_1]
    rw [show (0 : Int) = ((0 : Nat) : Int) from rfl, r3]
    simp only [aps, ips, g66_5_is (H := H11), T.g66_5, Option.bind_some, p2, bin_add, show (i : Int) + 1 = ((i + 1 : Nat) : Int) by omega, wrap_i64 (n := ((i + 1 : Nat) : Int)) (by omega) (by omega)]
    exact ih (i + 1) (by omega)
theorem rmul_is {a b : Nat} (ha : a < 4294967296 ^ 8) (hb : b < 4294967296 ^ 7) (m : Mem) : Res m (run E11 (.fn 66) [.agg (D16 a), .agg (D16 b)] m) (.agg (D16 (a * b))) := by
  have lp := rmul_loop ha hb m 8 0 rfl
  rw [Nat.pow_zero, Nat.mod_one, Nat.zero_mul] at lp
  simp only [lms, aps, ips, f66_is (H := H11) rfl, T.f66, Option.bind_some, pB, boxA, if_true, D16_one, AV.cells, Option.map_some, z16]
  exact lp
end Go.Proofs.YtlginbmjiecglaaGreat
end
section
namespace Go.Proofs.YtlginbmjiecglaaGreat
set_option maxRecDepth 4000
open Go Go.Abs
def S12 : List FuncId := [64, 100, 63, 66]
noncomputable def H12 : FuncId → Option (List AV → Mem → R) := hooksC E11 S12
noncomputable abbrev E12 : Env := T.EH H12
theorem E12_ok : EnvOk E12 := hooksC_ok E11_ok S12
noncomputable abbrev D12 : Do := T.Rl H12
section
variable {H : FuncId → Option (List AV → Mem → R)}
theorem radd_at (h : H 64 = some (cleanH E11 64)) (a b : Nat) (m : Mem) : run (T.EH H) (.fn 64) [.agg (D16 a), .agg (D16 b)] m = some (.agg (D16 (a + b)), m) :=
  hook_at h (by simp [AV.flat, AV.lt, D16_flat]) fun m2 _ _ => radd_is a b m2
theorem rsub_at (h : H 100 = some (cleanH E11 100)) {a b : Nat} (hh : b ≤ a) (m : Mem) : run (T.EH H) (.fn 100) [.agg (D16 a), .agg (D16 b)] m = some (.agg (D16 (a - b)), m) :=
  hook_at h (by simp [AV.flat, AV.lt, D16_flat]) fun m2 _ _ => rsub_is hh m2
theorem rcmp_at (h : H 63 = some (cleanH E11 63)) {a b : Nat} (ha : a < 4294967296 ^ 16) (hb : b < 4294967296 ^ 16) (m : Mem) : run (T.EH H) (.fn 63) [.agg (D16 a), .agg (D16 b)] m = some (.int .i64 (cmpN a b), m) :=
  hook_at h (by simp [AV.flat, AV.lt]) fun m2 _ _ => rcmp_is ha hb m2
theorem rmul_at (h : H 66 = some (cleanH E11 66)) {a b : Nat} (ha : a < 4294967296 ^ 8) (hb : b < 4294967296 ^ 7) (m : Mem) : run (T.EH H) (.fn 66) [.agg (D16 a), .agg (D16 b)] m = some (.agg (D16 (a * b)), m) :=
  hook_at h (by simp [AV.flat, AV.lt, D16_flat]) fun m2 _ _ => rmul_is ha hb m2
end
theorem ix16z (b o : Nat) : ixA 1 16 ⟨b, o⟩ 0 = some (.ptr (some ⟨b, o⟩)) := by simp [ixA]
theorem bd121 : buildA Tryz.prog 93 [] = some (.agg (D16 0)) := by rw [← z16]; kernel_rfl
theorem part26 (cs : List AV) (i : Nat) : partA Tryz.prog 30 cs i = cs[i]? := by kernel_rfl
theorem eq26 (x y : Int) : eqA Tryz.prog 49 30 (.int .u64 x) (.int .u64 y) = some (x == y) := by kernel_rfl
theorem dig_elems {a b : Nat} (ha : a < 4294967296 ^ 16) (hb : b < 4294967296 ^ 16) : ∀ (k i : Nat), i + k = 16 → eqElems Tryz.prog (eqA Tryz.prog 49) 30 1 (D16 a) (D16 b) k i = some (decide (a / 4294967296 ^ i = b / 4294967296 ^ i)) := by
  intro k
  induction k with
  | zero =>
    intro i hi
    have : i = 16 := by omega
    subst this
    rw [Nat.div_eq_of_lt ha, Nat.div_eq_of_lt hb]
    rfl
  | succ k ih =>
    intro i hi
    have h16 : i < 16 := by omega
    unfold eqElems
    rw [part26, part26, Nat.mul_one, D16_get _ h16, D16_get _ h16]
    simp only [eq26]
    have hr := ih (i + 1) (by omega)
    rw [dig_rest, dig_rest] at hr
    by_cases e : dig a i = dig b i
    · have e2 : ((dig a i : Int) == (dig b i : Int)) = true := by rw [e]; exact beq_self_eq_true _
      rw [e2]
      simp only
      rw [hr]
      congr 1
      apply decide_eq_decide.mpr
      unfold dig at e
      omega
    · have e2 : ((dig a i : Int) == (dig b i : Int)) = false := by
        apply beq_eq_false_iff_ne.mpr; omega
      rw [e2]
      simp only
      rw [decide_eq_false]
      intro h
      exact e (by unfold dig; rw [h])
theorem dig_eql {a b : Nat} (ha : a < 4294967296 ^ 16) (hb : b < 4294967296 ^ 16) : binA Tryz.prog .eql 93 (.agg (D16 a)) (.agg (D16 b)) = some (.bool (decide (a = b))) := by
  have h : ∀ xs ys : List AV, binA Tryz.prog .eql 93 (.agg xs) (.agg ys) = (match eqElems Tryz.prog (eqA Tryz.prog 49) 30 1 xs ys 16 0 with | some b => some (.bool b) | none => none) := fun xs ys => by kernel_rfl
  rw [h, dig_elems ha hb 16 0 rfl, Nat.pow_zero, Nat.div_one, Nat.div_one]
theorem rzero_is {a : Nat} (ha : a < 4294967296 ^ 16) (m : Mem) : Res m (run E12 (.fn 65) [.agg (D16 a)] m) (.bool (decide (a = 0))) := by
  simp only [lms, lcs, aps, ips, f65_is (H := H12) rfl, T.f65, Option.bind_some, q1, p1, p2, AV.cells, Option.map_some, Nat.reduceLeDiff, if_true, boxA, ld93, D16_len, D16_take, D16_one, bd121, dig_eql ha (B_pos 16)]
  refine Res.eq ?_ rfl
  (repeat apply Fr.lays)
  exact Fr.refl _
theorem ten_small {k : Nat} (hk : k ≤ 60) : 10 ^ k < 4294967296 ^ 7 := Nat.lt_of_le_of_lt (Nat.pow_le_pow_right (by omega) hk) (by decide)
theorem rten_loop {k : Nat} (hk : k ≤ 60) (m : Mem) : ∀ (d i : Nat), i + d = k →
    Res m (D12.gor 249856 [.int .i64 (k : Int), .ptr (some ⟨m.next, 0⟩), .ptr (some ⟨m.next + 1, 0⟩), .ptr (some ⟨m.next + 1 + 1, 0⟩), .int .i64 (i : Int)]
      (((m.lay (.cells (D16 0) false)).lay (.cells (D16 (10 ^ i)) false)).lay (.cells (D16 10) false))) (.agg (D16 (10 ^ k))) := by
  intro d
  induction d with
  | zero =>
    intro i hi
    have : i = k := by omega
    subst this
    simp only [aps, ips, g61_0_is (H := H12), T.g61_0, Option.bind_some, p2, bin_lss, condA, decide_eq_false (show ¬ (i : Int) < (i : Int) by omega)]
    simp only [lms, lcs, aps, ips, g61_3_is (H := H12), T.g61_3, Option.bind_some, q1, resA, nth0, tupA, ld93, if_true, if_false, D16_len, D16_take, over_all, Nat.reduceLeDiff, Option.map_some]
    refine Res.eq ?_ rfl
    (repeat apply Fr.lays)
    exact Fr.refl _
  | succ d ih =>
    intro i hi
    have mu := fun m => rmul_at (H := H12) rfl (a := 10 ^ i) (b := 10) (Nat.lt_trans (ten_small (by omega)) (by decide)) (by decide) m
    rw [← Nat.pow_succ] at mu
    simp only [aps, ips, g61_0_is (H := H12), T.g61_0, Option.bind_some, p2, bin_lss, condA, decide_eq_true (show (i : Int) < (k : Int) by omega)]
    simp only [lms, lcs, aps, ips, g61_1_is (H := H12), T.g61_1, D2_call, Option.bind_some, q1, ld93, if_true, if_false, D16_len, D16_take, over_all, Nat.reduceLeDiff, Option.map_some, mu]
    simp only [aps, ips, g61_2_is (H := H12), T.g61_2, Option.bind_some, p2, bin_add, show (i : Int) + 1 = ((i + 1 : Nat) : Int) by omega, wrap_i64 (n := ((i + 1 : Nat) : Int)) (by omega) (by omega)]
    exact ih (i + 1) (by omega)
theorem dig_small {n : Nat} (h : n < 4294967296) : ∀ j, dig n j = if j = 0 then n else 0 := by
  intro j
  have := dig_add (n := 0) (i := 0) (d := n) (by unfold dig; simpa using h) j
  rw [Nat.pow_zero, Nat.mul_one, Nat.zero_add] at this
  rw [this]
  have z : dig 0 j = 0 := by unfold dig; rw [Nat.zero_div]
  rw [z, Nat.zero_add]
theorem set_small {n : Nat} (h : n < 4294967296) : over (D16 0) 0 (.int .u64 (n : Int)) 1 = some (D16 n) :=
  over_set (by omega) (fun j _ hj => by rw [dig_small h, if_neg hj, dig_small (by omega), if_neg hj]) (by rw [dig_small h, if_pos rfl])
theorem rten_is {k : Nat} (hk : k ≤ 60) (m : Mem) : Res m (run E12 (.fn 61) [.int .i64 (k : Int)] m) (.agg (D16 (10 ^ k))) := by
  have lp := rten_loop hk m k 0 (by omega)
  rw [Nat.pow_zero] at lp
  have s1 : over (D16 0) 0 (.int .u64 1) 1 = some (D16 1) := set_small (n := 1) (by omega)
  have s10 : over (D16 0) 0 (.int .u64 10) 1 = some (D16 10) := set_small (n := 10) (by omega)
  simp only [lms, aps, ips, f61_is (H := H12) rfl, T.f61, Option.bind_some, pB, p2, ix93, if_true, if_false, Option.map_some, z16, ix16z, s1, s10]
  exact lp
theorem rdiv_loop {a b : Nat} (ha : a < 4294967296 ^ 16) (hb : b < 4294967296 ^ 16) (hb0 : 0 < b) (m : Mem) : ∀ (k : Nat), k ≤ 512 →
    Res m (D12.gor 253952 [.ptr (some ⟨m.next, 0⟩), .ptr (some ⟨m.next + 1, 0⟩), .ptr (some ⟨m.next + 1 + 1, 0⟩), .ptr (some ⟨m.next + 1 + 1 + 1, 0⟩), .int .i64 ((k : Int) - 1)]
      ((((m.lay (.cells (D16 a) false)).lay (.cells (D16 b) false)).lay (.cells (D16 (a / 2 ^ k / b * 2 ^ k)) false)).lay (.cells (D16 (a / 2 ^ k % b)) false))) (.tup [.agg (D16 (a / b)), .agg (D16 (a % b))]) := by
  intro k
  induction k with
  | zero =>
    intro _
    rw [Nat.pow_zero, Nat.div_one, Nat.mul_one]
    simp only [aps, ips, g62_0_is (H := H12), T.g62_0, Option.bind_some, p2, bin_geq, condA, decide_eq_false (show ¬ ((0 : Nat) : Int) - 1 ≥ 0 by omega)]
    simp only [lms, lcs, aps, ips, g62_3_is (H := H12), T.g62_3, Option.bind_some, q1, resA, nth0, nth1, tupA, ld93, if_true, if_false, D16_len, D16_take, over_all, Nat.reduceLeDiff, Option.map_some]
    refine Res.eq ?_ rfl
    (repeat apply Fr.lays)
    exact Fr.refl _
  | succ i ih =>
    intro hi
    have hx := half_bit a i
    obtain ⟨bit, hbit⟩ : ∃ bit, bit = a / 2 ^ i % 2 := ⟨_, rfl⟩
    have hb1 : bit ≤ 1 := by omega
    rw [← hbit] at hx
    obtain ⟨x, hxx⟩ : ∃ x, x = a / 2 ^ (i + 1) := ⟨_, rfl⟩
    rw [← hxx] at hx ⊢
    obtain ⟨d1, d2⟩ := div_bit (x := x) (bit := bit) hb0
    rw [← hx] at d1 d2
    have hxa : a / 2 ^ i ≤ a := Nat.div_le_self _ _
    have hr : x % b ≤ x := Nat.mod_le _ _
    have hrb : x % b < b := Nat.mod_lt _ hb0
    obtain ⟨r, hr'⟩ : ∃ r, r = x % b := ⟨_, rfl⟩
    rw [← hr'] at d1 d2 hr hrb ⊢
    have h16 : i / 32 < 16 := by omega
    have h32 : i % 32 < 32 := by omega
    have ad := fun m => radd_at (H := H12) rfl r r m
    have cm := fun m => rcmp_at (H := H12) rfl (a := 2 * r + bit) (b := b) (by omega) hb m
    have hj : IntKind.wrap .i64 ((i : Int).tdiv 32) = ((i / 32 : Nat) : Int) := by rw [Int.tdiv_eq_ediv_of_nonneg (by omega), wrap_i64 (by omega) (by omega)]; omega
    have hs : ((IntKind.wrap .u64 (i : Int)).tmod 32) = ((i % 32 : Nat) : Int) := by rw [wrap_u64 (by omega) (by omega), Int.tmod_eq_emod_of_nonneg (by omega)]; omega
    have hbt : ((dig a (i / 32) / 2 ^ (i % 32) : Nat) : Int).tmod 2 = (bit : Int) := by
      rw [Int.tmod_eq_emod_of_nonneg (Int.natCast_nonneg _), show (2 : Int) = ((2 : Nat) : Int) from rfl, ← Int.natCast_emod, bit_dig, ← hbit]
    have ev : dig (r + r) 0 % 2 = 0 := by unfold dig; rw [Nat.pow_zero, Nat.div_one]; omega
    have dl := dig_lt (r + r) 0
    have da := dig_add (n := r + r) (i := 0) (d := bit) (by omega)
    rw [Nat.pow_zero, Nat.mul_one, show r + r + bit = 2 * r + bit by omega] at da
    have hw : IntKind.wrap .u64 ((dig (r + r) 0 : Int) + (bit : Int)) = ((dig (2 * r + bit) 0 : Nat) : Int) := by
      rw [da 0, if_pos rfl, wrap_u64_mod]; omega
    have ov : over (D16 (r + r)) 0 (.int .u64 ((dig (2 * r + bit) 0 : Nat) : Int)) 1 = some (D16 (2 * r + bit)) :=
      over_set (by omega) (fun j _ hj => by rw [da j, if_neg hj, Nat.add_zero]) rfl
    simp only [show ((i + 1 : Nat) : Int) - 1 = (i : Int) by omega]
    simp only [aps, ips, g62_0_is (H := H12), T.g62_0, Option.bind_some, p2, bin_geq, condA, decide_eq_true (show (i : Int) ≥ 0 by omega)]
    have z2 : (2 : Int) ≠ 0 := by omega
    have z32 : (32 : Int) ≠ 0 := by omega
    by_cases hge : b ≤ 2 * r + bit
    · have hc : decide (cmpN (2 * r + bit) b ≥ 0) = true := by unfold cmpN; rw [if_neg (by omega)]; split <;> decide
      have sb := fun m => rsub_at (H := H12) rfl hge m
      have room := bit_room (x / b) i
      have dq := dig_add (n := x / b * 2 ^ (i + 1)) (i := i / 32) (d := 2 ^ (i % 32)) room
      rw [← pow_split] at dq
      have hq : x / b * 2 ^ (i + 1) + 2 ^ i = a / 2 ^ i / b * 2 ^ i := by
        rw [(d1 hge hb1).1, Nat.pow_succ, Nat.add_mul, Nat.one_mul, Nat.mul_comm (2 ^ i) 2, ← Nat.mul_assoc, Nat.mul_comm (x / b) 2]
      have hrr : 2 * r + bit - b = a / 2 ^ i % b := (d1 hge hb1).2.symm
      rw [hq] at dq
      have hw2 : IntKind.wrap .u64 ((dig (x / b * 2 ^ (i + 1)) (i / 32) : Int) + ((2 ^ (i % 32) : Nat) : Int)) = ((dig (a / 2 ^ i / b * 2 ^ i) (i / 32) : Nat) : Int) := by
        rw [dq (i / 32), if_pos rfl, wrap_u64_mod]
        obtain ⟨w, hw⟩ : ∃ w, w = 2 ^ (i % 32) := ⟨_, rfl⟩
        rw [← hw] at room ⊢
        omega
      have ov2 : over (D16 (x / b * 2 ^ (i + 1))) (i / 32) (.int .u64 ((dig (a / 2 ^ i / b * 2 ^ i) (i / 32) : Nat) : Int)) 1 = some (D16 (a / 2 ^ i / b * 2 ^ i)) :=
        over_set h16 (fun j _ hj => by rw [dq j, if_neg hj]; exact (Nat.add_zero _).symm) rfl
      simp only [lms, lcs, aps, ips, g62_1_is (H := H12), T.g62_1, D2_call, Option.bind_some, q1, p2, p1, bin_add, bin_geq, condA, ld93, ld30, ix93, cv3_127, if_true, if_false, D16_len, D16_take, over_all, Nat.reduceLeDiff, Option.map_some, ad, bin_quo _ _ _ _ z32, bin_rem _ _ _ _ z32, bin_rem _ _ _ _ z2, hj, hs, ix16z, ix16 _ _ h16, D16_get _ h16, D16_get _ (show 0 < 16 by omega), bin_shr_n _ (dig_lt _ _) h32, bin_shl_n _ h32, hbt, hw, ov, cm, hc, sb, hw2, ov2]
      simp only [aps, ips, g62_2_is (H := H12), T.g62_2, Option.bind_some, p2, bin_sub, wrap_i64 (n := (i : Int) - 1) (by omega) (by omega)]
      rw [hrr]
      exact ih (by omega)
    · have hc : decide (cmpN (2 * r + bit) b ≥ 0) = false := by unfold cmpN; rw [if_pos (by omega)]; decide
      have hq : x / b * 2 ^ (i + 1) = a / 2 ^ i / b * 2 ^ i := by
        rw [(d2 (by omega)).1, Nat.pow_succ, Nat.mul_comm (2 ^ i) 2, ← Nat.mul_assoc, Nat.mul_comm (x / b) 2]
      have hrr : 2 * r + bit = a / 2 ^ i % b := (d2 (by omega)).2.symm
      simp only [lms, lcs, aps, ips, g62_1_is (H := H12), T.g62_1, D2_call, Option.bind_some, q1, p2, p1, bin_add, bin_geq, condA, ld93, ld30, ix93, cv3_127, if_true, if_false, D16_len, D16_take, over_all, Nat.reduceLeDiff, Option.map_some, ad, bin_quo _ _ _ _ z32, bin_rem _ _ _ _ z32, bin_rem _ _ _ _ z2, hj, hs, ix16z, ix16 _ _ h16, D16_get _ h16, D16_get _ (show 0 < 16 by omega), bin_shr_n _ (dig_lt _ _) h32, hbt, hw, ov, cm, hc]
      simp only [aps, ips, g62_2_is (H := H12), T.g62_2, Option.bind_some, p2, bin_sub, wrap_i64 (n := (i : Int) - 1) (by omega) (by omega)]
      rw [hrr, hq]
      exact ih (by omega)
theorem two_pow32 (n : Nat) : 2 ^ (32 * n) = 4294967296 ^ n := by rw [Nat.pow_mul, show (2 : Nat) ^ 32 = 4294967296 from rfl]
theorem rdiv_is {a b : Nat} (ha : a < 4294967296 ^ 16) (hb : b < 4294967296 ^ 16) (hb0 : 0 < b) (m : Mem) : Res m (run E12 (.fn 62) [.agg (D16 a), .agg (D16 b)] m) (.tup [.agg (D16 (a / b)), .agg (D16 (a % b))]) := by
  obtain ⟨n, hn⟩ : ∃ n, n = 16 := ⟨_, rfl⟩
  have lp := rdiv_loop ha hb hb0 m (32 * n) (by omega)
  have e : a / 2 ^ (32 * n) = 0 := by rw [two_pow32, hn]; exact Nat.div_eq_of_lt ha
  have hi : ((32 * n : Nat) : Int) - 1 = 511 := by omega
  rw [hi] at lp
  rw [e, Nat.zero_div, Nat.zero_mul, Nat.zero_mod] at lp
  simp only [lms, aps, ips, f62_is (H := H12) rfl, T.f62, Option.bind_some, pB, boxA, if_true, D16_one, AV.cells, Option.map_some, z16]
  exact lp
end Go.Proofs.YtlginbmjiecglaaGreat
end
section
namespace Go.Proofs.YtlginbmjiecglaaGreat
set_option maxRecDepth 4000
open Go Go.Abs

theorem rof_fin (neg : Bool) {h l : Nat} (hh : h < 18446744073709551616) (hl : l < 18446744073709551616) (m : Mem) (cs : List AV) :
    Res m (D12.gor 167936 [.ptr (some ⟨m.next + 1, 0⟩), .int .u64 (h : Int), .int .u64 (l : Int), .bool neg] ((m.lay (.cells cs false)).lay (.cells (.bool false :: D16 0) false))) (.agg (.bool neg :: D16 (l + h * 18446744073709551616))) := by
  have s0 := over_top17 (.bool neg) (n := 0) (i := 0) (d := l % 4294967296) (by omega) (B_pos 0) (by omega)
  have s1 := over_top17 (.bool neg) (n := l % 4294967296) (i := 1) (d := l / 4294967296) (by omega) (by omega) (by omega)
  have s2 := over_top17 (.bool neg) (n := l) (i := 2) (d := h % 4294967296) (by omega) (by omega) (by omega)
  have s3 := over_top17 (.bool neg) (n := l + h % 4294967296 * 18446744073709551616) (i := 3) (d := h / 4294967296) (by omega) (by omega) (by omega)
  rw [Nat.pow_zero, Nat.mul_one, Nat.zero_add] at s0
  rw [Nat.pow_one, show l % 4294967296 + l / 4294967296 * 4294967296 = l by omega] at s1
  rw [show l + h % 4294967296 * 4294967296 ^ 2 = l + h % 4294967296 * 18446744073709551616 by omega] at s2
  rw [show l + h % 4294967296 * 18446744073709551616 + h / 4294967296 * 4294967296 ^ 3 = l + h * 18446744073709551616 by omega] at s3
  simp only [Nat.reduceAdd, Nat.zero_add] at s0 s1 s2 s3
  simp only [lms, lcs, ge, aps, ips, g41_0_is (H := H12), T.g41_0, Option.bind_some, p1, pB, p2, q1, fillA, AV.cells, Option.map_some, Nat.reduceAdd, Nat.reduceLeDiff, if_true, resA, nth0, tupA, fa95_1, ld95, bd95, ix93, if_false, D16_len, D16_take, over17, z16, bin_remB, bin_quoB _ hh, bin_quoB _ hl, ix17_0, ix17_1, ix17_2, ix17_3, s0, s1, s2, s3]
  refine Res.eq ?_ rfl
  (repeat apply Fr.lays)
  exact Fr.refl _
theorem rof_is {a : Wd} (ha : a.ok) (m : Mem) : Res m (run E12 (.fn 41) [.agg a.cells] m) (.agg (bigC a.val)) := by
  obtain ⟨ah, al⟩ := a
  obtain ⟨a1, a2, a3, a4⟩ := ha
  simp only at a1 a2 a3 a4
  unfold bigC Wd.val
  simp only [Wd.cells]
  by_cases hn : ah < 0
  · have n1 : (-(1 + ah) : Int) = ((-(1 + ah)).toNat : Int) := by omega
    rw [decide_eq_true (show ah * 18446744073709551616 + al < 0 by omega)]
    by_cases hz : al = 0
    · have fin := rof_fin true (h := (-ah).toNat) (l := 0) (by omega) (by omega) m [.int .i64 ah, .int .u64 al]
      rw [show 0 + (-ah).toNat * 18446744073709551616 = (ah * 18446744073709551616 + al).natAbs by omega] at fin
      have w1 : 18446744073709551615 - IntKind.wrap .u64 ah = -ah - 1 := by rw [wrap_u64_mod]; omega
      have w2 : IntKind.wrap .u64 (-ah - 1 + 1) = (((-ah).toNat : Nat) : Int) := by rw [wrap_u64_mod]; omega
      have w3 : IntKind.wrap .u64 (18446744073709551615 - al + 1) = ((0 : Nat) : Int) := by rw [wrap_u64_mod]; omega
      have w0 := wrap_u64_mod ah
      simp only [lms, lcs, ge, aps, ips, f41_is (H := H12) rfl, T.f41, Option.bind_some, pB, p1, q1, p2, bin_add, bin_eql, bin_lss, boxA, condA, fa35_0, fa35_1, ld2, ld30, cv2_30, AV.one, if_true, if_false, AV.cells, Option.map_some, z16, decide_eq_true hn, una_not (x := IntKind.wrap .u64 ah) (by rw [w0]; omega) (by rw [w0]; omega), una_not a3 a4, w1, w2, w3, decide_eq_true (show ((0 : Nat) : Int) = 0 from rfl)]
      exact fin
    · have fin := rof_fin true (h := (-ah - 1).toNat) (l := (18446744073709551616 - al).toNat) (by omega) (by omega) m [.int .i64 ah, .int .u64 al]
      rw [show (18446744073709551616 - al).toNat + (-ah - 1).toNat * 18446744073709551616 = (ah * 18446744073709551616 + al).natAbs by omega] at fin
      have w1 : 18446744073709551615 - IntKind.wrap .u64 ah = (((-ah - 1).toNat : Nat) : Int) := by rw [wrap_u64_mod]; omega
      have w3 : IntKind.wrap .u64 (18446744073709551615 - al + 1) = (((18446744073709551616 - al).toNat : Nat) : Int) := by rw [wrap_u64_mod]; omega
      have w0 := wrap_u64_mod ah
      simp only [lms, lcs, ge, aps, ips, f41_is (H := H12) rfl, T.f41, Option.bind_some, pB, p1, q1, p2, bin_add, bin_eql, bin_lss, boxA, condA, fa35_0, fa35_1, ld2, ld30, cv2_30, AV.one, if_true, if_false, AV.cells, Option.map_some, z16, decide_eq_true hn, una_not (x := IntKind.wrap .u64 ah) (by rw [w0]; omega) (by rw [w0]; omega), una_not a3 a4, w1, w3, decide_eq_false (show ¬ (((18446744073709551616 - al).toNat : Nat) : Int) = 0 by omega)]
      exact fin
  · rw [decide_eq_false (show ¬ ah * 18446744073709551616 + al < 0 by omega)]
    have fin := rof_fin false (h := ah.toNat) (l := al.toNat) (by omega) (by omega) m [.int .i64 ah, .int .u64 al]
    rw [show al.toNat + ah.toNat * 18446744073709551616 = (ah * 18446744073709551616 + al).natAbs by omega, show ((ah.toNat : Nat) : Int) = ah by omega, show ((al.toNat : Nat) : Int) = al by omega] at fin
    have w1 : IntKind.wrap .u64 ah = ah := wrap_u64 (by omega) (by omega)
    simp only [lms, lcs, ge, aps, ips, f41_is (H := H12) rfl, T.f41, Option.bind_some, pB, p1, q1, p2, bin_lss, boxA, condA, fa35_0, fa35_1, ld2, ld30, cv2_30, AV.one, if_true, if_false, AV.cells, Option.map_some, z16, decide_eq_false hn, w1]
    exact fin

theorem rwide_loop {n : Nat} (hn : n < 4294967296 ^ 16) (neg : Bool) (m : Mem) : ∀ (d i : Nat), i + d = 16 → 4 ≤ i → n % 4294967296 ^ i = n % 4294967296 ^ 4 →
    (n < 4294967296 ^ 4 → D12.gor 245760 [.ptr (some ⟨m.next, 0⟩), .ptr (some ⟨m.next + 1, 0⟩), .int .i64 (i : Int)] ((m.lay (.cells (.bool neg :: D16 n) false)).lay (.cells [.int .i64 0, .int .u64 0] false)) =
      D12.gor 245763 [.ptr (some ⟨m.next, 0⟩), .ptr (some ⟨m.next + 1, 0⟩)] ((m.lay (.cells (.bool neg :: D16 n) false)).lay (.cells [.int .i64 0, .int .u64 0] false))) ∧
    (¬ n < 4294967296 ^ 4 → Res m (D12.gor 245760 [.ptr (some ⟨m.next, 0⟩), .ptr (some ⟨m.next + 1, 0⟩), .int .i64 (i : Int)] ((m.lay (.cells (.bool neg :: D16 n) false)).lay (.cells [.int .i64 0, .int .u64 0] false))) (.tup [.agg [.int .i64 0, .int .u64 0], .bool false])) := by
  intro d
  induction d with
  | zero =>
    intro i hi _ h
    have : i = 16 := by omega
    subst this
    rw [Nat.mod_eq_of_lt hn] at h
    have hlt : n < 4294967296 ^ 4 := by rw [h]; exact Nat.mod_lt _ (B_pos 4)
    refine ⟨fun _ => ?_, fun x => absurd hlt x⟩
    simp only [aps, ips, g60_0_is (H := H12), T.g60_0, Option.bind_some, p2, bin_lss, condA, decide_eq_false (show ¬ ((16 : Nat) : Int) < 16 by omega)]
  | succ d ih =>
    intro i hi h4 h
    have h16 : i < 16 := by omega
    by_cases e : dig n i = 0
    · have e' : decide (((dig n i : Nat) : Int) = 0) = true := decide_eq_true (by omega)
      obtain ⟨i1, i2⟩ := ih (i + 1) (by omega) (by omega) (by rw [dig_mod_rest, e, Nat.zero_mul, Nat.add_zero, h])
      constructor
      · intro hlt
        rw [← i1 hlt]
        rw [show D12.gor 245760 [.ptr (some ⟨m.next, 0⟩), .ptr (some ⟨m.next + 1, 0⟩), .int .i64 ((i + 1 : Nat) : Int)] ((m.lay (.cells (.bool neg :: D16 n) false)).lay (.cells [.int .i64 0, .int .u64 0] false)) = D12.gor 245762 [.ptr (some ⟨m.next, 0⟩), .ptr (some ⟨m.next + 1, 0⟩), .int .i64 (i : Int)] ((m.lay (.cells (.bool neg :: D16 n) false)).lay (.cells [.int .i64 0, .int .u64 0] false)) by
          simp only [aps, ips, g60_2_is (H := H12), T.g60_2, Option.bind_some, p2, bin_add, show (i : Int) + 1 = ((i + 1 : Nat) : Int) by omega, wrap_i64 (n := ((i + 1 : Nat) : Int)) (by omega) (by omega)]]
        simp only [aps, ips, g60_0_is (H := H12), T.g60_0, Option.bind_some, p2, bin_lss, condA, decide_eq_true (show (i : Int) < 16 by omega)]
        simp only [lms, lcs, ge, aps, ips, g60_1_is (H := H12), T.g60_1, Option.bind_some, p1, p2, q1, bin_neq, fillA, Option.map_some, if_true, condA, resA, nth0, nth1, tupA, fa95_1, ld30, ld35, bd35, ix93, if_false, ix17 _ h16, D16_get _ h16, e', Bool.not_true]
      · intro hlt
        simp only [aps, ips, g60_0_is (H := H12), T.g60_0, Option.bind_some, p2, bin_lss, condA, decide_eq_true (show (i : Int) < 16 by omega)]
        simp only [lms, lcs, ge, aps, ips, g60_1_is (H := H12), T.g60_1, Option.bind_some, p1, p2, q1, bin_neq, fillA, Option.map_some, if_true, condA, resA, nth0, nth1, tupA, fa95_1, ld30, ld35, bd35, ix93, if_false, ix17 _ h16, D16_get _ h16, e', Bool.not_true]
        simp only [aps, ips, g60_2_is (H := H12), T.g60_2, Option.bind_some, p2, bin_add, show (i : Int) + 1 = ((i + 1 : Nat) : Int) by omega, wrap_i64 (n := ((i + 1 : Nat) : Int)) (by omega) (by omega)]
        exact i2 hlt
    · have e' : decide (((dig n i : Nat) : Int) = 0) = false := decide_eq_false (by omega)
      constructor
      · intro hlt
        exact absurd (dig_top (Nat.lt_of_lt_of_le hlt (Nat.pow_le_pow_right (by omega) h4))) e
      · intro _
        simp only [aps, ips, g60_0_is (H := H12), T.g60_0, Option.bind_some, p2, bin_lss, condA, decide_eq_true (show (i : Int) < 16 by omega)]
        simp only [lms, lcs, ge, aps, ips, g60_1_is (H := H12), T.g60_1, Option.bind_some, p1, p2, q1, bin_neq, fillA, AV.cells, Option.map_some, Nat.reduceAdd, Nat.reduceLeDiff, if_true, condA, resA, nth0, nth1, tupA, fa95_1, ld30, ld35, bd35, ix93, AV.one, if_false, over, ix17 _ h16, D16_get _ h16, e', Bool.not_false]
        refine Res.eq ?_ rfl
        (repeat apply Fr.lays)
        exact Fr.refl _
theorem shl32 {x : Nat} (h : x < 4294967296) : binA Tryz.prog .shl 30 (.int .u64 (x : Int)) (.int .u64 32) = some (.int .u64 ((x * 4294967296 : Nat) : Int)) := by
  rw [show (32 : Int) = ((32 : Nat) : Int) from rfl, bin_shln 30 32 (by omega)]
  congr 2
  have : ((x : Int) * 2 ^ 32) = (x : Int) * 4294967296 := rfl
  rw [this]; omega
theorem rwide_is {x : Int} (hx : x.natAbs < 4294967296 ^ 16) (m : Mem) : Res m (run E12 (.fn 60) [.agg (bigC x)] m) (.tup [.agg (wideV x).1.cells, .bool (wideV x).2]) := by
  obtain ⟨l1, l2⟩ := rwide_loop hx (decide (x < 0)) m 12 4 rfl (by omega) rfl
  obtain ⟨n, hn⟩ : ∃ n, n = x.natAbs := ⟨_, rfl⟩
  simp only [lms, lcs, aps, ips, bigC, f60_is (H := H12) rfl, T.f60, Option.bind_some, pB, boxA, Wd.cells, AV.one, if_true, D16_one, AV.cells, Option.map_some]
  rw [← hn] at l1 l2 ⊢
  rw [show (4 : Int) = ((4 : Nat) : Int) from rfl]
  by_cases hlt : n < 4294967296 ^ 4
  · rw [l1 hlt]
    obtain ⟨lo, hlo⟩ : ∃ lo, lo = n % 18446744073709551616 := ⟨_, rfl⟩
    obtain ⟨hi, hhi⟩ : ∃ hi, hi = n / 18446744073709551616 := ⟨_, rfl⟩
    have d0 := dig0 n
    have d1 := dig1 n
    have d2 := dig2 n
    have d3 := dig3 n
    have lt1 := dig_lt n 1
    have lt3 := dig_lt n 3
    have w1 : IntKind.wrap .u64 ((dig n 0 : Int) + ((dig n 1 * 4294967296 : Nat) : Int)) = (lo : Int) := by rw [wrap_u64_mod]; omega
    have w2 : IntKind.wrap .u64 ((dig n 2 : Int) + ((dig n 3 * 4294967296 : Nat) : Int)) = (hi : Int) := by rw [wrap_u64_mod]; omega
    have hlo2 : lo < 18446744073709551616 := by omega
    have hhi2 : hi < 18446744073709551616 := by omega
    by_cases hneg : x < 0
    · rw [decide_eq_true hneg]
      simp only [lms, lcs, ge, aps, ips, g60_3_is (H := H12), T.g60_3, Option.bind_some, p1, p2, q1, bin_add, fillA, AV.cells, Nat.reduceAdd, if_true, condA, unA, resA, nth0, nth1, tupA, fa95_1, fa95_0, ld30, ld4, ld35, bd35, ix93, if_false, ix17_0, ix17_1, ix17_2, ix17_3, D16_get _ (show 0 < 16 by omega), D16_get _ (show 1 < 16 by omega), D16_get _ (show 2 < 16 by omega), D16_get _ (show 3 < 16 by omega), shl32 lt1, shl32 lt3, w1, w2, Bool.not_true]
      by_cases g1 : 9223372036854775808 < hi
      · have hf : fitsW x = false := fits_false (by omega)
        simp only [lms, lcs, aps, ips, g60_4_is (H := H12), T.g60_4, Option.bind_some, p2, p1, bin_eql, bin_gtr, fillA, AV.cells, Option.map_some, Nat.reduceAdd, Nat.reduceLeDiff, if_true, condA, ifV, resA, nth0, nth1, tupA, ld35, bd35, AV.one, over, decide_eq_true (show (9223372036854775808 : Int) < (hi : Int) by omega)]
        refine Res.eq ?_ (by unfold wideV; rw [if_neg (by rw [hf]; decide), if_neg (by omega)])
        (repeat apply Fr.lays)
        exact Fr.refl _
      · have main : fitsW x = true → Res m (D12.gor 245765 [.ptr (some ⟨m.next + 1, 0⟩), .int .u64 (lo : Int), .int .u64 (hi : Int)] ((m.lay (.cells (.bool true :: D16 n) false)).lay (.cells [.int .i64 0, .int .u64 0] false))) (.tup [.agg (wideV x).1.cells, .bool (wideV x).2]) := by
          intro hf
          have hv : wideV x = (Wd.of x, true) := by unfold wideV; rw [if_pos hf]
          rw [hv]
          unfold fitsW at hf
          simp only [Bool.and_eq_true, decide_eq_true_eq] at hf
          by_cases g2 : lo = 0
          · have u1 : IntKind.wrap .u64 (18446744073709551615 - (lo : Int) + 1) = 0 := by rw [wrap_u64_mod]; omega
            have u2 : IntKind.wrap .i64 (IntKind.wrap .u64 (18446744073709551615 - (hi : Int) + 1)) = (Wd.of x).hi := by rw [wrap_i64_if, wrap_u64_mod]; unfold Wd.of; simp only; omega
            simp only [aps, ips, g60_5_is (H := H12), T.g60_5, Option.bind_some, p1, p2, bin_add, bin_eql, condA, una_not (x := (lo : Int)) (by omega) (by omega), una_not (x := (hi : Int)) (by omega) (by omega), u1, decide_true]
            simp only [lms, lcs, ge, aps, ips, g60_6_is (H := H12), T.g60_6, Option.bind_some, p1, fillA, AV.cells, Option.map_some, Nat.reduceAdd, Nat.reduceLeDiff, if_true, resA, nth0, nth1, tupA, ld35, bd35, cv30_2, Wd.cells, AV.one, over, u2]
            refine Res.eq ?_ (by unfold Wd.of; simp only [AV.tup.injEq, List.cons.injEq, AV.agg.injEq, AV.int.injEq, true_and, and_true]; omega)
            (repeat apply Fr.lays)
            exact Fr.refl _
          · have u1 : IntKind.wrap .u64 (18446744073709551615 - (lo : Int) + 1) = (Wd.of x).lo := by rw [wrap_u64_mod]; unfold Wd.of; simp only; omega
            have u2 : IntKind.wrap .i64 (18446744073709551615 - (hi : Int)) = (Wd.of x).hi := by rw [wrap_i64_if]; unfold Wd.of; simp only; omega
            simp only [aps, ips, g60_5_is (H := H12), T.g60_5, Option.bind_some, p1, p2, bin_add, bin_eql, condA, una_not (x := (lo : Int)) (by omega) (by omega), una_not (x := (hi : Int)) (by omega) (by omega), u1, decide_eq_false (show ¬ (Wd.of x).lo = 0 by unfold Wd.of; simp only; omega)]
            simp only [lms, lcs, ge, aps, ips, g60_6_is (H := H12), T.g60_6, Option.bind_some, p1, fillA, AV.cells, Option.map_some, Nat.reduceAdd, Nat.reduceLeDiff, if_true, resA, nth0, nth1, tupA, ld35, bd35, cv30_2, Wd.cells, AV.one, over, u2]
            refine Res.eq ?_ rfl
            (repeat apply Fr.lays)
            exact Fr.refl _
        by_cases g3 : hi = 9223372036854775808
        · by_cases g4 : 0 < lo
          · have hf : fitsW x = false := fits_false (by omega)
            simp only [lms, lcs, aps, ips, g60_4_is (H := H12), T.g60_4, Option.bind_some, p2, p1, bin_eql, bin_gtr, fillA, AV.cells, Option.map_some, Nat.reduceAdd, Nat.reduceLeDiff, if_true, condA, ifV, resA, nth0, nth1, tupA, ld35, bd35, AV.one, over, decide_eq_false (show ¬ (9223372036854775808 : Int) < (hi : Int) by omega), decide_eq_true (show (hi : Int) = 9223372036854775808 by omega), decide_eq_true (show (0 : Int) < (lo : Int) by omega)]
            refine Res.eq ?_ (by unfold wideV; rw [if_neg (by rw [hf]; decide), if_neg (by omega)])
            (repeat apply Fr.lays)
            exact Fr.refl _
          · simp only [lms, lcs, aps, ips, g60_4_is (H := H12), T.g60_4, Option.bind_some, p2, p1, bin_eql, bin_gtr, fillA, AV.cells, Option.map_some, Nat.reduceAdd, Nat.reduceLeDiff, if_true, condA, ifV, resA, nth0, nth1, tupA, ld35, bd35, AV.one, over, decide_eq_false (show ¬ (9223372036854775808 : Int) < (hi : Int) by omega), decide_eq_true (show (hi : Int) = 9223372036854775808 by omega), decide_eq_false (show ¬ (0 : Int) < (lo : Int) by omega)]
            exact main (fits_true (by omega) (by omega))
        · simp only [lms, lcs, aps, ips, g60_4_is (H := H12), T.g60_4, Option.bind_some, p2, p1, bin_eql, bin_gtr, fillA, AV.cells, Option.map_some, Nat.reduceAdd, Nat.reduceLeDiff, if_true, condA, ifV, resA, nth0, nth1, tupA, ld35, bd35, AV.one, over, decide_eq_false (show ¬ (9223372036854775808 : Int) < (hi : Int) by omega), decide_eq_false (show ¬ (hi : Int) = 9223372036854775808 by omega)]
          exact main (fits_true (by omega) (by omega))
    · rw [decide_eq_false hneg]
      simp only [lms, lcs, ge, aps, ips, g60_3_is (H := H12), T.g60_3, Option.bind_some, p1, p2, q1, bin_add, bin_lss, fillA, AV.cells, Option.map_some, Nat.reduceAdd, Nat.reduceLeDiff, if_true, condA, unA, resA, nth0, nth1, tupA, fa95_1, fa95_0, ld30, ld4, ld35, bd35, ix93, cv30_2, AV.one, if_false, over, D16_len, ix17_0, ix17_1, ix17_2, ix17_3, D16_get _ (show 0 < 16 by omega), D16_get _ (show 1 < 16 by omega), D16_get _ (show 2 < 16 by omega), D16_get _ (show 3 < 16 by omega), shl32 lt1, shl32 lt3, w1, w2, Bool.not_false]
      refine Res.eq (?_ : Fr _ _ _) ?_
      · (repeat apply Fr.lays)
        exact Fr.refl _
      · unfold wideV
        by_cases g : hi < 9223372036854775808
        · have hf : fitsW x = true := fits_true (by omega) (by omega)
          rw [if_pos hf, decide_eq_true (show (hi : Int) < 9223372036854775808 by omega), wrap_i64 (by omega) (by omega)]
          unfold Wd.of
          simp only [AV.tup.injEq, List.cons.injEq, AV.agg.injEq, AV.int.injEq, true_and, and_true]
          omega
        · have hf : fitsW x = false := fits_false (by omega)
          rw [if_neg (by rw [hf]; decide), if_pos (by omega), decide_eq_false (show ¬ (hi : Int) < 9223372036854775808 by omega), wrap_i64_if]
          simp only [AV.tup.injEq, List.cons.injEq, AV.agg.injEq, AV.int.injEq, true_and, and_true]
          omega
  · have hf : fitsW x = false := fits_false (by omega)
    have hv : wideV x = (⟨0, 0⟩, false) := by unfold wideV; rw [if_neg (by rw [hf]; decide), if_neg (by omega)]
    rw [hv]
    exact l2 hlt
end Go.Proofs.YtlginbmjiecglaaGreat
end
