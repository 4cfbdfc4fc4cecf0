/- A region that draws its order: the looks that are asked of its text; temporaries by what has been carried out. -/
import Derived.Test.YtpoafkipnjfioaaGreatAbs12
import Derived.Orders
namespace Go.Abs
open Go

section
variable {P : Program}

theorem rOk_spec {all : List Oper} {anc chk : List (List Nat)} (h : rOk P all anc chk = true) {j : Nat} {oj : Oper} (hj : all[j]? = some oj) :
    ancRow anc j oj = true ∧ ∀ i oi, i < j → all[i]? = some oi → pairOk P all anc chk i j oi oj = true := by
  have hlt : j < all.length := (List.getElem?_eq_some_iff.1 hj).1
  have h1 := List.all_eq_true.1 h j (List.mem_range.2 hlt)
  simp only [rowOk, hj, Bool.and_eq_true] at h1
  refine ⟨h1.1, fun i oi hi hoi => ?_⟩
  have := List.all_eq_true.1 h1.2 i (List.mem_range.2 hi)
  simpa only [hoi] using this

theorem anc_in {all : List Oper} {anc chk : List (List Nat)} (h : rOk P all anc chk = true) {S : Nat → Bool} (hS : ∀ j o, all[j]? = some o → S j = true → ∀ e ∈ edgesOf o, S e = true) :
    ∀ (j : Nat) (o : Oper), all[j]? = some o → (∀ e ∈ edgesOf o, S e = true) → ∀ x ∈ anc.getD j [], S x = true := by
  intro j
  induction j using Nat.strongRecOn with
  | _ j ih =>
    intro o ho he x hx
    have h1 := (rOk_spec h ho).1
    simp only [ancRow, Bool.and_eq_true] at h1
    have h2 := List.all_eq_true.1 h1.1.2 x hx
    have h3 := List.all_eq_true.1 h1.1.1
    rw [Bool.or_eq_true] at h2
    rcases h2 with h2 | h2
    · exact he x (by simpa using h2)
    · obtain ⟨e, h4, h5⟩ := List.any_eq_true.1 h2
      have hlt : e < j := by simpa using h3 e h4
      have hoe : ∃ oe, all[e]? = some oe := ⟨all[e]'(by have := (List.getElem?_eq_some_iff.1 ho).1; omega), by rw [List.getElem?_eq_getElem]⟩
      obtain ⟨oe, hoe⟩ := hoe
      exact ih e hlt oe hoe (hS e oe hoe (he e h4)) x (by simpa using h5)

/-! Temporaries by what has been carried out. -/
def dstOf (all : List Oper) (k : Nat) : Option Tmp := (all[k]?).bind (·.dst)
noncomputable def stepS (all : List Oper) (V : Nat → AV) (S : Nat → Bool) (t : List AV) (k : Nat) : List AV := if S k then aput t (dstOf all k) (V k) else t
noncomputable def tmpsS (all : List Oper) (V : Nat → AV) (S : Nat → Bool) (t0 : List AV) : List AV := (List.range all.length).foldl (stepS all V S) t0

theorem aput_length (t : List AV) (d : Option Tmp) (v : AV) : (aput t d v).length = t.length := by cases d <;> simp [aput, setF_eq]
theorem aput_getD (t : List AV) (d : Option Tmp) (v : AV) (x : Nat) (hx : x < t.length) : (aput t d v).getD x .undef = if d = some x then v else t.getD x .undef := by
  cases d with
  | none => simp [aput]
  | some d =>
    simp only [aput, setF_eq, List.getD_eq_getElem?_getD, Option.some.injEq]
    by_cases e : d = x
    · subst e; simp [hx]
    · rw [List.getElem?_set_ne e, if_neg e]
theorem stepS_length (all : List Oper) (V : Nat → AV) (S : Nat → Bool) (t : List AV) (k : Nat) : (stepS all V S t k).length = t.length := by
  unfold stepS; split
  · exact aput_length _ _ _
  · rfl
theorem foldS_length (all : List Oper) (V : Nat → AV) (S : Nat → Bool) : ∀ (l : List Nat) (t : List AV), (l.foldl (stepS all V S) t).length = t.length
  | [], _ => rfl
  | k :: l, t => by rw [List.foldl_cons, foldS_length all V S l, stepS_length]

theorem foldS_agree (all : List Oper) (V : Nat → AV) {S S' : Nat → Bool} {x : Nat} : ∀ (l : List Nat) (t t' : List AV), (∀ k ∈ l, dstOf all k = some x → S k = S' k) → x < t.length → t.length = t'.length → t.getD x .undef = t'.getD x .undef →
    (l.foldl (stepS all V S) t).getD x .undef = (l.foldl (stepS all V S') t').getD x .undef
  | [], _, _, _, _, _, h => h
  | k :: l, t, t', hS, hx, hl, h => by
    rw [List.foldl_cons, List.foldl_cons]
    refine foldS_agree all V l _ _ (fun j hj => hS j (by simp [hj])) (by rw [stepS_length]; exact hx) (by rw [stepS_length, stepS_length]; exact hl) ?_
    unfold stepS
    by_cases hd : dstOf all k = some x
    · rw [hS k (by simp) hd]
      split
      · rw [aput_getD _ _ _ _ hx, aput_getD _ _ _ _ (by omega), hd]; simp
      · exact h
    · have e1 : ∀ (b : Bool) (t : List AV), x < t.length → (if b = true then aput t (dstOf all k) (V k) else t).getD x .undef = t.getD x .undef := by
        intro b t ht
        cases b with
        | false => rfl
        | true => rw [if_pos rfl, aput_getD _ _ _ _ ht, if_neg hd]
      rw [e1 _ _ hx, e1 _ _ (by omega)]; exact h

theorem foldS_none (all : List Oper) (V : Nat → AV) {S : Nat → Bool} {x : Nat} : ∀ (l : List Nat) (t : List AV), (∀ k ∈ l, S k = true → dstOf all k ≠ some x) → x < t.length → (l.foldl (stepS all V S) t).getD x .undef = t.getD x .undef
  | [], _, _, _ => rfl
  | k :: l, t, hS, hx => by
    rw [List.foldl_cons, foldS_none all V l _ (fun j hj => hS j (by simp [hj])) (by rw [stepS_length]; exact hx)]
    unfold stepS
    split
    · rename_i h; rw [aput_getD _ _ _ _ hx, if_neg (hS k (by simp) h)]
    · rfl

theorem range_split {n i : Nat} (h : i < n) : List.range n = List.range i ++ i :: List.range' (i + 1) (n - (i + 1)) := by
  rw [List.range_eq_range', List.range_eq_range']
  have : n = i + (1 + (n - (i + 1))) := by omega
  conv => lhs; rw [this]
  rw [← List.range'_append_1]
  congr 1
  rw [Nat.zero_add, Nat.add_comm 1, List.range'_succ]

theorem tmpsS_last {all : List Oper} {V : Nat → AV} {S : Nat → Bool} {t0 : List AV} {i x : Nat} (hi : i < all.length) (hSi : S i = true) (hd : dstOf all i = some x) (hx : x < t0.length)
    (hlast : ∀ k, i < k → S k = true → dstOf all k ≠ some x) : (tmpsS all V S t0).getD x .undef = V i := by
  unfold tmpsS
  rw [range_split hi, List.foldl_append, List.foldl_cons]
  rw [foldS_none all V _ _ (fun k hk hS => hlast k (by have := List.mem_range'_1.1 hk; omega) hS) (by rw [stepS_length, foldS_length]; exact hx)]
  have hlen := foldS_length all V S (List.range i) t0
  generalize (List.range i).foldl (stepS all V S) t0 = f at *
  unfold stepS
  rw [if_pos hSi, aput_getD _ _ _ _ (by omega), if_pos hd]

theorem T_eq {call : CallF} {all : List Oper} {chk : List (List Nat)} {τ : Trace} (hτ : ∀ j o, j < all.length → all[j]? = some o → StepOk P call all chk τ j o) :
    ∀ j, j ≤ all.length → τ.T j = (List.range j).foldl (stepS all τ.V fun _ => true) (τ.T 0) := by
  intro j
  induction j with
  | zero => intro _; rfl
  | succ j ih =>
    intro hj
    have ho : all[j]? = some (all[j]'(by omega)) := List.getElem?_eq_getElem (by omega)
    rw [List.range_succ, List.foldl_append, ← ih (by omega), (hτ j _ (by omega) ho).tmps]
    simp [stepS, dstOf, ho]

theorem T_length {call : CallF} {all : List Oper} {chk : List (List Nat)} {τ : Trace} (hτ : ∀ j o, j < all.length → all[j]? = some o → StepOk P call all chk τ j o) {j : Nat} (hj : j ≤ all.length) : (τ.T j).length = (τ.T 0).length := by
  rw [T_eq hτ j hj, foldS_length]

/-- In the text's order all that stands ahead has been carried out. -/
theorem T_getD {call : CallF} {all : List Oper} {chk : List (List Nat)} {τ : Trace} (hτ : ∀ j o, j < all.length → all[j]? = some o → StepOk P call all chk τ j o) {j : Nat} (hj : j ≤ all.length) {S : Nat → Bool} {x : Nat} (hx : x < (τ.T 0).length)
    (hS : ∀ k, k < all.length → dstOf all k = some x → S k = decide (k < j)) : (tmpsS all τ.V S (τ.T 0)).getD x .undef = (τ.T j).getD x .undef := by
  rw [T_eq hτ j hj]
  unfold tmpsS
  have hsp : List.range all.length = List.range j ++ List.range' j (all.length - j) := by
    rw [List.range_eq_range', List.range_eq_range']
    conv => lhs; rw [show all.length = j + (all.length - j) by omega]
    rw [← List.range'_append_1, Nat.zero_add]
  rw [hsp, List.foldl_append]
  rw [foldS_none all τ.V _ _ (fun k hk hSk hd => by
    have := List.mem_range'_1.1 hk
    rw [hS k (by omega) hd] at hSk
    simp at hSk; omega) (by rw [foldS_length]; exact hx)]
  exact foldS_agree all τ.V _ _ _ (fun k hk hd => by
    have := List.mem_range.1 hk
    rw [hS k (by omega) hd]; simp; omega) hx rfl rfl
end
end Go.Abs
