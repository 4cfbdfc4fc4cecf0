/- Rows: slices of elements of so many cells, that grow by append and Insert alone; what is kept; places in sorted lists. No statement of a claim stands here. -/
import Derived.Test.YtlginbmjiecglaaAbs26
import Derived.Test.YtlginbmjiecglaaAbs22
namespace Go.Abs
open Go

theorem Fr.lay {m m1 : Mem} {S : List Nat} (h : Fr m m1 S) (v : Blk) : Fr m (m1.lay v) S :=
  ⟨Nat.le_trans h.1 (Nat.le_succ _), fun c hc hn => by rw [Mem.get_lay, if_neg (by have := h.1; omega)]; exact h.2 c hc hn⟩
theorem Fr.put' {m m1 : Mem} {S : List Nat} (h : Fr m m1 S) {b : Nat} {v : Option Blk} (hb : b ∈ S ∨ m.next ≤ b) : Fr m (m1.put b v) S :=
  ⟨h.1, fun c hc hn => by
    rw [Mem.get_put, if_neg]
    · exact h.2 c hc hn
    · rintro ⟨rfl, _⟩
      rcases hb with h | h
      · exact hn h
      · omega⟩
theorem Fr.step {m m1 m2 : Mem} {S T : List Nat} (h : Fr m m1 S) (h' : Fr m1 m2 T) (hT : ∀ c, c ∈ T → c ∈ S ∨ m.next ≤ c) : Fr m m2 S :=
  ⟨Nat.le_trans h.1 h'.1, fun c hc hn => by
    rw [h'.2 c (Nat.lt_of_lt_of_le hc h.1), h.2 c hc hn]
    intro hm
    rcases hT c hm with h | h
    · exact hn h
    · omega⟩
theorem Fr.step0 {m m1 m2 : Mem} {S : List Nat} (h : Fr m m1 S) (h' : Fr m1 m2 []) : Fr m m2 S := h.step h' (by simp)
theorem Fr.any {m m1 : Mem} (S : List Nat) (h : Fr m m1 []) : Fr m m1 S := h.mono (by simp)
theorem Fr.next {m m1 : Mem} {S : List Nat} (h : Fr m m1 S) : m.next ≤ m1.next := h.1
theorem Fr.refl' (m : Mem) (S : List Nat) : Fr m m S := (Fr.refl m).any S

/-! Lists of elements of one length, laid one behind another. -/
section flat
variable {n : Nat}
theorem flat_len : ∀ {l : List (List AV)}, (∀ x ∈ l, x.length = n) → l.flatten.length = l.length * n
  | [], _ => by simp
  | x :: l, h => by
    rw [List.flatten_cons, List.length_append, flat_len (fun y hy => h y (List.mem_cons_of_mem _ hy)), h x List.mem_cons_self, List.length_cons, Nat.succ_mul]; omega
theorem flat_drop : ∀ {l : List (List AV)} (i : Nat), (∀ x ∈ l, x.length = n) → l.flatten.drop (i * n) = (l.drop i).flatten
  | l, 0, _ => by simp
  | [], i + 1, _ => by simp
  | x :: l, i + 1, h => by
    rw [List.flatten_cons, List.drop_append, List.drop_eq_nil_of_le (by rw [h x List.mem_cons_self, Nat.succ_mul]; omega), List.nil_append, h x List.mem_cons_self, Nat.succ_mul, Nat.add_sub_cancel]
    exact flat_drop i (fun y hy => h y (List.mem_cons_of_mem _ hy))
theorem flat_take : ∀ {l : List (List AV)} (i : Nat), (∀ x ∈ l, x.length = n) → l.flatten.take (i * n) = (l.take i).flatten
  | l, 0, _ => by simp
  | [], i + 1, _ => by simp
  | x :: l, i + 1, h => by
    rw [List.flatten_cons, List.take_append, List.take_of_length_le (by rw [h x List.mem_cons_self, Nat.succ_mul]; omega), h x List.mem_cons_self, Nat.succ_mul, Nat.add_sub_cancel]
    rw [flat_take i (fun y hy => h y (List.mem_cons_of_mem _ hy)), List.take_succ_cons, List.flatten_cons]
theorem flat_nth {l : List (List AV)} (h : ∀ x ∈ l, x.length = n) {i : Nat} (hi : i < l.length) : (l.flatten.drop (i * n)).take n = l[i] := by
  rw [flat_drop i h, List.drop_eq_getElem_cons hi, List.flatten_cons, List.take_append, List.take_of_length_le (by rw [h _ (List.getElem_mem hi)]; exact Nat.le_refl _), h _ (List.getElem_mem hi), Nat.sub_self, List.take_zero, List.append_nil]
theorem flat_set {l : List (List AV)} (h : ∀ x ∈ l, x.length = n) {i : Nat} (hi : i < l.length) (v : List AV) : l.flatten.take (i * n) ++ v ++ l.flatten.drop (i * n + n) = (l.set i v).flatten := by
  rw [show i * n + n = (i + 1) * n by rw [Nat.succ_mul], flat_take i h, flat_drop (i + 1) h, List.set_eq_take_append_cons_drop, if_pos hi, List.flatten_append, List.flatten_cons, List.append_assoc]
theorem flat_ones {l : List (List AV)} (h : ∀ x ∈ l, x.all AV.one = true) : l.flatten.all AV.one = true := by
  rw [List.all_eq_true]
  intro v hv
  obtain ⟨x, hx, hv⟩ := List.mem_flatten.1 hv
  exact List.all_eq_true.1 (h x hx) v hv
theorem flat_single : ∀ {l : List AV}, (l.map fun x => [x]).flatten = l
  | [] => rfl
  | x :: l => by rw [List.map_cons, List.flatten_cons, flat_single]; rfl
end flat

/-- A slice of elements of n cells that has its block for itself, without room behind; or of nothing. -/
def TRow (n : Nat) (m : Mem) (s : AV) (l : List (List AV)) (rb : Option Nat) : Prop :=
  (∀ x ∈ l, x.length = n ∧ x.all AV.one = true) ∧
  ((l = [] ∧ rb = none ∧ ∃ sz ex, s = .sl none sz 0 0 ex) ∨
   ∃ b, rb = some b ∧ s = .sl (some ⟨b, 0⟩) n l.length l.length false ∧ m.get b = some (.cells l.flatten false))

theorem TRow.nil (n : Nat) (m : Mem) (sz : Nat) (ex : Bool) : TRow n m (.sl none sz 0 0 ex) [] none := ⟨by simp, .inl ⟨rfl, rfl, _, _, rfl⟩⟩
theorem TRow.lens {n : Nat} {m : Mem} {s : AV} {l : List (List AV)} {rb : Option Nat} (h : TRow n m s l rb) : ∀ x ∈ l, x.length = n := fun x hx => (h.1 x hx).1
theorem TRow.frame {n : Nat} {m m' : Mem} {s : AV} {l : List (List AV)} {rb : Option Nat} {S : List Nat} (h : TRow n m s l rb) (hf : Fr m m' S) (hd : ∀ b, rb = some b → b ∉ S) : TRow n m' s l rb := by
  rcases h with ⟨h0, h | ⟨b, h1, h2, h3⟩⟩
  · exact ⟨h0, .inl h⟩
  · exact ⟨h0, .inr ⟨b, h1, h2, hf.get h3 (hd b h1)⟩⟩
theorem TRow.lt {n : Nat} {m : Mem} {s : AV} {l : List (List AV)} {b : Nat} (h : TRow n m s l (some b)) : b < m.next := by
  rcases h with ⟨_, ⟨_, h, _⟩ | ⟨b', h1, h2, h3⟩⟩
  · cases h
  · cases h1; exact Mem.get_lt h3
theorem TRow.len {n : Nat} {m : Mem} {s : AV} {l : List (List AV)} {rb : Option Nat} (h : TRow n m s l rb) : ∃ a sz cap ex, s = .sl a sz l.length cap ex := by
  rcases h with ⟨_, ⟨rfl, _, sz, ex, rfl⟩ | ⟨b, _, rfl, _⟩⟩
  · exact ⟨_, _, _, _, rfl⟩
  · exact ⟨_, _, _, _, rfl⟩
theorem TRow.one {n : Nat} {m : Mem} {s : AV} {l : List (List AV)} {rb : Option Nat} (h : TRow n m s l rb) : s.one = true := by
  obtain ⟨a, sz, cap, ex, rfl⟩ := h.len; rfl
/-- An element's place. -/
theorem TRow.at {n : Nat} {m : Mem} {s : AV} {l : List (List AV)} {rb : Option Nat} (h : TRow n m s l rb) {i : Nat} (hi : i < l.length) :
    ∃ b, rb = some b ∧ s = .sl (some ⟨b, 0⟩) n l.length l.length false ∧ m.get b = some (.cells l.flatten false) ∧ ixA n l.length ⟨b, 0⟩ (i : Int) = some (.ptr (some ⟨b, i * n⟩)) ∧ ldCells m ⟨b, i * n⟩ n = some l[i] := by
  have hl := h.lens
  rcases h with ⟨h0, ⟨rfl, _⟩ | ⟨b, h1, h2, h3⟩⟩
  · simp at hi
  · refine ⟨b, h1, h2, h3, by simp [ixA, hi], ?_⟩
    have : (i + 1) * n ≤ l.length * n := Nat.mul_le_mul_right n hi
    rw [Nat.succ_mul] at this
    simp only [ldCells, h3]
    rw [if_pos (by rw [flat_len hl]; exact this), flat_nth hl hi]
/-- An element is set. -/
theorem TRow.st {n : Nat} {m : Mem} {s : AV} {l : List (List AV)} {rb : Option Nat} (h : TRow n m s l rb) {i : Nat} (hi : i < l.length) {v : List AV} (hv : v.length = n) (ho : v.all AV.one = true) :
    ∃ b, rb = some b ∧ stCells m ⟨b, i * n⟩ v = some (m.put b (some (.cells (l.set i v).flatten false))) ∧ TRow n (m.put b (some (.cells (l.set i v).flatten false))) s (l.set i v) rb := by
  have hl := h.lens
  obtain ⟨b, h1, h2, h3, _, _⟩ := h.at hi
  refine ⟨b, h1, ?_, fun x hx => ?_, .inr ⟨b, h1, by simpa using h2, by rw [Mem.get_put, if_pos ⟨rfl, Mem.get_lt h3⟩]⟩⟩
  · have : (i + 1) * n ≤ l.length * n := Nat.mul_le_mul_right n hi
    rw [Nat.succ_mul] at this
    simp only [stCells, h3]
    rw [if_pos (by rw [flat_len hl, hv]; exact this), hv, flat_set hl hi]
  · rcases List.mem_or_eq_of_mem_set hx with hx | rfl
    · exact h.1 x hx
    · exact ⟨hv, ho⟩

/-- slices.Insert of one element. -/
theorem insH_row {P : Program} {st e : TypeId} {n w : Nat} {zs : List AV} (hst : P.underlying st = some (.slice e)) (hsz : szT P e = some n) (hw : bytesT P e = some w) (hz : zeroA P e = some zs) (hzl : zs.length = n) (hn : 0 < n) (hw0 : 0 < w)
    {m : Mem} {s : AV} {l : List (List AV)} {rb : Option Nat} (h : TRow n m s l rb) {xb : Nat} {new : List AV} (hx : m.get xb = some (.cells new false)) (hl : new.length = n) (ho : new.all AV.one = true) (hne : rb ≠ some xb)
    {i : Nat} (hi : i ≤ l.length) (hb : (l.length + 1) * w ≤ maxBytes) :
    ∃ s' m', insH P st [s, .int .i64 i, .sl (some ⟨xb, 0⟩) n 1 1 true] m = some (s', m') ∧ TRow n m' s' (l.take i ++ new :: l.drop i) (some m.next) ∧ m'.next = m.next + 1 ∧ Fr m m' rb.toList := by
  have hsrc : srcA n (.sl (some ⟨xb, 0⟩) n 1 1 true) m = some (1, new) := by
    simp only [srcA, true_or, if_true, ldCells, hx, Nat.one_mul, Nat.zero_add, hl, Nat.le_refl, List.drop_zero, Option.map_some]
    rw [List.take_of_length_le (by omega)]
  have hall : ∀ x ∈ l.take i ++ new :: l.drop i, x.length = n ∧ x.all AV.one = true := by
    intro x hx'
    simp only [List.mem_append, List.mem_cons] at hx'
    rcases hx' with h1 | rfl | h1
    · exact h.1 x (List.mem_of_mem_take h1)
    · exact ⟨hl, ho⟩
    · exact h.1 x (List.mem_of_mem_drop h1)
  have hlens := h.lens
  have hlen : (l.take i ++ new :: l.drop i).length = l.length + 1 := by simp; omega
  have hones : l.flatten.all AV.one = true := flat_ones fun x hx => (h.1 x hx).2
  have hfl := flat_len hlens
  unfold insH
  simp only [hst, hsz, hw, hz, Option.bind_some, hsrc]
  rw [if_pos ⟨Nat.one_pos, by omega, ho⟩]
  rcases h.2 with ⟨rfl, rfl, sz, ex, rfl⟩ | ⟨b, rfl, rfl, h3⟩
  · have : i = 0 := by simpa using hi
    subst this
    simp only [Int.natCast_zero, if_true]
    unfold appendA
    rw [hsrc]
    simp only [ho, not_true_eq_false, if_false, Nat.one_ne_zero]
    rw [if_pos (by simpa using hb)]
    exact ⟨_, _, rfl, ⟨hall, .inr ⟨m.next, rfl, by simp, by simp [Mem.get_lay]⟩⟩, rfl, Fr.alloc _ _⟩
  · have hxb : xb ≠ b := fun e => hne (by rw [e])
    simp only
    by_cases he : i = l.length
    · subst he
      rw [if_pos rfl, if_pos (.inl trivial)]
      unfold appendA
      rw [hsrc]
      simp only [ho, not_true_eq_false, if_false, true_or, if_true]
      have hld : ldCells m ⟨b, 0⟩ (l.length * n) = some l.flatten := by
        simp only [ldCells, h3]
        rw [if_pos (by omega), List.drop_zero, List.take_of_length_le (by omega)]
      rw [if_neg (by omega), if_pos hb, hld]
      simp only [Bool.false_eq_true, if_false, h3]
      refine ⟨_, _, rfl, ⟨hall, .inr ⟨m.next, rfl, by rw [hlen], ?_⟩⟩, rfl, ((Fr.put m b none).trans (Fr.alloc _ _) (by simp) (by simp))⟩
      simp [Mem.get_lay, List.flatten_append]
    · rw [if_neg (by omega), if_pos ⟨by omega, trivial, trivial, hxb, hn, hw0, hzl, hb, Nat.le_refl _⟩]
      have hld : ldCells m ⟨b, 0⟩ (l.length * n) = some l.flatten := by
        simp only [ldCells, h3]
        rw [if_pos (by omega), List.drop_zero, List.take_of_length_le (by omega)]
      simp only [hx, h3, hld, Option.bind_some, hones, if_true]
      refine ⟨_, _, rfl, ⟨hall, .inr ⟨m.next, rfl, by rw [hlen], ?_⟩⟩, rfl, ((Fr.put m b none).trans (Fr.alloc _ _) (by simp) (by simp))⟩
      rw [Int.toNat_natCast, flat_take i hlens, flat_drop i hlens]
      simp [Mem.get_lay, List.flatten_append]

/-! Places in sorted lists. -/
section lb
variable {κ : Type} {lt : κ → κ → Bool}
/-- How many at the beginning are below. -/
def lb (lt : κ → κ → Bool) (k : κ) (ks : List κ) : Nat := (ks.takeWhile (lt · k)).length
def Srt (lt : κ → κ → Bool) (ks : List κ) : Prop := ks.Pairwise fun a b => lt a b = true
theorem lb_le (k : κ) (ks : List κ) : lb lt k ks ≤ ks.length := by
  unfold lb
  have := (List.takeWhile_prefix (p := (lt · k)) (l := ks)).length_le
  exact this
theorem lb_unique {k : κ} : ∀ {ks : List κ} {i : Nat}, i ≤ ks.length → (∀ j (h : j < ks.length), j < i → lt ks[j] k = true) → (∀ (h : i < ks.length), lt ks[i] k = false) → lb lt k ks = i
  | [], i, hi, _, _ => by have : i = 0 := by simpa using hi
                          subst this; rfl
  | a :: ks, 0, _, _, h2 => by
    have := h2 (by simp)
    simp only [List.getElem_cons_zero] at this
    simp [lb, List.takeWhile_cons, this]
  | a :: ks, i + 1, hi, h1, h2 => by
    have h0 := h1 0 (by simp) (by omega)
    simp only [List.getElem_cons_zero] at h0
    have ih := lb_unique (k := k) (ks := ks) (i := i) (by simpa using hi) (fun j h hj => h1 (j + 1) (by simpa using h) (by omega)) (fun h => h2 (by simpa using h))
    unfold lb at ih ⊢
    rw [List.takeWhile_cons, if_pos h0, List.length_cons, ih]
theorem lb_below {k : κ} : ∀ {ks : List κ} {j : Nat} (h : j < ks.length), j < lb lt k ks → lt ks[j] k = true
  | a :: ks, j, h, hj => by
    unfold lb at hj
    rw [List.takeWhile_cons] at hj
    split at hj
    · rename_i ha
      cases j with
      | zero => simpa using ha
      | succ j => simpa using lb_below (k := k) (ks := ks) (j := j) (by simpa using h) (by unfold lb; simpa using hj)
    · simp at hj
theorem lb_at {k : κ} : ∀ {ks : List κ} (h : lb lt k ks < ks.length), lt (ks[lb lt k ks]'h) k = false
  | [], h => by simp at h
  | a :: ks, h => by
    by_cases ha : lt a k = true
    · have e : lb lt k (a :: ks) = lb lt k ks + 1 := by unfold lb; rw [List.takeWhile_cons, if_pos ha]; rfl
      simp only [e, List.getElem_cons_succ]
      exact lb_at (ks := ks) (by rw [e] at h; simpa using h)
    · have e : lb lt k (a :: ks) = 0 := by unfold lb; rw [List.takeWhile_cons, if_neg ha]; rfl
      simp only [e, List.getElem_cons_zero]
      simpa using ha

/-- Is it there? -/
def hasK [DecidableEq κ] (lt : κ → κ → Bool) (k : κ) (ks : List κ) : Bool := decide (ks[lb lt k ks]? = some k)
/-- Put in where it belongs. -/
def insL {α : Type} (i : Nat) (x : α) (l : List α) : List α := l.take i ++ x :: l.drop i
theorem insL_len {α : Type} {i : Nat} {x : α} {l : List α} (hi : i ≤ l.length) : (insL i x l).length = l.length + 1 := by simp [insL]; omega

theorem srt_lt {ks : List κ} (h : Srt lt ks) {i j : Nat} (hij : i < j) (hj : j < ks.length) : lt (ks[i]'(by omega)) ks[j] = true := List.pairwise_iff_getElem.1 h i j (by omega) hj hij

theorem lb_has [DecidableEq κ] (hir : ∀ a, lt a a = false) {k : κ} {ks : List κ} (hs : Srt lt ks) : hasK lt k ks = decide (k ∈ ks) := by
  unfold hasK
  rw [Bool.eq_iff_iff, decide_eq_true_iff, decide_eq_true_iff]
  constructor
  · intro h; exact List.mem_of_getElem? h
  · intro h
    obtain ⟨i, hi, rfl⟩ := List.mem_iff_getElem.1 h
    have : lb lt ks[i] ks = i := lb_unique (Nat.le_of_lt hi) (fun j h hj => srt_lt hs hj hi) (fun _ => hir _)
    rw [this, List.getElem?_eq_getElem hi]

theorem lb_srt (htr : ∀ a b c, lt a b = true → lt b c = true → lt a c = true) (htot : ∀ a b, lt a b = false → lt b a = false → a = b) {k : κ} {ks : List κ} (hs : Srt lt ks) (hk : k ∉ ks) : Srt lt (insL (lb lt k ks) k ks) := by
  unfold Srt insL
  rw [List.pairwise_append]
  refine ⟨List.Pairwise.sublist (List.take_sublist _ _) hs, ?_, ?_⟩
  · rw [List.pairwise_cons]
    refine ⟨fun a ha => ?_, List.Pairwise.sublist (List.drop_sublist _ _) hs⟩
    obtain ⟨i, hi, rfl⟩ := List.mem_iff_getElem.1 ha
    simp only [List.length_drop] at hi
    rw [List.getElem_drop]
    have hl : lb lt k ks < ks.length := by omega
    have h0 : lt k (ks[lb lt k ks]'hl) = true := by
      cases h : lt k (ks[lb lt k ks]'hl) with
      | true => rfl
      | false => exact absurd (htot _ _ h (lb_at hl)) (fun e => hk (by rw [e]; exact List.getElem_mem hl))
    cases i with
    | zero => simpa using h0
    | succ i => exact htr _ _ _ h0 (srt_lt hs (by omega) (by omega))
  · intro a ha b hb
    obtain ⟨i, hi, rfl⟩ := List.mem_iff_getElem.1 ha
    simp only [List.length_take] at hi
    rw [List.getElem_take]
    have h1 : lt (ks[i]'(by omega)) k = true := lb_below (by omega) (by omega)
    rw [List.mem_cons] at hb
    rcases hb with rfl | hb
    · exact h1
    · obtain ⟨j, hj, rfl⟩ := List.mem_iff_getElem.1 hb
      simp only [List.length_drop] at hj
      rw [List.getElem_drop]
      exact srt_lt hs (by omega) (by omega)
end lb

/-! Strings in order. -/
theorem strLess_irr : ∀ a : List UInt8, strLess a a = false
  | [] => rfl
  | a :: l => by simp [strLess, strLess_irr l]
theorem strLess_tot : ∀ a b : List UInt8, strLess a b = false → strLess b a = false → a = b
  | [], [], _, _ => rfl
  | [], _ :: _, h, _ => by simp [strLess] at h
  | _ :: _, [], _, h => by simp [strLess] at h
  | a :: x, b :: y, h1, h2 => by
    simp only [strLess, Bool.or_eq_false_iff, decide_eq_false_iff_not, Bool.and_eq_false_iff] at h1 h2
    have e : a = b := by
      have := h1.1; have := h2.1
      exact UInt8.le_antisymm (by simpa using h2.1) (by simpa using h1.1)
    subst e
    rw [strLess_tot x y (by simpa using h1.2) (by simpa using h2.2)]
theorem strLess_trans : ∀ a b c : List UInt8, strLess a b = true → strLess b c = true → strLess a c = true
  | _, [], _, h, _ => by simp [strLess] at h
  | _, _ :: _, [], _, h => by simp [strLess] at h
  | [], _ :: _, _ :: _, _, _ => rfl
  | a :: x, b :: y, c :: z, h1, h2 => by
    simp only [strLess, Bool.or_eq_true, Bool.and_eq_true, decide_eq_true_eq] at h1 h2 ⊢
    rcases h1 with h1 | ⟨rfl, h1⟩
    · rcases h2 with h2 | ⟨rfl, h2⟩
      · exact .inl (UInt8.lt_trans h1 h2)
      · exact .inl h1
    · rcases h2 with h2 | ⟨rfl, h2⟩
      · exact .inl h2
      · exact .inr ⟨rfl, strLess_trans x y z h1 h2⟩
/-- Whole numbers in order. -/
def intLess (a b : Int) : Bool := decide (a < b)
theorem intLess_irr (a : Int) : intLess a a = false := by simp [intLess]
theorem intLess_tot (a b : Int) (h : intLess a b = false) (h' : intLess b a = false) : a = b := by simp [intLess] at h h'; omega
theorem intLess_trans (a b c : Int) (h : intLess a b = true) (h' : intLess b c = true) : intLess a c = true := by simp [intLess] at h h' ⊢; omega

/-! Operations on numbers and strings, whatever the program. -/
section bin
variable {P : Program}
theorem bin_geq (t : TypeId) (k : IntKind) (x y : Int) : binA P .geq t (.int k x) (.int k y) = some (.bool (decide (y ≤ x))) := by simp [binA, intA]
theorem bin_gtr (t : TypeId) (k : IntKind) (x y : Int) : binA P .gtr t (.int k x) (.int k y) = some (.bool (decide (y < x))) := by simp [binA, intA]
theorem bin_lss (t : TypeId) (k : IntKind) (x y : Int) : binA P .lss t (.int k x) (.int k y) = some (.bool (decide (x < y))) := by simp [binA, intA]
theorem bin_leq (t : TypeId) (k : IntKind) (x y : Int) : binA P .leq t (.int k x) (.int k y) = some (.bool (decide (x ≤ y))) := by simp [binA, intA]
theorem bin_eql (t : TypeId) (k : IntKind) (x y : Int) : binA P .eql t (.int k x) (.int k y) = some (.bool (decide (x = y))) := by simp [binA, intA]; rfl
theorem bin_neq (t : TypeId) (k : IntKind) (x y : Int) : binA P .neq t (.int k x) (.int k y) = some (.bool (!decide (x = y))) := by simp [binA, intA, bne]; rfl
theorem bin_add (t : TypeId) (k : IntKind) (x y : Int) : binA P .add t (.int k x) (.int k y) = some (.int k (k.wrap (x + y))) := by simp [binA, intA]
theorem bin_sub (t : TypeId) (k : IntKind) (x y : Int) : binA P .sub t (.int k x) (.int k y) = some (.int k (k.wrap (x - y))) := by simp [binA, intA]
theorem bin_mul (t : TypeId) (k : IntKind) (x y : Int) : binA P .mul t (.int k x) (.int k y) = some (.int k (k.wrap (x * y))) := by simp [binA, intA]
theorem bin_rem (t : TypeId) (k : IntKind) (x y : Int) (h : y ≠ 0) : binA P .rem t (.int k x) (.int k y) = some (.int k (x.tmod y)) := by simp [binA, intA, h]
theorem bin_quo (t : TypeId) (k : IntKind) (x y : Int) (h : y ≠ 0) : binA P .quo t (.int k x) (.int k y) = some (.int k (k.wrap (x.tdiv y))) := by simp [binA, intA, h]
theorem bin_shr (t : TypeId) (k k' : IntKind) (x y : Int) (h : 0 ≤ y) : binA P .shr t (.int k x) (.int k' y) = some (.int k (x.fdiv (2 ^ (min y.toNat k.bits)))) := by
  simp only [binA, shA]; rw [if_neg (by omega)]
theorem bin_slss (t : TypeId) (x y : List UInt8) : binA P .lss t (.str x) (.str y) = some (.bool (strLess x y)) := rfl
theorem beq_dec (x y : List UInt8) : (x == y) = decide (x = y) := by rw [Bool.eq_iff_iff]; simp
theorem bin_seql (t : TypeId) (x y : List UInt8) : binA P .eql t (.str x) (.str y) = some (.bool (decide (x = y))) := by simp only [binA, strA, beq_dec]
theorem bin_sneq (t : TypeId) (x y : List UInt8) : binA P .neq t (.str x) (.str y) = some (.bool (!decide (x = y))) := by simp only [binA, strA, beq_dec]
theorem bin_sgeq (t : TypeId) (x y : List UInt8) : binA P .geq t (.str x) (.str y) = some (.bool (!strLess x y)) := rfl
theorem bin_sadd (t : TypeId) (x y : List UInt8) (h : x.length + y.length ≤ 4611686018427387904) : binA P .add t (.str x) (.str y) = some (.str (x ++ y)) := by simp only [binA, strA]; rw [if_pos h]
end bin
theorem wrap_u64 {x : Int} (h1 : 0 ≤ x) (h2 : x < 18446744073709551616) : IntKind.wrap .u64 x = x := by
  have e : IntKind.wrap .u64 x = x % 18446744073709551616 := by simp [IntKind.wrap, IntKind.bits, IntKind.signed]
  rw [e]; omega
theorem wrap_u64' (x : Int) : IntKind.wrap .u64 x = x % 18446744073709551616 := by simp [IntKind.wrap, IntKind.bits, IntKind.signed]
theorem cells1 {x : AV} (h : x.one = true) : x.cells = some [x] := by cases x <;> first | rfl | (simp [AV.one] at h)

/-! Cells read and set where the block is known. -/
theorem ld1_at {m : Mem} {b o : Nat} {cs : List AV} {ro : Bool} (h : m.get b = some (.cells cs ro)) : ld1 m (.ptr (some ⟨b, o⟩)) = cs[o]? := by simp only [ld1, h]
theorem ldN_at {m : Mem} {b o n : Nat} {cs : List AV} {ro : Bool} (h : m.get b = some (.cells cs ro)) (hl : o + n ≤ cs.length) : ldN m (.ptr (some ⟨b, o⟩)) n = some (.agg ((cs.drop o).take n)) := by simp [ldN, ldCells, h, hl]
theorem stV_at {m : Mem} {b o n : Nat} {cs vs : List AV} {v : AV} (h : m.get b = some (.cells cs false)) (hv : v.cells = some vs) (hn : vs.length = n) (hl : o + n ≤ cs.length) :
    stV m (.ptr (some ⟨b, o⟩)) v n = some (m.put b (some (.cells (cs.take o ++ vs ++ cs.drop (o + n)) false))) := by
  subst hn
  simp only [stV, hv, if_true, stCells, h, if_pos hl]
theorem agg_cells {cs : List AV} (h : cs.all AV.one = true) : (AV.agg cs).cells = some cs := by simp only [AV.cells, h, if_true]
theorem put_self {m : Mem} {b : Nat} {v : Blk} {w : Option Blk} (h : m.get b = some v) : (m.put b w).get b = w := by rw [Mem.get_put, if_pos ⟨rfl, Mem.get_lt h⟩]
theorem put_self' {m : Mem} {b : Nat} {w : Option Blk} (h : b < m.next) : (m.put b w).get b = w := by rw [Mem.get_put, if_pos ⟨rfl, h⟩]
theorem put_ne {m : Mem} {b c : Nat} {w : Option Blk} (h : c ≠ b) : (m.put b w).get c = m.get c := by rw [Mem.get_put, if_neg fun e => h e.1]
theorem lay_self (m : Mem) (v : Blk) : (m.lay v).get m.next = some v := by rw [Mem.get_lay, if_pos rfl]
theorem nth0 (a : AV) (l : List AV) : nth (a :: l) 0 = a := rfl
theorem nth1 (a b : AV) (l : List AV) : nth (a :: b :: l) 1 = b := rfl
theorem nth2 (a b c : AV) (l : List AV) : nth (a :: b :: c :: l) 2 = c := rfl
theorem nth3 (a b c d : AV) (l : List AV) : nth (a :: b :: c :: d :: l) 3 = d := rfl
theorem box_agg {cs : List AV} (h : cs.all AV.one = true) : boxA (.agg cs) = some (.cells cs false, fun b => .ptr (some ⟨b, 0⟩)) := by simp [boxA, agg_cells h]
theorem bs_agg {n : Nat} {zs cs : List AV} (h : cs.all AV.one = true) (hn : cs.length = n) (hz : zs.length = n) : bsA n 1 zs [(0, .agg cs)] = some (.cells cs false, fun b => .sl (some ⟨b, 0⟩) n 1 1 true) := by
  simp [bsA, fillA, agg_cells h, hn, hz]
theorem bs_one1 {x z : AV} (h : x.one = true) : bsA 1 1 [z] [(0, x)] = some (.cells [x] false, fun b => .sl (some ⟨b, 0⟩) 1 1 1 true) := by
  simp [bsA, fillA, cells1 h]
theorem lay_ne {m : Mem} {c : Nat} {v : Blk} (h : c ≠ m.next) : (m.lay v).get c = m.get c := by rw [Mem.get_lay, if_neg h]
end Go.Abs
