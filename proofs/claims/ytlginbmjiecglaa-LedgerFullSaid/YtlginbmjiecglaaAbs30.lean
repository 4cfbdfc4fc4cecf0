/- Tables in the abstract memory: two slices and a limit behind a pointer. No statement of a claim stands here. -/
import Derived.Test.YtlginbmjiecglaaAbs29
namespace Go.Abs
open Go

/-- Which blocks a table has. -/
def tabF (t : Nat) (kb vb : Option Nat) : List Nat := t :: (kb.toList ++ vb.toList)

/-- A table at a block: its keys (one cell each), its values (n cells each), how many it may have; 'F': its blocks. -/
structure TabAt {κ : Type} (ek : κ → AV) (n : Nat) (m : Mem) (t : Nat) (ks : List κ) (vs : List (List AV)) (most : Int) (F : List Nat) : Prop where
  ex : ∃ sk sv kb vb, m.get t = some (.cells [sk, sv, .int .i64 most] false) ∧ TRow 1 m sk (ks.map fun k => [ek k]) kb ∧ TRow n m sv vs vb ∧ kb ≠ some t ∧ vb ≠ some t ∧ (∀ b, kb = some b → vb ≠ some b) ∧ F = tabF t kb vb
  len : vs.length = ks.length

section
variable {κ : Type} {ek : κ → AV} {n : Nat} {m m' : Mem} {t : Nat} {ks : List κ} {vs : List (List AV)} {most : Int} {F S : List Nat}

theorem TabAt.frame (h : TabAt ek n m t ks vs most F) (hf : Fr m m' S) (hd : ∀ c, c ∈ F → c ∉ S) : TabAt ek n m' t ks vs most F := by
  obtain ⟨⟨sk, sv, kb, vb, h1, h2, h3, h4, h5, h6, rfl⟩, h7⟩ := h
  refine ⟨⟨sk, sv, kb, vb, hf.get h1 (hd _ (by simp [tabF])), h2.frame hf fun b hb => hd _ ?_, h3.frame hf fun b hb => hd _ ?_, h4, h5, h6, rfl⟩, h7⟩
  · subst hb; simp [tabF]
  · subst hb; simp [tabF]
theorem TabAt.lt (h : TabAt ek n m t ks vs most F) : ∀ c, c ∈ F → c < m.next := by
  obtain ⟨⟨sk, sv, kb, vb, h1, h2, h3, _, _, _, rfl⟩, _⟩ := h
  intro c hc
  simp only [tabF, List.mem_cons, List.mem_append, Option.mem_toList] at hc
  rcases hc with rfl | hc | hc
  · exact Mem.get_lt h1
  · have e : kb = some c := hc
    subst e; exact h2.lt
  · have e : vb = some c := hc
    subst e; exact h3.lt
theorem TabAt.mem (h : TabAt ek n m t ks vs most F) : t ∈ F := by
  obtain ⟨⟨sk, sv, kb, vb, _, _, _, _, _, _, rfl⟩, _⟩ := h
  simp [tabF]
theorem TabAt.new (hb : m.get t = some (.cells [.sl none 0 0 0 true, .sl none 0 0 0 true, .int .i64 most] false)) : TabAt ek n m t [] [] most [t] :=
  ⟨⟨_, _, none, none, hb, TRow.nil 1 m 0 true, TRow.nil n m 0 true, by simp, by simp, by simp, rfl⟩, rfl⟩

/-- A value is set in its place. -/
theorem TabAt.set (h : TabAt ek n m t ks vs most F) {i : Nat} (hi : i < ks.length) {v : List AV} (hv : v.length = n) (ho : v.all AV.one = true) :
    ∃ sk sv b m', m.get t = some (.cells [sk, sv, .int .i64 most] false) ∧ sv = .sl (some ⟨b, 0⟩) n vs.length vs.length false ∧ ixA n vs.length ⟨b, 0⟩ (i : Int) = some (.ptr (some ⟨b, i * n⟩)) ∧ stV m (.ptr (some ⟨b, i * n⟩)) (.agg v) n = some m' ∧ TabAt ek n m' t ks (vs.set i v) most F ∧ Fr m m' F := by
  obtain ⟨⟨sk, sv, kb, vb, h1, h2, h3, h4, h5, h6, rfl⟩, h7⟩ := h
  have hi' : i < vs.length := by omega
  obtain ⟨b, g1, g2, g3, g4, g5⟩ := h3.at hi'
  obtain ⟨b', e1, e2, e3⟩ := h3.st hi' hv ho
  rw [g1] at e1; cases e1
  subst g1
  refine ⟨sk, sv, b, _, h1, g2, g4, ?_, ⟨⟨sk, sv, kb, some b, ?_, ?_, e3, h4, h5, h6, rfl⟩, by simpa using h7⟩, ?_⟩
  · simp only [stV, agg_cells ho, hv, if_true, e2]
  · rw [put_ne (by rintro rfl; exact h5 rfl)]; exact h1
  · exact h2.frame (Fr.put m b _) fun c hc hm => by simp only [List.mem_singleton] at hm; subst hm; exact h6 _ hc rfl
  · exact (Fr.put m b _).mono fun c hc _ => by simp only [List.mem_singleton] at hc; subst hc; simp [tabF]

/-- A key and a value are put in: the steps, one by one. -/
theorem TabAt.ins {P : Program} {st1 e1 st2 e2 : TypeId} {w1 w2 : Nat} {zs1 zs2 : List AV}
    (hst1 : P.underlying st1 = some (.slice e1)) (hsz1 : szT P e1 = some 1) (hw1 : bytesT P e1 = some w1) (hz1 : zeroA P e1 = some zs1) (hzl1 : zs1.length = 1) (hw01 : 0 < w1)
    (hst2 : P.underlying st2 = some (.slice e2)) (hsz2 : szT P e2 = some n) (hw2 : bytesT P e2 = some w2) (hz2 : zeroA P e2 = some zs2) (hzl2 : zs2.length = n) (hn : 0 < n) (hw02 : 0 < w2)
    (hek : ∀ k, (ek k).one = true) (h : TabAt ek n m t ks vs most F) {i : Nat} (hi : i ≤ ks.length) (hb : ks.length < 4096) (hww : w1 ≤ 4096 ∧ w2 ≤ 4096) {k : κ} {v : List AV} (hv : v.length = n) (ho : v.all AV.one = true) :
    ∃ sk sv sk' m2 sv' m5 F', m.get t = some (.cells [sk, sv, .int .i64 most] false) ∧
      insH P st1 [sk, .int .i64 i, .sl (some ⟨m.next, 0⟩) 1 1 1 true] (m.lay (.cells [ek k] false)) = some (sk', m2) ∧
      stV m2 (.ptr (some ⟨t, 0⟩)) sk' 1 = some (m2.put t (some (.cells [sk', sv, .int .i64 most] false))) ∧
      (m2.put t (some (.cells [sk', sv, .int .i64 most] false))).get t = some (.cells [sk', sv, .int .i64 most] false) ∧
      m2.next = m.next + 2 ∧
      insH P st2 [sv, .int .i64 i, .sl (some ⟨m2.next, 0⟩) n 1 1 true] ((m2.put t (some (.cells [sk', sv, .int .i64 most] false))).lay (.cells v false)) = some (sv', m5) ∧
      stV m5 (.ptr (some ⟨t, 1⟩)) sv' 1 = some (m5.put t (some (.cells [sk', sv', .int .i64 most] false))) ∧
      TabAt ek n (m5.put t (some (.cells [sk', sv', .int .i64 most] false))) t (insL i k ks) (insL i v vs) most F' ∧
      Fr m (m2.put t (some (.cells [sk', sv, .int .i64 most] false))) F ∧
      Fr m (m5.put t (some (.cells [sk', sv', .int .i64 most] false))) F ∧ ∀ c, c ∈ F' → c ∈ F ∨ m.next ≤ c := by
  obtain ⟨⟨sk, sv, kb, vb, h1, h2, h3, h4, h5, h6, rfl⟩, h7⟩ := h
  have htl := Mem.get_lt h1
  have hf1 : Fr m (m.lay (.cells [ek k] false)) [] := Fr.alloc m _
  have hkl : ∀ b, kb = some b → b < m.next := fun b e => by subst e; exact h2.lt
  have hvl : ∀ b, vb = some b → b < m.next := fun b e => by subst e; exact h3.lt
  obtain ⟨sk', m2, a1, a2, a3, a4⟩ := insH_row hst1 hsz1 hw1 hz1 hzl1 Nat.one_pos hw01 (h2.frame hf1 (by simp)) (xb := m.next) (new := [ek k]) (lay_self _ _) rfl (by simp [hek]) (fun e => by have := hkl _ e; omega) (i := i) (by simpa using hi) (by
    simp only [List.length_map]
    calc (ks.length + 1) * w1 ≤ 4096 * 4096 := Nat.mul_le_mul (by omega) hww.1
      _ ≤ maxBytes := by decide)
  have hf2 : Fr m m2 kb.toList := hf1.trans a4 (by simp) (by simp +contextual)
  have ht2 : m2.get t = some (.cells [sk, sv, .int .i64 most] false) := hf2.get h1 (by cases kb with
    | none => simp
    | some c => simp; intro e; exact h4 (by rw [e]))
  have hs1 := stV_at (v := sk') (o := 0) (n := 1) ht2 (cells1 a2.one) rfl (by simp)
  have hs1' : stV m2 (.ptr (some ⟨t, 0⟩)) sk' 1 = some (m2.put t (some (.cells [sk', sv, .int .i64 most] false))) := by simpa using hs1
  have hn2 : m2.next = m.next + 2 := by rw [a3]; rfl
  have hg3 : (m2.put t (some (.cells [sk', sv, .int .i64 most] false))).get t = some (.cells [sk', sv, .int .i64 most] false) := put_self ht2
  have hf3 : Fr m (m2.put t (some (.cells [sk', sv, .int .i64 most] false))) (t :: kb.toList) := (hf2.mono (T := t :: kb.toList) (by simp +contextual)).put' (by simp)
  have hf4 := hf3.lay (.cells v false)
  have hr4 : TRow n ((m2.put t (some (.cells [sk', sv, .int .i64 most] false))).lay (.cells v false)) sv vs vb := h3.frame hf4 (fun b e hm => by
    simp only [List.mem_cons, Option.mem_toList] at hm
    rcases hm with rfl | hm
    · exact h5 e
    · exact h6 b hm e)
  obtain ⟨sv', m5, b1, b2, b3, b4⟩ := insH_row hst2 hsz2 hw2 hz2 hzl2 hn hw02 hr4 (xb := m2.next) (new := v) (by have := lay_self (m2.put t (some (.cells [sk', sv, .int .i64 most] false))) (.cells v false); simpa using this) hv ho (fun e => by have := hvl _ e; omega) (i := i) (by omega) (by
    calc (vs.length + 1) * w2 ≤ 4096 * 4096 := Nat.mul_le_mul (by omega) hww.2
      _ ≤ maxBytes := by decide)
  have hf5 : Fr m m5 (tabF t kb vb) := (hf4.mono (T := tabF t kb vb) (by simp +contextual [tabF])).step b4 (fun c hc => .inl (by simp only [Option.mem_toList] at hc; simp [tabF, hc]))
  have ht5 : m5.get t = some (.cells [sk', sv, .int .i64 most] false) := b4.get (by rw [lay_ne (by simp; omega)]; exact hg3) (by cases vb with
    | none => simp
    | some c => simp; intro e; exact h5 (by rw [e]))
  have hs2 := stV_at (v := sv') (o := 1) (n := 1) ht5 (cells1 b2.one) rfl (by simp)
  have hs2' : stV m5 (.ptr (some ⟨t, 1⟩)) sv' 1 = some (m5.put t (some (.cells [sk', sv', .int .i64 most] false))) := by simpa using hs2
  -- the keys' new block stays
  have hk5 : TRow 1 (m5.put t (some (.cells [sk', sv', .int .i64 most] false))) sk' ((insL i k ks).map fun k => [ek k]) (some (m.next + 1)) := by
    have e : ((insL i k ks).map fun k => [ek k]) = (ks.map fun k => [ek k]).take i ++ [ek k] :: (ks.map fun k => [ek k]).drop i := by simp [insL]
    rw [e]
    have := a2.frame (((((Fr.refl' m2 [t]).put' (b := t) (v := some (.cells [sk', sv, .int .i64 most] false)) (by simp)).lay (.cells v false)).mono (T := t :: vb.toList) (by simp +contextual)).step b4 (fun c hc => .inl (by simp only [Option.mem_toList] at hc; simp [hc]))) (by
      intro b hb hm
      cases hb
      simp only [List.mem_cons, Option.mem_toList] at hm
      rcases hm with hm | hm
      · have : (m.lay (.cells [ek k] false)).next = m.next + 1 := rfl
        omega
      · have := hvl _ hm
        have e9 : (m.lay (.cells [ek k] false)).next = m.next + 1 := rfl
        omega)
    exact this.frame ((Fr.refl' m5 [t]).put' (b := t) (by simp)) (by
      intro b hb hm
      cases hb
      simp only [List.mem_singleton] at hm
      have : (m.lay (.cells [ek k] false)).next = m.next + 1 := rfl
      omega)
  have e9 : ((m2.put t (some (.cells [sk', sv, .int .i64 most] false))).lay (.cells v false)).next = m2.next + 1 := rfl
  refine ⟨sk, sv, sk', m2, sv', m5, tabF t (some (m.next + 1)) (some (m2.next + 1)), h1, a1, hs1', hg3, hn2, b1, hs2', ⟨⟨sk', sv', _, _, put_self ht5, hk5, ?_, ?_, ?_, ?_, rfl⟩, ?_⟩, hf3.mono (by simp +contextual [tabF]), hf5.put' (by simp [tabF]), ?_⟩
  · rw [← e9]
    exact b2.frame ((Fr.refl' m5 [t]).put' (b := t) (by simp)) (by
      intro b hb hm
      cases hb
      simp only [List.mem_singleton] at hm
      omega)
  · simp; omega
  · simp; omega
  · intro b hb e
    simp only [Option.some.injEq] at hb e
    omega
  · rw [insL_len (by omega), insL_len hi, h7]
  · intro c hc
    simp only [tabF, Option.toList_some, List.singleton_append, List.mem_cons, List.not_mem_nil, or_false] at hc
    rcases hc with rfl | rfl | rfl
    · exact .inl (by simp [tabF])
    · exact .inr (by omega)
    · exact .inr (by omega)
end
end Go.Abs
namespace Go.Abs
open Go
/-- A key of a row, and a value of one. -/
theorem TRow.key {κ : Type} {ek : κ → AV} {m : Mem} {s : AV} {ks : List κ} {rb : Option Nat} (h : TRow 1 m s (ks.map fun k => [ek k]) rb) {i : Nat} (hi : i < ks.length) :
    ∃ b, s = .sl (some ⟨b, 0⟩) 1 ks.length ks.length false ∧ ixA 1 ks.length ⟨b, 0⟩ (i : Int) = some (.ptr (some ⟨b, i⟩)) ∧ ld1 m (.ptr (some ⟨b, i⟩)) = some (ek ks[i]) := by
  obtain ⟨b, _, h2, h3, h4, _⟩ := h.at (i := i) (by simpa using hi)
  have e : (ks.map fun k => [ek k]).flatten = ks.map ek := by
    rw [← flat_single (l := ks.map ek), List.map_map]; rfl
  refine ⟨b, by simpa using h2, by simpa using h4, ?_⟩
  rw [ld1_at h3, e, List.getElem?_map, List.getElem?_eq_getElem hi]; rfl
theorem TRow.val {n : Nat} {m : Mem} {s : AV} {vs : List (List AV)} {rb : Option Nat} (h : TRow n m s vs rb) {i : Nat} (hi : i < vs.length) :
    ∃ b, s = .sl (some ⟨b, 0⟩) n vs.length vs.length false ∧ ixA n vs.length ⟨b, 0⟩ (i : Int) = some (.ptr (some ⟨b, i * n⟩)) ∧ ldN m (.ptr (some ⟨b, i * n⟩)) n = some (.agg vs[i]) := by
  obtain ⟨b, _, h2, _, h4, h5⟩ := h.at hi
  exact ⟨b, h2, h4, by simp [ldN, h5]⟩
theorem TRow.klen {κ : Type} {ek : κ → AV} {m : Mem} {s : AV} {ks : List κ} {rb : Option Nat} (h : TRow 1 m s (ks.map fun k => [ek k]) rb) : ∃ a sz cap ex, s = .sl a sz ks.length cap ex := by
  obtain ⟨a, sz, cap, ex, e⟩ := h.len
  exact ⟨a, sz, cap, ex, by simpa using e⟩
/-- A whole block read, and set. -/
theorem ld_all {m : Mem} {b n : Nat} {v : List AV} {ro : Bool} (h : m.get b = some (.cells v ro)) (hv : v.length = n) : ldN m (.ptr (some ⟨b, 0⟩)) n = some (.agg v) := by
  rw [ldN_at h (by omega), List.drop_zero, List.take_of_length_le (by omega)]
theorem st_all {m : Mem} {b n : Nat} {cs v : List AV} (h : m.get b = some (.cells cs false)) (hc : cs.length = n) (hv : v.length = n) (ho : v.all AV.one = true) : stV m (.ptr (some ⟨b, 0⟩)) (.agg v) n = some (m.put b (some (.cells v false))) := by
  rw [stV_at h (agg_cells ho) hv (by omega), List.take_zero, List.nil_append, List.drop_eq_nil_of_le (by omega), List.append_nil]
theorem box_agg1 {cs : List AV} (h : cs.all AV.one = true) : boxA (.agg cs) = some (.cells cs false, fun b => .ptr (some ⟨b, 0⟩)) := box_agg h
/-- What Put makes of the keys, and of the values. -/
def putK {κ : Type} [DecidableEq κ] (lt : κ → κ → Bool) (k : κ) (ks : List κ) (most : Int) : List κ :=
  if hasK lt k ks = true then ks else if (ks.length : Int) < most then insL (lb lt k ks) k ks else ks
def putV {κ α : Type} [DecidableEq κ] (lt : κ → κ → Bool) (k : κ) (ks : List κ) (v : α) (vs : List α) (most : Int) : List α :=
  if hasK lt k ks = true then vs.set (lb lt k ks) v else if (ks.length : Int) < most then insL (lb lt k ks) v vs else vs
theorem lb_end {κ : Type} {lt : κ → κ → Bool} {k : κ} {ks : List κ} (h : ∀ x ∈ ks, lt x k = true) : lb lt k ks = ks.length :=
  lb_unique (Nat.le_refl _) (fun j hj _ => h _ (List.getElem_mem hj)) (fun hj => absurd hj (Nat.lt_irrefl _))
theorem has_end {κ : Type} [DecidableEq κ] {lt : κ → κ → Bool} {k : κ} {ks : List κ} (h : ∀ x ∈ ks, lt x k = true) : hasK lt k ks = false := by
  simp [hasK, lb_end h]
theorem insL_end {α : Type} (x : α) (l : List α) : insL l.length x l = l ++ [x] := by simp [insL]
end Go.Abs
