/- Texts of one claim, put together. -/
import Derived.Test.YtolmealocdgdhaaGreatK3
import Derived.Laws.IdiomRangeMap
section
namespace Go.Abs
open Go

section
variable {P : Program} {call : CallF} {all : List Oper} {chk anc : List (List Nat)} {τ : Trace}

def Eff (P : Program) (all : List Oper) (τ : Trace) (k : Nat) : Prop := ∃ o, all[k]? = some o ∧ τ.W k = true ∧ cls P o.op = .e
def New (P : Program) (all : List Oper) (τ : Trace) (k : Nat) (cs : Blk) : Prop := ∃ o mk, all[k]? = some o ∧ τ.W k = true ∧ cls P o.op = .a ∧ allocOp P o.op (τ.T k) = some (cs, mk)

def Steps' (P : Program) (call : CallF) (all : List Oper) (chk : List (List Nat)) (τ : Trace) : Prop := ∀ j o, j < all.length → all[j]? = some o → StepOk P call all chk τ j o

theorem Eff.lt {k : Nat} (h : Eff P all τ k) : k < all.length := let ⟨_, h, _⟩ := h; (List.getElem?_eq_some_iff.1 h).1
theorem New.lt {k : Nat} {cs : Blk} (h : New P all τ k cs) : k < all.length := let ⟨_, _, h, _⟩ := h; (List.getElem?_eq_some_iff.1 h).1
theorem New.not_eff {k : Nat} {cs : Blk} (h : New P all τ k cs) : ¬ Eff P all τ k := by
  rintro ⟨o, h1, _, h2⟩
  obtain ⟨o', mk, h3, _, h4, _⟩ := h
  rw [h1] at h3; cases h3
  rw [h2] at h4; cases h4

theorem step_quiet (hτ : Steps' P call all chk τ) {k : Nat} (hk : k < all.length) (h : ¬ Eff P all τ k) :
    (τ.M (k + 1) = τ.M k ∧ ∀ cs, ¬ New P all τ k cs) ∨ ∃ cs, New P all τ k cs ∧ τ.M (k + 1) = (τ.M k).lay cs := by
  have ho : all[k]? = some (all[k]) := List.getElem?_eq_getElem hk
  have hs := hτ k _ hk ho
  cases hW : τ.W k with
  | false =>
    refine .inl ⟨(hs.off hW).2, ?_⟩
    rintro cs ⟨o, mk, _, h1, _⟩
    rw [hW] at h1; cases h1
  | true =>
    cases hc : cls P (all[k]).op with
    | p =>
      refine .inl ⟨(hs.pure hW hc).2, ?_⟩
      rintro cs ⟨o, mk, h0, _, h1, _⟩
      rw [ho] at h0; cases h0
      rw [hc] at h1; cases h1
    | r =>
      refine .inl ⟨(hs.read hW hc).2, ?_⟩
      rintro cs ⟨o, mk, h0, _, h1, _⟩
      rw [ho] at h0; cases h0
      rw [hc] at h1; cases h1
    | a =>
      obtain ⟨cs, mk, h1, h2, h3⟩ := hs.alloc hW hc
      exact .inr ⟨cs, ⟨_, mk, ho, hW, hc, h1⟩, h3⟩
    | e => exact absurd ⟨_, ho, hW, hc⟩ h

theorem New.next (hτ : Steps' P call all chk τ) {k : Nat} {cs : Blk} (h : New P all τ k cs) : τ.M (k + 1) = (τ.M k).lay cs := by
  obtain ⟨o, mk, h1, h2, h3, h4⟩ := h
  obtain ⟨cs', mk', h5, _, h6⟩ := (hτ k o (List.getElem?_eq_some_iff.1 h1).1 h1).alloc h2 h3
  rw [h4] at h5; cases h5
  exact h6

theorem next_step (hcall : CallOk P call) (hτ : Steps' P call all chk τ) {k : Nat} (hk : k < all.length) : (τ.M k).next ≤ (τ.M (k + 1)).next := by
  by_cases he : Eff P all τ k
  · obtain ⟨o, h1, h2, h3⟩ := he
    exact (effR_sound hcall ((hτ k o hk h1).eff h2 h3)).1
  · rcases step_quiet hτ hk he with ⟨h, _⟩ | ⟨cs, _, h⟩
    · rw [h]; exact Nat.le_refl _
    · rw [h]; simp
theorem next_mono (hcall : CallOk P call) (hτ : Steps' P call all chk τ) {j k : Nat} (hjk : j ≤ k) (hk : k ≤ all.length) : (τ.M j).next ≤ (τ.M k).next := by
  induction k with
  | zero => have : j = 0 := by omega
            subst this; exact Nat.le_refl _
  | succ k ih =>
    by_cases e : j = k + 1
    · subst e; exact Nat.le_refl _
    · exact Nat.le_trans (ih (by omega) (by omega)) (next_step hcall hτ (by omega))
theorem New.lt_next (hcall : CallOk P call) (hτ : Steps' P call all chk τ) {i k : Nat} {cs : Blk} (h : New P all τ i cs) (hik : i < k) (hk : k ≤ all.length) : (τ.M i).next < (τ.M k).next := by
  have h1 := h.next hτ
  have h2 := next_mono hcall hτ (j := i + 1) (k := k) (by omega) hk
  rw [h1] at h2; simp at h2; omega
theorem New.inj (hcall : CallOk P call) (hτ : Steps' P call all chk τ) {i k : Nat} {cs ds : Blk} (h : New P all τ i cs) (h' : New P all τ k ds) (e : (τ.M i).next = (τ.M k).next) : i = k := by
  have a := h.lt
  have b := h'.lt
  rcases Nat.lt_trichotomy i k with c | c | c
  · have := h.lt_next hcall hτ c (by omega); omega
  · exact c
  · have := h'.lt_next hcall hτ c (by omega); omega
theorem New.cells {i : Nat} {cs ds : Blk} (h : New P all τ i cs) (h' : New P all τ i ds) : cs = ds := by
  obtain ⟨o, mk, h1, _, _, h4⟩ := h
  obtain ⟨o', mk', h5, _, _, h6⟩ := h'
  rw [h1] at h5; cases h5
  rw [h4] at h6; cases h6; rfl

theorem ext (hcall : CallOk P call) (hτ : Steps' P call all chk τ) {j k : Nat} (hjk : j ≤ k) (hk : k ≤ all.length) (hno : ∀ i, j ≤ i → i < k → ¬ Eff P all τ i) :
    (∀ b, b < (τ.M j).next → (τ.M k).get b = (τ.M j).get b) ∧ (∀ i cs, j ≤ i → i < k → New P all τ i cs → (τ.M k).get (τ.M i).next = some cs) ∧
    (∀ b, (τ.M j).next ≤ b → b < (τ.M k).next → ∃ i cs, j ≤ i ∧ i < k ∧ New P all τ i cs ∧ b = (τ.M i).next) := by
  induction k with
  | zero =>
    have : j = 0 := by omega
    subst this
    exact ⟨fun _ _ => rfl, fun i cs _ h => by omega, fun b h1 h2 => by omega⟩
  | succ k ih =>
    by_cases e : j = k + 1
    · subst e
      exact ⟨fun _ _ => rfl, fun i cs _ h => by omega, fun b h1 h2 => by omega⟩
    · obtain ⟨i1, i2, i3⟩ := ih (by omega) (by omega) (fun i h1 h2 => hno i h1 (by omega))
      rcases step_quiet hτ (by omega) (hno k (by omega) (by omega)) with ⟨h, hn⟩ | ⟨cs, hn, h⟩
      · rw [h]
        refine ⟨i1, fun i cs h1 h2 h3 => ?_, fun b h1 h2 => ?_⟩
        · by_cases e2 : i = k
          · subst e2; exact absurd h3 (hn cs)
          · exact i2 i cs h1 (by omega) h3
        · obtain ⟨i, cs, g1, g2, g3⟩ := i3 b h1 h2
          exact ⟨i, cs, g1, by omega, g3⟩
      · rw [h]
        have hle := next_mono hcall hτ (j := j) (k := k) (by omega) (by omega)
        refine ⟨fun b hb => ?_, fun i ds h1 h2 h3 => ?_, fun b h1 h2 => ?_⟩
        · rw [Mem.get_lay, if_neg (by omega)]; exact i1 b hb
        · rw [Mem.get_lay]
          by_cases e2 : i = k
          · subst e2; rw [if_pos rfl, hn.cells h3]
          · have := h3.lt_next hcall hτ (k := k) (by omega) (by omega)
            rw [if_neg (by omega)]; exact i2 i ds h1 (by omega) h3
        · simp only [Mem.next_lay] at h2
          by_cases e2 : b = (τ.M k).next
          · exact ⟨k, cs, by omega, by omega, hn, e2⟩
          · obtain ⟨i, ds, g1, g2, g3⟩ := i3 b h1 (by omega)
            exact ⟨i, ds, g1, by omega, g3⟩

theorem readOp_mono {op : Op} {t : List AV} {m m' : Mem} {v : AV} (hm : ∀ b blk, m.get b = some blk → m'.get b = some blk) (h : readOp P op t m = some v) : readOp P op t m' = some v := by
  have hld : ∀ (a : AA) (n : Nat) (vs : List AV), ldCells m a n = some vs → ldCells m' a n = some vs := by
    intro a n vs h
    obtain ⟨cs, ro, h1, h2, rfl⟩ := ldCells_spec h
    simp only [ldCells, hm _ _ h1, if_pos h2]
  have hl1 : ∀ (x v : AV), ld1 m x = some v → ld1 m' x = some v := by
    intro x v h
    unfold ld1 at h ⊢
    split at h
    · split at h
      · rename_i cs hc
        simp only [hm _ _ hc]; exact h
      · simp at h
    · simp at h
  have hmap : ∀ (x : AV) es, mapOf m x = some es → mapOf m' x = some es := by
    intro x es h
    unfold mapOf at h ⊢
    split at h
    · exact h
    · split at h
      · rename_i hc; simp only [hm _ _ hc]; exact h
      · cases h
    · cases h
  have hlN : ∀ (x v : AV) (n : Nat), ldN m x n = some v → ldN m' x n = some v := by
    intro x v n h
    unfold ldN at h ⊢
    split at h
    · obtain ⟨vs, h1, rfl⟩ := Option.map_eq_some_iff.1 h
      simp only [hld _ _ _ h1]; rfl
    · simp at h
  unfold readOp at h ⊢
  split at h
  · obtain ⟨x, h1, h⟩ := Option.bind_eq_some_iff.1 h
    rw [h1]
    simp only [Option.bind_some]
    unfold loadA at h ⊢
    split at h
    · simp at h
    · split at h
      · obtain ⟨n, h2, h⟩ := Option.bind_eq_some_iff.1 h
        rename_i hd ha
        simp only [if_true, h2, Option.bind_some, hd]
        exact hlN _ _ _ h
      · rename_i hd ha
        rw [if_neg ha]; exact hl1 _ _ h
  · obtain ⟨x, h1, h⟩ := Option.bind_eq_some_iff.1 h
    rw [h1]
    simp only [Option.bind_some]
    unfold toStrA at h ⊢
    split at h
    · rename_i e hd
      split at h
      · rename_i he
        split at h
        · exact h
        · obtain ⟨bs, h2, rfl⟩ := Option.map_eq_some_iff.1 h
          obtain ⟨cs, h3, h4⟩ := Option.bind_eq_some_iff.1 h2
          simp only [hld _ _ _ h3, Option.bind_some, h4, Option.map_some]
        · simp at h
      · simp at h
    · simp at h
  · obtain ⟨x, h1, h⟩ := Option.bind_eq_some_iff.1 h
    obtain ⟨k, h2, h⟩ := Option.bind_eq_some_iff.1 h
    rw [h1, h2]
    simp only [Option.bind_some]
    unfold lookupA at h ⊢
    split at h
    · obtain ⟨d, h3, h⟩ := Option.bind_eq_some_iff.1 h
      obtain ⟨es, h4, h⟩ := Option.bind_eq_some_iff.1 h
      simp only [h3, Option.bind_some, hmap _ _ h4]
      exact h
    · cases h
  · obtain ⟨x, h1, h⟩ := Option.bind_eq_some_iff.1 h
    rw [h1]
    simp only [Option.bind_some]
    unfold entryA at h ⊢
    split at h
    · rename_i a
      split at h
      · rename_i b left e ha hg
        simp only [ha, hm _ _ hg]
        split at h
        · rename_i es c hb
          simp only [hm _ _ hb]
          exact h
        · cases h
      · cases h
    · cases h
  · obtain ⟨x, h1, h⟩ := Option.bind_eq_some_iff.1 h
    rw [h1]
    simp only [Option.bind_some]
    unfold lenM at h ⊢
    split at h
    · obtain ⟨es, h4, rfl⟩ := Option.map_eq_some_iff.1 h
      simp only [hmap _ _ h4, Option.map_some]
    · cases h
  · simp at h

theorem MR.grow {P : Program} {p : Phi} {m m' : Mem} {w : World} (h : MR P p m w) (hn : m.next ≤ m'.next) (hlo : ∀ b, b < m.next → m'.get b = m.get b)
    (hlive : ∀ b v ci, m.next ≤ b → m'.get b = some v → p b = some ci → ∃ o, w.heap[ci.c]? = some o ∧ BR P p ci v o)
    (hinj : ∀ b ci b2 ci2, m.next ≤ b → (m'.get b).isSome = true → p b = some ci → p b2 = some ci2 → ci.c = ci2.c → b = b2 ∨ (b2 < m'.next ∧ m'.get b2 = none)) : MR P p m' w where
  has := fun b v ci h1 h2 => by
    by_cases hb : b < m.next
    · rw [hlo b hb] at h1; exact h.has b v ci h1 h2
    · exact hlive b v ci (by omega) h1 h2
  inj := fun b ci b2 ci2 h1 h2 h3 h4 => by
    by_cases hb : b < m.next
    · rw [hlo b hb] at h1
      rcases h.inj b ci b2 ci2 h1 h2 h3 h4 with e | ⟨e, e'⟩
      · exact .inl e
      · exact .inr ⟨by omega, by rw [hlo b2 e]; exact e'⟩
    · exact hinj b ci b2 ci2 (by omega) h1 h2 h3 h4
  bnd := h.bnd
  glob := h.glob

structure DInv (P : Program) (all : List Oper) (τ : Trace) (p0 : Phi) (w0 : World) (a0 : Act) (S : Nat → Bool) (q : Nat) (p : Phi) (a : Act) (w : World) : Prop where
  qle : q ≤ all.length
  qeff : q = all.length ∨ Eff P all τ q
  lo : ∀ k, k < q → Eff P all τ k → S k = true
  hi : ∀ k, q ≤ k → Eff P all τ k → S k = false
  closed : ∀ j o, all[j]? = some o → S j = true → ∀ e ∈ edgesOf o, S e = true
  inb : ∀ j, S j = true → j < all.length
  size : a.tmps.size = (τ.T 0).length
  tmps : ∀ x, x < (τ.T 0).length → VR p ((tmpsS all τ.V S (τ.T 0)).getD x .undef) (a.tmps.getD x undef)
  defers : a.defers = a0.defers
  rel : MR P p (τ.M q) w
  le : p0.le p
  out : ∀ b, ¬ ((τ.M 0).next ≤ b ∧ b < (τ.M all.length).next) → p b = p0 b
  above : ∀ b ci, (τ.M q).next ≤ b → b < (τ.M all.length).next → p b = some ci → ∃ i cs, q ≤ i ∧ S i = true ∧ New P all τ i cs ∧ b = (τ.M i).next
  late : ∀ i cs, i < q → New P all τ i cs → S i = false → p (τ.M i).next = none ∧ (τ.M q).get (τ.M i).next = some cs
  early : ∀ i cs, q ≤ i → New P all τ i cs → S i = true → ∃ ci o, p (τ.M i).next = some ci ∧ w.heap[ci.c]? = some o ∧ BR P p ci cs o
  earlyInj : ∀ b ci b2 ci2, (τ.M q).next ≤ b → b < (τ.M all.length).next → (τ.M q).next ≤ b2 → p b = some ci → p b2 = some ci2 → ci.c = ci2.c → b = b2
  keepA : ∀ b, b < (τ.M 0).next → p0 b = none → (τ.M q).get b = (τ.M 0).get b
  dead : ∀ b, b < (τ.M 0).next → (τ.M 0).get b = none → (τ.M q).get b = none
  keepC : ∀ c, c < w0.heap.size → (∀ b ci, ((τ.M 0).get b).isSome = true → p0 b = some ci → ci.c ≠ c) → w.heap[c]? = w0.heap[c]?
  fresh : ∀ b ci, (τ.M 0).next ≤ b → b < (τ.M all.length).next → p b = some ci → w0.heap.size ≤ ci.c ∨ ∃ b0 ci0, ((τ.M 0).get b0).isSome = true ∧ p0 b0 = some ci0 ∧ ci0.c = ci.c
  ro : ∀ b cs ci, (τ.M 0).get b = some (.cells cs true) → p0 b = some ci → (τ.M q).get b = some (.cells cs true) ∧ w.heap[ci.c]? = w0.heap[ci.c]?
  bnd0 : ∀ b ci, p0 b = some ci → ci.c < w0.heap.size
  wsize : w0.heap.size ≤ w.heap.size
  os : w.os = w0.os
  output : w.output = w0.output
  tape : w.tape = w0.tape

structure Ready (all : List Oper) (S : Nat → Bool) (i : Nat) (o : Oper) : Prop where
  op : all[i]? = some o
  not : S i = false
  edges : ∀ e ∈ edgesOf o, S e = true

def setS (S : Nat → Bool) (i : Nat) : Nat → Bool := fun j => if j = i then true else S j

section steps
variable {p0 : Phi} {w0 : World} {a0 : Act} {S : Nat → Bool} {q : Nat} {p : Phi} {a : Act} {w : World} {i : Nat} {o : Oper}

theorem DInv.ancIn (hr : rOk P all anc chk = true) (h : DInv P all τ p0 w0 a0 S q p a w) {j : Nat} {oj : Oper} (hj : all[j]? = some oj) (he : ∀ e ∈ edgesOf oj, S e = true) : ∀ x ∈ anc.getD j [], S x = true :=
  anc_in hr h.closed j oj hj he

theorem DInv.apartLo (hr : rOk P all anc chk = true) (h : DInv P all τ p0 w0 a0 S q p a w) (hi : Ready all S i o) {k : Nat} {ok : Oper} (hk : all[k]? = some ok) (hki : k < i) (hS : S k = false) :
    Oper.apart ⟨all⟩ ok o = true ∧ ¬ (cls P ok.op = .e ∧ cls P o.op = .e) ∧ ((cls P ok.op = .r ∧ cls P o.op = .e) ∨ (cls P ok.op = .e ∧ cls P o.op = .r) → k ∈ chk.getD i []) := by
  have h1 := (rOk_spec hr hi.op).2 k ok hki hk
  unfold pairOk at h1
  rw [Bool.or_eq_true] at h1
  rcases h1 with h1 | h1
  · have := h.ancIn hr hi.op hi.edges k (by simpa using h1)
    rw [hS] at this; cases this
  · simp only [Bool.and_eq_true, Bool.or_eq_true, Bool.not_eq_true', Bool.and_eq_false_iff, decide_eq_false_iff_not, Bool.or_eq_false_iff] at h1
    refine ⟨h1.1.1, fun e => ?_, fun e => ?_⟩
    · rcases h1.1.2 with h2 | h2
      · exact h2 e.1
      · exact h2 e.2
    · rcases h1.2 with h2 | h2
      · rcases e with e | e
        · rcases h2.1 with h3 | h3
          · exact absurd e.1 h3
          · exact absurd e.2 h3
        · rcases h2.2 with h3 | h3
          · exact absurd e.1 h3
          · exact absurd e.2 h3
      · simpa using h2

theorem DInv.apartHi (hr : rOk P all anc chk = true) (h : DInv P all τ p0 w0 a0 S q p a w) (hi : Ready all S i o) {k : Nat} {ok : Oper} (hk : all[k]? = some ok) (hki : i < k) (hS : S k = true) :
    Oper.apart ⟨all⟩ o ok = true ∧ ¬ (cls P o.op = .e ∧ cls P ok.op = .e) ∧ ((cls P o.op = .r ∧ cls P ok.op = .e) ∨ (cls P o.op = .e ∧ cls P ok.op = .r) → i ∈ chk.getD k []) := by
  have h1 := (rOk_spec hr hk).2 i o hki hi.op
  unfold pairOk at h1
  rw [Bool.or_eq_true] at h1
  rcases h1 with h1 | h1
  · have := h.ancIn hr hk (h.closed k ok hk hS) i (by simpa using h1)
    rw [hi.not] at this; cases this
  · simp only [Bool.and_eq_true, Bool.or_eq_true, Bool.not_eq_true', Bool.and_eq_false_iff, decide_eq_false_iff_not, Bool.or_eq_false_iff] at h1
    refine ⟨h1.1.1, fun e => ?_, fun e => ?_⟩
    · rcases h1.1.2 with h2 | h2
      · exact h2 e.1
      · exact h2 e.2
    · rcases h1.2 with h2 | h2
      · rcases e with e | e
        · rcases h2.1 with h3 | h3
          · exact absurd e.1 h3
          · exact absurd e.2 h3
        · rcases h2.2 with h3 | h3
          · exact absurd e.1 h3
          · exact absurd e.2 h3
      · simpa using h2

theorem dst_get {k : Nat} {x : Tmp} (h : dstOf all k = some x) : ∃ ok, all[k]? = some ok ∧ ok.dst = some x := by
  unfold dstOf at h
  cases e : all[k]? with
  | none => simp [e] at h
  | some ok => rw [e] at h; exact ⟨ok, rfl, h⟩

theorem DInv.looks (hτ : Steps' P call all chk τ) (hr : rOk P all anc chk = true) (h : DInv P all τ p0 w0 a0 S q p a w) (hi : Ready all S i o) {x : Nat} (hx : x ∈ o.looksAt ⟨all⟩) :
    (tmpsS all τ.V S (τ.T 0)).getD x .undef = (τ.T i).getD x .undef := by
  have hil : i < all.length := (List.getElem?_eq_some_iff.1 hi.op).1
  by_cases hxl : x < (τ.T 0).length
  · refine T_getD hτ (by omega) hxl fun k hk hd => ?_
    obtain ⟨ok, hok, hdk⟩ := dst_get hd
    rcases Nat.lt_trichotomy k i with c | c | c
    · cases hS : S k with
      | true => simp [c]
      | false =>
        have := (h.apartLo hr hi hok c hS).1
        exact absurd hx ((Oper.apart_spec this).1 x hdk)
    · subst c; rw [hi.not]; simp
    · cases hS : S k with
      | false => simp; omega
      | true =>
        have := (h.apartHi hr hi hok c hS).1
        exact absurd hx ((Oper.apart_spec this).2.2 x hdk)
  · have h1 : (tmpsS all τ.V S (τ.T 0)).length ≤ x := by unfold tmpsS; rw [foldS_length]; omega
    have h2 : (τ.T i).length ≤ x := by rw [T_length hτ (by omega)]; omega
    rw [List.getD_eq_getElem?_getD, List.getD_eq_getElem?_getD, List.getElem?_eq_none h1, List.getElem?_eq_none h2]

theorem DInv.agree (hτ : Steps' P call all chk τ) (hr : rOk P all anc chk = true) (h : DInv P all τ p0 w0 a0 S q p a w) (hi : Ready all S i o) : Agree o.op (tmpsS all τ.V S (τ.T 0)) (τ.T i) := by
  intro x hx
  refine h.looks hτ hr hi ?_
  unfold Oper.looksAt
  simp only [List.mem_append, List.mem_filterMap]
  left
  exact ⟨.tmp x, by simpa using hx, rfl⟩

theorem DInv.vrs (h : DInv P all τ p0 w0 a0 S q p a w) : VRs p (tmpsS all τ.V S (τ.T 0)) a.tmps.toList := by
  have hl : (tmpsS all τ.V S (τ.T 0)).length = (τ.T 0).length := by unfold tmpsS; rw [foldS_length]
  refine VRs.of_get (by rw [hl, ← h.size]; simp) fun x v hv => ?_
  have hx : x < (τ.T 0).length := by have := (List.getElem?_eq_some_iff.1 hv).1; omega
  have := h.tmps x hx
  rw [List.getD_eq_getElem?_getD, hv, Option.getD_some] at this
  refine ⟨_, ?_, this⟩
  have hxs : x < a.tmps.size := by rw [h.size]; exact hx
  rw [Array.getElem?_toList, Array.getElem?_eq_getElem hxs, Array.getD_eq_getD_getElem?, Array.getElem?_eq_getElem hxs]
  rfl

theorem DInv.wanted (hτ : Steps' P call all chk τ) (hr : rOk P all anc chk = true) (h : DInv P all τ p0 w0 a0 S q p a w) (hi : Ready all S i o) : Region.wanted o (yielded ⟨all⟩ a.tmps) = τ.W i := by
  have hil : i < all.length := (List.getElem?_eq_some_iff.1 hi.op).1
  have hs := (hτ i o hil hi.op).wanted
  refine wantedA_true hs p a.tmps fun d hd => ?_
  have hlook : d ∈ o.looksAt ⟨all⟩ := by
    unfold Oper.looksAt
    simp only [List.mem_append]
    right
    cases hg : o.guard with
    | none => simp [hg] at hd
    | some g => simp only [hg] at hd ⊢; simpa using hd
  have hdl : d < (τ.T 0).length := by
    rcases Nat.lt_or_ge d (τ.T 0).length with c | c
    · exact c
    · exfalso
      have h2 : (τ.T i).length ≤ d := by rw [T_length hτ (by omega)]; omega
      unfold wantedA at hs
      cases hg : o.guard with
      | none => simp [hg] at hd
      | some g =>
        obtain ⟨j, want⟩ := g
        simp only [hg] at hd hs
        rw [hd] at hs
        simp only [List.getD_eq_getElem?_getD, List.getElem?_eq_none h2, Option.getD_none] at hs
        cases hs
  rw [← h.looks hτ hr hi hlook]
  exact ⟨h.tmps d hdl, by rw [h.size]; exact hdl⟩

theorem DInv.tmps' (hr : rOk P all anc chk = true) (h : DInv P all τ p0 w0 a0 S q p a w) (hi : Ready all S i o) {p' : Phi} (hle : p.le p') {cv : Value} (hv : VR p' (τ.V i) cv) :
    (a.put o.dst cv).tmps.size = (τ.T 0).length ∧ ∀ x, x < (τ.T 0).length → VR p' ((tmpsS all τ.V (setS S i) (τ.T 0)).getD x .undef) ((a.put o.dst cv).tmps.getD x undef) := by
  have hil : i < all.length := (List.getElem?_eq_some_iff.1 hi.op).1
  have hdi : dstOf all i = o.dst := by simp [dstOf, hi.op]
  refine ⟨by cases o.dst <;> simp [Act.put, h.size], fun x hx => ?_⟩
  by_cases hd : o.dst = some x
  · rw [tmpsS_last hil (by simp [setS]) (by rw [hdi]; exact hd) hx]
    · rw [hd]
      have hxs : x < a.tmps.size := by rw [h.size]; exact hx
      simp only [Act.put, Array.getD_eq_getD_getElem?]
      rw [Array.getElem?_setIfInBounds_self_of_lt hxs]
      exact hv
    · intro k hk hS hdk
      obtain ⟨ok, hok, hdk'⟩ := dst_get hdk
      have hSk : S k = true := by simpa [setS, show k ≠ i by omega] using hS
      have := (h.apartHi hr hi hok hk hSk).1
      exact (Oper.apart_spec this).2.1 x hd hdk'
  · have e1 : (tmpsS all τ.V (setS S i) (τ.T 0)).getD x .undef = (tmpsS all τ.V S (τ.T 0)).getD x .undef := by
      unfold tmpsS
      refine foldS_agree all τ.V _ _ _ (fun k _ hdk => ?_) hx rfl rfl
      have : k ≠ i := by rintro rfl; exact hd (hdi ▸ hdk)
      simp [setS, this]
    rw [e1]
    have e2 : (a.put o.dst cv).tmps.getD x undef = a.tmps.getD x undef := by
      cases hdd : o.dst with
      | none => rfl
      | some d =>
        have hne : d ≠ x := fun e => hd (by rw [hdd, e])
        simp only [Act.put, Array.getD_eq_getD_getElem?, Array.getElem?_setIfInBounds_ne hne]
    rw [e2]
    exact (h.tmps x hx).mono hle

theorem setS_eff {k : Nat} (hne : ¬ Eff P all τ i) (hk : Eff P all τ k) : setS S i k = S k := by
  have : k ≠ i := by rintro rfl; exact hne hk
  simp [setS, this]

theorem closedS (h : DInv P all τ p0 w0 a0 S q p a w) (hi : Ready all S i o) : ∀ j oj, all[j]? = some oj → setS S i j = true → ∀ e ∈ edgesOf oj, setS S i e = true := by
  intro j oj hj hS e he
  unfold setS at hS ⊢
  split
  · rfl
  · by_cases hji : j = i
    · subst hji; rw [hi.op] at hj; cases hj; exact hi.edges e he
    · rw [if_neg hji] at hS; exact h.closed j oj hj hS e he

theorem DInv.still (hr : rOk P all anc chk = true) (h : DInv P all τ p0 w0 a0 S q p a w) (hi : Ready all S i o) (hne : ¬ Eff P all τ i) (hnn : ∀ cs, ¬ New P all τ i cs) {cv : Value} (hv : VR p (τ.V i) cv) :
    DInv P all τ p0 w0 a0 (setS S i) q p (a.put o.dst cv) w := by
  have hil : i < all.length := (List.getElem?_eq_some_iff.1 hi.op).1
  obtain ⟨t1, t2⟩ := h.tmps' hr hi (fun _ _ h => h) hv
  have hnew : ∀ {j cs}, New P all τ j cs → setS S i j = S j := fun {j cs} hj => by
    have : j ≠ i := by rintro rfl; exact hnn _ hj
    simp [setS, this]
  refine ⟨h.qle, h.qeff, fun k h1 h2 => by rw [setS_eff hne h2]; exact h.lo k h1 h2, fun k h1 h2 => by rw [setS_eff hne h2]; exact h.hi k h1 h2, closedS h hi, fun j hj => ?_, t1, t2, by rw [put_defers']; exact h.defers,
    h.rel, h.le, h.out, fun b ci h1 h2 h3 => ?_, fun j cs h1 h2 h3 => h.late j cs h1 h2 (by rw [← hnew h2]; exact h3), fun j cs h1 h2 h3 => h.early j cs h1 h2 (by rw [← hnew h2]; exact h3), h.earlyInj, h.keepA, h.dead, h.keepC, h.fresh, h.ro, h.bnd0, h.wsize, h.os, h.output, h.tape⟩
  · unfold setS at hj; split at hj
    · omega
    · exact h.inb j hj
  · obtain ⟨j, cs, g1, g2, g3, g4⟩ := h.above b ci h1 h2 h3
    exact ⟨j, cs, g1, by rw [hnew g3]; exact g2, g3, g4⟩

theorem DInv.reads (hcall : CallOk P call) (hτ : Steps' P call all chk τ) (hr : rOk P all anc chk = true) (h : DInv P all τ p0 w0 a0 S q p a w) (hi : Ready all S i o) (hW : τ.W i = true) (hc : cls P o.op = .r) :
    readOp P o.op (tmpsS all τ.V S (τ.T 0)) (τ.M q) = some (τ.V i) := by
  have hil : i < all.length := (List.getElem?_eq_some_iff.1 hi.op).1
  have hs := hτ i o hil hi.op
  rw [readOp_agree (h.agree hτ hr hi)]
  have hqi : q ≠ i ∨ q = all.length := by
    rcases h.qeff with e | ⟨o', h1, _, h2⟩
    · exact .inr e
    · left; rintro rfl; rw [hi.op] at h1; cases h1; rw [hc] at h2; cases h2
  by_cases hlt : q < i
  · -- a change is still to come that stood ahead
    rcases h.qeff with e | ⟨o', h1, h2, h3⟩
    · omega
    · have hSq := h.hi q (Nat.le_refl q) ⟨o', h1, h2, h3⟩
      have := (h.apartLo hr hi h1 hlt hSq).2.2 (.inr ⟨h3, hc⟩)
      exact hs.readC hW hc q o' hlt h1 h2 h3 this
  · have hiq : i < q := by rcases hqi with e | e <;> omega
    have hex : (∀ k, i < k → k < q → ¬ Eff P all τ k) ∨ ∃ k, i < k ∧ k < q ∧ Eff P all τ k ∧ ∀ j, k < j → j < q → ¬ Eff P all τ j := by
      have key : ∀ n, i + n + 1 ≤ q → (∀ j, i + n < j → j < q → ¬ Eff P all τ j) → (∀ k, i < k → k < q → ¬ Eff P all τ k) ∨ ∃ k, i < k ∧ k < q ∧ Eff P all τ k ∧ ∀ j, k < j → j < q → ¬ Eff P all τ j := by
        intro n
        induction n with
        | zero => intro _ hn; exact .inl fun k h1 h2 => hn k (by omega) h2
        | succ n ih =>
          intro h1 hn
          by_cases he : Eff P all τ (i + n + 1)
          · exact .inr ⟨i + n + 1, by omega, by omega, he, fun j h2 h3 => hn j (by omega) h3⟩
          · refine ih (by omega) fun j h2 h3 => ?_
            by_cases e : j = i + n + 1
            · rw [e]; exact he
            · exact hn j (by omega) h3
      exact key (q - i - 1) (by omega) (fun j h1 h2 => by omega)
    rcases hex with hno | ⟨k, h1, h2, hk, hno⟩
    · have he := ext hcall hτ (j := i + 1) (k := q) (by omega) h.qle (fun j a b => hno j (by omega) b)
      have hr0 := hs.read hW hc
      refine readOp_mono (fun b blk hb => ?_) hr0.1
      rw [← hr0.2] at hb
      rw [he.1 b (Mem.get_lt hb)]; exact hb
    · have hSk := h.lo k h2 hk
      obtain ⟨ok, g1, g2, g3⟩ := hk
      have hmem := (h.apartHi hr hi g1 h1 hSk).2.2 (.inl ⟨hc, g3⟩)
      have hkl : k < all.length := (List.getElem?_eq_some_iff.1 g1).1
      have := (hτ k ok hkl g1).effC g2 g3 i o h1 hi.op hW hc hmem
      have he := ext hcall hτ (j := k + 1) (k := q) (by omega) h.qle (fun j a b => hno j (by omega) b)
      refine readOp_mono (fun b blk hb => ?_) this
      rw [he.1 b (Mem.get_lt hb)]; exact hb
end steps
end
end Go.Abs
end
section
namespace Go.Abs
open Go

section
variable {P : Program} {call : CallF} {all : List Oper} {chk anc : List (List Nat)} {τ : Trace}
variable {p0 : Phi} {w0 : World} {a0 : Act} {S : Nat → Bool} {q : Nat} {p : Phi} {a : Act} {w : World} {i : Nat} {o : Oper}

theorem DInv.laid (hcall : CallOk P call) (hτ : Steps' P call all chk τ) (hr : rOk P all anc chk = true) (h : DInv P all τ p0 w0 a0 S q p a w) (hi : Ready all S i o) {cs : Blk} {mk : Nat → AV} (hn : New P all τ i cs) (hmk : τ.V i = mk (τ.M i).next)
    {w' : World} {cv : Value} {ob : Obj} {sz : Nat} (hl : Laid P p cs mk w w' cv ob sz) :
    ∃ p', DInv P all τ p0 w0 a0 (setS S i) q p' (a.put o.dst cv) w' := by
  have hil : i < all.length := (List.getElem?_eq_some_iff.1 hi.op).1
  have hbn : (τ.M i).next < (τ.M all.length).next := hn.lt_next hcall hτ hil (Nat.le_refl _)
  have hb0 : (τ.M 0).next ≤ (τ.M i).next := next_mono hcall hτ (Nat.zero_le _) (by omega)
  have hfree : p (τ.M i).next = none := by
    by_cases hiq : i < q
    · exact (h.late i cs hiq hn hi.not).1
    · cases e : p (τ.M i).next with
      | none => rfl
      | some ci =>
        have hqi : (τ.M q).next ≤ (τ.M i).next := next_mono hcall hτ (by omega) (by omega)
        obtain ⟨j, ds, h1, h2, h3, h4⟩ := h.above _ ci hqi hbn e
        have := hn.inj hcall hτ h3 h4
        subst this
        rw [hi.not] at h2; cases h2
  let p' : Phi := fun b => if b = (τ.M i).next then some ⟨w.heap.size, 0, sz, none⟩ else p b
  have hle : p.le p' := by
    intro b ci hb
    by_cases e : b = (τ.M i).next
    · subst e; rw [hfree] at hb; cases hb
    · simp [p', e, hb]
  have hp' : ∀ b, b ≠ (τ.M i).next → p' b = p b := fun b e => by simp [p', e]
  have hpi : p' (τ.M i).next = some ⟨w.heap.size, 0, sz, none⟩ := by simp [p']
  have hheap : ∀ c, c < w.heap.size → w'.heap[c]? = w.heap[c]? := fun c hc => by rw [hl.heap, Array.getElem?_push_lt hc, ← Array.getElem?_eq_getElem]
  have hnewh : w'.heap[w.heap.size]? = some ob := by rw [hl.heap]; simp
  have hne : ¬ Eff P all τ i := hn.not_eff
  have hnew : ∀ {j ds}, j ≠ i → New P all τ j ds → setS S i j = S j := fun {j ds} hj _ => by simp [setS, hj]
  have hv : VR p' (τ.V i) cv := by rw [hmk]; exact hl.value p' _ hpi
  obtain ⟨t1, t2⟩ := h.tmps' hr hi hle hv
  have hblk : BR P p' ⟨w.heap.size, 0, sz, none⟩ cs ob := hl.blk.mono hle
  refine ⟨p', h.qle, h.qeff, fun k h1 h2 => by rw [setS_eff hne h2]; exact h.lo k h1 h2, fun k h1 h2 => by rw [setS_eff hne h2]; exact h.hi k h1 h2, closedS h hi, fun j hj => ?_, t1, t2, by rw [put_defers']; exact h.defers,
    ⟨?_, ?_, ?_, ?_⟩, fun b ci hb => hle _ _ (h.le b ci hb), fun b hb => ?_, fun b ci h1 h2 h3 => ?_, fun j ds h1 h2 h3 => ?_, fun j ds h1 h2 h3 => ?_, fun b ci b2 ci2 h1 h2 h3 h4 h5 h6 => ?_, h.keepA, h.dead, fun c h1 h2 => ?_, fun b ci h1 h2 h3 => ?_,
    fun b ds ci h1 h2 => ⟨(h.ro b ds ci h1 h2).1, by rw [hheap _ (by have := h.bnd0 b ci h2; have := h.wsize; omega)]; exact (h.ro b ds ci h1 h2).2⟩, h.bnd0, by rw [hl.heap]; simp; have := h.wsize; omega, hl.os.trans h.os, hl.output.trans h.output, hl.tape.trans h.tape⟩
  · unfold setS at hj; split at hj
    · omega
    · exact h.inb j hj
  · -- live
    intro b v ci h1 h2
    by_cases e : b = (τ.M i).next
    · subst e
      rw [hpi] at h2; cases h2
      have hiq : i < q := by
        rcases Nat.lt_or_ge i q with c | c
        · exact c
        · have hqi : (τ.M q).next ≤ (τ.M i).next := next_mono hcall hτ c (by omega)
          rw [Mem.get_ge hqi] at h1; cases h1
      have := (h.late i cs hiq hn hi.not).2
      rw [this] at h1; cases h1
      exact ⟨ob, hnewh, hblk⟩
    · rw [hp' b e] at h2
      obtain ⟨o', g1, g2⟩ := h.rel.has b v ci h1 h2
      exact ⟨o', by rw [hheap _ (h.rel.bnd b ci h2)]; exact g1, g2.mono hle⟩
  · -- apart
    intro b ci b2 ci2 h1 h2 h3 h4
    by_cases e : b = (τ.M i).next
    · by_cases e2 : b2 = (τ.M i).next
      · exact .inl (e.trans e2.symm)
      · rw [e, hpi] at h2; cases h2
        rw [hp' b2 e2] at h3
        have := h.rel.bnd b2 ci2 h3
        simp only at h4; omega
    · rw [hp' b e] at h2
      by_cases e2 : b2 = (τ.M i).next
      · rw [e2, hpi] at h3; cases h3
        have := h.rel.bnd b ci h2
        simp only at h4; omega
      · rw [hp' b2 e2] at h3
        exact h.rel.inj b ci b2 ci2 h1 h2 h3 h4
  · intro b ci hb
    rw [hl.heap, Array.size_push]
    by_cases e : b = (τ.M i).next
    · rw [e, hpi] at hb; cases hb; simp
    · rw [hp' b e] at hb; have := h.rel.bnd b ci hb; omega
  · intro g hg
    obtain ⟨n, hn⟩ := h.rel.glob g hg
    exact ⟨n, hle _ _ hn⟩
  · -- out
    rw [hp' b (by rintro rfl; exact hb ⟨hb0, hbn⟩)]
    exact h.out b hb
  · -- above
    by_cases e : b = (τ.M i).next
    · refine ⟨i, cs, ?_, by simp [setS], hn, e⟩
      rcases Nat.lt_or_ge i q with c | c
      · have := hn.lt_next hcall hτ c h.qle; omega
      · exact c
    · rw [hp' b e] at h3
      obtain ⟨j, ds, g1, g2, g3, g4⟩ := h.above b ci h1 h2 h3
      have : j ≠ i := by rintro rfl; exact e g4
      exact ⟨j, ds, g1, by rw [hnew this g3]; exact g2, g3, g4⟩
  · -- late
    have hji : j ≠ i := by rintro rfl; simp [setS] at h3
    rw [hnew hji h2] at h3
    obtain ⟨g1, g2⟩ := h.late j ds h1 h2 h3
    refine ⟨?_, g2⟩
    rw [hp' _ fun e => hji (h2.inj hcall hτ hn e)]; exact g1
  · -- early
    by_cases hji : j = i
    · subst hji
      have := hn.cells h2; subst this
      exact ⟨_, ob, hpi, hnewh, hblk⟩
    · rw [hnew hji h2] at h3
      obtain ⟨ci, o', g1, g2, g3⟩ := h.early j ds h1 h2 h3
      exact ⟨ci, o', hle _ _ g1, by rw [hheap _ (h.rel.bnd _ ci g1)]; exact g2, g3.mono hle⟩
  · -- apart, above
    by_cases e : b = (τ.M i).next
    · by_cases e2 : b2 = (τ.M i).next
      · exact e.trans e2.symm
      · rw [e, hpi] at h4; cases h4
        rw [hp' b2 e2] at h5
        have := h.rel.bnd b2 ci2 h5
        simp only at h6; omega
    · rw [hp' b e] at h4
      by_cases e2 : b2 = (τ.M i).next
      · rw [e2, hpi] at h5; cases h5
        have := h.rel.bnd b ci h4
        simp only at h6; omega
      · rw [hp' b2 e2] at h5
        exact h.earlyInj b ci b2 ci2 h1 h2 h3 h4 h5 h6
  · rw [hheap c (by have := h.wsize; omega)]; exact h.keepC c h1 h2
  · by_cases e : b = (τ.M i).next
    · rw [e, hpi] at h3; cases h3; exact .inl h.wsize
    · rw [hp' b e] at h3; exact h.fresh b ci h1 h2 h3

theorem next_eff (q : Nat) (hq : q ≤ all.length) : ∃ k, q ≤ k ∧ k ≤ all.length ∧ (k = all.length ∨ Eff P all τ k) ∧ ∀ j, q ≤ j → j < k → ¬ Eff P all τ j := by
  have key : ∀ n q, q + n = all.length → ∃ k, q ≤ k ∧ k ≤ all.length ∧ (k = all.length ∨ Eff P all τ k) ∧ ∀ j, q ≤ j → j < k → ¬ Eff P all τ j := by
    intro n
    induction n with
    | zero => intro q h; exact ⟨q, Nat.le_refl _, by omega, .inl (by omega), fun j h1 h2 => by omega⟩
    | succ n ih =>
      intro q h
      by_cases he : Eff P all τ q
      · exact ⟨q, Nat.le_refl _, by omega, .inr he, fun j h1 h2 => by omega⟩
      · obtain ⟨k, h1, h2, h3, h4⟩ := ih (q + 1) (by omega)
        refine ⟨k, by omega, h2, h3, fun j h5 h6 => ?_⟩
        by_cases e : j = q
        · rw [e]; exact he
        · exact h4 j (by omega) h6
  exact key (all.length - q) q (by omega)

theorem DInv.change (hcall : CallOk P call) (hτ : Steps' P call all chk τ) (hr : rOk P all anc chk = true) (hG : GP P ≤ (τ.M 0).next) (h : DInv P all τ p0 w0 a0 S q p a w) (hi : Ready all S i o) (he : Eff P all τ i) {fb : Frame} {rest : List Nat} {fk : List Item} {fs : List Frame} :
    ∃ q' p' a' w', DInv P all τ p0 w0 a0 (setS S i) q' p' a' w' ∧ Steps P (lone (fb.atR a (.inRegion ⟨all⟩ (i :: rest) :: fk)) fs w) (lone (fb.atR a' (.inRegion ⟨all⟩ rest :: fk)) fs w') := by
  have hwant := h.wanted hτ hr hi
  have hil : i < all.length := (List.getElem?_eq_some_iff.1 hi.op).1
  have hW : τ.W i = true ∧ cls P o.op = .e := by
    obtain ⟨o', h1, h2, h3⟩ := he
    rw [hi.op] at h1; cases h1; exact ⟨h2, h3⟩
  have hiq : i = q := by
    rcases Nat.lt_trichotomy i q with c | c | c
    · have := h.lo i c he; rw [hi.not] at this; cases this
    · exact c
    · exfalso
      rcases h.qeff with e | ⟨oq, h1, h2, h3⟩
      · omega
      · have := (h.apartLo hr hi h1 c (h.hi q (Nat.le_refl _) ⟨oq, h1, h2, h3⟩)).2.1
        exact this ⟨h3, hW.2⟩
  subst hiq
  have hs := (hτ i o hil hi.op).eff hW.1 hW.2
  rw [← effR_agree (h.agree hτ hr hi)] at hs
  have hop := effR_sound hcall hs
  have hGq : GP P ≤ (τ.M i).next := Nat.le_trans hG (next_mono hcall hτ (Nat.zero_le _) (by omega))
  have hfree : Free p (τ.M i).next (τ.M (i + 1)).next := by
    intro b h1 h2
    cases e : p b with
    | none => rfl
    | some ci =>
      have hle := next_mono hcall hτ (j := i + 1) (k := all.length) (by omega) (Nat.le_refl _)
      obtain ⟨j, ds, g1, g2, g3, g4⟩ := h.above b ci h1 (by omega) e
      have : j ≠ i := by rintro rfl; exact g3.not_eff he
      have := next_mono hcall hτ (j := i + 1) (k := j) (by omega) (by have := g3.lt; omega)
      omega
  have hW' : τ.W i = true := hW.1
  rw [hW'] at hwant
  obtain ⟨p1, cv, w1, hv, hsim, hst⟩ : ∃ p1 cv w1, VR p1 (τ.V i) cv ∧ Sim P p (τ.M i) w p1 (τ.M (i + 1)) w1 ∧ Steps P (lone (fb.atR a (.inRegion ⟨all⟩ (i :: rest) :: fk)) fs w) (lone (fb.atR (a.put o.dst cv) (.inRegion ⟨all⟩ rest :: fk)) fs w1) := by
    obtain ⟨cv, p1, w1, x1, x2, x3⟩ := hop.2 p a w h.rel hGq hfree h.vrs fb ⟨all⟩ i rest fk fs (by simpa using hi.op) hwant
    exact ⟨p1, cv, w1, x1, x2, x3⟩
  obtain ⟨k, k1, k2, k3, k4⟩ := next_eff (P := P) (all := all) (τ := τ) (i + 1) (by omega)
  have hex := ext hcall hτ k1 k2 k4
  have hM1 := next_step hcall hτ hil
  have hMk := next_mono hcall hτ k1 k2
  have hMn := next_mono hcall hτ k2 (Nat.le_refl _)
  have hp1 : ∀ b, ¬ ((τ.M i).next ≤ b ∧ b < (τ.M (i + 1)).next) → p1 b = p b := hsim.out
  have hearlyc : ∀ b ci, (τ.M i).next ≤ b → b < (τ.M all.length).next → p b = some ci → w1.heap[ci.c]? = w.heap[ci.c]? := by
    intro b ci h1 h2 h3
    refine hsim.keepC ci.c (h.rel.bnd b ci h3) fun b' ci' g1 g2 g3 => ?_
    rcases h.rel.inj b' ci' b ci g1 g2 h3 g3 with e | ⟨e, _⟩
    · subst e; rw [Mem.get_ge h1] at g1; cases g1
    · omega
  have hnewk : ∀ {j cs}, New P all τ j cs → setS S i j = S j := fun {j cs} hj => by
    have : j ≠ i := by rintro rfl; exact hj.not_eff he
    simp [setS, this]
  have hrel : MR P p1 (τ.M k) w1 := by
    refine MR.grow hsim.rel hMk hex.1 ?_ ?_
    · intro b ds ci h1 h2 h3
      have hbk := Mem.get_lt h2
      obtain ⟨j, es, g1, g2, g3, g4⟩ := hex.2.2 b h1 hbk
      have hget := hex.2.1 j es g1 g2 g3
      rw [← g4, h2] at hget; cases hget
      have hpb : p b = some ci := by rw [← hp1 b (by omega)]; exact h3
      obtain ⟨j', es', f1, f2, f3, f4⟩ := h.above b ci (by omega) (by omega) hpb
      have : j = j' := g3.inj hcall hτ f3 (g4.symm.trans f4)
      subst this
      obtain ⟨ci', o', e1, e2, e3⟩ := h.early j ds (by omega) g3 f2
      rw [← g4, hpb] at e1; cases e1
      exact ⟨o', by rw [hearlyc b ci (by omega) (by omega) hpb]; exact e2, e3.mono hsim.le⟩
    · intro b ci b2 ci2 h1 h2 h3 h4 h5
      have hbk : b < (τ.M k).next := by
        cases e : (τ.M k).get b with
        | none => rw [e] at h2; cases h2
        | some blk => exact Mem.get_lt e
      have hpb : p b = some ci := by rw [← hp1 b (by omega)]; exact h3
      have hbc := h.rel.bnd b ci hpb
      by_cases hb2 : (τ.M i).next ≤ b2 ∧ b2 < (τ.M (i + 1)).next
      · exfalso
        rcases hsim.fresh b2 ci2 hb2.1 hb2.2 h4 with g | ⟨b0, ci0, g1, g2, g3⟩
        · omega
        · rcases h.rel.inj b0 ci0 b ci g1 g2 hpb (by omega) with e | ⟨e, _⟩
          · subst e; rw [Mem.get_ge (by omega)] at g1; cases g1
          · omega
      · rw [hp1 b2 hb2] at h4
        by_cases hb3 : (τ.M i).next ≤ b2
        · exact .inl (h.earlyInj b ci b2 ci2 (by omega) (by omega) hb3 hpb h4 h5)
        · right
          refine ⟨by omega, ?_⟩
          rw [hex.1 b2 (by omega)]
          refine hsim.dead b2 (by omega) ?_
          cases e : (τ.M i).get b2 with
          | none => rfl
          | some blk =>
            exfalso
            rcases h.rel.inj b2 ci2 b ci (by rw [e]; rfl) h4 hpb h5.symm with e' | ⟨e', _⟩
            · subst e'; omega
            · omega
  obtain ⟨t1, t2⟩ := h.tmps' hr hi hsim.le hv
  refine ⟨k, p1, _, w1, ⟨k2, k3, fun j h1 h2 => ?_, fun j h1 h2 => ?_, closedS h hi, fun j hj => ?_, t1, t2, by rw [put_defers']; exact h.defers, hrel, fun b ci hb => hsim.le _ _ (h.le b ci hb),
    fun b hb => ?_, fun b ci h1 h2 h3 => ?_, fun j ds h1 h2 h3 => ?_, fun j ds h1 h2 h3 => ?_, fun b ci b2 ci2 h1 h2 h3 h4 h5 h6 => ?_, fun b h1 h2 => ?_, fun b h1 h2 => ?_, fun c h1 h2 => ?_, fun b ci h1 h2 h3 => ?_, fun b ds ci h1 h2 => ?_, h.bnd0,
    Nat.le_trans h.wsize hsim.size, hsim.os.trans h.os, hsim.output.trans h.output, hsim.tape.trans h.tape⟩, hst⟩
  · -- lo
    by_cases e : j = i
    · simp [setS, e]
    · simp only [setS, if_neg e]
      rcases Nat.lt_or_ge j i with c | c
      · exact h.lo j c h2
      · exact absurd h2 (k4 j (by omega) h1)
  · simp only [setS, if_neg (show j ≠ i by omega)]
    exact h.hi j (by omega) h2
  · unfold setS at hj; split at hj
    · omega
    · exact h.inb j hj
  · have h0 := next_mono hcall hτ (j := 0) (k := i) (Nat.zero_le _) (by omega)
    rw [hp1 b (by omega)]; exact h.out b hb
  · rw [hp1 b (by omega)] at h3
    obtain ⟨j, ds, g1, g2, g3, g4⟩ := h.above b ci (by omega) h2 h3
    refine ⟨j, ds, ?_, by rw [hnewk g3]; exact g2, g3, g4⟩
    rcases Nat.lt_or_ge j k with c | c
    · have := g3.lt_next hcall hτ c k2; omega
    · exact c
  · -- late
    rw [hnewk h2] at h3
    have hji : j ≠ i := by rintro rfl; exact h2.not_eff he
    by_cases hj : j < i
    · obtain ⟨g1, g2⟩ := h.late j ds hj h2 h3
      have hlt := Mem.get_lt g2
      refine ⟨by rw [hp1 _ (by omega)]; exact g1, ?_⟩
      rw [hex.1 _ (by omega), hsim.keepA _ hlt g1]; exact g2
    · have hle := next_mono hcall hτ (j := i + 1) (k := j) (by omega) (by omega)
      refine ⟨?_, hex.2.1 j ds (by omega) h1 h2⟩
      rw [hp1 _ (by omega)]
      cases e : p (τ.M j).next with
      | none => rfl
      | some ci =>
        have hlt := h2.lt_next hcall hτ (k := all.length) h2.lt (Nat.le_refl _)
        obtain ⟨j', ds', f1, f2, f3, f4⟩ := h.above _ ci (by omega) hlt e
        have := h2.inj hcall hτ f3 f4
        subst this
        rw [h3] at f2; cases f2
  · -- early
    rw [hnewk h2] at h3
    obtain ⟨ci, o', e1, e2, e3⟩ := h.early j ds (by omega) h2 h3
    have hlt := h2.lt_next hcall hτ (k := all.length) h2.lt (Nat.le_refl _)
    have hle := next_mono hcall hτ (j := i) (k := j) (by omega) (by have := h2.lt; omega)
    exact ⟨ci, o', hsim.le _ _ e1, by rw [hearlyc _ ci hle hlt e1]; exact e2, e3.mono hsim.le⟩
  · rw [hp1 b (by omega)] at h4
    rw [hp1 b2 (by omega)] at h5
    exact h.earlyInj b ci b2 ci2 (by omega) h2 (by omega) h4 h5 h6
  · have h0 := next_mono hcall hτ (j := 0) (k := i) (Nat.zero_le _) (by omega)
    rw [hex.1 b (by omega), hsim.keepA b (by omega) (by rw [h.out b (by omega)]; exact h2), h.keepA b h1 h2]
  · have h0 := next_mono hcall hτ (j := 0) (k := i) (Nat.zero_le _) (by omega)
    rw [hex.1 b (by omega)]
    exact hsim.dead b (by omega) (h.dead b h1 h2)
  · rw [hsim.keepC c (by have := h.wsize; omega) ?_]
    · exact h.keepC c h1 h2
    · intro b ci g1 g2 g3
      have hbq : b < (τ.M i).next := by
        cases e : (τ.M i).get b with
        | none => rw [e] at g1; cases g1
        | some blk => exact Mem.get_lt e
      by_cases hb : b < (τ.M 0).next
      · have e1 : p b = p0 b := h.out b (by omega)
        refine h2 b ci ?_ (e1 ▸ g2) g3
        cases e : (τ.M 0).get b with
        | none => rw [h.dead b hb e] at g1; cases g1
        | some _ => rfl
      · rcases h.fresh b ci (by omega) (by omega) g2 with f | ⟨b0, ci0, f1, f2, f3⟩
        · omega
        · exact h2 b0 ci0 f1 f2 (by omega)
  · have h0 := next_mono hcall hτ (j := 0) (k := i) (Nat.zero_le _) (by omega)
    by_cases hb2 : (τ.M i).next ≤ b ∧ b < (τ.M (i + 1)).next
    · rcases hsim.fresh b ci hb2.1 hb2.2 h3 with g | ⟨b0, ci0, g1, g2, g3⟩
      · left; have := h.wsize; omega
      · have hbq : b0 < (τ.M i).next := by
          cases e : (τ.M i).get b0 with
          | none => rw [e] at g1; cases g1
          | some blk => exact Mem.get_lt e
        by_cases hb : b0 < (τ.M 0).next
        · have e1 : p b0 = p0 b0 := h.out b0 (by omega)
          right
          refine ⟨b0, ci0, ?_, e1 ▸ g2, g3⟩
          cases e : (τ.M 0).get b0 with
          | none => rw [h.dead b0 hb e] at g1; cases g1
          | some _ => rfl
        · rcases h.fresh b0 ci0 (by omega) (by omega) g2 with f | ⟨b9, ci9, f1, f2, f3⟩
          · left; omega
          · right; exact ⟨b9, ci9, f1, f2, by omega⟩
    · rw [hp1 b hb2] at h3; exact h.fresh b ci h1 h2 h3
  · obtain ⟨g1, g2⟩ := h.ro b ds ci h1 h2
    obtain ⟨g3, g4⟩ := hsim.ro b ds ci g1 (h.le b ci h2)
    exact ⟨by rw [hex.1 b (Mem.get_lt g3)]; exact g3, g4.trans g2⟩
end
end Go.Abs
end
section
namespace Go.Abs
open Go

section
variable {P : Program} {call : CallF} {all : List Oper} {chk anc : List (List Nat)} {τ : Trace}
variable {p0 : Phi} {w0 : World} {a0 : Act} {S : Nat → Bool} {q : Nat} {p : Phi} {a : Act} {w : World} {i : Nat} {o : Oper}

variable {fb : Frame} {fk : List Item} {fs : List Frame} {rest : List Nat}
theorem DInv.step (hcall : CallOk P call) (hτ : Steps' P call all chk τ) (hr : rOk P all anc chk = true) (hG : GP P ≤ (τ.M 0).next) (h : DInv P all τ p0 w0 a0 S q p a w) (hi : Ready all S i o) :
    ∃ q' p' a' w', DInv P all τ p0 w0 a0 (setS S i) q' p' a' w' ∧ Steps P (lone (fb.atR a (.inRegion ⟨all⟩ (i :: rest) :: fk)) fs w) (lone (fb.atR a' (.inRegion ⟨all⟩ rest :: fk)) fs w') := by
  have hil : i < all.length := (List.getElem?_eq_some_iff.1 hi.op).1
  have hio : (⟨all⟩ : Array Oper)[i]? = some o := by simpa using hi.op
  have hs := hτ i o hil hi.op
  have hwant := h.wanted hτ hr hi
  cases hW : τ.W i with
  | false =>
    have hne : ¬ Eff P all τ i := by rintro ⟨_, _, h2, _⟩; rw [hW] at h2; cases h2
    have hnn : ∀ cs, ¬ New P all τ i cs := by rintro cs ⟨_, _, _, h2, _⟩; rw [hW] at h2; cases h2
    have hst := stepR_op_skip (P := P) (b := fb) (a := a) (k := fk) (cs := fs) (w := w) (ops := ⟨all⟩) (i := i) (rest := rest) (by simp only [hio, Option.map_some, Option.getD_some, hwant, hW])
    simp only [hio, Option.bind_some] at hst
    exact ⟨q, p, _, w, h.still hr hi hne hnn (by rw [(hs.off hW).1]; simp only [VR]; exact ⟨[], rfl, by simp [VRs]⟩), .one hst⟩
  | true =>
    rw [hW] at hwant
    have same : ∀ {c : Cls}, cls P o.op = c → (c ≠ .e → ¬ Eff P all τ i) ∧ (c ≠ .a → ∀ cs, ¬ New P all τ i cs) := by
      intro c hc
      refine ⟨fun hne => ?_, fun hne cs => ?_⟩
      · rintro ⟨o', h1, _, h2⟩; rw [hi.op] at h1; cases h1; exact hne (hc.symm.trans h2)
      · rintro ⟨o', mk, h1, _, h2, _⟩; rw [hi.op] at h1; cases h1; exact hne (hc.symm.trans h2)
    cases hc : cls P o.op with
    | p =>
      have hp := (hs.pure hW hc).1
      rw [← pureOp_agree (h.agree hτ hr hi)] at hp
      obtain ⟨cv, h1, h2⟩ := pure_sound (w := w) h.vrs h.rel.glob hp
      exact ⟨q, p, _, w, h.still hr hi ((same hc).1 (by decide)) ((same hc).2 (by decide)) h2, .one (step_value hio hwant h1)⟩
    | r =>
      obtain ⟨cv, h1, h2⟩ := read_sound h.rel h.vrs hc (h.reads hcall hτ hr hi hW hc)
      exact ⟨q, p, _, w, h.still hr hi ((same hc).1 (by decide)) ((same hc).2 (by decide)) h2, .one (step_value hio hwant h1)⟩
    | a =>
      obtain ⟨cs, mk, h1, h2, h3⟩ := hs.alloc hW hc
      have h1' := h1
      rw [← allocOp_agree (h.agree hτ hr hi)] at h1'
      obtain ⟨cv, w', ob, n, h4, h5⟩ := alloc_spec h.vrs h.rel.glob hc h1' w
      obtain ⟨p', h6⟩ := h.laid hcall hτ hr hi ⟨o, mk, hi.op, hW, hc, h1⟩ h2 h5
      exact ⟨q, p', _, w', h6, .one (step_value hio hwant h4)⟩
    | e => exact h.change hcall hτ hr hG hi ⟨o, hi.op, hW, hc⟩

def left (all : List Oper) (S : Nat → Bool) : Nat := ((List.range all.length).filter fun i => !S i).length

theorem left_set {i : Nat} (hi : i < all.length) (hS : S i = false) : left all (setS S i) < left all S := by
  unfold left
  have h1 : ((List.range all.length).filter fun j => !setS S i j) = ((List.range all.length).filter fun j => !S j).filter fun j => decide (j ≠ i) := by
    rw [List.filter_filter]
    apply List.filter_congr
    intro j _
    by_cases e : j = i <;> simp [setS, e]
  rw [h1]
  refine List.length_filter_lt_length_iff_exists.2 ⟨i, ?_, by simp⟩
  rw [List.mem_filter]
  exact ⟨List.mem_range.2 hi, by simp [hS]⟩

theorem ready_iff {listed : Array Bool} (hsz : listed.size = all.length) {i : Nat} : i ∈ Region.ready .any ⟨all⟩ listed ↔ ∃ o, Ready all (fun j => listed.getD j false) i o := by
  rw [mem_ready]
  constructor
  · rintro ⟨h1, o, h2, h3⟩
    have h2' : all[i]? = some o := by simpa using h2
    refine ⟨o, h2', ?_, fun e he => ?_⟩
    · have hil : i < all.length := (List.getElem?_eq_some_iff.1 h2').1
      simp only [Array.getD_eq_getD_getElem?] at h1 ⊢
      rw [Array.getElem?_eq_getElem (by omega)] at h1 ⊢
      simpa using h1
    · unfold edgesOf at he
      rw [List.mem_filterMap] at he
      obtain ⟨e', h4, h5⟩ := he
      split at h5
      · rename_i hb; cases h5
        exact h3 e' (by simpa using h4) hb
      · cases h5
  · rintro ⟨o, h1⟩
    have hil : i < all.length := (List.getElem?_eq_some_iff.1 h1.op).1
    refine ⟨?_, o, by simpa using h1.op, fun e he hb => ?_⟩
    · have := h1.not
      simp only [Array.getD_eq_getD_getElem?] at this ⊢
      rw [Array.getElem?_eq_getElem (by omega)] at this ⊢
      simpa using this
    · refine h1.edges e.on ?_
      unfold edgesOf
      rw [List.mem_filterMap]
      exact ⟨e, by simpa using he, by simp [hb]⟩

theorem set_getD {listed : Array Bool} {i : Nat} (hi : i < listed.size) : (fun j => (listed.setIfInBounds i true).getD j false) = setS (fun j => listed.getD j false) i := by
  funext j
  by_cases e : j = i
  · subst e
    simp [setS, Array.getD_eq_getD_getElem?, Array.getElem?_setIfInBounds_self_of_lt hi]
  · simp only [setS, if_neg e, Array.getD_eq_getD_getElem?]
    rw [Array.getElem?_setIfInBounds_ne (fun h => e h.symm)]

theorem none_ready (hr : rOk P all anc chk = true) {S : Nat → Bool} (h : ∀ i o, ¬ Ready all S i o) : ∀ i, i < all.length → S i = true := by
  intro i
  induction i using Nat.strongRecOn with
  | _ i ih =>
    intro hi
    cases hS : S i with
    | true => rfl
    | false =>
      exfalso
      have ho : all[i]? = some (all[i]) := List.getElem?_eq_getElem hi
      refine h i _ ⟨ho, hS, fun e he => ?_⟩
      have h1 := (rOk_spec hr ho).1
      simp only [ancRow, Bool.and_eq_true] at h1
      have := List.all_eq_true.1 h1.1.1 e he
      have hlt : e < i := by simpa using this
      exact ih e hlt (by omega)

theorem dops_steps (hcall : CallOk P call) (hτ : Steps' P call all chk τ) (hr : rOk P all anc chk = true) (hG : GP P ≤ (τ.M 0).next) :
    ∀ (fuel t : Nat) (listed : Array Bool) (q : Nat) (p : Phi) (a : Act) (w : World), listed.size = all.length → left all (fun j => listed.getD j false) ≤ fuel → DInv P all τ p0 w0 a0 (fun j => listed.getD j false) q p a w →
      ∃ S' q' p' a' w', (∀ i, i < all.length → S' i = true) ∧ DInv P all τ p0 w0 a0 S' q' p' a' w' ∧
        Steps P (lone (fb.atR a (.inRegion ⟨all⟩ (Region.linearise.go .any ⟨all⟩ fuel t listed []) :: fk)) fs w) (lone (fb.atR a' (.inRegion ⟨all⟩ [] :: fk)) fs w') := by
  intro fuel
  induction fuel with
  | zero =>
    intro t listed q p a w hsz hl h
    have hall : ∀ i, i < all.length → (fun j => listed.getD j false) i = true := by
      intro i hi
      cases hS : listed.getD i false with
      | true => exact hS
      | false =>
        have := left_set (S := fun j => listed.getD j false) hi hS
        omega
    exact ⟨_, q, p, a, w, hall, h, by simp only [Region.linearise.go]; exact .refl _ _⟩
  | succ fuel ih =>
    intro t listed q p a w hsz hl h
    simp only [Region.linearise.go]
    change ∃ S' q' p' a' w', (∀ i, i < all.length → S' i = true) ∧ DInv P all τ p0 w0 a0 S' q' p' a' w' ∧
      Steps P (lone (fb.atR a (.inRegion ⟨all⟩ (match (Region.ready .any ⟨all⟩ listed)[t % (Region.ready .any ⟨all⟩ listed).length]? with
        | some i => Region.linearise.go .any ⟨all⟩ fuel (t / (Region.ready .any ⟨all⟩ listed).length) (listed.setIfInBounds i true) [i]
        | none => [].reverse) :: fk)) fs w) (lone (fb.atR a' (.inRegion ⟨all⟩ [] :: fk)) fs w')
    cases hi : (Region.ready .any ⟨all⟩ listed)[t % (Region.ready .any ⟨all⟩ listed).length]? with
    | none =>
      have hnil : Region.ready .any ⟨all⟩ listed = [] := by
        cases hr : Region.ready .any ⟨all⟩ listed with
        | nil => rfl
        | cons x xs =>
          rw [hr] at hi
          have hlt : t % (x :: xs).length < (x :: xs).length := Nat.mod_lt _ (by simp)
          simp at hi
          simp at hlt
          omega
      refine ⟨_, q, p, a, w, none_ready hr fun i o ho => ?_, h, .refl _ _⟩
      have := (ready_iff hsz (i := i)).2 ⟨o, ho⟩
      rw [hnil] at this; cases this
    | some i =>
      simp only []
      rw [linearise_go_acc, List.reverse_singleton, List.singleton_append]
      obtain ⟨o, ho⟩ := (ready_iff hsz).1 (List.mem_of_getElem? hi)
      have hil : i < all.length := (List.getElem?_eq_some_iff.1 ho.op).1
      obtain ⟨q1, p1, a1, w1, h1, hst⟩ := h.step (fb := fb) (fk := fk) (fs := fs) (rest := Region.linearise.go .any ⟨all⟩ fuel (t / (Region.ready .any ⟨all⟩ listed).length) (listed.setIfInBounds i true) []) hcall hτ hr hG ho
      obtain ⟨S', q2, p2, a2, w2, g1, g2, g3⟩ := ih (t / (Region.ready .any ⟨all⟩ listed).length) (listed.setIfInBounds i true) q1 p1 a1 w1 (by simp [hsz]) (by
        rw [set_getD (by omega)]
        have := left_set (S := fun j => listed.getD j false) hil ho.not
        omega) (by rw [set_getD (by omega)]; exact h1)
      exact ⟨S', q2, p2, a2, w2, g1, g2, Steps.trans hst g3⟩

theorem dopsK_sound (hcall : CallOk P call) (hr : rOk P all anc chk = true) (_hlen : chk.length = all.length) {id : Nat} (hmix : P.follows .mixedOrders = true) {t : List AV} {m : Mem} {K : List AV → Mem → R} {r : AV × Mem} (h : dopsK call P all chk all [] 0 ⟨[], []⟩ t m K = some r) :
    ∃ t' m', K t' m' = some r ∧ m.next ≤ m'.next ∧ ∀ (p : Phi) (a : Act) (w : World), MR P p m w → GP P ≤ m.next → Free p m.next m'.next → VRs p t a.tmps.toList → ∀ (b : Frame) (k : List Item) (cs : List Frame),
      ∃ p' a' w', VRs p' t' a'.tmps.toList ∧ a'.defers = a.defers ∧ Sim P p m w p' m' w' ∧ Steps P (lone (b.atR a (.code (.region id ⟨all⟩ true) :: k)) cs w) (lone (b.atR a' k) cs w') := by
  obtain ⟨τ, _, h1, h2, h3, h4⟩ := dopsK_trace (P := P) (call := call) (all := all) (chk := chk) all chk [] 0 ⟨[], []⟩ t m ⟨fun _ => [], fun _ => m, fun _ => false, fun _ => .undef⟩ (fun j => by simp) (fun j => by simp)
    (fun k ok hk => by omega) (fun k ok hk => by omega) h
  have hτ : Steps' P call all chk τ := fun j o hj ho => h4 j o (Nat.zero_le _) (by omega) ho
  simp only [Nat.zero_add] at h3
  refine ⟨_, _, h3, by rw [← h2]; exact next_mono hcall hτ (Nat.zero_le _) (Nat.le_refl _), fun p a w hm hG hf ht fb fk fs => ?_⟩
  have hm' : MR P p m { w with drawn := w.drawn + 1 } := hm.of_heap rfl
  obtain ⟨q, q1, q2, q3, q4⟩ := next_eff (P := P) (all := all) (τ := τ) 0 (Nat.zero_le _)
  have hex := ext hcall hτ q1 q2 q4
  have hMq := next_mono hcall hτ q1 q2
  have hMn := next_mono hcall hτ q2 (Nat.le_refl _)
  have hfree : ∀ b, (τ.M 0).next ≤ b → b < (τ.M all.length).next → p b = none := fun b x y => hf b (by rw [← h2]; exact x) y
  have hnone : ∀ (j : Nat) cs, New P all τ j cs → p (τ.M j).next = none := fun j cs hn =>
    hfree _ (next_mono hcall hτ (Nat.zero_le _) (by have := hn.lt; omega)) (hn.lt_next hcall hτ hn.lt (Nat.le_refl _))
  have hS0 : (fun j => (Array.replicate all.length false).getD j false) = fun _ => false := by
    funext j; simp only [Array.getD_eq_getD_getElem?, Array.getElem?_replicate]; split <;> rfl
  have hT0 : ∀ x, (tmpsS all τ.V (fun _ => false) (τ.T 0)).getD x .undef = (τ.T 0).getD x .undef := by
    intro x
    by_cases hx : x < (τ.T 0).length
    · exact foldS_none all τ.V _ _ (fun k _ h => by cases h) hx
    · have e1 : (tmpsS all τ.V (fun _ => false) (τ.T 0)).length ≤ x := by unfold tmpsS; rw [foldS_length]; omega
      rw [List.getD_eq_getElem?_getD, List.getD_eq_getElem?_getD, List.getElem?_eq_none e1, List.getElem?_eq_none (by omega)]
  have hlen0 : a.tmps.size = (τ.T 0).length := by rw [h1]; have := ht.length; simpa using this
  have hinit : DInv P all τ p { w with drawn := w.drawn + 1 } a (fun j => (Array.replicate all.length false).getD j false) q p a { w with drawn := w.drawn + 1 } := by
    rw [hS0]
    refine ⟨q2, q3, fun k h5 h6 => absurd h6 (q4 k (Nat.zero_le _) h5), fun _ _ _ => rfl, fun j oj _ h5 => (by cases h5), fun j h5 => (by cases h5), hlen0, fun x hx => ?_, rfl, ?_, fun _ _ h => h, fun _ _ => rfl,
      fun b ci h5 h6 h7 => ?_, fun j cs h5 h6 _ => ⟨hnone j cs h6, hex.2.1 j cs (Nat.zero_le _) h5 h6⟩, fun j cs _ _ h5 => (by cases h5), fun b ci b2 ci2 h5 h6 h7 h8 h9 => ?_, fun b h5 _ => hex.1 b h5, fun b h5 h6 => (by rw [hex.1 b h5]; exact h6), fun _ _ _ => rfl,
      fun b ci h5 h6 h7 => ?_, fun b ds ci h5 h6 => ⟨(by rw [hex.1 b (Mem.get_lt h5)]; exact h5), rfl⟩, fun b ci h5 => hm'.bnd b ci h5, Nat.le_refl _, rfl, rfl, rfl⟩
    · rw [hT0, h1]
      have hx' : x < t.length := by rw [← h1]; exact hx
      have e : t[x]? = some (t.getD x .undef) := by rw [List.getD_eq_getElem?_getD, List.getElem?_eq_getElem hx']; rfl
      obtain ⟨v, g1, g2⟩ := ht.get e
      have : a.tmps.getD x undef = v := by rw [Array.getD_eq_getD_getElem?, ← Array.getElem?_toList, g1]; rfl
      rw [this]; exact g2
    · have hm0 : MR P p (τ.M 0) { w with drawn := w.drawn + 1 } := by rw [h2]; exact hm'
      refine MR.grow hm0 hMq hex.1 (fun b v ci h5 h6 h7 => ?_) (fun b ci b2 ci2 h5 h6 h7 => ?_)
      · rw [hfree b h5 (by have := Mem.get_lt h6; omega)] at h7; cases h7
      · have hb : b < (τ.M q).next := by
          cases e : (τ.M q).get b with
          | none => rw [e] at h6; cases h6
          | some blk => exact Mem.get_lt e
        rw [hfree b h5 (by omega)] at h7; cases h7
    · rw [hfree b (by omega) h6] at h7; cases h7
    · rw [hfree b (by omega) h6] at h8; cases h8
    · rw [hfree b h5 h6] at h7; cases h7
  obtain ⟨S, q', p', a', w', hall, hd, hst⟩ := dops_steps (fb := fb) (fk := fk) (fs := fs) hcall hτ hr (by rw [h2]; exact hG) all.length (w.tape w.drawn (.order fb.fn id)) (Array.replicate all.length false) q p a { w with drawn := w.drawn + 1 } (by simp) (by
    unfold left
    have := List.length_filter_le (fun i => !(Array.replicate all.length false).getD i false) (List.range all.length)
    simpa using this) hinit
  have hsched : Steps P (lone (fb.atR a (.code (.region id ⟨all⟩ true) :: fk)) fs w) (lone (fb.atR a (.inRegion ⟨all⟩ (Region.linearise.go .any ⟨all⟩ all.length (w.tape w.drawn (.order fb.fn id)) (Array.replicate all.length false) []) :: fk)) fs { w with drawn := w.drawn + 1 }) := by
    refine .one ?_
    rw [stepR_region_draw]
    simp only [Region.schedule, hmix, Bool.true_or, if_true]
    rfl
  have hend : Steps P (lone (fb.atR a (.code (.region id ⟨all⟩ true) :: fk)) fs w) (lone (fb.atR a' fk) fs w') := Steps.trans hsched (Steps.trans hst (.one stepR_region_end))
  · have hq : q' = all.length := by
      rcases hd.qeff with e | e
      · exact e
      · have h5 := hd.hi q' (Nat.le_refl _) e
        rw [hall q' e.lt] at h5; cases h5
    subst hq
    have hT : ∀ x, x < (τ.T 0).length → (tmpsS all τ.V S (τ.T 0)).getD x .undef = (τ.T all.length).getD x .undef := fun x hx =>
      T_getD hτ (Nat.le_refl _) hx fun k hk _ => by rw [hall k hk]; simp [hk]
    refine ⟨p', a', w', ?_, hd.defers, ?_, hend⟩
    · refine VRs.of_get (by rw [T_length hτ (Nat.le_refl _), ← hd.size]; simp) fun x v hv => ?_
      have hx : x < (τ.T 0).length := by
        have := (List.getElem?_eq_some_iff.1 hv).1
        rwa [T_length hτ (Nat.le_refl _)] at this
      have := hd.tmps x hx
      rw [hT x hx, List.getD_eq_getElem?_getD, hv, Option.getD_some] at this
      refine ⟨_, ?_, this⟩
      have hxs : x < a'.tmps.size := by rw [hd.size]; exact hx
      rw [Array.getElem?_toList, Array.getElem?_eq_getElem hxs, Array.getD_eq_getD_getElem?, Array.getElem?_eq_getElem hxs]
      rfl
    · have hd1 := hd.le
      have hd2 := hd.out
      have hd3 := hd.rel
      have hd4 := hd.keepA
      have hd5 := hd.dead
      have hd6 := hd.keepC
      have hd7 := hd.fresh
      have hd8 := hd.ro
      rw [h2] at hd2 hd4 hd5 hd6 hd7 hd8
      exact ⟨hd1, hd2, by rw [← h2]; exact next_mono hcall hτ (Nat.zero_le _) (Nat.le_refl _), hd3, hd4, hd5, hd6, hd7, hd8, hd.wsize, hd.os, hd.output, hd.tape⟩
end
end Go.Abs
end
section
namespace Go.Abs
open Go
section
variable {P : Program} {p : Phi} {m : Mem} {w : World}
theorem eraseIdx_perm {α : Type} : ∀ {l : List α} {i : Nat} (hi : i < l.length), l.Perm (l[i] :: l.eraseIdx i)
  | a :: l, 0, _ => .refl _
  | a :: l, i + 1, hi => by
    simp only [List.getElem_cons_succ, List.eraseIdx_cons_succ]
    exact (List.Perm.cons a (eraseIdx_perm (l := l) (i := i) (by simpa using hi))).trans (.swap _ _ _)
theorem ER.at {p : Phi} : ∀ {l : List (AV × AV)} {es : List MapEntry}, ER p l es → l.length = es.length ∧ ∀ (i : Nat) (h : i < es.length) (h' : i < l.length), VR p l[i].1 es[i].key ∧ VR p l[i].2 es[i].val ∧ ER p (l.eraseIdx i) (es.eraseIdx i)
  | [], es, h => by simp only [ER] at h; subst h; exact ⟨rfl, fun i hi => by simp at hi⟩
  | (k, v) :: l, es, h => by
    simp only [ER] at h
    obtain ⟨e, es', rfl, h1, h2, h3⟩ := h
    obtain ⟨g1, g2⟩ := ER.at h3
    refine ⟨by simp [g1], fun i hi hi' => ?_⟩
    cases i with
    | zero => exact ⟨h1, h2, h3⟩
    | succ i =>
      obtain ⟨q1, q2, q3⟩ := g2 i (by simpa using hi) (by simpa using hi')
      refine ⟨q1, q2, ?_⟩
      simp only [List.eraseIdx_cons_succ, ER]
      exact ⟨e, _, rfl, h1, h2, q3⟩
theorem filter_born : ∀ {l : List MapEntry}, (l.map (·.born)).Nodup → ∀ (i : Nat) (hi : i < l.length), l.filter (fun e => !(e.born == l[i].born)) = l.eraseIdx i
  | [], _, i, hi => by simp at hi
  | a :: l, hn, i, hi => by
    have hn' : a.born ∉ l.map (·.born) ∧ (l.map (·.born)).Nodup := List.nodup_cons.1 hn
    cases i with
    | zero =>
      simp only [List.getElem_cons_zero, List.eraseIdx_cons_zero, List.filter_cons, beq_self_eq_true, Bool.not_true, Bool.false_eq_true, if_false]
      rw [List.filter_eq_self]
      intro e he
      have : ¬ e.born = a.born := fun h => hn'.1 (by rw [← h]; exact List.mem_map.2 ⟨e, he, rfl⟩)
      simpa using this
    | succ i =>
      have hi' : i < l.length := by simpa using hi
      simp only [List.getElem_cons_succ, List.eraseIdx_cons_succ, List.filter_cons]
      have : ¬ a.born = l[i].born := fun h => hn'.1 (by rw [h]; exact List.mem_map.2 ⟨l[i], List.getElem_mem hi', rfl⟩)
      rw [if_pos (by simpa using this), filter_born hn'.2 i hi']
theorem run_next (w : World) (ty : TypeId) {r bm clock last : Nat} {seen : Array Nat} {es : Array MapEntry} (hr : w.heap[r]? = some (.mapIter (some bm) clock seen last)) (hb : w.heap[bm]? = some (.map es clock)) (hold : ∀ x ∈ es.toList, x.born < clock) (hsc : clock ≤ last) :
    ((es.toList.filter fun e => !seen.contains e.born) = [] ∧ (Instr.next (.pointer (some ⟨r, 0, none⟩)) false ty).run P w = .ok (.tuple #[.bool false]) w) ∨
    ∃ (j : Nat) (hj : j < (es.toList.filter fun e => !seen.contains e.born).length) (w1 : World), w1.heap = w.heap ∧ w1.os = w.os ∧ w1.output = w.output ∧ w1.tape = w.tape ∧
      (Instr.next (.pointer (some ⟨r, 0, none⟩)) false ty).run P w = .ok (.tuple #[.bool true, (es.toList.filter fun e => !seen.contains e.born)[j].key, (es.toList.filter fun e => !seen.contains e.born)[j].val]) { w1 with heap := w1.heap.setIfInBounds r (.mapIter (some bm) clock (seen.push (es.toList.filter fun e => !seen.contains e.born)[j].born) clock) } := by
  have hL : (es.toList.filter fun e => !seen.contains e.born) = (es.filter fun e => !seen.contains e.born).toList := by simp
  rw [hL]
  simp only [Instr.next, Sem.run_bind, run_getObj hr (by simp), Result.andThen_ok, run_getObj hb (by simp), next_test_false seen es clock last hold hsc, Bool.false_eq_true, if_false]
  have hmem : ∀ x ∈ (es.filter fun e => !seen.contains e.born).toList, x.born < clock := fun x hx => hold x (by simp at hx ⊢; exact hx.1)
  generalize (es.filter fun e => !seen.contains e.born) = L at hmem ⊢
  have e1 : L.filter (fun x => decide (x.born < clock)) = L := Array.filter_eq_self.2 (fun x hx => by simpa using hmem x (by simpa using hx))
  have e2 : L.filter (fun x => decide (x.born ≥ clock)) = #[] := by
    rw [Array.filter_eq_empty_iff]
    intro x hx
    have := hmem x (by simpa using hx)
    simp; omega
  simp only [e1, e2, Array.append_empty]
  by_cases h0 : L.size = 0
  · left
    have : L = #[] := Array.eq_empty_of_size_eq_zero h0
    subst this
    refine ⟨rfl, ?_⟩
    simp [choose, Sem.run, Question.forced]
  · right
    have hne : L.isEmpty = false := by simp [Array.isEmpty, h0]
    simp only [hne, Bool.false_eq_true, if_false, Array.empty_append, Array.size_map]
    have hch : ∃ (j : Nat) (w1 : World), j < L.size ∧ (w1.heap = w.heap ∧ w1.os = w.os ∧ w1.output = w.output ∧ w1.tape = w.tape) ∧ (choose (Question.mapNext L.size)).run P w = .ok j w1 := by
      by_cases hf : L.size ≤ 1
      · exact ⟨0, w, by omega, ⟨rfl, rfl, rfl, rfl⟩, by simp [choose, Sem.run, Question.forced, hf]⟩
      · exact ⟨_, w.drew, Nat.mod_lt _ (by omega), ⟨rfl, rfl, rfl, rfl⟩, by
          simp only [choose, Sem.run, Question.forced, decide_eq_true_eq, hf, if_false, Question.cut]
          rfl⟩
    obtain ⟨j, w1, hj, ⟨a1, a2, a3, a4⟩, hrun⟩ := hch
    refine ⟨j, by simpa using hj, w1, a1, a2, a3, a4, ?_⟩
    have hr1 : w1.heap[r]? = some (.mapIter (some bm) clock seen last) := by rw [a1]; exact hr
    simp only [hrun, Result.andThen_ok, Array.getElem?_map, Array.getElem?_eq_getElem hj, Option.map_some, Sem.run_bind, run_setObj hr1 (by simp), Sem.run_pure]
    simp only [Array.getElem_toList]
theorem nextR_cases {x : AV} {K : AV → Mem → R} {r : AV × Mem} (h : nextR x m K = some r) : ∃ (c b : Nat) (left es : List (AV × AV)) (cur : Option (AV × AV)), x = .ptr (some ⟨c, 0⟩) ∧ m.get c = some (.iter b left cur) ∧ m.get b = some (.rmap es c) ∧
    ((left = [] ∧ K (.tup [.bool false]) ((m.put c none).put b (some (.map es))) = some r) ∨
     (0 < left.length ∧ ∀ (i : Nat) (hi : i < left.length), ∃ mi, K (.tup [.bool true, left[i].1, left[i].2]) (m.put c (some (.iter b (left.eraseIdx i) (some left[i])))) = some (r.1, mi) ∧ Drop m.next mi r.2)) := by
  unfold nextR at h
  split at h
  · rename_i a
    obtain ⟨c, o⟩ := a
    split at h
    · rename_i b left cur ho h1
      simp only at ho h1
      subst ho
      split at h
      · rename_i es c' h2
        split at h
        · rename_i hc
          simp only at hc
          subst hc
          refine ⟨_, _, _, _, _, rfl, h1, h2, ?_⟩
          split at h
          · exact .inl ⟨rfl, h⟩
          · rename_i e l
            right
            refine ⟨by simp, fun i hi => ?_⟩
            have := meetR_some h i (by simpa using hi)
            rw [List.getD_eq_getElem?_getD, List.getElem?_eq_getElem hi] at this
            exact this
        · cases h
      · cases h
    · cases h
  · cases h
theorem next_sound {o : Oper} {it : Operand} (ho : o.op = .next it false) {t : List AV} {x : AV} (hx : ev P t it = some x) {K : AV → Mem → R} {r : AV × Mem} (h : nextR x m K = some r) :
    ∃ Q : AV → Mem → Prop, (∃ v m1, Q v m1) ∧ (∀ v m1, Q v m1 → ∃ mi, K v m1 = some (r.1, mi) ∧ Drop m.next mi r.2 ∧ m1.next = m.next) ∧ ∀ (p : Phi) (a : Act) (w : World), MR P p m w → VRs p t a.tmps.toList → (∃ v m1, Q v m1 ∧ ∃ cv w', (execOp a.eval o).run P w = .ok (.value cv) w' ∧ VR p v cv ∧ Sim P p m w p m1 w') := by
  obtain ⟨c, b, left, es, cur, rfl, h1, h2, hK⟩ := nextR_cases h
  refine ⟨fun v m1 => (left = [] ∧ v = .tup [.bool false] ∧ m1 = (m.put c none).put b (some (.map es))) ∨ ∃ (i : Nat) (hi : i < left.length), v = .tup [.bool true, left[i].1, left[i].2] ∧ m1 = m.put c (some (.iter b (left.eraseIdx i) (some left[i]))), ?_, ?_, ?_⟩
  · rcases hK with ⟨h0, _⟩ | ⟨h0, _⟩
    · exact ⟨_, _, .inl ⟨h0, rfl, rfl⟩⟩
    · exact ⟨_, _, .inr ⟨0, h0, rfl, rfl⟩⟩
  · rintro v m1 (⟨h0, rfl, rfl⟩ | ⟨i, hi, rfl, rfl⟩)
    · rcases hK with ⟨_, h3⟩ | ⟨h3, _⟩
      · exact ⟨r.2, h3, .refl _ _, rfl⟩
      · rw [h0] at h3; simp at h3
    · rcases hK with ⟨h3, _⟩ | ⟨_, h3⟩
      · rw [h3] at hi; simp at hi
      · obtain ⟨mi, h4, h5⟩ := h3 i hi; exact ⟨mi, h4, h5, rfl⟩
  · intro p a w hm ht
    have hv := ev_VR ht hm.glob hx
    simp only [VR] at hv
    obtain ⟨ci, g1, g2⟩ := hv
    obtain ⟨bi, ces, clock, seen, last, o1, o2, o3, o4, o5, ⟨l, o6, o7⟩, _, o8, o9, o10, o11⟩ := iter_objs hm h1 h2 g1
    rw [o4] at g2
    simp only [Nat.add_zero] at g2
    have hne : c ≠ b := by rintro rfl; rw [h1] at h2; cases h2
    have hci : bi.c ≠ ci.c := by
      intro e
      rw [e, o1] at o8
      cases o8
    have hrl := (Array.getElem?_eq_some_iff.1 o1).1
    rcases run_next (P := P) w o.type o1 o8 o11 o5 with ⟨e0, er⟩ | ⟨j, hj, w1, a1, a2, a3, a4, er⟩
    · rw [e0] at o7
      have hl0 : l = [] := by
        have := (ER.at o7).1
        simpa using this
      subst hl0
      have hl1 : left = [] := o6.symm.eq_nil
      refine ⟨_, _, .inl ⟨hl1, rfl, rfl⟩, .tuple #[.bool false], w, ?_, by simp [VR, VRs], ?_⟩
      · simp only [execOp, ho, g2, er, Sem.run_bind, Result.andThen_ok, Sem.run_pure]
      · have s1 : Sim P p m w p (m.put c none) w := Sim.turnV (v := none) hm h1 (by simp) g1 o1 (fun _ _ => rfl) rfl rfl rfl rfl (fun y hy => by cases hy)
        have s2 : Sim P p (m.put c none) w p ((m.put c none).put b (some (.map es))) w := Sim.turnV (v := some (.map es)) (v0 := .rmap es c) s1.rel (by rw [Mem.get_put, if_neg (fun e => hne e.1.symm)]; exact h2) (by simp) o2 o8 (fun _ _ => rfl) rfl rfl rfl rfl
          (fun y hy => by cases hy; exact ⟨ces, clock, rfl, o9, o10, o11⟩)
        exact s1.trans s2 (fun _ h5 h6 => absurd h6 (by simp only [Mem.next_put]; omega))
    · obtain ⟨k1, k2⟩ := ER.at o7
      obtain ⟨q1, q2, q3⟩ := k2 j hj (by omega)
      obtain ⟨i, hi, hil⟩ := List.mem_iff_getElem.1 (o6.mem_iff.1 (List.getElem_mem (show j < l.length by omega)))
      have hsub := (List.filter_sublist (l := ces.toList) (p := fun e => !seen.contains e.born))
      have hnd : ((ces.toList.filter fun e => !seen.contains e.born).map (·.born)).Nodup := (hsub.map (·.born)).nodup o10
      refine ⟨_, _, .inr ⟨i, hi, rfl, rfl⟩, .tuple #[.bool true, (ces.toList.filter fun e => !seen.contains e.born)[j].key, (ces.toList.filter fun e => !seen.contains e.born)[j].val], { w1 with heap := w1.heap.setIfInBounds ci.c (.mapIter (some bi.c) clock (seen.push (ces.toList.filter fun e => !seen.contains e.born)[j].born) clock) }, ?_, ?_, ?_⟩
      · simp only [execOp, ho, g2, er, Sem.run_bind, Result.andThen_ok, Sem.run_pure]
      · simp only [VR, VRs]
        rw [hil]
        exact ⟨_, rfl, .bool true, _, rfl, rfl, _, _, rfl, q1, _, [], rfl, q2, rfl⟩
      · have s0 := Sim.of_heap hm a1 a2 a3 a4
        have s1 : Sim P p m w1 p (m.put c (some (.iter b (left.eraseIdx i) (some left[i])))) { w1 with heap := w1.heap.setIfInBounds ci.c (.mapIter (some bi.c) clock (seen.push (ces.toList.filter fun e => !seen.contains e.born)[j].born) clock) } := by
          refine Sim.turnV s0.rel h1 (by simp) g1 (Array.getElem?_setIfInBounds_self_of_lt (by rw [a1]; exact hrl)) (fun d hd => Array.getElem?_setIfInBounds_ne (Ne.symm hd)) (by simp) rfl rfl rfl fun y hy => ?_
          cases hy
          refine ⟨bi, ces, clock, _, clock, rfl, o2, o3, o4, Nat.le_refl _, ⟨l.eraseIdx j, ?_, ?_⟩, fun e he => ?_⟩
          · have p1 := eraseIdx_perm (show j < l.length by omega)
            have p2 := eraseIdx_perm hi
            rw [hil] at p2
            exact List.Perm.cons_inv ((p1.symm.trans o6).trans p2)
          · have : (ces.toList.filter fun e => !(seen.push (ces.toList.filter fun e => !seen.contains e.born)[j].born).contains e.born) = (ces.toList.filter fun e => !seen.contains e.born).eraseIdx j := by
              rw [← filter_born hnd j hj, List.filter_filter]
              apply List.filter_congr
              intro e _
              simp [Bool.and_comm, eq_comm]
              rfl
            rw [this]
            exact q3
          · cases he
            refine ⟨rfl, (ces.toList.filter fun e => !seen.contains e.born)[j], hsub.subset (List.getElem_mem hj), by simp, ?_⟩
            rw [hil]
            exact ⟨q1, q2⟩
        exact s0.trans s1 (fun _ h5 h6 => absurd h6 (by simp only [Mem.next_put]; omega))
end
end Go.Abs
end
