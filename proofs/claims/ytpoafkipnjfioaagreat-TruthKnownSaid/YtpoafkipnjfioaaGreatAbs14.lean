/- A region that draws its order: whatever order its edges allow comes to what the text's order comes to. -/
import Derived.Test.YtpoafkipnjfioaaGreatAbs13
namespace Go.Abs
open Go

section
variable {P : Program} {call : CallF} {all : List Oper} {chk anc : List (List Nat)} {τ : Trace}

def Eff (P : Program) (all : List Oper) (τ : Trace) (k : Nat) : Prop := ∃ o, all[k]? = some o ∧ τ.W k = true ∧ cls P o.op = .e
def New (P : Program) (all : List Oper) (τ : Trace) (k : Nat) (cs : Blk) : Prop := ∃ o mk, all[k]? = some o ∧ τ.W k = true ∧ cls P o.op = .a ∧ allocOp P o.op (τ.T k) = some (cs, mk)

def Steps' (P : Program) (call : CallF) (all : List Oper) (chk : List (List Nat)) (τ : Trace) : Prop := ∀ j o, j < all.length → all[j]? = some o → StepOk P call all chk τ j o

theorem Eff.lt {k : Nat} (h : Eff P all τ k) : k < all.length := let ⟨_, h, _⟩ := h; (List.getElem?_eq_some_iff.1 h).1
theorem New.lt {k : Nat} {cs : Blk} (h : New P all τ k cs) : k < all.length := let ⟨_, _, h, _⟩ := h; (List.getElem?_eq_some_iff.1 h).1
theorem New.not_eff {k : Nat} {cs : Blk} (h : New P all τ k cs) : ¬ Eff P all τ k := by
  rintro ⟨o, h1, _, h2⟩
  obtain ⟨o', mk, h3, _, h4, _⟩ := h
  rw [h1] at h3; cases h3
  rw [h2] at h4; cases h4

theorem step_quiet (hτ : Steps' P call all chk τ) {k : Nat} (hk : k < all.length) (h : ¬ Eff P all τ k) :
    (τ.M (k + 1) = τ.M k ∧ ∀ cs, ¬ New P all τ k cs) ∨ ∃ cs, New P all τ k cs ∧ τ.M (k + 1) = (τ.M k).lay cs := by
  have ho : all[k]? = some (all[k]) := List.getElem?_eq_getElem hk
  have hs := hτ k _ hk ho
  cases hW : τ.W k with
  | false =>
    refine .inl ⟨(hs.off hW).2, ?_⟩
    rintro cs ⟨o, mk, _, h1, _⟩
    rw [hW] at h1; cases h1
  | true =>
    cases hc : cls P (all[k]).op with
    | p =>
      refine .inl ⟨(hs.pure hW hc).2, ?_⟩
      rintro cs ⟨o, mk, h0, _, h1, _⟩
      rw [ho] at h0; cases h0
      rw [hc] at h1; cases h1
    | r =>
      refine .inl ⟨(hs.read hW hc).2, ?_⟩
      rintro cs ⟨o, mk, h0, _, h1, _⟩
      rw [ho] at h0; cases h0
      rw [hc] at h1; cases h1
    | a =>
      obtain ⟨cs, mk, h1, h2, h3⟩ := hs.alloc hW hc
      exact .inr ⟨cs, ⟨_, mk, ho, hW, hc, h1⟩, h3⟩
    | e => exact absurd ⟨_, ho, hW, hc⟩ h

theorem New.next (hτ : Steps' P call all chk τ) {k : Nat} {cs : Blk} (h : New P all τ k cs) : τ.M (k + 1) = (τ.M k).lay cs := by
  obtain ⟨o, mk, h1, h2, h3, h4⟩ := h
  obtain ⟨cs', mk', h5, _, h6⟩ := (hτ k o (List.getElem?_eq_some_iff.1 h1).1 h1).alloc h2 h3
  rw [h4] at h5; cases h5
  exact h6

theorem next_step (hcall : CallOk P call) (hτ : Steps' P call all chk τ) {k : Nat} (hk : k < all.length) : (τ.M k).next ≤ (τ.M (k + 1)).next := by
  by_cases he : Eff P all τ k
  · obtain ⟨o, h1, h2, h3⟩ := he
    exact (effR_sound hcall ((hτ k o hk h1).eff h2 h3)).1
  · rcases step_quiet hτ hk he with ⟨h, _⟩ | ⟨cs, _, h⟩
    · rw [h]; exact Nat.le_refl _
    · rw [h]; simp
theorem next_mono (hcall : CallOk P call) (hτ : Steps' P call all chk τ) {j k : Nat} (hjk : j ≤ k) (hk : k ≤ all.length) : (τ.M j).next ≤ (τ.M k).next := by
  induction k with
  | zero => have : j = 0 := by omega
            subst this; exact Nat.le_refl _
  | succ k ih =>
    by_cases e : j = k + 1
    · subst e; exact Nat.le_refl _
    · exact Nat.le_trans (ih (by omega) (by omega)) (next_step hcall hτ (by omega))
theorem New.lt_next (hcall : CallOk P call) (hτ : Steps' P call all chk τ) {i k : Nat} {cs : Blk} (h : New P all τ i cs) (hik : i < k) (hk : k ≤ all.length) : (τ.M i).next < (τ.M k).next := by
  have h1 := h.next hτ
  have h2 := next_mono hcall hτ (j := i + 1) (k := k) (by omega) hk
  rw [h1] at h2; simp at h2; omega
theorem New.inj (hcall : CallOk P call) (hτ : Steps' P call all chk τ) {i k : Nat} {cs ds : Blk} (h : New P all τ i cs) (h' : New P all τ k ds) (e : (τ.M i).next = (τ.M k).next) : i = k := by
  have a := h.lt
  have b := h'.lt
  rcases Nat.lt_trichotomy i k with c | c | c
  · have := h.lt_next hcall hτ c (by omega); omega
  · exact c
  · have := h'.lt_next hcall hτ c (by omega); omega
theorem New.cells {i : Nat} {cs ds : Blk} (h : New P all τ i cs) (h' : New P all τ i ds) : cs = ds := by
  obtain ⟨o, mk, h1, _, _, h4⟩ := h
  obtain ⟨o', mk', h5, _, _, h6⟩ := h'
  rw [h1] at h5; cases h5
  rw [h4] at h6; cases h6; rfl

/-- Between two changes only new blocks come. -/
theorem ext (hcall : CallOk P call) (hτ : Steps' P call all chk τ) {j k : Nat} (hjk : j ≤ k) (hk : k ≤ all.length) (hno : ∀ i, j ≤ i → i < k → ¬ Eff P all τ i) :
    (∀ b, b < (τ.M j).next → (τ.M k).get b = (τ.M j).get b) ∧ (∀ i cs, j ≤ i → i < k → New P all τ i cs → (τ.M k).get (τ.M i).next = some cs) ∧
    (∀ b, (τ.M j).next ≤ b → b < (τ.M k).next → ∃ i cs, j ≤ i ∧ i < k ∧ New P all τ i cs ∧ b = (τ.M i).next) := by
  induction k with
  | zero =>
    have : j = 0 := by omega
    subst this
    exact ⟨fun _ _ => rfl, fun i cs _ h => by omega, fun b h1 h2 => by omega⟩
  | succ k ih =>
    by_cases e : j = k + 1
    · subst e
      exact ⟨fun _ _ => rfl, fun i cs _ h => by omega, fun b h1 h2 => by omega⟩
    · obtain ⟨i1, i2, i3⟩ := ih (by omega) (by omega) (fun i h1 h2 => hno i h1 (by omega))
      rcases step_quiet hτ (by omega) (hno k (by omega) (by omega)) with ⟨h, hn⟩ | ⟨cs, hn, h⟩
      · rw [h]
        refine ⟨i1, fun i cs h1 h2 h3 => ?_, fun b h1 h2 => ?_⟩
        · by_cases e2 : i = k
          · subst e2; exact absurd h3 (hn cs)
          · exact i2 i cs h1 (by omega) h3
        · obtain ⟨i, cs, g1, g2, g3⟩ := i3 b h1 h2
          exact ⟨i, cs, g1, by omega, g3⟩
      · rw [h]
        have hle := next_mono hcall hτ (j := j) (k := k) (by omega) (by omega)
        refine ⟨fun b hb => ?_, fun i ds h1 h2 h3 => ?_, fun b h1 h2 => ?_⟩
        · rw [Mem.get_lay, if_neg (by omega)]; exact i1 b hb
        · rw [Mem.get_lay]
          by_cases e2 : i = k
          · subst e2; rw [if_pos rfl, hn.cells h3]
          · have := h3.lt_next hcall hτ (k := k) (by omega) (by omega)
            rw [if_neg (by omega)]; exact i2 i ds h1 (by omega) h3
        · simp only [Mem.next_lay] at h2
          by_cases e2 : b = (τ.M k).next
          · exact ⟨k, cs, by omega, by omega, hn, e2⟩
          · obtain ⟨i, ds, g1, g2, g3⟩ := i3 b h1 (by omega)
            exact ⟨i, ds, g1, by omega, g3⟩

theorem readOp_mono {op : Op} {t : List AV} {m m' : Mem} {v : AV} (hm : ∀ b blk, m.get b = some blk → m'.get b = some blk) (h : readOp P op t m = some v) : readOp P op t m' = some v := by
  have hld : ∀ (a : AA) (n : Nat) (vs : List AV), ldCells m a n = some vs → ldCells m' a n = some vs := by
    intro a n vs h
    obtain ⟨cs, ro, h1, h2, rfl⟩ := ldCells_spec h
    simp only [ldCells, hm _ _ h1, if_pos h2]
  have hl1 : ∀ (x v : AV), ld1 m x = some v → ld1 m' x = some v := by
    intro x v h
    unfold ld1 at h ⊢
    split at h
    · split at h
      · rename_i cs hc
        simp only [hm _ _ hc]; exact h
      · simp at h
    · simp at h
  have hmap : ∀ (x : AV) es, mapOf m x = some es → mapOf m' x = some es := by
    intro x es h
    unfold mapOf at h ⊢
    split at h
    · exact h
    · split at h
      · rename_i hc; simp only [hm _ _ hc]; exact h
      · cases h
    · cases h
  have hlN : ∀ (x v : AV) (n : Nat), ldN m x n = some v → ldN m' x n = some v := by
    intro x v n h
    unfold ldN at h ⊢
    split at h
    · obtain ⟨vs, h1, rfl⟩ := Option.map_eq_some_iff.1 h
      simp only [hld _ _ _ h1]; rfl
    · simp at h
  unfold readOp at h ⊢
  split at h
  · obtain ⟨x, h1, h⟩ := Option.bind_eq_some_iff.1 h
    rw [h1]
    simp only [Option.bind_some]
    unfold loadA at h ⊢
    split at h
    · simp at h
    · split at h
      · obtain ⟨n, h2, h⟩ := Option.bind_eq_some_iff.1 h
        rename_i hd ha
        simp only [if_true, h2, Option.bind_some, hd]
        exact hlN _ _ _ h
      · rename_i hd ha
        rw [if_neg ha]; exact hl1 _ _ h
  · obtain ⟨x, h1, h⟩ := Option.bind_eq_some_iff.1 h
    rw [h1]
    simp only [Option.bind_some]
    unfold toStrA at h ⊢
    split at h
    · rename_i e hd
      split at h
      · rename_i he
        split at h
        · exact h
        · obtain ⟨bs, h2, rfl⟩ := Option.map_eq_some_iff.1 h
          obtain ⟨cs, h3, h4⟩ := Option.bind_eq_some_iff.1 h2
          simp only [hld _ _ _ h3, Option.bind_some, h4, Option.map_some]
        · simp at h
      · simp at h
    · simp at h
  · obtain ⟨x, h1, h⟩ := Option.bind_eq_some_iff.1 h
    obtain ⟨k, h2, h⟩ := Option.bind_eq_some_iff.1 h
    rw [h1, h2]
    simp only [Option.bind_some]
    unfold lookupA at h ⊢
    split at h
    · obtain ⟨d, h3, h⟩ := Option.bind_eq_some_iff.1 h
      obtain ⟨es, h4, h⟩ := Option.bind_eq_some_iff.1 h
      simp only [h3, Option.bind_some, hmap _ _ h4]
      exact h
    · cases h
  · obtain ⟨x, h1, h⟩ := Option.bind_eq_some_iff.1 h
    rw [h1]
    simp only [Option.bind_some]
    unfold lenM at h ⊢
    split at h
    · obtain ⟨es, h4, rfl⟩ := Option.map_eq_some_iff.1 h
      simp only [hmap _ _ h4, Option.map_some]
    · cases h
  · simp at h

theorem MR.grow {P : Program} {p : Phi} {m m' : Mem} {w : World} (h : MR P p m w) (hn : m.next ≤ m'.next) (hlo : ∀ b, b < m.next → m'.get b = m.get b)
    (hlive : ∀ b v ci, m.next ≤ b → m'.get b = some v → p b = some ci → ∃ o, w.heap[ci.c]? = some o ∧ BR P p ci v o)
    (hinj : ∀ b ci b2 ci2, m.next ≤ b → (m'.get b).isSome = true → p b = some ci → p b2 = some ci2 → ci.c = ci2.c → b = b2 ∨ (b2 < m'.next ∧ m'.get b2 = none)) : MR P p m' w where
  has := fun b v ci h1 h2 => by
    by_cases hb : b < m.next
    · rw [hlo b hb] at h1; exact h.has b v ci h1 h2
    · exact hlive b v ci (by omega) h1 h2
  inj := fun b ci b2 ci2 h1 h2 h3 h4 => by
    by_cases hb : b < m.next
    · rw [hlo b hb] at h1
      rcases h.inj b ci b2 ci2 h1 h2 h3 h4 with e | ⟨e, e'⟩
      · exact .inl e
      · exact .inr ⟨by omega, by rw [hlo b2 e]; exact e'⟩
    · exact hinj b ci b2 ci2 (by omega) h1 h2 h3 h4
  bnd := h.bnd
  glob := h.glob

/-- Where a run in some order stands. -/
structure DInv (P : Program) (all : List Oper) (τ : Trace) (p0 : Phi) (w0 : World) (a0 : Act) (S : Nat → Bool) (q : Nat) (p : Phi) (a : Act) (w : World) : Prop where
  qle : q ≤ all.length
  qeff : q = all.length ∨ Eff P all τ q
  lo : ∀ k, k < q → Eff P all τ k → S k = true
  hi : ∀ k, q ≤ k → Eff P all τ k → S k = false
  closed : ∀ j o, all[j]? = some o → S j = true → ∀ e ∈ edgesOf o, S e = true
  inb : ∀ j, S j = true → j < all.length
  size : a.tmps.size = (τ.T 0).length
  tmps : ∀ x, x < (τ.T 0).length → VR p ((tmpsS all τ.V S (τ.T 0)).getD x .undef) (a.tmps.getD x undef)
  defers : a.defers = a0.defers
  rel : MR P p (τ.M q) w
  le : p0.le p
  out : ∀ b, ¬ ((τ.M 0).next ≤ b ∧ b < (τ.M all.length).next) → p b = p0 b
  above : ∀ b ci, (τ.M q).next ≤ b → b < (τ.M all.length).next → p b = some ci → ∃ i cs, q ≤ i ∧ S i = true ∧ New P all τ i cs ∧ b = (τ.M i).next
  late : ∀ i cs, i < q → New P all τ i cs → S i = false → p (τ.M i).next = none ∧ (τ.M q).get (τ.M i).next = some cs
  early : ∀ i cs, q ≤ i → New P all τ i cs → S i = true → ∃ ci o, p (τ.M i).next = some ci ∧ w.heap[ci.c]? = some o ∧ BR P p ci cs o
  earlyInj : ∀ b ci b2 ci2, (τ.M q).next ≤ b → b < (τ.M all.length).next → (τ.M q).next ≤ b2 → p b = some ci → p b2 = some ci2 → ci.c = ci2.c → b = b2
  keepA : ∀ b, b < (τ.M 0).next → p0 b = none → (τ.M q).get b = (τ.M 0).get b
  dead : ∀ b, b < (τ.M 0).next → (τ.M 0).get b = none → (τ.M q).get b = none
  keepC : ∀ c, c < w0.heap.size → (∀ b ci, ((τ.M 0).get b).isSome = true → p0 b = some ci → ci.c ≠ c) → w.heap[c]? = w0.heap[c]?
  fresh : ∀ b ci, (τ.M 0).next ≤ b → b < (τ.M all.length).next → p b = some ci → w0.heap.size ≤ ci.c ∨ ∃ b0 ci0, ((τ.M 0).get b0).isSome = true ∧ p0 b0 = some ci0 ∧ ci0.c = ci.c
  ro : ∀ b cs ci, (τ.M 0).get b = some (.cells cs true) → p0 b = some ci → (τ.M q).get b = some (.cells cs true) ∧ w.heap[ci.c]? = w0.heap[ci.c]?
  bnd0 : ∀ b ci, p0 b = some ci → ci.c < w0.heap.size
  wsize : w0.heap.size ≤ w.heap.size
  os : w.os = w0.os
  output : w.output = w0.output
  tape : w.tape = w0.tape

/-- What is known of an operation that may come next. -/
structure Ready (all : List Oper) (S : Nat → Bool) (i : Nat) (o : Oper) : Prop where
  op : all[i]? = some o
  not : S i = false
  edges : ∀ e ∈ edgesOf o, S e = true

def setS (S : Nat → Bool) (i : Nat) : Nat → Bool := fun j => if j = i then true else S j

section steps
variable {p0 : Phi} {w0 : World} {a0 : Act} {S : Nat → Bool} {q : Nat} {p : Phi} {a : Act} {w : World} {i : Nat} {o : Oper}

theorem DInv.ancIn (hr : rOk P all anc chk = true) (h : DInv P all τ p0 w0 a0 S q p a w) {j : Nat} {oj : Oper} (hj : all[j]? = some oj) (he : ∀ e ∈ edgesOf oj, S e = true) : ∀ x ∈ anc.getD j [], S x = true :=
  anc_in hr h.closed j oj hj he

/-- An earlier operation that is not carried out is apart from one that may come; so is one carried out from an earlier one that is not. -/
theorem DInv.apartLo (hr : rOk P all anc chk = true) (h : DInv P all τ p0 w0 a0 S q p a w) (hi : Ready all S i o) {k : Nat} {ok : Oper} (hk : all[k]? = some ok) (hki : k < i) (hS : S k = false) :
    Oper.apart ⟨all⟩ ok o = true ∧ ¬ (cls P ok.op = .e ∧ cls P o.op = .e) ∧ ((cls P ok.op = .r ∧ cls P o.op = .e) ∨ (cls P ok.op = .e ∧ cls P o.op = .r) → k ∈ chk.getD i []) := by
  have h1 := (rOk_spec hr hi.op).2 k ok hki hk
  unfold pairOk at h1
  rw [Bool.or_eq_true] at h1
  rcases h1 with h1 | h1
  · have := h.ancIn hr hi.op hi.edges k (by simpa using h1)
    rw [hS] at this; cases this
  · simp only [Bool.and_eq_true, Bool.or_eq_true, Bool.not_eq_true', Bool.and_eq_false_iff, decide_eq_false_iff_not, Bool.or_eq_false_iff] at h1
    refine ⟨h1.1.1, fun e => ?_, fun e => ?_⟩
    · rcases h1.1.2 with h2 | h2
      · exact h2 e.1
      · exact h2 e.2
    · rcases h1.2 with h2 | h2
      · rcases e with e | e
        · rcases h2.1 with h3 | h3
          · exact absurd e.1 h3
          · exact absurd e.2 h3
        · rcases h2.2 with h3 | h3
          · exact absurd e.1 h3
          · exact absurd e.2 h3
      · simpa using h2

theorem DInv.apartHi (hr : rOk P all anc chk = true) (h : DInv P all τ p0 w0 a0 S q p a w) (hi : Ready all S i o) {k : Nat} {ok : Oper} (hk : all[k]? = some ok) (hki : i < k) (hS : S k = true) :
    Oper.apart ⟨all⟩ o ok = true ∧ ¬ (cls P o.op = .e ∧ cls P ok.op = .e) ∧ ((cls P o.op = .r ∧ cls P ok.op = .e) ∨ (cls P o.op = .e ∧ cls P ok.op = .r) → i ∈ chk.getD k []) := by
  have h1 := (rOk_spec hr hk).2 i o hki hi.op
  unfold pairOk at h1
  rw [Bool.or_eq_true] at h1
  rcases h1 with h1 | h1
  · have := h.ancIn hr hk (h.closed k ok hk hS) i (by simpa using h1)
    rw [hi.not] at this; cases this
  · simp only [Bool.and_eq_true, Bool.or_eq_true, Bool.not_eq_true', Bool.and_eq_false_iff, decide_eq_false_iff_not, Bool.or_eq_false_iff] at h1
    refine ⟨h1.1.1, fun e => ?_, fun e => ?_⟩
    · rcases h1.1.2 with h2 | h2
      · exact h2 e.1
      · exact h2 e.2
    · rcases h1.2 with h2 | h2
      · rcases e with e | e
        · rcases h2.1 with h3 | h3
          · exact absurd e.1 h3
          · exact absurd e.2 h3
        · rcases h2.2 with h3 | h3
          · exact absurd e.1 h3
          · exact absurd e.2 h3
      · simpa using h2

theorem dst_get {k : Nat} {x : Tmp} (h : dstOf all k = some x) : ∃ ok, all[k]? = some ok ∧ ok.dst = some x := by
  unfold dstOf at h
  cases e : all[k]? with
  | none => simp [e] at h
  | some ok => rw [e] at h; exact ⟨ok, rfl, h⟩

/-- What it looks at is what it looked at in the text's order. -/
theorem DInv.looks (hτ : Steps' P call all chk τ) (hr : rOk P all anc chk = true) (h : DInv P all τ p0 w0 a0 S q p a w) (hi : Ready all S i o) {x : Nat} (hx : x ∈ o.looksAt ⟨all⟩) :
    (tmpsS all τ.V S (τ.T 0)).getD x .undef = (τ.T i).getD x .undef := by
  have hil : i < all.length := (List.getElem?_eq_some_iff.1 hi.op).1
  by_cases hxl : x < (τ.T 0).length
  · refine T_getD hτ (by omega) hxl fun k hk hd => ?_
    obtain ⟨ok, hok, hdk⟩ := dst_get hd
    rcases Nat.lt_trichotomy k i with c | c | c
    · cases hS : S k with
      | true => simp [c]
      | false =>
        have := (h.apartLo hr hi hok c hS).1
        exact absurd hx ((Oper.apart_spec this).1 x hdk)
    · subst c; rw [hi.not]; simp
    · cases hS : S k with
      | false => simp; omega
      | true =>
        have := (h.apartHi hr hi hok c hS).1
        exact absurd hx ((Oper.apart_spec this).2.2 x hdk)
  · have h1 : (tmpsS all τ.V S (τ.T 0)).length ≤ x := by unfold tmpsS; rw [foldS_length]; omega
    have h2 : (τ.T i).length ≤ x := by rw [T_length hτ (by omega)]; omega
    rw [List.getD_eq_getElem?_getD, List.getD_eq_getElem?_getD, List.getElem?_eq_none h1, List.getElem?_eq_none h2]

theorem DInv.agree (hτ : Steps' P call all chk τ) (hr : rOk P all anc chk = true) (h : DInv P all τ p0 w0 a0 S q p a w) (hi : Ready all S i o) : Agree o.op (tmpsS all τ.V S (τ.T 0)) (τ.T i) := by
  intro x hx
  refine h.looks hτ hr hi ?_
  unfold Oper.looksAt
  simp only [List.mem_append, List.mem_filterMap]
  left
  exact ⟨.tmp x, by simpa using hx, rfl⟩

theorem DInv.vrs (h : DInv P all τ p0 w0 a0 S q p a w) : VRs p (tmpsS all τ.V S (τ.T 0)) a.tmps.toList := by
  have hl : (tmpsS all τ.V S (τ.T 0)).length = (τ.T 0).length := by unfold tmpsS; rw [foldS_length]
  refine VRs.of_get (by rw [hl, ← h.size]; simp) fun x v hv => ?_
  have hx : x < (τ.T 0).length := by have := (List.getElem?_eq_some_iff.1 hv).1; omega
  have := h.tmps x hx
  rw [List.getD_eq_getElem?_getD, hv, Option.getD_some] at this
  refine ⟨_, ?_, this⟩
  have hxs : x < a.tmps.size := by rw [h.size]; exact hx
  rw [Array.getElem?_toList, Array.getElem?_eq_getElem hxs, Array.getD_eq_getD_getElem?, Array.getElem?_eq_getElem hxs]
  rfl

theorem DInv.wanted (hτ : Steps' P call all chk τ) (hr : rOk P all anc chk = true) (h : DInv P all τ p0 w0 a0 S q p a w) (hi : Ready all S i o) : Region.wanted o (yielded ⟨all⟩ a.tmps) = τ.W i := by
  have hil : i < all.length := (List.getElem?_eq_some_iff.1 hi.op).1
  have hs := (hτ i o hil hi.op).wanted
  refine wantedA_true hs p a.tmps fun d hd => ?_
  have hlook : d ∈ o.looksAt ⟨all⟩ := by
    unfold Oper.looksAt
    simp only [List.mem_append]
    right
    cases hg : o.guard with
    | none => simp [hg] at hd
    | some g => simp only [hg] at hd ⊢; simpa using hd
  have hdl : d < (τ.T 0).length := by
    rcases Nat.lt_or_ge d (τ.T 0).length with c | c
    · exact c
    · exfalso
      have h2 : (τ.T i).length ≤ d := by rw [T_length hτ (by omega)]; omega
      unfold wantedA at hs
      cases hg : o.guard with
      | none => simp [hg] at hd
      | some g =>
        obtain ⟨j, want⟩ := g
        simp only [hg] at hd hs
        rw [hd] at hs
        simp only [List.getD_eq_getElem?_getD, List.getElem?_eq_none h2, Option.getD_none] at hs
        cases hs
  rw [← h.looks hτ hr hi hlook]
  exact ⟨h.tmps d hdl, by rw [h.size]; exact hdl⟩

/-- The temporaries behind it. -/
theorem DInv.tmps' (hr : rOk P all anc chk = true) (h : DInv P all τ p0 w0 a0 S q p a w) (hi : Ready all S i o) {p' : Phi} (hle : p.le p') {cv : Value} (hv : VR p' (τ.V i) cv) :
    (a.put o.dst cv).tmps.size = (τ.T 0).length ∧ ∀ x, x < (τ.T 0).length → VR p' ((tmpsS all τ.V (setS S i) (τ.T 0)).getD x .undef) ((a.put o.dst cv).tmps.getD x undef) := by
  have hil : i < all.length := (List.getElem?_eq_some_iff.1 hi.op).1
  have hdi : dstOf all i = o.dst := by simp [dstOf, hi.op]
  refine ⟨by cases o.dst <;> simp [Act.put, h.size], fun x hx => ?_⟩
  by_cases hd : o.dst = some x
  · rw [tmpsS_last hil (by simp [setS]) (by rw [hdi]; exact hd) hx]
    · rw [hd]
      have hxs : x < a.tmps.size := by rw [h.size]; exact hx
      simp only [Act.put, Array.getD_eq_getD_getElem?]
      rw [Array.getElem?_setIfInBounds_self_of_lt hxs]
      exact hv
    · intro k hk hS hdk
      obtain ⟨ok, hok, hdk'⟩ := dst_get hdk
      have hSk : S k = true := by simpa [setS, show k ≠ i by omega] using hS
      have := (h.apartHi hr hi hok hk hSk).1
      exact (Oper.apart_spec this).2.1 x hd hdk'
  · have e1 : (tmpsS all τ.V (setS S i) (τ.T 0)).getD x .undef = (tmpsS all τ.V S (τ.T 0)).getD x .undef := by
      unfold tmpsS
      refine foldS_agree all τ.V _ _ _ (fun k _ hdk => ?_) hx rfl rfl
      have : k ≠ i := by rintro rfl; exact hd (hdi ▸ hdk)
      simp [setS, this]
    rw [e1]
    have e2 : (a.put o.dst cv).tmps.getD x undef = a.tmps.getD x undef := by
      cases hdd : o.dst with
      | none => rfl
      | some d =>
        have hne : d ≠ x := fun e => hd (by rw [hdd, e])
        simp only [Act.put, Array.getD_eq_getD_getElem?, Array.getElem?_setIfInBounds_ne hne]
    rw [e2]
    exact (h.tmps x hx).mono hle

theorem setS_eff {k : Nat} (hne : ¬ Eff P all τ i) (hk : Eff P all τ k) : setS S i k = S k := by
  have : k ≠ i := by rintro rfl; exact hne hk
  simp [setS, this]

theorem closedS (h : DInv P all τ p0 w0 a0 S q p a w) (hi : Ready all S i o) : ∀ j oj, all[j]? = some oj → setS S i j = true → ∀ e ∈ edgesOf oj, setS S i e = true := by
  intro j oj hj hS e he
  unfold setS at hS ⊢
  split
  · rfl
  · by_cases hji : j = i
    · subst hji; rw [hi.op] at hj; cases hj; exact hi.edges e he
    · rw [if_neg hji] at hS; exact h.closed j oj hj hS e he

/-- A step that changes no memory. -/
theorem DInv.still (hr : rOk P all anc chk = true) (h : DInv P all τ p0 w0 a0 S q p a w) (hi : Ready all S i o) (hne : ¬ Eff P all τ i) (hnn : ∀ cs, ¬ New P all τ i cs) {cv : Value} (hv : VR p (τ.V i) cv) :
    DInv P all τ p0 w0 a0 (setS S i) q p (a.put o.dst cv) w := by
  have hil : i < all.length := (List.getElem?_eq_some_iff.1 hi.op).1
  obtain ⟨t1, t2⟩ := h.tmps' hr hi (fun _ _ h => h) hv
  have hnew : ∀ {j cs}, New P all τ j cs → setS S i j = S j := fun {j cs} hj => by
    have : j ≠ i := by rintro rfl; exact hnn _ hj
    simp [setS, this]
  refine ⟨h.qle, h.qeff, fun k h1 h2 => by rw [setS_eff hne h2]; exact h.lo k h1 h2, fun k h1 h2 => by rw [setS_eff hne h2]; exact h.hi k h1 h2, closedS h hi, fun j hj => ?_, t1, t2, by rw [put_defers']; exact h.defers,
    h.rel, h.le, h.out, fun b ci h1 h2 h3 => ?_, fun j cs h1 h2 h3 => h.late j cs h1 h2 (by rw [← hnew h2]; exact h3), fun j cs h1 h2 h3 => h.early j cs h1 h2 (by rw [← hnew h2]; exact h3), h.earlyInj, h.keepA, h.dead, h.keepC, h.fresh, h.ro, h.bnd0, h.wsize, h.os, h.output, h.tape⟩
  · unfold setS at hj; split at hj
    · omega
    · exact h.inb j hj
  · obtain ⟨j, cs, g1, g2, g3, g4⟩ := h.above b ci h1 h2 h3
    exact ⟨j, cs, g1, by rw [hnew g3]; exact g2, g3, g4⟩

/-- What is read is the same now. -/
theorem DInv.reads (hcall : CallOk P call) (hτ : Steps' P call all chk τ) (hr : rOk P all anc chk = true) (h : DInv P all τ p0 w0 a0 S q p a w) (hi : Ready all S i o) (hW : τ.W i = true) (hc : cls P o.op = .r) :
    readOp P o.op (tmpsS all τ.V S (τ.T 0)) (τ.M q) = some (τ.V i) := by
  have hil : i < all.length := (List.getElem?_eq_some_iff.1 hi.op).1
  have hs := hτ i o hil hi.op
  rw [readOp_agree (h.agree hτ hr hi)]
  have hqi : q ≠ i ∨ q = all.length := by
    rcases h.qeff with e | ⟨o', h1, _, h2⟩
    · exact .inr e
    · left; rintro rfl; rw [hi.op] at h1; cases h1; rw [hc] at h2; cases h2
  by_cases hlt : q < i
  · -- a change is still to come that stood ahead
    rcases h.qeff with e | ⟨o', h1, h2, h3⟩
    · omega
    · have hSq := h.hi q (Nat.le_refl q) ⟨o', h1, h2, h3⟩
      have := (h.apartLo hr hi h1 hlt hSq).2.2 (.inr ⟨h3, hc⟩)
      exact hs.readC hW hc q o' hlt h1 h2 h3 this
  · have hiq : i < q := by rcases hqi with e | e <;> omega
    -- the last change ahead of q, behind i
    have hex : (∀ k, i < k → k < q → ¬ Eff P all τ k) ∨ ∃ k, i < k ∧ k < q ∧ Eff P all τ k ∧ ∀ j, k < j → j < q → ¬ Eff P all τ j := by
      have key : ∀ n, i + n + 1 ≤ q → (∀ j, i + n < j → j < q → ¬ Eff P all τ j) → (∀ k, i < k → k < q → ¬ Eff P all τ k) ∨ ∃ k, i < k ∧ k < q ∧ Eff P all τ k ∧ ∀ j, k < j → j < q → ¬ Eff P all τ j := by
        intro n
        induction n with
        | zero => intro _ hn; exact .inl fun k h1 h2 => hn k (by omega) h2
        | succ n ih =>
          intro h1 hn
          by_cases he : Eff P all τ (i + n + 1)
          · exact .inr ⟨i + n + 1, by omega, by omega, he, fun j h2 h3 => hn j (by omega) h3⟩
          · refine ih (by omega) fun j h2 h3 => ?_
            by_cases e : j = i + n + 1
            · rw [e]; exact he
            · exact hn j (by omega) h3
      exact key (q - i - 1) (by omega) (fun j h1 h2 => by omega)
    rcases hex with hno | ⟨k, h1, h2, hk, hno⟩
    · have he := ext hcall hτ (j := i + 1) (k := q) (by omega) h.qle (fun j a b => hno j (by omega) b)
      have hr0 := hs.read hW hc
      refine readOp_mono (fun b blk hb => ?_) hr0.1
      rw [← hr0.2] at hb
      rw [he.1 b (Mem.get_lt hb)]; exact hb
    · have hSk := h.lo k h2 hk
      obtain ⟨ok, g1, g2, g3⟩ := hk
      have hmem := (h.apartHi hr hi g1 h1 hSk).2.2 (.inl ⟨hc, g3⟩)
      have hkl : k < all.length := (List.getElem?_eq_some_iff.1 g1).1
      have := (hτ k ok hkl g1).effC g2 g3 i o h1 hi.op hW hc hmem
      have he := ext hcall hτ (j := k + 1) (k := q) (by omega) h.qle (fun j a b => hno j (by omega) b)
      refine readOp_mono (fun b blk hb => ?_) this
      rw [he.1 b (Mem.get_lt hb)]; exact hb
end steps
end
end Go.Abs
