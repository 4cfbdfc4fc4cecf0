/- A region that draws its order: a new block, a change, and the whole. -/
import Derived.Test.YtpoafkipnjfioaaGreatAbs14
namespace Go.Abs
open Go

section
variable {P : Program} {call : CallF} {all : List Oper} {chk anc : List (List Nat)} {τ : Trace}
variable {p0 : Phi} {w0 : World} {a0 : Act} {S : Nat → Bool} {q : Nat} {p : Phi} {a : Act} {w : World} {i : Nat} {o : Oper}

/-- A new block. -/
theorem DInv.laid (hcall : CallOk P call) (hτ : Steps' P call all chk τ) (hr : rOk P all anc chk = true) (h : DInv P all τ p0 w0 a0 S q p a w) (hi : Ready all S i o) {cs : Blk} {mk : Nat → AV} (hn : New P all τ i cs) (hmk : τ.V i = mk (τ.M i).next)
    {w' : World} {cv : Value} {ob : Obj} {sz : Nat} (hl : Laid P p cs mk w w' cv ob sz) :
    ∃ p', DInv P all τ p0 w0 a0 (setS S i) q p' (a.put o.dst cv) w' := by
  have hil : i < all.length := (List.getElem?_eq_some_iff.1 hi.op).1
  have hbn : (τ.M i).next < (τ.M all.length).next := hn.lt_next hcall hτ hil (Nat.le_refl _)
  have hb0 : (τ.M 0).next ≤ (τ.M i).next := next_mono hcall hτ (Nat.zero_le _) (by omega)
  -- its number is free
  have hfree : p (τ.M i).next = none := by
    by_cases hiq : i < q
    · exact (h.late i cs hiq hn hi.not).1
    · cases e : p (τ.M i).next with
      | none => rfl
      | some ci =>
        have hqi : (τ.M q).next ≤ (τ.M i).next := next_mono hcall hτ (by omega) (by omega)
        obtain ⟨j, ds, h1, h2, h3, h4⟩ := h.above _ ci hqi hbn e
        have := hn.inj hcall hτ h3 h4
        subst this
        rw [hi.not] at h2; cases h2
  let p' : Phi := fun b => if b = (τ.M i).next then some ⟨w.heap.size, 0, sz⟩ else p b
  have hle : p.le p' := by
    intro b ci hb
    by_cases e : b = (τ.M i).next
    · subst e; rw [hfree] at hb; cases hb
    · simp [p', e, hb]
  have hp' : ∀ b, b ≠ (τ.M i).next → p' b = p b := fun b e => by simp [p', e]
  have hpi : p' (τ.M i).next = some ⟨w.heap.size, 0, sz⟩ := by simp [p']
  have hheap : ∀ c, c < w.heap.size → w'.heap[c]? = w.heap[c]? := fun c hc => by rw [hl.heap, Array.getElem?_push_lt hc, ← Array.getElem?_eq_getElem]
  have hnewh : w'.heap[w.heap.size]? = some ob := by rw [hl.heap]; simp
  have hne : ¬ Eff P all τ i := hn.not_eff
  have hnew : ∀ {j ds}, j ≠ i → New P all τ j ds → setS S i j = S j := fun {j ds} hj _ => by simp [setS, hj]
  have hv : VR p' (τ.V i) cv := by rw [hmk]; exact hl.value p' _ hpi
  obtain ⟨t1, t2⟩ := h.tmps' hr hi hle hv
  have hblk : BR P p' ⟨w.heap.size, 0, sz⟩ cs ob := hl.blk.mono hle
  refine ⟨p', h.qle, h.qeff, fun k h1 h2 => by rw [setS_eff hne h2]; exact h.lo k h1 h2, fun k h1 h2 => by rw [setS_eff hne h2]; exact h.hi k h1 h2, closedS h hi, fun j hj => ?_, t1, t2, by rw [put_defers']; exact h.defers,
    ⟨?_, ?_, ?_, ?_⟩, fun b ci hb => hle _ _ (h.le b ci hb), fun b hb => ?_, fun b ci h1 h2 h3 => ?_, fun j ds h1 h2 h3 => ?_, fun j ds h1 h2 h3 => ?_, fun b ci b2 ci2 h1 h2 h3 h4 h5 h6 => ?_, h.keepA, h.dead, fun c h1 h2 => ?_, fun b ci h1 h2 h3 => ?_,
    fun b ds ci h1 h2 => ⟨(h.ro b ds ci h1 h2).1, by rw [hheap _ (by have := h.bnd0 b ci h2; have := h.wsize; omega)]; exact (h.ro b ds ci h1 h2).2⟩, h.bnd0, by rw [hl.heap]; simp; have := h.wsize; omega, hl.os.trans h.os, hl.output.trans h.output, hl.tape.trans h.tape⟩
  · unfold setS at hj; split at hj
    · omega
    · exact h.inb j hj
  · -- live
    intro b v ci h1 h2
    by_cases e : b = (τ.M i).next
    · subst e
      rw [hpi] at h2; cases h2
      have hiq : i < q := by
        rcases Nat.lt_or_ge i q with c | c
        · exact c
        · have hqi : (τ.M q).next ≤ (τ.M i).next := next_mono hcall hτ c (by omega)
          rw [Mem.get_ge hqi] at h1; cases h1
      have := (h.late i cs hiq hn hi.not).2
      rw [this] at h1; cases h1
      exact ⟨ob, hnewh, hblk⟩
    · rw [hp' b e] at h2
      obtain ⟨o', g1, g2⟩ := h.rel.has b v ci h1 h2
      exact ⟨o', by rw [hheap _ (h.rel.bnd b ci h2)]; exact g1, g2.mono hle⟩
  · -- apart
    intro b ci b2 ci2 h1 h2 h3 h4
    by_cases e : b = (τ.M i).next
    · by_cases e2 : b2 = (τ.M i).next
      · exact .inl (e.trans e2.symm)
      · rw [e, hpi] at h2; cases h2
        rw [hp' b2 e2] at h3
        have := h.rel.bnd b2 ci2 h3
        simp only at h4; omega
    · rw [hp' b e] at h2
      by_cases e2 : b2 = (τ.M i).next
      · rw [e2, hpi] at h3; cases h3
        have := h.rel.bnd b ci h2
        simp only at h4; omega
      · rw [hp' b2 e2] at h3
        exact h.rel.inj b ci b2 ci2 h1 h2 h3 h4
  · intro b ci hb
    rw [hl.heap, Array.size_push]
    by_cases e : b = (τ.M i).next
    · rw [e, hpi] at hb; cases hb; simp
    · rw [hp' b e] at hb; have := h.rel.bnd b ci hb; omega
  · intro g hg
    obtain ⟨n, hn⟩ := h.rel.glob g hg
    exact ⟨n, hle _ _ hn⟩
  · -- out
    rw [hp' b (by rintro rfl; exact hb ⟨hb0, hbn⟩)]
    exact h.out b hb
  · -- above
    by_cases e : b = (τ.M i).next
    · refine ⟨i, cs, ?_, by simp [setS], hn, e⟩
      rcases Nat.lt_or_ge i q with c | c
      · have := hn.lt_next hcall hτ c h.qle; omega
      · exact c
    · rw [hp' b e] at h3
      obtain ⟨j, ds, g1, g2, g3, g4⟩ := h.above b ci h1 h2 h3
      have : j ≠ i := by rintro rfl; exact e g4
      exact ⟨j, ds, g1, by rw [hnew this g3]; exact g2, g3, g4⟩
  · -- late
    have hji : j ≠ i := by rintro rfl; simp [setS] at h3
    rw [hnew hji h2] at h3
    obtain ⟨g1, g2⟩ := h.late j ds h1 h2 h3
    refine ⟨?_, g2⟩
    rw [hp' _ fun e => hji (h2.inj hcall hτ hn e)]; exact g1
  · -- early
    by_cases hji : j = i
    · subst hji
      have := hn.cells h2; subst this
      exact ⟨_, ob, hpi, hnewh, hblk⟩
    · rw [hnew hji h2] at h3
      obtain ⟨ci, o', g1, g2, g3⟩ := h.early j ds h1 h2 h3
      exact ⟨ci, o', hle _ _ g1, by rw [hheap _ (h.rel.bnd _ ci g1)]; exact g2, g3.mono hle⟩
  · -- apart, above
    by_cases e : b = (τ.M i).next
    · by_cases e2 : b2 = (τ.M i).next
      · exact e.trans e2.symm
      · rw [e, hpi] at h4; cases h4
        rw [hp' b2 e2] at h5
        have := h.rel.bnd b2 ci2 h5
        simp only at h6; omega
    · rw [hp' b e] at h4
      by_cases e2 : b2 = (τ.M i).next
      · rw [e2, hpi] at h5; cases h5
        have := h.rel.bnd b ci h4
        simp only at h6; omega
      · rw [hp' b2 e2] at h5
        exact h.earlyInj b ci b2 ci2 h1 h2 h3 h4 h5 h6
  · rw [hheap c (by have := h.wsize; omega)]; exact h.keepC c h1 h2
  · by_cases e : b = (τ.M i).next
    · rw [e, hpi] at h3; cases h3; exact .inl h.wsize
    · rw [hp' b e] at h3; exact h.fresh b ci h1 h2 h3

/-- The next change. -/
theorem next_eff (q : Nat) (hq : q ≤ all.length) : ∃ k, q ≤ k ∧ k ≤ all.length ∧ (k = all.length ∨ Eff P all τ k) ∧ ∀ j, q ≤ j → j < k → ¬ Eff P all τ j := by
  have key : ∀ n q, q + n = all.length → ∃ k, q ≤ k ∧ k ≤ all.length ∧ (k = all.length ∨ Eff P all τ k) ∧ ∀ j, q ≤ j → j < k → ¬ Eff P all τ j := by
    intro n
    induction n with
    | zero => intro q h; exact ⟨q, Nat.le_refl _, by omega, .inl (by omega), fun j h1 h2 => by omega⟩
    | succ n ih =>
      intro q h
      by_cases he : Eff P all τ q
      · exact ⟨q, Nat.le_refl _, by omega, .inr he, fun j h1 h2 => by omega⟩
      · obtain ⟨k, h1, h2, h3, h4⟩ := ih (q + 1) (by omega)
        refine ⟨k, by omega, h2, h3, fun j h5 h6 => ?_⟩
        by_cases e : j = q
        · rw [e]; exact he
        · exact h4 j (by omega) h6
  exact key (all.length - q) q (by omega)

/-- A change of memory: it is the next one. -/
theorem DInv.change (hcall : CallOk P call) (hτ : Steps' P call all chk τ) (hr : rOk P all anc chk = true) (hG : GP P ≤ (τ.M 0).next) (h : DInv P all τ p0 w0 a0 S q p a w) (hi : Ready all S i o) (he : Eff P all τ i) {fb : Frame} {rest : List Nat} {fk : List Item} {fs : List Frame} :
    ∃ q' p' a' w', DInv P all τ p0 w0 a0 (setS S i) q' p' a' w' ∧ Steps P (lone (fb.atR a (.inRegion ⟨all⟩ (i :: rest) :: fk)) fs w) (lone (fb.atR a' (.inRegion ⟨all⟩ rest :: fk)) fs w') := by
  have hwant := h.wanted hτ hr hi
  have hil : i < all.length := (List.getElem?_eq_some_iff.1 hi.op).1
  have hW : τ.W i = true ∧ cls P o.op = .e := by
    obtain ⟨o', h1, h2, h3⟩ := he
    rw [hi.op] at h1; cases h1; exact ⟨h2, h3⟩
  have hiq : i = q := by
    rcases Nat.lt_trichotomy i q with c | c | c
    · have := h.lo i c he; rw [hi.not] at this; cases this
    · exact c
    · exfalso
      rcases h.qeff with e | ⟨oq, h1, h2, h3⟩
      · omega
      · have := (h.apartLo hr hi h1 c (h.hi q (Nat.le_refl _) ⟨oq, h1, h2, h3⟩)).2.1
        exact this ⟨h3, hW.2⟩
  subst hiq
  have hs := (hτ i o hil hi.op).eff hW.1 hW.2
  rw [← effR_agree (h.agree hτ hr hi)] at hs
  have hop := effR_sound hcall hs
  have hGq : GP P ≤ (τ.M i).next := Nat.le_trans hG (next_mono hcall hτ (Nat.zero_le _) (by omega))
  have hfree : Free p (τ.M i).next (τ.M (i + 1)).next := by
    intro b h1 h2
    cases e : p b with
    | none => rfl
    | some ci =>
      have hle := next_mono hcall hτ (j := i + 1) (k := all.length) (by omega) (Nat.le_refl _)
      obtain ⟨j, ds, g1, g2, g3, g4⟩ := h.above b ci h1 (by omega) e
      have : j ≠ i := by rintro rfl; exact g3.not_eff he
      have := next_mono hcall hτ (j := i + 1) (k := j) (by omega) (by have := g3.lt; omega)
      omega
  have hW' : τ.W i = true := hW.1
  rw [hW'] at hwant
  obtain ⟨p1, cv, w1, hv, hsim, hst⟩ : ∃ p1 cv w1, VR p1 (τ.V i) cv ∧ Sim P p (τ.M i) w p1 (τ.M (i + 1)) w1 ∧ Steps P (lone (fb.atR a (.inRegion ⟨all⟩ (i :: rest) :: fk)) fs w) (lone (fb.atR (a.put o.dst cv) (.inRegion ⟨all⟩ rest :: fk)) fs w1) := by
    obtain ⟨cv, p1, w1, x1, x2, x3⟩ := hop.2 p a w h.rel hGq hfree h.vrs fb ⟨all⟩ i rest fk fs (by simpa using hi.op) hwant
    exact ⟨p1, cv, w1, x1, x2, x3⟩
  -- on to the next change
  obtain ⟨k, k1, k2, k3, k4⟩ := next_eff (P := P) (all := all) (τ := τ) (i + 1) (by omega)
  have hex := ext hcall hτ k1 k2 k4
  have hM1 := next_step hcall hτ hil
  have hMk := next_mono hcall hτ k1 k2
  have hMn := next_mono hcall hτ k2 (Nat.le_refl _)
  have hp1 : ∀ b, ¬ ((τ.M i).next ≤ b ∧ b < (τ.M (i + 1)).next) → p1 b = p b := hsim.out
  -- an early block's cells stay
  have hearlyc : ∀ b ci, (τ.M i).next ≤ b → b < (τ.M all.length).next → p b = some ci → w1.heap[ci.c]? = w.heap[ci.c]? := by
    intro b ci h1 h2 h3
    refine hsim.keepC ci.c (h.rel.bnd b ci h3) fun b' ci' g1 g2 g3 => ?_
    rcases h.rel.inj b' ci' b ci g1 g2 h3 g3 with e | ⟨e, _⟩
    · subst e; rw [Mem.get_ge h1] at g1; cases g1
    · omega
  have hnewk : ∀ {j cs}, New P all τ j cs → setS S i j = S j := fun {j cs} hj => by
    have : j ≠ i := by rintro rfl; exact hj.not_eff he
    simp [setS, this]
  -- what lives in the blocks between
  have hrel : MR P p1 (τ.M k) w1 := by
    refine MR.grow hsim.rel hMk hex.1 ?_ ?_
    · intro b ds ci h1 h2 h3
      have hbk := Mem.get_lt h2
      obtain ⟨j, es, g1, g2, g3, g4⟩ := hex.2.2 b h1 hbk
      have hget := hex.2.1 j es g1 g2 g3
      rw [← g4, h2] at hget; cases hget
      have hpb : p b = some ci := by rw [← hp1 b (by omega)]; exact h3
      obtain ⟨j', es', f1, f2, f3, f4⟩ := h.above b ci (by omega) (by omega) hpb
      have : j = j' := g3.inj hcall hτ f3 (g4.symm.trans f4)
      subst this
      obtain ⟨ci', o', e1, e2, e3⟩ := h.early j ds (by omega) g3 f2
      rw [← g4, hpb] at e1; cases e1
      exact ⟨o', by rw [hearlyc b ci (by omega) (by omega) hpb]; exact e2, e3.mono hsim.le⟩
    · intro b ci b2 ci2 h1 h2 h3 h4 h5
      have hbk : b < (τ.M k).next := by
        cases e : (τ.M k).get b with
        | none => rw [e] at h2; cases h2
        | some blk => exact Mem.get_lt e
      have hpb : p b = some ci := by rw [← hp1 b (by omega)]; exact h3
      have hbc := h.rel.bnd b ci hpb
      by_cases hb2 : (τ.M i).next ≤ b2 ∧ b2 < (τ.M (i + 1)).next
      · exfalso
        rcases hsim.fresh b2 ci2 hb2.1 hb2.2 h4 with g | ⟨b0, ci0, g1, g2, g3⟩
        · omega
        · rcases h.rel.inj b0 ci0 b ci g1 g2 hpb (by omega) with e | ⟨e, _⟩
          · subst e; rw [Mem.get_ge (by omega)] at g1; cases g1
          · omega
      · rw [hp1 b2 hb2] at h4
        by_cases hb3 : (τ.M i).next ≤ b2
        · exact .inl (h.earlyInj b ci b2 ci2 (by omega) (by omega) hb3 hpb h4 h5)
        · right
          refine ⟨by omega, ?_⟩
          rw [hex.1 b2 (by omega)]
          refine hsim.dead b2 (by omega) ?_
          cases e : (τ.M i).get b2 with
          | none => rfl
          | some blk =>
            exfalso
            rcases h.rel.inj b2 ci2 b ci (by rw [e]; rfl) h4 hpb h5.symm with e' | ⟨e', _⟩
            · subst e'; omega
            · omega
  obtain ⟨t1, t2⟩ := h.tmps' hr hi hsim.le hv
  refine ⟨k, p1, _, w1, ⟨k2, k3, fun j h1 h2 => ?_, fun j h1 h2 => ?_, closedS h hi, fun j hj => ?_, t1, t2, by rw [put_defers']; exact h.defers, hrel, fun b ci hb => hsim.le _ _ (h.le b ci hb),
    fun b hb => ?_, fun b ci h1 h2 h3 => ?_, fun j ds h1 h2 h3 => ?_, fun j ds h1 h2 h3 => ?_, fun b ci b2 ci2 h1 h2 h3 h4 h5 h6 => ?_, fun b h1 h2 => ?_, fun b h1 h2 => ?_, fun c h1 h2 => ?_, fun b ci h1 h2 h3 => ?_, fun b ds ci h1 h2 => ?_, h.bnd0,
    Nat.le_trans h.wsize hsim.size, hsim.os.trans h.os, hsim.output.trans h.output, hsim.tape.trans h.tape⟩, hst⟩
  · -- lo
    by_cases e : j = i
    · simp [setS, e]
    · simp only [setS, if_neg e]
      rcases Nat.lt_or_ge j i with c | c
      · exact h.lo j c h2
      · exact absurd h2 (k4 j (by omega) h1)
  · simp only [setS, if_neg (show j ≠ i by omega)]
    exact h.hi j (by omega) h2
  · unfold setS at hj; split at hj
    · omega
    · exact h.inb j hj
  · have h0 := next_mono hcall hτ (j := 0) (k := i) (Nat.zero_le _) (by omega)
    rw [hp1 b (by omega)]; exact h.out b hb
  · rw [hp1 b (by omega)] at h3
    obtain ⟨j, ds, g1, g2, g3, g4⟩ := h.above b ci (by omega) h2 h3
    refine ⟨j, ds, ?_, by rw [hnewk g3]; exact g2, g3, g4⟩
    rcases Nat.lt_or_ge j k with c | c
    · have := g3.lt_next hcall hτ c k2; omega
    · exact c
  · -- late
    rw [hnewk h2] at h3
    have hji : j ≠ i := by rintro rfl; exact h2.not_eff he
    by_cases hj : j < i
    · obtain ⟨g1, g2⟩ := h.late j ds hj h2 h3
      have hlt := Mem.get_lt g2
      refine ⟨by rw [hp1 _ (by omega)]; exact g1, ?_⟩
      rw [hex.1 _ (by omega), hsim.keepA _ hlt g1]; exact g2
    · have hle := next_mono hcall hτ (j := i + 1) (k := j) (by omega) (by omega)
      refine ⟨?_, hex.2.1 j ds (by omega) h1 h2⟩
      rw [hp1 _ (by omega)]
      cases e : p (τ.M j).next with
      | none => rfl
      | some ci =>
        have hlt := h2.lt_next hcall hτ (k := all.length) h2.lt (Nat.le_refl _)
        obtain ⟨j', ds', f1, f2, f3, f4⟩ := h.above _ ci (by omega) hlt e
        have := h2.inj hcall hτ f3 f4
        subst this
        rw [h3] at f2; cases f2
  · -- early
    rw [hnewk h2] at h3
    obtain ⟨ci, o', e1, e2, e3⟩ := h.early j ds (by omega) h2 h3
    have hlt := h2.lt_next hcall hτ (k := all.length) h2.lt (Nat.le_refl _)
    have hle := next_mono hcall hτ (j := i) (k := j) (by omega) (by have := h2.lt; omega)
    exact ⟨ci, o', hsim.le _ _ e1, by rw [hearlyc _ ci hle hlt e1]; exact e2, e3.mono hsim.le⟩
  · rw [hp1 b (by omega)] at h4
    rw [hp1 b2 (by omega)] at h5
    exact h.earlyInj b ci b2 ci2 (by omega) h2 (by omega) h4 h5 h6
  · have h0 := next_mono hcall hτ (j := 0) (k := i) (Nat.zero_le _) (by omega)
    rw [hex.1 b (by omega), hsim.keepA b (by omega) (by rw [h.out b (by omega)]; exact h2), h.keepA b h1 h2]
  · have h0 := next_mono hcall hτ (j := 0) (k := i) (Nat.zero_le _) (by omega)
    rw [hex.1 b (by omega)]
    exact hsim.dead b (by omega) (h.dead b h1 h2)
  · rw [hsim.keepC c (by have := h.wsize; omega) ?_]
    · exact h.keepC c h1 h2
    · intro b ci g1 g2 g3
      have hbq : b < (τ.M i).next := by
        cases e : (τ.M i).get b with
        | none => rw [e] at g1; cases g1
        | some blk => exact Mem.get_lt e
      by_cases hb : b < (τ.M 0).next
      · have e1 : p b = p0 b := h.out b (by omega)
        refine h2 b ci ?_ (e1 ▸ g2) g3
        cases e : (τ.M 0).get b with
        | none => rw [h.dead b hb e] at g1; cases g1
        | some _ => rfl
      · rcases h.fresh b ci (by omega) (by omega) g2 with f | ⟨b0, ci0, f1, f2, f3⟩
        · omega
        · exact h2 b0 ci0 f1 f2 (by omega)
  · have h0 := next_mono hcall hτ (j := 0) (k := i) (Nat.zero_le _) (by omega)
    by_cases hb2 : (τ.M i).next ≤ b ∧ b < (τ.M (i + 1)).next
    · rcases hsim.fresh b ci hb2.1 hb2.2 h3 with g | ⟨b0, ci0, g1, g2, g3⟩
      · left; have := h.wsize; omega
      · have hbq : b0 < (τ.M i).next := by
          cases e : (τ.M i).get b0 with
          | none => rw [e] at g1; cases g1
          | some blk => exact Mem.get_lt e
        by_cases hb : b0 < (τ.M 0).next
        · have e1 : p b0 = p0 b0 := h.out b0 (by omega)
          right
          refine ⟨b0, ci0, ?_, e1 ▸ g2, g3⟩
          cases e : (τ.M 0).get b0 with
          | none => rw [h.dead b0 hb e] at g1; cases g1
          | some _ => rfl
        · rcases h.fresh b0 ci0 (by omega) (by omega) g2 with f | ⟨b9, ci9, f1, f2, f3⟩
          · left; omega
          · right; exact ⟨b9, ci9, f1, f2, by omega⟩
    · rw [hp1 b hb2] at h3; exact h.fresh b ci h1 h2 h3
  · obtain ⟨g1, g2⟩ := h.ro b ds ci h1 h2
    obtain ⟨g3, g4⟩ := hsim.ro b ds ci g1 (h.le b ci h2)
    exact ⟨by rw [hex.1 b (Mem.get_lt g3)]; exact g3, g4.trans g2⟩
end
end Go.Abs
