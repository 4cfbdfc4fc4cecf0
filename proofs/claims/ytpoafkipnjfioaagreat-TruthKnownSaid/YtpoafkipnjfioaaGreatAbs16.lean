/- A region that draws its order: the whole. -/
import Derived.Test.YtpoafkipnjfioaaGreatAbs15
namespace Go.Abs
open Go

section
variable {P : Program} {call : CallF} {all : List Oper} {chk anc : List (List Nat)} {τ : Trace}
variable {p0 : Phi} {w0 : World} {a0 : Act} {S : Nat → Bool} {q : Nat} {p : Phi} {a : Act} {w : World} {i : Nat} {o : Oper}

variable {fb : Frame} {fk : List Item} {fs : List Frame} {rest : List Nat}
/-- Any operation that may come next. -/
theorem DInv.step (hcall : CallOk P call) (hτ : Steps' P call all chk τ) (hr : rOk P all anc chk = true) (hG : GP P ≤ (τ.M 0).next) (h : DInv P all τ p0 w0 a0 S q p a w) (hi : Ready all S i o) :
    ∃ q' p' a' w', DInv P all τ p0 w0 a0 (setS S i) q' p' a' w' ∧ Steps P (lone (fb.atR a (.inRegion ⟨all⟩ (i :: rest) :: fk)) fs w) (lone (fb.atR a' (.inRegion ⟨all⟩ rest :: fk)) fs w') := by
  have hil : i < all.length := (List.getElem?_eq_some_iff.1 hi.op).1
  have hio : (⟨all⟩ : Array Oper)[i]? = some o := by simpa using hi.op
  have hs := hτ i o hil hi.op
  have hwant := h.wanted hτ hr hi
  cases hW : τ.W i with
  | false =>
    have hne : ¬ Eff P all τ i := by rintro ⟨_, _, h2, _⟩; rw [hW] at h2; cases h2
    have hnn : ∀ cs, ¬ New P all τ i cs := by rintro cs ⟨_, _, _, h2, _⟩; rw [hW] at h2; cases h2
    have hst := stepR_op_skip (P := P) (b := fb) (a := a) (k := fk) (cs := fs) (w := w) (ops := ⟨all⟩) (i := i) (rest := rest) (by simp only [hio, Option.map_some, Option.getD_some, hwant, hW])
    simp only [hio, Option.bind_some] at hst
    exact ⟨q, p, _, w, h.still hr hi hne hnn (by rw [(hs.off hW).1]; simp only [VR]; exact ⟨[], rfl, by simp [VRs]⟩), .one hst⟩
  | true =>
    rw [hW] at hwant
    have same : ∀ {c : Cls}, cls P o.op = c → (c ≠ .e → ¬ Eff P all τ i) ∧ (c ≠ .a → ∀ cs, ¬ New P all τ i cs) := by
      intro c hc
      refine ⟨fun hne => ?_, fun hne cs => ?_⟩
      · rintro ⟨o', h1, _, h2⟩; rw [hi.op] at h1; cases h1; exact hne (hc.symm.trans h2)
      · rintro ⟨o', mk, h1, _, h2, _⟩; rw [hi.op] at h1; cases h1; exact hne (hc.symm.trans h2)
    cases hc : cls P o.op with
    | p =>
      have hp := (hs.pure hW hc).1
      rw [← pureOp_agree (h.agree hτ hr hi)] at hp
      obtain ⟨cv, h1, h2⟩ := pure_sound (w := w) h.vrs h.rel.glob hp
      exact ⟨q, p, _, w, h.still hr hi ((same hc).1 (by decide)) ((same hc).2 (by decide)) h2, .one (step_value hio hwant h1)⟩
    | r =>
      obtain ⟨cv, h1, h2⟩ := read_sound h.rel h.vrs hc (h.reads hcall hτ hr hi hW hc)
      exact ⟨q, p, _, w, h.still hr hi ((same hc).1 (by decide)) ((same hc).2 (by decide)) h2, .one (step_value hio hwant h1)⟩
    | a =>
      obtain ⟨cs, mk, h1, h2, h3⟩ := hs.alloc hW hc
      have h1' := h1
      rw [← allocOp_agree (h.agree hτ hr hi)] at h1'
      obtain ⟨cv, w', ob, n, h4, h5⟩ := alloc_spec h.vrs h.rel.glob hc h1' w
      obtain ⟨p', h6⟩ := h.laid hcall hτ hr hi ⟨o, mk, hi.op, hW, hc, h1⟩ h2 h5
      exact ⟨q, p', _, w', h6, .one (step_value hio hwant h4)⟩
    | e => exact h.change hcall hτ hr hG hi ⟨o, hi.op, hW, hc⟩

/-- How many are still to come. -/
def left (all : List Oper) (S : Nat → Bool) : Nat := ((List.range all.length).filter fun i => !S i).length

theorem left_set {i : Nat} (hi : i < all.length) (hS : S i = false) : left all (setS S i) < left all S := by
  unfold left
  have h1 : ((List.range all.length).filter fun j => !setS S i j) = ((List.range all.length).filter fun j => !S j).filter fun j => decide (j ≠ i) := by
    rw [List.filter_filter]
    apply List.filter_congr
    intro j _
    by_cases e : j = i <;> simp [setS, e]
  rw [h1]
  refine List.length_filter_lt_length_iff_exists.2 ⟨i, ?_, by simp⟩
  rw [List.mem_filter]
  exact ⟨List.mem_range.2 hi, by simp [hS]⟩

theorem ready_iff {listed : Array Bool} (hsz : listed.size = all.length) {i : Nat} : i ∈ Region.ready .any ⟨all⟩ listed ↔ ∃ o, Ready all (fun j => listed.getD j false) i o := by
  rw [mem_ready]
  constructor
  · rintro ⟨h1, o, h2, h3⟩
    have h2' : all[i]? = some o := by simpa using h2
    refine ⟨o, h2', ?_, fun e he => ?_⟩
    · have hil : i < all.length := (List.getElem?_eq_some_iff.1 h2').1
      simp only [Array.getD_eq_getD_getElem?] at h1 ⊢
      rw [Array.getElem?_eq_getElem (by omega)] at h1 ⊢
      simpa using h1
    · unfold edgesOf at he
      rw [List.mem_filterMap] at he
      obtain ⟨e', h4, h5⟩ := he
      split at h5
      · rename_i hb; cases h5
        exact h3 e' (by simpa using h4) hb
      · cases h5
  · rintro ⟨o, h1⟩
    have hil : i < all.length := (List.getElem?_eq_some_iff.1 h1.op).1
    refine ⟨?_, o, by simpa using h1.op, fun e he hb => ?_⟩
    · have := h1.not
      simp only [Array.getD_eq_getD_getElem?] at this ⊢
      rw [Array.getElem?_eq_getElem (by omega)] at this ⊢
      simpa using this
    · refine h1.edges e.on ?_
      unfold edgesOf
      rw [List.mem_filterMap]
      exact ⟨e, by simpa using he, by simp [hb]⟩

theorem set_getD {listed : Array Bool} {i : Nat} (hi : i < listed.size) : (fun j => (listed.setIfInBounds i true).getD j false) = setS (fun j => listed.getD j false) i := by
  funext j
  by_cases e : j = i
  · subst e
    simp [setS, Array.getD_eq_getD_getElem?, Array.getElem?_setIfInBounds_self_of_lt hi]
  · simp only [setS, if_neg e, Array.getD_eq_getD_getElem?]
    rw [Array.getElem?_setIfInBounds_ne (fun h => e h.symm)]

/-- If none may come next, all have come. -/
theorem none_ready (hr : rOk P all anc chk = true) {S : Nat → Bool} (h : ∀ i o, ¬ Ready all S i o) : ∀ i, i < all.length → S i = true := by
  intro i
  induction i using Nat.strongRecOn with
  | _ i ih =>
    intro hi
    cases hS : S i with
    | true => rfl
    | false =>
      exfalso
      have ho : all[i]? = some (all[i]) := List.getElem?_eq_getElem hi
      refine h i _ ⟨ho, hS, fun e he => ?_⟩
      have h1 := (rOk_spec hr ho).1
      simp only [ancRow, Bool.and_eq_true] at h1
      have := List.all_eq_true.1 h1.1.1 e he
      have hlt : e < i := by simpa using this
      exact ih e hlt (by omega)

theorem dops_steps (hcall : CallOk P call) (hτ : Steps' P call all chk τ) (hr : rOk P all anc chk = true) (hG : GP P ≤ (τ.M 0).next) :
    ∀ (fuel t : Nat) (listed : Array Bool) (q : Nat) (p : Phi) (a : Act) (w : World), listed.size = all.length → left all (fun j => listed.getD j false) ≤ fuel → DInv P all τ p0 w0 a0 (fun j => listed.getD j false) q p a w →
      ∃ S' q' p' a' w', (∀ i, i < all.length → S' i = true) ∧ DInv P all τ p0 w0 a0 S' q' p' a' w' ∧
        Steps P (lone (fb.atR a (.inRegion ⟨all⟩ (Region.linearise.go .any ⟨all⟩ fuel t listed []) :: fk)) fs w) (lone (fb.atR a' (.inRegion ⟨all⟩ [] :: fk)) fs w') := by
  intro fuel
  induction fuel with
  | zero =>
    intro t listed q p a w hsz hl h
    have hall : ∀ i, i < all.length → (fun j => listed.getD j false) i = true := by
      intro i hi
      cases hS : listed.getD i false with
      | true => exact hS
      | false =>
        have := left_set (S := fun j => listed.getD j false) hi hS
        omega
    exact ⟨_, q, p, a, w, hall, h, by simp only [Region.linearise.go]; exact .refl _ _⟩
  | succ fuel ih =>
    intro t listed q p a w hsz hl h
    simp only [Region.linearise.go]
    change ∃ S' q' p' a' w', (∀ i, i < all.length → S' i = true) ∧ DInv P all τ p0 w0 a0 S' q' p' a' w' ∧
      Steps P (lone (fb.atR a (.inRegion ⟨all⟩ (match (Region.ready .any ⟨all⟩ listed)[t % (Region.ready .any ⟨all⟩ listed).length]? with
        | some i => Region.linearise.go .any ⟨all⟩ fuel (t / (Region.ready .any ⟨all⟩ listed).length) (listed.setIfInBounds i true) [i]
        | none => [].reverse) :: fk)) fs w) (lone (fb.atR a' (.inRegion ⟨all⟩ [] :: fk)) fs w')
    cases hi : (Region.ready .any ⟨all⟩ listed)[t % (Region.ready .any ⟨all⟩ listed).length]? with
    | none =>
      have hnil : Region.ready .any ⟨all⟩ listed = [] := by
        cases hr : Region.ready .any ⟨all⟩ listed with
        | nil => rfl
        | cons x xs =>
          rw [hr] at hi
          have hlt : t % (x :: xs).length < (x :: xs).length := Nat.mod_lt _ (by simp)
          simp at hi
          simp at hlt
          omega
      refine ⟨_, q, p, a, w, none_ready hr fun i o ho => ?_, h, .refl _ _⟩
      have := (ready_iff hsz (i := i)).2 ⟨o, ho⟩
      rw [hnil] at this; cases this
    | some i =>
      simp only []
      rw [linearise_go_acc, List.reverse_singleton, List.singleton_append]
      obtain ⟨o, ho⟩ := (ready_iff hsz).1 (List.mem_of_getElem? hi)
      have hil : i < all.length := (List.getElem?_eq_some_iff.1 ho.op).1
      obtain ⟨q1, p1, a1, w1, h1, hst⟩ := h.step (fb := fb) (fk := fk) (fs := fs) (rest := Region.linearise.go .any ⟨all⟩ fuel (t / (Region.ready .any ⟨all⟩ listed).length) (listed.setIfInBounds i true) []) hcall hτ hr hG ho
      obtain ⟨S', q2, p2, a2, w2, g1, g2, g3⟩ := ih (t / (Region.ready .any ⟨all⟩ listed).length) (listed.setIfInBounds i true) q1 p1 a1 w1 (by simp [hsz]) (by
        rw [set_getD (by omega)]
        have := left_set (S := fun j => listed.getD j false) hil ho.not
        omega) (by rw [set_getD (by omega)]; exact h1)
      exact ⟨S', q2, p2, a2, w2, g1, g2, Steps.trans hst g3⟩

/-- WHATEVER ORDER: what the text's order comes to. -/
theorem dopsK_sound (hcall : CallOk P call) (hr : rOk P all anc chk = true) (_hlen : chk.length = all.length) {id : Nat} (hmix : P.follows .mixedOrders = true) {t : List AV} {m : Mem} {K : List AV → Mem → R} {r : AV × Mem} (h : dopsK call P all chk all [] 0 ⟨[], []⟩ t m K = some r) :
    ∃ t' m', K t' m' = some r ∧ m.next ≤ m'.next ∧ ∀ (p : Phi) (a : Act) (w : World), MR P p m w → GP P ≤ m.next → Free p m.next m'.next → VRs p t a.tmps.toList → ∀ (b : Frame) (k : List Item) (cs : List Frame),
      ∃ p' a' w', VRs p' t' a'.tmps.toList ∧ a'.defers = a.defers ∧ Sim P p m w p' m' w' ∧ Steps P (lone (b.atR a (.code (.region id ⟨all⟩ true) :: k)) cs w) (lone (b.atR a' k) cs w') := by
  obtain ⟨τ, _, h1, h2, h3, h4⟩ := dopsK_trace (P := P) (call := call) (all := all) (chk := chk) all chk [] 0 ⟨[], []⟩ t m ⟨fun _ => [], fun _ => m, fun _ => false, fun _ => .undef⟩ (fun j => by simp) (fun j => by simp)
    (fun k ok hk => by omega) (fun k ok hk => by omega) h
  have hτ : Steps' P call all chk τ := fun j o hj ho => h4 j o (Nat.zero_le _) (by omega) ho
  simp only [Nat.zero_add] at h3
  refine ⟨_, _, h3, by rw [← h2]; exact next_mono hcall hτ (Nat.zero_le _) (Nat.le_refl _), fun p a w hm hG hf ht fb fk fs => ?_⟩
  have hm' : MR P p m { w with drawn := w.drawn + 1 } := hm.of_heap rfl
  obtain ⟨q, q1, q2, q3, q4⟩ := next_eff (P := P) (all := all) (τ := τ) 0 (Nat.zero_le _)
  have hex := ext hcall hτ q1 q2 q4
  have hMq := next_mono hcall hτ q1 q2
  have hMn := next_mono hcall hτ q2 (Nat.le_refl _)
  have hfree : ∀ b, (τ.M 0).next ≤ b → b < (τ.M all.length).next → p b = none := fun b x y => hf b (by rw [← h2]; exact x) y
  have hnone : ∀ (j : Nat) cs, New P all τ j cs → p (τ.M j).next = none := fun j cs hn =>
    hfree _ (next_mono hcall hτ (Nat.zero_le _) (by have := hn.lt; omega)) (hn.lt_next hcall hτ hn.lt (Nat.le_refl _))
  have hS0 : (fun j => (Array.replicate all.length false).getD j false) = fun _ => false := by
    funext j; simp only [Array.getD_eq_getD_getElem?, Array.getElem?_replicate]; split <;> rfl
  have hT0 : ∀ x, (tmpsS all τ.V (fun _ => false) (τ.T 0)).getD x .undef = (τ.T 0).getD x .undef := by
    intro x
    by_cases hx : x < (τ.T 0).length
    · exact foldS_none all τ.V _ _ (fun k _ h => by cases h) hx
    · have e1 : (tmpsS all τ.V (fun _ => false) (τ.T 0)).length ≤ x := by unfold tmpsS; rw [foldS_length]; omega
      rw [List.getD_eq_getElem?_getD, List.getD_eq_getElem?_getD, List.getElem?_eq_none e1, List.getElem?_eq_none (by omega)]
  have hlen0 : a.tmps.size = (τ.T 0).length := by rw [h1]; have := ht.length; simpa using this
  have hinit : DInv P all τ p { w with drawn := w.drawn + 1 } a (fun j => (Array.replicate all.length false).getD j false) q p a { w with drawn := w.drawn + 1 } := by
    rw [hS0]
    refine ⟨q2, q3, fun k h5 h6 => absurd h6 (q4 k (Nat.zero_le _) h5), fun _ _ _ => rfl, fun j oj _ h5 => (by cases h5), fun j h5 => (by cases h5), hlen0, fun x hx => ?_, rfl, ?_, fun _ _ h => h, fun _ _ => rfl,
      fun b ci h5 h6 h7 => ?_, fun j cs h5 h6 _ => ⟨hnone j cs h6, hex.2.1 j cs (Nat.zero_le _) h5 h6⟩, fun j cs _ _ h5 => (by cases h5), fun b ci b2 ci2 h5 h6 h7 h8 h9 => ?_, fun b h5 _ => hex.1 b h5, fun b h5 h6 => (by rw [hex.1 b h5]; exact h6), fun _ _ _ => rfl,
      fun b ci h5 h6 h7 => ?_, fun b ds ci h5 h6 => ⟨(by rw [hex.1 b (Mem.get_lt h5)]; exact h5), rfl⟩, fun b ci h5 => hm'.bnd b ci h5, Nat.le_refl _, rfl, rfl, rfl⟩
    · rw [hT0, h1]
      have hx' : x < t.length := by rw [← h1]; exact hx
      have e : t[x]? = some (t.getD x .undef) := by rw [List.getD_eq_getElem?_getD, List.getElem?_eq_getElem hx']; rfl
      obtain ⟨v, g1, g2⟩ := ht.get e
      have : a.tmps.getD x undef = v := by rw [Array.getD_eq_getD_getElem?, ← Array.getElem?_toList, g1]; rfl
      rw [this]; exact g2
    · have hm0 : MR P p (τ.M 0) { w with drawn := w.drawn + 1 } := by rw [h2]; exact hm'
      refine MR.grow hm0 hMq hex.1 (fun b v ci h5 h6 h7 => ?_) (fun b ci b2 ci2 h5 h6 h7 => ?_)
      · rw [hfree b h5 (by have := Mem.get_lt h6; omega)] at h7; cases h7
      · have hb : b < (τ.M q).next := by
          cases e : (τ.M q).get b with
          | none => rw [e] at h6; cases h6
          | some blk => exact Mem.get_lt e
        rw [hfree b h5 (by omega)] at h7; cases h7
    · rw [hfree b (by omega) h6] at h7; cases h7
    · rw [hfree b (by omega) h6] at h8; cases h8
    · rw [hfree b h5 h6] at h7; cases h7
  obtain ⟨S, q', p', a', w', hall, hd, hst⟩ := dops_steps (fb := fb) (fk := fk) (fs := fs) hcall hτ hr (by rw [h2]; exact hG) all.length (w.tape w.drawn (.order fb.fn id)) (Array.replicate all.length false) q p a { w with drawn := w.drawn + 1 } (by simp) (by
    unfold left
    have := List.length_filter_le (fun i => !(Array.replicate all.length false).getD i false) (List.range all.length)
    simpa using this) hinit
  have hsched : Steps P (lone (fb.atR a (.code (.region id ⟨all⟩ true) :: fk)) fs w) (lone (fb.atR a (.inRegion ⟨all⟩ (Region.linearise.go .any ⟨all⟩ all.length (w.tape w.drawn (.order fb.fn id)) (Array.replicate all.length false) []) :: fk)) fs { w with drawn := w.drawn + 1 }) := by
    refine .one ?_
    rw [stepR_region_draw]
    simp only [Region.schedule, hmix, Bool.true_or, if_true]
    rfl
  have hend : Steps P (lone (fb.atR a (.code (.region id ⟨all⟩ true) :: fk)) fs w) (lone (fb.atR a' fk) fs w') := Steps.trans hsched (Steps.trans hst (.one stepR_region_end))
  · have hq : q' = all.length := by
      rcases hd.qeff with e | e
      · exact e
      · have h5 := hd.hi q' (Nat.le_refl _) e
        rw [hall q' e.lt] at h5; cases h5
    subst hq
    have hT : ∀ x, x < (τ.T 0).length → (tmpsS all τ.V S (τ.T 0)).getD x .undef = (τ.T all.length).getD x .undef := fun x hx =>
      T_getD hτ (Nat.le_refl _) hx fun k hk _ => by rw [hall k hk]; simp [hk]
    refine ⟨p', a', w', ?_, hd.defers, ?_, hend⟩
    · refine VRs.of_get (by rw [T_length hτ (Nat.le_refl _), ← hd.size]; simp) fun x v hv => ?_
      have hx : x < (τ.T 0).length := by
        have := (List.getElem?_eq_some_iff.1 hv).1
        rwa [T_length hτ (Nat.le_refl _)] at this
      have := hd.tmps x hx
      rw [hT x hx, List.getD_eq_getElem?_getD, hv, Option.getD_some] at this
      refine ⟨_, ?_, this⟩
      have hxs : x < a'.tmps.size := by rw [hd.size]; exact hx
      rw [Array.getElem?_toList, Array.getElem?_eq_getElem hxs, Array.getD_eq_getD_getElem?, Array.getElem?_eq_getElem hxs]
      rfl
    · have hd1 := hd.le
      have hd2 := hd.out
      have hd3 := hd.rel
      have hd4 := hd.keepA
      have hd5 := hd.dead
      have hd6 := hd.keepC
      have hd7 := hd.fresh
      have hd8 := hd.ro
      rw [h2] at hd2 hd4 hd5 hd6 hd7 hd8
      exact ⟨hd1, hd2, by rw [← h2]; exact next_mono hcall hτ (Nat.zero_le _) (Nat.le_refl _), hd3, hd4, hd5, hd6, hd7, hd8, hd.wsize, hd.os, hd.output, hd.tape⟩
end
end Go.Abs
