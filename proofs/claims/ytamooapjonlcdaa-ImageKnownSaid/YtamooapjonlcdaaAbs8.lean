/- Stores, appends, copies; new blocks. -/
import Derived.Test.YtamooapjonlcdaaAbs7
namespace Go.Abs
open Go

section
variable {P : Program} {G : Nat} {p : Phi} {m : Mem} {w : World}

theorem stCells_spec {a : AA} {vs : List AV} {m' : Mem} (h : stCells m a vs = some m') : ∃ cs, m.get a.b = some (.cells cs false) ∧ a.o + vs.length ≤ cs.length ∧
    m' = m.put a.b (some (.cells (cs.take a.o ++ vs ++ cs.drop (a.o + vs.length)) false)) := by
  unfold stCells at h
  split at h
  · rename_i cs hc
    split at h
    · cases h; exact ⟨cs, hc, ‹_›, rfl⟩
    · simp at h
  · simp at h

/-- The cells of a block behind a store. -/
theorem splice_get {α : Type} (cs vs : List α) (o i : Nat) (h : o + vs.length ≤ cs.length) : (cs.take o ++ vs ++ cs.drop (o + vs.length))[i]? = if o ≤ i ∧ i < o + vs.length then vs[i - o]? else cs[i]? := by
  by_cases h1 : i < o
  · rw [if_neg (by omega), List.append_assoc, List.getElem?_append_left (by simp; omega), List.getElem?_take, if_pos h1]
  · by_cases h2 : i < o + vs.length
    · rw [if_pos (by omega), List.append_assoc, List.getElem?_append_right (by simp; omega), List.getElem?_append_left (by simp; omega)]
      congr 1; simp; omega
    · rw [if_neg (by omega), List.getElem?_append_right (by simp; omega), List.getElem?_drop]
      congr 1; simp; omega

/-- Cells stored through an address. -/
theorem stCells_sound (hm : MR G p m w) {a : AA} {ci : CI} (hp : p a.b = some ci) {vs : List AV} {vs' : List Value} (hv : VRs p vs vs') (h1 : vs.all AV.one = true) {m' : Mem} (h : stCells m a vs = some m') :
    ∃ w', (storeCells ⟨ci.c, a.o + ci.d, none⟩ vs').run P w = .ok () w' ∧ Sim G p m w p m' w' := by
  obtain ⟨cs, hc, hle, rfl⟩ := stCells_spec h
  obtain ⟨arr, el, fr, e1, e2, e3, e4⟩ := hm.live a.b cs false ci hc hp
  have e3 := e3 rfl
  have hlen := hv.length
  -- the true cells are there
  have hb : ci.d + cs.length ≤ arr.size ∨ cs.length = 0 := by
    by_cases h0 : cs.length = 0
    · exact .inr h0
    · left
      obtain ⟨v, hv', _⟩ := e4 (cs.length - 1) (cs[cs.length - 1]'(by omega)) (List.getElem?_eq_getElem (by omega))
      have := (Array.getElem?_eq_some_iff.1 hv').1
      omega
  by_cases h0 : vs.length = 0
  · have hvs : vs = [] := List.length_eq_zero_iff.1 h0
    subst hvs
    simp only [VRs] at hv; subst hv
    refine ⟨w, rfl, Sim.turn hm hc hp e1 e2 e3 (fun i x hi => ?_) (fun _ _ => rfl) rfl rfl rfl rfl⟩
    rw [splice_get _ _ _ _ hle, if_neg (by simp only [List.length_nil]; omega)] at hi
    exact e4 i x hi
  · have hfit : a.o + ci.d + vs'.length ≤ arr.size := by rcases hb with hb | hb <;> omega
    obtain ⟨arr', f1, f2, f3, f4, f5, f6, f7, f8⟩ := setCells_spec ci.c vs' (a.o + ci.d) w e1 hfit
    refine ⟨_, storeCells_run e1 hfit e3 (hv.ones h1), Sim.turn hm hc hp f1 (by omega) (by rw [f2]; exact e3) (fun i x hi => ?_) f4 f5 f6 f7 f8⟩
    rw [splice_get _ _ _ _ hle] at hi
    rw [f3]
    by_cases hr : a.o ≤ i ∧ i < a.o + vs.length
    · rw [if_pos hr] at hi
      obtain ⟨v, h5, h6⟩ := hv.get hi
      refine ⟨v, ?_, h6⟩
      rw [if_pos (by omega), ← h5]; congr 1; omega
    · rw [if_neg hr] at hi
      obtain ⟨v, h5, h6⟩ := e4 i x hi
      refine ⟨v, ?_, h6⟩
      rw [if_neg (by omega)]; exact h5

/-- A store. -/
theorem stV_sound (hm : MR G p m w) {t : TypeId} {x y : AV} {x' y' : Value} (hx : VR p x x') (hy : VR p y y') {n : Nat} (hn : szT P t = some n) {m' : Mem} (h : stV m x y n = some m') :
    ∃ w', (Instr.storeAt t x' y').run P w = .ok () w' ∧ Sim G p m w p m' w' := by
  unfold stV at h
  split at h
  · rename_i a
    split at h
    · rename_i cs hc
      split at h
      · rename_i hl
        simp only [VR] at hx
        obtain ⟨ci, hci, rfl⟩ := hx
        obtain ⟨vs, h1, h2, h3⟩ := hy.cells hc
        obtain ⟨w', h4, h5⟩ := stCells_sound (P := P) hm hci h2 h3 h
        refine ⟨w', ?_, h5⟩
        have := h2.length
        simp only [Instr.storeAt, Sem.run_bind, Instr.sureAddr, Sem.run_pure, Result.andThen_ok, storeVar, run_size hn, h1]
        rw [Sem.run_ite, if_neg (by simp; omega)]
        exact h4
      · simp at h
    · simp at h
  · simp at h

/-- Another block takes its place. -/
theorem Sim.takeOver (h : MR G p m w) (_hG : G ≤ m.next) {b : Nat} {cs cs' : List AV} {ci : CI} (hb : m.get b = some (.cells cs false)) (hp : p b = some ci) (hfree : p m.next = none) {w' : World} {arr : Array Value} {el : TypeId} {fr : Nat × Nat} {d : Nat}
    (hw : w'.heap[ci.c]? = some (.cells arr el fr)) (hn : arr.size = ci.n) (hf : ∀ i, i < arr.size → ¬ (fr.1 ≤ i ∧ i < fr.2))
    (hcs : ∀ (i : Nat) a, cs'[i]? = some a → ∃ v, arr[d + i]? = some v ∧ VR p a v) (ho : ∀ c, c ≠ ci.c → w'.heap[c]? = w.heap[c]?) (hs : w'.heap.size = w.heap.size)
    (e1 : w'.os = w.os) (e2 : w'.output = w.output) (e3 : w'.tape = w.tape) :
    Sim G p m w (fun x => if x = m.next then some ⟨ci.c, d, ci.n⟩ else p x) ((m.put b none).alloc cs') w' := by
  have hbl := Mem.get_lt hb
  have hle : p.le (fun x => if x = m.next then some ⟨ci.c, d, ci.n⟩ else p x) := by
    intro x c hx
    by_cases e : x = m.next
    · subst e; rw [hfree] at hx; simp at hx
    · simp [e, hx]
  have hget : ∀ x, ((m.put b none).alloc cs').get x = if x = m.next then some (.cells cs' false) else if x = b then none else m.get x := by
    intro x
    rw [Mem.get_alloc, Mem.next_put, Mem.get_put]
    by_cases e : x = m.next
    · simp [e]
    · rw [if_neg e, if_neg e]
      by_cases e2 : x = b
      · rw [if_pos e2, if_pos ⟨e2, hbl⟩]
      · rw [if_neg e2, if_neg (fun y => e2 y.1)]
  have hro : ∀ b2 cs2 ci2, m.get b2 = some (.cells cs2 true) → p b2 = some ci2 → b2 ≠ b ∧ ci2.c ≠ ci.c := by
    intro b2 cs2 ci2 h1 h2
    have hne : b2 ≠ b := by rintro rfl; rw [hb] at h1; cases h1
    refine ⟨hne, fun ec => ?_⟩
    rcases h.inj b2 ci2 b ci (by rw [h1]; rfl) h2 hp ec with e' | ⟨_, e'⟩
    · exact hne e'
    · rw [hb] at e'; simp at e'
  refine ⟨hle, ?_, by simp, ⟨?_, ?_, ?_, ?_⟩, ?_, ?_, ?_, ?_, fun b2 cs2 ci2 h1 h2 => ⟨by rw [hget, if_neg (by have := Mem.get_lt h1; omega), if_neg (hro b2 cs2 ci2 h1 h2).1]; exact h1, ho _ (hro b2 cs2 ci2 h1 h2).2⟩, by omega, e1, e2, e3⟩
  · intro x hx
    have : x ≠ m.next := by rintro rfl; simp at hx
    simp [this]
  · intro b2 cs2 ro2 ci2 h1 h2
    rw [hget] at h1
    by_cases e : b2 = m.next
    · simp only [e, if_true] at h1 h2
      cases h1; cases h2
      exact ⟨arr, el, fr, hw, hn, fun _ => hf, fun i a hi => let ⟨v, x, y⟩ := hcs i a hi; ⟨v, x, y.mono hle⟩⟩
    · rw [if_neg e] at h1
      simp only [if_neg e] at h2
      split at h1
      · simp at h1
      · rename_i hbb
        have hne : ci2.c ≠ ci.c := by
          intro ec
          rcases h.inj b2 ci2 b ci (by rw [h1]; rfl) h2 hp ec with e' | ⟨_, e'⟩
          · exact hbb e'
          · rw [hb] at e'; simp at e'
        obtain ⟨a, x, y, h3⟩ := h.live b2 cs2 ro2 ci2 h1 h2
        exact ⟨a, x, y, by rw [ho _ hne]; exact h3.1, h3.2.1, h3.2.2.1, fun i a hi => let ⟨v, x, y⟩ := h3.2.2.2 i a hi; ⟨v, x, y.mono hle⟩⟩
  · intro b1 c1 b2 c2 h1 h2 h3 h4
    rw [hget] at h1
    by_cases x1 : b1 = m.next
    · simp only [x1, if_true] at h2
      cases h2
      by_cases x2 : b2 = m.next
      · exact .inl (x1.trans x2.symm)
      · simp only [if_neg x2] at h3
        right
        rcases h.inj b ci b2 c2 (by rw [hb]; rfl) hp h3 h4 with e | ⟨e, e'⟩
        · subst e
          refine ⟨by simp; omega, ?_⟩
          rw [hget, if_neg (by omega), if_pos rfl]
        · refine ⟨by simp; omega, ?_⟩
          rw [hget, if_neg x2]; split
          · rfl
          · exact e'
    · rw [if_neg x1] at h1
      simp only [if_neg x1] at h2
      split at h1
      · simp at h1
      · rename_i hbb
        by_cases x2 : b2 = m.next
        · simp only [x2, if_true] at h3
          cases h3
          rcases h.inj b1 c1 b ci h1 h2 hp h4 with e | ⟨e, e'⟩
          · exact absurd e hbb
          · rw [hb] at e'; simp at e'
        · simp only [if_neg x2] at h3
          rcases h.inj b1 c1 b2 c2 h1 h2 h3 h4 with e | ⟨e, e'⟩
          · exact .inl e
          · right
            refine ⟨by simp; omega, ?_⟩
            rw [hget, if_neg x2]; split
            · rfl
            · exact e'
  · intro x c hx
    rw [hs]
    split at hx
    · cases hx; exact h.bnd b ci hp
    · exact h.bnd x c hx
  · intro g hg
    obtain ⟨n, hn⟩ := h.glob g hg
    exact ⟨n, hle _ _ hn⟩
  · intro x hx1 hx2
    rw [hget, if_neg (by omega), if_neg]
    rintro rfl; rw [hp] at hx2; simp at hx2
  · intro x hx1 hx2
    rw [hget, if_neg (by omega)]; split
    · rfl
    · exact hx2
  · intro c hc hn'
    exact ho c fun e => hn' b ci (by rw [hb]; rfl) hp e.symm
  · intro x c h1 h2 h3
    simp at h2
    have : x = m.next := by omega
    simp only [this, if_true] at h3
    cases h3
    right; exact ⟨b, ci, by rw [hb]; rfl, hp, rfl⟩

/-- What is appended, or copied. -/
theorem srcA_sound (hm : MR G p m w) {sz : Nat} {x : AV} {x' : Value} (hx : VR p x x') {n : Nat} {vs : List AV} (h : srcA sz x m = some (n, vs)) :
    (∀ w2 : World, (Builtin.lenOf x').run P w2 = .ok n w2) ∧ vs.length = n * sz ∧
    ∃ vs', VRs p vs vs' ∧ ∀ k, k ≤ n → ∀ w2 : World, w2.heap = w.heap → (Builtin.firstCells sz k x').run P w2 = .ok ⟨vs'.take (k * sz)⟩ w2 := by
  unfold srcA at h
  split at h
  · cases h
    simp only [VR] at hx
    obtain ⟨_, _, rfl⟩ := hx
    refine ⟨fun _ => rfl, by simp, [], by simp [VRs], fun k hk w2 _ => ?_⟩
    simp [Builtin.firstCells]
  · rename_i a s len cap ex
    split at h
    · obtain ⟨cs, hcs, e⟩ := Option.map_eq_some_iff.1 h
      cases e
      simp only [VR, SR] at hx
      obtain ⟨ci, off, cap', hci, rfl, hlc, hcc, _, _, hoff⟩ := hx
      obtain ⟨vs', h1, h2, h3, h4⟩ := ldCells_sound (P := P) hm hci hcs
      refine ⟨fun _ => rfl, h3, vs', h2, fun k hk w2 hw2 => ?_⟩
      by_cases hl : n = 0
      · subst hl
        have : k = 0 := by omega
        subst this
        simp [Builtin.firstCells, loadCells, loadCellsFrom]
      · have e : off = a.o + ci.d := hoff (by omega)
        subst e
        have hlen := h2.length
        have hk2 : k * sz ≤ n * sz := Nat.mul_le_mul_right _ hk
        have := run_firstCells_some (P := P) w2 sz k ⟨ci.c, a.o + ci.d, none⟩ n cap' (vs'.take (k * sz)) (by simp; omega) (fun j v hj => by
          rw [← h4 j v (by rw [List.getElem?_take] at hj; split at hj <;> first | exact hj | simp at hj)]
          simp only [World.cell?, hw2])
        simpa using this
    · simp at h
  · rename_i s
    split at h
    case isFalse => simp at h
    rename_i hs1; subst hs1
    cases h
    simp only [VR] at hx; subst hx
    refine ⟨fun _ => rfl, by simp, s.map fun c => .int .u8 c.toNat, ?_, fun k hk w2 _ => ?_⟩
    · refine VRs.of_get (by simp) fun i a hi => ?_
      simp only [List.getElem?_map, Option.map_eq_some_iff] at hi ⊢
      obtain ⟨c, hc, rfl⟩ := hi
      exact ⟨_, ⟨c, hc, rfl⟩, by simp [VR]⟩
    · simp only [Builtin.firstCells, Sem.run_pure]
      congr 1
      apply Array.ext'
      rw [show (ByteArray.mk ⟨s⟩) = ByteArray.mk s.toArray from rfl, ByteArray.extract_mk]
      simp [List.map_take]
  · simp at h
end
end Go.Abs
