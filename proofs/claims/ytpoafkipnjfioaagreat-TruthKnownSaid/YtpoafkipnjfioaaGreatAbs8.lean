/- Stores, appends, copies; new blocks. -/
import Derived.Test.YtpoafkipnjfioaaGreatAbs7
namespace Go.Abs
open Go

section
variable {P : Program} {p : Phi} {m : Mem} {w : World}

theorem stCells_spec {a : AA} {vs : List AV} {m' : Mem} (h : stCells m a vs = some m') : ∃ cs, m.get a.b = some (.cells cs false) ∧ a.o + vs.length ≤ cs.length ∧
    m' = m.put a.b (some (.cells (cs.take a.o ++ vs ++ cs.drop (a.o + vs.length)) false)) := by
  unfold stCells at h
  split at h
  · rename_i cs hc
    split at h
    · cases h; exact ⟨cs, hc, ‹_›, rfl⟩
    · simp at h
  · simp at h

/-- The cells of a block behind a store. -/
theorem splice_get {α : Type} (cs vs : List α) (o i : Nat) (h : o + vs.length ≤ cs.length) : (cs.take o ++ vs ++ cs.drop (o + vs.length))[i]? = if o ≤ i ∧ i < o + vs.length then vs[i - o]? else cs[i]? := by
  by_cases h1 : i < o
  · rw [if_neg (by omega), List.append_assoc, List.getElem?_append_left (by simp; omega), List.getElem?_take, if_pos h1]
  · by_cases h2 : i < o + vs.length
    · rw [if_pos (by omega), List.append_assoc, List.getElem?_append_right (by simp; omega), List.getElem?_append_left (by simp; omega)]
      congr 1; simp; omega
    · rw [if_neg (by omega), List.getElem?_append_right (by simp; omega), List.getElem?_drop]
      congr 1; simp; omega

/-- Cells stored through an address. -/
theorem stCells_sound (hm : MR P p m w) {a : AA} {ci : CI} (hp : p a.b = some ci) {vs : List AV} {vs' : List Value} (hv : VRs p vs vs') (h1 : vs.all AV.one = true) {m' : Mem} (h : stCells m a vs = some m') :
    ∃ w', (storeCells ⟨ci.c, a.o + ci.d, none⟩ vs').run P w = .ok () w' ∧ Sim P p m w p m' w' := by
  obtain ⟨cs, hc, hle, rfl⟩ := stCells_spec h
  obtain ⟨arr, el, fr, e1, e2, e3, e4⟩ := hm.live a.b cs false ci hc hp
  have e3 := e3 rfl
  have hlen := hv.length
  -- the true cells are there
  have hb : ci.d + cs.length ≤ arr.size ∨ cs.length = 0 := by
    by_cases h0 : cs.length = 0
    · exact .inr h0
    · left
      obtain ⟨v, hv', _⟩ := e4 (cs.length - 1) (cs[cs.length - 1]'(by omega)) (List.getElem?_eq_getElem (by omega))
      have := (Array.getElem?_eq_some_iff.1 hv').1
      omega
  by_cases h0 : vs.length = 0
  · have hvs : vs = [] := List.length_eq_zero_iff.1 h0
    subst hvs
    simp only [VRs] at hv; subst hv
    refine ⟨w, rfl, Sim.turn hm hc hp e1 e2 e3 (fun i x hi => ?_) (fun _ _ => rfl) rfl rfl rfl rfl⟩
    rw [splice_get _ _ _ _ hle, if_neg (by simp only [List.length_nil]; omega)] at hi
    exact e4 i x hi
  · have hfit : a.o + ci.d + vs'.length ≤ arr.size := by rcases hb with hb | hb <;> omega
    obtain ⟨arr', f1, f2, f3, f4, f5, f6, f7, f8⟩ := setCells_spec ci.c vs' (a.o + ci.d) w e1 hfit
    refine ⟨_, storeCells_run e1 hfit e3 (hv.ones h1), Sim.turn hm hc hp f1 (by omega) e3 (fun i x hi => ?_) f4 f5 f6 f7 f8⟩
    rw [splice_get _ _ _ _ hle] at hi
    rw [f3]
    by_cases hr : a.o ≤ i ∧ i < a.o + vs.length
    · rw [if_pos hr] at hi
      obtain ⟨v, h5, h6⟩ := hv.get hi
      refine ⟨v, ?_, h6⟩
      rw [if_pos (by omega), ← h5]; congr 1; omega
    · rw [if_neg hr] at hi
      obtain ⟨v, h5, h6⟩ := e4 i x hi
      refine ⟨v, ?_, h6⟩
      rw [if_neg (by omega)]; exact h5

/-- A store. -/
theorem stV_sound (hm : MR P p m w) {t : TypeId} {x y : AV} {x' y' : Value} (hx : VR p x x') (hy : VR p y y') {n : Nat} (hn : szT P t = some n) {m' : Mem} (h : stV m x y n = some m') :
    ∃ w', (Instr.storeAt t x' y').run P w = .ok () w' ∧ Sim P p m w p m' w' := by
  unfold stV at h
  split at h
  · rename_i a
    split at h
    · rename_i cs hc
      split at h
      · rename_i hl
        simp only [VR] at hx
        obtain ⟨ci, hci, rfl⟩ := hx
        obtain ⟨vs, h1, h2, h3⟩ := hy.cells hc
        obtain ⟨w', h4, h5⟩ := stCells_sound (P := P) hm hci h2 h3 h
        refine ⟨w', ?_, h5⟩
        have := h2.length
        simp only [Instr.storeAt, Sem.run_bind, Instr.sureAddr, Sem.run_pure, Result.andThen_ok, storeVar, run_size hn, h1]
        rw [Sem.run_ite, if_neg (by simp; omega)]
        exact h4
      · simp at h
    · simp at h
  · simp at h

/-- Another block takes its place. -/
theorem Sim.takeOver (h : MR P p m w) (_hG : P.globals.size ≤ m.next) {b : Nat} {cs cs' : List AV} {ci : CI} (hb : m.get b = some (.cells cs false)) (hp : p b = some ci) (hfree : p m.next = none) {w' : World} {arr : Array Value} {el : TypeId} {fr : Nat × Nat} {d : Nat}
    (hw : w'.heap[ci.c]? = some (.cells arr el fr)) (hn : arr.size = ci.n) (hf : ∀ i, ¬ (fr.1 ≤ i ∧ i < fr.2))
    (hcs : ∀ (i : Nat) a, cs'[i]? = some a → ∃ v, arr[d + i]? = some v ∧ VR p a v) (ho : ∀ c, c ≠ ci.c → w'.heap[c]? = w.heap[c]?) (hs : w'.heap.size = w.heap.size)
    (e1 : w'.os = w.os) (e2 : w'.output = w.output) (e3 : w'.tape = w.tape) :
    Sim P p m w (fun x => if x = m.next then some ⟨ci.c, d, ci.n⟩ else p x) ((m.put b none).alloc cs') w' := by
  have hbl := Mem.get_lt hb
  have hle : p.le (fun x => if x = m.next then some ⟨ci.c, d, ci.n⟩ else p x) := by
    intro x c hx
    by_cases e : x = m.next
    · subst e; rw [hfree] at hx; simp at hx
    · simp [e, hx]
  have hget : ∀ x, ((m.put b none).alloc cs').get x = if x = m.next then some (.cells cs' false) else if x = b then none else m.get x := by
    intro x
    rw [Mem.get_alloc, Mem.next_put, Mem.get_put]
    by_cases e : x = m.next
    · simp [e]
    · rw [if_neg e, if_neg e]
      by_cases e2 : x = b
      · rw [if_pos e2, if_pos ⟨e2, hbl⟩]
      · rw [if_neg e2, if_neg (fun y => e2 y.1)]
  have hro : ∀ b2 cs2 ci2, m.get b2 = some (.cells cs2 true) → p b2 = some ci2 → b2 ≠ b ∧ ci2.c ≠ ci.c := by
    intro b2 cs2 ci2 h1 h2
    have hne : b2 ≠ b := by rintro rfl; rw [hb] at h1; cases h1
    refine ⟨hne, fun ec => ?_⟩
    rcases h.inj b2 ci2 b ci (by rw [h1]; rfl) h2 hp ec with e' | ⟨_, e'⟩
    · exact hne e'
    · rw [hb] at e'; simp at e'
  refine ⟨hle, ?_, by simp, ⟨?_, ?_, ?_, ?_⟩, ?_, ?_, ?_, ?_, fun b2 cs2 ci2 h1 h2 => ⟨by rw [hget, if_neg (by have := Mem.get_lt h1; omega), if_neg (hro b2 cs2 ci2 h1 h2).1]; exact h1, ho _ (hro b2 cs2 ci2 h1 h2).2⟩, by omega, e1, e2, e3⟩
  · intro x hx
    have : x ≠ m.next := by rintro rfl; simp at hx
    simp [this]
  · intro b2 v2 ci2 h1 h2
    rw [hget] at h1
    by_cases e : b2 = m.next
    · simp only [e, if_true] at h1 h2
      cases h1; cases h2
      exact ⟨_, hw, arr, el, fr, rfl, hn, fun _ => hf, fun i a hi => let ⟨v, x, y⟩ := hcs i a hi; ⟨v, x, y.mono hle⟩⟩
    · rw [if_neg e] at h1
      simp only [if_neg e] at h2
      split at h1
      · simp at h1
      · rename_i hbb
        have hne : ci2.c ≠ ci.c := by
          intro ec
          rcases h.inj b2 ci2 b ci (by rw [h1]; rfl) h2 hp ec with e' | ⟨_, e'⟩
          · exact hbb e'
          · rw [hb] at e'; simp at e'
        obtain ⟨o, h3, h4⟩ := h.has b2 v2 ci2 h1 h2
        exact ⟨o, by rw [ho _ hne]; exact h3, h4.mono hle⟩
  · intro b1 c1 b2 c2 h1 h2 h3 h4
    rw [hget] at h1
    by_cases x1 : b1 = m.next
    · simp only [x1, if_true] at h2
      cases h2
      by_cases x2 : b2 = m.next
      · exact .inl (x1.trans x2.symm)
      · simp only [if_neg x2] at h3
        right
        rcases h.inj b ci b2 c2 (by rw [hb]; rfl) hp h3 h4 with e | ⟨e, e'⟩
        · subst e
          refine ⟨by simp; omega, ?_⟩
          rw [hget, if_neg (by omega), if_pos rfl]
        · refine ⟨by simp; omega, ?_⟩
          rw [hget, if_neg x2]; split
          · rfl
          · exact e'
    · rw [if_neg x1] at h1
      simp only [if_neg x1] at h2
      split at h1
      · simp at h1
      · rename_i hbb
        by_cases x2 : b2 = m.next
        · simp only [x2, if_true] at h3
          cases h3
          rcases h.inj b1 c1 b ci h1 h2 hp h4 with e | ⟨e, e'⟩
          · exact absurd e hbb
          · rw [hb] at e'; simp at e'
        · simp only [if_neg x2] at h3
          rcases h.inj b1 c1 b2 c2 h1 h2 h3 h4 with e | ⟨e, e'⟩
          · exact .inl e
          · right
            refine ⟨by simp; omega, ?_⟩
            rw [hget, if_neg x2]; split
            · rfl
            · exact e'
  · intro x c hx
    rw [hs]
    split at hx
    · cases hx; exact h.bnd b ci hp
    · exact h.bnd x c hx
  · intro g hg
    obtain ⟨n, hn⟩ := h.glob g hg
    exact ⟨n, hle _ _ hn⟩
  · intro x hx1 hx2
    rw [hget, if_neg (by omega), if_neg]
    rintro rfl; rw [hp] at hx2; simp at hx2
  · intro x hx1 hx2
    rw [hget, if_neg (by omega)]; split
    · rfl
    · exact hx2
  · intro c hc hn'
    exact ho c fun e => hn' b ci (by rw [hb]; rfl) hp e.symm
  · intro x c h1 h2 h3
    simp at h2
    have : x = m.next := by omega
    simp only [this, if_true] at h3
    cases h3
    right; exact ⟨b, ci, by rw [hb]; rfl, hp, rfl⟩

/-- What is appended, or copied. -/
theorem srcA_sound (hm : MR P p m w) {sz : Nat} {x : AV} {x' : Value} (hx : VR p x x') {n : Nat} {vs : List AV} (h : srcA sz x m = some (n, vs)) :
    (∀ w2 : World, (Builtin.lenOf x').run P w2 = .ok n w2) ∧ vs.length = n * sz ∧
    ∃ vs', VRs p vs vs' ∧ ∀ k, k ≤ n → ∀ w2 : World, w2.heap = w.heap → (Builtin.firstCells sz k x').run P w2 = .ok ⟨vs'.take (k * sz)⟩ w2 := by
  unfold srcA at h
  split at h
  · cases h
    simp only [VR] at hx
    obtain ⟨_, _, rfl⟩ := hx
    refine ⟨fun _ => rfl, by simp, [], by simp [VRs], fun k hk w2 _ => ?_⟩
    simp [Builtin.firstCells]
  · rename_i a s len cap ex
    split at h
    · obtain ⟨cs, hcs, e⟩ := Option.map_eq_some_iff.1 h
      cases e
      simp only [VR, SR] at hx
      obtain ⟨ci, off, cap', hci, rfl, hlc, hcc, _, _, hoff⟩ := hx
      obtain ⟨vs', h1, h2, h3, h4⟩ := ldCells_sound (P := P) hm hci hcs
      refine ⟨fun _ => rfl, h3, vs', h2, fun k hk w2 hw2 => ?_⟩
      by_cases hl : n = 0
      · subst hl
        have : k = 0 := by omega
        subst this
        simp [Builtin.firstCells, loadCells, loadCellsFrom]
      · have e : off = a.o + ci.d := hoff (by omega)
        subst e
        have hlen := h2.length
        have hk2 : k * sz ≤ n * sz := Nat.mul_le_mul_right _ hk
        have := run_firstCells_some (P := P) w2 sz k ⟨ci.c, a.o + ci.d, none⟩ n cap' (vs'.take (k * sz)) (by simp; omega) (fun j v hj => by
          rw [← h4 j v (by rw [List.getElem?_take] at hj; split at hj <;> first | exact hj | simp at hj)]
          simp only [World.cell?, hw2])
        simpa using this
    · simp at h
  · rename_i s
    split at h
    case isFalse => simp at h
    rename_i hs1; subst hs1
    cases h
    simp only [VR] at hx; subst hx
    refine ⟨fun _ => rfl, by simp, s.map fun c => .int .u8 c.toNat, ?_, fun k hk w2 _ => ?_⟩
    · refine VRs.of_get (by simp) fun i a hi => ?_
      simp only [List.getElem?_map, Option.map_eq_some_iff] at hi ⊢
      obtain ⟨c, hc, rfl⟩ := hi
      exact ⟨_, ⟨c, hc, rfl⟩, by simp [VR]⟩
    · simp only [Builtin.firstCells, Sem.run_pure]
      congr 1
      apply Array.ext'
      rw [show (ByteArray.mk ⟨s⟩) = ByteArray.mk s.toArray from rfl, ByteArray.extract_mk]
      simp [List.map_take]
  · simp at h

/-! Maps turned. -/
theorem flat_get {α : Type} (zs : List α) : ∀ (k i : Nat), i < k * zs.length → (List.replicate k zs).flatten[i]? = zs[i % zs.length]?
  | 0, i, h => by simp at h
  | k + 1, i, h => by
    rw [List.replicate_succ, List.flatten_cons]
    by_cases hi : i < zs.length
    · rw [List.getElem?_append_left hi, Nat.mod_eq_of_lt hi]
    · rw [List.getElem?_append_right (by omega), flat_get zs k (i - zs.length) (by rw [Nat.add_mul] at h; omega)]
      congr 1
      have hle : zs.length ≤ i := by omega
      conv => rhs; rw [← Nat.sub_add_cancel hle]
      simp

theorem zeros_eq (zs : List Value) (k : Nat) : (Array.range (k * zs.length)).map ((⟨zs⟩ : Array Value)[· % zs.length]!) = ⟨(List.replicate k zs).flatten⟩ := by
  apply Array.ext'
  apply List.ext_getElem?
  intro i
  simp only [Array.toList_map, List.getElem?_map, Array.toList_range]
  by_cases hi : i < k * zs.length
  · rw [flat_get zs k i hi]
    have h0 : 0 < zs.length := by
      rcases Nat.eq_zero_or_pos zs.length with h | h
      · rw [h] at hi; simp at hi
      · exact h
    have hm : i % zs.length < zs.length := Nat.mod_lt _ h0
    rw [List.getElem?_range hi]
    simp [hm]
  · rw [List.getElem?_eq_none (by simpa using hi), List.getElem?_eq_none (by simp; omega)]
    rfl

theorem erase_mid {α : Type} (y : α) (e2 : List α) : ∀ e1 : List α, (e1 ++ y :: e2).eraseIdx e1.length = e1 ++ e2
  | [] => rfl
  | x :: e1 => by simp [erase_mid y e2 e1]
theorem ER.of_perm : ∀ {ces es : List MapEntry}, ces.Perm es → ∀ {l : List (AV × AV)}, ER p l ces → ∃ l', l'.Perm l ∧ ER p l' es := by
  intro ces es hp
  induction hp with
  | nil => intro l h; exact ⟨l, .refl _, h⟩
  | cons x _ ih =>
    intro l h
    cases l with
    | nil => simp [ER] at h
    | cons y l =>
      obtain ⟨k, v⟩ := y
      simp only [ER] at h
      obtain ⟨e, es', he, h1, h2, h3⟩ := h
      cases he
      obtain ⟨l', h4, h5⟩ := ih h3
      exact ⟨(k, v) :: l', h4.cons _, by simp only [ER]; exact ⟨_, _, rfl, h1, h2, h5⟩⟩
  | swap x y _ =>
    intro l h
    cases l with
    | nil => simp [ER] at h
    | cons z l =>
      obtain ⟨k, v⟩ := z
      simp only [ER] at h
      obtain ⟨e, es', he, h1, h2, h3⟩ := h
      cases he
      cases l with
      | nil => simp [ER] at h3
      | cons z l =>
        obtain ⟨k2, v2⟩ := z
        simp only [ER] at h3
        obtain ⟨e2, es2, he, h4, h5, h6⟩ := h3
        cases he
        exact ⟨(k2, v2) :: (k, v) :: l, .swap _ _ _, by simp only [ER]; exact ⟨_, _, rfl, h4, h5, _, _, rfl, h1, h2, h6⟩⟩
  | trans _ _ ih1 ih2 =>
    intro l h
    obtain ⟨l1, h1, h2⟩ := ih1 h
    obtain ⟨l2, h3, h4⟩ := ih2 h2
    exact ⟨l2, h3.trans h1, h4⟩
theorem mset_sound {d : TypeDesc} {k v : AV} {c cv : Value} (hk : VR p k c) (hv : VR p v cv) : ∀ {l : List (AV × AV)} {ces : List MapEntry} {u : AV}, ER p l ces → mget d k l = some (some u) →
    ∃ e1 x e2, ces = e1 ++ x :: e2 ∧ (∀ e ∈ e1, Instr.sameNow d c e.key = some false) ∧ (∀ e ∈ e2, Instr.sameNow d c e.key = some false) ∧ Instr.sameNow d c x.key = some true ∧ ER p (mset d k v l) (e1 ++ { x with key := c, val := cv } :: e2)
  | [], ces, u, h, e => by simp [mget] at e
  | (k', v') :: l, ces, u, h, e => by
    simp only [ER] at h
    obtain ⟨x, xs, rfl, h1, h2, h3⟩ := h
    simp only [mget] at e
    split at e
    · rename_i e1 e2
      obtain ⟨_, g2, _⟩ := mget_all hk h3 e2
      refine ⟨[], x, xs, rfl, by simp, g2 rfl, keyEq_sound hk h1 e1, ?_⟩
      have hrest : ∀ {l : List (AV × AV)} , mget d k l = some none → mset d k v l = l := by
        intro l
        induction l with
        | nil => intro _; rfl
        | cons y l ih =>
          obtain ⟨k2, v2⟩ := y
          intro h
          simp only [mget] at h
          split at h
          · cases h
          · rename_i f1 f2
            cases h
            have := ih f2
            unfold mset at this ⊢
            simp only [List.map_cons, f1]
            rw [this]; simp
          · cases h
      simp only [List.nil_append, mset, List.map_cons, e1, if_true, ER]
      refine ⟨_, _, rfl, hk, hv, ?_⟩
      have := hrest e2
      unfold mset at this
      rw [this]; exact h3
    · rename_i r' e1 e2
      cases e
      obtain ⟨l1, y, l2, rfl, f1, f2, f3, f4⟩ := mset_sound hk hv h3 e2
      refine ⟨x :: l1, y, l2, rfl, fun z hz => ?_, f2, f3, ?_⟩
      · rcases List.mem_cons.1 hz with rfl | hz
        · exact keyEq_sound hk h1 e1
        · exact f1 z hz
      · have : (some false : Option Bool) = some true ↔ False := by simp
        simp only [List.cons_append, mset, List.map_cons, e1, this, if_false, ER]
        exact ⟨_, _, rfl, h1, h2, f4⟩
    · cases e
theorem mdel_sound {d : TypeDesc} {k : AV} {c : Value} (hk : VR p k c) : ∀ {l : List (AV × AV)} {ces : List MapEntry} {u : AV}, ER p l ces → mget d k l = some (some u) →
    ∃ e1 x e2, ces = e1 ++ x :: e2 ∧ (∀ e ∈ e1, Instr.sameNow d c e.key = some false) ∧ (∀ e ∈ e2, Instr.sameNow d c e.key = some false) ∧ Instr.sameNow d c x.key = some true ∧ ER p (l.filter fun e => !(keyEq d k e.1 == some true)) (e1 ++ e2)
  | [], ces, u, h, e => by simp [mget] at e
  | (k', v') :: l, ces, u, h, e => by
    simp only [ER] at h
    obtain ⟨x, xs, rfl, h1, h2, h3⟩ := h
    simp only [mget] at e
    split at e
    · rename_i e1 e2
      obtain ⟨_, g2, _⟩ := mget_all hk h3 e2
      refine ⟨[], x, xs, rfl, by simp, g2 rfl, keyEq_sound hk h1 e1, ?_⟩
      have hrest : ∀ {l : List (AV × AV)} , mget d k l = some none → (l.filter fun e => !(keyEq d k e.1 == some true)) = l := by
        intro l
        induction l with
        | nil => intro _; rfl
        | cons y l ih =>
          obtain ⟨k2, v2⟩ := y
          intro h
          simp only [mget] at h
          split at h
          · cases h
          · rename_i f1 f2
            cases h
            rw [List.filter_cons, if_pos (by simp [f1]), ih f2]
          · cases h
      rw [List.filter_cons, if_neg (by simp [e1]), hrest e2]
      exact h3
    · rename_i r' e1 e2
      cases e
      obtain ⟨l1, y, l2, rfl, f1, f2, f3, f4⟩ := mdel_sound hk h3 e2
      refine ⟨x :: l1, y, l2, rfl, fun z hz => ?_, f2, f3, ?_⟩
      · rcases List.mem_cons.1 hz with rfl | hz
        · exact keyEq_sound hk h1 e1
        · exact f1 z hz
      · rw [List.filter_cons, if_pos (by simp [e1])]
        simp only [List.cons_append, ER]
        exact ⟨_, _, rfl, h1, h2, f4⟩
    · cases e
theorem mset_perm {d : TypeDesc} {k v : AV} {l es : List (AV × AV)} (h : l.Perm es) : (mset d k v l).Perm (mset d k v es) := h.map _
theorem mget_none_new {k v : AV} {c cv : Value} (hk : VR p k c) (hv : VR p v cv) {l : List (AV × AV)} {ces : List MapEntry} (h : ER p l ces) (n : Nat) : ER p (l ++ [(k, v)]) (ces ++ [{ key := c, val := cv, born := n }]) := by
  induction l generalizing ces with
  | nil => simp only [ER] at h; subst h; simp only [List.nil_append, ER]; exact ⟨_, _, rfl, hk, hv, rfl⟩
  | cons x l ih =>
    obtain ⟨k', v'⟩ := x
    simp only [ER] at h
    obtain ⟨e, es, rfl, h1, h2, h3⟩ := h
    simp only [List.cons_append, ER]
    exact ⟨_, _, rfl, h1, h2, ih h3⟩
theorem modify_mid {α : Type} (f : α → α) (y : α) (e2 : List α) : ∀ e1 : List α, (e1 ++ y :: e2).modify e1.length f = e1 ++ f y :: e2
  | [] => rfl
  | x :: e1 => by simp [modify_mid f y e2 e1]
theorem sameBits_int (k : IntKind) (n : Int) : Instr.sameBits 10000 (.int k n) (.int k n) = true := by simp [Instr.sameBits]
theorem sameBits_str (s : List UInt8) : Instr.sameBits 10000 (.string ⟨⟨s⟩⟩) (.string ⟨⟨s⟩⟩) = true := by
  simp only [Instr.sameBits]
  rw [str_beq]; simp
theorem sameNow_eq {d : TypeDesc} {k : AV} {c x : Value} {bb : Bool} (hk : VR p k c) (e : keyEq d k k = some bb) (h : Instr.sameNow d c x = some true) : x = c ∧ Instr.sameBits 10000 x c = true := by
  unfold keyEq at e
  split at e
  · simp only [VR] at hk; subst hk
    split at e
    · cases x <;> simp only [Instr.sameNow] at h <;> first | (cases h; done) | skip
      split at h
      · rename_i e1; subst e1
        have h' := beq_iff_eq.1 (Option.some.inj h)
        subst h'
        exact ⟨rfl, sameBits_int _ _⟩
      · cases h
    · cases e
  · simp only [VR] at hk; subst hk
    split at e
    · cases x <;> simp only [Instr.sameNow] at h <;> first | (cases h; done) | skip
      rename_i t
      obtain ⟨⟨t⟩⟩ := t
      simp only [Option.some.injEq] at h
      rw [str_beq] at h
      have := beq_iff_eq.1 h
      subst this
      exact ⟨rfl, sameBits_str _⟩
    · cases e
  · cases e

theorem turn_map (hm : MR P p m w) {b : Nat} {ci : CI} {es es' : List (AV × AV)} (hb : m.get b = some (.map es)) (hp : p b = some ci) {ces ces' : Array MapEntry} {clock clock' : Nat} (hc : w.heap[ci.c]? = some (.map ces clock))
    (hl : ∃ l, l.Perm es' ∧ ER p l ces'.toList) (hn : (ces'.toList.map (·.born)).Nodup) (hlt : ∀ e ∈ ces'.toList, e.born < clock') :
    Sim P p m w p (m.put b (some (.map es'))) { w with heap := w.heap.setIfInBounds ci.c (.map ces' clock') } := by
  have hlt2 := (Array.getElem?_eq_some_iff.1 hc).1
  refine Sim.turnV hm hb (by simp) hp (o := .map ces' clock') (Array.getElem?_setIfInBounds_self_of_lt hlt2) (fun c hc => ?_) (by simp) rfl rfl rfl fun x hx => ?_
  · exact Array.getElem?_setIfInBounds_ne (Ne.symm hc)
  · cases hx; exact ⟨ces', clock', rfl, hl, hn, hlt⟩

theorem mapPut_sound (hm : MR P p m w) {t : TypeId} {x k v : AV} {x' k' v' : Value} (hx : VR p x x') (hk : VR p k k') (hv : VR p v v') {m' : Mem} (h : mapPut P t x k v m = some m') :
    ∃ w', (Instr.mapUpdate t x' k' v').run P w = .ok () w' ∧ Sim P p m w p m' w' := by
  unfold mapPut at h
  split at h
  · rename_i key elem b hd
    obtain ⟨d, h1, h⟩ := Option.bind_eq_some_iff.1 h
    split at h
    · rename_i es hb
      obtain ⟨bb, h3, h⟩ := Option.bind_eq_some_iff.1 h
      obtain ⟨es', h4, rfl⟩ := Option.map_eq_some_iff.1 h
      simp only [VR] at hx
      obtain ⟨ci, hp, rfl⟩ := hx
      obtain ⟨o, hc, ces, clock, rfl, ⟨l, h6, h7⟩, h8, h9⟩ := hm.has b _ ci hb hp
      obtain ⟨ces', q1, q2⟩ := h7.perm h6
      have hkind := (keyEq_kind hk h3).1
      unfold mput at h4
      split at h4
      · rename_i hg
        cases h4
        obtain ⟨g1, g2, _⟩ := mget_all hk q2 hg
        have hn : Instr.findNow d k' ces.toList 0 = some none := findNow_none fun e he => g2 rfl e (q1.mem_iff.1 he)
        refine ⟨_, ?_, turn_map hm hb hp hc (ces' := ces.push { key := k', val := v', born := clock }) (clock' := clock + 1) ?_ ?_ ?_⟩
        · simp only [Instr.mapUpdate, Sem.run_bind, run_under hd, Result.andThen_ok, run_getObj hc (by simp), run_checkKey h1 hkind, run_findKey h1 hn]
          rw [run_setObj hc (by simp)]
        · refine ⟨l ++ [(k, v)], h6.append_right _, ?_⟩
          simp only [Array.toList_push]
          exact mget_none_new hk hv h7 clock
        · simp only [Array.toList_push, List.map_append, List.map_cons, List.map_nil]
          rw [List.nodup_append]
          refine ⟨h8, by simp, ?_⟩
          intro a ha c hc
          simp only [List.mem_singleton] at hc
          subst hc
          obtain ⟨e, he, rfl⟩ := List.mem_map.1 ha
          have := h9 e he
          omega
        · intro e he
          simp only [Array.toList_push, List.mem_append, List.mem_singleton] at he
          rcases he with he | rfl
          · have := h9 e he; omega
          · simp
      · rename_i u hg
        cases h4
        obtain ⟨l1, y, l2, rfl, f1, f2, f3, f4⟩ := mset_sound hk hv q2 hg
        obtain ⟨e1, e2, he, hpp, q3, q4⟩ := split_perm f1 f2 q1
        have hs : Instr.findNow d k' ces.toList 0 = some (some (0 + e1.length, y.val)) := by rw [he]; exact findNow_some f3 q3
        have hy := sameNow_eq hk h3 f3
        have hce : ces = ⟨e1 ++ y :: e2⟩ := by apply Array.ext'; exact he
        subst hce
        have hget : ((⟨e1 ++ y :: e2⟩ : Array MapEntry)[0 + e1.length]?) = some y := by simp
        refine ⟨_, ?_, turn_map hm hb hp hc (ces' := ⟨e1 ++ { y with key := k', val := v' } :: e2⟩) (clock' := clock) ?_ ?_ ?_⟩
        · simp only [Instr.mapUpdate, Sem.run_bind, run_under hd, Result.andThen_ok, run_getObj hc (by simp), run_checkKey h1 hkind, run_findKey h1 hs]
          simp only [hget, Option.map_some, Option.getD_some, Instr.keyThatStays, hy.2, if_true, Sem.run_pure, Result.andThen_ok]
          rw [run_setObj hc (by simp)]
          congr 3
          congr 1
          apply Array.ext'
          simp only [Array.toList_modify, Nat.zero_add]
          exact modify_mid _ _ _ _
        · exact ER.of_perm ((List.perm_middle (l₁ := l1)).trans (((hpp.symm).cons _).trans (List.perm_middle (l₁ := e1)).symm)) f4
        · simpa using h8
        · intro e he
          simp only [List.mem_append, List.mem_cons] at he h9
          rcases he with he | rfl | he
          · exact h9 e (.inl he)
          · exact h9 y (.inr (.inl rfl))
          · exact h9 e (.inr (.inr he))
      · cases h4
    · cases h
  · cases h

theorem mapDel_sound (hm : MR P p m w) {t : TypeId} {x k : AV} {x' k' : Value} (hx : VR p x x') (hk : VR p k k') {m' : Mem} (h : mapDel P t x k m = some m') {ty : TypeId} {ts : List TypeId} :
    ∃ w', (Builtin.delete_ ⟨t :: ts⟩ ty #[x', k']).run P w = .ok (.tuple #[]) w' ∧ Sim P p m w p m' w' := by
  unfold mapDel at h
  split at h
  · rename_i key elem b hd
    obtain ⟨d, h1, h⟩ := Option.bind_eq_some_iff.1 h
    split at h
    · rename_i es hb
      obtain ⟨bb, h3, h⟩ := Option.bind_eq_some_iff.1 h
      obtain ⟨es', h4, rfl⟩ := Option.map_eq_some_iff.1 h
      simp only [VR] at hx
      obtain ⟨ci, hp, rfl⟩ := hx
      obtain ⟨o, hc, ces, clock, rfl, ⟨l, h6, h7⟩, h8, h9⟩ := hm.has b _ ci hb hp
      obtain ⟨ces', q1, q2⟩ := h7.perm h6
      have hkind := (keyEq_kind hk h3).1
      unfold mdel at h4
      split at h4
      · rename_i r hg
        cases h4
        cases r with
        | none =>
          obtain ⟨g1, g2, _⟩ := mget_all hk q2 hg
          have hn : Instr.findNow d k' ces.toList 0 = some none := findNow_none fun e he => g2 rfl e (q1.mem_iff.1 he)
          have hrest : ∀ {l : List (AV × AV)} , mget d k l = some none → (l.filter fun e => !(keyEq d k e.1 == some true)) = l := by
            intro l
            induction l with
            | nil => intro _; rfl
            | cons y l ih =>
              obtain ⟨k2, v2⟩ := y
              intro h
              simp only [mget] at h
              split at h
              · cases h
              · rename_i f1 f2
                cases h
                rw [List.filter_cons, if_pos (by simp [f1]), ih f2]
              · cases h
          refine ⟨_, ?_, turn_map hm hb hp hc (ces' := ces) (clock' := clock) (by rw [hrest hg]; exact ⟨l, h6, h7⟩) h8 h9⟩
          simp only [Builtin.delete_, List.getElem?_toArray, List.getElem?_cons_zero, List.getElem?_cons_succ, Sem.run_bind, run_under hd, Result.andThen_ok, run_getObj hc (by simp), run_checkKey h1 hkind, run_findKey h1 hn]
          rw [run_setObj hc (by simp)]
          rfl
        | some u =>
          obtain ⟨l1, y, l2, rfl, f1, f2, f3, f4⟩ := mdel_sound hk q2 hg
          obtain ⟨e1, e2, he, hpp, q3, q4⟩ := split_perm f1 f2 q1
          have hs : Instr.findNow d k' ces.toList 0 = some (some (0 + e1.length, y.val)) := by rw [he]; exact findNow_some f3 q3
          have hce : ces = ⟨e1 ++ y :: e2⟩ := by apply Array.ext'; exact he
          subst hce
          have her : (⟨e1 ++ y :: e2⟩ : Array MapEntry).eraseIdxIfInBounds (0 + e1.length) = ⟨e1 ++ e2⟩ := by
            apply Array.ext'
            simp [Array.eraseIdxIfInBounds, erase_mid]
          refine ⟨_, ?_, turn_map hm hb hp hc (ces' := ⟨e1 ++ e2⟩) (clock' := clock) (ER.of_perm hpp.symm f4) ?_ ?_⟩
          · simp only [Builtin.delete_, List.getElem?_toArray, List.getElem?_cons_zero, List.getElem?_cons_succ, Sem.run_bind, run_under hd, Result.andThen_ok, run_getObj hc (by simp), run_checkKey h1 hkind, run_findKey h1 hs, her]
            rw [run_setObj hc (by simp)]
            rfl
          · simp only [List.map_append, List.map_cons] at h8 ⊢
            exact h8.sublist (List.Sublist.append_left (List.sublist_cons_self _ _) _)
          · intro e he
            simp only [List.mem_append, List.mem_cons] at he h9
            rcases he with he | he
            · exact h9 e (.inl he)
            · exact h9 e (.inr (.inr he))
      · cases h4
    · cases h
  · cases h

theorem clearA_sound (hm : MR P p m w) {t : TypeId} {x : AV} {x' : Value} (hx : VR p x x') {m' : Mem} (h : clearA P t x m = some m') {ty : TypeId} {ts : List TypeId} :
    ∃ w', (Builtin.clear_ ⟨t :: ts⟩ ty #[x']).run P w = .ok (.tuple #[]) w' ∧ Sim P p m w p m' w' := by
  unfold clearA at h
  split at h
  · rename_i e hd
    split at h
    · cases h
      simp only [VR] at hx
      obtain ⟨_, _, rfl⟩ := hx
      exact ⟨w, by simp [Builtin.clear_, run_under hd], Sim.refl hm⟩
    · rename_i a sz len _ ex
      obtain ⟨zs, h1, h⟩ := Option.bind_eq_some_iff.1 h
      obtain ⟨n, h2, h⟩ := Option.bind_eq_some_iff.1 h
      simp only [VR, SR] at hx
      obtain ⟨ci, off, cap', hci, rfl, hlc, hcc, hex, hbd, hoff⟩ := hx
      split at h
      · rename_i h0
        cases h; subst h0
        exact ⟨w, by simp [Builtin.clear_, run_under hd], Sim.refl hm⟩
      · rename_i h0
        split at h
        · rename_i hs
          obtain ⟨z, zs', g1, g2, g3, g4, _⟩ := zeroA_sound (p := p) (w := w) h1
          have hall : (List.replicate len zs).flatten.all AV.one = true := by
            rw [List.all_eq_true] at g4 ⊢
            intro v hv
            simp only [List.mem_flatten, List.mem_replicate] at hv
            obtain ⟨l, ⟨_, rfl⟩, hv⟩ := hv
            exact g4 v hv
          obtain ⟨w', f1, f2⟩ := stCells_sound (P := P) hm hci (g3.flat len) hall h
          refine ⟨w', ?_, f2⟩
          have ho : off = a.o + ci.d := hoff (by omega)
          subst ho
          have hlen : len ≠ 0 := h0
          have hz0 : (Builtin.zeroCells (⟨zs'⟩ : Array Value) len).toList = (List.replicate len zs').flatten := by
            have := zeros_eq zs' len
            unfold Builtin.zeroCells
            simp only [List.size_toArray] at this ⊢
            rw [this]
          simp only [Builtin.clear_, List.getElem?_toArray, List.getElem?_cons_zero, Sem.run_bind, run_under hd, Result.andThen_ok]
          have : (storeCells ⟨ci.c, a.o + ci.d, none⟩ (Builtin.zeroCells z.cells len).toList).run P w = .ok () w' := by
            rw [g2, hz0]; exact f1
          simp only [g1, Result.andThen_ok, this]
          rfl
        · cases h
    · cases h
  · cases h

theorem mapPut_next {t : TypeId} {x k v : AV} {m' : Mem} (h : mapPut P t x k v m = some m') : m'.next = m.next := by
  unfold mapPut at h
  split at h
  · obtain ⟨d, h1, h⟩ := Option.bind_eq_some_iff.1 h
    split at h
    · obtain ⟨bb, h3, h⟩ := Option.bind_eq_some_iff.1 h
      obtain ⟨es', h4, rfl⟩ := Option.map_eq_some_iff.1 h
      rfl
    · cases h
  · cases h
theorem mapDel_next {t : TypeId} {x k : AV} {m' : Mem} (h : mapDel P t x k m = some m') : m'.next = m.next := by
  unfold mapDel at h
  split at h
  · obtain ⟨d, h1, h⟩ := Option.bind_eq_some_iff.1 h
    split at h
    · obtain ⟨bb, h3, h⟩ := Option.bind_eq_some_iff.1 h
      obtain ⟨es', h4, rfl⟩ := Option.map_eq_some_iff.1 h
      rfl
    · cases h
  · cases h
theorem clearA_next {t : TypeId} {x : AV} {m' : Mem} (h : clearA P t x m = some m') : m'.next = m.next := by
  unfold clearA at h
  split at h
  · split at h
    · cases h; rfl
    · obtain ⟨zs, h1, h⟩ := Option.bind_eq_some_iff.1 h
      obtain ⟨n, h2, h⟩ := Option.bind_eq_some_iff.1 h
      split at h
      · cases h; rfl
      · split at h
        · obtain ⟨_, _, _, rfl⟩ := stCells_spec h; rfl
        · cases h
    · cases h
  · cases h
end
end Go.Abs
