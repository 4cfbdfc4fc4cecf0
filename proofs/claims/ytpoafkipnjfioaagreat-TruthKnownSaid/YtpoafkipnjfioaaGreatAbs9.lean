/- append, copy, new blocks. -/
import Derived.Test.YtpoafkipnjfioaaGreatAbs8
import Derived.Deep.AppendSrc
import Derived.Lib.AppendZerosOnto
import Derived.Laws.MakeOwn
namespace Go.Abs
open Go

section
variable {P : Program} {p : Phi} {m : Mem} {w : World}

theorem appElem_spec {st xt : TypeId} {nw : Nat × Nat} (h : appElem P st xt = some nw) : ∃ e i z, P.underlying st = some (.slice e) ∧ P.info? e = some i ∧ i.zero = some z ∧ nw = (i.size, i.bytes) ∧ z.cells.size = i.size ∧ 0 < i.bytes ∧
    ((∃ e', P.underlying xt = some (.slice e')) ∨ P.underlying xt = some .string) := by
  unfold appElem at h
  split at h
  · rename_i e he
    split at h
    · rename_i i hk hi
      split at h
      · rename_i z hz
        split at h
        · rename_i hzz
          cases h
          refine ⟨e, i, z, he, hi, hz, rfl, hzz.1, hzz.2, ?_⟩
          cases hd : P.underlying xt with
          | none => simp [hd] at hk
          | some d => cases d <;> simp [hd] at hk <;> simp
        · simp at h
      · simp at h
    · simp at h
  · simp at h

theorem src_of (hm : MR P p m w) {xt : TypeId} (hk : (∃ e', P.underlying xt = some (.slice e')) ∨ P.underlying xt = some .string) {sz : Nat} {x : AV} {x' : Value} (hx : VR p x x') {n : Nat} {vs : List AV}
    (h : srcA sz x m = some (n, vs)) (h1 : vs.all AV.one = true) : ∃ news, Src P sz xt x' n news w ∧ VRs p vs news := by
  obtain ⟨a1, a2, vs', a3, a4⟩ := srcA_sound (P := P) hm hx h
  have hl := a3.length
  have b1 := a4 n (Nat.le_refl n) w rfl
  have b2 := a4 n (Nat.le_refl n) w.drew rfl
  rw [List.take_of_length_le (by omega)] at b1 b2
  exact ⟨vs', ⟨hk, a1, b1, b2, by omega, a3.ones h1⟩, a3⟩

/-- append. -/
theorem appendA_sound (hm : MR P p m w) (hG : P.globals.size ≤ m.next) {st xt ty : TypeId} {nw : Nat × Nat} (hel : appElem P st xt = some nw) {s x : AV} {s' x' : Value} (hs : VR p s s') (hx : VR p x x') {v : AV} {m' : Mem}
    (hfree : Free p m.next m'.next) (h : appendA nw.1 nw.2 s x m = some (v, m')) :
    ∃ cv w' p', (Builtin.append_ #[st, xt] ty #[s', x']).run P w = .ok cv w' ∧ VR p' v cv ∧ Sim P p m w p' m' w' := by
  obtain ⟨e, i, z, hst, hi, hz, rfl, hzs, hb0, hk⟩ := appElem_spec hel
  unfold appendA at h
  split at h
  · simp at h
  rename_i n new hsrc
  split at h
  · simp at h
  rename_i hone
  have hone : new.all AV.one = true := by simpa using hone
  obtain ⟨news, hS, hnews⟩ := src_of (P := P) hm hk hx hsrc hone
  have hlen := hnews.length
  have hnl := hS.newsLen
  simp only at h hsrc hS hnl
  -- what grows
  have grow : ∀ {base : Option Addr} {len cap' : Nat} {olds : List Value} {old : List AV}, (Builtin.firstCells i.size len (.slice base len cap')).run P w.drew = .ok olds.toArray w.drew → VRs p old olds →
      olds.length = len * i.size → cap' < len + n → (len + n) * i.bytes ≤ maxBytes → ∀ {m1 : Mem}, MR P p m1 w → P.globals.size ≤ m1.next → p m1.next = none →
      ∃ cv w' p', (Builtin.append_ #[st, xt] ty #[.slice base len cap', x']).run P w = .ok cv w' ∧
        VR p' (.sl (some ⟨m1.next, 0⟩) i.size (len + n) (len + n) false) cv ∧ Sim P p m1 w p' (m1.alloc (old ++ new)) w' := by
    intro base len cap' olds old hold hro hol hcap hby m1 hm1 hG1 hf1
    have hle : len + n ≤ (len + n) * i.bytes := Nat.le_mul_of_pos_right _ hb0
    unfold maxBytes at hby
    have hfit := growslice_fits (need := len + n) (old := cap') (bytes := i.bytes) hcap (by omega)
    have hrun := run_append_grow_src (P := P) w st xt ty e i z hst hi hz base len cap' olds hold x' n news hS hcap (by omega) hfit
    refine ⟨_, _, _, hrun, ?_, Sim.alloc (el := e) (fr := (0, 0)) (arr := (olds ++ news).toArray ++ Builtin.zeroCells z.cells (grownCap w (len + n) cap' e - (len + n))) hm1 hG1 hf1 rfl rfl rfl rfl (by simp) ?_⟩
    · simp only [VR, SR]
      refine ⟨⟨w.heap.size, 0, _⟩, 0, grownCap w (len + n) cap' e, by rw [if_pos trivial], rfl, Nat.le_refl _, grownCap_ge w _ _ e, by simp, fun _ => ?_, fun _ => by simp⟩
      have hge := grownCap_ge w (len + n) cap' e
      simp only [Array.size_append, List.size_toArray, List.length_append, hol, hnl, size_zeroCells, hzs, Nat.zero_add]
      rw [← Nat.add_mul, ← Nat.add_mul]
      apply Nat.mul_le_mul_right
      omega
    · intro j a hj
      obtain ⟨v, h1, h2⟩ := (hro.append hnews).get hj
      refine ⟨v, ?_, h2⟩
      rw [Array.getElem?_append_left]
      · simpa using h1
      · have := (List.getElem?_eq_some_iff.1 h1).1
        simpa using this
  split at h
  · -- a nil slice
    simp only [VR] at hs
    obtain ⟨_, _, rfl⟩ := hs
    split at h
    · rename_i hn0
      cases h
      subst hn0
      have hnil : news = [] := List.length_eq_zero_iff.1 (by omega)
      subst hnil
      refine ⟨.slice none 0 0, w, p, ?_, by simp [VR], Sim.refl hm⟩
      rcases hk with ⟨e', hk⟩ | hk <;> simp [Builtin.append_, run_underlying hst, run_underlying hk, sizeOf, typeInfo, hi, hS.len, hS.cells]
    · rename_i hn0
      split at h
      · rename_i hby
        cases h
        obtain ⟨cv, w', p', h1, h2, h3⟩ := grow (base := none) (len := 0) (cap' := 0) (olds := []) (old := []) (by simp [Builtin.firstCells]) (by simp [VRs]) (by simp) (by omega) (by simpa using hby) hm hG
          (hfree _ (Nat.le_refl _) (by simp))
        refine ⟨cv, w', p', h1, ?_, by simpa using h3⟩
        simpa using h2
      · simp at h
  · rename_i a s' len cap ex
    split at h
    · rename_i hss
      have hszf : ex = false → s' = i.size := fun h => by rcases hss with e | e; · exact e
                                                          · rw [h] at e; cases e
      simp only [VR, SR] at hs
      obtain ⟨ci, off, cap', hci, rfl, hlc, hcc, hex, hbd0, hoff⟩ := hs
      have hbd : ex = false → off + cap' * i.size ≤ ci.n := fun h => by rw [← hszf h]; exact hbd0 h
      split at h
      · -- in place
        rename_i hroom
        obtain ⟨m1, hst1, e1⟩ := Option.map_eq_some_iff.1 h
        cases e1
        obtain ⟨cs, hc, hle, _⟩ := stCells_spec hst1
        obtain ⟨arr, el, fr, q1, q2, q3, q4⟩ := hm.live a.b cs false ci hc hci
        have q3 := q3 rfl
        by_cases h0 : n = 0
        · subst h0
          have hnil : news = [] := List.length_eq_zero_iff.1 (by omega)
          subst hnil
          have hnil2 : new = [] := List.length_eq_zero_iff.1 (by simpa using hlen.symm)
          subst hnil2
          obtain ⟨w', h4, h5⟩ := stCells_sound (P := P) hm (a := ⟨a.b, a.o + len * i.size⟩) (vs' := []) hci (by simp [VRs]) rfl hst1
          simp only [storeCells, Sem.run_pure] at h4
          cases h4
          refine ⟨_, w, p, run_append_room_src (P := P) w st xt ty e i hst hi ci.c off len cap' x' 0 [] hS (by omega) (by simp) (by simp), ?_, ?_⟩
          · simp only [VR, SR]
            exact ⟨ci, off, cap', hci, rfl, by omega, hcc, hex, hbd, hoff⟩
          · exact h5
        · have hoff' : off = a.o + ci.d := hoff (by omega)
          subst hoff'
          obtain ⟨w', h4, h5⟩ := stCells_sound (P := P) hm (a := ⟨a.b, a.o + len * i.size⟩) hci hnews hone hst1
          have hfit : a.o + ci.d + len * i.size + news.length ≤ arr.size ∨ news.length = 0 := by
            by_cases hz0 : news.length = 0
            · exact .inr hz0
            · left
              have hlast : 0 < cs.length := by simp only at hle; omega
              obtain ⟨v, hv', _⟩ := q4 (cs.length - 1) (cs[cs.length - 1]'(by omega)) (List.getElem?_eq_getElem (by omega))
              have := (Array.getElem?_eq_some_iff.1 hv').1
              simp only at hle
              omega
          have hr := run_append_room_src (P := P) w st xt ty e i hst hi ci.c (a.o + ci.d) len cap' x' n news hS (by omega)
            (fun j hj => by rw [cell_of_arr q1]; rcases hfit with hf | hf <;> simp <;> omega)
            (fun j hj => by
              simp only [World.frozen?, q1]
              rcases hfit with hf | hf
              · have := q3 (a.o + ci.d + len * i.size + j)
                simpa using this
              · omega)
          have hw' : w' = w.setCells ci.c (a.o + ci.d + len * i.size) news := by
            by_cases hz0 : news.length = 0
            · have : news = [] := List.length_eq_zero_iff.1 hz0
              subst this
              simp only [storeCells, Sem.run_pure] at h4; cases h4; rfl
            · have h6 := storeCells_run (P := P) (off := a.o + ci.d + len * i.size) (vs := news) q1 (by rcases hfit with hf | hf <;> omega) q3 hS.one
              simp only [show a.o + len * i.size + ci.d = a.o + ci.d + len * i.size by omega] at h4
              rw [h6] at h4; cases h4; rfl
          subst hw'
          refine ⟨_, _, p, hr, ?_, h5⟩
          simp only [VR, SR]
          exact ⟨ci, a.o + ci.d, cap', hci, rfl, by omega, hcc, hex, hbd, fun _ => rfl⟩
      · rename_i hroom
        split at h
        · rename_i hby
          split at h
          · rename_i old hold
            obtain ⟨cs, ro, hc, hle, hold'⟩ := ldCells_spec hold
            obtain ⟨olds, o1, o2, o3, o4⟩ := ldCells_sound (P := P) hm hci hold
            have hol := o2.length
            -- the cells ahead
            have hfirst : (Builtin.firstCells i.size len (.slice (some ⟨ci.c, off, none⟩) len cap')).run P w.drew = .ok olds.toArray w.drew := by
              by_cases hl : len = 0
              · subst hl
                have : olds = [] := List.length_eq_zero_iff.1 (by omega)
                subst this
                simp [Builtin.firstCells, loadCells, loadCellsFrom]
              · have : off = a.o + ci.d := hoff (by omega)
                subst this
                simpa [Builtin.firstCells] using o1 w.drew rfl
            cases ex with
            | true =>
              simp only [if_true] at h
              cases h
              have := hex rfl
              subst this
              exact grow hfirst o2 (by omega) (by omega) hby hm hG (hfree _ (Nat.le_refl _) (by simp))
            | false =>
              simp only [Bool.false_eq_true, if_false, hc] at h
              cases ro with
              | true => simp at h
              | false =>
              simp only at h
              cases h
              have hkill := Sim.kill hm hc hci
              by_cases hcap : cap' < len + n
              · obtain ⟨cv, w', p', h1, h2, h3⟩ := grow hfirst o2 (by omega) hcap hby hkill.rel (by simpa using hG) (by simpa using hfree _ (Nat.le_refl _) (by simp))
                exact ⟨cv, w', p', h1, h2, hkill.trans h3 (by simpa using hfree)⟩
              · -- there is room, in truth
                have hoff' : off = a.o + ci.d := hoff (by omega)
                subst hoff'
                obtain ⟨arr, el, fr, q1, q2, q3, q4⟩ := hm.live a.b cs false ci hc hci
                have q3 := q3 rfl
                have hfit : a.o + ci.d + len * i.size + news.length ≤ arr.size := by
                  have := hbd rfl
                  have h2 : (len + n) * i.size ≤ cap' * i.size := Nat.mul_le_mul_right _ (by omega)
                  rw [Nat.add_mul] at h2
                  omega
                have hr := run_append_room_src (P := P) w st xt ty e i hst hi ci.c (a.o + ci.d) len cap' x' n news hS (by omega)
                  (fun j hj => by rw [cell_of_arr q1]; simp; omega)
                  (fun j hj => by
                    simp only [World.frozen?, q1]
                    have := q3 (a.o + ci.d + len * i.size + j)
                    simpa using this)
                obtain ⟨arr', f1, f2, f3, f4, f5, f6, f7, f8⟩ := setCells_spec ci.c news (a.o + ci.d + len * i.size) w q1 hfit
                refine ⟨_, _, _, hr, ?_, Sim.takeOver (d := a.o + ci.d) hm hG hc hci (hfree _ (Nat.le_refl _) (by simp)) f1 (by omega) q3 ?_ f4 f5 f6 f7 f8⟩
                · simp only [VR, SR]
                  exact ⟨⟨ci.c, a.o + ci.d, ci.n⟩, a.o + ci.d, cap', by rw [if_pos trivial], rfl, Nat.le_refl _, by omega, by simp, fun _ => hbd rfl, fun _ => by simp⟩
                · intro j x hj
                  rw [List.getElem?_append] at hj
                  rw [f3]
                  split at hj
                  · rename_i hjl
                    rw [if_neg (by omega)]
                    have hj' := hj
                    rw [hold', List.getElem?_take, if_pos (by omega), List.getElem?_drop] at hj'
                    obtain ⟨v, g1, g2⟩ := q4 _ x hj'
                    exact ⟨v, by rw [← g1]; congr 1; omega, g2⟩
                  · rename_i hjl
                    obtain ⟨v, g1, g2⟩ := hnews.get hj
                    have := (List.getElem?_eq_some_iff.1 g1).1
                    refine ⟨v, ?_, g2⟩
                    rw [if_pos (by omega), ← g1]; congr 1; omega
          · simp at h
        · simp at h
    · simp at h
  · simp at h

theorem appendA_next {sz wd : Nat} {s x v : AV} {m' : Mem} (h : appendA sz wd s x m = some (v, m')) : m.next ≤ m'.next := by
  unfold appendA at h
  split at h
  · simp at h
  · split at h
    · simp at h
    · split at h
      · split at h
        · cases h; exact Nat.le_refl _
        · split at h
          · cases h; simp
          · simp at h
      · split at h
        · split at h
          · obtain ⟨m1, h5, e⟩ := Option.map_eq_some_iff.1 h
            cases e
            obtain ⟨_, _, _, rfl⟩ := stCells_spec h5; simp
          · split at h
            · split at h
              · split at h
                · cases h; simp
                · split at h
                  · cases h; simp
                  · simp at h
              · simp at h
            · simp at h
        · simp at h
      · simp at h
theorem appendZ_next {st : TypeId} {s x v : AV} {m' : Mem} (h : appendZ P st s x m = some (v, m')) : m.next ≤ m'.next := by
  unfold appendZ at h
  split at h
  · obtain ⟨zs, h1, h⟩ := Option.bind_eq_some_iff.1 h
    obtain ⟨n, h2, h⟩ := Option.bind_eq_some_iff.1 h
    obtain ⟨b, h3, h⟩ := Option.bind_eq_some_iff.1 h
    split at h
    · split at h
      · obtain ⟨old, h4, e⟩ := Option.map_eq_some_iff.1 h
        cases e; simp
      · cases h
    · cases h
  · cases h
theorem appendOp_next {st xt : TypeId} {s x v : AV} {m' : Mem} (h : appendOp P st xt s x m = some (v, m')) : m.next ≤ m'.next := by
  unfold appendOp at h
  split at h
  · exact appendZ_next h
  · obtain ⟨nw, _, h⟩ := Option.bind_eq_some_iff.1 h
    exact appendA_next h

theorem appendZ_sound (hm : MR P p m w) (hG : P.globals.size ≤ m.next) {st xt ty : TypeId} {k0 : IntKind} (hxt : P.underlying xt = some (.int k0)) {s x : AV} {s' x' : Value} (hs : VR p s s') (hx : VR p x x') {v : AV} {m' : Mem}
    (hfree : Free p m.next m'.next) (h : appendZ P st s x m = some (v, m')) :
    ∃ cv w' p', (Builtin.append_ #[st, xt] ty #[s', x']).run P w = .ok cv w' ∧ VR p' v cv ∧ Sim P p m w p' m' w' := by
  unfold appendZ at h
  split at h
  · rename_i e hst
    obtain ⟨zs, h1, h⟩ := Option.bind_eq_some_iff.1 h
    obtain ⟨n, h2, h⟩ := Option.bind_eq_some_iff.1 h
    obtain ⟨b, h3, h⟩ := Option.bind_eq_some_iff.1 h
    split at h
    · rename_i a sz0 len cap kq k _ _ _
      split at h
      · rename_i hc
        obtain ⟨c1, c2, c3, c4, c40, c4', c5, c6⟩ := hc
        obtain ⟨old, h4, e0⟩ := Option.map_eq_some_iff.1 h
        cases e0
        simp only [VR] at hx hs
        subst hx
        obtain ⟨ci, off, cap', hci, rfl, hlc, hcc, hex, hbd, hoff⟩ := hs
        have hcap : cap' = cap := hex rfl
        subst hcap
        obtain ⟨z, zs', g1, g2, g3, g4, i, gi, gz⟩ := zeroA_sound (p := p) (w := w) h1
        have hsz : i.size = n := by unfold szT at h2; rw [gi] at h2; simpa using h2
        have hby : i.bytes = b := by unfold bytesT at h3; rw [gi] at h3; simpa using h3
        subst hsz hby
        obtain ⟨kn, rfl⟩ : ∃ kn : Nat, k = kn := ⟨k.toNat, by omega⟩
        simp only [Int.toNat_natCast] at *
        have hold : ∃ olds : List Value, (Builtin.firstCells i.size len (.slice (some ⟨ci.c, off, none⟩) len cap')).run P w.drew = .ok olds.toArray w.drew ∧ VRs p old olds ∧ olds.length = len * i.size := by
          have ho : off = a.o + ci.d := hoff (by omega)
          subst ho
          have hmd : MR P p m w.drew := hm.of_heap rfl
          obtain ⟨olds, q1, q2, q3, _⟩ := ldCells_sound hmd hci h4
          exact ⟨olds, by simpa [Builtin.firstCells] using q1 w.drew rfl, q2, q2.length.trans q3⟩
        obtain ⟨olds, q1, q2, q3⟩ := hold
        have hle : len + kn ≤ (len + kn) * i.bytes := Nat.le_mul_of_pos_right _ c4
        unfold maxBytes at c6
        have hfit := growslice_fits (need := len + kn) (old := cap') (bytes := i.bytes) c5 (by omega)
        have hkb : kn * i.bytes ≤ (len + kn) * i.bytes := Nat.mul_le_mul_right _ (by omega)
        have hrun := Lib.run_append_grow_zeros (P := P) w st xt ty e i z kq k0 hst hxt gi gz (some ⟨ci.c, off, none⟩) len cap' olds q1 kn (by omega) c3 c5 (by omega) (by omega) hfit
        have hz0 : (Builtin.zeroCells z.cells kn).toList = (List.replicate kn zs').flatten := by
          have := zeros_eq zs' kn
          rw [g2]
          unfold Builtin.zeroCells
          simp only [List.size_toArray] at this ⊢
          rw [this]
        refine ⟨_, _, _, hrun, ?_, Sim.alloc (el := e) (fr := (0, 0)) (arr := olds.toArray ++ Builtin.zeroCells z.cells kn ++ Builtin.zeroCells z.cells (grownCap w (len + kn) cap' e - (len + kn))) hm hG (hfree _ (Nat.le_refl _) (by simp)) rfl rfl rfl rfl (by simp) ?_⟩
        · simp only [VR, SR]
          refine ⟨⟨w.heap.size, 0, _⟩, 0, grownCap w (len + kn) cap' e, by rw [if_pos trivial], rfl, Nat.le_refl _, grownCap_ge w _ _ e, by simp, fun _ => ?_, fun _ => by simp⟩
          have hge := grownCap_ge w (len + kn) cap' e
          have hzs : z.cells.size = i.size := by rw [g2, List.size_toArray, g3.length, c2]
          simp only [Array.size_append, List.size_toArray, q3, size_zeroCells, hzs, Nat.zero_add]
          rw [← Nat.add_mul, ← Nat.add_mul]
          apply Nat.mul_le_mul_right
          omega
        · intro j y hj
          obtain ⟨u, h5, h6⟩ := (q2.append (g3.flat kn)).get hj
          refine ⟨u, ?_, h6⟩
          rw [Array.getElem?_append_left]
          · rw [← Array.getElem?_toList, Array.toList_append, hz0]; exact h5
          · have := (List.getElem?_eq_some_iff.1 h5).1
            rw [← Array.length_toList, Array.toList_append, hz0]
            exact this
      · cases h
    · cases h
  · cases h
theorem appendOp_sound (hm : MR P p m w) (hG : P.globals.size ≤ m.next) {st xt ty : TypeId} {s x : AV} {s' x' : Value} (hs : VR p s s') (hx : VR p x x') {v : AV} {m' : Mem}
    (hfree : Free p m.next m'.next) (h : appendOp P st xt s x m = some (v, m')) :
    ∃ cv w' p', (Builtin.append_ #[st, xt] ty #[s', x']).run P w = .ok cv w' ∧ VR p' v cv ∧ Sim P p m w p' m' w' := by
  unfold appendOp at h
  split at h
  · rename_i hxt
    exact appendZ_sound hm hG hxt hs hx hfree h
  · obtain ⟨nw, h1, h⟩ := Option.bind_eq_some_iff.1 h
    exact appendA_sound hm hG h1 hs hx hfree h

/-- copy. -/
theorem copyA_sound (hm : MR P p m w) {st _xt ty : TypeId} {n : Nat} (hel : copyElem P st = some n) {d x : AV} {d' x' : Value} (hd : VR p d d') (hx : VR p x x') {v : AV} {m' : Mem} {ts : List TypeId}
    (h : copyA n d x m = some (v, m')) : ∃ cv w', (Builtin.copy_ ⟨st :: ts⟩ ty #[d', x']).run P w = .ok cv w' ∧ VR p v cv ∧ Sim P p m w p m' w' := by
  unfold copyElem at hel
  split at hel
  case h_2 => simp at hel
  rename_i e he
  unfold copyA at h
  split at h
  case h_2 => simp at h
  rename_i a s len cap ex k cs hsrc
  obtain ⟨a1, a2, vs', a3, a4⟩ := srcA_sound (P := P) hm hx hsrc
  have hmin : Nat.min k len = min k len := rfl
  have b1 := a4 (min k len) (Nat.min_le_left _ _) w rfl
  have hrunS : ∀ (b : Addr) (c : Nat), (Builtin.copy_ ⟨st :: ts⟩ ty #[.slice (some b) len c, x']).run P w =
      ((storeCells b (vs'.take (min k len * n))).run P w).andThen fun _ w' => .ok (goInt (min k len : Nat)) w' := by
    intro b c
    simp only [Builtin.copy_, List.getElem?_toArray, Array.getElem?_eq_getElem, List.size_toArray, List.length_cons, List.length_nil, Nat.zero_lt_succ]
    simp [run_under he, a1, run_size hel, b1]
  have hrunN : ∀ (c : Nat), (Builtin.copy_ ⟨st :: ts⟩ ty #[.slice none len c, x']).run P w = .ok (goInt (min k len : Nat)) w := by
    intro c
    simp only [Builtin.copy_, List.getElem?_toArray, Array.getElem?_eq_getElem, List.size_toArray, List.length_cons, List.length_nil, Nat.zero_lt_succ]
    simp [run_under he, a1, run_size hel, b1]
  split at h
  · rename_i h0
    cases h
    refine ⟨goInt 0, w, ?_, by simp [VR, goInt], Sim.refl hm⟩
    cases a with
    | none =>
      simp only [VR] at hd
      obtain ⟨hl, hc, rfl⟩ := hd
      subst hl
      rw [hrunN]; simp [goInt]
    | some a =>
      simp only [VR, SR] at hd
      obtain ⟨ci, off, cap', hci, rfl, _⟩ := hd
      rw [hrunS, h0]; simp [storeCells, goInt]
  · rename_i h0
    split at h
    · rename_i a
      split at h
      · split at h
        · rename_i hone
          obtain ⟨m1, h1, h2⟩ := Option.map_eq_some_iff.1 h
          cases h2
          simp only [VR, SR] at hd
          obtain ⟨ci, off, cap', hci, rfl, hlc, hcc, _, _, hoff⟩ := hd
          have : off = a.o + ci.d := hoff (by omega)
          subst this
          obtain ⟨w', h4, h5⟩ := stCells_sound (P := P) hm hci (a3.take _) hone h1
          refine ⟨goInt (min k len : Nat), w', ?_, by simp [VR, goInt], h5⟩
          rw [hrunS, h4]; rfl
        · simp at h
      · simp at h
    · simp at h
end
end Go.Abs
