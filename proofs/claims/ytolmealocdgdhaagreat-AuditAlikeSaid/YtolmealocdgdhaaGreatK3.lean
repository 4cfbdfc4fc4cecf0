/- Texts of one claim, put together. -/
import Derived.Test.YtolmealocdgdhaaGreatK2
import Derived.Deep.AppendSrc
import Derived.Lib.AppendZerosOnto
import Derived.Laws.MakeOwn
import Derived.RangeFuncIn
import Derived.Orders
section
namespace Go.Abs
open Go

section
variable {P : Program} {p : Phi} {m : Mem} {w : World}

theorem appElem_spec {st xt : TypeId} {nw : Nat × Nat} (h : appElem P st xt = some nw) : ∃ e i z, P.underlying st = some (.slice e) ∧ P.info? e = some i ∧ i.zero = some z ∧ nw = (i.size, i.bytes) ∧ z.cells.size = i.size ∧ 0 < i.bytes ∧
    ((∃ e', P.underlying xt = some (.slice e')) ∨ P.underlying xt = some .string) := by
  unfold appElem at h
  split at h
  · rename_i e he
    split at h
    · rename_i i hk hi
      split at h
      · rename_i z hz
        split at h
        · rename_i hzz
          cases h
          refine ⟨e, i, z, he, hi, hz, rfl, hzz.1, hzz.2, ?_⟩
          cases hd : P.underlying xt with
          | none => simp [hd] at hk
          | some d => cases d <;> simp [hd] at hk <;> simp
        · simp at h
      · simp at h
    · simp at h
  · simp at h

theorem src_of (hm : MR P p m w) {xt : TypeId} (hk : (∃ e', P.underlying xt = some (.slice e')) ∨ P.underlying xt = some .string) {sz : Nat} {x : AV} {x' : Value} (hx : VR p x x') {n : Nat} {vs : List AV}
    (h : srcA sz x m = some (n, vs)) (h1 : vs.all AV.one = true) : ∃ news, Src P sz xt x' n news w ∧ VRs p vs news := by
  obtain ⟨a1, a2, vs', a3, a4⟩ := srcA_sound (P := P) hm hx h
  have hl := a3.length
  have b1 := a4 n (Nat.le_refl n) w rfl
  have b2 := a4 n (Nat.le_refl n) w.drew rfl
  rw [List.take_of_length_le (by omega)] at b1 b2
  exact ⟨vs', ⟨hk, a1, b1, b2, by omega, a3.ones h1⟩, a3⟩

theorem appendA_sound (hm : MR P p m w) (hG : P.globals.size ≤ m.next) {st xt ty : TypeId} {nw : Nat × Nat} (hel : appElem P st xt = some nw) {s x : AV} {s' x' : Value} (hs : VR p s s') (hx : VR p x x') {v : AV} {m' : Mem}
    (hfree : Free p m.next m'.next) (h : appendA nw.1 nw.2 s x m = some (v, m')) :
    ∃ cv w' p', (Builtin.append_ #[st, xt] ty #[s', x']).run P w = .ok cv w' ∧ VR p' v cv ∧ Sim P p m w p' m' w' := by
  obtain ⟨e, i, z, hst, hi, hz, rfl, hzs, hb0, hk⟩ := appElem_spec hel
  unfold appendA at h
  split at h
  · simp at h
  rename_i n new hsrc
  split at h
  · simp at h
  rename_i hone
  have hone : new.all AV.one = true := by simpa using hone
  obtain ⟨news, hS, hnews⟩ := src_of (P := P) hm hk hx hsrc hone
  have hlen := hnews.length
  have hnl := hS.newsLen
  simp only at h hsrc hS hnl
  have grow : ∀ {base : Option Addr} {len cap' : Nat} {olds : List Value} {old : List AV}, (Builtin.firstCells i.size len (.slice base len cap')).run P w.drew = .ok olds.toArray w.drew → VRs p old olds →
      olds.length = len * i.size → cap' < len + n → (len + n) * i.bytes ≤ maxBytes → ∀ {m1 : Mem}, MR P p m1 w → P.globals.size ≤ m1.next → p m1.next = none →
      ∃ cv w' p', (Builtin.append_ #[st, xt] ty #[.slice base len cap', x']).run P w = .ok cv w' ∧
        VR p' (.sl (some ⟨m1.next, 0⟩) i.size (len + n) (len + n) false) cv ∧ Sim P p m1 w p' (m1.alloc (old ++ new)) w' := by
    intro base len cap' olds old hold hro hol hcap hby m1 hm1 hG1 hf1
    have hle : len + n ≤ (len + n) * i.bytes := Nat.le_mul_of_pos_right _ hb0
    unfold maxBytes at hby
    have hfit := growslice_fits (need := len + n) (old := cap') (bytes := i.bytes) hcap (by omega)
    have hrun := run_append_grow_src (P := P) w st xt ty e i z hst hi hz base len cap' olds hold x' n news hS hcap (by omega) hfit
    refine ⟨_, _, _, hrun, ?_, Sim.alloc (el := e) (fr := (0, 0)) (arr := (olds ++ news).toArray ++ Builtin.zeroCells z.cells (grownCap w (len + n) cap' e - (len + n))) hm1 hG1 hf1 rfl rfl rfl rfl (by simp) ?_⟩
    · simp only [VR, SR]
      refine ⟨⟨w.heap.size, 0, _, none⟩, 0, grownCap w (len + n) cap' e, by rw [if_pos trivial], rfl, Nat.le_refl _, grownCap_ge w _ _ e, by simp, fun _ => ?_, fun _ => by simp⟩
      have hge := grownCap_ge w (len + n) cap' e
      simp only [Array.size_append, List.size_toArray, List.length_append, hol, hnl, size_zeroCells, hzs, Nat.zero_add]
      rw [← Nat.add_mul, ← Nat.add_mul]
      apply Nat.mul_le_mul_right
      omega
    · intro j a hj
      obtain ⟨v, h1, h2⟩ := (hro.append hnews).get hj
      refine ⟨v, ?_, h2⟩
      rw [Array.getElem?_append_left]
      · simpa using h1
      · have := (List.getElem?_eq_some_iff.1 h1).1
        simpa using this
  split at h
  · -- a nil slice, or one of nothing
    rename_i ex
    simp only [VR] at hs
    obtain ⟨_, _, aa, rfl, haa⟩ := hs
    split at h
    · rename_i hn0
      cases h
      subst hn0
      have hnil : news = [] := List.length_eq_zero_iff.1 (by omega)
      subst hnil
      refine ⟨.slice aa 0 0, w, p, ?_, by simp only [VR]; exact ⟨trivial, trivial, aa, rfl, haa⟩, Sim.refl hm⟩
      cases aa with
      | none => rcases hk with ⟨e', hk⟩ | hk <;> simp [Builtin.append_, run_underlying hst, run_underlying hk, sizeOf, typeInfo, hi, hS.len, hS.cells]
      | some b =>
        have := run_append_room_src (P := P) w st xt ty e i hst hi b.block b.off 0 0 x' 0 [] hS (by omega) (by simp) (by simp)
        rcases hk with ⟨e', hk⟩ | hk <;> simp [Builtin.append_, run_underlying hst, run_underlying hk, sizeOf, typeInfo, hi, hS.len, hS.cells, storeCells]
    · rename_i hn0
      split at h
      · rename_i hby
        cases h
        obtain ⟨cv, w', p', h1, h2, h3⟩ := grow (base := aa) (len := 0) (cap' := 0) (olds := []) (old := []) (by cases aa <;> simp [Builtin.firstCells, loadCells, loadCellsFrom]) (by simp [VRs]) (by simp) (by omega) (by simpa using hby) hm hG
          (hfree _ (Nat.le_refl _) (by simp))
        refine ⟨cv, w', p', h1, ?_, by simpa using h3⟩
        simpa using h2
      · simp at h
  · rename_i a s' len cap ex
    split at h
    · rename_i hss
      have hszf : ex = false → s' = i.size := fun h => by rcases hss with e | e; · exact e
                                                          · rw [h] at e; cases e
      simp only [VR, SR] at hs
      obtain ⟨ci, off, cap', hci, rfl, hlc, hcc, hex, hbd0, hoff⟩ := hs
      have hbd : ex = false → off + cap' * i.size ≤ ci.n := fun h => by rw [← hszf h]; exact hbd0 h
      split at h
      · -- in place
        rename_i hroom
        obtain ⟨m1, hst1, e1⟩ := Option.map_eq_some_iff.1 h
        cases e1
        obtain ⟨cs, hc, hle, _⟩ := stCells_spec hst1
        obtain ⟨arr, el, fr, q1, q2, q3, q4⟩ := hm.live a.b cs false ci hc hci
        have q3 := q3 rfl
        by_cases h0 : n = 0
        · subst h0
          have hnil : news = [] := List.length_eq_zero_iff.1 (by omega)
          subst hnil
          have hnil2 : new = [] := List.length_eq_zero_iff.1 (by simpa using hlen.symm)
          subst hnil2
          obtain ⟨w', h4, h5⟩ := stCells_sound (P := P) hm (a := ⟨a.b, a.o + len * i.size⟩) (vs' := []) hci (by simp [VRs]) rfl hst1
          simp only [storeCells, Sem.run_pure] at h4
          cases h4
          refine ⟨_, w, p, run_append_room_src (P := P) w st xt ty e i hst hi ci.c off len cap' x' 0 [] hS (by omega) (by simp) (by simp), ?_, ?_⟩
          · simp only [VR, SR]
            exact ⟨ci, off, cap', hci, rfl, by omega, hcc, hex, hbd, hoff⟩
          · exact h5
        · have hoff' : off = a.o + ci.d := hoff (by omega)
          subst hoff'
          obtain ⟨w', h4, h5⟩ := stCells_sound (P := P) hm (a := ⟨a.b, a.o + len * i.size⟩) hci hnews hone hst1
          have hfit : a.o + ci.d + len * i.size + news.length ≤ arr.size ∨ news.length = 0 := by
            by_cases hz0 : news.length = 0
            · exact .inr hz0
            · left
              have hlast : 0 < cs.length := by simp only at hle; omega
              obtain ⟨v, hv', _⟩ := q4 (cs.length - 1) (cs[cs.length - 1]'(by omega)) (List.getElem?_eq_getElem (by omega))
              have := (Array.getElem?_eq_some_iff.1 hv').1
              simp only at hle
              omega
          have hr := run_append_room_src (P := P) w st xt ty e i hst hi ci.c (a.o + ci.d) len cap' x' n news hS (by omega)
            (fun j hj => by rw [cell_of_arr q1]; rcases hfit with hf | hf <;> simp <;> omega)
            (fun j hj => by
              simp only [World.frozen?, q1]
              rcases hfit with hf | hf
              · have := q3 (a.o + ci.d + len * i.size + j)
                simpa using this
              · omega)
          have hw' : w' = w.setCells ci.c (a.o + ci.d + len * i.size) news := by
            by_cases hz0 : news.length = 0
            · have : news = [] := List.length_eq_zero_iff.1 hz0
              subst this
              simp only [storeCells, Sem.run_pure] at h4; cases h4; rfl
            · have h6 := storeCells_run (P := P) (off := a.o + ci.d + len * i.size) (vs := news) q1 (by rcases hfit with hf | hf <;> omega) q3 hS.one
              simp only [show a.o + len * i.size + ci.d = a.o + ci.d + len * i.size by omega] at h4
              rw [h6] at h4; cases h4; rfl
          subst hw'
          refine ⟨_, _, p, hr, ?_, h5⟩
          simp only [VR, SR]
          exact ⟨ci, a.o + ci.d, cap', hci, rfl, by omega, hcc, hex, hbd, fun _ => rfl⟩
      · rename_i hroom
        split at h
        · rename_i hby
          split at h
          · rename_i old hold
            obtain ⟨cs, ro, hc, hle, hold'⟩ := ldCells_spec hold
            obtain ⟨olds, o1, o2, o3, o4⟩ := ldCells_sound (P := P) hm hci hold
            have hol := o2.length
            have hfirst : (Builtin.firstCells i.size len (.slice (some ⟨ci.c, off, none⟩) len cap')).run P w.drew = .ok olds.toArray w.drew := by
              by_cases hl : len = 0
              · subst hl
                have : olds = [] := List.length_eq_zero_iff.1 (by omega)
                subst this
                simp [Builtin.firstCells, loadCells, loadCellsFrom]
              · have : off = a.o + ci.d := hoff (by omega)
                subst this
                simpa [Builtin.firstCells] using o1 w.drew rfl
            cases ex with
            | true =>
              simp only [if_true] at h
              cases h
              have := hex rfl
              subst this
              exact grow hfirst o2 (by omega) (by omega) hby hm hG (hfree _ (Nat.le_refl _) (by simp))
            | false =>
              simp only [Bool.false_eq_true, if_false, hc] at h
              cases ro with
              | true => simp at h
              | false =>
              simp only at h
              cases h
              have hkill := Sim.kill hm hc hci
              by_cases hcap : cap' < len + n
              · obtain ⟨cv, w', p', h1, h2, h3⟩ := grow hfirst o2 (by omega) hcap hby hkill.rel (by simpa using hG) (by simpa using hfree _ (Nat.le_refl _) (by simp))
                exact ⟨cv, w', p', h1, h2, hkill.trans h3 (by simpa using hfree)⟩
              · -- there is room, in truth
                have hoff' : off = a.o + ci.d := hoff (by omega)
                subst hoff'
                obtain ⟨arr, el, fr, q1, q2, q3, q4⟩ := hm.live a.b cs false ci hc hci
                have q3 := q3 rfl
                have hfit : a.o + ci.d + len * i.size + news.length ≤ arr.size := by
                  have := hbd rfl
                  have h2 : (len + n) * i.size ≤ cap' * i.size := Nat.mul_le_mul_right _ (by omega)
                  rw [Nat.add_mul] at h2
                  omega
                have hr := run_append_room_src (P := P) w st xt ty e i hst hi ci.c (a.o + ci.d) len cap' x' n news hS (by omega)
                  (fun j hj => by rw [cell_of_arr q1]; simp; omega)
                  (fun j hj => by
                    simp only [World.frozen?, q1]
                    have := q3 (a.o + ci.d + len * i.size + j)
                    simpa using this)
                obtain ⟨arr', f1, f2, f3, f4, f5, f6, f7, f8⟩ := setCells_spec ci.c news (a.o + ci.d + len * i.size) w q1 hfit
                refine ⟨_, _, _, hr, ?_, Sim.takeOver (d := a.o + ci.d) hm hG hc hci (hfree _ (Nat.le_refl _) (by simp)) f1 (by omega) q3 ?_ f4 f5 f6 f7 f8⟩
                · simp only [VR, SR]
                  exact ⟨⟨ci.c, a.o + ci.d, ci.n, none⟩, a.o + ci.d, cap', by rw [if_pos trivial], rfl, Nat.le_refl _, by omega, by simp, fun _ => hbd rfl, fun _ => by simp⟩
                · intro j x hj
                  rw [List.getElem?_append] at hj
                  rw [f3]
                  split at hj
                  · rename_i hjl
                    rw [if_neg (by omega)]
                    have hj' := hj
                    rw [hold', List.getElem?_take, if_pos (by omega), List.getElem?_drop] at hj'
                    obtain ⟨v, g1, g2⟩ := q4 _ x hj'
                    exact ⟨v, by rw [← g1]; congr 1; omega, g2⟩
                  · rename_i hjl
                    obtain ⟨v, g1, g2⟩ := hnews.get hj
                    have := (List.getElem?_eq_some_iff.1 g1).1
                    refine ⟨v, ?_, g2⟩
                    rw [if_pos (by omega), ← g1]; congr 1; omega
          · simp at h
        · simp at h
    · simp at h
  · simp at h

theorem appendA_next {sz wd : Nat} {s x v : AV} {m' : Mem} (h : appendA sz wd s x m = some (v, m')) : m.next ≤ m'.next := by
  unfold appendA at h
  split at h
  · simp at h
  · split at h
    · simp at h
    · split at h
      · split at h
        · cases h; exact Nat.le_refl _
        · split at h
          · cases h; simp
          · simp at h
      · split at h
        · split at h
          · obtain ⟨m1, h5, e⟩ := Option.map_eq_some_iff.1 h
            cases e
            obtain ⟨_, _, _, rfl⟩ := stCells_spec h5; simp
          · split at h
            · split at h
              · split at h
                · cases h; simp
                · split at h
                  · cases h; simp
                  · simp at h
              · simp at h
            · simp at h
        · simp at h
      · simp at h
theorem appendZ_next {st : TypeId} {s x v : AV} {m' : Mem} (h : appendZ P st s x m = some (v, m')) : m.next ≤ m'.next := by
  unfold appendZ at h
  split at h
  · obtain ⟨zs, h1, h⟩ := Option.bind_eq_some_iff.1 h
    obtain ⟨n, h2, h⟩ := Option.bind_eq_some_iff.1 h
    obtain ⟨b, h3, h⟩ := Option.bind_eq_some_iff.1 h
    split at h
    · split at h
      · obtain ⟨old, h4, e⟩ := Option.map_eq_some_iff.1 h
        cases e; simp
      · cases h
    · cases h
  · cases h
theorem appendOp_next {st xt : TypeId} {s x v : AV} {m' : Mem} (h : appendOp P st xt s x m = some (v, m')) : m.next ≤ m'.next := by
  unfold appendOp at h
  split at h
  · exact appendZ_next h
  · obtain ⟨nw, _, h⟩ := Option.bind_eq_some_iff.1 h
    exact appendA_next h

theorem appendZ_sound (hm : MR P p m w) (hG : P.globals.size ≤ m.next) {st xt ty : TypeId} {k0 : IntKind} (hxt : P.underlying xt = some (.int k0)) {s x : AV} {s' x' : Value} (hs : VR p s s') (hx : VR p x x') {v : AV} {m' : Mem}
    (hfree : Free p m.next m'.next) (h : appendZ P st s x m = some (v, m')) :
    ∃ cv w' p', (Builtin.append_ #[st, xt] ty #[s', x']).run P w = .ok cv w' ∧ VR p' v cv ∧ Sim P p m w p' m' w' := by
  unfold appendZ at h
  split at h
  · rename_i e hst
    obtain ⟨zs, h1, h⟩ := Option.bind_eq_some_iff.1 h
    obtain ⟨n, h2, h⟩ := Option.bind_eq_some_iff.1 h
    obtain ⟨b, h3, h⟩ := Option.bind_eq_some_iff.1 h
    split at h
    · rename_i a sz0 len cap kq k _ _ _
      split at h
      · rename_i hc
        obtain ⟨c1, c2, c3, c4, c40, c4', c5, c6⟩ := hc
        obtain ⟨old, h4, e0⟩ := Option.map_eq_some_iff.1 h
        cases e0
        simp only [VR] at hx hs
        subst hx
        obtain ⟨ci, off, cap', hci, rfl, hlc, hcc, hex, hbd, hoff⟩ := hs
        have hcap : cap' = cap := hex rfl
        subst hcap
        obtain ⟨z, zs', g1, g2, g3, g4, i, gi, gz⟩ := zeroA_sound (p := p) (w := w) h1
        have hsz : i.size = n := by unfold szT at h2; rw [gi] at h2; simpa using h2
        have hby : i.bytes = b := by unfold bytesT at h3; rw [gi] at h3; simpa using h3
        subst hsz hby
        obtain ⟨kn, rfl⟩ : ∃ kn : Nat, k = kn := ⟨k.toNat, by omega⟩
        simp only [Int.toNat_natCast] at *
        have hold : ∃ olds : List Value, (Builtin.firstCells i.size len (.slice (some ⟨ci.c, off, none⟩) len cap')).run P w.drew = .ok olds.toArray w.drew ∧ VRs p old olds ∧ olds.length = len * i.size := by
          have ho : off = a.o + ci.d := hoff (by omega)
          subst ho
          have hmd : MR P p m w.drew := hm.of_heap rfl
          obtain ⟨olds, q1, q2, q3, _⟩ := ldCells_sound hmd hci h4
          exact ⟨olds, by simpa [Builtin.firstCells] using q1 w.drew rfl, q2, q2.length.trans q3⟩
        obtain ⟨olds, q1, q2, q3⟩ := hold
        have hle : len + kn ≤ (len + kn) * i.bytes := Nat.le_mul_of_pos_right _ c4
        unfold maxBytes at c6
        have hfit := growslice_fits (need := len + kn) (old := cap') (bytes := i.bytes) c5 (by omega)
        have hkb : kn * i.bytes ≤ (len + kn) * i.bytes := Nat.mul_le_mul_right _ (by omega)
        have hrun := Lib.run_append_grow_zeros (P := P) w st xt ty e i z kq k0 hst hxt gi gz (some ⟨ci.c, off, none⟩) len cap' olds q1 kn (by omega) c3 c5 (by omega) (by omega) hfit
        have hz0 : (Builtin.zeroCells z.cells kn).toList = (List.replicate kn zs').flatten := by
          have := zeros_eq zs' kn
          rw [g2]
          unfold Builtin.zeroCells
          simp only [List.size_toArray] at this ⊢
          rw [this]
        refine ⟨_, _, _, hrun, ?_, Sim.alloc (el := e) (fr := (0, 0)) (arr := olds.toArray ++ Builtin.zeroCells z.cells kn ++ Builtin.zeroCells z.cells (grownCap w (len + kn) cap' e - (len + kn))) hm hG (hfree _ (Nat.le_refl _) (by simp)) rfl rfl rfl rfl (by simp) ?_⟩
        · simp only [VR, SR]
          refine ⟨⟨w.heap.size, 0, _, none⟩, 0, grownCap w (len + kn) cap' e, by rw [if_pos trivial], rfl, Nat.le_refl _, grownCap_ge w _ _ e, by simp, fun _ => ?_, fun _ => by simp⟩
          have hge := grownCap_ge w (len + kn) cap' e
          have hzs : z.cells.size = i.size := by rw [g2, List.size_toArray, g3.length, c2]
          simp only [Array.size_append, List.size_toArray, q3, size_zeroCells, hzs, Nat.zero_add]
          rw [← Nat.add_mul, ← Nat.add_mul]
          apply Nat.mul_le_mul_right
          omega
        · intro j y hj
          obtain ⟨u, h5, h6⟩ := (q2.append (g3.flat kn)).get hj
          refine ⟨u, ?_, h6⟩
          rw [Array.getElem?_append_left]
          · rw [← Array.getElem?_toList, Array.toList_append, hz0]; exact h5
          · have := (List.getElem?_eq_some_iff.1 h5).1
            rw [← Array.length_toList, Array.toList_append, hz0]
            exact this
      · cases h
    · cases h
  · cases h
theorem appendOp_sound (hm : MR P p m w) (hG : P.globals.size ≤ m.next) {st xt ty : TypeId} {s x : AV} {s' x' : Value} (hs : VR p s s') (hx : VR p x x') {v : AV} {m' : Mem}
    (hfree : Free p m.next m'.next) (h : appendOp P st xt s x m = some (v, m')) :
    ∃ cv w' p', (Builtin.append_ #[st, xt] ty #[s', x']).run P w = .ok cv w' ∧ VR p' v cv ∧ Sim P p m w p' m' w' := by
  unfold appendOp at h
  split at h
  · rename_i hxt
    exact appendZ_sound hm hG hxt hs hx hfree h
  · obtain ⟨nw, h1, h⟩ := Option.bind_eq_some_iff.1 h
    exact appendA_sound hm hG h1 hs hx hfree h

theorem copyA_sound (hm : MR P p m w) {st _xt ty : TypeId} {n : Nat} (hel : copyElem P st = some n) {d x : AV} {d' x' : Value} (hd : VR p d d') (hx : VR p x x') {v : AV} {m' : Mem} {ts : List TypeId}
    (h : copyA n d x m = some (v, m')) : ∃ cv w', (Builtin.copy_ ⟨st :: ts⟩ ty #[d', x']).run P w = .ok cv w' ∧ VR p v cv ∧ Sim P p m w p m' w' := by
  unfold copyElem at hel
  split at hel
  case h_2 => simp at hel
  rename_i e he
  unfold copyA at h
  split at h
  case h_2 => simp at h
  rename_i a s len cap ex k cs hsrc
  obtain ⟨a1, a2, vs', a3, a4⟩ := srcA_sound (P := P) hm hx hsrc
  have hmin : Nat.min k len = min k len := rfl
  have b1 := a4 (min k len) (Nat.min_le_left _ _) w rfl
  have hrunS : ∀ (b : Addr) (c : Nat), (Builtin.copy_ ⟨st :: ts⟩ ty #[.slice (some b) len c, x']).run P w =
      ((storeCells b (vs'.take (min k len * n))).run P w).andThen fun _ w' => .ok (goInt (min k len : Nat)) w' := by
    intro b c
    simp only [Builtin.copy_, List.getElem?_toArray, Array.getElem?_eq_getElem, List.size_toArray, List.length_cons, List.length_nil, Nat.zero_lt_succ]
    simp [run_under he, a1, run_size hel, b1]
  have hrunN : ∀ (c : Nat), (Builtin.copy_ ⟨st :: ts⟩ ty #[.slice none len c, x']).run P w = .ok (goInt (min k len : Nat)) w := by
    intro c
    simp only [Builtin.copy_, List.getElem?_toArray, Array.getElem?_eq_getElem, List.size_toArray, List.length_cons, List.length_nil, Nat.zero_lt_succ]
    simp [run_under he, a1, run_size hel, b1]
  split at h
  · rename_i h0
    cases h
    refine ⟨goInt 0, w, ?_, by simp [VR, goInt], Sim.refl hm⟩
    cases a with
    | none =>
      simp only [VR] at hd
      obtain ⟨hl, hc, aa, rfl, _⟩ := hd
      subst hl
      cases aa with
      | none => rw [hrunN]; simp [goInt]
      | some b => rw [hrunS]; simp [goInt, storeCells]
    | some a =>
      simp only [VR, SR] at hd
      obtain ⟨ci, off, cap', hci, rfl, _⟩ := hd
      rw [hrunS, h0]; simp [storeCells, goInt]
  · rename_i h0
    split at h
    · rename_i a
      split at h
      · split at h
        · rename_i hone
          obtain ⟨m1, h1, h2⟩ := Option.map_eq_some_iff.1 h
          cases h2
          simp only [VR, SR] at hd
          obtain ⟨ci, off, cap', hci, rfl, hlc, hcc, _, _, hoff⟩ := hd
          have : off = a.o + ci.d := hoff (by omega)
          subst this
          obtain ⟨w', h4, h5⟩ := stCells_sound (P := P) hm hci (a3.take _) hone h1
          refine ⟨goInt (min k len : Nat), w', ?_, by simp [VR, goInt], h5⟩
          rw [hrunS, h4]; rfl
        · simp at h
      · simp at h
    · simp at h
end
end Go.Abs
end
section
namespace Go.Abs
open Go

section
variable {P : Program} {p : Phi} {m : Mem} {w : World}

structure Laid (P : Program) (p : Phi) (v : Blk) (mk : Nat → AV) (w w' : World) (cv : Value) (o : Obj) (n : Nat) : Prop where
  heap : w'.heap = w.heap.push o
  os : w'.os = w.os
  output : w'.output = w.output
  tape : w'.tape = w.tape
  blk : BR P p ⟨w.heap.size, 0, n, none⟩ v o
  value : ∀ (p2 : Phi) b, p2 b = some ⟨w.heap.size, 0, n, none⟩ → VR p2 (mk b) cv
theorem laid_cells {cs : List AV} {ro : Bool} {mk : Nat → AV} {w w' : World} {cv : Value} {arr : Array Value} {el : TypeId} {fr : Nat × Nat} (h1 : w'.heap = w.heap.push (.cells arr el fr)) (h2 : w'.os = w.os) (h3 : w'.output = w.output) (h4 : w'.tape = w.tape)
    (h5 : ro = false → ∀ i, ¬ (fr.1 ≤ i ∧ i < fr.2)) (h6 : ∀ (i : Nat) a, cs[i]? = some a → ∃ v, arr[i]? = some v ∧ VR p a v) (h7 : ∀ (p2 : Phi) b, p2 b = some ⟨w.heap.size, 0, arr.size, none⟩ → VR p2 (mk b) cv) :
    Laid P p (.cells cs ro) mk w w' cv (.cells arr el fr) arr.size :=
  ⟨h1, h2, h3, h4, ⟨arr, el, fr, rfl, rfl, h5, fun i a hi => let ⟨v, x, y⟩ := h6 i a hi; ⟨v, by simpa using x, y⟩⟩, h7⟩
theorem Laid.sim {v : Blk} {mk : Nat → AV} {w' : World} {cv : Value} {o : Obj} {n : Nat} (h : Laid P p v mk w w' cv o n) (hm : MR P p m w) (hf : p m.next = none) :
    Sim P p m w (fun b => if b = m.next then some ⟨w.heap.size, 0, n, none⟩ else p b) (m.lay v) w' :=
  Sim.lay hm hf (Nat.le_refl _) (by rw [h.heap]; simp) (fun i hi => by rw [h.heap, Array.getElem?_push_lt hi, ← Array.getElem?_eq_getElem]) (by rw [h.heap]; simp) h.os h.output h.tape fun _ hq => h.blk.mono hq

theorem cells_get {cs : List AV} {vs : List Value} (h : VRs p cs vs) : ∀ (i : Nat) a, cs[i]? = some a → ∃ v, (⟨vs⟩ : Array Value)[i]? = some v ∧ VR p a v := by
  intro i a hi
  obtain ⟨v, h1, h2⟩ := h.get hi
  exact ⟨v, by simpa using h1, h2⟩

theorem wrap_i64 {n : Int} (h0 : -9223372036854775808 ≤ n) (h1 : n < 9223372036854775808) : IntKind.i64.wrap n = n := by
  have e1 : ((2 : Int) ^ IntKind.i64.bits) = 18446744073709551616 := by decide
  have e2 : ((2 : Int) ^ (IntKind.i64.bits - 1)) = 9223372036854775808 := by decide
  have e3 : IntKind.i64.signed = true := rfl
  simp only [IntKind.wrap, e1, e2, e3, Bool.true_and, decide_eq_true_eq]
  split <;> omega

theorem alloc_spec {o : Oper} {t : List AV} {a : Act} (ht : VRs p t a.tmps.toList) (hg : ∀ g, g < P.globals.size → ∃ n, p g = some ⟨g, 0, n, none⟩) (hc : cls P o.op = .a) {cs : Blk} {mk : Nat → AV} (h : allocOp P o.op t = some (cs, mk)) (w : World) :
    ∃ cv w' ob n, (execOp a.eval o).run P w = .ok (.value cv) w' ∧ Laid P p cs mk w w' cv ob n := by
  have E : ∀ {x : Operand} {v : AV}, ev P t x = some v → VR p v (a.eval x) := fun h => ev_VR ht hg h
  have ho : ∃ op, o.op = op := ⟨_, rfl⟩
  obtain ⟨op, ho⟩ := ho
  rw [ho] at h hc
  unfold allocOp at h
  split at h
  · -- alloc
    rename_i e
    obtain ⟨zs, hz, e1⟩ := Option.map_eq_some_iff.1 h
    cases e1
    obtain ⟨z, zs', h1, h2, h3, h4, _⟩ := zeroA_sound (p := p) (w := w) hz
    refine ⟨.pointer (some ⟨w.heap.size, 0, none⟩), w.alloc (.cells ⟨zs'⟩ e), .cells ⟨zs'⟩ e (0, 0), _, ?_, laid_cells rfl rfl rfl rfl (by simp) (cells_get h3) fun p2 b hb => by simp only [VR]; exact ⟨_, hb, by simp⟩⟩
    simp only [execOp, ho, Instr.alloc, Sem.run_bind, h1, Result.andThen_ok, newVar, newRow, run_newObj, h2, Sem.run_pure]
    rfl
  · -- box
    rename_i e xo
    obtain ⟨zs, hz, e1⟩ := Option.map_eq_some_iff.1 h
    cases e1
    obtain ⟨x, hx, hc1⟩ := Option.bind_eq_some_iff.1 hz
    obtain ⟨zs', h2, h3, h4⟩ := (E hx).cells hc1
    refine ⟨.pointer (some ⟨w.heap.size, 0, none⟩), w.alloc (.cells ⟨zs'⟩ e), .cells ⟨zs'⟩ e (0, 0), _, ?_, laid_cells rfl rfl rfl rfl (by simp) (cells_get h3) fun p2 b hb => by simp only [VR]; exact ⟨_, hb, by simp⟩⟩
    simp only [execOp, ho, Instr.box, Sem.run_bind, Result.andThen_ok, newVar, newRow, run_newObj, h2, Sem.run_pure]
    rfl
  · -- a map
    rename_i s
    split at h
    · rename_i kt et hd
      cases h
      refine ⟨.map (some w.heap.size), w.alloc (.map #[] 0), .map #[] 0, 0, ?_, rfl, rfl, rfl, rfl, ⟨#[], 0, rfl, ⟨[], .refl _, by simp [ER]⟩, by simp, by simp⟩, fun p2 b hb => by simp only [VR]; exact ⟨_, hb, rfl⟩⟩
      simp only [execOp, ho, Option.map_none, Instr.makeMap, Sem.run_bind, Sem.run_pure, Result.andThen_ok, run_newObj]
      rfl
    · simp at h
  · -- a slice's literal
    rename_i s len parts
    split at h
    · rename_i e he
      split at h
      · rename_i n zs hn hz
        split at h
        · rename_i hle
          obtain ⟨ps, hps, h⟩ := Option.bind_eq_some_iff.1 h
          obtain ⟨r, hr, e1⟩ := Option.map_eq_some_iff.1 h
          cases e1
          obtain ⟨z, zs', h1, h2, h3, h4, _⟩ := zeroA_sound (p := p) (w := w) hz
          have hzl := h3.length
          obtain ⟨r', f1, f2⟩ := fillA_sound (evParts_VR ht hg hps) (h3.flat len) hr
          refine ⟨.slice (some ⟨w.heap.size, 0, none⟩) len len, w.alloc (.cells ⟨r'⟩ e), .cells ⟨r'⟩ e (0, 0), _, ?_, laid_cells rfl rfl rfl rfl (by simp) (cells_get f2) fun p2 b hb => ?_⟩
          · have e2 : (parts.map fun x => (x.1, a.eval x.2)).toList = parts.toList.map fun (i, x) => (i, a.eval x) := by simp
            simp only [execOp, ho, Instr.buildSlice, Sem.run_bind, run_under he, run_size hn, Result.andThen_ok]
            rw [Sem.run_ite, if_neg (by omega)]
            simp only [Sem.run_pure]
            by_cases h0 : len * n = 0
            · have hnil : (List.replicate len zs').flatten = [] := List.length_eq_zero_iff.1 (by simp [hzl, hle.2, h0])
              have hm0 : ∀ f : Nat → Value, (Array.range (len * n)).map f = ⟨(List.replicate len zs').flatten⟩ := by intro f; rw [hnil, h0]; simp
              rw [if_pos h0]
              simp only [Sem.run_bind, Sem.run_pure, Result.andThen_ok, hm0, e2, f1, newRow, run_newObj]
              rfl
            · have hz0 := zeros_eq zs' len
              rw [hzl, hle.2] at hz0
              have hz1 : (Array.range (len * n)).map (fun x => (⟨zs'⟩ : Array Value)[x % (⟨zs'⟩ : Array Value).size]!) = ⟨(List.replicate len zs').flatten⟩ := by
                rw [← hz0]; simp [hzl, hle.2]
              rw [if_neg h0]
              simp only [Sem.run_bind, h1, h2, Sem.run_pure, Result.andThen_ok, hz1, e2, f1, newRow, run_newObj]
              rfl
          · simp only [VR, SR]
            exact ⟨_, 0, len, hb, rfl, Nat.le_refl _, Nat.le_refl _, fun _ => rfl, by simp, fun _ => by simp⟩
        · simp at h
      · simp at h
    · simp at h
  · -- make
    rename_i s lo co
    obtain ⟨l, hl, h⟩ := Option.bind_eq_some_iff.1 h
    obtain ⟨c, hcc, h⟩ := Option.bind_eq_some_iff.1 h
    split at h
    · rename_i e l c he _
      split at h
      · rename_i n zs wb hn hz hb
        split at h
        · rename_i hle
          cases h
          obtain ⟨z, zs', h1, h2, h3, h4, _⟩ := zeroA_sound (p := p) (w := w) hz
          have hzl := h3.length
          have hl' := E hl
          have hc' := E hcc
          simp only [VR] at hl' hc'
          obtain ⟨g1, g2, g3, g4, g5⟩ := hle
          unfold maxBytes at g4
          have hwl : IntKind.i64.wrap l = l := wrap_i64 (by omega) (by omega)
          have hwc : IntKind.i64.wrap c = c := wrap_i64 (by omega) (by omega)
          obtain ⟨i, hi⟩ : ∃ i, P.info? e = some i ∧ i.bytes = wb := by
            unfold bytesT at hb
            obtain ⟨i, h5, h6⟩ := Option.map_eq_some_iff.1 hb
            exact ⟨i, h5, h6⟩
          obtain ⟨hi, hib⟩ := hi
          refine ⟨.slice (some ⟨w.heap.size, 0, none⟩) l.toNat c.toNat, w.alloc (.cells ⟨(List.replicate c.toNat zs').flatten⟩ e), .cells ⟨(List.replicate c.toNat zs').flatten⟩ e (0, 0), _, ?_, laid_cells rfl rfl rfl rfl (by simp) (cells_get (h3.flat _)) fun p2 b hb => ?_⟩
          · have hbc : ((wb : Int) * c) = ((c.toNat * wb : Nat) : Int) := by
              rw [Int.natCast_mul, Int.toNat_of_nonneg (by omega), Int.mul_comm]
            have hlarge : ¬ (c < 0 ∨ (281474976710656 : Int) < (wb : Int) * c) := by rw [hbc]; omega
            simp only [execOp, ho, hl', hc', Instr.makeSlice, Sem.run_bind, run_under he, Result.andThen_ok, asInt, asIntOf, Sem.run_pure, run_info hi, hwl, hwc, hib]
            rw [Sem.run_ite, if_neg (by simp; omega)]
            simp only [Result.andThen_ok, run_askRoom, Sem.run_bind, run_size hn]
            by_cases h0 : c.toNat * n = 0
            · have hnil : (List.replicate c.toNat zs').flatten = [] := List.length_eq_zero_iff.1 (by simp only [List.length_flatten, List.map_replicate, List.sum_replicate_nat, hzl, g5, h0])
              have hm0 : ∀ f : Nat → Value, (Array.range (c.toNat * n)).map f = ⟨(List.replicate c.toNat zs').flatten⟩ := by intro f; rw [hnil, h0]; simp
              rw [if_pos h0]
              simp only [Sem.run_bind, Sem.run_pure, Result.andThen_ok, hm0, newRow, run_newObj]
              rfl
            · have hz0 := zeros_eq zs' c.toNat
              rw [hzl, g5] at hz0
              have hz1 : (Array.range (c.toNat * n)).map (fun x => (⟨zs'⟩ : Array Value)[x % (⟨zs'⟩ : Array Value).size]!) = ⟨(List.replicate c.toNat zs').flatten⟩ := by
                rw [← hz0]; simp [hzl, g5]
              rw [if_neg h0]
              simp only [Sem.run_bind, h1, h2, Sem.run_pure, Result.andThen_ok, hz1, newRow, run_newObj]
              rfl
          · simp only [VR, SR]
            exact ⟨_, 0, c.toNat, hb, rfl, by omega, Nat.le_refl _, fun _ => rfl, by simp, fun _ => by simp⟩
        · simp at h
      · simp at h
    · simp at h
  · -- a string's bytes
    rename_i src dst xo
    obtain ⟨x, hx, h⟩ := Option.bind_eq_some_iff.1 h
    split at h
    · rename_i e s hsome he
      split at h
      · rename_i heu hsz
        cases h
        have hx' := E hx
        simp only [VR] at hx'
        obtain ⟨d, hd⟩ := Option.isSome_iff_exists.1 hsome
        let cap := grownCap w s.length 0 e
        have hge : s.length ≤ cap := grownCap_ge w s.length 0 e
        let arr : Array Value := (⟨s⟩ : Array UInt8).map (fun b => Value.int .u8 b.toNat) ++ Array.replicate (cap - s.length) (.int .u8 0)
        have hsz : arr.size = cap := by simp [arr]; omega
        refine ⟨.slice (some ⟨w.heap.size, 0, none⟩) s.length cap, { w.drew with heap := w.heap.push (.cells arr e (cap, cap + 1)) }, .cells arr e (cap, cap + 1), _, ?_, laid_cells rfl rfl rfl rfl (by simp) (fun i x hi => ?_) fun p2 b hb => ?_⟩
        · simp only [execOp, ho, hx', convert, Sem.run_bind, run_under hd, run_under he, Result.andThen_ok]
          have hconv : (Conv.stringToBytes e ⟨⟨s⟩⟩).run P w = .ok (.slice (some ⟨w.heap.size, 0, none⟩) s.length cap) { w.drew with heap := w.heap.push (.cells arr e (cap, cap + 1)) } := by
            simp only [Conv.stringToBytes, Sem.run_bind, run_choose, str_size, Question.forced, Bool.false_eq_true, if_false, Result.andThen_ok, newRow, run_newObj, Sem.run_pure, markStringish, run_shape, World.shape?]
            have hcut : (Question.appendCap s.length 0 e).cut (w.tape w.drawn (.appendCap s.length 0 e)) = cap := rfl
            simp only [Array.getElem?_push_size, hcut]
            have harr : (((⟨s⟩ : Array UInt8).map fun b => Value.int .u8 b.toNat) ++ Array.replicate (cap - s.length) (.int .u8 0)) = arr := rfl
            simp only [harr, run_freeze, Result.andThen_ok, World.freeze, hsz]
            simp only [Nat.one_ne_zero, if_false]
            congr 1
            simp only [World.drew, World.mk.injEq, and_true]
            apply Array.ext
            · simp
            · intro i hi1 hi2
              simp only [Array.size_push] at hi2
              simp only [Array.getElem_modify, Array.getElem_push]
              by_cases hi : i < w.heap.size
              · rw [if_neg (by omega)]; simp [hi]
              · rw [if_pos (by omega)]; simp [hi]
          cases d <;> simp only [run_under heu, Result.andThen_ok, hconv, Sem.run_pure]
        · simp only [List.getElem?_map, Option.map_eq_some_iff] at hi
          obtain ⟨c, hc, rfl⟩ := hi
          refine ⟨.int .u8 c.toNat, ?_, by simp [VR]⟩
          have := (List.getElem?_eq_some_iff.1 hc).1
          simp only [arr]
          rw [Array.getElem?_append_left (by simpa using this)]
          simp [hc]
        · simp only [VR, SR]
          exact ⟨_, 0, cap, hb, rfl, Nat.le_refl _, hge, by simp, fun _ => by simp [hsz], fun _ => by simp⟩
      · simp at h
    · simp at h
  · simp at h
end
end Go.Abs
end
section
namespace Go.Abs
open Go

section
variable {P : Program}

abbrev GP (P : Program) : Nat := P.globals.size

def FnOk (P : Program) (tg : Tg) (args : List AV) (m : Mem) (r : AV) (m' : Mem) : Prop :=
  m.next ≤ m'.next ∧ ∀ (p : Phi) (w : World) (cargs : List Value), MR P p m w → GP P ≤ m.next → Free p m.next m'.next → VRs p args cargs →
    match tg with
    | .fn f => (∃ fn, P.funcs[f]? = some fn ∧ fn.body.isSome = true ∧ fn.name ≠ "runtime.NumGoroutine" ∧
        Calls P f ⟨cargs⟩ w fun e w' => ∃ cv p', e = .returned cv ∧ VR p' r cv ∧ Sim P p m w p' m' w') ∨
      (∃ cv w' p', (callFunc f ⟨cargs⟩).run P w = .ok (.value cv) w' ∧ VR p' r cv ∧ Sim P p m w p' m' w')
    | .yl b => ∀ ci, p b = some ci → ∃ f tmps assign body, (Instr.yield ci.c ⟨cargs⟩).run P w = .ok (.round ci.c f tmps assign body) w ∧
        ∀ (c : Frame) (cs : List Frame), ∃ cv p' w', VR p' r cv ∧ Sim P p m w p' m' w' ∧ Steps P (lone (Frame.round ci.c f tmps assign body .normal) (c :: cs) w) (lone (c.finish cv) cs w')

def CallOk (P : Program) (call : CallF) : Prop := ∀ tg args m r m', call tg args m = some (r, m') → FnOk P tg args m r m'

def OpOk (P : Program) (o : Oper) (t : List AV) (m : Mem) (v : AV) (m' : Mem) : Prop :=
  m.next ≤ m'.next ∧ ∀ (p : Phi) (a : Act) (w : World), MR P p m w → GP P ≤ m.next → Free p m.next m'.next → VRs p t a.tmps.toList →
    ∀ (b : Frame) (ops : Array Oper) (i : Nat) (rest : List Nat) (k : List Item) (cs : List Frame), ops[i]? = some o → Region.wanted o (yielded ops a.tmps) = true →
      ∃ cv p' w', VR p' v cv ∧ Sim P p m w p' m' w' ∧ Steps P (lone (b.atR a (.inRegion ops (i :: rest) :: k)) cs w) (lone (b.atR (a.put o.dst cv) (.inRegion ops rest :: k)) cs w')

theorem not_defer {o : Oper} {ρ : Operand → Value} {w w' : World} {n : Next} (h : (execOp ρ o).run P w = .ok n w') (hn : ∀ d, n ≠ .defer d) : ∀ c, o.op ≠ .defer c := by
  intro c hc
  simp only [execOp, hc, Sem.run_bind] at h
  cases e : (resolve ρ c o.type).run P w with
  | ok d w2 => rw [e] at h; simp only [Result.andThen_ok, Sem.run_pure] at h; injection h with h1 h2; exact hn d h1.symm
  | halt x w2 => rw [e] at h; simp at h

section step
variable {b : Frame} {a : Act} {k : List Item} {cs : List Frame} {w w' : World} {ops : Array Oper} {i : Nat} {rest : List Nat} {o : Oper}
theorem step_value {v : Value} (ho : ops[i]? = some o) (hw : Region.wanted o (yielded ops a.tmps) = true) (h : (execOp a.eval o).run P w = .ok (.value v) w') :
    step P (lone (b.atR a (.inRegion ops (i :: rest) :: k)) cs w) = .next (lone (b.atR (a.put o.dst v) (.inRegion ops rest :: k)) cs w') := by
  have hg := stepGR_op (P := P) (b := b) (k := k) (cs := cs) (w := w) (rest := rest) ho hw
  rw [Oper.semAt_eq _ _ _ (not_defer h (by simp))] at hg
  have hfin : (b.atR a (.inRegion ops (i :: rest) :: k)).finish v = b.atR (a.put o.dst v) (.inRegion ops rest :: k) := by rw [Frame.finish_atR, ho]; rfl
  refine step_lone_go ?_
  rw [hg, ← hfin]; simp [stepG.apply, h]
theorem step_skipped (ho : ops[i]? = some o) (hw : Region.wanted o (yielded ops a.tmps) = true) (h : (execOp a.eval o).run P w = .ok .skip w') :
    step P (lone (b.atR a (.inRegion ops (i :: rest) :: k)) cs w) = .next (lone (b.atR (a.put o.dst undef) (.inRegion ops rest :: k)) cs w') := by
  have hg := stepGR_op (P := P) (b := b) (k := k) (cs := cs) (w := w) (rest := rest) ho hw
  rw [Oper.semAt_eq _ _ _ (not_defer h (by simp))] at hg
  have hfin : (b.atR a (.inRegion ops (i :: rest) :: k)).finish undef = b.atR (a.put o.dst undef) (.inRegion ops rest :: k) := by rw [Frame.finish_atR, ho]; rfl
  refine step_lone_go ?_
  rw [hg, ← hfin]; simp [stepG.apply, h]
theorem step_enter {f : FuncId} {args : Array Value} (ho : ops[i]? = some o) (hw : Region.wanted o (yielded ops a.tmps) = true) (h : (execOp a.eval o).run P w = .ok (.enter f args) w') :
    step P (lone (b.atR a (.inRegion ops (i :: rest) :: k)) cs w) = .next (lone (Frame.enter P f args .normal) (b.atR a (.inRegion ops (i :: rest) :: k) :: cs) w') := by
  have hg := stepGR_op (P := P) (b := b) (k := k) (cs := cs) (w := w) (rest := rest) ho hw
  rw [Oper.semAt_eq _ _ _ (not_defer h (by simp))] at hg
  refine step_lone_go ?_
  rw [hg]; simp [stepG.apply, h, Frame.atR]
theorem step_round {l : Nat} {f : FuncId} {tmps : Array Value} {assign body : Code} (ho : ops[i]? = some o) (hw : Region.wanted o (yielded ops a.tmps) = true) (h : (execOp a.eval o).run P w = .ok (.round l f tmps assign body) w') :
    step P (lone (b.atR a (.inRegion ops (i :: rest) :: k)) cs w) = .next (lone (Frame.round l f tmps assign body .normal) (b.atR a (.inRegion ops (i :: rest) :: k) :: cs) w') := by
  have hg := stepGR_op (P := P) (b := b) (k := k) (cs := cs) (w := w) (rest := rest) ho hw
  rw [Oper.semAt_eq _ _ _ (not_defer h (by simp))] at hg
  refine step_lone_go ?_
  rw [hg]; simp [stepG.apply, h, Frame.atR]
theorem finish_put (ho : ops[i]? = some o) (v : Value) : (b.atR a (.inRegion ops (i :: rest) :: k)).finish v = b.atR (a.put o.dst v) (.inRegion ops rest :: k) := by rw [Frame.finish_atR, ho]; rfl
end step

theorem OpOk.of_value {o : Oper} {t : List AV} {m : Mem} {v : AV} {m' : Mem} (h0 : m.next ≤ m'.next)
    (h : ∀ (p : Phi) (a : Act) (w : World), MR P p m w → GP P ≤ m.next → Free p m.next m'.next → VRs p t a.tmps.toList →
      ∃ cv w' p', ((execOp a.eval o).run P w = .ok (.value cv) w' ∨ ((execOp a.eval o).run P w = .ok .skip w' ∧ cv = undef)) ∧ VR p' v cv ∧ Sim P p m w p' m' w') : OpOk P o t m v m' := by
  refine ⟨h0, fun p a w hm hG hf ht b ops i rest k cs ho hw => ?_⟩
  obtain ⟨cv, w', p', h1, h2, h3⟩ := h p a w hm hG hf ht
  rcases h1 with h1 | ⟨h1, rfl⟩
  · exact ⟨cv, p', w', h2, h3, .one (step_value ho hw h1)⟩
  · exact ⟨undef, p', w', h2, h3, .one (step_skipped ho hw h1)⟩

theorem OpOk.pure {o : Oper} {t : List AV} {m : Mem} {v : AV} (h : pureOp P o.op t = some v) : OpOk P o t m v m :=
  .of_value (Nat.le_refl _) fun p _a w hm _ _ ht =>
    let ⟨cv, h1, h2⟩ := pure_sound (w := w) ht hm.glob h
    ⟨cv, w, p, .inl h1, h2, Sim.refl hm⟩

theorem OpOk.read {o : Oper} {t : List AV} {m : Mem} {v : AV} (hc : cls P o.op = .r) (h : readOp P o.op t m = some v) : OpOk P o t m v m :=
  .of_value (Nat.le_refl _) fun p _a w hm _ _ ht =>
    let ⟨cv, h1, h2⟩ := read_sound hm ht hc h
    ⟨cv, w, p, .inl h1, h2, Sim.refl hm⟩

theorem OpOk.alloc {o : Oper} {t : List AV} {m : Mem} {cs : Blk} {mk : Nat → AV} (hc : cls P o.op = .a) (h : allocOp P o.op t = some (cs, mk)) : OpOk P o t m (mk m.next) (m.lay cs) :=
  .of_value (by simp) fun p a w hm hG hf ht => by
    obtain ⟨cv, w', ob, n, h1, h2⟩ := alloc_spec ht hm.glob hc h w
    exact ⟨cv, w', _, .inl h1, h2.value _ _ (by simp), h2.sim hm (hf _ (Nat.le_refl _) (by simp))⟩

theorem callA_sound {call : CallF} (hcall : CallOk P call) {o : Oper} {f : Operand} {xs : List Operand} {ts : Array TypeId} (ho : o.op = .call { callee := .value f, args := ⟨xs⟩, argTypes := ts })
    {t : List AV} {m : Mem} {fv : AV} {as : List AV} {r : AV} {m' : Mem} (hf : ev P t f = some fv) (ha : evs P t xs = some as) (h : callA call fv as m = some (r, m')) : OpOk P o t m r m' := by
  unfold callA at h
  split at h
  · rename_i g first cap
    obtain ⟨h0, hfn⟩ := hcall _ _ _ _ _ h
    refine ⟨h0, fun p a w hm hG hfree ht b ops i rest k cs hoi hw => ?_⟩
    have hfv := ev_VR ht hm.glob hf
    have has := evs_VRs ht hm.glob ha
    simp only [VR] at hfv
    obtain ⟨first', cap', hfe, h1, h2⟩ := hfv
    have hrun : (execOp a.eval o).run P w = (callFunc g ⟨first' ++ xs.map a.eval ++ cap'⟩).run P w := by
      simp only [execOp, ho, resolve, hfe, Deferred.ofValue, Sem.run_bind, Sem.run_pure, Result.andThen_ok, invoke]
      congr 2
      simp
    rcases hfn p w _ hm hG hfree ((h1.append has).append h2) with ⟨fn, g1, g2, g3, g4⟩ | ⟨cv, w', p', g1, g2, g3⟩
    · have he : (callFunc g ⟨first' ++ xs.map a.eval ++ cap'⟩).run P w = .ok (.enter g ⟨first' ++ xs.map a.eval ++ cap'⟩) w := by
        have hb : fn.body.isNone = false := by cases hbb : fn.body <;> simp [hbb] at g2 ⊢
        have hn2 : (fn.name == "runtime.NumGoroutine") = false := by simpa using g3
        simp only [callFunc, Sem.run_bind, run_program, Result.andThen_ok, g1, hn2, hb, Bool.false_eq_true, if_false, Sem.run_pure]
      obtain ⟨e, w', fr, ⟨cv, p', rfl, k1, k2⟩, k3, k4, k5⟩ := g4 (b.atR a (.inRegion ops (i :: rest) :: k) :: cs)
      refine ⟨cv, p', w', k1, k2, .head (step_enter hoi hw (hrun.trans he)) (Steps.trans k3 (.one ?_))⟩
      rw [← finish_put hoi]; exact step_leave_returned k5
    · exact ⟨cv, p', w', g2, g3, .one (step_value hoi hw (hrun.trans g1))⟩
  · rename_i l
    obtain ⟨h0, hfn⟩ := hcall _ _ _ _ _ h
    refine ⟨h0, fun p a w hm hG hfree ht b ops i rest k cs hoi hw => ?_⟩
    have hfv := ev_VR ht hm.glob hf
    have has := evs_VRs ht hm.glob ha
    simp only [VR] at hfv
    obtain ⟨ci, hci, hfe⟩ := hfv
    obtain ⟨g, tmps, assign, body, h1, h2⟩ := hfn p w _ hm hG hfree has ci hci
    have hrun : (execOp a.eval o).run P w = .ok (.round ci.c g tmps assign body) w := by
      simp only [execOp, ho, resolve, hfe, Deferred.ofValue, Sem.run_bind, Sem.run_pure, Result.andThen_ok, invoke]
      rw [← h1]
      congr 2
      simp
    obtain ⟨cv, p', w', k1, k2, k3⟩ := h2 (b.atR a (.inRegion ops (i :: rest) :: k)) cs
    refine ⟨cv, p', w', k1, k2, .head (step_round hoi hw hrun) ?_⟩
    rw [← finish_put hoi]; exact k3
  · simp at h

theorem rangeA_next {t : TypeId} {x v : AV} {m m' : Mem} (h : rangeA P t x m = some (v, m')) : m.next ≤ m'.next := by
  unfold rangeA at h
  split at h
  · split at h
    · cases h; simp
    · cases h
  · cases h
theorem rangeA_sound {p : Phi} {m : Mem} {w : World} (hm : MR P p m w) {t : TypeId} {x v : AV} {x' : Value} {m' : Mem} (hf : Free p m.next m'.next) (hx : VR p x x') (h : rangeA P t x m = some (v, m')) :
    ∃ cv w' p', (Instr.range t x').run P w = .ok cv w' ∧ VR p' v cv ∧ Sim P p m w p' m' w' := by
  unfold rangeA at h
  split at h
  · rename_i key elem b ht
    split at h
    · rename_i es hb
      cases h
      simp only [VR] at hx
      obtain ⟨ci, h1, rfl⟩ := hx
      obtain ⟨o, h2, ces, clock, rfl, ⟨l, h3, h4⟩, h5⟩ := hm.has b _ ci hb h1
      have hfr : p m.next = none := hf _ (Nat.le_refl _) (by simp)
      have hlt := hm.bnd b ci h1
      have hbl := Mem.get_lt hb
      have s1 := Sim.lay (v := .iter b es none) (o := .mapIter (some ci.c) clock #[] clock) (n := 0) (g := some (ces, clock)) (w' := w.alloc (.mapIter (some ci.c) clock #[] clock)) hm hfr (Nat.le_refl w.heap.size) (by show (w.heap.push _)[w.heap.size]? = _; simp) (fun i hi => by show (w.heap.push _)[i]? = _; rw [Array.getElem?_push_lt hi, Array.getElem?_eq_getElem]) (by show w.heap.size ≤ (w.heap.push _).size; simp) rfl rfl rfl
        (fun q hq => ⟨ci, ces, clock, #[], clock, rfl, hq _ _ h1, rfl, rfl, Nat.le_refl _, ⟨l, h3, by
          have : (ces.toList.filter fun e => !(#[] : Array Nat).contains e.born) = ces.toList := by rw [List.filter_eq_self]; intro a _; simp
          rw [this]; exact h4.mono hq⟩, fun e he => by cases he⟩)
      have hg : (m.lay (.iter b es none)).get b = some (.map es) := by rw [Mem.get_lay, if_neg (by omega)]; exact hb
      have s2 := Sim.turnV (v := some (.rmap es m.next)) (o := .map ces clock) s1.rel hg (by simp) (s1.le _ _ h1) (w' := w.alloc (.mapIter (some ci.c) clock #[] clock)) (by show (w.heap.push _)[ci.c]? = _; rw [Array.getElem?_push_lt hlt, ← Array.getElem?_eq_getElem]; exact h2) (fun _ _ => rfl) rfl rfl rfl rfl
        (fun y hy => by cases hy; exact ⟨ces, clock, rfl, ⟨l, h3, h4.mono s1.le⟩, h5, ⟨w.heap.size, 0, 0, some (ces, clock)⟩, by simp, rfl⟩)
      refine ⟨.pointer (some ⟨w.heap.size, 0, none⟩), _, _, ?_, ?_, s1.trans s2 hf⟩
      · simp [Instr.range, run_under ht, run_getObj h2 (by simp)]
      · simp only [VR]
        exact ⟨⟨w.heap.size, 0, 0, some (ces, clock)⟩, by simp, rfl⟩
    · cases h
  · cases h
theorem effK_sound {call : CallF} (hcall : CallOk P call) {o : Oper} {t : List AV} {m : Mem} {K : AV → Mem → R} {r : AV × Mem} (h : effK call P o.op t m K = some r) :
    ∃ v m', K v m' = some r ∧ OpOk P o t m v m' := by
  have ho : ∃ op, o.op = op := ⟨_, rfl⟩
  obtain ⟨op, ho⟩ := ho
  rw [ho] at h
  unfold effK at h
  split at h
  · -- a store
    rename_i s ao vo
    obtain ⟨x, h1, h⟩ := Option.bind_eq_some_iff.1 h
    obtain ⟨y, h2, h⟩ := Option.bind_eq_some_iff.1 h
    obtain ⟨n, h3, h⟩ := Option.bind_eq_some_iff.1 h
    obtain ⟨m', h4, h⟩ := Option.bind_eq_some_iff.1 h
    have hnext : m'.next = m.next := by
      unfold stV at h4
      split at h4
      · split at h4
        · split at h4
          · obtain ⟨_, _, _, rfl⟩ := stCells_spec h4; rfl
          · simp at h4
        · simp at h4
      · simp at h4
    refine ⟨.undef, m', h, .of_value (by omega) fun p a w hm hG hf ht => ?_⟩
    obtain ⟨w', h5, h6⟩ := stV_sound (P := P) hm (ev_VR ht hm.glob h1) (ev_VR ht hm.glob h2) h3 h4
    exact ⟨undef, w', p, .inr ⟨by simp [execOp, ho, h5], rfl⟩, by simp [VR], h6⟩
  · -- append
    rename_i so xo st xt
    obtain ⟨s, h2, h⟩ := Option.bind_eq_some_iff.1 h
    obtain ⟨x, h3, h⟩ := Option.bind_eq_some_iff.1 h
    obtain ⟨⟨v, m'⟩, h4, h⟩ := Option.bind_eq_some_iff.1 h
    refine ⟨v, m', h, .of_value (appendOp_next h4) fun p a w hm hG hf ht => ?_⟩
    obtain ⟨cv, w', p', h5, h6, h7⟩ := appendOp_sound (P := P) (ty := o.type) hm hG (ev_VR ht hm.glob h2) (ev_VR ht hm.glob h3) hf h4
    refine ⟨cv, w', p', .inl ?_, h6, h7⟩
    simp only [execOp, ho]
    rw [builtin_call]
    simp only [builtin, List.map_cons, List.map_nil, Sem.run_bind]
    rw [show (⟨[a.eval so, a.eval xo]⟩ : Array Value) = #[a.eval so, a.eval xo] from rfl, show (⟨[st, xt]⟩ : Array TypeId) = #[st, xt] from rfl, h5]
    rfl
  · -- copy
    rename_i so xo st ts
    obtain ⟨n, h1, h⟩ := Option.bind_eq_some_iff.1 h
    obtain ⟨d, h2, h⟩ := Option.bind_eq_some_iff.1 h
    obtain ⟨x, h3, h⟩ := Option.bind_eq_some_iff.1 h
    obtain ⟨⟨v, m'⟩, h4, h⟩ := Option.bind_eq_some_iff.1 h
    have hnext : m'.next = m.next := by
      unfold copyA at h4
      split at h4
      · split at h4
        · cases h4; rfl
        · split at h4
          · split at h4
            · split at h4
              · obtain ⟨m1, h5, e⟩ := Option.map_eq_some_iff.1 h4
                cases e
                obtain ⟨_, _, _, rfl⟩ := stCells_spec h5; rfl
              · simp at h4
            · simp at h4
          · simp at h4
      · simp at h4
    refine ⟨v, m', h, .of_value (by omega) fun p a w hm hG hf ht => ?_⟩
    obtain ⟨cv, w', h5, h6, h7⟩ := copyA_sound (P := P) (ty := o.type) (_xt := st) (ts := ts) hm h1 (ev_VR ht hm.glob h2) (ev_VR ht hm.glob h3) h4
    refine ⟨cv, w', p, .inl ?_, h6, h7⟩
    simp only [execOp, ho]
    rw [builtin_call]
    simp only [builtin, List.map_cons, List.map_nil, Sem.run_bind]
    rw [show (⟨[a.eval so, a.eval xo]⟩ : Array Value) = #[a.eval so, a.eval xo] from rfl, h5]
    rfl
  · -- a map's entry
    rename_i s xo ko vo
    obtain ⟨x, h1, h⟩ := Option.bind_eq_some_iff.1 h
    obtain ⟨k, h2, h⟩ := Option.bind_eq_some_iff.1 h
    obtain ⟨v, h3, h⟩ := Option.bind_eq_some_iff.1 h
    obtain ⟨m', h4, h⟩ := Option.bind_eq_some_iff.1 h
    refine ⟨.undef, m', h, .of_value (Nat.le_of_eq (mapPut_next h4).symm) fun p a w hm hG hf ht => ?_⟩
    obtain ⟨w', h5, h6⟩ := mapPut_sound hm (ev_VR ht hm.glob h1) (ev_VR ht hm.glob h2) (ev_VR ht hm.glob h3) h4
    exact ⟨undef, w', p, .inr ⟨by simp [execOp, ho, h5], rfl⟩, by simp [VR], h6⟩
  · rename_i s xo ko vo
    obtain ⟨x, h1, h⟩ := Option.bind_eq_some_iff.1 h
    obtain ⟨k, h2, h⟩ := Option.bind_eq_some_iff.1 h
    obtain ⟨v, h3, h⟩ := Option.bind_eq_some_iff.1 h
    obtain ⟨m', h4, h⟩ := Option.bind_eq_some_iff.1 h
    refine ⟨.undef, m', h, .of_value (Nat.le_of_eq (mapPut_next h4).symm) fun p a w hm hG hf ht => ?_⟩
    obtain ⟨w', h5, h6⟩ := mapPut_sound hm (ev_VR ht hm.glob h1) (ev_VR ht hm.glob h2) (ev_VR ht hm.glob h3) h4
    exact ⟨undef, w', p, .inr ⟨by simp [execOp, ho, h5], rfl⟩, by simp [VR], h6⟩
  · -- delete
    rename_i xo ko st ts
    obtain ⟨x, h1, h⟩ := Option.bind_eq_some_iff.1 h
    obtain ⟨k, h2, h⟩ := Option.bind_eq_some_iff.1 h
    obtain ⟨m', h4, h⟩ := Option.bind_eq_some_iff.1 h
    refine ⟨.undef, m', h, .of_value (Nat.le_of_eq (mapDel_next h4).symm) fun p a w hm hG hf ht => ?_⟩
    obtain ⟨w', h5, h6⟩ := mapDel_sound (ty := o.type) (ts := ts) hm (ev_VR ht hm.glob h1) (ev_VR ht hm.glob h2) h4
    refine ⟨.tuple #[], w', p, .inl ?_, by simp [VR], h6⟩
    simp only [execOp, ho]
    rw [builtin_call]
    simp only [builtin, List.map_cons, List.map_nil, Sem.run_bind]
    rw [show (⟨[a.eval xo, a.eval ko]⟩ : Array Value) = #[a.eval xo, a.eval ko] from rfl, h5]
    rfl
  · -- clear
    rename_i xo st ts
    obtain ⟨x, h1, h⟩ := Option.bind_eq_some_iff.1 h
    obtain ⟨m', h4, h⟩ := Option.bind_eq_some_iff.1 h
    refine ⟨.undef, m', h, .of_value (Nat.le_of_eq (clearA_next h4).symm) fun p a w hm hG hf ht => ?_⟩
    obtain ⟨w', h5, h6⟩ := clearA_sound (ty := o.type) (ts := ts) hm (ev_VR ht hm.glob h1) h4
    refine ⟨.tuple #[], w', p, .inl ?_, by simp [VR], h6⟩
    simp only [execOp, ho]
    rw [builtin_call]
    simp only [builtin, List.map_cons, List.map_nil, Sem.run_bind]
    rw [show (⟨[a.eval xo]⟩ : Array Value) = #[a.eval xo] from rfl, h5]
    rfl
  · -- a call
    rename_i f xs ts
    obtain ⟨fv, h1, h⟩ := Option.bind_eq_some_iff.1 h
    obtain ⟨as, h2, h⟩ := Option.bind_eq_some_iff.1 h
    obtain ⟨⟨v, m'⟩, h3, h⟩ := Option.bind_eq_some_iff.1 h
    exact ⟨v, m', h, callA_sound hcall ho h1 h2 h3⟩
  · -- a loop over a map begins
    rename_i s xo
    obtain ⟨x, h1, h⟩ := Option.bind_eq_some_iff.1 h
    obtain ⟨⟨v, m'⟩, h3, h⟩ := Option.bind_eq_some_iff.1 h
    refine ⟨v, m', h, .of_value (rangeA_next h3) fun p a w hm hG hf ht => ?_⟩
    obtain ⟨cv, w', p', h5, h6, h7⟩ := rangeA_sound hm hf (ev_VR ht hm.glob h1) h3
    exact ⟨cv, w', p', .inl (by simp [execOp, ho, h5]), h6, h7⟩
  · simp at h

theorem opK_sound {call : CallF} (hcall : CallOk P call) {o : Oper} {t : List AV} {m : Mem} {K : AV → Mem → R} {r : AV × Mem} (h : opK call P o.op t m K = some r) :
    ∃ v m', K v m' = some r ∧ OpOk P o t m v m' := by
  unfold opK at h
  split at h
  · obtain ⟨v, h1, h⟩ := Option.bind_eq_some_iff.1 h
    exact ⟨v, m, h, .pure h1⟩
  · rename_i hc
    obtain ⟨v, h1, h⟩ := Option.bind_eq_some_iff.1 h
    exact ⟨v, m, h, .read hc h1⟩
  · rename_i hc
    obtain ⟨⟨cs, mk⟩, h1, h⟩ := Option.bind_eq_some_iff.1 h
    exact ⟨mk m.next, m.lay cs, h, .alloc hc h1⟩
  · exact effK_sound hcall h

theorem guardA_sound {all : List Oper} {o : Oper} {t : List AV} {sk : List Tmp} {y n : List AV → R} {r : AV × Mem} (h : guardA sk all o t y n = some r) :
    (y t = some r ∧ ∀ (p : Phi) (tmps : Array Value), VRs p t tmps.toList → Region.wanted o (yielded ⟨all⟩ tmps) = true) ∨
    (n t = some r ∧ ∀ (p : Phi) (tmps : Array Value), VRs p t tmps.toList → Region.wanted o (yielded ⟨all⟩ tmps) = false) := by
  replace h := guardA_same h
  unfold guardA0 at h
  split at h
  · rename_i hg
    exact .inl ⟨h, fun p tmps _ => by simp [Region.wanted, hg]⟩
  · rename_i j want hg
    split at h
    · rename_i d hd
      split at h
      · rename_i b hb
        have hy : ∀ (p : Phi) (tmps : Array Value), VRs p t tmps.toList → yielded ⟨all⟩ tmps j = some b := by
          intro p tmps ht
          have : t[d]? = some (.bool b) := by
            cases e : t[d]? with
            | none => rw [List.getD_eq_getElem?_getD, e] at hb; simp at hb
            | some x => rw [List.getD_eq_getElem?_getD, e] at hb; simp at hb; rw [hb]
          obtain ⟨v, h1, h2⟩ := ht.get this
          simp only [VR] at h2; subst h2
          unfold yielded
          have h1' : tmps[d]? = some (.bool b) := by rw [← Array.getElem?_toList]; exact h1
          have hd' : ((⟨all⟩ : Array Oper)[j]?).bind (·.dst) = some d := by simpa using hd
          rw [hd']; simp [h1']
        split at h
        · rename_i hbw
          refine .inl ⟨h, fun p tmps ht => ?_⟩
          simp only [Region.wanted, hg, hy p tmps ht, hbw]
          simp
        · rename_i hbw
          refine .inr ⟨h, fun p tmps ht => ?_⟩
          simp only [Region.wanted, hg, hy p tmps ht]
          simpa using hbw
      · rename_i hb
        refine .inr ⟨h, fun p tmps ht => ?_⟩
        have : t[d]? = some (.tup []) := by
          cases e : t[d]? with
          | none => rw [List.getD_eq_getElem?_getD, e] at hb; simp at hb
          | some x => rw [List.getD_eq_getElem?_getD, e] at hb; simp at hb; rw [hb]
        obtain ⟨v, h1, h2⟩ := ht.get this
        simp only [VR] at h2
        obtain ⟨vs, rfl, h3⟩ := h2
        have hd' : ((⟨all⟩ : Array Oper)[j]?).bind (·.dst) = some d := by simpa using hd
        have h1' : tmps[d]? = some (.tuple ⟨vs⟩) := by rw [← Array.getElem?_toList]; exact h1
        have hy : yielded ⟨all⟩ tmps j = none := by unfold yielded; rw [hd']; simp [h1']
        simp only [Region.wanted, hg, hy]
        rfl
      · simp at h
    · simp at h

theorem VRs.aput {p : Phi} {t : List AV} {a : Act} (h : VRs p t a.tmps.toList) (d : Option Tmp) {v : AV} {cv : Value} (hv : VR p v cv) : VRs p (aput t d v) (a.put d cv).tmps.toList := by
  cases d with
  | none => exact h
  | some d => simp only [Abs.aput, setF_eq, Act.put, Array.toList_setIfInBounds]; exact h.set d hv

theorem put_defers' (a : Act) (d : Option Tmp) (v : Value) : (a.put d v).defers = a.defers := by cases d <;> rfl

def OpsOk (P : Program) (all : List Oper) (idx : List Nat) (t : List AV) (m : Mem) (t' : List AV) (m' : Mem) : Prop :=
  m.next ≤ m'.next ∧ ∀ (p : Phi) (a : Act) (w : World), MR P p m w → GP P ≤ m.next → Free p m.next m'.next → VRs p t a.tmps.toList → ∀ (b : Frame) (k : List Item) (cs : List Frame),
    ∃ p' a' w', VRs p' t' a'.tmps.toList ∧ a'.defers = a.defers ∧ Sim P p m w p' m' w' ∧ Steps P (lone (b.atR a (.inRegion ⟨all⟩ idx :: k)) cs w) (lone (b.atR a' (.inRegion ⟨all⟩ [] :: k)) cs w')

theorem OpsOk.cons {all : List Oper} {o : Oper} {i : Nat} (hi : all[i]? = some o) {idx : List Nat} {t : List AV} {m : Mem} {v : AV} {m1 : Mem} {t' : List AV} {m' : Mem}
    (hw : ∀ (p : Phi) (tmps : Array Value), VRs p t tmps.toList → Region.wanted o (yielded ⟨all⟩ tmps) = true) (h : OpOk P o t m v m1) (h' : OpsOk P all idx (aput t o.dst v) m1 t' m') : OpsOk P all (i :: idx) t m t' m' := by
  refine ⟨Nat.le_trans h.1 h'.1, fun p a w hm hG hf ht b k cs => ?_⟩
  have hi' : (⟨all⟩ : Array Oper)[i]? = some o := by simpa using hi
  obtain ⟨cv, p1, w1, hv, hs, hst⟩ := h.2 p a w hm hG (hf.sub (Nat.le_refl _) h'.1) ht b ⟨all⟩ i idx k cs hi' (hw p a.tmps ht)
  obtain ⟨p', a', w', k1, k2, k3, k4⟩ := h'.2 p1 _ w1 hs.rel (Nat.le_trans hG hs.next) (hf.step hs) ((ht.mono hs.le).aput _ hv) b k cs
  exact ⟨p', a', w', k1, k2.trans (put_defers' _ _ _), hs.trans k3 hf, Steps.trans hst k4⟩

theorem OpsOk.skip {all : List Oper} {o : Oper} {i : Nat} (hi : all[i]? = some o) {idx : List Nat} {t : List AV} {m : Mem} {t' : List AV} {m' : Mem}
    (hw : ∀ (p : Phi) (tmps : Array Value), VRs p t tmps.toList → Region.wanted o (yielded ⟨all⟩ tmps) = false) (h' : OpsOk P all idx (aput t o.dst (.tup [])) m t' m') : OpsOk P all (i :: idx) t m t' m' := by
  refine ⟨h'.1, fun p a w hm hG hf ht b k cs => ?_⟩
  have hi' : (⟨all⟩ : Array Oper)[i]? = some o := by simpa using hi
  have hs := stepR_op_skip (P := P) (b := b) (a := a) (k := k) (cs := cs) (w := w) (ops := ⟨all⟩) (i := i) (rest := idx) (by simp only [hi', Option.map_some, Option.getD_some]; exact hw p a.tmps ht)
  simp only [hi', Option.bind_some] at hs
  obtain ⟨p', a', w', k1, k2, k3, k4⟩ := h'.2 p _ w hm hG hf (ht.aput _ (by simp only [VR]; exact ⟨[], rfl, by simp [VRs]⟩)) b k cs
  exact ⟨p', a', w', k1, k2.trans (put_defers' _ _ _), k3, .head hs k4⟩

theorem opsK_sound {call : CallF} (hcall : CallOk P call) {all : List Oper} : ∀ (os : List Oper) (i : Nat), (∀ j, os[j]? = all[i + j]?) → ∀ {sk : List Tmp} {t : List AV} {m : Mem} {K : List AV → Mem → R} {r : AV × Mem}, opsK call P all os sk t m K = some r →
    ∃ t' m', K t' m' = some r ∧ OpsOk P all (List.range' i os.length) t m t' m'
  | [], i, _, _, t, m, K, r, h => ⟨t, m, h, Nat.le_refl _, fun p a w hm _ _ ht b k cs => ⟨p, a, w, ht, rfl, Sim.refl hm, .refl _ _⟩⟩
  | o :: os, i, hall, _, t, m, K, r, h => by
    simp only [opsK] at h
    have hi : all[i]? = some o := by have := hall 0; simpa using this.symm
    have hall' : ∀ j, os[j]? = all[i + 1 + j]? := fun j => by
      have := hall (j + 1)
      rw [List.getElem?_cons_succ] at this
      rw [this]; congr 1; omega
    rw [List.length_cons, List.range'_succ]
    rcases guardA_sound h with ⟨h, hw⟩ | ⟨h, hw⟩
    · obtain ⟨v, m1, h1, h2⟩ := opK_sound hcall h
      obtain ⟨t', m', h3, h4⟩ := opsK_sound hcall os (i + 1) hall' h1
      exact ⟨t', m', h3, .cons hi hw h2 h4⟩
    · obtain ⟨t', m', h3, h4⟩ := opsK_sound hcall os (i + 1) hall' h
      exact ⟨t', m', h3, .skip hi hw h4⟩
end
end Go.Abs
end
section
namespace Go.Abs
open Go

section
variable {P : Program}

def Agree (op : Op) (t t' : List AV) : Prop := ∀ x, .tmp x ∈ op.operands → t.getD x .undef = t'.getD x .undef

theorem ev_agree {t t' : List AV} {x : Operand} (h : ∀ i, x = .tmp i → t.getD i .undef = t'.getD i .undef) : ev P t x = ev P t' x := by
  cases x with
  | tmp i => simp only [ev, nth_eq]; rw [h i rfl]
  | _ => rfl
theorem evs_agree {t t' : List AV} : ∀ {xs : List Operand}, (∀ i, .tmp i ∈ xs → t.getD i .undef = t'.getD i .undef) → evs P t xs = evs P t' xs
  | [], _ => rfl
  | x :: xs, h => by
    simp only [evs]
    rw [ev_agree (x := x) (fun i e => h i (by rw [← e]; simp)), evs_agree (xs := xs) (fun i e => h i (by simp [e]))]
theorem evParts_agree {t t' : List AV} : ∀ {xs : List (Nat × Operand)}, (∀ i, .tmp i ∈ xs.map (·.2) → t.getD i .undef = t'.getD i .undef) → evParts P t xs = evParts P t' xs
  | [], _ => rfl
  | (k, x) :: xs, h => by
    simp only [evParts]
    rw [ev_agree (x := x) (fun i e => h i (by rw [← e]; simp)), evParts_agree (xs := xs) (fun i e => h i (by simp only [List.map_cons, List.mem_cons]; exact .inr e))]

theorem pureOp_agree {op : Op} {t t' : List AV} (h : Agree op t t') : pureOp P op t = pureOp P op t' := by
  have E : ∀ x, x ∈ op.operands → ev P t x = ev P t' x := fun x hx => ev_agree fun i e => h i (e ▸ hx)
  unfold Agree at h
  unfold pureOp
  split <;> simp only [Op.operands] at E h
  case h_15 => rw [E _ (by simp)]
  all_goals first
    | (rw [E _ (by simp)]; done)
    | (rw [E _ (by simp), E _ (by simp)]; done)
    | skip
  case h_3 c a b => rw [E c (by simp), E a (by simp), E b (by simp)]
  case h_12 s x lo hi =>
    rw [E x (by simp)]
    cases lo with
    | none => cases hi with
      | none => rfl
      | some b => simp only []; rw [E b (by simp)]
    | some a => cases hi with
      | none => simp only []; rw [E a (by simp)]
      | some b => simp only []; rw [E a (by simp), E b (by simp)]
  case h_13 s x lo hi mx =>
    rw [E x (by simp), E hi (by simp), E mx (by simp)]
    cases lo with
    | none => rfl
    | some a => simp only []; rw [E a (by simp)]
  case h_16 f first cap =>
    rw [evs_agree (xs := first.toList) (fun i e => h i (by simp; left; simpa using e)), evs_agree (xs := cap.toList) (fun i e => h i (by simp; right; simpa using e))]
  case h_17 s parts => rw [evParts_agree (xs := parts.toList) (fun i e => h i (by simpa using e))]
  case h_18 x s => rw [E x (by simp [Call.operands])]
  case h_19 x s => rw [E x (by simp [Call.operands])]
  case h_20 x y s => rw [E x (by simp [Call.operands]), E y (by simp [Call.operands])]
  case h_21 x y s => rw [E x (by simp [Call.operands]), E y (by simp [Call.operands])]
  case h_22 => rfl

theorem readOp_agree {op : Op} {t t' : List AV} (h : Agree op t t') (m : Mem) : readOp P op t m = readOp P op t' m := by
  have E : ∀ x, x ∈ op.operands → ev P t x = ev P t' x := fun x hx => ev_agree fun i e => h i (e ▸ hx)
  unfold readOp
  split <;> simp only [Op.operands] at E
  · rw [E _ (by simp)]
  · rw [E _ (by simp)]
  · rename_i s x k ok; rw [E x (by simp), E k (by simp)]
  · rename_i x; rw [E x (by simp)]
  · rename_i x s; rw [E x (by simp [Call.operands])]
  · rfl

theorem allocOp_agree {op : Op} {t t' : List AV} (h : Agree op t t') : allocOp P op t = allocOp P op t' := by
  have E : ∀ x, x ∈ op.operands → ev P t x = ev P t' x := fun x hx => ev_agree fun i e => h i (e ▸ hx)
  unfold Agree at h
  unfold allocOp
  cases op <;> simp only [Op.operands] at E h
  case box e x => simp only []; rw [E x (by simp)]
  case buildSlice s len parts =>
    simp only []
    rw [evParts_agree (xs := parts.toList) (fun i e => h i (by simpa using e))]
  case makeSlice s l c => simp only []; rw [E l (by simp), E c (by simp)]
  case convert a b x => simp only []; rw [E x (by simp)]
  case makeMap s r => cases r <;> rfl
  all_goals rfl

noncomputable def effR (call : CallF) (P : Program) (op : Op) (t : List AV) (m : Mem) : R := effK call P op t m fun v m' => some (v, m')

theorem effK_bind (call : CallF) (op : Op) (t : List AV) (m : Mem) (K : AV → Mem → R) : effK call P op t m K = (effR call P op t m).bind fun r => K r.1 r.2 := by
  unfold effR effK
  split
  all_goals simp only [Option.bind_assoc, Option.bind_some, Option.bind_none]

theorem effR_agree {op : Op} {t t' : List AV} (h : Agree op t t') (call : CallF) (m : Mem) : effR call P op t m = effR call P op t' m := by
  have E : ∀ x, x ∈ op.operands → ev P t x = ev P t' x := fun x hx => ev_agree fun i e => h i (e ▸ hx)
  unfold Agree at h
  unfold effR effK
  split <;> simp only [Op.operands] at E h
  · rename_i a b c; rw [E b (by simp), E c (by simp)]
  · rename_i a b c d; rw [E a (by simp [Call.operands]), E b (by simp [Call.operands])]
  · rename_i a b c d; rw [E a (by simp [Call.operands]), E b (by simp [Call.operands])]
  · rename_i s x k v; rw [E x (by simp), E k (by simp), E v (by simp)]
  · rename_i s x k v; rw [E x (by simp), E k (by simp), E v (by simp)]
  · rename_i x k s ts; rw [E x (by simp [Call.operands]), E k (by simp [Call.operands])]
  · rename_i x s ts; rw [E x (by simp [Call.operands])]
  · rename_i f xs ts
    rw [E f (by simp [Call.operands]), evs_agree (xs := xs) (fun i e => h i (by simp [Call.operands, e]))]
  · rename_i s x; rw [E x (by simp)]
  · rfl

theorem effR_sound {call : CallF} (hcall : CallOk P call) {o : Oper} {t : List AV} {m : Mem} {v : AV} {m' : Mem} (h : effR call P o.op t m = some (v, m')) : OpOk P o t m v m' := by
  obtain ⟨v', m1, h1, h2⟩ := effK_sound hcall (o := o) (K := fun v m' => some (v, m')) h
  cases h1
  exact h2

noncomputable def wantedA (ops : List Oper) (o : Oper) (t : List AV) : Option Bool :=
  match o.guard with
  | none => some true
  | some (j, want) => match (ops[j]?).bind (·.dst) with
    | some d => match t.getD d .undef with
      | .bool b => some (b == want)
      | .tup [] => some false
      | _ => none
    | none => none

theorem guardA_wanted {all : List Oper} {o : Oper} {t : List AV} {sk : List Tmp} {y n : List AV → R} {r : AV × Mem} (h : guardA sk all o t y n = some r) : (wantedA all o t = some true ∧ y t = some r) ∨ (wantedA all o t = some false ∧ n t = some r) := by
  replace h := guardA_same h
  unfold guardA0 at h
  unfold wantedA
  split at h
  · rename_i hg; left; refine ⟨?_, h⟩; simp only [hg]
  · rename_i j want hg
    split at h
    · rename_i d hd
      split at h
      · rename_i b hb
        split at h
        · rename_i hbw; left; refine ⟨?_, h⟩; simp only [hg, hd, hb, hbw, beq_self_eq_true]
        · rename_i hbw; right; refine ⟨?_, h⟩; simp only [hg, hd, hb]; simpa using hbw
      · rename_i hb; right; refine ⟨?_, h⟩; simp only [hg, hd, hb]
      · simp at h
    · simp at h

theorem wantedA_true {all : List Oper} {o : Oper} {t : List AV} {b : Bool} (h : wantedA all o t = some b) (p : Phi) (tmps : Array Value) (ht : ∀ d, (match o.guard with | some (j, _) => (all[j]?).bind (·.dst) | none => none) = some d → VR p (t.getD d .undef) (tmps.getD d undef) ∧ d < tmps.size) :
    Region.wanted o (yielded ⟨all⟩ tmps) = b := by
  unfold wantedA at h
  split at h
  · rename_i hg; cases h; simp [Region.wanted, hg]
  · rename_i j want hg
    split at h
    · rename_i d hd
      split at h
      · rename_i c hb
        cases h
        obtain ⟨h1, h2⟩ := ht d (by simp only [hg]; exact hd)
        rw [hb] at h1
        simp only [VR] at h1
        have h3 : tmps[d]? = some (.bool c) := by
          rw [Array.getElem?_eq_getElem h2]
          rw [Array.getD_eq_getD_getElem?, Array.getElem?_eq_getElem h2] at h1
          simpa using h1
        have hd' : ((⟨all⟩ : Array Oper)[j]?).bind (·.dst) = some d := by simpa using hd
        simp only [Region.wanted, hg, yielded, hd', Option.bind_some, h3]
        cases c <;> cases want <;> rfl
      · rename_i hb
        cases h
        obtain ⟨h1, h2⟩ := ht d (by simp only [hg]; exact hd)
        rw [hb] at h1
        simp only [VR] at h1
        obtain ⟨vs, h1, _⟩ := h1
        have h3 : tmps[d]? = some (.tuple ⟨vs⟩) := by
          rw [Array.getElem?_eq_getElem h2]
          rw [Array.getD_eq_getD_getElem?, Array.getElem?_eq_getElem h2] at h1
          simpa using h1
        have hd' : ((⟨all⟩ : Array Oper)[j]?).bind (·.dst) = some d := by simpa using hd
        simp only [Region.wanted, hg, yielded, hd', Option.bind_some, h3]
        cases want <;> rfl
      · simp at h
    · simp at h

theorem chkE_spec {m : Mem} {c : List Nat} {K : R} {r : AV × Mem} : ∀ {rs : List (Nat × (Mem → Option AV) × AV)}, chkE m c rs K = some r → K = some r ∧ ∀ j f v, (j, f, v) ∈ rs → j ∈ c → f m = some v
  | [], h => ⟨h, by simp⟩
  | (j, f, v) :: rs, h => by
    simp only [chkE] at h
    split at h
    · rename_i hj
      split at h
      · rename_i hf
        obtain ⟨h1, h2⟩ := chkE_spec h
        refine ⟨h1, fun j' f' v' hm hc => ?_⟩
        rcases List.mem_cons.1 hm with e | e
        · cases e; exact hf
        · exact h2 _ _ _ e hc
      · simp at h
    · rename_i hj
      obtain ⟨h1, h2⟩ := chkE_spec h
      refine ⟨h1, fun j' f' v' hm hc => ?_⟩
      rcases List.mem_cons.1 hm with e | e
      · cases e; exact absurd hc hj
      · exact h2 _ _ _ e hc
theorem chkR_spec {f : Mem → Option AV} {v : AV} {c : List Nat} {K : R} {r : AV × Mem} : ∀ {es : List (Nat × Mem)}, chkR f v c es K = some r → K = some r ∧ ∀ j m, (j, m) ∈ es → j ∈ c → f m = some v
  | [], h => ⟨h, by simp⟩
  | (j, m) :: es, h => by
    simp only [chkR] at h
    split at h
    · rename_i hj
      split at h
      · rename_i hf
        obtain ⟨h1, h2⟩ := chkR_spec h
        refine ⟨h1, fun j' m' hm hc => ?_⟩
        rcases List.mem_cons.1 hm with e | e
        · cases e; exact hf
        · exact h2 _ _ e hc
      · simp at h
    · rename_i hj
      obtain ⟨h1, h2⟩ := chkR_spec h
      refine ⟨h1, fun j' m' hm hc => ?_⟩
      rcases List.mem_cons.1 hm with e | e
      · cases e; exact absurd hc hj
      · exact h2 _ _ e hc

structure Trace where
  T : Nat → List AV
  M : Nat → Mem
  W : Nat → Bool
  V : Nat → AV

structure StepOk (P : Program) (call : CallF) (all : List Oper) (chk : List (List Nat)) (τ : Trace) (j : Nat) (o : Oper) : Prop where
  wanted : wantedA all o (τ.T j) = some (τ.W j)
  tmps : τ.T (j + 1) = aput (τ.T j) o.dst (τ.V j)
  off : τ.W j = false → τ.V j = .tup [] ∧ τ.M (j + 1) = τ.M j
  pure : τ.W j = true → cls P o.op = .p → pureOp P o.op (τ.T j) = some (τ.V j) ∧ τ.M (j + 1) = τ.M j
  read : τ.W j = true → cls P o.op = .r → readOp P o.op (τ.T j) (τ.M j) = some (τ.V j) ∧ τ.M (j + 1) = τ.M j
  readC : τ.W j = true → cls P o.op = .r → ∀ k ok, k < j → all[k]? = some ok → τ.W k = true → cls P ok.op = .e → k ∈ chk.getD j [] → readOp P o.op (τ.T j) (τ.M k) = some (τ.V j)
  alloc : τ.W j = true → cls P o.op = .a → ∃ cs mk, allocOp P o.op (τ.T j) = some (cs, mk) ∧ τ.V j = mk (τ.M j).next ∧ τ.M (j + 1) = (τ.M j).lay cs
  eff : τ.W j = true → cls P o.op = .e → effR call P o.op (τ.T j) (τ.M j) = some (τ.V j, τ.M (j + 1))
  effC : τ.W j = true → cls P o.op = .e → ∀ k ok, k < j → all[k]? = some ok → τ.W k = true → cls P ok.op = .r → k ∈ chk.getD j [] → readOp P ok.op (τ.T k) (τ.M (j + 1)) = some (τ.V k)

noncomputable def Trace.upd (τ : Trace) (i : Nat) (t : List AV) (m : Mem) (w : Bool) (v : AV) : Trace where
  T := fun j => if j = i then t else τ.T j
  M := fun j => if j = i then m else τ.M j
  W := fun j => if j = i then w else τ.W j
  V := fun j => if j = i then v else τ.V j

theorem dopsK_trace {call : CallF} {all : List Oper} {chk : List (List Nat)} : ∀ (os : List Oper) (cs : List (List Nat)) (sk : List Tmp) (i : Nat) (h : Seen) (t : List AV) (m : Mem) (τ : Trace) {K : List AV → Mem → R} {r : AV × Mem},
    (∀ j, os[j]? = all[i + j]?) → (∀ j, cs[j]? = chk[i + j]?) →
    (∀ k ok, k < i → all[k]? = some ok → τ.W k = true → cls P ok.op = .r → (k, readOp P ok.op (τ.T k), τ.V k) ∈ h.rs) →
    (∀ k ok, k < i → all[k]? = some ok → τ.W k = true → cls P ok.op = .e → (k, τ.M k) ∈ h.es) →
    dopsK call P all cs os sk i h t m K = some r →
    ∃ σ : Trace, (∀ j, j < i → σ.T j = τ.T j ∧ σ.M j = τ.M j ∧ σ.W j = τ.W j ∧ σ.V j = τ.V j) ∧ σ.T i = t ∧ σ.M i = m ∧ K (σ.T (i + os.length)) (σ.M (i + os.length)) = some r ∧
      ∀ j o, i ≤ j → j < i + os.length → all[j]? = some o → StepOk P call all chk σ j o
  | [], cs, _, i, h, t, m, τ, K, r, _, _, _, _, hr => by
    have hr' : K t m = some r := by cases cs <;> simpa [dopsK] using hr
    refine ⟨τ.upd i t m false .undef, fun j hj => ?_, by simp [Trace.upd], by simp [Trace.upd], by simpa [Trace.upd] using hr', fun j o h1 h2 => by simp at h2; omega⟩
    simp [Trace.upd, show j ≠ i by omega]
  | o :: os, [], _, i, h, t, m, τ, K, r, _, _, _, _, hr => by simp [dopsK] at hr
  | o :: os, c :: cs, sk, i, h, t, m, τ, K, r, hall, hchk, hrs, hes, hr => by
    have hi : all[i]? = some o := by have := hall 0; simpa using this.symm
    have hci : chk.getD i [] = c := by have := hchk 0; rw [List.getD_eq_getElem?_getD]; simp at this; simp [← this]
    have hall' : ∀ j, os[j]? = all[i + 1 + j]? := fun j => by
      have := hall (j + 1)
      rw [List.getElem?_cons_succ] at this
      rw [this]; congr 1; omega
    have hchk' : ∀ j, cs[j]? = chk[i + 1 + j]? := fun j => by
      have := hchk (j + 1)
      rw [List.getElem?_cons_succ] at this
      rw [this]; congr 1; omega
    have glue : ∀ {sk' : List Tmp} (b : Bool) (v : AV) (m' : Mem) (h' : Seen) , wantedA all o t = some b →
        dopsK call P all cs os sk' (i + 1) h' (aput t o.dst v) m' K = some r →
        (∀ x, x ∈ h.rs → x ∈ h'.rs) → (∀ x, x ∈ h.es → x ∈ h'.es) →
        (b = true → cls P o.op = .r → (i, readOp P o.op t, v) ∈ h'.rs) → (b = true → cls P o.op = .e → (i, m) ∈ h'.es) →
        (∀ σ : Trace, (∀ j, j < i → σ.T j = τ.T j ∧ σ.M j = τ.M j ∧ σ.W j = τ.W j ∧ σ.V j = τ.V j) → σ.T i = t → σ.M i = m → σ.W i = b → σ.V i = v → σ.T (i + 1) = aput t o.dst v → σ.M (i + 1) = m' → StepOk P call all chk σ i o) →
        ∃ σ : Trace, (∀ j, j < i → σ.T j = τ.T j ∧ σ.M j = τ.M j ∧ σ.W j = τ.W j ∧ σ.V j = τ.V j) ∧ σ.T i = t ∧ σ.M i = m ∧ K (σ.T (i + (o :: os).length)) (σ.M (i + (o :: os).length)) = some r ∧
          ∀ j o', i ≤ j → j < i + (o :: os).length → all[j]? = some o' → StepOk P call all chk σ j o' := by
      intro sk' b v m' h' hw hd hrs' hes' hri hei hstep
      obtain ⟨σ, s1, s2, s3, s4, s5⟩ := dopsK_trace os cs sk' (i + 1) h' (aput t o.dst v) m' (τ.upd i t m b v) hall' hchk'
        (fun k ok hk hok hwk hc => by
          by_cases e : k = i
          · subst e; rw [hi] at hok; cases hok
            simp only [Trace.upd, if_true] at hwk ⊢
            exact hri hwk hc
          · simp only [Trace.upd, if_neg e] at hwk ⊢
            exact hrs' _ (hrs k ok (by omega) hok hwk hc))
        (fun k ok hk hok hwk hc => by
          by_cases e : k = i
          · subst e; rw [hi] at hok; cases hok
            simp only [Trace.upd, if_true] at hwk ⊢
            exact hei hwk hc
          · simp only [Trace.upd, if_neg e] at hwk ⊢
            exact hes' _ (hes k ok (by omega) hok hwk hc)) hd
      have hlow : ∀ j, j < i → σ.T j = τ.T j ∧ σ.M j = τ.M j ∧ σ.W j = τ.W j ∧ σ.V j = τ.V j := fun j hj => by
        have := s1 j (by omega)
        simpa [Trace.upd, show j ≠ i by omega] using this
      have hhere : σ.T i = t ∧ σ.M i = m ∧ σ.W i = b ∧ σ.V i = v := by
        have := s1 i (by omega)
        simpa [Trace.upd] using this
      refine ⟨σ, hlow, hhere.1, hhere.2.1, ?_, fun j o' h1 h2 h3 => ?_⟩
      · rw [show i + (o :: os).length = i + 1 + os.length by simp; omega]; exact s4
      · by_cases e : j = i
        · subst e; rw [hi] at h3; cases h3
          exact hstep σ hlow hhere.1 hhere.2.1 hhere.2.2.1 hhere.2.2.2 s2 s3
        · exact s5 j o' (by omega) (by simp at h2; omega) h3
    simp only [dopsK] at hr
    rcases guardA_wanted hr with ⟨hw, hr⟩ | ⟨hw, hr⟩
    · split at hr
      · rename_i hc
        obtain ⟨v, hv, hr⟩ := Option.bind_eq_some_iff.1 hr
        refine glue true v m h hw hr (fun _ h => h) (fun _ h => h) (fun _ e => absurd (hc.symm.trans e) (by decide)) (fun _ e => absurd (hc.symm.trans e) (by decide)) fun σ _ a1 a2 a3 a4 a5 a6 => ?_
        exact ⟨by rw [a1, a3]; exact hw, by rw [a5, a1, a4], by simp [a3], fun _ _ => by rw [a1, a4, a6, a2]; exact ⟨hv, rfl⟩, fun _ e => absurd (hc.symm.trans e) (by decide), fun _ e => absurd (hc.symm.trans e) (by decide),
          fun _ e => absurd (hc.symm.trans e) (by decide), fun _ e => absurd (hc.symm.trans e) (by decide), fun _ e => absurd (hc.symm.trans e) (by decide)⟩
      · rename_i hc
        obtain ⟨v, hv, hr⟩ := Option.bind_eq_some_iff.1 hr
        obtain ⟨hr, hck⟩ := chkR_spec hr
        refine glue true v m _ hw hr (fun _ h => by simp [h]) (fun _ h => h) (fun _ _ => by simp) (fun _ e => absurd (hc.symm.trans e) (by decide)) fun σ a0 a1 a2 a3 a4 a5 a6 => ?_
        refine ⟨by rw [a1, a3]; exact hw, by rw [a5, a1, a4], by simp [a3], fun _ e => absurd (hc.symm.trans e) (by decide), fun _ _ => by rw [a1, a4, a6, a2]; exact ⟨hv, rfl⟩, fun _ _ k ok hk hok hwk hck' hmem => ?_,
          fun _ e => absurd (hc.symm.trans e) (by decide), fun _ e => absurd (hc.symm.trans e) (by decide), fun _ e => absurd (hc.symm.trans e) (by decide)⟩
        obtain ⟨b1, b2, b3, b4⟩ := a0 k hk
        rw [a1, a4, b2]
        exact hck k _ (hes k ok hk hok (by rw [← b3]; exact hwk) hck') (by rw [hci] at hmem; exact hmem)
      · rename_i hc
        obtain ⟨⟨cs', mk⟩, hv, hr⟩ := Option.bind_eq_some_iff.1 hr
        refine glue true _ _ h hw hr (fun _ h => h) (fun _ h => h) (fun _ e => absurd (hc.symm.trans e) (by decide)) (fun _ e => absurd (hc.symm.trans e) (by decide)) fun σ _ a1 a2 a3 a4 a5 a6 => ?_
        exact ⟨by rw [a1, a3]; exact hw, by rw [a5, a1, a4], by simp [a3], fun _ e => absurd (hc.symm.trans e) (by decide), fun _ e => absurd (hc.symm.trans e) (by decide), fun _ e => absurd (hc.symm.trans e) (by decide),
          fun _ _ => ⟨cs', mk, by rw [a1]; exact hv, by rw [a4, a2], by rw [a6, a2]⟩, fun _ e => absurd (hc.symm.trans e) (by decide), fun _ e => absurd (hc.symm.trans e) (by decide)⟩
      · rename_i hc
        rw [effK_bind] at hr
        obtain ⟨⟨v, m'⟩, hv, hr⟩ := Option.bind_eq_some_iff.1 hr
        obtain ⟨hr, hck⟩ := chkE_spec hr
        refine glue true v m' _ hw hr (fun _ h => h) (fun _ h => by simp [h]) (fun _ e => absurd (hc.symm.trans e) (by decide)) (fun _ _ => by simp) fun σ a0 a1 a2 a3 a4 a5 a6 => ?_
        refine ⟨by rw [a1, a3]; exact hw, by rw [a5, a1, a4], by simp [a3], fun _ e => absurd (hc.symm.trans e) (by decide), fun _ e => absurd (hc.symm.trans e) (by decide), fun _ e => absurd (hc.symm.trans e) (by decide),
          fun _ e => absurd (hc.symm.trans e) (by decide), fun _ _ => by rw [a1, a2, a4, a6]; exact hv, fun _ _ k ok hk hok hwk hck' hmem => ?_⟩
        obtain ⟨b1, b2, b3, b4⟩ := a0 k hk
        rw [a6, b1, b4]
        exact hck k _ _ (hrs k ok hk hok (by rw [← b3]; exact hwk) hck') (by rw [hci] at hmem; exact hmem)
    · refine glue false (.tup []) m h hw hr (fun _ h => h) (fun _ h => h) (fun e => absurd e (by decide)) (fun e => absurd e (by decide)) fun σ _ a1 a2 a3 a4 a5 a6 => ?_
      exact ⟨by rw [a1, a3]; exact hw, by rw [a5, a1, a4], fun _ => by rw [a4, a6, a2]; exact ⟨rfl, rfl⟩, fun e => absurd (a3.symm.trans e) (by decide), fun e => absurd (a3.symm.trans e) (by decide), fun e => absurd (a3.symm.trans e) (by decide),
        fun e => absurd (a3.symm.trans e) (by decide), fun e => absurd (a3.symm.trans e) (by decide), fun e => absurd (a3.symm.trans e) (by decide)⟩
end
end Go.Abs
end
section
namespace Go.Abs
open Go

section
variable {P : Program}

theorem rOk_spec {all : List Oper} {anc chk : List (List Nat)} (h : rOk P all anc chk = true) {j : Nat} {oj : Oper} (hj : all[j]? = some oj) :
    ancRow anc j oj = true ∧ ∀ i oi, i < j → all[i]? = some oi → pairOk P all anc chk i j oi oj = true := by
  have hlt : j < all.length := (List.getElem?_eq_some_iff.1 hj).1
  have h1 := List.all_eq_true.1 h j (List.mem_range.2 hlt)
  simp only [rowOk, hj, Bool.and_eq_true] at h1
  refine ⟨h1.1, fun i oi hi hoi => ?_⟩
  have := List.all_eq_true.1 h1.2 i (List.mem_range.2 hi)
  simpa only [hoi] using this

theorem anc_in {all : List Oper} {anc chk : List (List Nat)} (h : rOk P all anc chk = true) {S : Nat → Bool} (hS : ∀ j o, all[j]? = some o → S j = true → ∀ e ∈ edgesOf o, S e = true) :
    ∀ (j : Nat) (o : Oper), all[j]? = some o → (∀ e ∈ edgesOf o, S e = true) → ∀ x ∈ anc.getD j [], S x = true := by
  intro j
  induction j using Nat.strongRecOn with
  | _ j ih =>
    intro o ho he x hx
    have h1 := (rOk_spec h ho).1
    simp only [ancRow, Bool.and_eq_true] at h1
    have h2 := List.all_eq_true.1 h1.1.2 x hx
    have h3 := List.all_eq_true.1 h1.1.1
    rw [Bool.or_eq_true] at h2
    rcases h2 with h2 | h2
    · exact he x (by simpa using h2)
    · obtain ⟨e, h4, h5⟩ := List.any_eq_true.1 h2
      have hlt : e < j := by simpa using h3 e h4
      have hoe : ∃ oe, all[e]? = some oe := ⟨all[e]'(by have := (List.getElem?_eq_some_iff.1 ho).1; omega), by rw [List.getElem?_eq_getElem]⟩
      obtain ⟨oe, hoe⟩ := hoe
      exact ih e hlt oe hoe (hS e oe hoe (he e h4)) x (by simpa using h5)

def dstOf (all : List Oper) (k : Nat) : Option Tmp := (all[k]?).bind (·.dst)
noncomputable def stepS (all : List Oper) (V : Nat → AV) (S : Nat → Bool) (t : List AV) (k : Nat) : List AV := if S k then aput t (dstOf all k) (V k) else t
noncomputable def tmpsS (all : List Oper) (V : Nat → AV) (S : Nat → Bool) (t0 : List AV) : List AV := (List.range all.length).foldl (stepS all V S) t0

theorem aput_length (t : List AV) (d : Option Tmp) (v : AV) : (aput t d v).length = t.length := by cases d <;> simp [aput, setF_eq]
theorem aput_getD (t : List AV) (d : Option Tmp) (v : AV) (x : Nat) (hx : x < t.length) : (aput t d v).getD x .undef = if d = some x then v else t.getD x .undef := by
  cases d with
  | none => simp [aput]
  | some d =>
    simp only [aput, setF_eq, List.getD_eq_getElem?_getD, Option.some.injEq]
    by_cases e : d = x
    · subst e; simp [hx]
    · rw [List.getElem?_set_ne e, if_neg e]
theorem stepS_length (all : List Oper) (V : Nat → AV) (S : Nat → Bool) (t : List AV) (k : Nat) : (stepS all V S t k).length = t.length := by
  unfold stepS; split
  · exact aput_length _ _ _
  · rfl
theorem foldS_length (all : List Oper) (V : Nat → AV) (S : Nat → Bool) : ∀ (l : List Nat) (t : List AV), (l.foldl (stepS all V S) t).length = t.length
  | [], _ => rfl
  | k :: l, t => by rw [List.foldl_cons, foldS_length all V S l, stepS_length]

theorem foldS_agree (all : List Oper) (V : Nat → AV) {S S' : Nat → Bool} {x : Nat} : ∀ (l : List Nat) (t t' : List AV), (∀ k ∈ l, dstOf all k = some x → S k = S' k) → x < t.length → t.length = t'.length → t.getD x .undef = t'.getD x .undef →
    (l.foldl (stepS all V S) t).getD x .undef = (l.foldl (stepS all V S') t').getD x .undef
  | [], _, _, _, _, _, h => h
  | k :: l, t, t', hS, hx, hl, h => by
    rw [List.foldl_cons, List.foldl_cons]
    refine foldS_agree all V l _ _ (fun j hj => hS j (by simp [hj])) (by rw [stepS_length]; exact hx) (by rw [stepS_length, stepS_length]; exact hl) ?_
    unfold stepS
    by_cases hd : dstOf all k = some x
    · rw [hS k (by simp) hd]
      split
      · rw [aput_getD _ _ _ _ hx, aput_getD _ _ _ _ (by omega), hd]; simp
      · exact h
    · have e1 : ∀ (b : Bool) (t : List AV), x < t.length → (if b = true then aput t (dstOf all k) (V k) else t).getD x .undef = t.getD x .undef := by
        intro b t ht
        cases b with
        | false => rfl
        | true => rw [if_pos rfl, aput_getD _ _ _ _ ht, if_neg hd]
      rw [e1 _ _ hx, e1 _ _ (by omega)]; exact h

theorem foldS_none (all : List Oper) (V : Nat → AV) {S : Nat → Bool} {x : Nat} : ∀ (l : List Nat) (t : List AV), (∀ k ∈ l, S k = true → dstOf all k ≠ some x) → x < t.length → (l.foldl (stepS all V S) t).getD x .undef = t.getD x .undef
  | [], _, _, _ => rfl
  | k :: l, t, hS, hx => by
    rw [List.foldl_cons, foldS_none all V l _ (fun j hj => hS j (by simp [hj])) (by rw [stepS_length]; exact hx)]
    unfold stepS
    split
    · rename_i h; rw [aput_getD _ _ _ _ hx, if_neg (hS k (by simp) h)]
    · rfl

theorem range_split {n i : Nat} (h : i < n) : List.range n = List.range i ++ i :: List.range' (i + 1) (n - (i + 1)) := by
  rw [List.range_eq_range', List.range_eq_range']
  have : n = i + (1 + (n - (i + 1))) := by omega
  conv => lhs; rw [this]
  rw [← List.range'_append_1]
  congr 1
  rw [Nat.zero_add, Nat.add_comm 1, List.range'_succ]

theorem tmpsS_last {all : List Oper} {V : Nat → AV} {S : Nat → Bool} {t0 : List AV} {i x : Nat} (hi : i < all.length) (hSi : S i = true) (hd : dstOf all i = some x) (hx : x < t0.length)
    (hlast : ∀ k, i < k → S k = true → dstOf all k ≠ some x) : (tmpsS all V S t0).getD x .undef = V i := by
  unfold tmpsS
  rw [range_split hi, List.foldl_append, List.foldl_cons]
  rw [foldS_none all V _ _ (fun k hk hS => hlast k (by have := List.mem_range'_1.1 hk; omega) hS) (by rw [stepS_length, foldS_length]; exact hx)]
  have hlen := foldS_length all V S (List.range i) t0
  generalize (List.range i).foldl (stepS all V S) t0 = f at *
  unfold stepS
  rw [if_pos hSi, aput_getD _ _ _ _ (by omega), if_pos hd]

theorem T_eq {call : CallF} {all : List Oper} {chk : List (List Nat)} {τ : Trace} (hτ : ∀ j o, j < all.length → all[j]? = some o → StepOk P call all chk τ j o) :
    ∀ j, j ≤ all.length → τ.T j = (List.range j).foldl (stepS all τ.V fun _ => true) (τ.T 0) := by
  intro j
  induction j with
  | zero => intro _; rfl
  | succ j ih =>
    intro hj
    have ho : all[j]? = some (all[j]'(by omega)) := List.getElem?_eq_getElem (by omega)
    rw [List.range_succ, List.foldl_append, ← ih (by omega), (hτ j _ (by omega) ho).tmps]
    simp [stepS, dstOf, ho]

theorem T_length {call : CallF} {all : List Oper} {chk : List (List Nat)} {τ : Trace} (hτ : ∀ j o, j < all.length → all[j]? = some o → StepOk P call all chk τ j o) {j : Nat} (hj : j ≤ all.length) : (τ.T j).length = (τ.T 0).length := by
  rw [T_eq hτ j hj, foldS_length]

theorem T_getD {call : CallF} {all : List Oper} {chk : List (List Nat)} {τ : Trace} (hτ : ∀ j o, j < all.length → all[j]? = some o → StepOk P call all chk τ j o) {j : Nat} (hj : j ≤ all.length) {S : Nat → Bool} {x : Nat} (hx : x < (τ.T 0).length)
    (hS : ∀ k, k < all.length → dstOf all k = some x → S k = decide (k < j)) : (tmpsS all τ.V S (τ.T 0)).getD x .undef = (τ.T j).getD x .undef := by
  rw [T_eq hτ j hj]
  unfold tmpsS
  have hsp : List.range all.length = List.range j ++ List.range' j (all.length - j) := by
    rw [List.range_eq_range', List.range_eq_range']
    conv => lhs; rw [show all.length = j + (all.length - j) by omega]
    rw [← List.range'_append_1, Nat.zero_add]
  rw [hsp, List.foldl_append]
  rw [foldS_none all τ.V _ _ (fun k hk hSk hd => by
    have := List.mem_range'_1.1 hk
    rw [hS k (by omega) hd] at hSk
    simp at hSk; omega) (by rw [foldS_length]; exact hx)]
  exact foldS_agree all τ.V _ _ _ (fun k hk hd => by
    have := List.mem_range.1 hk
    rw [hS k (by omega) hd]; simp; omega) hx rfl rfl
end
end Go.Abs
end
