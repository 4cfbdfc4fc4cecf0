/- A hook for slices.Insert: what it answers does not hang on the capacity. -/
import Derived.Test.YtpoafkipnjfioaaGreatAbs24
namespace Go.Abs
open Go

section
variable {P : Program}

theorem MR.congr {p : Phi} {m m2 : Mem} {w : World} (h : MR P p m w) (hn : m.next = m2.next) (hg : ∀ b, m.get b = m2.get b) : MR P p m2 w where
  has := fun b v ci h1 h2 => h.has b v ci (by rw [hg]; exact h1) h2
  inj := fun b ci b2 ci2 h1 h2 h3 h4 => by rw [← hg] at h1 ⊢; rw [← hn]; exact h.inj b ci b2 ci2 h1 h2 h3 h4
  bnd := h.bnd
  glob := h.glob
theorem Sim.congr {p p' : Phi} {m m1 m2 : Mem} {w w' : World} (h : Sim P p m w p' m1 w') (hn : m1.next = m2.next) (hg : ∀ b, m1.get b = m2.get b) : Sim P p m w p' m2 w' where
  le := h.le
  out := fun b hb => h.out b (by rw [hn]; exact hb)
  next := by rw [← hn]; exact h.next
  rel := h.rel.congr hn hg
  keepA := fun b h1 h2 => by rw [← hg]; exact h.keepA b h1 h2
  dead := fun b h1 h2 => by rw [← hg]; exact h.dead b h1 h2
  keepC := h.keepC
  fresh := fun b ci h1 h2 h3 => h.fresh b ci h1 (by rw [hn]; exact h2) h3
  ro := fun b cs ci h1 h2 => by rw [← hg]; exact h.ro b cs ci h1 h2
  size := h.size
  os := h.os
  output := h.output
  tape := h.tape

/-- A block known in more cells. -/
theorem Sim.widen {p : Phi} {m : Mem} {w : World} (h : MR P p m w) {b : Nat} {cs : List AV} {ci : CI} (hb : m.get b = some (.cells cs false)) (hp : p b = some ci) :
    cs.length ≤ ci.n - ci.d ∧ Sim P p m w p (m.put b (some (.cells (cs ++ List.replicate (ci.n - ci.d - cs.length) .undef) false))) w := by
  obtain ⟨arr, el, fr, h1, h2, h3, h4⟩ := h.live b cs false ci hb hp
  have hl : cs.length ≤ ci.n - ci.d := by
    by_cases h0 : cs.length = 0
    · omega
    · obtain ⟨v, hv, _⟩ := h4 (cs.length - 1) (cs[cs.length - 1]'(by omega)) (List.getElem?_eq_getElem (by omega))
      have := (Array.getElem?_eq_some_iff.1 hv).1
      omega
  refine ⟨hl, Sim.turn h hb hp h1 h2 (h3 rfl) (fun i a hi => ?_) (fun _ _ => rfl) rfl rfl rfl rfl⟩
  by_cases hi2 : i < cs.length
  · rw [List.getElem?_append_left hi2] at hi
    exact h4 i a hi
  · rw [List.getElem?_append_right (by omega), List.getElem?_replicate] at hi
    split at hi
    · rename_i hlt
      cases hi
      have : ci.d + i < arr.size := by omega
      exact ⟨arr[ci.d + i], Array.getElem?_eq_getElem this, by simp [VR]⟩
    · cases hi

/-- slices.Insert within a slice whose capacity is not known. -/
noncomputable def insH (P : Program) (st : TypeId) (args : List AV) (m : Mem) : R :=
  match P.underlying st with
  | some (.slice e) => (szT P e).bind fun sz => (bytesT P e).bind fun w => (zeroA P e).bind fun zs =>
    match args with
    | [s, .int .i64 i, .sl (some x) sx lx cx ex] => (srcA sz (.sl (some x) sx lx cx ex) m).bind fun kn =>
      if 0 < kn.1 ∧ 0 ≤ i ∧ kn.2.all AV.one = true then
        match s with
        | .sl none _ 0 0 _ => if i = 0 then appendA sz w s (.sl (some x) sx lx cx ex) m else none
        | .sl (some a) s' len cap ex' =>
          if i = len then (if s' = sz ∨ ex' = true then appendA sz w s (.sl (some x) sx lx cx ex) m else none)
          else if i < len ∧ s' = sz ∧ ex' = false ∧ x.b ≠ a.b ∧ 0 < sz ∧ 0 < w ∧ zs.length = sz ∧ (len + kn.1) * w ≤ maxBytes ∧ len ≤ cap then
            match m.get x.b, m.get a.b with
            | some (.cells _ false), some (.cells _ false) => (ldCells m a (len * sz)).bind fun old =>
              if old.all AV.one = true then
                some (.sl (some ⟨m.next, 0⟩) sz (len + kn.1) (len + kn.1) false, (m.put a.b none).alloc (old.take (i.toNat * sz) ++ kn.2 ++ old.drop (i.toNat * sz)))
              else none
            | _, _ => none
          else none
        | _ => none
      else none
    | _ => none
  | _ => none

/-- What is asked of the text: at the end it appends; within it shifts in place, or builds anew. -/
structure InsText (E : Env) (f : FuncId) (st : TypeId) (sz w : Nat) (zs : List AV) : Prop where
  fin : ∀ (s x : AV) (_n k : Nat) (new : List AV) (sa : Option AA) (sz0 len cap : Nat) (ex : Bool) (xa : AA) (sx cx : Nat) (exx : Bool) (m : Mem) (r : AV × Mem), s = .sl sa sz0 len cap ex → x = .sl (some xa) sx k cx exx → srcA sz x m = some (k, new) → 0 < k → new.all AV.one = true →
    ((∃ a, sa = some a ∧ (sz0 = sz ∨ ex = true)) ∨ sa = none ∧ len = 0 ∧ cap = 0) → appendA sz w s x m = some r → run E (.fn f) [s, .int .i64 len, x] m = some r
  room : ∀ (a : AA) (len cap i k : Nat) (xa : AA) (sx cx : Nat) (exx : Bool) (cs old new : List AV) (m : Mem), m.get a.b = some (.cells cs false) → a.o + cap * sz ≤ cs.length → (cs.drop a.o).take (len * sz) = old → old.all AV.one = true → (∃ ds, m.get xa.b = some (.cells ds false)) → xa.b ≠ a.b →
    srcA sz (.sl (some xa) sx k cx exx) m = some (k, new) → new.all AV.one = true → 0 < k → 0 < sz → 0 < w → zs.length = sz → i < len → (len + k) * w ≤ maxBytes → len + k ≤ cap →
    ∃ m2, run E (.fn f) [.sl (some a) sz len cap true, .int .i64 i, .sl (some xa) sx k cx exx] m = some (.sl (some a) sz (len + k) cap true, m2) ∧ m2.next = m.next ∧ (∀ b, b ≠ a.b → m2.get b = m.get b) ∧
      m2.get a.b = some (.cells (cs.take (a.o + i * sz) ++ new ++ old.drop (i * sz) ++ cs.drop (a.o + (len + k) * sz)) false)
  grow : ∀ (a : AA) (len cap i k : Nat) (xa : AA) (sx cx : Nat) (exx : Bool) (cs old new : List AV) (m : Mem), m.get a.b = some (.cells cs false) → a.o + cap * sz ≤ cs.length → (cs.drop a.o).take (len * sz) = old → old.all AV.one = true → (∃ ds, m.get xa.b = some (.cells ds false)) → xa.b ≠ a.b →
    srcA sz (.sl (some xa) sx k cx exx) m = some (k, new) → new.all AV.one = true → 0 < k → 0 < sz → 0 < w → zs.length = sz → i < len → (len + k) * w ≤ maxBytes → len ≤ cap → cap < len + k →
    ∃ m2, run E (.fn f) [.sl (some a) sz len cap true, .int .i64 i, .sl (some xa) sx k cx exx] m = some (.sl (some ⟨m.next, 0⟩) sz (len + k) (len + k) false, m2) ∧ m2.next = m.next + 1 ∧ (∀ b, b ≠ m.next → m2.get b = m.get b) ∧
      m2.get m.next = some (.cells (old.take (i * sz) ++ new ++ old.drop (i * sz)) false)

theorem srcA_len {sz k : Nat} {x : AA} {sx lx cx : Nat} {ex : Bool} {m : Mem} {new : List AV} (h : srcA sz (.sl (some x) sx lx cx ex) m = some (k, new)) : k = lx := by
  unfold srcA at h
  simp only at h
  split at h
  · obtain ⟨cs, _, e⟩ := Option.map_eq_some_iff.1 h
    cases e; rfl
  · cases h
theorem srcA_put {sz : Nat} {x : AA} {sx lx cx : Nat} {ex : Bool} {m : Mem} {b : Nat} {v : Option Blk} (h : x.b ≠ b) : srcA sz (.sl (some x) sx lx cx ex) (m.put b v) = srcA sz (.sl (some x) sx lx cx ex) m := by
  unfold srcA ldCells
  simp only [Mem.get_put, if_neg (fun (e : x.b = b ∧ b < m.next) => h e.1)]

/-- WHAT slices.Insert OWES. -/
theorem insert_ok {E : Env} (hE : EnvOk E) {f : FuncId} {st e : TypeId} {sz w : Nat} {zs : List AV} (hst : E.P.underlying st = some (.slice e)) (hsz : szT E.P e = some sz) (hw : bytesT E.P e = some w) (hz : zeroA E.P e = some zs) (hf : ∃ fn, E.P.funcs[f]? = some fn ∧ fn.body.isSome = true ∧ fn.name ≠ "runtime.NumGoroutine")
    (ht : InsText E f st sz w zs) (args : List AV) (m : Mem) (r : AV) (m' : Mem) (h : insH E.P st args m = some (r, m')) : FnOk E.P (.fn f) args m r m' := by
  unfold insH at h
  simp only [hst, hsz, hw, hz, Option.bind_some] at h
  split at h
  · rename_i s i x sx lx cx ex
    obtain ⟨⟨k, new⟩, h1, hA⟩ := Option.bind_eq_some_iff.1 h
    clear h
    have hk := srcA_len h1
    subst hk
    split at hA
    · rename_i hc
      simp only at hc
      obtain ⟨c1, c2, c3⟩ := hc
      split at hA
      · rename_i s0 ex0
        split at hA
        · rename_i hi
          subst hi
          exact run_sound hE _ _ _ _ _ (ht.fin _ _ 0 k new none s0 0 0 ex0 x sx cx ex m (r, m') rfl rfl h1 c1 c3 (.inr ⟨rfl, rfl, rfl⟩) hA)
        · cases hA
      · rename_i a s' len cap ex'
        split at hA
        · rename_i hi
          subst hi
          split at hA
          · rename_i hs
            exact run_sound hE _ _ _ _ _ (ht.fin _ _ len k new (some a) s' len cap ex' x sx cx ex m (r, m') rfl rfl h1 c1 c3 (.inl ⟨a, rfl, hs⟩) hA)
          · cases hA
        · split at hA
          · rename_i hni hcc
            obtain ⟨d1, rfl, rfl, d3, d4, d5, d6, d7, d8⟩ := hcc
            split at hA
            · rename_i xs cs hx ha
              obtain ⟨old, h2, hB⟩ := Option.bind_eq_some_iff.1 hA
              clear hA
              split at hB
              · rename_i hone
                cases hB
                obtain ⟨i, rfl⟩ := Int.eq_ofNat_of_zero_le c2
                simp only [Int.toNat_natCast]
                have hil : i < len := by omega
                refine ⟨by simp, fun p w0 cargs hm hG hfree hv => .inl ?_⟩
                obtain ⟨fn, g1, g2, g3⟩ := hf
                refine ⟨fn, g1, g2, g3, ?_⟩
                -- the capacity as it is
                simp only [VRs] at hv
                obtain ⟨v1, _, rfl, hv1, v2, _, rfl, hv2, v3, _, rfl, hv3, rfl⟩ := hv
                have hv1' := hv1
                simp only [VR, SR] at hv1'
                obtain ⟨ci, off, cap', q1, rfl, q2, q3, q4, q5, q6⟩ := hv1'
                have q5 := q5 trivial
                have ho : off = a.o + ci.d := q6 (by omega)
                subst ho
                obtain ⟨wl, hwide⟩ := Sim.widen hm ha q1
                generalize hcs : cs ++ List.replicate (ci.n - ci.d - cs.length) .undef = cs1 at hwide
                have hl1 : cs1.length = ci.n - ci.d := by rw [← hcs]; simp; omega
                generalize hm1 : m.put a.b (some (.cells cs1 false)) = m1 at hwide
                have hal := Mem.get_lt ha
                have ha1 : m1.get a.b = some (.cells cs1 false) := by rw [← hm1, Mem.get_put, if_pos ⟨rfl, hal⟩]
                have hoth : ∀ b, b ≠ a.b → m1.get b = m.get b := fun b hb => by rw [← hm1, Mem.get_put, if_neg (fun e => hb e.1)]
                have hnext1 : m1.next = m.next := by rw [← hm1]; rfl
                obtain ⟨cs0, ro0, e1, e2, e3⟩ := ldCells_spec h2
                rw [ha] at e1; cases e1
                have hold : (cs1.drop a.o).take (len * s') = old := by
                  rw [e3, ← hcs, List.drop_append_of_le_length (by omega), List.take_append_of_le_length (by simp; omega)]
                have hfit : a.o + cap' * s' ≤ cs1.length := by rw [hl1]; omega
                have hsrc : srcA s' (.sl (some x) sx k cx ex) m1 = some (k, new) := by rw [← hm1, srcA_put d3]; exact h1
                have hx1 : ∃ ds, m1.get x.b = some (.cells ds false) := ⟨xs, by rw [hoth _ d3]; exact hx⟩
                have hargs : VRs p [.sl (some a) s' len cap' true, .int .i64 (i : Int), .sl (some x) sx k cx ex] [.slice (some ⟨ci.c, a.o + ci.d, none⟩) len cap', v2, v3] := by
                  simp only [VRs]
                  refine ⟨_, _, rfl, ?_, _, _, rfl, hv2, _, _, rfl, hv3, rfl⟩
                  simp only [VR, SR]
                  exact ⟨ci, a.o + ci.d, cap', q1, rfl, by omega, Nat.le_refl _, fun _ => rfl, by simp, fun _ => rfl⟩
                by_cases hroom : len + k ≤ cap'
                · obtain ⟨m2, r1, r2, r3, r4⟩ := ht.room a len cap' i k x sx cx ex cs1 old new m1 ha1 hfit hold hone hx1 d3 hsrc c3 c1 d4 d5 d6 hil d7 hroom
                  have hok := run_sound hE _ _ _ _ _ r1
                  refine (fnOk_calls hok g1 g2 g3 hwide.rel (by rw [hnext1]; exact hG) (fun b x1 x2 => by omega) hargs).mono ?_
                  rintro e0 w1 ⟨cv, p1, rfl, k1, k2⟩
                  have hp1 : ∀ b, p1 b = p b := fun b => k2.out b (by omega)
                  simp only [VR, SR] at k1
                  obtain ⟨ci1, off1, cap1, j1, rfl, j2, j3, j4, j5, j6⟩ := k1
                  rw [hp1, q1] at j1; cases j1
                  have hcap : cap1 = cap' := j4 trivial
                  subst hcap
                  have hoff1 : off1 = a.o + ci.d := j6 (by omega)
                  subst hoff1
                  obtain ⟨arr, el, fr, f1, f2, f3, f4⟩ := k2.rel.live _ _ _ _ r4 (by rw [hp1]; exact q1)
                  have hfree2 : p1 m2.next = none := by rw [hp1, r2, hnext1]; exact hfree _ (Nat.le_refl _) (by simp)
                  have hlo : (old.take (i * s')).length = i * s' := by
                    rw [List.length_take, ← hold, List.length_take, List.length_drop]
                    have : i * s' ≤ len * s' := Nat.mul_le_mul_right _ (by omega)
                    have : len * s' ≤ cap1 * s' := Nat.mul_le_mul_right _ (by omega)
                    omega
                  have htake := Sim.takeOver (P := E.P) (d := a.o + ci.d) (cs' := old.take (i * s') ++ new ++ old.drop (i * s')) k2.rel (by rw [r2, hnext1]; exact hG) r4 (by rw [hp1]; exact q1) hfree2 f1 f2 (f3 rfl) (fun j y hj => by
                    obtain ⟨v, u1, u2⟩ := f4 (a.o + j) y (by
                      have hpre : cs1.take (a.o + i * s') = cs1.take a.o ++ old.take (i * s') := by
                        rw [← hold, List.take_take, Nat.min_eq_left (Nat.mul_le_mul_right _ (by omega)), ← List.take_add]
                      have hao : (cs1.take a.o).length = a.o := by rw [List.length_take]; have : 0 ≤ cap1 * s' := Nat.zero_le _; omega
                      rw [hpre]
                      simp only [List.append_assoc]
                      rw [List.getElem?_append_right (by omega), hao, Nat.add_sub_cancel_left]
                      rw [← List.append_assoc, ← List.append_assoc, List.getElem?_append_left (by have := (List.getElem?_eq_some_iff.1 hj).1; simpa [Nat.add_assoc] using this)]
                      exact hj)
                    exact ⟨v, by rw [← Nat.add_assoc, Nat.add_comm ci.d a.o] at u1; exact u1, u2⟩) (fun _ _ => rfl) rfl rfl rfl rfl
                  refine ⟨_, _, rfl, ?_, ((hwide.trans k2 (fun b x1 x2 => by omega)).trans htake ?_).congr ?_ ?_⟩
                  · simp only [VR, SR]
                    refine ⟨⟨ci.c, a.o + ci.d, ci.n⟩, a.o + ci.d, cap1, by simp [r2, hnext1], rfl, Nat.le_refl _, by omega, by simp, fun _ => by simpa using q5, fun _ => by simp⟩
                  · intro b x1 x2; simp [r2, hnext1] at x2; exact hfree b x1 (by simpa using x2)
                  · simp [r2, hnext1]
                  · intro b
                    rw [Mem.get_alloc, Mem.get_alloc, Mem.next_put, Mem.next_put, r2, hnext1, Mem.get_put, Mem.get_put]
                    by_cases e : b = m.next
                    · simp [e]
                    · rw [if_neg e, if_neg e]
                      by_cases e2 : b = a.b
                      · subst e2; rw [if_pos ⟨rfl, by omega⟩, if_pos ⟨rfl, hal⟩]
                      · rw [if_neg (fun y => e2 y.1), if_neg (fun y => e2 y.1), r3 b e2, hoth b e2]
                · obtain ⟨m2, r1, r2, r3, r4⟩ := ht.grow a len cap' i k x sx cx ex cs1 old new m1 ha1 hfit hold hone hx1 d3 hsrc c3 c1 d4 d5 d6 hil d7 (by omega) (by omega)
                  have hok := run_sound hE _ _ _ _ _ r1
                  have hfree1 : Free p m1.next m2.next := by intro b x1 x2; rw [r2, hnext1] at x2; rw [hnext1] at x1; exact hfree b x1 (by simpa using x2)
                  refine (fnOk_calls hok g1 g2 g3 hwide.rel (by rw [hnext1]; exact hG) hfree1 hargs).mono ?_
                  rintro e0 w1 ⟨cv, p1, rfl, k1, k2⟩
                  have ha2 : m2.get a.b = some (.cells cs1 false) := by rw [r3 a.b (by omega)]; exact ha1
                  have hpa : p1 a.b = some ci := k2.le _ _ q1
                  have hkill := Sim.kill k2.rel ha2 hpa
                  refine ⟨cv, p1, rfl, by rw [hnext1] at k1; exact k1, ((hwide.trans k2 (by rw [← hnext1]; exact hfree1)).trans hkill ?_).congr ?_ ?_⟩
                  · intro b x1 x2; simp only [Mem.next_put, r2, hnext1] at x2; exact hfree b x1 (by simpa using x2)
                  · simp [r2, hnext1]
                  · intro b
                    rw [Mem.get_alloc, Mem.next_put, Mem.get_put, Mem.get_put]
                    by_cases e : b = m.next
                    · subst e
                      rw [if_neg (by omega), if_pos rfl, ← hnext1, r4]
                    · rw [if_neg e]
                      by_cases e2 : b = a.b
                      · subst e2; rw [if_pos ⟨rfl, by omega⟩, if_pos ⟨rfl, hal⟩]
                      · rw [if_neg (fun y => e2 y.1), if_neg (fun y => e2 y.1), r3 b (by omega), hoth b e2]
              · cases hB
            · cases hA
          · cases hA
      · cases hA
    · cases hA
  · cases h
end
end Go.Abs
