/- The operations on values alone: the rest, and all together. -/
import Derived.Test.YtpoafkipnjfioaaGreatAbs5
namespace Go.Abs
open Go

section
variable {P : Program} {p : Phi} {w : World}

theorem nnA_sound {x : AV} {x' : Value} {v : AV} (hx : VR p x x') (h : nnA x = some v) {o : Oper} {xo : Operand} (ho : o.op = .nilCheck xo) {a : Act} (hv : a.eval xo = x') :
    ∃ cv, (execOp a.eval o).run P w = .ok (.value cv) w ∧ VR p v cv := by
  unfold nnA at h
  split at h
  · cases h
    have hx' := hx
    simp only [VR] at hx; obtain ⟨ci, hci, rfl⟩ := hx
    exact ⟨_, by simp only [execOp, ho, hv]; rfl, hx'⟩
  · cases h
    have hx' := hx
    simp only [VR] at hx; obtain ⟨ci, rfl, _⟩ := hx
    exact ⟨_, by simp only [execOp, ho, hv]; rfl, hx'⟩
  · cases h
    have hx' := hx
    simp only [VR] at hx; obtain ⟨_, _, rfl, _⟩ := hx
    exact ⟨_, by simp only [execOp, ho, hv]; rfl, hx'⟩
  · cases h
    have hx' := hx
    simp only [VR] at hx; obtain ⟨_, _, rfl⟩ := hx
    exact ⟨_, by simp only [execOp, ho, hv]; rfl, hx'⟩
  · simp at h

theorem cells_size {v : Value} {vs : List Value} (h : v.cells = ⟨vs⟩) : v.cells.size = vs.length := by rw [h]; simp

/-- Cells set one behind the other. -/
theorem foldl_set (vs : List Value) : ∀ (off k : Nat) (cs : List Value), off + k + vs.length ≤ cs.length →
    (vs.zipIdx k).foldl (fun (cs : Array Value) (c : Value × Nat) => cs.setIfInBounds (off + c.2) c.1) ⟨cs⟩ = ⟨cs.take (off + k) ++ vs ++ cs.drop (off + k + vs.length)⟩ := by
  induction vs with
  | nil => intro off k cs h; simp
  | cons v vs ih =>
    intro off k cs h
    simp only [List.zipIdx_cons, List.foldl_cons]
    simp only [List.length_cons] at h
    have e : (⟨cs⟩ : Array Value).setIfInBounds (off + k) v = ⟨cs.set (off + k) v⟩ := by simp [List.setIfInBounds_toArray]
    rw [e, ih off (k + 1) (cs.set (off + k) v) (by simp; omega)]
    congr 1
    apply List.ext_getElem?
    intro i
    simp only [List.getElem?_append, List.length_append, List.length_take, List.length_set, List.getElem?_take, List.getElem?_drop, List.getElem?_set, List.length_cons, List.getElem?_cons]
    grind

theorem fillA_sound {place : Nat → Option (Nat × Nat)} : ∀ {parts : List (Nat × AV)} {parts' : List (Nat × Value)}, PartsR p parts parts' → ∀ {cs : List AV} {cs' : List Value} {r : List AV}, VRs p cs cs' →
    fillA place cs parts = some r → ∃ r', Instr.fill place ⟨cs'⟩ parts' = some ⟨r'⟩ ∧ VRs p r r' := by
  intro parts parts' hp
  induction hp with
  | nil => intro cs cs' r hc h; simp only [fillA, Option.some.injEq] at h; subst h; exact ⟨cs', rfl, hc⟩
  | cons hv ht ih =>
    rename_i i a v as vs
    intro cs cs' r hc h
    simp only [fillA] at h
    split at h
    · rename_i off size xs hpl hcl
      split at h
      · rename_i hl
        split at h
        · rename_i hle
          obtain ⟨ys, hy, hys, _⟩ := hv.cells hcl
          have hlen := hys.length
          have hclen := hc.length
          have hc2 : VRs p (cs.take off ++ xs ++ cs.drop (off + size)) (cs'.take off ++ ys ++ cs'.drop (off + size)) := ((hc.take off).append hys).append (hc.drop _)
          obtain ⟨r', h1, h2⟩ := ih hc2 h
          refine ⟨r', ?_, h2⟩
          simp only [Instr.fill, hpl, cells_size hy]
          rw [if_neg]
          · rw [← h1, hy]
            congr 1
            have := foldl_set ys off 0 cs' (by omega)
            simp only [Nat.add_zero, hlen, hl] at this
            rw [← this, Array.zipIdx_toArray, ← Array.foldl_toList]
          · simp; omega
        · simp at h
      · simp at h
    · simp at h

theorem zeroA_sound {t : TypeId} {zs : List AV} (h : zeroA P t = some zs) : ∃ z zs', (zeroValue t).run P w = .ok z w ∧ z.cells = ⟨zs'⟩ ∧ VRs p zs zs' ∧ zs.all AV.one = true ∧
    (∃ i, P.info? t = some i ∧ i.zero = some z) := by
  unfold zeroA at h
  cases hi : P.info? t with
  | none => simp [hi] at h
  | some i =>
    rw [hi] at h
    simp only [Option.bind_some] at h
    cases hz : i.zero with
    | none => simp [hz] at h
    | some z =>
      rw [hz] at h
      simp only at h
      obtain ⟨a, h1, h2⟩ := Option.bind_eq_some_iff.1 h
      obtain ⟨vs, h3, h4, h5⟩ := (ofV_VR p h1).cells h2
      exact ⟨z, vs, by simp [zeroValue, run_info hi, hz], h3, h4, h5, i, rfl, hz⟩

theorem placesOf_get : ∀ {fs : List Field} {ps : List (Nat × Nat)}, placesOf P fs = some ps → ps.length = fs.length ∧ ∀ (k : Nat) f, fs[k]? = some f → ∃ n, szT P f.type = some n ∧ ps[k]? = some (f.offset, n)
  | [], ps, h => by simp only [placesOf, Option.some.injEq] at h; subst h; simp
  | f :: fs, ps, h => by
    simp only [placesOf] at h
    split at h
    · rename_i n ps' h1 h2
      cases h
      obtain ⟨h3, h4⟩ := placesOf_get h2
      refine ⟨by simp [h3], fun k g hg => ?_⟩
      cases k with
      | zero => simp at hg; subst hg; exact ⟨n, h1, by simp⟩
      | succ k => simp only [List.getElem?_cons_succ] at hg ⊢; exact h4 k g hg
    · simp at h

theorem mapM_places {w : World} : ∀ {fs : List Field} {ps : List (Nat × Nat)}, placesOf P fs = some ps → (fs.mapM fun (f : Field) => (do pure (f.offset, ← sizeOf f.type) : Sem (Nat × Nat))).run P w = .ok ps w
  | [], ps, h => by simp only [placesOf, Option.some.injEq] at h; subst h; simp [List.mapM_nil]
  | f :: fs, ps, h => by
    simp only [placesOf] at h
    split at h
    · rename_i n ps' h1 h2
      cases h
      have := mapM_places h2 (w := w)
      simp only [List.mapM_cons, Sem.run_bind, run_size h1, Result.andThen_ok, Sem.run_pure, this]
    · simp at h

theorem buildA_sound {t : TypeId} {parts : List (Nat × AV)} {parts' : List (Nat × Value)} (hp : PartsR p parts parts') {v : AV} (h : buildA P t parts = some v) : Gives P p (Instr.build t ⟨parts'⟩) w v := by
  unfold buildA at h
  unfold Gives Instr.build
  split at h
  · rename_i fields zs hd hz
    obtain ⟨z, zs', h1, h2, h3, _⟩ := zeroA_sound (p := p) (w := w) hz
    split at h
    · rename_i ps hps
      obtain ⟨r, hr, rfl⟩ := Option.map_eq_some_iff.1 h
      obtain ⟨r', h4, h5⟩ := fillA_sound hp h3 hr
      simp only [Sem.run_bind, h1, Result.andThen_ok, run_under hd]
      rw [Array.mapM_eq_mapM_toList]
      simp only [Sem.run_map, mapM_places hps, Result.andThen_ok, h2]
      have : (fun x => (ps.toArray)[x]?) = fun (x : Nat) => ps[x]? := by funext x; simp
      simp only [this, h4]
      exact ⟨_, rfl, by simp only [VR]; exact ⟨r', rfl, h5⟩⟩
    · simp at h
  · rename_i n e zs hd hz
    obtain ⟨z, zs', h1, h2, h3, _⟩ := zeroA_sound (p := p) (w := w) hz
    split at h
    · rename_i s hs
      obtain ⟨r, hr, rfl⟩ := Option.map_eq_some_iff.1 h
      obtain ⟨r', h4, h5⟩ := fillA_sound hp h3 hr
      simp only [Sem.run_bind, h1, Result.andThen_ok, run_under hd, run_size hs, h2, h4]
      exact ⟨_, rfl, by simp only [VR]; exact ⟨r', rfl, h5⟩⟩
    · simp at h
  · simp at h

theorem extractA_sound {x : AV} {x' : Value} {i : Nat} {v : AV} (hx : VR p x x') (h : extractA x i = some v) : Gives P p (Instr.extract x' i) w v := by
  unfold extractA at h
  split at h
  · rename_i vs
    simp only [VR] at hx
    obtain ⟨vs', rfl, hvs⟩ := hx
    obtain ⟨v', h1, h2⟩ := hvs.get h
    have : (⟨vs'⟩ : Array Value)[i]? = some v' := by simpa using h1
    exact ⟨v', by simp [Instr.extract, this], h2⟩
  · simp at h

theorem mkIfaceA_sound {t : TypeId} {x : AV} {x' : Value} {v : AV} (hx : VR p x x') (h : mkIfaceA P t x = some v) : Gives P p (Instr.makeInterface t x') w v := by
  unfold mkIfaceA at h
  cases hd : P.underlying t with
  | none => simp [hd] at h
  | some d =>
    simp only [hd] at h
    refine ⟨.iface t x', ?_, ?_⟩
    · simp only [Instr.makeInterface, Sem.run_bind, run_under hd, Result.andThen_ok]
      cases d <;> first | rfl | (simp at h)
    · cases d <;> simp at h <;> (subst h; simp only [VR]; exact ⟨x', rfl, hx⟩)

theorem lenT_sound {t : TypeId} {x : AV} {x' : Value} {v : AV} (hx : VR p x x') (h : lenT P t x = some v) (ty : TypeId) : Gives P p (Builtin.len_ #[t] ty #[x']) w v := by
  unfold lenT at h
  unfold Gives Builtin.len_
  split at h
  · rename_i hd
    split at h
    · simp only [VR] at hx; subst hx; cases h
      refine ⟨_, by simp [run_under hd]; rfl, ?_⟩
      simp only [VR, goInt, str_size]
    · simp at h
  · rename_i n e hd
    cases h
    refine ⟨goInt n, by simp [run_under hd], by simp [VR, goInt]⟩
  · rename_i e hd
    split at h
    · rename_i a sz len cap ex
      cases h
      cases a with
      | none => simp only [VR] at hx; obtain ⟨rfl, _, rfl⟩ := hx; exact ⟨goInt 0, by simp [run_under hd], by simp [VR, goInt]⟩
      | some a => simp only [VR, SR] at hx; obtain ⟨_, _, _, _, rfl, _⟩ := hx; exact ⟨goInt len, by simp [run_under hd], by simp [VR, goInt]⟩
    · simp at h
  · simp at h

theorem capT_sound {t : TypeId} {x : AV} {x' : Value} {v : AV} (hx : VR p x x') (h : capT P t x = some v) (ty : TypeId) : Gives P p (Builtin.cap_ #[t] ty #[x']) w v := by
  unfold capT at h
  unfold Gives Builtin.cap_
  split at h
  · rename_i e hd
    split at h
    · rename_i a sz len cap
      cases h
      cases a with
      | none => simp only [VR] at hx; obtain ⟨_, rfl, rfl⟩ := hx; exact ⟨goInt 0, by simp [run_under hd], by simp [VR, goInt]⟩
      | some a => simp only [VR, SR] at hx; obtain ⟨_, _, cap', _, rfl, _, _, hex, _⟩ := hx; rw [← hex trivial]; exact ⟨goInt cap', by simp [run_under hd], by simp [VR, goInt]⟩
    · simp at h
  · simp at h

theorem minA_sound {x y : AV} {x' y' : Value} {v : AV} (hx : VR p x x') (hy : VR p y y') (h : minA x y = some v) (ts : Array TypeId) (ty : TypeId) : Gives P p (Builtin.min_ ts ty #[x', y']) w v := by
  unfold minA at h
  split at h
  · simp only [VR] at hx hy; subst hx hy; cases h
    exact ⟨_, rfl, by simp [VR]⟩
  · simp at h
theorem maxA_sound {x y : AV} {x' y' : Value} {v : AV} (hx : VR p x x') (hy : VR p y y') (h : maxA x y = some v) (ts : Array TypeId) (ty : TypeId) : Gives P p (Builtin.max_ ts ty #[x', y']) w v := by
  unfold maxA at h
  split at h
  · simp only [VR] at hx hy; subst hx hy; cases h
    exact ⟨_, rfl, by simp [VR]⟩
  · simp at h

theorem Gives.value {s : Sem Value} {v : AV} (h : Gives P p s w v) : ∃ cv, (do pure (Next.value (← s)) : Sem Next).run P w = .ok (.value cv) w ∧ VR p v cv := by
  obtain ⟨cv, h1, h2⟩ := h
  exact ⟨cv, by simp [h1], h2⟩

/-- A builtin called. -/
theorem builtin_call {a : Act} {b : Builtin} {xs : List Operand} {ts : Array TypeId} {ty : TypeId} :
    (do let d ← resolve a.eval { callee := .builtin b, args := ⟨xs⟩, argTypes := ts } ty; invoke d.target d.args : Sem Next).run P w =
      (builtin b ts ty ((⟨xs⟩ : Array Operand).map fun | .const _ => true | _ => false) (⟨xs.map a.eval⟩)).run P w := by
  simp only [resolve, Sem.run_bind, Sem.run_pure, Result.andThen_ok, invoke]
  congr 2
  simp

/-- AN OPERATION ON VALUES ALONE. -/
theorem pure_sound {o : Oper} {t : List AV} {a : Act} (ht : VRs p t a.tmps.toList) (hg : ∀ g, g < P.globals.size → ∃ n, p g = some ⟨g, 0, n⟩) {v : AV} (h : pureOp P o.op t = some v) :
    ∃ cv, (execOp a.eval o).run P w = .ok (.value cv) w ∧ VR p v cv := by
  have E : ∀ {x : Operand} {v : AV}, ev P t x = some v → VR p v (a.eval x) := fun h => ev_VR ht hg h
  have ho : ∃ op, o.op = op := ⟨_, rfl⟩
  obtain ⟨op, ho⟩ := ho
  rw [ho] at h
  unfold pureOp at h
  split at h
  · exact ⟨_, by simp only [execOp, ho]; rfl, E h⟩
  · exact ⟨_, by simp only [execOp, ho]; rfl, E h⟩
  · obtain ⟨c, h1, h⟩ := Option.bind_eq_some_iff.1 h
    obtain ⟨x, h2, h⟩ := Option.bind_eq_some_iff.1 h
    obtain ⟨y, h3, h⟩ := Option.bind_eq_some_iff.1 h
    unfold pickA at h
    have hc := E h1
    split at h
    · simp only [VR] at hc; cases h
      exact ⟨_, by simp only [execOp, ho, hc]; rfl, E h2⟩
    · simp only [VR] at hc; cases h
      exact ⟨_, by simp only [execOp, ho, hc]; rfl, E h3⟩
    · simp at h
  · obtain ⟨x, h1, h⟩ := Option.bind_eq_some_iff.1 h
    exact nnA_sound (E h1) h ho rfl
  · obtain ⟨x, h1, h⟩ := Option.bind_eq_some_iff.1 h
    obtain ⟨y, h2, h⟩ := Option.bind_eq_some_iff.1 h
    simp only [execOp, ho]
    exact (binA_sound (_yt := 0) (E h1) (E h2) h).value
  · obtain ⟨x, h1, h⟩ := Option.bind_eq_some_iff.1 h
    simp only [execOp, ho]
    exact (unA_sound (E h1) h).value
  · obtain ⟨x, h1, h⟩ := Option.bind_eq_some_iff.1 h
    simp only [execOp, ho]
    exact (convA_sound (E h1) h).value
  · obtain ⟨x, h1, h⟩ := Option.bind_eq_some_iff.1 h
    simp only [execOp, ho]
    exact (fieldAddrA_sound (E h1) h).value
  · obtain ⟨x, h1, h⟩ := Option.bind_eq_some_iff.1 h
    simp only [execOp, ho]
    exact (fieldA_sound (E h1) h).value
  · obtain ⟨x, h1, h⟩ := Option.bind_eq_some_iff.1 h
    obtain ⟨y, h2, h⟩ := Option.bind_eq_some_iff.1 h
    simp only [execOp, ho]
    exact (indexAddrA_sound (E h1) (E h2) h).value
  · obtain ⟨x, h1, h⟩ := Option.bind_eq_some_iff.1 h
    obtain ⟨y, h2, h⟩ := Option.bind_eq_some_iff.1 h
    simp only [execOp, ho]
    exact (indexA_sound (E h1) (E h2) h).value
  · obtain ⟨x, h1, h⟩ := Option.bind_eq_some_iff.1 h
    simp only [execOp, ho]
    split at h
    · exact (sliceA_sound (E h1) (by simp) (by simp) (by simp) (by simp) h).value
    · obtain ⟨l, h2, h⟩ := Option.bind_eq_some_iff.1 h
      exact (sliceA_sound (E h1) (by rintro _ ⟨⟩; exact ⟨_, rfl, E h2⟩) (by simp) (by simp) (by simp) h).value
    · obtain ⟨l, h2, h⟩ := Option.bind_eq_some_iff.1 h
      exact (sliceA_sound (E h1) (by simp) (by simp) (by rintro _ ⟨⟩; exact ⟨_, rfl, E h2⟩) (by simp) h).value
    · obtain ⟨l, h2, h⟩ := Option.bind_eq_some_iff.1 h
      obtain ⟨u, h3, h⟩ := Option.bind_eq_some_iff.1 h
      exact (sliceA_sound (E h1) (by rintro _ ⟨⟩; exact ⟨_, rfl, E h2⟩) (by simp) (by rintro _ ⟨⟩; exact ⟨_, rfl, E h3⟩) (by simp) h).value
  · obtain ⟨x, h1, h⟩ := Option.bind_eq_some_iff.1 h
    obtain ⟨u, h2, h⟩ := Option.bind_eq_some_iff.1 h
    obtain ⟨mx, h3, h⟩ := Option.bind_eq_some_iff.1 h
    simp only [execOp, ho]
    split at h
    · exact (slice3A_sound (lo' := none) (E h1) (by simp) (by simp) (E h2) (E h3) h).value
    · obtain ⟨l, h4, h⟩ := Option.bind_eq_some_iff.1 h
      exact (slice3A_sound (E h1) (by rintro _ ⟨⟩; exact ⟨_, rfl, E h4⟩) (by simp) (E h2) (E h3) h).value
  · obtain ⟨x, h1, h⟩ := Option.bind_eq_some_iff.1 h
    simp only [execOp, ho]
    exact (extractA_sound (E h1) h).value
  · obtain ⟨x, h1, h⟩ := Option.bind_eq_some_iff.1 h
    simp only [execOp, ho]
    exact (mkIfaceA_sound (E h1) h).value
  · rename_i f first cap
    obtain ⟨x, h1, h⟩ := Option.bind_eq_some_iff.1 h
    obtain ⟨y, h2, h⟩ := Option.bind_eq_some_iff.1 h
    cases h
    refine ⟨.func f (first.map a.eval) (cap.map a.eval), by simp only [execOp, ho]; rfl, ?_⟩
    simp only [VR]
    exact ⟨_, _, by rw [show first.map a.eval = ⟨first.toList.map a.eval⟩ from by apply Array.ext'; simp, show cap.map a.eval = ⟨cap.toList.map a.eval⟩ from by apply Array.ext'; simp], evs_VRs ht hg h1, evs_VRs ht hg h2⟩
  · rename_i s parts
    obtain ⟨x, h1, h⟩ := Option.bind_eq_some_iff.1 h
    simp only [execOp, ho]
    have := buildA_sound (w := w) (evParts_VR ht hg h1) h
    have e : (parts.map fun (i, x) => (i, a.eval x)) = ⟨parts.toList.map fun (i, x) => (i, a.eval x)⟩ := by apply Array.ext'; simp
    rw [← e] at this
    exact this.value
  · rename_i x s
    obtain ⟨x, h1, h⟩ := Option.bind_eq_some_iff.1 h
    simp only [execOp, ho]
    rw [builtin_call]; exact (lenT_sound (E h1) h o.type).value
  · obtain ⟨x, h1, h⟩ := Option.bind_eq_some_iff.1 h
    simp only [execOp, ho]
    rw [builtin_call]; exact (capT_sound (E h1) h o.type).value
  · obtain ⟨x, h1, h⟩ := Option.bind_eq_some_iff.1 h
    obtain ⟨y, h2, h⟩ := Option.bind_eq_some_iff.1 h
    simp only [execOp, ho]
    rw [builtin_call]; exact (minA_sound (E h1) (E h2) h _ o.type).value
  · obtain ⟨x, h1, h⟩ := Option.bind_eq_some_iff.1 h
    obtain ⟨y, h2, h⟩ := Option.bind_eq_some_iff.1 h
    simp only [execOp, ho]
    rw [builtin_call]; exact (maxA_sound (E h1) (E h2) h _ o.type).value
  · simp at h
end
end Go.Abs
