/- Texts of one claim, put together. -/
import Derived.Test.YtolmealocdgdhaaGreatK1
import Derived.Laws.IdiomCopy
import Derived.Laws.Append
section
namespace Go.Abs
open Go

section
variable {P : Program} {p : Phi} {w : World}

theorem nnA_sound {x : AV} {x' : Value} {v : AV} (hx : VR p x x') (h : nnA x = some v) {o : Oper} {xo : Operand} (ho : o.op = .nilCheck xo) {a : Act} (hv : a.eval xo = x') :
    ∃ cv, (execOp a.eval o).run P w = .ok (.value cv) w ∧ VR p v cv := by
  unfold nnA at h
  split at h
  · cases h
    have hx' := hx
    simp only [VR] at hx; obtain ⟨ci, hci, rfl⟩ := hx
    exact ⟨_, by simp only [execOp, ho, hv]; rfl, hx'⟩
  · cases h
    have hx' := hx
    simp only [VR] at hx; obtain ⟨ci, rfl, _⟩ := hx
    exact ⟨_, by simp only [execOp, ho, hv]; rfl, hx'⟩
  · cases h
    have hx' := hx
    simp only [VR] at hx; obtain ⟨_, _, rfl, _⟩ := hx
    exact ⟨_, by simp only [execOp, ho, hv]; rfl, hx'⟩
  · cases h
    have hx' := hx
    simp only [VR] at hx; obtain ⟨_, _, rfl⟩ := hx
    exact ⟨_, by simp only [execOp, ho, hv]; rfl, hx'⟩
  · simp at h

theorem cells_size {v : Value} {vs : List Value} (h : v.cells = ⟨vs⟩) : v.cells.size = vs.length := by rw [h]; simp

theorem foldl_set (vs : List Value) : ∀ (off k : Nat) (cs : List Value), off + k + vs.length ≤ cs.length →
    (vs.zipIdx k).foldl (fun (cs : Array Value) (c : Value × Nat) => cs.setIfInBounds (off + c.2) c.1) ⟨cs⟩ = ⟨cs.take (off + k) ++ vs ++ cs.drop (off + k + vs.length)⟩ := by
  induction vs with
  | nil => intro off k cs h; simp
  | cons v vs ih =>
    intro off k cs h
    simp only [List.zipIdx_cons, List.foldl_cons]
    simp only [List.length_cons] at h
    have e : (⟨cs⟩ : Array Value).setIfInBounds (off + k) v = ⟨cs.set (off + k) v⟩ := by simp [List.setIfInBounds_toArray]
    rw [e, ih off (k + 1) (cs.set (off + k) v) (by simp; omega)]
    congr 1
    apply List.ext_getElem?
    intro i
    simp only [List.getElem?_append, List.length_append, List.length_take, List.length_set, List.getElem?_take, List.getElem?_drop, List.getElem?_set, List.length_cons, List.getElem?_cons]
    grind

theorem fillA_sound {place : Nat → Option (Nat × Nat)} : ∀ {parts : List (Nat × AV)} {parts' : List (Nat × Value)}, PartsR p parts parts' → ∀ {cs : List AV} {cs' : List Value} {r : List AV}, VRs p cs cs' →
    fillA place cs parts = some r → ∃ r', Instr.fill place ⟨cs'⟩ parts' = some ⟨r'⟩ ∧ VRs p r r' := by
  intro parts parts' hp
  induction hp with
  | nil => intro cs cs' r hc h; simp only [fillA, Option.some.injEq] at h; subst h; exact ⟨cs', rfl, hc⟩
  | cons hv ht ih =>
    rename_i i a v as vs
    intro cs cs' r hc h
    simp only [fillA] at h
    split at h
    · rename_i off size xs hpl hcl
      split at h
      · rename_i hl
        split at h
        · rename_i hle
          obtain ⟨ys, hy, hys, _⟩ := hv.cells hcl
          have hlen := hys.length
          have hclen := hc.length
          have hc2 : VRs p (cs.take off ++ xs ++ cs.drop (off + size)) (cs'.take off ++ ys ++ cs'.drop (off + size)) := ((hc.take off).append hys).append (hc.drop _)
          obtain ⟨r', h1, h2⟩ := ih hc2 h
          refine ⟨r', ?_, h2⟩
          simp only [Instr.fill, hpl, cells_size hy]
          rw [if_neg]
          · rw [← h1, hy]
            congr 1
            have := foldl_set ys off 0 cs' (by omega)
            simp only [Nat.add_zero, hlen, hl] at this
            rw [← this, Array.zipIdx_toArray, ← Array.foldl_toList]
          · simp; omega
        · simp at h
      · simp at h
    · simp at h

theorem zeroA_sound {t : TypeId} {zs : List AV} (h : zeroA P t = some zs) : ∃ z zs', (zeroValue t).run P w = .ok z w ∧ z.cells = ⟨zs'⟩ ∧ VRs p zs zs' ∧ zs.all AV.one = true ∧
    (∃ i, P.info? t = some i ∧ i.zero = some z) := by
  unfold zeroA at h
  cases hi : P.info? t with
  | none => simp [hi] at h
  | some i =>
    rw [hi] at h
    simp only [Option.bind_some] at h
    cases hz : i.zero with
    | none => simp [hz] at h
    | some z =>
      rw [hz] at h
      simp only at h
      obtain ⟨a, h1, h2⟩ := Option.bind_eq_some_iff.1 h
      obtain ⟨vs, h3, h4, h5⟩ := (ofV_VR p h1).cells h2
      exact ⟨z, vs, by simp [zeroValue, run_info hi, hz], h3, h4, h5, i, rfl, hz⟩

theorem placesOf_get : ∀ {fs : List Field} {ps : List (Nat × Nat)}, placesOf P fs = some ps → ps.length = fs.length ∧ ∀ (k : Nat) f, fs[k]? = some f → ∃ n, szT P f.type = some n ∧ ps[k]? = some (f.offset, n)
  | [], ps, h => by simp only [placesOf, Option.some.injEq] at h; subst h; simp
  | f :: fs, ps, h => by
    simp only [placesOf] at h
    split at h
    · rename_i n ps' h1 h2
      cases h
      obtain ⟨h3, h4⟩ := placesOf_get h2
      refine ⟨by simp [h3], fun k g hg => ?_⟩
      cases k with
      | zero => simp at hg; subst hg; exact ⟨n, h1, by simp⟩
      | succ k => simp only [List.getElem?_cons_succ] at hg ⊢; exact h4 k g hg
    · simp at h

theorem mapM_places {w : World} : ∀ {fs : List Field} {ps : List (Nat × Nat)}, placesOf P fs = some ps → (fs.mapM fun (f : Field) => (do pure (f.offset, ← sizeOf f.type) : Sem (Nat × Nat))).run P w = .ok ps w
  | [], ps, h => by simp only [placesOf, Option.some.injEq] at h; subst h; simp [List.mapM_nil]
  | f :: fs, ps, h => by
    simp only [placesOf] at h
    split at h
    · rename_i n ps' h1 h2
      cases h
      have := mapM_places h2 (w := w)
      simp only [List.mapM_cons, Sem.run_bind, run_size h1, Result.andThen_ok, Sem.run_pure, this]
    · simp at h

theorem buildA_sound {t : TypeId} {parts : List (Nat × AV)} {parts' : List (Nat × Value)} (hp : PartsR p parts parts') {v : AV} (h : buildA P t parts = some v) : Gives P p (Instr.build t ⟨parts'⟩) w v := by
  unfold buildA at h
  unfold Gives Instr.build
  split at h
  · rename_i fields zs hd hz
    obtain ⟨z, zs', h1, h2, h3, _⟩ := zeroA_sound (p := p) (w := w) hz
    split at h
    · rename_i ps hps
      obtain ⟨r, hr, rfl⟩ := Option.map_eq_some_iff.1 h
      obtain ⟨r', h4, h5⟩ := fillA_sound hp h3 hr
      simp only [Sem.run_bind, h1, Result.andThen_ok, run_under hd]
      rw [Array.mapM_eq_mapM_toList]
      simp only [Sem.run_map, mapM_places hps, Result.andThen_ok, h2]
      have : (fun x => (ps.toArray)[x]?) = fun (x : Nat) => ps[x]? := by funext x; simp
      simp only [this, h4]
      exact ⟨_, rfl, by simp only [VR]; exact ⟨r', rfl, h5⟩⟩
    · simp at h
  · rename_i n e zs hd hz
    obtain ⟨z, zs', h1, h2, h3, _⟩ := zeroA_sound (p := p) (w := w) hz
    split at h
    · rename_i s hs
      obtain ⟨r, hr, rfl⟩ := Option.map_eq_some_iff.1 h
      obtain ⟨r', h4, h5⟩ := fillA_sound hp h3 hr
      simp only [Sem.run_bind, h1, Result.andThen_ok, run_under hd, run_size hs, h2, h4]
      exact ⟨_, rfl, by simp only [VR]; exact ⟨r', rfl, h5⟩⟩
    · simp at h
  · simp at h

theorem extractA_sound {x : AV} {x' : Value} {i : Nat} {v : AV} (hx : VR p x x') (h : extractA x i = some v) : Gives P p (Instr.extract x' i) w v := by
  unfold extractA at h
  split at h
  · rename_i vs
    simp only [VR] at hx
    obtain ⟨vs', rfl, hvs⟩ := hx
    obtain ⟨v', h1, h2⟩ := hvs.get h
    have : (⟨vs'⟩ : Array Value)[i]? = some v' := by simpa using h1
    exact ⟨v', by simp [Instr.extract, this], h2⟩
  · simp at h

theorem mkIfaceA_sound {t : TypeId} {x : AV} {x' : Value} {v : AV} (hx : VR p x x') (h : mkIfaceA P t x = some v) : Gives P p (Instr.makeInterface t x') w v := by
  unfold mkIfaceA at h
  cases hd : P.underlying t with
  | none => simp [hd] at h
  | some d =>
    simp only [hd] at h
    refine ⟨.iface t x', ?_, ?_⟩
    · simp only [Instr.makeInterface, Sem.run_bind, run_under hd, Result.andThen_ok]
      cases d <;> first | rfl | (simp at h)
    · cases d <;> simp at h <;> (subst h; simp only [VR]; exact ⟨x', rfl, hx⟩)

theorem lenT_sound {t : TypeId} {x : AV} {x' : Value} {v : AV} (hx : VR p x x') (h : lenT P t x = some v) (ty : TypeId) : Gives P p (Builtin.len_ #[t] ty #[x']) w v := by
  unfold lenT at h
  unfold Gives Builtin.len_
  split at h
  · rename_i hd
    split at h
    · simp only [VR] at hx; subst hx; cases h
      refine ⟨_, by simp [run_under hd]; rfl, ?_⟩
      simp only [VR, goInt, str_size]
    · simp at h
  · rename_i n e hd
    cases h
    refine ⟨goInt n, by simp [run_under hd], by simp [VR, goInt]⟩
  · rename_i e hd
    split at h
    · rename_i a sz len cap ex
      cases h
      cases a with
      | none => simp only [VR] at hx; obtain ⟨rfl, _, _, rfl, _⟩ := hx; exact ⟨goInt 0, by simp [run_under hd], by simp [VR, goInt]⟩
      | some a => simp only [VR, SR] at hx; obtain ⟨_, _, _, _, rfl, _⟩ := hx; exact ⟨goInt len, by simp [run_under hd], by simp [VR, goInt]⟩
    · simp at h
  · simp at h

theorem capT_sound {t : TypeId} {x : AV} {x' : Value} {v : AV} (hx : VR p x x') (h : capT P t x = some v) (ty : TypeId) : Gives P p (Builtin.cap_ #[t] ty #[x']) w v := by
  unfold capT at h
  unfold Gives Builtin.cap_
  split at h
  · rename_i e hd
    split at h
    · rename_i a sz len cap
      cases h
      cases a with
      | none => simp only [VR] at hx; obtain ⟨_, rfl, _, rfl, _⟩ := hx; exact ⟨goInt 0, by simp [run_under hd], by simp [VR, goInt]⟩
      | some a => simp only [VR, SR] at hx; obtain ⟨_, _, cap', _, rfl, _, _, hex, _⟩ := hx; rw [← hex trivial]; exact ⟨goInt cap', by simp [run_under hd], by simp [VR, goInt]⟩
    · simp at h
  · simp at h

theorem minA_sound {x y : AV} {x' y' : Value} {v : AV} (hx : VR p x x') (hy : VR p y y') (h : minA x y = some v) (ts : Array TypeId) (ty : TypeId) : Gives P p (Builtin.min_ ts ty #[x', y']) w v := by
  unfold minA at h
  split at h
  · simp only [VR] at hx hy; subst hx hy; cases h
    exact ⟨_, rfl, by simp [VR]⟩
  · simp at h
theorem maxA_sound {x y : AV} {x' y' : Value} {v : AV} (hx : VR p x x') (hy : VR p y y') (h : maxA x y = some v) (ts : Array TypeId) (ty : TypeId) : Gives P p (Builtin.max_ ts ty #[x', y']) w v := by
  unfold maxA at h
  split at h
  · simp only [VR] at hx hy; subst hx hy; cases h
    exact ⟨_, rfl, by simp [VR]⟩
  · simp at h

theorem Gives.value {s : Sem Value} {v : AV} (h : Gives P p s w v) : ∃ cv, (do pure (Next.value (← s)) : Sem Next).run P w = .ok (.value cv) w ∧ VR p v cv := by
  obtain ⟨cv, h1, h2⟩ := h
  exact ⟨cv, by simp [h1], h2⟩

theorem builtin_call {a : Act} {b : Builtin} {xs : List Operand} {ts : Array TypeId} {ty : TypeId} :
    (do let d ← resolve a.eval { callee := .builtin b, args := ⟨xs⟩, argTypes := ts } ty; invoke d.target d.args : Sem Next).run P w =
      (builtin b ts ty ((⟨xs⟩ : Array Operand).map fun | .const _ => true | _ => false) (⟨xs.map a.eval⟩)).run P w := by
  simp only [resolve, Sem.run_bind, Sem.run_pure, Result.andThen_ok, invoke]
  congr 2
  simp

theorem pure_sound {o : Oper} {t : List AV} {a : Act} (ht : VRs p t a.tmps.toList) (hg : ∀ g, g < P.globals.size → ∃ n, p g = some ⟨g, 0, n, none⟩) {v : AV} (h : pureOp P o.op t = some v) :
    ∃ cv, (execOp a.eval o).run P w = .ok (.value cv) w ∧ VR p v cv := by
  have E : ∀ {x : Operand} {v : AV}, ev P t x = some v → VR p v (a.eval x) := fun h => ev_VR ht hg h
  have ho : ∃ op, o.op = op := ⟨_, rfl⟩
  obtain ⟨op, ho⟩ := ho
  rw [ho] at h
  unfold pureOp at h
  split at h
  · exact ⟨_, by simp only [execOp, ho]; rfl, E h⟩
  · exact ⟨_, by simp only [execOp, ho]; rfl, E h⟩
  · obtain ⟨c, h1, h⟩ := Option.bind_eq_some_iff.1 h
    obtain ⟨x, h2, h⟩ := Option.bind_eq_some_iff.1 h
    obtain ⟨y, h3, h⟩ := Option.bind_eq_some_iff.1 h
    unfold pickA at h
    have hc := E h1
    split at h
    · simp only [VR] at hc; cases h
      exact ⟨_, by simp only [execOp, ho, hc]; rfl, E h2⟩
    · simp only [VR] at hc; cases h
      exact ⟨_, by simp only [execOp, ho, hc]; rfl, E h3⟩
    · simp at h
  · obtain ⟨x, h1, h⟩ := Option.bind_eq_some_iff.1 h
    exact nnA_sound (E h1) h ho rfl
  · obtain ⟨x, h1, h⟩ := Option.bind_eq_some_iff.1 h
    obtain ⟨y, h2, h⟩ := Option.bind_eq_some_iff.1 h
    simp only [execOp, ho]
    exact (binA_sound (_yt := 0) (E h1) (E h2) h).value
  · obtain ⟨x, h1, h⟩ := Option.bind_eq_some_iff.1 h
    simp only [execOp, ho]
    exact (unA_sound (E h1) h).value
  · obtain ⟨x, h1, h⟩ := Option.bind_eq_some_iff.1 h
    simp only [execOp, ho]
    exact (convA_sound (E h1) h).value
  · obtain ⟨x, h1, h⟩ := Option.bind_eq_some_iff.1 h
    simp only [execOp, ho]
    exact (fieldAddrA_sound (E h1) h).value
  · obtain ⟨x, h1, h⟩ := Option.bind_eq_some_iff.1 h
    simp only [execOp, ho]
    exact (fieldA_sound (E h1) h).value
  · obtain ⟨x, h1, h⟩ := Option.bind_eq_some_iff.1 h
    obtain ⟨y, h2, h⟩ := Option.bind_eq_some_iff.1 h
    simp only [execOp, ho]
    exact (indexAddrA_sound (E h1) (E h2) h).value
  · obtain ⟨x, h1, h⟩ := Option.bind_eq_some_iff.1 h
    obtain ⟨y, h2, h⟩ := Option.bind_eq_some_iff.1 h
    simp only [execOp, ho]
    exact (indexA_sound (E h1) (E h2) h).value
  · obtain ⟨x, h1, h⟩ := Option.bind_eq_some_iff.1 h
    simp only [execOp, ho]
    split at h
    · exact (sliceA_sound (E h1) (by simp) (by simp) (by simp) (by simp) h).value
    · obtain ⟨l, h2, h⟩ := Option.bind_eq_some_iff.1 h
      exact (sliceA_sound (E h1) (by rintro _ ⟨⟩; exact ⟨_, rfl, E h2⟩) (by simp) (by simp) (by simp) h).value
    · obtain ⟨l, h2, h⟩ := Option.bind_eq_some_iff.1 h
      exact (sliceA_sound (E h1) (by simp) (by simp) (by rintro _ ⟨⟩; exact ⟨_, rfl, E h2⟩) (by simp) h).value
    · obtain ⟨l, h2, h⟩ := Option.bind_eq_some_iff.1 h
      obtain ⟨u, h3, h⟩ := Option.bind_eq_some_iff.1 h
      exact (sliceA_sound (E h1) (by rintro _ ⟨⟩; exact ⟨_, rfl, E h2⟩) (by simp) (by rintro _ ⟨⟩; exact ⟨_, rfl, E h3⟩) (by simp) h).value
  · obtain ⟨x, h1, h⟩ := Option.bind_eq_some_iff.1 h
    obtain ⟨u, h2, h⟩ := Option.bind_eq_some_iff.1 h
    obtain ⟨mx, h3, h⟩ := Option.bind_eq_some_iff.1 h
    simp only [execOp, ho]
    split at h
    · exact (slice3A_sound (lo' := none) (E h1) (by simp) (by simp) (E h2) (E h3) h).value
    · obtain ⟨l, h4, h⟩ := Option.bind_eq_some_iff.1 h
      exact (slice3A_sound (E h1) (by rintro _ ⟨⟩; exact ⟨_, rfl, E h4⟩) (by simp) (E h2) (E h3) h).value
  · obtain ⟨x, h1, h⟩ := Option.bind_eq_some_iff.1 h
    simp only [execOp, ho]
    exact (extractA_sound (E h1) h).value
  · obtain ⟨x, h1, h⟩ := Option.bind_eq_some_iff.1 h
    simp only [execOp, ho]
    exact (mkIfaceA_sound (E h1) h).value
  · rename_i f first cap
    obtain ⟨x, h1, h⟩ := Option.bind_eq_some_iff.1 h
    obtain ⟨y, h2, h⟩ := Option.bind_eq_some_iff.1 h
    cases h
    refine ⟨.func f (first.map a.eval) (cap.map a.eval), by simp only [execOp, ho]; rfl, ?_⟩
    simp only [VR]
    exact ⟨_, _, by rw [show first.map a.eval = ⟨first.toList.map a.eval⟩ from by apply Array.ext'; simp, show cap.map a.eval = ⟨cap.toList.map a.eval⟩ from by apply Array.ext'; simp], evs_VRs ht hg h1, evs_VRs ht hg h2⟩
  · rename_i s parts
    obtain ⟨x, h1, h⟩ := Option.bind_eq_some_iff.1 h
    simp only [execOp, ho]
    have := buildA_sound (w := w) (evParts_VR ht hg h1) h
    have e : (parts.map fun (i, x) => (i, a.eval x)) = ⟨parts.toList.map fun (i, x) => (i, a.eval x)⟩ := by apply Array.ext'; simp
    rw [← e] at this
    exact this.value
  · rename_i x s
    obtain ⟨x, h1, h⟩ := Option.bind_eq_some_iff.1 h
    simp only [execOp, ho]
    rw [builtin_call]; exact (lenT_sound (E h1) h o.type).value
  · obtain ⟨x, h1, h⟩ := Option.bind_eq_some_iff.1 h
    simp only [execOp, ho]
    rw [builtin_call]; exact (capT_sound (E h1) h o.type).value
  · obtain ⟨x, h1, h⟩ := Option.bind_eq_some_iff.1 h
    obtain ⟨y, h2, h⟩ := Option.bind_eq_some_iff.1 h
    simp only [execOp, ho]
    rw [builtin_call]; exact (minA_sound (E h1) (E h2) h _ o.type).value
  · obtain ⟨x, h1, h⟩ := Option.bind_eq_some_iff.1 h
    obtain ⟨y, h2, h⟩ := Option.bind_eq_some_iff.1 h
    simp only [execOp, ho]
    rw [builtin_call]; exact (maxA_sound (E h1) (E h2) h _ o.type).value
  · simp at h
end
end Go.Abs
end
section
namespace Go.Abs
open Go

section
variable {P : Program} {p : Phi} {m : Mem} {w : World}

theorem cell_of_arr {c o : Nat} {arr : Array Value} {el : TypeId} {fr : Nat × Nat} (h : w.heap[c]? = some (.cells arr el fr)) : w.cell? ⟨c, o, none⟩ = arr[o]? := by
  simp [World.cell?, h]

theorem MR.cell (h : MR P p m w) {b : Nat} {cs : List AV} {ci : CI} {ro : Bool} (hm : m.get b = some (.cells cs ro)) (hp : p b = some ci) {i : Nat} {a : AV} (hi : cs[i]? = some a) :
    ∃ v, w.cell? ⟨ci.c, i + ci.d, none⟩ = some v ∧ VR p a v := by
  obtain ⟨arr, el, fr, h1, h2, h3, h4⟩ := h.live b cs ro ci hm hp
  obtain ⟨v, h5, h6⟩ := h4 i a hi
  exact ⟨v, by rw [cell_of_arr h1, Nat.add_comm]; exact h5, h6⟩

theorem ldCells_spec {a : AA} {n : Nat} {vs : List AV} (h : ldCells m a n = some vs) : ∃ cs ro, m.get a.b = some (.cells cs ro) ∧ a.o + n ≤ cs.length ∧ vs = (cs.drop a.o).take n := by
  unfold ldCells at h
  split at h
  · rename_i cs ro hc
    split at h
    · cases h; exact ⟨cs, ro, hc, ‹_›, rfl⟩
    · simp at h
  · simp at h

theorem ldCells_sound (hm : MR P p m w) {a : AA} {ci : CI} (hp : p a.b = some ci) {n : Nat} {vs : List AV} (h : ldCells m a n = some vs) :
    ∃ vs', (∀ w2 : World, w2.heap = w.heap → (loadCells ⟨ci.c, a.o + ci.d, none⟩ n).run P w2 = .ok ⟨vs'⟩ w2) ∧ VRs p vs vs' ∧ vs.length = n ∧ (∀ j v, vs'[j]? = some v → w.cell? ((⟨ci.c, a.o + ci.d, none⟩ : Addr).add j) = some v) := by
  obtain ⟨cs, ro, hc, hle, rfl⟩ := ldCells_spec h
  obtain ⟨arr, el, fr, h1, h2, h3, h4⟩ := hm.live a.b cs ro ci hc hp
  have hlen : ((cs.drop a.o).take n).length = n := by simp; omega
  have hex : ∀ j, j < n → ∃ v, arr[ci.d + (a.o + j)]? = some v ∧ VR p (cs.getD (a.o + j) .undef) v := by
    intro j hj
    have : cs[a.o + j]? = some (cs.getD (a.o + j) .undef) := by rw [List.getD_eq_getElem?_getD, List.getElem?_eq_getElem (by omega)]; rfl
    exact h4 _ _ this
  let f : Nat → Value := fun j => (arr[ci.d + (a.o + j)]?).getD undef
  have hf : ∀ j, j < n → w.cell? ((⟨ci.c, a.o + ci.d, none⟩ : Addr).add j) = some (f j) := by
    intro j hj
    obtain ⟨v, hv, _⟩ := hex j hj
    rw [addr_add, cell_of_arr h1]
    simp only [f]
    rw [hv, show a.o + ci.d + j = ci.d + (a.o + j) by omega, hv]; rfl
  refine ⟨(List.range n).map f, fun w2 hw2 => run_loadCells w2 _ n f (fun j hj => by rw [← hf j hj]; simp only [World.cell?, hw2]), VRs.of_get (by simp [hlen]) ?_, hlen, ?_⟩
  · intro i x hi
    have hin : i < n := by
      have := (List.getElem?_eq_some_iff.1 hi).1
      omega
    obtain ⟨v, hv, hr⟩ := hex i hin
    refine ⟨f i, by simp [hin], ?_⟩
    have hx : cs.getD (a.o + i) .undef = x := by
      rw [List.getElem?_take, if_pos hin, List.getElem?_drop] at hi
      rw [List.getD_eq_getElem?_getD, hi]; rfl
    simp only [f, hv, Option.getD_some]
    rw [← hx]; exact hr
  · intro j v hj
    have hjn : j < n := by have := (List.getElem?_eq_some_iff.1 hj).1; simpa using this
    simp [hjn] at hj
    rw [← hj]; exact hf j hjn

theorem loadA_sound (hm : MR P p m w) {t : TypeId} {x : AV} {x' : Value} {v : AV} (hx : VR p x x') (h : loadA P t x m = some v) : Gives P p (Instr.loadAt t x') w v := by
  unfold loadA at h
  split at h
  · simp at h
  rename_i d hd
  unfold Gives Instr.loadAt
  split at h
  · rename_i ha
    obtain ⟨n, hn, h⟩ := Option.bind_eq_some_iff.1 h
    unfold ldN at h
    split at h
    · rename_i a
      obtain ⟨vs, hv, rfl⟩ := Option.map_eq_some_iff.1 h
      simp only [VR] at hx
      obtain ⟨ci, hci, rfl⟩ := hx
      obtain ⟨vs', h1, h2, _⟩ := ldCells_sound (P := P) hm hci hv
      simp only [Sem.run_bind, Instr.sureAddr, Sem.run_pure, Result.andThen_ok, loadVar, run_isAgg hd, ha, if_true, run_size hn, h1 w rfl]
      exact ⟨_, rfl, by simp only [VR]; exact ⟨vs', rfl, h2⟩⟩
    · simp at h
  · rename_i ha
    unfold ld1 at h
    split at h
    · rename_i a
      split at h
      · rename_i cs ro hc
        simp only [VR] at hx
        obtain ⟨ci, hci, rfl⟩ := hx
        obtain ⟨cv, h1, h2⟩ := hm.cell hc hci h
        simp only [Sem.run_bind, Instr.sureAddr, Sem.run_pure, Result.andThen_ok, loadVar, run_isAgg hd, ha, if_false, Bool.false_eq_true]
        rw [run_load, h1]
        exact ⟨cv, rfl, h2⟩
      · simp at h
    · simp at h

theorem bytesA_sound : ∀ {cs : List AV} {cs' : List Value} {bs : List UInt8}, VRs p cs cs' → bytesA cs = some bs → ∀ (pre : ByteArray),
    (forIn cs' pre (fun c (s : ByteArray) => (do let .int .u8 n := c | stuck "bytesToString: byte expected"
                                                 pure (.yield (s.push (UInt8.ofNat n.toNat))) : Sem (ForInStep ByteArray)))).run P w = .ok ⟨⟨pre.data.toList ++ bs⟩⟩ w
  | [], _, bs, h, hb, pre => by
    simp only [VRs] at h; subst h
    simp only [bytesA, Option.some.injEq] at hb; subst hb
    cases pre; rename_i d; cases d
    simp
  | a :: as, _, bs, h, hb, pre => by
    simp only [VRs] at h
    obtain ⟨v, vs, rfl, h1, h2⟩ := h
    cases a <;> first | (exact absurd hb (by simp [bytesA])) | skip
    rename_i k n
    by_cases hk : k = .u8
    case neg => exfalso; revert hb; cases k <;> first | (simp [bytesA]; done) | exact absurd rfl hk
    subst hk
    simp only [bytesA] at hb
    obtain ⟨bs', hb', rfl⟩ := Option.map_eq_some_iff.1 hb
    simp only [VR] at h1; subst h1
    rw [List.forIn_cons]
    simp only [Sem.run_bind, Sem.run_pure, Result.andThen_ok]
    rw [bytesA_sound h2 hb' _]
    congr 2
    simp [ByteArray.push]

theorem toStrA_sound (hm : MR P p m w) {src dst : TypeId} {x : AV} {x' : Value} {v : AV} (hx : VR p x x') (hdst : P.underlying dst = some .string) (h : toStrA P src x m = some v) :
    Gives P p (convert src dst x') w v := by
  unfold toStrA at h
  split at h
  · rename_i e hd
    split at h
    · rename_i he
      unfold Gives
      split at h
      · cases h
        simp only [VR] at hx
        obtain ⟨_, _, aa, rfl, _⟩ := hx
        refine ⟨.string .empty, ?_, by simp only [VR]; rfl⟩
        cases aa <;> simp [loadCells, loadCellsFrom, convert, Sem.run_bind, run_under hd, run_under hdst, Result.andThen_ok, run_under he, Conv.bytesToString, Sem.run_pure]
      · rename_i a sz len cap ex
        obtain ⟨bs, hb, rfl⟩ := Option.map_eq_some_iff.1 h
        obtain ⟨cs, hcs, hbs⟩ := Option.bind_eq_some_iff.1 hb
        simp only [VR, SR] at hx
        obtain ⟨ci, off, cap', hci, rfl, hlc, hcc, _, _, hoff⟩ := hx
        by_cases hl : len = 0
        · subst hl
          obtain ⟨_, _, _, _, rfl⟩ := ldCells_spec hcs
          simp only [List.take_zero, bytesA, Option.some.injEq] at hbs; subst hbs
          refine ⟨.string .empty, ?_, by simp only [VR]; rfl⟩
          simp only [convert, Sem.run_bind, run_under hd, run_under hdst, Result.andThen_ok, run_under he, Conv.bytesToString]
          simp [loadCells, loadCellsFrom]
        · have e : off = a.o + ci.d := hoff (by omega)
          subst e
          obtain ⟨vs', h1, h2, _⟩ := ldCells_sound (P := P) hm hci hcs
          refine ⟨.string ⟨⟨bs⟩⟩, ?_, by simp only [VR]⟩
          simp only [convert, Sem.run_bind, run_under hd, run_under hdst, Result.andThen_ok, run_under he, Conv.bytesToString, h1 w rfl]
          have := bytesA_sound (P := P) (w := w) h2 hbs .empty
          simp only [List.forIn_toArray] at *
          erw [this]
          simp
      · simp at h
    · simp at h
  · simp at h

theorem str_beq (a b : List UInt8) : ((⟨⟨a⟩⟩ : ByteArray) == ⟨⟨b⟩⟩) = (a == b) := by
  have : (⟨a⟩ : Array UInt8) = ⟨b⟩ ↔ a = b := ⟨fun h => by injection h, fun h => by rw [h]⟩
  show ((⟨a⟩ : Array UInt8) == ⟨b⟩) = (a == b)
  rw [Bool.eq_iff_iff]
  simp
theorem keyEq_sound {d : TypeDesc} {k k' : AV} {c c' : Value} {b : Bool} (h : VR p k c) (h' : VR p k' c') (e : keyEq d k k' = some b) : Instr.sameNow d c c' = some b := by
  unfold keyEq at e
  split at e
  · simp only [VR] at h h'
    subst h h'
    split at e
    · simpa [Instr.sameNow] using e
    · cases e
  · simp only [VR] at h h'
    subst h h'
    split at e
    · rename_i a b' _
      simp only [Instr.sameNow]
      rw [← e]
      congr 1
      exact str_beq a b'
    · cases e
  · cases e

theorem ER.perm : ∀ {l : List (AV × AV)} {ces : List MapEntry}, ER p l ces → ∀ {es : List (AV × AV)}, l.Perm es → ∃ ces', ces.Perm ces' ∧ ER p es ces' := by
  intro l ces h es hp
  induction hp generalizing ces with
  | nil => exact ⟨ces, .refl _, h⟩
  | cons x _ ih =>
    obtain ⟨k, v⟩ := x
    simp only [ER] at h
    obtain ⟨e, es', rfl, h1, h2, h3⟩ := h
    obtain ⟨c', h4, h5⟩ := ih h3
    exact ⟨e :: c', h4.cons _, by simp only [ER]; exact ⟨e, c', rfl, h1, h2, h5⟩⟩
  | swap x y l =>
    obtain ⟨k, v⟩ := x
    obtain ⟨k2, v2⟩ := y
    simp only [ER] at h
    obtain ⟨e, es', rfl, h1, h2, e2, es2, rfl, h3, h4, h5⟩ := h
    exact ⟨e2 :: e :: es2, .swap _ _ _, by simp only [ER]; exact ⟨e2, _, rfl, h3, h4, e, _, rfl, h1, h2, h5⟩⟩
  | trans _ _ ih1 ih2 =>
    obtain ⟨c1, h1, h2⟩ := ih1 h
    obtain ⟨c2, h3, h4⟩ := ih2 h2
    exact ⟨c2, h1.trans h3, h4⟩

def Once (d : TypeDesc) (c : Value) (es : List MapEntry) (r : Option MapEntry) : Prop :=
  (∀ e ∈ es, ∃ b, Instr.sameNow d c e.key = some b) ∧
  match r with
  | none => ∀ e ∈ es, Instr.sameNow d c e.key = some false
  | some x => x ∈ es ∧ Instr.sameNow d c x.key = some true ∧ ∀ es1 es2, es = es1 ++ x :: es2 → (∀ e ∈ es1, Instr.sameNow d c e.key = some false) ∧ ∀ e ∈ es2, Instr.sameNow d c e.key = some false

theorem mget_all {d : TypeDesc} {k : AV} {c : Value} (hk : VR p k c) : ∀ {l : List (AV × AV)} {ces : List MapEntry} {r : Option AV}, ER p l ces → mget d k l = some r →
    (∀ e ∈ ces, ∃ b, Instr.sameNow d c e.key = some b) ∧ (r = none → ∀ e ∈ ces, Instr.sameNow d c e.key = some false) ∧
    ∀ v, r = some v → ∃ e1 x e2, ces = e1 ++ x :: e2 ∧ (∀ e ∈ e1, Instr.sameNow d c e.key = some false) ∧ (∀ e ∈ e2, Instr.sameNow d c e.key = some false) ∧ Instr.sameNow d c x.key = some true ∧ VR p v x.val
  | [], ces, r, h, e => by
    simp only [ER] at h; subst h
    simp only [mget, Option.some.injEq] at e; subst e
    simp
  | (k', v) :: l, ces, r, h, e => by
    simp only [ER] at h
    obtain ⟨x, xs, rfl, h1, h2, h3⟩ := h
    simp only [mget] at e
    split at e
    · rename_i e1 e2
      cases e
      obtain ⟨g1, g2, _⟩ := mget_all hk h3 e2
      have hx := keyEq_sound hk h1 e1
      refine ⟨fun y hy => ?_, by simp, fun v' hv => ?_⟩
      · rcases List.mem_cons.1 hy with rfl | hy
        · exact ⟨_, hx⟩
        · exact g1 y hy
      · cases hv
        exact ⟨[], x, xs, rfl, by simp, g2 rfl, hx, h2⟩
    · rename_i r' e1 e2
      cases e
      obtain ⟨g1, g2, g3⟩ := mget_all hk h3 e2
      have hx := keyEq_sound hk h1 e1
      refine ⟨fun y hy => ?_, fun hr y hy => ?_, fun v' hv => ?_⟩
      · rcases List.mem_cons.1 hy with rfl | hy
        · exact ⟨_, hx⟩
        · exact g1 y hy
      · rcases List.mem_cons.1 hy with rfl | hy
        · exact hx
        · exact g2 hr y hy
      · obtain ⟨l1, y, l2, rfl, f1, f2, f3⟩ := g3 v' hv
        refine ⟨x :: l1, y, l2, rfl, fun z hz => ?_, f2, f3⟩
        rcases List.mem_cons.1 hz with rfl | hz
        · exact hx
        · exact f1 z hz
    · cases e

theorem findNow_none {d : TypeDesc} {c : Value} : ∀ {es : List MapEntry} {i : Nat}, (∀ e ∈ es, Instr.sameNow d c e.key = some false) → Instr.findNow d c es i = some none
  | [], _, _ => rfl
  | e :: es, i, h => by
    simp only [Instr.findNow, h e (by simp)]
    exact findNow_none fun x hx => h x (by simp [hx])
theorem findNow_some {d : TypeDesc} {c : Value} {x : MapEntry} (hx : Instr.sameNow d c x.key = some true) : ∀ {e1 e2 : List MapEntry} {i : Nat}, (∀ e ∈ e1, Instr.sameNow d c e.key = some false) → Instr.findNow d c (e1 ++ x :: e2) i = some (some (i + e1.length, x.val))
  | [], e2, i, _ => by simp [Instr.findNow, hx]
  | e :: e1, e2, i, h => by
    simp only [List.cons_append, Instr.findNow, h e (by simp)]
    rw [findNow_some hx fun x hx => h x (by simp [hx])]
    simp only [List.length_cons]
    congr 3; omega

theorem split_perm {d : TypeDesc} {c : Value} {l1 l2 : List MapEntry} {x : MapEntry} (h1 : ∀ e ∈ l1, Instr.sameNow d c e.key = some false) (h2 : ∀ e ∈ l2, Instr.sameNow d c e.key = some false) {ces : List MapEntry} (hp : ces.Perm (l1 ++ x :: l2)) :
    ∃ e1 e2, ces = e1 ++ x :: e2 ∧ (e1 ++ e2).Perm (l1 ++ l2) ∧ (∀ e ∈ e1, Instr.sameNow d c e.key = some false) ∧ ∀ e ∈ e2, Instr.sameNow d c e.key = some false := by
  have hx : x ∈ ces := hp.mem_iff.2 (by simp)
  obtain ⟨e1, e2, rfl⟩ := List.append_of_mem hx
  have hp' : (e1 ++ e2).Perm (l1 ++ l2) := by
    have a : (e1 ++ x :: e2).Perm (x :: (e1 ++ e2)) := List.perm_middle
    have b : (l1 ++ x :: l2).Perm (x :: (l1 ++ l2)) := List.perm_middle
    exact List.Perm.cons_inv (a.symm.trans (hp.trans b))
  refine ⟨e1, e2, rfl, hp', fun e he => ?_, fun e he => ?_⟩
  · have := hp'.mem_iff.1 (List.mem_append_left e2 he)
    rcases List.mem_append.1 this with h | h
    · exact h1 e h
    · exact h2 e h
  · have := hp'.mem_iff.1 (List.mem_append_right e1 he)
    rcases List.mem_append.1 this with h | h
    · exact h1 e h
    · exact h2 e h

theorem keyEq_kind {d : TypeDesc} {k : AV} {b : Bool} {c : Value} (hk : VR p k c) (e : keyEq d k k = some b) : ((∃ i, d = .int i) ∨ d = .string) ∧ (∀ cs, c ≠ .agg cs) := by
  unfold keyEq at e
  split at e
  · simp only [VR] at hk; subst hk
    split at e
    · exact ⟨.inl ⟨_, rfl⟩, by simp⟩
    · cases e
  · simp only [VR] at hk; subst hk
    split at e
    · exact ⟨.inr rfl, by simp⟩
    · cases e
  · cases e
theorem run_checkKey {empty : Bool} {n : Nat} {t : TypeId} {v : Value} {d : TypeDesc} (hd : P.underlying t = some d) (h : (∃ i, d = .int i) ∨ d = .string) : (Instr.checkKey empty (n + 1) t v).run P w = .ok () w := by
  simp only [Instr.checkKey, Sem.run_bind, run_under hd, Result.andThen_ok]
  rcases h with ⟨i, rfl⟩ | rfl <;> rfl
theorem run_findKey {t : TypeId} {c : Value} {d : TypeDesc} (hd : P.underlying t = some d) {es : List MapEntry} {r : Option (Nat × Value)} (h : Instr.findNow d c es 0 = some r) : (Instr.findKey t c es).run P w = .ok r w := by
  simp only [Instr.findKey, Sem.run_bind, run_under hd, Result.andThen_ok, h, Sem.run_pure]

theorem zeroV_sound {t : TypeId} {v : AV} (h : zeroV P t = some v) : ∃ z, (zeroValue t).run P w = .ok z w ∧ VR p v z := by
  unfold zeroV at h
  obtain ⟨z, h1, h2⟩ := Option.bind_eq_some_iff.1 h
  obtain ⟨i, h3, h4⟩ := Option.bind_eq_some_iff.1 h1
  refine ⟨z, ?_, ofV_VR p h2⟩
  simp only [zeroValue, Sem.run_bind, run_info h3, Result.andThen_ok, h4, Sem.run_pure]

theorem run_getObj {r : Nat} {o : Obj} (h : w.heap[r]? = some o) (hn : ∀ c e f, o ≠ .cells c e f) : (getObj r).run P w = .ok o w := by
  cases o <;> first | exact absurd rfl (hn _ _ _) | simp [getObj, Sem.run, h]
theorem run_setObj {r : Nat} {o o' : Obj} (h : w.heap[r]? = some o) (hn : ∀ c e f, o ≠ .cells c e f) : (setObj r o').run P w = .ok () { w with heap := w.heap.setIfInBounds r o' } := by
  cases o <;> first | exact absurd rfl (hn _ _ _) | simp [setObj, Sem.run, h]
theorem mapOf_sound (hm : MR P p m w) {x : AV} {x' : Value} (hx : VR p x x') {es : List (AV × AV)} (h : mapOf m x = some es) :
    ∃ ces : Array MapEntry, (x' = .map none ∧ ces = #[] ∨ ∃ r clock, x' = .map (some r) ∧ w.heap[r]? = some (.map ces clock)) ∧ ∃ l, l.Perm es ∧ ER p l ces.toList := by
  unfold mapOf at h
  split at h
  · cases h
    simp only [VR] at hx; subst hx
    exact ⟨#[], .inl ⟨rfl, rfl⟩, [], .refl _, by simp [ER]⟩
  · rename_i b
    split at h
    · rename_i es' hb
      cases h
      simp only [VR] at hx
      obtain ⟨ci, h1, rfl⟩ := hx
      obtain ⟨o, h2, ces, clock, rfl, h3, _⟩ := hm.has b _ ci hb h1
      exact ⟨ces, .inr ⟨_, _, rfl, h2⟩, h3⟩
    · cases h
  · cases h

theorem lookupA_sound (hm : MR P p m w) {t : TypeId} {x k : AV} {x' k' : Value} {ok : Bool} {v : AV} (hx : VR p x x') (hk : VR p k k') (h : lookupA P t x k ok m = some v) : Gives P p (Instr.lookup t x' k' ok) w v := by
  unfold lookupA at h
  split at h
  · rename_i key elem hd
    obtain ⟨d, h1, h⟩ := Option.bind_eq_some_iff.1 h
    obtain ⟨es, h2, h⟩ := Option.bind_eq_some_iff.1 h
    obtain ⟨bb, h3, h⟩ := Option.bind_eq_some_iff.1 h
    obtain ⟨r, h4, h⟩ := Option.bind_eq_some_iff.1 h
    obtain ⟨ces, h5, l, h6, h7⟩ := mapOf_sound hm hx h2
    obtain ⟨ces', h8, h9⟩ := h7.perm h6
    have hkind := (keyEq_kind hk h3).1
    obtain ⟨g1, g2, g3⟩ := mget_all hk h9 h4
    have fin : ∀ (r' : Option (Nat × Value)), Instr.findNow d k' ces.toList 0 = some r' → ∀ cv : Value × Bool, (match r' with
        | some (_, v) => (pure (v, true) : Sem (Value × Bool))
        | none => do pure (← zeroValue elem, false)).run P w = .ok cv w → (Instr.lookup t x' k' ok).run P w = .ok (if ok then .tuple #[cv.1, .bool cv.2] else cv.1) w := by
      intro r' hr cv hcv
      unfold Instr.lookup
      rcases h5 with ⟨rfl, rfl⟩ | ⟨r0, clock, rfl, h5⟩
      · simp only [Sem.run_bind, run_under hd, Result.andThen_ok, Sem.run_pure, run_checkKey h1 hkind, run_findKey h1 hr]
        cases r' with
        | none =>
          simp only [Sem.run_bind] at hcv ⊢
          cases hz : (zeroValue elem).run P w with
          | ok z w2 => rw [hz] at hcv; simp only [Result.andThen_ok, Sem.run_pure] at hcv ⊢; cases hcv; simp
          | halt x w2 => rw [hz] at hcv; simp at hcv
        | some y => simp only [Sem.run_pure] at hcv; cases hcv; simp
      · simp only [Sem.run_bind, run_under hd, Result.andThen_ok, run_getObj h5 (by simp), Sem.run_pure, run_checkKey h1 hkind, run_findKey h1 hr]
        cases r' with
        | none =>
          simp only [Sem.run_bind] at hcv ⊢
          cases hz : (zeroValue elem).run P w with
          | ok z w2 => rw [hz] at hcv; simp only [Result.andThen_ok, Sem.run_pure] at hcv ⊢; cases hcv; simp
          | halt x w2 => rw [hz] at hcv; simp at hcv
        | some y => simp only [Sem.run_pure] at hcv; cases hcv; simp
    cases r with
    | none =>
      have hn : Instr.findNow d k' ces.toList 0 = some none := findNow_none fun e he => g2 rfl e (h8.mem_iff.1 he)
      obtain ⟨z0, hz, rfl⟩ := Option.map_eq_some_iff.1 h
      obtain ⟨z, h10, h11⟩ := zeroV_sound (p := p) (w := w) hz
      refine ⟨_, fin none hn (z, false) (by simp [h10]), ?_⟩
      cases ok
      · simpa using h11
      · simp only [if_true, VR, VRs]
        exact ⟨_, rfl, z, _, rfl, h11, .bool false, [], rfl, rfl, rfl⟩
    | some u =>
      obtain ⟨l1, y, l2, rfl, f1, f2, f3, f4⟩ := g3 u rfl
      obtain ⟨e1, e2, he, _, q1, _⟩ := split_perm f1 f2 h8
      have hs : Instr.findNow d k' ces.toList 0 = some (some (0 + e1.length, y.val)) := by rw [he]; exact findNow_some f3 q1
      cases h
      refine ⟨_, fin _ hs (y.val, true) rfl, ?_⟩
      cases ok
      · simpa using f4
      · simp only [if_true, VR, VRs]
        exact ⟨_, rfl, y.val, _, rfl, f4, .bool true, [], rfl, rfl, rfl⟩
  · cases h

theorem lenM_sound (hm : MR P p m w) {t : TypeId} {x : AV} {x' : Value} {v : AV} (hx : VR p x x') (h : lenM P t x m = some v) (ty : TypeId) : Gives P p (Builtin.len_ #[t] ty #[x']) w v := by
  unfold lenM at h
  split at h
  · rename_i key elem hd
    obtain ⟨es, h2, rfl⟩ := Option.map_eq_some_iff.1 h
    obtain ⟨ces, h5, l, h6, h7⟩ := mapOf_sound hm hx h2
    have hl : ∀ {l : List (AV × AV)} {c : List MapEntry}, ER p l c → c.length = l.length := by
      intro l
      induction l with
      | nil => intro c h; simp only [ER] at h; simp [h]
      | cons x l ih =>
        intro c h
        obtain ⟨k, v⟩ := x
        simp only [ER] at h
        obtain ⟨e, es', rfl, _, _, h3⟩ := h
        simp [ih h3]
    have hl2 : ces.size = es.length := by rw [← h6.length_eq, ← hl h7]; simp
    rcases h5 with ⟨rfl, rfl⟩ | ⟨r0, clock, rfl, h5⟩
    · have : es.length = 0 := by simpa using hl2.symm
      exact ⟨.int .i64 0, by simp [Builtin.len_, run_under hd, goInt], by simp [VR, this]⟩
    · exact ⟨.int .i64 ces.size, by simp [Builtin.len_, run_under hd, run_getObj h5 (by simp), goInt], by simp [VR, hl2]⟩
  · cases h

theorem iter_objs (hm : MR P p m w) {c b : Nat} {left es : List (AV × AV)} {cur : Option (AV × AV)} {ci : CI} (h1 : m.get c = some (.iter b left cur)) (h2 : m.get b = some (.rmap es c)) (hp : p c = some ci) :
    ∃ bi ces clock seen last, w.heap[ci.c]? = some (.mapIter (some bi.c) clock seen last) ∧ p b = some bi ∧ ci.g = some (ces, clock) ∧ ci.d = 0 ∧ clock ≤ last ∧ (∃ l, l.Perm left ∧ ER p l (ces.toList.filter fun e => !seen.contains e.born)) ∧
      (∀ e, cur = some e → last = clock ∧ ∃ ce ∈ ces.toList, seen.back? = some ce.born ∧ VR p e.1 ce.key ∧ VR p e.2 ce.val) ∧
      w.heap[bi.c]? = some (.map ces clock) ∧ (∃ l, l.Perm es ∧ ER p l ces.toList) ∧ (ces.toList.map (·.born)).Nodup ∧ ∀ e ∈ ces.toList, e.born < clock := by
  obtain ⟨o, g1, bi, ces, clock, seen, last, rfl, g2, g3, g4, g5, g6, g7⟩ := hm.has c _ ci h1 hp
  obtain ⟨o, k1, ces', clock', rfl, k2, ⟨k3, k4⟩, cc, k5, k6⟩ := hm.has b _ bi h2 g2
  rw [hp] at k5
  cases k5
  rw [g3] at k6
  cases k6
  exact ⟨bi, ces, clock, seen, last, g1, g2, g3, g4, g5, g6, g7, k1, k2, k3, k4⟩
theorem find_born (e : MapEntry) : ∀ (l : List MapEntry), (l.map (·.born)).Nodup → e ∈ l → l.find? (·.born == e.born) = some e
  | x :: l, hn, he => by
    have hn' : x.born ∉ l.map (·.born) ∧ (l.map (·.born)).Nodup := List.nodup_cons.1 hn
    rcases List.mem_cons.1 he with rfl | h
    · simp
    · have hx : (x.born == e.born) = false := by
        cases hc : x.born == e.born with
        | false => rfl
        | true => exact absurd (by rw [beq_iff_eq.1 hc]; exact List.mem_map.2 ⟨e, h, rfl⟩) hn'.1
      rw [List.find?_cons, hx]
      exact find_born e l hn'.2 h
theorem entryA_sound (hm : MR P p m w) {x : AV} {x' : Value} {v : AV} (hx : VR p x x') (h : entryA x m = some v) : Gives P p (Instr.entry x') w v := by
  unfold entryA at h
  split at h
  · rename_i a
    split at h
    · rename_i b left e ha h1
      split at h
      · rename_i es c h2
        split at h
        · rename_i hc
          subst hc
          cases h
          simp only [VR] at hx
          obtain ⟨ci, g1, rfl⟩ := hx
          obtain ⟨bi, ces, clock, seen, last, o1, o2, o3, o4, o5, o6, o7, o8, o9, o10, o11⟩ := iter_objs hm h1 h2 g1
          obtain ⟨rfl, ce, q1, q2, q3, q4⟩ := o7 e rfl
          refine ⟨.tuple #[ce.key, ce.val], ?_, by simp only [VR, VRs]; exact ⟨_, rfl, ce.key, _, rfl, q3, ce.val, [], rfl, q4, rfl⟩⟩
          have hf : ces.find? (·.born == ce.born) = some ce := by rw [← Array.find?_toList]; exact find_born ce ces.toList o10 q1
          rw [ha, o4]
          simp only [Instr.entry, Sem.run_bind, run_getObj o1 (by simp), Result.andThen_ok, q2, run_getObj o8 (by simp), bne_self_eq_false, Bool.false_eq_true, if_false, hf]
          rfl
        · cases h
      · cases h
    · cases h
  · cases h

theorem read_sound (hm : MR P p m w) {o : Oper} {t : List AV} {a : Act} (ht : VRs p t a.tmps.toList) (hc : cls P o.op = .r) {v : AV} (h : readOp P o.op t m = some v) :
    ∃ cv, (execOp a.eval o).run P w = .ok (.value cv) w ∧ VR p v cv := by
  have E : ∀ {x : Operand} {v : AV}, ev P t x = some v → VR p v (a.eval x) := fun h => ev_VR ht hm.glob h
  have ho : ∃ op, o.op = op := ⟨_, rfl⟩
  obtain ⟨op, ho⟩ := ho
  rw [ho] at h hc
  unfold readOp at h
  split at h
  · obtain ⟨x, h1, h⟩ := Option.bind_eq_some_iff.1 h
    simp only [execOp, ho]
    exact (loadA_sound hm (E h1) h).value
  · rename_i src dst xo
    obtain ⟨x, h1, h⟩ := Option.bind_eq_some_iff.1 h
    have hdst : P.underlying dst = some .string := by
      simp only [cls] at hc
      split at hc
      · assumption
      · cases hc
      · cases hc
    simp only [execOp, ho]
    exact (toStrA_sound hm (E h1) hdst h).value
  · obtain ⟨x, h1, h⟩ := Option.bind_eq_some_iff.1 h
    obtain ⟨k, h2, h⟩ := Option.bind_eq_some_iff.1 h
    simp only [execOp, ho]
    exact (lookupA_sound hm (E h1) (E h2) h).value
  · obtain ⟨x, h1, h⟩ := Option.bind_eq_some_iff.1 h
    simp only [execOp, ho]
    exact (entryA_sound hm (E h1) h).value
  · obtain ⟨x, h1, h⟩ := Option.bind_eq_some_iff.1 h
    simp only [execOp, ho]
    rw [builtin_call]; exact (lenM_sound hm (E h1) h o.type).value
  · simp at h

theorem setCells_spec (b : Nat) : ∀ (vs : List Value) (o : Nat) (w : World) {arr : Array Value} {el : TypeId} {fr : Nat × Nat}, w.heap[b]? = some (.cells arr el fr) → o + vs.length ≤ arr.size →
    ∃ arr', (w.setCells b o vs).heap[b]? = some (.cells arr' el fr) ∧ arr'.size = arr.size ∧ (∀ i, arr'[i]? = if o ≤ i ∧ i < o + vs.length then vs[i - o]? else arr[i]?) ∧
      (∀ c, c ≠ b → (w.setCells b o vs).heap[c]? = w.heap[c]?) ∧ (w.setCells b o vs).heap.size = w.heap.size ∧ (w.setCells b o vs).os = w.os ∧ (w.setCells b o vs).output = w.output ∧ (w.setCells b o vs).tape = w.tape
  | [], o, w, arr, el, fr, h, _ => ⟨arr, h, rfl, fun i => by rw [if_neg (by simp only [List.length_nil]; omega)], fun _ _ => rfl, rfl, rfl, rfl, rfl⟩
  | v :: vs, o, w, arr, el, fr, h, hl => by
    simp only [List.length_cons] at hl
    have h1 : (w.setCell ⟨b, o, none⟩ v).heap[b]? = some (.cells (arr.setIfInBounds o v) el fr) := by
      simp only [World.setCell, Array.getElem?_modify, if_true, h]
      rfl
    obtain ⟨arr', e1, e2, e3, e4, e5, e6, e7, e8⟩ := setCells_spec b vs (o + 1) (w.setCell ⟨b, o, none⟩ v) h1 (by simp; omega)
    refine ⟨arr', e1, by rw [e2]; simp, fun i => ?_, fun c hc => ?_, ?_, e6.trans rfl, e7.trans rfl, e8.trans rfl⟩
    · rw [e3 i]
      simp only [List.length_cons]
      by_cases hi : i = o
      · subst hi
        rw [if_neg (by omega), if_pos (by omega)]
        simp [Array.getElem?_setIfInBounds_self]; try omega
      · by_cases hr : o + 1 ≤ i ∧ i < o + 1 + vs.length
        · rw [if_pos hr, if_pos (by omega)]
          obtain ⟨j, rfl⟩ : ∃ j, i = o + 1 + j := ⟨i - (o + 1), by omega⟩
          rw [show o + 1 + j - (o + 1) = j by omega, show o + 1 + j - o = j + 1 by omega, List.getElem?_cons_succ]
        · rw [if_neg hr, if_neg (by omega), Array.getElem?_setIfInBounds_ne (by omega)]
    · rw [World.setCells, e4 c hc]
      simp only [World.setCell, Array.getElem?_modify]
      rw [if_neg (fun e => hc e.symm)]
    · rw [World.setCells, e5]; simp [World.setCell]

theorem storeCells_run {c off : Nat} {vs : List Value} {arr : Array Value} {el : TypeId} {fr : Nat × Nat} (h : w.heap[c]? = some (.cells arr el fr)) (hl : off + vs.length ≤ arr.size)
    (hf : ∀ i, ¬ (fr.1 ≤ i ∧ i < fr.2)) (h1 : ∀ v ∈ vs, v.oneCell' = true) : (storeCells ⟨c, off, none⟩ vs).run P w = .ok () (w.setCells c off vs) := by
  have := run_storeCells_cells (P := P) c off vs 0 w (fun j hj => by
      rw [cell_of_arr h]; simp; omega) (fun j hj => by
      simp only [World.frozen?, h]
      have := hf (off + 0 + j)
      simpa using this) h1
  simpa using this

theorem Sim.turn (h : MR P p m w) {b : Nat} {cs cs' : List AV} {ci : CI} (hb : m.get b = some (.cells cs false)) (hp : p b = some ci) {w' : World} {arr : Array Value} {el : TypeId} {fr : Nat × Nat}
    (hw : w'.heap[ci.c]? = some (.cells arr el fr)) (hn : arr.size = ci.n) (hf : ∀ i, ¬ (fr.1 ≤ i ∧ i < fr.2))
    (hcs : ∀ (i : Nat) a, cs'[i]? = some a → ∃ v, arr[ci.d + i]? = some v ∧ VR p a v) (ho : ∀ c, c ≠ ci.c → w'.heap[c]? = w.heap[c]?) (hs : w'.heap.size = w.heap.size)
    (e1 : w'.os = w.os) (e2 : w'.output = w.output) (e3 : w'.tape = w.tape) : Sim P p m w p (m.put b (some (.cells cs' false))) w' := by
  exact Sim.turnV h hb (by simp) hp hw ho hs e1 e2 e3 fun x hx => by cases hx; exact ⟨arr, el, fr, rfl, hn, fun _ => hf, hcs⟩

theorem Sim.kill (h : MR P p m w) {b : Nat} {ci : CI} {cs : List AV} (hb : m.get b = some (.cells cs false)) (hp : p b = some ci) : Sim P p m w p (m.put b none) w := by
  obtain ⟨o, ho, _⟩ := h.has b _ ci hb hp
  exact Sim.turnV h hb (by simp) hp ho (fun _ _ => rfl) rfl rfl rfl rfl (by simp)
end
end Go.Abs
end
section
namespace Go.Abs
open Go

section
variable {P : Program} {p : Phi} {m : Mem} {w : World}

theorem stCells_spec {a : AA} {vs : List AV} {m' : Mem} (h : stCells m a vs = some m') : ∃ cs, m.get a.b = some (.cells cs false) ∧ a.o + vs.length ≤ cs.length ∧
    m' = m.put a.b (some (.cells (cs.take a.o ++ vs ++ cs.drop (a.o + vs.length)) false)) := by
  unfold stCells at h
  split at h
  · rename_i cs hc
    split at h
    · cases h; exact ⟨cs, hc, ‹_›, rfl⟩
    · simp at h
  · simp at h

theorem splice_get {α : Type} (cs vs : List α) (o i : Nat) (h : o + vs.length ≤ cs.length) : (cs.take o ++ vs ++ cs.drop (o + vs.length))[i]? = if o ≤ i ∧ i < o + vs.length then vs[i - o]? else cs[i]? := by
  by_cases h1 : i < o
  · rw [if_neg (by omega), List.append_assoc, List.getElem?_append_left (by simp; omega), List.getElem?_take, if_pos h1]
  · by_cases h2 : i < o + vs.length
    · rw [if_pos (by omega), List.append_assoc, List.getElem?_append_right (by simp; omega), List.getElem?_append_left (by simp; omega)]
      congr 1; simp; omega
    · rw [if_neg (by omega), List.getElem?_append_right (by simp; omega), List.getElem?_drop]
      congr 1; simp; omega

theorem stCells_sound (hm : MR P p m w) {a : AA} {ci : CI} (hp : p a.b = some ci) {vs : List AV} {vs' : List Value} (hv : VRs p vs vs') (h1 : vs.all AV.one = true) {m' : Mem} (h : stCells m a vs = some m') :
    ∃ w', (storeCells ⟨ci.c, a.o + ci.d, none⟩ vs').run P w = .ok () w' ∧ Sim P p m w p m' w' := by
  obtain ⟨cs, hc, hle, rfl⟩ := stCells_spec h
  obtain ⟨arr, el, fr, e1, e2, e3, e4⟩ := hm.live a.b cs false ci hc hp
  have e3 := e3 rfl
  have hlen := hv.length
  have hb : ci.d + cs.length ≤ arr.size ∨ cs.length = 0 := by
    by_cases h0 : cs.length = 0
    · exact .inr h0
    · left
      obtain ⟨v, hv', _⟩ := e4 (cs.length - 1) (cs[cs.length - 1]'(by omega)) (List.getElem?_eq_getElem (by omega))
      have := (Array.getElem?_eq_some_iff.1 hv').1
      omega
  by_cases h0 : vs.length = 0
  · have hvs : vs = [] := List.length_eq_zero_iff.1 h0
    subst hvs
    simp only [VRs] at hv; subst hv
    refine ⟨w, rfl, Sim.turn hm hc hp e1 e2 e3 (fun i x hi => ?_) (fun _ _ => rfl) rfl rfl rfl rfl⟩
    rw [splice_get _ _ _ _ hle, if_neg (by simp only [List.length_nil]; omega)] at hi
    exact e4 i x hi
  · have hfit : a.o + ci.d + vs'.length ≤ arr.size := by rcases hb with hb | hb <;> omega
    obtain ⟨arr', f1, f2, f3, f4, f5, f6, f7, f8⟩ := setCells_spec ci.c vs' (a.o + ci.d) w e1 hfit
    refine ⟨_, storeCells_run e1 hfit e3 (hv.ones h1), Sim.turn hm hc hp f1 (by omega) e3 (fun i x hi => ?_) f4 f5 f6 f7 f8⟩
    rw [splice_get _ _ _ _ hle] at hi
    rw [f3]
    by_cases hr : a.o ≤ i ∧ i < a.o + vs.length
    · rw [if_pos hr] at hi
      obtain ⟨v, h5, h6⟩ := hv.get hi
      refine ⟨v, ?_, h6⟩
      rw [if_pos (by omega), ← h5]; congr 1; omega
    · rw [if_neg hr] at hi
      obtain ⟨v, h5, h6⟩ := e4 i x hi
      refine ⟨v, ?_, h6⟩
      rw [if_neg (by omega)]; exact h5

theorem stV_sound (hm : MR P p m w) {t : TypeId} {x y : AV} {x' y' : Value} (hx : VR p x x') (hy : VR p y y') {n : Nat} (hn : szT P t = some n) {m' : Mem} (h : stV m x y n = some m') :
    ∃ w', (Instr.storeAt t x' y').run P w = .ok () w' ∧ Sim P p m w p m' w' := by
  unfold stV at h
  split at h
  · rename_i a
    split at h
    · rename_i cs hc
      split at h
      · rename_i hl
        simp only [VR] at hx
        obtain ⟨ci, hci, rfl⟩ := hx
        obtain ⟨vs, h1, h2, h3⟩ := hy.cells hc
        obtain ⟨w', h4, h5⟩ := stCells_sound (P := P) hm hci h2 h3 h
        refine ⟨w', ?_, h5⟩
        have := h2.length
        simp only [Instr.storeAt, Sem.run_bind, Instr.sureAddr, Sem.run_pure, Result.andThen_ok, storeVar, run_size hn, h1]
        rw [Sem.run_ite, if_neg (by simp; omega)]
        exact h4
      · simp at h
    · simp at h
  · simp at h

theorem Sim.takeOver (h : MR P p m w) (_hG : P.globals.size ≤ m.next) {b : Nat} {cs cs' : List AV} {ci : CI} (hb : m.get b = some (.cells cs false)) (hp : p b = some ci) (hfree : p m.next = none) {w' : World} {arr : Array Value} {el : TypeId} {fr : Nat × Nat} {d : Nat}
    (hw : w'.heap[ci.c]? = some (.cells arr el fr)) (hn : arr.size = ci.n) (hf : ∀ i, ¬ (fr.1 ≤ i ∧ i < fr.2))
    (hcs : ∀ (i : Nat) a, cs'[i]? = some a → ∃ v, arr[d + i]? = some v ∧ VR p a v) (ho : ∀ c, c ≠ ci.c → w'.heap[c]? = w.heap[c]?) (hs : w'.heap.size = w.heap.size)
    (e1 : w'.os = w.os) (e2 : w'.output = w.output) (e3 : w'.tape = w.tape) :
    Sim P p m w (fun x => if x = m.next then some ⟨ci.c, d, ci.n, none⟩ else p x) ((m.put b none).alloc cs') w' := by
  have hbl := Mem.get_lt hb
  have hle : p.le (fun x => if x = m.next then some ⟨ci.c, d, ci.n, none⟩ else p x) := by
    intro x c hx
    by_cases e : x = m.next
    · subst e; rw [hfree] at hx; simp at hx
    · simp [e, hx]
  have hget : ∀ x, ((m.put b none).alloc cs').get x = if x = m.next then some (.cells cs' false) else if x = b then none else m.get x := by
    intro x
    rw [Mem.get_alloc, Mem.next_put, Mem.get_put]
    by_cases e : x = m.next
    · simp [e]
    · rw [if_neg e, if_neg e]
      by_cases e2 : x = b
      · rw [if_pos e2, if_pos ⟨e2, hbl⟩]
      · rw [if_neg e2, if_neg (fun y => e2 y.1)]
  have hro : ∀ b2 cs2 ci2, m.get b2 = some (.cells cs2 true) → p b2 = some ci2 → b2 ≠ b ∧ ci2.c ≠ ci.c := by
    intro b2 cs2 ci2 h1 h2
    have hne : b2 ≠ b := by rintro rfl; rw [hb] at h1; cases h1
    refine ⟨hne, fun ec => ?_⟩
    rcases h.inj b2 ci2 b ci (by rw [h1]; rfl) h2 hp ec with e' | ⟨_, e'⟩
    · exact hne e'
    · rw [hb] at e'; simp at e'
  refine ⟨hle, ?_, by simp, ⟨?_, ?_, ?_, ?_⟩, ?_, ?_, ?_, ?_, fun b2 cs2 ci2 h1 h2 => ⟨by rw [hget, if_neg (by have := Mem.get_lt h1; omega), if_neg (hro b2 cs2 ci2 h1 h2).1]; exact h1, ho _ (hro b2 cs2 ci2 h1 h2).2⟩, by omega, e1, e2, e3⟩
  · intro x hx
    have : x ≠ m.next := by rintro rfl; simp at hx
    simp [this]
  · intro b2 v2 ci2 h1 h2
    rw [hget] at h1
    by_cases e : b2 = m.next
    · simp only [e, if_true] at h1 h2
      cases h1; cases h2
      exact ⟨_, hw, arr, el, fr, rfl, hn, fun _ => hf, fun i a hi => let ⟨v, x, y⟩ := hcs i a hi; ⟨v, x, y.mono hle⟩⟩
    · rw [if_neg e] at h1
      simp only [if_neg e] at h2
      split at h1
      · simp at h1
      · rename_i hbb
        have hne : ci2.c ≠ ci.c := by
          intro ec
          rcases h.inj b2 ci2 b ci (by rw [h1]; rfl) h2 hp ec with e' | ⟨_, e'⟩
          · exact hbb e'
          · rw [hb] at e'; simp at e'
        obtain ⟨o, h3, h4⟩ := h.has b2 v2 ci2 h1 h2
        exact ⟨o, by rw [ho _ hne]; exact h3, h4.mono hle⟩
  · intro b1 c1 b2 c2 h1 h2 h3 h4
    rw [hget] at h1
    by_cases x1 : b1 = m.next
    · simp only [x1, if_true] at h2
      cases h2
      by_cases x2 : b2 = m.next
      · exact .inl (x1.trans x2.symm)
      · simp only [if_neg x2] at h3
        right
        rcases h.inj b ci b2 c2 (by rw [hb]; rfl) hp h3 h4 with e | ⟨e, e'⟩
        · subst e
          refine ⟨by simp; omega, ?_⟩
          rw [hget, if_neg (by omega), if_pos rfl]
        · refine ⟨by simp; omega, ?_⟩
          rw [hget, if_neg x2]; split
          · rfl
          · exact e'
    · rw [if_neg x1] at h1
      simp only [if_neg x1] at h2
      split at h1
      · simp at h1
      · rename_i hbb
        by_cases x2 : b2 = m.next
        · simp only [x2, if_true] at h3
          cases h3
          rcases h.inj b1 c1 b ci h1 h2 hp h4 with e | ⟨e, e'⟩
          · exact absurd e hbb
          · rw [hb] at e'; simp at e'
        · simp only [if_neg x2] at h3
          rcases h.inj b1 c1 b2 c2 h1 h2 h3 h4 with e | ⟨e, e'⟩
          · exact .inl e
          · right
            refine ⟨by simp; omega, ?_⟩
            rw [hget, if_neg x2]; split
            · rfl
            · exact e'
  · intro x c hx
    rw [hs]
    split at hx
    · cases hx; exact h.bnd b ci hp
    · exact h.bnd x c hx
  · intro g hg
    obtain ⟨n, hn⟩ := h.glob g hg
    exact ⟨n, hle _ _ hn⟩
  · intro x hx1 hx2
    rw [hget, if_neg (by omega), if_neg]
    rintro rfl; rw [hp] at hx2; simp at hx2
  · intro x hx1 hx2
    rw [hget, if_neg (by omega)]; split
    · rfl
    · exact hx2
  · intro c hc hn'
    exact ho c fun e => hn' b ci (by rw [hb]; rfl) hp e.symm
  · intro x c h1 h2 h3
    simp at h2
    have : x = m.next := by omega
    simp only [this, if_true] at h3
    cases h3
    right; exact ⟨b, ci, by rw [hb]; rfl, hp, rfl⟩

theorem srcA_sound (hm : MR P p m w) {sz : Nat} {x : AV} {x' : Value} (hx : VR p x x') {n : Nat} {vs : List AV} (h : srcA sz x m = some (n, vs)) :
    (∀ w2 : World, (Builtin.lenOf x').run P w2 = .ok n w2) ∧ vs.length = n * sz ∧
    ∃ vs', VRs p vs vs' ∧ ∀ k, k ≤ n → ∀ w2 : World, w2.heap = w.heap → (Builtin.firstCells sz k x').run P w2 = .ok ⟨vs'.take (k * sz)⟩ w2 := by
  unfold srcA at h
  split at h
  · cases h
    simp only [VR] at hx
    obtain ⟨_, _, aa, rfl, _⟩ := hx
    refine ⟨fun _ => rfl, by simp, [], by simp [VRs], fun k hk w2 _ => ?_⟩
    have : k = 0 := by omega
    subst this
    cases aa <;> simp [Builtin.firstCells, loadCells, loadCellsFrom]
  · rename_i a s len cap ex
    split at h
    · obtain ⟨cs, hcs, e⟩ := Option.map_eq_some_iff.1 h
      cases e
      simp only [VR, SR] at hx
      obtain ⟨ci, off, cap', hci, rfl, hlc, hcc, _, _, hoff⟩ := hx
      obtain ⟨vs', h1, h2, h3, h4⟩ := ldCells_sound (P := P) hm hci hcs
      refine ⟨fun _ => rfl, h3, vs', h2, fun k hk w2 hw2 => ?_⟩
      by_cases hl : n = 0
      · subst hl
        have : k = 0 := by omega
        subst this
        simp [Builtin.firstCells, loadCells, loadCellsFrom]
      · have e : off = a.o + ci.d := hoff (by omega)
        subst e
        have hlen := h2.length
        have hk2 : k * sz ≤ n * sz := Nat.mul_le_mul_right _ hk
        have := run_firstCells_some (P := P) w2 sz k ⟨ci.c, a.o + ci.d, none⟩ n cap' (vs'.take (k * sz)) (by simp; omega) (fun j v hj => by
          rw [← h4 j v (by rw [List.getElem?_take] at hj; split at hj <;> first | exact hj | simp at hj)]
          simp only [World.cell?, hw2])
        simpa using this
    · simp at h
  · rename_i s
    split at h
    case isFalse => simp at h
    rename_i hs1; subst hs1
    cases h
    simp only [VR] at hx; subst hx
    refine ⟨fun _ => rfl, by simp, s.map fun c => .int .u8 c.toNat, ?_, fun k hk w2 _ => ?_⟩
    · refine VRs.of_get (by simp) fun i a hi => ?_
      simp only [List.getElem?_map, Option.map_eq_some_iff] at hi ⊢
      obtain ⟨c, hc, rfl⟩ := hi
      exact ⟨_, ⟨c, hc, rfl⟩, by simp [VR]⟩
    · simp only [Builtin.firstCells, Sem.run_pure]
      congr 1
      apply Array.ext'
      rw [show (ByteArray.mk ⟨s⟩) = ByteArray.mk s.toArray from rfl, ByteArray.extract_mk]
      simp [List.map_take]
  · simp at h

theorem flat_get {α : Type} (zs : List α) : ∀ (k i : Nat), i < k * zs.length → (List.replicate k zs).flatten[i]? = zs[i % zs.length]?
  | 0, i, h => by simp at h
  | k + 1, i, h => by
    rw [List.replicate_succ, List.flatten_cons]
    by_cases hi : i < zs.length
    · rw [List.getElem?_append_left hi, Nat.mod_eq_of_lt hi]
    · rw [List.getElem?_append_right (by omega), flat_get zs k (i - zs.length) (by rw [Nat.add_mul] at h; omega)]
      congr 1
      have hle : zs.length ≤ i := by omega
      conv => rhs; rw [← Nat.sub_add_cancel hle]
      simp

theorem zeros_eq (zs : List Value) (k : Nat) : (Array.range (k * zs.length)).map ((⟨zs⟩ : Array Value)[· % zs.length]!) = ⟨(List.replicate k zs).flatten⟩ := by
  apply Array.ext'
  apply List.ext_getElem?
  intro i
  simp only [Array.toList_map, List.getElem?_map, Array.toList_range]
  by_cases hi : i < k * zs.length
  · rw [flat_get zs k i hi]
    have h0 : 0 < zs.length := by
      rcases Nat.eq_zero_or_pos zs.length with h | h
      · rw [h] at hi; simp at hi
      · exact h
    have hm : i % zs.length < zs.length := Nat.mod_lt _ h0
    rw [List.getElem?_range hi]
    simp [hm]
  · rw [List.getElem?_eq_none (by simpa using hi), List.getElem?_eq_none (by simp; omega)]
    rfl

theorem erase_mid {α : Type} (y : α) (e2 : List α) : ∀ e1 : List α, (e1 ++ y :: e2).eraseIdx e1.length = e1 ++ e2
  | [] => rfl
  | x :: e1 => by simp [erase_mid y e2 e1]
theorem ER.of_perm : ∀ {ces es : List MapEntry}, ces.Perm es → ∀ {l : List (AV × AV)}, ER p l ces → ∃ l', l'.Perm l ∧ ER p l' es := by
  intro ces es hp
  induction hp with
  | nil => intro l h; exact ⟨l, .refl _, h⟩
  | cons x _ ih =>
    intro l h
    cases l with
    | nil => simp [ER] at h
    | cons y l =>
      obtain ⟨k, v⟩ := y
      simp only [ER] at h
      obtain ⟨e, es', he, h1, h2, h3⟩ := h
      cases he
      obtain ⟨l', h4, h5⟩ := ih h3
      exact ⟨(k, v) :: l', h4.cons _, by simp only [ER]; exact ⟨_, _, rfl, h1, h2, h5⟩⟩
  | swap x y _ =>
    intro l h
    cases l with
    | nil => simp [ER] at h
    | cons z l =>
      obtain ⟨k, v⟩ := z
      simp only [ER] at h
      obtain ⟨e, es', he, h1, h2, h3⟩ := h
      cases he
      cases l with
      | nil => simp [ER] at h3
      | cons z l =>
        obtain ⟨k2, v2⟩ := z
        simp only [ER] at h3
        obtain ⟨e2, es2, he, h4, h5, h6⟩ := h3
        cases he
        exact ⟨(k2, v2) :: (k, v) :: l, .swap _ _ _, by simp only [ER]; exact ⟨_, _, rfl, h4, h5, _, _, rfl, h1, h2, h6⟩⟩
  | trans _ _ ih1 ih2 =>
    intro l h
    obtain ⟨l1, h1, h2⟩ := ih1 h
    obtain ⟨l2, h3, h4⟩ := ih2 h2
    exact ⟨l2, h3.trans h1, h4⟩
theorem mset_sound {d : TypeDesc} {k v : AV} {c cv : Value} (hk : VR p k c) (hv : VR p v cv) : ∀ {l : List (AV × AV)} {ces : List MapEntry} {u : AV}, ER p l ces → mget d k l = some (some u) →
    ∃ e1 x e2, ces = e1 ++ x :: e2 ∧ (∀ e ∈ e1, Instr.sameNow d c e.key = some false) ∧ (∀ e ∈ e2, Instr.sameNow d c e.key = some false) ∧ Instr.sameNow d c x.key = some true ∧ ER p (mset d k v l) (e1 ++ { x with key := c, val := cv } :: e2)
  | [], ces, u, h, e => by simp [mget] at e
  | (k', v') :: l, ces, u, h, e => by
    simp only [ER] at h
    obtain ⟨x, xs, rfl, h1, h2, h3⟩ := h
    simp only [mget] at e
    split at e
    · rename_i e1 e2
      obtain ⟨_, g2, _⟩ := mget_all hk h3 e2
      refine ⟨[], x, xs, rfl, by simp, g2 rfl, keyEq_sound hk h1 e1, ?_⟩
      have hrest : ∀ {l : List (AV × AV)} , mget d k l = some none → mset d k v l = l := by
        intro l
        induction l with
        | nil => intro _; rfl
        | cons y l ih =>
          obtain ⟨k2, v2⟩ := y
          intro h
          simp only [mget] at h
          split at h
          · cases h
          · rename_i f1 f2
            cases h
            have := ih f2
            unfold mset at this ⊢
            simp only [List.map_cons, f1]
            rw [this]; simp
          · cases h
      simp only [List.nil_append, mset, List.map_cons, e1, if_true, ER]
      refine ⟨_, _, rfl, hk, hv, ?_⟩
      have := hrest e2
      unfold mset at this
      rw [this]; exact h3
    · rename_i r' e1 e2
      cases e
      obtain ⟨l1, y, l2, rfl, f1, f2, f3, f4⟩ := mset_sound hk hv h3 e2
      refine ⟨x :: l1, y, l2, rfl, fun z hz => ?_, f2, f3, ?_⟩
      · rcases List.mem_cons.1 hz with rfl | hz
        · exact keyEq_sound hk h1 e1
        · exact f1 z hz
      · have : (some false : Option Bool) = some true ↔ False := by simp
        simp only [List.cons_append, mset, List.map_cons, e1, this, if_false, ER]
        exact ⟨_, _, rfl, h1, h2, f4⟩
    · cases e
theorem mdel_sound {d : TypeDesc} {k : AV} {c : Value} (hk : VR p k c) : ∀ {l : List (AV × AV)} {ces : List MapEntry} {u : AV}, ER p l ces → mget d k l = some (some u) →
    ∃ e1 x e2, ces = e1 ++ x :: e2 ∧ (∀ e ∈ e1, Instr.sameNow d c e.key = some false) ∧ (∀ e ∈ e2, Instr.sameNow d c e.key = some false) ∧ Instr.sameNow d c x.key = some true ∧ ER p (l.filter fun e => !(keyEq d k e.1 == some true)) (e1 ++ e2)
  | [], ces, u, h, e => by simp [mget] at e
  | (k', v') :: l, ces, u, h, e => by
    simp only [ER] at h
    obtain ⟨x, xs, rfl, h1, h2, h3⟩ := h
    simp only [mget] at e
    split at e
    · rename_i e1 e2
      obtain ⟨_, g2, _⟩ := mget_all hk h3 e2
      refine ⟨[], x, xs, rfl, by simp, g2 rfl, keyEq_sound hk h1 e1, ?_⟩
      have hrest : ∀ {l : List (AV × AV)} , mget d k l = some none → (l.filter fun e => !(keyEq d k e.1 == some true)) = l := by
        intro l
        induction l with
        | nil => intro _; rfl
        | cons y l ih =>
          obtain ⟨k2, v2⟩ := y
          intro h
          simp only [mget] at h
          split at h
          · cases h
          · rename_i f1 f2
            cases h
            rw [List.filter_cons, if_pos (by simp [f1]), ih f2]
          · cases h
      rw [List.filter_cons, if_neg (by simp [e1]), hrest e2]
      exact h3
    · rename_i r' e1 e2
      cases e
      obtain ⟨l1, y, l2, rfl, f1, f2, f3, f4⟩ := mdel_sound hk h3 e2
      refine ⟨x :: l1, y, l2, rfl, fun z hz => ?_, f2, f3, ?_⟩
      · rcases List.mem_cons.1 hz with rfl | hz
        · exact keyEq_sound hk h1 e1
        · exact f1 z hz
      · rw [List.filter_cons, if_pos (by simp [e1])]
        simp only [List.cons_append, ER]
        exact ⟨_, _, rfl, h1, h2, f4⟩
    · cases e
theorem mset_perm {d : TypeDesc} {k v : AV} {l es : List (AV × AV)} (h : l.Perm es) : (mset d k v l).Perm (mset d k v es) := h.map _
theorem mget_none_new {k v : AV} {c cv : Value} (hk : VR p k c) (hv : VR p v cv) {l : List (AV × AV)} {ces : List MapEntry} (h : ER p l ces) (n : Nat) : ER p (l ++ [(k, v)]) (ces ++ [{ key := c, val := cv, born := n }]) := by
  induction l generalizing ces with
  | nil => simp only [ER] at h; subst h; simp only [List.nil_append, ER]; exact ⟨_, _, rfl, hk, hv, rfl⟩
  | cons x l ih =>
    obtain ⟨k', v'⟩ := x
    simp only [ER] at h
    obtain ⟨e, es, rfl, h1, h2, h3⟩ := h
    simp only [List.cons_append, ER]
    exact ⟨_, _, rfl, h1, h2, ih h3⟩
theorem modify_mid {α : Type} (f : α → α) (y : α) (e2 : List α) : ∀ e1 : List α, (e1 ++ y :: e2).modify e1.length f = e1 ++ f y :: e2
  | [] => rfl
  | x :: e1 => by simp [modify_mid f y e2 e1]
theorem sameBits_int (k : IntKind) (n : Int) : Instr.sameBits 10000 (.int k n) (.int k n) = true := by simp [Instr.sameBits]
theorem sameBits_str (s : List UInt8) : Instr.sameBits 10000 (.string ⟨⟨s⟩⟩) (.string ⟨⟨s⟩⟩) = true := by
  simp only [Instr.sameBits]
  rw [str_beq]; simp
theorem sameNow_eq {d : TypeDesc} {k : AV} {c x : Value} {bb : Bool} (hk : VR p k c) (e : keyEq d k k = some bb) (h : Instr.sameNow d c x = some true) : x = c ∧ Instr.sameBits 10000 x c = true := by
  unfold keyEq at e
  split at e
  · simp only [VR] at hk; subst hk
    split at e
    · cases x <;> simp only [Instr.sameNow] at h <;> first | (cases h; done) | skip
      split at h
      · rename_i e1; subst e1
        have h' := beq_iff_eq.1 (Option.some.inj h)
        subst h'
        exact ⟨rfl, sameBits_int _ _⟩
      · cases h
    · cases e
  · simp only [VR] at hk; subst hk
    split at e
    · cases x <;> simp only [Instr.sameNow] at h <;> first | (cases h; done) | skip
      rename_i t
      obtain ⟨⟨t⟩⟩ := t
      simp only [Option.some.injEq] at h
      rw [str_beq] at h
      have := beq_iff_eq.1 h
      subst this
      exact ⟨rfl, sameBits_str _⟩
    · cases e
  · cases e

theorem turn_map (hm : MR P p m w) {b : Nat} {ci : CI} {es es' : List (AV × AV)} (hb : m.get b = some (.map es)) (hp : p b = some ci) {ces ces' : Array MapEntry} {clock clock' : Nat} (hc : w.heap[ci.c]? = some (.map ces clock))
    (hl : ∃ l, l.Perm es' ∧ ER p l ces'.toList) (hn : (ces'.toList.map (·.born)).Nodup) (hlt : ∀ e ∈ ces'.toList, e.born < clock') :
    Sim P p m w p (m.put b (some (.map es'))) { w with heap := w.heap.setIfInBounds ci.c (.map ces' clock') } := by
  have hlt2 := (Array.getElem?_eq_some_iff.1 hc).1
  refine Sim.turnV hm hb (by simp) hp (o := .map ces' clock') (Array.getElem?_setIfInBounds_self_of_lt hlt2) (fun c hc => ?_) (by simp) rfl rfl rfl fun x hx => ?_
  · exact Array.getElem?_setIfInBounds_ne (Ne.symm hc)
  · cases hx; exact ⟨ces', clock', rfl, hl, hn, hlt⟩

theorem mapPut_sound (hm : MR P p m w) {t : TypeId} {x k v : AV} {x' k' v' : Value} (hx : VR p x x') (hk : VR p k k') (hv : VR p v v') {m' : Mem} (h : mapPut P t x k v m = some m') :
    ∃ w', (Instr.mapUpdate t x' k' v').run P w = .ok () w' ∧ Sim P p m w p m' w' := by
  unfold mapPut at h
  split at h
  · rename_i key elem b hd
    obtain ⟨d, h1, h⟩ := Option.bind_eq_some_iff.1 h
    split at h
    · rename_i es hb
      obtain ⟨bb, h3, h⟩ := Option.bind_eq_some_iff.1 h
      obtain ⟨es', h4, rfl⟩ := Option.map_eq_some_iff.1 h
      simp only [VR] at hx
      obtain ⟨ci, hp, rfl⟩ := hx
      obtain ⟨o, hc, ces, clock, rfl, ⟨l, h6, h7⟩, h8, h9⟩ := hm.has b _ ci hb hp
      obtain ⟨ces', q1, q2⟩ := h7.perm h6
      have hkind := (keyEq_kind hk h3).1
      unfold mput at h4
      split at h4
      · rename_i hg
        cases h4
        obtain ⟨g1, g2, _⟩ := mget_all hk q2 hg
        have hn : Instr.findNow d k' ces.toList 0 = some none := findNow_none fun e he => g2 rfl e (q1.mem_iff.1 he)
        refine ⟨_, ?_, turn_map hm hb hp hc (ces' := ces.push { key := k', val := v', born := clock }) (clock' := clock + 1) ?_ ?_ ?_⟩
        · simp only [Instr.mapUpdate, Sem.run_bind, run_under hd, Result.andThen_ok, run_getObj hc (by simp), run_checkKey h1 hkind, run_findKey h1 hn]
          rw [run_setObj hc (by simp)]
        · refine ⟨l ++ [(k, v)], (h6.append_right _).trans (mins_perm k v es), ?_⟩
          simp only [Array.toList_push]
          exact mget_none_new hk hv h7 clock
        · simp only [Array.toList_push, List.map_append, List.map_cons, List.map_nil]
          rw [List.nodup_append]
          refine ⟨h8, by simp, ?_⟩
          intro a ha c hc
          simp only [List.mem_singleton] at hc
          subst hc
          obtain ⟨e, he, rfl⟩ := List.mem_map.1 ha
          have := h9 e he
          omega
        · intro e he
          simp only [Array.toList_push, List.mem_append, List.mem_singleton] at he
          rcases he with he | rfl
          · have := h9 e he; omega
          · simp
      · rename_i u hg
        cases h4
        obtain ⟨l1, y, l2, rfl, f1, f2, f3, f4⟩ := mset_sound hk hv q2 hg
        obtain ⟨e1, e2, he, hpp, q3, q4⟩ := split_perm f1 f2 q1
        have hs : Instr.findNow d k' ces.toList 0 = some (some (0 + e1.length, y.val)) := by rw [he]; exact findNow_some f3 q3
        have hy := sameNow_eq hk h3 f3
        have hce : ces = ⟨e1 ++ y :: e2⟩ := by apply Array.ext'; exact he
        subst hce
        have hget : ((⟨e1 ++ y :: e2⟩ : Array MapEntry)[0 + e1.length]?) = some y := by simp
        refine ⟨_, ?_, turn_map hm hb hp hc (ces' := ⟨e1 ++ { y with key := k', val := v' } :: e2⟩) (clock' := clock) ?_ ?_ ?_⟩
        · simp only [Instr.mapUpdate, Sem.run_bind, run_under hd, Result.andThen_ok, run_getObj hc (by simp), run_checkKey h1 hkind, run_findKey h1 hs]
          simp only [hget, Option.map_some, Option.getD_some, Instr.keyThatStays, hy.2, if_true, Sem.run_pure, Result.andThen_ok]
          rw [run_setObj hc (by simp)]
          congr 3
          congr 1
          apply Array.ext'
          simp only [Array.toList_modify, Nat.zero_add]
          exact modify_mid _ _ _ _
        · exact ER.of_perm ((List.perm_middle (l₁ := l1)).trans (((hpp.symm).cons _).trans (List.perm_middle (l₁ := e1)).symm)) f4
        · simpa using h8
        · intro e he
          simp only [List.mem_append, List.mem_cons] at he h9
          rcases he with he | rfl | he
          · exact h9 e (.inl he)
          · exact h9 y (.inr (.inl rfl))
          · exact h9 e (.inr (.inr he))
      · cases h4
    · cases h
  · cases h

theorem mapDel_sound (hm : MR P p m w) {t : TypeId} {x k : AV} {x' k' : Value} (hx : VR p x x') (hk : VR p k k') {m' : Mem} (h : mapDel P t x k m = some m') {ty : TypeId} {ts : List TypeId} :
    ∃ w', (Builtin.delete_ ⟨t :: ts⟩ ty #[x', k']).run P w = .ok (.tuple #[]) w' ∧ Sim P p m w p m' w' := by
  unfold mapDel at h
  split at h
  · rename_i key elem b hd
    obtain ⟨d, h1, h⟩ := Option.bind_eq_some_iff.1 h
    split at h
    · rename_i es hb
      obtain ⟨bb, h3, h⟩ := Option.bind_eq_some_iff.1 h
      obtain ⟨es', h4, rfl⟩ := Option.map_eq_some_iff.1 h
      simp only [VR] at hx
      obtain ⟨ci, hp, rfl⟩ := hx
      obtain ⟨o, hc, ces, clock, rfl, ⟨l, h6, h7⟩, h8, h9⟩ := hm.has b _ ci hb hp
      obtain ⟨ces', q1, q2⟩ := h7.perm h6
      have hkind := (keyEq_kind hk h3).1
      unfold mdel at h4
      split at h4
      · rename_i r hg
        cases h4
        cases r with
        | none =>
          obtain ⟨g1, g2, _⟩ := mget_all hk q2 hg
          have hn : Instr.findNow d k' ces.toList 0 = some none := findNow_none fun e he => g2 rfl e (q1.mem_iff.1 he)
          have hrest : ∀ {l : List (AV × AV)} , mget d k l = some none → (l.filter fun e => !(keyEq d k e.1 == some true)) = l := by
            intro l
            induction l with
            | nil => intro _; rfl
            | cons y l ih =>
              obtain ⟨k2, v2⟩ := y
              intro h
              simp only [mget] at h
              split at h
              · cases h
              · rename_i f1 f2
                cases h
                rw [List.filter_cons, if_pos (by simp [f1]), ih f2]
              · cases h
          refine ⟨_, ?_, turn_map hm hb hp hc (ces' := ces) (clock' := clock) (by rw [hrest hg]; exact ⟨l, h6, h7⟩) h8 h9⟩
          simp only [Builtin.delete_, List.getElem?_toArray, List.getElem?_cons_zero, List.getElem?_cons_succ, Sem.run_bind, run_under hd, Result.andThen_ok, run_getObj hc (by simp), run_checkKey h1 hkind, run_findKey h1 hn]
          rw [run_setObj hc (by simp)]
          rfl
        | some u =>
          obtain ⟨l1, y, l2, rfl, f1, f2, f3, f4⟩ := mdel_sound hk q2 hg
          obtain ⟨e1, e2, he, hpp, q3, q4⟩ := split_perm f1 f2 q1
          have hs : Instr.findNow d k' ces.toList 0 = some (some (0 + e1.length, y.val)) := by rw [he]; exact findNow_some f3 q3
          have hce : ces = ⟨e1 ++ y :: e2⟩ := by apply Array.ext'; exact he
          subst hce
          have her : (⟨e1 ++ y :: e2⟩ : Array MapEntry).eraseIdxIfInBounds (0 + e1.length) = ⟨e1 ++ e2⟩ := by
            apply Array.ext'
            simp [Array.eraseIdxIfInBounds, erase_mid]
          refine ⟨_, ?_, turn_map hm hb hp hc (ces' := ⟨e1 ++ e2⟩) (clock' := clock) (ER.of_perm hpp.symm f4) ?_ ?_⟩
          · simp only [Builtin.delete_, List.getElem?_toArray, List.getElem?_cons_zero, List.getElem?_cons_succ, Sem.run_bind, run_under hd, Result.andThen_ok, run_getObj hc (by simp), run_checkKey h1 hkind, run_findKey h1 hs, her]
            rw [run_setObj hc (by simp)]
            rfl
          · simp only [List.map_append, List.map_cons] at h8 ⊢
            exact h8.sublist (List.Sublist.append_left (List.sublist_cons_self _ _) _)
          · intro e he
            simp only [List.mem_append, List.mem_cons] at he h9
            rcases he with he | he
            · exact h9 e (.inl he)
            · exact h9 e (.inr (.inr he))
      · cases h4
    · cases h
  · cases h

theorem clearA_sound (hm : MR P p m w) {t : TypeId} {x : AV} {x' : Value} (hx : VR p x x') {m' : Mem} (h : clearA P t x m = some m') {ty : TypeId} {ts : List TypeId} :
    ∃ w', (Builtin.clear_ ⟨t :: ts⟩ ty #[x']).run P w = .ok (.tuple #[]) w' ∧ Sim P p m w p m' w' := by
  unfold clearA at h
  split at h
  · rename_i e hd
    split at h
    · cases h
      simp only [VR] at hx
      obtain ⟨_, _, aa, rfl, _⟩ := hx
      exact ⟨w, by cases aa <;> simp [Builtin.clear_, run_under hd], Sim.refl hm⟩
    · rename_i a sz len _ ex
      obtain ⟨zs, h1, h⟩ := Option.bind_eq_some_iff.1 h
      obtain ⟨n, h2, h⟩ := Option.bind_eq_some_iff.1 h
      simp only [VR, SR] at hx
      obtain ⟨ci, off, cap', hci, rfl, hlc, hcc, hex, hbd, hoff⟩ := hx
      split at h
      · rename_i h0
        cases h; subst h0
        exact ⟨w, by simp [Builtin.clear_, run_under hd], Sim.refl hm⟩
      · rename_i h0
        split at h
        · rename_i hs
          obtain ⟨z, zs', g1, g2, g3, g4, _⟩ := zeroA_sound (p := p) (w := w) h1
          have hall : (List.replicate len zs).flatten.all AV.one = true := by
            rw [List.all_eq_true] at g4 ⊢
            intro v hv
            simp only [List.mem_flatten, List.mem_replicate] at hv
            obtain ⟨l, ⟨_, rfl⟩, hv⟩ := hv
            exact g4 v hv
          obtain ⟨w', f1, f2⟩ := stCells_sound (P := P) hm hci (g3.flat len) hall h
          refine ⟨w', ?_, f2⟩
          have ho : off = a.o + ci.d := hoff (by omega)
          subst ho
          have hlen : len ≠ 0 := h0
          have hz0 : (Builtin.zeroCells (⟨zs'⟩ : Array Value) len).toList = (List.replicate len zs').flatten := by
            have := zeros_eq zs' len
            unfold Builtin.zeroCells
            simp only [List.size_toArray] at this ⊢
            rw [this]
          simp only [Builtin.clear_, List.getElem?_toArray, List.getElem?_cons_zero, Sem.run_bind, run_under hd, Result.andThen_ok]
          have : (storeCells ⟨ci.c, a.o + ci.d, none⟩ (Builtin.zeroCells z.cells len).toList).run P w = .ok () w' := by
            rw [g2, hz0]; exact f1
          simp only [g1, Result.andThen_ok, this]
          rfl
        · cases h
    · cases h
  · cases h

theorem mapPut_next {t : TypeId} {x k v : AV} {m' : Mem} (h : mapPut P t x k v m = some m') : m'.next = m.next := by
  unfold mapPut at h
  split at h
  · obtain ⟨d, h1, h⟩ := Option.bind_eq_some_iff.1 h
    split at h
    · obtain ⟨bb, h3, h⟩ := Option.bind_eq_some_iff.1 h
      obtain ⟨es', h4, rfl⟩ := Option.map_eq_some_iff.1 h
      rfl
    · cases h
  · cases h
theorem mapDel_next {t : TypeId} {x k : AV} {m' : Mem} (h : mapDel P t x k m = some m') : m'.next = m.next := by
  unfold mapDel at h
  split at h
  · obtain ⟨d, h1, h⟩ := Option.bind_eq_some_iff.1 h
    split at h
    · obtain ⟨bb, h3, h⟩ := Option.bind_eq_some_iff.1 h
      obtain ⟨es', h4, rfl⟩ := Option.map_eq_some_iff.1 h
      rfl
    · cases h
  · cases h
theorem clearA_next {t : TypeId} {x : AV} {m' : Mem} (h : clearA P t x m = some m') : m'.next = m.next := by
  unfold clearA at h
  split at h
  · split at h
    · cases h; rfl
    · obtain ⟨zs, h1, h⟩ := Option.bind_eq_some_iff.1 h
      obtain ⟨n, h2, h⟩ := Option.bind_eq_some_iff.1 h
      split at h
      · cases h; rfl
      · split at h
        · obtain ⟨_, _, _, rfl⟩ := stCells_spec h; rfl
        · cases h
    · cases h
  · cases h
end
end Go.Abs
end
