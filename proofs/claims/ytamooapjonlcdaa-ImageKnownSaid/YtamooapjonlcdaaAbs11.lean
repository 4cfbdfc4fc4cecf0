/- Operations one by one, and a region in the text's order. -/
import Derived.Test.YtamooapjonlcdaaAbs10
namespace Go.Abs
open Go

section
variable {P : Program}

abbrev GP (P : Program) : Nat := P.globals.size

/-- What a call of a function owes. -/
def FnOk (P : Program) (f : FuncId) (args : List AV) (m : Mem) (r : AV) (m' : Mem) : Prop :=
  m.next ≤ m'.next ∧ ∀ (p : Phi) (w : World) (cargs : List Value), MR (GP P) p m w → GP P ≤ m.next → Free p m.next m'.next → VRs p args cargs →
    (∃ fn, P.funcs[f]? = some fn ∧ fn.body.isSome = true ∧ fn.name ≠ "runtime.NumGoroutine" ∧
      Calls P f ⟨cargs⟩ w fun e w' => ∃ cv p', e = .returned cv ∧ VR p' r cv ∧ Sim (GP P) p m w p' m' w') ∨
    (∃ cv w' p', (callFunc f ⟨cargs⟩).run P w = .ok (.value cv) w' ∧ VR p' r cv ∧ Sim (GP P) p m w p' m' w')

def CallOk (P : Program) (call : CallF) : Prop := ∀ f args m r m', call f args m = some (r, m') → FnOk P f args m r m'

/-- What one operation owes. -/
def OpOk (P : Program) (o : Oper) (t : List AV) (m : Mem) (v : AV) (m' : Mem) : Prop :=
  m.next ≤ m'.next ∧ ∀ (p : Phi) (a : Act) (w : World) (next : Act → World → Prop) (Q : Exit → Act → World → Prop), MR (GP P) p m w → GP P ≤ m.next → Free p m.next m'.next → VRs p t a.tmps.toList →
    (∀ p' cv w', VR p' v cv → Sim (GP P) p m w p' m' w' → next (a.put o.dst cv) w') → o.wp P a w next Q

theorem OpOk.of_value {o : Oper} {t : List AV} {m : Mem} {v : AV} {m' : Mem} (h0 : m.next ≤ m'.next)
    (h : ∀ (p : Phi) (a : Act) (w : World), MR (GP P) p m w → GP P ≤ m.next → Free p m.next m'.next → VRs p t a.tmps.toList →
      ∃ cv w' p', ((execOp a.eval o).run P w = .ok (.value cv) w' ∨ ((execOp a.eval o).run P w = .ok .skip w' ∧ cv = undef)) ∧ VR p' v cv ∧ Sim (GP P) p m w p' m' w') : OpOk P o t m v m' := by
  refine ⟨h0, fun p a w next Q hm hG hf ht hn => ?_⟩
  obtain ⟨cv, w', p', h1, h2, h3⟩ := h p a w hm hG hf ht
  unfold Oper.wp
  rcases h1 with h1 | ⟨h1, rfl⟩
  · rw [h1]; exact hn p' cv w' h2 h3
  · rw [h1]; exact hn p' undef w' h2 h3

theorem OpOk.pure {o : Oper} {t : List AV} {m : Mem} {v : AV} (h : pureOp P o.op t = some v) : OpOk P o t m v m :=
  .of_value (Nat.le_refl _) fun p _a w hm _ _ ht =>
    let ⟨cv, h1, h2⟩ := pure_sound (w := w) ht hm.glob h
    ⟨cv, w, p, .inl h1, h2, Sim.refl hm⟩

theorem OpOk.read {o : Oper} {t : List AV} {m : Mem} {v : AV} (hc : cls P o.op = .r) (h : readOp P o.op t m = some v) : OpOk P o t m v m :=
  .of_value (Nat.le_refl _) fun p _a w hm _ _ ht =>
    let ⟨cv, h1, h2⟩ := read_sound hm ht hc h
    ⟨cv, w, p, .inl h1, h2, Sim.refl hm⟩

theorem OpOk.alloc {o : Oper} {t : List AV} {m : Mem} {cs : List AV} {mk : Nat → AV} (hc : cls P o.op = .a) (h : allocOp P o.op t = some (cs, mk)) : OpOk P o t m (mk m.next) (m.alloc cs) :=
  .of_value (by simp) fun p a w hm hG hf ht => by
    obtain ⟨cv, w', arr, el, fr, h1, h2⟩ := alloc_spec ht hm.glob hc h w
    exact ⟨cv, w', _, .inl h1, h2.value _ _ (by simp), Sim.alloc hm hG (hf _ (Nat.le_refl _) (by simp)) h2.heap h2.os h2.output h2.tape h2.free h2.cells⟩

/-- A call through a value. -/
theorem callA_sound {call : CallF} (hcall : CallOk P call) {o : Oper} {f : Operand} {xs : List Operand} {ts : Array TypeId} (ho : o.op = .call { callee := .value f, args := ⟨xs⟩, argTypes := ts })
    {t : List AV} {m : Mem} {fv : AV} {as : List AV} {r : AV} {m' : Mem} (hf : ev P t f = some fv) (ha : evs P t xs = some as) (h : callA call fv as m = some (r, m')) : OpOk P o t m r m' := by
  unfold callA at h
  split at h
  · rename_i g first cap
    obtain ⟨h0, hfn⟩ := hcall _ _ _ _ _ h
    refine ⟨h0, fun p a w next Q hm hG hfree ht hn => ?_⟩
    have hfv := ev_VR ht hm.glob hf
    have has := evs_VRs ht hm.glob ha
    simp only [VR] at hfv
    obtain ⟨first', cap', hfe, h1, h2⟩ := hfv
    have hrun : (execOp a.eval o).run P w = (callFunc g ⟨first' ++ xs.map a.eval ++ cap'⟩).run P w := by
      simp only [execOp, ho, resolve, hfe, Deferred.ofValue, Sem.run_bind, Sem.run_pure, Result.andThen_ok, invoke]
      congr 2
      simp
    unfold Oper.wp
    rw [hrun]
    rcases hfn p w _ hm hG hfree ((h1.append has).append h2) with ⟨fn, g1, g2, g3, g4⟩ | ⟨cv, w', p', g1, g2, g3⟩
    · have : (callFunc g ⟨first' ++ xs.map a.eval ++ cap'⟩).run P w = .ok (.enter g ⟨first' ++ xs.map a.eval ++ cap'⟩) w := by
        have hb : fn.body.isNone = false := by cases hbb : fn.body <;> simp [hbb] at g2 ⊢
        have hn2 : (fn.name == "runtime.NumGoroutine") = false := by simpa using g3
        simp only [callFunc, Sem.run_bind, run_program, Result.andThen_ok, g1, hn2, hb, Bool.false_eq_true, if_false, Sem.run_pure]
      rw [this, Oper.upon_enter]
      refine g4.mono ?_
      rintro e w' ⟨cv, p', rfl, k1, k2⟩
      exact hn p' cv w' k1 k2
    · rw [g1]; exact hn p' cv w' g2 g3
  · simp at h

/-- Memory changed, or a call. -/
theorem effK_sound {call : CallF} (hcall : CallOk P call) {o : Oper} {t : List AV} {m : Mem} {K : AV → Mem → R} {r : AV × Mem} (h : effK call P o.op t m K = some r) :
    ∃ v m', K v m' = some r ∧ OpOk P o t m v m' := by
  have ho : ∃ op, o.op = op := ⟨_, rfl⟩
  obtain ⟨op, ho⟩ := ho
  rw [ho] at h
  unfold effK at h
  split at h
  · -- a store
    rename_i s ao vo
    obtain ⟨x, h1, h⟩ := Option.bind_eq_some_iff.1 h
    obtain ⟨y, h2, h⟩ := Option.bind_eq_some_iff.1 h
    obtain ⟨n, h3, h⟩ := Option.bind_eq_some_iff.1 h
    obtain ⟨m', h4, h⟩ := Option.bind_eq_some_iff.1 h
    have hnext : m'.next = m.next := by
      unfold stV at h4
      split at h4
      · split at h4
        · split at h4
          · obtain ⟨_, _, _, rfl⟩ := stCells_spec h4; rfl
          · simp at h4
        · simp at h4
      · simp at h4
    refine ⟨.undef, m', h, .of_value (by omega) fun p a w hm hG hf ht => ?_⟩
    obtain ⟨w', h5, h6⟩ := stV_sound (P := P) hm (ev_VR ht hm.glob h1) (ev_VR ht hm.glob h2) h3 h4
    exact ⟨undef, w', p, .inr ⟨by simp [execOp, ho, h5], rfl⟩, by simp [VR], h6⟩
  · -- append
    rename_i so xo st xt
    obtain ⟨nw, h1, h⟩ := Option.bind_eq_some_iff.1 h
    obtain ⟨s, h2, h⟩ := Option.bind_eq_some_iff.1 h
    obtain ⟨x, h3, h⟩ := Option.bind_eq_some_iff.1 h
    obtain ⟨⟨v, m'⟩, h4, h⟩ := Option.bind_eq_some_iff.1 h
    have hnext : m.next ≤ m'.next := by
      unfold appendA at h4
      split at h4
      · simp at h4
      · split at h4
        · simp at h4
        · split at h4
          · split at h4
            · cases h4; exact Nat.le_refl _
            · split at h4
              · cases h4; simp
              · simp at h4
          · split at h4
            · split at h4
              · obtain ⟨m1, h5, e⟩ := Option.map_eq_some_iff.1 h4
                cases e
                obtain ⟨_, _, _, rfl⟩ := stCells_spec h5; simp
              · split at h4
                · split at h4
                  · split at h4
                    · cases h4; simp
                    · split at h4
                      · cases h4; simp
                      · simp at h4
                  · simp at h4
                · simp at h4
            · simp at h4
          · simp at h4
    refine ⟨v, m', h, .of_value hnext fun p a w hm hG hf ht => ?_⟩
    obtain ⟨cv, w', p', h5, h6, h7⟩ := appendA_sound (P := P) (ty := o.type) hm hG h1 (ev_VR ht hm.glob h2) (ev_VR ht hm.glob h3) hf h4
    refine ⟨cv, w', p', .inl ?_, h6, h7⟩
    simp only [execOp, ho]
    rw [builtin_call]
    simp only [builtin, List.map_cons, List.map_nil, Sem.run_bind]
    rw [show (⟨[a.eval so, a.eval xo]⟩ : Array Value) = #[a.eval so, a.eval xo] from rfl, show (⟨[st, xt]⟩ : Array TypeId) = #[st, xt] from rfl, h5]
    rfl
  · -- copy
    rename_i so xo st ts
    obtain ⟨n, h1, h⟩ := Option.bind_eq_some_iff.1 h
    obtain ⟨d, h2, h⟩ := Option.bind_eq_some_iff.1 h
    obtain ⟨x, h3, h⟩ := Option.bind_eq_some_iff.1 h
    obtain ⟨⟨v, m'⟩, h4, h⟩ := Option.bind_eq_some_iff.1 h
    have hnext : m'.next = m.next := by
      unfold copyA at h4
      split at h4
      · split at h4
        · cases h4; rfl
        · split at h4
          · split at h4
            · split at h4
              · obtain ⟨m1, h5, e⟩ := Option.map_eq_some_iff.1 h4
                cases e
                obtain ⟨_, _, _, rfl⟩ := stCells_spec h5; rfl
              · simp at h4
            · simp at h4
          · simp at h4
      · simp at h4
    refine ⟨v, m', h, .of_value (by omega) fun p a w hm hG hf ht => ?_⟩
    obtain ⟨cv, w', h5, h6, h7⟩ := copyA_sound (P := P) (ty := o.type) (_xt := st) (ts := ts) hm h1 (ev_VR ht hm.glob h2) (ev_VR ht hm.glob h3) h4
    refine ⟨cv, w', p, .inl ?_, h6, h7⟩
    simp only [execOp, ho]
    rw [builtin_call]
    simp only [builtin, List.map_cons, List.map_nil, Sem.run_bind]
    rw [show (⟨[a.eval so, a.eval xo]⟩ : Array Value) = #[a.eval so, a.eval xo] from rfl, h5]
    rfl
  · -- a call
    rename_i f xs ts
    obtain ⟨fv, h1, h⟩ := Option.bind_eq_some_iff.1 h
    obtain ⟨as, h2, h⟩ := Option.bind_eq_some_iff.1 h
    obtain ⟨⟨v, m'⟩, h3, h⟩ := Option.bind_eq_some_iff.1 h
    exact ⟨v, m', h, callA_sound hcall ho h1 h2 h3⟩
  · simp at h

theorem opK_sound {call : CallF} (hcall : CallOk P call) {o : Oper} {t : List AV} {m : Mem} {K : AV → Mem → R} {r : AV × Mem} (h : opK call P o.op t m K = some r) :
    ∃ v m', K v m' = some r ∧ OpOk P o t m v m' := by
  unfold opK at h
  split at h
  · obtain ⟨v, h1, h⟩ := Option.bind_eq_some_iff.1 h
    exact ⟨v, m, h, .pure h1⟩
  · rename_i hc
    obtain ⟨v, h1, h⟩ := Option.bind_eq_some_iff.1 h
    exact ⟨v, m, h, .read hc h1⟩
  · rename_i hc
    obtain ⟨⟨cs, mk⟩, h1, h⟩ := Option.bind_eq_some_iff.1 h
    exact ⟨mk m.next, m.alloc cs, h, .alloc hc h1⟩
  · exact effK_sound hcall h

/-- Is it wanted? The abstract one and the true one agree. -/
theorem guardA_sound {all : List Oper} {o : Oper} {t : List AV} {sk : List Tmp} {y n : List AV → R} {r : AV × Mem} (h : guardA sk all o t y n = some r) :
    (y t = some r ∧ ∀ (p : Phi) (tmps : Array Value), VRs p t tmps.toList → Region.wanted o (yielded ⟨all⟩ tmps) = true) ∨
    (n t = some r ∧ ∀ (p : Phi) (tmps : Array Value), VRs p t tmps.toList → Region.wanted o (yielded ⟨all⟩ tmps) = false) := by
  replace h := guardA_same h
  unfold guardA0 at h
  split at h
  · rename_i hg
    exact .inl ⟨h, fun p tmps _ => by simp [Region.wanted, hg]⟩
  · rename_i j want hg
    split at h
    · rename_i d hd
      split at h
      · rename_i b hb
        have hy : ∀ (p : Phi) (tmps : Array Value), VRs p t tmps.toList → yielded ⟨all⟩ tmps j = some b := by
          intro p tmps ht
          have : t[d]? = some (.bool b) := by
            cases e : t[d]? with
            | none => rw [List.getD_eq_getElem?_getD, e] at hb; simp at hb
            | some x => rw [List.getD_eq_getElem?_getD, e] at hb; simp at hb; rw [hb]
          obtain ⟨v, h1, h2⟩ := ht.get this
          simp only [VR] at h2; subst h2
          unfold yielded
          have h1' : tmps[d]? = some (.bool b) := by rw [← Array.getElem?_toList]; exact h1
          have hd' : ((⟨all⟩ : Array Oper)[j]?).bind (·.dst) = some d := by simpa using hd
          rw [hd']; simp [h1']
        split at h
        · rename_i hbw
          refine .inl ⟨h, fun p tmps ht => ?_⟩
          simp only [Region.wanted, hg, hy p tmps ht, hbw]
          simp
        · rename_i hbw
          refine .inr ⟨h, fun p tmps ht => ?_⟩
          simp only [Region.wanted, hg, hy p tmps ht]
          simpa using hbw
      · rename_i hb
        refine .inr ⟨h, fun p tmps ht => ?_⟩
        have : t[d]? = some (.tup []) := by
          cases e : t[d]? with
          | none => rw [List.getD_eq_getElem?_getD, e] at hb; simp at hb
          | some x => rw [List.getD_eq_getElem?_getD, e] at hb; simp at hb; rw [hb]
        obtain ⟨v, h1, h2⟩ := ht.get this
        simp only [VR] at h2
        obtain ⟨vs, rfl, h3⟩ := h2
        have hd' : ((⟨all⟩ : Array Oper)[j]?).bind (·.dst) = some d := by simpa using hd
        have h1' : tmps[d]? = some (.tuple ⟨vs⟩) := by rw [← Array.getElem?_toList]; exact h1
        have hy : yielded ⟨all⟩ tmps j = none := by unfold yielded; rw [hd']; simp [h1']
        simp only [Region.wanted, hg, hy]
        rfl
      · simp at h
    · simp at h

theorem VRs.aput {p : Phi} {t : List AV} {a : Act} (h : VRs p t a.tmps.toList) (d : Option Tmp) {v : AV} {cv : Value} (hv : VR p v cv) : VRs p (aput t d v) (a.put d cv).tmps.toList := by
  cases d with
  | none => exact h
  | some d => simp only [Abs.aput, Act.put, Array.toList_setIfInBounds]; exact h.set d hv

theorem put_defers' (a : Act) (d : Option Tmp) (v : Value) : (a.put d v).defers = a.defers := by cases d <;> rfl

/-- What a piece of a region owes. -/
def OpsOk (P : Program) (all : List Oper) (idx : List Nat) (t : List AV) (m : Mem) (t' : List AV) (m' : Mem) : Prop :=
  m.next ≤ m'.next ∧ ∀ (p : Phi) (a : Act) (w : World) (Q : Exit → Act → World → Prop), MR (GP P) p m w → GP P ≤ m.next → Free p m.next m'.next → VRs p t a.tmps.toList →
    (∀ p' a' w', VRs p' t' a'.tmps.toList → a'.defers = a.defers → Sim (GP P) p m w p' m' w' → Q .normal a' w') → wpOps P ⟨all⟩ Q idx a w

theorem OpsOk.cons {all : List Oper} {o : Oper} {i : Nat} (hi : all[i]? = some o) {idx : List Nat} {t : List AV} {m : Mem} {v : AV} {m1 : Mem} {t' : List AV} {m' : Mem}
    (hw : ∀ (p : Phi) (tmps : Array Value), VRs p t tmps.toList → Region.wanted o (yielded ⟨all⟩ tmps) = true) (h : OpOk P o t m v m1) (h' : OpsOk P all idx (aput t o.dst v) m1 t' m') : OpsOk P all (i :: idx) t m t' m' := by
  refine ⟨Nat.le_trans h.1 h'.1, fun p a w Q hm hG hf ht hQ => ?_⟩
  have hi' : (⟨all⟩ : Array Oper)[i]? = some o := by simpa using hi
  simp only [wpOps, hi', hw p a.tmps ht, if_true]
  left
  refine h.2 p a w _ Q hm hG (hf.sub (Nat.le_refl _) h'.1) ht ?_
  intro p1 cv w1 hv hs
  refine h'.2 p1 _ w1 Q hs.rel (Nat.le_trans hG hs.next) (hf.step hs) ((ht.mono hs.le).aput _ hv) ?_
  intro p' a' w' k1 k2 k3
  exact hQ p' a' w' k1 (k2.trans (put_defers' _ _ _)) (hs.trans k3 hf)

theorem OpsOk.skip {all : List Oper} {o : Oper} {i : Nat} (hi : all[i]? = some o) {idx : List Nat} {t : List AV} {m : Mem} {t' : List AV} {m' : Mem}
    (hw : ∀ (p : Phi) (tmps : Array Value), VRs p t tmps.toList → Region.wanted o (yielded ⟨all⟩ tmps) = false) (h' : OpsOk P all idx (aput t o.dst (.tup [])) m t' m') : OpsOk P all (i :: idx) t m t' m' := by
  refine ⟨h'.1, fun p a w Q hm hG hf ht hQ => ?_⟩
  have hi' : (⟨all⟩ : Array Oper)[i]? = some o := by simpa using hi
  simp only [wpOps, hi', hw p a.tmps ht, Bool.false_eq_true, if_false]
  refine h'.2 p _ w Q hm hG hf (ht.aput _ (by simp only [VR]; exact ⟨[], rfl, by simp [VRs]⟩)) ?_
  intro p' a' w' k1 k2 k3
  exact hQ p' a' w' k1 (k2.trans (put_defers' _ _ _)) k3

theorem opsK_sound {call : CallF} (hcall : CallOk P call) {all : List Oper} : ∀ (os : List Oper) (i : Nat), (∀ j, os[j]? = all[i + j]?) → ∀ {sk : List Tmp} {t : List AV} {m : Mem} {K : List AV → Mem → R} {r : AV × Mem}, opsK call P all os sk t m K = some r →
    ∃ t' m', K t' m' = some r ∧ OpsOk P all (List.range' i os.length) t m t' m'
  | [], i, _, _, t, m, K, r, h => ⟨t, m, h, Nat.le_refl _, fun p a w Q hm _ _ ht hQ => hQ p a w ht rfl (Sim.refl hm)⟩
  | o :: os, i, hall, _, t, m, K, r, h => by
    simp only [opsK] at h
    have hi : all[i]? = some o := by have := hall 0; simpa using this.symm
    have hall' : ∀ j, os[j]? = all[i + 1 + j]? := fun j => by
      have := hall (j + 1)
      rw [List.getElem?_cons_succ] at this
      rw [this]; congr 1; omega
    rw [List.length_cons, List.range'_succ]
    rcases guardA_sound h with ⟨h, hw⟩ | ⟨h, hw⟩
    · obtain ⟨v, m1, h1, h2⟩ := opK_sound hcall h
      obtain ⟨t', m', h3, h4⟩ := opsK_sound hcall os (i + 1) hall' h1
      exact ⟨t', m', h3, .cons hi hw h2 h4⟩
    · obtain ⟨t', m', h3, h4⟩ := opsK_sound hcall os (i + 1) hall' h
      exact ⟨t', m', h3, .skip hi hw h4⟩
end
end Go.Abs
