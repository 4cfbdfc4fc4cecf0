/- Operations one by one, and a region in the text's order. -/
import Derived.Test.YtpoafkipnjfioaaGreatAbs10
import Derived.RangeFuncIn
namespace Go.Abs
open Go

section
variable {P : Program}

abbrev GP (P : Program) : Nat := P.globals.size

/-- What a call of a function, or of a round, owes. -/
def FnOk (P : Program) (tg : Tg) (args : List AV) (m : Mem) (r : AV) (m' : Mem) : Prop :=
  m.next ≤ m'.next ∧ ∀ (p : Phi) (w : World) (cargs : List Value), MR P p m w → GP P ≤ m.next → Free p m.next m'.next → VRs p args cargs →
    match tg with
    | .fn f => (∃ fn, P.funcs[f]? = some fn ∧ fn.body.isSome = true ∧ fn.name ≠ "runtime.NumGoroutine" ∧
        Calls P f ⟨cargs⟩ w fun e w' => ∃ cv p', e = .returned cv ∧ VR p' r cv ∧ Sim P p m w p' m' w') ∨
      (∃ cv w' p', (callFunc f ⟨cargs⟩).run P w = .ok (.value cv) w' ∧ VR p' r cv ∧ Sim P p m w p' m' w')
    | .yl b => ∀ ci, p b = some ci → ∃ f tmps assign body, (Instr.yield ci.c ⟨cargs⟩).run P w = .ok (.round ci.c f tmps assign body) w ∧
        ∀ (c : Frame) (cs : List Frame), ∃ cv p' w', VR p' r cv ∧ Sim P p m w p' m' w' ∧ Steps P (lone (Frame.round ci.c f tmps assign body .normal) (c :: cs) w) (lone (c.finish cv) cs w')

def CallOk (P : Program) (call : CallF) : Prop := ∀ tg args m r m', call tg args m = some (r, m') → FnOk P tg args m r m'

/-- What one operation owes. -/
def OpOk (P : Program) (o : Oper) (t : List AV) (m : Mem) (v : AV) (m' : Mem) : Prop :=
  m.next ≤ m'.next ∧ ∀ (p : Phi) (a : Act) (w : World), MR P p m w → GP P ≤ m.next → Free p m.next m'.next → VRs p t a.tmps.toList →
    ∀ (b : Frame) (ops : Array Oper) (i : Nat) (rest : List Nat) (k : List Item) (cs : List Frame), ops[i]? = some o → Region.wanted o (yielded ops a.tmps) = true →
      ∃ cv p' w', VR p' v cv ∧ Sim P p m w p' m' w' ∧ Steps P (lone (b.atR a (.inRegion ops (i :: rest) :: k)) cs w) (lone (b.atR (a.put o.dst cv) (.inRegion ops rest :: k)) cs w')

theorem not_defer {o : Oper} {ρ : Operand → Value} {w w' : World} {n : Next} (h : (execOp ρ o).run P w = .ok n w') (hn : ∀ d, n ≠ .defer d) : ∀ c, o.op ≠ .defer c := by
  intro c hc
  simp only [execOp, hc, Sem.run_bind] at h
  cases e : (resolve ρ c o.type).run P w with
  | ok d w2 => rw [e] at h; simp only [Result.andThen_ok, Sem.run_pure] at h; injection h with h1 h2; exact hn d h1.symm
  | halt x w2 => rw [e] at h; simp at h

section step
variable {b : Frame} {a : Act} {k : List Item} {cs : List Frame} {w w' : World} {ops : Array Oper} {i : Nat} {rest : List Nat} {o : Oper}
theorem step_value {v : Value} (ho : ops[i]? = some o) (hw : Region.wanted o (yielded ops a.tmps) = true) (h : (execOp a.eval o).run P w = .ok (.value v) w') :
    step P (lone (b.atR a (.inRegion ops (i :: rest) :: k)) cs w) = .next (lone (b.atR (a.put o.dst v) (.inRegion ops rest :: k)) cs w') := by
  have hg := stepGR_op (P := P) (b := b) (k := k) (cs := cs) (w := w) (rest := rest) ho hw
  rw [Oper.semAt_eq _ _ _ (not_defer h (by simp))] at hg
  have hfin : (b.atR a (.inRegion ops (i :: rest) :: k)).finish v = b.atR (a.put o.dst v) (.inRegion ops rest :: k) := by rw [Frame.finish_atR, ho]; rfl
  refine step_lone_go ?_
  rw [hg, ← hfin]; simp [stepG.apply, h]
theorem step_skipped (ho : ops[i]? = some o) (hw : Region.wanted o (yielded ops a.tmps) = true) (h : (execOp a.eval o).run P w = .ok .skip w') :
    step P (lone (b.atR a (.inRegion ops (i :: rest) :: k)) cs w) = .next (lone (b.atR (a.put o.dst undef) (.inRegion ops rest :: k)) cs w') := by
  have hg := stepGR_op (P := P) (b := b) (k := k) (cs := cs) (w := w) (rest := rest) ho hw
  rw [Oper.semAt_eq _ _ _ (not_defer h (by simp))] at hg
  have hfin : (b.atR a (.inRegion ops (i :: rest) :: k)).finish undef = b.atR (a.put o.dst undef) (.inRegion ops rest :: k) := by rw [Frame.finish_atR, ho]; rfl
  refine step_lone_go ?_
  rw [hg, ← hfin]; simp [stepG.apply, h]
theorem step_enter {f : FuncId} {args : Array Value} (ho : ops[i]? = some o) (hw : Region.wanted o (yielded ops a.tmps) = true) (h : (execOp a.eval o).run P w = .ok (.enter f args) w') :
    step P (lone (b.atR a (.inRegion ops (i :: rest) :: k)) cs w) = .next (lone (Frame.enter P f args .normal) (b.atR a (.inRegion ops (i :: rest) :: k) :: cs) w') := by
  have hg := stepGR_op (P := P) (b := b) (k := k) (cs := cs) (w := w) (rest := rest) ho hw
  rw [Oper.semAt_eq _ _ _ (not_defer h (by simp))] at hg
  refine step_lone_go ?_
  rw [hg]; simp [stepG.apply, h, Frame.atR]
theorem step_round {l : Nat} {f : FuncId} {tmps : Array Value} {assign body : Code} (ho : ops[i]? = some o) (hw : Region.wanted o (yielded ops a.tmps) = true) (h : (execOp a.eval o).run P w = .ok (.round l f tmps assign body) w') :
    step P (lone (b.atR a (.inRegion ops (i :: rest) :: k)) cs w) = .next (lone (Frame.round l f tmps assign body .normal) (b.atR a (.inRegion ops (i :: rest) :: k) :: cs) w') := by
  have hg := stepGR_op (P := P) (b := b) (k := k) (cs := cs) (w := w) (rest := rest) ho hw
  rw [Oper.semAt_eq _ _ _ (not_defer h (by simp))] at hg
  refine step_lone_go ?_
  rw [hg]; simp [stepG.apply, h, Frame.atR]
theorem finish_put (ho : ops[i]? = some o) (v : Value) : (b.atR a (.inRegion ops (i :: rest) :: k)).finish v = b.atR (a.put o.dst v) (.inRegion ops rest :: k) := by rw [Frame.finish_atR, ho]; rfl
end step

theorem OpOk.of_value {o : Oper} {t : List AV} {m : Mem} {v : AV} {m' : Mem} (h0 : m.next ≤ m'.next)
    (h : ∀ (p : Phi) (a : Act) (w : World), MR P p m w → GP P ≤ m.next → Free p m.next m'.next → VRs p t a.tmps.toList →
      ∃ cv w' p', ((execOp a.eval o).run P w = .ok (.value cv) w' ∨ ((execOp a.eval o).run P w = .ok .skip w' ∧ cv = undef)) ∧ VR p' v cv ∧ Sim P p m w p' m' w') : OpOk P o t m v m' := by
  refine ⟨h0, fun p a w hm hG hf ht b ops i rest k cs ho hw => ?_⟩
  obtain ⟨cv, w', p', h1, h2, h3⟩ := h p a w hm hG hf ht
  rcases h1 with h1 | ⟨h1, rfl⟩
  · exact ⟨cv, p', w', h2, h3, .one (step_value ho hw h1)⟩
  · exact ⟨undef, p', w', h2, h3, .one (step_skipped ho hw h1)⟩

theorem OpOk.pure {o : Oper} {t : List AV} {m : Mem} {v : AV} (h : pureOp P o.op t = some v) : OpOk P o t m v m :=
  .of_value (Nat.le_refl _) fun p _a w hm _ _ ht =>
    let ⟨cv, h1, h2⟩ := pure_sound (w := w) ht hm.glob h
    ⟨cv, w, p, .inl h1, h2, Sim.refl hm⟩

theorem OpOk.read {o : Oper} {t : List AV} {m : Mem} {v : AV} (hc : cls P o.op = .r) (h : readOp P o.op t m = some v) : OpOk P o t m v m :=
  .of_value (Nat.le_refl _) fun p _a w hm _ _ ht =>
    let ⟨cv, h1, h2⟩ := read_sound hm ht hc h
    ⟨cv, w, p, .inl h1, h2, Sim.refl hm⟩

theorem OpOk.alloc {o : Oper} {t : List AV} {m : Mem} {cs : Blk} {mk : Nat → AV} (hc : cls P o.op = .a) (h : allocOp P o.op t = some (cs, mk)) : OpOk P o t m (mk m.next) (m.lay cs) :=
  .of_value (by simp) fun p a w hm hG hf ht => by
    obtain ⟨cv, w', ob, n, h1, h2⟩ := alloc_spec ht hm.glob hc h w
    exact ⟨cv, w', _, .inl h1, h2.value _ _ (by simp), h2.sim hm (hf _ (Nat.le_refl _) (by simp))⟩

/-- A call through a value. -/
theorem callA_sound {call : CallF} (hcall : CallOk P call) {o : Oper} {f : Operand} {xs : List Operand} {ts : Array TypeId} (ho : o.op = .call { callee := .value f, args := ⟨xs⟩, argTypes := ts })
    {t : List AV} {m : Mem} {fv : AV} {as : List AV} {r : AV} {m' : Mem} (hf : ev P t f = some fv) (ha : evs P t xs = some as) (h : callA call fv as m = some (r, m')) : OpOk P o t m r m' := by
  unfold callA at h
  split at h
  · rename_i g first cap
    obtain ⟨h0, hfn⟩ := hcall _ _ _ _ _ h
    refine ⟨h0, fun p a w hm hG hfree ht b ops i rest k cs hoi hw => ?_⟩
    have hfv := ev_VR ht hm.glob hf
    have has := evs_VRs ht hm.glob ha
    simp only [VR] at hfv
    obtain ⟨first', cap', hfe, h1, h2⟩ := hfv
    have hrun : (execOp a.eval o).run P w = (callFunc g ⟨first' ++ xs.map a.eval ++ cap'⟩).run P w := by
      simp only [execOp, ho, resolve, hfe, Deferred.ofValue, Sem.run_bind, Sem.run_pure, Result.andThen_ok, invoke]
      congr 2
      simp
    rcases hfn p w _ hm hG hfree ((h1.append has).append h2) with ⟨fn, g1, g2, g3, g4⟩ | ⟨cv, w', p', g1, g2, g3⟩
    · have he : (callFunc g ⟨first' ++ xs.map a.eval ++ cap'⟩).run P w = .ok (.enter g ⟨first' ++ xs.map a.eval ++ cap'⟩) w := by
        have hb : fn.body.isNone = false := by cases hbb : fn.body <;> simp [hbb] at g2 ⊢
        have hn2 : (fn.name == "runtime.NumGoroutine") = false := by simpa using g3
        simp only [callFunc, Sem.run_bind, run_program, Result.andThen_ok, g1, hn2, hb, Bool.false_eq_true, if_false, Sem.run_pure]
      obtain ⟨e, w', fr, ⟨cv, p', rfl, k1, k2⟩, k3, k4, k5⟩ := g4 (b.atR a (.inRegion ops (i :: rest) :: k) :: cs)
      refine ⟨cv, p', w', k1, k2, .head (step_enter hoi hw (hrun.trans he)) (Steps.trans k3 (.one ?_))⟩
      rw [← finish_put hoi]; exact step_leave_returned k5
    · exact ⟨cv, p', w', g2, g3, .one (step_value hoi hw (hrun.trans g1))⟩
  · rename_i l
    obtain ⟨h0, hfn⟩ := hcall _ _ _ _ _ h
    refine ⟨h0, fun p a w hm hG hfree ht b ops i rest k cs hoi hw => ?_⟩
    have hfv := ev_VR ht hm.glob hf
    have has := evs_VRs ht hm.glob ha
    simp only [VR] at hfv
    obtain ⟨ci, hci, hfe⟩ := hfv
    obtain ⟨g, tmps, assign, body, h1, h2⟩ := hfn p w _ hm hG hfree has ci hci
    have hrun : (execOp a.eval o).run P w = .ok (.round ci.c g tmps assign body) w := by
      simp only [execOp, ho, resolve, hfe, Deferred.ofValue, Sem.run_bind, Sem.run_pure, Result.andThen_ok, invoke]
      rw [← h1]
      congr 2
      simp
    obtain ⟨cv, p', w', k1, k2, k3⟩ := h2 (b.atR a (.inRegion ops (i :: rest) :: k)) cs
    refine ⟨cv, p', w', k1, k2, .head (step_round hoi hw hrun) ?_⟩
    rw [← finish_put hoi]; exact k3
  · simp at h

/-- Memory changed, or a call. -/
theorem effK_sound {call : CallF} (hcall : CallOk P call) {o : Oper} {t : List AV} {m : Mem} {K : AV → Mem → R} {r : AV × Mem} (h : effK call P o.op t m K = some r) :
    ∃ v m', K v m' = some r ∧ OpOk P o t m v m' := by
  have ho : ∃ op, o.op = op := ⟨_, rfl⟩
  obtain ⟨op, ho⟩ := ho
  rw [ho] at h
  unfold effK at h
  split at h
  · -- a store
    rename_i s ao vo
    obtain ⟨x, h1, h⟩ := Option.bind_eq_some_iff.1 h
    obtain ⟨y, h2, h⟩ := Option.bind_eq_some_iff.1 h
    obtain ⟨n, h3, h⟩ := Option.bind_eq_some_iff.1 h
    obtain ⟨m', h4, h⟩ := Option.bind_eq_some_iff.1 h
    have hnext : m'.next = m.next := by
      unfold stV at h4
      split at h4
      · split at h4
        · split at h4
          · obtain ⟨_, _, _, rfl⟩ := stCells_spec h4; rfl
          · simp at h4
        · simp at h4
      · simp at h4
    refine ⟨.undef, m', h, .of_value (by omega) fun p a w hm hG hf ht => ?_⟩
    obtain ⟨w', h5, h6⟩ := stV_sound (P := P) hm (ev_VR ht hm.glob h1) (ev_VR ht hm.glob h2) h3 h4
    exact ⟨undef, w', p, .inr ⟨by simp [execOp, ho, h5], rfl⟩, by simp [VR], h6⟩
  · -- append
    rename_i so xo st xt
    obtain ⟨s, h2, h⟩ := Option.bind_eq_some_iff.1 h
    obtain ⟨x, h3, h⟩ := Option.bind_eq_some_iff.1 h
    obtain ⟨⟨v, m'⟩, h4, h⟩ := Option.bind_eq_some_iff.1 h
    refine ⟨v, m', h, .of_value (appendOp_next h4) fun p a w hm hG hf ht => ?_⟩
    obtain ⟨cv, w', p', h5, h6, h7⟩ := appendOp_sound (P := P) (ty := o.type) hm hG (ev_VR ht hm.glob h2) (ev_VR ht hm.glob h3) hf h4
    refine ⟨cv, w', p', .inl ?_, h6, h7⟩
    simp only [execOp, ho]
    rw [builtin_call]
    simp only [builtin, List.map_cons, List.map_nil, Sem.run_bind]
    rw [show (⟨[a.eval so, a.eval xo]⟩ : Array Value) = #[a.eval so, a.eval xo] from rfl, show (⟨[st, xt]⟩ : Array TypeId) = #[st, xt] from rfl, h5]
    rfl
  · -- copy
    rename_i so xo st ts
    obtain ⟨n, h1, h⟩ := Option.bind_eq_some_iff.1 h
    obtain ⟨d, h2, h⟩ := Option.bind_eq_some_iff.1 h
    obtain ⟨x, h3, h⟩ := Option.bind_eq_some_iff.1 h
    obtain ⟨⟨v, m'⟩, h4, h⟩ := Option.bind_eq_some_iff.1 h
    have hnext : m'.next = m.next := by
      unfold copyA at h4
      split at h4
      · split at h4
        · cases h4; rfl
        · split at h4
          · split at h4
            · split at h4
              · obtain ⟨m1, h5, e⟩ := Option.map_eq_some_iff.1 h4
                cases e
                obtain ⟨_, _, _, rfl⟩ := stCells_spec h5; rfl
              · simp at h4
            · simp at h4
          · simp at h4
      · simp at h4
    refine ⟨v, m', h, .of_value (by omega) fun p a w hm hG hf ht => ?_⟩
    obtain ⟨cv, w', h5, h6, h7⟩ := copyA_sound (P := P) (ty := o.type) (_xt := st) (ts := ts) hm h1 (ev_VR ht hm.glob h2) (ev_VR ht hm.glob h3) h4
    refine ⟨cv, w', p, .inl ?_, h6, h7⟩
    simp only [execOp, ho]
    rw [builtin_call]
    simp only [builtin, List.map_cons, List.map_nil, Sem.run_bind]
    rw [show (⟨[a.eval so, a.eval xo]⟩ : Array Value) = #[a.eval so, a.eval xo] from rfl, h5]
    rfl
  · -- a map's entry
    rename_i s xo ko vo
    obtain ⟨x, h1, h⟩ := Option.bind_eq_some_iff.1 h
    obtain ⟨k, h2, h⟩ := Option.bind_eq_some_iff.1 h
    obtain ⟨v, h3, h⟩ := Option.bind_eq_some_iff.1 h
    obtain ⟨m', h4, h⟩ := Option.bind_eq_some_iff.1 h
    refine ⟨.undef, m', h, .of_value (Nat.le_of_eq (mapPut_next h4).symm) fun p a w hm hG hf ht => ?_⟩
    obtain ⟨w', h5, h6⟩ := mapPut_sound hm (ev_VR ht hm.glob h1) (ev_VR ht hm.glob h2) (ev_VR ht hm.glob h3) h4
    exact ⟨undef, w', p, .inr ⟨by simp [execOp, ho, h5], rfl⟩, by simp [VR], h6⟩
  · rename_i s xo ko vo
    obtain ⟨x, h1, h⟩ := Option.bind_eq_some_iff.1 h
    obtain ⟨k, h2, h⟩ := Option.bind_eq_some_iff.1 h
    obtain ⟨v, h3, h⟩ := Option.bind_eq_some_iff.1 h
    obtain ⟨m', h4, h⟩ := Option.bind_eq_some_iff.1 h
    refine ⟨.undef, m', h, .of_value (Nat.le_of_eq (mapPut_next h4).symm) fun p a w hm hG hf ht => ?_⟩
    obtain ⟨w', h5, h6⟩ := mapPut_sound hm (ev_VR ht hm.glob h1) (ev_VR ht hm.glob h2) (ev_VR ht hm.glob h3) h4
    exact ⟨undef, w', p, .inr ⟨by simp [execOp, ho, h5], rfl⟩, by simp [VR], h6⟩
  · -- delete
    rename_i xo ko st ts
    obtain ⟨x, h1, h⟩ := Option.bind_eq_some_iff.1 h
    obtain ⟨k, h2, h⟩ := Option.bind_eq_some_iff.1 h
    obtain ⟨m', h4, h⟩ := Option.bind_eq_some_iff.1 h
    refine ⟨.undef, m', h, .of_value (Nat.le_of_eq (mapDel_next h4).symm) fun p a w hm hG hf ht => ?_⟩
    obtain ⟨w', h5, h6⟩ := mapDel_sound (ty := o.type) (ts := ts) hm (ev_VR ht hm.glob h1) (ev_VR ht hm.glob h2) h4
    refine ⟨.tuple #[], w', p, .inl ?_, by simp [VR], h6⟩
    simp only [execOp, ho]
    rw [builtin_call]
    simp only [builtin, List.map_cons, List.map_nil, Sem.run_bind]
    rw [show (⟨[a.eval xo, a.eval ko]⟩ : Array Value) = #[a.eval xo, a.eval ko] from rfl, h5]
    rfl
  · -- clear
    rename_i xo st ts
    obtain ⟨x, h1, h⟩ := Option.bind_eq_some_iff.1 h
    obtain ⟨m', h4, h⟩ := Option.bind_eq_some_iff.1 h
    refine ⟨.undef, m', h, .of_value (Nat.le_of_eq (clearA_next h4).symm) fun p a w hm hG hf ht => ?_⟩
    obtain ⟨w', h5, h6⟩ := clearA_sound (ty := o.type) (ts := ts) hm (ev_VR ht hm.glob h1) h4
    refine ⟨.tuple #[], w', p, .inl ?_, by simp [VR], h6⟩
    simp only [execOp, ho]
    rw [builtin_call]
    simp only [builtin, List.map_cons, List.map_nil, Sem.run_bind]
    rw [show (⟨[a.eval xo]⟩ : Array Value) = #[a.eval xo] from rfl, h5]
    rfl
  · -- a call
    rename_i f xs ts
    obtain ⟨fv, h1, h⟩ := Option.bind_eq_some_iff.1 h
    obtain ⟨as, h2, h⟩ := Option.bind_eq_some_iff.1 h
    obtain ⟨⟨v, m'⟩, h3, h⟩ := Option.bind_eq_some_iff.1 h
    exact ⟨v, m', h, callA_sound hcall ho h1 h2 h3⟩
  · simp at h

theorem opK_sound {call : CallF} (hcall : CallOk P call) {o : Oper} {t : List AV} {m : Mem} {K : AV → Mem → R} {r : AV × Mem} (h : opK call P o.op t m K = some r) :
    ∃ v m', K v m' = some r ∧ OpOk P o t m v m' := by
  unfold opK at h
  split at h
  · obtain ⟨v, h1, h⟩ := Option.bind_eq_some_iff.1 h
    exact ⟨v, m, h, .pure h1⟩
  · rename_i hc
    obtain ⟨v, h1, h⟩ := Option.bind_eq_some_iff.1 h
    exact ⟨v, m, h, .read hc h1⟩
  · rename_i hc
    obtain ⟨⟨cs, mk⟩, h1, h⟩ := Option.bind_eq_some_iff.1 h
    exact ⟨mk m.next, m.lay cs, h, .alloc hc h1⟩
  · exact effK_sound hcall h

/-- Is it wanted? The abstract one and the true one agree. -/
theorem guardA_sound {all : List Oper} {o : Oper} {t : List AV} {sk : List Tmp} {y n : List AV → R} {r : AV × Mem} (h : guardA sk all o t y n = some r) :
    (y t = some r ∧ ∀ (p : Phi) (tmps : Array Value), VRs p t tmps.toList → Region.wanted o (yielded ⟨all⟩ tmps) = true) ∨
    (n t = some r ∧ ∀ (p : Phi) (tmps : Array Value), VRs p t tmps.toList → Region.wanted o (yielded ⟨all⟩ tmps) = false) := by
  replace h := guardA_same h
  unfold guardA0 at h
  split at h
  · rename_i hg
    exact .inl ⟨h, fun p tmps _ => by simp [Region.wanted, hg]⟩
  · rename_i j want hg
    split at h
    · rename_i d hd
      split at h
      · rename_i b hb
        have hy : ∀ (p : Phi) (tmps : Array Value), VRs p t tmps.toList → yielded ⟨all⟩ tmps j = some b := by
          intro p tmps ht
          have : t[d]? = some (.bool b) := by
            cases e : t[d]? with
            | none => rw [List.getD_eq_getElem?_getD, e] at hb; simp at hb
            | some x => rw [List.getD_eq_getElem?_getD, e] at hb; simp at hb; rw [hb]
          obtain ⟨v, h1, h2⟩ := ht.get this
          simp only [VR] at h2; subst h2
          unfold yielded
          have h1' : tmps[d]? = some (.bool b) := by rw [← Array.getElem?_toList]; exact h1
          have hd' : ((⟨all⟩ : Array Oper)[j]?).bind (·.dst) = some d := by simpa using hd
          rw [hd']; simp [h1']
        split at h
        · rename_i hbw
          refine .inl ⟨h, fun p tmps ht => ?_⟩
          simp only [Region.wanted, hg, hy p tmps ht, hbw]
          simp
        · rename_i hbw
          refine .inr ⟨h, fun p tmps ht => ?_⟩
          simp only [Region.wanted, hg, hy p tmps ht]
          simpa using hbw
      · rename_i hb
        refine .inr ⟨h, fun p tmps ht => ?_⟩
        have : t[d]? = some (.tup []) := by
          cases e : t[d]? with
          | none => rw [List.getD_eq_getElem?_getD, e] at hb; simp at hb
          | some x => rw [List.getD_eq_getElem?_getD, e] at hb; simp at hb; rw [hb]
        obtain ⟨v, h1, h2⟩ := ht.get this
        simp only [VR] at h2
        obtain ⟨vs, rfl, h3⟩ := h2
        have hd' : ((⟨all⟩ : Array Oper)[j]?).bind (·.dst) = some d := by simpa using hd
        have h1' : tmps[d]? = some (.tuple ⟨vs⟩) := by rw [← Array.getElem?_toList]; exact h1
        have hy : yielded ⟨all⟩ tmps j = none := by unfold yielded; rw [hd']; simp [h1']
        simp only [Region.wanted, hg, hy]
        rfl
      · simp at h
    · simp at h

theorem VRs.aput {p : Phi} {t : List AV} {a : Act} (h : VRs p t a.tmps.toList) (d : Option Tmp) {v : AV} {cv : Value} (hv : VR p v cv) : VRs p (aput t d v) (a.put d cv).tmps.toList := by
  cases d with
  | none => exact h
  | some d => simp only [Abs.aput, setF_eq, Act.put, Array.toList_setIfInBounds]; exact h.set d hv

theorem put_defers' (a : Act) (d : Option Tmp) (v : Value) : (a.put d v).defers = a.defers := by cases d <;> rfl

/-- What a piece of a region owes. -/
def OpsOk (P : Program) (all : List Oper) (idx : List Nat) (t : List AV) (m : Mem) (t' : List AV) (m' : Mem) : Prop :=
  m.next ≤ m'.next ∧ ∀ (p : Phi) (a : Act) (w : World), MR P p m w → GP P ≤ m.next → Free p m.next m'.next → VRs p t a.tmps.toList → ∀ (b : Frame) (k : List Item) (cs : List Frame),
    ∃ p' a' w', VRs p' t' a'.tmps.toList ∧ a'.defers = a.defers ∧ Sim P p m w p' m' w' ∧ Steps P (lone (b.atR a (.inRegion ⟨all⟩ idx :: k)) cs w) (lone (b.atR a' (.inRegion ⟨all⟩ [] :: k)) cs w')

theorem OpsOk.cons {all : List Oper} {o : Oper} {i : Nat} (hi : all[i]? = some o) {idx : List Nat} {t : List AV} {m : Mem} {v : AV} {m1 : Mem} {t' : List AV} {m' : Mem}
    (hw : ∀ (p : Phi) (tmps : Array Value), VRs p t tmps.toList → Region.wanted o (yielded ⟨all⟩ tmps) = true) (h : OpOk P o t m v m1) (h' : OpsOk P all idx (aput t o.dst v) m1 t' m') : OpsOk P all (i :: idx) t m t' m' := by
  refine ⟨Nat.le_trans h.1 h'.1, fun p a w hm hG hf ht b k cs => ?_⟩
  have hi' : (⟨all⟩ : Array Oper)[i]? = some o := by simpa using hi
  obtain ⟨cv, p1, w1, hv, hs, hst⟩ := h.2 p a w hm hG (hf.sub (Nat.le_refl _) h'.1) ht b ⟨all⟩ i idx k cs hi' (hw p a.tmps ht)
  obtain ⟨p', a', w', k1, k2, k3, k4⟩ := h'.2 p1 _ w1 hs.rel (Nat.le_trans hG hs.next) (hf.step hs) ((ht.mono hs.le).aput _ hv) b k cs
  exact ⟨p', a', w', k1, k2.trans (put_defers' _ _ _), hs.trans k3 hf, Steps.trans hst k4⟩

theorem OpsOk.skip {all : List Oper} {o : Oper} {i : Nat} (hi : all[i]? = some o) {idx : List Nat} {t : List AV} {m : Mem} {t' : List AV} {m' : Mem}
    (hw : ∀ (p : Phi) (tmps : Array Value), VRs p t tmps.toList → Region.wanted o (yielded ⟨all⟩ tmps) = false) (h' : OpsOk P all idx (aput t o.dst (.tup [])) m t' m') : OpsOk P all (i :: idx) t m t' m' := by
  refine ⟨h'.1, fun p a w hm hG hf ht b k cs => ?_⟩
  have hi' : (⟨all⟩ : Array Oper)[i]? = some o := by simpa using hi
  have hs := stepR_op_skip (P := P) (b := b) (a := a) (k := k) (cs := cs) (w := w) (ops := ⟨all⟩) (i := i) (rest := idx) (by simp only [hi', Option.map_some, Option.getD_some]; exact hw p a.tmps ht)
  simp only [hi', Option.bind_some] at hs
  obtain ⟨p', a', w', k1, k2, k3, k4⟩ := h'.2 p _ w hm hG hf (ht.aput _ (by simp only [VR]; exact ⟨[], rfl, by simp [VRs]⟩)) b k cs
  exact ⟨p', a', w', k1, k2.trans (put_defers' _ _ _), k3, .head hs k4⟩

theorem opsK_sound {call : CallF} (hcall : CallOk P call) {all : List Oper} : ∀ (os : List Oper) (i : Nat), (∀ j, os[j]? = all[i + j]?) → ∀ {sk : List Tmp} {t : List AV} {m : Mem} {K : List AV → Mem → R} {r : AV × Mem}, opsK call P all os sk t m K = some r →
    ∃ t' m', K t' m' = some r ∧ OpsOk P all (List.range' i os.length) t m t' m'
  | [], i, _, _, t, m, K, r, h => ⟨t, m, h, Nat.le_refl _, fun p a w hm _ _ ht b k cs => ⟨p, a, w, ht, rfl, Sim.refl hm, .refl _ _⟩⟩
  | o :: os, i, hall, _, t, m, K, r, h => by
    simp only [opsK] at h
    have hi : all[i]? = some o := by have := hall 0; simpa using this.symm
    have hall' : ∀ j, os[j]? = all[i + 1 + j]? := fun j => by
      have := hall (j + 1)
      rw [List.getElem?_cons_succ] at this
      rw [this]; congr 1; omega
    rw [List.length_cons, List.range'_succ]
    rcases guardA_sound h with ⟨h, hw⟩ | ⟨h, hw⟩
    · obtain ⟨v, m1, h1, h2⟩ := opK_sound hcall h
      obtain ⟨t', m', h3, h4⟩ := opsK_sound hcall os (i + 1) hall' h1
      exact ⟨t', m', h3, .cons hi hw h2 h4⟩
    · obtain ⟨t', m', h3, h4⟩ := opsK_sound hcall os (i + 1) hall' h
      exact ⟨t', m', h3, .skip hi hw h4⟩
end
end Go.Abs
