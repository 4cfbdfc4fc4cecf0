/- Texts of one claim, put together. -/
import Derived.Test.YtolmealocdgdhaaGreatK2
import Derived.RangeFuncIn
import Derived.Orders
section
namespace Go.Abs
open Go

section
variable {P : Program}

abbrev GP (P : Program) : Nat := P.globals.size

def FnOk (P : Program) (tg : Tg) (args : List AV) (m : Mem) (r : AV) (m' : Mem) : Prop :=
  m.next ≤ m'.next ∧ ∀ (p : Phi) (w : World) (cargs : List Value), MR P p m w → GP P ≤ m.next → Free p m.next m'.next → VRs p args cargs →
    match tg with
    | .fn f => (∃ fn, P.funcs[f]? = some fn ∧ fn.body.isSome = true ∧ fn.name ≠ "runtime.NumGoroutine" ∧
        Calls P f ⟨cargs⟩ w fun e w' => ∃ cv p', e = .returned cv ∧ VR p' r cv ∧ Sim P p m w p' m' w') ∨
      (∃ cv w' p', (callFunc f ⟨cargs⟩).run P w = .ok (.value cv) w' ∧ VR p' r cv ∧ Sim P p m w p' m' w')
    | .yl b => ∀ ci, p b = some ci → ∃ f tmps assign body, (Instr.yield ci.c ⟨cargs⟩).run P w = .ok (.round ci.c f tmps assign body) w ∧
        ∀ (c : Frame) (cs : List Frame), ∃ cv p' w', VR p' r cv ∧ Sim P p m w p' m' w' ∧ Steps P (lone (Frame.round ci.c f tmps assign body .normal) (c :: cs) w) (lone (c.finish cv) cs w')

def CallOk (P : Program) (call : CallF) : Prop := ∀ tg args m r m', call tg args m = some (r, m') → FnOk P tg args m r m'

def OpOk (P : Program) (o : Oper) (t : List AV) (m : Mem) (v : AV) (m' : Mem) : Prop :=
  m.next ≤ m'.next ∧ ∀ (p : Phi) (a : Act) (w : World), MR P p m w → GP P ≤ m.next → Free p m.next m'.next → VRs p t a.tmps.toList →
    ∀ (b : Frame) (ops : Array Oper) (i : Nat) (rest : List Nat) (k : List Item) (cs : List Frame), ops[i]? = some o → Region.wanted o (yielded ops a.tmps) = true →
      ∃ cv p' w', VR p' v cv ∧ Sim P p m w p' m' w' ∧ Steps P (lone (b.atR a (.inRegion ops (i :: rest) :: k)) cs w) (lone (b.atR (a.put o.dst cv) (.inRegion ops rest :: k)) cs w')

theorem not_defer {o : Oper} {ρ : Operand → Value} {w w' : World} {n : Next} (h : (execOp ρ o).run P w = .ok n w') (hn : ∀ d, n ≠ .defer d) : ∀ c, o.op ≠ .defer c := by
  intro c hc
  simp only [execOp, hc, Sem.run_bind] at h
  cases e : (resolve ρ c o.type).run P w with
  | ok d w2 => rw [e] at h; simp only [Result.andThen_ok, Sem.run_pure] at h; injection h with h1 h2; exact hn d h1.symm
  | halt x w2 => rw [e] at h; simp at h

section step
variable {b : Frame} {a : Act} {k : List Item} {cs : List Frame} {w w' : World} {ops : Array Oper} {i : Nat} {rest : List Nat} {o : Oper}
theorem step_value {v : Value} (ho : ops[i]? = some o) (hw : Region.wanted o (yielded ops a.tmps) = true) (h : (execOp a.eval o).run P w = .ok (.value v) w') :
    step P (lone (b.atR a (.inRegion ops (i :: rest) :: k)) cs w) = .next (lone (b.atR (a.put o.dst v) (.inRegion ops rest :: k)) cs w') := by
  have hg := stepGR_op (P := P) (b := b) (k := k) (cs := cs) (w := w) (rest := rest) ho hw
  rw [Oper.semAt_eq _ _ _ (not_defer h (by simp))] at hg
  have hfin : (b.atR a (.inRegion ops (i :: rest) :: k)).finish v = b.atR (a.put o.dst v) (.inRegion ops rest :: k) := by rw [Frame.finish_atR, ho]; rfl
  refine step_lone_go ?_
  rw [hg, ← hfin]; simp [stepG.apply, h]
theorem step_skipped (ho : ops[i]? = some o) (hw : Region.wanted o (yielded ops a.tmps) = true) (h : (execOp a.eval o).run P w = .ok .skip w') :
    step P (lone (b.atR a (.inRegion ops (i :: rest) :: k)) cs w) = .next (lone (b.atR (a.put o.dst undef) (.inRegion ops rest :: k)) cs w') := by
  have hg := stepGR_op (P := P) (b := b) (k := k) (cs := cs) (w := w) (rest := rest) ho hw
  rw [Oper.semAt_eq _ _ _ (not_defer h (by simp))] at hg
  have hfin : (b.atR a (.inRegion ops (i :: rest) :: k)).finish undef = b.atR (a.put o.dst undef) (.inRegion ops rest :: k) := by rw [Frame.finish_atR, ho]; rfl
  refine step_lone_go ?_
  rw [hg, ← hfin]; simp [stepG.apply, h]
theorem step_enter {f : FuncId} {args : Array Value} (ho : ops[i]? = some o) (hw : Region.wanted o (yielded ops a.tmps) = true) (h : (execOp a.eval o).run P w = .ok (.enter f args) w') :
    step P (lone (b.atR a (.inRegion ops (i :: rest) :: k)) cs w) = .next (lone (Frame.enter P f args .normal) (b.atR a (.inRegion ops (i :: rest) :: k) :: cs) w') := by
  have hg := stepGR_op (P := P) (b := b) (k := k) (cs := cs) (w := w) (rest := rest) ho hw
  rw [Oper.semAt_eq _ _ _ (not_defer h (by simp))] at hg
  refine step_lone_go ?_
  rw [hg]; simp [stepG.apply, h, Frame.atR]
theorem step_round {l : Nat} {f : FuncId} {tmps : Array Value} {assign body : Code} (ho : ops[i]? = some o) (hw : Region.wanted o (yielded ops a.tmps) = true) (h : (execOp a.eval o).run P w = .ok (.round l f tmps assign body) w') :
    step P (lone (b.atR a (.inRegion ops (i :: rest) :: k)) cs w) = .next (lone (Frame.round l f tmps assign body .normal) (b.atR a (.inRegion ops (i :: rest) :: k) :: cs) w') := by
  have hg := stepGR_op (P := P) (b := b) (k := k) (cs := cs) (w := w) (rest := rest) ho hw
  rw [Oper.semAt_eq _ _ _ (not_defer h (by simp))] at hg
  refine step_lone_go ?_
  rw [hg]; simp [stepG.apply, h, Frame.atR]
theorem finish_put (ho : ops[i]? = some o) (v : Value) : (b.atR a (.inRegion ops (i :: rest) :: k)).finish v = b.atR (a.put o.dst v) (.inRegion ops rest :: k) := by rw [Frame.finish_atR, ho]; rfl
end step

theorem OpOk.of_value {o : Oper} {t : List AV} {m : Mem} {v : AV} {m' : Mem} (h0 : m.next ≤ m'.next)
    (h : ∀ (p : Phi) (a : Act) (w : World), MR P p m w → GP P ≤ m.next → Free p m.next m'.next → VRs p t a.tmps.toList →
      ∃ cv w' p', ((execOp a.eval o).run P w = .ok (.value cv) w' ∨ ((execOp a.eval o).run P w = .ok .skip w' ∧ cv = undef)) ∧ VR p' v cv ∧ Sim P p m w p' m' w') : OpOk P o t m v m' := by
  refine ⟨h0, fun p a w hm hG hf ht b ops i rest k cs ho hw => ?_⟩
  obtain ⟨cv, w', p', h1, h2, h3⟩ := h p a w hm hG hf ht
  rcases h1 with h1 | ⟨h1, rfl⟩
  · exact ⟨cv, p', w', h2, h3, .one (step_value ho hw h1)⟩
  · exact ⟨undef, p', w', h2, h3, .one (step_skipped ho hw h1)⟩

theorem OpOk.pure {o : Oper} {t : List AV} {m : Mem} {v : AV} (h : pureOp P o.op t = some v) : OpOk P o t m v m :=
  .of_value (Nat.le_refl _) fun p _a w hm _ _ ht =>
    let ⟨cv, h1, h2⟩ := pure_sound (w := w) ht hm.glob h
    ⟨cv, w, p, .inl h1, h2, Sim.refl hm⟩

theorem OpOk.read {o : Oper} {t : List AV} {m : Mem} {v : AV} (hc : cls P o.op = .r) (h : readOp P o.op t m = some v) : OpOk P o t m v m :=
  .of_value (Nat.le_refl _) fun p _a w hm _ _ ht =>
    let ⟨cv, h1, h2⟩ := read_sound hm ht hc h
    ⟨cv, w, p, .inl h1, h2, Sim.refl hm⟩

theorem OpOk.alloc {o : Oper} {t : List AV} {m : Mem} {cs : Blk} {mk : Nat → AV} (hc : cls P o.op = .a) (h : allocOp P o.op t = some (cs, mk)) : OpOk P o t m (mk m.next) (m.lay cs) :=
  .of_value (by simp) fun p a w hm hG hf ht => by
    obtain ⟨cv, w', ob, n, h1, h2⟩ := alloc_spec ht hm.glob hc h w
    exact ⟨cv, w', _, .inl h1, h2.value _ _ (by simp), h2.sim hm (hf _ (Nat.le_refl _) (by simp))⟩

theorem callA_sound {call : CallF} (hcall : CallOk P call) {o : Oper} {f : Operand} {xs : List Operand} {ts : Array TypeId} (ho : o.op = .call { callee := .value f, args := ⟨xs⟩, argTypes := ts })
    {t : List AV} {m : Mem} {fv : AV} {as : List AV} {r : AV} {m' : Mem} (hf : ev P t f = some fv) (ha : evs P t xs = some as) (h : callA call fv as m = some (r, m')) : OpOk P o t m r m' := by
  unfold callA at h
  split at h
  · rename_i g first cap
    obtain ⟨h0, hfn⟩ := hcall _ _ _ _ _ h
    refine ⟨h0, fun p a w hm hG hfree ht b ops i rest k cs hoi hw => ?_⟩
    have hfv := ev_VR ht hm.glob hf
    have has := evs_VRs ht hm.glob ha
    simp only [VR] at hfv
    obtain ⟨first', cap', hfe, h1, h2⟩ := hfv
    have hrun : (execOp a.eval o).run P w = (callFunc g ⟨first' ++ xs.map a.eval ++ cap'⟩).run P w := by
      simp only [execOp, ho, resolve, hfe, Deferred.ofValue, Sem.run_bind, Sem.run_pure, Result.andThen_ok, invoke]
      congr 2
      simp
    rcases hfn p w _ hm hG hfree ((h1.append has).append h2) with ⟨fn, g1, g2, g3, g4⟩ | ⟨cv, w', p', g1, g2, g3⟩
    · have he : (callFunc g ⟨first' ++ xs.map a.eval ++ cap'⟩).run P w = .ok (.enter g ⟨first' ++ xs.map a.eval ++ cap'⟩) w := by
        have hb : fn.body.isNone = false := by cases hbb : fn.body <;> simp [hbb] at g2 ⊢
        have hn2 : (fn.name == "runtime.NumGoroutine") = false := by simpa using g3
        simp only [callFunc, Sem.run_bind, run_program, Result.andThen_ok, g1, hn2, hb, Bool.false_eq_true, if_false, Sem.run_pure]
      obtain ⟨e, w', fr, ⟨cv, p', rfl, k1, k2⟩, k3, k4, k5⟩ := g4 (b.atR a (.inRegion ops (i :: rest) :: k) :: cs)
      refine ⟨cv, p', w', k1, k2, .head (step_enter hoi hw (hrun.trans he)) (Steps.trans k3 (.one ?_))⟩
      rw [← finish_put hoi]; exact step_leave_returned k5
    · exact ⟨cv, p', w', g2, g3, .one (step_value hoi hw (hrun.trans g1))⟩
  · rename_i l
    obtain ⟨h0, hfn⟩ := hcall _ _ _ _ _ h
    refine ⟨h0, fun p a w hm hG hfree ht b ops i rest k cs hoi hw => ?_⟩
    have hfv := ev_VR ht hm.glob hf
    have has := evs_VRs ht hm.glob ha
    simp only [VR] at hfv
    obtain ⟨ci, hci, hfe⟩ := hfv
    obtain ⟨g, tmps, assign, body, h1, h2⟩ := hfn p w _ hm hG hfree has ci hci
    have hrun : (execOp a.eval o).run P w = .ok (.round ci.c g tmps assign body) w := by
      simp only [execOp, ho, resolve, hfe, Deferred.ofValue, Sem.run_bind, Sem.run_pure, Result.andThen_ok, invoke]
      rw [← h1]
      congr 2
      simp
    obtain ⟨cv, p', w', k1, k2, k3⟩ := h2 (b.atR a (.inRegion ops (i :: rest) :: k)) cs
    refine ⟨cv, p', w', k1, k2, .head (step_round hoi hw hrun) ?_⟩
    rw [← finish_put hoi]; exact k3
  · simp at h

theorem rangeA_next {t : TypeId} {x v : AV} {m m' : Mem} (h : rangeA P t x m = some (v, m')) : m.next ≤ m'.next := by
  unfold rangeA at h
  split at h
  · split at h
    · cases h; simp
    · cases h
  · cases h
theorem rangeA_sound {p : Phi} {m : Mem} {w : World} (hm : MR P p m w) {t : TypeId} {x v : AV} {x' : Value} {m' : Mem} (hf : Free p m.next m'.next) (hx : VR p x x') (h : rangeA P t x m = some (v, m')) :
    ∃ cv w' p', (Instr.range t x').run P w = .ok cv w' ∧ VR p' v cv ∧ Sim P p m w p' m' w' := by
  unfold rangeA at h
  split at h
  · rename_i key elem b ht
    split at h
    · rename_i es hb
      cases h
      simp only [VR] at hx
      obtain ⟨ci, h1, rfl⟩ := hx
      obtain ⟨o, h2, ces, clock, rfl, ⟨l, h3, h4⟩, h5⟩ := hm.has b _ ci hb h1
      have hfr : p m.next = none := hf _ (Nat.le_refl _) (by simp)
      have hlt := hm.bnd b ci h1
      have hbl := Mem.get_lt hb
      have s1 := Sim.lay (v := .iter b es none) (o := .mapIter (some ci.c) clock #[] clock) (n := 0) (g := some (ces, clock)) (w' := w.alloc (.mapIter (some ci.c) clock #[] clock)) hm hfr (Nat.le_refl w.heap.size) (by show (w.heap.push _)[w.heap.size]? = _; simp) (fun i hi => by show (w.heap.push _)[i]? = _; rw [Array.getElem?_push_lt hi, Array.getElem?_eq_getElem]) (by show w.heap.size ≤ (w.heap.push _).size; simp) rfl rfl rfl
        (fun q hq => ⟨ci, ces, clock, #[], clock, rfl, hq _ _ h1, rfl, rfl, Nat.le_refl _, ⟨l, h3, by
          have : (ces.toList.filter fun e => !(#[] : Array Nat).contains e.born) = ces.toList := by rw [List.filter_eq_self]; intro a _; simp
          rw [this]; exact h4.mono hq⟩, fun e he => by cases he⟩)
      have hg : (m.lay (.iter b es none)).get b = some (.map es) := by rw [Mem.get_lay, if_neg (by omega)]; exact hb
      have s2 := Sim.turnV (v := some (.rmap es m.next)) (o := .map ces clock) s1.rel hg (by simp) (s1.le _ _ h1) (w' := w.alloc (.mapIter (some ci.c) clock #[] clock)) (by show (w.heap.push _)[ci.c]? = _; rw [Array.getElem?_push_lt hlt, ← Array.getElem?_eq_getElem]; exact h2) (fun _ _ => rfl) rfl rfl rfl rfl
        (fun y hy => by cases hy; exact ⟨ces, clock, rfl, ⟨l, h3, h4.mono s1.le⟩, h5, ⟨w.heap.size, 0, 0, some (ces, clock)⟩, by simp, rfl⟩)
      refine ⟨.pointer (some ⟨w.heap.size, 0, none⟩), _, _, ?_, ?_, s1.trans s2 hf⟩
      · simp [Instr.range, run_under ht, run_getObj h2 (by simp)]
      · simp only [VR]
        exact ⟨⟨w.heap.size, 0, 0, some (ces, clock)⟩, by simp, rfl⟩
    · cases h
  · cases h
theorem effK_sound {call : CallF} (hcall : CallOk P call) {o : Oper} {t : List AV} {m : Mem} {K : AV → Mem → R} {r : AV × Mem} (h : effK call P o.op t m K = some r) :
    ∃ v m', K v m' = some r ∧ OpOk P o t m v m' := by
  have ho : ∃ op, o.op = op := ⟨_, rfl⟩
  obtain ⟨op, ho⟩ := ho
  rw [ho] at h
  unfold effK at h
  split at h
  · -- a store
    rename_i s ao vo
    obtain ⟨x, h1, h⟩ := Option.bind_eq_some_iff.1 h
    obtain ⟨y, h2, h⟩ := Option.bind_eq_some_iff.1 h
    obtain ⟨n, h3, h⟩ := Option.bind_eq_some_iff.1 h
    obtain ⟨m', h4, h⟩ := Option.bind_eq_some_iff.1 h
    have hnext : m'.next = m.next := by
      unfold stV at h4
      split at h4
      · split at h4
        · split at h4
          · obtain ⟨_, _, _, rfl⟩ := stCells_spec h4; rfl
          · simp at h4
        · simp at h4
      · simp at h4
    refine ⟨.undef, m', h, .of_value (by omega) fun p a w hm hG hf ht => ?_⟩
    obtain ⟨w', h5, h6⟩ := stV_sound (P := P) hm (ev_VR ht hm.glob h1) (ev_VR ht hm.glob h2) h3 h4
    exact ⟨undef, w', p, .inr ⟨by simp [execOp, ho, h5], rfl⟩, by simp [VR], h6⟩
  · -- append
    rename_i so xo st xt
    obtain ⟨s, h2, h⟩ := Option.bind_eq_some_iff.1 h
    obtain ⟨x, h3, h⟩ := Option.bind_eq_some_iff.1 h
    obtain ⟨⟨v, m'⟩, h4, h⟩ := Option.bind_eq_some_iff.1 h
    refine ⟨v, m', h, .of_value (appendOp_next h4) fun p a w hm hG hf ht => ?_⟩
    obtain ⟨cv, w', p', h5, h6, h7⟩ := appendOp_sound (P := P) (ty := o.type) hm hG (ev_VR ht hm.glob h2) (ev_VR ht hm.glob h3) hf h4
    refine ⟨cv, w', p', .inl ?_, h6, h7⟩
    simp only [execOp, ho]
    rw [builtin_call]
    simp only [builtin, List.map_cons, List.map_nil, Sem.run_bind]
    rw [show (⟨[a.eval so, a.eval xo]⟩ : Array Value) = #[a.eval so, a.eval xo] from rfl, show (⟨[st, xt]⟩ : Array TypeId) = #[st, xt] from rfl, h5]
    rfl
  · -- copy
    rename_i so xo st ts
    obtain ⟨n, h1, h⟩ := Option.bind_eq_some_iff.1 h
    obtain ⟨d, h2, h⟩ := Option.bind_eq_some_iff.1 h
    obtain ⟨x, h3, h⟩ := Option.bind_eq_some_iff.1 h
    obtain ⟨⟨v, m'⟩, h4, h⟩ := Option.bind_eq_some_iff.1 h
    have hnext : m'.next = m.next := by
      unfold copyA at h4
      split at h4
      · split at h4
        · cases h4; rfl
        · split at h4
          · split at h4
            · split at h4
              · obtain ⟨m1, h5, e⟩ := Option.map_eq_some_iff.1 h4
                cases e
                obtain ⟨_, _, _, rfl⟩ := stCells_spec h5; rfl
              · simp at h4
            · simp at h4
          · simp at h4
      · simp at h4
    refine ⟨v, m', h, .of_value (by omega) fun p a w hm hG hf ht => ?_⟩
    obtain ⟨cv, w', h5, h6, h7⟩ := copyA_sound (P := P) (ty := o.type) (_xt := st) (ts := ts) hm h1 (ev_VR ht hm.glob h2) (ev_VR ht hm.glob h3) h4
    refine ⟨cv, w', p, .inl ?_, h6, h7⟩
    simp only [execOp, ho]
    rw [builtin_call]
    simp only [builtin, List.map_cons, List.map_nil, Sem.run_bind]
    rw [show (⟨[a.eval so, a.eval xo]⟩ : Array Value) = #[a.eval so, a.eval xo] from rfl, h5]
    rfl
  · -- a map's entry
    rename_i s xo ko vo
    obtain ⟨x, h1, h⟩ := Option.bind_eq_some_iff.1 h
    obtain ⟨k, h2, h⟩ := Option.bind_eq_some_iff.1 h
    obtain ⟨v, h3, h⟩ := Option.bind_eq_some_iff.1 h
    obtain ⟨m', h4, h⟩ := Option.bind_eq_some_iff.1 h
    refine ⟨.undef, m', h, .of_value (Nat.le_of_eq (mapPut_next h4).symm) fun p a w hm hG hf ht => ?_⟩
    obtain ⟨w', h5, h6⟩ := mapPut_sound hm (ev_VR ht hm.glob h1) (ev_VR ht hm.glob h2) (ev_VR ht hm.glob h3) h4
    exact ⟨undef, w', p, .inr ⟨by simp [execOp, ho, h5], rfl⟩, by simp [VR], h6⟩
  · rename_i s xo ko vo
    obtain ⟨x, h1, h⟩ := Option.bind_eq_some_iff.1 h
    obtain ⟨k, h2, h⟩ := Option.bind_eq_some_iff.1 h
    obtain ⟨v, h3, h⟩ := Option.bind_eq_some_iff.1 h
    obtain ⟨m', h4, h⟩ := Option.bind_eq_some_iff.1 h
    refine ⟨.undef, m', h, .of_value (Nat.le_of_eq (mapPut_next h4).symm) fun p a w hm hG hf ht => ?_⟩
    obtain ⟨w', h5, h6⟩ := mapPut_sound hm (ev_VR ht hm.glob h1) (ev_VR ht hm.glob h2) (ev_VR ht hm.glob h3) h4
    exact ⟨undef, w', p, .inr ⟨by simp [execOp, ho, h5], rfl⟩, by simp [VR], h6⟩
  · -- delete
    rename_i xo ko st ts
    obtain ⟨x, h1, h⟩ := Option.bind_eq_some_iff.1 h
    obtain ⟨k, h2, h⟩ := Option.bind_eq_some_iff.1 h
    obtain ⟨m', h4, h⟩ := Option.bind_eq_some_iff.1 h
    refine ⟨.undef, m', h, .of_value (Nat.le_of_eq (mapDel_next h4).symm) fun p a w hm hG hf ht => ?_⟩
    obtain ⟨w', h5, h6⟩ := mapDel_sound (ty := o.type) (ts := ts) hm (ev_VR ht hm.glob h1) (ev_VR ht hm.glob h2) h4
    refine ⟨.tuple #[], w', p, .inl ?_, by simp [VR], h6⟩
    simp only [execOp, ho]
    rw [builtin_call]
    simp only [builtin, List.map_cons, List.map_nil, Sem.run_bind]
    rw [show (⟨[a.eval xo, a.eval ko]⟩ : Array Value) = #[a.eval xo, a.eval ko] from rfl, h5]
    rfl
  · -- clear
    rename_i xo st ts
    obtain ⟨x, h1, h⟩ := Option.bind_eq_some_iff.1 h
    obtain ⟨m', h4, h⟩ := Option.bind_eq_some_iff.1 h
    refine ⟨.undef, m', h, .of_value (Nat.le_of_eq (clearA_next h4).symm) fun p a w hm hG hf ht => ?_⟩
    obtain ⟨w', h5, h6⟩ := clearA_sound (ty := o.type) (ts := ts) hm (ev_VR ht hm.glob h1) h4
    refine ⟨.tuple #[], w', p, .inl ?_, by simp [VR], h6⟩
    simp only [execOp, ho]
    rw [builtin_call]
    simp only [builtin, List.map_cons, List.map_nil, Sem.run_bind]
    rw [show (⟨[a.eval xo]⟩ : Array Value) = #[a.eval xo] from rfl, h5]
    rfl
  · -- a call
    rename_i f xs ts
    obtain ⟨fv, h1, h⟩ := Option.bind_eq_some_iff.1 h
    obtain ⟨as, h2, h⟩ := Option.bind_eq_some_iff.1 h
    obtain ⟨⟨v, m'⟩, h3, h⟩ := Option.bind_eq_some_iff.1 h
    exact ⟨v, m', h, callA_sound hcall ho h1 h2 h3⟩
  · -- a loop over a map begins
    rename_i s xo
    obtain ⟨x, h1, h⟩ := Option.bind_eq_some_iff.1 h
    obtain ⟨⟨v, m'⟩, h3, h⟩ := Option.bind_eq_some_iff.1 h
    refine ⟨v, m', h, .of_value (rangeA_next h3) fun p a w hm hG hf ht => ?_⟩
    obtain ⟨cv, w', p', h5, h6, h7⟩ := rangeA_sound hm hf (ev_VR ht hm.glob h1) h3
    exact ⟨cv, w', p', .inl (by simp [execOp, ho, h5]), h6, h7⟩
  · simp at h

theorem opK_sound {call : CallF} (hcall : CallOk P call) {o : Oper} {t : List AV} {m : Mem} {K : AV → Mem → R} {r : AV × Mem} (h : opK call P o.op t m K = some r) :
    ∃ v m', K v m' = some r ∧ OpOk P o t m v m' := by
  unfold opK at h
  split at h
  · obtain ⟨v, h1, h⟩ := Option.bind_eq_some_iff.1 h
    exact ⟨v, m, h, .pure h1⟩
  · rename_i hc
    obtain ⟨v, h1, h⟩ := Option.bind_eq_some_iff.1 h
    exact ⟨v, m, h, .read hc h1⟩
  · rename_i hc
    obtain ⟨⟨cs, mk⟩, h1, h⟩ := Option.bind_eq_some_iff.1 h
    exact ⟨mk m.next, m.lay cs, h, .alloc hc h1⟩
  · exact effK_sound hcall h

theorem guardA_sound {all : List Oper} {o : Oper} {t : List AV} {sk : List Tmp} {y n : List AV → R} {r : AV × Mem} (h : guardA sk all o t y n = some r) :
    (y t = some r ∧ ∀ (p : Phi) (tmps : Array Value), VRs p t tmps.toList → Region.wanted o (yielded ⟨all⟩ tmps) = true) ∨
    (n t = some r ∧ ∀ (p : Phi) (tmps : Array Value), VRs p t tmps.toList → Region.wanted o (yielded ⟨all⟩ tmps) = false) := by
  replace h := guardA_same h
  unfold guardA0 at h
  split at h
  · rename_i hg
    exact .inl ⟨h, fun p tmps _ => by simp [Region.wanted, hg]⟩
  · rename_i j want hg
    split at h
    · rename_i d hd
      split at h
      · rename_i b hb
        have hy : ∀ (p : Phi) (tmps : Array Value), VRs p t tmps.toList → yielded ⟨all⟩ tmps j = some b := by
          intro p tmps ht
          have : t[d]? = some (.bool b) := by
            cases e : t[d]? with
            | none => rw [List.getD_eq_getElem?_getD, e] at hb; simp at hb
            | some x => rw [List.getD_eq_getElem?_getD, e] at hb; simp at hb; rw [hb]
          obtain ⟨v, h1, h2⟩ := ht.get this
          simp only [VR] at h2; subst h2
          unfold yielded
          have h1' : tmps[d]? = some (.bool b) := by rw [← Array.getElem?_toList]; exact h1
          have hd' : ((⟨all⟩ : Array Oper)[j]?).bind (·.dst) = some d := by simpa using hd
          rw [hd']; simp [h1']
        split at h
        · rename_i hbw
          refine .inl ⟨h, fun p tmps ht => ?_⟩
          simp only [Region.wanted, hg, hy p tmps ht, hbw]
          simp
        · rename_i hbw
          refine .inr ⟨h, fun p tmps ht => ?_⟩
          simp only [Region.wanted, hg, hy p tmps ht]
          simpa using hbw
      · rename_i hb
        refine .inr ⟨h, fun p tmps ht => ?_⟩
        have : t[d]? = some (.tup []) := by
          cases e : t[d]? with
          | none => rw [List.getD_eq_getElem?_getD, e] at hb; simp at hb
          | some x => rw [List.getD_eq_getElem?_getD, e] at hb; simp at hb; rw [hb]
        obtain ⟨v, h1, h2⟩ := ht.get this
        simp only [VR] at h2
        obtain ⟨vs, rfl, h3⟩ := h2
        have hd' : ((⟨all⟩ : Array Oper)[j]?).bind (·.dst) = some d := by simpa using hd
        have h1' : tmps[d]? = some (.tuple ⟨vs⟩) := by rw [← Array.getElem?_toList]; exact h1
        have hy : yielded ⟨all⟩ tmps j = none := by unfold yielded; rw [hd']; simp [h1']
        simp only [Region.wanted, hg, hy]
        rfl
      · simp at h
    · simp at h

theorem VRs.aput {p : Phi} {t : List AV} {a : Act} (h : VRs p t a.tmps.toList) (d : Option Tmp) {v : AV} {cv : Value} (hv : VR p v cv) : VRs p (aput t d v) (a.put d cv).tmps.toList := by
  cases d with
  | none => exact h
  | some d => simp only [Abs.aput, setF_eq, Act.put, Array.toList_setIfInBounds]; exact h.set d hv

theorem put_defers' (a : Act) (d : Option Tmp) (v : Value) : (a.put d v).defers = a.defers := by cases d <;> rfl

def OpsOk (P : Program) (all : List Oper) (idx : List Nat) (t : List AV) (m : Mem) (t' : List AV) (m' : Mem) : Prop :=
  m.next ≤ m'.next ∧ ∀ (p : Phi) (a : Act) (w : World), MR P p m w → GP P ≤ m.next → Free p m.next m'.next → VRs p t a.tmps.toList → ∀ (b : Frame) (k : List Item) (cs : List Frame),
    ∃ p' a' w', VRs p' t' a'.tmps.toList ∧ a'.defers = a.defers ∧ Sim P p m w p' m' w' ∧ Steps P (lone (b.atR a (.inRegion ⟨all⟩ idx :: k)) cs w) (lone (b.atR a' (.inRegion ⟨all⟩ [] :: k)) cs w')

theorem OpsOk.cons {all : List Oper} {o : Oper} {i : Nat} (hi : all[i]? = some o) {idx : List Nat} {t : List AV} {m : Mem} {v : AV} {m1 : Mem} {t' : List AV} {m' : Mem}
    (hw : ∀ (p : Phi) (tmps : Array Value), VRs p t tmps.toList → Region.wanted o (yielded ⟨all⟩ tmps) = true) (h : OpOk P o t m v m1) (h' : OpsOk P all idx (aput t o.dst v) m1 t' m') : OpsOk P all (i :: idx) t m t' m' := by
  refine ⟨Nat.le_trans h.1 h'.1, fun p a w hm hG hf ht b k cs => ?_⟩
  have hi' : (⟨all⟩ : Array Oper)[i]? = some o := by simpa using hi
  obtain ⟨cv, p1, w1, hv, hs, hst⟩ := h.2 p a w hm hG (hf.sub (Nat.le_refl _) h'.1) ht b ⟨all⟩ i idx k cs hi' (hw p a.tmps ht)
  obtain ⟨p', a', w', k1, k2, k3, k4⟩ := h'.2 p1 _ w1 hs.rel (Nat.le_trans hG hs.next) (hf.step hs) ((ht.mono hs.le).aput _ hv) b k cs
  exact ⟨p', a', w', k1, k2.trans (put_defers' _ _ _), hs.trans k3 hf, Steps.trans hst k4⟩

theorem OpsOk.skip {all : List Oper} {o : Oper} {i : Nat} (hi : all[i]? = some o) {idx : List Nat} {t : List AV} {m : Mem} {t' : List AV} {m' : Mem}
    (hw : ∀ (p : Phi) (tmps : Array Value), VRs p t tmps.toList → Region.wanted o (yielded ⟨all⟩ tmps) = false) (h' : OpsOk P all idx (aput t o.dst (.tup [])) m t' m') : OpsOk P all (i :: idx) t m t' m' := by
  refine ⟨h'.1, fun p a w hm hG hf ht b k cs => ?_⟩
  have hi' : (⟨all⟩ : Array Oper)[i]? = some o := by simpa using hi
  have hs := stepR_op_skip (P := P) (b := b) (a := a) (k := k) (cs := cs) (w := w) (ops := ⟨all⟩) (i := i) (rest := idx) (by simp only [hi', Option.map_some, Option.getD_some]; exact hw p a.tmps ht)
  simp only [hi', Option.bind_some] at hs
  obtain ⟨p', a', w', k1, k2, k3, k4⟩ := h'.2 p _ w hm hG hf (ht.aput _ (by simp only [VR]; exact ⟨[], rfl, by simp [VRs]⟩)) b k cs
  exact ⟨p', a', w', k1, k2.trans (put_defers' _ _ _), k3, .head hs k4⟩

theorem opsK_sound {call : CallF} (hcall : CallOk P call) {all : List Oper} : ∀ (os : List Oper) (i : Nat), (∀ j, os[j]? = all[i + j]?) → ∀ {sk : List Tmp} {t : List AV} {m : Mem} {K : List AV → Mem → R} {r : AV × Mem}, opsK call P all os sk t m K = some r →
    ∃ t' m', K t' m' = some r ∧ OpsOk P all (List.range' i os.length) t m t' m'
  | [], i, _, _, t, m, K, r, h => ⟨t, m, h, Nat.le_refl _, fun p a w hm _ _ ht b k cs => ⟨p, a, w, ht, rfl, Sim.refl hm, .refl _ _⟩⟩
  | o :: os, i, hall, _, t, m, K, r, h => by
    simp only [opsK] at h
    have hi : all[i]? = some o := by have := hall 0; simpa using this.symm
    have hall' : ∀ j, os[j]? = all[i + 1 + j]? := fun j => by
      have := hall (j + 1)
      rw [List.getElem?_cons_succ] at this
      rw [this]; congr 1; omega
    rw [List.length_cons, List.range'_succ]
    rcases guardA_sound h with ⟨h, hw⟩ | ⟨h, hw⟩
    · obtain ⟨v, m1, h1, h2⟩ := opK_sound hcall h
      obtain ⟨t', m', h3, h4⟩ := opsK_sound hcall os (i + 1) hall' h1
      exact ⟨t', m', h3, .cons hi hw h2 h4⟩
    · obtain ⟨t', m', h3, h4⟩ := opsK_sound hcall os (i + 1) hall' h
      exact ⟨t', m', h3, .skip hi hw h4⟩
end
end Go.Abs
end
section
namespace Go.Abs
open Go

section
variable {P : Program}

def Agree (op : Op) (t t' : List AV) : Prop := ∀ x, .tmp x ∈ op.operands → t.getD x .undef = t'.getD x .undef

theorem ev_agree {t t' : List AV} {x : Operand} (h : ∀ i, x = .tmp i → t.getD i .undef = t'.getD i .undef) : ev P t x = ev P t' x := by
  cases x with
  | tmp i => simp only [ev, nth_eq]; rw [h i rfl]
  | _ => rfl
theorem evs_agree {t t' : List AV} : ∀ {xs : List Operand}, (∀ i, .tmp i ∈ xs → t.getD i .undef = t'.getD i .undef) → evs P t xs = evs P t' xs
  | [], _ => rfl
  | x :: xs, h => by
    simp only [evs]
    rw [ev_agree (x := x) (fun i e => h i (by rw [← e]; simp)), evs_agree (xs := xs) (fun i e => h i (by simp [e]))]
theorem evParts_agree {t t' : List AV} : ∀ {xs : List (Nat × Operand)}, (∀ i, .tmp i ∈ xs.map (·.2) → t.getD i .undef = t'.getD i .undef) → evParts P t xs = evParts P t' xs
  | [], _ => rfl
  | (k, x) :: xs, h => by
    simp only [evParts]
    rw [ev_agree (x := x) (fun i e => h i (by rw [← e]; simp)), evParts_agree (xs := xs) (fun i e => h i (by simp only [List.map_cons, List.mem_cons]; exact .inr e))]

theorem pureOp_agree {op : Op} {t t' : List AV} (h : Agree op t t') : pureOp P op t = pureOp P op t' := by
  have E : ∀ x, x ∈ op.operands → ev P t x = ev P t' x := fun x hx => ev_agree fun i e => h i (e ▸ hx)
  unfold Agree at h
  unfold pureOp
  split <;> simp only [Op.operands] at E h
  case h_15 => rw [E _ (by simp)]
  all_goals first
    | (rw [E _ (by simp)]; done)
    | (rw [E _ (by simp), E _ (by simp)]; done)
    | skip
  case h_3 c a b => rw [E c (by simp), E a (by simp), E b (by simp)]
  case h_12 s x lo hi =>
    rw [E x (by simp)]
    cases lo with
    | none => cases hi with
      | none => rfl
      | some b => simp only []; rw [E b (by simp)]
    | some a => cases hi with
      | none => simp only []; rw [E a (by simp)]
      | some b => simp only []; rw [E a (by simp), E b (by simp)]
  case h_13 s x lo hi mx =>
    rw [E x (by simp), E hi (by simp), E mx (by simp)]
    cases lo with
    | none => rfl
    | some a => simp only []; rw [E a (by simp)]
  case h_16 f first cap =>
    rw [evs_agree (xs := first.toList) (fun i e => h i (by simp; left; simpa using e)), evs_agree (xs := cap.toList) (fun i e => h i (by simp; right; simpa using e))]
  case h_17 s parts => rw [evParts_agree (xs := parts.toList) (fun i e => h i (by simpa using e))]
  case h_18 x s => rw [E x (by simp [Call.operands])]
  case h_19 x s => rw [E x (by simp [Call.operands])]
  case h_20 x y s => rw [E x (by simp [Call.operands]), E y (by simp [Call.operands])]
  case h_21 x y s => rw [E x (by simp [Call.operands]), E y (by simp [Call.operands])]
  case h_22 => rfl

theorem readOp_agree {op : Op} {t t' : List AV} (h : Agree op t t') (m : Mem) : readOp P op t m = readOp P op t' m := by
  have E : ∀ x, x ∈ op.operands → ev P t x = ev P t' x := fun x hx => ev_agree fun i e => h i (e ▸ hx)
  unfold readOp
  split <;> simp only [Op.operands] at E
  · rw [E _ (by simp)]
  · rw [E _ (by simp)]
  · rename_i s x k ok; rw [E x (by simp), E k (by simp)]
  · rename_i x; rw [E x (by simp)]
  · rename_i x s; rw [E x (by simp [Call.operands])]
  · rfl

theorem allocOp_agree {op : Op} {t t' : List AV} (h : Agree op t t') : allocOp P op t = allocOp P op t' := by
  have E : ∀ x, x ∈ op.operands → ev P t x = ev P t' x := fun x hx => ev_agree fun i e => h i (e ▸ hx)
  unfold Agree at h
  unfold allocOp
  cases op <;> simp only [Op.operands] at E h
  case box e x => simp only []; rw [E x (by simp)]
  case buildSlice s len parts =>
    simp only []
    rw [evParts_agree (xs := parts.toList) (fun i e => h i (by simpa using e))]
  case makeSlice s l c => simp only []; rw [E l (by simp), E c (by simp)]
  case convert a b x => simp only []; rw [E x (by simp)]
  case makeMap s r => cases r <;> rfl
  all_goals rfl

noncomputable def effR (call : CallF) (P : Program) (op : Op) (t : List AV) (m : Mem) : R := effK call P op t m fun v m' => some (v, m')

theorem effK_bind (call : CallF) (op : Op) (t : List AV) (m : Mem) (K : AV → Mem → R) : effK call P op t m K = (effR call P op t m).bind fun r => K r.1 r.2 := by
  unfold effR effK
  split
  all_goals simp only [Option.bind_assoc, Option.bind_some, Option.bind_none]

theorem effR_agree {op : Op} {t t' : List AV} (h : Agree op t t') (call : CallF) (m : Mem) : effR call P op t m = effR call P op t' m := by
  have E : ∀ x, x ∈ op.operands → ev P t x = ev P t' x := fun x hx => ev_agree fun i e => h i (e ▸ hx)
  unfold Agree at h
  unfold effR effK
  split <;> simp only [Op.operands] at E h
  · rename_i a b c; rw [E b (by simp), E c (by simp)]
  · rename_i a b c d; rw [E a (by simp [Call.operands]), E b (by simp [Call.operands])]
  · rename_i a b c d; rw [E a (by simp [Call.operands]), E b (by simp [Call.operands])]
  · rename_i s x k v; rw [E x (by simp), E k (by simp), E v (by simp)]
  · rename_i s x k v; rw [E x (by simp), E k (by simp), E v (by simp)]
  · rename_i x k s ts; rw [E x (by simp [Call.operands]), E k (by simp [Call.operands])]
  · rename_i x s ts; rw [E x (by simp [Call.operands])]
  · rename_i f xs ts
    rw [E f (by simp [Call.operands]), evs_agree (xs := xs) (fun i e => h i (by simp [Call.operands, e]))]
  · rename_i s x; rw [E x (by simp)]
  · rfl

theorem effR_sound {call : CallF} (hcall : CallOk P call) {o : Oper} {t : List AV} {m : Mem} {v : AV} {m' : Mem} (h : effR call P o.op t m = some (v, m')) : OpOk P o t m v m' := by
  obtain ⟨v', m1, h1, h2⟩ := effK_sound hcall (o := o) (K := fun v m' => some (v, m')) h
  cases h1
  exact h2

noncomputable def wantedA (ops : List Oper) (o : Oper) (t : List AV) : Option Bool :=
  match o.guard with
  | none => some true
  | some (j, want) => match (ops[j]?).bind (·.dst) with
    | some d => match t.getD d .undef with
      | .bool b => some (b == want)
      | .tup [] => some false
      | _ => none
    | none => none

theorem guardA_wanted {all : List Oper} {o : Oper} {t : List AV} {sk : List Tmp} {y n : List AV → R} {r : AV × Mem} (h : guardA sk all o t y n = some r) : (wantedA all o t = some true ∧ y t = some r) ∨ (wantedA all o t = some false ∧ n t = some r) := by
  replace h := guardA_same h
  unfold guardA0 at h
  unfold wantedA
  split at h
  · rename_i hg; left; refine ⟨?_, h⟩; simp only [hg]
  · rename_i j want hg
    split at h
    · rename_i d hd
      split at h
      · rename_i b hb
        split at h
        · rename_i hbw; left; refine ⟨?_, h⟩; simp only [hg, hd, hb, hbw, beq_self_eq_true]
        · rename_i hbw; right; refine ⟨?_, h⟩; simp only [hg, hd, hb]; simpa using hbw
      · rename_i hb; right; refine ⟨?_, h⟩; simp only [hg, hd, hb]
      · simp at h
    · simp at h

theorem wantedA_true {all : List Oper} {o : Oper} {t : List AV} {b : Bool} (h : wantedA all o t = some b) (p : Phi) (tmps : Array Value) (ht : ∀ d, (match o.guard with | some (j, _) => (all[j]?).bind (·.dst) | none => none) = some d → VR p (t.getD d .undef) (tmps.getD d undef) ∧ d < tmps.size) :
    Region.wanted o (yielded ⟨all⟩ tmps) = b := by
  unfold wantedA at h
  split at h
  · rename_i hg; cases h; simp [Region.wanted, hg]
  · rename_i j want hg
    split at h
    · rename_i d hd
      split at h
      · rename_i c hb
        cases h
        obtain ⟨h1, h2⟩ := ht d (by simp only [hg]; exact hd)
        rw [hb] at h1
        simp only [VR] at h1
        have h3 : tmps[d]? = some (.bool c) := by
          rw [Array.getElem?_eq_getElem h2]
          rw [Array.getD_eq_getD_getElem?, Array.getElem?_eq_getElem h2] at h1
          simpa using h1
        have hd' : ((⟨all⟩ : Array Oper)[j]?).bind (·.dst) = some d := by simpa using hd
        simp only [Region.wanted, hg, yielded, hd', Option.bind_some, h3]
        cases c <;> cases want <;> rfl
      · rename_i hb
        cases h
        obtain ⟨h1, h2⟩ := ht d (by simp only [hg]; exact hd)
        rw [hb] at h1
        simp only [VR] at h1
        obtain ⟨vs, h1, _⟩ := h1
        have h3 : tmps[d]? = some (.tuple ⟨vs⟩) := by
          rw [Array.getElem?_eq_getElem h2]
          rw [Array.getD_eq_getD_getElem?, Array.getElem?_eq_getElem h2] at h1
          simpa using h1
        have hd' : ((⟨all⟩ : Array Oper)[j]?).bind (·.dst) = some d := by simpa using hd
        simp only [Region.wanted, hg, yielded, hd', Option.bind_some, h3]
        cases want <;> rfl
      · simp at h
    · simp at h

theorem chkE_spec {m : Mem} {c : List Nat} {K : R} {r : AV × Mem} : ∀ {rs : List (Nat × (Mem → Option AV) × AV)}, chkE m c rs K = some r → K = some r ∧ ∀ j f v, (j, f, v) ∈ rs → j ∈ c → f m = some v
  | [], h => ⟨h, by simp⟩
  | (j, f, v) :: rs, h => by
    simp only [chkE] at h
    split at h
    · rename_i hj
      split at h
      · rename_i hf
        obtain ⟨h1, h2⟩ := chkE_spec h
        refine ⟨h1, fun j' f' v' hm hc => ?_⟩
        rcases List.mem_cons.1 hm with e | e
        · cases e; exact hf
        · exact h2 _ _ _ e hc
      · simp at h
    · rename_i hj
      obtain ⟨h1, h2⟩ := chkE_spec h
      refine ⟨h1, fun j' f' v' hm hc => ?_⟩
      rcases List.mem_cons.1 hm with e | e
      · cases e; exact absurd hc hj
      · exact h2 _ _ _ e hc
theorem chkR_spec {f : Mem → Option AV} {v : AV} {c : List Nat} {K : R} {r : AV × Mem} : ∀ {es : List (Nat × Mem)}, chkR f v c es K = some r → K = some r ∧ ∀ j m, (j, m) ∈ es → j ∈ c → f m = some v
  | [], h => ⟨h, by simp⟩
  | (j, m) :: es, h => by
    simp only [chkR] at h
    split at h
    · rename_i hj
      split at h
      · rename_i hf
        obtain ⟨h1, h2⟩ := chkR_spec h
        refine ⟨h1, fun j' m' hm hc => ?_⟩
        rcases List.mem_cons.1 hm with e | e
        · cases e; exact hf
        · exact h2 _ _ e hc
      · simp at h
    · rename_i hj
      obtain ⟨h1, h2⟩ := chkR_spec h
      refine ⟨h1, fun j' m' hm hc => ?_⟩
      rcases List.mem_cons.1 hm with e | e
      · cases e; exact absurd hc hj
      · exact h2 _ _ e hc

structure Trace where
  T : Nat → List AV
  M : Nat → Mem
  W : Nat → Bool
  V : Nat → AV

structure StepOk (P : Program) (call : CallF) (all : List Oper) (chk : List (List Nat)) (τ : Trace) (j : Nat) (o : Oper) : Prop where
  wanted : wantedA all o (τ.T j) = some (τ.W j)
  tmps : τ.T (j + 1) = aput (τ.T j) o.dst (τ.V j)
  off : τ.W j = false → τ.V j = .tup [] ∧ τ.M (j + 1) = τ.M j
  pure : τ.W j = true → cls P o.op = .p → pureOp P o.op (τ.T j) = some (τ.V j) ∧ τ.M (j + 1) = τ.M j
  read : τ.W j = true → cls P o.op = .r → readOp P o.op (τ.T j) (τ.M j) = some (τ.V j) ∧ τ.M (j + 1) = τ.M j
  readC : τ.W j = true → cls P o.op = .r → ∀ k ok, k < j → all[k]? = some ok → τ.W k = true → cls P ok.op = .e → k ∈ chk.getD j [] → readOp P o.op (τ.T j) (τ.M k) = some (τ.V j)
  alloc : τ.W j = true → cls P o.op = .a → ∃ cs mk, allocOp P o.op (τ.T j) = some (cs, mk) ∧ τ.V j = mk (τ.M j).next ∧ τ.M (j + 1) = (τ.M j).lay cs
  eff : τ.W j = true → cls P o.op = .e → effR call P o.op (τ.T j) (τ.M j) = some (τ.V j, τ.M (j + 1))
  effC : τ.W j = true → cls P o.op = .e → ∀ k ok, k < j → all[k]? = some ok → τ.W k = true → cls P ok.op = .r → k ∈ chk.getD j [] → readOp P ok.op (τ.T k) (τ.M (j + 1)) = some (τ.V k)

noncomputable def Trace.upd (τ : Trace) (i : Nat) (t : List AV) (m : Mem) (w : Bool) (v : AV) : Trace where
  T := fun j => if j = i then t else τ.T j
  M := fun j => if j = i then m else τ.M j
  W := fun j => if j = i then w else τ.W j
  V := fun j => if j = i then v else τ.V j

theorem dopsK_trace {call : CallF} {all : List Oper} {chk : List (List Nat)} : ∀ (os : List Oper) (cs : List (List Nat)) (sk : List Tmp) (i : Nat) (h : Seen) (t : List AV) (m : Mem) (τ : Trace) {K : List AV → Mem → R} {r : AV × Mem},
    (∀ j, os[j]? = all[i + j]?) → (∀ j, cs[j]? = chk[i + j]?) →
    (∀ k ok, k < i → all[k]? = some ok → τ.W k = true → cls P ok.op = .r → (k, readOp P ok.op (τ.T k), τ.V k) ∈ h.rs) →
    (∀ k ok, k < i → all[k]? = some ok → τ.W k = true → cls P ok.op = .e → (k, τ.M k) ∈ h.es) →
    dopsK call P all cs os sk i h t m K = some r →
    ∃ σ : Trace, (∀ j, j < i → σ.T j = τ.T j ∧ σ.M j = τ.M j ∧ σ.W j = τ.W j ∧ σ.V j = τ.V j) ∧ σ.T i = t ∧ σ.M i = m ∧ K (σ.T (i + os.length)) (σ.M (i + os.length)) = some r ∧
      ∀ j o, i ≤ j → j < i + os.length → all[j]? = some o → StepOk P call all chk σ j o
  | [], cs, _, i, h, t, m, τ, K, r, _, _, _, _, hr => by
    have hr' : K t m = some r := by cases cs <;> simpa [dopsK] using hr
    refine ⟨τ.upd i t m false .undef, fun j hj => ?_, by simp [Trace.upd], by simp [Trace.upd], by simpa [Trace.upd] using hr', fun j o h1 h2 => by simp at h2; omega⟩
    simp [Trace.upd, show j ≠ i by omega]
  | o :: os, [], _, i, h, t, m, τ, K, r, _, _, _, _, hr => by simp [dopsK] at hr
  | o :: os, c :: cs, sk, i, h, t, m, τ, K, r, hall, hchk, hrs, hes, hr => by
    have hi : all[i]? = some o := by have := hall 0; simpa using this.symm
    have hci : chk.getD i [] = c := by have := hchk 0; rw [List.getD_eq_getElem?_getD]; simp at this; simp [← this]
    have hall' : ∀ j, os[j]? = all[i + 1 + j]? := fun j => by
      have := hall (j + 1)
      rw [List.getElem?_cons_succ] at this
      rw [this]; congr 1; omega
    have hchk' : ∀ j, cs[j]? = chk[i + 1 + j]? := fun j => by
      have := hchk (j + 1)
      rw [List.getElem?_cons_succ] at this
      rw [this]; congr 1; omega
    have glue : ∀ {sk' : List Tmp} (b : Bool) (v : AV) (m' : Mem) (h' : Seen) , wantedA all o t = some b →
        dopsK call P all cs os sk' (i + 1) h' (aput t o.dst v) m' K = some r →
        (∀ x, x ∈ h.rs → x ∈ h'.rs) → (∀ x, x ∈ h.es → x ∈ h'.es) →
        (b = true → cls P o.op = .r → (i, readOp P o.op t, v) ∈ h'.rs) → (b = true → cls P o.op = .e → (i, m) ∈ h'.es) →
        (∀ σ : Trace, (∀ j, j < i → σ.T j = τ.T j ∧ σ.M j = τ.M j ∧ σ.W j = τ.W j ∧ σ.V j = τ.V j) → σ.T i = t → σ.M i = m → σ.W i = b → σ.V i = v → σ.T (i + 1) = aput t o.dst v → σ.M (i + 1) = m' → StepOk P call all chk σ i o) →
        ∃ σ : Trace, (∀ j, j < i → σ.T j = τ.T j ∧ σ.M j = τ.M j ∧ σ.W j = τ.W j ∧ σ.V j = τ.V j) ∧ σ.T i = t ∧ σ.M i = m ∧ K (σ.T (i + (o :: os).length)) (σ.M (i + (o :: os).length)) = some r ∧
          ∀ j o', i ≤ j → j < i + (o :: os).length → all[j]? = some o' → StepOk P call all chk σ j o' := by
      intro sk' b v m' h' hw hd hrs' hes' hri hei hstep
      obtain ⟨σ, s1, s2, s3, s4, s5⟩ := dopsK_trace os cs sk' (i + 1) h' (aput t o.dst v) m' (τ.upd i t m b v) hall' hchk'
        (fun k ok hk hok hwk hc => by
          by_cases e : k = i
          · subst e; rw [hi] at hok; cases hok
            simp only [Trace.upd, if_true] at hwk ⊢
            exact hri hwk hc
          · simp only [Trace.upd, if_neg e] at hwk ⊢
            exact hrs' _ (hrs k ok (by omega) hok hwk hc))
        (fun k ok hk hok hwk hc => by
          by_cases e : k = i
          · subst e; rw [hi] at hok; cases hok
            simp only [Trace.upd, if_true] at hwk ⊢
            exact hei hwk hc
          · simp only [Trace.upd, if_neg e] at hwk ⊢
            exact hes' _ (hes k ok (by omega) hok hwk hc)) hd
      have hlow : ∀ j, j < i → σ.T j = τ.T j ∧ σ.M j = τ.M j ∧ σ.W j = τ.W j ∧ σ.V j = τ.V j := fun j hj => by
        have := s1 j (by omega)
        simpa [Trace.upd, show j ≠ i by omega] using this
      have hhere : σ.T i = t ∧ σ.M i = m ∧ σ.W i = b ∧ σ.V i = v := by
        have := s1 i (by omega)
        simpa [Trace.upd] using this
      refine ⟨σ, hlow, hhere.1, hhere.2.1, ?_, fun j o' h1 h2 h3 => ?_⟩
      · rw [show i + (o :: os).length = i + 1 + os.length by simp; omega]; exact s4
      · by_cases e : j = i
        · subst e; rw [hi] at h3; cases h3
          exact hstep σ hlow hhere.1 hhere.2.1 hhere.2.2.1 hhere.2.2.2 s2 s3
        · exact s5 j o' (by omega) (by simp at h2; omega) h3
    simp only [dopsK] at hr
    rcases guardA_wanted hr with ⟨hw, hr⟩ | ⟨hw, hr⟩
    · split at hr
      · rename_i hc
        obtain ⟨v, hv, hr⟩ := Option.bind_eq_some_iff.1 hr
        refine glue true v m h hw hr (fun _ h => h) (fun _ h => h) (fun _ e => absurd (hc.symm.trans e) (by decide)) (fun _ e => absurd (hc.symm.trans e) (by decide)) fun σ _ a1 a2 a3 a4 a5 a6 => ?_
        exact ⟨by rw [a1, a3]; exact hw, by rw [a5, a1, a4], by simp [a3], fun _ _ => by rw [a1, a4, a6, a2]; exact ⟨hv, rfl⟩, fun _ e => absurd (hc.symm.trans e) (by decide), fun _ e => absurd (hc.symm.trans e) (by decide),
          fun _ e => absurd (hc.symm.trans e) (by decide), fun _ e => absurd (hc.symm.trans e) (by decide), fun _ e => absurd (hc.symm.trans e) (by decide)⟩
      · rename_i hc
        obtain ⟨v, hv, hr⟩ := Option.bind_eq_some_iff.1 hr
        obtain ⟨hr, hck⟩ := chkR_spec hr
        refine glue true v m _ hw hr (fun _ h => by simp [h]) (fun _ h => h) (fun _ _ => by simp) (fun _ e => absurd (hc.symm.trans e) (by decide)) fun σ a0 a1 a2 a3 a4 a5 a6 => ?_
        refine ⟨by rw [a1, a3]; exact hw, by rw [a5, a1, a4], by simp [a3], fun _ e => absurd (hc.symm.trans e) (by decide), fun _ _ => by rw [a1, a4, a6, a2]; exact ⟨hv, rfl⟩, fun _ _ k ok hk hok hwk hck' hmem => ?_,
          fun _ e => absurd (hc.symm.trans e) (by decide), fun _ e => absurd (hc.symm.trans e) (by decide), fun _ e => absurd (hc.symm.trans e) (by decide)⟩
        obtain ⟨b1, b2, b3, b4⟩ := a0 k hk
        rw [a1, a4, b2]
        exact hck k _ (hes k ok hk hok (by rw [← b3]; exact hwk) hck') (by rw [hci] at hmem; exact hmem)
      · rename_i hc
        obtain ⟨⟨cs', mk⟩, hv, hr⟩ := Option.bind_eq_some_iff.1 hr
        refine glue true _ _ h hw hr (fun _ h => h) (fun _ h => h) (fun _ e => absurd (hc.symm.trans e) (by decide)) (fun _ e => absurd (hc.symm.trans e) (by decide)) fun σ _ a1 a2 a3 a4 a5 a6 => ?_
        exact ⟨by rw [a1, a3]; exact hw, by rw [a5, a1, a4], by simp [a3], fun _ e => absurd (hc.symm.trans e) (by decide), fun _ e => absurd (hc.symm.trans e) (by decide), fun _ e => absurd (hc.symm.trans e) (by decide),
          fun _ _ => ⟨cs', mk, by rw [a1]; exact hv, by rw [a4, a2], by rw [a6, a2]⟩, fun _ e => absurd (hc.symm.trans e) (by decide), fun _ e => absurd (hc.symm.trans e) (by decide)⟩
      · rename_i hc
        rw [effK_bind] at hr
        obtain ⟨⟨v, m'⟩, hv, hr⟩ := Option.bind_eq_some_iff.1 hr
        obtain ⟨hr, hck⟩ := chkE_spec hr
        refine glue true v m' _ hw hr (fun _ h => h) (fun _ h => by simp [h]) (fun _ e => absurd (hc.symm.trans e) (by decide)) (fun _ _ => by simp) fun σ a0 a1 a2 a3 a4 a5 a6 => ?_
        refine ⟨by rw [a1, a3]; exact hw, by rw [a5, a1, a4], by simp [a3], fun _ e => absurd (hc.symm.trans e) (by decide), fun _ e => absurd (hc.symm.trans e) (by decide), fun _ e => absurd (hc.symm.trans e) (by decide),
          fun _ e => absurd (hc.symm.trans e) (by decide), fun _ _ => by rw [a1, a2, a4, a6]; exact hv, fun _ _ k ok hk hok hwk hck' hmem => ?_⟩
        obtain ⟨b1, b2, b3, b4⟩ := a0 k hk
        rw [a6, b1, b4]
        exact hck k _ _ (hrs k ok hk hok (by rw [← b3]; exact hwk) hck') (by rw [hci] at hmem; exact hmem)
    · refine glue false (.tup []) m h hw hr (fun _ h => h) (fun _ h => h) (fun e => absurd e (by decide)) (fun e => absurd e (by decide)) fun σ _ a1 a2 a3 a4 a5 a6 => ?_
      exact ⟨by rw [a1, a3]; exact hw, by rw [a5, a1, a4], fun _ => by rw [a4, a6, a2]; exact ⟨rfl, rfl⟩, fun e => absurd (a3.symm.trans e) (by decide), fun e => absurd (a3.symm.trans e) (by decide), fun e => absurd (a3.symm.trans e) (by decide),
        fun e => absurd (a3.symm.trans e) (by decide), fun e => absurd (a3.symm.trans e) (by decide), fun e => absurd (a3.symm.trans e) (by decide)⟩
end
end Go.Abs
end
section
namespace Go.Abs
open Go

section
variable {P : Program}

theorem rOk_spec {all : List Oper} {anc chk : List (List Nat)} (h : rOk P all anc chk = true) {j : Nat} {oj : Oper} (hj : all[j]? = some oj) :
    ancRow anc j oj = true ∧ ∀ i oi, i < j → all[i]? = some oi → pairOk P all anc chk i j oi oj = true := by
  have hlt : j < all.length := (List.getElem?_eq_some_iff.1 hj).1
  have h1 := List.all_eq_true.1 h j (List.mem_range.2 hlt)
  simp only [rowOk, hj, Bool.and_eq_true] at h1
  refine ⟨h1.1, fun i oi hi hoi => ?_⟩
  have := List.all_eq_true.1 h1.2 i (List.mem_range.2 hi)
  simpa only [hoi] using this

theorem anc_in {all : List Oper} {anc chk : List (List Nat)} (h : rOk P all anc chk = true) {S : Nat → Bool} (hS : ∀ j o, all[j]? = some o → S j = true → ∀ e ∈ edgesOf o, S e = true) :
    ∀ (j : Nat) (o : Oper), all[j]? = some o → (∀ e ∈ edgesOf o, S e = true) → ∀ x ∈ anc.getD j [], S x = true := by
  intro j
  induction j using Nat.strongRecOn with
  | _ j ih =>
    intro o ho he x hx
    have h1 := (rOk_spec h ho).1
    simp only [ancRow, Bool.and_eq_true] at h1
    have h2 := List.all_eq_true.1 h1.1.2 x hx
    have h3 := List.all_eq_true.1 h1.1.1
    rw [Bool.or_eq_true] at h2
    rcases h2 with h2 | h2
    · exact he x (by simpa using h2)
    · obtain ⟨e, h4, h5⟩ := List.any_eq_true.1 h2
      have hlt : e < j := by simpa using h3 e h4
      have hoe : ∃ oe, all[e]? = some oe := ⟨all[e]'(by have := (List.getElem?_eq_some_iff.1 ho).1; omega), by rw [List.getElem?_eq_getElem]⟩
      obtain ⟨oe, hoe⟩ := hoe
      exact ih e hlt oe hoe (hS e oe hoe (he e h4)) x (by simpa using h5)

def dstOf (all : List Oper) (k : Nat) : Option Tmp := (all[k]?).bind (·.dst)
noncomputable def stepS (all : List Oper) (V : Nat → AV) (S : Nat → Bool) (t : List AV) (k : Nat) : List AV := if S k then aput t (dstOf all k) (V k) else t
noncomputable def tmpsS (all : List Oper) (V : Nat → AV) (S : Nat → Bool) (t0 : List AV) : List AV := (List.range all.length).foldl (stepS all V S) t0

theorem aput_length (t : List AV) (d : Option Tmp) (v : AV) : (aput t d v).length = t.length := by cases d <;> simp [aput, setF_eq]
theorem aput_getD (t : List AV) (d : Option Tmp) (v : AV) (x : Nat) (hx : x < t.length) : (aput t d v).getD x .undef = if d = some x then v else t.getD x .undef := by
  cases d with
  | none => simp [aput]
  | some d =>
    simp only [aput, setF_eq, List.getD_eq_getElem?_getD, Option.some.injEq]
    by_cases e : d = x
    · subst e; simp [hx]
    · rw [List.getElem?_set_ne e, if_neg e]
theorem stepS_length (all : List Oper) (V : Nat → AV) (S : Nat → Bool) (t : List AV) (k : Nat) : (stepS all V S t k).length = t.length := by
  unfold stepS; split
  · exact aput_length _ _ _
  · rfl
theorem foldS_length (all : List Oper) (V : Nat → AV) (S : Nat → Bool) : ∀ (l : List Nat) (t : List AV), (l.foldl (stepS all V S) t).length = t.length
  | [], _ => rfl
  | k :: l, t => by rw [List.foldl_cons, foldS_length all V S l, stepS_length]

theorem foldS_agree (all : List Oper) (V : Nat → AV) {S S' : Nat → Bool} {x : Nat} : ∀ (l : List Nat) (t t' : List AV), (∀ k ∈ l, dstOf all k = some x → S k = S' k) → x < t.length → t.length = t'.length → t.getD x .undef = t'.getD x .undef →
    (l.foldl (stepS all V S) t).getD x .undef = (l.foldl (stepS all V S') t').getD x .undef
  | [], _, _, _, _, _, h => h
  | k :: l, t, t', hS, hx, hl, h => by
    rw [List.foldl_cons, List.foldl_cons]
    refine foldS_agree all V l _ _ (fun j hj => hS j (by simp [hj])) (by rw [stepS_length]; exact hx) (by rw [stepS_length, stepS_length]; exact hl) ?_
    unfold stepS
    by_cases hd : dstOf all k = some x
    · rw [hS k (by simp) hd]
      split
      · rw [aput_getD _ _ _ _ hx, aput_getD _ _ _ _ (by omega), hd]; simp
      · exact h
    · have e1 : ∀ (b : Bool) (t : List AV), x < t.length → (if b = true then aput t (dstOf all k) (V k) else t).getD x .undef = t.getD x .undef := by
        intro b t ht
        cases b with
        | false => rfl
        | true => rw [if_pos rfl, aput_getD _ _ _ _ ht, if_neg hd]
      rw [e1 _ _ hx, e1 _ _ (by omega)]; exact h

theorem foldS_none (all : List Oper) (V : Nat → AV) {S : Nat → Bool} {x : Nat} : ∀ (l : List Nat) (t : List AV), (∀ k ∈ l, S k = true → dstOf all k ≠ some x) → x < t.length → (l.foldl (stepS all V S) t).getD x .undef = t.getD x .undef
  | [], _, _, _ => rfl
  | k :: l, t, hS, hx => by
    rw [List.foldl_cons, foldS_none all V l _ (fun j hj => hS j (by simp [hj])) (by rw [stepS_length]; exact hx)]
    unfold stepS
    split
    · rename_i h; rw [aput_getD _ _ _ _ hx, if_neg (hS k (by simp) h)]
    · rfl

theorem range_split {n i : Nat} (h : i < n) : List.range n = List.range i ++ i :: List.range' (i + 1) (n - (i + 1)) := by
  rw [List.range_eq_range', List.range_eq_range']
  have : n = i + (1 + (n - (i + 1))) := by omega
  conv => lhs; rw [this]
  rw [← List.range'_append_1]
  congr 1
  rw [Nat.zero_add, Nat.add_comm 1, List.range'_succ]

theorem tmpsS_last {all : List Oper} {V : Nat → AV} {S : Nat → Bool} {t0 : List AV} {i x : Nat} (hi : i < all.length) (hSi : S i = true) (hd : dstOf all i = some x) (hx : x < t0.length)
    (hlast : ∀ k, i < k → S k = true → dstOf all k ≠ some x) : (tmpsS all V S t0).getD x .undef = V i := by
  unfold tmpsS
  rw [range_split hi, List.foldl_append, List.foldl_cons]
  rw [foldS_none all V _ _ (fun k hk hS => hlast k (by have := List.mem_range'_1.1 hk; omega) hS) (by rw [stepS_length, foldS_length]; exact hx)]
  have hlen := foldS_length all V S (List.range i) t0
  generalize (List.range i).foldl (stepS all V S) t0 = f at *
  unfold stepS
  rw [if_pos hSi, aput_getD _ _ _ _ (by omega), if_pos hd]

theorem T_eq {call : CallF} {all : List Oper} {chk : List (List Nat)} {τ : Trace} (hτ : ∀ j o, j < all.length → all[j]? = some o → StepOk P call all chk τ j o) :
    ∀ j, j ≤ all.length → τ.T j = (List.range j).foldl (stepS all τ.V fun _ => true) (τ.T 0) := by
  intro j
  induction j with
  | zero => intro _; rfl
  | succ j ih =>
    intro hj
    have ho : all[j]? = some (all[j]'(by omega)) := List.getElem?_eq_getElem (by omega)
    rw [List.range_succ, List.foldl_append, ← ih (by omega), (hτ j _ (by omega) ho).tmps]
    simp [stepS, dstOf, ho]

theorem T_length {call : CallF} {all : List Oper} {chk : List (List Nat)} {τ : Trace} (hτ : ∀ j o, j < all.length → all[j]? = some o → StepOk P call all chk τ j o) {j : Nat} (hj : j ≤ all.length) : (τ.T j).length = (τ.T 0).length := by
  rw [T_eq hτ j hj, foldS_length]

theorem T_getD {call : CallF} {all : List Oper} {chk : List (List Nat)} {τ : Trace} (hτ : ∀ j o, j < all.length → all[j]? = some o → StepOk P call all chk τ j o) {j : Nat} (hj : j ≤ all.length) {S : Nat → Bool} {x : Nat} (hx : x < (τ.T 0).length)
    (hS : ∀ k, k < all.length → dstOf all k = some x → S k = decide (k < j)) : (tmpsS all τ.V S (τ.T 0)).getD x .undef = (τ.T j).getD x .undef := by
  rw [T_eq hτ j hj]
  unfold tmpsS
  have hsp : List.range all.length = List.range j ++ List.range' j (all.length - j) := by
    rw [List.range_eq_range', List.range_eq_range']
    conv => lhs; rw [show all.length = j + (all.length - j) by omega]
    rw [← List.range'_append_1, Nat.zero_add]
  rw [hsp, List.foldl_append]
  rw [foldS_none all τ.V _ _ (fun k hk hSk hd => by
    have := List.mem_range'_1.1 hk
    rw [hS k (by omega) hd] at hSk
    simp at hSk; omega) (by rw [foldS_length]; exact hx)]
  exact foldS_agree all τ.V _ _ _ (fun k hk hd => by
    have := List.mem_range.1 hk
    rw [hS k (by omega) hd]; simp; omega) hx rfl rfl
end
end Go.Abs
end
section
namespace Go.Abs
open Go

section
variable {P : Program} {call : CallF} {all : List Oper} {chk anc : List (List Nat)} {τ : Trace}

def Eff (P : Program) (all : List Oper) (τ : Trace) (k : Nat) : Prop := ∃ o, all[k]? = some o ∧ τ.W k = true ∧ cls P o.op = .e
def New (P : Program) (all : List Oper) (τ : Trace) (k : Nat) (cs : Blk) : Prop := ∃ o mk, all[k]? = some o ∧ τ.W k = true ∧ cls P o.op = .a ∧ allocOp P o.op (τ.T k) = some (cs, mk)

def Steps' (P : Program) (call : CallF) (all : List Oper) (chk : List (List Nat)) (τ : Trace) : Prop := ∀ j o, j < all.length → all[j]? = some o → StepOk P call all chk τ j o

theorem Eff.lt {k : Nat} (h : Eff P all τ k) : k < all.length := let ⟨_, h, _⟩ := h; (List.getElem?_eq_some_iff.1 h).1
theorem New.lt {k : Nat} {cs : Blk} (h : New P all τ k cs) : k < all.length := let ⟨_, _, h, _⟩ := h; (List.getElem?_eq_some_iff.1 h).1
theorem New.not_eff {k : Nat} {cs : Blk} (h : New P all τ k cs) : ¬ Eff P all τ k := by
  rintro ⟨o, h1, _, h2⟩
  obtain ⟨o', mk, h3, _, h4, _⟩ := h
  rw [h1] at h3; cases h3
  rw [h2] at h4; cases h4

theorem step_quiet (hτ : Steps' P call all chk τ) {k : Nat} (hk : k < all.length) (h : ¬ Eff P all τ k) :
    (τ.M (k + 1) = τ.M k ∧ ∀ cs, ¬ New P all τ k cs) ∨ ∃ cs, New P all τ k cs ∧ τ.M (k + 1) = (τ.M k).lay cs := by
  have ho : all[k]? = some (all[k]) := List.getElem?_eq_getElem hk
  have hs := hτ k _ hk ho
  cases hW : τ.W k with
  | false =>
    refine .inl ⟨(hs.off hW).2, ?_⟩
    rintro cs ⟨o, mk, _, h1, _⟩
    rw [hW] at h1; cases h1
  | true =>
    cases hc : cls P (all[k]).op with
    | p =>
      refine .inl ⟨(hs.pure hW hc).2, ?_⟩
      rintro cs ⟨o, mk, h0, _, h1, _⟩
      rw [ho] at h0; cases h0
      rw [hc] at h1; cases h1
    | r =>
      refine .inl ⟨(hs.read hW hc).2, ?_⟩
      rintro cs ⟨o, mk, h0, _, h1, _⟩
      rw [ho] at h0; cases h0
      rw [hc] at h1; cases h1
    | a =>
      obtain ⟨cs, mk, h1, h2, h3⟩ := hs.alloc hW hc
      exact .inr ⟨cs, ⟨_, mk, ho, hW, hc, h1⟩, h3⟩
    | e => exact absurd ⟨_, ho, hW, hc⟩ h

theorem New.next (hτ : Steps' P call all chk τ) {k : Nat} {cs : Blk} (h : New P all τ k cs) : τ.M (k + 1) = (τ.M k).lay cs := by
  obtain ⟨o, mk, h1, h2, h3, h4⟩ := h
  obtain ⟨cs', mk', h5, _, h6⟩ := (hτ k o (List.getElem?_eq_some_iff.1 h1).1 h1).alloc h2 h3
  rw [h4] at h5; cases h5
  exact h6

theorem next_step (hcall : CallOk P call) (hτ : Steps' P call all chk τ) {k : Nat} (hk : k < all.length) : (τ.M k).next ≤ (τ.M (k + 1)).next := by
  by_cases he : Eff P all τ k
  · obtain ⟨o, h1, h2, h3⟩ := he
    exact (effR_sound hcall ((hτ k o hk h1).eff h2 h3)).1
  · rcases step_quiet hτ hk he with ⟨h, _⟩ | ⟨cs, _, h⟩
    · rw [h]; exact Nat.le_refl _
    · rw [h]; simp
theorem next_mono (hcall : CallOk P call) (hτ : Steps' P call all chk τ) {j k : Nat} (hjk : j ≤ k) (hk : k ≤ all.length) : (τ.M j).next ≤ (τ.M k).next := by
  induction k with
  | zero => have : j = 0 := by omega
            subst this; exact Nat.le_refl _
  | succ k ih =>
    by_cases e : j = k + 1
    · subst e; exact Nat.le_refl _
    · exact Nat.le_trans (ih (by omega) (by omega)) (next_step hcall hτ (by omega))
theorem New.lt_next (hcall : CallOk P call) (hτ : Steps' P call all chk τ) {i k : Nat} {cs : Blk} (h : New P all τ i cs) (hik : i < k) (hk : k ≤ all.length) : (τ.M i).next < (τ.M k).next := by
  have h1 := h.next hτ
  have h2 := next_mono hcall hτ (j := i + 1) (k := k) (by omega) hk
  rw [h1] at h2; simp at h2; omega
theorem New.inj (hcall : CallOk P call) (hτ : Steps' P call all chk τ) {i k : Nat} {cs ds : Blk} (h : New P all τ i cs) (h' : New P all τ k ds) (e : (τ.M i).next = (τ.M k).next) : i = k := by
  have a := h.lt
  have b := h'.lt
  rcases Nat.lt_trichotomy i k with c | c | c
  · have := h.lt_next hcall hτ c (by omega); omega
  · exact c
  · have := h'.lt_next hcall hτ c (by omega); omega
theorem New.cells {i : Nat} {cs ds : Blk} (h : New P all τ i cs) (h' : New P all τ i ds) : cs = ds := by
  obtain ⟨o, mk, h1, _, _, h4⟩ := h
  obtain ⟨o', mk', h5, _, _, h6⟩ := h'
  rw [h1] at h5; cases h5
  rw [h4] at h6; cases h6; rfl

theorem ext (hcall : CallOk P call) (hτ : Steps' P call all chk τ) {j k : Nat} (hjk : j ≤ k) (hk : k ≤ all.length) (hno : ∀ i, j ≤ i → i < k → ¬ Eff P all τ i) :
    (∀ b, b < (τ.M j).next → (τ.M k).get b = (τ.M j).get b) ∧ (∀ i cs, j ≤ i → i < k → New P all τ i cs → (τ.M k).get (τ.M i).next = some cs) ∧
    (∀ b, (τ.M j).next ≤ b → b < (τ.M k).next → ∃ i cs, j ≤ i ∧ i < k ∧ New P all τ i cs ∧ b = (τ.M i).next) := by
  induction k with
  | zero =>
    have : j = 0 := by omega
    subst this
    exact ⟨fun _ _ => rfl, fun i cs _ h => by omega, fun b h1 h2 => by omega⟩
  | succ k ih =>
    by_cases e : j = k + 1
    · subst e
      exact ⟨fun _ _ => rfl, fun i cs _ h => by omega, fun b h1 h2 => by omega⟩
    · obtain ⟨i1, i2, i3⟩ := ih (by omega) (by omega) (fun i h1 h2 => hno i h1 (by omega))
      rcases step_quiet hτ (by omega) (hno k (by omega) (by omega)) with ⟨h, hn⟩ | ⟨cs, hn, h⟩
      · rw [h]
        refine ⟨i1, fun i cs h1 h2 h3 => ?_, fun b h1 h2 => ?_⟩
        · by_cases e2 : i = k
          · subst e2; exact absurd h3 (hn cs)
          · exact i2 i cs h1 (by omega) h3
        · obtain ⟨i, cs, g1, g2, g3⟩ := i3 b h1 h2
          exact ⟨i, cs, g1, by omega, g3⟩
      · rw [h]
        have hle := next_mono hcall hτ (j := j) (k := k) (by omega) (by omega)
        refine ⟨fun b hb => ?_, fun i ds h1 h2 h3 => ?_, fun b h1 h2 => ?_⟩
        · rw [Mem.get_lay, if_neg (by omega)]; exact i1 b hb
        · rw [Mem.get_lay]
          by_cases e2 : i = k
          · subst e2; rw [if_pos rfl, hn.cells h3]
          · have := h3.lt_next hcall hτ (k := k) (by omega) (by omega)
            rw [if_neg (by omega)]; exact i2 i ds h1 (by omega) h3
        · simp only [Mem.next_lay] at h2
          by_cases e2 : b = (τ.M k).next
          · exact ⟨k, cs, by omega, by omega, hn, e2⟩
          · obtain ⟨i, ds, g1, g2, g3⟩ := i3 b h1 (by omega)
            exact ⟨i, ds, g1, by omega, g3⟩

theorem readOp_mono {op : Op} {t : List AV} {m m' : Mem} {v : AV} (hm : ∀ b blk, m.get b = some blk → m'.get b = some blk) (h : readOp P op t m = some v) : readOp P op t m' = some v := by
  have hld : ∀ (a : AA) (n : Nat) (vs : List AV), ldCells m a n = some vs → ldCells m' a n = some vs := by
    intro a n vs h
    obtain ⟨cs, ro, h1, h2, rfl⟩ := ldCells_spec h
    simp only [ldCells, hm _ _ h1, if_pos h2]
  have hl1 : ∀ (x v : AV), ld1 m x = some v → ld1 m' x = some v := by
    intro x v h
    unfold ld1 at h ⊢
    split at h
    · split at h
      · rename_i cs hc
        simp only [hm _ _ hc]; exact h
      · simp at h
    · simp at h
  have hmap : ∀ (x : AV) es, mapOf m x = some es → mapOf m' x = some es := by
    intro x es h
    unfold mapOf at h ⊢
    split at h
    · exact h
    · split at h
      · rename_i hc; simp only [hm _ _ hc]; exact h
      · cases h
    · cases h
  have hlN : ∀ (x v : AV) (n : Nat), ldN m x n = some v → ldN m' x n = some v := by
    intro x v n h
    unfold ldN at h ⊢
    split at h
    · obtain ⟨vs, h1, rfl⟩ := Option.map_eq_some_iff.1 h
      simp only [hld _ _ _ h1]; rfl
    · simp at h
  unfold readOp at h ⊢
  split at h
  · obtain ⟨x, h1, h⟩ := Option.bind_eq_some_iff.1 h
    rw [h1]
    simp only [Option.bind_some]
    unfold loadA at h ⊢
    split at h
    · simp at h
    · split at h
      · obtain ⟨n, h2, h⟩ := Option.bind_eq_some_iff.1 h
        rename_i hd ha
        simp only [if_true, h2, Option.bind_some, hd]
        exact hlN _ _ _ h
      · rename_i hd ha
        rw [if_neg ha]; exact hl1 _ _ h
  · obtain ⟨x, h1, h⟩ := Option.bind_eq_some_iff.1 h
    rw [h1]
    simp only [Option.bind_some]
    unfold toStrA at h ⊢
    split at h
    · rename_i e hd
      split at h
      · rename_i he
        split at h
        · exact h
        · obtain ⟨bs, h2, rfl⟩ := Option.map_eq_some_iff.1 h
          obtain ⟨cs, h3, h4⟩ := Option.bind_eq_some_iff.1 h2
          simp only [hld _ _ _ h3, Option.bind_some, h4, Option.map_some]
        · simp at h
      · simp at h
    · simp at h
  · obtain ⟨x, h1, h⟩ := Option.bind_eq_some_iff.1 h
    obtain ⟨k, h2, h⟩ := Option.bind_eq_some_iff.1 h
    rw [h1, h2]
    simp only [Option.bind_some]
    unfold lookupA at h ⊢
    split at h
    · obtain ⟨d, h3, h⟩ := Option.bind_eq_some_iff.1 h
      obtain ⟨es, h4, h⟩ := Option.bind_eq_some_iff.1 h
      simp only [h3, Option.bind_some, hmap _ _ h4]
      exact h
    · cases h
  · obtain ⟨x, h1, h⟩ := Option.bind_eq_some_iff.1 h
    rw [h1]
    simp only [Option.bind_some]
    unfold entryA at h ⊢
    split at h
    · rename_i a
      split at h
      · rename_i b left e ha hg
        simp only [ha, hm _ _ hg]
        split at h
        · rename_i es c hb
          simp only [hm _ _ hb]
          exact h
        · cases h
      · cases h
    · cases h
  · obtain ⟨x, h1, h⟩ := Option.bind_eq_some_iff.1 h
    rw [h1]
    simp only [Option.bind_some]
    unfold lenM at h ⊢
    split at h
    · obtain ⟨es, h4, rfl⟩ := Option.map_eq_some_iff.1 h
      simp only [hmap _ _ h4, Option.map_some]
    · cases h
  · simp at h

theorem MR.grow {P : Program} {p : Phi} {m m' : Mem} {w : World} (h : MR P p m w) (hn : m.next ≤ m'.next) (hlo : ∀ b, b < m.next → m'.get b = m.get b)
    (hlive : ∀ b v ci, m.next ≤ b → m'.get b = some v → p b = some ci → ∃ o, w.heap[ci.c]? = some o ∧ BR P p ci v o)
    (hinj : ∀ b ci b2 ci2, m.next ≤ b → (m'.get b).isSome = true → p b = some ci → p b2 = some ci2 → ci.c = ci2.c → b = b2 ∨ (b2 < m'.next ∧ m'.get b2 = none)) : MR P p m' w where
  has := fun b v ci h1 h2 => by
    by_cases hb : b < m.next
    · rw [hlo b hb] at h1; exact h.has b v ci h1 h2
    · exact hlive b v ci (by omega) h1 h2
  inj := fun b ci b2 ci2 h1 h2 h3 h4 => by
    by_cases hb : b < m.next
    · rw [hlo b hb] at h1
      rcases h.inj b ci b2 ci2 h1 h2 h3 h4 with e | ⟨e, e'⟩
      · exact .inl e
      · exact .inr ⟨by omega, by rw [hlo b2 e]; exact e'⟩
    · exact hinj b ci b2 ci2 (by omega) h1 h2 h3 h4
  bnd := h.bnd
  glob := h.glob

structure DInv (P : Program) (all : List Oper) (τ : Trace) (p0 : Phi) (w0 : World) (a0 : Act) (S : Nat → Bool) (q : Nat) (p : Phi) (a : Act) (w : World) : Prop where
  qle : q ≤ all.length
  qeff : q = all.length ∨ Eff P all τ q
  lo : ∀ k, k < q → Eff P all τ k → S k = true
  hi : ∀ k, q ≤ k → Eff P all τ k → S k = false
  closed : ∀ j o, all[j]? = some o → S j = true → ∀ e ∈ edgesOf o, S e = true
  inb : ∀ j, S j = true → j < all.length
  size : a.tmps.size = (τ.T 0).length
  tmps : ∀ x, x < (τ.T 0).length → VR p ((tmpsS all τ.V S (τ.T 0)).getD x .undef) (a.tmps.getD x undef)
  defers : a.defers = a0.defers
  rel : MR P p (τ.M q) w
  le : p0.le p
  out : ∀ b, ¬ ((τ.M 0).next ≤ b ∧ b < (τ.M all.length).next) → p b = p0 b
  above : ∀ b ci, (τ.M q).next ≤ b → b < (τ.M all.length).next → p b = some ci → ∃ i cs, q ≤ i ∧ S i = true ∧ New P all τ i cs ∧ b = (τ.M i).next
  late : ∀ i cs, i < q → New P all τ i cs → S i = false → p (τ.M i).next = none ∧ (τ.M q).get (τ.M i).next = some cs
  early : ∀ i cs, q ≤ i → New P all τ i cs → S i = true → ∃ ci o, p (τ.M i).next = some ci ∧ w.heap[ci.c]? = some o ∧ BR P p ci cs o
  earlyInj : ∀ b ci b2 ci2, (τ.M q).next ≤ b → b < (τ.M all.length).next → (τ.M q).next ≤ b2 → p b = some ci → p b2 = some ci2 → ci.c = ci2.c → b = b2
  keepA : ∀ b, b < (τ.M 0).next → p0 b = none → (τ.M q).get b = (τ.M 0).get b
  dead : ∀ b, b < (τ.M 0).next → (τ.M 0).get b = none → (τ.M q).get b = none
  keepC : ∀ c, c < w0.heap.size → (∀ b ci, ((τ.M 0).get b).isSome = true → p0 b = some ci → ci.c ≠ c) → w.heap[c]? = w0.heap[c]?
  fresh : ∀ b ci, (τ.M 0).next ≤ b → b < (τ.M all.length).next → p b = some ci → w0.heap.size ≤ ci.c ∨ ∃ b0 ci0, ((τ.M 0).get b0).isSome = true ∧ p0 b0 = some ci0 ∧ ci0.c = ci.c
  ro : ∀ b cs ci, (τ.M 0).get b = some (.cells cs true) → p0 b = some ci → (τ.M q).get b = some (.cells cs true) ∧ w.heap[ci.c]? = w0.heap[ci.c]?
  bnd0 : ∀ b ci, p0 b = some ci → ci.c < w0.heap.size
  wsize : w0.heap.size ≤ w.heap.size
  os : w.os = w0.os
  output : w.output = w0.output
  tape : w.tape = w0.tape

structure Ready (all : List Oper) (S : Nat → Bool) (i : Nat) (o : Oper) : Prop where
  op : all[i]? = some o
  not : S i = false
  edges : ∀ e ∈ edgesOf o, S e = true

def setS (S : Nat → Bool) (i : Nat) : Nat → Bool := fun j => if j = i then true else S j

section steps
variable {p0 : Phi} {w0 : World} {a0 : Act} {S : Nat → Bool} {q : Nat} {p : Phi} {a : Act} {w : World} {i : Nat} {o : Oper}

theorem DInv.ancIn (hr : rOk P all anc chk = true) (h : DInv P all τ p0 w0 a0 S q p a w) {j : Nat} {oj : Oper} (hj : all[j]? = some oj) (he : ∀ e ∈ edgesOf oj, S e = true) : ∀ x ∈ anc.getD j [], S x = true :=
  anc_in hr h.closed j oj hj he

theorem DInv.apartLo (hr : rOk P all anc chk = true) (h : DInv P all τ p0 w0 a0 S q p a w) (hi : Ready all S i o) {k : Nat} {ok : Oper} (hk : all[k]? = some ok) (hki : k < i) (hS : S k = false) :
    Oper.apart ⟨all⟩ ok o = true ∧ ¬ (cls P ok.op = .e ∧ cls P o.op = .e) ∧ ((cls P ok.op = .r ∧ cls P o.op = .e) ∨ (cls P ok.op = .e ∧ cls P o.op = .r) → k ∈ chk.getD i []) := by
  have h1 := (rOk_spec hr hi.op).2 k ok hki hk
  unfold pairOk at h1
  rw [Bool.or_eq_true] at h1
  rcases h1 with h1 | h1
  · have := h.ancIn hr hi.op hi.edges k (by simpa using h1)
    rw [hS] at this; cases this
  · simp only [Bool.and_eq_true, Bool.or_eq_true, Bool.not_eq_true', Bool.and_eq_false_iff, decide_eq_false_iff_not, Bool.or_eq_false_iff] at h1
    refine ⟨h1.1.1, fun e => ?_, fun e => ?_⟩
    · rcases h1.1.2 with h2 | h2
      · exact h2 e.1
      · exact h2 e.2
    · rcases h1.2 with h2 | h2
      · rcases e with e | e
        · rcases h2.1 with h3 | h3
          · exact absurd e.1 h3
          · exact absurd e.2 h3
        · rcases h2.2 with h3 | h3
          · exact absurd e.1 h3
          · exact absurd e.2 h3
      · simpa using h2

theorem DInv.apartHi (hr : rOk P all anc chk = true) (h : DInv P all τ p0 w0 a0 S q p a w) (hi : Ready all S i o) {k : Nat} {ok : Oper} (hk : all[k]? = some ok) (hki : i < k) (hS : S k = true) :
    Oper.apart ⟨all⟩ o ok = true ∧ ¬ (cls P o.op = .e ∧ cls P ok.op = .e) ∧ ((cls P o.op = .r ∧ cls P ok.op = .e) ∨ (cls P o.op = .e ∧ cls P ok.op = .r) → i ∈ chk.getD k []) := by
  have h1 := (rOk_spec hr hk).2 i o hki hi.op
  unfold pairOk at h1
  rw [Bool.or_eq_true] at h1
  rcases h1 with h1 | h1
  · have := h.ancIn hr hk (h.closed k ok hk hS) i (by simpa using h1)
    rw [hi.not] at this; cases this
  · simp only [Bool.and_eq_true, Bool.or_eq_true, Bool.not_eq_true', Bool.and_eq_false_iff, decide_eq_false_iff_not, Bool.or_eq_false_iff] at h1
    refine ⟨h1.1.1, fun e => ?_, fun e => ?_⟩
    · rcases h1.1.2 with h2 | h2
      · exact h2 e.1
      · exact h2 e.2
    · rcases h1.2 with h2 | h2
      · rcases e with e | e
        · rcases h2.1 with h3 | h3
          · exact absurd e.1 h3
          · exact absurd e.2 h3
        · rcases h2.2 with h3 | h3
          · exact absurd e.1 h3
          · exact absurd e.2 h3
      · simpa using h2

theorem dst_get {k : Nat} {x : Tmp} (h : dstOf all k = some x) : ∃ ok, all[k]? = some ok ∧ ok.dst = some x := by
  unfold dstOf at h
  cases e : all[k]? with
  | none => simp [e] at h
  | some ok => rw [e] at h; exact ⟨ok, rfl, h⟩

theorem DInv.looks (hτ : Steps' P call all chk τ) (hr : rOk P all anc chk = true) (h : DInv P all τ p0 w0 a0 S q p a w) (hi : Ready all S i o) {x : Nat} (hx : x ∈ o.looksAt ⟨all⟩) :
    (tmpsS all τ.V S (τ.T 0)).getD x .undef = (τ.T i).getD x .undef := by
  have hil : i < all.length := (List.getElem?_eq_some_iff.1 hi.op).1
  by_cases hxl : x < (τ.T 0).length
  · refine T_getD hτ (by omega) hxl fun k hk hd => ?_
    obtain ⟨ok, hok, hdk⟩ := dst_get hd
    rcases Nat.lt_trichotomy k i with c | c | c
    · cases hS : S k with
      | true => simp [c]
      | false =>
        have := (h.apartLo hr hi hok c hS).1
        exact absurd hx ((Oper.apart_spec this).1 x hdk)
    · subst c; rw [hi.not]; simp
    · cases hS : S k with
      | false => simp; omega
      | true =>
        have := (h.apartHi hr hi hok c hS).1
        exact absurd hx ((Oper.apart_spec this).2.2 x hdk)
  · have h1 : (tmpsS all τ.V S (τ.T 0)).length ≤ x := by unfold tmpsS; rw [foldS_length]; omega
    have h2 : (τ.T i).length ≤ x := by rw [T_length hτ (by omega)]; omega
    rw [List.getD_eq_getElem?_getD, List.getD_eq_getElem?_getD, List.getElem?_eq_none h1, List.getElem?_eq_none h2]

theorem DInv.agree (hτ : Steps' P call all chk τ) (hr : rOk P all anc chk = true) (h : DInv P all τ p0 w0 a0 S q p a w) (hi : Ready all S i o) : Agree o.op (tmpsS all τ.V S (τ.T 0)) (τ.T i) := by
  intro x hx
  refine h.looks hτ hr hi ?_
  unfold Oper.looksAt
  simp only [List.mem_append, List.mem_filterMap]
  left
  exact ⟨.tmp x, by simpa using hx, rfl⟩

theorem DInv.vrs (h : DInv P all τ p0 w0 a0 S q p a w) : VRs p (tmpsS all τ.V S (τ.T 0)) a.tmps.toList := by
  have hl : (tmpsS all τ.V S (τ.T 0)).length = (τ.T 0).length := by unfold tmpsS; rw [foldS_length]
  refine VRs.of_get (by rw [hl, ← h.size]; simp) fun x v hv => ?_
  have hx : x < (τ.T 0).length := by have := (List.getElem?_eq_some_iff.1 hv).1; omega
  have := h.tmps x hx
  rw [List.getD_eq_getElem?_getD, hv, Option.getD_some] at this
  refine ⟨_, ?_, this⟩
  have hxs : x < a.tmps.size := by rw [h.size]; exact hx
  rw [Array.getElem?_toList, Array.getElem?_eq_getElem hxs, Array.getD_eq_getD_getElem?, Array.getElem?_eq_getElem hxs]
  rfl

theorem DInv.wanted (hτ : Steps' P call all chk τ) (hr : rOk P all anc chk = true) (h : DInv P all τ p0 w0 a0 S q p a w) (hi : Ready all S i o) : Region.wanted o (yielded ⟨all⟩ a.tmps) = τ.W i := by
  have hil : i < all.length := (List.getElem?_eq_some_iff.1 hi.op).1
  have hs := (hτ i o hil hi.op).wanted
  refine wantedA_true hs p a.tmps fun d hd => ?_
  have hlook : d ∈ o.looksAt ⟨all⟩ := by
    unfold Oper.looksAt
    simp only [List.mem_append]
    right
    cases hg : o.guard with
    | none => simp [hg] at hd
    | some g => simp only [hg] at hd ⊢; simpa using hd
  have hdl : d < (τ.T 0).length := by
    rcases Nat.lt_or_ge d (τ.T 0).length with c | c
    · exact c
    · exfalso
      have h2 : (τ.T i).length ≤ d := by rw [T_length hτ (by omega)]; omega
      unfold wantedA at hs
      cases hg : o.guard with
      | none => simp [hg] at hd
      | some g =>
        obtain ⟨j, want⟩ := g
        simp only [hg] at hd hs
        rw [hd] at hs
        simp only [List.getD_eq_getElem?_getD, List.getElem?_eq_none h2, Option.getD_none] at hs
        cases hs
  rw [← h.looks hτ hr hi hlook]
  exact ⟨h.tmps d hdl, by rw [h.size]; exact hdl⟩

theorem DInv.tmps' (hr : rOk P all anc chk = true) (h : DInv P all τ p0 w0 a0 S q p a w) (hi : Ready all S i o) {p' : Phi} (hle : p.le p') {cv : Value} (hv : VR p' (τ.V i) cv) :
    (a.put o.dst cv).tmps.size = (τ.T 0).length ∧ ∀ x, x < (τ.T 0).length → VR p' ((tmpsS all τ.V (setS S i) (τ.T 0)).getD x .undef) ((a.put o.dst cv).tmps.getD x undef) := by
  have hil : i < all.length := (List.getElem?_eq_some_iff.1 hi.op).1
  have hdi : dstOf all i = o.dst := by simp [dstOf, hi.op]
  refine ⟨by cases o.dst <;> simp [Act.put, h.size], fun x hx => ?_⟩
  by_cases hd : o.dst = some x
  · rw [tmpsS_last hil (by simp [setS]) (by rw [hdi]; exact hd) hx]
    · rw [hd]
      have hxs : x < a.tmps.size := by rw [h.size]; exact hx
      simp only [Act.put, Array.getD_eq_getD_getElem?]
      rw [Array.getElem?_setIfInBounds_self_of_lt hxs]
      exact hv
    · intro k hk hS hdk
      obtain ⟨ok, hok, hdk'⟩ := dst_get hdk
      have hSk : S k = true := by simpa [setS, show k ≠ i by omega] using hS
      have := (h.apartHi hr hi hok hk hSk).1
      exact (Oper.apart_spec this).2.1 x hd hdk'
  · have e1 : (tmpsS all τ.V (setS S i) (τ.T 0)).getD x .undef = (tmpsS all τ.V S (τ.T 0)).getD x .undef := by
      unfold tmpsS
      refine foldS_agree all τ.V _ _ _ (fun k _ hdk => ?_) hx rfl rfl
      have : k ≠ i := by rintro rfl; exact hd (hdi ▸ hdk)
      simp [setS, this]
    rw [e1]
    have e2 : (a.put o.dst cv).tmps.getD x undef = a.tmps.getD x undef := by
      cases hdd : o.dst with
      | none => rfl
      | some d =>
        have hne : d ≠ x := fun e => hd (by rw [hdd, e])
        simp only [Act.put, Array.getD_eq_getD_getElem?, Array.getElem?_setIfInBounds_ne hne]
    rw [e2]
    exact (h.tmps x hx).mono hle

theorem setS_eff {k : Nat} (hne : ¬ Eff P all τ i) (hk : Eff P all τ k) : setS S i k = S k := by
  have : k ≠ i := by rintro rfl; exact hne hk
  simp [setS, this]

theorem closedS (h : DInv P all τ p0 w0 a0 S q p a w) (hi : Ready all S i o) : ∀ j oj, all[j]? = some oj → setS S i j = true → ∀ e ∈ edgesOf oj, setS S i e = true := by
  intro j oj hj hS e he
  unfold setS at hS ⊢
  split
  · rfl
  · by_cases hji : j = i
    · subst hji; rw [hi.op] at hj; cases hj; exact hi.edges e he
    · rw [if_neg hji] at hS; exact h.closed j oj hj hS e he

theorem DInv.still (hr : rOk P all anc chk = true) (h : DInv P all τ p0 w0 a0 S q p a w) (hi : Ready all S i o) (hne : ¬ Eff P all τ i) (hnn : ∀ cs, ¬ New P all τ i cs) {cv : Value} (hv : VR p (τ.V i) cv) :
    DInv P all τ p0 w0 a0 (setS S i) q p (a.put o.dst cv) w := by
  have hil : i < all.length := (List.getElem?_eq_some_iff.1 hi.op).1
  obtain ⟨t1, t2⟩ := h.tmps' hr hi (fun _ _ h => h) hv
  have hnew : ∀ {j cs}, New P all τ j cs → setS S i j = S j := fun {j cs} hj => by
    have : j ≠ i := by rintro rfl; exact hnn _ hj
    simp [setS, this]
  refine ⟨h.qle, h.qeff, fun k h1 h2 => by rw [setS_eff hne h2]; exact h.lo k h1 h2, fun k h1 h2 => by rw [setS_eff hne h2]; exact h.hi k h1 h2, closedS h hi, fun j hj => ?_, t1, t2, by rw [put_defers']; exact h.defers,
    h.rel, h.le, h.out, fun b ci h1 h2 h3 => ?_, fun j cs h1 h2 h3 => h.late j cs h1 h2 (by rw [← hnew h2]; exact h3), fun j cs h1 h2 h3 => h.early j cs h1 h2 (by rw [← hnew h2]; exact h3), h.earlyInj, h.keepA, h.dead, h.keepC, h.fresh, h.ro, h.bnd0, h.wsize, h.os, h.output, h.tape⟩
  · unfold setS at hj; split at hj
    · omega
    · exact h.inb j hj
  · obtain ⟨j, cs, g1, g2, g3, g4⟩ := h.above b ci h1 h2 h3
    exact ⟨j, cs, g1, by rw [hnew g3]; exact g2, g3, g4⟩

theorem DInv.reads (hcall : CallOk P call) (hτ : Steps' P call all chk τ) (hr : rOk P all anc chk = true) (h : DInv P all τ p0 w0 a0 S q p a w) (hi : Ready all S i o) (hW : τ.W i = true) (hc : cls P o.op = .r) :
    readOp P o.op (tmpsS all τ.V S (τ.T 0)) (τ.M q) = some (τ.V i) := by
  have hil : i < all.length := (List.getElem?_eq_some_iff.1 hi.op).1
  have hs := hτ i o hil hi.op
  rw [readOp_agree (h.agree hτ hr hi)]
  have hqi : q ≠ i ∨ q = all.length := by
    rcases h.qeff with e | ⟨o', h1, _, h2⟩
    · exact .inr e
    · left; rintro rfl; rw [hi.op] at h1; cases h1; rw [hc] at h2; cases h2
  by_cases hlt : q < i
  · -- a change is still to come that stood ahead
    rcases h.qeff with e | ⟨o', h1, h2, h3⟩
    · omega
    · have hSq := h.hi q (Nat.le_refl q) ⟨o', h1, h2, h3⟩
      have := (h.apartLo hr hi h1 hlt hSq).2.2 (.inr ⟨h3, hc⟩)
      exact hs.readC hW hc q o' hlt h1 h2 h3 this
  · have hiq : i < q := by rcases hqi with e | e <;> omega
    have hex : (∀ k, i < k → k < q → ¬ Eff P all τ k) ∨ ∃ k, i < k ∧ k < q ∧ Eff P all τ k ∧ ∀ j, k < j → j < q → ¬ Eff P all τ j := by
      have key : ∀ n, i + n + 1 ≤ q → (∀ j, i + n < j → j < q → ¬ Eff P all τ j) → (∀ k, i < k → k < q → ¬ Eff P all τ k) ∨ ∃ k, i < k ∧ k < q ∧ Eff P all τ k ∧ ∀ j, k < j → j < q → ¬ Eff P all τ j := by
        intro n
        induction n with
        | zero => intro _ hn; exact .inl fun k h1 h2 => hn k (by omega) h2
        | succ n ih =>
          intro h1 hn
          by_cases he : Eff P all τ (i + n + 1)
          · exact .inr ⟨i + n + 1, by omega, by omega, he, fun j h2 h3 => hn j (by omega) h3⟩
          · refine ih (by omega) fun j h2 h3 => ?_
            by_cases e : j = i + n + 1
            · rw [e]; exact he
            · exact hn j (by omega) h3
      exact key (q - i - 1) (by omega) (fun j h1 h2 => by omega)
    rcases hex with hno | ⟨k, h1, h2, hk, hno⟩
    · have he := ext hcall hτ (j := i + 1) (k := q) (by omega) h.qle (fun j a b => hno j (by omega) b)
      have hr0 := hs.read hW hc
      refine readOp_mono (fun b blk hb => ?_) hr0.1
      rw [← hr0.2] at hb
      rw [he.1 b (Mem.get_lt hb)]; exact hb
    · have hSk := h.lo k h2 hk
      obtain ⟨ok, g1, g2, g3⟩ := hk
      have hmem := (h.apartHi hr hi g1 h1 hSk).2.2 (.inl ⟨hc, g3⟩)
      have hkl : k < all.length := (List.getElem?_eq_some_iff.1 g1).1
      have := (hτ k ok hkl g1).effC g2 g3 i o h1 hi.op hW hc hmem
      have he := ext hcall hτ (j := k + 1) (k := q) (by omega) h.qle (fun j a b => hno j (by omega) b)
      refine readOp_mono (fun b blk hb => ?_) this
      rw [he.1 b (Mem.get_lt hb)]; exact hb
end steps
end
end Go.Abs
end
section
namespace Go.Abs
open Go

section
variable {P : Program} {call : CallF} {all : List Oper} {chk anc : List (List Nat)} {τ : Trace}
variable {p0 : Phi} {w0 : World} {a0 : Act} {S : Nat → Bool} {q : Nat} {p : Phi} {a : Act} {w : World} {i : Nat} {o : Oper}

theorem DInv.laid (hcall : CallOk P call) (hτ : Steps' P call all chk τ) (hr : rOk P all anc chk = true) (h : DInv P all τ p0 w0 a0 S q p a w) (hi : Ready all S i o) {cs : Blk} {mk : Nat → AV} (hn : New P all τ i cs) (hmk : τ.V i = mk (τ.M i).next)
    {w' : World} {cv : Value} {ob : Obj} {sz : Nat} (hl : Laid P p cs mk w w' cv ob sz) :
    ∃ p', DInv P all τ p0 w0 a0 (setS S i) q p' (a.put o.dst cv) w' := by
  have hil : i < all.length := (List.getElem?_eq_some_iff.1 hi.op).1
  have hbn : (τ.M i).next < (τ.M all.length).next := hn.lt_next hcall hτ hil (Nat.le_refl _)
  have hb0 : (τ.M 0).next ≤ (τ.M i).next := next_mono hcall hτ (Nat.zero_le _) (by omega)
  have hfree : p (τ.M i).next = none := by
    by_cases hiq : i < q
    · exact (h.late i cs hiq hn hi.not).1
    · cases e : p (τ.M i).next with
      | none => rfl
      | some ci =>
        have hqi : (τ.M q).next ≤ (τ.M i).next := next_mono hcall hτ (by omega) (by omega)
        obtain ⟨j, ds, h1, h2, h3, h4⟩ := h.above _ ci hqi hbn e
        have := hn.inj hcall hτ h3 h4
        subst this
        rw [hi.not] at h2; cases h2
  let p' : Phi := fun b => if b = (τ.M i).next then some ⟨w.heap.size, 0, sz, none⟩ else p b
  have hle : p.le p' := by
    intro b ci hb
    by_cases e : b = (τ.M i).next
    · subst e; rw [hfree] at hb; cases hb
    · simp [p', e, hb]
  have hp' : ∀ b, b ≠ (τ.M i).next → p' b = p b := fun b e => by simp [p', e]
  have hpi : p' (τ.M i).next = some ⟨w.heap.size, 0, sz, none⟩ := by simp [p']
  have hheap : ∀ c, c < w.heap.size → w'.heap[c]? = w.heap[c]? := fun c hc => by rw [hl.heap, Array.getElem?_push_lt hc, ← Array.getElem?_eq_getElem]
  have hnewh : w'.heap[w.heap.size]? = some ob := by rw [hl.heap]; simp
  have hne : ¬ Eff P all τ i := hn.not_eff
  have hnew : ∀ {j ds}, j ≠ i → New P all τ j ds → setS S i j = S j := fun {j ds} hj _ => by simp [setS, hj]
  have hv : VR p' (τ.V i) cv := by rw [hmk]; exact hl.value p' _ hpi
  obtain ⟨t1, t2⟩ := h.tmps' hr hi hle hv
  have hblk : BR P p' ⟨w.heap.size, 0, sz, none⟩ cs ob := hl.blk.mono hle
  refine ⟨p', h.qle, h.qeff, fun k h1 h2 => by rw [setS_eff hne h2]; exact h.lo k h1 h2, fun k h1 h2 => by rw [setS_eff hne h2]; exact h.hi k h1 h2, closedS h hi, fun j hj => ?_, t1, t2, by rw [put_defers']; exact h.defers,
    ⟨?_, ?_, ?_, ?_⟩, fun b ci hb => hle _ _ (h.le b ci hb), fun b hb => ?_, fun b ci h1 h2 h3 => ?_, fun j ds h1 h2 h3 => ?_, fun j ds h1 h2 h3 => ?_, fun b ci b2 ci2 h1 h2 h3 h4 h5 h6 => ?_, h.keepA, h.dead, fun c h1 h2 => ?_, fun b ci h1 h2 h3 => ?_,
    fun b ds ci h1 h2 => ⟨(h.ro b ds ci h1 h2).1, by rw [hheap _ (by have := h.bnd0 b ci h2; have := h.wsize; omega)]; exact (h.ro b ds ci h1 h2).2⟩, h.bnd0, by rw [hl.heap]; simp; have := h.wsize; omega, hl.os.trans h.os, hl.output.trans h.output, hl.tape.trans h.tape⟩
  · unfold setS at hj; split at hj
    · omega
    · exact h.inb j hj
  · -- live
    intro b v ci h1 h2
    by_cases e : b = (τ.M i).next
    · subst e
      rw [hpi] at h2; cases h2
      have hiq : i < q := by
        rcases Nat.lt_or_ge i q with c | c
        · exact c
        · have hqi : (τ.M q).next ≤ (τ.M i).next := next_mono hcall hτ c (by omega)
          rw [Mem.get_ge hqi] at h1; cases h1
      have := (h.late i cs hiq hn hi.not).2
      rw [this] at h1; cases h1
      exact ⟨ob, hnewh, hblk⟩
    · rw [hp' b e] at h2
      obtain ⟨o', g1, g2⟩ := h.rel.has b v ci h1 h2
      exact ⟨o', by rw [hheap _ (h.rel.bnd b ci h2)]; exact g1, g2.mono hle⟩
  · -- apart
    intro b ci b2 ci2 h1 h2 h3 h4
    by_cases e : b = (τ.M i).next
    · by_cases e2 : b2 = (τ.M i).next
      · exact .inl (e.trans e2.symm)
      · rw [e, hpi] at h2; cases h2
        rw [hp' b2 e2] at h3
        have := h.rel.bnd b2 ci2 h3
        simp only at h4; omega
    · rw [hp' b e] at h2
      by_cases e2 : b2 = (τ.M i).next
      · rw [e2, hpi] at h3; cases h3
        have := h.rel.bnd b ci h2
        simp only at h4; omega
      · rw [hp' b2 e2] at h3
        exact h.rel.inj b ci b2 ci2 h1 h2 h3 h4
  · intro b ci hb
    rw [hl.heap, Array.size_push]
    by_cases e : b = (τ.M i).next
    · rw [e, hpi] at hb; cases hb; simp
    · rw [hp' b e] at hb; have := h.rel.bnd b ci hb; omega
  · intro g hg
    obtain ⟨n, hn⟩ := h.rel.glob g hg
    exact ⟨n, hle _ _ hn⟩
  · -- out
    rw [hp' b (by rintro rfl; exact hb ⟨hb0, hbn⟩)]
    exact h.out b hb
  · -- above
    by_cases e : b = (τ.M i).next
    · refine ⟨i, cs, ?_, by simp [setS], hn, e⟩
      rcases Nat.lt_or_ge i q with c | c
      · have := hn.lt_next hcall hτ c h.qle; omega
      · exact c
    · rw [hp' b e] at h3
      obtain ⟨j, ds, g1, g2, g3, g4⟩ := h.above b ci h1 h2 h3
      have : j ≠ i := by rintro rfl; exact e g4
      exact ⟨j, ds, g1, by rw [hnew this g3]; exact g2, g3, g4⟩
  · -- late
    have hji : j ≠ i := by rintro rfl; simp [setS] at h3
    rw [hnew hji h2] at h3
    obtain ⟨g1, g2⟩ := h.late j ds h1 h2 h3
    refine ⟨?_, g2⟩
    rw [hp' _ fun e => hji (h2.inj hcall hτ hn e)]; exact g1
  · -- early
    by_cases hji : j = i
    · subst hji
      have := hn.cells h2; subst this
      exact ⟨_, ob, hpi, hnewh, hblk⟩
    · rw [hnew hji h2] at h3
      obtain ⟨ci, o', g1, g2, g3⟩ := h.early j ds h1 h2 h3
      exact ⟨ci, o', hle _ _ g1, by rw [hheap _ (h.rel.bnd _ ci g1)]; exact g2, g3.mono hle⟩
  · -- apart, above
    by_cases e : b = (τ.M i).next
    · by_cases e2 : b2 = (τ.M i).next
      · exact e.trans e2.symm
      · rw [e, hpi] at h4; cases h4
        rw [hp' b2 e2] at h5
        have := h.rel.bnd b2 ci2 h5
        simp only at h6; omega
    · rw [hp' b e] at h4
      by_cases e2 : b2 = (τ.M i).next
      · rw [e2, hpi] at h5; cases h5
        have := h.rel.bnd b ci h4
        simp only at h6; omega
      · rw [hp' b2 e2] at h5
        exact h.earlyInj b ci b2 ci2 h1 h2 h3 h4 h5 h6
  · rw [hheap c (by have := h.wsize; omega)]; exact h.keepC c h1 h2
  · by_cases e : b = (τ.M i).next
    · rw [e, hpi] at h3; cases h3; exact .inl h.wsize
    · rw [hp' b e] at h3; exact h.fresh b ci h1 h2 h3

theorem next_eff (q : Nat) (hq : q ≤ all.length) : ∃ k, q ≤ k ∧ k ≤ all.length ∧ (k = all.length ∨ Eff P all τ k) ∧ ∀ j, q ≤ j → j < k → ¬ Eff P all τ j := by
  have key : ∀ n q, q + n = all.length → ∃ k, q ≤ k ∧ k ≤ all.length ∧ (k = all.length ∨ Eff P all τ k) ∧ ∀ j, q ≤ j → j < k → ¬ Eff P all τ j := by
    intro n
    induction n with
    | zero => intro q h; exact ⟨q, Nat.le_refl _, by omega, .inl (by omega), fun j h1 h2 => by omega⟩
    | succ n ih =>
      intro q h
      by_cases he : Eff P all τ q
      · exact ⟨q, Nat.le_refl _, by omega, .inr he, fun j h1 h2 => by omega⟩
      · obtain ⟨k, h1, h2, h3, h4⟩ := ih (q + 1) (by omega)
        refine ⟨k, by omega, h2, h3, fun j h5 h6 => ?_⟩
        by_cases e : j = q
        · rw [e]; exact he
        · exact h4 j (by omega) h6
  exact key (all.length - q) q (by omega)

theorem DInv.change (hcall : CallOk P call) (hτ : Steps' P call all chk τ) (hr : rOk P all anc chk = true) (hG : GP P ≤ (τ.M 0).next) (h : DInv P all τ p0 w0 a0 S q p a w) (hi : Ready all S i o) (he : Eff P all τ i) {fb : Frame} {rest : List Nat} {fk : List Item} {fs : List Frame} :
    ∃ q' p' a' w', DInv P all τ p0 w0 a0 (setS S i) q' p' a' w' ∧ Steps P (lone (fb.atR a (.inRegion ⟨all⟩ (i :: rest) :: fk)) fs w) (lone (fb.atR a' (.inRegion ⟨all⟩ rest :: fk)) fs w') := by
  have hwant := h.wanted hτ hr hi
  have hil : i < all.length := (List.getElem?_eq_some_iff.1 hi.op).1
  have hW : τ.W i = true ∧ cls P o.op = .e := by
    obtain ⟨o', h1, h2, h3⟩ := he
    rw [hi.op] at h1; cases h1; exact ⟨h2, h3⟩
  have hiq : i = q := by
    rcases Nat.lt_trichotomy i q with c | c | c
    · have := h.lo i c he; rw [hi.not] at this; cases this
    · exact c
    · exfalso
      rcases h.qeff with e | ⟨oq, h1, h2, h3⟩
      · omega
      · have := (h.apartLo hr hi h1 c (h.hi q (Nat.le_refl _) ⟨oq, h1, h2, h3⟩)).2.1
        exact this ⟨h3, hW.2⟩
  subst hiq
  have hs := (hτ i o hil hi.op).eff hW.1 hW.2
  rw [← effR_agree (h.agree hτ hr hi)] at hs
  have hop := effR_sound hcall hs
  have hGq : GP P ≤ (τ.M i).next := Nat.le_trans hG (next_mono hcall hτ (Nat.zero_le _) (by omega))
  have hfree : Free p (τ.M i).next (τ.M (i + 1)).next := by
    intro b h1 h2
    cases e : p b with
    | none => rfl
    | some ci =>
      have hle := next_mono hcall hτ (j := i + 1) (k := all.length) (by omega) (Nat.le_refl _)
      obtain ⟨j, ds, g1, g2, g3, g4⟩ := h.above b ci h1 (by omega) e
      have : j ≠ i := by rintro rfl; exact g3.not_eff he
      have := next_mono hcall hτ (j := i + 1) (k := j) (by omega) (by have := g3.lt; omega)
      omega
  have hW' : τ.W i = true := hW.1
  rw [hW'] at hwant
  obtain ⟨p1, cv, w1, hv, hsim, hst⟩ : ∃ p1 cv w1, VR p1 (τ.V i) cv ∧ Sim P p (τ.M i) w p1 (τ.M (i + 1)) w1 ∧ Steps P (lone (fb.atR a (.inRegion ⟨all⟩ (i :: rest) :: fk)) fs w) (lone (fb.atR (a.put o.dst cv) (.inRegion ⟨all⟩ rest :: fk)) fs w1) := by
    obtain ⟨cv, p1, w1, x1, x2, x3⟩ := hop.2 p a w h.rel hGq hfree h.vrs fb ⟨all⟩ i rest fk fs (by simpa using hi.op) hwant
    exact ⟨p1, cv, w1, x1, x2, x3⟩
  obtain ⟨k, k1, k2, k3, k4⟩ := next_eff (P := P) (all := all) (τ := τ) (i + 1) (by omega)
  have hex := ext hcall hτ k1 k2 k4
  have hM1 := next_step hcall hτ hil
  have hMk := next_mono hcall hτ k1 k2
  have hMn := next_mono hcall hτ k2 (Nat.le_refl _)
  have hp1 : ∀ b, ¬ ((τ.M i).next ≤ b ∧ b < (τ.M (i + 1)).next) → p1 b = p b := hsim.out
  have hearlyc : ∀ b ci, (τ.M i).next ≤ b → b < (τ.M all.length).next → p b = some ci → w1.heap[ci.c]? = w.heap[ci.c]? := by
    intro b ci h1 h2 h3
    refine hsim.keepC ci.c (h.rel.bnd b ci h3) fun b' ci' g1 g2 g3 => ?_
    rcases h.rel.inj b' ci' b ci g1 g2 h3 g3 with e | ⟨e, _⟩
    · subst e; rw [Mem.get_ge h1] at g1; cases g1
    · omega
  have hnewk : ∀ {j cs}, New P all τ j cs → setS S i j = S j := fun {j cs} hj => by
    have : j ≠ i := by rintro rfl; exact hj.not_eff he
    simp [setS, this]
  have hrel : MR P p1 (τ.M k) w1 := by
    refine MR.grow hsim.rel hMk hex.1 ?_ ?_
    · intro b ds ci h1 h2 h3
      have hbk := Mem.get_lt h2
      obtain ⟨j, es, g1, g2, g3, g4⟩ := hex.2.2 b h1 hbk
      have hget := hex.2.1 j es g1 g2 g3
      rw [← g4, h2] at hget; cases hget
      have hpb : p b = some ci := by rw [← hp1 b (by omega)]; exact h3
      obtain ⟨j', es', f1, f2, f3, f4⟩ := h.above b ci (by omega) (by omega) hpb
      have : j = j' := g3.inj hcall hτ f3 (g4.symm.trans f4)
      subst this
      obtain ⟨ci', o', e1, e2, e3⟩ := h.early j ds (by omega) g3 f2
      rw [← g4, hpb] at e1; cases e1
      exact ⟨o', by rw [hearlyc b ci (by omega) (by omega) hpb]; exact e2, e3.mono hsim.le⟩
    · intro b ci b2 ci2 h1 h2 h3 h4 h5
      have hbk : b < (τ.M k).next := by
        cases e : (τ.M k).get b with
        | none => rw [e] at h2; cases h2
        | some blk => exact Mem.get_lt e
      have hpb : p b = some ci := by rw [← hp1 b (by omega)]; exact h3
      have hbc := h.rel.bnd b ci hpb
      by_cases hb2 : (τ.M i).next ≤ b2 ∧ b2 < (τ.M (i + 1)).next
      · exfalso
        rcases hsim.fresh b2 ci2 hb2.1 hb2.2 h4 with g | ⟨b0, ci0, g1, g2, g3⟩
        · omega
        · rcases h.rel.inj b0 ci0 b ci g1 g2 hpb (by omega) with e | ⟨e, _⟩
          · subst e; rw [Mem.get_ge (by omega)] at g1; cases g1
          · omega
      · rw [hp1 b2 hb2] at h4
        by_cases hb3 : (τ.M i).next ≤ b2
        · exact .inl (h.earlyInj b ci b2 ci2 (by omega) (by omega) hb3 hpb h4 h5)
        · right
          refine ⟨by omega, ?_⟩
          rw [hex.1 b2 (by omega)]
          refine hsim.dead b2 (by omega) ?_
          cases e : (τ.M i).get b2 with
          | none => rfl
          | some blk =>
            exfalso
            rcases h.rel.inj b2 ci2 b ci (by rw [e]; rfl) h4 hpb h5.symm with e' | ⟨e', _⟩
            · subst e'; omega
            · omega
  obtain ⟨t1, t2⟩ := h.tmps' hr hi hsim.le hv
  refine ⟨k, p1, _, w1, ⟨k2, k3, fun j h1 h2 => ?_, fun j h1 h2 => ?_, closedS h hi, fun j hj => ?_, t1, t2, by rw [put_defers']; exact h.defers, hrel, fun b ci hb => hsim.le _ _ (h.le b ci hb),
    fun b hb => ?_, fun b ci h1 h2 h3 => ?_, fun j ds h1 h2 h3 => ?_, fun j ds h1 h2 h3 => ?_, fun b ci b2 ci2 h1 h2 h3 h4 h5 h6 => ?_, fun b h1 h2 => ?_, fun b h1 h2 => ?_, fun c h1 h2 => ?_, fun b ci h1 h2 h3 => ?_, fun b ds ci h1 h2 => ?_, h.bnd0,
    Nat.le_trans h.wsize hsim.size, hsim.os.trans h.os, hsim.output.trans h.output, hsim.tape.trans h.tape⟩, hst⟩
  · -- lo
    by_cases e : j = i
    · simp [setS, e]
    · simp only [setS, if_neg e]
      rcases Nat.lt_or_ge j i with c | c
      · exact h.lo j c h2
      · exact absurd h2 (k4 j (by omega) h1)
  · simp only [setS, if_neg (show j ≠ i by omega)]
    exact h.hi j (by omega) h2
  · unfold setS at hj; split at hj
    · omega
    · exact h.inb j hj
  · have h0 := next_mono hcall hτ (j := 0) (k := i) (Nat.zero_le _) (by omega)
    rw [hp1 b (by omega)]; exact h.out b hb
  · rw [hp1 b (by omega)] at h3
    obtain ⟨j, ds, g1, g2, g3, g4⟩ := h.above b ci (by omega) h2 h3
    refine ⟨j, ds, ?_, by rw [hnewk g3]; exact g2, g3, g4⟩
    rcases Nat.lt_or_ge j k with c | c
    · have := g3.lt_next hcall hτ c k2; omega
    · exact c
  · -- late
    rw [hnewk h2] at h3
    have hji : j ≠ i := by rintro rfl; exact h2.not_eff he
    by_cases hj : j < i
    · obtain ⟨g1, g2⟩ := h.late j ds hj h2 h3
      have hlt := Mem.get_lt g2
      refine ⟨by rw [hp1 _ (by omega)]; exact g1, ?_⟩
      rw [hex.1 _ (by omega), hsim.keepA _ hlt g1]; exact g2
    · have hle := next_mono hcall hτ (j := i + 1) (k := j) (by omega) (by omega)
      refine ⟨?_, hex.2.1 j ds (by omega) h1 h2⟩
      rw [hp1 _ (by omega)]
      cases e : p (τ.M j).next with
      | none => rfl
      | some ci =>
        have hlt := h2.lt_next hcall hτ (k := all.length) h2.lt (Nat.le_refl _)
        obtain ⟨j', ds', f1, f2, f3, f4⟩ := h.above _ ci (by omega) hlt e
        have := h2.inj hcall hτ f3 f4
        subst this
        rw [h3] at f2; cases f2
  · -- early
    rw [hnewk h2] at h3
    obtain ⟨ci, o', e1, e2, e3⟩ := h.early j ds (by omega) h2 h3
    have hlt := h2.lt_next hcall hτ (k := all.length) h2.lt (Nat.le_refl _)
    have hle := next_mono hcall hτ (j := i) (k := j) (by omega) (by have := h2.lt; omega)
    exact ⟨ci, o', hsim.le _ _ e1, by rw [hearlyc _ ci hle hlt e1]; exact e2, e3.mono hsim.le⟩
  · rw [hp1 b (by omega)] at h4
    rw [hp1 b2 (by omega)] at h5
    exact h.earlyInj b ci b2 ci2 (by omega) h2 (by omega) h4 h5 h6
  · have h0 := next_mono hcall hτ (j := 0) (k := i) (Nat.zero_le _) (by omega)
    rw [hex.1 b (by omega), hsim.keepA b (by omega) (by rw [h.out b (by omega)]; exact h2), h.keepA b h1 h2]
  · have h0 := next_mono hcall hτ (j := 0) (k := i) (Nat.zero_le _) (by omega)
    rw [hex.1 b (by omega)]
    exact hsim.dead b (by omega) (h.dead b h1 h2)
  · rw [hsim.keepC c (by have := h.wsize; omega) ?_]
    · exact h.keepC c h1 h2
    · intro b ci g1 g2 g3
      have hbq : b < (τ.M i).next := by
        cases e : (τ.M i).get b with
        | none => rw [e] at g1; cases g1
        | some blk => exact Mem.get_lt e
      by_cases hb : b < (τ.M 0).next
      · have e1 : p b = p0 b := h.out b (by omega)
        refine h2 b ci ?_ (e1 ▸ g2) g3
        cases e : (τ.M 0).get b with
        | none => rw [h.dead b hb e] at g1; cases g1
        | some _ => rfl
      · rcases h.fresh b ci (by omega) (by omega) g2 with f | ⟨b0, ci0, f1, f2, f3⟩
        · omega
        · exact h2 b0 ci0 f1 f2 (by omega)
  · have h0 := next_mono hcall hτ (j := 0) (k := i) (Nat.zero_le _) (by omega)
    by_cases hb2 : (τ.M i).next ≤ b ∧ b < (τ.M (i + 1)).next
    · rcases hsim.fresh b ci hb2.1 hb2.2 h3 with g | ⟨b0, ci0, g1, g2, g3⟩
      · left; have := h.wsize; omega
      · have hbq : b0 < (τ.M i).next := by
          cases e : (τ.M i).get b0 with
          | none => rw [e] at g1; cases g1
          | some blk => exact Mem.get_lt e
        by_cases hb : b0 < (τ.M 0).next
        · have e1 : p b0 = p0 b0 := h.out b0 (by omega)
          right
          refine ⟨b0, ci0, ?_, e1 ▸ g2, g3⟩
          cases e : (τ.M 0).get b0 with
          | none => rw [h.dead b0 hb e] at g1; cases g1
          | some _ => rfl
        · rcases h.fresh b0 ci0 (by omega) (by omega) g2 with f | ⟨b9, ci9, f1, f2, f3⟩
          · left; omega
          · right; exact ⟨b9, ci9, f1, f2, by omega⟩
    · rw [hp1 b hb2] at h3; exact h.fresh b ci h1 h2 h3
  · obtain ⟨g1, g2⟩ := h.ro b ds ci h1 h2
    obtain ⟨g3, g4⟩ := hsim.ro b ds ci g1 (h.le b ci h2)
    exact ⟨by rw [hex.1 b (Mem.get_lt g3)]; exact g3, g4.trans g2⟩
end
end Go.Abs
end
