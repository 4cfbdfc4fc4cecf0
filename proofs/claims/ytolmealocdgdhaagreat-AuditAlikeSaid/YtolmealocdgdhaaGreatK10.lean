/- Texts of one claim, put together. -/
import Derived.Test.YtolmealocdgdhaaGreatK9
import Derived.Defers
section
namespace Go.Abs
open Go

section
variable {P : Program}

theorem step_defer_op {b : Frame} {a : Act} {k : List Item} {cs : List Frame} {w : World} {ops : Array Oper} {i : Nat} {rest : List Nat} {o : Oper} {c : Call} {d : Deferred} (hr : b.roundOf = none) (ho : ops[i]? = some o)
    (hw : Region.wanted o (yielded ops a.tmps) = true) (hop : o.op = .defer c) (hres : (resolve a.eval c o.type).run P w = .ok d w) :
    step P (lone (b.atR a (.inRegion ops (i :: rest) :: k)) cs w) = .next (lone (b.atR (({ a with defers := d :: a.defers } : Act).put o.dst undef) (.inRegion ops rest :: k)) cs w) := by
  have hg := stepGR_op (P := P) (b := b) (k := k) (cs := cs) (w := w) (rest := rest) ho hw
  rw [hr, Oper.semAt_none] at hg
  have h : (execOp a.eval o).run P w = .ok (.defer d) w := by
    simp only [execOp, hop, Sem.run_bind, hres, Result.andThen_ok, Sem.run_pure]
  have hfin : ({ b.atR a (.inRegion ops (i :: rest) :: k) with defers := d :: a.defers } : Frame).finish undef = b.atR (({ a with defers := d :: a.defers } : Act).put o.dst undef) (.inRegion ops rest :: k) := by
    have := finish_put (b := b) (a := { a with defers := d :: a.defers }) (k := k) (rest := rest) ho undef
    rw [← this]; rfl
  refine step_lone_go ?_
  rw [hg, ← hfin]
  simp [stepG.apply, h, Frame.atR]

noncomputable def preS (call : CallF) (P : Program) : List (List Oper) → List AV → Mem → (List AV → Mem → R) → R
  | [], t, m, K => K t m
  | ops :: rs, t, m, K => opsK call P ops ops [] t m fun t m => preS call P rs t m K
def seqC : List (Nat × List Oper) → Code → Code
  | [], c => c
  | (id, ops) :: rs, c => .seq (.region id ⟨ops⟩ false) (seqC rs c)
theorem pre_sound {call : CallF} (hcall : CallOk P call) : ∀ (regs : List (Nat × List Oper)) {t : List AV} {m : Mem} {K : List AV → Mem → R} {r : AV × Mem}, preS call P (regs.map (·.2)) t m K = some r →
    ∃ t1 m1, K t1 m1 = some r ∧ m.next ≤ m1.next ∧ ∀ (p : Phi) (a : Act) (w : World), MR P p m w → GP P ≤ m.next → Free p m.next m1.next → VRs p t a.tmps.toList → ∀ (b : Frame) (k : List Item) (cs : List Frame) (c : Code),
      ∃ p' a' w', VRs p' t1 a'.tmps.toList ∧ a'.defers = a.defers ∧ Sim P p m w p' m1 w' ∧ Steps P (lone (b.atR a (.code (seqC regs c) :: k)) cs w) (lone (b.atR a' (.code c :: k)) cs w')
  | [], t, m, K, r, h => ⟨t, m, h, Nat.le_refl _, fun p a w hm _ _ ht b k cs c => ⟨p, a, w, ht, rfl, Sim.refl hm, .refl _ _⟩⟩
  | (id, ops) :: rs, t, m, K, r, h => by
    obtain ⟨t1, m1, h1, h2⟩ := opsK_sound hcall ops 0 (fun j => by simp) (show opsK call P ops ops [] t m (fun t m => preS call P (rs.map (·.2)) t m K) = some r from h)
    obtain ⟨t2, m2, h3, h4, h5⟩ := pre_sound hcall rs h1
    refine ⟨t2, m2, h3, Nat.le_trans h2.1 h4, fun p a w hm hG hf ht b k cs c => ?_⟩
    obtain ⟨p1, a1, w1, g1, g2, g3, g4⟩ := h2.2 p a w hm hG (hf.sub (Nat.le_refl _) h4) ht b (.code (seqC rs c) :: k) cs
    obtain ⟨p2, a2, w2, g5, g6, g7, g8⟩ := h5 p1 a1 w1 g3.rel (Nat.le_trans hG g3.next) (hf.step g3) g1 b k cs c
    refine ⟨p2, a2, w2, g5, g6.trans g2, g3.trans g7 hf, .head stepR_seq (.head stepR_region ?_)⟩
    rw [List.range_eq_range']
    exact Steps.trans g4 (.head stepR_region_end g8)
end

structure Dfi where
  f : FuncId
  fn : Func
  regs : List (Nat × List Oper)
  idD : Nat
  o1 : Oper
  o2 : Oper
  c2 : Call
  i : Tmp
  rest : AC

noncomputable def dfH (P : Program) (D : Dfi) (X : List AV → Mem → R) (Y : FuncId → List AV → Mem → Option Mem) (args : List AV) (m : Mem) : R :=
  preS (fun _ _ _ => none) P (D.regs.map (·.2)) (args ++ List.replicate (D.fn.ntmps - args.length) .undef) m fun t1 m1 =>
    (pureOp P D.o1.op t1).bind fun v => match nth (aput t1 D.o1.dst v) D.i with
      | .fn (.func g) first cap => (X (aput t1 D.o1.dst v) m1).bind fun r => match r.1 with
        | .tup ts => (Y g (first ++ cap) r.2).bind fun m3 => (resA P D.fn.results.toList ts m3).bind fun vs => some (tupA vs, m3)
        | _ => none
      | _ => none

structure Dfi.Ok (D : Dfi) (E : Env) : Prop where
  hf : E.P.funcs[D.f]? = some D.fn
  hb : D.fn.body = some (seqC D.regs (.seq (.region D.idD ⟨[D.o1, D.o2]⟩ false) D.rest.erase))
  name : D.fn.name ≠ "runtime.NumGoroutine"
  ok : D.rest.ok E.P = true
  g1 : D.o1.guard = none
  g2 : D.o2.guard = none
  d2 : D.o2.dst = none
  op : D.o2.op = .defer D.c2
  cal : D.c2.callee = .value (.tmp D.i)
  arg : D.c2.args = #[]

theorem goF_of_go {E : Env} {md : Md} {k : List AI} {t : List AV} {m : Mem} {r : AV × Mem} (h : go E md k t m = some r) : ∃ n, goF E (runF E n) md n k t m = some r := by
  unfold go at h
  split at h
  · rename_i hh
    have := hh.choose_spec
    obtain ⟨n, hn⟩ := this
    cases h
    exact ⟨n, hn⟩
  · cases h

theorem dfH_ok {E : Env} (hE : EnvOk E) {D : Dfi} (hD : D.Ok E) {X : List AV → Mem → R} {Y : FuncId → List AV → Mem → Option Mem} (hX : ∀ t m r, X t m = some r → go E .df [.code D.rest] t m = some r)
    (hY : ∀ g az m m3, Y g az m = some m3 → E.H g = none ∧ ∃ r, run E (.fn g) az m = some (r, m3)) {args : List AV} {m : Mem} {r : AV} {m' : Mem}
    (h : dfH E.P D X Y args m = some (r, m')) : FnOk E.P (.fn D.f) args m r m' := by
  unfold dfH at h
  obtain ⟨t1, m1, h1, n1, s1⟩ := pre_sound (P := E.P) (call := fun _ _ _ => none) (fun _ _ _ _ _ h => by cases h) D.regs h
  obtain ⟨v, hv, h2⟩ := Option.bind_eq_some_iff.1 h1
  generalize ht2 : aput t1 D.o1.dst v = t2 at h2
  split at h2
  · rename_i g first cap hclo
    obtain ⟨⟨r2, m2⟩, h3, h4⟩ := Option.bind_eq_some_iff.1 h2
    split at h4
    · rename_i ts hts
      simp only at hts
      subst hts
      obtain ⟨m3, h5, h6⟩ := Option.bind_eq_some_iff.1 h4
      obtain ⟨vs, h7, h8⟩ := Option.bind_eq_some_iff.1 h6
      cases h8
      simp only at h5
      obtain ⟨nX, hgX⟩ := goF_of_go (hX _ _ _ h3)
      have goX := goF_sound hE (runF_sound hE nX) .df nX _ _ _ _ _ (fun x hx => by simp at hx; subst hx; exact hD.ok) hgX
      obtain ⟨hHg, rg, hrun⟩ := hY _ _ _ _ h5
      have hbd : ∃ nY rsg ntg cg, E.B g = some (rsg, ntg, cg) ∧ goF E (runF E nY) (.fn rsg) nY [.code cg] ((first ++ cap) ++ List.replicate (ntg - (first ++ cap).length) .undef) m2 = some (rg, m') := by
        obtain ⟨n, hn⟩ := run_fuel hrun
        cases n with
        | zero => simp [runF] at hn
        | succ n =>
          simp only [runF, hHg] at hn
          split at hn
          · rename_i rsg ntg cg hB; exact ⟨n, rsg, ntg, cg, hB, hn⟩
          · cases hn
      obtain ⟨nY, rsg, ntg, cg, hB, hgY⟩ := hbd
      obtain ⟨fg, y1, y2, y3, y4, y5, y6⟩ := hE.body g hHg _ _ _ hB
      have goY := goF_sound hE (runF_sound hE nY) (.fn rsg) nY _ _ _ _ _ (fun x hx => by simp at hx; subst hx; exact y6) hgY
      refine ⟨Nat.le_trans n1 (Nat.le_trans goX.1 goY.1), fun p w cargs hm hG hf hvs => .inl ⟨D.fn, hD.hf, by rw [hD.hb]; rfl, hD.name, ?_⟩⟩
      intro cs
      let b : Frame := { (default : Frame) with fn := D.f, kind := .normal }
      let a0 : Act := { tmps := ⟨cargs⟩ ++ Array.replicate (D.fn.ntmps - cargs.length) undef, defers := [] }
      have henter : Frame.enter E.P D.f ⟨cargs⟩ .normal = b.atR a0 [.code (seqC D.regs (.seq (.region D.idD ⟨[D.o1, D.o2]⟩ false) D.rest.erase))] := by
        simp [Frame.enter, Frame.atR, hD.hf, hD.hb, b, a0]
        rfl
      have hl := hvs.length
      have hv0 : VRs p (args ++ List.replicate (D.fn.ntmps - args.length) .undef) a0.tmps.toList := by
        rw [← hl]
        simp only [a0, Array.toList_append, Array.toList_replicate]
        exact hvs.append (VRs.replicate _ (by simp [VR]))
      obtain ⟨p1, a1, w1, e1, e2, e3, e4⟩ := s1 p a0 w hm hG (hf.sub (Nat.le_refl _) (Nat.le_trans goX.1 goY.1)) hv0 b [] cs (.seq (.region D.idD ⟨[D.o1, D.o2]⟩ false) D.rest.erase)
      have hf1 := hf.step e3
      have hG1 : GP E.P ≤ m1.next := Nat.le_trans hG e3.next
      obtain ⟨cv, c1, c2⟩ := pure_sound (w := w1) e1 e3.rel.glob hv
      have st1 := step_value (P := E.P) (b := b) (a := a1) (k := [.code D.rest.erase]) (cs := cs) (ops := ⟨[D.o1, D.o2]⟩) (i := 0) (rest := [1]) (o := D.o1) rfl (by simp [Region.wanted, hD.g1]) c1
      have e5 : VRs p1 t2 (a1.put D.o1.dst cv).tmps.toList := by rw [← ht2]; exact e1.aput _ c2
      have hclo2 : VR p1 (.fn (.func g) first cap) ((a1.put D.o1.dst cv).tmps.getD D.i undef) := by
        have := tmp_VR e5 D.i
        rw [← nth_eq, hclo] at this
        exact this
      simp only [VR] at hclo2
      obtain ⟨first', cap', hfn, v1, v2⟩ := hclo2
      have hres : (resolve (a1.put D.o1.dst cv).eval D.c2 D.o2.type).run E.P w1 = .ok { target := .fn (.func g) ⟨cap'⟩, args := ⟨first'⟩ } w1 := by
        unfold resolve
        simp only [hD.cal, hD.arg]
        show (Deferred.ofValue ((a1.put D.o1.dst cv).tmps.getD D.i undef) _).run E.P w1 = _
        rw [hfn]
        simp [Deferred.ofValue, Sem.run_pure]
      have st2 := step_defer_op (P := E.P) (b := b) (a := a1.put D.o1.dst cv) (k := [.code D.rest.erase]) (cs := cs) (w := w1) (ops := ⟨[D.o1, D.o2]⟩) (i := 1) (rest := []) (o := D.o2) rfl rfl (by simp [Region.wanted, hD.g2]) hD.op hres
      rw [hD.d2] at st2
      have hd0 : (a1.put D.o1.dst cv).defers = [] := (put_defers' _ _ _).trans e2
      rw [hd0] at st2
      let b1 : Frame := { b with defers := [{ target := .fn (.func g) ⟨cap'⟩, args := ⟨first'⟩ }] }
      let a2 : Act := { a1.put D.o1.dst cv with defers := [{ target := .fn (.func g) ⟨cap'⟩, args := ⟨first'⟩ }] }
      obtain ⟨ts', p2, w2, fr, k1, k2, k3, k4, k5, k6, k7, k8⟩ := goX.2 p1 a2 w1 b1 cs [] e3.rel hG1 (hf1.sub (Nat.le_refl _) goY.1) e5 ⟨rfl, rfl⟩
      cases k1
      have hf2 := hf1.step k8
      have hG2 : GP E.P ≤ m2.next := Nat.le_trans hG1 k8.next
      have hvg : VRs p2 (first ++ cap) (first' ++ cap') := (v1.mono k8.le).append (v2.mono k8.le)
      have hlg := hvg.length
      have hgn : fg.body.isSome = true := by rw [y2]; rfl
      have hinv : (invoke (.fn (.func g) ⟨cap'⟩) ⟨first'⟩).run E.P w2 = .ok (.enter g ⟨first' ++ cap'⟩) w2 := by
        have hb : fg.body.isNone = false := by rw [y2]; rfl
        have hn2 : (fg.name == "runtime.NumGoroutine") = false := by simpa using y5
        have hap : ((⟨first'⟩ : Array Value) ++ ⟨cap'⟩) = ⟨first' ++ cap'⟩ := by simp
        simp only [invoke, hap, callFunc, Sem.run_bind, run_program, Result.andThen_ok, y1, hn2, hb, Bool.false_eq_true, if_false, Sem.run_pure]
      have st3 := step_defer (P := E.P) (fr := fr) (cs := cs) (w := w2) (ds := []) (by rw [k4]; simp) k5 rfl hinv
      let bg : Frame := { (default : Frame) with fn := g, kind := .deferred }
      let ag : Act := { tmps := ⟨first' ++ cap'⟩ ++ Array.replicate (fg.ntmps - (first' ++ cap').length) undef, defers := [] }
      have hentg : Frame.enter E.P g ⟨first' ++ cap'⟩ .deferred = bg.atR ag [.code cg.erase] := by
        simp [Frame.enter, Frame.atR, y1, y2, bg, ag]
        rfl
      have hvg0 : VRs p2 ((first ++ cap) ++ List.replicate (ntg - (first ++ cap).length) .undef) ag.tmps.toList := by
        rw [← y4, ← hlg]
        simp only [ag, Array.toList_append, Array.toList_replicate]
        exact hvg.append (VRs.replicate _ (by simp [VR]))
      obtain ⟨cvg, p3, w30, D3, fr3, j2, j3, ⟨j6, j4, j5, jr⟩, _, j80, j9, j10⟩ := goY.2 p2 ag w2 bg ({ fr with defers := [] } :: cs) [] k8.rel hG2 hf2 hvg0 ⟨rfl, DOk.nil _ _ _, ⟨fg, y1, y3⟩, rfl⟩
      have j8 := j80.clear j9 fun x hx => (j10 x hx).resolve_left (by simp)
      generalize clearD w30 D3 = w3 at j2 jr j8
      have st4 := step_going_returned (P := E.P) (fr := fr3) (c := { fr with defers := [] }) (cs := cs) (w := w3) (v := cvg) j6 ⟨j4, j5, jr⟩
      obtain ⟨cvr, q1, q2⟩ := results_sound (fn := D.fn) j8.rel (k7.mono j8.le) h7
      have hset : settle ({ fr with defers := [] } : Frame).mode = .returning := by simp [settle, k4]
      have simAll : Sim E.P p m w p3 m' w3 := by
        refine Sim.trans e3 (Sim.trans k8 j8 ?_) ?_
        · exact hf1
        · exact hf
      refine ⟨.returned cvr, w3, { ({ fr with defers := [] } : Frame) with mode := settle ({ fr with defers := [] } : Frame).mode }, ⟨cvr, p3, rfl, q2, simAll⟩, ?_, ?_, ?_⟩
      · rw [henter]
        refine Steps.trans e4 (.head stepR_seq (.head stepR_region ?_))
        show Steps E.P (lone (b.atR a1 (.inRegion ⟨[D.o1, D.o2]⟩ (List.range 2) :: [.code D.rest.erase])) cs w1) _
        refine .head st1 (.head st2 (.head stepR_region_end (Steps.trans k2 (.head st3 ?_))))
        rw [hentg]
        exact Steps.trans j2 (.one st4)
      · exact k3
      · exact ⟨hset, rfl, k6, D.fn, by rw [show ({ ({ fr with defers := [] } : Frame) with mode := settle ({ fr with defers := [] } : Frame).mode } : Frame).fn = fr.fn from rfl, k3]; exact hD.hf, q1⟩
    · cases h4
  · cases h2
end Go.Abs
end
section
namespace Go.Abs
open Go
structure Framed (m m0 m1 m2 : Mem) : Prop where
  next0 : m0.next = m.next
  sub : ∀ b, m0.get b = none ∨ m0.get b = m.get b
  next2 : m2.next = m1.next
  old : ∀ b, b < m.next → m0.get b = none → m2.get b = m.get b
  new : ∀ b, ¬ (b < m.next ∧ m0.get b = none) → m2.get b = m1.get b
section
variable {P : Program} {p q : Phi} {m m0 m1 m2 : Mem} {w w' : World}
theorem Framed.got (fr : Framed m m0 m1 m2) {b : Nat} {v : Blk} (h : m0.get b = some v) : m.get b = some v := by
  rcases fr.sub b with e | e
  · rw [e] at h; cases h
  · rw [← e]; exact h
theorem Framed.has1 (fr : Framed m m0 m1 m2) {b : Nat} (h : (m0.get b).isSome = true) : (m.get b).isSome = true := by
  obtain ⟨v, hv⟩ := Option.isSome_iff_exists.1 h
  rw [fr.got hv]; rfl
theorem Framed.gone (fr : Framed m m0 m1 m2) {b : Nat} (h : m.get b = none) : m0.get b = none := by
  rcases fr.sub b with e | e
  · exact e
  · rw [e]; exact h
theorem Framed.rel (fr : Framed m m0 m1 m2) (hm : MR P p m w) : MR P p m0 w where
  has := fun b v ci h1 h2 => hm.has b v ci (fr.got h1) h2
  inj := fun b ci b2 ci2 h1 h2 h3 h4 => by
    rcases hm.inj b ci b2 ci2 (fr.has1 h1) h2 h3 h4 with e | ⟨e1, e2⟩
    · exact .inl e
    · exact .inr ⟨by rw [fr.next0]; exact e1, fr.gone e2⟩
  bnd := hm.bnd
  glob := hm.glob
theorem Framed.apart (fr : Framed m m0 m1 m2) (hm : MR P p m w) {b : Nat} {ci : CI} (hb : (m.get b).isSome = true) (h0 : m0.get b = none) (hp : p b = some ci) : ∀ b0 ci0, (m0.get b0).isSome = true → p b0 = some ci0 → ci0.c ≠ ci.c := by
  intro b0 ci0 h1 h2 e
  rcases hm.inj b ci b0 ci0 hb hp h2 e.symm with rfl | ⟨_, e2⟩
  · rw [h0] at h1; cases h1
  · rw [fr.gone e2] at h1; cases h1
theorem Framed.key (fr : Framed m m0 m1 m2) (hm : MR P p m w) (s : Sim P p m0 w q m1 w') {b b2 : Nat} {ci ci2 : CI} (hb : b < m.next) (h0 : m0.get b = none) (h1 : (m.get b).isSome = true) (h2 : q b = some ci) (h3 : q b2 = some ci2) (h4 : ci.c = ci2.c) :
    b = b2 ∨ (b2 < m2.next ∧ m2.get b2 = none) := by
  have hp : p b = some ci := by rw [← s.out b (by rw [fr.next0]; omega)]; exact h2
  have hn := s.next
  rw [fr.next0] at hn
  have old : ∀ {b2 ci2}, p b2 = some ci2 → ci.c = ci2.c → b = b2 ∨ (b2 < m2.next ∧ m2.get b2 = none) := fun {b2 ci2} g1 g2 => by
    rcases hm.inj b ci b2 ci2 h1 hp g1 g2 with e | ⟨e1, e2⟩
    · exact .inl e
    · exact .inr ⟨by rw [fr.next2]; omega, by rw [fr.old b2 e1 (fr.gone e2)]; exact e2⟩
  by_cases hx : m.next ≤ b2 ∧ b2 < m1.next
  · rcases s.fresh b2 ci2 (by rw [fr.next0]; exact hx.1) hx.2 h3 with e | ⟨b0, ci0, g1, g2, g3⟩
    · have := hm.bnd b ci hp; omega
    · exact absurd (g3.trans h4.symm) (fr.apart hm h1 h0 hp b0 ci0 g1 g2)
  · exact old (by rw [← s.out b2 (by rw [fr.next0]; exact hx)]; exact h3) h4
theorem Framed.sim (fr : Framed m m0 m1 m2) (hm : MR P p m w) (s : Sim P p m0 w q m1 w') : Sim P p m w q m2 w' := by
  have hn := s.next
  rw [fr.next0] at hn
  have keep : ∀ {b ci}, (m.get b).isSome = true → m0.get b = none → p b = some ci → w'.heap[ci.c]? = w.heap[ci.c]? := fun {b ci} h1 h0 hp =>
    s.keepC ci.c (hm.bnd b ci hp) (fr.apart hm h1 h0 hp)
  exact {
    le := s.le
    out := fun b hb => s.out b (by rw [fr.next0, ← fr.next2]; exact hb)
    next := by rw [fr.next2]; exact hn
    rel := {
      has := fun b v ci h1 h2 => by
        by_cases hb : b < m.next ∧ m0.get b = none
        · rw [fr.old b hb.1 hb.2] at h1
          have hp : p b = some ci := by rw [← s.out b (by rw [fr.next0]; omega)]; exact h2
          obtain ⟨o, h3, h4⟩ := hm.has b v ci h1 hp
          exact ⟨o, by rw [keep (by rw [h1]; rfl) hb.2 hp]; exact h3, h4.mono s.le⟩
        · rw [fr.new b hb] at h1; exact s.rel.has b v ci h1 h2
      inj := fun b ci b2 ci2 h1 h2 h3 h4 => by
        by_cases hb : b < m.next ∧ m0.get b = none
        · rw [fr.old b hb.1 hb.2] at h1
          exact fr.key hm s hb.1 hb.2 h1 h2 h3 h4
        · rw [fr.new b hb] at h1
          rcases s.rel.inj b ci b2 ci2 h1 h2 h3 h4 with e | ⟨e1, e2⟩
          · exact .inl e
          · by_cases hb2 : b2 < m.next ∧ m0.get b2 = none
            · cases hg : m.get b2 with
              | none => exact .inr ⟨by rw [fr.next2]; exact e1, by rw [fr.old b2 hb2.1 hb2.2]; exact hg⟩
              | some v =>
                rcases fr.key hm s hb2.1 hb2.2 (by rw [hg]; rfl) h3 h2 h4.symm with e | ⟨_, e⟩
                · exact .inl e.symm
                · rw [fr.new b hb] at e; rw [e] at h1; cases h1
            · exact .inr ⟨by rw [fr.next2]; exact e1, by rw [fr.new b2 hb2]; exact e2⟩
      bnd := s.rel.bnd
      glob := s.rel.glob }
    keepA := fun b h1 h2 => by
      by_cases hb : b < m.next ∧ m0.get b = none
      · exact fr.old b h1 hb.2
      · rw [fr.new b hb, s.keepA b (by rw [fr.next0]; exact h1) h2]
        rcases fr.sub b with e | e
        · exact absurd ⟨h1, e⟩ hb
        · exact e
    dead := fun b h1 h2 => by rw [fr.old b h1 (fr.gone h2)]; exact h2
    keepC := fun c hc hk => s.keepC c hc fun b ci h1 h2 => hk b ci (fr.has1 h1) h2
    fresh := fun b ci h1 h2 h3 => by
      rcases s.fresh b ci (by rw [fr.next0]; exact h1) (by rw [← fr.next2]; exact h2) h3 with e | ⟨b0, ci0, g1, g2, g3⟩
      · exact .inl e
      · exact .inr ⟨b0, ci0, fr.has1 g1, g2, g3⟩
    ro := fun b cs ci h1 h2 => by
      by_cases hb : b < m.next ∧ m0.get b = none
      · exact ⟨by rw [fr.old b hb.1 hb.2]; exact h1, keep (by rw [h1]; rfl) hb.2 h2⟩
      · have h0 : m0.get b = some (.cells cs true) := by
          rcases fr.sub b with e | e
          · exact absurd ⟨Mem.get_lt h1, e⟩ hb
          · rw [e]; exact h1
        rw [fr.new b hb]
        exact s.ro b cs ci h0 h2
    size := s.size
    os := s.os
    output := s.output
    tape := s.tape }
theorem FnOk.frame {f : FuncId} {args : List AV} {r : AV} (h : FnOk P (.fn f) args m0 r m1) (fr : Framed m m0 m1 m2) : FnOk P (.fn f) args m r m2 := by
  refine ⟨by rw [fr.next2, ← fr.next0]; exact h.1, fun p w cargs hm hG hf hv => ?_⟩
  rcases h.2 p w cargs (fr.rel hm) (by rw [fr.next0]; exact hG) (by rw [fr.next0, ← fr.next2]; exact hf) hv with ⟨fn, h1, h2, h3, h4⟩ | ⟨cv, w', q, h1, h2, h3⟩
  · refine .inl ⟨fn, h1, h2, h3, h4.mono ?_⟩
    rintro e w' ⟨cv, q, rfl, h5, h6⟩
    exact ⟨cv, q, rfl, h5, fr.sim hm h6⟩
  · exact .inr ⟨cv, w', q, h1, h2, fr.sim hm h3⟩
end
noncomputable def putsM (g : Nat → Option Blk) (l : List Nat) (m : Mem) : Mem := List.rec (motive := fun _ => Mem → Mem) (fun m => m) (fun b _ ih m => ih (m.put b (g b))) l m
theorem putsM_get (g : Nat → Option Blk) : ∀ (l : List Nat) (m : Mem), (putsM g l m).next = m.next ∧ ∀ c, (putsM g l m).get c = if c ∈ l ∧ c < m.next then g c else m.get c
  | [], m => ⟨rfl, fun c => by simp [putsM]⟩
  | b :: l, m => by
    have e : putsM g (b :: l) m = putsM g l (m.put b (g b)) := rfl
    obtain ⟨h1, h2⟩ := putsM_get g l (m.put b (g b))
    rw [e]
    refine ⟨h1, fun c => ?_⟩
    rw [h2, Mem.get_put, Mem.next_put]
    by_cases h : c ∈ l ∧ c < m.next
    · rw [if_pos h, if_pos ⟨List.mem_cons_of_mem _ h.1, h.2⟩]
    · rw [if_neg h]
      by_cases hc : c = b
      · subst hc
        by_cases hn : c < m.next
        · rw [if_pos ⟨rfl, hn⟩, if_pos ⟨List.mem_cons_self, hn⟩]
        · rw [if_neg (fun h => hn h.2), if_neg (fun h => hn h.2)]
      · rw [if_neg (fun h => hc h.1), if_neg (fun h' => by rcases List.mem_cons.1 h'.1 with e | e; exact hc e; exact h ⟨e, h'.2⟩)]
noncomputable def localH (X : List AV → Mem → R) (S : List AV → Mem → List Nat) (args : List AV) (m : Mem) : R :=
  (X args (putsM m.get (S args m) ⟨m.next, .leaf⟩)).bind fun r => if Nat.ble m.next r.2.next then some (r.1, putsM (fun b => Option.rec (motive := fun _ => Option Blk) (if Nat.ble m.next b then r.2.get b else none) (fun _ => r.2.get b) (m.get b)) (S args m ++ List.range' m.next (r.2.next - m.next)) ⟨r.2.next, m.tab⟩) else none
theorem localH_ok {P : Program} {f : FuncId} {X : List AV → Mem → R} {S : List AV → Mem → List Nat} (hX : ∀ args m r m', X args m = some (r, m') → FnOk P (.fn f) args m r m') : ∀ args m r m', localH X S args m = some (r, m') → FnOk P (.fn f) args m r m' := by
  intro args m r m' h
  unfold localH at h
  obtain ⟨⟨r1, m1⟩, h1, h⟩ := Option.bind_eq_some_iff.1 h
  split at h
  · rename_i hle
    have hle := Nat.le_of_ble_eq_true hle
    cases h
    refine (hX _ _ _ _ h1).frame ?_
    obtain ⟨k1, k2⟩ := putsM_get m.get (S args m) ⟨m.next, .leaf⟩
    obtain ⟨j1, j2⟩ := putsM_get (fun b => Option.rec (motive := fun _ => Option Blk) (if Nat.ble m.next b then m1.get b else none) (fun _ => m1.get b) (m.get b)) (S args m ++ List.range' m.next (m1.next - m.next)) ⟨m1.next, m.tab⟩
    have kl : ∀ b, (⟨m.next, .leaf⟩ : Mem).get b = none := fun b => by rw [Mem.get_def]; split <;> rfl
    have hm : ∀ b, b < m.next → (⟨m1.next, m.tab⟩ : Mem).get b = m.get b := fun b hb => by rw [Mem.get_def, Mem.get_def, if_pos hb]; rw [if_pos (show b < m1.next by simp only at hle; omega)]
    refine ⟨k1, fun b => ?_, j1, fun b hb h0 => ?_, fun b hb => ?_⟩
    · rw [k2, kl]
      split
      · exact .inr rfl
      · exact .inl rfl
    · rw [k2, kl] at h0
      rw [j2]
      have hg : m.get b = none ∨ b ∉ S args m := by
        by_cases hs : b ∈ S args m
        · rw [if_pos ⟨hs, hb⟩] at h0; exact .inl h0
        · exact .inr hs
      rcases hg with hg | hg
      · split
        · simp only [hg]
          rw [if_neg]
          intro e; have := Nat.le_of_ble_eq_true e; omega
        · exact hm b hb
      · rw [if_neg]
        · exact hm b hb
        · rintro ⟨e, _⟩
          rcases List.mem_append.1 e with e | e
          · exact hg e
          · have := (List.mem_range'_1.1 e).1; omega
    · rw [j2]
      by_cases hlt : b < m.next
      · have h0 : (putsM m.get (S args m) ⟨m.next, .leaf⟩).get b ≠ none := fun e => hb ⟨hlt, e⟩
        rw [k2, kl] at h0
        have hs : b ∈ S args m := by
          by_cases hs : b ∈ S args m
          · exact hs
          · rw [if_neg (fun h => hs h.1)] at h0; exact absurd rfl h0
        rw [if_pos ⟨hs, hlt⟩] at h0
        rw [if_pos ⟨List.mem_append_left _ hs, by show b < m1.next; simp only at hle; omega⟩]
        cases e : m.get b with
        | none => exact absurd e h0
        | some _ => rfl
      · by_cases h2 : b < m1.next
        · rw [if_pos ⟨List.mem_append_right _ (List.mem_range'_1.2 ⟨by omega, by omega⟩), h2⟩]
          rw [Mem.get_ge (m := m) (by omega)]
          simp only
          rw [if_pos (Nat.ble_eq_true_of_le (by omega))]
        · rw [if_neg (fun h => h2 h.2), Mem.get_ge (by simp only; omega), Mem.get_ge (by omega)]
  · cases h
end Go.Abs
end
section
namespace Go.Abs
open Go
noncomputable def nearS (args : List AV) (m : Mem) : List Nat :=
  List.rec (motive := fun _ => List Nat) [] (fun v _ ih => match v with
    | .ptr (some a) => a.b :: (match m.get a.b with
      | some (.cells cs _) => List.rec (motive := fun _ => List Nat) ih (fun c _ ih => match c with
        | .map (some r) => r :: ih
        | _ => ih) cs
      | _ => ih)
    | .map (some r) => r :: ih
    | _ => ih) args
noncomputable def hooksL (E : Env) (T : Tb) (n : Nat) (S : List FuncId) : FuncId → Option (List AV → Mem → R) := fun f => if S.contains f then some (localH (fun az m => (XD E T n).call (.fn f) az m) nearS) else E.H f
theorem hooksL_ok {E : Env} (hE : EnvOk E) {T : Tb} {M N : Nat → List Bool} (ok : T.Ok E M N) (n : Nat) (S : List FuncId) : EnvOk { E with H := hooksL E T n S } where
  mixed := hE.mixed
  body := fun f hn => hE.body f (by
    simp only [hooksL] at hn
    split at hn
    · cases hn
    · exact hn)
  hook := fun f h e args m r m' hr => by
    simp only [hooksL] at e
    split at e
    · cases e
      exact localH_ok (fun args m r m' h => run_sound hE (.fn f) args m r m' (run_of_X ok n h)) args m r m' hr
    · exact hE.hook f h e args m r m' hr
end Go.Abs
end
section
namespace Go.Abs
open Go

def hookAt (f : FuncId) (h : List AV → Mem → R) (H : FuncId → Option (List AV → Mem → R)) : FuncId → Option (List AV → Mem → R) := fun x => match Nat.beq x f with
  | true => some h
  | false => H x
def bodyAt (f : FuncId) (b : List ResultVar × Nat × AC) (B : FuncId → Option (List ResultVar × Nat × AC)) : FuncId → Option (List ResultVar × Nat × AC) := fun x => match Nat.beq x f with
  | true => some b
  | false => B x
theorem hookAt_same (f : FuncId) (h : List AV → Mem → R) (H : FuncId → Option (List AV → Mem → R)) : hookAt f h H f = some h := by unfold hookAt; rw [Nat.beq_refl]
theorem hookAt_other {f x : FuncId} (hx : x ≠ f) (h : List AV → Mem → R) (H : FuncId → Option (List AV → Mem → R)) : hookAt f h H x = H x := by unfold hookAt; rw [beqN, decide_eq_false hx]
theorem bodyAt_same (f : FuncId) (b : List ResultVar × Nat × AC) (B : FuncId → Option (List ResultVar × Nat × AC)) : bodyAt f b B f = some b := by unfold bodyAt; rw [Nat.beq_refl]
theorem bodyAt_other {f x : FuncId} (hx : x ≠ f) (b : List ResultVar × Nat × AC) (B : FuncId → Option (List ResultVar × Nat × AC)) : bodyAt f b B x = B x := by unfold bodyAt; rw [beqN, decide_eq_false hx]

theorem EnvOk.bodyAt {E : Env} (hE : EnvOk E) (f : FuncId) (b : List ResultVar × Nat × AC) {h : List AV → Mem → R} (hh : ∀ args m r m', h args m = some (r, m') → FnOk E.P (.fn f) args m r m') : EnvOk ⟨E.P, Abs.bodyAt f b E.B, hookAt f h E.H⟩ where
  mixed := hE.mixed
  body := fun x hx rs nt c hB => by
    by_cases e : x = f
    · subst e
      have := hookAt_same x h E.H
      rw [show hookAt x h E.H x = none from hx] at this; cases this
    · exact hE.body x ((hookAt_other e h E.H).symm.trans hx) rs nt c ((bodyAt_other e b E.B).symm.trans hB)
  hook := fun x g hx => by
    by_cases e : x = f
    · subst e
      have := hookAt_same x h E.H
      rw [show hookAt x h E.H x = some g from hx] at this
      cases this
      exact hh
    · exact hE.hook x g ((hookAt_other e h E.H).symm.trans hx)
theorem EnvOk.hookAt {E : Env} (hE : EnvOk E) (f : FuncId) (hf : E.H f ≠ none) {h : List AV → Mem → R} (hh : ∀ args m r m', h args m = some (r, m') → FnOk E.P (.fn f) args m r m') : EnvOk { E with H := Abs.hookAt f h E.H } where
  mixed := hE.mixed
  body := fun x hx rs nt c hB => by
    by_cases e : x = f
    · subst e
      have := hookAt_same x h E.H
      rw [show Abs.hookAt x h E.H x = none from hx] at this; cases this
    · exact hE.body x ((hookAt_other e h E.H).symm.trans hx) rs nt c hB
  hook := fun x g hx => by
    by_cases e : x = f
    · subst e
      have := hookAt_same x h E.H
      rw [show Abs.hookAt x h E.H x = some g from hx] at this
      cases this
      exact hh
    · exact hE.hook x g ((hookAt_other e h E.H).symm.trans hx)

def peelC : Code → Option (List (Nat × List Oper) × Nat × Oper × Oper × Code)
  | .seq (.region id ops false) c => match ops.toList with
    | [o1, o2] => match o2.op with
      | .defer _ => some ([], id, o1, o2, c)
      | _ => (peelC c).map fun x => ((id, [o1, o2]) :: x.1, x.2)
    | l => (peelC c).map fun x => ((id, l) :: x.1, x.2)
  | _ => none
def sndN : Nat → Hint → Hint
  | 0, h => h
  | n + 1, h => sndN n h.rest.snd
def mkD (f : FuncId) (fn : Func) (h : Hint) (live : List Bool) : Option Dfi :=
  match fn.body with
  | some c => match peelC c with
    | some (regs, id, o1, o2, rest) => match o2.op with
      | .defer c2 => match c2.callee with
        | .value (.tmp i) => some ⟨f, fn, regs, id, o1, o2, c2, i, .pt live (annot rest (sndN (regs.length + 1) h))⟩
        | _ => none
      | _ => none
    | none => none
  | none => none
abbrev dfMark : List ResultVar := [.cell 0 0, .cell 0 0, .cell 0 0]

noncomputable def dfX (E : Env) (T : Tb) (n f nt : Nat) (live : List Bool) (t : List AV) (m : Mem) : R :=
  match Nat.beq t.length nt with
  | true => (XD E T n).gor (4096 * f) ((liveL 0 (cutL nt live)).map (nth t)) m
  | false => none
theorem dfX_ok {E : Env} {T : Tb} (ok : T.Ok E (Mq E) (Nq E)) (n : Nat) {f nt : Nat} {live : List Bool} {c : AC} (hB : E.B f = some (dfMark, nt, .pt live c)) (t : List AV) (m : Mem) (r : AV × Mem) (h : dfX E T n f nt live t m = some r) : go E .df [.code (.pt live c)] t m = some r := by
  unfold dfX at h
  rw [beqN] at h
  by_cases hl : t.length = nt
  · rw [decide_eq_true hl] at h
    have h1 := (XD_le ok n).gor (4096 * f) _ m r h
    have hrs : rsOf E f = dfMark := by unfold rsOf; rw [hB]
    have hc : codeOf E f = .pt live c := by unfold codeOf; rw [hB]
    have hn : ntOf E f = nt := by unfold ntOf; rw [hB]
    have hk := key_div (f := f) (i := 0) (by omega)
    have h2 : goR E (Mq E) (4096 * f) ((liveL 0 (cutL nt live)).map (nth t)) m = go E .df [.code c] (mask live t) m := by
      show go E (mdR (rsOf E ((4096 * f + 0) / 4096))) (kAt E ((4096 * f + 0) / 4096) ((4096 * f + 0) % 4096)) (spread (Mq E (4096 * f + 0)) _) m = _
      unfold Mq
      rw [hk.1, hk.2, hrs, hc, hn]
      unfold kAt
      rw [hc]
      show go E .df [.code c] (spread (cutL nt live) _) m = _
      rw [spread_live t (cutL nt live) 0 (by rw [cutL_length, hl]; omega), List.drop_zero, ← hl, mask_cut]
    rw [go_step]
    exact h2.symm.trans h1
  · rw [decide_eq_false hl] at h; cases h
noncomputable def dfY (E : Env) (T : Tb) (n : Nat) (g : FuncId) (az : List AV) (m : Mem) : Option Mem :=
  match E.H g with
  | some _ => none
  | none => ((XD E T n).call (.fn g) az m).map (·.2)
theorem dfY_ok {E : Env} {T : Tb} (ok : T.Ok E (Mq E) (Nq E)) (n : Nat) (g : FuncId) (az : List AV) (m m3 : Mem) (h : dfY E T n g az m = some m3) : E.H g = none ∧ ∃ r, run E (.fn g) az m = some (r, m3) := by
  unfold dfY at h
  split at h
  · cases h
  · rename_i hH
    obtain ⟨⟨r, m'⟩, h1, h2⟩ := Option.map_eq_some_iff.1 h
    cases h2
    exact ⟨hH, r, run_of_X ok n h1⟩
def Tr.enB {P : Program} {B : FuncId → Option (List ResultVar × Nat × AC)} {f : Nat} {fn : Func} {h : Hint} {c : Code} (t : Tr P f fn h) (hB : B f = some (fn.results.toList, fn.ntmps, annot c h)) (hb : fn.body = some c) : En P B :=
  ⟨f, fn.params.size + fn.nfree, fn.results.toList, fn.ntmps, annot c h, hB, t.x, fun O => by rw [t.eq]; unfold entX; rw [hb]⟩
def Tr.enA {P : Program} {hints : FuncId → Option Hint} {b : List ResultVar × Nat × AC} {f g : Nat} {fn : Func} {h : Hint} {c : Code} (t : Tr P f fn h) (hg : Nat.beq f g = false) (hf : P.funcs[f]? = some fn) (hh : hints f = some h) (hb : fn.body = some c) : En P (bodyAt g b (bodyOf P hints)) :=
  t.enB (by unfold bodyAt; rw [hg]; exact bodyOf_eq hf hh hb) hb
structure TrD (P : Program) (D : Dfi) where
  x : Ops → Ent
  eq : ∀ O, x O = entC O P D.f D.fn.ntmps dfMark 0 (index D.rest 0 0)
def TrD.en {P : Program} {D : Dfi} (t : TrD P D) (B : FuncId → Option (List ResultVar × Nat × AC)) : En P (bodyAt D.f (dfMark, D.fn.ntmps, D.rest) B) := ⟨D.f, 0, dfMark, D.fn.ntmps, D.rest, bodyAt_same _ _ _, t.x, t.eq⟩
end Go.Abs
end
