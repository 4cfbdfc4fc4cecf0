/- What the abstract machine answers, the model's function returns alike. -/
import Derived.Test.YtamooapjonlcdaaAbs16
namespace Go.Abs
open Go

def AI.erase : AI → Item
  | .code c => .code c.erase
  | .inBlock id => .inBlock id
  | .inLoop c => .inLoop c.erase

/-- The looks at the regions of a code that draw their order. -/
def AC.ok (P : Program) : AC → Bool
  | .region _ ops draw chk anc => !draw || (rOk P ops anc chk && decide (chk.length = ops.length))
  | .seq a b => a.ok P && b.ok P
  | .cond _ x y => x.ok P && y.ok P
  | .block _ b => b.ok P
  | .loop b => b.ok P
  | .pt _ c => c.ok P
  | _ => true
def AI.ok (P : Program) : AI → Bool
  | .code c => c.ok P
  | .inBlock _ => true
  | .inLoop c => c.ok P

structure EnvOk (E : Env) : Prop where
  mixed : E.P.follows .mixedOrders = true
  body : ∀ f rs nt c, E.B f = some (rs, nt, c) → ∃ fn, E.P.funcs[f]? = some fn ∧ fn.body = some c.erase ∧ fn.results.toList = rs ∧ fn.ntmps = nt ∧ fn.name ≠ "runtime.NumGoroutine" ∧ c.ok E.P = true
  hook : ∀ f h, E.H f = some h → ∀ args m r m', h args m = some (r, m') → FnOk E.P f args m r m'

section
variable {P : Program}

theorem aexit_erase {id : Nat} : ∀ {k k' : List AI}, aexit id k = some k' → exitTo id (k.map AI.erase) = some (k'.map AI.erase)
  | [], _, h => by simp [aexit] at h
  | .inBlock id' :: k, k', h => by
    simp only [aexit] at h
    simp only [List.map_cons, AI.erase, exitTo]
    split at h
    · rename_i e; cases h; simp [e]
    · rename_i e
      have : (id' == id) = false := by simpa using e
      simp only [this, Bool.false_eq_true, if_false]
      exact aexit_erase h
  | .code _ :: k, k', h => by
    simp only [aexit] at h
    simp only [List.map_cons, AI.erase, exitTo]
    exact aexit_erase h
  | .inLoop _ :: k, k', h => by
    simp only [aexit] at h
    simp only [List.map_cons, AI.erase, exitTo]
    exact aexit_erase h
theorem aexit_ok {id : Nat} : ∀ {k k' : List AI}, aexit id k = some k' → (∀ x ∈ k, x.ok P = true) → ∀ x ∈ k', x.ok P = true
  | [], _, h, _ => by simp [aexit] at h
  | .inBlock id' :: k, k', h, hk => by
    simp only [aexit] at h
    split at h
    · cases h; exact fun x hx => hk x (by simp [hx])
    · exact aexit_ok h fun x hx => hk x (by simp [hx])
  | .code _ :: k, k', h, hk => by
    simp only [aexit] at h
    exact aexit_ok h fun x hx => hk x (by simp [hx])
  | .inLoop _ :: k, k', h, hk => by
    simp only [aexit] at h
    exact aexit_ok h fun x hx => hk x (by simp [hx])

theorem mask_VRs {p : Phi} : ∀ {live : List Bool} {t : List AV} {vs : List Value}, VRs p t vs → VRs p (mask live t) vs
  | live, [], vs, h => by cases live <;> (try rename_i b _; cases b) <;> simpa [mask] using h
  | [], a :: as, vs, h => by
    simp only [VRs] at h
    obtain ⟨v, vs, rfl, h1, h2⟩ := h
    simp only [mask, VRs]
    exact ⟨v, vs, rfl, by simp [VR], mask_VRs h2⟩
  | true :: bs, a :: as, vs, h => by
    simp only [VRs] at h
    obtain ⟨v, vs, rfl, h1, h2⟩ := h
    simp only [mask, VRs]
    exact ⟨v, vs, rfl, h1, mask_VRs h2⟩
  | false :: bs, a :: as, vs, h => by
    simp only [VRs] at h
    obtain ⟨v, vs, rfl, h1, h2⟩ := h
    simp only [mask, VRs]
    exact ⟨v, vs, rfl, by simp [VR], mask_VRs h2⟩

/-- Results read. -/
def resOne (tmps : Array Value) : ResultVar → Sem Value
  | .tmp t => pure (tmps.getD t undef)
  | .cell a t => do loadVar t (← asAddr (tmps.getD a undef))

theorem results_eq (fn : Func) (tmps : Array Value) : results fn tmps = (do
    let vs ← fn.results.mapM (resOne tmps)
    pure (if h : vs.size = 1 then vs[0] else .tuple vs)) := rfl

theorem tmp_VR {p : Phi} {t : List AV} {tmps : Array Value} (ht : VRs p t tmps.toList) (i : Nat) : VR p (t.getD i .undef) (tmps.getD i undef) := by
  cases e : t[i]? with
  | none => rw [List.getD_eq_getElem?_getD, e]; simp [VR]
  | some b =>
    obtain ⟨v, h1, h2⟩ := ht.get e
    rw [List.getD_eq_getElem?_getD, e]
    have : tmps.getD i undef = v := by rw [Array.getD_eq_getD_getElem?, ← Array.getElem?_toList, h1]; rfl
    rw [this]; exact h2

theorem resA_sound {p : Phi} {m : Mem} {w : World} (hm : MR (GP P) p m w) {t : List AV} {tmps : Array Value} (ht : VRs p t tmps.toList) : ∀ {rs : List ResultVar} {vs : List AV}, resA P rs t m = some vs →
    ∃ vs', (rs.mapM (resOne tmps)).run P w = .ok vs' w ∧ VRs p vs vs'
  | [], vs, h => by simp only [resA, Option.some.injEq] at h; subst h; exact ⟨[], by simp [List.mapM_nil], by simp [VRs]⟩
  | .tmp i :: rs, vs, h => by
    simp only [resA] at h
    split at h
    · rename_i vs1 h1
      cases h
      obtain ⟨vs', h2, h3⟩ := resA_sound hm ht h1
      refine ⟨tmps.getD i undef :: vs', ?_, ?_⟩
      · simp only [List.mapM_cons, resOne, Sem.run_bind, Sem.run_pure, Result.andThen_ok, h2]
      · simp only [VRs]; exact ⟨_, _, rfl, tmp_VR ht i, h3⟩
    · cases h
  | .cell a ty :: rs, vs, h => by
    simp only [resA] at h
    split at h
    · rename_i v vs1 h0 h1
      cases h
      obtain ⟨vs', h2, h3⟩ := resA_sound hm ht h1
      obtain ⟨cv, h4, h5⟩ := loadA_sound hm (tmp_VR ht a) h0
      have h6 : (do loadVar ty (← asAddr (tmps.getD a undef)) : Sem Value).run P w = .ok cv w := by
        simp only [Instr.loadAt, Sem.run_bind] at h4 ⊢
        cases e : tmps.getD a undef with
        | pointer x =>
          rw [e] at h4
          cases x with
          | none => simp [Instr.sureAddr] at h4
          | some x => simpa [Instr.sureAddr, asAddr] using h4
        | _ => rw [e] at h4; simp [Instr.sureAddr] at h4
      refine ⟨cv :: vs', ?_, ?_⟩
      · simp only [List.mapM_cons, resOne, Sem.run_bind, Sem.run_pure]
        rw [Sem.run_bind] at h6
        rw [h6]
        simp only [Result.andThen_ok, h2]
      · simp only [VRs]; exact ⟨_, _, rfl, h5, h3⟩
    · cases h

theorem results_sound {p : Phi} {m : Mem} {w : World} (hm : MR (GP P) p m w) {fn : Func} {t : List AV} {tmps : Array Value} (ht : VRs p t tmps.toList) {vs : List AV} (h : resA P fn.results.toList t m = some vs) :
    ∃ cv, (results fn tmps).run P w = .ok cv w ∧ VR p (tupA vs) cv := by
  obtain ⟨vs', h1, h2⟩ := resA_sound hm ht h
  have hl := h2.length
  rw [results_eq, Array.mapM_eq_mapM_toList]
  simp only [Sem.run_bind, Sem.run_map, h1, Result.andThen_ok, Sem.run_pure]
  refine ⟨_, rfl, ?_⟩
  cases vs with
  | nil => simp [tupA, VR]
  | cons a as =>
    cases as with
    | nil =>
      simp only [VRs] at h2
      obtain ⟨v, vs2, rfl, h3, rfl⟩ := h2
      simpa [tupA] using h3
    | cons b bs =>
      have hne : ¬ (vs'.toArray.size = 1) := by simp at hl ⊢; omega
      rw [dif_neg hne]
      simp only [tupA, VR]
      exact ⟨vs', rfl, h2⟩
end

section
variable {E : Env}

/-- What the machine owes from here on. -/
def GoOk (E : Env) (rs : List ResultVar) (k : List AI) (t : List AV) (m : Mem) (r : AV) (m' : Mem) : Prop :=
  m.next ≤ m'.next ∧ ∀ (p : Phi) (a : Act) (w : World) (b : Frame) (cs : List Frame) (fn : Func), MR (GP E.P) p m w → GP E.P ≤ m.next → Free p m.next m'.next → VRs p t a.tmps.toList → a.defers = [] →
    E.P.funcs[b.fn]? = some fn → fn.results.toList = rs → b.kind = .normal →
    ∃ cv p' w' fr, Steps E.P (lone (b.at a (k.map AI.erase)) cs w) (lone fr cs w') ∧ fr.fn = b.fn ∧ fr.leaving E.P w' (.returned cv) ∧ VR p' r cv ∧ Sim (GP E.P) p m w p' m' w'

theorem GoOk.steps {rs : List ResultVar} {k k' : List AI} {t t' : List AV} {m m' : Mem} {r : AV} (h : GoOk E rs k' t' m r m')
    (hs : ∀ (p : Phi) (a : Act) (w : World) (b : Frame) (cs : List Frame), VRs p t a.tmps.toList → Steps E.P (lone (b.at a (k.map AI.erase)) cs w) (lone (b.at a (k'.map AI.erase)) cs w))
    (ht : ∀ (p : Phi) (vs : List Value), VRs p t vs → VRs p t' vs) : GoOk E rs k t m r m' :=
  ⟨h.1, fun p a w b cs fn hm hG hf hv hd hfn hres hk =>
    let ⟨cv, p', w', fr, h1, h2⟩ := h.2 p a w b cs fn hm hG hf (ht _ _ hv) hd hfn hres hk
    ⟨cv, p', w', fr, (hs p a w b cs hv).trans h1, h2⟩⟩

theorem goF_sound (hE : EnvOk E) {call : CallF} (hcall : CallOk E.P call) (rs : List ResultVar) : ∀ (n : Nat) (k : List AI) (t : List AV) (m : Mem) (r : AV) (m' : Mem), (∀ x ∈ k, x.ok E.P = true) → goF E call rs n k t m = some (r, m') → GoOk E rs k t m r m' := by
  intro n
  induction n with
  | zero => intro k t m r m' _ h; simp [goF] at h
  | succ n ih =>
    intro k t m r m' hok h
    simp only [goF] at h
    unfold stepK at h
    split at h
    · -- the end
      obtain ⟨vs, h1, h2⟩ := Option.bind_eq_some_iff.1 h
      cases h2
      refine ⟨Nat.le_refl _, fun p a w b cs fn hm hG hf hv hd hfn hres hk => ?_⟩
      subst hres
      obtain ⟨cv, h3, h4⟩ := results_sound hm hv h1
      exact ⟨cv, p, w, _, .one step_end, rfl, ⟨rfl, hd, hk, fn, hfn, h3⟩, h4, Sim.refl hm⟩
    · exact (ih _ t m r m' (fun x hx => hok x (by simp [hx])) h).steps (fun p a w b cs _ => .one step_inBlock) (fun _ _ h => h)
    · rename_i c k
      have hc := hok (.inLoop c) (by simp)
      refine (ih _ t m r m' (fun x hx => ?_) h).steps (fun p a w b cs _ => .one step_inLoop) (fun _ _ h => h)
      rcases List.mem_cons.1 hx with e | e
      · subst e; exact hc
      · exact hok x (by simpa using e)
    · rename_i c k
      have hc := hok (.code c) (by simp)
      have hk : ∀ x ∈ k, x.ok E.P = true := fun x hx => hok x (by simp [hx])
      split at h
      · exact (ih _ t m r m' hk h).steps (fun p a w b cs _ => .one step_skip) (fun _ _ h => h)
      · -- a region
        rename_i id ops draw chk anc
        split at h
        · rename_i hdraw; subst hdraw
          simp only [AI.ok, AC.ok, Bool.not_true, Bool.false_or, Bool.and_eq_true, decide_eq_true_eq] at hc
          obtain ⟨t', m1, h1, h2, h3⟩ := dopsK_sound (id := id) hcall hc.1 hc.2 hE.mixed h
          have hgo := ih k t' m1 r m' hk h1
          refine ⟨Nat.le_trans h2 hgo.1, fun p a w b cs fn hm hG hf hv hd hfn hres hkk => ?_⟩
          obtain ⟨e, a', w', hq, harr⟩ := h3 p a w (fun e a' w' => e = .normal ∧ ∃ p', VRs p' t' a'.tmps.toList ∧ a'.defers = a.defers ∧ Sim (GP E.P) p m w p' m1 w') hm hG (hf.sub (Nat.le_refl _) hgo.1) hv
            (fun p' a' w' x y z => ⟨rfl, p', x, y, z⟩) b (k.map AI.erase) cs
          obtain ⟨rfl, p1, g1, g2, g3⟩ := hq
          obtain ⟨cv, p', w2, fr, f1, f2, f3, f4, f5⟩ := hgo.2 p1 a' w' b cs fn g3.rel (Nat.le_trans hG g3.next) (hf.step g3) g1 (g2.trans hd) hfn hres hkk
          exact ⟨cv, p', w2, fr, Steps.trans harr f1, f2, f3, f4, g3.trans f5 hf⟩
        · rename_i hdraw
          have hdraw : draw = false := by simpa using hdraw
          subst hdraw
          obtain ⟨t', m1, h1, h2, h3⟩ := opsK_sound hcall ops 0 (fun j => by simp) h
          have hgo := ih k t' m1 r m' hk h1
          refine ⟨Nat.le_trans h2 hgo.1, fun p a w b cs fn hm hG hf hv hd hfn hres hkk => ?_⟩
          have hwp : (Code.region id ⟨ops⟩ false).wp E.P (fun e a' w' => e = .normal ∧ ∃ p', VRs p' t' a'.tmps.toList ∧ a'.defers = a.defers ∧ Sim (GP E.P) p m w p' m1 w') a w := by
            refine wp_region ?_
            have := h3 p a w (fun e a' w' => e = .normal ∧ ∃ p', VRs p' t' a'.tmps.toList ∧ a'.defers = a.defers ∧ Sim (GP E.P) p m w p' m1 w') hm hG (hf.sub (Nat.le_refl _) hgo.1) hv
              (fun p' a' w' x y z => ⟨rfl, p', x, y, z⟩)
            rw [← List.range_eq_range'] at this
            simpa using this
          obtain ⟨e, a', w', hq, harr⟩ := hwp b (k.map AI.erase) cs
          obtain ⟨rfl, p1, g1, g2, g3⟩ := hq
          obtain ⟨cv, p', w2, fr, f1, f2, f3, f4, f5⟩ := hgo.2 p1 a' w' b cs fn g3.rel (Nat.le_trans hG g3.next) (hf.step g3) g1 (g2.trans hd) hfn hres hkk
          exact ⟨cv, p', w2, fr, Steps.trans harr f1, f2, f3, f4, g3.trans f5 hf⟩
      · rename_i x y
        simp only [AI.ok, AC.ok, Bool.and_eq_true] at hc
        refine (ih _ t m r m' (fun z hz => ?_) h).steps (fun p a w b cs _ => .one step_seq) (fun _ _ h => h)
        simp only [List.mem_cons] at hz
        rcases hz with e | e | e
        · subst e; exact hc.1
        · subst e; exact hc.2
        · exact hk z e
      · rename_i c x y
        simp only [AI.ok, AC.ok, Bool.and_eq_true] at hc
        obtain ⟨v, h1, h2⟩ := Option.bind_eq_some_iff.1 h
        have main : ∀ (bb : Bool), v = .bool bb → GoOk E rs (.code (if bb then x else y) :: k) t m r m' → GoOk E rs (.code (.cond c x y) :: k) t m r m' := by
          intro bb hv hgo
          subst hv
          refine ⟨hgo.1, fun p a w b cs fn hm hG hf hvr hd hfn hres hkk => ?_⟩
          have hcv := ev_VR hvr hm.glob h1
          simp only [VR] at hcv
          obtain ⟨cv, p', w', fr, f1, f2⟩ := hgo.2 p a w b cs fn hm hG hf hvr hd hfn hres hkk
          refine ⟨cv, p', w', fr, .head (step_cond hcv) ?_, f2⟩
          cases bb <;> exact f1
        unfold condA at h2
        split at h2
        · refine main true rfl (ih _ t m r m' (fun z hz => ?_) h2)
          simp only [List.mem_cons] at hz
          rcases hz with e | e
          · subst e; exact hc.1
          · exact hk z e
        · refine main false rfl (ih _ t m r m' (fun z hz => ?_) h2)
          simp only [List.mem_cons] at hz
          rcases hz with e | e
          · subst e; exact hc.2
          · exact hk z e
        · cases h2
      · rename_i id body
        simp only [AI.ok, AC.ok] at hc
        refine (ih _ t m r m' (fun z hz => ?_) h).steps (fun p a w b cs _ => .one step_block) (fun _ _ h => h)
        simp only [List.mem_cons] at hz
        rcases hz with e | e | e
        · subst e; exact hc
        · subst e; rfl
        · exact hk z e
      · rename_i body
        simp only [AI.ok, AC.ok] at hc
        refine (ih _ t m r m' (fun z hz => ?_) h).steps (fun p a w b cs _ => .one step_loop) (fun _ _ h => h)
        simp only [List.mem_cons] at hz
        rcases hz with e | e | e
        · subst e; exact hc
        · subst e; exact hc
        · exact hk z e
      · rename_i id
        split at h
        · rename_i k' he
          exact (ih _ t m r m' (aexit_ok he hk) h).steps (fun p a w b cs _ => .one (step_exit (aexit_erase he))) (fun _ _ h => h)
        · cases h
      · obtain ⟨vs, h1, h2⟩ := Option.bind_eq_some_iff.1 h
        cases h2
        refine ⟨Nat.le_refl _, fun p a w b cs fn hm hG hf hv hd hfn hres hkk => ?_⟩
        subst hres
        obtain ⟨cv, h3, h4⟩ := results_sound hm hv h1
        exact ⟨cv, p, w, _, .one step_ret, rfl, ⟨rfl, hd, hkk, fn, hfn, h3⟩, h4, Sim.refl hm⟩
      · rename_i live c
        simp only [AI.ok, AC.ok] at hc
        refine (ih _ _ m r m' (fun z hz => ?_) h).steps (fun p a w b cs _ => .refl _ _) (fun _ _ h => mask_VRs h)
        simp only [List.mem_cons] at hz
        rcases hz with e | e
        · subst e; exact hc
        · exact hk z e
      · cases h

/-- WHAT A FUNCTION ANSWERS. -/
theorem runF_sound (hE : EnvOk E) : ∀ n, CallOk E.P (runF E n) := by
  intro n
  induction n with
  | zero => intro f args m r m' h; simp [runF] at h
  | succ n ih =>
    intro f args m r m' h
    simp only [runF] at h
    split at h
    · rename_i hk hH
      exact hE.hook f hk hH args m r m' h
    · split at h
      · rename_i rs nt c hB
        obtain ⟨fn, g1, g2, g3, g4, g5, g6⟩ := hE.body f rs nt c hB
        have hgo := goF_sound hE ih rs n _ _ m r m' (by simp [AI.ok, g6]) h
        refine ⟨hgo.1, fun p w cargs hm hG hf hv => .inl ⟨fn, g1, by simp [g2], g5, ?_⟩⟩
        intro cs
        let b : Frame := { (default : Frame) with fn := f, kind := .normal }
        have henter : Frame.enter E.P f ⟨cargs⟩ .normal = b.at { tmps := ⟨cargs⟩ ++ Array.replicate (fn.ntmps - cargs.length) undef, defers := [] } [.code c.erase] := by
          simp [Frame.enter, Frame.at, g1, g2, b]
        have hl := hv.length
        obtain ⟨cv, p', w', fr, f1, f2, f3, f4, f5⟩ := hgo.2 p { tmps := ⟨cargs⟩ ++ Array.replicate (fn.ntmps - cargs.length) undef, defers := [] } w b cs fn hm hG hf
          (by
            rw [← g4, ← hl]
            simp only [Array.toList_append, Array.toList_replicate]
            exact hv.append (VRs.replicate _ (by simp [VR]))) rfl g1 g3 rfl
        rw [henter]
        exact ⟨.returned cv, w', fr, ⟨cv, p', rfl, f4, f5⟩, f1, f2, f3⟩
      · cases h

theorem run_sound (hE : EnvOk E) : CallOk E.P (run E) := by
  intro f args m r m' h
  obtain ⟨n, hn⟩ := run_fuel h
  exact runF_sound hE n f args m r m' hn
end
end Go.Abs
