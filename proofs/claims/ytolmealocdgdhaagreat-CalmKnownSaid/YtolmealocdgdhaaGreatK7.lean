/- Texts of one claim, put together. -/
import Derived.Test.YtolmealocdgdhaaGreatK6
section
namespace Go.Proofs.YtolmealocdgdhaaGreat
open Go Go.Abs
set_option maxRecDepth 4000
theorem ins260 : InsText E0 260 342 1 8 ((zeroA Tryz.prog 22).getD []) :=
  ins_text (E := E0) (ti := 3) (e := 22) (ov := fun v s m => run E0 (.fn 346) [v, s] m) (rot := fun v k m => run E0 (.fn 347) [v, k] m) (by kernel_rfl) (by kernel_rfl) (by kernel_rfl) (by kernel_rfl)
    (fun v s m => run_hook (E := E0) (h := overlapsH) rfl [v, s] m) (fun a0 a1 a2 m => by
      simp only [f260_eq, g260_0_eq, g260_1_eq, g260_2_eq, g260_3_eq]
      rfl)
theorem ins261 : InsText E0 261 394 4 32 ((zeroA Tryz.prog 254).getD []) :=
  ins_text (E := E0) (ti := 3) (e := 254) (ov := fun v s m => run E0 (.fn 348) [v, s] m) (rot := fun v k m => run E0 (.fn 349) [v, k] m) (by kernel_rfl) (by kernel_rfl) (by kernel_rfl) (by kernel_rfl)
    (fun v s m => run_hook (E := E0) (h := overlapsH) rfl [v, s] m) (fun a0 a1 a2 m => by
      simp only [f261_eq, g261_0_eq, g261_1_eq, g261_2_eq, g261_3_eq]
      rfl)
theorem ins383 : InsText E0 383 343 1 16 ((zeroA Tryz.prog 9).getD []) :=
  ins_text (E := E0) (ti := 3) (e := 9) (ov := fun v s m => run E0 (.fn 435) [v, s] m) (rot := fun v k m => run E0 (.fn 436) [v, k] m) (by kernel_rfl) (by kernel_rfl) (by kernel_rfl) (by kernel_rfl)
    (fun v s m => run_hook (E := E0) (h := overlapsH) rfl [v, s] m) (fun a0 a1 a2 m => by
      simp only [f383_eq, g383_0_eq, g383_1_eq, g383_2_eq, g383_3_eq]
      rfl)
theorem ins384 : InsText E0 384 93 4 40 ((zeroA Tryz.prog 92).getD []) :=
  ins_text (E := E0) (ti := 3) (e := 92) (ov := fun v s m => run E0 (.fn 437) [v, s] m) (rot := fun v k m => run E0 (.fn 438) [v, k] m) (by kernel_rfl) (by kernel_rfl) (by kernel_rfl) (by kernel_rfl)
    (fun v s m => run_hook (E := E0) (h := overlapsH) rfl [v, s] m) (fun a0 a1 a2 m => by
      simp only [f384_eq, g384_0_eq, g384_1_eq, g384_2_eq, g384_3_eq]
      rfl)
theorem ins385 : InsText E0 385 97 9 88 ((zeroA Tryz.prog 189).getD []) :=
  ins_text (E := E0) (ti := 3) (e := 189) (ov := fun v s m => run E0 (.fn 439) [v, s] m) (rot := fun v k m => run E0 (.fn 440) [v, k] m) (by kernel_rfl) (by kernel_rfl) (by kernel_rfl) (by kernel_rfl)
    (fun v s m => run_hook (E := E0) (h := overlapsH) rfl [v, s] m) (fun a0 a1 a2 m => by
      simp only [f385_eq, g385_0_eq, g385_1_eq, g385_2_eq, g385_3_eq]
      rfl)
theorem ins386 : InsText E0 386 96 4 40 ((zeroA Tryz.prog 95).getD []) :=
  ins_text (E := E0) (ti := 3) (e := 95) (ov := fun v s m => run E0 (.fn 441) [v, s] m) (rot := fun v k m => run E0 (.fn 442) [v, k] m) (by kernel_rfl) (by kernel_rfl) (by kernel_rfl) (by kernel_rfl)
    (fun v s m => run_hook (E := E0) (h := overlapsH) rfl [v, s] m) (fun a0 a1 a2 m => by
      simp only [f386_eq, g386_0_eq, g386_1_eq, g386_2_eq, g386_3_eq]
      rfl)
theorem ins387 : InsText E0 387 228 4 48 ((zeroA Tryz.prog 324).getD []) :=
  ins_text (E := E0) (ti := 3) (e := 324) (ov := fun v s m => run E0 (.fn 443) [v, s] m) (rot := fun v k m => run E0 (.fn 444) [v, k] m) (by kernel_rfl) (by kernel_rfl) (by kernel_rfl) (by kernel_rfl)
    (fun v s m => run_hook (E := E0) (h := overlapsH) rfl [v, s] m) (fun a0 a1 a2 m => by
      simp only [f387_eq, g387_0_eq, g387_1_eq, g387_2_eq, g387_3_eq]
      rfl)
end Go.Proofs.YtolmealocdgdhaaGreat
end
section
namespace Go.Proofs.YtolmealocdgdhaaGreat
open Go Go.Abs
set_option maxRecDepth 4000
noncomputable def H (f : FuncId) : Option (List AV → Mem → R) :=
  match f with
  | 312 => some add64H
  | 346 => some overlapsH
  | 348 => some overlapsH
  | 435 => some overlapsH
  | 437 => some overlapsH
  | 439 => some overlapsH
  | 441 => some overlapsH
  | 443 => some overlapsH
  | 486 => some sub64H
  | 260 => some (insH Tryz.prog 342)
  | 261 => some (insH Tryz.prog 394)
  | 383 => some (insH Tryz.prog 343)
  | 384 => some (insH Tryz.prog 93)
  | 385 => some (insH Tryz.prog 97)
  | 386 => some (insH Tryz.prog 96)
  | 387 => some (insH Tryz.prog 228)
  | _ => none
noncomputable def E : Env := envOf Tryz.prog hints H
theorem E_ok : EnvOk E := envOf_ok (by kernel_rfl) 531 (fun f h => by
    unfold hints; rw [List.getElem?_eq_none (by show 531 ≤ f; exact h)]; rfl) looks (fun f h e => by
    unfold H at e
    split at e
    · have e1 := Option.some.inj e; subst e1; exact add64_ok (P := Tryz.prog) (fn := Tryz.f312) Tryz.func312 (by kernel_rfl) (by kernel_rfl) (by kernel_rfl) (by kernel_rfl)
    · have e1 := Option.some.inj e; subst e1; exact overlaps_ok (P := Tryz.prog) (fn := Tryz.f346) (st := 342) (tr := 4) (e := 22) (sz := 1) Tryz.func346 (by kernel_rfl) (by kernel_rfl) (by kernel_rfl) (by kernel_rfl) (by kernel_rfl) (by kernel_rfl)
    · have e1 := Option.some.inj e; subst e1; exact overlaps_ok (P := Tryz.prog) (fn := Tryz.f348) (st := 394) (tr := 4) (e := 254) (sz := 4) Tryz.func348 (by kernel_rfl) (by kernel_rfl) (by kernel_rfl) (by kernel_rfl) (by kernel_rfl) (by kernel_rfl)
    · have e1 := Option.some.inj e; subst e1; exact overlaps_ok (P := Tryz.prog) (fn := Tryz.f435) (st := 343) (tr := 4) (e := 9) (sz := 1) Tryz.func435 (by kernel_rfl) (by kernel_rfl) (by kernel_rfl) (by kernel_rfl) (by kernel_rfl) (by kernel_rfl)
    · have e1 := Option.some.inj e; subst e1; exact overlaps_ok (P := Tryz.prog) (fn := Tryz.f437) (st := 93) (tr := 4) (e := 92) (sz := 4) Tryz.func437 (by kernel_rfl) (by kernel_rfl) (by kernel_rfl) (by kernel_rfl) (by kernel_rfl) (by kernel_rfl)
    · have e1 := Option.some.inj e; subst e1; exact overlaps_ok (P := Tryz.prog) (fn := Tryz.f439) (st := 97) (tr := 4) (e := 189) (sz := 9) Tryz.func439 (by kernel_rfl) (by kernel_rfl) (by kernel_rfl) (by kernel_rfl) (by kernel_rfl) (by kernel_rfl)
    · have e1 := Option.some.inj e; subst e1; exact overlaps_ok (P := Tryz.prog) (fn := Tryz.f441) (st := 96) (tr := 4) (e := 95) (sz := 4) Tryz.func441 (by kernel_rfl) (by kernel_rfl) (by kernel_rfl) (by kernel_rfl) (by kernel_rfl) (by kernel_rfl)
    · have e1 := Option.some.inj e; subst e1; exact overlaps_ok (P := Tryz.prog) (fn := Tryz.f443) (st := 228) (tr := 4) (e := 324) (sz := 4) Tryz.func443 (by kernel_rfl) (by kernel_rfl) (by kernel_rfl) (by kernel_rfl) (by kernel_rfl) (by kernel_rfl)
    · have e1 := Option.some.inj e; subst e1; exact sub64_ok (P := Tryz.prog) (fn := Tryz.f486) Tryz.func486 (by kernel_rfl) (by kernel_rfl) (by kernel_rfl) (by kernel_rfl)
    · have e1 := Option.some.inj e; subst e1; exact insert_ok (E := E0) E0_ok (st := 342) (e := 22) (by kernel_rfl) (by kernel_rfl) (by kernel_rfl) (by kernel_rfl) ⟨Tryz.f260, Tryz.func260, by kernel_rfl, by decide +kernel⟩ ins260
    · have e1 := Option.some.inj e; subst e1; exact insert_ok (E := E0) E0_ok (st := 394) (e := 254) (by kernel_rfl) (by kernel_rfl) (by kernel_rfl) (by kernel_rfl) ⟨Tryz.f261, Tryz.func261, by kernel_rfl, by decide +kernel⟩ ins261
    · have e1 := Option.some.inj e; subst e1; exact insert_ok (E := E0) E0_ok (st := 343) (e := 9) (by kernel_rfl) (by kernel_rfl) (by kernel_rfl) (by kernel_rfl) ⟨Tryz.f383, Tryz.func383, by kernel_rfl, by decide +kernel⟩ ins383
    · have e1 := Option.some.inj e; subst e1; exact insert_ok (E := E0) E0_ok (st := 93) (e := 92) (by kernel_rfl) (by kernel_rfl) (by kernel_rfl) (by kernel_rfl) ⟨Tryz.f384, Tryz.func384, by kernel_rfl, by decide +kernel⟩ ins384
    · have e1 := Option.some.inj e; subst e1; exact insert_ok (E := E0) E0_ok (st := 97) (e := 189) (by kernel_rfl) (by kernel_rfl) (by kernel_rfl) (by kernel_rfl) ⟨Tryz.f385, Tryz.func385, by kernel_rfl, by decide +kernel⟩ ins385
    · have e1 := Option.some.inj e; subst e1; exact insert_ok (E := E0) E0_ok (st := 96) (e := 95) (by kernel_rfl) (by kernel_rfl) (by kernel_rfl) (by kernel_rfl) ⟨Tryz.f386, Tryz.func386, by kernel_rfl, by decide +kernel⟩ ins386
    · have e1 := Option.some.inj e; subst e1; exact insert_ok (E := E0) E0_ok (st := 228) (e := 324) (by kernel_rfl) (by kernel_rfl) (by kernel_rfl) (by kernel_rfl) ⟨Tryz.f387, Tryz.func387, by kernel_rfl, by decide +kernel⟩ ins387
    · cases e)
end Go.Proofs.YtolmealocdgdhaaGreat
end
section
namespace Go.Abs
open Go

inductive CM where
  | ret (v : AV)
  | fail
  | resC (P : Program) (rs : List ResultVar) (vs : List AV)
  | pu (e : Option AV) (K : AV → CM)
  | rm (e : Mem → Option AV) (K : AV → CM)
  | al (e : Option (Blk × (Nat → AV))) (K : AV → CM)
  | ef (e : Mem → R) (K : AV → CM)
  | st (e : Mem → Option Mem) (K : CM)
  | call (f : Nat) (az : List AV) (K : AV → CM)
  | callv (fv : AV) (az : List AV) (K : AV → CM)
  | ifv (v : AV) (x y : CM)
  | cond (v : AV) (x y : CM)
  | memo (K : Mem → CM)
  | chk (e : Option AV) (v : AV) (K : CM)
  | go (key : Nat) (ts : List AV)
  | rng (md : Md) (fv : AV) (l : LoopA) (key : Nat) (ts : List AV)
  | nxt (x : AV) (K : AV → CM)

structure Do where
  call : CallF
  gor : Nat → List AV → Mem → R
  afr : Nat → Option Jmp → List AV → Mem → R

noncomputable def bindA {α : Type} (e : Option α) (K : α → R) : R := Option.rec (motive := fun _ => R) none K e

noncomputable def interp (d : Do) (c : CM) : Mem → R :=
  CM.rec (motive := fun _ => Mem → R)
    (fun v m => some (v, m))
    (fun _ => none)
    (fun P rs vs m => Option.rec (motive := fun _ => R) none (fun vs => some (tupA vs, m)) (resA P rs vs m))
    (fun e _ ih m => Option.rec (motive := fun _ => R) none (fun v => ih v m) e)
    (fun e _ ih m => Option.rec (motive := fun _ => R) none (fun v => ih v m) (e m))
    (fun e _ ih m => Option.rec (motive := fun _ => R) none (fun c => ih (c.2 m.next) (m.lay c.1)) e)
    (fun e _ ih m => Option.rec (motive := fun _ => R) none (fun r => ih r.1 r.2) (e m))
    (fun e _ ih m => Option.rec (motive := fun _ => R) none (fun m => ih m) (e m))
    (fun f az _ ih m => Option.rec (motive := fun _ => R) none (fun r => ih r.1 r.2) (d.call (.fn f) az m))
    (fun fv az _ ih m => Option.rec (motive := fun _ => R) none (fun r => ih r.1 r.2) (callA d.call fv az m))
    (fun v _ _ x y m => ifV v (x m) (y m))
    (fun v _ _ x y m => condA v (x m) (y m))
    (fun _ ih m => ih m m)
    (fun e v _ ih m => if e = some v then ih m else none)
    (fun k ts m => d.gor k ts m)
    (fun md fv l k ts m => rangeK d.call md fv l m fun j m => d.afr k j ts m)
    (fun x _ ih m => nextR x m ih)
    c

section
variable {d : Do} {m : Mem}
theorem interp_ret (v : AV) : interp d (.ret v) m = some (v, m) := rfl
theorem interp_fail : interp d .fail m = none := rfl
theorem interp_resC (P : Program) (rs : List ResultVar) (vs : List AV) : interp d (.resC P rs vs) m = (resA P rs vs m).bind fun vs => some (tupA vs, m) := by
  cases h : resA P rs vs m <;> simp [interp, h]
theorem interp_pu (e : Option AV) (K : AV → CM) : interp d (.pu e K) m = e.bind fun v => interp d (K v) m := by cases e <;> rfl
theorem interp_rm (e : Mem → Option AV) (K : AV → CM) : interp d (.rm e K) m = (e m).bind fun v => interp d (K v) m := by
  show Option.rec (motive := fun _ => R) none (fun v => interp d (K v) m) (e m) = _
  cases e m <;> rfl
theorem interp_al (e : Option (Blk × (Nat → AV))) (K : AV → CM) : interp d (.al e K) m = e.bind fun c => interp d (K (c.2 m.next)) (m.lay c.1) := by cases e <;> rfl
theorem interp_ef (e : Mem → R) (K : AV → CM) : interp d (.ef e K) m = (e m).bind fun r => interp d (K r.1) r.2 := by
  show Option.rec (motive := fun _ => R) none (fun r => interp d (K r.1) r.2) (e m) = _
  cases e m <;> rfl
theorem interp_st (e : Mem → Option Mem) (K : CM) : interp d (.st e K) m = (e m).bind fun m => interp d K m := by
  show Option.rec (motive := fun _ => R) none (fun m => interp d K m) (e m) = _
  cases e m <;> rfl
theorem interp_call (f : Nat) (az : List AV) (K : AV → CM) : interp d (.call f az K) m = (d.call (.fn f) az m).bind fun r => interp d (K r.1) r.2 := by
  show Option.rec (motive := fun _ => R) none (fun r => interp d (K r.1) r.2) (d.call (.fn f) az m) = _
  cases d.call (.fn f) az m <;> rfl
theorem interp_callv (fv : AV) (az : List AV) (K : AV → CM) : interp d (.callv fv az K) m = (callA d.call fv az m).bind fun r => interp d (K r.1) r.2 := by
  show Option.rec (motive := fun _ => R) none (fun r => interp d (K r.1) r.2) (callA d.call fv az m) = _
  cases callA d.call fv az m <;> rfl
theorem interp_ifv (v : AV) (x y : CM) : interp d (.ifv v x y) m = ifV v (interp d x m) (interp d y m) := rfl
theorem interp_cond (v : AV) (x y : CM) : interp d (.cond v x y) m = condA v (interp d x m) (interp d y m) := rfl
theorem interp_memo (K : Mem → CM) : interp d (.memo K) m = interp d (K m) m := rfl
theorem interp_chk (e : Option AV) (v : AV) (K : CM) : interp d (.chk e v K) m = if e = some v then interp d K m else none := rfl
theorem interp_go (k : Nat) (ts : List AV) : interp d (.go k ts) m = d.gor k ts m := rfl
theorem interp_rng (md : Md) (fv : AV) (l : LoopA) (k : Nat) (ts : List AV) : interp d (.rng md fv l k ts) m = rangeK d.call md fv l m fun j m => d.afr k j ts m := rfl
theorem interp_nxt (x : AV) (K : AV → CM) : interp d (.nxt x K) m = nextR x m fun v m => interp d (K v) m := rfl
end

theorem Le.bindA {α : Type} {f g : Option α} {F G : α → R} (h : Le f g) (hF : ∀ x, Le (F x) (G x)) : Le (bindA f F) (bindA g G) := by
  have e : ∀ (o : Option α) (K : α → R), Abs.bindA o K = o.bind K := fun o K => by cases o <;> rfl
  rw [e, e]; exact h.bind hF

abbrev p1 {α : Type} (F : α → Option AV) (x : α) : Option AV := (some x).bind F
abbrev p2 (F : AV → AV → Option AV) (x y : AV) : Option AV := (some x).bind fun a => (some y).bind fun b => F a b
abbrev p3 (F : AV → AV → AV → Option AV) (x y z : AV) : Option AV := (some x).bind fun a => (some y).bind fun b => (some z).bind fun c => F a b c
abbrev q1 (F : AV → Mem → Option AV) (x : AV) (m : Mem) : Option AV := (some x).bind fun a => F a m
abbrev q2 (F : AV → AV → Mem → Option AV) (x y : AV) (m : Mem) : Option AV := (some x).bind fun a => (some y).bind fun b => F a b m
noncomputable abbrev apE (k w : Nat) (s x : AV) (m : Mem) : R := (some (k, w)).bind fun nw => appendA nw.1 nw.2 s x m

structure Do.Le (d e : Do) : Prop where
  call : ∀ t az m, Abs.Le (d.call t az m) (e.call t az m)
  gor : ∀ k ts m, Abs.Le (d.gor k ts m) (e.gor k ts m)
  afr : ∀ k j ts m, Abs.Le (d.afr k j ts m) (e.afr k j ts m)

theorem Le.rangeK {c c' : CallF} (h : ∀ f a m, Le (c f a m) (c' f a m)) (md : Md) (fv : AV) (l : LoopA) (m : Mem) {go go' : Option Jmp → Mem → R} (hg : ∀ j m, Le (go j m) (go' j m)) :
    Le (Abs.rangeK c md fv l m go) (Abs.rangeK c' md fv l m go') := by
  unfold Abs.rangeK
  split
  · split
    · refine .bind (h _ _ _) fun r => ?_
      unfold rangeEnd
      split
      · split
        · exact .none _
        · exact hg _ _
      · exact .none _
    · exact .none _
  · exact .none _

theorem Le.meetR {M n : Nat} {f g : Nat → R} (h : ∀ i, Le (f i) (g i)) : Le (Abs.meetR M n f) (Abs.meetR M n g) := fun r hr => by
  rw [← hr]
  refine (meetR_congr fun i hi => ?_).symm
  obtain ⟨mi, h1, _⟩ := meetR_some hr i hi
  rw [h1]
  exact (h i _ h1).symm
theorem Le.nextR (x : AV) (m : Mem) {K K' : AV → Mem → R} (hK : ∀ v m, Le (K v m) (K' v m)) : Le (Abs.nextR x m K) (Abs.nextR x m K') := by
  unfold Abs.nextR
  split
  · split
    · split
      · split
        · split
          · exact hK _ _
          · exact .meetR fun i => hK _ _
        · exact .none _
      · exact .none _
    · exact .none _
  · exact .none _

theorem interp_le {d e : Do} (h : d.Le e) (c : CM) : ∀ m, Le (interp d c m) (interp e c m) := by
  induction c with
  | ret _ | fail | resC _ _ _ => exact fun m => .refl _
  | pu _ _ ih => exact fun m => Le.bindA (.refl _) fun v => ih v m
  | rm _ _ ih => exact fun m => Le.bindA (.refl _) fun v => ih v m
  | al _ _ ih => exact fun m => Le.bindA (.refl _) fun v => ih _ _
  | ef _ _ ih => exact fun m => Le.bindA (.refl _) fun v => ih _ _
  | st _ _ ih => exact fun m => Le.bindA (.refl _) fun v => ih _
  | call _ _ _ ih => exact fun m => Le.bindA (h.call _ _ _) fun v => ih _ _
  | callv fv az _ ih =>
    intro m
    refine Le.bindA ?_ fun v => ih _ _
    unfold callA
    split
    · exact h.call _ _ _
    · exact h.call _ _ _
    · exact .none _
  | ifv v _ _ x y =>
    intro m
    show Le (ifV v _ _) (ifV v _ _)
    unfold ifV
    split
    · exact x m
    · exact y m
    · exact .none _
  | cond v _ _ x y =>
    intro m
    show Le (condA v _ _) (condA v _ _)
    unfold condA
    split
    · exact x m
    · exact y m
    · exact .none _
  | memo _ ih => exact fun m => ih m m
  | chk e v _ ih =>
    intro m
    show Le (if e = some v then _ else _) (if e = some v then _ else _)
    split
    · exact ih m
    · exact .none _
  | go _ _ => exact fun m => h.gor _ _ _
  | rng md fv l k ts => exact fun m => Le.rangeK h.call _ _ _ _ fun j m => h.afr _ _ _ _
  | nxt x _ ih => exact fun m => Le.nextR _ _ fun v m => ih v m


def spread : List Bool → List AV → List AV
  | true :: bs, v :: vs => v :: spread bs vs
  | true :: bs, [] => .undef :: spread bs []
  | false :: bs, vs => .undef :: spread bs vs
  | [], _ => []

def bM (n x : Nat) : List Bool := (List.range n).map (Nat.testBit x)

noncomputable def goR (E : Env) (M : Nat → List Bool) (k : Nat) (ts : List AV) (m : Mem) : R := goAt E (k / 4096) (k % 4096) (spread (M k) ts) m
noncomputable def afR (E : Env) (M : Nat → List Bool) (k : Nat) (j : Option Jmp) (ts : List AV) (m : Mem) : R := afterAt E (k / 4096) (k % 4096) j (spread (M k) ts) m
noncomputable def real (E : Env) (M N : Nat → List Bool) : Do := ⟨run E, goR E M, afR E N⟩

theorem goR_eq {E : Env} {M : Nat → List Bool} {k : Nat} (n : Nat) {ts : List AV} {m : Mem} {r : R}
    (h : goC E (run E) (mdR (rsOf E (k / 4096))) (go E (mdR (rsOf E (k / 4096)))) n (kAt E (k / 4096) (k % 4096)) (spread (M k) ts) m = r) : goR E M k ts m = r := goAt_eq n h
theorem afR_eq {E : Env} {M : Nat → List Bool} {k : Nat} {j : Option Jmp} (n : Nat) {ts : List AV} {m : Mem} {r : R}
    (h : goC E (run E) (mdR (rsOf E (k / 4096))) (go E (mdR (rsOf E (k / 4096)))) n (pend j (kLoop E (k / 4096) (k % 4096))) (spread (M k) ts) m = r) : afR E M k j ts m = r := afterAt_eq n h


noncomputable def apS (F : AV → List AV → CM) (l : List AV) : CM := List.rec (motive := fun _ => CM) .fail (fun a l _ => F a l) l
noncomputable def ap0 (c : CM) (l : List AV) : CM := List.rec (motive := fun _ => CM) c (fun _ _ _ => .fail) l

theorem apS_cons (F : AV → List AV → CM) (a : AV) (l : List AV) : apS F (a :: l) = F a l := rfl
theorem ap0_nil (c : CM) : ap0 c [] = c := rfl

def LeD (d : Do) (D : List AV → CM) (g : List AV → Mem → R) : Prop := ∀ l m, Le (interp d (D l) m) (g l m)
theorem apS_le {d : Do} {F : AV → List AV → CM} {g : List AV → Mem → R} (h : ∀ a, LeD d (F a) fun l => g (a :: l)) : LeD d (apS F) g := fun l m => by
  cases l with
  | nil => exact .none _
  | cons a l => exact h a l m
theorem ap0_le {d : Do} {c : CM} {g : List AV → Mem → R} (h : ∀ m, g [] m = interp d c m) : LeD d (ap0 c) g := fun l m => by
  cases l with
  | nil => show Le (interp d c m) (g [] m); rw [h]; exact .refl _
  | cons a l => exact .none _
def EqD (d : Do) (D : List AV → CM) (g : List AV → Mem → R) : Prop := ∀ l m, g l m = interp d (D l) m ∨ D l = .fail
theorem sE {d : Do} {F : AV → List AV → CM} {g : List AV → Mem → R} (h : ∀ a, EqD d (F a) fun l => g (a :: l)) : EqD d (apS F) g := fun l m => by
  cases l with
  | nil => exact .inr rfl
  | cons a l => exact h a l m
theorem zE {d : Do} {c : CM} {g : List AV → Mem → R} (h : ∀ m, g [] m = interp d c m) : EqD d (ap0 c) g := fun l m => by
  cases l with
  | nil => exact .inl (h m)
  | cons a l => exact .inr rfl
theorem EqD.le {d : Do} {D : List AV → CM} {g : List AV → Mem → R} (h : EqD d D g) : LeD d D g := fun l m => by
  cases h l m with
  | inl e => rw [e]; exact .refl _
  | inr e => rw [e]; exact .none _
theorem fail_le {d : Do} {g : List AV → Mem → R} : LeD d (fun _ => .fail) g := fun _ _ => .none _

theorem all_nil {α : Type} {p : α → Prop} : ∀ x ∈ ([] : List α), p x := fun _ h => by simp at h
theorem all_cons {α : Type} {p : α → Prop} {a : α} {l : List α} (h : p a) (h' : ∀ x ∈ l, p x) : ∀ x ∈ a :: l, p x := fun x hx => by
  cases hx with
  | head => exact h
  | tail _ hx => exact h' x hx

def pB (b : Nat) : AV := .ptr (some ⟨b, 0⟩)
def sB (n len : Nat) (b : Nat) : AV := .sl (some ⟨b, 0⟩) n len len true
def mB (b : Nat) : AV := .map (some b)


inductive BT (α : Type) where
  | leaf
  | node (k : Nat) (v : α) (l r : BT α)

noncomputable def BT.find {α : Type} (t : BT α) (q : Nat) : Option α :=
  BT.rec (motive := fun _ => Option α) none (fun k v _ _ l r => Bool.rec (motive := fun _ => Option α) (Bool.rec (motive := fun _ => Option α) r l (Nat.ble q k)) (some v) (Nat.beq q k)) t

structure Tb where
  fn : Nat → Option (List AV → CM)
  gor : Nat → Option (List AV → CM)
  afr : Nat → Option Jmp → Option (List AV → CM)

structure Tb.Ok (T : Tb) (E : Env) (M N : Nat → List Bool) : Prop where
  fn : ∀ f D, T.fn f = some D → LeD (real E M N) D fun az m => run E (.fn f) az m
  gor : ∀ k D, T.gor k = some D → LeD (real E M N) D fun ts m => goR E M k ts m
  afr : ∀ k j D, T.afr k j = some D → LeD (real E M N) D fun ts m => afR E N k j ts m

noncomputable def slowF (E : Env) (call : CallF) (n : Nat) (f : Nat) (az : List AV) (m : Mem) : R :=
  match E.H f with
  | some h => h az m
  | none => match E.B f with
    | some (rs, nt, c) => goF E call (.fn rs) n [.code c] (az ++ List.replicate (nt - az.length) .undef) m
    | none => none
noncomputable def slowY (E : Env) (call : CallF) (n : Nat) (b : Nat) (az : List AV) (m : Mem) : R := roundK m b az fun k t => goF E call (.rd b) n k t m

noncomputable def stepD (E : Env) (T : Tb) (n : Nat) (d : Do) : Do where
  call t az m := Tg.rec (motive := fun _ => R) (fun f => Option.rec (motive := fun _ => R) (slowF E d.call n f az m) (fun D => interp d (D az) m) (T.fn f)) (fun b => slowY E d.call n b az m) t
  gor k ts m := Option.rec (motive := fun _ => R) none (fun D => interp d (D ts) m) (T.gor k)
  afr k j ts m := Option.rec (motive := fun _ => R) none (fun D => interp d (D ts) m) (T.afr k j)
noncomputable def XD (E : Env) (T : Tb) (n : Nat) : Do := Nat.rec (motive := fun _ => Do) ⟨fun _ _ _ => none, fun _ _ _ => none, fun _ _ _ _ => none⟩ (fun n d => stepD E T n d) n

theorem Le.stepK {E : Env} {c c' : CallF} (h : ∀ f a m, Le (c f a m) (c' f a m)) {κ κ' : List AI → List AV → Mem → R} (hκ : ∀ k t m, Le (κ k t m) (κ' k t m)) (md : Md) (k : List AI) (t : List AV) (m : Mem) :
    Le (Abs.stepK E c md k t m κ) (Abs.stepK E c' md k t m κ') := by
  have hl : Lim (fun n => Abs.stepK E (if n = 0 then c else c') md k t m (if n = 0 then κ else κ')) (Abs.stepK E c' md k t m κ') := by
    refine Lim.stepK (call := fun n => if n = 0 then c else c') (κ := fun n => if n = 0 then κ else κ') ?_ md k t m ?_
    · intro f a m
      refine ⟨fun n => ?_, fun r hr => ⟨1, fun n hn => ?_⟩⟩
      · by_cases e : n = 0
        · simp only [e, if_true]; exact h _ _ _
        · simp only [e, if_false]; exact .refl _
      · simp only [show n ≠ 0 by omega, if_false]; exact hr
    · intro k t m
      refine ⟨fun n => ?_, fun r hr => ⟨1, fun n hn => ?_⟩⟩
      · by_cases e : n = 0
        · simp only [e, if_true]; exact hκ _ _ _
        · simp only [e, if_false]; exact .refl _
      · simp only [show n ≠ 0 by omega, if_false]; exact hr
  exact hl.1 0

theorem Le.goF {E : Env} {call : CallF} (h : ∀ f a m, Le (call f a m) (run E f a m)) (md : Md) : ∀ (n : Nat) k t m, Le (Abs.goF E call md n k t m) (go E md k t m)
  | 0, _, _, _ => .none _
  | n + 1, k, t, m => by rw [go_step]; exact Le.stepK h (fun k t m => Le.goF h md n k t m) md k t m

theorem slowF_le {E : Env} {call : CallF} (h : ∀ f a m, Le (call f a m) (run E f a m)) (n f : Nat) (az : List AV) (m : Mem) : Le (slowF E call n f az m) (run E (.fn f) az m) := by
  unfold slowF
  split
  · rename_i hH; rw [run_hook hH]; exact .refl _
  · rename_i hH
    split
    · rename_i hB; rw [run_body hH hB]; exact Le.goF h _ _ _ _ _
    · exact .none _
theorem slowY_le {E : Env} {call : CallF} (h : ∀ f a m, Le (call f a m) (run E f a m)) (n b : Nat) (az : List AV) (m : Mem) : Le (slowY E call n b az m) (run E (.yl b) az m) := by
  unfold slowY
  rw [run_round]
  unfold roundK
  split
  · split
    · exact Le.goF h _ _ _ _ _
    · exact .none _
  · exact .none _

theorem XD_le {E : Env} {T : Tb} {M N : Nat → List Bool} (ok : T.Ok E M N) : ∀ n, (XD E T n).Le (real E M N)
  | 0 => ⟨fun _ _ _ => .none _, fun _ _ _ => .none _, fun _ _ _ _ => .none _⟩
  | n + 1 => by
    have ih := XD_le ok n
    refine ⟨fun t az m => ?_, fun k ts m => ?_, fun k j ts m => ?_⟩
    · cases t with
      | fn f =>
        show Le (Option.rec (motive := fun _ => R) (slowF E (XD E T n).call n f az m) (fun D => interp (XD E T n) (D az) m) (T.fn f)) (run E (.fn f) az m)
        cases e : T.fn f with
        | none => exact slowF_le ih.call _ _ _ _
        | some D => exact (interp_le ih _ _).trans (ok.fn _ _ e az m)
      | yl b => exact slowY_le ih.call _ _ _ _
    · show Le (Option.rec (motive := fun _ => R) none (fun D => interp (XD E T n) (D ts) m) (T.gor k)) (goR E M k ts m)
      cases e : T.gor k with
      | none => exact .none _
      | some D => exact (interp_le ih _ _).trans (ok.gor _ _ e ts m)
    · show Le (Option.rec (motive := fun _ => R) none (fun D => interp (XD E T n) (D ts) m) (T.afr k j)) (afR E N k j ts m)
      cases e : T.afr k j with
      | none => exact .none _
      | some D => exact (interp_le ih _ _).trans (ok.afr _ _ _ e ts m)

theorem run_of_X {E : Env} {T : Tb} {M N : Nat → List Bool} (ok : T.Ok E M N) (n : Nat) {t : Tg} {az : List AV} {m : Mem} {r : AV × Mem} (h : (XD E T n).call t az m = some r) : run E t az m = some r :=
  (XD_le ok n).call t az m r h
end Go.Abs
end
section
namespace Go.Abs
open Go

inductive SV where
  | c (a : AV)
  | d (a : AV)
def SV.v : SV → AV
  | .c a => a
  | .d a => a

abbrev Ev := List (Nat × SV)
def fndK {α : Type} (i : Nat) (K : SV → α) : Ev → α
  | [] => K (.c .undef)
  | (j, v) :: l => match Nat.beq j i with
    | true => K v
    | false => fndK i K l
def fnd (i : Nat) (e : Ev) : SV := fndK i (fun v => v) e
theorem fndK_eq {α : Type} (i : Nat) (K : SV → α) : ∀ e : Ev, fndK i K e = K (fnd i e)
  | [] => rfl
  | (j, v) :: l => by
    unfold fnd fndK
    cases Nat.beq j i with
    | true => rfl
    | false => exact fndK_eq i K l
theorem fnd_cons (i j : Nat) (v : SV) (e : Ev) : fnd i ((j, v) :: e) = if j = i then v else fnd i e := by
  show (match Nat.beq j i with | true => v | false => fndK i (fun v => v) e) = _
  rw [beqN]
  by_cases h : j = i
  · rw [decide_eq_true h, if_pos h]
  · rw [decide_eq_false h, if_neg h]; rfl

structure Ops where
  P : Program
  nat : Nat → Nat
  pick : AV → AV → AV → Option AV
  nn : AV → Option AV
  bin : BinOp → Nat → AV → AV → Option AV
  un : UnOp → AV → Option AV
  conv : Nat → Nat → AV → Option AV
  fa : Nat → Nat → AV → Option AV
  fi : Nat → Nat → AV → Option AV
  ia : Nat → AV → AV → Option AV
  ix : Nat → AV → AV → Option AV
  s00 : Nat → AV → Option AV
  s10 : Nat → AV → AV → Option AV
  s01 : Nat → AV → AV → Option AV
  s11 : Nat → AV → AV → AV → Option AV
  s30 : Nat → AV → AV → AV → Option AV
  s31 : Nat → AV → AV → AV → AV → Option AV
  ext : Nat → AV → Option AV
  mi : Nat → AV → Option AV
  bld : Nat → List (Nat × AV) → Option AV
  len : Nat → AV → Option AV
  cap : Nat → AV → Option AV
  mn : AV → AV → Option AV
  mx : AV → AV → Option AV
  ld : Nat → AV → Mem → Option AV
  ts : Nat → AV → Mem → Option AV
  ent : AV → Mem → Option AV
  lk : Nat → Bool → AV → AV → Mem → Option AV
  lm : Nat → AV → Mem → Option AV
  al : List AV → Option (Blk × (Nat → AV))
  mm : Option (Blk × (Nat → AV))
  bx : AV → Option (Blk × (Nat → AV))
  bs : Nat → Nat → List AV → List (Nat × AV) → Option (Blk × (Nat → AV))
  ms : Nat → Nat → List AV → AV → AV → Option (Blk × (Nat → AV))
  sb : AV → Option (Blk × (Nat → AV))
  ap : Nat → Nat → AV → AV → Mem → R
  az : Nat → AV → AV → Mem → R
  cp : Nat → AV → AV → Mem → R
  rg : Nat → AV → Mem → R
  st : Nat → AV → AV → Mem → Option Mem
  mp : Nat → AV → AV → AV → Mem → Option Mem
  mdl : Nat → AV → AV → Mem → Option Mem
  cl : Nat → AV → Mem → Option Mem
  md : Nat → Md
  lo : Nat → Nat → List AV → LoopA

noncomputable def realO (E : Env) : Ops where
  P := E.P
  nat n := n
  pick := p3 pickA
  nn := p1 nnA
  bin op t := p2 (binA E.P op t)
  un op := p1 (unA op)
  conv a b := p1 (convA E.P a b)
  fa s i := p1 fun a => fieldAddrA E.P s a i
  fi s i := p1 fun a => fieldA E.P s a i
  ia s := p2 (indexAddrA E.P s)
  ix s := p2 (indexA E.P s)
  s00 s := p1 fun a => sliceA E.P s a none none
  s10 s := p2 fun a l => sliceA E.P s a (some l) none
  s01 s := p2 fun a h => sliceA E.P s a none (some h)
  s11 s := p3 fun a l h => sliceA E.P s a (some l) (some h)
  s30 s x h m := slice3A E.P s x none h m
  s31 s x l h m := slice3A E.P s x (some l) h m
  ext i := p1 fun a => extractA a i
  mi t := p1 (mkIfaceA E.P t)
  bld s ps := (some ps).bind (buildA E.P s)
  len s := p1 (lenT E.P s)
  cap s := p1 (capT E.P s)
  mn := p2 minA
  mx := p2 maxA
  ld s := q1 (loadA E.P s)
  ts s := q1 (toStrA E.P s)
  ent := q1 entryA
  lk s ok := q2 fun a k => lookupA E.P s a k ok
  lm s := q1 (lenM E.P s)
  al cs := some (.cells cs false, pB)
  mm := some (.map [], mB)
  bx := boxA
  bs := bsA
  ms := msA
  sb := s2bA
  ap := apE
  az := appendZ E.P
  cp := copyA
  rg := rangeA E.P
  st k a v m := stV m a v k
  mp := mapPut E.P
  mdl := mapDel E.P
  cl := clearA E.P
  md f := mdR (rsOf E f)
  lo := loopOf E

section
variable (O : Ops) (P : Program)

def evK (e : Ev) (x : Operand) (K : SV → CM) : CM :=
  match x with
  | .tmp i => fndK i K e
  | .const v => match ofV v with
    | some a => K (.c a)
    | none => .fail
  | .global g => match Nat.blt g P.globals.size with
    | true => K (.d (.ptr (some ⟨g, 0⟩)))
    | false => .fail
  | .func f => K (.d (.fn (.func f) [] []))
def evsK (e : Ev) : List Operand → (List AV → CM) → CM
  | [], K => K []
  | x :: xs, K => evK P e x fun a => evsK e xs fun az => K (a.v :: az)
def partsK (e : Ev) : List (Nat × Operand) → (List (Nat × AV) → CM) → CM
  | [], K => K []
  | (i, x) :: xs, K => evK P e x fun a => partsK e xs fun az => K ((i, a.v) :: az)

def pureK (e : Ev) (op : Op) (K : SV → CM) : CM :=
  match op with
  | .move x | .assign x => evK P e x K
  | .pick c a b => evK P e c fun c => evK P e a fun a => evK P e b fun b => match c with
    | .c (.bool true) => K a
    | .c (.bool false) => K b
    | .c _ => .fail
    | .d c => .pu (O.pick c a.v b.v) fun x => K (.d x)
  | .nilCheck x => evK P e x fun a => .pu (O.nn a.v) fun x => K (.d x)
  | .binOp op xt x y _ => evK P e x fun a => evK P e y fun b => .pu (O.bin op xt a.v b.v) fun x => K (.d x)
  | .unOp op _ x => evK P e x fun a => .pu (O.un op a.v) fun x => K (.d x)
  | .convert s t x => evK P e x fun a => .pu (O.conv s t a.v) fun x => K (.d x)
  | .fieldAddr s x i => evK P e x fun a => .pu (O.fa s i a.v) fun x => K (.d x)
  | .field s x i => evK P e x fun a => .pu (O.fi s i a.v) fun x => K (.d x)
  | .indexAddr s x i => evK P e x fun a => evK P e i fun b => .pu (O.ia s a.v b.v) fun x => K (.d x)
  | .index s x i => evK P e x fun a => evK P e i fun b => .pu (O.ix s a.v b.v) fun x => K (.d x)
  | .slice s x lo hi none => evK P e x fun a =>
    match lo, hi with
    | none, none => .pu (O.s00 s a.v) fun x => K (.d x)
    | some lo, none => evK P e lo fun l => .pu (O.s10 s a.v l.v) fun x => K (.d x)
    | none, some hi => evK P e hi fun h => .pu (O.s01 s a.v h.v) fun x => K (.d x)
    | some lo, some hi => evK P e lo fun l => evK P e hi fun h => .pu (O.s11 s a.v l.v h.v) fun x => K (.d x)
  | .slice s x lo (some hi) (some mx) => evK P e x fun a => evK P e hi fun h => evK P e mx fun m =>
    match lo with
    | none => .pu (O.s30 s a.v h.v m.v) fun x => K (.d x)
    | some lo => evK P e lo fun l => .pu (O.s31 s a.v l.v h.v m.v) fun x => K (.d x)
  | .extract x i => evK P e x fun a => .pu (O.ext i a.v) fun x => K (.d x)
  | .makeInterface xt x => evK P e x fun a => .pu (O.mi xt a.v) fun x => K (.d x)
  | .makeFunc f first cap => evsK P e first.toList fun a => evsK P e cap.toList fun b => K (.d (.fn f a b))
  | .build s parts => partsK P e parts.toList fun ps => .pu (O.bld s ps) fun x => K (.d x)
  | .call { callee := .builtin .len, args := ⟨[x]⟩, argTypes := ⟨[s]⟩ } => evK P e x fun a => .pu (O.len s a.v) fun x => K (.d x)
  | .call { callee := .builtin .cap, args := ⟨[x]⟩, argTypes := ⟨[s]⟩ } => evK P e x fun a => .pu (O.cap s a.v) fun x => K (.d x)
  | .call { callee := .builtin .min, args := ⟨[x, y]⟩, .. } => evK P e x fun a => evK P e y fun b => .pu (O.mn a.v b.v) fun x => K (.d x)
  | .call { callee := .builtin .max, args := ⟨[x, y]⟩, .. } => evK P e x fun a => evK P e y fun b => .pu (O.mx a.v b.v) fun x => K (.d x)
  | _ => .fail

def readK (e : Ev) (op : Op) (K : (Mem → Option AV) → CM) : CM :=
  match op with
  | .load s x => evK P e x fun a => K (O.ld s a.v)
  | .convert s _ x => evK P e x fun a => K (O.ts s a.v)
  | .lookup s x k ok => evK P e x fun a => evK P e k fun k => K (O.lk s ok a.v k.v)
  | .entry x => evK P e x fun a => K (O.ent a.v)
  | .call { callee := .builtin .len, args := ⟨[x]⟩, argTypes := ⟨[s]⟩ } => evK P e x fun a => K (O.lm s a.v)
  | _ => .fail

def allocK (e : Ev) (op : Op) (K : SV → CM) : CM :=
  match op with
  | .alloc t => match zeroA P t with
    | some cs => .al (O.al cs) fun x => K (.d x)
    | none => .fail
  | .box _ x => evK P e x fun a => .al (O.bx a.v) fun x => K (.d x)
  | .makeMap s none => match P.underlying s with
    | some (.map ..) => .al O.mm fun x => K (.d x)
    | _ => .fail
  | .buildSlice s len parts => match P.underlying s with
    | some (.slice t) => match szT P t, zeroA P t with
      | some n, some zs => match Nat.ble (len * n) 16777216 && Nat.beq zs.length n with
        | true => partsK P e parts.toList fun ps => .al (O.bs n len zs ps) fun x => K (.d x)
        | false => .fail
      | _, _ => .fail
    | _ => .fail
  | .makeSlice s l c => evK P e l fun l => evK P e c fun c => match P.underlying s with
    | some (.slice t) => match szT P t, zeroA P t, bytesT P t with
      | some n, some zs, some w => .al (O.ms n w zs l.v c.v) fun x => K (.d x)
      | _, _, _ => .fail
    | _ => .fail
  | .convert s t x => match P.underlying s with
    | some _ => match P.underlying t with
      | some (.slice u) => match P.underlying u, szT P u with
        | some (.int .u8), some 1 => evK P e x fun a => .al (O.sb a.v) fun x => K (.d x)
        | _, _ => .fail
      | _ => .fail
    | none => .fail
  | _ => .fail

def effC (e : Ev) (op : Op) (K : SV → CM) : CM :=
  match op with
  | .store s a v => evK P e a fun a => evK P e v fun v => match szT P s with
    | some n => .st (O.st n a.v v.v) (K (.c .undef))
    | none => .fail
  | .call { callee := .builtin .append, args := ⟨[s, x]⟩, argTypes := ⟨[st, xt]⟩ } => evK P e s fun s => evK P e x fun x => match P.underlying xt with
    | some (.int _) => .ef (O.az st s.v x.v) fun x => K (.d x)
    | _ => match appElem P st xt with
      | some nw => .ef (O.ap nw.1 nw.2 s.v x.v) fun x => K (.d x)
      | none => .fail
  | .call { callee := .builtin .copy, args := ⟨[d, x]⟩, argTypes := ⟨st :: _⟩ } => match copyElem P st with
    | some n => evK P e d fun d => evK P e x fun x => .ef (O.cp n d.v x.v) fun x => K (.d x)
    | none => .fail
  | .mapUpdate s x k v | .insert s x k v => evK P e x fun x => evK P e k fun k => evK P e v fun v => .st (O.mp s x.v k.v v.v) (K (.c .undef))
  | .call { callee := .builtin .delete, args := ⟨[x, k]⟩, argTypes := ⟨s :: _⟩ } => evK P e x fun x => evK P e k fun k => .st (O.mdl s x.v k.v) (K (.c .undef))
  | .call { callee := .builtin .clear, args := ⟨[x]⟩, argTypes := ⟨s :: _⟩ } => evK P e x fun x => .st (O.cl s x.v) (K (.c .undef))
  | .call { callee := .value (.func g), args := ⟨xs⟩, .. } => evsK P e xs fun az => .call g az fun x => K (.d x)
  | .call { callee := .value f, args := ⟨xs⟩, .. } => evK P e f fun f => evsK P e xs fun az => .callv f.v az fun x => K (.d x)
  | .range s x => evK P e x fun x => .ef (O.rg s x.v) fun x => K (.d x)
  | _ => .fail

def aputE (nt : Nat) (e : Ev) (d : Option Tmp) (v : SV) : Ev :=
  match d with
  | some d => match Nat.blt d nt with
    | true => (d, v) :: e
    | false => e
  | none => e

def isEmp : AV → Bool
  | .tup [] => true
  | _ => false

def guardK (nt : Nat) (sk : List Tmp) (ops : List Oper) (o : Oper) (e : Ev) (yes no : Ev → CM) : CM :=
  match o.guard with
  | none => yes e
  | some (j, want) => match (ops[j]?).bind (·.dst) with
    | none => .fail
    | some d => fndK d (fun v => match v with
      | .c (.bool b) => match b, want with
        | true, true => yes (aputE nt e (some d) (.c (.bool true)))
        | true, false => no (aputE nt e (some d) (.c (.bool true)))
        | false, true => no (aputE nt e (some d) (.c (.bool false)))
        | false, false => yes (aputE nt e (some d) (.c (.bool false)))
      | .c (.tup []) => match sk.contains d with
        | true => no e
        | false => .fail
      | .c _ => .fail
      | .d a => match want with
        | true => .ifv a (yes (aputE nt e (some d) (.c (.bool true)))) (no (aputE nt e (some d) (.c (.bool false))))
        | false => .ifv a (no (aputE nt e (some d) (.c (.bool true)))) (yes (aputE nt e (some d) (.c (.bool false))))) e

def opC (e : Ev) (op : Op) (K : SV → CM) : CM :=
  match cls P op with
  | .p => pureK O P e op K
  | .r => readK O P e op fun f => .rm f fun x => K (.d x)
  | .a => allocK O P e op K
  | .e => effC O P e op K

def opsC (nt : Nat) (all : List Oper) : List Oper → List Tmp → Ev → (Ev → CM) → CM
  | [], _, e, K => K e
  | o :: os, sk, e, K =>
    guardK nt sk all o e
      (fun e => opC O P e o.op fun v => opsC nt all os (skDel sk o.dst) (aputE nt e o.dst v) K)
      (fun e => opsC nt all os (o.dst.toList ++ sk) (aputE nt e o.dst (.c (.tup []))) K)

def chkRC (f : Mem → Option AV) (v : AV) (c : List Nat) : List (Nat × Mem) → CM → CM
  | [], K => K
  | (j, m) :: es, K => match c.contains j with
    | true => .chk (f m) v (chkRC f v c es K)
    | false => chkRC f v c es K
def chkEC (m : Mem) (c : List Nat) : List (Nat × (Mem → Option AV) × AV) → CM → CM
  | [], K => K
  | (j, f, v) :: rs, K => match c.contains j with
    | true => .chk (f m) v (chkEC m c rs K)
    | false => chkEC m c rs K

def dopsC (nt : Nat) (all : List Oper) : List (List Nat) → List Oper → List Tmp → Nat → List (Nat × (Mem → Option AV) × AV) → List (Nat × Mem) → Ev → (Ev → CM) → CM
  | c :: cs, o :: os, sk, i, rs, es, e, K =>
    guardK nt sk all o e
      (fun e => match cls P o.op with
        | .p => pureK O P e o.op fun v => dopsC nt all cs os (skDel sk o.dst) (i + 1) rs es (aputE nt e o.dst v) K
        | .r => readK O P e o.op fun f => .rm f fun x =>
            chkRC f x c es (dopsC nt all cs os (skDel sk o.dst) (i + 1) ((i, f, x) :: rs) es (aputE nt e o.dst (.d x)) K)
        | .a => allocK O P e o.op fun v => dopsC nt all cs os (skDel sk o.dst) (i + 1) rs es (aputE nt e o.dst v) K
        | .e => .memo fun m => effC O P e o.op fun v => .memo fun m' =>
            chkEC m' c rs (dopsC nt all cs os (skDel sk o.dst) (i + 1) rs ((i, m) :: es) (aputE nt e o.dst v) K))
      (fun e => dopsC nt all cs os (o.dst.toList ++ sk) (i + 1) rs es (aputE nt e o.dst (.c (.tup []))) K)
  | _, [], _, _, _, _, e, K => K e
  | [], _ :: _, _, _, _, _, _, _ => .fail

inductive IC where
  | skip
  | region (id : Nat) (ops : List Oper) (draw : Bool) (chk anc : List (List Nat))
  | seq (a b : IC)
  | cond (c : Operand) (x y : IC)
  | block (id : Nat) (b : IC)
  | loop (b : IC)
  | rangeFunc (i : Nat) (f : Operand) (ps : List Tmp) (a b : AC)
  | scope (b : IC)
  | exit (id : Nat)
  | ret
  | pt (i : Nat) (live : List Bool) (c : IC)
  | other (c : Code)

def nMarks : AC → Nat
  | .pt _ c => nMarks c + 1
  | .seq a b => nMarks a + nMarks b
  | .cond _ x y => nMarks x + nMarks y
  | .block _ b => nMarks b
  | .loop b => nMarks b
  | .scope b => nMarks b
  | .rangeFunc _ _ a b => nMarks a + nMarks b
  | _ => 0
def nLoops : AC → Nat
  | .pt _ c => nLoops c
  | .seq a b => nLoops a + nLoops b
  | .cond _ x y => nLoops x + nLoops y
  | .block _ b => nLoops b
  | .loop b => nLoops b
  | .scope b => nLoops b
  | .rangeFunc _ _ a b => nLoops a + nLoops b + 1
  | _ => 0
def index : AC → Nat → Nat → IC
  | .skip, _, _ => .skip
  | .region id ops draw chk anc, _, _ => .region id ops draw chk anc
  | .seq a b, n, l => .seq (index a n l) (index b (n + nMarks a) (l + nLoops a))
  | .cond c x y, n, l => .cond c (index x n l) (index y (n + nMarks x) (l + nLoops x))
  | .block id b, n, l => .block id (index b n l)
  | .loop b, n, l => .loop (index b n l)
  | .scope b, n, l => .scope (index b n l)
  | .rangeFunc f ps a b, _, l => .rangeFunc l f ps a b
  | .exit id, _, _ => .exit id
  | .ret, _, _ => .ret
  | .pt live c, n, l => .pt n live (index c (n + 1) l)
  | .other c, _, _ => .other c

def lsK (e : Ev) : List Nat → (List AV → CM) → CM
  | [], K => K []
  | i :: is, K => fndK i (fun v => lsK e is fun vs => K (v.v :: vs)) e
def liveL : Nat → List Bool → List Nat
  | _, [] => []
  | i, true :: bs => i :: liveL (i + 1) bs
  | i, false :: bs => liveL (i + 1) bs
def cutL : Nat → List Bool → List Bool
  | 0, _ => []
  | n + 1, [] => false :: cutL n []
  | n + 1, b :: bs => b :: cutL n bs

def rvI : ResultVar → Nat
  | .tmp i => i
  | .cell a _ => a
def allTmp : List ResultVar → Bool
  | [] => true
  | .tmp _ :: rs => allTmp rs
  | .cell .. :: _ => false
def renum : Nat → List ResultVar → List ResultVar
  | _, [] => []
  | n, .tmp _ :: rs => .tmp n :: renum (n + 1) rs
  | n, .cell _ ty :: rs => .cell n ty :: renum (n + 1) rs
def retK (nt : Nat) (rs : List ResultVar) (e : Ev) : CM := match isDf rs with
  | true => lsK e (List.range nt) fun vs => .ret (.tup vs)
  | false => lsK e (rs.map rvI) fun vs => match allTmp rs with
    | true => .ret (tupA vs)
    | false => .resC O.P (renum 0 rs) vs

def exK (ex : List (Nat × (Ev → CM))) (id : Nat) (e : Ev) : CM :=
  match ex with
  | [] => .fail
  | (j, K) :: ex => match Nat.beq j id with
    | true => K e
    | false => exK ex id e

variable (f nt : Nat) (rs : List ResultVar)
def goK (i : Nat) (live : List Bool) (e : Ev) : CM := lsK e (liveL 0 (cutL nt live)) fun vs => .go (4096 * f + i) vs
def loopK : IC → Ev → CM
  | .pt i live _, e => goK f nt i live e
  | _, _ => .fail

def compC : IC → List (Nat × (Ev → CM)) → (Ev → CM) → Ev → CM
  | .skip, _, K, e => K e
  | .region _ ops draw chk _, _, K, e => match draw with
    | true => dopsC O P nt ops chk ops [] 0 [] [] e K
    | false => match nextOf ops with
      | some (it, d, os) => evK P e it fun x => .nxt x.v fun v => opsC O P nt ops os [] (aputE nt e d (.d v)) K
      | none => opsC O P nt ops ops [] e K
  | .seq a b, ex, K, e => compC a ex (fun e => compC b ex K e) e
  | .cond c x y, ex, K, e => evK P e c fun v => match v with
    | .c (.bool true) => compC x ex K e
    | .c (.bool false) => compC y ex K e
    | .c _ => .fail
    | .d a => .cond a (compC x ex K e) (compC y ex K e)
  | .block id b, ex, K, e => compC b ((id, K) :: ex) K e
  | .loop b, _, _, e => loopK f nt b e
  | .scope b, ex, K, e => compC b ex K e
  | .rangeFunc i fo _ _ _, _, _, e => evK P e fo fun fv => lsK e (List.range nt) fun vs => .rng (O.md f) fv.v (O.lo f i vs) (4096 * f + i) vs
  | .exit id, ex, _, e => exK ex id e
  | .ret, _, _, e => retK O nt rs e
  | .pt i live _, _, _, e => goK f nt i live e
  | .other c, _, K, e => match c with
    | .label _ => K e
    | _ => .fail

def marksC : IC → List (Nat × (Ev → CM)) → (Ev → CM) → List (Nat × List Bool × (Ev → CM))
  | .pt i l c, ex, K => (i, l, fun e => compC O P f nt rs c ex K e) :: marksC c ex K
  | .seq a b, ex, K => marksC a ex (fun e => compC O P f nt rs b ex K e) ++ marksC b ex K
  | .cond _ x y, ex, K => marksC x ex K ++ marksC y ex K
  | .block id b, ex, K => marksC b ((id, K) :: ex) K
  | .loop b, ex, _ => marksC b ex fun e => loopK f nt b e
  | .scope b, ex, K => marksC b ex K
  | _, _, _ => []
def loopsC : IC → List (Nat × (Ev → CM)) → (Ev → CM) → List (Nat × (Ev → CM) × List (Nat × (Ev → CM)))
  | .pt _ _ c, ex, K => loopsC c ex K
  | .seq a b, ex, K => loopsC a ex (fun e => compC O P f nt rs b ex K e) ++ loopsC b ex K
  | .cond _ x y, ex, K => loopsC x ex K ++ loopsC y ex K
  | .block id b, ex, K => loopsC b ((id, K) :: ex) K
  | .loop b, ex, _ => loopsC b ex fun e => loopK f nt b e
  | .scope b, ex, K => loopsC b ex K
  | .rangeFunc i _ _ _ _, ex, K => [(i, K, ex)]
  | _, _, _ => []

noncomputable def apN : Nat → (List AV → CM) → List AV → CM
  | 0, F => ap0 (F [])
  | n + 1, F => apS fun a => apN n fun az => F (a :: az)
def envL : Nat → List AV → Ev
  | _, [] => []
  | i, a :: az => (i, .d a) :: envL (i + 1) az
def envV : List Nat → List AV → Ev
  | i :: is, a :: az => (i, .d a) :: envV is az
  | _, _ => []

structure Ent where
  fn : List AV → CM
  gs : List (Nat × (List AV → CM))
  ls : List (Nat × (List AV → CM) × (List AV → CM) × List (Nat × (List AV → CM)))

noncomputable def entC (na : Nat) (c : IC) : Ent where
  fn := apN na fun az => compC O P f nt rs c [] (fun e => retK O nt rs e) (envL 0 az)
  gs := (marksC O P f nt rs c [] fun e => retK O nt rs e).map fun x => (4096 * f + x.1, apN (liveL 0 (cutL nt x.2.1)).length fun az => x.2.2 (envV (liveL 0 (cutL nt x.2.1)) az))
  ls := (loopsC O P f nt rs c [] fun e => retK O nt rs e).map fun x => (4096 * f + x.1, apN nt (fun az => x.2.1 (envL 0 az)), apN nt (fun az => retK O nt rs (envL 0 az)), x.2.2.map fun y => (y.1, apN nt fun az => exK x.2.2 y.1 (envL 0 az)))
end
end Go.Abs
end
section
namespace Go.Abs
open Go

def Rel (nt : Nat) (e : Ev) (t : List AV) : Prop := t.length = nt ∧ ∀ i, (fnd i e).v = nth t i
def SkOk (nt : Nat) (sk : List Tmp) (e : Ev) : Prop := ∀ i ∈ sk, i < nt → fnd i e = .c (.tup [])

theorem nth_setF (t : List AV) (d i : Nat) (v : AV) : nth (setF t d v) i = if d = i ∧ d < t.length then v else nth t i := by
  rw [nth_eq, nth_eq, setF_eq, List.getD_eq_getElem?_getD, List.getD_eq_getElem?_getD, List.getElem?_set]
  by_cases h : d = i
  · subst h
    by_cases h2 : d < t.length
    · simp [h2]
    · simp [h2]
  · simp [h]
theorem setF_length (t : List AV) (d : Nat) (v : AV) : (setF t d v).length = t.length := by rw [setF_eq]; simp
theorem nth_ge {t : List AV} {i : Nat} (h : t.length ≤ i) : nth t i = .undef := by rw [nth_eq, List.getD_eq_getElem?_getD, List.getElem?_eq_none h]; rfl

theorem bltN (a b : Nat) : Nat.blt a b = decide (a < b) := by
  show Nat.ble (a + 1) b = _
  by_cases h : a < b
  · rw [decide_eq_true h]; exact Nat.ble_eq_true_of_le h
  · rw [decide_eq_false h]; cases e : Nat.ble (a + 1) b with
    | false => rfl
    | true => exact absurd (Nat.le_of_ble_eq_true e) h
theorem fnd_aput (nt : Nat) (e : Ev) (d : Nat) (v : SV) (i : Nat) : fnd i (aputE nt e (some d) v) = if d = i ∧ d < nt then v else fnd i e := by
  show fnd i (match Nat.blt d nt with | true => (d, v) :: e | false => e) = _
  rw [bltN]
  by_cases h : d < nt
  · rw [decide_eq_true h]; simp only [fnd_cons, h, and_true]
  · rw [decide_eq_false h]; simp only [h, and_false, if_false]
theorem Rel.aput {nt : Nat} {e : Ev} {t : List AV} (h : Rel nt e t) (d : Option Tmp) (v : SV) : Rel nt (aputE nt e d v) (aput t d v.v) := by
  cases d with
  | none => exact h
  | some d =>
    refine ⟨(setF_length t d v.v).trans h.1, fun i => ?_⟩
    show _ = nth (setF t d v.v) i
    rw [fnd_aput, nth_setF, h.1]
    split
    · rfl
    · exact h.2 i

section
variable {E : Env} {d : Do} {nt : Nat} {e : Ev} {t : List AV} {m : Mem}
theorem evK_eq (h : Rel nt e t) (x : Operand) {K : SV → CM} {F : AV → R} (hK : ∀ v : SV, interp d (K v) m = F v.v) : interp d (evK E.P e x K) m = (ev E.P t x).bind F := by
  cases x with
  | tmp i => show interp d (fndK i K e) m = F (nth t i); rw [fndK_eq, hK, h.2]
  | const v =>
    show interp d (match ofV v with | some a => K (.c a) | none => .fail) m = (ofV v).bind F
    cases ofV v with
    | none => rfl
    | some a => exact hK (.c a)
  | global g =>
    show interp d (match Nat.blt g E.P.globals.size with | true => K (.d (.ptr (some ⟨g, 0⟩))) | false => .fail) m = (if g < E.P.globals.size then some (.ptr (some ⟨g, 0⟩)) else none).bind F
    rw [bltN]
    by_cases hg : g < E.P.globals.size
    · rw [decide_eq_true hg, if_pos hg]; exact hK (.d _)
    · rw [decide_eq_false hg, if_neg hg]; rfl
  | func f => exact hK (.d _)
theorem evsK_eq (h : Rel nt e t) : ∀ (xs : List Operand) {K : List AV → CM} {F : List AV → R}, (∀ v, interp d (K v) m = F v) → interp d (evsK E.P e xs K) m = (evs E.P t xs).bind F
  | [], K, F, hK => hK []
  | x :: xs, K, F, hK => by
    unfold evsK
    rw [evK_eq h x (F := fun a => (evs E.P t xs).bind fun az => F (a :: az)) fun v => evsK_eq h xs fun az => hK _]
    have hu : evs E.P t (x :: xs) = match ev E.P t x, evs E.P t xs with | some a, some az => some (a :: az) | _, _ => none := rfl
    rw [hu]
    cases ev E.P t x with
    | none => rfl
    | some a => cases evs E.P t xs <;> rfl
theorem partsK_eq (h : Rel nt e t) : ∀ (xs : List (Nat × Operand)) {K : List (Nat × AV) → CM} {F : List (Nat × AV) → R}, (∀ v, interp d (K v) m = F v) → interp d (partsK E.P e xs K) m = (evParts E.P t xs).bind F
  | [], K, F, hK => hK []
  | (i, x) :: xs, K, F, hK => by
    unfold partsK
    rw [evK_eq h x (F := fun a => (evParts E.P t xs).bind fun az => F ((i, a) :: az)) fun v => partsK_eq h xs fun az => hK _]
    have hu : evParts E.P t ((i, x) :: xs) = match ev E.P t x, evParts E.P t xs with | some a, some az => some ((i, a) :: az) | _, _ => none := rfl
    rw [hu]
    cases ev E.P t x with
    | none => rfl
    | some a => cases evParts E.P t xs <;> rfl

theorem bind2 {α β : Type} (a : Option α) (G : α → Option β) (F : β → R) : (a.bind G).bind F = a.bind fun x => (G x).bind F := by cases a <;> rfl

theorem pureK_eq (h : Rel nt e t) (op : Op) {K : SV → CM} {F : AV → R} (hK : ∀ v : SV, interp d (K v) m = F v.v) : interp d (pureK (realO E) E.P e op K) m = (pureOp E.P op t).bind F := by
  have one : ∀ (x : Operand) (G : AV → Option AV) (G' : AV → Option AV), (∀ a, G' a = G a) → interp d (evK E.P e x fun a => .pu (G' a.v) fun x => K (.d x)) m = ((ev E.P t x).bind G).bind F := fun x G G' hG => by
    rw [bind2]
    refine evK_eq h x (F := fun a => (G a).bind F) fun v => ?_
    rw [interp_pu, hG]
    cases G v.v with
    | none => rfl
    | some r => exact hK (.d r)
  have two : ∀ (x y : Operand) (G G' : AV → AV → Option AV), (∀ a b, G' a b = G a b) → interp d (evK E.P e x fun a => evK E.P e y fun b => .pu (G' a.v b.v) fun x => K (.d x)) m = ((ev E.P t x).bind fun a => (ev E.P t y).bind fun b => G a b).bind F := fun x y G G' hG => by
    rw [bind2]
    refine evK_eq h x (F := fun a => ((ev E.P t y).bind (G a)).bind F) fun v => ?_
    rw [bind2]
    refine evK_eq h y (F := fun b => (G v.v b).bind F) fun w => ?_
    rw [interp_pu, hG]
    cases G v.v w.v with
    | none => rfl
    | some r => exact hK (.d r)
  have three : ∀ (x y z : Operand) (G G' : AV → AV → AV → Option AV), (∀ a b c, G' a b c = G a b c) → interp d (evK E.P e x fun a => evK E.P e y fun b => evK E.P e z fun c => .pu (G' a.v b.v c.v) fun x => K (.d x)) m =
      ((ev E.P t x).bind fun a => (ev E.P t y).bind fun b => (ev E.P t z).bind fun c => G a b c).bind F := fun x y z G G' hG => by
    rw [bind2]
    refine evK_eq h x (F := fun a => ((ev E.P t y).bind fun b => (ev E.P t z).bind fun c => G a b c).bind F) fun v => ?_
    rw [bind2]
    refine evK_eq h y (F := fun b => ((ev E.P t z).bind fun c => G v.v b c).bind F) fun w => ?_
    rw [bind2]
    refine evK_eq h z (F := fun c => (G v.v w.v c).bind F) fun u => ?_
    rw [interp_pu, hG]
    cases G v.v w.v u.v with
    | none => rfl
    | some r => exact hK (.d r)
  unfold pureK
  split
  · exact evK_eq h _ hK
  · exact evK_eq h _ hK
  · rename_i c a b
    show _ = ((ev E.P t c).bind fun c => (ev E.P t a).bind fun a => (ev E.P t b).bind fun b => pickA c a b).bind F
    rw [bind2]
    refine evK_eq h c (F := fun c => ((ev E.P t a).bind fun a => (ev E.P t b).bind fun b => pickA c a b).bind F) fun v => ?_
    rw [bind2]
    refine evK_eq h a (F := fun a => ((ev E.P t b).bind fun b => pickA v.v a b).bind F) fun w => ?_
    rw [bind2]
    refine evK_eq h b (F := fun b => (pickA v.v w.v b).bind F) fun u => ?_
    split
    · exact hK w
    · exact hK u
    · rename_i x h1 h2
      cases x with
      | bool b => cases b with
        | true => exact absurd rfl h1
        | false => exact absurd rfl h2
      | _ => rfl
    · rename_i x
      rw [interp_pu]
      show (pickA x w.v u.v).bind (fun v => interp d (K (.d v)) m) = (pickA x w.v u.v).bind F
      cases pickA x w.v u.v with
      | none => rfl
      | some r => exact hK (.d r)
  · exact one _ _ _ fun _ => rfl
  · exact two _ _ _ _ fun _ _ => rfl
  · exact one _ _ _ fun _ => rfl
  · exact one _ _ _ fun _ => rfl
  · exact one _ _ _ fun _ => rfl
  · exact one _ _ _ fun _ => rfl
  · exact two _ _ _ _ fun _ _ => rfl
  · exact two _ _ _ _ fun _ _ => rfl
  · rename_i s x lo hi
    cases lo with
    | none => cases hi with
      | none => exact one _ _ _ fun _ => rfl
      | some hi => exact two _ _ _ _ fun _ _ => rfl
    | some lo => cases hi with
      | none => exact two _ _ _ _ fun _ _ => rfl
      | some hi => exact three _ _ _ _ _ fun _ _ _ => rfl
  · rename_i s x lo hi mx
    cases lo with
    | none => exact three _ _ _ _ _ fun _ _ _ => rfl
    | some lo =>
      show _ = ((ev E.P t x).bind fun a => (ev E.P t hi).bind fun h => (ev E.P t mx).bind fun m => (ev E.P t lo).bind fun l => slice3A E.P s a (some l) h m).bind F
      rw [bind2]
      refine evK_eq h x (F := fun a => ((ev E.P t hi).bind fun h => (ev E.P t mx).bind fun m => (ev E.P t lo).bind fun l => slice3A E.P s a (some l) h m).bind F) fun a => ?_
      rw [bind2]
      refine evK_eq h hi (F := fun h => ((ev E.P t mx).bind fun m => (ev E.P t lo).bind fun l => slice3A E.P s a.v (some l) h m).bind F) fun b => ?_
      rw [bind2]
      refine evK_eq h mx (F := fun m => ((ev E.P t lo).bind fun l => slice3A E.P s a.v (some l) b.v m).bind F) fun c => ?_
      rw [bind2]
      refine evK_eq h lo (F := fun l => (slice3A E.P s a.v (some l) b.v c.v).bind F) fun l => ?_
      rw [interp_pu]
      show (slice3A E.P s a.v (some l.v) b.v c.v).bind _ = _
      cases slice3A E.P s a.v (some l.v) b.v c.v with
      | none => rfl
      | some r => exact hK (.d r)
  · exact one _ _ _ fun _ => rfl
  · exact one _ _ _ fun _ => rfl
  · rename_i g first cap
    show _ = ((evs E.P t first.toList).bind fun a => (evs E.P t cap.toList).bind fun b => some (.fn g a b)).bind F
    rw [bind2]
    refine evsK_eq h _ fun a => ?_
    rw [bind2]
    exact evsK_eq h _ fun b => hK _
  · rename_i s ps
    show _ = ((evParts E.P t ps.toList).bind (buildA E.P s)).bind F
    rw [bind2]
    refine partsK_eq h _ fun a => ?_
    rw [interp_pu]
    show (buildA E.P s a).bind _ = _
    cases buildA E.P s a with
    | none => rfl
    | some r => exact hK (.d r)
  · exact one _ _ _ fun _ => rfl
  · exact one _ _ _ fun _ => rfl
  · exact two _ _ _ _ fun _ _ => rfl
  · exact two _ _ _ _ fun _ _ => rfl
  · show none = _
    unfold pureOp
    split <;> first | rfl | (exfalso; simp_all <;> (rename_i hh; first | exact hh _ _ _ _ _ rfl rfl rfl rfl rfl | exact hh _ _ _ _ rfl rfl rfl rfl))

theorem evK_cases (h : Rel nt e t) (x : Operand) : (∃ v : SV, ev E.P t x = some v.v ∧ ∀ K, evK E.P e x K = K v) ∨ (ev E.P t x = none ∧ ∀ K, evK E.P e x K = .fail) := by
  cases x with
  | tmp i => exact .inl ⟨fnd i e, by rw [h.2]; rfl, fun K => fndK_eq i K e⟩
  | const v =>
    cases hv : ofV v with
    | none => exact .inr ⟨hv, fun K => by show (match ofV v with | some a => K (.c a) | none => .fail) = _; rw [hv]⟩
    | some a => exact .inl ⟨.c a, hv, fun K => by show (match ofV v with | some a => K (.c a) | none => .fail) = _; rw [hv]⟩
  | global g =>
    by_cases hg : g < E.P.globals.size
    · refine .inl ⟨.d (.ptr (some ⟨g, 0⟩)), if_pos hg, fun K => ?_⟩
      show (match Nat.blt g E.P.globals.size with | true => K (.d (.ptr (some ⟨g, 0⟩))) | false => .fail) = _
      rw [bltN, decide_eq_true hg]
    · refine .inr ⟨if_neg hg, fun K => ?_⟩
      show (match Nat.blt g E.P.globals.size with | true => K (.d (.ptr (some ⟨g, 0⟩))) | false => .fail) = _
      rw [bltN, decide_eq_false hg]
  | func f => exact .inl ⟨.d (.fn (.func f) [] []), rfl, fun K => rfl⟩

theorem readK_eq (h : Rel nt e t) (op : Op) {K : (Mem → Option AV) → CM} {r : R} (h1 : ∀ f, (∀ m', f m' = readOp E.P op t m') → interp d (K f) m = r) (h2 : (∀ m', readOp E.P op t m' = none) → r = none) :
    interp d (readK (realO E) E.P e op K) m = r := by
  have one : ∀ (x : Operand) (G : AV → Mem → Option AV) (G' : AV → Mem → Option AV), (∀ a m, G' a m = G a m) → (∀ m', readOp E.P op t m' = (ev E.P t x).bind fun a => G a m') → interp d (evK E.P e x fun a => K (G' a.v)) m = r := fun x G G' hG he => by
    rcases evK_cases (E := E) h x with ⟨v, e1, e2⟩ | ⟨e1, e2⟩
    · rw [e2]; exact h1 _ fun m' => by rw [he, e1, hG]; rfl
    · rw [e2]; exact (h2 fun m' => by rw [he, e1]; rfl).symm
  unfold readK
  split
  · exact one _ _ _ (fun _ _ => rfl) fun _ => rfl
  · exact one _ _ _ (fun _ _ => rfl) fun _ => rfl
  · rename_i s x k ok
    rcases evK_cases (E := E) h x with ⟨v, e1, e2⟩ | ⟨e1, e2⟩
    · rw [e2]
      rcases evK_cases (E := E) h k with ⟨w, e3, e4⟩ | ⟨e3, e4⟩
      · rw [e4]
        refine h1 _ fun m' => ?_
        show _ = (ev E.P t x).bind fun a => (ev E.P t k).bind fun k => lookupA E.P s a k ok m'
        rw [e1, e3]; rfl
      · rw [e4]
        refine (h2 fun m' => ?_).symm
        show ((ev E.P t x).bind fun a => (ev E.P t k).bind fun k => lookupA E.P s a k ok m') = _
        rw [e1, e3]; rfl
    · rw [e2]
      refine (h2 fun m' => ?_).symm
      show ((ev E.P t x).bind fun a => (ev E.P t k).bind fun k => lookupA E.P s a k ok m') = _
      rw [e1]; rfl
  · exact one _ _ _ (fun _ _ => rfl) fun _ => rfl
  · exact one _ _ _ (fun _ _ => rfl) fun _ => rfl
  · refine (h2 fun m' => ?_).symm
    unfold readOp
    split <;> first | rfl | (exfalso; simp_all <;> (rename_i hh; first | exact hh _ _ _ rfl rfl rfl | exact hh _ _ rfl rfl | exact hh _ _ _ _ rfl rfl rfl rfl | exact Bool.noConfusion (((hh _ _ _).1 rfl rfl rfl).symm.trans ((hh _ _ _).2 rfl rfl rfl))))

theorem allocK_eq (h : Rel nt e t) (op : Op) {K : SV → CM} {F : AV → Mem → R} (hK : ∀ (v : SV) m, interp d (K v) m = F v.v m) : interp d (allocK (realO E) E.P e op K) m = (allocOp E.P op t).bind fun ca => F (ca.2 m.next) (m.lay ca.1) := by
  have al : ∀ (o : Option (Blk × (Nat → AV))), interp d (.al o fun x => K (.d x)) m = o.bind fun ca => F (ca.2 m.next) (m.lay ca.1) := fun o => by
    rw [interp_al]
    cases o with
    | none => rfl
    | some ca => exact hK (.d _) _
  unfold allocK
  split
  · rename_i ty
    show interp d (match zeroA E.P ty with | some cs => _ | none => _) m = ((zeroA E.P ty).map fun cs => (Blk.cells cs false, fun b => AV.ptr (some ⟨b, 0⟩))).bind _
    cases zeroA E.P ty with
    | none => rfl
    | some cs => exact al _
  · rename_i ty x
    show _ = (((ev E.P t x).bind AV.cells).map fun cs => (Blk.cells cs false, fun b => AV.ptr (some ⟨b, 0⟩))).bind _
    rcases evK_cases (E := E) h x with ⟨v, e1, e2⟩ | ⟨e1, e2⟩
    · rw [e2, e1]; exact al _
    · rw [e2, e1]; rfl
  · rename_i s
    show _ = (match E.P.underlying s with | some (.map ..) => some (Blk.map [], fun b => AV.map (some b)) | _ => none).bind _
    cases E.P.underlying s with
    | none => rfl
    | some u =>
      cases u with
      | map k el => exact al _
      | _ => rfl
  · rename_i s len parts
    show _ = (match E.P.underlying s with
      | some (.slice e) => match szT E.P e, zeroA E.P e with
        | some n, some zs => if len * n ≤ 16777216 ∧ zs.length = n then (evParts E.P t parts.toList).bind fun ps =>
            (fillA (fun i => some (i * n, n)) (List.replicate len zs).flatten ps).map fun cs => (Blk.cells cs false, fun b => AV.sl (some ⟨b, 0⟩) n len len true) else none
        | _, _ => none
      | _ => none).bind _
    cases E.P.underlying s with
    | none => rfl
    | some u =>
      cases u with
      | slice ty =>
        simp only
        cases szT E.P ty with
        | none => rfl
        | some n =>
          cases zeroA E.P ty with
          | none => rfl
          | some zs =>
            simp only
            by_cases hc : len * n ≤ 16777216 ∧ zs.length = n
            · rw [if_pos hc, show (Nat.ble (len * n) 16777216 && Nat.beq zs.length n) = true by rw [Nat.ble_eq_true_of_le hc.1, hc.2, Nat.beq_refl]; rfl]
              rw [bind2]
              exact partsK_eq h _ fun ps => al _
            · rw [if_neg hc]
              cases hb : (Nat.ble (len * n) 16777216 && Nat.beq zs.length n) with
              | false => rfl
              | true =>
                rw [Bool.and_eq_true] at hb
                exact absurd ⟨Nat.le_of_ble_eq_true hb.1, Nat.eq_of_beq_eq_true hb.2⟩ hc
      | _ => rfl
  · rename_i s l c
    show _ = ((ev E.P t l).bind fun l => (ev E.P t c).bind fun c =>
      match E.P.underlying s, l, c with
      | some (.slice e), .int .i64 l, .int .i64 c => match szT E.P e, zeroA E.P e, bytesT E.P e with
        | some n, some zs, some w =>
          if 0 ≤ l ∧ l ≤ c ∧ c < 9223372036854775808 ∧ c.toNat * w ≤ maxBytes ∧ zs.length = n then
            some (Blk.cells (List.replicate c.toNat zs).flatten false, fun b => AV.sl (some ⟨b, 0⟩) n l.toNat c.toNat true) else none
        | _, _, _ => none
      | _, _, _ => none).bind _
    rcases evK_cases (E := E) h l with ⟨v, e1, e2⟩ | ⟨e1, e2⟩
    · rcases evK_cases (E := E) h c with ⟨w, e3, e4⟩ | ⟨e3, e4⟩
      · rw [e2, e1, e4, e3]
        show interp d _ m = Option.bind (match E.P.underlying s, v.v, w.v with | some (.slice e), .int .i64 l, .int .i64 c => _ | _, _, _ => none) _
        cases E.P.underlying s with
        | none => rfl
        | some u =>
          cases u with
          | slice ty =>
            simp only
            cases h1 : szT E.P ty with
            | none =>
              simp only
              split
              · rename_i h2 _ _; cases h2; simp only [h1]; rfl
              · rfl
            | some n =>
              cases h2 : zeroA E.P ty with
              | none =>
                simp only
                split
                · rename_i h3 _ _; cases h3; simp only [h1, h2]; rfl
                · rfl
              | some zs =>
                cases h4 : bytesT E.P ty with
                | none =>
                  simp only
                  split
                  · rename_i h3 _ _; cases h3; simp only [h1, h2, h4]; rfl
                  · rfl
                | some b =>
                  simp only
                  refine (al _).trans ?_
                  show (msA n b zs v.v w.v).bind _ = _
                  unfold msA
                  congr 1
                  split
                  · rename_i h5 h6; simp only [h5, h6, h1, h2, h4]
                  · rename_i hh
                    split
                    · rename_i h7 h5 h6; exact (hh _ _ h5 h6).elim
                    · rfl
          | _ => rfl
      · rw [e2, e1, e4, e3]; rfl
    · rw [e2, e1]; rfl
  · rename_i s ty x
    show _ = ((ev E.P t x).bind fun x =>
      match (E.P.underlying s).isSome, E.P.underlying ty, x with
      | true, some (.slice e), .str s => match E.P.underlying e, szT E.P e with
        | some (.int .u8), some 1 => some (Blk.cells (s.map fun c => AV.int .u8 c.toNat) true, fun b => AV.sl (some ⟨b, 0⟩) 1 s.length s.length false)
        | _, _ => none
      | _, _, _ => none).bind _
    rcases evK_cases (E := E) h x with ⟨v, e1, e2⟩ | ⟨e1, e2⟩
    · simp only [e2, e1, Option.bind_some]
      cases E.P.underlying s with
      | none => rfl
      | some u0 =>
        simp only [Option.isSome_some]
        cases E.P.underlying ty with
        | none => rfl
        | some u =>
          cases u with
          | slice el =>
            simp only
            by_cases hc : E.P.underlying el = some (.int .u8) ∧ szT E.P el = some 1
            · simp only [hc.1, hc.2]
              refine (al _).trans ?_
              show (s2bA v.v).bind _ = _
              unfold s2bA
              congr 1
              split <;> rename_i hh
              · simp only [hh, hc.1, hc.2]
              · split
                · rename_i h5 h6; exact (hh _ h6).elim
                · rfl
            · have e4 : ∀ s : List UInt8, (match E.P.underlying el, szT E.P el with
                | some (.int .u8), some 1 => some (Blk.cells (s.map fun c => AV.int .u8 c.toNat) true, fun b => AV.sl (some ⟨b, 0⟩) 1 s.length s.length false)
                | _, _ => none) = none := fun s => by
                split
                · rename_i h5 h6; exact absurd ⟨h5, h6⟩ hc
                · rfl
              split
              · rename_i h5 h6; exact absurd ⟨h5, h6⟩ hc
              · show none = _
                split
                · rename_i h5 _; cases h5; rw [e4]; rfl
                · rfl
          | _ => rfl
    · simp only [e2, e1, Option.bind_none]
      cases E.P.underlying s with
      | none => rfl
      | some u0 =>
        simp only
        cases E.P.underlying ty with
        | none => rfl
        | some u =>
          cases u with
          | slice el =>
            simp only
            split <;> rfl
          | _ => rfl
  · show none = _
    unfold allocOp
    split <;> first | rfl | (exfalso; simp_all <;> (rename_i hh; first | exact hh _ _ _ rfl rfl rfl | exact hh _ _ rfl rfl | exact hh _ _ _ _ rfl rfl rfl rfl))

theorem effC_eq (h : Rel nt e t) (op : Op) {K : SV → CM} {F : AV → Mem → R} (hK : ∀ (v : SV) m, interp d (K v) m = F v.v m) : interp d (effC (realO E) E.P e op K) m = effK d.call E.P op t m F := by
  have st : ∀ (o : Mem → Option Mem), interp d (.st o (K (.c .undef))) m = (o m).bind fun m' => F .undef m' := fun o => by
    rw [interp_st]
    cases o m with
    | none => rfl
    | some m' => exact hK (.c .undef) _
  have ef : ∀ (o : Mem → R), interp d (.ef o fun x => K (.d x)) m = (o m).bind fun r => F r.1 r.2 := fun o => by
    rw [interp_ef]
    cases o m with
    | none => rfl
    | some r => exact hK (.d r.1) _
  unfold effC
  split
  · rename_i s a v
    show _ = (ev E.P t a).bind fun a => (ev E.P t v).bind fun v => (szT E.P s).bind fun n => (stV m a v n).bind fun m' => F .undef m'
    refine evK_eq h a (F := fun a => (ev E.P t v).bind fun v => (szT E.P s).bind fun n => (stV m a v n).bind fun m' => F .undef m') fun a => ?_
    refine evK_eq h v (F := fun v => (szT E.P s).bind fun n => (stV m a.v v n).bind fun m' => F .undef m') fun v => ?_
    cases szT E.P s with
    | none => rfl
    | some n => exact st _
  · rename_i s x sy xt
    show _ = (ev E.P t s).bind fun s => (ev E.P t x).bind fun x => (appendOp E.P sy xt s x m).bind fun r => F r.1 r.2
    refine evK_eq h s (F := fun s => (ev E.P t x).bind fun x => (appendOp E.P sy xt s x m).bind fun r => F r.1 r.2) fun s => ?_
    refine evK_eq h x (F := fun x => (appendOp E.P sy xt s.v x m).bind fun r => F r.1 r.2) fun x => ?_
    have hd : ∀ u : Option TypeDesc, interp d (match (generalizing := false) u with
        | some (.int _) => .ef ((realO E).az sy s.v x.v) fun x => K (.d x)
        | _ => match appElem E.P sy xt with
          | some nw => .ef ((realO E).ap nw.1 nw.2 s.v x.v) fun x => K (.d x)
          | none => .fail) m = (match (generalizing := false) u with
        | some (.int _) => appendZ E.P sy s.v x.v m
        | _ => (appElem E.P sy xt).bind fun nw => appendA nw.1 nw.2 s.v x.v m).bind fun r => F r.1 r.2 := fun u => by
      split
      · exact ef _
      · cases appElem E.P sy xt with
        | none => rfl
        | some nw => exact ef _
    exact hd _
  · rename_i dd x sy _
    show _ = (copyElem E.P sy).bind fun n => (ev E.P t dd).bind fun d => (ev E.P t x).bind fun x => (copyA n d x m).bind fun r => F r.1 r.2
    cases copyElem E.P sy with
    | none => rfl
    | some n =>
      refine evK_eq h dd (F := fun d => (ev E.P t x).bind fun x => (copyA n d x m).bind fun r => F r.1 r.2) fun a => ?_
      exact evK_eq h x (F := fun x => (copyA n a.v x m).bind fun r => F r.1 r.2) fun b => ef _
  · rename_i s x k v
    show _ = (ev E.P t x).bind fun x => (ev E.P t k).bind fun k => (ev E.P t v).bind fun v => (mapPut E.P s x k v m).bind fun m' => F .undef m'
    refine evK_eq h x (F := fun x => (ev E.P t k).bind fun k => (ev E.P t v).bind fun v => (mapPut E.P s x k v m).bind fun m' => F .undef m') fun x => ?_
    refine evK_eq h k (F := fun k => (ev E.P t v).bind fun v => (mapPut E.P s x.v k v m).bind fun m' => F .undef m') fun k => ?_
    exact evK_eq h v (F := fun v => (mapPut E.P s x.v k.v v m).bind fun m' => F .undef m') fun v => st _
  · rename_i s x k v
    show _ = (ev E.P t x).bind fun x => (ev E.P t k).bind fun k => (ev E.P t v).bind fun v => (mapPut E.P s x k v m).bind fun m' => F .undef m'
    refine evK_eq h x (F := fun x => (ev E.P t k).bind fun k => (ev E.P t v).bind fun v => (mapPut E.P s x k v m).bind fun m' => F .undef m') fun x => ?_
    refine evK_eq h k (F := fun k => (ev E.P t v).bind fun v => (mapPut E.P s x.v k v m).bind fun m' => F .undef m') fun k => ?_
    exact evK_eq h v (F := fun v => (mapPut E.P s x.v k.v v m).bind fun m' => F .undef m') fun v => st _
  · rename_i x k s _
    show _ = (ev E.P t x).bind fun x => (ev E.P t k).bind fun k => (mapDel E.P s x k m).bind fun m' => F .undef m'
    refine evK_eq h x (F := fun x => (ev E.P t k).bind fun k => (mapDel E.P s x k m).bind fun m' => F .undef m') fun x => ?_
    exact evK_eq h k (F := fun k => (mapDel E.P s x.v k m).bind fun m' => F .undef m') fun k => st _
  · rename_i x s _
    exact evK_eq h x (F := fun x => (clearA E.P s x m).bind fun m' => F .undef m') fun x => st _
  · rename_i g xs _
    show _ = (ev E.P t (.func g)).bind fun fv => (evs E.P t xs).bind fun az => (callA d.call fv az m).bind fun r => F r.1 r.2
    refine evsK_eq h xs (F := fun az => (callA d.call (.fn (.func g) [] []) az m).bind fun r => F r.1 r.2) fun az => ?_
    rw [interp_call]
    show _ = (d.call (.fn g) ([] ++ az ++ []) m).bind fun r => F r.1 r.2
    rw [List.nil_append, List.append_nil]
    cases d.call (.fn g) az m with
    | none => rfl
    | some r => exact hK (.d r.1) _
  · rename_i fo xs _ _
    show _ = (ev E.P t fo).bind fun fv => (evs E.P t xs).bind fun az => (callA d.call fv az m).bind fun r => F r.1 r.2
    refine evK_eq h fo (F := fun fv => (evs E.P t xs).bind fun az => (callA d.call fv az m).bind fun r => F r.1 r.2) fun fv => ?_
    refine evsK_eq h xs (F := fun az => (callA d.call fv.v az m).bind fun r => F r.1 r.2) fun az => ?_
    rw [interp_callv]
    cases callA d.call fv.v az m with
    | none => rfl
    | some r => exact hK (.d r.1) _
  · rename_i s x
    exact evK_eq h x (F := fun x => (rangeA E.P s x m).bind fun r => F r.1 r.2) fun x => ef _
  · show none = _
    unfold effK
    split <;> first | rfl | (exfalso; simp_all; done) | (exfalso; simp_all <;> (rename_i hh; first | exact hh _ _ _ rfl rfl rfl | exact hh _ _ rfl rfl | exact hh _ _ _ _ rfl rfl rfl rfl))

theorem opC_eq (h : Rel nt e t) (op : Op) {K : SV → CM} {F : AV → Mem → R} (hK : ∀ (v : SV) m, interp d (K v) m = F v.v m) : interp d (opC (realO E) E.P e op K) m = opK d.call E.P op t m F := by
  unfold opC opK
  cases cls E.P op with
  | p => exact pureK_eq h op (F := fun v => F v m) fun v => hK v m
  | r =>
    refine readK_eq (r := (readOp E.P op t m).bind fun v => F v m) h op (fun f hf => ?_) fun hn => by rw [hn]; rfl
    rw [interp_rm, hf]
    cases readOp E.P op t m with
    | none => rfl
    | some v => exact hK (.d v) m
  | a => exact allocK_eq h op hK
  | e => exact effC_eq h op hK

theorem SkOk.put {nt : Nat} {sk : List Tmp} {e : Ev} (h : SkOk nt sk e) (d : Option Tmp) (v : SV) : SkOk nt (skDel sk d) (aputE nt e d v) := by
  cases d with
  | none => exact h
  | some d =>
    intro i hi hl
    obtain ⟨h1, h2⟩ := List.mem_filter.1 (show i ∈ sk.filter (· != d) from hi)
    rw [fnd_aput, if_neg (fun hh => by simp [hh.1] at h2)]
    exact h i h1 hl
theorem SkOk.skip {nt : Nat} {sk : List Tmp} {e : Ev} (h : SkOk nt sk e) (d : Option Tmp) : SkOk nt (d.toList ++ sk) (aputE nt e d (.c (.tup []))) := by
  cases d with
  | none => exact h
  | some d =>
    intro i hi hl
    rw [fnd_aput]
    by_cases hd : d = i
    · rw [if_pos ⟨hd, hd ▸ hl⟩]
    · rw [if_neg (fun hh => hd hh.1)]
      rcases List.mem_append.1 hi with h1 | h1
      · simp at h1; exact absurd h1.symm hd
      · exact h i h1 hl
theorem SkOk.know {nt : Nat} {sk : List Tmp} {e : Ev} (h : SkOk nt sk e) (d : Tmp) (v : SV) (hd : d < nt → d ∉ sk) : SkOk nt sk (aputE nt e (some d) v) := by
  intro i hi hl
  rw [fnd_aput, if_neg (fun hh : d = i ∧ d < nt => hd hh.2 (hh.1 ▸ hi))]
  exact h i hi hl

theorem guardK_eq (h : Rel nt e t) {sk : List Tmp} (hs : SkOk nt sk e) (ops : List Oper) (o : Oper) {y n : Ev → CM} {Y N : List AV → R} (hy : ∀ e t, Rel nt e t → SkOk nt sk e → interp d (y e) m = Y t) (hn : ∀ e t, Rel nt e t → SkOk nt sk e → interp d (n e) m = N t) :
    interp d (guardK nt sk ops o e y n) m = guardA sk ops o t Y N := by
  unfold guardK guardA
  cases o.guard with
  | none => exact hy e t h hs
  | some jw =>
    obtain ⟨j, want⟩ := jw
    simp only
    cases (ops[j]?).bind (·.dst) with
    | none => rfl
    | some dd =>
      simp only
      rw [fndK_eq, ← h.2]
      cases hv : fnd dd e with
      | c a =>
        have hb : a ≠ .tup [] → dd < nt → dd ∉ sk := fun ha hl hm => by
          have := hs dd hm hl
          rw [hv] at this
          exact ha (SV.c.inj this)
        cases a with
        | bool b =>
          have hput : ∀ b', b = b' → Rel nt (aputE nt e (some dd) (.c (.bool b'))) (setF t dd (.bool b')) := fun b' _ => h.aput (some dd) (.c (.bool b'))
          have hsk : ∀ b' : Bool, SkOk nt sk (aputE nt e (some dd) (.c (.bool b'))) := fun b' => hs.know dd _ (hb (by simp))
          have hbeq : AV.beq (SV.c (.bool b)).v (.tup []) = false := by cases b <;> rfl
          simp only [hbeq, Bool.and_false, Bool.false_eq_true, if_false]
          cases b <;> cases want
          · exact hy _ _ (hput _ rfl) (hsk _)
          · exact hn _ _ (hput _ rfl) (hsk _)
          · exact hn _ _ (hput _ rfl) (hsk _)
          · exact hy _ _ (hput _ rfl) (hsk _)
        | tup vs =>
          cases vs with
          | nil =>
            cases hc : sk.contains dd with
            | true =>
              simp only [SV.v, show AV.beq (.tup []) (.tup []) = true from AV.beq_refl _, Bool.and_true, if_true]
              exact hn _ _ h hs
            | false => simp only [Bool.false_and, Bool.false_eq_true, if_false]; rfl
          | cons v vs =>
            have hbeq : AV.beq (SV.c (.tup (v :: vs))).v (.tup []) = false := by simp [SV.v, AV.beq, AV.beqs]
            simp only [hbeq, Bool.and_false, Bool.false_eq_true, if_false]
            rfl
        | _ =>
          simp only [SV.v]
          simp only [AV.beq, Bool.and_false, Bool.false_eq_true, if_false]
          rfl
      | d a =>
        have hnot : dd < nt → dd ∉ sk := fun hl hm => by
          have := hs dd hm hl
          rw [hv] at this; cases this
        have hcond : (sk.contains dd && AV.beq a (.tup [])) = false := by
          by_cases hl : dd < nt
          · have : sk.contains dd = false := by
              cases hc : sk.contains dd with
              | false => rfl
              | true => exact absurd (List.contains_iff_mem.1 hc) (hnot hl)
            rw [this]; rfl
          · have := h.2 dd
            rw [hv, nth_ge (show t.length ≤ dd by rw [h.1]; exact Nat.le_of_not_lt hl)] at this
            have ha : a = .undef := this
            rw [ha]
            simp [AV.beq]
        simp only [SV.v, hcond, Bool.false_eq_true, if_false]
        have hT := h.aput (some dd) (.c (.bool true))
        have hF := h.aput (some dd) (.c (.bool false))
        have sT := hs.know dd (.c (.bool true)) hnot
        have sF := hs.know dd (.c (.bool false)) hnot
        cases want with
        | true =>
          simp only [interp_ifv]
          rw [hy _ _ hT sT, hn _ _ hF sF]
          cases a with
          | bool b => cases b <;> rfl
          | _ => rfl
        | false =>
          simp only [interp_ifv]
          rw [hn _ _ hT sT, hy _ _ hF sF]
          cases a with
          | bool b => cases b <;> rfl
          | _ => rfl

theorem opsC_eq (all : List Oper) {K : Ev → CM} {F : List AV → Mem → R} (hK : ∀ e t m, Rel nt e t → interp d (K e) m = F t m) : ∀ (os : List Oper) (sk : List Tmp) (e : Ev) (t : List AV) (m : Mem), Rel nt e t → SkOk nt sk e →
    interp d (opsC (realO E) E.P nt all os sk e K) m = opsK d.call E.P all os sk t m F
  | [], sk, e, t, m, h, hs => hK e t m h
  | o :: os, sk, e, t, m, h, hs => by
    unfold opsC opsK
    refine guardK_eq h hs all o (fun e t h hs => ?_) fun e t h hs => ?_
    · exact opC_eq h o.op fun v m => opsC_eq all hK os _ _ _ _ (h.aput o.dst v) (hs.put o.dst v)
    · exact opsC_eq all hK os _ _ _ _ (h.aput o.dst (.c (.tup []))) (hs.skip o.dst)

inductive RsOk : List (Nat × (Mem → Option AV) × AV) → List (Nat × (Mem → Option AV) × AV) → Prop
  | nil : RsOk [] []
  | cons {i : Nat} {f g : Mem → Option AV} {v : AV} {rs qs} (h : ∀ m, f m = g m) (hr : RsOk rs qs) : RsOk ((i, f, v) :: rs) ((i, g, v) :: qs)
theorem chkRC_eq {f g : Mem → Option AV} (hf : ∀ m, f m = g m) (v : AV) (c : List Nat) {K : CM} {F : R} (hK : interp d K m = F) : ∀ es, interp d (chkRC f v c es K) m = chkR g v c es F
  | [] => hK
  | (j, m0) :: es => by
    unfold chkRC chkR
    by_cases hj : j ∈ c
    · rw [show c.contains j = true from List.contains_iff_mem.2 hj, if_pos hj, ← hf]
      simp only [interp_chk]
      rw [chkRC_eq hf v c hK es]
    · rw [if_neg hj]
      cases hc : c.contains j with
      | true => exact absurd (List.contains_iff_mem.1 hc) hj
      | false => exact chkRC_eq hf v c hK es
theorem chkEC_eq (m0 : Mem) (c : List Nat) {K : CM} {F : R} (hK : interp d K m = F) : ∀ {rs qs}, RsOk rs qs → interp d (chkEC m0 c rs K) m = chkE m0 c qs F := by
  intro rs qs h
  induction h with
  | nil => exact hK
  | @cons j f g v rs qs hf _ ih =>
    unfold chkEC chkE
    by_cases hj : j ∈ c
    · rw [show c.contains j = true from List.contains_iff_mem.2 hj, if_pos hj, ← hf]
      simp only [interp_chk]
      rw [ih]
    · rw [if_neg hj]
      cases hc : c.contains j with
      | true => exact absurd (List.contains_iff_mem.1 hc) hj
      | false => exact ih

theorem dopsC_eq (all : List Oper) {K : Ev → CM} {F : List AV → Mem → R} (hK : ∀ e t m, Rel nt e t → interp d (K e) m = F t m) : ∀ (os : List Oper) (cs : List (List Nat)) (sk : List Tmp) (i : Nat) (rs qs) (es : List (Nat × Mem)) (e : Ev) (t : List AV) (m : Mem), RsOk rs qs → Rel nt e t → SkOk nt sk e →
    interp d (dopsC (realO E) E.P nt all cs os sk i rs es e K) m = dopsK d.call E.P all cs os sk i ⟨qs, es⟩ t m F
  | [], cs, sk, i, rs, qs, es, e, t, m, hr, h, hs => by
    cases cs <;> exact hK e t m h
  | o :: os, [], sk, i, rs, qs, es, e, t, m, hr, h, hs => rfl
  | o :: os, c :: cs, sk, i, rs, qs, es, e, t, m, hr, h, hs => by
    unfold dopsC dopsK
    refine guardK_eq h hs all o (fun e t h hs => ?_) fun e t h hs => ?_
    · cases cls E.P o.op with
      | p =>
        exact pureK_eq h o.op (F := fun v => dopsK d.call E.P all cs os (skDel sk o.dst) (i + 1) ⟨qs, es⟩ (aput t o.dst v) m F) fun v => dopsC_eq all hK os cs _ _ _ _ _ _ _ _ hr (h.aput o.dst v) (hs.put o.dst v)
      | r =>
        refine readK_eq (r := (readOp E.P o.op t m).bind fun v => chkR (readOp E.P o.op t) v c es (dopsK d.call E.P all cs os (skDel sk o.dst) (i + 1) ⟨(i, readOp E.P o.op t, v) :: qs, es⟩ (aput t o.dst v) m F)) h o.op (fun f hf => ?_) fun hn => by rw [hn]; rfl
        rw [interp_rm, hf]
        cases hv : readOp E.P o.op t m with
        | none => rfl
        | some v =>
          exact chkRC_eq hf v c (dopsC_eq all hK os cs _ _ _ _ _ _ _ _ (.cons hf hr) (h.aput o.dst (.d v)) (hs.put o.dst (.d v))) es
      | a => exact allocK_eq h o.op (F := fun v m => dopsK d.call E.P all cs os (skDel sk o.dst) (i + 1) ⟨qs, es⟩ (aput t o.dst v) m F) fun v m => dopsC_eq all hK os cs _ _ _ _ _ _ _ _ hr (h.aput o.dst v) (hs.put o.dst v)
      | e =>
        rw [interp_memo]
        refine effC_eq h o.op fun v m' => ?_
        rw [interp_memo]
        exact chkEC_eq m' c (dopsC_eq all hK os cs _ _ _ _ _ _ _ _ hr (h.aput o.dst v) (hs.put o.dst v)) hr
    · exact dopsC_eq all hK os cs _ _ _ _ _ _ _ _ hr (h.aput o.dst (.c (.tup []))) (hs.skip o.dst)
end
end Go.Abs
end
