/- Functions written out as trees, and a quick machine over them: what it answers 'run' answers. -/
import Derived.Test.YtpoafkipnjfioaaGreatAbs21
namespace Go.Abs
open Go

/-- From one mark to the next: what is bound is a variable of the tree's own. -/
inductive CM where
  | ret (v : AV)
  | fail
  | resC (P : Program) (rs : List ResultVar) (vs : List AV)
  | pu (e : Option AV) (K : AV → CM)
  | rm (e : Mem → Option AV) (K : AV → CM)
  | al (e : Option (Blk × (Nat → AV))) (K : AV → CM)
  | ef (e : Mem → R) (K : AV → CM)
  | st (e : Mem → Option Mem) (K : CM)
  | call (f : Nat) (as : List AV) (K : AV → CM)
  | callv (fv : AV) (as : List AV) (K : AV → CM)
  | ifv (v : AV) (x y : CM)
  | cond (v : AV) (x y : CM)
  | memo (K : Mem → CM)
  | chk (e : Option AV) (v : AV) (K : CM)
  | go (key : Nat) (ts : List AV)
  | rng (md : Md) (fv : AV) (l : LoopA) (key : Nat) (ts : List AV)

/-- What a tree leans on. -/
structure Do where
  call : CallF
  gor : Nat → List AV → Mem → R
  afr : Nat → Option Jmp → List AV → Mem → R

noncomputable def bindA {α : Type} (e : Option α) (K : α → R) : R := Option.rec (motive := fun _ => R) none K e

noncomputable def interp (d : Do) (c : CM) : Mem → R :=
  CM.rec (motive := fun _ => Mem → R)
    (fun v m => some (v, m))
    (fun _ => none)
    (fun P rs vs m => Option.rec (motive := fun _ => R) none (fun vs => some (tupA vs, m)) (resA P rs vs m))
    (fun e _ ih m => Option.rec (motive := fun _ => R) none (fun v => ih v m) e)
    (fun e _ ih m => Option.rec (motive := fun _ => R) none (fun v => ih v m) (e m))
    (fun e _ ih m => Option.rec (motive := fun _ => R) none (fun c => ih (c.2 m.next) (m.lay c.1)) e)
    (fun e _ ih m => Option.rec (motive := fun _ => R) none (fun r => ih r.1 r.2) (e m))
    (fun e _ ih m => Option.rec (motive := fun _ => R) none (fun m => ih m) (e m))
    (fun f as _ ih m => Option.rec (motive := fun _ => R) none (fun r => ih r.1 r.2) (d.call (.fn f) as m))
    (fun fv as _ ih m => Option.rec (motive := fun _ => R) none (fun r => ih r.1 r.2) (callA d.call fv as m))
    (fun v _ _ x y m => ifV v (x m) (y m))
    (fun v _ _ x y m => condA v (x m) (y m))
    (fun _ ih m => ih m m)
    (fun e v _ ih m => if e = some v then ih m else none)
    (fun k ts m => d.gor k ts m)
    (fun md fv l k ts m => rangeK d.call md fv l m fun j m => d.afr k j ts m)
    c

section
variable {d : Do} {m : Mem}
theorem interp_ret (v : AV) : interp d (.ret v) m = some (v, m) := rfl
theorem interp_fail : interp d .fail m = none := rfl
theorem interp_resC (P : Program) (rs : List ResultVar) (vs : List AV) : interp d (.resC P rs vs) m = (resA P rs vs m).bind fun vs => some (tupA vs, m) := by
  cases h : resA P rs vs m <;> simp [interp, h]
theorem interp_pu (e : Option AV) (K : AV → CM) : interp d (.pu e K) m = e.bind fun v => interp d (K v) m := by cases e <;> rfl
theorem interp_rm (e : Mem → Option AV) (K : AV → CM) : interp d (.rm e K) m = (e m).bind fun v => interp d (K v) m := by
  show Option.rec (motive := fun _ => R) none (fun v => interp d (K v) m) (e m) = _
  cases e m <;> rfl
theorem interp_al (e : Option (Blk × (Nat → AV))) (K : AV → CM) : interp d (.al e K) m = e.bind fun c => interp d (K (c.2 m.next)) (m.lay c.1) := by cases e <;> rfl
theorem interp_ef (e : Mem → R) (K : AV → CM) : interp d (.ef e K) m = (e m).bind fun r => interp d (K r.1) r.2 := by
  show Option.rec (motive := fun _ => R) none (fun r => interp d (K r.1) r.2) (e m) = _
  cases e m <;> rfl
theorem interp_st (e : Mem → Option Mem) (K : CM) : interp d (.st e K) m = (e m).bind fun m => interp d K m := by
  show Option.rec (motive := fun _ => R) none (fun m => interp d K m) (e m) = _
  cases e m <;> rfl
theorem interp_call (f : Nat) (as : List AV) (K : AV → CM) : interp d (.call f as K) m = (d.call (.fn f) as m).bind fun r => interp d (K r.1) r.2 := by
  show Option.rec (motive := fun _ => R) none (fun r => interp d (K r.1) r.2) (d.call (.fn f) as m) = _
  cases d.call (.fn f) as m <;> rfl
theorem interp_callv (fv : AV) (as : List AV) (K : AV → CM) : interp d (.callv fv as K) m = (callA d.call fv as m).bind fun r => interp d (K r.1) r.2 := by
  show Option.rec (motive := fun _ => R) none (fun r => interp d (K r.1) r.2) (callA d.call fv as m) = _
  cases callA d.call fv as m <;> rfl
theorem interp_ifv (v : AV) (x y : CM) : interp d (.ifv v x y) m = ifV v (interp d x m) (interp d y m) := rfl
theorem interp_cond (v : AV) (x y : CM) : interp d (.cond v x y) m = condA v (interp d x m) (interp d y m) := rfl
theorem interp_memo (K : Mem → CM) : interp d (.memo K) m = interp d (K m) m := rfl
theorem interp_chk (e : Option AV) (v : AV) (K : CM) : interp d (.chk e v K) m = if e = some v then interp d K m else none := rfl
theorem interp_go (k : Nat) (ts : List AV) : interp d (.go k ts) m = d.gor k ts m := rfl
theorem interp_rng (md : Md) (fv : AV) (l : LoopA) (k : Nat) (ts : List AV) : interp d (.rng md fv l k ts) m = rangeK d.call md fv l m fun j m => d.afr k j ts m := rfl
end

theorem Le.bindA {α : Type} {f g : Option α} {F G : α → R} (h : Le f g) (hF : ∀ x, Le (F x) (G x)) : Le (bindA f F) (bindA g G) := by
  have e : ∀ (o : Option α) (K : α → R), Abs.bindA o K = o.bind K := fun o K => by cases o <;> rfl
  rw [e, e]; exact h.bind hF

/-- Operations, with what they look at known. -/
abbrev p1 {α : Type} (F : α → Option AV) (x : α) : Option AV := (some x).bind F
abbrev p2 (F : AV → AV → Option AV) (x y : AV) : Option AV := (some x).bind fun a => (some y).bind fun b => F a b
abbrev p3 (F : AV → AV → AV → Option AV) (x y z : AV) : Option AV := (some x).bind fun a => (some y).bind fun b => (some z).bind fun c => F a b c
abbrev q1 (F : AV → Mem → Option AV) (x : AV) (m : Mem) : Option AV := (some x).bind fun a => F a m
abbrev q2 (F : AV → AV → Mem → Option AV) (x y : AV) (m : Mem) : Option AV := (some x).bind fun a => (some y).bind fun b => F a b m
noncomputable abbrev apE (k w : Nat) (s x : AV) (m : Mem) : R := (some (k, w)).bind fun nw => appendA nw.1 nw.2 s x m

/-- 'd' is less than 'e'. -/
structure Do.Le (d e : Do) : Prop where
  call : ∀ t as m, Abs.Le (d.call t as m) (e.call t as m)
  gor : ∀ k ts m, Abs.Le (d.gor k ts m) (e.gor k ts m)
  afr : ∀ k j ts m, Abs.Le (d.afr k j ts m) (e.afr k j ts m)

theorem Le.rangeK {c c' : CallF} (h : ∀ f a m, Le (c f a m) (c' f a m)) (md : Md) (fv : AV) (l : LoopA) (m : Mem) {go go' : Option Jmp → Mem → R} (hg : ∀ j m, Le (go j m) (go' j m)) :
    Le (Abs.rangeK c md fv l m go) (Abs.rangeK c' md fv l m go') := by
  unfold Abs.rangeK
  split
  · split
    · refine .bind (h _ _ _) fun r => ?_
      unfold rangeEnd
      split
      · split
        · exact .none _
        · exact hg _ _
      · exact .none _
    · exact .none _
  · exact .none _

theorem interp_le {d e : Do} (h : d.Le e) (c : CM) : ∀ m, Le (interp d c m) (interp e c m) := by
  induction c with
  | ret _ | fail | resC _ _ _ => exact fun m => .refl _
  | pu _ _ ih => exact fun m => Le.bindA (.refl _) fun v => ih v m
  | rm _ _ ih => exact fun m => Le.bindA (.refl _) fun v => ih v m
  | al _ _ ih => exact fun m => Le.bindA (.refl _) fun v => ih _ _
  | ef _ _ ih => exact fun m => Le.bindA (.refl _) fun v => ih _ _
  | st _ _ ih => exact fun m => Le.bindA (.refl _) fun v => ih _
  | call _ _ _ ih => exact fun m => Le.bindA (h.call _ _ _) fun v => ih _ _
  | callv fv as _ ih =>
    intro m
    refine Le.bindA ?_ fun v => ih _ _
    unfold callA
    split
    · exact h.call _ _ _
    · exact h.call _ _ _
    · exact .none _
  | ifv v _ _ x y =>
    intro m
    show Le (ifV v _ _) (ifV v _ _)
    unfold ifV
    split
    · exact x m
    · exact y m
    · exact .none _
  | cond v _ _ x y =>
    intro m
    show Le (condA v _ _) (condA v _ _)
    unfold condA
    split
    · exact x m
    · exact y m
    · exact .none _
  | memo _ ih => exact fun m => ih m m
  | chk e v _ ih =>
    intro m
    show Le (if e = some v then _ else _) (if e = some v then _ else _)
    split
    · exact ih m
    · exact .none _
  | go _ _ => exact fun m => h.gor _ _ _
  | rng md fv l k ts => exact fun m => Le.rangeK h.call _ _ _ _ fun j m => h.afr _ _ _ _

/-! What the keys mean: '4096 f + i'. -/

/-- Values, where something is live. -/
def spread : List Bool → List AV → List AV
  | true :: bs, v :: vs => v :: spread bs vs
  | true :: bs, [] => .undef :: spread bs []
  | false :: bs, vs => .undef :: spread bs vs
  | [], _ => []

/-- What is live, by a number's bits. -/
def bM (n x : Nat) : List Bool := (List.range n).map (Nat.testBit x)

noncomputable def goR (E : Env) (M : Nat → List Bool) (k : Nat) (ts : List AV) (m : Mem) : R := goAt E (k / 4096) (k % 4096) (spread (M k) ts) m
noncomputable def afR (E : Env) (M : Nat → List Bool) (k : Nat) (j : Option Jmp) (ts : List AV) (m : Mem) : R := afterAt E (k / 4096) (k % 4096) j (spread (M k) ts) m
noncomputable def real (E : Env) (M N : Nat → List Bool) : Do := ⟨run E, goR E M, afR E N⟩

theorem goR_eq {E : Env} {M : Nat → List Bool} {k : Nat} (n : Nat) {ts : List AV} {m : Mem} {r : R}
    (h : goC E (run E) (.fn (rsOf E (k / 4096))) (go E (.fn (rsOf E (k / 4096)))) n (kAt E (k / 4096) (k % 4096)) (spread (M k) ts) m = r) : goR E M k ts m = r := goAt_eq n h
theorem afR_eq {E : Env} {M : Nat → List Bool} {k : Nat} {j : Option Jmp} (n : Nat) {ts : List AV} {m : Mem} {r : R}
    (h : goC E (run E) (.fn (rsOf E (k / 4096))) (go E (.fn (rsOf E (k / 4096)))) n (pend j (kLoop E (k / 4096) (k % 4096))) (spread (M k) ts) m = r) : afR E M k j ts m = r := afterAt_eq n h

/-! A tree's variables. -/

noncomputable def apS (F : AV → List AV → CM) (l : List AV) : CM := List.rec (motive := fun _ => CM) .fail (fun a l _ => F a l) l
noncomputable def ap0 (c : CM) (l : List AV) : CM := List.rec (motive := fun _ => CM) c (fun _ _ _ => .fail) l

theorem apS_cons (F : AV → List AV → CM) (a : AV) (l : List AV) : apS F (a :: l) = F a l := rfl
theorem ap0_nil (c : CM) : ap0 c [] = c := rfl

def LeD (d : Do) (D : List AV → CM) (g : List AV → Mem → R) : Prop := ∀ l m, Le (interp d (D l) m) (g l m)
theorem apS_le {d : Do} {F : AV → List AV → CM} {g : List AV → Mem → R} (h : ∀ a, LeD d (F a) fun l => g (a :: l)) : LeD d (apS F) g := fun l m => by
  cases l with
  | nil => exact .none _
  | cons a l => exact h a l m
theorem ap0_le {d : Do} {c : CM} {g : List AV → Mem → R} (h : ∀ m, g [] m = interp d c m) : LeD d (ap0 c) g := fun l m => by
  cases l with
  | nil => show Le (interp d c m) (g [] m); rw [h]; exact .refl _
  | cons a l => exact .none _
/-- A tree is what a function does, for as many arguments as it takes. -/
def EqD (d : Do) (D : List AV → CM) (g : List AV → Mem → R) : Prop := ∀ l m, g l m = interp d (D l) m ∨ D l = .fail
theorem sE {d : Do} {F : AV → List AV → CM} {g : List AV → Mem → R} (h : ∀ a, EqD d (F a) fun l => g (a :: l)) : EqD d (apS F) g := fun l m => by
  cases l with
  | nil => exact .inr rfl
  | cons a l => exact h a l m
theorem zE {d : Do} {c : CM} {g : List AV → Mem → R} (h : ∀ m, g [] m = interp d c m) : EqD d (ap0 c) g := fun l m => by
  cases l with
  | nil => exact .inl (h m)
  | cons a l => exact .inr rfl
theorem EqD.le {d : Do} {D : List AV → CM} {g : List AV → Mem → R} (h : EqD d D g) : LeD d D g := fun l m => by
  cases h l m with
  | inl e => rw [e]; exact .refl _
  | inr e => rw [e]; exact .none _
theorem fail_le {d : Do} {g : List AV → Mem → R} : LeD d (fun _ => .fail) g := fun _ _ => .none _

theorem all_nil {α : Type} {p : α → Prop} : ∀ x ∈ ([] : List α), p x := fun _ h => by simp at h
theorem all_cons {α : Type} {p : α → Prop} {a : α} {l : List α} (h : p a) (h' : ∀ x ∈ l, p x) : ∀ x ∈ a :: l, p x := fun x hx => by
  cases hx with
  | head => exact h
  | tail _ hx => exact h' x hx

/-- Values of new blocks. -/
def pB (b : Nat) : AV := .ptr (some ⟨b, 0⟩)
def sB (n len : Nat) (b : Nat) : AV := .sl (some ⟨b, 0⟩) n len len true
def mB (b : Nat) : AV := .map (some b)

/-! Tables by numbers. -/

inductive BT (α : Type) where
  | leaf
  | node (k : Nat) (v : α) (l r : BT α)

noncomputable def BT.find {α : Type} (t : BT α) (q : Nat) : Option α :=
  BT.rec (motive := fun _ => Option α) none (fun k v _ _ l r => Bool.rec (motive := fun _ => Option α) (Bool.rec (motive := fun _ => Option α) r l (Nat.ble q k)) (some v) (Nat.beq q k)) t

def BT.All {α : Type} (Q : Nat → α → Prop) : BT α → Prop
  | .leaf => True
  | .node k v l r => Q k v ∧ l.All Q ∧ r.All Q

theorem BT.find_all {α : Type} {Q : Nat → α → Prop} {q : Nat} {v : α} : ∀ {t : BT α}, t.All Q → t.find q = some v → Q q v
  | .leaf, _, h => by simp [BT.find] at h
  | .node k w l r, ha, h => by
    have hu : (BT.node k w l r).find q = Bool.rec (motive := fun _ => Option α) (Bool.rec (motive := fun _ => Option α) (r.find q) (l.find q) (Nat.ble q k)) (some w) (Nat.beq q k) := rfl
    rw [hu] at h
    cases e : Nat.beq q k with
    | true =>
      rw [e] at h
      cases h
      have := Nat.eq_of_beq_eq_true e
      subst this
      exact ha.1
    | false =>
      rw [e] at h
      cases e2 : Nat.ble q k with
      | true => rw [e2] at h; exact BT.find_all ha.2.1 h
      | false => rw [e2] at h; exact BT.find_all ha.2.2 h

/-- Functions, marks, and what is behind loops over functions: nothing pending, 'return', or an exit. -/
structure Tb where
  fn : BT (List AV → CM)
  gor : BT (List AV → CM)
  afr : BT ((List AV → CM) × (List AV → CM) × List (Nat × (List AV → CM)))

def pickE (id : Nat) : List (Nat × (List AV → CM)) → Option (List AV → CM)
  | [] => none
  | (i, D) :: l => if Nat.beq id i = true then some D else pickE id l
def pickJ (t : (List AV → CM) × (List AV → CM) × List (Nat × (List AV → CM))) : Option Jmp → Option (List AV → CM)
  | none => some t.1
  | some .ret => some t.2.1
  | some (.exit id) => pickE id t.2.2

structure Tb.Ok (T : Tb) (E : Env) (M N : Nat → List Bool) : Prop where
  fn : T.fn.All fun f D => LeD (real E M N) D fun as m => run E (.fn f) as m
  gor : T.gor.All fun k D => LeD (real E M N) D fun ts m => goR E M k ts m
  afr : T.afr.All fun k t => LeD (real E M N) t.1 (fun ts m => afR E N k none ts m) ∧ LeD (real E M N) t.2.1 (fun ts m => afR E N k (some .ret) ts m) ∧
    ∀ iD ∈ t.2.2, LeD (real E M N) iD.2 fun ts m => afR E N k (some (.exit iD.1)) ts m

/-- The quick machine, round by round; what the table does not hold is done as ever. -/
noncomputable def slowF (E : Env) (call : CallF) (n : Nat) (f : Nat) (as : List AV) (m : Mem) : R :=
  match E.H f with
  | some h => h as m
  | none => match E.B f with
    | some (rs, nt, c) => goF E call (.fn rs) n [.code c] (as ++ List.replicate (nt - as.length) .undef) m
    | none => none
noncomputable def slowY (E : Env) (call : CallF) (n : Nat) (b : Nat) (as : List AV) (m : Mem) : R := roundK m b as fun k t => goF E call (.rd b) n k t m

noncomputable def stepD (E : Env) (T : Tb) (n : Nat) (d : Do) : Do where
  call t as m := Tg.rec (motive := fun _ => R) (fun f => Option.rec (motive := fun _ => R) (slowF E d.call n f as m) (fun D => interp d (D as) m) (T.fn.find f)) (fun b => slowY E d.call n b as m) t
  gor k ts m := Option.rec (motive := fun _ => R) none (fun D => interp d (D ts) m) (T.gor.find k)
  afr k j ts m := ((T.afr.find k).bind fun t => pickJ t j).bind fun D => interp d (D ts) m
noncomputable def XD (E : Env) (T : Tb) (n : Nat) : Do := Nat.rec (motive := fun _ => Do) ⟨fun _ _ _ => none, fun _ _ _ => none, fun _ _ _ _ => none⟩ (fun n d => stepD E T n d) n

theorem Le.stepK {E : Env} {c c' : CallF} (h : ∀ f a m, Le (c f a m) (c' f a m)) {κ κ' : List AI → List AV → Mem → R} (hκ : ∀ k t m, Le (κ k t m) (κ' k t m)) (md : Md) (k : List AI) (t : List AV) (m : Mem) :
    Le (Abs.stepK E c md k t m κ) (Abs.stepK E c' md k t m κ') := by
  have hl : Lim (fun n => Abs.stepK E (if n = 0 then c else c') md k t m (if n = 0 then κ else κ')) (Abs.stepK E c' md k t m κ') := by
    refine Lim.stepK (call := fun n => if n = 0 then c else c') (κ := fun n => if n = 0 then κ else κ') ?_ md k t m ?_
    · intro f a m
      refine ⟨fun n => ?_, fun r hr => ⟨1, fun n hn => ?_⟩⟩
      · by_cases e : n = 0
        · simp only [e, if_true]; exact h _ _ _
        · simp only [e, if_false]; exact .refl _
      · simp only [show n ≠ 0 by omega, if_false]; exact hr
    · intro k t m
      refine ⟨fun n => ?_, fun r hr => ⟨1, fun n hn => ?_⟩⟩
      · by_cases e : n = 0
        · simp only [e, if_true]; exact hκ _ _ _
        · simp only [e, if_false]; exact .refl _
      · simp only [show n ≠ 0 by omega, if_false]; exact hr
  exact hl.1 0

theorem Le.goF {E : Env} {call : CallF} (h : ∀ f a m, Le (call f a m) (run E f a m)) (md : Md) : ∀ (n : Nat) k t m, Le (Abs.goF E call md n k t m) (go E md k t m)
  | 0, _, _, _ => .none _
  | n + 1, k, t, m => by rw [go_step]; exact Le.stepK h (fun k t m => Le.goF h md n k t m) md k t m

theorem slowF_le {E : Env} {call : CallF} (h : ∀ f a m, Le (call f a m) (run E f a m)) (n f : Nat) (as : List AV) (m : Mem) : Le (slowF E call n f as m) (run E (.fn f) as m) := by
  unfold slowF
  split
  · rename_i hH; rw [run_hook hH]; exact .refl _
  · rename_i hH
    split
    · rename_i hB; rw [run_body hH hB]; exact Le.goF h _ _ _ _ _
    · exact .none _
theorem slowY_le {E : Env} {call : CallF} (h : ∀ f a m, Le (call f a m) (run E f a m)) (n b : Nat) (as : List AV) (m : Mem) : Le (slowY E call n b as m) (run E (.yl b) as m) := by
  unfold slowY
  rw [run_round]
  unfold roundK
  split
  · split
    · exact Le.goF h _ _ _ _ _
    · exact .none _
  · exact .none _

theorem pickE_mem {id : Nat} {D : List AV → CM} : ∀ {l : List (Nat × (List AV → CM))}, pickE id l = some D → (id, D) ∈ l
  | [], h => by simp [pickE] at h
  | (i, D') :: l, h => by
    simp only [pickE] at h
    split at h
    · rename_i e
      cases h
      rw [Nat.eq_of_beq_eq_true e]; exact List.mem_cons_self
    · exact List.mem_cons_of_mem _ (pickE_mem h)

theorem XD_le {E : Env} {T : Tb} {M N : Nat → List Bool} (ok : T.Ok E M N) : ∀ n, (XD E T n).Le (real E M N)
  | 0 => ⟨fun _ _ _ => .none _, fun _ _ _ => .none _, fun _ _ _ _ => .none _⟩
  | n + 1 => by
    have ih := XD_le ok n
    refine ⟨fun t as m => ?_, fun k ts m => ?_, fun k j ts m => ?_⟩
    · cases t with
      | fn f =>
        show Le (Option.rec (motive := fun _ => R) (slowF E (XD E T n).call n f as m) (fun D => interp (XD E T n) (D as) m) (T.fn.find f)) (run E (.fn f) as m)
        cases e : T.fn.find f with
        | none => exact slowF_le ih.call _ _ _ _
        | some D => exact (interp_le ih _ _).trans (BT.find_all ok.fn e as m)
      | yl b => exact slowY_le ih.call _ _ _ _
    · show Le (Option.rec (motive := fun _ => R) none (fun D => interp (XD E T n) (D ts) m) (T.gor.find k)) (goR E M k ts m)
      cases e : T.gor.find k with
      | none => exact .none _
      | some D => exact (interp_le ih _ _).trans (BT.find_all ok.gor e ts m)
    · show Le (((T.afr.find k).bind fun t => pickJ t j).bind fun D => interp (XD E T n) (D ts) m) (afR E N k j ts m)
      cases e : T.afr.find k with
      | none => exact .none _
      | some t =>
        have hk := BT.find_all ok.afr e
        simp only [Option.bind_some]
        cases e2 : pickJ t j with
        | none => exact .none _
        | some D =>
          refine (interp_le ih _ _).trans ?_
          cases j with
          | none => simp only [pickJ, Option.some.injEq] at e2; subst e2; exact hk.1 ts m
          | some j =>
            cases j with
            | ret => simp only [pickJ, Option.some.injEq] at e2; subst e2; exact hk.2.1 ts m
            | exit id => simp only [pickJ] at e2; exact hk.2.2 _ (pickE_mem e2) ts m

/-- What the quick machine answers is so. -/
theorem run_of_X {E : Env} {T : Tb} {M N : Nat → List Bool} (ok : T.Ok E M N) (n : Nat) {t : Tg} {as : List AV} {m : Mem} {r : AV × Mem} (h : (XD E T n).call t as m = some r) : run E t as m = some r :=
  (XD_le ok n).call t as m r h
end Go.Abs
