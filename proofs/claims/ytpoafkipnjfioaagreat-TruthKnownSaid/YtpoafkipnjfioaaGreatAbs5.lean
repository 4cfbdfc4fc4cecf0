/- The operations on values alone, all of them. -/
import Derived.Test.YtpoafkipnjfioaaGreatAbs4
namespace Go.Abs
open Go

section
variable {P : Program} {p : Phi} {w : World}

theorem eqA_undef (d : Nat) (t : TypeId) (y : AV) : eqA P d t .undef y = none := by
  cases d with
  | zero => rfl
  | succ d => simp only [eqA]; split <;> first | rfl | (split <;> rfl)
theorem eqA_nilIface_undef (d : Nat) (t : TypeId) : eqA P d t .nilIface .undef = none := by
  cases d with
  | zero => rfl
  | succ d => simp only [eqA]; split <;> first | rfl | (split <;> rfl)
theorem eqA_nilIface_nil (d : Nat) (t : TypeId) : eqA P d t .nilIface .nilIface = none := by
  cases d with
  | zero => rfl
  | succ d => simp only [eqA]; split <;> first | rfl | (split <;> rfl)
theorem VR_nilIface {x : AV} (h : VR p x .nilIface) : x = .undef ∨ x = .nilIface := by
  cases x with
  | undef => exact .inl rfl
  | nilIface => exact .inr rfl
  | ptr a => cases a <;> simp [VR] at h
  | sl a => cases a <;> simp [VR, SR] at h
  | map a => cases a <;> simp [VR] at h
  | _ => simp [VR] at h
theorem VR_agg {x : AV} {cs : Array Value} (h : VR p x (.agg cs)) : x = .undef ∨ ∃ xs, x = .agg xs := by
  cases x with
  | undef => exact .inl rfl
  | agg xs => exact .inr ⟨xs, rfl⟩
  | ptr a => cases a <;> simp [VR] at h
  | sl a => cases a <;> simp [VR, SR] at h
  | map a => cases a <;> simp [VR] at h
  | _ => simp [VR] at h

theorem eqGuard_run {op : BinOp} {t : TypeId} {xo yo : Operand} {x y : Value} (h1 : ¬ (x = .nilIface ∧ y = .nilIface)) (h2 : (∃ cs, x = .agg cs) → P.eqGuardType P.depth t = false) :
    (eqGuard op t xo yo x y).run P w = .ok () w := by
  unfold eqGuard
  by_cases hop : op = .eql ∨ op = .neq
  · have : (!(match op with | .eql | .neq => true | _ => false)) = false := by rcases hop with rfl | rfl <;> rfl
    cases x with
    | nilIface =>
      cases y with
      | nilIface => exact absurd ⟨rfl, rfl⟩ h1
      | _ => rcases hop with rfl | rfl <;> rfl
    | agg cs =>
      cases y with
      | agg ds => rcases hop with rfl | rfl <;> simp [h2 ⟨cs, rfl⟩]
      | _ => rcases hop with rfl | rfl <;> rfl
    | _ => rcases hop with rfl | rfl <;> rfl
  · cases op <;> first | rfl | (exact absurd (.inl rfl) hop) | (exact absurd (.inr rfl) hop)

theorem eqT_sound {op : BinOp} {neg : Bool} {t : TypeId} {x y : AV} {x' y' : Value} {v : AV} (hx : VR p x x') (hy : VR p y y') (h : eqT P neg t x y = some v) {xo yo : Operand} :
    (eqGuard op t xo yo x' y').run P w = .ok () w ∧ ∃ b, (Op.equal t x' y').run P w = .ok b w ∧ v = .bool (if neg then !b else b) := by
  unfold eqT at h
  split at h
  · rename_i b hb
    cases h
    split at hb
    · simp at hb
    · rename_i hagg
      refine ⟨eqGuard_run ?_ ?_, b, eqA_sound (n := 10000) (by omega) hx hy hb, rfl⟩
      · rintro ⟨rfl, rfl⟩
        rcases VR_nilIface hx with rfl | rfl
        · rw [eqA_undef] at hb; simp at hb
        · rcases VR_nilIface hy with rfl | rfl
          · rw [eqA_nilIface_undef] at hb; simp at hb
          · rw [eqA_nilIface_nil] at hb; simp at hb
      · rintro ⟨cs, rfl⟩
        rcases VR_agg hx with rfl | ⟨xs, rfl⟩
        · rw [eqA_undef] at hb; simp at hb
        · simpa [isAggV] using hagg
  · simp at h

theorem VR_int {x : AV} {k : IntKind} {n : Int} (h : VR p x (.int k n)) : x = .undef ∨ x = .int k n := by
  cases x with
  | undef => exact .inl rfl
  | int k' n' => simp only [VR] at h; cases h; exact .inr rfl
  | ptr a => cases a <;> simp [VR] at h
  | sl a => cases a <;> simp [VR, SR] at h
  | map a => cases a <;> simp [VR] at h
  | _ => simp [VR] at h

/-- The model's 'binOp' where it comes to '=='. -/
theorem binOp_eql {t : TypeId} {x y : AV} {x' y' : Value} (hx : VR p x x') (hy : VR p y y') (hn : x ≠ .undef) (hy0 : y ≠ .undef) (h1 : ∀ k a k' b, ¬ (x = .int k a ∧ y = .int k' b)) (h2 : ∀ a b, ¬ (x = .str a ∧ y = .str b)) :
    binOp .eql t x' y' = (do pure (.bool (← Op.equal t x' y'))) ∧ binOp .neq t x' y' = (do pure (.bool (!(← Op.equal t x' y')))) := by
  have ex : ∀ {x : AV} {x' : Value}, VR p x x' → x ≠ .undef → (∃ k a, x' = .int k a ∧ x = .int k a) ∨ (∃ s, x' = .string ⟨⟨s⟩⟩ ∧ x = .str s) ∨ ((∀ k a, x' ≠ .int k a) ∧ (∀ s, x' ≠ .string s) ∧ (∀ k a, x' ≠ .float k a) ∧ (∀ k a b, x' ≠ .complex k a b)) := by
    intro x x' h hn
    cases x with
    | undef => exact absurd rfl hn
    | int k a => simp only [VR] at h; exact .inl ⟨k, a, h, rfl⟩
    | str s => simp only [VR] at h; exact .inr (.inl ⟨s, h, rfl⟩)
    | bool b => simp only [VR] at h; subst h; simp
    | nilFn => simp only [VR] at h; subst h; simp
    | nilIface => simp only [VR] at h; subst h; simp
    | ptr a => cases a <;> simp only [VR] at h <;> first | (subst h; simp; done) | (obtain ⟨_, _, rfl⟩ := h; simp)
    | map a => cases a <;> simp only [VR] at h <;> first | (subst h; simp; done) | (obtain ⟨_, _, rfl⟩ := h; simp)
    | sl a => cases a <;> simp only [VR, SR] at h <;> first | (obtain ⟨_, _, rfl⟩ := h; simp; done) | (obtain ⟨_, _, _, _, rfl, _⟩ := h; simp)
    | fn => simp only [VR] at h; obtain ⟨_, _, rfl, _⟩ := h; simp
    | yld => simp only [VR] at h; obtain ⟨_, _, rfl⟩ := h; simp
    | iface => simp only [VR] at h; obtain ⟨_, rfl, _⟩ := h; simp
    | agg => simp only [VR] at h; obtain ⟨_, rfl, _⟩ := h; simp
    | tup => simp only [VR] at h; obtain ⟨_, rfl, _⟩ := h; simp
  rcases ex hx hn with ⟨k, a, rfl, rfl⟩ | ⟨s, rfl, rfl⟩ | ⟨i1, i2, i3, i4⟩
  · rcases ex hy hy0 with ⟨k', b, rfl, rfl⟩ | ⟨s', rfl, rfl⟩ | ⟨j1, j2, j3, j4⟩
    · exact absurd ⟨rfl, rfl⟩ (h1 _ _ _ _)
    · exact ⟨rfl, rfl⟩
    · cases y' <;> first | exact ⟨rfl, rfl⟩ | exact absurd rfl (j1 _ _)
  · rcases ex hy hy0 with ⟨k', b, rfl, rfl⟩ | ⟨s', rfl, rfl⟩ | ⟨j1, j2, j3, j4⟩
    · exact ⟨rfl, rfl⟩
    · exact absurd ⟨rfl, rfl⟩ (h2 _ _)
    · cases y' <;> first | exact ⟨rfl, rfl⟩ | exact absurd rfl (j2 _)
  · cases x' <;> first
      | exact absurd rfl (i1 _ _)
      | exact absurd rfl (i2 _)
      | exact absurd rfl (i3 _ _)
      | exact absurd rfl (i4 _ _ _)
      | (cases y' <;> exact ⟨rfl, rfl⟩)

theorem eqT_undef (neg : Bool) (t : TypeId) (y : AV) : eqT P neg t .undef y = none := by
  unfold eqT; simp [isAggV, eqA_undef]
theorem eqA_undef_r : ∀ (d : Nat) (t : TypeId) (x : AV), eqA P d t x .undef = none := by
  intro d t x
  have h1 : ∀ x, eqBool x .undef = none := fun x => by cases x <;> rfl
  have h2 : ∀ x, eqInt x .undef = none := fun x => by cases x <;> rfl
  have h3 : ∀ x, eqStr x .undef = none := fun x => by cases x <;> rfl
  have h4 : ∀ x, eqPtr x .undef = none := fun x => by cases x with | ptr a => cases a <;> rfl | _ => rfl
  have h5 : ∀ x, eqSl x .undef = none := fun x => by cases x with | sl a => cases a <;> rfl | _ => rfl
  have h6 : ∀ x, eqMap x .undef = none := fun x => by cases x with | map a => cases a <;> rfl | _ => rfl
  have h7 : ∀ x, eqFn x .undef = none := fun x => by cases x <;> rfl
  have h8 : ∀ x, eqIface x .undef = none := fun x => by cases x <;> rfl
  cases d with
  | zero => rfl
  | succ d =>
    simp only [eqA, h1, h2, h3, h4, h5, h6, h7, h8, show aggOf AV.undef = none from rfl, Option.bind_none]
    split <;> first | rfl | (split <;> first | rfl | (cases aggOf x <;> rfl)) | (cases aggOf x <;> rfl)
theorem eqT_undef_r (neg : Bool) (t : TypeId) (x : AV) : eqT P neg t x .undef = none := by
  unfold eqT; rw [eqA_undef_r]; simp

theorem binA_sound {op : BinOp} {t _yt : TypeId} {x y : AV} {x' y' : Value} {v : AV} (hx : VR p x x') (hy : VR p y y') (h : binA P op t x y = some v) {xo yo : Operand} :
    Gives P p (do eqGuard op t xo yo x' y'; binOp op t x' y') w v := by
  unfold binA at h
  split at h
  · -- two numbers
    rename_i k a k' b
    simp only [VR] at hx hy
    subst hx hy
    have hg : (eqGuard op t xo yo (.int k a) (.int k' b)).run P w = .ok () w := eqGuard_run (by simp) (by simp)
    unfold Gives
    simp only [Sem.run_bind, hg, Result.andThen_ok]
    by_cases hs : op = .shl ∨ op = .shr
    · rcases hs with rfl | rfl <;> exact shA_sound (yk := k') (by simp) h
    · have h' : (if k = k' then intA op k a b else none) = some v := by
        cases op <;> first | exact h | (exact absurd (.inl rfl) hs) | (exact absurd (.inr rfl) hs)
      split at h'
      · rename_i hk
        subst hk
        have := intA_sound (P := P) (p := p) (w := w) h'
        cases op <;> first
          | (exact absurd (.inl rfl) hs)
          | (exact absurd (.inr rfl) hs)
          | (simpa [binOp, Gives] using this)
      · simp at h'
  · rename_i a b
    simp only [VR] at hx hy
    subst hx hy
    have hg : (eqGuard op t xo yo (.string ⟨⟨a⟩⟩) (.string ⟨⟨b⟩⟩)).run P w = .ok () w := eqGuard_run (by simp) (by simp)
    unfold Gives
    simp only [Sem.run_bind, hg, Result.andThen_ok]
    by_cases hs : op = .shl ∨ op = .shr
    · rcases hs with rfl | rfl <;> simp at h
    · have h' : strA op a b = some v := by
        cases op <;> first | exact h | (exact absurd (.inl rfl) hs) | (exact absurd (.inr rfl) hs)
      have := strA_sound (P := P) (p := p) (w := w) h'
      cases op <;> first
          | (exact absurd (.inl rfl) hs)
          | (exact absurd (.inr rfl) hs)
          | (simpa [binOp, Gives] using this)
  · rename_i h1 h2
    have hu : x ≠ .undef ∧ y ≠ .undef := by
      constructor
      · rintro rfl; split at h <;> first | (rw [eqT_undef] at h; simp at h; done) | simp at h
      · rintro rfl; split at h <;> first | (rw [eqT_undef_r] at h; simp at h; done) | simp at h
    have hb := binOp_eql (t := t) hx hy hu.1 hu.2 (fun k a k' b e => h1 k a k' b e.1 e.2) (fun a b e => h2 a b e.1 e.2)
    split at h
    · obtain ⟨hg, b, hr, rfl⟩ := eqT_sound (w := w) (op := .eql) hx hy h (xo := xo) (yo := yo)
      refine ⟨.bool b, ?_, by simp [VR]⟩
      rw [hb.1]
      simp only [Sem.run_bind, hg, Result.andThen_ok, hr, Sem.run_pure]
    · obtain ⟨hg, b, hr, rfl⟩ := eqT_sound (w := w) (op := .neq) hx hy h (xo := xo) (yo := yo)
      refine ⟨.bool !b, ?_, by simp [VR]⟩
      rw [hb.2]
      simp only [Sem.run_bind, hg, Result.andThen_ok, hr, Sem.run_pure]
    · simp at h

theorem unA_sound {op : UnOp} {x : AV} {x' : Value} {v : AV} (hx : VR p x x') (h : unA op x = some v) : Gives P p (Op.unary op x') w v := by
  unfold unA at h
  split at h
  · simp only [VR] at hx; subst hx; cases h; exact ⟨_, rfl, by simp [VR]⟩
  · simp only [VR] at hx; subst hx; simp only [intA] at h; cases h; exact ⟨_, rfl, by simp [VR]⟩
  · simp only [VR] at hx; subst hx; cases h; exact ⟨_, rfl, by simp [VR]⟩
  · simp at h

theorem convA_sound {src dst : TypeId} {x : AV} {x' : Value} {v : AV} (hx : VR p x x') (h : convA P src dst x = some v) : Gives P p (convert src dst x') w v := by
  unfold convA at h
  split at h
  · rename_i k0 k n h1 h2
    simp only [VR] at hx; subst hx; cases h
    refine ⟨.int k0 (k0.wrap n), ?_, by simp [VR]⟩
    simp only [convert, Sem.run_bind, run_under h1, run_under h2, Result.andThen_ok]
    rfl
  · rename_i s0 h1 h2
    simp only [VR] at hx; subst hx; cases h
    refine ⟨.string ⟨⟨s0⟩⟩, ?_, by simp only [VR]⟩
    simp only [convert, Sem.run_bind, run_under h1, run_under h2, Result.andThen_ok]
    rfl
  · simp at h

theorem offA_spec {x : AV} {n : Nat} {v : AV} (h : offA x n = some v) : ∃ a, x = .ptr (some a) ∧ v = .ptr (some ⟨a.b, a.o + n⟩) := by
  unfold offA at h
  split at h
  · rename_i a; cases h; exact ⟨a, rfl, rfl⟩
  · simp at h

theorem addr_add (c o n : Nat) : (⟨c, o, none⟩ : Addr).add n = ⟨c, o + n, none⟩ := by
  unfold Addr.add; split
  · rename_i h; subst h; rfl
  · rfl

theorem VR_ptr_add {a : AA} {ci : CI} (h : p a.b = some ci) (n : Nat) : VR p (.ptr (some ⟨a.b, a.o + n⟩)) (.pointer (some ((⟨ci.c, a.o + ci.d, none⟩ : Addr).add n))) := by
  simp only [VR, addr_add]
  exact ⟨ci, h, by simp only [Nat.add_right_comm]⟩

theorem fieldAddrA_sound {s : TypeId} {x : AV} {f : Nat} {x' : Value} {v : AV} (hx : VR p x x') (h : fieldAddrA P s x f = some v) : Gives P p (Instr.fieldAt s x' f) w v := by
  unfold fieldAddrA fieldOf at h
  split at h
  · rename_i off ft hf
    split at h
    · rename_i n hn
      obtain ⟨a, rfl, rfl⟩ := offA_spec h
      simp only [VR] at hx
      obtain ⟨ci, hci, rfl⟩ := hx
      split at hf
      · rename_i fields hd
        simp only [Option.map_eq_some_iff] at hf
        obtain ⟨fd, h1, h2⟩ := hf
        cases h2
        unfold Gives Instr.fieldAt
        have h1' : fields[f]? = some fd := by simpa using h1
        simp only [Sem.run_bind, run_under hd, Result.andThen_ok, h1', Instr.sureAddr, Sem.run_pure, fieldPlace, run_size hn, Sem.run_ite, Nat.add_one_ne_zero, if_false]
        exact ⟨_, rfl, VR_ptr_add hci _⟩
      · simp at hf
    · simp at h
  · simp at h

theorem fieldA_sound {s : TypeId} {x : AV} {f : Nat} {x' : Value} {v : AV} (hx : VR p x x') (h : fieldA P s x f = some v) : Gives P p (Instr.field s x' f) w v := by
  unfold fieldA at h
  split at h
  · rename_i off ft cs hf
    simp only [VR] at hx
    obtain ⟨cs', rfl, hcs⟩ := hx
    unfold fieldOf at hf
    split at hf
    · rename_i fields hd
      simp only [Option.map_eq_some_iff] at hf
      obtain ⟨fd, h1, h2⟩ := hf
      cases h2
      unfold Gives Instr.field
      have h1' : fields[f]? = some fd := by simpa using h1
      simp only [Sem.run_bind, run_under hd, Result.andThen_ok, h1', asAgg, Sem.run_pure]
      exact partA_sound hcs h
    · simp at hf
  · simp at h

theorem ixA_spec {sz len : Nat} {a : AA} {i : Int} {v : AV} (h : ixA sz len a i = some v) : 0 ≤ i ∧ i < len ∧ v = .ptr (some ⟨a.b, a.o + i.toNat * sz⟩) := by
  unfold ixA at h
  split at h
  · split at h
    · cases h; exact ⟨‹_›, ‹_›, rfl⟩
    · simp at h
  · simp at h

theorem indexAddrA_sound {t : TypeId} {x i : AV} {x' i' : Value} {v : AV} (hx : VR p x x') (hi : VR p i i') (h : indexAddrA P t x i = some v) : Gives P p (Instr.indexAt t x' i') w v := by
  unfold indexAddrA at h
  split at h
  · rename_i e hd
    split at h
    · rename_i a sz len cap ex k n
      simp only [VR] at hi; subst hi
      split at h
      · rename_i s hs
        split at h
        · obtain ⟨h0, h1, rfl⟩ := ixA_spec h
          simp only [VR, SR] at hx
          obtain ⟨ci, off, cap', hci, rfl, hlc, hcc, _, _, hoff⟩ := hx
          have : off = a.o + ci.d := hoff (by omega)
          subst this
          unfold Gives Instr.indexAt
          simp only [Sem.run_bind, asIntOf, Sem.run_pure, run_under hd, Result.andThen_ok, h0, h1, and_self, if_true, run_size hs]
          exact ⟨_, rfl, VR_ptr_add hci _⟩
        · simp at h
      · simp at h
    · simp at h
  · rename_i len e hd
    split at h
    · rename_i a k n
      simp only [VR] at hi; subst hi
      split at h
      · rename_i s hs
        obtain ⟨h0, h1, rfl⟩ := ixA_spec h
        simp only [VR] at hx
        obtain ⟨ci, hci, rfl⟩ := hx
        unfold Gives Instr.indexAt
        simp only [Sem.run_bind, asIntOf, Sem.run_pure, run_under hd, Result.andThen_ok, Instr.sureAddr, h0, h1, and_self, if_true, run_size hs]
        exact ⟨_, rfl, VR_ptr_add hci _⟩
      · simp at h
    · simp at h
  · simp at h

theorem indexA_sound {t : TypeId} {x i : AV} {x' i' : Value} {v : AV} (hx : VR p x x') (hi : VR p i i') (h : indexA P t x i = some v) : Gives P p (Instr.index t x' i') w v := by
  unfold indexA at h
  split at h
  · rename_i len e hd
    split at h
    · rename_i cs k n
      simp only [VR] at hx hi; subst hi
      obtain ⟨cs', rfl, hcs⟩ := hx
      split at h
      · rename_i h0
        split at h
        · rename_i h1
          split at h
          · rename_i s hs
            unfold Gives Instr.index
            simp only [Sem.run_bind, asIntOf, Sem.run_pure, run_under hd, Result.andThen_ok, h0, h1, and_self, if_true, run_size hs]
            exact partA_sound hcs h
          · simp at h
        · simp at h
      · simp at h
    · simp at h
  · rename_i hd
    split at h
    · rename_i s k n
      simp only [VR] at hx hi; subst hx hi
      split at h
      · rename_i h0
        split at h
        · rename_i c hc
          cases h
          unfold Gives Instr.index
          have : (if 0 ≤ n then (ByteArray.mk ⟨s⟩)[n.toNat]? else none) = some c := by
            rw [if_pos h0]
            have hlt : n.toNat < s.length := (List.getElem?_eq_some_iff.1 hc).1
            rw [getElem?_pos (ByteArray.mk ⟨s⟩) n.toNat (by simpa [str_size] using hlt)]
            congr 1
            have := (List.getElem?_eq_some_iff.1 hc).2
            rw [← this]; rfl
          simp only [Sem.run_bind, asIntOf, Sem.run_pure, run_under hd, Result.andThen_ok, this]
          exact ⟨_, rfl, by simp [VR]⟩
        · simp at h
      · simp at h
    · simp at h
  · simp at h

theorem hiA_sound {hi : Option AV} {hi' : Option Value} {len cap h : Nat} (hr : ∀ a, hi = some a → ∃ v, hi' = some v ∧ VR p a v) (hn : hi = none → hi' = none) (e : hiA hi len cap = some h) (code : BoundsCode) :
    (match hi' with | some v => Instr.sliceBound v cap code | none => pure len).run P w = .ok h w := by
  unfold hiA at e
  split at e
  · cases e; rw [hn rfl]; rfl
  · rename_i k n
    obtain ⟨v, rfl, hv⟩ := hr _ rfl
    simp only [VR] at hv; subst hv
    split at e
    · split at e
      · cases e; simp [Instr.sliceBound, asIntOf, *]
      · simp at e
    · simp at e
  · simp at e
theorem loA_sound {lo : Option AV} {lo' : Option Value} {h l : Nat} (hr : ∀ a, lo = some a → ∃ v, lo' = some v ∧ VR p a v) (hn : lo = none → lo' = none) (e : loA lo h = some l) (code : BoundsCode) :
    (match lo' with | some v => Instr.sliceBound v h code | none => pure 0).run P w = .ok l w ∧ l ≤ h := by
  unfold loA at e
  split at e
  · cases e; rw [hn rfl]; exact ⟨rfl, Nat.zero_le _⟩
  · rename_i k n _
    obtain ⟨v, rfl, hv⟩ := hr _ rfl
    simp only [VR] at hv; subst hv
    split at e
    · split at e
      · cases e; exact ⟨by simp [Instr.sliceBound, asIntOf, *], by omega⟩
      · simp at e
    · simp at e
  · simp at e
theorem hiA_le {hi : Option AV} {len cap h : Nat} (hlc : len ≤ cap) (e : hiA hi len cap = some h) : h ≤ cap := by
  unfold hiA at e
  split at e
  · cases e; exact hlc
  · split at e
    · split at e
      · cases e; omega
      · simp at e
    · simp at e
  · simp at e
/-- A bound that is right within a smaller capacity is right. -/
theorem hiA_cap {hi : Option AV} {len cap cap' h : Nat} (hc : cap ≤ cap') (e : hiA hi len cap = some h) : hiA hi len cap' = some h := by
  unfold hiA at e ⊢
  split at e
  · exact e
  · rename_i n _
    split at e
    · split at e
      · rename_i h1 h2
        rw [if_pos h1, if_pos (by omega)]; exact e
      · simp at e
    · simp at e
  · simp at e

theorem bounds_sound {isSlice : Bool} {lo hi : Option AV} {lo' hi' : Option Value} {len cap h l : Nat} (hlr : ∀ a, lo = some a → ∃ v, lo' = some v ∧ VR p a v) (hln : lo = none → lo' = none)
    (hhr : ∀ a, hi = some a → ∃ v, hi' = some v ∧ VR p a v) (hhn : hi = none → hi' = none) (e1 : hiA hi len cap = some h) (e2 : loA lo h = some l) :
    (Instr.sliceBounds isSlice len cap lo' hi' none).run P w = .ok (l, h, cap) w := by
  unfold Instr.sliceBounds
  have a1 := hiA_sound (P := P) (w := w) hhr hhn e1 (if isSlice then .sliceAcap else .sliceAlen)
  have a2 := (loA_sound (P := P) (w := w) hlr hln e2 .sliceB).1
  cases hi' with
  | none =>
    cases lo' with
    | none => simp only [Sem.run_bind, Sem.run_pure, Result.andThen_ok] at a1 a2 ⊢; cases a1; cases a2; rfl
    | some b =>
      simp only [Sem.run_bind, Sem.run_pure, Result.andThen_ok] at a1 a2 ⊢; cases a1
      simp only [Option.isSome_none, Bool.false_eq_true, if_false, a2, Result.andThen_ok]
  | some c =>
    cases lo' with
    | none => simp only [Sem.run_bind, Sem.run_pure, Result.andThen_ok, a1] at a2 ⊢; cases a2; rfl
    | some b => simp only [Sem.run_bind, Sem.run_pure, Result.andThen_ok, a1, Option.isSome_none, Bool.false_eq_true, if_false, a2]

theorem sliceA_sound {t : TypeId} {x : AV} {x' : Value} {lo hi : Option AV} {lo' hi' : Option Value} {v : AV} (hx : VR p x x') (hlr : ∀ a, lo = some a → ∃ v, lo' = some v ∧ VR p a v) (hln : lo = none → lo' = none)
    (hhr : ∀ a, hi = some a → ∃ v, hi' = some v ∧ VR p a v) (hhn : hi = none → hi' = none) (h : sliceA P t x lo hi = some v) : Gives P p (Instr.sliceAt t x' lo' hi' none) w v := by
  unfold sliceA at h
  unfold Gives Instr.sliceAt
  split at h
  · rename_i hd
    split at h
    · rename_i s
      simp only [VR] at hx; subst hx
      split at h
      · rename_i hh e1
        split at h
        · rename_i l e2
          cases h
          simp only [Sem.run_bind, run_under hd, Result.andThen_ok, Instr.slice, Option.isSome_none, Bool.false_eq_true, if_false, str_size, Sem.run_pure]
          rw [bounds_sound hlr hln hhr hhn e1 e2]
          refine ⟨_, rfl, ?_⟩
          simp only [VR]
          rw [show (ByteArray.mk ⟨s⟩) = ByteArray.mk s.toArray from rfl, ByteArray.extract_mk]
          congr 2
          rw [List.drop_take]
        · simp at h
      · simp at h
    · simp at h
  · rename_i e hd
    split at h
    · rename_i a sz len cap ex s hs
      split at h
      · rename_i hh e1
        split at h
        · rename_i l e2
          simp only [Sem.run_bind, run_under hd, Result.andThen_ok]
          split at h
          · rename_i a
            split at h
            · rename_i hss
              cases h
              simp only [VR, SR] at hx
              obtain ⟨ci, off, cap', hci, rfl, hlc, hcc, hex, hbd, hoff⟩ := hx
              simp only [Instr.slice, Sem.run_bind, run_under hd, Result.andThen_ok]
              rw [bounds_sound hlr hln hhr hhn (hiA_cap hcc e1) e2]
              simp only [Result.andThen_ok, run_size hs, Sem.run_pure]
              refine ⟨_, rfl, ?_⟩
              have hle := hiA_le hlc e1
              have hl := (loA_sound (P := P) (w := w) hlr hln e2 .sliceB).2
              simp only [VR, SR]
              by_cases hm : cap' = l
              · refine ⟨ci, off, cap' - l, hci, by simp [hm], by omega, by omega, fun h => by rw [hex h], fun h => ?_, fun h => by omega⟩
                have := hbd h
                rw [hm, Nat.sub_self]; omega
              · refine ⟨ci, off + l * s, cap' - l, hci, ?_, by omega, by omega, fun h => by rw [hex h], fun h => ?_, fun h => ?_⟩
                · simp only [if_neg hm, Option.map_some, addr_add]
                · have hsz : s = sz := by rcases hss with e | e; · exact e
                                          · rw [h] at e; cases e
                  subst hsz
                  have := hbd h
                  have : l * s + (cap' - l) * s = cap' * s := by rw [← Nat.add_mul]; congr 1; omega
                  omega
                · have := hoff (by omega); omega
            · simp at h
          · split at h
            · rename_i hc; subst hc
              cases h
              simp only [VR] at hx
              obtain ⟨h1, _, rfl⟩ := hx
              subst h1
              have hle := hiA_le (Nat.le_refl 0) e1
              have hl := (loA_sound (P := P) (w := w) hlr hln e2 .sliceB).2
              have h0 : hh = 0 := by omega
              have l0 : l = 0 := by omega
              subst h0 l0
              simp only [Instr.slice, Sem.run_bind, run_under hd, Result.andThen_ok]
              rw [bounds_sound hlr hln hhr hhn e1 e2]
              simp only [Result.andThen_ok, run_size hs, Sem.run_pure]
              exact ⟨_, rfl, by simp [VR]⟩
            · simp at h
        · simp at h
      · simp at h
    · simp at h
  · rename_i n e hd
    split at h
    · rename_i a s hs
      split at h
      · rename_i hh e1
        split at h
        · rename_i l e2
          cases h
          simp only [VR] at hx
          obtain ⟨ci, hci, rfl⟩ := hx
          simp only [Sem.run_bind, run_under hd, Result.andThen_ok, Instr.sureAddr, Sem.run_pure]
          rw [bounds_sound hlr hln hhr hhn e1 e2]
          simp only [Result.andThen_ok, run_size hs]
          refine ⟨_, rfl, ?_⟩
          have hle := hiA_le (Nat.le_refl n) e1
          have hl := (loA_sound (P := P) (w := w) hlr hln e2 .sliceB).2
          simp only [VR, SR]
          by_cases hm : n = l
          · exact ⟨ci, a.o + ci.d, n - l, hci, by simp [hm], by omega, by omega, fun _ => rfl, by simp, fun h => by omega⟩
          · refine ⟨ci, a.o + ci.d + l * s, n - l, hci, ?_, by omega, by omega, fun _ => rfl, by simp, fun h => by omega⟩
            simp only [if_neg hm, addr_add]
        · simp at h
      · simp at h
    · simp at h
  · simp at h

theorem slice3A_sound {t : TypeId} {x : AV} {x' : Value} {lo : Option AV} {lo' : Option Value} {hi mx : AV} {hi' mx' : Value} {v : AV} (hx : VR p x x') (hlr : ∀ a, lo = some a → ∃ v, lo' = some v ∧ VR p a v) (hln : lo = none → lo' = none)
    (hhr : VR p hi hi') (hmr : VR p mx mx') (h : slice3A P t x lo hi mx = some v) : Gives P p (Instr.sliceAt t x' lo' (some hi') (some mx')) w v := by
  unfold slice3A at h
  unfold Gives Instr.sliceAt
  split at h
  · rename_i e hd
    split at h
    · rename_i a sz _ cap ex s hs
      split at h
      · rename_i mm e0
        split at h
        · rename_i hh e1
          split at h
          · rename_i l e2
            split at h
            · rename_i hss
              cases h
              simp only [VR, SR] at hx
              obtain ⟨ci, off, cap', hci, rfl, hlc, hcc, hex, hbd, hoff⟩ := hx
              simp only [Sem.run_bind, run_under hd, Result.andThen_ok, Instr.slice]
              have hb : ∀ n, (Instr.sliceBounds true n cap' lo' (some hi') (some mx')).run P w = .ok (l, hh, mm) w := by
                intro n
                have a0 := hiA_sound (P := P) (w := w) (hi := some mx) (hi' := some mx') (len := 0) (fun a ha => by cases ha; exact ⟨_, rfl, hmr⟩) (by simp) (hiA_cap hcc e0) .slice3Acap
                have a1 := hiA_sound (P := P) (w := w) (hi := some hi) (hi' := some hi') (len := 0) (fun a ha => by cases ha; exact ⟨_, rfl, hhr⟩) (by simp) e1 .slice3B
                have a2 := (loA_sound (P := P) (w := w) hlr hln e2 .slice3C).1
                unfold Instr.sliceBounds
                simp only at a0 a1
                cases lo' with
                | none => simp only [Sem.run_bind, if_true, a0, a1, Result.andThen_ok, Sem.run_pure] at a2 ⊢; cases a2; rfl
                | some b => simp only at a2; simp only [Sem.run_bind, if_true, a0, a1, Result.andThen_ok, Sem.run_pure, Option.isSome_some, a2]
              rw [hb]
              simp only [Result.andThen_ok, run_size hs, Sem.run_pure]
              refine ⟨_, rfl, ?_⟩
              have hm1 := hiA_le (hi := some mx) (Nat.zero_le _) e0
              have hle := hiA_le (hi := some hi) (Nat.zero_le _) e1
              have hl := (loA_sound (P := P) (w := w) hlr hln e2 .sliceB).2
              simp only [VR, SR]
              by_cases hm : mm = l
              · exact ⟨ci, off, mm - l, hci, by simp [hm], by omega, Nat.le_refl _, fun _ => rfl, by simp, fun h => by omega⟩
              · refine ⟨ci, off + l * s, mm - l, hci, ?_, by omega, Nat.le_refl _, fun _ => rfl, by simp, fun h => ?_⟩
                · simp only [if_neg hm, Option.map_some, addr_add]
                · have := hoff (by omega); omega
            · simp at h
          · simp at h
        · simp at h
      · simp at h
    · simp at h
  · simp at h
end
end Go.Abs
