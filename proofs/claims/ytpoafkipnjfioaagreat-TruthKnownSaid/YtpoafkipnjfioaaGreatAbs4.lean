/- The operations on values alone: what the abstract one answers, the model's answers alike, and the world stays. -/
import Derived.Test.YtpoafkipnjfioaaGreatAbs3
import Derived.Laws.Strings2
import Derived.Laws.Entries
namespace Go.Abs
open Go

section
variable {P : Program} {p : Phi} {w : World}

/-- The operation yields a value, the world stays. -/
def Gives (P : Program) (p : Phi) (s : Sem Value) (w : World) (v : AV) : Prop := ∃ cv, s.run P w = .ok cv w ∧ VR p v cv

theorem run_under {t : TypeId} {d : TypeDesc} (h : P.underlying t = some d) (w : World) : (underlying t).run P w = .ok d w := run_underlying h w
theorem run_info {t : TypeId} {i : TypeInfo} (h : P.info? t = some i) (w : World) : (typeInfo t).run P w = .ok i w := by simp [typeInfo, h]
theorem run_size {t : TypeId} {n : Nat} (h : szT P t = some n) (w : World) : (sizeOf t).run P w = .ok n w := by
  unfold szT at h
  cases hi : P.info? t with
  | none => simp [hi] at h
  | some i => rw [hi] at h; cases h; simp [sizeOf, run_info hi]
theorem run_isAgg {t : TypeId} {d : TypeDesc} (h : P.underlying t = some d) (w : World) : (isAgg t).run P w = .ok (isAggT P t) w := by
  simp only [isAgg, Sem.run_bind, run_under h, Result.andThen_ok, isAggT, h]
  cases d <;> rfl
theorem isAggT_under {t : TypeId} (h : isAggT P t = true) : ∃ d, P.underlying t = some d := by
  unfold isAggT at h
  cases hd : P.underlying t with
  | none => simp [hd] at h
  | some d => exact ⟨d, rfl⟩

/-- Operands. -/
theorem ev_VR {t : List AV} {a : Act} (ht : VRs p t a.tmps.toList) (hg : ∀ g, g < P.globals.size → ∃ n, p g = some ⟨g, 0, n⟩) {x : Operand} {v : AV} (h : ev P t x = some v) : VR p v (a.eval x) := by
  cases x with
  | tmp i =>
    simp only [ev, nth_eq, Option.some.injEq] at h
    subst h
    simp only [Act.eval]
    cases e : t[i]? with
    | none => rw [List.getD_eq_getElem?_getD, e]; simp [VR]
    | some b =>
      obtain ⟨v, h1, h2⟩ := ht.get e
      rw [List.getD_eq_getElem?_getD, e]
      have : a.tmps.getD i undef = v := by
        rw [Array.getD_eq_getD_getElem?, ← Array.getElem?_toList, h1]; rfl
      rw [this]; exact h2
  | const c => exact ofV_VR p h
  | global g =>
    simp only [ev] at h
    split at h
    · rename_i hlt
      cases h
      obtain ⟨n, hn⟩ := hg g hlt
      simp only [VR, Act.eval]
      exact ⟨_, hn, rfl⟩
    · simp at h
  | func f => simp only [ev, Option.some.injEq] at h; subst h; simp only [VR, Act.eval]; exact ⟨[], [], rfl, by simp [VRs], by simp [VRs]⟩

theorem evs_VRs {t : List AV} {a : Act} (ht : VRs p t a.tmps.toList) (hg : ∀ g, g < P.globals.size → ∃ n, p g = some ⟨g, 0, n⟩) : ∀ {xs : List Operand} {vs : List AV}, evs P t xs = some vs → VRs p vs (xs.map a.eval)
  | [], vs, h => by simp only [evs, Option.some.injEq] at h; subst h; simp [VRs]
  | x :: xs, vs, h => by
    simp only [evs] at h
    split at h
    · rename_i v vs' h1 h2
      cases h
      simp only [VRs, List.map_cons]
      exact ⟨_, _, rfl, ev_VR ht hg h1, evs_VRs ht hg h2⟩
    · simp at h

inductive PartsR (p : Phi) : List (Nat × AV) → List (Nat × Value) → Prop
  | nil : PartsR p [] []
  | cons {i : Nat} {a : AV} {v : Value} {as : List (Nat × AV)} {vs : List (Nat × Value)} (h : VR p a v) (t : PartsR p as vs) : PartsR p ((i, a) :: as) ((i, v) :: vs)

theorem evParts_VR {t : List AV} {a : Act} (ht : VRs p t a.tmps.toList) (hg : ∀ g, g < P.globals.size → ∃ n, p g = some ⟨g, 0, n⟩) : ∀ {xs : List (Nat × Operand)} {vs : List (Nat × AV)}, evParts P t xs = some vs →
    PartsR p vs (xs.map fun (i, x) => (i, a.eval x))
  | [], vs, h => by simp only [evParts, Option.some.injEq] at h; subst h; exact .nil
  | (i, x) :: xs, vs, h => by
    simp only [evParts] at h
    split at h
    · rename_i v vs' h1 h2
      cases h
      exact .cons (ev_VR ht hg h1) (evParts_VR ht hg h2)
    · simp at h

/-! Strings. -/
theorem bytesLess_eq : ∀ (x y : List UInt8), Op.bytesLess x y = strLess x y
  | _, [] => by cases ‹List UInt8› <;> rfl
  | [], _ :: _ => rfl
  | a :: x, b :: y => by
    simp only [Op.bytesLess, strLess, bytesLess_eq x y]
    congr 1
theorem str_toList (s : List UInt8) : (ByteArray.mk ⟨s⟩).toList = s := by rw [ByteArray.toList_eq]
theorem str_size (s : List UInt8) : (ByteArray.mk ⟨s⟩).size = s.length := rfl
theorem str_append (x y : List UInt8) : (ByteArray.mk ⟨x⟩ ++ ByteArray.mk ⟨y⟩ : ByteArray) = ⟨⟨x ++ y⟩⟩ := by
  apply ByteArray.ext
  rw [ByteArray.data_append]
  simp

theorem intA_sound {op : BinOp} {k : IntKind} {x y : Int} {v : AV} (h : intA op k x y = some v) :
    Gives P p (match op with | .add | .sub | .mul => Op.intArith op k x y | .quo | .rem => Op.intDiv op k x y | .and | .or | .xor | .andNot => Op.intBits op k x y | _ => Op.intCmp op x y) w v := by
  unfold Gives
  cases op <;> simp only [intA] at h
  case quo => split at h <;> cases h; rename_i hy; exact ⟨.int k (k.wrap (x.tdiv y)), by simp [Op.intDiv, hy], by simp [VR]⟩
  case rem => split at h <;> cases h; rename_i hy; exact ⟨.int k (x.tmod y), by simp [Op.intDiv, hy], by simp [VR]⟩
  all_goals (first | (cases h; done) | (cases h; exact ⟨_, rfl, by simp [VR]⟩))

theorem strA_sound {op : BinOp} {x y : List UInt8} {v : AV} (h : strA op x y = some v) : Gives P p (Op.stringOp op ⟨⟨x⟩⟩ ⟨⟨y⟩⟩) w v := by
  unfold Gives Op.stringOp
  simp only [str_toList, bytesLess_eq, str_size]
  cases op <;> simp only [strA] at h
  case add =>
    split at h
    · rename_i hle
      cases h
      refine ⟨.string (⟨⟨x⟩⟩ ++ ⟨⟨y⟩⟩), ?_, ?_⟩
      · simp only []
        rw [if_neg]
        · rfl
        · have : IntKind.i64.max = 9223372036854775807 := by decide
          rw [this]; omega
      · simp only [VR, str_append]
    · simp at h
  all_goals first
    | (cases h; done)
    | (cases h; exact ⟨_, rfl, by simp [VR]⟩)

theorem shA_sound {op : BinOp} (hop : op = .shl ∨ op = .shr) {k yk : IntKind} {x y : Int} {v : AV} (h : shA op k x y = some v) : Gives P p (Op.shift op k x yk y) w v := by
  unfold shA at h
  split at h
  · simp at h
  · rename_i hy
    unfold Gives Op.shift
    rw [if_neg hy]
    rcases hop with rfl | rfl <;> (simp only at h; cases h; exact ⟨_, rfl, by simp [VR]⟩)

/-- A part of an aggregate. -/
theorem partA_sound {t : TypeId} {cs : List AV} {cs' : List Value} (hcs : VRs p cs cs') {off : Nat} {v : AV} (h : partA P t cs off = some v) :
    Gives P p (part t ⟨cs'⟩ off) w v := by
  unfold partA at h
  split at h
  · simp at h
  rename_i d hd
  unfold Gives part
  simp only [Sem.run_bind, run_isAgg hd, Result.andThen_ok]
  split at h
  · rename_i ha
    split at h
    · rename_i n hn
      split at h
      · rename_i hle
        cases h
        simp only [ha, if_true, Sem.run_bind, run_size hn, Result.andThen_ok]
        refine ⟨_, rfl, ?_⟩
        simp only [VR]
        refine ⟨(cs'.drop off).take n, ?_, (hcs.drop off).take n⟩
        congr 1
        apply Array.ext'
        simp [List.extract_eq_take_drop, Nat.add_sub_cancel_left]
      · simp at h
    · simp at h
  · rename_i ha
    simp only [ha]
    obtain ⟨v', h1, h2⟩ := hcs.get h
    have : (⟨cs'⟩ : Array Value)[off]? = some v' := by simpa using h1
    simp only [this, Bool.false_eq_true, if_false]
    exact ⟨v', rfl, h2⟩

/-! '=='. -/
def GivesB (P : Program) (s : Sem Bool) (w : World) (b : Bool) : Prop := s.run P w = .ok b w

/-- One field's turn. -/
def eqBody (n : Nat) (xs ys : Array Value) (f : Field) (_ : Option Bool × Unit) : Sem (ForInStep (Option Bool × Unit)) :=
  if f.name = "_" then pure (ForInStep.yield (none, ()))
  else do
    let a ← part f.type xs f.offset
    let b ← part f.type ys f.offset
    let r ← Op.equalIn n f.type a b
    if r = false then pure (ForInStep.done (some false, ())) else pure (ForInStep.yield (none, ()))
def eqElem (n : Nat) (elem : TypeId) (k : Nat) (xs ys : Array Value) (i : Nat) (_ : Option Bool × Unit) : Sem (ForInStep (Option Bool × Unit)) := do
    let a ← part elem xs (i * k)
    let b ← part elem ys (i * k)
    let r ← Op.equalIn n elem a b
    if r = false then pure (ForInStep.done (some false, ())) else pure (ForInStep.yield (none, ()))

theorem eqA_under {d : Nat} {t : TypeId} {a c : AV} {b : Bool} (h : eqA P d t a c = some b) : ∃ dd, P.underlying t = some dd := by
  cases e : P.underlying t with
  | some dd => exact ⟨dd, rfl⟩
  | none =>
    cases d with
    | zero => simp [eqA] at h
    | succ d => simp [eqA, e] at h

theorem eqFields_sound {n d : Nat}
    (ih : ∀ {t : TypeId} {x y : AV} {x' y' : Value} {b : Bool}, VR p x x' → VR p y y' → eqA P d t x y = some b → GivesB P (Op.equalIn n t x' y') w b)
    {xs ys : List AV} {xs' ys' : List Value} (hx : VRs p xs xs') (hy : VRs p ys ys') :
    ∀ {fs : List Field} {b : Bool}, eqFields P (eqA P d) fs xs ys = some b →
    ∃ r, (forIn fs (none, ()) (eqBody n ⟨xs'⟩ ⟨ys'⟩)).run P w = .ok r w ∧ r.1.getD true = b := by
  intro fs
  induction fs with
  | nil => intro b h; simp only [eqFields, Option.some.injEq] at h; subst h; exact ⟨(none, ()), rfl, rfl⟩
  | cons f fs ih2 =>
    intro b h
    simp only [eqFields] at h
    rw [List.forIn_cons]
    by_cases hn : f.name = "_"
    · rw [if_pos hn] at h
      obtain ⟨r, h1, h2⟩ := ih2 h
      refine ⟨r, ?_, h2⟩
      simp only [eqBody, hn, if_true, Sem.run_bind, Sem.run_pure, Result.andThen_ok]
      exact h1
    · rw [if_neg hn] at h
      split at h
      · rename_i a c ha hc
        split at h
        · rename_i he
          obtain ⟨a', ha1, ha2⟩ := partA_sound (w := w) hx ha
          obtain ⟨c', hc1, hc2⟩ := partA_sound (w := w) hy hc
          have h3 : (Op.equalIn n f.type a' c').run P w = .ok true w := ih ha2 hc2 he
          obtain ⟨r, h1, h2⟩ := ih2 h
          refine ⟨r, ?_, h2⟩
          simp only [eqBody, hn, if_false, Sem.run_bind, ha1, hc1, h3, Result.andThen_ok, Bool.true_eq_false, Sem.run_pure]
          exact h1
        · rename_i he
          cases h
          obtain ⟨a', ha1, ha2⟩ := partA_sound (w := w) hx ha
          obtain ⟨c', hc1, hc2⟩ := partA_sound (w := w) hy hc
          have h3 : (Op.equalIn n f.type a' c').run P w = .ok false w := ih ha2 hc2 he
          refine ⟨(some false, ()), ?_, rfl⟩
          simp only [eqBody, hn, if_false, Sem.run_bind, ha1, hc1, h3, Result.andThen_ok, if_true, Sem.run_pure]
        · simp at h
      · simp at h

theorem eqElems_sound {n d : Nat}
    (ih : ∀ {t : TypeId} {x y : AV} {x' y' : Value} {b : Bool}, VR p x x' → VR p y y' → eqA P d t x y = some b → GivesB P (Op.equalIn n t x' y') w b)
    {xs ys : List AV} {xs' ys' : List Value} (hx : VRs p xs xs') (hy : VRs p ys ys') {elem : TypeId} {k : Nat} :
    ∀ {len i : Nat} {b : Bool}, eqElems P (eqA P d) elem k xs ys len i = some b →
    ∃ r, (forIn (List.range' i len) (none, ()) (eqElem n elem k ⟨xs'⟩ ⟨ys'⟩)).run P w = .ok r w ∧ r.1.getD true = b := by
  intro len
  induction len with
  | zero => intro i b h; simp only [eqElems, Option.some.injEq] at h; subst h; exact ⟨(none, ()), rfl, rfl⟩
  | succ len ih2 =>
    intro i b h
    simp only [eqElems] at h
    rw [List.range'_succ, List.forIn_cons]
    split at h
    · rename_i a c ha hc
      split at h
      · rename_i he
        obtain ⟨a', ha1, ha2⟩ := partA_sound (w := w) hx ha
        obtain ⟨c', hc1, hc2⟩ := partA_sound (w := w) hy hc
        have h3 : (Op.equalIn n elem a' c').run P w = .ok true w := ih ha2 hc2 he
        obtain ⟨r, h1, h2⟩ := ih2 h
        refine ⟨r, ?_, h2⟩
        simp only [eqElem, Sem.run_bind, ha1, hc1, h3, Result.andThen_ok, Bool.true_eq_false, if_false, Sem.run_pure]
        exact h1
      · rename_i he
        cases h
        obtain ⟨a', ha1, ha2⟩ := partA_sound (w := w) hx ha
        obtain ⟨c', hc1, hc2⟩ := partA_sound (w := w) hy hc
        have h3 : (Op.equalIn n elem a' c').run P w = .ok false w := ih ha2 hc2 he
        refine ⟨(some false, ()), ?_, rfl⟩
        simp only [eqElem, Sem.run_bind, ha1, hc1, h3, Result.andThen_ok, if_true, Sem.run_pure]
      · simp at h
    · simp at h

theorem equalIn_struct {t : TypeId} {n : Nat} {fields : Array Field} (hd : P.underlying t = some (.struct fields)) (hs : P.stoodInHeld t = false) (xs ys : Array Value) :
   (Op.equalIn (n+1) t (.agg xs) (.agg ys)).run P w = ((forIn fields.toList (none, ()) (eqBody n xs ys)).run P w).andThen fun r w' => .ok (r.1.getD true) w' := by
  simp only [Op.equalIn, Sem.run_bind, run_under hd, Result.andThen_ok, run_program, hs]
  rw [Array.forIn_toList]
  unfold eqBody
  simp
  generalize Sem.run P _ w = x
  cases x with
  | ok a w => rcases a with ⟨_ | _, _⟩ <;> rfl
  | halt => rfl

theorem equalIn_array {t : TypeId} {n len elem k : Nat} (hd : P.underlying t = some (.array len elem)) (hk : szT P elem = some k) (xs ys : Array Value) :
   (Op.equalIn (n+1) t (.agg xs) (.agg ys)).run P w = ((forIn (List.range' 0 len) (none, ()) (eqElem n elem k xs ys)).run P w).andThen fun r w' => .ok (r.1.getD true) w' := by
  simp only [Op.equalIn, Sem.run_bind, run_under hd, Result.andThen_ok, run_size hk]
  rw [Std.Legacy.Range.forIn_eq_forIn_range']
  unfold eqElem
  simp [Std.Legacy.Range.size]
  generalize Sem.run P _ w = x
  cases x with
  | ok a w => rcases a with ⟨_ | _, _⟩ <;> rfl
  | halt => rfl

theorem eqA_sound : ∀ {d n : Nat} (_ : d ≤ n) {t : TypeId} {x y : AV} {x' y' : Value} {b : Bool}, VR p x x' → VR p y y' → eqA P d t x y = some b → GivesB P (Op.equalIn n t x' y') w b := by
  intro d
  induction d with
  | zero => intro n _ t x y x' y' b _ _ h; simp [eqA] at h
  | succ d ih =>
    intro n hn t x y x' y' b hx hy h
    obtain ⟨n, rfl⟩ : ∃ j, n = j + 1 := ⟨n - 1, by omega⟩
    obtain ⟨dd, hdd⟩ := eqA_under h
    unfold GivesB
    simp only [eqA, hdd] at h
    cases dd with
    | struct fields =>
      simp only at h
      split at h
      · simp at h
      · rename_i hs
        cases x <;> simp only [aggOf, Option.bind_none, Option.bind_some] at h <;> try (simp at h; done)
        cases y <;> simp only [Option.bind_none, Option.bind_some] at h <;> try (simp at h; done)
        simp only [VR] at hx hy
        obtain ⟨xs', rfl, hx⟩ := hx
        obtain ⟨ys', rfl, hy⟩ := hy
        rw [equalIn_struct hdd (by simpa using hs)]
        obtain ⟨r, h1, h2⟩ := eqFields_sound (n := n) (fun a b c => ih (by omega) a b c) hx hy h
        rw [h1]; simp [h2]
    | array len elem =>
      simp only at h
      cases x <;> simp only [aggOf, Option.bind_none, Option.bind_some] at h <;> try (simp at h; done)
      cases y <;> simp only [Option.bind_none, Option.bind_some] at h <;> try (simp at h; done)
      cases hk : szT P elem with
      | none => simp [hk] at h
      | some k =>
        rw [hk] at h
        simp only [VR] at hx hy
        obtain ⟨xs', rfl, hx⟩ := hx
        obtain ⟨ys', rfl, hy⟩ := hy
        rw [equalIn_array hdd hk]
        obtain ⟨r, h1, h2⟩ := eqElems_sound (n := n) (fun a b c => ih (by omega) a b c) hx hy h
        rw [h1]; simp [h2]
    | bool =>
      simp only [eqBool] at h
      split at h
      · simp only [VR] at hx hy; subst hx hy; cases h
        simp [Op.equalIn, run_under hdd]
      · simp at h
    | int k =>
      simp only [eqInt] at h
      split at h
      · simp only [VR] at hx hy; subst hx hy
        split at h
        · rename_i hk; cases h
          simp [Op.equalIn, run_under hdd, hk]
        · simp at h
      · simp at h
    | string =>
      simp only [eqStr] at h
      split at h
      · simp only [VR] at hx hy; subst hx hy; cases h
        simp only [Op.equalIn, Sem.run_bind, run_under hdd, Result.andThen_ok, Sem.run_pure]
        congr 1
        rename_i s s'
        rw [Bool.eq_iff_iff]
        simp only [beq_iff_eq]
        rw [show ((ByteArray.mk ⟨s⟩) == (ByteArray.mk ⟨s'⟩)) = ((⟨s⟩ : Array UInt8) == ⟨s'⟩) from rfl, beq_iff_eq]
        exact ⟨fun e => by injection e, fun e => by rw [e]⟩
      · simp at h
    | pointer e =>
      simp only [eqPtr] at h
      split at h
      · simp only [VR] at hx; subst hx; cases h
        rename_i q
        cases q with
        | none => simp only [VR] at hy; subst hy; simp [Op.equalIn, run_under hdd]
        | some q => simp only [VR] at hy; obtain ⟨ci, _, rfl⟩ := hy; simp [Op.equalIn, run_under hdd]
      · simp only [VR] at hx hy; subst hy; cases h
        obtain ⟨ci, _, rfl⟩ := hx; simp [Op.equalIn, run_under hdd]
      · simp at h
    | slice e =>
      simp only [eqSl] at h
      split at h
      · rename_i q _ _ _ _
        simp only [VR] at hx; obtain ⟨_, _, rfl⟩ := hx; cases h
        cases q with
        | none => simp only [VR] at hy; obtain ⟨_, _, rfl⟩ := hy; simp [Op.equalIn, run_under hdd]
        | some q => simp only [VR, SR] at hy; obtain ⟨_, _, _, _, rfl, _⟩ := hy; simp [Op.equalIn, run_under hdd]
      · simp only [VR, SR] at hx hy; obtain ⟨_, _, rfl⟩ := hy; cases h
        obtain ⟨_, _, _, _, rfl, _⟩ := hx; simp [Op.equalIn, run_under hdd]
      · simp at h
    | map k e =>
      simp only [eqMap] at h
      split at h
      · simp only [VR] at hx; subst hx; cases h
        rename_i q
        cases q with
        | none => simp only [VR] at hy; subst hy; simp [Op.equalIn, run_under hdd]
        | some q => simp only [VR] at hy; obtain ⟨ci, _, rfl⟩ := hy; simp [Op.equalIn, run_under hdd]
      · simp only [VR] at hx hy; subst hy; cases h
        obtain ⟨ci, _, rfl⟩ := hx; simp [Op.equalIn, run_under hdd]
      · simp at h
    | func a b c =>
      simp only [eqFn] at h
      split at h
      · simp only [VR] at hx hy; subst hx hy; cases h; simp [Op.equalIn, run_under hdd]
      · simp only [VR] at hx hy; subst hx; obtain ⟨_, _, rfl, _⟩ := hy; cases h; simp [Op.equalIn, run_under hdd]
      · simp only [VR] at hx hy; subst hy; obtain ⟨_, _, rfl, _⟩ := hx; cases h; simp [Op.equalIn, run_under hdd]
      · simp at h
    | interface ms =>
      simp only [eqIface] at h
      split at h
      · simp only [VR] at hx hy; subst hx; obtain ⟨_, rfl, _⟩ := hy; cases h; simp [Op.equalIn, run_under hdd]
      · simp only [VR] at hx hy; subst hy; obtain ⟨_, rfl, _⟩ := hx; cases h; simp [Op.equalIn, run_under hdd]
      · simp at h
    | _ => simp at h
end
end Go.Abs
