/- A region that draws its order: what the run in the text's order was, step by step; what an operation looks at. -/
import Derived.Test.YtpoafkipnjfioaaGreatAbs11
namespace Go.Abs
open Go

section
variable {P : Program}

/-! What an operation looks at. -/
def Agree (op : Op) (t t' : List AV) : Prop := ∀ x, .tmp x ∈ op.operands → t.getD x .undef = t'.getD x .undef

theorem ev_agree {t t' : List AV} {x : Operand} (h : ∀ i, x = .tmp i → t.getD i .undef = t'.getD i .undef) : ev P t x = ev P t' x := by
  cases x with
  | tmp i => simp only [ev, nth_eq]; rw [h i rfl]
  | _ => rfl
theorem evs_agree {t t' : List AV} : ∀ {xs : List Operand}, (∀ i, .tmp i ∈ xs → t.getD i .undef = t'.getD i .undef) → evs P t xs = evs P t' xs
  | [], _ => rfl
  | x :: xs, h => by
    simp only [evs]
    rw [ev_agree (x := x) (fun i e => h i (by rw [← e]; simp)), evs_agree (xs := xs) (fun i e => h i (by simp [e]))]
theorem evParts_agree {t t' : List AV} : ∀ {xs : List (Nat × Operand)}, (∀ i, .tmp i ∈ xs.map (·.2) → t.getD i .undef = t'.getD i .undef) → evParts P t xs = evParts P t' xs
  | [], _ => rfl
  | (k, x) :: xs, h => by
    simp only [evParts]
    rw [ev_agree (x := x) (fun i e => h i (by rw [← e]; simp)), evParts_agree (xs := xs) (fun i e => h i (by simp only [List.map_cons, List.mem_cons]; exact .inr e))]

theorem pureOp_agree {op : Op} {t t' : List AV} (h : Agree op t t') : pureOp P op t = pureOp P op t' := by
  have E : ∀ x, x ∈ op.operands → ev P t x = ev P t' x := fun x hx => ev_agree fun i e => h i (e ▸ hx)
  unfold Agree at h
  unfold pureOp
  split <;> simp only [Op.operands] at E h
  case h_15 => rw [E _ (by simp)]
  all_goals first
    | (rw [E _ (by simp)]; done)
    | (rw [E _ (by simp), E _ (by simp)]; done)
    | skip
  case h_3 c a b => rw [E c (by simp), E a (by simp), E b (by simp)]
  case h_12 s x lo hi =>
    rw [E x (by simp)]
    cases lo with
    | none => cases hi with
      | none => rfl
      | some b => simp only []; rw [E b (by simp)]
    | some a => cases hi with
      | none => simp only []; rw [E a (by simp)]
      | some b => simp only []; rw [E a (by simp), E b (by simp)]
  case h_13 s x lo hi mx =>
    rw [E x (by simp), E hi (by simp), E mx (by simp)]
    cases lo with
    | none => rfl
    | some a => simp only []; rw [E a (by simp)]
  case h_16 f first cap =>
    rw [evs_agree (xs := first.toList) (fun i e => h i (by simp; left; simpa using e)), evs_agree (xs := cap.toList) (fun i e => h i (by simp; right; simpa using e))]
  case h_17 s parts => rw [evParts_agree (xs := parts.toList) (fun i e => h i (by simpa using e))]
  case h_18 x s => rw [E x (by simp [Call.operands])]
  case h_19 x s => rw [E x (by simp [Call.operands])]
  case h_20 x y s => rw [E x (by simp [Call.operands]), E y (by simp [Call.operands])]
  case h_21 x y s => rw [E x (by simp [Call.operands]), E y (by simp [Call.operands])]
  case h_22 => rfl

theorem readOp_agree {op : Op} {t t' : List AV} (h : Agree op t t') (m : Mem) : readOp P op t m = readOp P op t' m := by
  have E : ∀ x, x ∈ op.operands → ev P t x = ev P t' x := fun x hx => ev_agree fun i e => h i (e ▸ hx)
  unfold readOp
  split <;> simp only [Op.operands] at E
  · rw [E _ (by simp)]
  · rw [E _ (by simp)]
  · rename_i s x k ok; rw [E x (by simp), E k (by simp)]
  · rename_i x s; rw [E x (by simp [Call.operands])]
  · rfl

theorem allocOp_agree {op : Op} {t t' : List AV} (h : Agree op t t') : allocOp P op t = allocOp P op t' := by
  have E : ∀ x, x ∈ op.operands → ev P t x = ev P t' x := fun x hx => ev_agree fun i e => h i (e ▸ hx)
  unfold Agree at h
  unfold allocOp
  cases op <;> simp only [Op.operands] at E h
  case box e x => simp only []; rw [E x (by simp)]
  case buildSlice s len parts =>
    simp only []
    rw [evParts_agree (xs := parts.toList) (fun i e => h i (by simpa using e))]
  case makeSlice s l c => simp only []; rw [E l (by simp), E c (by simp)]
  case convert a b x => simp only []; rw [E x (by simp)]
  case makeMap s r => cases r <;> rfl
  all_goals rfl

/-- The result of an operation that changes memory. -/
noncomputable def effR (call : CallF) (P : Program) (op : Op) (t : List AV) (m : Mem) : R := effK call P op t m fun v m' => some (v, m')

theorem effK_bind (call : CallF) (op : Op) (t : List AV) (m : Mem) (K : AV → Mem → R) : effK call P op t m K = (effR call P op t m).bind fun r => K r.1 r.2 := by
  unfold effR effK
  split
  all_goals simp only [Option.bind_assoc, Option.bind_some, Option.bind_none]

theorem effR_agree {op : Op} {t t' : List AV} (h : Agree op t t') (call : CallF) (m : Mem) : effR call P op t m = effR call P op t' m := by
  have E : ∀ x, x ∈ op.operands → ev P t x = ev P t' x := fun x hx => ev_agree fun i e => h i (e ▸ hx)
  unfold Agree at h
  unfold effR effK
  split <;> simp only [Op.operands] at E h
  · rename_i a b c; rw [E b (by simp), E c (by simp)]
  · rename_i a b c d; rw [E a (by simp [Call.operands]), E b (by simp [Call.operands])]
  · rename_i a b c d; rw [E a (by simp [Call.operands]), E b (by simp [Call.operands])]
  · rename_i s x k v; rw [E x (by simp), E k (by simp), E v (by simp)]
  · rename_i s x k v; rw [E x (by simp), E k (by simp), E v (by simp)]
  · rename_i x k s ts; rw [E x (by simp [Call.operands]), E k (by simp [Call.operands])]
  · rename_i x s ts; rw [E x (by simp [Call.operands])]
  · rename_i f xs ts
    rw [E f (by simp [Call.operands]), evs_agree (xs := xs) (fun i e => h i (by simp [Call.operands, e]))]
  · rfl

theorem effR_sound {call : CallF} (hcall : CallOk P call) {o : Oper} {t : List AV} {m : Mem} {v : AV} {m' : Mem} (h : effR call P o.op t m = some (v, m')) : OpOk P o t m v m' := by
  obtain ⟨v', m1, h1, h2⟩ := effK_sound hcall (o := o) (K := fun v m' => some (v, m')) h
  cases h1
  exact h2

/-- Is it wanted? -/
noncomputable def wantedA (ops : List Oper) (o : Oper) (t : List AV) : Option Bool :=
  match o.guard with
  | none => some true
  | some (j, want) => match (ops[j]?).bind (·.dst) with
    | some d => match t.getD d .undef with
      | .bool b => some (b == want)
      | .tup [] => some false
      | _ => none
    | none => none

theorem guardA_wanted {all : List Oper} {o : Oper} {t : List AV} {sk : List Tmp} {y n : List AV → R} {r : AV × Mem} (h : guardA sk all o t y n = some r) : (wantedA all o t = some true ∧ y t = some r) ∨ (wantedA all o t = some false ∧ n t = some r) := by
  replace h := guardA_same h
  unfold guardA0 at h
  unfold wantedA
  split at h
  · rename_i hg; left; refine ⟨?_, h⟩; simp only [hg]
  · rename_i j want hg
    split at h
    · rename_i d hd
      split at h
      · rename_i b hb
        split at h
        · rename_i hbw; left; refine ⟨?_, h⟩; simp only [hg, hd, hb, hbw, beq_self_eq_true]
        · rename_i hbw; right; refine ⟨?_, h⟩; simp only [hg, hd, hb]; simpa using hbw
      · rename_i hb; right; refine ⟨?_, h⟩; simp only [hg, hd, hb]
      · simp at h
    · simp at h

theorem wantedA_true {all : List Oper} {o : Oper} {t : List AV} {b : Bool} (h : wantedA all o t = some b) (p : Phi) (tmps : Array Value) (ht : ∀ d, (match o.guard with | some (j, _) => (all[j]?).bind (·.dst) | none => none) = some d → VR p (t.getD d .undef) (tmps.getD d undef) ∧ d < tmps.size) :
    Region.wanted o (yielded ⟨all⟩ tmps) = b := by
  unfold wantedA at h
  split at h
  · rename_i hg; cases h; simp [Region.wanted, hg]
  · rename_i j want hg
    split at h
    · rename_i d hd
      split at h
      · rename_i c hb
        cases h
        obtain ⟨h1, h2⟩ := ht d (by simp only [hg]; exact hd)
        rw [hb] at h1
        simp only [VR] at h1
        have h3 : tmps[d]? = some (.bool c) := by
          rw [Array.getElem?_eq_getElem h2]
          rw [Array.getD_eq_getD_getElem?, Array.getElem?_eq_getElem h2] at h1
          simpa using h1
        have hd' : ((⟨all⟩ : Array Oper)[j]?).bind (·.dst) = some d := by simpa using hd
        simp only [Region.wanted, hg, yielded, hd', Option.bind_some, h3]
        cases c <;> cases want <;> rfl
      · rename_i hb
        cases h
        obtain ⟨h1, h2⟩ := ht d (by simp only [hg]; exact hd)
        rw [hb] at h1
        simp only [VR] at h1
        obtain ⟨vs, h1, _⟩ := h1
        have h3 : tmps[d]? = some (.tuple ⟨vs⟩) := by
          rw [Array.getElem?_eq_getElem h2]
          rw [Array.getD_eq_getD_getElem?, Array.getElem?_eq_getElem h2] at h1
          simpa using h1
        have hd' : ((⟨all⟩ : Array Oper)[j]?).bind (·.dst) = some d := by simpa using hd
        simp only [Region.wanted, hg, yielded, hd', Option.bind_some, h3]
        cases want <;> rfl
      · simp at h
    · simp at h

theorem chkE_spec {m : Mem} {c : List Nat} {K : R} {r : AV × Mem} : ∀ {rs : List (Nat × (Mem → Option AV) × AV)}, chkE m c rs K = some r → K = some r ∧ ∀ j f v, (j, f, v) ∈ rs → j ∈ c → f m = some v
  | [], h => ⟨h, by simp⟩
  | (j, f, v) :: rs, h => by
    simp only [chkE] at h
    split at h
    · rename_i hj
      split at h
      · rename_i hf
        obtain ⟨h1, h2⟩ := chkE_spec h
        refine ⟨h1, fun j' f' v' hm hc => ?_⟩
        rcases List.mem_cons.1 hm with e | e
        · cases e; exact hf
        · exact h2 _ _ _ e hc
      · simp at h
    · rename_i hj
      obtain ⟨h1, h2⟩ := chkE_spec h
      refine ⟨h1, fun j' f' v' hm hc => ?_⟩
      rcases List.mem_cons.1 hm with e | e
      · cases e; exact absurd hc hj
      · exact h2 _ _ _ e hc
theorem chkR_spec {f : Mem → Option AV} {v : AV} {c : List Nat} {K : R} {r : AV × Mem} : ∀ {es : List (Nat × Mem)}, chkR f v c es K = some r → K = some r ∧ ∀ j m, (j, m) ∈ es → j ∈ c → f m = some v
  | [], h => ⟨h, by simp⟩
  | (j, m) :: es, h => by
    simp only [chkR] at h
    split at h
    · rename_i hj
      split at h
      · rename_i hf
        obtain ⟨h1, h2⟩ := chkR_spec h
        refine ⟨h1, fun j' m' hm hc => ?_⟩
        rcases List.mem_cons.1 hm with e | e
        · cases e; exact hf
        · exact h2 _ _ e hc
      · simp at h
    · rename_i hj
      obtain ⟨h1, h2⟩ := chkR_spec h
      refine ⟨h1, fun j' m' hm hc => ?_⟩
      rcases List.mem_cons.1 hm with e | e
      · cases e; exact absurd hc hj
      · exact h2 _ _ e hc

/-- The run in the text's order. -/
structure Trace where
  T : Nat → List AV
  M : Nat → Mem
  W : Nat → Bool
  V : Nat → AV

/-- One step of it. -/
structure StepOk (P : Program) (call : CallF) (all : List Oper) (chk : List (List Nat)) (τ : Trace) (j : Nat) (o : Oper) : Prop where
  wanted : wantedA all o (τ.T j) = some (τ.W j)
  tmps : τ.T (j + 1) = aput (τ.T j) o.dst (τ.V j)
  off : τ.W j = false → τ.V j = .tup [] ∧ τ.M (j + 1) = τ.M j
  pure : τ.W j = true → cls P o.op = .p → pureOp P o.op (τ.T j) = some (τ.V j) ∧ τ.M (j + 1) = τ.M j
  read : τ.W j = true → cls P o.op = .r → readOp P o.op (τ.T j) (τ.M j) = some (τ.V j) ∧ τ.M (j + 1) = τ.M j
  readC : τ.W j = true → cls P o.op = .r → ∀ k ok, k < j → all[k]? = some ok → τ.W k = true → cls P ok.op = .e → k ∈ chk.getD j [] → readOp P o.op (τ.T j) (τ.M k) = some (τ.V j)
  alloc : τ.W j = true → cls P o.op = .a → ∃ cs mk, allocOp P o.op (τ.T j) = some (cs, mk) ∧ τ.V j = mk (τ.M j).next ∧ τ.M (j + 1) = (τ.M j).lay cs
  eff : τ.W j = true → cls P o.op = .e → effR call P o.op (τ.T j) (τ.M j) = some (τ.V j, τ.M (j + 1))
  effC : τ.W j = true → cls P o.op = .e → ∀ k ok, k < j → all[k]? = some ok → τ.W k = true → cls P ok.op = .r → k ∈ chk.getD j [] → readOp P ok.op (τ.T k) (τ.M (j + 1)) = some (τ.V k)

/-- A trace with its beginning kept, and a place set. -/
noncomputable def Trace.upd (τ : Trace) (i : Nat) (t : List AV) (m : Mem) (w : Bool) (v : AV) : Trace where
  T := fun j => if j = i then t else τ.T j
  M := fun j => if j = i then m else τ.M j
  W := fun j => if j = i then w else τ.W j
  V := fun j => if j = i then v else τ.V j

theorem dopsK_trace {call : CallF} {all : List Oper} {chk : List (List Nat)} : ∀ (os : List Oper) (cs : List (List Nat)) (sk : List Tmp) (i : Nat) (h : Seen) (t : List AV) (m : Mem) (τ : Trace) {K : List AV → Mem → R} {r : AV × Mem},
    (∀ j, os[j]? = all[i + j]?) → (∀ j, cs[j]? = chk[i + j]?) →
    (∀ k ok, k < i → all[k]? = some ok → τ.W k = true → cls P ok.op = .r → (k, readOp P ok.op (τ.T k), τ.V k) ∈ h.rs) →
    (∀ k ok, k < i → all[k]? = some ok → τ.W k = true → cls P ok.op = .e → (k, τ.M k) ∈ h.es) →
    dopsK call P all cs os sk i h t m K = some r →
    ∃ σ : Trace, (∀ j, j < i → σ.T j = τ.T j ∧ σ.M j = τ.M j ∧ σ.W j = τ.W j ∧ σ.V j = τ.V j) ∧ σ.T i = t ∧ σ.M i = m ∧ K (σ.T (i + os.length)) (σ.M (i + os.length)) = some r ∧
      ∀ j o, i ≤ j → j < i + os.length → all[j]? = some o → StepOk P call all chk σ j o
  | [], cs, _, i, h, t, m, τ, K, r, _, _, _, _, hr => by
    have hr' : K t m = some r := by cases cs <;> simpa [dopsK] using hr
    refine ⟨τ.upd i t m false .undef, fun j hj => ?_, by simp [Trace.upd], by simp [Trace.upd], by simpa [Trace.upd] using hr', fun j o h1 h2 => by simp at h2; omega⟩
    simp [Trace.upd, show j ≠ i by omega]
  | o :: os, [], _, i, h, t, m, τ, K, r, _, _, _, _, hr => by simp [dopsK] at hr
  | o :: os, c :: cs, sk, i, h, t, m, τ, K, r, hall, hchk, hrs, hes, hr => by
    have hi : all[i]? = some o := by have := hall 0; simpa using this.symm
    have hci : chk.getD i [] = c := by have := hchk 0; rw [List.getD_eq_getElem?_getD]; simp at this; simp [← this]
    have hall' : ∀ j, os[j]? = all[i + 1 + j]? := fun j => by
      have := hall (j + 1)
      rw [List.getElem?_cons_succ] at this
      rw [this]; congr 1; omega
    have hchk' : ∀ j, cs[j]? = chk[i + 1 + j]? := fun j => by
      have := hchk (j + 1)
      rw [List.getElem?_cons_succ] at this
      rw [this]; congr 1; omega
    -- what is known of the rest gives the whole
    have glue : ∀ {sk' : List Tmp} (b : Bool) (v : AV) (m' : Mem) (h' : Seen) , wantedA all o t = some b →
        dopsK call P all cs os sk' (i + 1) h' (aput t o.dst v) m' K = some r →
        (∀ x, x ∈ h.rs → x ∈ h'.rs) → (∀ x, x ∈ h.es → x ∈ h'.es) →
        (b = true → cls P o.op = .r → (i, readOp P o.op t, v) ∈ h'.rs) → (b = true → cls P o.op = .e → (i, m) ∈ h'.es) →
        (∀ σ : Trace, (∀ j, j < i → σ.T j = τ.T j ∧ σ.M j = τ.M j ∧ σ.W j = τ.W j ∧ σ.V j = τ.V j) → σ.T i = t → σ.M i = m → σ.W i = b → σ.V i = v → σ.T (i + 1) = aput t o.dst v → σ.M (i + 1) = m' → StepOk P call all chk σ i o) →
        ∃ σ : Trace, (∀ j, j < i → σ.T j = τ.T j ∧ σ.M j = τ.M j ∧ σ.W j = τ.W j ∧ σ.V j = τ.V j) ∧ σ.T i = t ∧ σ.M i = m ∧ K (σ.T (i + (o :: os).length)) (σ.M (i + (o :: os).length)) = some r ∧
          ∀ j o', i ≤ j → j < i + (o :: os).length → all[j]? = some o' → StepOk P call all chk σ j o' := by
      intro sk' b v m' h' hw hd hrs' hes' hri hei hstep
      obtain ⟨σ, s1, s2, s3, s4, s5⟩ := dopsK_trace os cs sk' (i + 1) h' (aput t o.dst v) m' (τ.upd i t m b v) hall' hchk'
        (fun k ok hk hok hwk hc => by
          by_cases e : k = i
          · subst e; rw [hi] at hok; cases hok
            simp only [Trace.upd, if_true] at hwk ⊢
            exact hri hwk hc
          · simp only [Trace.upd, if_neg e] at hwk ⊢
            exact hrs' _ (hrs k ok (by omega) hok hwk hc))
        (fun k ok hk hok hwk hc => by
          by_cases e : k = i
          · subst e; rw [hi] at hok; cases hok
            simp only [Trace.upd, if_true] at hwk ⊢
            exact hei hwk hc
          · simp only [Trace.upd, if_neg e] at hwk ⊢
            exact hes' _ (hes k ok (by omega) hok hwk hc)) hd
      have hlow : ∀ j, j < i → σ.T j = τ.T j ∧ σ.M j = τ.M j ∧ σ.W j = τ.W j ∧ σ.V j = τ.V j := fun j hj => by
        have := s1 j (by omega)
        simpa [Trace.upd, show j ≠ i by omega] using this
      have hhere : σ.T i = t ∧ σ.M i = m ∧ σ.W i = b ∧ σ.V i = v := by
        have := s1 i (by omega)
        simpa [Trace.upd] using this
      refine ⟨σ, hlow, hhere.1, hhere.2.1, ?_, fun j o' h1 h2 h3 => ?_⟩
      · rw [show i + (o :: os).length = i + 1 + os.length by simp; omega]; exact s4
      · by_cases e : j = i
        · subst e; rw [hi] at h3; cases h3
          exact hstep σ hlow hhere.1 hhere.2.1 hhere.2.2.1 hhere.2.2.2 s2 s3
        · exact s5 j o' (by omega) (by simp at h2; omega) h3
    simp only [dopsK] at hr
    rcases guardA_wanted hr with ⟨hw, hr⟩ | ⟨hw, hr⟩
    · split at hr
      · rename_i hc
        obtain ⟨v, hv, hr⟩ := Option.bind_eq_some_iff.1 hr
        refine glue true v m h hw hr (fun _ h => h) (fun _ h => h) (fun _ e => absurd (hc.symm.trans e) (by decide)) (fun _ e => absurd (hc.symm.trans e) (by decide)) fun σ _ a1 a2 a3 a4 a5 a6 => ?_
        exact ⟨by rw [a1, a3]; exact hw, by rw [a5, a1, a4], by simp [a3], fun _ _ => by rw [a1, a4, a6, a2]; exact ⟨hv, rfl⟩, fun _ e => absurd (hc.symm.trans e) (by decide), fun _ e => absurd (hc.symm.trans e) (by decide),
          fun _ e => absurd (hc.symm.trans e) (by decide), fun _ e => absurd (hc.symm.trans e) (by decide), fun _ e => absurd (hc.symm.trans e) (by decide)⟩
      · rename_i hc
        obtain ⟨v, hv, hr⟩ := Option.bind_eq_some_iff.1 hr
        obtain ⟨hr, hck⟩ := chkR_spec hr
        refine glue true v m _ hw hr (fun _ h => by simp [h]) (fun _ h => h) (fun _ _ => by simp) (fun _ e => absurd (hc.symm.trans e) (by decide)) fun σ a0 a1 a2 a3 a4 a5 a6 => ?_
        refine ⟨by rw [a1, a3]; exact hw, by rw [a5, a1, a4], by simp [a3], fun _ e => absurd (hc.symm.trans e) (by decide), fun _ _ => by rw [a1, a4, a6, a2]; exact ⟨hv, rfl⟩, fun _ _ k ok hk hok hwk hck' hmem => ?_,
          fun _ e => absurd (hc.symm.trans e) (by decide), fun _ e => absurd (hc.symm.trans e) (by decide), fun _ e => absurd (hc.symm.trans e) (by decide)⟩
        obtain ⟨b1, b2, b3, b4⟩ := a0 k hk
        rw [a1, a4, b2]
        exact hck k _ (hes k ok hk hok (by rw [← b3]; exact hwk) hck') (by rw [hci] at hmem; exact hmem)
      · rename_i hc
        obtain ⟨⟨cs', mk⟩, hv, hr⟩ := Option.bind_eq_some_iff.1 hr
        refine glue true _ _ h hw hr (fun _ h => h) (fun _ h => h) (fun _ e => absurd (hc.symm.trans e) (by decide)) (fun _ e => absurd (hc.symm.trans e) (by decide)) fun σ _ a1 a2 a3 a4 a5 a6 => ?_
        exact ⟨by rw [a1, a3]; exact hw, by rw [a5, a1, a4], by simp [a3], fun _ e => absurd (hc.symm.trans e) (by decide), fun _ e => absurd (hc.symm.trans e) (by decide), fun _ e => absurd (hc.symm.trans e) (by decide),
          fun _ _ => ⟨cs', mk, by rw [a1]; exact hv, by rw [a4, a2], by rw [a6, a2]⟩, fun _ e => absurd (hc.symm.trans e) (by decide), fun _ e => absurd (hc.symm.trans e) (by decide)⟩
      · rename_i hc
        rw [effK_bind] at hr
        obtain ⟨⟨v, m'⟩, hv, hr⟩ := Option.bind_eq_some_iff.1 hr
        obtain ⟨hr, hck⟩ := chkE_spec hr
        refine glue true v m' _ hw hr (fun _ h => h) (fun _ h => by simp [h]) (fun _ e => absurd (hc.symm.trans e) (by decide)) (fun _ _ => by simp) fun σ a0 a1 a2 a3 a4 a5 a6 => ?_
        refine ⟨by rw [a1, a3]; exact hw, by rw [a5, a1, a4], by simp [a3], fun _ e => absurd (hc.symm.trans e) (by decide), fun _ e => absurd (hc.symm.trans e) (by decide), fun _ e => absurd (hc.symm.trans e) (by decide),
          fun _ e => absurd (hc.symm.trans e) (by decide), fun _ _ => by rw [a1, a2, a4, a6]; exact hv, fun _ _ k ok hk hok hwk hck' hmem => ?_⟩
        obtain ⟨b1, b2, b3, b4⟩ := a0 k hk
        rw [a6, b1, b4]
        exact hck k _ _ (hrs k ok hk hok (by rw [← b3]; exact hwk) hck') (by rw [hci] at hmem; exact hmem)
    · refine glue false (.tup []) m h hw hr (fun _ h => h) (fun _ h => h) (fun e => absurd e (by decide)) (fun e => absurd e (by decide)) fun σ _ a1 a2 a3 a4 a5 a6 => ?_
      exact ⟨by rw [a1, a3]; exact hw, by rw [a5, a1, a4], fun _ => by rw [a4, a6, a2]; exact ⟨rfl, rfl⟩, fun e => absurd (a3.symm.trans e) (by decide), fun e => absurd (a3.symm.trans e) (by decide), fun e => absurd (a3.symm.trans e) (by decide),
        fun e => absurd (a3.symm.trans e) (by decide), fun e => absurd (a3.symm.trans e) (by decide), fun e => absurd (a3.symm.trans e) (by decide)⟩
end
end Go.Abs
