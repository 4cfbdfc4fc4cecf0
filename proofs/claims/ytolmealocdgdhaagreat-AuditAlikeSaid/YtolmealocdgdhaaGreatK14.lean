/- Texts of one claim, put together. -/
import Derived.Test.YtolmealocdgdhaaGreatK13
section
namespace Go.Abs
open Go

def closedH (v : AV) (args : List AV) (m : Mem) : R :=
  match args with
  | [] => some (v, m)
  | _ :: _ => none

theorem closed_ok {E : Env} (hE : EnvOk E) {f : FuncId} {fn : Func} (hfn : E.P.funcs[f]? = some fn) (hb : fn.body.isSome = true) (hn : fn.name ≠ "runtime.NumGoroutine") {b : Bool} {m1 : Mem}
    (h : run E (.fn f) [] (noM (GP E.P)) = some (.bool b, m1)) : ∀ args m r m', closedH (.bool b) args m = some (r, m') → FnOk E.P (.fn f) args m r m' := by
  intro args m r m' e
  cases args with
  | cons _ _ => cases e
  | nil =>
    simp only [closedH, Option.some.injEq, Prod.mk.injEq] at e
    obtain ⟨rfl, rfl⟩ := e
    refine ⟨Nat.le_refl _, fun p w cargs hm _ _ hv => .inl ⟨fn, hfn, hb, hn, ?_⟩⟩
    have hc : cargs = [] := by cases cargs with | nil => rfl | cons _ _ => simp [VRs] at hv
    subst hc
    have hG : GP E.P ≤ w.heap.size := by
      cases hz : GP E.P with
      | zero => exact Nat.zero_le _
      | succ n =>
        obtain ⟨k, hk⟩ := hm.glob n (by show n < GP E.P; omega)
        exact hm.bnd n _ hk
    have hfree : Free (noPhi (GP E.P)) (noM (GP E.P)).next m1.next := by
      intro x h1 h2
      simp only [noM] at h1
      simp only [noPhi]; rw [if_neg (by omega)]
    refine (fnOk_calls (run_sound hE (.fn f) _ _ _ _ h) hfn hb hn (noM_MR hG) (by simp [noM]) hfree (cargs := []) (by simp [VRs])).mono ?_
    rintro e w' ⟨cv, p', rfl, h1, h2⟩
    have keep : ∀ k, k < w.heap.size → w'.heap[k]? = w.heap[k]? := fun k hk => h2.keepC k hk fun b ci h3 => by rw [noM_get] at h3; cases h3
    simp only [VR] at h1
    refine ⟨cv, p, rfl, by simp only [VR]; exact h1, ?_⟩
    exact {
      le := fun _ _ h => h
      out := fun _ _ => rfl
      next := Nat.le_refl _
      rel := {
        has := fun b v ci h3 h4 => by rw [keep _ (hm.bnd b ci h4)]; exact hm.has b v ci h3 h4
        inj := hm.inj
        bnd := fun b ci h4 => Nat.lt_of_lt_of_le (hm.bnd b ci h4) h2.size
        glob := hm.glob }
      keepA := fun _ _ _ => rfl
      dead := fun _ _ h => h
      keepC := fun c hc _ => keep c hc
      fresh := fun b ci h3 h4 => absurd h4 (by omega)
      ro := fun b cs ci h3 h4 => ⟨h3, keep _ (hm.bnd b ci h4)⟩
      size := h2.size
      os := h2.os
      output := h2.output
      tape := h2.tape }
end Go.Abs
end
section
namespace Go.Abs
open Go

def optLt (N : Nat) : Option Nat → Prop
  | none => True
  | some b => b < N
mutual
def AV.lt (N : Nat) : AV → Prop
  | .ptr (some a) => a.b < N
  | .sl (some a) .. => a.b < N
  | .map (some r) => r < N
  | .fn _ x y => AV.lts N x ∧ AV.lts N y
  | .yld b => b < N
  | .iface _ u => AV.lt N u
  | .agg cs => AV.lts N cs
  | .tup vs => AV.lts N vs
  | _ => True
def AV.lts (N : Nat) : List AV → Prop
  | [] => True
  | a :: az => AV.lt N a ∧ AV.lts N az
end
mutual
theorem AV.lt_mono {N M : Nat} (h : N ≤ M) : ∀ {a : AV}, AV.lt N a → AV.lt M a
  | .undef, _ | .bool _, _ | .int .., _ | .str _, _ | .ptr none, _ | .sl none .., _ | .map none, _ | .nilFn, _ | .nilIface, _ => by simp [AV.lt]
  | .ptr (some a), r => by simp only [AV.lt] at r ⊢; omega
  | .sl (some a) .., r => by simp only [AV.lt] at r ⊢; omega
  | .map (some a), r => by simp only [AV.lt] at r ⊢; omega
  | .yld b, r => by simp only [AV.lt] at r ⊢; omega
  | .fn f x y, r => by simp only [AV.lt] at r ⊢; exact ⟨AV.lts_mono h r.1, AV.lts_mono h r.2⟩
  | .iface t u, r => by simp only [AV.lt] at r ⊢; exact AV.lt_mono h r
  | .agg cs, r => by simp only [AV.lt] at r ⊢; exact AV.lts_mono h r
  | .tup cs, r => by simp only [AV.lt] at r ⊢; exact AV.lts_mono h r
theorem AV.lts_mono {N M : Nat} (h : N ≤ M) : ∀ {a : List AV}, AV.lts N a → AV.lts M a
  | [], _ => by simp [AV.lts]
  | a :: az, r => by simp only [AV.lts] at r ⊢; exact ⟨AV.lt_mono h r.1, AV.lts_mono h r.2⟩
end
mutual
theorem AV.lt_ex : ∀ a : AV, ∃ N, AV.lt N a
  | .undef | .bool _ | .int .. | .str _ | .ptr none | .sl none .. | .map none | .nilFn | .nilIface => ⟨0, by simp [AV.lt]⟩
  | .ptr (some a) => ⟨a.b + 1, by simp [AV.lt]⟩
  | .sl (some a) .. => ⟨a.b + 1, by simp [AV.lt]⟩
  | .map (some r) => ⟨r + 1, by simp [AV.lt]⟩
  | .yld b => ⟨b + 1, by simp [AV.lt]⟩
  | .fn f x y => by
    obtain ⟨N, h⟩ := AV.lts_ex x
    obtain ⟨M, h'⟩ := AV.lts_ex y
    exact ⟨max N M, by simp only [AV.lt]; exact ⟨AV.lts_mono (Nat.le_max_left _ _) h, AV.lts_mono (Nat.le_max_right _ _) h'⟩⟩
  | .iface t u => by obtain ⟨N, h⟩ := AV.lt_ex u; exact ⟨N, by simpa only [AV.lt] using h⟩
  | .agg cs => by obtain ⟨N, h⟩ := AV.lts_ex cs; exact ⟨N, by simpa only [AV.lt] using h⟩
  | .tup cs => by obtain ⟨N, h⟩ := AV.lts_ex cs; exact ⟨N, by simpa only [AV.lt] using h⟩
theorem AV.lts_ex : ∀ a : List AV, ∃ N, AV.lts N a
  | [] => ⟨0, by simp [AV.lts]⟩
  | a :: az => by
    obtain ⟨N, h⟩ := AV.lt_ex a
    obtain ⟨M, h'⟩ := AV.lts_ex az
    exact ⟨max N M, by simp only [AV.lts]; exact ⟨AV.lt_mono (Nat.le_max_left _ _) h, AV.lts_mono (Nat.le_max_right _ _) h'⟩⟩
end

mutual
theorem VR.cut {N : Nat} {p q : Phi} (h : ∀ b, b < N → p b = q b) : ∀ {a : AV} {v : Value}, AV.lt N a → VR p a v → VR q a v
  | .undef, _, _, _ => by simp [VR]
  | .bool _, _, _, r => by simpa [VR] using r
  | .int .., _, _, r => by simpa [VR] using r
  | .str _, _, _, r => by simpa [VR] using r
  | .ptr none, _, _, r => by simpa [VR] using r
  | .ptr (some a), _, l, r => by
    simp only [AV.lt] at l
    simp only [VR] at r ⊢
    obtain ⟨ci, h1, h2⟩ := r
    exact ⟨ci, (h _ l) ▸ h1, h2⟩
  | .sl none .., _, _, r => by simpa [VR] using r
  | .sl (some a) .., _, l, r => by
    simp only [AV.lt] at l
    simp only [VR, SR] at r ⊢
    obtain ⟨ci, off, cap', h1, h2⟩ := r
    exact ⟨ci, off, cap', (h _ l) ▸ h1, h2⟩
  | .map none, _, _, r => by simpa [VR] using r
  | .map (some a), _, l, r => by
    simp only [AV.lt] at l
    simp only [VR] at r ⊢
    obtain ⟨ci, h1, h2⟩ := r
    exact ⟨ci, (h _ l) ▸ h1, h2⟩
  | .fn f x y, _, l, r => by
    simp only [AV.lt] at l
    simp only [VR] at r ⊢
    obtain ⟨x', y', h1, h2, h3⟩ := r
    exact ⟨x', y', h1, VRs.cut h l.1 h2, VRs.cut h l.2 h3⟩
  | .yld b, _, l, r => by
    simp only [AV.lt] at l
    simp only [VR] at r ⊢
    obtain ⟨ci, h1, h2⟩ := r
    exact ⟨ci, (h _ l) ▸ h1, h2⟩
  | .nilFn, _, _, r => by simpa [VR] using r
  | .iface t u, _, l, r => by
    simp only [AV.lt] at l
    simp only [VR] at r ⊢
    obtain ⟨u', h1, h2⟩ := r
    exact ⟨u', h1, VR.cut h l h2⟩
  | .nilIface, _, _, r => by simpa [VR] using r
  | .agg cs, _, l, r => by
    simp only [AV.lt] at l
    simp only [VR] at r ⊢
    obtain ⟨u', h1, h2⟩ := r
    exact ⟨u', h1, VRs.cut h l h2⟩
  | .tup cs, _, l, r => by
    simp only [AV.lt] at l
    simp only [VR] at r ⊢
    obtain ⟨u', h1, h2⟩ := r
    exact ⟨u', h1, VRs.cut h l h2⟩
theorem VRs.cut {N : Nat} {p q : Phi} (h : ∀ b, b < N → p b = q b) : ∀ {a : List AV} {v : List Value}, AV.lts N a → VRs p a v → VRs q a v
  | [], _, _, r => by simpa [VRs] using r
  | a :: az, _, l, r => by
    simp only [AV.lts] at l
    simp only [VRs] at r ⊢
    obtain ⟨v, vs, h1, h2, h3⟩ := r
    exact ⟨v, vs, h1, VR.cut h l.1 h2, VRs.cut h l.2 h3⟩
end
mutual
theorem VR.back {p q : Phi} (h : p.le q) : ∀ {a : AV} {v v' : Value}, VR p a v → VR q a v' → VR p a v'
  | .undef, _, _, _, _ => by simp [VR]
  | .bool _, _, _, _, r => by simpa [VR] using r
  | .int .., _, _, _, r => by simpa [VR] using r
  | .str _, _, _, _, r => by simpa [VR] using r
  | .ptr none, _, _, _, r => by simpa [VR] using r
  | .ptr (some a), _, _, l, r => by
    simp only [VR] at l r ⊢
    obtain ⟨ci, h1, h2⟩ := l
    obtain ⟨ci', h3, h4⟩ := r
    rw [h _ _ h1] at h3; cases h3
    exact ⟨ci, h1, h4⟩
  | .sl none .., _, _, _, r => by simpa [VR] using r
  | .sl (some a) .., _, _, l, r => by
    simp only [VR, SR] at l r ⊢
    obtain ⟨ci, _, _, h1, _⟩ := l
    obtain ⟨ci', off, cap', h3, h4⟩ := r
    rw [h _ _ h1] at h3; cases h3
    exact ⟨ci, off, cap', h1, h4⟩
  | .map none, _, _, _, r => by simpa [VR] using r
  | .map (some a), _, _, l, r => by
    simp only [VR] at l r ⊢
    obtain ⟨ci, h1, h2⟩ := l
    obtain ⟨ci', h3, h4⟩ := r
    rw [h _ _ h1] at h3; cases h3
    exact ⟨ci, h1, h4⟩
  | .fn f x y, _, _, l, r => by
    simp only [VR] at l r ⊢
    obtain ⟨x0, y0, _, g2, g3⟩ := l
    obtain ⟨x', y', h1, h2, h3⟩ := r
    exact ⟨x', y', h1, VRs.back h g2 h2, VRs.back h g3 h3⟩
  | .yld b, _, _, l, r => by
    simp only [VR] at l r ⊢
    obtain ⟨ci, h1, h2⟩ := l
    obtain ⟨ci', h3, h4⟩ := r
    rw [h _ _ h1] at h3; cases h3
    exact ⟨ci, h1, h4⟩
  | .nilFn, _, _, _, r => by simpa [VR] using r
  | .iface t u, _, _, l, r => by
    simp only [VR] at l r ⊢
    obtain ⟨u0, _, g2⟩ := l
    obtain ⟨u', h1, h2⟩ := r
    exact ⟨u', h1, VR.back h g2 h2⟩
  | .nilIface, _, _, _, r => by simpa [VR] using r
  | .agg cs, _, _, l, r => by
    simp only [VR] at l r ⊢
    obtain ⟨u0, _, g2⟩ := l
    obtain ⟨u', h1, h2⟩ := r
    exact ⟨u', h1, VRs.back h g2 h2⟩
  | .tup cs, _, _, l, r => by
    simp only [VR] at l r ⊢
    obtain ⟨u0, _, g2⟩ := l
    obtain ⟨u', h1, h2⟩ := r
    exact ⟨u', h1, VRs.back h g2 h2⟩
theorem VRs.back {p q : Phi} (h : p.le q) : ∀ {a : List AV} {v v' : List Value}, VRs p a v → VRs q a v' → VRs p a v'
  | [], _, _, _, r => by simpa [VRs] using r
  | a :: az, _, _, l, r => by
    simp only [VRs] at l r ⊢
    obtain ⟨v0, vs0, _, g2, g3⟩ := l
    obtain ⟨v, vs, h1, h2, h3⟩ := r
    exact ⟨v, vs, h1, VR.back h g2 h2, VRs.back h g3 h3⟩
end

def Blk.lt (N : Nat) : Blk → Prop
  | .cells cs _ => AV.lts N cs
  | .loop l => AV.lts N l.tmps
  | .map es => ∀ e ∈ es, AV.lt N e.1 ∧ AV.lt N e.2
  | .rmap es c => c < N ∧ ∀ e ∈ es, AV.lt N e.1 ∧ AV.lt N e.2
  | .iter b left cur => b < N ∧ (∀ e ∈ left, AV.lt N e.1 ∧ AV.lt N e.2) ∧ ∀ e, cur = some e → AV.lt N e.1 ∧ AV.lt N e.2
theorem Blk.lt_mono {N M : Nat} (h : N ≤ M) {b : Blk} (r : b.lt N) : b.lt M := by
  cases b with
  | cells cs ro => exact AV.lts_mono h r
  | loop l => exact AV.lts_mono (a := l.tmps) h r
  | map es => exact fun e he => ⟨AV.lt_mono h (r e he).1, AV.lt_mono h (r e he).2⟩
  | rmap es c => exact ⟨Nat.lt_of_lt_of_le r.1 h, fun e he => ⟨AV.lt_mono h (r.2 e he).1, AV.lt_mono h (r.2 e he).2⟩⟩
  | iter b left cur => exact ⟨Nat.lt_of_lt_of_le r.1 h, fun e he => ⟨AV.lt_mono h (r.2.1 e he).1, AV.lt_mono h (r.2.1 e he).2⟩, fun e he => ⟨AV.lt_mono h (r.2.2 e he).1, AV.lt_mono h (r.2.2 e he).2⟩⟩
theorem pairs_lt (es : List (AV × AV)) : ∃ N, ∀ e ∈ es, AV.lt N e.1 ∧ AV.lt N e.2 := by
  induction es with
  | nil => exact ⟨0, fun e h => by cases h⟩
  | cons e es ih =>
    obtain ⟨N, h⟩ := ih
    obtain ⟨A, ha⟩ := AV.lt_ex e.1
    obtain ⟨B, hb⟩ := AV.lt_ex e.2
    refine ⟨max N (max A B), fun x hx => ?_⟩
    cases hx with
    | head => exact ⟨AV.lt_mono (by omega) ha, AV.lt_mono (by omega) hb⟩
    | tail _ hx => exact ⟨AV.lt_mono (by omega) (h x hx).1, AV.lt_mono (by omega) (h x hx).2⟩
theorem Blk.lt_ex (b : Blk) : ∃ N, b.lt N := by
  cases b with
  | cells cs ro => exact AV.lts_ex cs
  | loop l => exact AV.lts_ex l.tmps
  | map es => exact pairs_lt es
  | rmap es c =>
    obtain ⟨N, h⟩ := pairs_lt es
    exact ⟨max N (c + 1), by omega, fun e he => ⟨AV.lt_mono (by omega) (h e he).1, AV.lt_mono (by omega) (h e he).2⟩⟩
  | iter b left cur =>
    obtain ⟨N, h⟩ := pairs_lt (left ++ cur.toList)
    exact ⟨max N (b + 1), by omega, fun e he => ⟨AV.lt_mono (by omega) (h e (List.mem_append_left _ he)).1, AV.lt_mono (by omega) (h e (List.mem_append_left _ he)).2⟩,
      fun e he => by subst he; exact ⟨AV.lt_mono (by omega) (h e (by simp)).1, AV.lt_mono (by omega) (h e (by simp)).2⟩⟩
theorem Mem.lt_ex (m : Mem) : ∃ N, m.next ≤ N ∧ ∀ b v, m.get b = some v → v.lt N := by
  have : ∀ n, ∃ N, ∀ b v, b < n → m.get b = some v → v.lt N := by
    intro n
    induction n with
    | zero => exact ⟨0, fun b v h => by omega⟩
    | succ n ih =>
      obtain ⟨N, h⟩ := ih
      cases e : m.get n with
      | none => exact ⟨N, fun b v hb hv => by
          by_cases hn : b = n
          · subst hn; rw [e] at hv; cases hv
          · exact h b v (by omega) hv⟩
      | some x =>
        obtain ⟨M, hM⟩ := x.lt_ex
        refine ⟨max N M, fun b v hb hv => ?_⟩
        by_cases hn : b = n
        · subst hn; rw [e] at hv; cases hv; exact Blk.lt_mono (by omega) hM
        · exact Blk.lt_mono (by omega) (h b v (by omega) hv)
  obtain ⟨N, h⟩ := this m.next
  exact ⟨max N m.next, by omega, fun b v hv => Blk.lt_mono (by omega) (h b v (Mem.get_lt hv) hv)⟩

theorem AV.lts_mem {N : Nat} {a : AV} : ∀ {l : List AV}, AV.lts N l → a ∈ l → AV.lt N a
  | x :: l, h, ha => by
    simp only [AV.lts] at h
    cases ha with
    | head => exact h.1
    | tail _ ha => exact AV.lts_mem h.2 ha
theorem ER.cut {N : Nat} {p q : Phi} (h : ∀ b, b < N → p b = q b) : ∀ {l : List (AV × AV)} {es : List MapEntry}, (∀ e ∈ l, AV.lt N e.1 ∧ AV.lt N e.2) → ER p l es → ER q l es
  | [], _, _, r => by simpa [ER] using r
  | (k, v) :: l, _, hl, r => by
    simp only [ER] at r ⊢
    obtain ⟨e, es, h1, h2, h3, h4⟩ := r
    exact ⟨e, es, h1, VR.cut h (hl _ List.mem_cons_self).1 h2, VR.cut h (hl _ List.mem_cons_self).2 h3, ER.cut h (fun e he => hl e (List.mem_cons_of_mem _ he)) h4⟩
theorem BR.cut {P : Program} {N : Nat} {p q : Phi} (h : ∀ b, b < N → p b = q b) {ci : CI} : ∀ {b : Blk} {o : Obj}, b.lt N → BR P p ci b o → BR P q ci b o
  | .cells _cs _ro, _o, l, ⟨arr, el, fr, h1, h2, h3, h4⟩ => ⟨arr, el, fr, h1, h2, h3, fun i a hi => let ⟨v, x, y⟩ := h4 i a hi; ⟨v, x, VR.cut h (AV.lts_mem l (List.mem_of_getElem? hi)) y⟩⟩
  | .loop _l, _o, l, ⟨fn, vs, d, h1, h2, h3⟩ => ⟨fn, vs, d, h1, VRs.cut h l h2, h3⟩
  | .map _es, _o, l, ⟨ces, clock, h1, ⟨x, h2, h3⟩, h4⟩ => ⟨ces, clock, h1, ⟨x, h2, ER.cut h (fun e he => l e (h2.mem_iff.1 he)) h3⟩, h4⟩
  | .rmap _es _c, _o, l, ⟨ces, clock, h1, ⟨x, h2, h3⟩, h4, cc, h5, h6⟩ => ⟨ces, clock, h1, ⟨x, h2, ER.cut h (fun e he => l.2 e (h2.mem_iff.1 he)) h3⟩, h4, cc, by rw [← h _ l.1]; exact h5, h6⟩
  | .iter _b _l _c, _o, l, ⟨bi, ces, clock, seen, last, h1, h2, h3, h4, h5, ⟨x, h6, h7⟩, h8⟩ => ⟨bi, ces, clock, seen, last, h1, by rw [← h _ l.1]; exact h2, h3, h4, h5, ⟨x, h6, ER.cut h (fun e he => l.2.1 e (h6.mem_iff.1 he)) h7⟩,
      fun e he => let ⟨a, ce, b1, b2, b3, b4⟩ := h8 e he; ⟨a, ce, b1, b2, VR.cut h (l.2.2 e he).1 b3, VR.cut h (l.2.2 e he).2 b4⟩⟩

def AV.flat (a : AV) : Prop := AV.lt 0 a
theorem VR.flat {p q : Phi} {a : AV} {v : Value} (h : a.flat) (r : VR p a v) : VR q a v := VR.cut (N := 0) (fun b hb => by omega) h r

noncomputable def Mem.upT (m : Mem) : Nat → PT
  | 0 => .leaf
  | n + 1 => (upT m n).set n (m.get n)
noncomputable def Mem.up (m : Mem) (N : Nat) : Mem := ⟨N, m.upT N⟩
theorem Mem.upT_get (m : Mem) : ∀ n b, (m.upT n).get b = if b < n then m.get b else none
  | 0, b => by simp [Mem.upT, PT.get_leaf]
  | n + 1, b => by
    simp only [Mem.upT, PT.get_set, Mem.upT_get m n b]
    by_cases h : b = n
    · subst h; simp
    · rw [if_neg h]
      by_cases h2 : b < n
      · rw [if_pos h2, if_pos (by omega)]
      · rw [if_neg h2, if_neg (by omega)]
theorem Mem.up_get (m : Mem) {N : Nat} (hN : m.next ≤ N) (b : Nat) : (m.up N).get b = m.get b := by
  rw [Mem.get_def]
  show (if b < N then (m.upT N).get b else none) = m.get b
  rw [Mem.upT_get]
  by_cases h : b < N
  · simp [h]
  · rw [if_neg h, Mem.get_ge (by omega)]

open Classical in
noncomputable def cleanH (E : Env) (f : FuncId) (args : List AV) (m : Mem) : R :=
  if h : ∃ v : AV, v.flat ∧ ∀ m2 : Mem, m.next ≤ m2.next → (∀ b, m2.get b = m.get b) → ∃ m', run E (.fn f) args m2 = some (v, m') ∧ Fr m2 m' [] then some (h.choose, m) else none

theorem cleanH_eq {E : Env} {f : FuncId} {args : List AV} {m : Mem} {v : AV} (hv : v.flat) (h : ∀ m2 : Mem, m.next ≤ m2.next → (∀ b, m2.get b = m.get b) → Res m2 (run E (.fn f) args m2) v) : cleanH E f args m = some (v, m) := by
  have hex : ∃ v : AV, v.flat ∧ ∀ m2 : Mem, m.next ≤ m2.next → (∀ b, m2.get b = m.get b) → ∃ m', run E (.fn f) args m2 = some (v, m') ∧ Fr m2 m' [] := ⟨v, hv, h⟩
  unfold cleanH
  rw [dif_pos hex]
  obtain ⟨_, h2⟩ := hex.choose_spec
  obtain ⟨m1, e1, _⟩ := h2 m (Nat.le_refl _) (fun _ => rfl)
  obtain ⟨m2, e2, _⟩ := h m (Nat.le_refl _) (fun _ => rfl)
  rw [e1] at e2
  cases e2
  rfl

theorem ER.back {pn p q : Phi} (le : pn.le q) (lp : pn.le p) {es l l0 : List (AV × AV)} {c0 c1 : List MapEntry} (k2 : l0.Perm es) (k3 : ER pn l0 c0) (g2 : l.Perm es) (g3 : ER q l c1) : ER p l c1 := by
  have known : ∀ e ∈ l, ∃ x y, VR pn e.1 x ∧ VR pn e.2 y := by
    have : ∀ {l0 : List (AV × AV)} {c0 : List MapEntry}, ER pn l0 c0 → ∀ e ∈ l0, ∃ x y, VR pn e.1 x ∧ VR pn e.2 y := by
      intro l0
      induction l0 with
      | nil => intro c0 _ e he; cases he
      | cons a l0 ih =>
        intro c0 hr e he
        obtain ⟨ka, va⟩ := a
        simp only [ER] at hr
        obtain ⟨e1, es1, _, r2, r3, r4⟩ := hr
        cases he with
        | head => exact ⟨_, _, r2, r3⟩
        | tail _ he => exact ih r4 e he
    intro e he
    exact this k3 e (k2.mem_iff.2 (g2.mem_iff.1 he))
  have step : ∀ {l0 : List (AV × AV)} {c0 : List MapEntry}, (∀ e ∈ l0, ∃ x y, VR pn e.1 x ∧ VR pn e.2 y) → ER q l0 c0 → ER p l0 c0 := by
    intro l0
    induction l0 with
    | nil => intro c0 _ hr; simpa [ER] using hr
    | cons a l0 ih =>
      intro c0 hk hr
      obtain ⟨ka, va⟩ := a
      simp only [ER] at hr ⊢
      obtain ⟨e1, es1, r1, r2, r3, r4⟩ := hr
      obtain ⟨x, y, z1, z2⟩ := hk _ List.mem_cons_self
      exact ⟨e1, es1, r1, (VR.back le z1 r2).mono lp, (VR.back le z2 r3).mono lp, ih (fun e he => hk e (List.mem_cons_of_mem _ he)) r4⟩
  exact step known g3
theorem clean_ok {E : Env} (hE : EnvOk E) {f : FuncId} (args : List AV) (m : Mem) (r : AV) (m' : Mem) (h : cleanH E f args m = some (r, m')) : FnOk E.P (.fn f) args m r m' := by
  unfold cleanH at h
  split at h
  · rename_i hex
    obtain ⟨v, hv0⟩ : ∃ v, v = hex.choose := ⟨_, rfl⟩
    have hspec := hex.choose_spec
    rw [← hv0] at hspec h
    obtain ⟨hflat, hrun⟩ := hspec
    cases h
    clear hv0
    refine ⟨Nat.le_refl _, fun p w cargs hm hG _ hv => ?_⟩
    obtain ⟨N0, hN0, hlt⟩ := m.lt_ex
    obtain ⟨NA, hNA⟩ := AV.lts_ex args
    obtain ⟨N, hN⟩ : ∃ N, N = max N0 NA := ⟨_, rfl⟩
    have hgN : ∀ b, (m.up N).get b = m.get b := fun b => m.up_get (by omega) b
    obtain ⟨m1, e1, hfr⟩ := hrun (m.up N) (by show m.next ≤ N; omega) hgN
    have hp : ∀ b, b < N → p b = (fun b => if b < N then p b else none) b := fun b hb => by simp [hb]
    have hp0le : Phi.le (fun b => if b < N then p b else none) p := fun b ci hb => by
      by_cases h : b < N
      · simpa [h] using hb
      · simp [h] at hb
    have hm2 : MR E.P (fun b => if b < N then p b else none) (m.up N) w := by
      refine ⟨fun b blk ci h1 h2 => ?_, fun b ci b2 ci2 h1 h2 h3 h4 => ?_, fun b ci h1 => hm.bnd b ci (hp0le _ _ h1), fun g hg => ?_⟩
      · rw [hgN] at h1
        obtain ⟨o, h3, h4⟩ := hm.has b blk ci h1 (hp0le _ _ h2)
        exact ⟨o, h3, BR.cut hp (Blk.lt_mono (by omega) (hlt b blk h1)) h4⟩
      · rw [hgN] at h1 ⊢
        rcases hm.inj b ci b2 ci2 h1 (hp0le _ _ h2) (hp0le _ _ h3) h4 with h5 | ⟨h5, h6⟩
        · exact .inl h5
        · exact .inr ⟨by show b2 < N; omega, h6⟩
      · obtain ⟨n, hn⟩ := hm.glob g hg
        have : g < GP E.P := hg
        exact ⟨n, by show (if g < N then p g else none) = _; rw [if_pos (by omega)]; exact hn⟩
    have hfree : Free (fun b => if b < N then p b else none) (m.up N).next m1.next := fun b h1 h2 => by
      have : N ≤ b := h1
      show (if b < N then p b else none) = none; rw [if_neg (by omega)]
    have hF := run_sound hE (.fn f) _ _ _ _ e1
    have back : ∀ {q : Phi} {w' : World} {cv : Value}, VR q r cv → Sim E.P (fun b => if b < N then p b else none) (m.up N) w q m1 w' → VR p r cv ∧ Sim E.P p m w p m w' := by
      intro q w' cv h1 s
      refine ⟨VR.flat hflat h1, ?_⟩
      have hq : ∀ b ci, b < m.next → p b = some ci → q b = some ci := fun b ci hb hc => s.le b ci (by show (if b < N then p b else none) = _; rw [if_pos (by omega)]; exact hc)
      exact {
        le := fun _ _ h => h
        out := fun _ _ => rfl
        next := Nat.le_refl _
        rel := {
          has := fun b blk ci h3 h4 => by
            have hb := Mem.get_lt h3
            have hg1 : m1.get b = some blk := hfr.get (by rw [hgN]; exact h3) (by simp)
            obtain ⟨o, h5, h6⟩ := s.rel.has b blk ci hg1 (hq b ci hb h4)
            obtain ⟨o0, h7, h8⟩ := hm.has b blk ci h3 h4
            refine ⟨o, h5, ?_⟩
            have h8' := BR.cut hp (Blk.lt_mono (by omega) (hlt b blk h3)) h8
            cases blk with
            | cells cs ro =>
              obtain ⟨arr, el, fr, g1, g2, g3, g4⟩ := h6
              obtain ⟨arr0, el0, fr0, k1, k2, k3, k4⟩ := h8'
              refine ⟨arr, el, fr, g1, g2, g3, fun i a hi => ?_⟩
              obtain ⟨v1, x1, y1⟩ := g4 i a hi
              obtain ⟨v0, x0, y0⟩ := k4 i a hi
              exact ⟨v1, x1, (VR.back s.le y0 y1).mono hp0le⟩
            | loop l =>
              obtain ⟨fn, vs, d, g1, g2, g3⟩ := h6
              obtain ⟨fn0, vs0, d0, k1, k2, k3⟩ := h8'
              exact ⟨fn, vs, d, g1, (VRs.back s.le k2 g2).mono hp0le, g3⟩
            | map es =>
              obtain ⟨ces, clock, g1, ⟨l, g2, g3⟩, g4⟩ := h6
              obtain ⟨ces0, clock0, k1, ⟨l0, k2, k3⟩, k4⟩ := h8'
              refine ⟨ces, clock, g1, ⟨l, g2, ?_⟩, g4⟩
              exact ER.back s.le hp0le k2 k3 g2 g3
            | rmap es c =>
              obtain ⟨ces, clock, g1, ⟨l, g2, g3⟩, g4, cc, g5, g6⟩ := h6
              obtain ⟨ces0, clock0, k1, ⟨l0, k2, k3⟩, k4, cc0, k5, k6⟩ := h8'
              have e := s.le _ _ k5
              rw [g5] at e
              cases e
              exact ⟨ces, clock, g1, ⟨l, g2, ER.back s.le hp0le k2 k3 g2 g3⟩, g4, cc, hp0le _ _ k5, g6⟩
            | iter d left cur =>
              obtain ⟨bi, ces, clock, seen, last, g1, g2, g3, g4, g5, ⟨l, g6, g7⟩, g8⟩ := h6
              obtain ⟨bi0, ces0, clock0, seen0, last0, k1, k2, k3, k4, k5, ⟨l0, k6, k7⟩, k8⟩ := h8'
              have e := s.le _ _ k2
              rw [g2] at e
              cases e
              refine ⟨bi, ces, clock, seen, last, g1, hp0le _ _ k2, g3, g4, g5, ⟨l, g6, ER.back s.le hp0le k6 k7 g6 g7⟩, fun e he => ?_⟩
              obtain ⟨a1, ce, a2, a3, a4, a5⟩ := g8 e he
              obtain ⟨_, _, _, _, b4, b5⟩ := k8 e he
              exact ⟨a1, ce, a2, a3, (VR.back s.le b4 a4).mono hp0le, (VR.back s.le b5 a5).mono hp0le⟩
          inj := hm.inj
          bnd := fun b ci h4 => Nat.lt_of_lt_of_le (hm.bnd b ci h4) s.size
          glob := hm.glob }
        keepA := fun _ _ _ => rfl
        dead := fun _ _ h => h
        keepC := fun c hc hn => s.keepC c hc fun b ci h3 h4 => hn b ci (by rw [hgN] at h3; exact h3) (hp0le _ _ h4)
        fresh := fun b ci h3 h4 => absurd h4 (by omega)
        ro := fun b cs ci h3 h4 => by
          have hb := Mem.get_lt h3
          exact ⟨h3, (s.ro b cs ci (by rw [hgN]; exact h3) (by show (if b < N then p b else none) = _; rw [if_pos (by omega)]; exact h4)).2⟩
        size := s.size
        os := s.os
        output := s.output
        tape := s.tape }
    rcases hF.2 _ w cargs hm2 (by show GP E.P ≤ N; omega) hfree (VRs.cut hp (AV.lts_mono (by omega) hNA) hv) with ⟨fn, h1, h2, h3, h4⟩ | ⟨cv, w', q, h1, h2, h3⟩
    · refine .inl ⟨fn, h1, h2, h3, h4.mono ?_⟩
      rintro e w' ⟨cv, q, rfl, h5, h6⟩
      obtain ⟨h7, h8⟩ := back h5 h6
      exact ⟨cv, p, rfl, h7, h8⟩
    · obtain ⟨h7, h8⟩ := back h2 h3
      exact .inr ⟨cv, w', p, h1, h7, h8⟩
  · cases h

noncomputable def hooksC (E : Env) (S : List FuncId) : FuncId → Option (List AV → Mem → R) := fun f => if f ∈ S then some (cleanH E f) else E.H f
theorem hooksC_ok {E : Env} (hE : EnvOk E) (S : List FuncId) : EnvOk { E with H := hooksC E S } where
  mixed := hE.mixed
  body := fun f hf => hE.body f (by
    have h1 : (if f ∈ S then some (cleanH E f) else E.H f) = none := hf
    split at h1
    · cases h1
    · exact h1)
  hook := fun f h e args m r m' hr => by
    simp only [hooksC] at e
    split at e
    · cases e; exact clean_ok hE args m r m' hr
    · exact hE.hook f h e args m r m' hr
end Go.Abs
end
section
namespace Go.Abs
open Go
theorem ips {d : Do} {m : Mem} : (∀ v, interp d (.ret v) m = some (v, m)) ∧ (∀ (P : Program) (rs : List ResultVar) (vs : List AV), interp d (.resC P rs vs) m = (resA P rs vs m).bind fun vs => some (tupA vs, m)) ∧
    (∀ (e : Option AV) (K : AV → CM), interp d (.pu e K) m = e.bind fun v => interp d (K v) m) ∧ (∀ (e : Mem → Option AV) (K : AV → CM), interp d (.rm e K) m = (e m).bind fun v => interp d (K v) m) ∧
    (∀ (e : Option (Blk × (Nat → AV))) (K : AV → CM), interp d (.al e K) m = e.bind fun c => interp d (K (c.2 m.next)) (m.lay c.1)) ∧ (∀ (e : Mem → R) (K : AV → CM), interp d (.ef e K) m = (e m).bind fun r => interp d (K r.1) r.2) ∧
    (∀ (e : Mem → Option Mem) (K : CM), interp d (.st e K) m = (e m).bind fun m => interp d K m) ∧ (∀ (f : Nat) (as2 : List AV) (K : AV → CM), interp d (.call f as2 K) m = (d.call (.fn f) as2 m).bind fun r => interp d (K r.1) r.2) ∧
    (∀ (fv : AV) (as2 : List AV) (K : AV → CM), interp d (.callv fv as2 K) m = (callA d.call fv as2 m).bind fun r => interp d (K r.1) r.2) ∧ (∀ (v : AV) (x y : CM), interp d (.ifv v x y) m = ifV v (interp d x m) (interp d y m)) ∧
    (∀ (v : AV) (x y : CM), interp d (.cond v x y) m = condA v (interp d x m) (interp d y m)) ∧ (∀ (K : Mem → CM), interp d (.memo K) m = interp d (K m) m) ∧ (∀ (e : Option AV) (v : AV) (K : CM), interp d (.chk e v K) m = if e = some v then interp d K m else none) ∧
    (∀ (k : Nat) (ts : List AV), interp d (.go k ts) m = d.gor k ts m) :=
  ⟨interp_ret, interp_resC, interp_pu, interp_rm, interp_al, interp_ef, interp_st, interp_call, interp_callv, interp_ifv, interp_cond, interp_memo, interp_chk, interp_go⟩
theorem aps : (∀ (F : AV → List AV → CM) (a : AV) (l : List AV), apS F (a :: l) = F a l) ∧ (∀ (c : CM), ap0 c [] = c) := ⟨apS_cons, ap0_nil⟩
theorem ge : (∀ (α : Type) (a : α) (l : List α), (a :: l)[0]? = some a) ∧ (∀ (α : Type) (a : α) (l : List α) (i : Nat), (a :: l)[i + 1]? = l[i]?) := ⟨fun _ _ _ => List.getElem?_cons_zero, fun _ _ _ _ => List.getElem?_cons_succ⟩
theorem lcs : (∀ (p : AV → Bool) (a : AV) (l : List AV), (a :: l).all p = (p a && l.all p)) ∧ (∀ (p : AV → Bool), ([] : List AV).all p = true) ∧ (∀ (a : AV) (l : List AV), (a :: l).length = l.length + 1) ∧ (([] : List AV).length = 0) ∧
    (∀ (a : AV) (l : List AV) (i : Nat), (a :: l).take (i + 1) = a :: l.take i) ∧ (∀ l : List AV, l.take 0 = []) ∧ (∀ (a : AV) (l : List AV) (i : Nat), (a :: l).drop (i + 1) = l.drop i) ∧ (∀ l : List AV, l.drop 0 = l) ∧
    (∀ (a : AV) (l k : List AV), a :: l ++ k = a :: (l ++ k)) ∧ (∀ l : List AV, [] ++ l = l) ∧ (∀ l : List AV, l ++ [] = l) ∧
    (∀ b : Bool, (b && b) = b) ∧ (∀ b : Bool, (b && true) = b) ∧ (∀ n : Nat, 0 + n = n) ∧ (∀ n : Nat, n + 0 = n) :=
  ⟨fun _ _ _ => List.all_cons, fun _ => List.all_nil, fun _ _ => List.length_cons, List.length_nil, fun _ _ _ => List.take_succ_cons, fun _ => List.take_zero, fun _ _ _ => List.drop_succ_cons, fun _ => List.drop_zero, fun _ _ _ => List.cons_append, List.nil_append, List.append_nil, Bool.and_self, Bool.and_true, Nat.zero_add, Nat.add_zero⟩
theorem lms : (∀ (m : Mem) (cs : List AV) (ro : Bool) (b o : Nat), ld1 (m.lay (.cells cs ro)) (.ptr (some ⟨b, o⟩)) = if b = m.next then cs[o]? else ld1 m (.ptr (some ⟨b, o⟩))) ∧
    (∀ (m : Mem) (cs : List AV) (ro : Bool) (b o n : Nat), ldN (m.lay (.cells cs ro)) (.ptr (some ⟨b, o⟩)) n = if b = m.next then (if o + n ≤ cs.length then some (.agg ((cs.drop o).take n)) else none) else ldN m (.ptr (some ⟨b, o⟩)) n) ∧
    (∀ (m : Mem) (cs : List AV) (b o : Nat) (v : AV) (n : Nat), stV (m.lay (.cells cs false)) (.ptr (some ⟨b, o⟩)) v n = if b = m.next then (over cs o v n).map (fun c => m.lay (.cells c false)) else (stV m (.ptr (some ⟨b, o⟩)) v n).map (fun m' => m'.lay (.cells cs false))) ∧
    (∀ (m : Mem) (v : Blk), (m.lay v).next = m.next + 1) ∧ (∀ n : Nat, (n = n + 1) = False) ∧ (∀ n : Nat, (n = n + 1 + 1) = False) ∧ (∀ n : Nat, (n = n + 1 + 1 + 1) = False) ∧ (∀ n : Nat, (n = n + 1 + 1 + 1 + 1) = False) ∧ (∀ n : Nat, (n = n + 1 + 1 + 1 + 1 + 1) = False) ∧
    (∀ n : Nat, (n = n + 1 + 1 + 1 + 1 + 1 + 1) = False) ∧ (∀ n : Nat, (n = n + 1 + 1 + 1 + 1 + 1 + 1 + 1) = False) ∧ (∀ n : Nat, (n = n + 1 + 1 + 1 + 1 + 1 + 1 + 1 + 1) = False) :=
  ⟨ld1_lay, ldN_lay, stV_lay, Mem.next_lay, nn1, nn2, nn3, nn4, nn5, nn6, nn7, nn8⟩
theorem obs : ∀ {α β : Type} (a : α) (f : α → Option β), (some a).bind f = f a := fun _ _ => rfl
theorem oms : ∀ {α β : Type} (a : α) (f : α → β), (some a).map f = some (f a) := fun _ _ => rfl
theorem ift : ∀ {α : Type} {x : Decidable True} (t e : α), (if True then t else e) = t := fun _ _ => if_pos trivial
theorem iff' : ∀ {α : Type} {x : Decidable False} (t e : α), (if False then t else e) = e := fun _ _ => if_neg id
abbrev lcl := And.intro @lcs <| And.intro @lms <| And.intro @ge <| And.intro @ift <| And.intro @iff' @oms
end Go.Abs
end
section
namespace Go.Abs
open Go

def nilP : PurseV := ⟨[], 0, ⟨0, 0⟩⟩
def nilA : AccV := ⟨0, [], ⟨0, 0⟩⟩
def nilQ : PairV := ⟨[], [], ⟨0, 0⟩, 0, ⟨0, 0⟩, ⟨0, 0⟩⟩
def LSt.getP (st : LSt) (k : List UInt8) : Option PurseV := if hasK strLess k (st.purses.map (·.name)) = true then st.purses[lb strLess k (st.purses.map (·.name))]? else none
def LSt.getQ (st : LSt) (k : List UInt8) : Option PairV := if hasK strLess k (st.pairs.map (·.key)) = true then st.pairs[lb strLess k (st.pairs.map (·.key))]? else none
def LSt.getA (st : LSt) (k : Int) : Option AccV := if hasK intLess k (st.accs.map (·.id)) = true then st.accs[lb intLess k (st.accs.map (·.id))]? else none

theorem has_lt {κ : Type} [DecidableEq κ] {lt : κ → κ → Bool} {k : κ} {ks : List κ} (h : hasK lt k ks = true) : lb lt k ks < ks.length := by
  have : ks[lb lt k ks]? = some k := by simpa [hasK] using h
  exact (List.getElem?_eq_some_iff.1 this).1
theorem has_at {κ : Type} [DecidableEq κ] {lt : κ → κ → Bool} {k : κ} {ks : List κ} (h : hasK lt k ks = true) : ks[lb lt k ks]? = some k := by simpa [hasK] using h
theorem LSt.getP_some {st : LSt} {k : List UInt8} (h : hasK strLess k (st.purses.map (·.name)) = true) : ∃ p, st.getP k = some p ∧ p.name = k ∧ st.purses[lb strLess k (st.purses.map (·.name))]? = some p ∧ p ∈ st.purses := by
  have hl := has_lt h
  rw [List.length_map] at hl
  have ha := has_at h
  rw [List.getElem?_map, List.getElem?_eq_getElem hl] at ha
  exact ⟨_, by unfold LSt.getP; rw [if_pos h, List.getElem?_eq_getElem hl], by simpa using ha, List.getElem?_eq_getElem hl, List.getElem_mem hl⟩
theorem LSt.getP_none {st : LSt} {k : List UInt8} (h : hasK strLess k (st.purses.map (·.name)) = false) : st.getP k = none := by unfold LSt.getP; rw [if_neg (by rw [h]; decide)]
theorem LSt.getQ_some {st : LSt} {k : List UInt8} (h : hasK strLess k (st.pairs.map (·.key)) = true) : ∃ p, st.getQ k = some p ∧ p.key = k ∧ st.pairs[lb strLess k (st.pairs.map (·.key))]? = some p ∧ p ∈ st.pairs := by
  have hl := has_lt h
  rw [List.length_map] at hl
  have ha := has_at h
  rw [List.getElem?_map, List.getElem?_eq_getElem hl] at ha
  exact ⟨_, by unfold LSt.getQ; rw [if_pos h, List.getElem?_eq_getElem hl], by simpa using ha, List.getElem?_eq_getElem hl, List.getElem_mem hl⟩
theorem LSt.getQ_none {st : LSt} {k : List UInt8} (h : hasK strLess k (st.pairs.map (·.key)) = false) : st.getQ k = none := by unfold LSt.getQ; rw [if_neg (by rw [h]; decide)]
theorem LSt.getA_some {st : LSt} {k : Int} (h : hasK intLess k (st.accs.map (·.id)) = true) : ∃ p, st.getA k = some p ∧ p.id = k ∧ st.accs[lb intLess k (st.accs.map (·.id))]? = some p ∧ p ∈ st.accs := by
  have hl := has_lt h
  rw [List.length_map] at hl
  have ha := has_at h
  rw [List.getElem?_map, List.getElem?_eq_getElem hl] at ha
  exact ⟨_, by unfold LSt.getA; rw [if_pos h, List.getElem?_eq_getElem hl], by simpa using ha, List.getElem?_eq_getElem hl, List.getElem_mem hl⟩
theorem LSt.getA_none {st : LSt} {k : Int} (h : hasK intLess k (st.accs.map (·.id)) = false) : st.getA k = none := by unfold LSt.getA; rw [if_neg (by rw [h]; decide)]

theorem PurseV.flat (p : PurseV) : AV.lts 0 p.cells := by simp [PurseV.cells, AV.lts, AV.lt]
theorem PairV.flat (p : PairV) : AV.lts 0 p.cells := by simp [PairV.cells, AV.lts, AV.lt]
theorem AccV.flat (p : AccV) : AV.lts 0 p.cells := by simp [AccV.cells, AV.lts, AV.lt]
theorem Fr.same {m m2 : Mem} (h : m.next ≤ m2.next) (h' : ∀ b, m2.get b = m.get b) : Fr m m2 [] := ⟨h, fun c _ _ => h' c⟩

def rightR (w : Wd) (s : Int) : Bool := decide ((0 ≤ s ∧ s ≤ 18) ∧ 0 < w.val)
def LSt.of (st : LSt) (id : Int) : AccV × PurseV × Int :=
  match st.getA id with
  | none => (nilA, nilP, 40)
  | some a => (a, (st.getP a.coin).getD nilP, 0)
def fitsE (p : PurseV) (w : Wd) (s : Int) : Int := if s ≠ p.scale then 21 else if w.val ≤ 0 then 43 else 0

section
variable {b n : Nat}
theorem bnx0 (h : b < n) : (b = n) = False := by simp; omega
theorem bnx1 (h : b < n) : (b = n + 1) = False := by simp; omega
theorem bnx2 (h : b < n) : (b = n + 1 + 1) = False := by simp; omega
theorem bnx3 (h : b < n) : (b = n + 1 + 1 + 1) = False := by simp; omega
theorem bnx4 (h : b < n) : (b = n + 1 + 1 + 1 + 1) = False := by simp; omega
theorem bnx5 (h : b < n) : (b = n + 1 + 1 + 1 + 1 + 1) = False := by simp; omega
theorem bnx6 (h : b < n) : (b = n + 1 + 1 + 1 + 1 + 1 + 1) = False := by simp; omega
theorem bnx7 (h : b < n) : (b = n + 1 + 1 + 1 + 1 + 1 + 1 + 1) = False := by simp; omega
theorem bnx8 (h : b < n) : (b = n + 1 + 1 + 1 + 1 + 1 + 1 + 1 + 1) = False := by simp; omega
theorem bnx9 (h : b < n) : (b = n + 1 + 1 + 1 + 1 + 1 + 1 + 1 + 1 + 1) = False := by simp; omega
theorem bnx10 (h : b < n) : (b = n + 1 + 1 + 1 + 1 + 1 + 1 + 1 + 1 + 1 + 1) = False := by simp; omega
theorem bnx11 (h : b < n) : (b = n + 1 + 1 + 1 + 1 + 1 + 1 + 1 + 1 + 1 + 1 + 1) = False := by simp; omega
theorem bnx12 (h : b < n) : (b = n + 1 + 1 + 1 + 1 + 1 + 1 + 1 + 1 + 1 + 1 + 1 + 1) = False := by simp; omega
theorem bnx13 (h : b < n) : (b = n + 1 + 1 + 1 + 1 + 1 + 1 + 1 + 1 + 1 + 1 + 1 + 1 + 1) = False := by simp; omega
theorem bnx14 (h : b < n) : (b = n + 1 + 1 + 1 + 1 + 1 + 1 + 1 + 1 + 1 + 1 + 1 + 1 + 1 + 1) = False := by simp; omega
end
theorem nn9 (n : Nat) : (n = n + 1 + 1 + 1 + 1 + 1 + 1 + 1 + 1 + 1) = False := by simp; omega
theorem nn10 (n : Nat) : (n = n + 1 + 1 + 1 + 1 + 1 + 1 + 1 + 1 + 1 + 1) = False := by simp; omega
theorem nn11 (n : Nat) : (n = n + 1 + 1 + 1 + 1 + 1 + 1 + 1 + 1 + 1 + 1 + 1) = False := by simp; omega
theorem nn12 (n : Nat) : (n = n + 1 + 1 + 1 + 1 + 1 + 1 + 1 + 1 + 1 + 1 + 1 + 1) = False := by simp; omega
theorem nn13 (n : Nat) : (n = n + 1 + 1 + 1 + 1 + 1 + 1 + 1 + 1 + 1 + 1 + 1 + 1 + 1) = False := by simp; omega
theorem nn14 (n : Nat) : (n = n + 1 + 1 + 1 + 1 + 1 + 1 + 1 + 1 + 1 + 1 + 1 + 1 + 1 + 1) = False := by simp; omega
theorem frl {m M : Mem} {S : List Nat} (h : Fr m M S) (v : Blk) : Fr m (M.lay v) S := h.lay v
structure LWf (st : LSt) : Prop where
  sp : Srt strLess (st.purses.map (·.name))
  lp : st.purses.length ≤ 8
  sq : Srt strLess (st.pairs.map (·.key))
  lq : st.pairs.length ≤ 64
  sa : Srt intLess (st.accs.map (·.id))
  la : st.accs.length ≤ 64
  okp : ∀ p ∈ st.purses, 0 ≤ p.scale ∧ p.scale ≤ 18 ∧ p.out.ok ∧ nameB p.name = true
  okq : ∀ q ∈ st.pairs, q.rate.ok ∧ rightR q.rate q.rscale = true ∧ q.inx.ok ∧ q.outy.ok ∧ (st.getP q.x).isSome = true ∧ (st.getP q.y).isSome = true
  oka : ∀ a ∈ st.accs, a.bal.ok ∧ 0 ≤ a.id ∧ a.id ≤ st.latest ∧ (st.getP a.coin).isSome = true
  lat : 0 ≤ st.latest ∧ st.latest ≤ 72057594037927935
end Go.Abs
end
section
namespace Go.Abs
open Go

theorem set_here {α : Type} {l : List α} {i : Nat} {x : α} (h : l[i]? = some x) : l.set i x = l := by
  obtain ⟨hi, rfl⟩ := List.getElem?_eq_some_iff.1 h
  exact List.set_getElem_self hi
def LSt.iA (st : LSt) (k : Int) : Nat := lb intLess k (st.accs.map (·.id))
def LSt.iP (st : LSt) (k : List UInt8) : Nat := lb strLess k (st.purses.map (·.name))
def LSt.iQ (st : LSt) (k : List UInt8) : Nat := lb strLess k (st.pairs.map (·.key))
def LSt.setA (st : LSt) (a : AccV) : LSt := { st with accs := st.accs.set (st.iA a.id) a }
def LSt.setP (st : LSt) (p : PurseV) : LSt := { st with purses := st.purses.set (st.iP p.name) p }
def LSt.putQ (st : LSt) (q : PairV) : LSt :=
  { st with pairs := if hasK strLess q.key (st.pairs.map (·.key)) = true then st.pairs.set (st.iQ q.key) q else if st.pairs.length < 64 then insL (st.iQ q.key) q st.pairs else st.pairs }
theorem LSt.ids_setA {st : LSt} {a : AccV} (h : hasK intLess a.id (st.accs.map (·.id)) = true) : (st.setA a).accs.map (·.id) = st.accs.map (·.id) := by
  unfold LSt.setA LSt.iA
  rw [List.map_set]
  exact set_here (has_at h)
theorem LSt.names_setP {st : LSt} {p : PurseV} (h : hasK strLess p.name (st.purses.map (·.name)) = true) : (st.setP p).purses.map (·.name) = st.purses.map (·.name) := by
  unfold LSt.setP LSt.iP
  rw [List.map_set]
  exact set_here (has_at h)

def fits2 (x y w : Wd) : Bool := fitsW (x.val - w.val) && fitsW (y.val + w.val)
def depositF (st : LSt) (id : Int) (w : Wd) (s : Int) : Int × LSt :=
  let o := st.of id
  if o.2.2 ≠ 0 then (o.2.2, st) else
  if fitsE o.2.1 w s ≠ 0 then (fitsE o.2.1 w s, st) else
  if fits2 o.2.1.out o.1.bal w = true then (0, (st.setA { o.1 with bal := Wd.of (o.1.bal.val + w.val) }).setP { o.2.1 with out := Wd.of (o.2.1.out.val - w.val) }) else (20, st)
def withdrawF (st : LSt) (id : Int) (w : Wd) (s : Int) : Int × LSt :=
  let o := st.of id
  if o.2.2 ≠ 0 then (o.2.2, st) else
  if fitsE o.2.1 w s ≠ 0 then (fitsE o.2.1 w s, st) else
  if o.1.bal.val < w.val then (42, st) else
  if fits2 o.1.bal o.2.1.out w = true then (0, (st.setA { o.1 with bal := Wd.of (o.1.bal.val - w.val) }).setP { o.2.1 with out := Wd.of (o.2.1.out.val + w.val) }) else (20, st)
def transferF (st : LSt) (a b : Int) (w : Wd) (s : Int) : Int × LSt :=
  let o := st.of a
  let p := st.of b
  if o.2.2 ≠ 0 then (o.2.2, st) else
  if p.2.2 ≠ 0 then (p.2.2, st) else
  if a = b then (45, st) else
  if o.2.1.name ≠ p.2.1.name then (41, st) else
  if fitsE o.2.1 w s ≠ 0 then (fitsE o.2.1 w s, st) else
  if o.1.bal.val < w.val then (42, st) else
  if fits2 o.1.bal p.1.bal w = true then (0, (st.setA { o.1 with bal := Wd.of (o.1.bal.val - w.val) }).setA { p.1 with bal := Wd.of (p.1.bal.val + w.val) }) else (20, st)
def rateCode (w : Wd) (s : Int) : Int := if 0 ≤ s ∧ s ≤ 18 then (if 0 < w.val then 0 else 44) else 21
def rateF (st : LSt) (x y : List UInt8) (w : Wd) (s : Int) : Int × LSt :=
  if (st.getP x).isSome = false ∨ (st.getP y).isSome = false then (41, st) else
  if x = y then (45, st) else
  if rateCode w s ≠ 0 then (rateCode w s, st) else
  (0, st.putQ { (st.getQ (x ++ y)).getD nilQ with x := x, y := y, rate := w, rscale := s })
def balanceF (st : LSt) (id : Int) : Wd × Int × Int :=
  let o := st.of id
  if o.2.2 ≠ 0 then (⟨0, 0⟩, 0, o.2.2) else (o.1.bal, o.2.1.scale, 0)
def outsideF (st : LSt) (x : List UInt8) : Wd × Int × Int :=
  match st.getP x with
  | none => (⟨0, 0⟩, 0, 41)
  | some p => (p.out, p.scale, 0)
def betweenF (st : LSt) (x y : List UInt8) : Wd × Int × Int :=
  if (st.getP x).isSome = false ∨ (st.getP y).isSome = false then (⟨0, 0⟩, 0, 41) else
  match st.getQ (x ++ y) with
  | none => (⟨0, 0⟩, 0, 44)
  | some q => (q.inx, ((st.getP x).getD nilP).scale, 0)
theorem LSt.of_cases {st : LSt} (w : LWf st) (id : Int) : (st.of id = (nilA, nilP, 40) ∧ st.getA id = none) ∨
    ∃ a p, st.of id = (a, p, 0) ∧ st.getA id = some a ∧ st.getP a.coin = some p ∧ a.id = id ∧ hasK intLess id (st.accs.map (·.id)) = true ∧ p.name = a.coin ∧ hasK strLess p.name (st.purses.map (·.name)) = true ∧ a ∈ st.accs ∧ p ∈ st.purses := by
  cases hk : hasK intLess id (st.accs.map (·.id)) with
  | false =>
    have := LSt.getA_none hk
    exact .inl ⟨by unfold LSt.of; rw [this], this⟩
  | true =>
    obtain ⟨a, a1, a2, a3, a4⟩ := LSt.getA_some hk
    have h1 := (w.oka a a4).2.2.2
    cases hp : hasK strLess a.coin (st.purses.map (·.name)) with
    | false => rw [LSt.getP_none hp] at h1; simp at h1
    | true =>
      obtain ⟨p, p1, p2, p3, p4⟩ := LSt.getP_some hp
      exact .inr ⟨a, p, by unfold LSt.of; rw [a1]; simp only [p1]; rfl, a1, p1, a2, rfl, p2, by rw [p2]; exact hp, a4, p4⟩
theorem res_code {n : Int} : decide ((Wd.res n).2 = 0) = fitsW n := by
  unfold Wd.res
  cases h : fitsW n <;> simp
noncomputable def hooksCR (E : Env) (S R : List FuncId) : FuncId → Option (List AV → Mem → Abs.R) := fun f => if f ∈ S then some (cleanH E f) else if f ∈ R then some (run E (.fn f)) else E.H f
theorem hooksCR_ok {E : Env} (hE : EnvOk E) (S R : List FuncId) : EnvOk { E with H := hooksCR E S R } where
  mixed := hE.mixed
  body := fun f hf => hE.body f (by
    have h1 : (if f ∈ S then some (cleanH E f) else if f ∈ R then some (run E (.fn f)) else E.H f) = none := hf
    split at h1
    · cases h1
    · split at h1
      · cases h1
      · exact h1)
  hook := fun f h e args m r m' hr => by
    simp only [hooksCR] at e
    split at e
    · cases e; exact clean_ok hE args m r m' hr
    · split at e
      · cases e; exact run_sound hE (.fn f) args m r m' hr
      · exact hE.hook f h e args m r m' hr
end Go.Abs
end
section
namespace Go.Abs
open Go
noncomputable def Ry (P : Program) (E : Env) (b : Nat) : Do :=
  ⟨run E, fun k _ m => fin P (.rd b) (Nat.casesOn (motive := fun _ => Option Jmp) k none fun k => Nat.casesOn (motive := fun _ => Option Jmp) k (some .ret) fun id => some (.exit id)) [] m, fun _ _ _ _ => none⟩
theorem round_of {E : Env} {f i b : Nat} {args t : List AV} {m : Mem} {st : LoopState} {pe : Option Jmp} (hm : m.get b = some (.loop { loopOf E f i t with state := st, pending := pe })) (hl : args.length = (loopOf E f i t).params.length) {n : Nat} {r : AV × Mem}
    (h : goF E (run E) (.rd b) n [.code (loopOf E f i t).assign, .beginRound, .code (loopOf E f i t).body] (bindP (loopOf E f i t).params args t) m = some r) : run E (.yl b) args m = some r := by
  have ht : (loopOf E f i t).tmps = t := by unfold loopOf; split <;> rfl
  rw [run_round, roundK, hm]
  simp only
  rw [if_pos hl, ht]
  exact Le.goF (fun _ _ _ => Le.refl _) _ _ _ _ _ _ h
theorem loopOf_t (E : Env) (f i : Nat) (t : List AV) : loopOf E f i t = { loopOf E f i [] with tmps := t } := by unfold loopOf; split <;> rfl
theorem loopOf_B {E E' : Env} (h : E.B = E'.B) {f i : Nat} {t : List AV} : loopOf E f i t = loopOf E' f i t := by unfold loopOf codeOf; rw [h]
end Go.Abs
end
section
namespace Go.Abs
open Go

theorem append_trow {n w : Nat} (hn : 0 < n) {m : Mem} {s : AV} {l : List (List AV)} {rb : Option Nat} (h : TRow n m s l rb) {xb : Nat} {new : List AV} (hx : m.get xb = some (.cells new false)) (hl : new.length = n) (ho : new.all AV.one = true)
    (hb : (l.length + 1) * w ≤ maxBytes) :
    ∃ s' m', appendA n w s (.sl (some ⟨xb, 0⟩) n 1 1 true) m = some (s', m') ∧ TRow n m' s' (l ++ [new]) (some m.next) ∧ m'.next = m.next + 1 ∧ Fr m m' rb.toList := by
  have hsrc : srcA n (.sl (some ⟨xb, 0⟩) n 1 1 true) m = some (1, new) := by
    simp only [srcA, true_or, if_true, ldCells, hx, Nat.one_mul, Nat.zero_add, hl, Nat.le_refl, List.drop_zero, Option.map_some]
    rw [List.take_of_length_le (by omega)]
  have hall : ∀ x ∈ l ++ [new], x.length = n ∧ x.all AV.one = true := by
    intro x hx'
    simp only [List.mem_append, List.mem_singleton] at hx'
    rcases hx' with h1 | rfl
    · exact h.1 x h1
    · exact ⟨hl, ho⟩
  have hlens := h.lens
  have hlen : (l ++ [new]).length = l.length + 1 := by simp
  have hfl := flat_len hlens
  unfold appendA
  rw [hsrc]
  simp only [ho, not_true_eq_false, if_false]
  rcases h.2 with (⟨rfl, rfl, sz, ex, rfl⟩ | ⟨b, rfl, rfl, rfl, h3⟩) | ⟨b, rfl, rfl, h3⟩
  · simp only [Nat.one_ne_zero, if_false]
    rw [if_pos (by simpa using hb)]
    exact ⟨_, _, rfl, ⟨hall, .inr ⟨m.next, rfl, by simp, by simp [Mem.get_lay]⟩⟩, rfl, Fr.alloc _ _⟩
  · simp only [true_or, if_true]
    have hld : ldCells m ⟨b, 0⟩ (0 * n) = some [] := by simp [ldCells, h3]
    rw [if_neg (by omega), if_pos (by simpa using hb), hld]
    simp only
    refine ⟨_, _, rfl, ⟨hall, .inr ⟨m.next, rfl, by simp, by simp [Mem.get_lay]⟩⟩, rfl, (Fr.alloc _ _).mono (by simp)⟩
  · simp only [true_or, if_true]
    have hld : ldCells m ⟨b, 0⟩ (l.length * n) = some l.flatten := by
      simp only [ldCells, h3]
      rw [if_pos (by omega), List.drop_zero, List.take_of_length_le (by omega)]
    rw [if_neg (by omega), if_pos hb, hld]
    simp only [Bool.false_eq_true, if_false, h3]
    refine ⟨_, _, rfl, ⟨hall, .inr ⟨m.next, rfl, by rw [hlen], ?_⟩⟩, rfl, ((Fr.put m b none).trans (Fr.alloc _ _) (by simp) (by simp))⟩
    simp [Mem.get_lay, List.flatten_append]
theorem clone_trow {n w : Nat} {m : Mem} {s : AV} {l : List (List AV)} {rb : Option Nat} (h : TRow n m s l rb) (hb : l.length * w ≤ maxBytes) :
    ∃ b ex m', appendA n w (.sl (some ⟨m.next, 0⟩) n 0 0 true) s (m.lay (.cells [] false)) = some (.sl (some ⟨b, 0⟩) n l.length l.length ex, m') ∧ m'.get b = some (.cells l.flatten false) ∧ Fr m m' [] ∧ m.next ≤ b ∧ (0 < l.length → ex = false) := by
  have f1 : Fr m (m.lay (.cells [] false)) [] := (Fr.refl m).lay _
  have h' := h.frame f1 (by simp)
  have ones : l.flatten.all AV.one = true := flat_ones fun x hx => (h.1 x hx).2
  have hfl := flat_len h.lens
  have hl0 := lay_self m (.cells [] false)
  have src : srcA n s (m.lay (.cells [] false)) = some (l.length, l.flatten) := by
    rcases h'.2 with (⟨rfl, rfl, sz, ex, rfl⟩ | ⟨b, rfl, rfl, rfl, h3⟩) | ⟨b, rfl, rfl, h3⟩
    · rfl
    · simp [srcA, ldCells, h3]
    · simp only [srcA, true_or, if_true, ldCells, h3]
      rw [if_pos (by omega), List.drop_zero, List.take_of_length_le (by omega)]; rfl
  unfold appendA
  rw [src]
  simp only [ones, not_true_eq_false, if_false, true_or, if_true, Nat.zero_add, Nat.zero_mul]
  by_cases h0 : l.length = 0
  · have hl : l = [] := List.length_eq_zero_iff.1 h0
    subst hl
    rw [if_pos (by simp)]
    have hst : stCells (m.lay (.cells [] false)) ⟨m.next, 0 + 0⟩ ([] : List (List AV)).flatten = some (m.lay (.cells [] false)) := by
      simp only [stCells, hl0]
      rw [if_pos (by simp)]
      congr 1
      exact put_lay m _ _
    simp only [Nat.add_zero] at hst
    refine ⟨m.next, true, m.lay (.cells [] false), ?_, hl0, f1, Nat.le_refl _, by simp⟩
    rw [hst]; rfl
  · rw [if_neg (by omega), if_pos hb]
    have hld : ldCells (m.lay (.cells [] false)) ⟨m.next, 0⟩ 0 = some [] := by simp only [ldCells, hl0]; simp
    rw [hld]
    simp only [List.nil_append]
    exact ⟨_, _, _, rfl, lay_self _ _, f1.lay _, by simp, fun _ => rfl⟩
theorem loopOf_ready (E : Env) (f i : Nat) (t : List AV) : loopOf E f i t = { loopOf E f i t with state := .ready, pending := none } := by unfold loopOf; split <;> rfl
theorem bytes_ok {n w : Nat} (h : n ≤ 4096) (hw : w ≤ 100) : n * w ≤ maxBytes := Nat.le_trans (Nat.mul_le_mul h hw) (by decide)
theorem map_flat {κ : Type} (ek : κ → AV) (ks : List κ) : (ks.map fun k => [ek k]).length = ks.length := by simp
end Go.Abs
end
section
namespace Go.Abs
open Go

theorem TRow.fld {n : Nat} {m : Mem} {s : AV} {l : List (List AV)} {rb : Option Nat} (h : TRow n m s l rb) {i : Nat} (hi : i < l.length) :
    ∃ b, rb = some b ∧ s = .sl (some ⟨b, 0⟩) n l.length l.length false ∧ ixA n l.length ⟨b, 0⟩ (i : Int) = some (.ptr (some ⟨b, i * n⟩)) ∧ (∀ o, o < n → ld1 m (.ptr (some ⟨b, i * n + o⟩)) = l[i][o]?) ∧
      (∀ o k, o + k ≤ n → ldN m (.ptr (some ⟨b, i * n + o⟩)) k = some (.agg ((l[i].drop o).take k))) := by
  have hl := h.lens
  obtain ⟨b, h1, h2, h3, h4, h5⟩ := h.at hi
  have hli : l[i].length = n := hl _ (List.getElem_mem hi)
  have hd : l.flatten.drop (i * n) = l[i] ++ (l.drop (i + 1)).flatten := by
    rw [flat_drop i hl, List.drop_eq_getElem_cons hi, List.flatten_cons]
  have hfl := flat_len hl
  have hle : (i + 1) * n ≤ l.length * n := Nat.mul_le_mul_right n hi
  rw [Nat.succ_mul] at hle
  refine ⟨b, h1, h2, h4, fun o ho => ?_, fun o k hk => ?_⟩
  · rw [ld1_at h3, ← List.getElem?_drop, hd, List.getElem?_append_left (by omega)]
  · rw [ldN_at h3 (by omega), ← List.drop_drop, hd, List.drop_append_of_le_length (by omega), List.take_append_of_le_length (by rw [List.length_drop]; omega)]
def idxF {α : Type} (p : α → Bool) : List α → Nat → Int
  | [], _ => -1
  | x :: l, i => if p x then (i : Int) else idxF p l (i + 1)
theorem idxF_range {α : Type} (p : α → Bool) : ∀ (l : List α) (i : Nat), idxF p l i = -1 ∨ ∃ j : Nat, idxF p l i = (j : Int) ∧ i ≤ j ∧ j < i + l.length
  | [], _ => .inl rfl
  | x :: l, i => by
    unfold idxF
    split
    · exact .inr ⟨i, rfl, Nat.le_refl _, by simp⟩
    · rcases idxF_range p l (i + 1) with h | ⟨j, h1, h2, h3⟩
      · exact .inl h
      · exact .inr ⟨j, h1, by omega, by simp; omega⟩
theorem idxF_srt {α κ : Type} [DecidableEq κ] {lt : κ → κ → Bool} (f : α → κ) (k : κ) (irr : ∀ a, lt a a = false) : ∀ (l : List α) (i : Nat), Srt lt (l.map f) → idxF (fun x => decide (f x = k)) l i = if hasK lt k (l.map f) = true then ((i + lb lt k (l.map f) : Nat) : Int) else -1
  | [], i, _ => by simp [idxF, hasK]
  | x :: l, i, hs => by
    unfold idxF
    have hs' : Srt lt (l.map f) := by unfold Srt at hs ⊢; rw [List.map_cons, List.pairwise_cons] at hs; exact hs.2
    have hx : ∀ y ∈ l.map f, lt (f x) y = true := by unfold Srt at hs; rw [List.map_cons, List.pairwise_cons] at hs; exact hs.1
    have ih := idxF_srt f k irr l (i + 1) hs'
    by_cases e : f x = k
    · rw [if_pos (decide_eq_true e)]
      have hlb : lb lt k ((x :: l).map f) = 0 := by
        unfold lb
        rw [List.map_cons, List.takeWhile_cons, e, irr]; simp
      have hh : hasK lt k ((x :: l).map f) = true := by unfold hasK; rw [hlb]; simp [e]
      rw [if_pos hh, hlb]; rfl
    · rw [if_neg (by simpa using e), ih]
      by_cases h2 : lt (f x) k = true
      · have hlb : lb lt k ((x :: l).map f) = lb lt k (l.map f) + 1 := by
          unfold lb
          rw [List.map_cons, List.takeWhile_cons, if_pos h2, List.length_cons]
        have hh : hasK lt k ((x :: l).map f) = hasK lt k (l.map f) := by
          unfold hasK; rw [hlb, List.map_cons, List.getElem?_cons_succ]
        rw [hh, hlb]
        by_cases h3 : hasK lt k (l.map f) = true
        · rw [if_pos h3, if_pos h3]; congr 1; omega
        · rw [if_neg h3, if_neg h3]
      · have hlb : lb lt k ((x :: l).map f) = 0 := by
          unfold lb
          rw [List.map_cons, List.takeWhile_cons, if_neg h2]; rfl
        have hh : hasK lt k ((x :: l).map f) = false := by unfold hasK; rw [hlb]; simp [e]
        rw [hh]
        have hn : hasK lt k (l.map f) = false := by
          cases h3 : hasK lt k (l.map f) with
          | false => rfl
          | true =>
            have := hx k (List.mem_of_getElem? (has_at h3))
            exact absurd this h2
        rw [hn]
        simp
structure RefAt (m : Mem) (b : Nat) (st : LSt) (F : List Nat) : Prop where
  ex : ∃ sp sq sa rp rq ra, m.get b = some (.cells [sp, sq, sa, .int .u64 st.latest, .int .i64 st.most] false) ∧ TRow 4 m sp (st.purses.map (·.cells)) rp ∧ TRow 9 m sq (st.pairs.map (·.cells)) rq ∧ TRow 4 m sa (st.accs.map (·.cells)) ra ∧
    b ∉ rp.toList ∧ b ∉ rq.toList ∧ b ∉ ra.toList ∧ Dj rp.toList rq.toList ∧ Dj rp.toList ra.toList ∧ Dj rq.toList ra.toList ∧ F = b :: (rp.toList ++ rq.toList ++ ra.toList)
theorem RefAt.frame {m m' : Mem} {b : Nat} {st : LSt} {F S : List Nat} (h : RefAt m b st F) (hf : Fr m m' S) (hd : ∀ c, c ∈ F → c ∉ S) : RefAt m' b st F := by
  obtain ⟨sp, sq, sa, rp, rq, ra, h1, h2, h3, h4, h5, h6, h7, h8, h9, h10, rfl⟩ := h.ex
  exact ⟨sp, sq, sa, rp, rq, ra, hf.get h1 (hd _ (by simp)), h2.frame hf (fun c hc => hd c (by simp [hc])), h3.frame hf (fun c hc => hd c (by simp [hc])), h4.frame hf (fun c hc => hd c (by simp [hc])), h5, h6, h7, h8, h9, h10, rfl⟩
theorem RefAt.frame0 {m m' : Mem} {b : Nat} {st : LSt} {F : List Nat} (h : RefAt m b st F) (hf : Fr m m' []) : RefAt m' b st F := h.frame hf (by simp)
end Go.Abs
end
section
namespace Go.Abs
open Go
theorem TRow.sto {n : Nat} {m : Mem} {s : AV} {l : List (List AV)} {rb : Option Nat} (h : TRow n m s l rb) {i : Nat} (hi : i < l.length) {o : Nat} {vs : List AV} (ho : o + vs.length ≤ n) (hv : vs.all AV.one = true) :
    ∃ b, rb = some b ∧ stV m (.ptr (some ⟨b, i * n + o⟩)) (.agg vs) vs.length = some (m.put b (some (.cells (l.set i (l[i].take o ++ vs ++ l[i].drop (o + vs.length))).flatten false))) ∧
      TRow n (m.put b (some (.cells (l.set i (l[i].take o ++ vs ++ l[i].drop (o + vs.length))).flatten false))) s (l.set i (l[i].take o ++ vs ++ l[i].drop (o + vs.length))) rb := by
  have hl := h.lens
  obtain ⟨b, h1, h2, h3, h4, h5⟩ := h.at hi
  have hli : l[i].length = n := hl _ (List.getElem_mem hi)
  have hfl := flat_len hl
  have hle : (i + 1) * n ≤ l.length * n := Nat.mul_le_mul_right n hi
  rw [Nat.succ_mul] at hle
  have hd : l.flatten.drop (i * n) = l[i] ++ (l.drop (i + 1)).flatten := by
    rw [flat_drop i hl, List.drop_eq_getElem_cons hi, List.flatten_cons]
  have hlen : (l[i].take o ++ vs ++ l[i].drop (o + vs.length)).length = n := by
    simp only [List.length_append, List.length_take, List.length_drop]; omega
  have hone : (l[i].take o ++ vs ++ l[i].drop (o + vs.length)).all AV.one = true := by
    have hx := (h.1 _ (List.getElem_mem hi)).2
    rw [List.all_append, List.all_append, hv, Bool.and_true, Bool.and_eq_true]
    exact ⟨List.all_eq_true.2 fun v hv' => List.all_eq_true.1 hx v (List.mem_of_mem_take hv'), List.all_eq_true.2 fun v hv' => List.all_eq_true.1 hx v (List.mem_of_mem_drop hv')⟩
  have key : l.flatten.take (i * n + o) ++ vs ++ l.flatten.drop (i * n + o + vs.length) = (l.set i (l[i].take o ++ vs ++ l[i].drop (o + vs.length))).flatten := by
    rw [← flat_set hl hi, List.take_add, hd, List.take_append_of_le_length (by omega), Nat.add_assoc, ← List.drop_drop, hd, List.drop_append_of_le_length (by omega)]
    have e : l.flatten.drop (i * n + n) = (l.drop (i + 1)).flatten := by rw [← Nat.succ_mul]; exact flat_drop (i + 1) hl
    rw [e]
    simp only [List.append_assoc]
  have hst := stV_at (v := .agg vs) (vs := vs) (o := i * n + o) (n := vs.length) h3 (agg_cells hv) rfl (by omega)
  rw [key] at hst
  refine ⟨b, h1, hst, fun x hx => ?_, .inr ⟨b, h1, by simpa using h2, put_self h3⟩⟩
  rcases List.mem_or_eq_of_mem_set hx with hx | rfl
  · exact h.1 x hx
  · exact ⟨hlen, hone⟩
theorem RefAt.lt {m : Mem} {b : Nat} {st : LSt} {F : List Nat} (h : RefAt m b st F) : ∀ c, c ∈ F → c < m.next := by
  obtain ⟨sp, sq, sa, rp, rq, ra, h1, h2, h3, h4, h5, h6, h7, h8, h9, h10, rfl⟩ := h.ex
  intro c hc
  simp only [List.mem_cons, List.mem_append, Option.mem_toList] at hc
  rcases hc with rfl | (hc | hc) | hc
  · exact Mem.get_lt h1
  · subst hc; exact h2.lt
  · subst hc; exact h3.lt
  · subst hc; exact h4.lt
theorem RefAt.stA {m : Mem} {b : Nat} {st : LSt} {F : List Nat} (h : RefAt m b st F) {sp sq sa : AV} (hb : m.get b = some (.cells [sp, sq, sa, .int .u64 st.latest, .int .i64 st.most] false)) {a : AccV} (ga : st.accs[st.iA a.id]? = some a) (ny : Wd) :
    ∃ bb m1, sa = .sl (some ⟨bb, 0⟩) 4 st.accs.length st.accs.length false ∧ stV m (.ptr (some ⟨bb, st.iA a.id * 4 + 2⟩)) (.agg ny.cells) 2 = some m1 ∧ RefAt m1 b (st.setA { a with bal := ny }) F ∧ Fr m m1 F ∧ m1.next = m.next ∧ m1.get b = m.get b := by
  obtain ⟨sp', sq', sa', rp, rq, ra, h1, h2, h3, h4, h5, h6, h7, h8, h9, h10, rfl⟩ := h.ex
  rw [h1] at hb
  simp only [Option.some.injEq, Blk.cells.injEq, List.cons.injEq, and_true] at hb
  obtain ⟨rfl, rfl, rfl⟩ := hb
  obtain ⟨hlt, hga⟩ := List.getElem?_eq_some_iff.1 ga
  obtain ⟨bb, e1, e2, e3⟩ := h4.sto (i := st.iA a.id) (by rw [List.length_map]; exact hlt) (o := 2) (vs := ny.cells) (by simp [Wd.cells]) rfl
  obtain ⟨bb', f1, f2, _⟩ := h4.fld (i := st.iA a.id) (by rw [List.length_map]; exact hlt)
  rw [e1] at f1
  cases f1
  have hv : (st.accs.map (·.cells)).set (st.iA a.id) (((st.accs.map fun x : AccV => x.cells)[st.iA a.id]'(by rw [List.length_map]; exact hlt)).take 2 ++ ny.cells ++ ((st.accs.map fun x : AccV => x.cells)[st.iA a.id]'(by rw [List.length_map]; exact hlt)).drop (2 + ny.cells.length)) = (st.setA { a with bal := ny }).accs.map (·.cells) := by
    rw [List.getElem_map, hga]
    unfold LSt.setA
    rw [List.map_set]; rfl
  rw [hv] at e2 e3
  have hbb : bb ≠ b := fun e => h7 (by rw [e1, e]; simp)
  have hf : Fr m (m.put bb (some (.cells ((st.setA { a with bal := ny }).accs.map (·.cells)).flatten false))) [bb] := Fr.put _ _ _
  refine ⟨bb, _, by simpa using f2, e2, ⟨sp', sq', sa', rp, rq, ra, hf.get h1 (by simp; exact fun e => hbb e.symm), h2.frame hf (fun c hc => ?_), h3.frame hf (fun c hc => ?_), e3, h5, h6, h7, h8, h9, h10, rfl⟩, hf.mono (fun c hc => ?_), rfl, ?_⟩
  · simp only [List.mem_singleton]; rintro rfl; exact h9 c (by rw [hc]; simp) (by rw [e1]; simp)
  · simp only [List.mem_singleton]; rintro rfl; exact h10 c (by rw [hc]; simp) (by rw [e1]; simp)
  · simp only [List.mem_singleton] at hc; subst hc; rw [e1]; simp
  · exact put_ne (fun e => hbb e.symm)
theorem RefAt.stP {m : Mem} {b : Nat} {st : LSt} {F : List Nat} (h : RefAt m b st F) {sp sq sa : AV} (hb : m.get b = some (.cells [sp, sq, sa, .int .u64 st.latest, .int .i64 st.most] false)) {a : PurseV} (ga : st.purses[st.iP a.name]? = some a) (ny : Wd) :
    ∃ bb m1, sp = .sl (some ⟨bb, 0⟩) 4 st.purses.length st.purses.length false ∧ stV m (.ptr (some ⟨bb, st.iP a.name * 4 + 2⟩)) (.agg ny.cells) 2 = some m1 ∧ RefAt m1 b (st.setP { a with out := ny }) F ∧ Fr m m1 F ∧ m1.next = m.next ∧ m1.get b = m.get b := by
  obtain ⟨sp', sq', sa', rp, rq, ra, h1, h2, h3, h4, h5, h6, h7, h8, h9, h10, rfl⟩ := h.ex
  rw [h1] at hb
  simp only [Option.some.injEq, Blk.cells.injEq, List.cons.injEq, and_true] at hb
  obtain ⟨rfl, rfl, rfl⟩ := hb
  obtain ⟨hlt, hga⟩ := List.getElem?_eq_some_iff.1 ga
  obtain ⟨bb, e1, e2, e3⟩ := h2.sto (i := st.iP a.name) (by rw [List.length_map]; exact hlt) (o := 2) (vs := ny.cells) (by simp [Wd.cells]) rfl
  obtain ⟨bb', f1, f2, _⟩ := h2.fld (i := st.iP a.name) (by rw [List.length_map]; exact hlt)
  rw [e1] at f1
  cases f1
  have hv : (st.purses.map (·.cells)).set (st.iP a.name) (((st.purses.map fun x : PurseV => x.cells)[st.iP a.name]'(by rw [List.length_map]; exact hlt)).take 2 ++ ny.cells ++ ((st.purses.map fun x : PurseV => x.cells)[st.iP a.name]'(by rw [List.length_map]; exact hlt)).drop (2 + ny.cells.length)) = (st.setP { a with out := ny }).purses.map (·.cells) := by
    rw [List.getElem_map, hga]
    unfold LSt.setP
    rw [List.map_set]; rfl
  rw [hv] at e2 e3
  have hbb : bb ≠ b := fun e => h5 (by rw [e1, e]; simp)
  have hf : Fr m (m.put bb (some (.cells ((st.setP { a with out := ny }).purses.map (·.cells)).flatten false))) [bb] := Fr.put _ _ _
  refine ⟨bb, _, by simpa using f2, e2, ⟨sp', sq', sa', rp, rq, ra, hf.get h1 (by simp; exact fun e => hbb e.symm), e3, h3.frame hf (fun c hc => ?_), h4.frame hf (fun c hc => ?_), h5, h6, h7, h8, h9, h10, rfl⟩, hf.mono (fun c hc => ?_), rfl, ?_⟩
  · simp only [List.mem_singleton]; rintro rfl; exact h8 c (by rw [e1]; simp) (by rw [hc]; simp)
  · simp only [List.mem_singleton]; rintro rfl; exact h9 c (by rw [e1]; simp) (by rw [hc]; simp)
  · simp only [List.mem_singleton] at hc; subst hc; rw [e1]; simp
  · exact put_ne (fun e => hbb e.symm)
end Go.Abs
end
section
namespace Go.Abs
open Go

def VRow (n : Nat) (m : Mem) (s : AV) (l : List (List AV)) : Prop :=
  (∀ x ∈ l, x.length = n ∧ x.all AV.one = true) ∧
  ((l = [] ∧ ∃ sz cap ex, s = .sl none sz 0 cap ex) ∨
   ∃ b o sz cap ex ro cs, s = .sl (some ⟨b, o⟩) sz l.length cap ex ∧ (n = sz ∨ ex = true) ∧ m.get b = some (.cells cs ro) ∧ o + l.length * n ≤ cs.length ∧ (cs.drop o).take (l.length * n) = l.flatten)
section
variable {n : Nat} {m m' : Mem} {s : AV} {l : List (List AV)}
theorem TRow.v {rb : Option Nat} (h : TRow n m s l rb) : VRow n m s l := by
  have hl := flat_len h.lens
  rcases h with ⟨h0, (⟨rfl, _, sz, ex, rfl⟩ | ⟨b, rfl, _, rfl, h3⟩) | ⟨b, _, rfl, h3⟩⟩
  · exact ⟨h0, .inl ⟨rfl, _, _, _, rfl⟩⟩
  · exact ⟨h0, .inr ⟨b, 0, _, _, _, _, _, rfl, .inl rfl, h3, by simp, by simp⟩⟩
  · exact ⟨h0, .inr ⟨b, 0, _, _, _, _, _, rfl, .inl rfl, h3, by omega, by rw [List.drop_zero, List.take_of_length_le (by omega)]⟩⟩
theorem VRow.lens (h : VRow n m s l) : ∀ x ∈ l, x.length = n := fun x hx => (h.1 x hx).1
theorem VRow.frameN {S : List Nat} (h : VRow n m s l) (hf : Fr m m' S) (hS : ∀ c, c ∈ S → m.next ≤ c) : VRow n m' s l := by
  rcases h with ⟨h0, h | ⟨b, o, sz, cap, ex, ro, cs, h1, h2, h3, h4⟩⟩
  · exact ⟨h0, .inl h⟩
  · exact ⟨h0, .inr ⟨b, o, sz, cap, ex, ro, cs, h1, h2, hf.get h3 (fun hc => by have := hS b hc; have := Mem.get_lt h3; omega), h4⟩⟩
theorem VRow.frame0 (h : VRow n m s l) (hf : Fr m m' []) : VRow n m' s l := h.frameN hf (by simp)
theorem VRow.len (h : VRow n m s l) : ∃ a sz cap ex, s = .sl a sz l.length cap ex := by
  rcases h with ⟨_, ⟨rfl, sz, cap, ex, rfl⟩ | ⟨b, o, sz, cap, ex, _, _, rfl, _⟩⟩
  · exact ⟨_, _, _, _, rfl⟩
  · exact ⟨_, _, _, _, rfl⟩
theorem VRow.one (h : VRow n m s l) : s.one = true := by
  obtain ⟨a, sz, cap, ex, rfl⟩ := h.len; rfl
theorem VRow.ones (h : VRow n m s l) : l.flatten.all AV.one = true := flat_ones fun x hx => (h.1 x hx).2
theorem VRow.fld (h : VRow n m s l) {i : Nat} (hi : i < l.length) :
    ∃ b o sz cap ex, s = .sl (some ⟨b, o⟩) sz l.length cap ex ∧ (n = sz ∨ ex = true) ∧ b < m.next ∧ ixA n l.length ⟨b, o⟩ (i : Int) = some (.ptr (some ⟨b, o + i * n⟩)) ∧ (∀ k, k < n → ld1 m (.ptr (some ⟨b, o + i * n + k⟩)) = l[i][k]?) ∧
      (∀ k j, k + j ≤ n → ldN m (.ptr (some ⟨b, o + i * n + k⟩)) j = some (.agg ((l[i].drop k).take j))) ∧ ldN m (.ptr (some ⟨b, o + i * n⟩)) n = some (.agg l[i]) := by
  have hl := h.lens
  rcases h with ⟨h0, ⟨rfl, _⟩ | ⟨b, o, sz, cap, ex, ro, cs, rfl, h2, h3, h4, h5⟩⟩
  · simp at hi
  · have hli : l[i].length = n := hl _ (List.getElem_mem hi)
    have hle : (i + 1) * n ≤ l.length * n := Nat.mul_le_mul_right n hi
    rw [Nat.succ_mul] at hle
    have hd : l.flatten.drop (i * n) = l[i] ++ (l.drop (i + 1)).flatten := by
      rw [flat_drop i hl, List.drop_eq_getElem_cons hi, List.flatten_cons]
    have key : ∀ k, k < n → cs[o + i * n + k]? = l[i][k]? := fun k hk => by
      have e1 : ((cs.drop o).take (l.length * n))[i * n + k]? = cs[o + i * n + k]? := by
        rw [List.getElem?_take, if_pos (by omega), List.getElem?_drop, Nat.add_assoc]
      rw [← e1, h5, ← List.getElem?_drop, hd, List.getElem?_append_left (by omega)]
    have seg : ∀ k j, k + j ≤ n → (cs.drop (o + i * n + k)).take j = (l[i].drop k).take j := fun k j hkj => by
      apply List.ext_getElem?
      intro t
      rw [List.getElem?_take, List.getElem?_take]
      split
      · rw [List.getElem?_drop, List.getElem?_drop, Nat.add_assoc, key _ (by omega)]
      · rfl
    refine ⟨b, o, sz, cap, ex, rfl, h2, Mem.get_lt h3, by simp [ixA, hi], fun k hk => ?_, fun k j hkj => ?_, ?_⟩
    · rw [ld1_at h3, key k hk]
    · rw [ldN_at h3 (by omega), seg k j hkj]
    · have := seg 0 n (by omega)
      rw [Nat.add_zero, List.drop_zero, List.take_of_length_le (l := l[i]) (by omega)] at this
      rw [ldN_at h3 (by omega), this]
theorem VRow.src (h : VRow n m s l) : srcA n s m = some (l.length, l.flatten) := by
  have hfl := flat_len h.lens
  rcases h with ⟨h0, ⟨rfl, sz, cap, ex, rfl⟩ | ⟨b, o, sz, cap, ex, ro, cs, rfl, h2, h3, h4, h5⟩⟩
  · rfl
  · simp only [srcA, ldCells, h3]
    rw [if_pos (h2.imp Eq.symm id), if_pos h4, h5]; rfl
end
def allN (ok : Nat → Bool) : Nat → Nat → Bool
  | 0, _ => true
  | d + 1, i => ok i && allN ok d (i + 1)
theorem allN_iff (ok : Nat → Bool) : ∀ (d i : Nat), allN ok d i = true ↔ ∀ j, i ≤ j → j < i + d → ok j = true
  | 0, i => by simp [allN]; omega
  | d + 1, i => by
    rw [allN, Bool.and_eq_true, allN_iff ok d (i + 1)]
    constructor
    · rintro ⟨h1, h2⟩ j h3 h4
      by_cases e : j = i
      · subst e; exact h1
      · exact h2 j (by omega) (by omega)
    · intro h
      exact ⟨h i (Nat.le_refl _) (by omega), fun j h3 h4 => h j (by omega) (by omega)⟩
theorem allN_congr {p q : Nat → Bool} : ∀ {d i : Nat}, (∀ j, i ≤ j → j < i + d → p j = q j) → allN p d i = allN q d i
  | 0, _, _ => rfl
  | d + 1, i, h => by rw [allN, allN, h i (Nat.le_refl _) (by omega), allN_congr fun j h1 h2 => h j (by omega) (by omega)]
theorem Res.eq' {m M : Mem} {v w : AV} (h : Fr m M []) (e : v = w) : Res m (some (v, M)) w := Res.eq h e
theorem Res.step {m m1 : Mem} {r : R} {v : AV} (h : Fr m m1 []) (h' : Res m1 r v) : Res m r v := by
  obtain ⟨m', e, f⟩ := h'
  exact ⟨m', e, h.step0 f⟩
structure BkV (m : Mem) (sp sq sa : AV) (st : LSt) : Prop where
  p : VRow 4 m sp (st.purses.map (·.cells))
  q : VRow 9 m sq (st.pairs.map (·.cells))
  a : VRow 4 m sa (st.accs.map (·.cells))
theorem BkV.frame0 {m m' : Mem} {sp sq sa : AV} {st : LSt} (h : BkV m sp sq sa st) (hf : Fr m m' []) : BkV m' sp sq sa st := ⟨h.p.frame0 hf, h.q.frame0 hf, h.a.frame0 hf⟩
theorem BkV.frameN {m m' : Mem} {sp sq sa : AV} {st : LSt} {S : List Nat} (h : BkV m sp sq sa st) (hf : Fr m m' S) (hS : ∀ c, c ∈ S → m.next ≤ c) : BkV m' sp sq sa st := ⟨h.p.frameN hf hS, h.q.frameN hf hS, h.a.frameN hf hS⟩
theorem BkV.one {m : Mem} {sp sq sa : AV} {st : LSt} (h : BkV m sp sq sa st) (n : Int) : [sp, sq, sa, .int .u64 n].all AV.one = true := by
  rw [List.all_cons, List.all_cons, List.all_cons, h.p.one, h.q.one, h.a.one]; rfl
theorem RefAt.v {m : Mem} {b : Nat} {st : LSt} {F : List Nat} (h : RefAt m b st F) : ∃ sp sq sa, m.get b = some (.cells [sp, sq, sa, .int .u64 st.latest, .int .i64 st.most] false) ∧ BkV m sp sq sa st := by
  obtain ⟨sp, sq, sa, rp, rq, ra, h1, h2, h3, h4, _⟩ := h.ex
  exact ⟨sp, sq, sa, h1, h2.v, h3.v, h4.v⟩
theorem on1 : (∀ (k : IntKind) (n : Int), (AV.int k n).one = true) ∧ (∀ s : List UInt8, (AV.str s).one = true) ∧ (∀ b : Bool, (AV.bool b).one = true) ∧ (∀ a : Option AA, (AV.ptr a).one = true) ∧ (∀ (a : Option AA) (s n c : Nat) (e : Bool), (AV.sl a s n c e).one = true) := ⟨fun _ _ => rfl, fun _ => rfl, fun _ => rfl, fun _ => rfl, fun _ _ _ _ _ => rfl⟩
end Go.Abs
end
section
namespace Go.Abs
open Go
section
variable {P : Program} {t e : TypeId} {n : Nat} {m : Mem} {s : AV} {l : List (List AV)}
theorem VRow.lenT (ht : P.underlying t = some (.slice e)) (h : VRow n m s l) : lenT P t s = some (.int .i64 (l.length : Int)) := by
  obtain ⟨a, sz, cap, ex, rfl⟩ := h.len
  exact len_sl ht ..
theorem VRow.ixT (ht : P.underlying t = some (.slice e)) (hs : szT P e = some n) (h : VRow n m s l) {i : Nat} (hi : i < l.length) :
    ∃ b o, b < m.next ∧ (∀ k : IntKind, indexAddrA P t s (.int k (i : Int)) = some (.ptr (some ⟨b, o⟩))) ∧ (∀ k, k < n → ld1 m (.ptr (some ⟨b, o + k⟩)) = l[i][k]?) ∧ (∀ k j, k + j ≤ n → ldN m (.ptr (some ⟨b, o + k⟩)) j = some (.agg ((l[i].drop k).take j))) ∧ ldN m (.ptr (some ⟨b, o⟩)) n = some (.agg l[i]) := by
  obtain ⟨b, o, sz, cap, ex, e1, e2, e3, e4, e5, e6, e7⟩ := h.fld hi
  refine ⟨b, o + i * n, e3, fun k => ?_, e5, e6, e7⟩
  subst e1
  unfold indexAddrA
  simp only [ht, hs]
  rw [if_pos e2]
  exact e4
theorem TRow.ixT (ht : P.underlying t = some (.slice e)) (hs : szT P e = some n) {rb : Option Nat} (h : TRow n m s l rb) {i : Nat} (hi : i < l.length) :
    ∃ b, rb = some b ∧ ∀ k : IntKind, indexAddrA P t s (.int k (i : Int)) = some (.ptr (some ⟨b, i * n⟩)) := by
  obtain ⟨b, e1, e2, e3, e4, _⟩ := h.at hi
  refine ⟨b, e1, fun k => ?_⟩
  subst e2
  unfold indexAddrA
  simp only [ht, hs, true_or, if_true]
  exact e4
end
theorem TRow.reads {P : Program} {t e : TypeId} {n : Nat} {m : Mem} {s : AV} {α : Type} {f : α → List AV} {l : List α} {rb : Option Nat} (ht : P.underlying t = some (.slice e)) (hs : szT P e = some n) (h : TRow n m s (l.map f) rb) {i : Nat} {x : α} (hx : l[i]? = some x) :
    ∃ b, rb = some b ∧ b < m.next ∧ (∀ k : IntKind, indexAddrA P t s (.int k (i : Int)) = some (.ptr (some ⟨b, i * n⟩))) ∧ (∀ M, Fr m M [] → ∀ o, o < n → ld1 M (.ptr (some ⟨b, i * n + o⟩)) = (f x)[o]?) ∧ (∀ M, Fr m M [] → ∀ o k, o + k ≤ n → ldN M (.ptr (some ⟨b, i * n + o⟩)) k = some (.agg (((f x).drop o).take k))) := by
  obtain ⟨hi, rfl⟩ := List.getElem?_eq_some_iff.1 hx
  obtain ⟨b, e1, e2⟩ := h.ixT ht hs (i := i) (by rw [List.length_map]; exact hi)
  have key : ∀ M, Fr m M [] → (∀ o, o < n → ld1 M (.ptr (some ⟨b, i * n + o⟩)) = (f l[i])[o]?) ∧ (∀ o k, o + k ≤ n → ldN M (.ptr (some ⟨b, i * n + o⟩)) k = some (.agg (((f l[i]).drop o).take k))) := fun M hM => by
    obtain ⟨b', g1, _, _, g4, g5⟩ := (h.frame hM (by simp)).fld (i := i) (by rw [List.length_map]; exact hi)
    rw [e1] at g1
    cases g1
    rw [List.getElem_map] at g4 g5
    exact ⟨g4, g5⟩
  exact ⟨b, e1, by subst e1; exact h.lt, e2, fun M hM => (key M hM).1, fun M hM => (key M hM).2⟩
def upTo (s : AV) (n k : Nat) : AV := match s with | .sl (some a) _ _ cap ex => .sl (some a) n k cap ex | .sl none _ _ _ ex => .sl none n 0 0 ex | _ => .sl none n 0 0 true
def fromK (s : AV) (n k : Nat) : AV := match s with | .sl (some a) _ len cap ex => .sl (some ⟨a.b, a.o + k * n⟩) n (len - k) (cap - k) ex | .sl none _ _ _ ex => .sl none n 0 0 ex | _ => .sl none n 0 0 true
section
variable {P : Program} {t e : TypeId} {n : Nat} {m : Mem} {s : AV} {l : List (List AV)} {rb : Option Nat}
theorem TRow.upTo (ht : P.underlying t = some (.slice e)) (hs : szT P e = some n) (h : TRow n m s l rb) {k : Nat} (hk : k ≤ l.length) : sliceA P t s none (some (.int .i64 (k : Int))) = some (upTo s n k) ∧ VRow n m (upTo s n k) (l.take k) := by
  have hl := flat_len h.lens
  have h0 : ∀ x ∈ l.take k, x.length = n ∧ x.all AV.one = true := fun x hx => h.1 x (List.mem_of_mem_take hx)
  rcases h.2 with (⟨rfl, rfl, sz, ex, rfl⟩ | ⟨b, rfl, rfl, rfl, h3⟩) | ⟨b, rfl, rfl, h3⟩
  · have : k = 0 := by simpa using hk
    subst this
    refine ⟨?_, h0, .inl ⟨by simp, _, _, _, rfl⟩⟩
    simp [sliceA, ht, hs, hiA, loA, Abs.upTo]
  · have : k = 0 := by simpa using hk
    subst this
    refine ⟨?_, h0, .inr ⟨b, 0, n, 0, true, false, [], by simp [Abs.upTo], .inl rfl, h3, by simp, by simp⟩⟩
    simp [sliceA, ht, hs, hiA, loA, Abs.upTo]
  · refine ⟨?_, h0, .inr ⟨b, 0, _, _, _, _, _, by simp only [Abs.upTo, List.length_take]; rw [Nat.min_eq_left hk], .inl rfl, h3, ?_, ?_⟩⟩
    · have hk' : (k : Int) ≤ (l.length : Int) := by omega
      simp [sliceA, ht, hs, hiA, loA, Abs.upTo, hk]
    · rw [hl, List.length_take, Nat.min_eq_left hk, Nat.zero_add]; exact Nat.mul_le_mul_right n hk
    · rw [List.length_take, Nat.min_eq_left hk, List.drop_zero, flat_take k h.lens]
theorem TRow.fromK (ht : P.underlying t = some (.slice e)) (hs : szT P e = some n) (h : TRow n m s l rb) {k : Nat} (hk : k ≤ l.length) : sliceA P t s (some (.int .i64 (k : Int))) none = some (fromK s n k) ∧ VRow n m (fromK s n k) (l.drop k) := by
  have hl := flat_len h.lens
  have h0 : ∀ x ∈ l.drop k, x.length = n ∧ x.all AV.one = true := fun x hx => h.1 x (List.mem_of_mem_drop hx)
  rcases h.2 with (⟨rfl, rfl, sz, ex, rfl⟩ | ⟨b, rfl, rfl, rfl, h3⟩) | ⟨b, rfl, rfl, h3⟩
  · have : k = 0 := by simpa using hk
    subst this
    refine ⟨?_, h0, .inl ⟨by simp, _, _, _, rfl⟩⟩
    simp [sliceA, ht, hs, hiA, loA, Abs.fromK]
  · have : k = 0 := by simpa using hk
    subst this
    refine ⟨?_, h0, .inr ⟨b, 0, n, 0, true, false, [], by simp [Abs.fromK], .inl rfl, h3, by simp, by simp⟩⟩
    simp [sliceA, ht, hs, hiA, loA, Abs.fromK]
  · have e1 : k * n + (l.length - k) * n = l.length * n := by rw [← Nat.add_mul]; congr 1; omega
    refine ⟨?_, h0, .inr ⟨b, k * n, n, l.length - k, false, false, l.flatten, ?_, .inl rfl, h3, ?_, ?_⟩⟩
    · simp [sliceA, ht, hs, hiA, loA, Abs.fromK, hk]
    · simp [Abs.fromK]
    · rw [hl, List.length_drop]; omega
    · rw [List.length_drop, flat_drop k h.lens]
      exact List.take_of_length_le (by rw [flat_len (fun x hx => (h0 x hx).1), List.length_drop]; omega)
end
theorem append_nil {n w : Nat} {m : Mem} {x : AV} {l : List (List AV)} (h : VRow n m x l) (hw : l.length * w ≤ maxBytes) :
    ∃ s' m' r, appendA n w (.sl none 0 0 0 true) x m = some (s', m') ∧ TRow n m' s' l r ∧ Fr m m' [] ∧ (∀ c, r = some c → m.next ≤ c) := by
  unfold appendA
  rw [h.src]
  simp only [h.ones, not_true_eq_false, if_false]
  by_cases h0 : l.length = 0
  · rw [if_pos h0]
    have : l = [] := List.length_eq_zero_iff.1 h0
    subst this
    exact ⟨_, _, none, rfl, TRow.nil _ _ _ _, Fr.refl _, nofun⟩
  · rw [if_neg h0, if_pos hw]
    exact ⟨_, _, some m.next, rfl, ⟨h.1, .inr ⟨m.next, rfl, rfl, by simp [Mem.get_lay]⟩⟩, Fr.alloc _ _, fun c hc => by cases hc; exact Nat.le_refl _⟩
theorem append_more {n w : Nat} {m : Mem} {s x : AV} {l k : List (List AV)} {b : Nat} (h : TRow n m s l (some b)) (hx : VRow n m x k) (hw : (l.length + k.length) * w ≤ maxBytes) :
    ∃ s' m' r, appendA n w s x m = some (s', m') ∧ TRow n m' s' (l ++ k) (some r) ∧ Fr m m' [b] ∧ (r = b ∨ m.next ≤ r) := by
  have hall : ∀ y ∈ l ++ k, y.length = n ∧ y.all AV.one = true := by
    intro y hy
    rw [List.mem_append] at hy
    exact hy.elim (h.1 y) (hx.1 y)
  have hfl := flat_len h.lens
  have hfk := flat_len hx.lens
  rcases h.2 with (⟨_, h0, _⟩ | ⟨b', rfl, h1, rfl, h3⟩) | ⟨b', h1, rfl, h3⟩
  · cases h0
  · cases h1
    unfold appendA
    rw [hx.src]
    simp only [hx.ones, not_true_eq_false, if_false, true_or, if_true]
    by_cases h0 : k.length = 0
    · have : k = [] := List.length_eq_zero_iff.1 h0
      subst this
      rw [if_pos (by simp)]
      have hst : stCells m ⟨b, 0 + 0 * n⟩ ([] : List (List AV)).flatten = some (m.put b (some (.cells [] false))) := by
        simp [stCells, h3]
      rw [hst]
      exact ⟨_, _, b, rfl, ⟨hall, .inl (.inr ⟨b, by simp, rfl, rfl, put_self h3⟩)⟩, Fr.put _ _ _, .inl rfl⟩
    · have hld : ldCells m ⟨b, 0⟩ (0 * n) = some [] := by simp [ldCells, h3]
      rw [if_neg (by omega), if_pos (by simpa using hw), hld]
      simp only
      exact ⟨_, _, m.next, rfl, ⟨hall, .inr ⟨m.next, rfl, by simp, by simp [Mem.get_lay]⟩⟩, (Fr.alloc _ _).mono (by simp), .inr (Nat.le_refl _)⟩
  cases h1
  unfold appendA
  rw [hx.src]
  simp only [hx.ones, not_true_eq_false, if_false, true_or, if_true]
  by_cases h0 : k.length = 0
  · have : k = [] := List.length_eq_zero_iff.1 h0
    subst this
    rw [if_pos (by simp)]
    have hst : stCells m ⟨b, 0 + l.length * n⟩ ([] : List (List AV)).flatten = some (m.put b (some (.cells l.flatten false))) := by
      simp only [stCells, h3]
      rw [if_pos (by simp [hfl]), Nat.zero_add]
      simp only [List.flatten_nil, List.length_nil, Nat.add_zero, List.append_nil, List.take_append_drop]
    rw [hst]
    refine ⟨_, _, b, rfl, ⟨hall, .inr ⟨b, rfl, by simp, ?_⟩⟩, Fr.put _ _ _, .inl rfl⟩
    rw [List.append_nil]; exact put_self h3
  · rw [if_neg (by omega), if_pos hw]
    have hld : ldCells m ⟨b, 0⟩ (l.length * n) = some l.flatten := by
      simp only [ldCells, h3]
      rw [if_pos (by omega), List.drop_zero, List.take_of_length_le (by omega)]
    rw [hld]
    simp only [Bool.false_eq_true, if_false, h3]
    refine ⟨_, _, m.next, rfl, ⟨hall, .inr ⟨m.next, rfl, by simp, ?_⟩⟩, ((Fr.put m b none).trans (Fr.alloc _ _) (by simp) (by simp)), .inr (Nat.le_refl _)⟩
    simp [Mem.get_lay, List.flatten_append]
theorem ins_anew {n w : Nat} (hn : 0 < n) {m : Mem} {s : AV} {l : List (List AV)} {rb : Option Nat} (h : TRow n m s l rb) {sA sB : AV} {k : Nat} (hk : k ≤ l.length) (hA : VRow n m sA (l.take k)) (hB : VRow n m sB (l.drop k))
    {new : List AV} (hl : new.length = n) (ho : new.all AV.one = true) (hw : (l.length + 1) * w ≤ maxBytes) :
    ∃ s1 m1 s2 m2 s3 m3 r, appendA n w (.sl none 0 0 0 true) sA m = some (s1, m1) ∧ appendA n w s1 (.sl (some ⟨m1.next, 0⟩) n 1 1 true) (m1.lay (.cells new false)) = some (s2, m2) ∧ appendA n w s2 sB m2 = some (s3, m3) ∧
      TRow n m3 s3 (insL k new l) (some r) ∧ Fr m m1 [] ∧ Fr m m2 [] ∧ Fr m m3 [] ∧ m.next ≤ r := by
  obtain ⟨s1, m1, r1, a1, a2, a3, a4⟩ := append_nil hA (Nat.le_trans (Nat.mul_le_mul_right w (by rw [List.length_take]; omega)) hw)
  have f1 : Fr m1 (m1.lay (.cells new false)) [] := (Fr.refl m1).lay _
  have r1lt : ∀ c, r1 = some c → c < m1.next := fun c hc => by subst hc; exact a2.lt
  obtain ⟨s2, m2, b1, b2, b3, b4⟩ := append_trow (w := w) hn (a2.frame f1 (by simp)) (lay_self m1 (.cells new false)) hl ho (by
    rw [List.length_take, Nat.min_eq_left hk]; exact Nat.le_trans (Nat.mul_le_mul_right w (by omega)) hw)
  have F2 : Fr m m2 [] := (a3.step0 f1).step b4 (fun c hc => by rw [Option.mem_toList] at hc; exact .inr (a4 c hc))
  have n1 := a3.next
  obtain ⟨s3, m3, r, c1, c2, c3, c4⟩ := append_more (w := w) b2 (hB.frame0 F2) (by
    rw [List.length_append, List.length_take, List.length_drop, Nat.min_eq_left hk]
    simp only [List.length_cons, List.length_nil]
    exact Nat.le_trans (Nat.mul_le_mul_right w (by omega)) hw)
  have e9 : (m1.lay (.cells new false)).next = m1.next + 1 := rfl
  refine ⟨s1, m1, s2, m2, s3, m3, r, a1, b1, c1, ?_, a3, F2, F2.step c3 (fun c hc => by simp only [List.mem_singleton] at hc; exact .inr (by omega)), ?_⟩
  · rw [List.append_assoc] at c2; exact c2
  · have := F2.next
    rcases c4 with h | h <;> omega
end Go.Abs
end
section
namespace Go.Abs
open Go
def ARow (n : Nat) (m : Mem) (s : AV) (l : List (List AV)) : Prop := VRow n m s l ∨ (l = [] ∧ ∃ a sz cap ex, s = .sl a sz 0 cap ex)
section
variable {P : Program} {t e : TypeId} {n : Nat} {m m' : Mem} {s : AV} {l : List (List AV)}
theorem ARow.frame0 (h : ARow n m s l) (hf : Fr m m' []) : ARow n m' s l := h.imp (fun h => h.frame0 hf) id
theorem ARow.lenT (ht : P.underlying t = some (.slice e)) (h : ARow n m s l) : lenT P t s = some (.int .i64 (l.length : Int)) := by
  rcases h with h | ⟨rfl, a, sz, cap, ex, rfl⟩
  · exact h.lenT ht
  · exact len_sl ht ..
theorem ARow.ixT (ht : P.underlying t = some (.slice e)) (hs : szT P e = some n) (h : ARow n m s l) {i : Nat} (hi : i < l.length) :
    ∃ b o, b < m.next ∧ (∀ k : IntKind, indexAddrA P t s (.int k (i : Int)) = some (.ptr (some ⟨b, o⟩))) ∧ (∀ k, k < n → ld1 m (.ptr (some ⟨b, o + k⟩)) = l[i][k]?) ∧ (∀ k j, k + j ≤ n → ldN m (.ptr (some ⟨b, o + k⟩)) j = some (.agg ((l[i].drop k).take j))) ∧ ldN m (.ptr (some ⟨b, o⟩)) n = some (.agg l[i]) := by
  rcases h with h | ⟨rfl, _⟩
  · exact h.ixT ht hs hi
  · simp at hi
end
theorem rows_of {n : Nat} {cs : List AV} {o : Nat} (f : Nat → List AV) : ∀ (len : Nat), (∀ i, i < len → (cs.drop (o + i * n)).take n = f i) → (cs.drop o).take (len * n) = ((List.range len).map f).flatten
  | 0, _ => by simp
  | len + 1, h => by
    rw [Nat.succ_mul, List.take_add, rows_of f len (fun i hi => h i (by omega)), List.drop_drop, h len (by omega), List.range_succ, List.map_append, List.flatten_append]
    simp
section
variable {P : Program} {W : World} {H : Type} {enc : TypeId × Value → H} {t e : TypeId} {v : Value} {base : Nat}
theorem arg_rows {α : Type} [Inhabited α] {f : α → List AV} {Q : α → Prop} {n : Nat} (hn0 : 0 < n) {d : DataW H} {p : List MemPlace} (ht : P.underlying t = some (.slice e)) (hn : P.cellsOf e = n) (h : Value.okWide P W .any base t v) (hr : DataW.Trod enc P W 0 (fun _ => true) true t v d p)
    (hel : ∀ (m : Nat) (cs : List Value) (y : DataW H × List MemPlace), cs.length = n → DataW.trod enc P W 0 (fun _ => true) true m e cs = some y → ∃ a, cs.map (absP W) = f a ∧ Q a) (hf : ∀ a, (f a).length = n ∧ (f a).all AV.one = true) :
    ∃ l : List α, ARow n (absM W) (absV W v) (l.map f) ∧ ∀ a ∈ l, Q a := by
  rcases arg_slice ht h hr with ⟨ex, h⟩ | ⟨a, len, cap, cs, h1, h2, h3, m, h4⟩
  · exact ⟨[], .inl ⟨by simp, .inl ⟨rfl, _, _, _, h⟩⟩, by simp⟩
  · rw [hn] at h4
    have h5 : ∀ i, i < len → ∃ x, ((cs.drop (a.o + i * n)).take n).map (absP W) = f x ∧ Q x := fun i hi => by
      obtain ⟨h6, y, h7⟩ := h4 i (by omega)
      exact hel m _ y h6 h7
    obtain ⟨g, hg⟩ := Go.Deep.choose_lt h5
    by_cases h0 : len = 0
    · subst h0
      exact ⟨[], .inr ⟨rfl, some a, 0, cap, true, h1⟩, by simp⟩
    refine ⟨(List.range len).map g, .inl ⟨fun x hx => ?_, .inr ⟨a.b, a.o, 0, cap, true, true, cs.map (absP W), ?_, .inr rfl, h3, ?_, ?_⟩⟩, fun x hx => ?_⟩
    · obtain ⟨y, _, rfl⟩ := List.mem_map.1 hx
      exact hf y
    · simpa using h1
    · have h6 := (h4 (len - 1) (by omega)).1
      simp only [List.length_take, List.length_drop] at h6
      simp only [List.length_map, List.length_range]
      have e : len * n = (len - 1) * n + n := by rw [← Nat.succ_mul]; congr 1; omega
      omega
    · rw [List.length_map, List.length_map, List.length_range, List.map_map]
      have := rows_of (cs := cs.map (absP W)) (o := a.o) (n := n) (fun i => f (g i)) len fun i hi => by
        rw [← List.map_drop, ← List.map_take]; exact (hg i hi).1
      exact this
    · obtain ⟨i, hi, rfl⟩ := List.mem_map.1 hx
      exact (hg i (List.mem_range.1 hi)).2
end
end Go.Abs
end
