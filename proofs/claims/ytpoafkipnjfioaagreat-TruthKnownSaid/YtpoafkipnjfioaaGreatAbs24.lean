/- Hooks: functions without a body of their own (carries of whole numbers; slices.overlaps). -/
import Derived.Test.YtpoafkipnjfioaaGreatAbs23
import Derived.Lib.Overlaps
import Derived.Laws.Externs
namespace Go.Abs
open Go

section
variable {P : Program}

/-- What a function without a body owes. -/
theorem extern_ok {f : FuncId} {fn : Func} {e : Array Value → Sem Value} (hf : P.funcs[f]? = some fn) (hname : (fn.name == "runtime.NumGoroutine") = false) (hb : fn.body.isNone = true) (hn : Extern.findNext fn = none) (he : Extern.find fn = some e)
    {args : List AV} {m : Mem} {r : AV} {m' : Mem} (h0 : m.next ≤ m'.next) (h : ∀ (p : Phi) (w : World) (cargs : List Value), MR P p m w → GP P ≤ m.next → Free p m.next m'.next → VRs p args cargs →
      ∃ cv w' p', (e ⟨cargs⟩).run P w = .ok cv w' ∧ VR p' r cv ∧ Sim P p m w p' m' w') : FnOk P (.fn f) args m r m' := by
  refine ⟨h0, fun p w cargs hm hG hf2 hv => .inr ?_⟩
  obtain ⟨cv, w', p', h1, h2, h3⟩ := h p w cargs hm hG hf2 hv
  refine ⟨cv, w', p', ?_, h2, h3⟩
  rw [run_callFunc_extern hf hname hb hn he, h1]
  rfl

def add64H (args : List AV) (m : Mem) : R :=
  match args with
  | [.int .u64 x, .int .u64 y, .int .u64 c] =>
    if 0 ≤ x ∧ 0 ≤ y ∧ 0 ≤ c ∧ c ≤ 1 then some (.tup [.int .u64 ((x + y + c) % 18446744073709551616), .int .u64 ((x + y + c) / 18446744073709551616)], m) else none
  | _ => none
theorem add64_ok {f : FuncId} {fn : Func} (hf : P.funcs[f]? = some fn) (hname : (fn.name == "runtime.NumGoroutine") = false) (hb : fn.body.isNone = true) (hn : Extern.findNext fn = none) (he : Extern.find fn = some add64Entry)
    (args : List AV) (m : Mem) (r : AV) (m' : Mem) (h : add64H args m = some (r, m')) : FnOk P (.fn f) args m r m' := by
  unfold add64H at h
  split at h
  · rename_i x y c
    split at h
    · rename_i hc
      cases h
      refine extern_ok hf hname hb hn he (Nat.le_refl _) fun p w cargs hm hG hf2 hv => ?_
      simp only [VRs, VR] at hv
      obtain ⟨_, _, rfl, rfl, _, _, rfl, rfl, _, _, rfl, rfl, rfl⟩ := hv
      refine ⟨_, w, p, run_add64 x y c hc.1 hc.2.1 hc.2.2.1 hc.2.2.2 w, ?_, Sim.refl hm⟩
      simp only [VR, VRs]
      exact ⟨_, rfl, _, _, rfl, rfl, _, _, rfl, rfl, rfl⟩
    · cases h
  · cases h

def sub64Entry : Array Value → Sem Value := fun args => do
  let (x, y, b) ← Extern.MathBitsCarry.three "Sub64" args
  pure (Extern.MathBitsCarry.pair ((x + Extern.MathBitsCarry.m64 - y - b) % Extern.MathBitsCarry.m64) (if x < y + b then 1 else 0))
theorem run_sub64 (x y c : Int) (hx : 0 ≤ x) (hy : 0 ≤ y) (hy2 : y < 18446744073709551616) (hc0 : 0 ≤ c) (hc : c ≤ 1) (w : World) :
    (sub64Entry #[.int .u64 x, .int .u64 y, .int .u64 c]).run P w =
      .ok (.tuple #[.int .u64 ((x - y - c) % 18446744073709551616), .int .u64 (if x < y + c then 1 else 0)]) w := by
  have key : ∀ k : Nat, k ≤ 1 → (sub64Entry #[.int .u64 x, .int .u64 y, .int .u64 (k : Int)]).run P w =
      .ok (Extern.MathBitsCarry.pair ((x.toNat + Extern.MathBitsCarry.m64 - y.toNat - k) % Extern.MathBitsCarry.m64) (if x.toNat < y.toNat + k then 1 else 0)) w := by
    intro k hk
    have : k = 0 ∨ k = 1 := by omega
    rcases this with rfl | rfl <;> rfl
  obtain ⟨k, rfl⟩ := Int.eq_ofNat_of_zero_le hc0
  rw [key k (by omega)]
  obtain ⟨X, rfl⟩ := Int.eq_ofNat_of_zero_le hx
  obtain ⟨Y, rfl⟩ := Int.eq_ofNat_of_zero_le hy
  simp only [Extern.MathBitsCarry.pair, Extern.MathBitsCarry.m64, Int.toNat_natCast]
  have h1 : Int.ofNat ((X + 2 ^ 64 - Y - k) % 2 ^ 64) = ((X : Int) - (Y : Int) - (k : Int)) % 18446744073709551616 := by
    simp only [Int.ofNat_eq_natCast, Int.natCast_emod]
    omega
  have h2 : Int.ofNat (if X < Y + k then 1 else 0) = if (X : Int) < (Y : Int) + (k : Int) then 1 else 0 := by
    by_cases h : X < Y + k
    · rw [if_pos h, if_pos (by omega)]; rfl
    · rw [if_neg h, if_neg (by omega)]; rfl
  rw [h1, h2]
def sub64H (args : List AV) (m : Mem) : R :=
  match args with
  | [.int .u64 x, .int .u64 y, .int .u64 c] =>
    if 0 ≤ x ∧ 0 ≤ y ∧ y < 18446744073709551616 ∧ 0 ≤ c ∧ c ≤ 1 then some (.tup [.int .u64 ((x - y - c) % 18446744073709551616), .int .u64 (if x < y + c then 1 else 0)], m) else none
  | _ => none
theorem sub64_ok {f : FuncId} {fn : Func} (hf : P.funcs[f]? = some fn) (hname : (fn.name == "runtime.NumGoroutine") = false) (hb : fn.body.isNone = true) (hn : Extern.findNext fn = none) (he : Extern.find fn = some sub64Entry)
    (args : List AV) (m : Mem) (r : AV) (m' : Mem) (h : sub64H args m = some (r, m')) : FnOk P (.fn f) args m r m' := by
  unfold sub64H at h
  split at h
  · rename_i x y c
    split at h
    · rename_i hc
      cases h
      refine extern_ok hf hname hb hn he (Nat.le_refl _) fun p w cargs hm hG hf2 hv => ?_
      simp only [VRs, VR] at hv
      obtain ⟨_, _, rfl, rfl, _, _, rfl, rfl, _, _, rfl, rfl, rfl⟩ := hv
      refine ⟨_, w, p, run_sub64 x y c hc.1 hc.2.1 hc.2.2.1 hc.2.2.2.1 hc.2.2.2.2 w, ?_, Sim.refl hm⟩
      simp only [VR, VRs]
      exact ⟨_, rfl, _, _, rfl, rfl, _, _, rfl, rfl, rfl⟩
    · cases h
  · cases h

/-- slices.overlaps of slices in two blocks, one of them plain. -/
noncomputable def overlapsH (args : List AV) (m : Mem) : R :=
  match args with
  | [.sl (some a) _ _ _ _, .sl (some b) _ _ _ _] =>
    if a.b = b.b then none else
    match m.get a.b, m.get b.b with
    | some (.cells _ false), some (.cells (_ :: _) _) => some (.bool false, m)
    | _, _ => none
  | _ => none
theorem overlaps_ok {f : FuncId} {fn : Func} {st tr e : TypeId} {sz : Nat} (hf : P.funcs[f]? = some fn) (hname : (fn.name == "runtime.NumGoroutine") = false) (hb : fn.body.isNone = true) (hn : Extern.findNext fn = none)
    (he : Extern.find fn = some (Extern.SlicesOverlaps.overlaps #[st, st] #[tr])) (ht : P.underlying st = some (.slice e)) (hsz : szT P e = some sz)
    (args : List AV) (m : Mem) (r : AV) (m' : Mem) (h : overlapsH args m = some (r, m')) : FnOk P (.fn f) args m r m' := by
  unfold overlapsH at h
  split at h
  · rename_i a sa la ca xa b sb lb cb xb
    split at h
    · cases h
    · rename_i hne
      split at h
      · rename_i cs d ds ro ha hbb
        cases h
        refine extern_ok hf hname hb hn he (Nat.le_refl _) fun p w cargs hm hG hf2 hv => ?_
        simp only [VRs, VR, SR] at hv
        obtain ⟨_, _, rfl, ⟨ci, off, cap, h1, rfl, _⟩, _, _, rfl, ⟨ci2, off2, cap2, h2, rfl, _⟩, rfl⟩ := hv
        obtain ⟨arr, el, fr, g1, g2, g3, _⟩ := hm.live _ _ _ _ ha h1
        obtain ⟨arr2, el2, fr2, q1, q2, _, q4⟩ := hm.live _ _ _ _ hbb h2
        have g3 := g3 rfl
        have hc : ci.c ≠ ci2.c := by
          intro e
          rcases hm.inj a.b ci b.b ci2 (by rw [ha]; rfl) h1 h2 e with e' | ⟨_, e'⟩
          · exact hne e'
          · rw [hbb] at e'; cases e'
        have hk : arr2.size ≠ 0 := by
          obtain ⟨v, hv, _⟩ := q4 0 d rfl
          have := (Array.getElem?_eq_some_iff.1 hv).1
          omega
        refine ⟨.bool false, w, p, ?_, by simp [VR], Sim.refl hm⟩
        refine Lib.run_overlaps_apart (P := P) w st tr e ht sz (fun w => run_size hsz w) ⟨ci.c, off, none⟩ ⟨ci2.c, off2, none⟩ la cap lb cap2 hc el el2 arr.size arr2.size ?_ ?_ hk ?_ ?_
        · simp [World.shape?, g1]
        · simp [World.shape?, q1]
        · simp only [World.frozen?, g1]
          have := g3 off
          simp only [Bool.and_eq_false_iff, decide_eq_false_iff_not]
          by_cases h : fr.1 ≤ off
          · exact .inr fun h' => this ⟨h, h'⟩
          · exact .inl h
        · simp only [World.frozen?, g1]
          have := g3 arr.size
          simp only [Bool.and_eq_false_iff, decide_eq_false_iff_not]
          by_cases h : fr.1 ≤ arr.size
          · exact .inr fun h' => this ⟨h, h'⟩
          · exact .inl h
      · cases h
  · cases h
end
end Go.Abs
