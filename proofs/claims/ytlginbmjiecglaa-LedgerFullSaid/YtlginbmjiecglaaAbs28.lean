/- A closed function as a hook: what it answers where nothing is known it answers anywhere, and nothing that was there turns. -/
import Derived.Test.YtlginbmjiecglaaAbs20
namespace Go.Abs
open Go

/-- What a closed function answers, with the memory as it was. -/
def closedH (v : AV) (args : List AV) (m : Mem) : R :=
  match args with
  | [] => some (v, m)
  | _ :: _ => none

theorem closed_ok {E : Env} (hE : EnvOk E) {f : FuncId} {fn : Func} (hfn : E.P.funcs[f]? = some fn) (hb : fn.body.isSome = true) (hn : fn.name ≠ "runtime.NumGoroutine") {b : Bool} {m1 : Mem}
    (h : run E (.fn f) [] (noM (GP E.P)) = some (.bool b, m1)) : ∀ args m r m', closedH (.bool b) args m = some (r, m') → FnOk E.P (.fn f) args m r m' := by
  intro args m r m' e
  cases args with
  | cons _ _ => cases e
  | nil =>
    simp only [closedH, Option.some.injEq, Prod.mk.injEq] at e
    obtain ⟨rfl, rfl⟩ := e
    refine ⟨Nat.le_refl _, fun p w cargs hm _ _ hv => .inl ⟨fn, hfn, hb, hn, ?_⟩⟩
    have hc : cargs = [] := by cases cargs with | nil => rfl | cons _ _ => simp [VRs] at hv
    subst hc
    have hG : GP E.P ≤ w.heap.size := by
      cases hz : GP E.P with
      | zero => exact Nat.zero_le _
      | succ n =>
        obtain ⟨k, hk⟩ := hm.glob n (by show n < GP E.P; omega)
        exact hm.bnd n _ hk
    have hfree : Free (noPhi (GP E.P)) (noM (GP E.P)).next m1.next := by
      intro x h1 h2
      simp only [noM] at h1
      simp only [noPhi]; rw [if_neg (by omega)]
    refine (fnOk_calls (run_sound hE (.fn f) _ _ _ _ h) hfn hb hn (noM_MR hG) (by simp [noM]) hfree (cargs := []) (by simp [VRs])).mono ?_
    rintro e w' ⟨cv, p', rfl, h1, h2⟩
    have keep : ∀ k, k < w.heap.size → w'.heap[k]? = w.heap[k]? := fun k hk => h2.keepC k hk fun b ci h3 => by rw [noM_get] at h3; cases h3
    simp only [VR] at h1
    refine ⟨cv, p, rfl, by simp only [VR]; exact h1, ?_⟩
    exact {
      le := fun _ _ h => h
      out := fun _ _ => rfl
      next := Nat.le_refl _
      rel := {
        has := fun b v ci h3 h4 => by rw [keep _ (hm.bnd b ci h4)]; exact hm.has b v ci h3 h4
        inj := hm.inj
        bnd := fun b ci h4 => Nat.lt_of_lt_of_le (hm.bnd b ci h4) h2.size
        glob := hm.glob }
      keepA := fun _ _ _ => rfl
      dead := fun _ _ h => h
      keepC := fun c hc _ => keep c hc
      fresh := fun b ci h3 h4 => absurd h4 (by omega)
      ro := fun b cs ci h3 h4 => ⟨h3, keep _ (hm.bnd b ci h4)⟩
      size := h2.size
      os := h2.os
      output := h2.output
      tape := h2.tape }
end Go.Abs
