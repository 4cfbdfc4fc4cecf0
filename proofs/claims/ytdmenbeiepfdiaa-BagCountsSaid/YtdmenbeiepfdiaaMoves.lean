/- BagMoves: whatever the numbers and whichever is taken, the function returns true, and nothing that was there has turned. No condition. -/
import Derived.Test.YtdmenbeiepfdiaaBagM
import Derived.Test.YtdmenbeiepfdiaaAbs20
import Derived.Test.YtdmenbeiepfdiaaKnown
namespace Go.Proofs.Ytdmenbeiepfdiaa
open Go Go.Abs Go.ChangeShapes Go.WideShapes Go.ChangeAt Go.RowKit

theorem trodAll_2 {P : Program} {W : World} {H : Type} {enc : TypeId × Value → H} {b : Nat} {sp : Nat → Bool} {held : Bool} {t1 t2 : TypeId} {vs : List Value} {ds : List (DataW H)} {ps : List MemPlace}
    (h : DataW.TrodAll enc P W b sp held [t1, t2] vs ds ps) : ∃ v1 v2 d1 d2 p1 p2, vs = [v1, v2] ∧ ds = [d1, d2] ∧ DataW.Trod enc P W b sp held t1 v1 d1 p1 ∧ DataW.Trod enc P W b sp held t2 v2 d2 p2 := by
  match vs, ds, h with
  | v1 :: vs, d1 :: ds, ⟨p, q, h1, h2, _⟩ =>
    match vs, ds, h2 with
    | v2 :: vs, d2 :: ds, ⟨p', q', h3, h4, _⟩ =>
      match vs, ds, h4 with
      | [], [], _ => exact ⟨v1, v2, d1, d2, p, p', rfl, rfl, h1, h3⟩

theorem bagMoves_lifted (os : Os) (started : os.Started) (H : Type) (enc : TypeId × Value → H) :
    ReturnsInHanded {} Try.checked os 3 .any (Rows.bagMovesSpec.pre6 enc Try.prog Try.f3 Rows.bagMovesRow.domain false) (Rows.bagMovesSpec.post enc Try.prog Try.f3 false true false false) := by
  refine returnsInHanded_of_change_shaped (C := Try.checked) Try.own started (by kernel_rfl) Try.func3
    (ChangeSpec.witness6 (enc := enc) (C := Try.checked) false ⟨#[], #[.slice none 0 0, .int .i64 0], []⟩ 8 (by kernel_rfl) (by kernel_rfl) (by kernel_rfl) (by kernel_rfl)) ?_
  intro W base args ds gs before hval0 hW hcnd _ hsh _
  have hW' := hW
  obtain ⟨p, q, hA0, hV, rfl, hfz, hnd⟩ := hW
  have hA : DataW.TrodAll enc Try.prog W 0 (fun _ => true) true Try.f3.params.toList args.toList ds p := hA0
  rw [Try.params3] at hA
  obtain ⟨v1, v2, d1, d2, p1, p2, ha, rfl, hr1, hr2⟩ := trodAll_2 hA
  obtain ⟨rfl, rfl⟩ := trodVars_none hV
  have hargs : args = #[v1, v2] := by rw [← Array.toArray_toList (xs := args), ha]
  subst hargs
  obtain ⟨xs, hs, _⟩ := arg_ints (W := W) (k := .i64) Try.underlying22 Try.underlying3 (by kernel_rfl) (hval0 0 22 v1 (by kernel_rfl) rfl) hr1
  obtain ⟨k, rfl, hk1, hk2⟩ := arg_int (W := W) (k := .i64) Try.underlying3 (hval0 1 3 v2 (by kernel_rfl) rfl)
  obtain ⟨m', hrun⟩ := moves_is hs k
  refine (law_calls (E := E) E_ok (f := 3) Try.func3 (by kernel_rfl) (by decide) (shaped_size hsh begins) (args := [v1, .int .i64 k]) hrun).mono fun e W' ⟨he, hb⟩ => ?_
  subst he
  exact ⟨_, rfl, law_post (P := Try.prog) (tb := 4) Try.laidOut (by decide +kernel) (by kernel_rfl) (by kernel_rfl) rfl hW' rfl hb⟩

theorem bagMoves_holds : Rows.BagMovesSaid :=
  OpenClaim.holds_of_wide 3 Try.f3 rfl rfl rfl rfl rfl rfl rfl ⟨rfl, rfl, rfl, rfl, rfl⟩ rfl rfl rfl rfl rfl (by kernel_rfl) Try.func3 (by kernel_rfl)
    (of_decide_eq_true (by kernel_rfl)) (by unfold Func.isWrapper; first | (rw [if_pos (by decide +kernel)]; kernel_rfl) | (rw [if_neg (by decide +kernel)]; exact ⟨rfl, rfl⟩))
    (fun os started H enc _ => bagMoves_lifted os started H enc)
#print axioms bagMoves_holds
end Go.Proofs.Ytdmenbeiepfdiaa
