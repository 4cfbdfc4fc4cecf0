/- BagCounts: whatever the number and whatever the steps, the function returns true, and nothing that was there has turned. No condition. -/
import Derived.Test.YtdmenbeiepfdiaaSteps
namespace Go.Proofs.Ytdmenbeiepfdiaa
open Go Go.Abs Go.ChangeShapes Go.WideShapes Go.ChangeAt Go.RowKit

theorem bagCounts_lifted (os : Os) (started : os.Started) (H : Type) (enc : TypeId × Value → H) :
    ReturnsInHanded {} Try.checked os 6 .any (Rows.bagCountsSpec.pre6 enc Try.prog Try.f6 Rows.bagCountsRow.domain false) (Rows.bagCountsSpec.post enc Try.prog Try.f6 false true false false) := by
  refine returnsInHanded_of_change_shaped (C := Try.checked) Try.own started (by kernel_rfl) Try.func6
    (ChangeSpec.witness6 (enc := enc) (C := Try.checked) false ⟨#[], #[.int .i64 0, .slice none 0 0], []⟩ 8 (by kernel_rfl) (by kernel_rfl) (by kernel_rfl) (by kernel_rfl)) ?_
  intro W base args ds gs before hval0 hW hcnd _ hsh _
  have hW' := hW
  obtain ⟨p, q, hA0, hV, rfl, hfz, hnd⟩ := hW
  have hA : DataW.TrodAll enc Try.prog W 0 (fun _ => true) true Try.f6.params.toList args.toList ds p := hA0
  rw [Try.params6] at hA
  obtain ⟨v1, v2, d1, d2, p1, p2, ha, rfl, hr1, hr2⟩ := trodAll_2 hA
  obtain ⟨rfl, rfl⟩ := trodVars_none hV
  have hargs : args = #[v1, v2] := by rw [← Array.toArray_toList (xs := args), ha]
  subst hargs
  obtain ⟨k, rfl, hk1, hk2⟩ := arg_int (W := W) (k := .i64) Try.underlying3 (hval0 0 3 v1 (by kernel_rfl) rfl)
  obtain ⟨l, hs⟩ := arg_steps (W := W) (hval0 1 42 v2 (by kernel_rfl) rfl) hr2
  obtain ⟨m', hrun⟩ := counts_is hs k
  refine (law_calls (E := E) E_ok (f := 6) Try.func6 (by kernel_rfl) (by decide) (shaped_size hsh begins) (args := [.int .i64 k, v2]) hrun).mono fun e W' ⟨he, hb⟩ => ?_
  subst he
  exact ⟨_, rfl, law_post (P := Try.prog) (tb := 4) Try.laidOut (by decide +kernel) (by kernel_rfl) (by kernel_rfl) rfl hW' rfl hb⟩

theorem bagCounts_holds : Rows.BagCountsSaid :=
  OpenClaim.holds_of_wide 6 Try.f6 rfl rfl rfl rfl rfl rfl rfl ⟨rfl, rfl, rfl, rfl, rfl⟩ rfl rfl rfl rfl rfl (by kernel_rfl) Try.func6 (by kernel_rfl)
    (of_decide_eq_true (by kernel_rfl)) (by unfold Func.isWrapper; first | (rw [if_pos (by decide +kernel)]; kernel_rfl) | (rw [if_neg (by decide +kernel)]; exact ⟨rfl, rfl⟩))
    (fun os started H enc _ => bagCounts_lifted os started H enc)
#print axioms bagCounts_holds
end Go.Proofs.Ytdmenbeiepfdiaa
