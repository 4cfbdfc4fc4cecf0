/- LedgerFull: whatever the numbers, the function returns true, and nothing that was there has turned. No condition. -/
import Derived.Test.YtlginbmjiecglaaFull
import Derived.Test.YtlginbmjiecglaaAbs20
import Derived.Test.YtlginbmjiecglaaAbs23
namespace Go.Proofs.Ytlginbmjiecglaa
open Go Go.Abs Go.ChangeShapes Go.WideShapes Go.ChangeAt Go.RowKit
set_option maxRecDepth 10000

theorem Try.ownL : ownKnob Try.prog.godebug = none := by kernel_rfl
theorem Try.laidOutL : laidOutB Try.prog = true := by kernel_rfl
theorem beginsL : Try.prog.globals.size < (begin Try.prog (fun _ _ => 0) default).world.heap.size := of_decide_eq_true (by kernel_rfl)

theorem ledgerFull_lifted (os : Os) (started : os.Started) (H : Type) (enc : TypeId × Value → H) :
    ReturnsInHanded {} Try.checked os 3 .any (Rows.ledgerFullSpec.pre6 enc Try.prog Try.f3 Rows.ledgerFullRow.domain false) (Rows.ledgerFullSpec.post enc Try.prog Try.f3 false true false false) := by
  refine returnsInHanded_of_change_shaped (C := Try.checked) Try.ownL started (by kernel_rfl) Try.func3
    (ChangeSpec.witness6 (enc := enc) (C := Try.checked) false ⟨#[], #[.int .i64 0, .int .u64 0], []⟩ 8 (by kernel_rfl) (by kernel_rfl) (by kernel_rfl) (by kernel_rfl)) ?_
  intro W base args ds gs before hval0 hW hcnd _ hsh _
  have hW' := hW
  obtain ⟨p, q, hA0, hV, rfl, hfz, hnd⟩ := hW
  have hA : DataW.TrodAll enc Try.prog W 0 (fun _ => true) true Try.f3.params.toList args.toList ds p := hA0
  rw [Try.params3] at hA
  obtain ⟨v1, vs1, d1, ds1, p1, q1, ha1, rfl, hr1, hA1⟩ := argAll_cons hA
  obtain ⟨v2, vs2, d2, ds2, p2, q2, rfl, rfl, hr2, hA2⟩ := argAll_cons hA1
  obtain ⟨rfl, rfl⟩ := argAll_nil hA2
  obtain ⟨rfl, rfl⟩ := trodVars_none hV
  have hargs : args = #[v1, v2] := by rw [← Array.toArray_toList (xs := args), ha1]
  subst hargs
  obtain ⟨k, rfl, hk1, hk2⟩ := arg_int (W := W) (k := .i64) (P := Try.prog) (t := 3) (by kernel_rfl) (hval0 0 3 v1 (by kernel_rfl) rfl)
  obtain ⟨s, rfl, hs1, hs2⟩ := arg_int (W := W) (k := .u64) (P := Try.prog) (t := 22) (by kernel_rfl) (hval0 1 22 v2 (by kernel_rfl) rfl)
  obtain ⟨m', hrun⟩ := full_is (absM W) k (scale := s) hs1
  refine (law_calls (E := E2) E2_ok (f := 3) Try.func3 (by kernel_rfl) (by decide +kernel) (shaped_size hsh beginsL) (args := [.int .i64 k, .int .u64 s]) hrun).mono fun e W' ⟨he, hb⟩ => ?_
  subst he
  exact ⟨_, rfl, law_post (P := Try.prog) (tb := 4) Try.laidOutL (by decide +kernel) (by kernel_rfl) (by kernel_rfl) rfl hW' rfl hb⟩

theorem ledgerFull_holds : Rows.LedgerFullSaid :=
  OpenClaim.holds_of_wide 3 Try.f3 rfl rfl rfl rfl rfl rfl rfl ⟨rfl, rfl, rfl, rfl, rfl⟩ rfl rfl rfl rfl rfl (by kernel_rfl) Try.func3 (by kernel_rfl)
    (of_decide_eq_true (by kernel_rfl)) (by unfold Func.isWrapper; first | (rw [if_pos (by decide +kernel)]; kernel_rfl) | (rw [if_neg (by decide +kernel)]; exact ⟨rfl, rfl⟩))
    (fun os started H enc _ => ledgerFull_lifted os started H enc)
#print axioms ledgerFull_holds
end Go.Proofs.Ytlginbmjiecglaa
