/- ImageKnown: chapter 21's examples hold: called in whatever memory, the function returns true, and nothing that was there has turned. No condition. -/
import Derived.Test.YtamooapjonlcdaaEnv
import Derived.Test.YtamooapjonlcdaaAbs20
namespace Go.Proofs.Ytamooapjonlcdaa
open Go Go.Abs Go.ChangeShapes Go.WideShapes Go.ChangeAt Go.RowKit

theorem Try.own : ownKnob Try.prog.godebug = none := by kernel_rfl
theorem Try.laidOut : laidOutB Try.prog = true := by kernel_rfl
theorem begins : Try.prog.globals.size < (begin Try.prog (fun _ _ => 0) default).world.heap.size := of_decide_eq_true (by kernel_rfl)

theorem known_run : (runF E 300 4 [] (noM (GP Try.prog))).map (·.1) = some (.bool true) := by kernel_rfl
theorem known_runs : ∃ m', run E 4 [] (noM (GP Try.prog)) = some (.bool true, m') := by
  have h := known_run
  cases e : runF E 300 4 [] (noM (GP Try.prog)) with
  | none => rw [e] at h; cases h
  | some r =>
    rw [e] at h
    obtain ⟨v, m'⟩ := r
    simp only [Option.map_some, Option.some.injEq] at h
    subst h
    exact ⟨m', run_of_fuel 300 e⟩

theorem imageKnown_lifted (os : Os) (started : os.Started) (H : Type) (enc : TypeId × Value → H) :
    ReturnsInHanded {} Try.checked os 4 .any (Rows.imageKnownSpec.pre6 enc Try.prog Try.f4 Rows.imageKnownRow.domain false) (Rows.imageKnownSpec.post enc Try.prog Try.f4 false true false false) := by
  refine returnsInHanded_of_change_shaped (C := Try.checked) Try.own started (by kernel_rfl) Try.func4
    (ChangeSpec.witness6 (enc := enc) (C := Try.checked) false ⟨#[], #[], []⟩ 8 (by kernel_rfl) (by kernel_rfl) (by kernel_rfl) (by kernel_rfl)) ?_
  intro W base args ds gs before hval0 hW hcnd _ hsh _
  have hW' := hW
  obtain ⟨p, q, hA0, hV, rfl, hfz, hnd⟩ := hW
  have hA : DataW.TrodAll enc Try.prog W 0 (fun _ => true) true Try.f4.params.toList args.toList ds p := hA0
  rw [Try.params4] at hA
  obtain ⟨rfl, rfl, rfl⟩ := trodAll_none hA
  obtain ⟨rfl, rfl⟩ := trodVars_none hV
  obtain ⟨m', hrun⟩ := known_runs
  refine (law_closed (E := E) E_ok (f := 4) Try.func4 (by kernel_rfl) (by decide) (shaped_size hsh begins) hrun).mono fun e W' ⟨he, hb⟩ => ?_
  subst he
  exact ⟨_, rfl, law_post (P := Try.prog) (tb := 4) Try.laidOut (by decide +kernel) (by kernel_rfl) (by kernel_rfl) rfl hW' rfl hb⟩

theorem imageKnown_holds : Rows.ImageKnownSaid :=
  OpenClaim.holds_of_wide 4 Try.f4 rfl rfl rfl rfl rfl rfl rfl ⟨rfl, rfl, rfl, rfl, rfl⟩ rfl rfl rfl rfl rfl (by kernel_rfl) Try.func4 (by kernel_rfl)
    (of_decide_eq_true (by kernel_rfl)) (by unfold Func.isWrapper; first | (rw [if_pos (by decide +kernel)]; kernel_rfl) | (rw [if_neg (by decide +kernel)]; exact ⟨rfl, rfl⟩))
    (fun os started H enc _ => imageKnown_lifted os started H enc)
#print axioms imageKnown_holds
end Go.Proofs.Ytamooapjonlcdaa
