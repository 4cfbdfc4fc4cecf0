/- TruthKnown: the document's examples hold: called in whatever memory, the function returns true, and nothing that was there has turned. No condition. -/
import Derived.Test.YtpoafkipnjfioaaGreatEnv
import Derived.Test.YtpoafkipnjfioaaGreatT
import Derived.Test.YtpoafkipnjfioaaGreatAbs20
namespace Go.Proofs.YtpoafkipnjfioaaGreat
open Go Go.Abs Go.ChangeShapes Go.WideShapes Go.ChangeAt Go.RowKit

theorem Tryz.own5 : ownKnob Tryz.prog.godebug = none := by kernel_rfl
theorem Tryz.laidOut5 : laidOutB Tryz.prog = true := by kernel_rfl
theorem begins5 : Tryz.prog.globals.size < (begin Tryz.prog (fun _ _ => 0) default).world.heap.size := of_decide_eq_true (by kernel_rfl)

theorem known_run5 : ((XD E T.T 4000).call (.fn 5) [] (noM (GP Tryz.prog))).map (·.1) = some (.bool true) := by kernel_rfl
theorem known_free5 (f : Nat) (hf : (T.tFn.find f).isSome = true) : H f = none := by
  unfold H
  split <;> first | rfl | exact absurd (hf.symm.trans (show _ = false by kernel_rfl)) (by simp)
theorem known_runs5 : ∃ m', run E (.fn 5) [] (noM (GP Tryz.prog)) = some (.bool true, m') := by
  have h := known_run5
  cases e : (XD E T.T 4000).call (.fn 5) [] (noM (GP Tryz.prog)) with
  | none => rw [e] at h; cases h
  | some r =>
    rw [e] at h
    obtain ⟨v, m'⟩ := r
    simp only [Option.map_some, Option.some.injEq] at h
    subst h
    exact ⟨m', run_of_X (E := E) (T.T_ok (H := H) known_free5) 4000 e⟩

theorem truthKnown_lifted (os : Os) (started : os.Started) (H : Type) (enc : TypeId × Value → H) :
    ReturnsInHanded {} Tryz.checked os 5 .any (Rows.truthKnownSpec.pre6 enc Tryz.prog Tryz.f5 Rows.truthKnownRow.domain false) (Rows.truthKnownSpec.post enc Tryz.prog Tryz.f5 false true false false) := by
  refine returnsInHanded_of_change_shaped (C := Tryz.checked) Tryz.own5 started (by kernel_rfl) Tryz.func5
    (ChangeSpec.witness6 (enc := enc) (C := Tryz.checked) false ⟨#[], #[], []⟩ 8 (by kernel_rfl) (by kernel_rfl) (by kernel_rfl) (by kernel_rfl)) ?_
  intro W base args ds gs before hval0 hW hcnd _ hsh _
  have hW' := hW
  obtain ⟨p, q, hA0, hV, rfl, hfz, hnd⟩ := hW
  have hA : DataW.TrodAll enc Tryz.prog W 0 (fun _ => true) true Tryz.f5.params.toList args.toList ds p := hA0
  rw [Tryz.params5] at hA
  obtain ⟨rfl, rfl, rfl⟩ := trodAll_none hA
  obtain ⟨rfl, rfl⟩ := trodVars_none hV
  obtain ⟨m', hrun⟩ := known_runs5
  refine (law_closed (E := E) E_ok (f := 5) Tryz.func5 (by kernel_rfl) (by decide +kernel) (shaped_size hsh begins5) hrun).mono fun e W' ⟨he, hb⟩ => ?_
  subst he
  exact ⟨_, rfl, law_post (P := Tryz.prog) (tb := 4) Tryz.laidOut5 (by decide +kernel) (by kernel_rfl) (by kernel_rfl) rfl hW' rfl hb⟩

theorem truthKnown_holds : Rows.TruthKnownSaid :=
  OpenClaim.holds_of_wide 5 Tryz.f5 rfl rfl rfl rfl rfl rfl rfl ⟨rfl, rfl, rfl, rfl, rfl⟩ rfl rfl rfl rfl rfl (by kernel_rfl) Tryz.func5 (by kernel_rfl)
    (of_decide_eq_true (by kernel_rfl)) (by unfold Func.isWrapper; first | (rw [if_pos (by decide +kernel)]; kernel_rfl) | (rw [if_neg (by decide +kernel)]; exact ⟨rfl, rfl⟩))
    (fun os started H enc _ => truthKnown_lifted os started H enc)
#print axioms truthKnown_holds
end Go.Proofs.YtpoafkipnjfioaaGreat
