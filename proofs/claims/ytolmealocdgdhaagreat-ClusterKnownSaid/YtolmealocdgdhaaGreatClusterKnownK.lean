/- ClusterKnown: the document's examples hold: called in whatever memory, the function returns true, and nothing that was there has turned. No condition. -/
import Derived.Test.YtolmealocdgdhaaGreatK9
import Derived.Test.YtolmealocdgdhaaGreatRows
import Derived.Test.YtolmealocdgdhaaGreatJP
import Derived.Test.YtolmealocdgdhaaGreatJQ
import Derived.Test.YtolmealocdgdhaaGreatJ6a
import Derived.Test.YtolmealocdgdhaaGreatJ6b
import Derived.Test.YtolmealocdgdhaaGreatJ6c
import Derived.Test.YtolmealocdgdhaaGreatJ6d
namespace Go.Proofs.YtolmealocdgdhaaGreat
open Go Go.Abs Go.ChangeShapes Go.WideShapes Go.ChangeAt Go.RowKit

theorem Tryz.own6 : ownKnob Tryz.prog.godebug = none := by kernel_rfl
theorem Tryz.laidOut6 : laidOutB Tryz.prog = true := by kernel_rfl
theorem begins6 : Tryz.prog.globals.size < (begin Tryz.prog (fun _ _ => 0) default).world.heap.size := of_decide_eq_true (by kernel_rfl)

theorem known_run6 : ((XD EV TB 4000).call (.fn 6) [] (noM (GP Tryz.prog))).map (·.1) = some (.bool true) := by kernel_rfl
theorem known_runs6 : ∃ m', run EV (.fn 6) [] (noM (GP Tryz.prog)) = some (.bool true, m') := by
  have h := known_run6
  cases e : (XD EV TB 4000).call (.fn 6) [] (noM (GP Tryz.prog)) with
  | none => rw [e] at h; cases h
  | some r =>
    rw [e] at h
    obtain ⟨v, m'⟩ := r
    simp only [Option.map_some, Option.some.injEq] at h
    subst h
    exact ⟨m', run_of_X (E := EV) V_ok 4000 e⟩

theorem clusterKnown_lifted (os : Os) (started : os.Started) (H : Type) (enc : TypeId × Value → H) :
    ReturnsInHanded {} Tryz.checked os 6 .any (Rows.clusterKnownSpec.pre6 enc Tryz.prog Tryz.f6 Rows.clusterKnownRow.domain false) (Rows.clusterKnownSpec.post enc Tryz.prog Tryz.f6 false true false false) := by
  refine returnsInHanded_of_change_shaped (C := Tryz.checked) Tryz.own6 started (by kernel_rfl) Tryz.func6
    (ChangeSpec.witness6 (enc := enc) (C := Tryz.checked) false ⟨#[], #[], []⟩ 8 (by kernel_rfl) (by kernel_rfl) (by kernel_rfl) (by kernel_rfl)) ?_
  intro W base args ds gs before hval0 hW hcnd _ hsh _
  have hW' := hW
  obtain ⟨p, q, hA0, hV, rfl, hfz, hnd⟩ := hW
  have hA : DataW.TrodAll enc Tryz.prog W 0 (fun _ => true) true Tryz.f6.params.toList args.toList ds p := hA0
  rw [Tryz.params6] at hA
  obtain ⟨rfl, rfl, rfl⟩ := trodAll_none hA
  obtain ⟨rfl, rfl⟩ := trodVars_none hV
  obtain ⟨m', hrun⟩ := known_runs6
  refine (law_closed (E := EV) EV_ok (f := 6) Tryz.func6 (by kernel_rfl) (by decide +kernel) (shaped_size hsh begins6) hrun).mono fun e W' ⟨he, hb⟩ => ?_
  subst he
  exact ⟨_, rfl, law_post (P := Tryz.prog) (tb := 4) Tryz.laidOut6 (by decide +kernel) (by kernel_rfl) (by kernel_rfl) rfl hW' rfl hb⟩

theorem clusterKnown_facts : joinedFacts Tryz.pinned.checked.prog 6 Tryz.f6 Rows.clusterKnownSpec Rows.clusterKnownRow = true := by
  simp only [joinedFacts, Bool.and_eq_true]
  exact ⟨⟨⟨⟨⟨⟨⟨⟨⟨⟨⟨⟨⟨⟨⟨⟨⟨⟨⟨⟨⟨⟨⟨⟨⟨⟨⟨⟨⟨⟨⟨(by as_aux_lemma => kernel_rfl), jLaid⟩, jMaps⟩, (by as_aux_lemma => kernel_rfl)⟩, (by as_aux_lemma => kernel_rfl)⟩, (by as_aux_lemma => kernel_rfl)⟩, jStops⟩, (by as_aux_lemma => kernel_rfl)⟩, jKnobs⟩, j6a⟩, j6b⟩, j6c⟩, j6d⟩, (by as_aux_lemma => kernel_rfl)⟩, (by as_aux_lemma => kernel_rfl)⟩, (by as_aux_lemma => kernel_rfl)⟩, (by as_aux_lemma => kernel_rfl)⟩, (by as_aux_lemma => kernel_rfl)⟩, (by as_aux_lemma => kernel_rfl)⟩, (by as_aux_lemma => kernel_rfl)⟩, (by as_aux_lemma => kernel_rfl)⟩, (by as_aux_lemma => kernel_rfl)⟩, jPlain⟩, (by as_aux_lemma => kernel_rfl)⟩, jHeard⟩, jEnter⟩, jLifted⟩, (by as_aux_lemma => kernel_rfl)⟩, (by as_aux_lemma => kernel_rfl)⟩, (by as_aux_lemma => kernel_rfl)⟩, (by as_aux_lemma => kernel_rfl)⟩, (by as_aux_lemma => kernel_rfl)⟩
theorem clusterKnown_holds : Rows.ClusterKnownSaid :=
  OpenClaim.holds_of_wide 6 Tryz.f6 rfl rfl rfl rfl rfl rfl rfl ⟨rfl, rfl, rfl, rfl, rfl⟩ rfl rfl rfl rfl rfl (by as_aux_lemma => kernel_rfl) Tryz.func6 clusterKnown_facts
    (of_decide_eq_true (by as_aux_lemma => kernel_rfl)) (by unfold Func.isWrapper; first | (rw [if_pos (by decide +kernel)]; as_aux_lemma => kernel_rfl) | (rw [if_neg (by decide +kernel)]; exact ⟨rfl, rfl⟩))
    (fun os started H enc _ => clusterKnown_lifted os started H enc)
#print axioms clusterKnown_holds
end Go.Proofs.YtolmealocdgdhaaGreat
