/- NodeKnown: the document's examples hold: called in whatever memory, the function returns true, and nothing that was there has turned. No condition. -/
import Derived.Test.YtolmealocdgdhaaGreatK9
import Derived.Test.YtolmealocdgdhaaGreatRows
import Derived.Test.YtolmealocdgdhaaGreatJP
import Derived.Test.YtolmealocdgdhaaGreatJQ
import Derived.Test.YtolmealocdgdhaaGreatJ5a
import Derived.Test.YtolmealocdgdhaaGreatJ5b
import Derived.Test.YtolmealocdgdhaaGreatJ5c
import Derived.Test.YtolmealocdgdhaaGreatJ5d
namespace Go.Proofs.YtolmealocdgdhaaGreat
open Go Go.Abs Go.ChangeShapes Go.WideShapes Go.ChangeAt Go.RowKit

theorem Tryz.own5 : ownKnob Tryz.prog.godebug = none := by kernel_rfl
theorem Tryz.laidOut5 : laidOutB Tryz.prog = true := by kernel_rfl
theorem begins5 : Tryz.prog.globals.size < (begin Tryz.prog (fun _ _ => 0) default).world.heap.size := of_decide_eq_true (by kernel_rfl)

theorem known_run5 : ((XD EV TB 4000).call (.fn 5) [] (noM (GP Tryz.prog))).map (·.1) = some (.bool true) := by kernel_rfl
theorem known_runs5 : ∃ m', run EV (.fn 5) [] (noM (GP Tryz.prog)) = some (.bool true, m') := by
  have h := known_run5
  cases e : (XD EV TB 4000).call (.fn 5) [] (noM (GP Tryz.prog)) with
  | none => rw [e] at h; cases h
  | some r =>
    rw [e] at h
    obtain ⟨v, m'⟩ := r
    simp only [Option.map_some, Option.some.injEq] at h
    subst h
    exact ⟨m', run_of_X (E := EV) V_ok 4000 e⟩

theorem nodeKnown_lifted (os : Os) (started : os.Started) (H : Type) (enc : TypeId × Value → H) :
    ReturnsInHanded {} Tryz.checked os 5 .any (Rows.nodeKnownSpec.pre6 enc Tryz.prog Tryz.f5 Rows.nodeKnownRow.domain false) (Rows.nodeKnownSpec.post enc Tryz.prog Tryz.f5 false true false false) := by
  refine returnsInHanded_of_change_shaped (C := Tryz.checked) Tryz.own5 started (by kernel_rfl) Tryz.func5
    (ChangeSpec.witness6 (enc := enc) (C := Tryz.checked) false ⟨#[], #[], []⟩ 8 (by kernel_rfl) (by kernel_rfl) (by kernel_rfl) (by kernel_rfl)) ?_
  intro W base args ds gs before hval0 hW hcnd _ hsh _
  have hW' := hW
  obtain ⟨p, q, hA0, hV, rfl, hfz, hnd⟩ := hW
  have hA : DataW.TrodAll enc Tryz.prog W 0 (fun _ => true) true Tryz.f5.params.toList args.toList ds p := hA0
  rw [Tryz.params5] at hA
  obtain ⟨rfl, rfl, rfl⟩ := trodAll_none hA
  obtain ⟨rfl, rfl⟩ := trodVars_none hV
  obtain ⟨m', hrun⟩ := known_runs5
  refine (law_closed (E := EV) EV_ok (f := 5) Tryz.func5 (by kernel_rfl) (by decide +kernel) (shaped_size hsh begins5) hrun).mono fun e W' ⟨he, hb⟩ => ?_
  subst he
  exact ⟨_, rfl, law_post (P := Tryz.prog) (tb := 4) Tryz.laidOut5 (by decide +kernel) (by kernel_rfl) (by kernel_rfl) rfl hW' rfl hb⟩

theorem nodeKnown_facts : joinedFacts Tryz.pinned.checked.prog 5 Tryz.f5 Rows.nodeKnownSpec Rows.nodeKnownRow = true := by
  simp only [joinedFacts, Bool.and_eq_true]
  exact ⟨⟨⟨⟨⟨⟨⟨⟨⟨⟨⟨⟨⟨⟨⟨⟨⟨⟨⟨⟨⟨⟨⟨⟨⟨⟨⟨⟨⟨⟨⟨(by as_aux_lemma => kernel_rfl), jLaid⟩, jMaps⟩, (by as_aux_lemma => kernel_rfl)⟩, (by as_aux_lemma => kernel_rfl)⟩, (by as_aux_lemma => kernel_rfl)⟩, jStops⟩, (by as_aux_lemma => kernel_rfl)⟩, jKnobs⟩, j5a⟩, j5b⟩, j5c⟩, j5d⟩, (by as_aux_lemma => kernel_rfl)⟩, (by as_aux_lemma => kernel_rfl)⟩, (by as_aux_lemma => kernel_rfl)⟩, (by as_aux_lemma => kernel_rfl)⟩, (by as_aux_lemma => kernel_rfl)⟩, (by as_aux_lemma => kernel_rfl)⟩, (by as_aux_lemma => kernel_rfl)⟩, (by as_aux_lemma => kernel_rfl)⟩, (by as_aux_lemma => kernel_rfl)⟩, jPlain⟩, (by as_aux_lemma => kernel_rfl)⟩, jHeard⟩, jEnter⟩, jLifted⟩, (by as_aux_lemma => kernel_rfl)⟩, (by as_aux_lemma => kernel_rfl)⟩, (by as_aux_lemma => kernel_rfl)⟩, (by as_aux_lemma => kernel_rfl)⟩, (by as_aux_lemma => kernel_rfl)⟩
theorem nodeKnown_holds : Rows.NodeKnownSaid :=
  OpenClaim.holds_of_wide 5 Tryz.f5 rfl rfl rfl rfl rfl rfl rfl ⟨rfl, rfl, rfl, rfl, rfl⟩ rfl rfl rfl rfl rfl (by as_aux_lemma => kernel_rfl) Tryz.func5 nodeKnown_facts
    (of_decide_eq_true (by as_aux_lemma => kernel_rfl)) (by unfold Func.isWrapper; first | (rw [if_pos (by decide +kernel)]; as_aux_lemma => kernel_rfl) | (rw [if_neg (by decide +kernel)]; exact ⟨rfl, rfl⟩))
    (fun os started H enc _ => nodeKnown_lifted os started H enc)
#print axioms nodeKnown_holds
end Go.Proofs.YtolmealocdgdhaaGreat
