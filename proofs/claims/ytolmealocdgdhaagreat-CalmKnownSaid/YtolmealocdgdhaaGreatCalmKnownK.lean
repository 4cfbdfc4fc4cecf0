/- CalmKnown: the document's examples hold: called in whatever memory, the function returns true, and nothing that was there has turned. No condition. -/
import Derived.Test.YtolmealocdgdhaaGreatFR
import Derived.Test.YtolmealocdgdhaaGreatRows
import Derived.Test.YtolmealocdgdhaaGreatJP
import Derived.Test.YtolmealocdgdhaaGreatJQ
import Derived.Test.YtolmealocdgdhaaGreatJ7a
import Derived.Test.YtolmealocdgdhaaGreatJ7b
import Derived.Test.YtolmealocdgdhaaGreatJ7c
import Derived.Test.YtolmealocdgdhaaGreatJ7d
namespace Go.Proofs.YtolmealocdgdhaaGreat
open Go Go.Abs Go.ChangeShapes Go.WideShapes Go.ChangeAt Go.RowKit

theorem Tryz.own7 : ownKnob Tryz.prog.godebug = none := by kernel_rfl
theorem Tryz.laidOut7 : laidOutB Tryz.prog = true := by kernel_rfl
theorem begins7 : Tryz.prog.globals.size < (begin Tryz.prog (fun _ _ => 0) default).world.heap.size := of_decide_eq_true (by kernel_rfl)

theorem known_run7 : ((XD EF TF 4000).call (.fn 7) [] (noM (GP Tryz.prog))).map (·.1) = some (.bool true) := by kernel_rfl
theorem known_runs7 : ∃ m', run EF (.fn 7) [] (noM (GP Tryz.prog)) = some (.bool true, m') := by
  have h := known_run7
  cases e : (XD EF TF 4000).call (.fn 7) [] (noM (GP Tryz.prog)) with
  | none => rw [e] at h; cases h
  | some r =>
    rw [e] at h
    obtain ⟨v, m'⟩ := r
    simp only [Option.map_some, Option.some.injEq] at h
    subst h
    exact ⟨m', run_of_X (E := EF) F_ok 4000 e⟩

theorem calmKnown_lifted (os : Os) (started : os.Started) (H : Type) (enc : TypeId × Value → H) :
    ReturnsInHanded {} Tryz.checked os 7 .any (Rows.calmKnownSpec.pre6 enc Tryz.prog Tryz.f7 Rows.calmKnownRow.domain false) (Rows.calmKnownSpec.post enc Tryz.prog Tryz.f7 false true false false) := by
  refine returnsInHanded_of_change_shaped (C := Tryz.checked) Tryz.own7 started (by kernel_rfl) Tryz.func7
    (ChangeSpec.witness6 (enc := enc) (C := Tryz.checked) false ⟨#[], #[], []⟩ 8 (by kernel_rfl) (by kernel_rfl) (by kernel_rfl) (by kernel_rfl)) ?_
  intro W base args ds gs before hval0 hW hcnd _ hsh _
  have hW' := hW
  obtain ⟨p, q, hA0, hV, rfl, hfz, hnd⟩ := hW
  have hA : DataW.TrodAll enc Tryz.prog W 0 (fun _ => true) true Tryz.f7.params.toList args.toList ds p := hA0
  rw [Tryz.params7] at hA
  obtain ⟨rfl, rfl, rfl⟩ := trodAll_none hA
  obtain ⟨rfl, rfl⟩ := trodVars_none hV
  obtain ⟨m', hrun⟩ := known_runs7
  refine (law_closed (E := EF) EF_ok (f := 7) Tryz.func7 (by kernel_rfl) (by decide +kernel) (shaped_size hsh begins7) hrun).mono fun e W' ⟨he, hb⟩ => ?_
  subst he
  exact ⟨_, rfl, law_post (P := Tryz.prog) (tb := 4) Tryz.laidOut7 (by decide +kernel) (by kernel_rfl) (by kernel_rfl) rfl hW' rfl hb⟩

theorem calmKnown_facts : joinedFacts Tryz.pinned.checked.prog 7 Tryz.f7 Rows.calmKnownSpec Rows.calmKnownRow = true := by
  simp only [joinedFacts, Bool.and_eq_true]
  exact ⟨⟨⟨⟨⟨⟨⟨⟨⟨⟨⟨⟨⟨⟨⟨⟨⟨⟨⟨⟨⟨⟨⟨⟨⟨⟨⟨⟨⟨⟨⟨(by as_aux_lemma => kernel_rfl), jLaid⟩, jMaps⟩, (by as_aux_lemma => kernel_rfl)⟩, (by as_aux_lemma => kernel_rfl)⟩, (by as_aux_lemma => kernel_rfl)⟩, jStops⟩, (by as_aux_lemma => kernel_rfl)⟩, jKnobs⟩, j7a⟩, j7b⟩, j7c⟩, j7d⟩, (by as_aux_lemma => kernel_rfl)⟩, (by as_aux_lemma => kernel_rfl)⟩, (by as_aux_lemma => kernel_rfl)⟩, (by as_aux_lemma => kernel_rfl)⟩, (by as_aux_lemma => kernel_rfl)⟩, (by as_aux_lemma => kernel_rfl)⟩, (by as_aux_lemma => kernel_rfl)⟩, (by as_aux_lemma => kernel_rfl)⟩, (by as_aux_lemma => kernel_rfl)⟩, jPlain⟩, (by as_aux_lemma => kernel_rfl)⟩, jHeard⟩, jEnter⟩, jLifted⟩, (by as_aux_lemma => kernel_rfl)⟩, (by as_aux_lemma => kernel_rfl)⟩, (by as_aux_lemma => kernel_rfl)⟩, (by as_aux_lemma => kernel_rfl)⟩, (by as_aux_lemma => kernel_rfl)⟩
theorem calmKnown_holds : Rows.CalmKnownSaid :=
  OpenClaim.holds_of_wide 7 Tryz.f7 rfl rfl rfl rfl rfl rfl rfl ⟨rfl, rfl, rfl, rfl, rfl⟩ rfl rfl rfl rfl rfl (by as_aux_lemma => kernel_rfl) Tryz.func7 calmKnown_facts
    (of_decide_eq_true (by as_aux_lemma => kernel_rfl)) (by unfold Func.isWrapper; first | (rw [if_pos (by decide +kernel)]; as_aux_lemma => kernel_rfl) | (rw [if_neg (by decide +kernel)]; exact ⟨rfl, rfl⟩))
    (fun os started H enc _ => calmKnown_lifted os started H enc)
end Go.Proofs.YtolmealocdgdhaaGreat
