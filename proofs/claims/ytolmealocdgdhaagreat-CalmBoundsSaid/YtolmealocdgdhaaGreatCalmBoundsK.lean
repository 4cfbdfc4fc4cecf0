/- CalmBounds: whatever the numbers of the two configs, the function returns true, and nothing that was there has turned. No condition. -/
import Derived.Test.YtolmealocdgdhaaGreatK23
import Derived.Test.YtolmealocdgdhaaGreatRows
import Derived.Test.YtolmealocdgdhaaGreatJP
import Derived.Test.YtolmealocdgdhaaGreatJQ
import Derived.Test.YtolmealocdgdhaaGreatJ8a
import Derived.Test.YtolmealocdgdhaaGreatJ8b
import Derived.Test.YtolmealocdgdhaaGreatJ8c
import Derived.Test.YtolmealocdgdhaaGreatJ8d
namespace Go.Proofs.YtolmealocdgdhaaGreat
open Go Go.Abs Go.ChangeShapes Go.WideShapes Go.ChangeAt Go.RowKit
set_option maxRecDepth 20000
theorem Tryz.own8 : ownKnob Tryz.prog.godebug = none := by kernel_rfl
theorem Tryz.laidOut8 : laidOutB Tryz.prog = true := by kernel_rfl
theorem begins8 : Tryz.prog.globals.size < (begin Tryz.prog (fun _ _ => 0) default).world.heap.size := of_decide_eq_true (by kernel_rfl)
abbrev ksC : List IntKind := [.i64, .i64, .i64, .i64, .i64, .i64, .i64, .i64, .i64, .i64, .i64, .i64, .u64]
abbrev ksR : List IntKind := [.i64, .i64, .i64, .i64, .i64, .i64, .i64, .i64, .i64, .i64, .i64, .i64, .i64]
theorem calmBounds_lifted (os : Os) (started : os.Started) (H : Type) (enc : TypeId × Value → H) :
    ReturnsInHanded {} Tryz.checked os 8 .any (Rows.calmBoundsSpec.pre6 enc Tryz.prog Tryz.f8 Rows.calmBoundsRow.domain false) (Rows.calmBoundsSpec.post enc Tryz.prog Tryz.f8 false true false false) := by
  refine returnsInHanded_of_change_shaped (C := Tryz.checked) Tryz.own8 started (by kernel_rfl) Tryz.func8
    (ChangeSpec.witness6 (enc := enc) (C := Tryz.checked) false ⟨#[], #[.agg #[.int .i64 0, .int .i64 0, .int .i64 0, .int .i64 0, .int .i64 0, .int .i64 0, .int .i64 0, .int .i64 0, .int .i64 0, .int .i64 0, .int .i64 0, .int .i64 0, .int .u64 0], .agg #[.int .i64 0, .int .i64 0, .int .i64 0, .int .i64 0, .int .i64 0, .int .i64 0, .int .i64 0, .int .i64 0, .int .i64 0, .int .i64 0, .int .i64 0, .int .i64 0, .int .i64 0], .int .i64 0], []⟩ 8 (by kernel_rfl) (by kernel_rfl) (by kernel_rfl) (by kernel_rfl)) ?_
  intro W base args ds gs before hval0 hW hcnd _ hsh _
  have hW' := hW
  obtain ⟨p, q, hA0, hV, rfl, hfz, hnd⟩ := hW
  have hA : DataW.TrodAll enc Tryz.prog W 0 (fun _ => true) true Tryz.f8.params.toList args.toList ds p := hA0
  rw [Tryz.params8] at hA
  obtain ⟨v1, vs1, d1, ds1, p1, q1, ha1, rfl, hr1, hA1⟩ := argAll_cons hA
  obtain ⟨v2, vs2, d2, ds2, p2, q2, rfl, rfl, hr2, hA2⟩ := argAll_cons hA1
  obtain ⟨v3, vs3, d3, ds3, p3, q3, rfl, rfl, hr3, hA3⟩ := argAll_cons hA2
  obtain ⟨rfl, rfl⟩ := argAll_nil hA3
  obtain ⟨rfl, rfl⟩ := trodVars_none hV
  have hargs : args = #[v1, v2, v3] := by rw [← Array.toArray_toList (xs := args), ha1]
  subst hargs
  obtain ⟨fs, hfs, hb, hn⟩ : ∃ fs, Tryz.prog.underlying 44 = some (.struct fs) ∧ kindsB Tryz.prog fs ksC = true ∧ Tryz.prog.cellsOf 44 = ksC.length := ⟨_, rfl, by kernel_rfl, by kernel_rfl⟩
  obtain ⟨fs', hfs', hb', hn'⟩ : ∃ fs, Tryz.prog.underlying 73 = some (.struct fs) ∧ kindsB Tryz.prog fs ksR = true ∧ Tryz.prog.cellsOf 73 = ksR.length := ⟨_, rfl, by kernel_rfl, by kernel_rfl⟩
  obtain ⟨ns, hl, e1⟩ := arg_kinds hfs hb hn (hval0 0 44 v1 (by kernel_rfl) rfl) hr1
  obtain ⟨ns', hl', e2⟩ := arg_kinds hfs' hb' hn' (hval0 1 73 v2 (by kernel_rfl) rfl) hr2
  obtain ⟨how, rfl, hk1, hk2⟩ := arg_int (W := W) (k := .i64) (P := Tryz.prog) (t := 3) (by kernel_rfl) (hval0 2 3 v3 (by kernel_rfl) rfl)
  match ns, hl, ns', hl', e1, e2 with
  | [y0, y1, y2, y3, y4, y5, y6, y7, y8, y9, y10, y11, y12], _, [z0, z1, z2, z3, z4, z5, z6, z7, z8, z9, z10, z11, z12], _, e1, e2 =>
    obtain ⟨m', hrun⟩ := law8 y0 y1 y2 y3 y4 y5 y6 y7 y8 y9 y10 y11 y12 z0 z1 z2 z3 z4 z5 z6 z7 z8 z9 z10 z11 z12 how (absM W)
    refine (law_calls (E := EG) EG_ok (f := 8) Tryz.func8 (by kernel_rfl) (by decide +kernel) (shaped_size hsh begins8) (args := [v1, v2, .int .i64 how]) (show run EG (.fn 8) [absV W v1, absV W v2, .int .i64 how] (absM W) = some (.bool true, m') by rw [e1, e2]; exact hrun)).mono fun e W' ⟨he, hb⟩ => ?_
    subst he
    exact ⟨_, rfl, law_post (P := Tryz.prog) (tb := 4) Tryz.laidOut8 (by decide +kernel) (by kernel_rfl) (by kernel_rfl) rfl hW' rfl hb⟩
theorem calmBounds_facts : joinedFacts Tryz.pinned.checked.prog 8 Tryz.f8 Rows.calmBoundsSpec Rows.calmBoundsRow = true := by
  simp only [joinedFacts, Bool.and_eq_true]
  exact ⟨⟨⟨⟨⟨⟨⟨⟨⟨⟨⟨⟨⟨⟨⟨⟨⟨⟨⟨⟨⟨⟨⟨⟨⟨⟨⟨⟨⟨⟨⟨(by as_aux_lemma => kernel_rfl), jLaid⟩, jMaps⟩, (by as_aux_lemma => kernel_rfl)⟩, (by as_aux_lemma => kernel_rfl)⟩, (by as_aux_lemma => kernel_rfl)⟩, jStops⟩, (by as_aux_lemma => kernel_rfl)⟩, jKnobs⟩, j8a⟩, j8b⟩, j8c⟩, j8d⟩, (by as_aux_lemma => kernel_rfl)⟩, (by as_aux_lemma => kernel_rfl)⟩, (by as_aux_lemma => kernel_rfl)⟩, (by as_aux_lemma => kernel_rfl)⟩, (by as_aux_lemma => kernel_rfl)⟩, (by as_aux_lemma => kernel_rfl)⟩, (by as_aux_lemma => kernel_rfl)⟩, (by as_aux_lemma => kernel_rfl)⟩, (by as_aux_lemma => kernel_rfl)⟩, jPlain⟩, (by as_aux_lemma => kernel_rfl)⟩, jHeard⟩, jEnter⟩, jLifted⟩, (by as_aux_lemma => kernel_rfl)⟩, (by as_aux_lemma => kernel_rfl)⟩, (by as_aux_lemma => kernel_rfl)⟩, (by as_aux_lemma => kernel_rfl)⟩, (by as_aux_lemma => kernel_rfl)⟩
theorem calmBounds_holds : Rows.CalmBoundsSaid :=
  OpenClaim.holds_of_wide 8 Tryz.f8 rfl rfl rfl rfl rfl rfl rfl ⟨rfl, rfl, rfl, rfl, rfl⟩ rfl rfl rfl rfl rfl (by as_aux_lemma => kernel_rfl) Tryz.func8 calmBounds_facts
    (of_decide_eq_true (by as_aux_lemma => kernel_rfl)) (by unfold Func.isWrapper; first | (rw [if_pos (by decide +kernel)]; as_aux_lemma => kernel_rfl) | (rw [if_neg (by decide +kernel)]; exact ⟨rfl, rfl⟩))
    (fun os started H enc _ => calmBounds_lifted os started H enc)
#print axioms calmBounds_holds
end Go.Proofs.YtolmealocdgdhaaGreat
