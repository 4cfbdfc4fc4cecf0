/- AuditAlike: whatever the entries, the numbers and the views, the function returns true, and nothing that was there has turned. No condition. -/
import Derived.Test.YtolmealocdgdhaaGreatK17
import Derived.Test.YtolmealocdgdhaaGreatRows
import Derived.Test.YtolmealocdgdhaaGreatJP
import Derived.Test.YtolmealocdgdhaaGreatJQ
import Derived.Test.YtolmealocdgdhaaGreatJ4a
import Derived.Test.YtolmealocdgdhaaGreatJ4b
import Derived.Test.YtolmealocdgdhaaGreatJ4c
import Derived.Test.YtolmealocdgdhaaGreatJ4d
namespace Go.Proofs.YtolmealocdgdhaaGreat
open Go Go.Abs Go.ChangeShapes Go.WideShapes Go.ChangeAt Go.RowKit
set_option maxRecDepth 20000
theorem E40_ok : EnvOk (Ea H40) := EV_ok.hookN 9 (fun args m r m' h => by
  obtain ⟨m1, hk⟩ := known_runs9
  exact closed_ok EV_ok Tryz.func9 (by kernel_rfl) (by decide +kernel) hk args m r m' h)
theorem E41_ok : EnvOk E41 := hooksC_ok E40_ok [45, 47]
theorem Tryz.own4 : ownKnob Tryz.prog.godebug = none := by kernel_rfl
theorem Tryz.laidOut4 : laidOutB Tryz.prog = true := by kernel_rfl
theorem begins4 : Tryz.prog.globals.size < (begin Tryz.prog (fun _ _ => 0) default).world.heap.size := of_decide_eq_true (by kernel_rfl)
theorem auditAlike_lifted (os : Os) (started : os.Started) (H : Type) (enc : TypeId × Value → H) :
    ReturnsInHanded {} Tryz.checked os 4 .any (Rows.auditAlikeSpec.pre6 enc Tryz.prog Tryz.f4 Rows.auditAlikeRow.domain false) (Rows.auditAlikeSpec.post enc Tryz.prog Tryz.f4 false true false false) := by
  refine returnsInHanded_of_change_shaped (C := Tryz.checked) Tryz.own4 started (by kernel_rfl) Tryz.func4
    (ChangeSpec.witness6 (enc := enc) (C := Tryz.checked) false ⟨#[], #[.slice none 0 0, .slice none 0 0, .int .u64 0, .int .u64 0, .bool false, .bool false, .int .i64 0, .slice none 0 0], []⟩ 8 (by kernel_rfl) (by kernel_rfl) (by kernel_rfl) (by kernel_rfl)) ?_
  intro W base args ds gs before hval0 hW hcnd hwt hsh _
  have hW' := hW
  obtain ⟨p, q, hA0, hV, rfl, hfz, hnd⟩ := hW
  have hA : DataW.TrodAll enc Tryz.prog W 0 (fun _ => true) true Tryz.f4.params.toList args.toList ds p := hA0
  rw [Tryz.params4] at hA hwt
  obtain ⟨v1, vs1, d1, ds1, p1, q1, ha1, rfl, hr1, hA1⟩ := argAll_cons hA
  obtain ⟨v2, vs2, d2, ds2, p2, q2, rfl, rfl, hr2, hA2⟩ := argAll_cons hA1
  obtain ⟨v3, vs3, d3, ds3, p3, q3, rfl, rfl, hr3, hA3⟩ := argAll_cons hA2
  obtain ⟨v4, vs4, d4, ds4, p4, q4, rfl, rfl, hr4, hA4⟩ := argAll_cons hA3
  obtain ⟨v5, vs5, d5, ds5, p5, q5, rfl, rfl, hr5, hA5⟩ := argAll_cons hA4
  obtain ⟨v6, vs6, d6, ds6, p6, q6, rfl, rfl, hr6, hA6⟩ := argAll_cons hA5
  obtain ⟨v7, vs7, d7, ds7, p7, q7, rfl, rfl, hr7, hA7⟩ := argAll_cons hA6
  obtain ⟨v8, vs8, d8, ds8, p8, q8, rfl, rfl, hr8, hA8⟩ := argAll_cons hA7
  obtain ⟨rfl, rfl⟩ := argAll_nil hA8
  obtain ⟨rfl, rfl⟩ := trodVars_none hV
  have hargs : args = #[v1, v2, v3, v4, v5, v6, v7, v8] := by rw [← Array.toArray_toList (xs := args), ha1]
  subst hargs
  have hwt' : ∀ k, k ∈ DataW.weightsEach Tryz.prog (#[29, 29, 22, 22, 4, 4, 3, 36] : Array TypeId).toList [d1, d2, d3, d4, d5, d6, d7, d8] → k ≤ reachBytes := fun k hk => by
    have := List.all_eq_true.1 hwt k (by simpa [DataW.weightsEach, show Tryz.checked.prog = Tryz.prog from rfl] using hk)
    simpa using this
  simp only [DataW.weightsEach, List.mem_append] at hwt'
  obtain ⟨ra, hra⟩ := arg_ents (hval0 0 29 v1 (by kernel_rfl) rfl) hr1 (fun k hk => hwt' k (.inl hk))
  obtain ⟨rb, hrb⟩ := arg_ents (hval0 1 29 v2 (by kernel_rfl) rfl) hr2 (fun k hk => hwt' k (.inr (.inl hk)))
  obtain ⟨x, rfl, hx1, hx2⟩ := arg_int (W := W) (k := .u64) (P := Tryz.prog) (t := 22) (by kernel_rfl) (hval0 2 22 v3 (by kernel_rfl) rfl)
  obtain ⟨y, rfl, hy1, hy2⟩ := arg_int (W := W) (k := .u64) (P := Tryz.prog) (t := 22) (by kernel_rfl) (hval0 3 22 v4 (by kernel_rfl) rfl)
  obtain ⟨bp, rfl⟩ := arg_bool (W := W) (P := Tryz.prog) (t := 4) (by kernel_rfl) (hval0 4 4 v5 (by kernel_rfl) rfl)
  obtain ⟨bq, rfl⟩ := arg_bool (W := W) (P := Tryz.prog) (t := 4) (by kernel_rfl) (hval0 5 4 v6 (by kernel_rfl) rfl)
  obtain ⟨n, rfl, _, _⟩ := arg_int (W := W) (k := .i64) (P := Tryz.prog) (t := 3) (by kernel_rfl) (hval0 6 3 v7 (by kernel_rfl) rfl)
  obtain ⟨l, hl1, hl2, hl3⟩ := arg_views (hval0 7 36 v8 (by kernel_rfl) rfl) hr8 (fun k hk => hwt' k (.inr (.inr (.inr (.inr (.inr (.inr (.inr (.inl hk)))))))))
  have e0 : IntKind.u64.min = 0 := by decide
  obtain ⟨m', hrun⟩ := law_is hra hrb (x := x) (y := y) (by omega) (by omega) bp bq n hl1 hl2 (Nat.le_trans hl3 (by unfold reachBytes maxBytes; omega))
  refine (law_calls (E := E41) E41_ok (f := 4) Tryz.func4 (by kernel_rfl) (by decide +kernel) (shaped_size hsh begins4) (args := [v1, v2, .int .u64 x, .int .u64 y, .bool bp, .bool bq, .int .i64 n, v8]) hrun).mono fun e W' ⟨he, hb⟩ => ?_
  subst he
  exact ⟨_, rfl, law_post (P := Tryz.prog) (tb := 4) Tryz.laidOut4 (by decide +kernel) (by kernel_rfl) (by kernel_rfl) rfl hW' rfl hb⟩
theorem auditAlike_facts : joinedFacts Tryz.pinned.checked.prog 4 Tryz.f4 Rows.auditAlikeSpec Rows.auditAlikeRow = true := by
  simp only [joinedFacts, Bool.and_eq_true]
  exact ⟨⟨⟨⟨⟨⟨⟨⟨⟨⟨⟨⟨⟨⟨⟨⟨⟨⟨⟨⟨⟨⟨⟨⟨⟨⟨⟨⟨⟨⟨⟨(by as_aux_lemma => kernel_rfl), jLaid⟩, jMaps⟩, (by as_aux_lemma => kernel_rfl)⟩, (by as_aux_lemma => kernel_rfl)⟩, (by as_aux_lemma => kernel_rfl)⟩, jStops⟩, (by as_aux_lemma => kernel_rfl)⟩, jKnobs⟩, j4a⟩, j4b⟩, j4c⟩, j4d⟩, (by as_aux_lemma => kernel_rfl)⟩, (by as_aux_lemma => kernel_rfl)⟩, (by as_aux_lemma => kernel_rfl)⟩, (by as_aux_lemma => kernel_rfl)⟩, (by as_aux_lemma => kernel_rfl)⟩, (by as_aux_lemma => kernel_rfl)⟩, (by as_aux_lemma => kernel_rfl)⟩, (by as_aux_lemma => kernel_rfl)⟩, (by as_aux_lemma => kernel_rfl)⟩, jPlain⟩, (by as_aux_lemma => kernel_rfl)⟩, jHeard⟩, jEnter⟩, jLifted⟩, (by as_aux_lemma => kernel_rfl)⟩, (by as_aux_lemma => kernel_rfl)⟩, (by as_aux_lemma => kernel_rfl)⟩, (by as_aux_lemma => kernel_rfl)⟩, (by as_aux_lemma => kernel_rfl)⟩
theorem auditAlike_holds : Rows.AuditAlikeSaid :=
  OpenClaim.holds_of_wide 4 Tryz.f4 rfl rfl rfl rfl rfl rfl rfl ⟨rfl, rfl, rfl, rfl, rfl⟩ rfl rfl rfl rfl rfl (by as_aux_lemma => kernel_rfl) Tryz.func4 auditAlike_facts
    (of_decide_eq_true (by as_aux_lemma => kernel_rfl)) (by unfold Func.isWrapper; first | (rw [if_pos (by decide +kernel)]; as_aux_lemma => kernel_rfl) | (rw [if_neg (by decide +kernel)]; exact ⟨rfl, rfl⟩))
    (fun os started H enc _ => auditAlike_lifted os started H enc)
#print axioms auditAlike_holds
end Go.Proofs.YtolmealocdgdhaaGreat
