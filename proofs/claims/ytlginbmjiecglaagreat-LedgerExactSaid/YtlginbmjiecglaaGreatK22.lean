/- Texts of one claim, put together. -/
import Derived.Test.YtlginbmjiecglaaGreatK21
section
namespace Go.Proofs.YtlginbmjiecglaaGreat
open Go Go.Abs Go.ChangeShapes Go.WideShapes Go.ChangeAt Go.RowKit
set_option maxRecDepth 10000

theorem Tryz.ownL : ownKnob Tryz.prog.godebug = none := by kernel_rfl
theorem Tryz.laidOutL : laidOutB Tryz.prog = true := by kernel_rfl
theorem beginsL : Tryz.prog.globals.size < (begin Tryz.prog (fun _ _ => 0) default).world.heap.size := of_decide_eq_true (by kernel_rfl)

theorem ledgerExact_lifted (os : Os) (started : os.Started) (H : Type) (enc : TypeId × Value → H) :
    ReturnsInHanded {} Tryz.checked os 3 .any (Rows.ledgerExactSpec.pre6 enc Tryz.prog Tryz.f3 Rows.ledgerExactRow.domain false) (Rows.ledgerExactSpec.post enc Tryz.prog Tryz.f3 false true false false) := by
  refine returnsInHanded_of_change_shaped (C := Tryz.checked) Tryz.ownL started (by kernel_rfl) Tryz.func3
    (ChangeSpec.witness6 (enc := enc) (C := Tryz.checked) false ⟨#[], #[.int .u32 0, .int .u32 0, .int .u32 0, .int .i64 0, .int .i64 0, .int .i64 0], []⟩ 8 (by kernel_rfl) (by kernel_rfl) (by kernel_rfl) (by kernel_rfl)) ?_
  intro W base args ds gs before hval0 hW hcnd _ hsh _
  have hW' := hW
  obtain ⟨p, q, hA0, hV, rfl, hfz, hnd⟩ := hW
  have hA : DataW.TrodAll enc Tryz.prog W 0 (fun _ => true) true Tryz.f3.params.toList args.toList ds p := hA0
  rw [Tryz.params3] at hA
  obtain ⟨v1, vs1, d1, ds1, p1, q1, ha1, rfl, hr1, hA1⟩ := argAll_cons hA
  obtain ⟨v2, vs2, d2, ds2, p2, q2, rfl, rfl, hr2, hA2⟩ := argAll_cons hA1
  obtain ⟨v3, vs3, d3, ds3, p3, q3, rfl, rfl, hr3, hA3⟩ := argAll_cons hA2
  obtain ⟨v4, vs4, d4, ds4, p4, q4, rfl, rfl, hr4, hA4⟩ := argAll_cons hA3
  obtain ⟨v5, vs5, d5, ds5, p5, q5, rfl, rfl, hr5, hA5⟩ := argAll_cons hA4
  obtain ⟨v6, vs6, d6, ds6, p6, q6, rfl, rfl, hr6, hA6⟩ := argAll_cons hA5
  obtain ⟨rfl, rfl⟩ := argAll_nil hA6
  obtain ⟨rfl, rfl⟩ := trodVars_none hV
  have hargs : args = #[v1, v2, v3, v4, v5, v6] := by rw [← Array.toArray_toList (xs := args), ha1]
  subst hargs
  obtain ⟨n, rfl, hn1', hn2'⟩ := arg_int (W := W) (k := .u32) (P := Tryz.prog) (t := 22) (by kernel_rfl) (hval0 0 22 v1 (by kernel_rfl) rfl)
  obtain ⟨a, rfl, ha1', ha2'⟩ := arg_int (W := W) (k := .u32) (P := Tryz.prog) (t := 22) (by kernel_rfl) (hval0 1 22 v2 (by kernel_rfl) rfl)
  obtain ⟨r, rfl, hr1', hr2'⟩ := arg_int (W := W) (k := .u32) (P := Tryz.prog) (t := 22) (by kernel_rfl) (hval0 2 22 v3 (by kernel_rfl) rfl)
  obtain ⟨sx, rfl, hsx1, hsx2⟩ := arg_int (W := W) (k := .i64) (P := Tryz.prog) (t := 3) (by kernel_rfl) (hval0 3 3 v4 (by kernel_rfl) rfl)
  obtain ⟨sy, rfl, hsy1, hsy2⟩ := arg_int (W := W) (k := .i64) (P := Tryz.prog) (t := 3) (by kernel_rfl) (hval0 4 3 v5 (by kernel_rfl) rfl)
  obtain ⟨sr, rfl, hsr1, hsr2⟩ := arg_int (W := W) (k := .i64) (P := Tryz.prog) (t := 3) (by kernel_rfl) (hval0 5 3 v6 (by kernel_rfl) rfl)
  have u0 : ∀ {x : Int}, IntKind.u32.min ≤ x → x ≤ IntKind.u32.max → 0 ≤ x ∧ x < 4294967296 := by
    intro x h1 h2
    have e1 : IntKind.u32.min = 0 := by decide
    have e2 : IntKind.u32.max = 4294967295 := by decide
    omega
  obtain ⟨m', hrun⟩ := exact_is (absM W) sx sy sr (u0 hn1' hn2') (u0 ha1' ha2') (u0 hr1' hr2')
  refine (law_calls (E := E19) E19_ok (f := 3) Tryz.func3 (by kernel_rfl) (by decide +kernel) (shaped_size hsh beginsL) (args := [.int .u32 n, .int .u32 a, .int .u32 r, .int .i64 sx, .int .i64 sy, .int .i64 sr]) hrun).mono fun e W' ⟨he, hb⟩ => ?_
  subst he
  exact ⟨_, rfl, law_post (P := Tryz.prog) (tb := 4) Tryz.laidOutL (by decide +kernel) (by kernel_rfl) (by kernel_rfl) rfl hW' rfl hb⟩

theorem ledgerExact_holds : Rows.LedgerExactSaid :=
  OpenClaim.holds_of_wide 3 Tryz.f3 rfl rfl rfl rfl rfl rfl rfl ⟨rfl, rfl, rfl, rfl, rfl⟩ rfl rfl rfl rfl rfl (by kernel_rfl) Tryz.func3 (by kernel_rfl)
    (of_decide_eq_true (by kernel_rfl)) (by unfold Func.isWrapper; first | (rw [if_pos (by decide +kernel)]; kernel_rfl) | (rw [if_neg (by decide +kernel)]; exact ⟨rfl, rfl⟩))
    (fun os started H enc _ => ledgerExact_lifted os started H enc)
#print axioms ledgerExact_holds
end Go.Proofs.YtlginbmjiecglaaGreat
end
