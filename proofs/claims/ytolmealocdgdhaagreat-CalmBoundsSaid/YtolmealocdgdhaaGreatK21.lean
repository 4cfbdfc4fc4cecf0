/- Texts of one claim, put together. -/
import Derived.Test.YtolmealocdgdhaaGreatK20
import Derived.KernelRfl
section
namespace Go.Proofs.YtolmealocdgdhaaGreat
open Go Go.Abs
set_option maxRecDepth 20000
abbrev hooksF : List Nat := 82 :: (hooksN ++ localN)
noncomputable abbrev rounds : List Frz := [frz0, frz1, frz2, frz3, frz4, frz5, frz6, frz7, frz8, frz9, frz10, frz11, frz12, frz13, frz14, frz15, frz16, frz17, frz18, frz19, frz20, frz21, frz22, frz23, frz24]
theorem Xr_ok (xs : List AV) (m : Mem) (r : AV) (m2 : Mem) (h : (XD EV TB 4000).call (.fn 82) xs m = some (r, m2)) : FnOk EV.P (.fn 82) xs m r m2 := run_sound EV_ok (.fn 82) xs m r m2 (run_of_X V_ok 4000 h)
theorem rounds_ok : ∀ e ∈ rounds, FnOk EV.P (.fn 82) e.args e.M e.r e.M2 ∧ (∀ x ∈ e.pre, x.1 < e.next) ∧ ∀ x ∈ e.post, e.next ≤ x.1 ∨ hasKf e.pre x.1 = true := by
  intro e he
  simp only [rounds, List.mem_cons, List.not_mem_nil, or_false] at he
  rcases he with rfl | rfl | rfl | rfl | rfl | rfl | rfl | rfl | rfl | rfl | rfl | rfl | rfl | rfl | rfl | rfl | rfl | rfl | rfl | rfl | rfl | rfl | rfl | rfl | rfl
  · exact Frz.run_ok Xr_ok frz0_chk
  · exact Frz.run_ok Xr_ok frz1_chk
  · exact Frz.run_ok Xr_ok frz2_chk
  · exact Frz.run_ok Xr_ok frz3_chk
  · exact Frz.run_ok Xr_ok frz4_chk
  · exact Frz.run_ok Xr_ok frz5_chk
  · exact Frz.run_ok Xr_ok frz6_chk
  · exact Frz.run_ok Xr_ok frz7_chk
  · exact Frz.run_ok Xr_ok frz8_chk
  · exact Frz.run_ok Xr_ok frz9_chk
  · exact Frz.run_ok Xr_ok frz10_chk
  · exact Frz.run_ok Xr_ok frz11_chk
  · exact Frz.run_ok Xr_ok frz12_chk
  · exact Frz.run_ok Xr_ok frz13_chk
  · exact Frz.run_ok Xr_ok frz14_chk
  · exact Frz.run_ok Xr_ok frz15_chk
  · exact Frz.run_ok Xr_ok frz16_chk
  · exact Frz.run_ok Xr_ok frz17_chk
  · exact Frz.run_ok Xr_ok frz18_chk
  · exact Frz.run_ok Xr_ok frz19_chk
  · exact Frz.run_ok Xr_ok frz20_chk
  · exact Frz.run_ok Xr_ok frz21_chk
  · exact Frz.run_ok Xr_ok frz22_chk
  · exact Frz.run_ok Xr_ok frz23_chk
  · exact Frz.run_ok Xr_ok frz24_chk
noncomputable abbrev HF : FuncId → Option (List AV → Mem → R) := hookAt 82 (frzH rounds fun _ _ => none) HV
noncomputable abbrev EF : Env := { EV with H := HF }
theorem EF_ok : EnvOk EF := EV_ok.hookN 82 (frzH_ok (fun _ _ _ _ h => by cases h) rounds_ok)
theorem HF_free (f : Nat) (hf : f ∉ hooksF) : HF f = none := by
  have hd : f ≠ 82 := fun e => hf (by rw [e]; exact .head _)
  exact (hookAt_other hd _ _).trans (HV_free f fun h => hf (List.mem_cons_of_mem _ h))
noncomputable abbrev TF : Tb := (tbOf U.tab).less hooksF
theorem F_ok : TF.Ok EF (Mq EF) (Nq EF) := tbOf_ok U.chk hooksF fun f hf => HF_free f (less_free hf)
end Go.Proofs.YtolmealocdgdhaaGreat
end
