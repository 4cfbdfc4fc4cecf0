/- The abstract evaluator over this program: the environment, and the looks at its functions. Printed by our own program (wip/tools/mkenv.py). -/
import Derived.Test.YtamooapjonlcdaaGreatHints
import Derived.Test.YtamooapjonlcdaaGreatAbs25
import Derived.KernelRfl
namespace Go.Proofs.YtamooapjonlcdaaGreat
open Go Go.Abs
theorem looks : (List.range 243).all (fnLook Tryz.prog hints) = true := by kernel_rfl
noncomputable def H0 (f : FuncId) : Option (List AV → Mem → R) :=
  match f with
  | 109 => some sub64H
  | 135 => some overlapsH
  | 137 => some overlapsH
  | 141 => some overlapsH
  | 143 => some overlapsH
  | 145 => some add64H
  | 148 => some overlapsH
  | 198 => some overlapsH
  | _ => none
noncomputable def E0 : Env := envOf Tryz.prog hints H0
theorem E0_ok : EnvOk E0 := envOf_ok (by kernel_rfl) 243 (fun f h => by
    unfold hints; rw [List.getElem?_eq_none (by show 243 ≤ f; exact h)]; rfl) (fun f h => List.all_eq_true.1 looks f (List.mem_range.2 h)) (fun f h e => by
    unfold H0 at e
    split at e
    · have e1 := Option.some.inj e; subst e1; exact sub64_ok (P := Tryz.prog) (fn := Tryz.f109) Tryz.func109 (by kernel_rfl) (by kernel_rfl) (by kernel_rfl) (by kernel_rfl)
    · have e1 := Option.some.inj e; subst e1; exact overlaps_ok (P := Tryz.prog) (fn := Tryz.f135) (st := 156) (tr := 4) (e := 9) (sz := 1) Tryz.func135 (by kernel_rfl) (by kernel_rfl) (by kernel_rfl) (by kernel_rfl) (by kernel_rfl) (by kernel_rfl)
    · have e1 := Option.some.inj e; subst e1; exact overlaps_ok (P := Tryz.prog) (fn := Tryz.f137) (st := 45) (tr := 4) (e := 85) (sz := 4) Tryz.func137 (by kernel_rfl) (by kernel_rfl) (by kernel_rfl) (by kernel_rfl) (by kernel_rfl) (by kernel_rfl)
    · have e1 := Option.some.inj e; subst e1; exact overlaps_ok (P := Tryz.prog) (fn := Tryz.f141) (st := 142) (tr := 4) (e := 30) (sz := 1) Tryz.func141 (by kernel_rfl) (by kernel_rfl) (by kernel_rfl) (by kernel_rfl) (by kernel_rfl) (by kernel_rfl)
    · have e1 := Option.some.inj e; subst e1; exact overlaps_ok (P := Tryz.prog) (fn := Tryz.f143) (st := 47) (tr := 4) (e := 91) (sz := 4) Tryz.func143 (by kernel_rfl) (by kernel_rfl) (by kernel_rfl) (by kernel_rfl) (by kernel_rfl) (by kernel_rfl)
    · have e1 := Option.some.inj e; subst e1; exact add64_ok (P := Tryz.prog) (fn := Tryz.f145) Tryz.func145 (by kernel_rfl) (by kernel_rfl) (by kernel_rfl) (by kernel_rfl)
    · have e1 := Option.some.inj e; subst e1; exact overlaps_ok (P := Tryz.prog) (fn := Tryz.f148) (st := 46) (tr := 4) (e := 54) (sz := 9) Tryz.func148 (by kernel_rfl) (by kernel_rfl) (by kernel_rfl) (by kernel_rfl) (by kernel_rfl) (by kernel_rfl)
    · have e1 := Option.some.inj e; subst e1; exact overlaps_ok (P := Tryz.prog) (fn := Tryz.f198) (st := 75) (tr := 4) (e := 205) (sz := 4) Tryz.func198 (by kernel_rfl) (by kernel_rfl) (by kernel_rfl) (by kernel_rfl) (by kernel_rfl) (by kernel_rfl)
    · cases e)
end Go.Proofs.YtamooapjonlcdaaGreat
