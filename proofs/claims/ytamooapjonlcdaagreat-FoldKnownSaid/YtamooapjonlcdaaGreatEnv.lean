/- The abstract evaluator over this program: the environment, and the looks at its functions. Printed by our own program (wip/tools/mkenv.py). -/
import Derived.Test.YtamooapjonlcdaaGreatIns
namespace Go.Proofs.YtamooapjonlcdaaGreat
open Go Go.Abs
noncomputable def H (f : FuncId) : Option (List AV → Mem → R) :=
  match f with
  | 109 => some sub64H
  | 135 => some overlapsH
  | 137 => some overlapsH
  | 141 => some overlapsH
  | 143 => some overlapsH
  | 145 => some add64H
  | 148 => some overlapsH
  | 198 => some overlapsH
  | 77 => some (insH Tryz.prog 156)
  | 78 => some (insH Tryz.prog 45)
  | 80 => some (insH Tryz.prog 142)
  | 81 => some (insH Tryz.prog 47)
  | 87 => some (insH Tryz.prog 46)
  | 166 => some (insH Tryz.prog 75)
  | _ => none
noncomputable def E : Env := envOf Tryz.prog hints H
theorem E_ok : EnvOk E := envOf_ok (by kernel_rfl) 243 (fun f h => by
    unfold hints; rw [List.getElem?_eq_none (by show 243 ≤ f; exact h)]; rfl) (fun f h => List.all_eq_true.1 looks f (List.mem_range.2 h)) (fun f h e => by
    unfold H at e
    split at e
    · have e1 := Option.some.inj e; subst e1; exact sub64_ok (P := Tryz.prog) (fn := Tryz.f109) Tryz.func109 (by kernel_rfl) (by kernel_rfl) (by kernel_rfl) (by kernel_rfl)
    · have e1 := Option.some.inj e; subst e1; exact overlaps_ok (P := Tryz.prog) (fn := Tryz.f135) (st := 156) (tr := 4) (e := 9) (sz := 1) Tryz.func135 (by kernel_rfl) (by kernel_rfl) (by kernel_rfl) (by kernel_rfl) (by kernel_rfl) (by kernel_rfl)
    · have e1 := Option.some.inj e; subst e1; exact overlaps_ok (P := Tryz.prog) (fn := Tryz.f137) (st := 45) (tr := 4) (e := 85) (sz := 4) Tryz.func137 (by kernel_rfl) (by kernel_rfl) (by kernel_rfl) (by kernel_rfl) (by kernel_rfl) (by kernel_rfl)
    · have e1 := Option.some.inj e; subst e1; exact overlaps_ok (P := Tryz.prog) (fn := Tryz.f141) (st := 142) (tr := 4) (e := 30) (sz := 1) Tryz.func141 (by kernel_rfl) (by kernel_rfl) (by kernel_rfl) (by kernel_rfl) (by kernel_rfl) (by kernel_rfl)
    · have e1 := Option.some.inj e; subst e1; exact overlaps_ok (P := Tryz.prog) (fn := Tryz.f143) (st := 47) (tr := 4) (e := 91) (sz := 4) Tryz.func143 (by kernel_rfl) (by kernel_rfl) (by kernel_rfl) (by kernel_rfl) (by kernel_rfl) (by kernel_rfl)
    · have e1 := Option.some.inj e; subst e1; exact add64_ok (P := Tryz.prog) (fn := Tryz.f145) Tryz.func145 (by kernel_rfl) (by kernel_rfl) (by kernel_rfl) (by kernel_rfl)
    · have e1 := Option.some.inj e; subst e1; exact overlaps_ok (P := Tryz.prog) (fn := Tryz.f148) (st := 46) (tr := 4) (e := 54) (sz := 9) Tryz.func148 (by kernel_rfl) (by kernel_rfl) (by kernel_rfl) (by kernel_rfl) (by kernel_rfl) (by kernel_rfl)
    · have e1 := Option.some.inj e; subst e1; exact overlaps_ok (P := Tryz.prog) (fn := Tryz.f198) (st := 75) (tr := 4) (e := 205) (sz := 4) Tryz.func198 (by kernel_rfl) (by kernel_rfl) (by kernel_rfl) (by kernel_rfl) (by kernel_rfl) (by kernel_rfl)
    · have e1 := Option.some.inj e; subst e1; exact insert_ok (E := E0) E0_ok (st := 156) (e := 9) (by kernel_rfl) (by kernel_rfl) (by kernel_rfl) (by kernel_rfl) ⟨Tryz.f77, Tryz.func77, by kernel_rfl, by decide +kernel⟩ ins77
    · have e1 := Option.some.inj e; subst e1; exact insert_ok (E := E0) E0_ok (st := 45) (e := 85) (by kernel_rfl) (by kernel_rfl) (by kernel_rfl) (by kernel_rfl) ⟨Tryz.f78, Tryz.func78, by kernel_rfl, by decide +kernel⟩ ins78
    · have e1 := Option.some.inj e; subst e1; exact insert_ok (E := E0) E0_ok (st := 142) (e := 30) (by kernel_rfl) (by kernel_rfl) (by kernel_rfl) (by kernel_rfl) ⟨Tryz.f80, Tryz.func80, by kernel_rfl, by decide +kernel⟩ ins80
    · have e1 := Option.some.inj e; subst e1; exact insert_ok (E := E0) E0_ok (st := 47) (e := 91) (by kernel_rfl) (by kernel_rfl) (by kernel_rfl) (by kernel_rfl) ⟨Tryz.f81, Tryz.func81, by kernel_rfl, by decide +kernel⟩ ins81
    · have e1 := Option.some.inj e; subst e1; exact insert_ok (E := E0) E0_ok (st := 46) (e := 54) (by kernel_rfl) (by kernel_rfl) (by kernel_rfl) (by kernel_rfl) ⟨Tryz.f87, Tryz.func87, by kernel_rfl, by decide +kernel⟩ ins87
    · have e1 := Option.some.inj e; subst e1; exact insert_ok (E := E0) E0_ok (st := 75) (e := 205) (by kernel_rfl) (by kernel_rfl) (by kernel_rfl) (by kernel_rfl) ⟨Tryz.f166, Tryz.func166, by kernel_rfl, by decide +kernel⟩ ins166
    · cases e)
end Go.Proofs.YtamooapjonlcdaaGreat
