/- The abstract evaluator over this program: the environment, and the looks at its functions. Printed by our own program (wip/tools/mkenv.py). -/
import Derived.Test.YtfiipajgdhafaaaGreatIns
namespace Go.Proofs.YtfiipajgdhafaaaGreat
open Go Go.Abs
set_option maxRecDepth 4000
noncomputable def H (f : FuncId) : Option (List AV → Mem → R) :=
  match f with
  | 182 => some overlapsH
  | 184 => some overlapsH
  | 186 => some overlapsH
  | 190 => some overlapsH
  | 192 => some overlapsH
  | 194 => some overlapsH
  | 211 => some sub64H
  | 212 => some add64H
  | 133 => some (insH Tryz.prog 206)
  | 134 => some (insH Tryz.prog 89)
  | 135 => some (insH Tryz.prog 90)
  | 137 => some (insH Tryz.prog 116)
  | 138 => some (insH Tryz.prog 91)
  | 139 => some (insH Tryz.prog 95)
  | _ => none
noncomputable def E : Env := envOf Tryz.prog hints H
theorem E_ok : EnvOk E := envOf_ok (by kernel_rfl) 259 (fun f h => by
    unfold hints; rw [List.getElem?_eq_none (by show 259 ≤ f; exact h)]; rfl) (fun f h => List.all_eq_true.1 looks f (List.mem_range.2 h)) (fun f h e => by
    unfold H at e
    split at e
    · have e1 := Option.some.inj e; subst e1; exact overlaps_ok (P := Tryz.prog) (fn := Tryz.f182) (st := 206) (tr := 4) (e := 9) (sz := 1) Tryz.func182 (by kernel_rfl) (by kernel_rfl) (by kernel_rfl) (by kernel_rfl) (by kernel_rfl) (by kernel_rfl)
    · have e1 := Option.some.inj e; subst e1; exact overlaps_ok (P := Tryz.prog) (fn := Tryz.f184) (st := 89) (tr := 4) (e := 132) (sz := 4) Tryz.func184 (by kernel_rfl) (by kernel_rfl) (by kernel_rfl) (by kernel_rfl) (by kernel_rfl) (by kernel_rfl)
    · have e1 := Option.some.inj e; subst e1; exact overlaps_ok (P := Tryz.prog) (fn := Tryz.f186) (st := 90) (tr := 4) (e := 136) (sz := 9) Tryz.func186 (by kernel_rfl) (by kernel_rfl) (by kernel_rfl) (by kernel_rfl) (by kernel_rfl) (by kernel_rfl)
    · have e1 := Option.some.inj e; subst e1; exact overlaps_ok (P := Tryz.prog) (fn := Tryz.f190) (st := 116) (tr := 4) (e := 26) (sz := 1) Tryz.func190 (by kernel_rfl) (by kernel_rfl) (by kernel_rfl) (by kernel_rfl) (by kernel_rfl) (by kernel_rfl)
    · have e1 := Option.some.inj e; subst e1; exact overlaps_ok (P := Tryz.prog) (fn := Tryz.f192) (st := 91) (tr := 4) (e := 140) (sz := 4) Tryz.func192 (by kernel_rfl) (by kernel_rfl) (by kernel_rfl) (by kernel_rfl) (by kernel_rfl) (by kernel_rfl)
    · have e1 := Option.some.inj e; subst e1; exact overlaps_ok (P := Tryz.prog) (fn := Tryz.f194) (st := 95) (tr := 4) (e := 146) (sz := 4) Tryz.func194 (by kernel_rfl) (by kernel_rfl) (by kernel_rfl) (by kernel_rfl) (by kernel_rfl) (by kernel_rfl)
    · have e1 := Option.some.inj e; subst e1; exact sub64_ok (P := Tryz.prog) (fn := Tryz.f211) Tryz.func211 (by kernel_rfl) (by kernel_rfl) (by kernel_rfl) (by kernel_rfl)
    · have e1 := Option.some.inj e; subst e1; exact add64_ok (P := Tryz.prog) (fn := Tryz.f212) Tryz.func212 (by kernel_rfl) (by kernel_rfl) (by kernel_rfl) (by kernel_rfl)
    · have e1 := Option.some.inj e; subst e1; exact insert_ok (E := E0) E0_ok (st := 206) (e := 9) (by kernel_rfl) (by kernel_rfl) (by kernel_rfl) (by kernel_rfl) ⟨Tryz.f133, Tryz.func133, by kernel_rfl, by decide +kernel⟩ ins133
    · have e1 := Option.some.inj e; subst e1; exact insert_ok (E := E0) E0_ok (st := 89) (e := 132) (by kernel_rfl) (by kernel_rfl) (by kernel_rfl) (by kernel_rfl) ⟨Tryz.f134, Tryz.func134, by kernel_rfl, by decide +kernel⟩ ins134
    · have e1 := Option.some.inj e; subst e1; exact insert_ok (E := E0) E0_ok (st := 90) (e := 136) (by kernel_rfl) (by kernel_rfl) (by kernel_rfl) (by kernel_rfl) ⟨Tryz.f135, Tryz.func135, by kernel_rfl, by decide +kernel⟩ ins135
    · have e1 := Option.some.inj e; subst e1; exact insert_ok (E := E0) E0_ok (st := 116) (e := 26) (by kernel_rfl) (by kernel_rfl) (by kernel_rfl) (by kernel_rfl) ⟨Tryz.f137, Tryz.func137, by kernel_rfl, by decide +kernel⟩ ins137
    · have e1 := Option.some.inj e; subst e1; exact insert_ok (E := E0) E0_ok (st := 91) (e := 140) (by kernel_rfl) (by kernel_rfl) (by kernel_rfl) (by kernel_rfl) ⟨Tryz.f138, Tryz.func138, by kernel_rfl, by decide +kernel⟩ ins138
    · have e1 := Option.some.inj e; subst e1; exact insert_ok (E := E0) E0_ok (st := 95) (e := 146) (by kernel_rfl) (by kernel_rfl) (by kernel_rfl) (by kernel_rfl) ⟨Tryz.f139, Tryz.func139, by kernel_rfl, by decide +kernel⟩ ins139
    · cases e)
end Go.Proofs.YtfiipajgdhafaaaGreat
