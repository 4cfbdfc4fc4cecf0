/- The abstract evaluator over this program: the environment, and the looks at its functions. Printed by our own program (wip/tools/mkenv.py). -/
import Derived.Test.YtfiipajgdhafaaaGreatHints
import Derived.Test.YtfiipajgdhafaaaGreatAbs25
import Derived.KernelRfl
namespace Go.Proofs.YtfiipajgdhafaaaGreat
open Go Go.Abs
set_option maxRecDepth 4000
theorem looks : (List.range 259).all (fnLook Tryz.prog hints) = true := by kernel_rfl
noncomputable def H0 (f : FuncId) : Option (List AV → Mem → R) :=
  match f with
  | 182 => some overlapsH
  | 184 => some overlapsH
  | 186 => some overlapsH
  | 190 => some overlapsH
  | 192 => some overlapsH
  | 194 => some overlapsH
  | 211 => some sub64H
  | 212 => some add64H
  | _ => none
noncomputable def E0 : Env := envOf Tryz.prog hints H0
theorem E0_ok : EnvOk E0 := envOf_ok (by kernel_rfl) 259 (fun f h => by
    unfold hints; rw [List.getElem?_eq_none (by show 259 ≤ f; exact h)]; rfl) (fun f h => List.all_eq_true.1 looks f (List.mem_range.2 h)) (fun f h e => by
    unfold H0 at e
    split at e
    · have e1 := Option.some.inj e; subst e1; exact overlaps_ok (P := Tryz.prog) (fn := Tryz.f182) (st := 206) (tr := 4) (e := 9) (sz := 1) Tryz.func182 (by kernel_rfl) (by kernel_rfl) (by kernel_rfl) (by kernel_rfl) (by kernel_rfl) (by kernel_rfl)
    · have e1 := Option.some.inj e; subst e1; exact overlaps_ok (P := Tryz.prog) (fn := Tryz.f184) (st := 89) (tr := 4) (e := 132) (sz := 4) Tryz.func184 (by kernel_rfl) (by kernel_rfl) (by kernel_rfl) (by kernel_rfl) (by kernel_rfl) (by kernel_rfl)
    · have e1 := Option.some.inj e; subst e1; exact overlaps_ok (P := Tryz.prog) (fn := Tryz.f186) (st := 90) (tr := 4) (e := 136) (sz := 9) Tryz.func186 (by kernel_rfl) (by kernel_rfl) (by kernel_rfl) (by kernel_rfl) (by kernel_rfl) (by kernel_rfl)
    · have e1 := Option.some.inj e; subst e1; exact overlaps_ok (P := Tryz.prog) (fn := Tryz.f190) (st := 116) (tr := 4) (e := 26) (sz := 1) Tryz.func190 (by kernel_rfl) (by kernel_rfl) (by kernel_rfl) (by kernel_rfl) (by kernel_rfl) (by kernel_rfl)
    · have e1 := Option.some.inj e; subst e1; exact overlaps_ok (P := Tryz.prog) (fn := Tryz.f192) (st := 91) (tr := 4) (e := 140) (sz := 4) Tryz.func192 (by kernel_rfl) (by kernel_rfl) (by kernel_rfl) (by kernel_rfl) (by kernel_rfl) (by kernel_rfl)
    · have e1 := Option.some.inj e; subst e1; exact overlaps_ok (P := Tryz.prog) (fn := Tryz.f194) (st := 95) (tr := 4) (e := 146) (sz := 4) Tryz.func194 (by kernel_rfl) (by kernel_rfl) (by kernel_rfl) (by kernel_rfl) (by kernel_rfl) (by kernel_rfl)
    · have e1 := Option.some.inj e; subst e1; exact sub64_ok (P := Tryz.prog) (fn := Tryz.f211) Tryz.func211 (by kernel_rfl) (by kernel_rfl) (by kernel_rfl) (by kernel_rfl)
    · have e1 := Option.some.inj e; subst e1; exact add64_ok (P := Tryz.prog) (fn := Tryz.f212) Tryz.func212 (by kernel_rfl) (by kernel_rfl) (by kernel_rfl) (by kernel_rfl)
    · cases e)
end Go.Proofs.YtfiipajgdhafaaaGreat
