/- The abstract evaluator over this program: the environment, and the looks at its functions. Printed by our own program (wip/tools/mkenv.py). -/
import Derived.Test.YtpoafkipnjfioaaGreatHints
import Derived.Test.YtpoafkipnjfioaaGreatAbs25
import Derived.KernelRfl
namespace Go.Proofs.YtpoafkipnjfioaaGreat
open Go Go.Abs
set_option maxRecDepth 4000
theorem looks : (List.range 266).all (fnLook Tryz.prog hints) = true := by kernel_rfl
noncomputable def H0 (f : FuncId) : Option (List AV → Mem → R) :=
  match f with
  | 144 => some overlapsH
  | 146 => some overlapsH
  | 150 => some overlapsH
  | 152 => some overlapsH
  | 154 => some sub64H
  | 155 => some add64H
  | 158 => some overlapsH
  | 223 => some overlapsH
  | _ => none
noncomputable def E0 : Env := envOf Tryz.prog hints H0
theorem E0_ok : EnvOk E0 := envOf_ok (by kernel_rfl) 266 (fun f h => by
    unfold hints; rw [List.getElem?_eq_none (by show 266 ≤ f; exact h)]; rfl) (fun f h => List.all_eq_true.1 looks f (List.mem_range.2 h)) (fun f h e => by
    unfold H0 at e
    split at e
    · have e1 := Option.some.inj e; subst e1; exact overlaps_ok (P := Tryz.prog) (fn := Tryz.f144) (st := 169) (tr := 4) (e := 9) (sz := 1) Tryz.func144 (by kernel_rfl) (by kernel_rfl) (by kernel_rfl) (by kernel_rfl) (by kernel_rfl) (by kernel_rfl)
    · have e1 := Option.some.inj e; subst e1; exact overlaps_ok (P := Tryz.prog) (fn := Tryz.f146) (st := 44) (tr := 4) (e := 92) (sz := 4) Tryz.func146 (by kernel_rfl) (by kernel_rfl) (by kernel_rfl) (by kernel_rfl) (by kernel_rfl) (by kernel_rfl)
    · have e1 := Option.some.inj e; subst e1; exact overlaps_ok (P := Tryz.prog) (fn := Tryz.f150) (st := 139) (tr := 4) (e := 28) (sz := 1) Tryz.func150 (by kernel_rfl) (by kernel_rfl) (by kernel_rfl) (by kernel_rfl) (by kernel_rfl) (by kernel_rfl)
    · have e1 := Option.some.inj e; subst e1; exact overlaps_ok (P := Tryz.prog) (fn := Tryz.f152) (st := 46) (tr := 4) (e := 100) (sz := 4) Tryz.func152 (by kernel_rfl) (by kernel_rfl) (by kernel_rfl) (by kernel_rfl) (by kernel_rfl) (by kernel_rfl)
    · have e1 := Option.some.inj e; subst e1; exact sub64_ok (P := Tryz.prog) (fn := Tryz.f154) Tryz.func154 (by kernel_rfl) (by kernel_rfl) (by kernel_rfl) (by kernel_rfl)
    · have e1 := Option.some.inj e; subst e1; exact add64_ok (P := Tryz.prog) (fn := Tryz.f155) Tryz.func155 (by kernel_rfl) (by kernel_rfl) (by kernel_rfl) (by kernel_rfl)
    · have e1 := Option.some.inj e; subst e1; exact overlaps_ok (P := Tryz.prog) (fn := Tryz.f158) (st := 45) (tr := 4) (e := 96) (sz := 9) Tryz.func158 (by kernel_rfl) (by kernel_rfl) (by kernel_rfl) (by kernel_rfl) (by kernel_rfl) (by kernel_rfl)
    · have e1 := Option.some.inj e; subst e1; exact overlaps_ok (P := Tryz.prog) (fn := Tryz.f223) (st := 67) (tr := 4) (e := 210) (sz := 4) Tryz.func223 (by kernel_rfl) (by kernel_rfl) (by kernel_rfl) (by kernel_rfl) (by kernel_rfl) (by kernel_rfl)
    · cases e)
end Go.Proofs.YtpoafkipnjfioaaGreat
