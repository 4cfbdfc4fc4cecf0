/- The abstract evaluator over this program: the environment, and the looks at its functions. Printed by our own program (wip/tools/mkenv.py). -/
import Derived.Test.YtlginbmjiecglaaHints
import Derived.Test.YtlginbmjiecglaaAbs25
import Derived.KernelRfl
namespace Go.Proofs.Ytlginbmjiecglaa
open Go Go.Abs
set_option maxRecDepth 4000
theorem looks : (List.range 80).all (fnLook Try.prog hints) = true := by kernel_rfl
noncomputable def H0 (f : FuncId) : Option (List AV → Mem → R) :=
  match f with
  | 37 => some overlapsH
  | 39 => some overlapsH
  | 43 => some overlapsH
  | 45 => some overlapsH
  | 47 => some sub64H
  | 48 => some add64H
  | _ => none
noncomputable def E0 : Env := envOf Try.prog hints H0
theorem E0_ok : EnvOk E0 := envOf_ok (by kernel_rfl) 80 (fun f h => by
    unfold hints; rw [List.getElem?_eq_none (by show 80 ≤ f; exact h)]; rfl) (fun f h => List.all_eq_true.1 looks f (List.mem_range.2 h)) (fun f h e => by
    unfold H0 at e
    split at e
    · have e1 := Option.some.inj e; subst e1; exact overlaps_ok (P := Try.prog) (fn := Try.f37) (st := 65) (tr := 4) (e := 9) (sz := 1) Try.func37 (by kernel_rfl) (by kernel_rfl) (by kernel_rfl) (by kernel_rfl) (by kernel_rfl) (by kernel_rfl)
    · have e1 := Option.some.inj e; subst e1; exact overlaps_ok (P := Try.prog) (fn := Try.f39) (st := 66) (tr := 4) (e := 44) (sz := 4) Try.func39 (by kernel_rfl) (by kernel_rfl) (by kernel_rfl) (by kernel_rfl) (by kernel_rfl) (by kernel_rfl)
    · have e1 := Option.some.inj e; subst e1; exact overlaps_ok (P := Try.prog) (fn := Try.f43) (st := 72) (tr := 4) (e := 22) (sz := 1) Try.func43 (by kernel_rfl) (by kernel_rfl) (by kernel_rfl) (by kernel_rfl) (by kernel_rfl) (by kernel_rfl)
    · have e1 := Option.some.inj e; subst e1; exact overlaps_ok (P := Try.prog) (fn := Try.f45) (st := 73) (tr := 4) (e := 54) (sz := 4) Try.func45 (by kernel_rfl) (by kernel_rfl) (by kernel_rfl) (by kernel_rfl) (by kernel_rfl) (by kernel_rfl)
    · have e1 := Option.some.inj e; subst e1; exact sub64_ok (P := Try.prog) (fn := Try.f47) Try.func47 (by kernel_rfl) (by kernel_rfl) (by kernel_rfl) (by kernel_rfl)
    · have e1 := Option.some.inj e; subst e1; exact add64_ok (P := Try.prog) (fn := Try.f48) Try.func48 (by kernel_rfl) (by kernel_rfl) (by kernel_rfl) (by kernel_rfl)
    · cases e)
end Go.Proofs.Ytlginbmjiecglaa
