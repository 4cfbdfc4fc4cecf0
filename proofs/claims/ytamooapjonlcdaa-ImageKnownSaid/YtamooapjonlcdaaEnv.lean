/- The abstract evaluator over this program: the environment, and the looks at its functions. -/
import Derived.Test.YtamooapjonlcdaaHints
import Derived.KernelRfl
namespace Go.Proofs.Ytamooapjonlcdaa
open Go Go.Abs
noncomputable def E : Env := envOf Try.prog hints (fun _ => none)
theorem looks : (List.range 156).all (fnLook Try.prog hints) = true := by kernel_rfl
theorem E_ok : EnvOk E := envOf_ok (by kernel_rfl) 156 (fun f h => by
    unfold hints; rw [List.getElem?_eq_none (by show 156 ≤ f; exact h)]; rfl) (fun f h => List.all_eq_true.1 looks f (List.mem_range.2 h)) (fun f h e => by cases e)
end Go.Proofs.Ytamooapjonlcdaa
