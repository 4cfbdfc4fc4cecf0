/- The abstract evaluator over this program: the environment, and the looks at its functions. -/
import Derived.Test.YtdmenbeiepfdiaaHints
import Derived.KernelRfl
namespace Go.Proofs.Ytdmenbeiepfdiaa
open Go Go.Abs
noncomputable def E : Env := envOf Try.prog hints (fun _ => none)
theorem looks : (List.range 46).all (fnLook Try.prog hints) = true := by kernel_rfl
theorem E_ok : EnvOk E := envOf_ok (by kernel_rfl) 46 (fun f h => by
    unfold hints; rw [List.getElem?_eq_none (by show 46 ≤ f; exact h)]; rfl) (fun f h => List.all_eq_true.1 looks f (List.mem_range.2 h)) (fun f h e => by cases e)
theorem known_run : (runF E 40 4 [] (noM (GP Try.prog))).map (·.1) = some (.bool true) := by kernel_rfl
end Go.Proofs.Ytdmenbeiepfdiaa
