/- More facts of the program, by the kernel. Printed by our own program (wip/known/mkkw.py). -/
import Derived.Test.YtolmealocdgdhaaGreatRows
import Derived.JoinedOf
import Derived.KernelRfl
namespace Go.Proofs.YtolmealocdgdhaaGreat
open Go
set_option maxRecDepth 20000
theorem jPlain : (Rows.auditAlikeRow.plainKeys == Tryz.pinned.checked.prog.plainKeys) = true := by kernel_rfl
theorem jHeard : Tryz.pinned.checked.prog.stopsHeard = true := by kernel_rfl
theorem jEnter : Tryz.pinned.checked.prog.mayEnter = true := by kernel_rfl
theorem jLifted : (Rows.auditAlikeRow.lifted == Tryz.pinned.checked.prog.liftsFinal) = true := by kernel_rfl
end Go.Proofs.YtolmealocdgdhaaGreat
