/- A fact of the function, by the kernel. Printed by our own program (wip/known/mkkw.py). -/
import Derived.Test.YtolmealocdgdhaaGreatRows
import Derived.JoinedOf
import Derived.KernelRfl
namespace Go.Proofs.YtolmealocdgdhaaGreat
open Go
set_option maxRecDepth 20000
theorem j4a : (Rows.auditAlikeRow.inPlace == Tryz.pinned.checked.prog.inPlace 4) = true := by kernel_rfl
end Go.Proofs.YtolmealocdgdhaaGreat
