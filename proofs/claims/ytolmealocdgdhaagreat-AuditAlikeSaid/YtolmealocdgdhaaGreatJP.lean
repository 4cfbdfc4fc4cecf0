/- Facts of the program, by the kernel. Printed by our own program (wip/known/mkkw.py). -/
import Derived.Test.YtolmealocdgdhaaGreatRows
import Derived.JoinedOf
import Derived.KernelRfl
namespace Go.Proofs.YtolmealocdgdhaaGreat
open Go
set_option maxRecDepth 20000
theorem jLaid : laidOutB Tryz.pinned.checked.prog = true := by kernel_rfl
theorem jMaps : mapsRowed Tryz.pinned.checked.prog = true := by kernel_rfl
theorem jStops : (Tryz.pinned.checked.prog.stops == []) = true := by kernel_rfl
theorem jKnobs : (Tryz.pinned.checked.prog.stopKnobs == []) = true := by kernel_rfl
end Go.Proofs.YtolmealocdgdhaaGreat
