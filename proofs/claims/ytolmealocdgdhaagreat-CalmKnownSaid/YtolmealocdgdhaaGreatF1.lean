/- Rounds, looked at by the kernel. Printed by our own program (wip/tools/mkfrz.py). -/
import Derived.Test.YtolmealocdgdhaaGreatK9
import Derived.Test.YtolmealocdgdhaaGreatFD
import Derived.KernelRfl
namespace Go.Proofs.YtolmealocdgdhaaGreat
open Go Go.Abs
set_option maxRecDepth 20000
theorem frz5_chk : frz5.chk (fun xs m => (XD EV TB 4000).call (.fn 82) xs m) = true := by kernel_rfl
theorem frz6_chk : frz6.chk (fun xs m => (XD EV TB 4000).call (.fn 82) xs m) = true := by kernel_rfl
theorem frz7_chk : frz7.chk (fun xs m => (XD EV TB 4000).call (.fn 82) xs m) = true := by kernel_rfl
theorem frz8_chk : frz8.chk (fun xs m => (XD EV TB 4000).call (.fn 82) xs m) = true := by kernel_rfl
theorem frz9_chk : frz9.chk (fun xs m => (XD EV TB 4000).call (.fn 82) xs m) = true := by kernel_rfl
end Go.Proofs.YtolmealocdgdhaaGreat
