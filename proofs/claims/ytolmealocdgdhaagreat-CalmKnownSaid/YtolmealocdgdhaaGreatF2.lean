/- Rounds, looked at by the kernel. Printed by our own program (wip/tools/mkfrz.py). -/
import Derived.Test.YtolmealocdgdhaaGreatK9
import Derived.Test.YtolmealocdgdhaaGreatFD
import Derived.KernelRfl
namespace Go.Proofs.YtolmealocdgdhaaGreat
open Go Go.Abs
set_option maxRecDepth 20000
theorem frz10_chk : frz10.chk (fun xs m => (XD EV TB 4000).call (.fn 82) xs m) = true := by kernel_rfl
theorem frz11_chk : frz11.chk (fun xs m => (XD EV TB 4000).call (.fn 82) xs m) = true := by kernel_rfl
theorem frz12_chk : frz12.chk (fun xs m => (XD EV TB 4000).call (.fn 82) xs m) = true := by kernel_rfl
theorem frz13_chk : frz13.chk (fun xs m => (XD EV TB 4000).call (.fn 82) xs m) = true := by kernel_rfl
theorem frz14_chk : frz14.chk (fun xs m => (XD EV TB 4000).call (.fn 82) xs m) = true := by kernel_rfl
end Go.Proofs.YtolmealocdgdhaaGreat
