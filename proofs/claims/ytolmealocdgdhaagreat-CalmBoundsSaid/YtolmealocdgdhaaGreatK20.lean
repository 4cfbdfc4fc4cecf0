/- Texts of one claim, put together. -/
import Derived.Test.YtolmealocdgdhaaGreatK19
import Derived.KernelRfl
section
namespace Go.Proofs.YtolmealocdgdhaaGreat
open Go Go.Abs
set_option maxRecDepth 20000
theorem frz20_chk : frz20.chk (fun xs m => (XD EV TB 4000).call (.fn 82) xs m) = true := by kernel_rfl
theorem frz21_chk : frz21.chk (fun xs m => (XD EV TB 4000).call (.fn 82) xs m) = true := by kernel_rfl
theorem frz22_chk : frz22.chk (fun xs m => (XD EV TB 4000).call (.fn 82) xs m) = true := by kernel_rfl
theorem frz23_chk : frz23.chk (fun xs m => (XD EV TB 4000).call (.fn 82) xs m) = true := by kernel_rfl
theorem frz24_chk : frz24.chk (fun xs m => (XD EV TB 4000).call (.fn 82) xs m) = true := by kernel_rfl
end Go.Proofs.YtolmealocdgdhaaGreat
end
