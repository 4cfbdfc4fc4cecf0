/- Texts of one claim, put together. -/
import Derived.Test.YtolmealocdgdhaaGreatK16
import Derived.KernelRfl
section
namespace Go.Proofs.YtolmealocdgdhaaGreat
open Go Go.Abs
set_option maxRecDepth 20000
theorem frz5_chk : frz5.chk (fun xs m => (XD EV TB 4000).call (.fn 82) xs m) = true := by kernel_rfl
theorem frz6_chk : frz6.chk (fun xs m => (XD EV TB 4000).call (.fn 82) xs m) = true := by kernel_rfl
theorem frz7_chk : frz7.chk (fun xs m => (XD EV TB 4000).call (.fn 82) xs m) = true := by kernel_rfl
theorem frz8_chk : frz8.chk (fun xs m => (XD EV TB 4000).call (.fn 82) xs m) = true := by kernel_rfl
theorem frz9_chk : frz9.chk (fun xs m => (XD EV TB 4000).call (.fn 82) xs m) = true := by kernel_rfl
end Go.Proofs.YtolmealocdgdhaaGreat
end
