/- Texts of one claim, put together. -/
import Derived.Test.YtolmealocdgdhaaGreatK18
import Derived.KernelRfl
section
namespace Go.Proofs.YtolmealocdgdhaaGreat
open Go Go.Abs
set_option maxRecDepth 20000
theorem frz15_chk : frz15.chk (fun xs m => (XD EV TB 4000).call (.fn 82) xs m) = true := by kernel_rfl
theorem frz16_chk : frz16.chk (fun xs m => (XD EV TB 4000).call (.fn 82) xs m) = true := by kernel_rfl
theorem frz17_chk : frz17.chk (fun xs m => (XD EV TB 4000).call (.fn 82) xs m) = true := by kernel_rfl
theorem frz18_chk : frz18.chk (fun xs m => (XD EV TB 4000).call (.fn 82) xs m) = true := by kernel_rfl
theorem frz19_chk : frz19.chk (fun xs m => (XD EV TB 4000).call (.fn 82) xs m) = true := by kernel_rfl
end Go.Proofs.YtolmealocdgdhaaGreat
end
