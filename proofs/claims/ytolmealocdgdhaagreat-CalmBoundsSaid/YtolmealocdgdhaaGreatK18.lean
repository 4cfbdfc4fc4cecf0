/- Texts of one claim, put together. -/
import Derived.Test.YtolmealocdgdhaaGreatK17
import Derived.KernelRfl
section
namespace Go.Proofs.YtolmealocdgdhaaGreat
open Go Go.Abs
set_option maxRecDepth 20000
theorem frz10_chk : frz10.chk (fun xs m => (XD EV TB 4000).call (.fn 82) xs m) = true := by kernel_rfl
theorem frz11_chk : frz11.chk (fun xs m => (XD EV TB 4000).call (.fn 82) xs m) = true := by kernel_rfl
theorem frz12_chk : frz12.chk (fun xs m => (XD EV TB 4000).call (.fn 82) xs m) = true := by kernel_rfl
theorem frz13_chk : frz13.chk (fun xs m => (XD EV TB 4000).call (.fn 82) xs m) = true := by kernel_rfl
theorem frz14_chk : frz14.chk (fun xs m => (XD EV TB 4000).call (.fn 82) xs m) = true := by kernel_rfl
end Go.Proofs.YtolmealocdgdhaaGreat
end
