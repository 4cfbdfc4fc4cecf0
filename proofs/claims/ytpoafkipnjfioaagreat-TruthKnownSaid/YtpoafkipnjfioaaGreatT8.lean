/- Functions as trees, printed by our own program (wip/tools/gen3.lean). -/
import Derived.Test.YtpoafkipnjfioaaGreatT0
namespace Go.Proofs.YtpoafkipnjfioaaGreat.T
open Go Go.Abs Go.Proofs.YtpoafkipnjfioaaGreat
set_option maxRecDepth 10000
variable {H : FuncId → Option (List AV → Mem → R)}
noncomputable def g244_0 : List AV → CM := apS fun t0 => apS fun t2 => ap0 <|
 CM.pu (p2 (binA Tryz.prog .geq 28) t0 (.int .u64 65536)) fun x0 =>
 CM.cond x0 (
 CM.pu (p2 (binA Tryz.prog .shr 28) t0 (.int .u64 16)) fun x1 =>
 CM.pu (p2 (binA Tryz.prog .add 3) t2 (.int .i64 16)) fun x2 =>
 CM.go 999425 [x1, x2]) (
 CM.go 999425 [t0, t2])
theorem g244_0_ok : EqD (Rl H) g244_0 (fun xs m => goR (EH H) Mk 999424 xs m) := sE fun _ => sE fun _ => zE fun _ => goR_eq 400 (by kernel_rfl)
noncomputable def g244_1 : List AV → CM := apS fun t0 => apS fun t2 => ap0 <|
 CM.pu (p2 (binA Tryz.prog .geq 28) t0 (.int .u64 256)) fun x0 =>
 CM.cond x0 (
 CM.pu (p2 (binA Tryz.prog .shr 28) t0 (.int .u64 8)) fun x1 =>
 CM.pu (p2 (binA Tryz.prog .add 3) t2 (.int .i64 8)) fun x2 =>
 CM.go 999426 [x1, x2]) (
 CM.go 999426 [t0, t2])
theorem g244_1_ok : EqD (Rl H) g244_1 (fun xs m => goR (EH H) Mk 999425 xs m) := sE fun _ => sE fun _ => zE fun _ => goR_eq 400 (by kernel_rfl)
noncomputable def g244_2 : List AV → CM := apS fun t0 => apS fun t2 => ap0 <|
 CM.pu (p1 (convA Tryz.prog 28 5) t0) fun x0 =>
 CM.pu (p2 (indexA Tryz.prog 9) (.str [0, 1, 2, 2, 3, 3, 3, 3, 4, 4, 4, 4, 4, 4, 4, 4, 5, 5, 5, 5, 5, 5, 5, 5, 5, 5, 5, 5, 5, 5, 5, 5, 6, 6, 6, 6, 6, 6, 6, 6, 6, 6, 6, 6, 6, 6, 6, 6, 6, 6, 6, 6, 6, 6, 6, 6, 6, 6, 6, 6, 6, 6, 6, 6, 7, 7, 7, 7, 7, 7, 7, 7, 7, 7, 7, 7, 7, 7, 7, 7, 7, 7, 7, 7, 7, 7, 7, 7, 7, 7, 7, 7, 7, 7, 7, 7, 7, 7, 7, 7, 7, 7, 7, 7, 7, 7, 7, 7, 7, 7, 7, 7, 7, 7, 7, 7, 7, 7, 7, 7, 7, 7, 7, 7, 7, 7, 7, 7, 8, 8, 8, 8, 8, 8, 8, 8, 8, 8, 8, 8, 8, 8, 8, 8, 8, 8, 8, 8, 8, 8, 8, 8, 8, 8, 8, 8, 8, 8, 8, 8, 8, 8, 8, 8, 8, 8, 8, 8, 8, 8, 8, 8, 8, 8, 8, 8, 8, 8, 8, 8, 8, 8, 8, 8, 8, 8, 8, 8, 8, 8, 8, 8, 8, 8, 8, 8, 8, 8, 8, 8, 8, 8, 8, 8, 8, 8, 8, 8, 8, 8, 8, 8, 8, 8, 8, 8, 8, 8, 8, 8, 8, 8, 8, 8, 8, 8, 8, 8, 8, 8, 8, 8, 8, 8, 8, 8, 8, 8, 8, 8, 8, 8, 8, 8, 8, 8, 8, 8, 8, 8, 8, 8, 8, 8, 8, 8]) x0) fun x1 =>
 CM.pu (p1 (convA Tryz.prog 5 3) x1) fun x2 =>
 CM.pu (p2 (binA Tryz.prog .add 3) t2 x2) fun x3 =>
 CM.ret x3
theorem g244_2_ok : EqD (Rl H) g244_2 (fun xs m => goR (EH H) Mk 999426 xs m) := sE fun _ => sE fun _ => zE fun _ => goR_eq 400 (by kernel_rfl)
noncomputable def f244 : List AV → CM := apS fun a0 => ap0 <|
 CM.pu (p2 (binA Tryz.prog .geq 28) a0 (.int .u64 4294967296)) fun x0 =>
 CM.cond x0 (
 CM.pu (p2 (binA Tryz.prog .shr 28) a0 (.int .u64 32)) fun x1 =>
 CM.go 999424 [x1, (.int .i64 32)]) (
 CM.go 999424 [a0, (.int .i64 0)])
theorem f244_ok (h : H 244 = none) : EqD (Rl H) f244 (fun xs m => run (EH H) (.fn 244) xs m) := sE fun _ => zE fun _ => run_eq 400 h (by kernel_rfl) (by kernel_rfl)
end Go.Proofs.YtpoafkipnjfioaaGreat.T
