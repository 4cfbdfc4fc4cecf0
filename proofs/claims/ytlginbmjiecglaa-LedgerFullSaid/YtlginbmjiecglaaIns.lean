/- slices.Insert at each of its types: what its text does. Made by our own program (wip/tools/mkenv.py) out of wip/abs/Ins.tmpl. -/
import Derived.Test.YtlginbmjiecglaaInsEqs
import Derived.Test.YtlginbmjiecglaaAbs26
namespace Go.Proofs.Ytlginbmjiecglaa
open Go Go.Abs
set_option maxRecDepth 4000
theorem ins26 : InsText E0 26 65 1 16 ((zeroA Try.prog 9).getD []) :=
  ins_text (E := E0) (ti := 3) (e := 9) (ov := fun v s m => run E0 (.fn 37) [v, s] m) (rot := fun v k m => run E0 (.fn 38) [v, k] m) (by kernel_rfl) (by kernel_rfl) (by kernel_rfl) (by kernel_rfl)
    (fun v s m => run_hook (E := E0) (h := overlapsH) rfl [v, s] m) (fun a0 a1 a2 m => by
      simp only [f26_eq, g26_0_eq, g26_1_eq, g26_2_eq, g26_3_eq]
      rfl)
theorem ins27 : InsText E0 27 66 4 40 ((zeroA Try.prog 44).getD []) :=
  ins_text (E := E0) (ti := 3) (e := 44) (ov := fun v s m => run E0 (.fn 39) [v, s] m) (rot := fun v k m => run E0 (.fn 40) [v, k] m) (by kernel_rfl) (by kernel_rfl) (by kernel_rfl) (by kernel_rfl)
    (fun v s m => run_hook (E := E0) (h := overlapsH) rfl [v, s] m) (fun a0 a1 a2 m => by
      simp only [f27_eq, g27_0_eq, g27_1_eq, g27_2_eq, g27_3_eq]
      rfl)
theorem ins29 : InsText E0 29 72 1 8 ((zeroA Try.prog 22).getD []) :=
  ins_text (E := E0) (ti := 3) (e := 22) (ov := fun v s m => run E0 (.fn 43) [v, s] m) (rot := fun v k m => run E0 (.fn 44) [v, k] m) (by kernel_rfl) (by kernel_rfl) (by kernel_rfl) (by kernel_rfl)
    (fun v s m => run_hook (E := E0) (h := overlapsH) rfl [v, s] m) (fun a0 a1 a2 m => by
      simp only [f29_eq, g29_0_eq, g29_1_eq, g29_2_eq, g29_3_eq]
      rfl)
theorem ins30 : InsText E0 30 73 4 40 ((zeroA Try.prog 54).getD []) :=
  ins_text (E := E0) (ti := 3) (e := 54) (ov := fun v s m => run E0 (.fn 45) [v, s] m) (rot := fun v k m => run E0 (.fn 46) [v, k] m) (by kernel_rfl) (by kernel_rfl) (by kernel_rfl) (by kernel_rfl)
    (fun v s m => run_hook (E := E0) (h := overlapsH) rfl [v, s] m) (fun a0 a1 a2 m => by
      simp only [f30_eq, g30_0_eq, g30_1_eq, g30_2_eq, g30_3_eq]
      rfl)
end Go.Proofs.Ytlginbmjiecglaa
