/- slices.Insert at each of its types: what its text does. Made by our own program (wip/tools/mkenv.py) out of wip/abs/Ins.tmpl. -/
import Derived.Test.YtamooapjonlcdaaGreatInsEqs
import Derived.Test.YtamooapjonlcdaaGreatAbs26
namespace Go.Proofs.YtamooapjonlcdaaGreat
open Go Go.Abs
theorem ins77 : InsText E0 77 156 1 16 ((zeroA Tryz.prog 9).getD []) :=
  ins_text (E := E0) (ti := 3) (e := 9) (ov := fun v s m => run E0 (.fn 135) [v, s] m) (rot := fun v k m => run E0 (.fn 136) [v, k] m) (by kernel_rfl) (by kernel_rfl) (by kernel_rfl) (by kernel_rfl)
    (fun v s m => run_hook (E := E0) (h := overlapsH) rfl [v, s] m) (fun a0 a1 a2 m => by
      simp only [f77_eq, g77_0_eq, g77_1_eq, g77_2_eq, g77_3_eq]
      rfl)
theorem ins78 : InsText E0 78 45 4 40 ((zeroA Tryz.prog 85).getD []) :=
  ins_text (E := E0) (ti := 3) (e := 85) (ov := fun v s m => run E0 (.fn 137) [v, s] m) (rot := fun v k m => run E0 (.fn 138) [v, k] m) (by kernel_rfl) (by kernel_rfl) (by kernel_rfl) (by kernel_rfl)
    (fun v s m => run_hook (E := E0) (h := overlapsH) rfl [v, s] m) (fun a0 a1 a2 m => by
      simp only [f78_eq, g78_0_eq, g78_1_eq, g78_2_eq, g78_3_eq]
      rfl)
theorem ins80 : InsText E0 80 142 1 8 ((zeroA Tryz.prog 30).getD []) :=
  ins_text (E := E0) (ti := 3) (e := 30) (ov := fun v s m => run E0 (.fn 141) [v, s] m) (rot := fun v k m => run E0 (.fn 142) [v, k] m) (by kernel_rfl) (by kernel_rfl) (by kernel_rfl) (by kernel_rfl)
    (fun v s m => run_hook (E := E0) (h := overlapsH) rfl [v, s] m) (fun a0 a1 a2 m => by
      simp only [f80_eq, g80_0_eq, g80_1_eq, g80_2_eq, g80_3_eq]
      rfl)
theorem ins81 : InsText E0 81 47 4 40 ((zeroA Tryz.prog 91).getD []) :=
  ins_text (E := E0) (ti := 3) (e := 91) (ov := fun v s m => run E0 (.fn 143) [v, s] m) (rot := fun v k m => run E0 (.fn 144) [v, k] m) (by kernel_rfl) (by kernel_rfl) (by kernel_rfl) (by kernel_rfl)
    (fun v s m => run_hook (E := E0) (h := overlapsH) rfl [v, s] m) (fun a0 a1 a2 m => by
      simp only [f81_eq, g81_0_eq, g81_1_eq, g81_2_eq, g81_3_eq]
      rfl)
theorem ins87 : InsText E0 87 46 9 88 ((zeroA Tryz.prog 54).getD []) :=
  ins_text (E := E0) (ti := 3) (e := 54) (ov := fun v s m => run E0 (.fn 148) [v, s] m) (rot := fun v k m => run E0 (.fn 149) [v, k] m) (by kernel_rfl) (by kernel_rfl) (by kernel_rfl) (by kernel_rfl)
    (fun v s m => run_hook (E := E0) (h := overlapsH) rfl [v, s] m) (fun a0 a1 a2 m => by
      simp only [f87_eq, g87_0_eq, g87_1_eq, g87_2_eq, g87_3_eq]
      rfl)
theorem ins166 : InsText E0 166 75 4 48 ((zeroA Tryz.prog 205).getD []) :=
  ins_text (E := E0) (ti := 3) (e := 205) (ov := fun v s m => run E0 (.fn 198) [v, s] m) (rot := fun v k m => run E0 (.fn 199) [v, k] m) (by kernel_rfl) (by kernel_rfl) (by kernel_rfl) (by kernel_rfl)
    (fun v s m => run_hook (E := E0) (h := overlapsH) rfl [v, s] m) (fun a0 a1 a2 m => by
      simp only [f166_eq, g166_0_eq, g166_1_eq, g166_2_eq, g166_3_eq]
      rfl)
end Go.Proofs.YtamooapjonlcdaaGreat
