/- slices.Insert at each of its types: what its text does. Made by our own program (wip/tools/mkenv.py) out of wip/abs/Ins.tmpl. -/
import Derived.Test.YtfiipajgdhafaaaGreatInsEqs
import Derived.Test.YtfiipajgdhafaaaGreatAbs26
namespace Go.Proofs.YtfiipajgdhafaaaGreat
open Go Go.Abs
theorem ins133 : InsText E0 133 206 1 16 ((zeroA Tryz.prog 9).getD []) :=
  ins_text (E := E0) (ti := 3) (e := 9) (ov := fun v s m => run E0 (.fn 182) [v, s] m) (rot := fun v k m => run E0 (.fn 183) [v, k] m) (by kernel_rfl) (by kernel_rfl) (by kernel_rfl) (by kernel_rfl)
    (fun v s m => run_hook (E := E0) (h := overlapsH) rfl [v, s] m) (fun a0 a1 a2 m => by
      simp only [f133_eq, g133_0_eq, g133_1_eq, g133_2_eq, g133_3_eq]
      rfl)
theorem ins134 : InsText E0 134 89 4 40 ((zeroA Tryz.prog 132).getD []) :=
  ins_text (E := E0) (ti := 3) (e := 132) (ov := fun v s m => run E0 (.fn 184) [v, s] m) (rot := fun v k m => run E0 (.fn 185) [v, k] m) (by kernel_rfl) (by kernel_rfl) (by kernel_rfl) (by kernel_rfl)
    (fun v s m => run_hook (E := E0) (h := overlapsH) rfl [v, s] m) (fun a0 a1 a2 m => by
      simp only [f134_eq, g134_0_eq, g134_1_eq, g134_2_eq, g134_3_eq]
      rfl)
theorem ins135 : InsText E0 135 90 9 88 ((zeroA Tryz.prog 136).getD []) :=
  ins_text (E := E0) (ti := 3) (e := 136) (ov := fun v s m => run E0 (.fn 186) [v, s] m) (rot := fun v k m => run E0 (.fn 187) [v, k] m) (by kernel_rfl) (by kernel_rfl) (by kernel_rfl) (by kernel_rfl)
    (fun v s m => run_hook (E := E0) (h := overlapsH) rfl [v, s] m) (fun a0 a1 a2 m => by
      simp only [f135_eq, g135_0_eq, g135_1_eq, g135_2_eq, g135_3_eq]
      rfl)
theorem ins137 : InsText E0 137 116 1 8 ((zeroA Tryz.prog 26).getD []) :=
  ins_text (E := E0) (ti := 3) (e := 26) (ov := fun v s m => run E0 (.fn 190) [v, s] m) (rot := fun v k m => run E0 (.fn 191) [v, k] m) (by kernel_rfl) (by kernel_rfl) (by kernel_rfl) (by kernel_rfl)
    (fun v s m => run_hook (E := E0) (h := overlapsH) rfl [v, s] m) (fun a0 a1 a2 m => by
      simp only [f137_eq, g137_0_eq, g137_1_eq, g137_2_eq, g137_3_eq]
      rfl)
theorem ins138 : InsText E0 138 91 4 40 ((zeroA Tryz.prog 140).getD []) :=
  ins_text (E := E0) (ti := 3) (e := 140) (ov := fun v s m => run E0 (.fn 192) [v, s] m) (rot := fun v k m => run E0 (.fn 193) [v, k] m) (by kernel_rfl) (by kernel_rfl) (by kernel_rfl) (by kernel_rfl)
    (fun v s m => run_hook (E := E0) (h := overlapsH) rfl [v, s] m) (fun a0 a1 a2 m => by
      simp only [f138_eq, g138_0_eq, g138_1_eq, g138_2_eq, g138_3_eq]
      rfl)
theorem ins139 : InsText E0 139 95 4 48 ((zeroA Tryz.prog 146).getD []) :=
  ins_text (E := E0) (ti := 3) (e := 146) (ov := fun v s m => run E0 (.fn 194) [v, s] m) (rot := fun v k m => run E0 (.fn 195) [v, k] m) (by kernel_rfl) (by kernel_rfl) (by kernel_rfl) (by kernel_rfl)
    (fun v s m => run_hook (E := E0) (h := overlapsH) rfl [v, s] m) (fun a0 a1 a2 m => by
      simp only [f139_eq, g139_0_eq, g139_1_eq, g139_2_eq, g139_3_eq]
      rfl)
end Go.Proofs.YtfiipajgdhafaaaGreat
