/- slices.Insert at each of its types: what its text does. Made by our own program (wip/tools/mkenv.py) out of wip/abs/Ins.tmpl. -/
import Derived.Test.YtpoafkipnjfioaaGreatInsEqs
import Derived.Test.YtpoafkipnjfioaaGreatAbs26
namespace Go.Proofs.YtpoafkipnjfioaaGreat
open Go Go.Abs
set_option maxRecDepth 4000
theorem ins84 : InsText E0 84 169 1 16 ((zeroA Tryz.prog 9).getD []) :=
  ins_text (E := E0) (ti := 3) (e := 9) (ov := fun v s m => run E0 (.fn 144) [v, s] m) (rot := fun v k m => run E0 (.fn 145) [v, k] m) (by kernel_rfl) (by kernel_rfl) (by kernel_rfl) (by kernel_rfl)
    (fun v s m => run_hook (E := E0) (h := overlapsH) rfl [v, s] m) (fun a0 a1 a2 m => by
      simp only [f84_eq, g84_0_eq, g84_1_eq, g84_2_eq, g84_3_eq]
      rfl)
theorem ins85 : InsText E0 85 44 4 40 ((zeroA Tryz.prog 92).getD []) :=
  ins_text (E := E0) (ti := 3) (e := 92) (ov := fun v s m => run E0 (.fn 146) [v, s] m) (rot := fun v k m => run E0 (.fn 147) [v, k] m) (by kernel_rfl) (by kernel_rfl) (by kernel_rfl) (by kernel_rfl)
    (fun v s m => run_hook (E := E0) (h := overlapsH) rfl [v, s] m) (fun a0 a1 a2 m => by
      simp only [f85_eq, g85_0_eq, g85_1_eq, g85_2_eq, g85_3_eq]
      rfl)
theorem ins87 : InsText E0 87 139 1 8 ((zeroA Tryz.prog 28).getD []) :=
  ins_text (E := E0) (ti := 3) (e := 28) (ov := fun v s m => run E0 (.fn 150) [v, s] m) (rot := fun v k m => run E0 (.fn 151) [v, k] m) (by kernel_rfl) (by kernel_rfl) (by kernel_rfl) (by kernel_rfl)
    (fun v s m => run_hook (E := E0) (h := overlapsH) rfl [v, s] m) (fun a0 a1 a2 m => by
      simp only [f87_eq, g87_0_eq, g87_1_eq, g87_2_eq, g87_3_eq]
      rfl)
theorem ins88 : InsText E0 88 46 4 40 ((zeroA Tryz.prog 100).getD []) :=
  ins_text (E := E0) (ti := 3) (e := 100) (ov := fun v s m => run E0 (.fn 152) [v, s] m) (rot := fun v k m => run E0 (.fn 153) [v, k] m) (by kernel_rfl) (by kernel_rfl) (by kernel_rfl) (by kernel_rfl)
    (fun v s m => run_hook (E := E0) (h := overlapsH) rfl [v, s] m) (fun a0 a1 a2 m => by
      simp only [f88_eq, g88_0_eq, g88_1_eq, g88_2_eq, g88_3_eq]
      rfl)
theorem ins96 : InsText E0 96 45 9 88 ((zeroA Tryz.prog 96).getD []) :=
  ins_text (E := E0) (ti := 3) (e := 96) (ov := fun v s m => run E0 (.fn 158) [v, s] m) (rot := fun v k m => run E0 (.fn 159) [v, k] m) (by kernel_rfl) (by kernel_rfl) (by kernel_rfl) (by kernel_rfl)
    (fun v s m => run_hook (E := E0) (h := overlapsH) rfl [v, s] m) (fun a0 a1 a2 m => by
      simp only [f96_eq, g96_0_eq, g96_1_eq, g96_2_eq, g96_3_eq]
      rfl)
theorem ins175 : InsText E0 175 67 4 48 ((zeroA Tryz.prog 210).getD []) :=
  ins_text (E := E0) (ti := 3) (e := 210) (ov := fun v s m => run E0 (.fn 223) [v, s] m) (rot := fun v k m => run E0 (.fn 224) [v, k] m) (by kernel_rfl) (by kernel_rfl) (by kernel_rfl) (by kernel_rfl)
    (fun v s m => run_hook (E := E0) (h := overlapsH) rfl [v, s] m) (fun a0 a1 a2 m => by
      simp only [f175_eq, g175_0_eq, g175_1_eq, g175_2_eq, g175_3_eq]
      rfl)
end Go.Proofs.YtpoafkipnjfioaaGreat
