/- What each tree is, and facts of the types. Printed by our own program (wip/tools/gen4.py). -/
import Derived.Test.YtlginbmjiecglaaIs0
import Derived.Test.YtlginbmjiecglaaAbs29
namespace Go.Proofs.Ytlginbmjiecglaa
open Go Go.Abs Go.Proofs.Ytlginbmjiecglaa.T
set_option maxRecDepth 4000
theorem f2_is (m : Mem) : run E2 (.fn 2) [] m = interp D2 (f2 []) m := (f2_ok (H := H2) rfl [] m).resolve_right nofun
theorem g3_0_is (t0 : AV) (t1 : AV) (t5 : AV) (m : Mem) : D2.gor 12288 [t0, t1, t5] m = interp D2 (g3_0 [t0, t1, t5]) m := (g3_0_ok (H := H2) [t0, t1, t5] m).resolve_right nofun
theorem g3_1_is (t0 : AV) (t1 : AV) (t5 : AV) (t7 : AV) (m : Mem) : D2.gor 12289 [t0, t1, t5, t7] m = interp D2 (g3_1 [t0, t1, t5, t7]) m := (g3_1_ok (H := H2) [t0, t1, t5, t7] m).resolve_right nofun
theorem g3_2_is (t0 : AV) (t1 : AV) (t5 : AV) (t7 : AV) (m : Mem) : D2.gor 12290 [t0, t1, t5, t7] m = interp D2 (g3_2 [t0, t1, t5, t7]) m := (g3_2_ok (H := H2) [t0, t1, t5, t7] m).resolve_right nofun
theorem g3_3_is (t0 : AV) (t1 : AV) (t5 : AV) (t7 : AV) (m : Mem) : D2.gor 12291 [t0, t1, t5, t7] m = interp D2 (g3_3 [t0, t1, t5, t7]) m := (g3_3_ok (H := H2) [t0, t1, t5, t7] m).resolve_right nofun
theorem g3_4_is (t0 : AV) (t5 : AV) (m : Mem) : D2.gor 12292 [t0, t5] m = interp D2 (g3_4 [t0, t5]) m := (g3_4_ok (H := H2) [t0, t5] m).resolve_right nofun
theorem g3_5_is (t0 : AV) (t5 : AV) (t8 : AV) (m : Mem) : D2.gor 12293 [t0, t5, t8] m = interp D2 (g3_5 [t0, t5, t8]) m := (g3_5_ok (H := H2) [t0, t5, t8] m).resolve_right nofun
theorem g3_6_is (t0 : AV) (t5 : AV) (t8 : AV) (m : Mem) : D2.gor 12294 [t0, t5, t8] m = interp D2 (g3_6 [t0, t5, t8]) m := (g3_6_ok (H := H2) [t0, t5, t8] m).resolve_right nofun
theorem g3_7_is (t0 : AV) (t5 : AV) (t8 : AV) (m : Mem) : D2.gor 12295 [t0, t5, t8] m = interp D2 (g3_7 [t0, t5, t8]) m := (g3_7_ok (H := H2) [t0, t5, t8] m).resolve_right nofun
theorem g3_8_is (t5 : AV) (m : Mem) : D2.gor 12296 [t5] m = interp D2 (g3_8 [t5]) m := (g3_8_ok (H := H2) [t5] m).resolve_right nofun
theorem f3_is (a0 : AV) (a1 : AV) (m : Mem) : run E2 (.fn 3) [a0, a1] m = interp D2 (f3 [a0, a1]) m := (f3_ok (H := H2) rfl [a0, a1] m).resolve_right nofun
theorem g4_0_is (t0 : AV) (m : Mem) : D2.gor 16384 [t0] m = interp D2 (g4_0 [t0]) m := (g4_0_ok (H := H2) [t0] m).resolve_right nofun
theorem f4_is (a0 : AV) (a1 : AV) (m : Mem) : run E2 (.fn 4) [a0, a1] m = interp D2 (f4 [a0, a1]) m := (f4_ok (H := H2) rfl [a0, a1] m).resolve_right nofun
theorem g5_0_is (t0 : AV) (m : Mem) : D2.gor 20480 [t0] m = interp D2 (g5_0 [t0]) m := (g5_0_ok (H := H2) [t0] m).resolve_right nofun
theorem f5_is (a0 : AV) (m : Mem) : run E2 (.fn 5) [a0] m = interp D2 (f5 [a0]) m := (f5_ok (H := H2) rfl [a0] m).resolve_right nofun
theorem g6_0_is (t1 : AV) (m : Mem) : D2.gor 24576 [t1] m = interp D2 (g6_0 [t1]) m := (g6_0_ok (H := H2) [t1] m).resolve_right nofun
theorem known_is (m : Mem) : run E2 (.fn 6) [] m = some (.bool true, m) := run_hook (h := closedH (.bool true)) rfl [] m
theorem g7_0_is (m : Mem) : D2.gor 28672 [] m = interp D2 (g7_0 []) m := (g7_0_ok (H := H2) [] m).resolve_right nofun
theorem f7_is (a0 : AV) (a1 : AV) (a2 : AV) (m : Mem) : run E2 (.fn 7) [a0, a1, a2] m = interp D2 (f7 [a0, a1, a2]) m := (f7_ok (H := H2) rfl [a0, a1, a2] m).resolve_right nofun
theorem g8_0_is (t0 : AV) (t1 : AV) (m : Mem) : D2.gor 32768 [t0, t1] m = interp D2 (g8_0 [t0, t1]) m := (g8_0_ok (H := H2) [t0, t1] m).resolve_right nofun
theorem g8_1_is (t0 : AV) (t1 : AV) (m : Mem) : D2.gor 32769 [t0, t1] m = interp D2 (g8_1 [t0, t1]) m := (g8_1_ok (H := H2) [t0, t1] m).resolve_right nofun
theorem f8_is (a0 : AV) (a1 : AV) (m : Mem) : run E2 (.fn 8) [a0, a1] m = interp D2 (f8 [a0, a1]) m := (f8_ok (H := H2) rfl [a0, a1] m).resolve_right nofun
theorem g9_0_is (t0 : AV) (m : Mem) : D2.gor 36864 [t0] m = interp D2 (g9_0 [t0]) m := (g9_0_ok (H := H2) [t0] m).resolve_right nofun
theorem f9_is (a0 : AV) (m : Mem) : run E2 (.fn 9) [a0] m = interp D2 (f9 [a0]) m := (f9_ok (H := H2) rfl [a0] m).resolve_right nofun
theorem g10_0_is (t0 : AV) (m : Mem) : D2.gor 40960 [t0] m = interp D2 (g10_0 [t0]) m := (g10_0_ok (H := H2) [t0] m).resolve_right nofun
theorem f10_is (a0 : AV) (m : Mem) : run E2 (.fn 10) [a0] m = interp D2 (f10 [a0]) m := (f10_ok (H := H2) rfl [a0] m).resolve_right nofun
theorem g11_0_is (t0 : AV) (m : Mem) : D2.gor 45056 [t0] m = interp D2 (g11_0 [t0]) m := (g11_0_ok (H := H2) [t0] m).resolve_right nofun
theorem f11_is (a0 : AV) (m : Mem) : run E2 (.fn 11) [a0] m = interp D2 (f11 [a0]) m := (f11_ok (H := H2) rfl [a0] m).resolve_right nofun
theorem g12_0_is (t0 : AV) (t5 : AV) (t7 : AV) (t8 : AV) (t9 : AV) (m : Mem) : D2.gor 49152 [t0, t5, t7, t8, t9] m = interp D2 (g12_0 [t0, t5, t7, t8, t9]) m := (g12_0_ok (H := H2) [t0, t5, t7, t8, t9] m).resolve_right nofun
theorem g12_1_is (t0 : AV) (t7 : AV) (t8 : AV) (t9 : AV) (m : Mem) : D2.gor 49153 [t0, t7, t8, t9] m = interp D2 (g12_1 [t0, t7, t8, t9]) m := (g12_1_ok (H := H2) [t0, t7, t8, t9] m).resolve_right nofun
theorem g12_2_is (t9 : AV) (m : Mem) : D2.gor 49154 [t9] m = interp D2 (g12_2 [t9]) m := (g12_2_ok (H := H2) [t9] m).resolve_right nofun
theorem f12_is (a0 : AV) (a1 : AV) (a2 : AV) (m : Mem) : run E2 (.fn 12) [a0, a1, a2] m = interp D2 (f12 [a0, a1, a2]) m := (f12_ok (H := H2) rfl [a0, a1, a2] m).resolve_right nofun
theorem f13_is (a0 : AV) (a1 : AV) (m : Mem) : run E2 (.fn 13) [a0, a1] m = interp D2 (f13 [a0, a1]) m := (f13_ok (H := H2) rfl [a0, a1] m).resolve_right nofun
theorem g14_0_is (t4 : AV) (t6 : AV) (m : Mem) : D2.gor 57344 [t4, t6] m = interp D2 (g14_0 [t4, t6]) m := (g14_0_ok (H := H2) [t4, t6] m).resolve_right nofun
theorem f14_is (a0 : AV) (a1 : AV) (m : Mem) : run E2 (.fn 14) [a0, a1] m = interp D2 (f14 [a0, a1]) m := (f14_ok (H := H2) rfl [a0, a1] m).resolve_right nofun
theorem g15_0_is (t0 : AV) (t4 : AV) (t6 : AV) (m : Mem) : D2.gor 61440 [t0, t4, t6] m = interp D2 (g15_0 [t0, t4, t6]) m := (g15_0_ok (H := H2) [t0, t4, t6] m).resolve_right nofun
theorem f15_is (a0 : AV) (a1 : AV) (m : Mem) : run E2 (.fn 15) [a0, a1] m = interp D2 (f15 [a0, a1]) m := (f15_ok (H := H2) rfl [a0, a1] m).resolve_right nofun
theorem g16_0_is (t0 : AV) (t3 : AV) (m : Mem) : D2.gor 65536 [t0, t3] m = interp D2 (g16_0 [t0, t3]) m := (g16_0_ok (H := H2) [t0, t3] m).resolve_right nofun
theorem g16_1_is (t0 : AV) (t3 : AV) (m : Mem) : D2.gor 65537 [t0, t3] m = interp D2 (g16_1 [t0, t3]) m := (g16_1_ok (H := H2) [t0, t3] m).resolve_right nofun
theorem g16_2_is (t0 : AV) (t3 : AV) (m : Mem) : D2.gor 65538 [t0, t3] m = interp D2 (g16_2 [t0, t3]) m := (g16_2_ok (H := H2) [t0, t3] m).resolve_right nofun
theorem g16_3_is (t0 : AV) (m : Mem) : D2.gor 65539 [t0] m = interp D2 (g16_3 [t0]) m := (g16_3_ok (H := H2) [t0] m).resolve_right nofun
theorem f16_is (a0 : AV) (m : Mem) : run E2 (.fn 16) [a0] m = interp D2 (f16 [a0]) m := (f16_ok (H := H2) rfl [a0] m).resolve_right nofun
theorem g17_0_is (m : Mem) : D2.gor 69632 [] m = interp D2 (g17_0 []) m := (g17_0_ok (H := H2) [] m).resolve_right nofun
theorem f17_is (a0 : AV) (a1 : AV) (a2 : AV) (m : Mem) : run E2 (.fn 17) [a0, a1, a2] m = interp D2 (f17 [a0, a1, a2]) m := (f17_ok (H := H2) rfl [a0, a1, a2] m).resolve_right nofun
theorem f18_is (a0 : AV) (m : Mem) : run E2 (.fn 18) [a0] m = interp D2 (f18 [a0]) m := (f18_ok (H := H2) rfl [a0] m).resolve_right nofun
theorem g19_0_is (m : Mem) : D2.gor 77824 [] m = interp D2 (g19_0 []) m := (g19_0_ok (H := H2) [] m).resolve_right nofun
theorem f19_is (a0 : AV) (a1 : AV) (a2 : AV) (m : Mem) : run E2 (.fn 19) [a0, a1, a2] m = interp D2 (f19 [a0, a1, a2]) m := (f19_ok (H := H2) rfl [a0, a1, a2] m).resolve_right nofun
theorem g20_0_is (t0 : AV) (t4 : AV) (t5 : AV) (t7 : AV) (m : Mem) : D2.gor 81920 [t0, t4, t5, t7] m = interp D2 (g20_0 [t0, t4, t5, t7]) m := (g20_0_ok (H := H2) [t0, t4, t5, t7] m).resolve_right nofun
theorem f20_is (a0 : AV) (a1 : AV) (m : Mem) : run E2 (.fn 20) [a0, a1] m = interp D2 (f20 [a0, a1]) m := (f20_ok (H := H2) rfl [a0, a1] m).resolve_right nofun
theorem g21_0_is (m : Mem) : D2.gor 86016 [] m = interp D2 (g21_0 []) m := (g21_0_ok (H := H2) [] m).resolve_right nofun
theorem f21_is (a0 : AV) (a1 : AV) (m : Mem) : run E2 (.fn 21) [a0, a1] m = interp D2 (f21 [a0, a1]) m := (f21_ok (H := H2) rfl [a0, a1] m).resolve_right nofun
theorem g22_0_is (t0 : AV) (t1 : AV) (t7 : AV) (t9 : AV) (m : Mem) : D2.gor 90112 [t0, t1, t7, t9] m = interp D2 (g22_0 [t0, t1, t7, t9]) m := (g22_0_ok (H := H2) [t0, t1, t7, t9] m).resolve_right nofun
theorem f22_is (a0 : AV) (a1 : AV) (a2 : AV) (m : Mem) : run E2 (.fn 22) [a0, a1, a2] m = interp D2 (f22 [a0, a1, a2]) m := (f22_ok (H := H2) rfl [a0, a1, a2] m).resolve_right nofun
theorem f23_is (a0 : AV) (a1 : AV) (m : Mem) : run E2 (.fn 23) [a0, a1] m = interp D2 (f23 [a0, a1]) m := (f23_ok (H := H2) rfl [a0, a1] m).resolve_right nofun
theorem f24_is (a0 : AV) (m : Mem) : run E2 (.fn 24) [a0] m = interp D2 (f24 [a0]) m := (f24_ok (H := H2) rfl [a0] m).resolve_right nofun
theorem g25_0_is (t0 : AV) (t1 : AV) (t6 : AV) (t7 : AV) (t8 : AV) (m : Mem) : D2.gor 102400 [t0, t1, t6, t7, t8] m = interp D2 (g25_0 [t0, t1, t6, t7, t8]) m := (g25_0_ok (H := H2) [t0, t1, t6, t7, t8] m).resolve_right nofun
theorem g25_1_is (t0 : AV) (t1 : AV) (t6 : AV) (t7 : AV) (t8 : AV) (m : Mem) : D2.gor 102401 [t0, t1, t6, t7, t8] m = interp D2 (g25_1 [t0, t1, t6, t7, t8]) m := (g25_1_ok (H := H2) [t0, t1, t6, t7, t8] m).resolve_right nofun
theorem g25_2_is (t0 : AV) (t1 : AV) (t6 : AV) (t7 : AV) (m : Mem) : D2.gor 102402 [t0, t1, t6, t7] m = interp D2 (g25_2 [t0, t1, t6, t7]) m := (g25_2_ok (H := H2) [t0, t1, t6, t7] m).resolve_right nofun
theorem f25_is (a0 : AV) (a1 : AV) (m : Mem) : run E2 (.fn 25) [a0, a1] m = interp D2 (f25 [a0, a1]) m := (f25_ok (H := H2) rfl [a0, a1] m).resolve_right nofun
theorem g28_0_is (t0 : AV) (t1 : AV) (t6 : AV) (t7 : AV) (t8 : AV) (m : Mem) : D2.gor 114688 [t0, t1, t6, t7, t8] m = interp D2 (g28_0 [t0, t1, t6, t7, t8]) m := (g28_0_ok (H := H2) [t0, t1, t6, t7, t8] m).resolve_right nofun
theorem g28_1_is (t0 : AV) (t1 : AV) (t6 : AV) (t7 : AV) (t8 : AV) (m : Mem) : D2.gor 114689 [t0, t1, t6, t7, t8] m = interp D2 (g28_1 [t0, t1, t6, t7, t8]) m := (g28_1_ok (H := H2) [t0, t1, t6, t7, t8] m).resolve_right nofun
theorem g28_2_is (t0 : AV) (t1 : AV) (t6 : AV) (t7 : AV) (m : Mem) : D2.gor 114690 [t0, t1, t6, t7] m = interp D2 (g28_2 [t0, t1, t6, t7]) m := (g28_2_ok (H := H2) [t0, t1, t6, t7] m).resolve_right nofun
theorem f28_is (a0 : AV) (a1 : AV) (m : Mem) : run E2 (.fn 28) [a0, a1] m = interp D2 (f28 [a0, a1]) m := (f28_ok (H := H2) rfl [a0, a1] m).resolve_right nofun
theorem g31_0_is (t0 : AV) (t4 : AV) (t6 : AV) (m : Mem) : D2.gor 126976 [t0, t4, t6] m = interp D2 (g31_0 [t0, t4, t6]) m := (g31_0_ok (H := H2) [t0, t4, t6] m).resolve_right nofun
theorem f31_is (a0 : AV) (a1 : AV) (m : Mem) : run E2 (.fn 31) [a0, a1] m = interp D2 (f31 [a0, a1]) m := (f31_ok (H := H2) rfl [a0, a1] m).resolve_right nofun
theorem g32_0_is (m : Mem) : D2.gor 131072 [] m = interp D2 (g32_0 []) m := (g32_0_ok (H := H2) [] m).resolve_right nofun
theorem f32_is (a0 : AV) (m : Mem) : run E2 (.fn 32) [a0] m = interp D2 (f32 [a0]) m := (f32_ok (H := H2) rfl [a0] m).resolve_right nofun
theorem g33_0_is (t4 : AV) (t6 : AV) (t8 : AV) (m : Mem) : D2.gor 135168 [t4, t6, t8] m = interp D2 (g33_0 [t4, t6, t8]) m := (g33_0_ok (H := H2) [t4, t6, t8] m).resolve_right nofun
theorem f33_is (a0 : AV) (a1 : AV) (m : Mem) : run E2 (.fn 33) [a0, a1] m = interp D2 (f33 [a0, a1]) m := (f33_ok (H := H2) rfl [a0, a1] m).resolve_right nofun
theorem g34_0_is (t4 : AV) (t6 : AV) (t8 : AV) (m : Mem) : D2.gor 139264 [t4, t6, t8] m = interp D2 (g34_0 [t4, t6, t8]) m := (g34_0_ok (H := H2) [t4, t6, t8] m).resolve_right nofun
theorem f34_is (a0 : AV) (a1 : AV) (m : Mem) : run E2 (.fn 34) [a0, a1] m = interp D2 (f34 [a0, a1]) m := (f34_ok (H := H2) rfl [a0, a1] m).resolve_right nofun
theorem f35_is (a0 : AV) (a1 : AV) (m : Mem) : run E2 (.fn 35) [a0, a1] m = interp D2 (f35 [a0, a1]) m := (f35_ok (H := H2) rfl [a0, a1] m).resolve_right nofun
theorem f36_is (a0 : AV) (m : Mem) : run E2 (.fn 36) [a0] m = interp D2 (f36 [a0]) m := (f36_ok (H := H2) rfl [a0] m).resolve_right nofun
theorem f38_is (a0 : AV) (a1 : AV) (m : Mem) : run E2 (.fn 38) [a0, a1] m = interp D2 (f38 [a0, a1]) m := (f38_ok (H := H2) rfl [a0, a1] m).resolve_right nofun
theorem f40_is (a0 : AV) (a1 : AV) (m : Mem) : run E2 (.fn 40) [a0, a1] m = interp D2 (f40 [a0, a1]) m := (f40_ok (H := H2) rfl [a0, a1] m).resolve_right nofun
theorem f41_is (a0 : AV) (a1 : AV) (m : Mem) : run E2 (.fn 41) [a0, a1] m = interp D2 (f41 [a0, a1]) m := (f41_ok (H := H2) rfl [a0, a1] m).resolve_right nofun
theorem f42_is (a0 : AV) (m : Mem) : run E2 (.fn 42) [a0] m = interp D2 (f42 [a0]) m := (f42_ok (H := H2) rfl [a0] m).resolve_right nofun
theorem f44_is (a0 : AV) (a1 : AV) (m : Mem) : run E2 (.fn 44) [a0, a1] m = interp D2 (f44 [a0, a1]) m := (f44_ok (H := H2) rfl [a0, a1] m).resolve_right nofun
theorem f46_is (a0 : AV) (a1 : AV) (m : Mem) : run E2 (.fn 46) [a0, a1] m = interp D2 (f46 [a0, a1]) m := (f46_ok (H := H2) rfl [a0, a1] m).resolve_right nofun
theorem f49_is (a0 : AV) (m : Mem) : run E2 (.fn 49) [a0] m = interp D2 (f49 [a0]) m := (f49_ok (H := H2) rfl [a0] m).resolve_right nofun
theorem f50_is (a0 : AV) (a1 : AV) (m : Mem) : run E2 (.fn 50) [a0, a1] m = interp D2 (f50 [a0, a1]) m := (f50_ok (H := H2) rfl [a0, a1] m).resolve_right nofun
theorem f51_is (a0 : AV) (a1 : AV) (m : Mem) : run E2 (.fn 51) [a0, a1] m = interp D2 (f51 [a0, a1]) m := (f51_ok (H := H2) rfl [a0, a1] m).resolve_right nofun
theorem f52_is (a0 : AV) (m : Mem) : run E2 (.fn 52) [a0] m = interp D2 (f52 [a0]) m := (f52_ok (H := H2) rfl [a0] m).resolve_right nofun
theorem f53_is (a0 : AV) (a1 : AV) (m : Mem) : run E2 (.fn 53) [a0, a1] m = interp D2 (f53 [a0, a1]) m := (f53_ok (H := H2) rfl [a0, a1] m).resolve_right nofun
theorem f54_is (a0 : AV) (a1 : AV) (m : Mem) : run E2 (.fn 54) [a0, a1] m = interp D2 (f54 [a0, a1]) m := (f54_ok (H := H2) rfl [a0, a1] m).resolve_right nofun
theorem g55_0_is (t0 : AV) (t2 : AV) (t3 : AV) (m : Mem) : D2.gor 225280 [t0, t2, t3] m = interp D2 (g55_0 [t0, t2, t3]) m := (g55_0_ok (H := H2) [t0, t2, t3] m).resolve_right nofun
theorem g55_1_is (t0 : AV) (t2 : AV) (t3 : AV) (m : Mem) : D2.gor 225281 [t0, t2, t3] m = interp D2 (g55_1 [t0, t2, t3]) m := (g55_1_ok (H := H2) [t0, t2, t3] m).resolve_right nofun
theorem g55_2_is (t0 : AV) (t2 : AV) (t3 : AV) (m : Mem) : D2.gor 225282 [t0, t2, t3] m = interp D2 (g55_2 [t0, t2, t3]) m := (g55_2_ok (H := H2) [t0, t2, t3] m).resolve_right nofun
theorem f55_is (a0 : AV) (m : Mem) : run E2 (.fn 55) [a0] m = interp D2 (f55 [a0]) m := (f55_ok (H := H2) rfl [a0] m).resolve_right nofun
theorem g56_0_is (t0 : AV) (t2 : AV) (t3 : AV) (m : Mem) : D2.gor 229376 [t0, t2, t3] m = interp D2 (g56_0 [t0, t2, t3]) m := (g56_0_ok (H := H2) [t0, t2, t3] m).resolve_right nofun
theorem g56_1_is (t0 : AV) (t2 : AV) (t3 : AV) (m : Mem) : D2.gor 229377 [t0, t2, t3] m = interp D2 (g56_1 [t0, t2, t3]) m := (g56_1_ok (H := H2) [t0, t2, t3] m).resolve_right nofun
theorem g56_2_is (t0 : AV) (t2 : AV) (t3 : AV) (m : Mem) : D2.gor 229378 [t0, t2, t3] m = interp D2 (g56_2 [t0, t2, t3]) m := (g56_2_ok (H := H2) [t0, t2, t3] m).resolve_right nofun
theorem f56_is (a0 : AV) (m : Mem) : run E2 (.fn 56) [a0] m = interp D2 (f56 [a0]) m := (f56_ok (H := H2) rfl [a0] m).resolve_right nofun
theorem g57_0_is (t0 : AV) (t2 : AV) (t3 : AV) (m : Mem) : D2.gor 233472 [t0, t2, t3] m = interp D2 (g57_0 [t0, t2, t3]) m := (g57_0_ok (H := H2) [t0, t2, t3] m).resolve_right nofun
theorem g57_1_is (t0 : AV) (t2 : AV) (t3 : AV) (m : Mem) : D2.gor 233473 [t0, t2, t3] m = interp D2 (g57_1 [t0, t2, t3]) m := (g57_1_ok (H := H2) [t0, t2, t3] m).resolve_right nofun
theorem g57_2_is (t0 : AV) (t2 : AV) (t3 : AV) (m : Mem) : D2.gor 233474 [t0, t2, t3] m = interp D2 (g57_2 [t0, t2, t3]) m := (g57_2_ok (H := H2) [t0, t2, t3] m).resolve_right nofun
theorem f57_is (a0 : AV) (m : Mem) : run E2 (.fn 57) [a0] m = interp D2 (f57 [a0]) m := (f57_ok (H := H2) rfl [a0] m).resolve_right nofun
theorem g58_0_is (t0 : AV) (t2 : AV) (t3 : AV) (m : Mem) : D2.gor 237568 [t0, t2, t3] m = interp D2 (g58_0 [t0, t2, t3]) m := (g58_0_ok (H := H2) [t0, t2, t3] m).resolve_right nofun
theorem g58_1_is (t0 : AV) (t2 : AV) (t3 : AV) (m : Mem) : D2.gor 237569 [t0, t2, t3] m = interp D2 (g58_1 [t0, t2, t3]) m := (g58_1_ok (H := H2) [t0, t2, t3] m).resolve_right nofun
theorem g58_2_is (t0 : AV) (t2 : AV) (t3 : AV) (m : Mem) : D2.gor 237570 [t0, t2, t3] m = interp D2 (g58_2 [t0, t2, t3]) m := (g58_2_ok (H := H2) [t0, t2, t3] m).resolve_right nofun
theorem f58_is (a0 : AV) (m : Mem) : run E2 (.fn 58) [a0] m = interp D2 (f58 [a0]) m := (f58_ok (H := H2) rfl [a0] m).resolve_right nofun
end Go.Proofs.Ytlginbmjiecglaa
