/- Texts of one claim, put together. -/
import Derived.Test.YtlginbmjiecglaaGreatK13
section
namespace Go.Proofs.YtlginbmjiecglaaGreat
open Go Go.Abs Go.Proofs.YtlginbmjiecglaaGreat.T
set_option maxRecDepth 4000
variable {H : FuncId → Option (List AV → Mem → R)}
theorem g3_0_is (t0 t1 t2 t3 t4 t5 t13 : AV) (m : Mem) : (T.Rl H).gor 12288 [t0, t1, t2, t3, t4, t5, t13] m = interp (T.Rl H) (g3_0 [t0, t1, t2, t3, t4, t5, t13]) m := (g3_0_ok (H := H) [t0, t1, t2, t3, t4, t5, t13] m).resolve_right nofun
theorem g3_1_is (t0 t2 t3 t4 t5 t13 t15 : AV) (m : Mem) : (T.Rl H).gor 12289 [t0, t2, t3, t4, t5, t13, t15] m = interp (T.Rl H) (g3_1 [t0, t2, t3, t4, t5, t13, t15]) m := (g3_1_ok (H := H) [t0, t2, t3, t4, t5, t13, t15] m).resolve_right nofun
theorem f3_is (h : H 3 = none) (a0 a1 a2 a3 a4 a5 : AV) (m : Mem) : run (T.EH H) (.fn 3) [a0, a1, a2, a3, a4, a5] m = interp (T.Rl H) (f3 [a0, a1, a2, a3, a4, a5]) m := (f3_ok (H := H) h [a0, a1, a2, a3, a4, a5] m).resolve_right nofun
theorem g4_0_is (t0 : AV) (m : Mem) : (T.Rl H).gor 16384 [t0] m = interp (T.Rl H) (g4_0 [t0]) m := (g4_0_ok (H := H) [t0] m).resolve_right nofun
theorem f4_is (h : H 4 = none) (a0 a1 : AV) (m : Mem) : run (T.EH H) (.fn 4) [a0, a1] m = interp (T.Rl H) (f4 [a0, a1]) m := (f4_ok (H := H) h [a0, a1] m).resolve_right nofun
theorem g5_0_is (t0 : AV) (m : Mem) : (T.Rl H).gor 20480 [t0] m = interp (T.Rl H) (g5_0 [t0]) m := (g5_0_ok (H := H) [t0] m).resolve_right nofun
theorem f5_is (h : H 5 = none) (a0 : AV) (m : Mem) : run (T.EH H) (.fn 5) [a0] m = interp (T.Rl H) (f5 [a0]) m := (f5_ok (H := H) h [a0] m).resolve_right nofun
theorem known_at (h : H 6 = some (closedH (.bool true))) (m : Mem) : run (T.EH H) (.fn 6) [] m = some (.bool true, m) := run_hook (h := closedH (.bool true)) h [] m
theorem g7_0_is (m : Mem) : (T.Rl H).gor 28672 [] m = interp (T.Rl H) (g7_0 []) m := (g7_0_ok (H := H) [] m).resolve_right nofun
theorem f7_is (h : H 7 = none) (a0 a1 a2 : AV) (m : Mem) : run (T.EH H) (.fn 7) [a0, a1, a2] m = interp (T.Rl H) (f7 [a0, a1, a2]) m := (f7_ok (H := H) h [a0, a1, a2] m).resolve_right nofun
theorem g8_0_is (t0 t1 : AV) (m : Mem) : (T.Rl H).gor 32768 [t0, t1] m = interp (T.Rl H) (g8_0 [t0, t1]) m := (g8_0_ok (H := H) [t0, t1] m).resolve_right nofun
theorem g8_1_is (t0 t1 : AV) (m : Mem) : (T.Rl H).gor 32769 [t0, t1] m = interp (T.Rl H) (g8_1 [t0, t1]) m := (g8_1_ok (H := H) [t0, t1] m).resolve_right nofun
theorem f8_is (h : H 8 = none) (a0 a1 : AV) (m : Mem) : run (T.EH H) (.fn 8) [a0, a1] m = interp (T.Rl H) (f8 [a0, a1]) m := (f8_ok (H := H) h [a0, a1] m).resolve_right nofun
theorem g9_0_is (t0 t5 t7 t8 t9 : AV) (m : Mem) : (T.Rl H).gor 36864 [t0, t5, t7, t8, t9] m = interp (T.Rl H) (g9_0 [t0, t5, t7, t8, t9]) m := (g9_0_ok (H := H) [t0, t5, t7, t8, t9] m).resolve_right nofun
theorem g9_1_is (t0 t7 t8 t9 : AV) (m : Mem) : (T.Rl H).gor 36865 [t0, t7, t8, t9] m = interp (T.Rl H) (g9_1 [t0, t7, t8, t9]) m := (g9_1_ok (H := H) [t0, t7, t8, t9] m).resolve_right nofun
theorem g9_2_is (t9 : AV) (m : Mem) : (T.Rl H).gor 36866 [t9] m = interp (T.Rl H) (g9_2 [t9]) m := (g9_2_ok (H := H) [t9] m).resolve_right nofun
theorem f9_is (h : H 9 = none) (a0 a1 a2 : AV) (m : Mem) : run (T.EH H) (.fn 9) [a0, a1, a2] m = interp (T.Rl H) (f9 [a0, a1, a2]) m := (f9_ok (H := H) h [a0, a1, a2] m).resolve_right nofun
theorem f10_is (h : H 10 = none) (a0 a1 : AV) (m : Mem) : run (T.EH H) (.fn 10) [a0, a1] m = interp (T.Rl H) (f10 [a0, a1]) m := (f10_ok (H := H) h [a0, a1] m).resolve_right nofun
theorem g11_0_is (t0 t1 t2 t7 : AV) (m : Mem) : (T.Rl H).gor 45056 [t0, t1, t2, t7] m = interp (T.Rl H) (g11_0 [t0, t1, t2, t7]) m := (g11_0_ok (H := H) [t0, t1, t2, t7] m).resolve_right nofun
theorem g11_1_is (t0 t1 t2 t7 : AV) (m : Mem) : (T.Rl H).gor 45057 [t0, t1, t2, t7] m = interp (T.Rl H) (g11_1 [t0, t1, t2, t7]) m := (g11_1_ok (H := H) [t0, t1, t2, t7] m).resolve_right nofun
theorem f11_is (h : H 11 = none) (a0 a1 a2 a3 : AV) (m : Mem) : run (T.EH H) (.fn 11) [a0, a1, a2, a3] m = interp (T.Rl H) (f11 [a0, a1, a2, a3]) m := (f11_ok (H := H) h [a0, a1, a2, a3] m).resolve_right nofun
theorem g12_0_is (t0 t7 t8 t10 t11 t13 t14 t16 : AV) (m : Mem) : (T.Rl H).gor 49152 [t0, t7, t8, t10, t11, t13, t14, t16] m = interp (T.Rl H) (g12_0 [t0, t7, t8, t10, t11, t13, t14, t16]) m := (g12_0_ok (H := H) [t0, t7, t8, t10, t11, t13, t14, t16] m).resolve_right nofun
theorem g12_1_is (t0 t7 t8 t10 t12 t13 t14 t16 : AV) (m : Mem) : (T.Rl H).gor 49153 [t0, t7, t8, t10, t12, t13, t14, t16] m = interp (T.Rl H) (g12_1 [t0, t7, t8, t10, t12, t13, t14, t16]) m := (g12_1_ok (H := H) [t0, t7, t8, t10, t12, t13, t14, t16] m).resolve_right nofun
theorem g12_2_is (t0 t7 t8 t10 t12 t13 t16 t18 : AV) (m : Mem) : (T.Rl H).gor 49154 [t0, t7, t8, t10, t12, t13, t16, t18] m = interp (T.Rl H) (g12_2 [t0, t7, t8, t10, t12, t13, t16, t18]) m := (g12_2_ok (H := H) [t0, t7, t8, t10, t12, t13, t16, t18] m).resolve_right nofun
theorem g12_3_is (t0 t8 t10 t12 t13 t16 t18 : AV) (m : Mem) : (T.Rl H).gor 49155 [t0, t8, t10, t12, t13, t16, t18] m = interp (T.Rl H) (g12_3 [t0, t8, t10, t12, t13, t16, t18]) m := (g12_3_ok (H := H) [t0, t8, t10, t12, t13, t16, t18] m).resolve_right nofun
theorem g12_4_is (t0 t8 t10 t12 t13 t16 t18 : AV) (m : Mem) : (T.Rl H).gor 49156 [t0, t8, t10, t12, t13, t16, t18] m = interp (T.Rl H) (g12_4 [t0, t8, t10, t12, t13, t16, t18]) m := (g12_4_ok (H := H) [t0, t8, t10, t12, t13, t16, t18] m).resolve_right nofun
theorem g12_5_is (t0 t8 t10 t13 t16 t18 : AV) (m : Mem) : (T.Rl H).gor 49157 [t0, t8, t10, t13, t16, t18] m = interp (T.Rl H) (g12_5 [t0, t8, t10, t13, t16, t18]) m := (g12_5_ok (H := H) [t0, t8, t10, t13, t16, t18] m).resolve_right nofun
theorem f12_is (h : H 12 = none) (a0 a1 a2 a3 : AV) (m : Mem) : run (T.EH H) (.fn 12) [a0, a1, a2, a3] m = interp (T.Rl H) (f12 [a0, a1, a2, a3]) m := (f12_ok (H := H) h [a0, a1, a2, a3] m).resolve_right nofun
theorem g13_0_is (t2 t3 t4 t6 : AV) (m : Mem) : (T.Rl H).gor 53248 [t2, t3, t4, t6] m = interp (T.Rl H) (g13_0 [t2, t3, t4, t6]) m := (g13_0_ok (H := H) [t2, t3, t4, t6] m).resolve_right nofun
theorem f13_is (h : H 13 = none) (a0 a1 a2 : AV) (m : Mem) : run (T.EH H) (.fn 13) [a0, a1, a2] m = interp (T.Rl H) (f13 [a0, a1, a2]) m := (f13_ok (H := H) h [a0, a1, a2] m).resolve_right nofun
theorem g14_0_is (t4 t6 t7 : AV) (m : Mem) : (T.Rl H).gor 57344 [t4, t6, t7] m = interp (T.Rl H) (g14_0 [t4, t6, t7]) m := (g14_0_ok (H := H) [t4, t6, t7] m).resolve_right nofun
theorem f14_is (h : H 14 = none) (a0 a1 : AV) (m : Mem) : run (T.EH H) (.fn 14) [a0, a1] m = interp (T.Rl H) (f14 [a0, a1]) m := (f14_ok (H := H) h [a0, a1] m).resolve_right nofun
theorem g15_0_is (t6 t8 t12 : AV) (m : Mem) : (T.Rl H).gor 61440 [t6, t8, t12] m = interp (T.Rl H) (g15_0 [t6, t8, t12]) m := (g15_0_ok (H := H) [t6, t8, t12] m).resolve_right nofun
theorem f15_is (h : H 15 = none) (a0 a1 a2 : AV) (m : Mem) : run (T.EH H) (.fn 15) [a0, a1, a2] m = interp (T.Rl H) (f15 [a0, a1, a2]) m := (f15_ok (H := H) h [a0, a1, a2] m).resolve_right nofun
theorem g16_0_is (t0 t2 t3 t5 t7 t9 t19 t21 t34 t47 : AV) (m : Mem) : (T.Rl H).gor 65536 [t0, t2, t3, t5, t7, t9, t19, t21, t34, t47] m = interp (T.Rl H) (g16_0 [t0, t2, t3, t5, t7, t9, t19, t21, t34, t47]) m := (g16_0_ok (H := H) [t0, t2, t3, t5, t7, t9, t19, t21, t34, t47] m).resolve_right nofun
theorem g16_2_is (t0 t2 t3 t7 t9 t34 t47 : AV) (m : Mem) : (T.Rl H).gor 65538 [t0, t2, t3, t7, t9, t34, t47] m = interp (T.Rl H) (g16_2 [t0, t2, t3, t7, t9, t34, t47]) m := (g16_2_ok (H := H) [t0, t2, t3, t7, t9, t34, t47] m).resolve_right nofun
theorem g16_3_is (t0 t2 t3 t7 t9 t32 t34 t47 : AV) (m : Mem) : (T.Rl H).gor 65539 [t0, t2, t3, t7, t9, t32, t34, t47] m = interp (T.Rl H) (g16_3 [t0, t2, t3, t7, t9, t32, t34, t47]) m := (g16_3_ok (H := H) [t0, t2, t3, t7, t9, t32, t34, t47] m).resolve_right nofun
theorem g16_5_is (t0 t2 t3 t9 t47 : AV) (m : Mem) : (T.Rl H).gor 65541 [t0, t2, t3, t9, t47] m = interp (T.Rl H) (g16_5 [t0, t2, t3, t9, t47]) m := (g16_5_ok (H := H) [t0, t2, t3, t9, t47] m).resolve_right nofun
theorem g16_6_is (t2 t3 t9 t45 t47 : AV) (m : Mem) : (T.Rl H).gor 65542 [t2, t3, t9, t45, t47] m = interp (T.Rl H) (g16_6 [t2, t3, t9, t45, t47]) m := (g16_6_ok (H := H) [t2, t3, t9, t45, t47] m).resolve_right nofun
theorem g16_8_is (t2 t3 : AV) (m : Mem) : (T.Rl H).gor 65544 [t2, t3] m = interp (T.Rl H) (g16_8 [t2, t3]) m := (g16_8_ok (H := H) [t2, t3] m).resolve_right nofun
theorem l16_0_none_is (t0 t2 t3 u3 t7 t9 u6 u7 t34 t47 : AV) (m : Mem) : (T.Rl H).afr 65536 none [t0, t2, t3, u3, t7, t9, u6, u7, t34, t47] m = interp (T.Rl H) (l16_0_none [t0, t2, t3, u3, t7, t9, u6, u7, t34, t47]) m := (l16_0_none_ok (H := H) [t0, t2, t3, u3, t7, t9, u6, u7, t34, t47] m).resolve_right nofun
theorem l16_1_none_is (t0 t2 t3 u3 t9 u5 u6 t47 : AV) (m : Mem) : (T.Rl H).afr 65537 none [t0, t2, t3, u3, t9, u5, u6, t47] m = interp (T.Rl H) (l16_1_none [t0, t2, t3, u3, t9, u5, u6, t47]) m := (l16_1_none_ok (H := H) [t0, t2, t3, u3, t9, u5, u6, t47] m).resolve_right nofun
theorem l16_2_none_is (t2 t3 u2 u3 u4 : AV) (m : Mem) : (T.Rl H).afr 65538 none [t2, t3, u2, u3, u4] m = interp (T.Rl H) (l16_2_none [t2, t3, u2, u3, u4]) m := (l16_2_none_ok (H := H) [t2, t3, u2, u3, u4] m).resolve_right nofun
theorem f16_is (h : H 16 = none) (a0 : AV) (m : Mem) : run (T.EH H) (.fn 16) [a0] m = interp (T.Rl H) (f16 [a0]) m := (f16_ok (H := H) h [a0] m).resolve_right nofun
theorem f17_is (h : H 17 = none) (a0 : AV) (m : Mem) : run (T.EH H) (.fn 17) [a0] m = interp (T.Rl H) (f17 [a0]) m := (f17_ok (H := H) h [a0] m).resolve_right nofun
theorem g18_0_is (t0 : AV) (m : Mem) : (T.Rl H).gor 73728 [t0] m = interp (T.Rl H) (g18_0 [t0]) m := (g18_0_ok (H := H) [t0] m).resolve_right nofun
theorem f18_is (h : H 18 = none) (a0 : AV) (m : Mem) : run (T.EH H) (.fn 18) [a0] m = interp (T.Rl H) (f18 [a0]) m := (f18_ok (H := H) h [a0] m).resolve_right nofun
theorem g19_0_is (t0 : AV) (m : Mem) : (T.Rl H).gor 77824 [t0] m = interp (T.Rl H) (g19_0 [t0]) m := (g19_0_ok (H := H) [t0] m).resolve_right nofun
theorem f19_is (h : H 19 = none) (a0 : AV) (m : Mem) : run (T.EH H) (.fn 19) [a0] m = interp (T.Rl H) (f19 [a0]) m := (f19_ok (H := H) h [a0] m).resolve_right nofun
theorem g20_0_is (t0 : AV) (m : Mem) : (T.Rl H).gor 81920 [t0] m = interp (T.Rl H) (g20_0 [t0]) m := (g20_0_ok (H := H) [t0] m).resolve_right nofun
theorem f20_is (h : H 20 = none) (a0 : AV) (m : Mem) : run (T.EH H) (.fn 20) [a0] m = interp (T.Rl H) (f20 [a0]) m := (f20_ok (H := H) h [a0] m).resolve_right nofun
theorem g22_0_is (t0 t4 t6 : AV) (m : Mem) : (T.Rl H).gor 90112 [t0, t4, t6] m = interp (T.Rl H) (g22_0 [t0, t4, t6]) m := (g22_0_ok (H := H) [t0, t4, t6] m).resolve_right nofun
theorem f22_is (h : H 22 = none) (a0 a1 : AV) (m : Mem) : run (T.EH H) (.fn 22) [a0, a1] m = interp (T.Rl H) (f22 [a0, a1]) m := (f22_ok (H := H) h [a0, a1] m).resolve_right nofun
theorem g23_0_is (t0 t3 : AV) (m : Mem) : (T.Rl H).gor 94208 [t0, t3] m = interp (T.Rl H) (g23_0 [t0, t3]) m := (g23_0_ok (H := H) [t0, t3] m).resolve_right nofun
theorem g23_1_is (t0 t3 : AV) (m : Mem) : (T.Rl H).gor 94209 [t0, t3] m = interp (T.Rl H) (g23_1 [t0, t3]) m := (g23_1_ok (H := H) [t0, t3] m).resolve_right nofun
theorem g23_2_is (t0 t3 : AV) (m : Mem) : (T.Rl H).gor 94210 [t0, t3] m = interp (T.Rl H) (g23_2 [t0, t3]) m := (g23_2_ok (H := H) [t0, t3] m).resolve_right nofun
theorem g23_3_is (t0 : AV) (m : Mem) : (T.Rl H).gor 94211 [t0] m = interp (T.Rl H) (g23_3 [t0]) m := (g23_3_ok (H := H) [t0] m).resolve_right nofun
theorem f23_is (h : H 23 = none) (a0 : AV) (m : Mem) : run (T.EH H) (.fn 23) [a0] m = interp (T.Rl H) (f23 [a0]) m := (f23_ok (H := H) h [a0] m).resolve_right nofun
theorem g24_0_is (m : Mem) : (T.Rl H).gor 98304 [] m = interp (T.Rl H) (g24_0 []) m := (g24_0_ok (H := H) [] m).resolve_right nofun
theorem f24_is (h : H 24 = none) (a0 a1 a2 : AV) (m : Mem) : run (T.EH H) (.fn 24) [a0, a1, a2] m = interp (T.Rl H) (f24 [a0, a1, a2]) m := (f24_ok (H := H) h [a0, a1, a2] m).resolve_right nofun
theorem f25_is (h : H 25 = none) (a0 : AV) (m : Mem) : run (T.EH H) (.fn 25) [a0] m = interp (T.Rl H) (f25 [a0]) m := (f25_ok (H := H) h [a0] m).resolve_right nofun
theorem g26_0_is (m : Mem) : (T.Rl H).gor 106496 [] m = interp (T.Rl H) (g26_0 []) m := (g26_0_ok (H := H) [] m).resolve_right nofun
theorem f26_is (h : H 26 = none) (a0 a1 a2 : AV) (m : Mem) : run (T.EH H) (.fn 26) [a0, a1, a2] m = interp (T.Rl H) (f26 [a0, a1, a2]) m := (f26_ok (H := H) h [a0, a1, a2] m).resolve_right nofun
theorem g27_0_is (t0 t4 t5 t7 : AV) (m : Mem) : (T.Rl H).gor 110592 [t0, t4, t5, t7] m = interp (T.Rl H) (g27_0 [t0, t4, t5, t7]) m := (g27_0_ok (H := H) [t0, t4, t5, t7] m).resolve_right nofun
theorem f27_is (h : H 27 = none) (a0 a1 : AV) (m : Mem) : run (T.EH H) (.fn 27) [a0, a1] m = interp (T.Rl H) (f27 [a0, a1]) m := (f27_ok (H := H) h [a0, a1] m).resolve_right nofun
theorem g28_0_is (m : Mem) : (T.Rl H).gor 114688 [] m = interp (T.Rl H) (g28_0 []) m := (g28_0_ok (H := H) [] m).resolve_right nofun
theorem f28_is (h : H 28 = none) (a0 a1 : AV) (m : Mem) : run (T.EH H) (.fn 28) [a0, a1] m = interp (T.Rl H) (f28 [a0, a1]) m := (f28_ok (H := H) h [a0, a1] m).resolve_right nofun
theorem g29_0_is (t0 t1 t7 t9 : AV) (m : Mem) : (T.Rl H).gor 118784 [t0, t1, t7, t9] m = interp (T.Rl H) (g29_0 [t0, t1, t7, t9]) m := (g29_0_ok (H := H) [t0, t1, t7, t9] m).resolve_right nofun
theorem f29_is (h : H 29 = none) (a0 a1 a2 : AV) (m : Mem) : run (T.EH H) (.fn 29) [a0, a1, a2] m = interp (T.Rl H) (f29 [a0, a1, a2]) m := (f29_ok (H := H) h [a0, a1, a2] m).resolve_right nofun
theorem f30_is (h : H 30 = none) (a0 a1 : AV) (m : Mem) : run (T.EH H) (.fn 30) [a0, a1] m = interp (T.Rl H) (f30 [a0, a1]) m := (f30_ok (H := H) h [a0, a1] m).resolve_right nofun
theorem f31_is (h : H 31 = none) (a0 : AV) (m : Mem) : run (T.EH H) (.fn 31) [a0] m = interp (T.Rl H) (f31 [a0]) m := (f31_ok (H := H) h [a0] m).resolve_right nofun
theorem g32_0_is (m : Mem) : (T.Rl H).gor 131072 [] m = interp (T.Rl H) (g32_0 []) m := (g32_0_ok (H := H) [] m).resolve_right nofun
theorem f32_is (h : H 32 = none) (a0 : AV) (m : Mem) : run (T.EH H) (.fn 32) [a0] m = interp (T.Rl H) (f32 [a0]) m := (f32_ok (H := H) h [a0] m).resolve_right nofun
theorem g33_0_is (t0 t4 t6 : AV) (m : Mem) : (T.Rl H).gor 135168 [t0, t4, t6] m = interp (T.Rl H) (g33_0 [t0, t4, t6]) m := (g33_0_ok (H := H) [t0, t4, t6] m).resolve_right nofun
theorem f33_is (h : H 33 = none) (a0 a1 : AV) (m : Mem) : run (T.EH H) (.fn 33) [a0, a1] m = interp (T.Rl H) (f33 [a0, a1]) m := (f33_ok (H := H) h [a0, a1] m).resolve_right nofun
theorem g34_0_is (m : Mem) : (T.Rl H).gor 139264 [] m = interp (T.Rl H) (g34_0 []) m := (g34_0_ok (H := H) [] m).resolve_right nofun
theorem f34_is (h : H 34 = none) (a0 a1 a2 : AV) (m : Mem) : run (T.EH H) (.fn 34) [a0, a1, a2] m = interp (T.Rl H) (f34 [a0, a1, a2]) m := (f34_ok (H := H) h [a0, a1, a2] m).resolve_right nofun
theorem f35_is (h : H 35 = none) (a0 a1 : AV) (m : Mem) : run (T.EH H) (.fn 35) [a0, a1] m = interp (T.Rl H) (f35 [a0, a1]) m := (f35_ok (H := H) h [a0, a1] m).resolve_right nofun
theorem g36_0_is (t2 t3 t4 t6 : AV) (m : Mem) : (T.Rl H).gor 147456 [t2, t3, t4, t6] m = interp (T.Rl H) (g36_0 [t2, t3, t4, t6]) m := (g36_0_ok (H := H) [t2, t3, t4, t6] m).resolve_right nofun
theorem g36_1_is (t2 t3 t4 t6 : AV) (m : Mem) : (T.Rl H).gor 147457 [t2, t3, t4, t6] m = interp (T.Rl H) (g36_1 [t2, t3, t4, t6]) m := (g36_1_ok (H := H) [t2, t3, t4, t6] m).resolve_right nofun
theorem f36_is (h : H 36 = none) (a0 a1 a2 : AV) (m : Mem) : run (T.EH H) (.fn 36) [a0, a1, a2] m = interp (T.Rl H) (f36 [a0, a1, a2]) m := (f36_ok (H := H) h [a0, a1, a2] m).resolve_right nofun
theorem f37_is (h : H 37 = none) (a0 : AV) (m : Mem) : run (T.EH H) (.fn 37) [a0] m = interp (T.Rl H) (f37 [a0]) m := (f37_ok (H := H) h [a0] m).resolve_right nofun
theorem g38_0_is (t1 t4 t6 : AV) (m : Mem) : (T.Rl H).gor 155648 [t1, t4, t6] m = interp (T.Rl H) (g38_0 [t1, t4, t6]) m := (g38_0_ok (H := H) [t1, t4, t6] m).resolve_right nofun
theorem f38_is (h : H 38 = none) (a0 a1 : AV) (m : Mem) : run (T.EH H) (.fn 38) [a0, a1] m = interp (T.Rl H) (f38 [a0, a1]) m := (f38_ok (H := H) h [a0, a1] m).resolve_right nofun
theorem g39_0_is (t1 t2 t4 : AV) (m : Mem) : (T.Rl H).gor 159744 [t1, t2, t4] m = interp (T.Rl H) (g39_0 [t1, t2, t4]) m := (g39_0_ok (H := H) [t1, t2, t4] m).resolve_right nofun
theorem g39_1_is (t2 t4 t6 : AV) (m : Mem) : (T.Rl H).gor 159745 [t2, t4, t6] m = interp (T.Rl H) (g39_1 [t2, t4, t6]) m := (g39_1_ok (H := H) [t2, t4, t6] m).resolve_right nofun
theorem f39_is (h : H 39 = none) (a0 a1 : AV) (m : Mem) : run (T.EH H) (.fn 39) [a0, a1] m = interp (T.Rl H) (f39 [a0, a1]) m := (f39_ok (H := H) h [a0, a1] m).resolve_right nofun
theorem f40_is (h : H 40 = none) (a0 a1 : AV) (m : Mem) : run (T.EH H) (.fn 40) [a0, a1] m = interp (T.Rl H) (f40 [a0, a1]) m := (f40_ok (H := H) h [a0, a1] m).resolve_right nofun
theorem g41_0_is (t2 t3 t4 t5 : AV) (m : Mem) : (T.Rl H).gor 167936 [t2, t3, t4, t5] m = interp (T.Rl H) (g41_0 [t2, t3, t4, t5]) m := (g41_0_ok (H := H) [t2, t3, t4, t5] m).resolve_right nofun
theorem f41_is (h : H 41 = none) (a0 : AV) (m : Mem) : run (T.EH H) (.fn 41) [a0] m = interp (T.Rl H) (f41 [a0]) m := (f41_ok (H := H) h [a0] m).resolve_right nofun
theorem f42_is (h : H 42 = none) (a0 : AV) (m : Mem) : run (T.EH H) (.fn 42) [a0] m = interp (T.Rl H) (f42 [a0]) m := (f42_ok (H := H) h [a0] m).resolve_right nofun
theorem f43_is (h : H 43 = none) (a0 : AV) (m : Mem) : run (T.EH H) (.fn 43) [a0] m = interp (T.Rl H) (f43 [a0]) m := (f43_ok (H := H) h [a0] m).resolve_right nofun
theorem f44_is (h : H 44 = none) (a0 : AV) (m : Mem) : run (T.EH H) (.fn 44) [a0] m = interp (T.Rl H) (f44 [a0]) m := (f44_ok (H := H) h [a0] m).resolve_right nofun
theorem g45_0_is (t4 t6 t8 : AV) (m : Mem) : (T.Rl H).gor 184320 [t4, t6, t8] m = interp (T.Rl H) (g45_0 [t4, t6, t8]) m := (g45_0_ok (H := H) [t4, t6, t8] m).resolve_right nofun
theorem f45_is (h : H 45 = none) (a0 a1 : AV) (m : Mem) : run (T.EH H) (.fn 45) [a0, a1] m = interp (T.Rl H) (f45 [a0, a1]) m := (f45_ok (H := H) h [a0, a1] m).resolve_right nofun
theorem g46_0_is (t0 t1 t6 t7 t8 : AV) (m : Mem) : (T.Rl H).gor 188416 [t0, t1, t6, t7, t8] m = interp (T.Rl H) (g46_0 [t0, t1, t6, t7, t8]) m := (g46_0_ok (H := H) [t0, t1, t6, t7, t8] m).resolve_right nofun
theorem g46_1_is (t0 t1 t6 t7 t8 : AV) (m : Mem) : (T.Rl H).gor 188417 [t0, t1, t6, t7, t8] m = interp (T.Rl H) (g46_1 [t0, t1, t6, t7, t8]) m := (g46_1_ok (H := H) [t0, t1, t6, t7, t8] m).resolve_right nofun
theorem g46_2_is (t0 t1 t6 t7 : AV) (m : Mem) : (T.Rl H).gor 188418 [t0, t1, t6, t7] m = interp (T.Rl H) (g46_2 [t0, t1, t6, t7]) m := (g46_2_ok (H := H) [t0, t1, t6, t7] m).resolve_right nofun
theorem f46_is (h : H 46 = none) (a0 a1 : AV) (m : Mem) : run (T.EH H) (.fn 46) [a0, a1] m = interp (T.Rl H) (f46 [a0, a1]) m := (f46_ok (H := H) h [a0, a1] m).resolve_right nofun
theorem g49_0_is (t0 t1 t6 t7 t8 : AV) (m : Mem) : (T.Rl H).gor 200704 [t0, t1, t6, t7, t8] m = interp (T.Rl H) (g49_0 [t0, t1, t6, t7, t8]) m := (g49_0_ok (H := H) [t0, t1, t6, t7, t8] m).resolve_right nofun
theorem g49_1_is (t0 t1 t6 t7 t8 : AV) (m : Mem) : (T.Rl H).gor 200705 [t0, t1, t6, t7, t8] m = interp (T.Rl H) (g49_1 [t0, t1, t6, t7, t8]) m := (g49_1_ok (H := H) [t0, t1, t6, t7, t8] m).resolve_right nofun
theorem g49_2_is (t0 t1 t6 t7 : AV) (m : Mem) : (T.Rl H).gor 200706 [t0, t1, t6, t7] m = interp (T.Rl H) (g49_2 [t0, t1, t6, t7]) m := (g49_2_ok (H := H) [t0, t1, t6, t7] m).resolve_right nofun
theorem f49_is (h : H 49 = none) (a0 a1 : AV) (m : Mem) : run (T.EH H) (.fn 49) [a0, a1] m = interp (T.Rl H) (f49 [a0, a1]) m := (f49_ok (H := H) h [a0, a1] m).resolve_right nofun
theorem g52_0_is (t0 t4 t6 : AV) (m : Mem) : (T.Rl H).gor 212992 [t0, t4, t6] m = interp (T.Rl H) (g52_0 [t0, t4, t6]) m := (g52_0_ok (H := H) [t0, t4, t6] m).resolve_right nofun
theorem f52_is (h : H 52 = none) (a0 a1 : AV) (m : Mem) : run (T.EH H) (.fn 52) [a0, a1] m = interp (T.Rl H) (f52 [a0, a1]) m := (f52_ok (H := H) h [a0, a1] m).resolve_right nofun
theorem g53_0_is (m : Mem) : (T.Rl H).gor 217088 [] m = interp (T.Rl H) (g53_0 []) m := (g53_0_ok (H := H) [] m).resolve_right nofun
theorem f53_is (h : H 53 = none) (a0 : AV) (m : Mem) : run (T.EH H) (.fn 53) [a0] m = interp (T.Rl H) (f53 [a0]) m := (f53_ok (H := H) h [a0] m).resolve_right nofun
theorem g54_0_is (t4 t6 t8 : AV) (m : Mem) : (T.Rl H).gor 221184 [t4, t6, t8] m = interp (T.Rl H) (g54_0 [t4, t6, t8]) m := (g54_0_ok (H := H) [t4, t6, t8] m).resolve_right nofun
theorem f54_is (h : H 54 = none) (a0 a1 : AV) (m : Mem) : run (T.EH H) (.fn 54) [a0, a1] m = interp (T.Rl H) (f54 [a0, a1]) m := (f54_ok (H := H) h [a0, a1] m).resolve_right nofun
theorem f55_is (h : H 55 = none) (a0 : AV) (m : Mem) : run (T.EH H) (.fn 55) [a0] m = interp (T.Rl H) (f55 [a0]) m := (f55_ok (H := H) h [a0] m).resolve_right nofun
theorem f56_is (h : H 56 = none) (a0 : AV) (m : Mem) : run (T.EH H) (.fn 56) [a0] m = interp (T.Rl H) (f56 [a0]) m := (f56_ok (H := H) h [a0] m).resolve_right nofun
theorem g58_0_is (m : Mem) : (T.Rl H).gor 237568 [] m = interp (T.Rl H) (g58_0 []) m := (g58_0_ok (H := H) [] m).resolve_right nofun
theorem f58_is (h : H 58 = none) (a0 a1 : AV) (m : Mem) : run (T.EH H) (.fn 58) [a0, a1] m = interp (T.Rl H) (f58 [a0, a1]) m := (f58_ok (H := H) h [a0, a1] m).resolve_right nofun
theorem g59_0_is (t2 t3 t4 t6 : AV) (m : Mem) : (T.Rl H).gor 241664 [t2, t3, t4, t6] m = interp (T.Rl H) (g59_0 [t2, t3, t4, t6]) m := (g59_0_ok (H := H) [t2, t3, t4, t6] m).resolve_right nofun
theorem g59_1_is (t2 t6 t9 t10 : AV) (m : Mem) : (T.Rl H).gor 241665 [t2, t6, t9, t10] m = interp (T.Rl H) (g59_1 [t2, t6, t9, t10]) m := (g59_1_ok (H := H) [t2, t6, t9, t10] m).resolve_right nofun
theorem g59_2_is (t2 t6 t9 : AV) (m : Mem) : (T.Rl H).gor 241666 [t2, t6, t9] m = interp (T.Rl H) (g59_2 [t2, t6, t9]) m := (g59_2_ok (H := H) [t2, t6, t9] m).resolve_right nofun
theorem f59_is (h : H 59 = none) (a0 a1 a2 : AV) (m : Mem) : run (T.EH H) (.fn 59) [a0, a1, a2] m = interp (T.Rl H) (f59 [a0, a1, a2]) m := (f59_ok (H := H) h [a0, a1, a2] m).resolve_right nofun
theorem g60_0_is (t1 t2 t4 : AV) (m : Mem) : (T.Rl H).gor 245760 [t1, t2, t4] m = interp (T.Rl H) (g60_0 [t1, t2, t4]) m := (g60_0_ok (H := H) [t1, t2, t4] m).resolve_right nofun
theorem g60_1_is (t1 t2 t4 : AV) (m : Mem) : (T.Rl H).gor 245761 [t1, t2, t4] m = interp (T.Rl H) (g60_1 [t1, t2, t4]) m := (g60_1_ok (H := H) [t1, t2, t4] m).resolve_right nofun
theorem g60_2_is (t1 t2 t4 : AV) (m : Mem) : (T.Rl H).gor 245762 [t1, t2, t4] m = interp (T.Rl H) (g60_2 [t1, t2, t4]) m := (g60_2_ok (H := H) [t1, t2, t4] m).resolve_right nofun
theorem g60_3_is (t1 t2 : AV) (m : Mem) : (T.Rl H).gor 245763 [t1, t2] m = interp (T.Rl H) (g60_3 [t1, t2]) m := (g60_3_ok (H := H) [t1, t2] m).resolve_right nofun
theorem g60_4_is (t2 t5 t6 : AV) (m : Mem) : (T.Rl H).gor 245764 [t2, t5, t6] m = interp (T.Rl H) (g60_4 [t2, t5, t6]) m := (g60_4_ok (H := H) [t2, t5, t6] m).resolve_right nofun
theorem g60_5_is (t2 t5 t6 : AV) (m : Mem) : (T.Rl H).gor 245765 [t2, t5, t6] m = interp (T.Rl H) (g60_5 [t2, t5, t6]) m := (g60_5_ok (H := H) [t2, t5, t6] m).resolve_right nofun
theorem g60_6_is (t2 t5 t6 : AV) (m : Mem) : (T.Rl H).gor 245766 [t2, t5, t6] m = interp (T.Rl H) (g60_6 [t2, t5, t6]) m := (g60_6_ok (H := H) [t2, t5, t6] m).resolve_right nofun
theorem f60_is (h : H 60 = none) (a0 : AV) (m : Mem) : run (T.EH H) (.fn 60) [a0] m = interp (T.Rl H) (f60 [a0]) m := (f60_ok (H := H) h [a0] m).resolve_right nofun
theorem g61_0_is (t0 t2 t3 t4 t5 : AV) (m : Mem) : (T.Rl H).gor 249856 [t0, t2, t3, t4, t5] m = interp (T.Rl H) (g61_0 [t0, t2, t3, t4, t5]) m := (g61_0_ok (H := H) [t0, t2, t3, t4, t5] m).resolve_right nofun
theorem g61_1_is (t0 t2 t3 t4 t5 : AV) (m : Mem) : (T.Rl H).gor 249857 [t0, t2, t3, t4, t5] m = interp (T.Rl H) (g61_1 [t0, t2, t3, t4, t5]) m := (g61_1_ok (H := H) [t0, t2, t3, t4, t5] m).resolve_right nofun
theorem g61_2_is (t0 t2 t3 t4 t5 : AV) (m : Mem) : (T.Rl H).gor 249858 [t0, t2, t3, t4, t5] m = interp (T.Rl H) (g61_2 [t0, t2, t3, t4, t5]) m := (g61_2_ok (H := H) [t0, t2, t3, t4, t5] m).resolve_right nofun
theorem g61_3_is (t2 t3 : AV) (m : Mem) : (T.Rl H).gor 249859 [t2, t3] m = interp (T.Rl H) (g61_3 [t2, t3]) m := (g61_3_ok (H := H) [t2, t3] m).resolve_right nofun
theorem f61_is (h : H 61 = none) (a0 : AV) (m : Mem) : run (T.EH H) (.fn 61) [a0] m = interp (T.Rl H) (f61 [a0]) m := (f61_ok (H := H) h [a0] m).resolve_right nofun
theorem g62_0_is (t2 t3 t4 t5 t6 : AV) (m : Mem) : (T.Rl H).gor 253952 [t2, t3, t4, t5, t6] m = interp (T.Rl H) (g62_0 [t2, t3, t4, t5, t6]) m := (g62_0_ok (H := H) [t2, t3, t4, t5, t6] m).resolve_right nofun
theorem g62_1_is (t2 t3 t4 t5 t6 : AV) (m : Mem) : (T.Rl H).gor 253953 [t2, t3, t4, t5, t6] m = interp (T.Rl H) (g62_1 [t2, t3, t4, t5, t6]) m := (g62_1_ok (H := H) [t2, t3, t4, t5, t6] m).resolve_right nofun
theorem g62_2_is (t2 t3 t4 t5 t6 : AV) (m : Mem) : (T.Rl H).gor 253954 [t2, t3, t4, t5, t6] m = interp (T.Rl H) (g62_2 [t2, t3, t4, t5, t6]) m := (g62_2_ok (H := H) [t2, t3, t4, t5, t6] m).resolve_right nofun
theorem g62_3_is (t4 t5 : AV) (m : Mem) : (T.Rl H).gor 253955 [t4, t5] m = interp (T.Rl H) (g62_3 [t4, t5]) m := (g62_3_ok (H := H) [t4, t5] m).resolve_right nofun
theorem f62_is (h : H 62 = none) (a0 a1 : AV) (m : Mem) : run (T.EH H) (.fn 62) [a0, a1] m = interp (T.Rl H) (f62 [a0, a1]) m := (f62_ok (H := H) h [a0, a1] m).resolve_right nofun
theorem g63_0_is (t2 t3 t5 : AV) (m : Mem) : (T.Rl H).gor 258048 [t2, t3, t5] m = interp (T.Rl H) (g63_0 [t2, t3, t5]) m := (g63_0_ok (H := H) [t2, t3, t5] m).resolve_right nofun
theorem g63_1_is (t2 t3 t5 : AV) (m : Mem) : (T.Rl H).gor 258049 [t2, t3, t5] m = interp (T.Rl H) (g63_1 [t2, t3, t5]) m := (g63_1_ok (H := H) [t2, t3, t5] m).resolve_right nofun
theorem g63_2_is (m : Mem) : (T.Rl H).gor 258050 [] m = interp (T.Rl H) (g63_2 []) m := (g63_2_ok (H := H) [] m).resolve_right nofun
theorem g63_3_is (t2 t3 t5 : AV) (m : Mem) : (T.Rl H).gor 258051 [t2, t3, t5] m = interp (T.Rl H) (g63_3 [t2, t3, t5]) m := (g63_3_ok (H := H) [t2, t3, t5] m).resolve_right nofun
theorem g63_4_is (m : Mem) : (T.Rl H).gor 258052 [] m = interp (T.Rl H) (g63_4 []) m := (g63_4_ok (H := H) [] m).resolve_right nofun
theorem f63_is (h : H 63 = none) (a0 a1 : AV) (m : Mem) : run (T.EH H) (.fn 63) [a0, a1] m = interp (T.Rl H) (f63 [a0, a1]) m := (f63_ok (H := H) h [a0, a1] m).resolve_right nofun
theorem g64_0_is (t2 t3 t4 t5 t6 t7 : AV) (m : Mem) : (T.Rl H).gor 262144 [t2, t3, t4, t5, t6, t7] m = interp (T.Rl H) (g64_0 [t2, t3, t4, t5, t6, t7]) m := (g64_0_ok (H := H) [t2, t3, t4, t5, t6, t7] m).resolve_right nofun
theorem g64_1_is (t2 t3 t4 t5 t6 t7 : AV) (m : Mem) : (T.Rl H).gor 262145 [t2, t3, t4, t5, t6, t7] m = interp (T.Rl H) (g64_1 [t2, t3, t4, t5, t6, t7]) m := (g64_1_ok (H := H) [t2, t3, t4, t5, t6, t7] m).resolve_right nofun
theorem g64_2_is (t2 t3 t4 t5 t6 t7 : AV) (m : Mem) : (T.Rl H).gor 262146 [t2, t3, t4, t5, t6, t7] m = interp (T.Rl H) (g64_2 [t2, t3, t4, t5, t6, t7]) m := (g64_2_ok (H := H) [t2, t3, t4, t5, t6, t7] m).resolve_right nofun
theorem g64_3_is (t4 t5 : AV) (m : Mem) : (T.Rl H).gor 262147 [t4, t5] m = interp (T.Rl H) (g64_3 [t4, t5]) m := (g64_3_ok (H := H) [t4, t5] m).resolve_right nofun
theorem f64_is (h : H 64 = none) (a0 a1 : AV) (m : Mem) : run (T.EH H) (.fn 64) [a0, a1] m = interp (T.Rl H) (f64 [a0, a1]) m := (f64_ok (H := H) h [a0, a1] m).resolve_right nofun
theorem f65_is (h : H 65 = none) (a0 : AV) (m : Mem) : run (T.EH H) (.fn 65) [a0] m = interp (T.Rl H) (f65 [a0]) m := (f65_ok (H := H) h [a0] m).resolve_right nofun
theorem g66_0_is (t2 t3 t4 t5 t6 : AV) (m : Mem) : (T.Rl H).gor 270336 [t2, t3, t4, t5, t6] m = interp (T.Rl H) (g66_0 [t2, t3, t4, t5, t6]) m := (g66_0_ok (H := H) [t2, t3, t4, t5, t6] m).resolve_right nofun
theorem g66_1_is (t2 t3 t4 t5 t6 : AV) (m : Mem) : (T.Rl H).gor 270337 [t2, t3, t4, t5, t6] m = interp (T.Rl H) (g66_1 [t2, t3, t4, t5, t6]) m := (g66_1_ok (H := H) [t2, t3, t4, t5, t6] m).resolve_right nofun
theorem g66_2_is (t2 t3 t4 t5 t6 t7 t8 : AV) (m : Mem) : (T.Rl H).gor 270338 [t2, t3, t4, t5, t6, t7, t8] m = interp (T.Rl H) (g66_2 [t2, t3, t4, t5, t6, t7, t8]) m := (g66_2_ok (H := H) [t2, t3, t4, t5, t6, t7, t8] m).resolve_right nofun
theorem g66_3_is (t2 t3 t4 t5 t6 t7 t8 : AV) (m : Mem) : (T.Rl H).gor 270339 [t2, t3, t4, t5, t6, t7, t8] m = interp (T.Rl H) (g66_3 [t2, t3, t4, t5, t6, t7, t8]) m := (g66_3_ok (H := H) [t2, t3, t4, t5, t6, t7, t8] m).resolve_right nofun
theorem g66_4_is (t2 t3 t4 t5 t6 t7 t8 : AV) (m : Mem) : (T.Rl H).gor 270340 [t2, t3, t4, t5, t6, t7, t8] m = interp (T.Rl H) (g66_4 [t2, t3, t4, t5, t6, t7, t8]) m := (g66_4_ok (H := H) [t2, t3, t4, t5, t6, t7, t8] m).resolve_right nofun
theorem g66_5_is (t2 t3 t4 t5 t6 : AV) (m : Mem) : (T.Rl H).gor 270341 [t2, t3, t4, t5, t6] m = interp (T.Rl H) (g66_5 [t2, t3, t4, t5, t6]) m := (g66_5_ok (H := H) [t2, t3, t4, t5, t6] m).resolve_right nofun
theorem g66_6_is (t4 t5 : AV) (m : Mem) : (T.Rl H).gor 270342 [t4, t5] m = interp (T.Rl H) (g66_6 [t4, t5]) m := (g66_6_ok (H := H) [t4, t5] m).resolve_right nofun
theorem f66_is (h : H 66 = none) (a0 a1 : AV) (m : Mem) : run (T.EH H) (.fn 66) [a0, a1] m = interp (T.Rl H) (f66 [a0, a1]) m := (f66_ok (H := H) h [a0, a1] m).resolve_right nofun
theorem f67_is (h : H 67 = none) (a0 a1 : AV) (m : Mem) : run (T.EH H) (.fn 67) [a0, a1] m = interp (T.Rl H) (f67 [a0, a1]) m := (f67_ok (H := H) h [a0, a1] m).resolve_right nofun
theorem g68_0_is (t1 t2 t8 t9 t10 : AV) (m : Mem) : (T.Rl H).gor 278528 [t1, t2, t8, t9, t10] m = interp (T.Rl H) (g68_0 [t1, t2, t8, t9, t10]) m := (g68_0_ok (H := H) [t1, t2, t8, t9, t10] m).resolve_right nofun
theorem g68_1_is (t1 t2 t8 t9 t10 : AV) (m : Mem) : (T.Rl H).gor 278529 [t1, t2, t8, t9, t10] m = interp (T.Rl H) (g68_1 [t1, t2, t8, t9, t10]) m := (g68_1_ok (H := H) [t1, t2, t8, t9, t10] m).resolve_right nofun
theorem g68_2_is (t1 t2 t8 t9 t10 : AV) (m : Mem) : (T.Rl H).gor 278530 [t1, t2, t8, t9, t10] m = interp (T.Rl H) (g68_2 [t1, t2, t8, t9, t10]) m := (g68_2_ok (H := H) [t1, t2, t8, t9, t10] m).resolve_right nofun
theorem f68_is (h : H 68 = none) (a0 a1 a2 : AV) (m : Mem) : run (T.EH H) (.fn 68) [a0, a1, a2] m = interp (T.Rl H) (f68 [a0, a1, a2]) m := (f68_ok (H := H) h [a0, a1, a2] m).resolve_right nofun
theorem f69_is (h : H 69 = none) (a0 : AV) (m : Mem) : run (T.EH H) (.fn 69) [a0] m = interp (T.Rl H) (f69 [a0]) m := (f69_ok (H := H) h [a0] m).resolve_right nofun
theorem f70_is (h : H 70 = none) (a0 : AV) (m : Mem) : run (T.EH H) (.fn 70) [a0] m = interp (T.Rl H) (f70 [a0]) m := (f70_ok (H := H) h [a0] m).resolve_right nofun
theorem f71_is (h : H 71 = none) (a0 a1 : AV) (m : Mem) : run (T.EH H) (.fn 71) [a0, a1] m = interp (T.Rl H) (f71 [a0, a1]) m := (f71_ok (H := H) h [a0, a1] m).resolve_right nofun
theorem g72_0_is (t1 t2 t8 t9 t10 : AV) (m : Mem) : (T.Rl H).gor 294912 [t1, t2, t8, t9, t10] m = interp (T.Rl H) (g72_0 [t1, t2, t8, t9, t10]) m := (g72_0_ok (H := H) [t1, t2, t8, t9, t10] m).resolve_right nofun
theorem g72_1_is (t1 t2 t8 t9 t10 : AV) (m : Mem) : (T.Rl H).gor 294913 [t1, t2, t8, t9, t10] m = interp (T.Rl H) (g72_1 [t1, t2, t8, t9, t10]) m := (g72_1_ok (H := H) [t1, t2, t8, t9, t10] m).resolve_right nofun
theorem g72_2_is (t1 t2 t8 t9 t10 : AV) (m : Mem) : (T.Rl H).gor 294914 [t1, t2, t8, t9, t10] m = interp (T.Rl H) (g72_2 [t1, t2, t8, t9, t10]) m := (g72_2_ok (H := H) [t1, t2, t8, t9, t10] m).resolve_right nofun
theorem f72_is (h : H 72 = none) (a0 a1 a2 : AV) (m : Mem) : run (T.EH H) (.fn 72) [a0, a1, a2] m = interp (T.Rl H) (f72 [a0, a1, a2]) m := (f72_ok (H := H) h [a0, a1, a2] m).resolve_right nofun
theorem f73_is (h : H 73 = none) (a0 : AV) (m : Mem) : run (T.EH H) (.fn 73) [a0] m = interp (T.Rl H) (f73 [a0]) m := (f73_ok (H := H) h [a0] m).resolve_right nofun
theorem f74_is (h : H 74 = none) (a0 : AV) (m : Mem) : run (T.EH H) (.fn 74) [a0] m = interp (T.Rl H) (f74 [a0]) m := (f74_ok (H := H) h [a0] m).resolve_right nofun
theorem f75_is (h : H 75 = none) (a0 a1 : AV) (m : Mem) : run (T.EH H) (.fn 75) [a0, a1] m = interp (T.Rl H) (f75 [a0, a1]) m := (f75_ok (H := H) h [a0, a1] m).resolve_right nofun
theorem g76_0_is (t1 t2 t8 t9 t10 : AV) (m : Mem) : (T.Rl H).gor 311296 [t1, t2, t8, t9, t10] m = interp (T.Rl H) (g76_0 [t1, t2, t8, t9, t10]) m := (g76_0_ok (H := H) [t1, t2, t8, t9, t10] m).resolve_right nofun
theorem g76_1_is (t1 t2 t8 t9 t10 : AV) (m : Mem) : (T.Rl H).gor 311297 [t1, t2, t8, t9, t10] m = interp (T.Rl H) (g76_1 [t1, t2, t8, t9, t10]) m := (g76_1_ok (H := H) [t1, t2, t8, t9, t10] m).resolve_right nofun
theorem g76_2_is (t1 t2 t8 t9 t10 : AV) (m : Mem) : (T.Rl H).gor 311298 [t1, t2, t8, t9, t10] m = interp (T.Rl H) (g76_2 [t1, t2, t8, t9, t10]) m := (g76_2_ok (H := H) [t1, t2, t8, t9, t10] m).resolve_right nofun
theorem f76_is (h : H 76 = none) (a0 a1 a2 : AV) (m : Mem) : run (T.EH H) (.fn 76) [a0, a1, a2] m = interp (T.Rl H) (f76 [a0, a1, a2]) m := (f76_ok (H := H) h [a0, a1, a2] m).resolve_right nofun
theorem f77_is (h : H 77 = none) (a0 : AV) (m : Mem) : run (T.EH H) (.fn 77) [a0] m = interp (T.Rl H) (f77 [a0]) m := (f77_ok (H := H) h [a0] m).resolve_right nofun
theorem f78_is (h : H 78 = none) (a0 : AV) (m : Mem) : run (T.EH H) (.fn 78) [a0] m = interp (T.Rl H) (f78 [a0]) m := (f78_ok (H := H) h [a0] m).resolve_right nofun
theorem f80_is (h : H 80 = none) (a0 a1 : AV) (m : Mem) : run (T.EH H) (.fn 80) [a0, a1] m = interp (T.Rl H) (f80 [a0, a1]) m := (f80_ok (H := H) h [a0, a1] m).resolve_right nofun
theorem f81_is (h : H 81 = none) (a0 : AV) (m : Mem) : run (T.EH H) (.fn 81) [a0] m = interp (T.Rl H) (f81 [a0]) m := (f81_ok (H := H) h [a0] m).resolve_right nofun
theorem f86_is (h : H 86 = none) (a0 a1 : AV) (m : Mem) : run (T.EH H) (.fn 86) [a0, a1] m = interp (T.Rl H) (f86 [a0, a1]) m := (f86_ok (H := H) h [a0, a1] m).resolve_right nofun
theorem f87_is (h : H 87 = none) (a0 : AV) (m : Mem) : run (T.EH H) (.fn 87) [a0] m = interp (T.Rl H) (f87 [a0]) m := (f87_ok (H := H) h [a0] m).resolve_right nofun
theorem f93_is (h : H 93 = none) (a0 : AV) (m : Mem) : run (T.EH H) (.fn 93) [a0] m = interp (T.Rl H) (f93 [a0]) m := (f93_ok (H := H) h [a0] m).resolve_right nofun
theorem g94_0_is (t2 t3 : AV) (m : Mem) : (T.Rl H).gor 385024 [t2, t3] m = interp (T.Rl H) (g94_0 [t2, t3]) m := (g94_0_ok (H := H) [t2, t3] m).resolve_right nofun
theorem g94_1_is (t2 t3 : AV) (m : Mem) : (T.Rl H).gor 385025 [t2, t3] m = interp (T.Rl H) (g94_1 [t2, t3]) m := (g94_1_ok (H := H) [t2, t3] m).resolve_right nofun
theorem f94_is (h : H 94 = none) (a0 a1 : AV) (m : Mem) : run (T.EH H) (.fn 94) [a0, a1] m = interp (T.Rl H) (f94 [a0, a1]) m := (f94_ok (H := H) h [a0, a1] m).resolve_right nofun
theorem g97_0_is (t2 t3 t4 t6 : AV) (m : Mem) : (T.Rl H).gor 397312 [t2, t3, t4, t6] m = interp (T.Rl H) (g97_0 [t2, t3, t4, t6]) m := (g97_0_ok (H := H) [t2, t3, t4, t6] m).resolve_right nofun
theorem g97_1_is (t3 t4 t6 t9 t12 : AV) (m : Mem) : (T.Rl H).gor 397313 [t3, t4, t6, t9, t12] m = interp (T.Rl H) (g97_1 [t3, t4, t6, t9, t12]) m := (g97_1_ok (H := H) [t3, t4, t6, t9, t12] m).resolve_right nofun
theorem g97_2_is (t3 t4 t6 t9 t12 t14 : AV) (m : Mem) : (T.Rl H).gor 397314 [t3, t4, t6, t9, t12, t14] m = interp (T.Rl H) (g97_2 [t3, t4, t6, t9, t12, t14]) m := (g97_2_ok (H := H) [t3, t4, t6, t9, t12, t14] m).resolve_right nofun
theorem g97_3_is (t3 t4 t6 t9 t14 : AV) (m : Mem) : (T.Rl H).gor 397315 [t3, t4, t6, t9, t14] m = interp (T.Rl H) (g97_3 [t3, t4, t6, t9, t14]) m := (g97_3_ok (H := H) [t3, t4, t6, t9, t14] m).resolve_right nofun
theorem g97_4_is (t3 t4 t6 t9 t12 t14 : AV) (m : Mem) : (T.Rl H).gor 397316 [t3, t4, t6, t9, t12, t14] m = interp (T.Rl H) (g97_4 [t3, t4, t6, t9, t12, t14]) m := (g97_4_ok (H := H) [t3, t4, t6, t9, t12, t14] m).resolve_right nofun
theorem g97_5_is (t3 t4 t6 t9 : AV) (m : Mem) : (T.Rl H).gor 397317 [t3, t4, t6, t9] m = interp (T.Rl H) (g97_5 [t3, t4, t6, t9]) m := (g97_5_ok (H := H) [t3, t4, t6, t9] m).resolve_right nofun
theorem f97_is (h : H 97 = none) (a0 a1 a2 : AV) (m : Mem) : run (T.EH H) (.fn 97) [a0, a1, a2] m = interp (T.Rl H) (f97 [a0, a1, a2]) m := (f97_ok (H := H) h [a0, a1, a2] m).resolve_right nofun
theorem f98_is (h : H 98 = none) (a0 a1 : AV) (m : Mem) : run (T.EH H) (.fn 98) [a0, a1] m = interp (T.Rl H) (f98 [a0, a1]) m := (f98_ok (H := H) h [a0, a1] m).resolve_right nofun
theorem g99_0_is (t2 t4 t6 : AV) (m : Mem) : (T.Rl H).gor 405504 [t2, t4, t6] m = interp (T.Rl H) (g99_0 [t2, t4, t6]) m := (g99_0_ok (H := H) [t2, t4, t6] m).resolve_right nofun
theorem f99_is (h : H 99 = none) (a0 a1 : AV) (m : Mem) : run (T.EH H) (.fn 99) [a0, a1] m = interp (T.Rl H) (f99 [a0, a1]) m := (f99_ok (H := H) h [a0, a1] m).resolve_right nofun
theorem g100_0_is (t2 t3 t4 t5 t6 t7 : AV) (m : Mem) : (T.Rl H).gor 409600 [t2, t3, t4, t5, t6, t7] m = interp (T.Rl H) (g100_0 [t2, t3, t4, t5, t6, t7]) m := (g100_0_ok (H := H) [t2, t3, t4, t5, t6, t7] m).resolve_right nofun
theorem g100_1_is (t2 t3 t4 t5 t6 t7 : AV) (m : Mem) : (T.Rl H).gor 409601 [t2, t3, t4, t5, t6, t7] m = interp (T.Rl H) (g100_1 [t2, t3, t4, t5, t6, t7]) m := (g100_1_ok (H := H) [t2, t3, t4, t5, t6, t7] m).resolve_right nofun
theorem g100_2_is (t2 t3 t4 t5 t6 t7 : AV) (m : Mem) : (T.Rl H).gor 409602 [t2, t3, t4, t5, t6, t7] m = interp (T.Rl H) (g100_2 [t2, t3, t4, t5, t6, t7]) m := (g100_2_ok (H := H) [t2, t3, t4, t5, t6, t7] m).resolve_right nofun
theorem g100_3_is (t4 t5 : AV) (m : Mem) : (T.Rl H).gor 409603 [t4, t5] m = interp (T.Rl H) (g100_3 [t4, t5]) m := (g100_3_ok (H := H) [t4, t5] m).resolve_right nofun
theorem f100_is (h : H 100 = none) (a0 a1 : AV) (m : Mem) : run (T.EH H) (.fn 100) [a0, a1] m = interp (T.Rl H) (f100 [a0, a1]) m := (f100_ok (H := H) h [a0, a1] m).resolve_right nofun
theorem f101_is (h : H 101 = none) (a0 : AV) (m : Mem) : run (T.EH H) (.fn 101) [a0] m = interp (T.Rl H) (f101 [a0]) m := (f101_ok (H := H) h [a0] m).resolve_right nofun
theorem f104_is (h : H 104 = none) (a0 : AV) (m : Mem) : run (T.EH H) (.fn 104) [a0] m = interp (T.Rl H) (f104 [a0]) m := (f104_ok (H := H) h [a0] m).resolve_right nofun
theorem g107_0_is (t8 : AV) (m : Mem) : (T.Rl H).gor 438272 [t8] m = interp (T.Rl H) (g107_0 [t8]) m := (g107_0_ok (H := H) [t8] m).resolve_right nofun
theorem f107_is (h : H 107 = none) (a0 a1 : AV) (m : Mem) : run (T.EH H) (.fn 107) [a0, a1] m = interp (T.Rl H) (f107 [a0, a1]) m := (f107_ok (H := H) h [a0, a1] m).resolve_right nofun
theorem g109_0_is (t1 t2 t4 t6 t7 : AV) (m : Mem) : (T.Rl H).gor 446464 [t1, t2, t4, t6, t7] m = interp (T.Rl H) (g109_0 [t1, t2, t4, t6, t7]) m := (g109_0_ok (H := H) [t1, t2, t4, t6, t7] m).resolve_right nofun
theorem g109_1_is (t1 t2 t4 t6 t7 : AV) (m : Mem) : (T.Rl H).gor 446465 [t1, t2, t4, t6, t7] m = interp (T.Rl H) (g109_1 [t1, t2, t4, t6, t7]) m := (g109_1_ok (H := H) [t1, t2, t4, t6, t7] m).resolve_right nofun
theorem g109_2_is (t1 t2 t4 t6 t7 : AV) (m : Mem) : (T.Rl H).gor 446466 [t1, t2, t4, t6, t7] m = interp (T.Rl H) (g109_2 [t1, t2, t4, t6, t7]) m := (g109_2_ok (H := H) [t1, t2, t4, t6, t7] m).resolve_right nofun
theorem g109_3_is (t2 t4 t6 : AV) (m : Mem) : (T.Rl H).gor 446467 [t2, t4, t6] m = interp (T.Rl H) (g109_3 [t2, t4, t6]) m := (g109_3_ok (H := H) [t2, t4, t6] m).resolve_right nofun
theorem f109_is (h : H 109 = none) (a0 a1 : AV) (m : Mem) : run (T.EH H) (.fn 109) [a0, a1] m = interp (T.Rl H) (f109 [a0, a1]) m := (f109_ok (H := H) h [a0, a1] m).resolve_right nofun
theorem f110_is (h : H 110 = none) (a0 a1 : AV) (m : Mem) : run (T.EH H) (.fn 110) [a0, a1] m = interp (T.Rl H) (f110 [a0, a1]) m := (f110_ok (H := H) h [a0, a1] m).resolve_right nofun
theorem g111_0_is (t0 t3 : AV) (m : Mem) : (T.Rl H).gor 454656 [t0, t3] m = interp (T.Rl H) (g111_0 [t0, t3]) m := (g111_0_ok (H := H) [t0, t3] m).resolve_right nofun
theorem g111_1_is (t0 t3 : AV) (m : Mem) : (T.Rl H).gor 454657 [t0, t3] m = interp (T.Rl H) (g111_1 [t0, t3]) m := (g111_1_ok (H := H) [t0, t3] m).resolve_right nofun
theorem g111_2_is (t0 t3 : AV) (m : Mem) : (T.Rl H).gor 454658 [t0, t3] m = interp (T.Rl H) (g111_2 [t0, t3]) m := (g111_2_ok (H := H) [t0, t3] m).resolve_right nofun
theorem g111_3_is (t3 : AV) (m : Mem) : (T.Rl H).gor 454659 [t3] m = interp (T.Rl H) (g111_3 [t3]) m := (g111_3_ok (H := H) [t3] m).resolve_right nofun
theorem f111_is (h : H 111 = none) (a0 : AV) (m : Mem) : run (T.EH H) (.fn 111) [a0] m = interp (T.Rl H) (f111 [a0]) m := (f111_ok (H := H) h [a0] m).resolve_right nofun
theorem g112_0_is (t0 t3 t4 : AV) (m : Mem) : (T.Rl H).gor 458752 [t0, t3, t4] m = interp (T.Rl H) (g112_0 [t0, t3, t4]) m := (g112_0_ok (H := H) [t0, t3, t4] m).resolve_right nofun
theorem f112_is (h : H 112 = none) (a0 a1 : AV) (m : Mem) : run (T.EH H) (.fn 112) [a0, a1] m = interp (T.Rl H) (f112 [a0, a1]) m := (f112_ok (H := H) h [a0, a1] m).resolve_right nofun
theorem g113_0_is (t0 t2 : AV) (m : Mem) : (T.Rl H).gor 462848 [t0, t2] m = interp (T.Rl H) (g113_0 [t0, t2]) m := (g113_0_ok (H := H) [t0, t2] m).resolve_right nofun
theorem g113_1_is (t0 t2 t4 : AV) (m : Mem) : (T.Rl H).gor 462849 [t0, t2, t4] m = interp (T.Rl H) (g113_1 [t0, t2, t4]) m := (g113_1_ok (H := H) [t0, t2, t4] m).resolve_right nofun
theorem g113_2_is (t0 t2 t4 : AV) (m : Mem) : (T.Rl H).gor 462850 [t0, t2, t4] m = interp (T.Rl H) (g113_2 [t0, t2, t4]) m := (g113_2_ok (H := H) [t0, t2, t4] m).resolve_right nofun
theorem g113_3_is (t0 t2 t4 : AV) (m : Mem) : (T.Rl H).gor 462851 [t0, t2, t4] m = interp (T.Rl H) (g113_3 [t0, t2, t4]) m := (g113_3_ok (H := H) [t0, t2, t4] m).resolve_right nofun
theorem g113_4_is (t2 t4 : AV) (m : Mem) : (T.Rl H).gor 462852 [t2, t4] m = interp (T.Rl H) (g113_4 [t2, t4]) m := (g113_4_ok (H := H) [t2, t4] m).resolve_right nofun
theorem f113_is (h : H 113 = none) (a0 : AV) (m : Mem) : run (T.EH H) (.fn 113) [a0] m = interp (T.Rl H) (f113 [a0]) m := (f113_ok (H := H) h [a0] m).resolve_right nofun
theorem g118_0_is (t2 t3 t4 t5 : AV) (m : Mem) : (T.Rl H).gor 483328 [t2, t3, t4, t5] m = interp (T.Rl H) (g118_0 [t2, t3, t4, t5]) m := (g118_0_ok (H := H) [t2, t3, t4, t5] m).resolve_right nofun
theorem g118_4_is (t2 t3 t4 t5 t11 t12 t13 t14 : AV) (m : Mem) : (T.Rl H).gor 483332 [t2, t3, t4, t5, t11, t12, t13, t14] m = interp (T.Rl H) (g118_4 [t2, t3, t4, t5, t11, t12, t13, t14]) m := (g118_4_ok (H := H) [t2, t3, t4, t5, t11, t12, t13, t14] m).resolve_right nofun
theorem g118_5_is (t2 t4 t5 t13 t14 : AV) (m : Mem) : (T.Rl H).gor 483333 [t2, t4, t5, t13, t14] m = interp (T.Rl H) (g118_5 [t2, t4, t5, t13, t14]) m := (g118_5_ok (H := H) [t2, t4, t5, t13, t14] m).resolve_right nofun
theorem f118_is (h : H 118 = none) (a0 a1 : AV) (m : Mem) : run (T.EH H) (.fn 118) [a0, a1] m = interp (T.Rl H) (f118 [a0, a1]) m := (f118_ok (H := H) h [a0, a1] m).resolve_right nofun
theorem g120_0_is (t0 t1 t2 : AV) (m : Mem) : (T.Rl H).gor 491520 [t0, t1, t2] m = interp (T.Rl H) (g120_0 [t0, t1, t2]) m := (g120_0_ok (H := H) [t0, t1, t2] m).resolve_right nofun
theorem g120_1_is (t0 t1 t2 : AV) (m : Mem) : (T.Rl H).gor 491521 [t0, t1, t2] m = interp (T.Rl H) (g120_1 [t0, t1, t2]) m := (g120_1_ok (H := H) [t0, t1, t2] m).resolve_right nofun
theorem g120_2_is (t0 t1 t2 : AV) (m : Mem) : (T.Rl H).gor 491522 [t0, t1, t2] m = interp (T.Rl H) (g120_2 [t0, t1, t2]) m := (g120_2_ok (H := H) [t0, t1, t2] m).resolve_right nofun
theorem g120_3_is (t2 t8 t9 t10 t11 t13 t14 t15 t16 : AV) (m : Mem) : (T.Rl H).gor 491523 [t2, t8, t9, t10, t11, t13, t14, t15, t16] m = interp (T.Rl H) (g120_3 [t2, t8, t9, t10, t11, t13, t14, t15, t16]) m := (g120_3_ok (H := H) [t2, t8, t9, t10, t11, t13, t14, t15, t16] m).resolve_right nofun
theorem g120_4_is (t2 t8 t9 t10 t11 t13 t14 t15 t16 : AV) (m : Mem) : (T.Rl H).gor 491524 [t2, t8, t9, t10, t11, t13, t14, t15, t16] m = interp (T.Rl H) (g120_4 [t2, t8, t9, t10, t11, t13, t14, t15, t16]) m := (g120_4_ok (H := H) [t2, t8, t9, t10, t11, t13, t14, t15, t16] m).resolve_right nofun
theorem g120_5_is (t2 t8 t9 t10 t11 t13 t14 t15 : AV) (m : Mem) : (T.Rl H).gor 491525 [t2, t8, t9, t10, t11, t13, t14, t15] m = interp (T.Rl H) (g120_5 [t2, t8, t9, t10, t11, t13, t14, t15]) m := (g120_5_ok (H := H) [t2, t8, t9, t10, t11, t13, t14, t15] m).resolve_right nofun
theorem g120_6_is (t2 t8 t9 t10 t14 t15 t16 t17 t18 : AV) (m : Mem) : (T.Rl H).gor 491526 [t2, t8, t9, t10, t14, t15, t16, t17, t18] m = interp (T.Rl H) (g120_6 [t2, t8, t9, t10, t14, t15, t16, t17, t18]) m := (g120_6_ok (H := H) [t2, t8, t9, t10, t14, t15, t16, t17, t18] m).resolve_right nofun
theorem g120_7_is (t2 t8 t9 t10 t14 t15 t16 t17 t18 : AV) (m : Mem) : (T.Rl H).gor 491527 [t2, t8, t9, t10, t14, t15, t16, t17, t18] m = interp (T.Rl H) (g120_7 [t2, t8, t9, t10, t14, t15, t16, t17, t18]) m := (g120_7_ok (H := H) [t2, t8, t9, t10, t14, t15, t16, t17, t18] m).resolve_right nofun
theorem g120_8_is (t2 t8 t14 t15 t17 t18 : AV) (m : Mem) : (T.Rl H).gor 491528 [t2, t8, t14, t15, t17, t18] m = interp (T.Rl H) (g120_8 [t2, t8, t14, t15, t17, t18]) m := (g120_8_ok (H := H) [t2, t8, t14, t15, t17, t18] m).resolve_right nofun
theorem f120_is (h : H 120 = none) (a0 a1 a2 : AV) (m : Mem) : run (T.EH H) (.fn 120) [a0, a1, a2] m = interp (T.Rl H) (f120 [a0, a1, a2]) m := (f120_ok (H := H) h [a0, a1, a2] m).resolve_right nofun
theorem g121_0_is (t1 : AV) (m : Mem) : (T.Rl H).gor 495616 [t1] m = interp (T.Rl H) (g121_0 [t1]) m := (g121_0_ok (H := H) [t1] m).resolve_right nofun
theorem f121_is (h : H 121 = none) (a0 : AV) (m : Mem) : run (T.EH H) (.fn 121) [a0] m = interp (T.Rl H) (f121 [a0]) m := (f121_ok (H := H) h [a0] m).resolve_right nofun
theorem f122_is (h : H 122 = none) (a0 a1 : AV) (m : Mem) : run (T.EH H) (.fn 122) [a0, a1] m = interp (T.Rl H) (f122 [a0, a1]) m := (f122_ok (H := H) h [a0, a1] m).resolve_right nofun
theorem f123_is (h : H 123 = none) (a0 a1 a2 a3 : AV) (m : Mem) : run (T.EH H) (.fn 123) [a0, a1, a2, a3] m = interp (T.Rl H) (f123 [a0, a1, a2, a3]) m := (f123_ok (H := H) h [a0, a1, a2, a3] m).resolve_right nofun
theorem g124_0_is (t1 t2 t6 : AV) (m : Mem) : (T.Rl H).gor 507904 [t1, t2, t6] m = interp (T.Rl H) (g124_0 [t1, t2, t6]) m := (g124_0_ok (H := H) [t1, t2, t6] m).resolve_right nofun
theorem g124_1_is (t1 t2 t6 : AV) (m : Mem) : (T.Rl H).gor 507905 [t1, t2, t6] m = interp (T.Rl H) (g124_1 [t1, t2, t6]) m := (g124_1_ok (H := H) [t1, t2, t6] m).resolve_right nofun
theorem g124_2_is (t1 t2 t6 : AV) (m : Mem) : (T.Rl H).gor 507906 [t1, t2, t6] m = interp (T.Rl H) (g124_2 [t1, t2, t6]) m := (g124_2_ok (H := H) [t1, t2, t6] m).resolve_right nofun
theorem f124_is (h : H 124 = none) (a0 a1 a2 : AV) (m : Mem) : run (T.EH H) (.fn 124) [a0, a1, a2] m = interp (T.Rl H) (f124 [a0, a1, a2]) m := (f124_ok (H := H) h [a0, a1, a2] m).resolve_right nofun
theorem f125_is (h : H 125 = none) (a0 : AV) (m : Mem) : run (T.EH H) (.fn 125) [a0] m = interp (T.Rl H) (f125 [a0]) m := (f125_ok (H := H) h [a0] m).resolve_right nofun
theorem g126_0_is (t0 t2 : AV) (m : Mem) : (T.Rl H).gor 516096 [t0, t2] m = interp (T.Rl H) (g126_0 [t0, t2]) m := (g126_0_ok (H := H) [t0, t2] m).resolve_right nofun
theorem g126_1_is (t0 t2 : AV) (m : Mem) : (T.Rl H).gor 516097 [t0, t2] m = interp (T.Rl H) (g126_1 [t0, t2]) m := (g126_1_ok (H := H) [t0, t2] m).resolve_right nofun
theorem g126_2_is (t0 t2 : AV) (m : Mem) : (T.Rl H).gor 516098 [t0, t2] m = interp (T.Rl H) (g126_2 [t0, t2]) m := (g126_2_ok (H := H) [t0, t2] m).resolve_right nofun
theorem f126_is (h : H 126 = none) (a0 : AV) (m : Mem) : run (T.EH H) (.fn 126) [a0] m = interp (T.Rl H) (f126 [a0]) m := (f126_ok (H := H) h [a0] m).resolve_right nofun
end Go.Proofs.YtlginbmjiecglaaGreat
end
section
namespace Go.Abs
open Go
theorem ips {d : Do} {m : Mem} : (∀ v, interp d (.ret v) m = some (v, m)) ∧ (∀ (P : Program) (rs : List ResultVar) (vs : List AV), interp d (.resC P rs vs) m = (resA P rs vs m).bind fun vs => some (tupA vs, m)) ∧
    (∀ (e : Option AV) (K : AV → CM), interp d (.pu e K) m = e.bind fun v => interp d (K v) m) ∧ (∀ (e : Mem → Option AV) (K : AV → CM), interp d (.rm e K) m = (e m).bind fun v => interp d (K v) m) ∧
    (∀ (e : Option (Blk × (Nat → AV))) (K : AV → CM), interp d (.al e K) m = e.bind fun c => interp d (K (c.2 m.next)) (m.lay c.1)) ∧ (∀ (e : Mem → R) (K : AV → CM), interp d (.ef e K) m = (e m).bind fun r => interp d (K r.1) r.2) ∧
    (∀ (e : Mem → Option Mem) (K : CM), interp d (.st e K) m = (e m).bind fun m => interp d K m) ∧ (∀ (f : Nat) (as2 : List AV) (K : AV → CM), interp d (.call f as2 K) m = (d.call (.fn f) as2 m).bind fun r => interp d (K r.1) r.2) ∧
    (∀ (fv : AV) (as2 : List AV) (K : AV → CM), interp d (.callv fv as2 K) m = (callA d.call fv as2 m).bind fun r => interp d (K r.1) r.2) ∧ (∀ (v : AV) (x y : CM), interp d (.ifv v x y) m = ifV v (interp d x m) (interp d y m)) ∧
    (∀ (v : AV) (x y : CM), interp d (.cond v x y) m = condA v (interp d x m) (interp d y m)) ∧ (∀ (K : Mem → CM), interp d (.memo K) m = interp d (K m) m) ∧ (∀ (e : Option AV) (v : AV) (K : CM), interp d (.chk e v K) m = if e = some v then interp d K m else none) ∧
    (∀ (k : Nat) (ts : List AV), interp d (.go k ts) m = d.gor k ts m) :=
  ⟨interp_ret, interp_resC, interp_pu, interp_rm, interp_al, interp_ef, interp_st, interp_call, interp_callv, interp_ifv, interp_cond, interp_memo, interp_chk, interp_go⟩
theorem aps : (∀ (F : AV → List AV → CM) (a : AV) (l : List AV), apS F (a :: l) = F a l) ∧ (∀ (c : CM), ap0 c [] = c) := ⟨apS_cons, ap0_nil⟩
theorem ge : (∀ (α : Type) (a : α) (l : List α), (a :: l)[0]? = some a) ∧ (∀ (α : Type) (a : α) (l : List α) (i : Nat), (a :: l)[i + 1]? = l[i]?) := ⟨fun _ _ _ => List.getElem?_cons_zero, fun _ _ _ _ => List.getElem?_cons_succ⟩
theorem lcs : (∀ (p : AV → Bool) (a : AV) (l : List AV), (a :: l).all p = (p a && l.all p)) ∧ (∀ (p : AV → Bool), ([] : List AV).all p = true) ∧ (∀ (a : AV) (l : List AV), (a :: l).length = l.length + 1) ∧ (([] : List AV).length = 0) ∧
    (∀ (a : AV) (l : List AV) (i : Nat), (a :: l).take (i + 1) = a :: l.take i) ∧ (∀ l : List AV, l.take 0 = []) ∧ (∀ (a : AV) (l : List AV) (i : Nat), (a :: l).drop (i + 1) = l.drop i) ∧ (∀ l : List AV, l.drop 0 = l) ∧
    (∀ (a : AV) (l k : List AV), a :: l ++ k = a :: (l ++ k)) ∧ (∀ l : List AV, [] ++ l = l) ∧ (∀ l : List AV, l ++ [] = l) ∧
    (∀ b : Bool, (b && b) = b) ∧ (∀ b : Bool, (b && true) = b) ∧ (∀ n : Nat, 0 + n = n) ∧ (∀ n : Nat, n + 0 = n) :=
  ⟨fun _ _ _ => List.all_cons, fun _ => List.all_nil, fun _ _ => List.length_cons, List.length_nil, fun _ _ _ => List.take_succ_cons, fun _ => List.take_zero, fun _ _ _ => List.drop_succ_cons, fun _ => List.drop_zero, fun _ _ _ => List.cons_append, List.nil_append, List.append_nil, Bool.and_self, Bool.and_true, Nat.zero_add, Nat.add_zero⟩
theorem lms : (∀ (m : Mem) (cs : List AV) (ro : Bool) (b o : Nat), ld1 (m.lay (.cells cs ro)) (.ptr (some ⟨b, o⟩)) = if b = m.next then cs[o]? else ld1 m (.ptr (some ⟨b, o⟩))) ∧
    (∀ (m : Mem) (cs : List AV) (ro : Bool) (b o n : Nat), ldN (m.lay (.cells cs ro)) (.ptr (some ⟨b, o⟩)) n = if b = m.next then (if o + n ≤ cs.length then some (.agg ((cs.drop o).take n)) else none) else ldN m (.ptr (some ⟨b, o⟩)) n) ∧
    (∀ (m : Mem) (cs : List AV) (b o : Nat) (v : AV) (n : Nat), stV (m.lay (.cells cs false)) (.ptr (some ⟨b, o⟩)) v n = if b = m.next then (over cs o v n).map (fun c => m.lay (.cells c false)) else (stV m (.ptr (some ⟨b, o⟩)) v n).map (fun m' => m'.lay (.cells cs false))) ∧
    (∀ (m : Mem) (v : Blk), (m.lay v).next = m.next + 1) ∧ (∀ n : Nat, (n = n + 1) = False) ∧ (∀ n : Nat, (n = n + 1 + 1) = False) ∧ (∀ n : Nat, (n = n + 1 + 1 + 1) = False) ∧ (∀ n : Nat, (n = n + 1 + 1 + 1 + 1) = False) ∧ (∀ n : Nat, (n = n + 1 + 1 + 1 + 1 + 1) = False) ∧
    (∀ n : Nat, (n = n + 1 + 1 + 1 + 1 + 1 + 1) = False) ∧ (∀ n : Nat, (n = n + 1 + 1 + 1 + 1 + 1 + 1 + 1) = False) ∧ (∀ n : Nat, (n = n + 1 + 1 + 1 + 1 + 1 + 1 + 1 + 1) = False) :=
  ⟨ld1_lay, ldN_lay, stV_lay, Mem.next_lay, nn1, nn2, nn3, nn4, nn5, nn6, nn7, nn8⟩
end Go.Abs
end
section
namespace Go.Proofs.YtlginbmjiecglaaGreat
set_option maxRecDepth 4000
open Go Go.Abs

theorem hadd_is {x y c : Int} (m : Mem) (h : 0 ≤ x ∧ 0 ≤ y ∧ 0 ≤ c ∧ c ≤ 1) : run E2 (.fn 92) [.int .u64 x, .int .u64 y, .int .u64 c] m = some (.tup [.int .u64 ((x + y + c) % 18446744073709551616), .int .u64 ((x + y + c) / 18446744073709551616)], m) := by
  rw [run_hook (h := add64H) rfl]
  simp only [add64H, if_pos h]
theorem hsub_is {x y c : Int} (m : Mem) (h : 0 ≤ x ∧ 0 ≤ y ∧ y < 18446744073709551616 ∧ 0 ≤ c ∧ c ≤ 1) : run E2 (.fn 79) [.int .u64 x, .int .u64 y, .int .u64 c] m = some (.tup [.int .u64 ((x - y - c) % 18446744073709551616), .int .u64 (if x < y + c then 1 else 0)], m) := by
  rw [run_hook (h := sub64H) rfl]
  simp only [sub64H, if_pos h]


theorem beq_tf : (true == false) = false := rfl
theorem beq_ft : (false == true) = false := rfl
theorem wide_cells {hi lo : Int} : (AV.agg [.int .i64 hi, .int .u64 lo]) = .agg (Wd.mk hi lo).cells := rfl
theorem add_is (a b : Wd) (ha : a.ok) (hb : b.ok) (m : Mem) : Res m (run E2 (.fn 54) [.agg a.cells, .agg b.cells] m) (.tup [.agg (Wd.res (a.val + b.val)).1.cells, .int .i64 (Wd.res (a.val + b.val)).2]) := by
  obtain ⟨ah, al⟩ := a
  obtain ⟨bh, bl⟩ := b
  obtain ⟨a1, a2, a3, a4⟩ := ha
  obtain ⟨b1, b2, b3, b4⟩ := hb
  simp only [Wd.val] at *
  obtain ⟨c, hc⟩ : ∃ c, c = (al + bl + 0) / 18446744073709551616 := ⟨_, rfl⟩
  have c0 : 0 ≤ c ∧ c ≤ 1 := by omega
  obtain ⟨h, hh⟩ : ∃ h, h = IntKind.wrap .i64 ((ah % 18446744073709551616 + bh % 18446744073709551616 + c) % 18446744073709551616) := ⟨_, rfl⟩
  have hh2 := hh
  rw [wrap_i64_if] at hh2
  simp only [lms, lcs, ge, aps, ips, f54_is (H := H2) rfl, T.f54, D2_call, Option.bind_some, pB, p1, q1, p2, bin_lss, fillA, AV.cells, Option.map_some, Nat.reduceAdd, Nat.reduceLeDiff, if_true, boxA, extractA, condA, ifV, resA, nth0, nth1, tupA, fa35_1, fa35_0, ld30, ld2, ld35, bd35, cv2_30, cv30_2, be4, bn4, Wd.cells, AV.one, if_false, over, hadd_is _ (show 0 ≤ al ∧ 0 ≤ bl ∧ (0 : Int) ≤ 0 ∧ (0 : Int) ≤ 1 by omega), wrap_u64', ← hc, hadd_is _ (show 0 ≤ ah % 18446744073709551616 ∧ 0 ≤ bh % 18446744073709551616 ∧ 0 ≤ c ∧ c ≤ 1 by omega), ← hh]
  by_cases h1 : ah < 0 <;> by_cases h2 : bh < 0 <;> by_cases h3 : h < 0 <;>
    simp only [lms, lcs, ge, aps, ips, h1, h2, h3, decide_true, decide_false, BEq.rfl, Bool.not_true, Bool.not_false, g54_0_is (H := H2), T.g54_0, Option.bind_some, p1, fillA, AV.cells, Option.map_some, Nat.reduceAdd, Nat.reduceLeDiff, if_true, resA, nth0, nth1, tupA, ld35, bd35, cv30_2, AV.one, over, ← hh, beq_tf, beq_ft] <;>
    (refine Res.eq ?_ ?_
     · (repeat apply Fr.lays)
       exact Fr.refl _
     · first
       | exact res_ok (fits_true (by omega) (by omega)) (by omega) (by omega)
       | exact res_over (fits_false (by omega)))
theorem sub_is (a b : Wd) (ha : a.ok) (hb : b.ok) (m : Mem) : Res m (run E2 (.fn 45) [.agg a.cells, .agg b.cells] m) (.tup [.agg (Wd.res (a.val - b.val)).1.cells, .int .i64 (Wd.res (a.val - b.val)).2]) := by
  obtain ⟨ah, al⟩ := a
  obtain ⟨bh, bl⟩ := b
  obtain ⟨a1, a2, a3, a4⟩ := ha
  obtain ⟨b1, b2, b3, b4⟩ := hb
  simp only [Wd.val] at *
  obtain ⟨c, hc⟩ : ∃ c : Int, c = (if al < bl + 0 then 1 else 0) := ⟨_, rfl⟩
  have c0 : 0 ≤ c ∧ c ≤ 1 := by omega
  obtain ⟨h, hh⟩ : ∃ h, h = IntKind.wrap .i64 ((ah % 18446744073709551616 - bh % 18446744073709551616 - c) % 18446744073709551616) := ⟨_, rfl⟩
  have hh2 := hh
  rw [wrap_i64_if] at hh2
  simp only [lms, lcs, ge, aps, ips, f45_is (H := H2) rfl, T.f45, D2_call, Option.bind_some, pB, p1, q1, p2, bin_lss, fillA, AV.cells, Option.map_some, Nat.reduceAdd, Nat.reduceLeDiff, if_true, boxA, extractA, condA, ifV, resA, nth0, nth1, tupA, fa35_1, fa35_0, ld30, ld2, ld35, bd35, cv2_30, cv30_2, bn4, Wd.cells, AV.one, if_false, over, hsub_is _ (show 0 ≤ al ∧ 0 ≤ bl ∧ bl < 18446744073709551616 ∧ (0 : Int) ≤ 0 ∧ (0 : Int) ≤ 1 by omega), wrap_u64', ← hc, hsub_is _ (show 0 ≤ ah % 18446744073709551616 ∧ 0 ≤ bh % 18446744073709551616 ∧ bh % 18446744073709551616 < 18446744073709551616 ∧ 0 ≤ c ∧ c ≤ 1 by omega), ← hh]
  by_cases h1 : ah < 0 <;> by_cases h2 : bh < 0 <;> by_cases h3 : h < 0 <;>
    simp only [lms, lcs, ge, aps, ips, h1, h2, h3, decide_true, decide_false, BEq.rfl, Bool.not_true, Bool.not_false, g45_0_is (H := H2), T.g45_0, Option.bind_some, p1, fillA, AV.cells, Option.map_some, Nat.reduceAdd, Nat.reduceLeDiff, if_true, resA, nth0, nth1, tupA, ld35, bd35, cv30_2, AV.one, over, ← hh, beq_tf, beq_ft] <;>
    (refine Res.eq ?_ ?_
     · (repeat apply Fr.lays)
       exact Fr.refl _
     · first
       | exact res_ok (fits_true (by omega) (by omega)) (by omega) (by omega)
       | exact res_over (fits_false (by omega)))
end Go.Proofs.YtlginbmjiecglaaGreat
end
section
namespace Go.Proofs.YtlginbmjiecglaaGreat
set_option maxRecDepth 4000
open Go Go.Abs

theorem mul64_is {x y : Int} (hx : 0 ≤ x) (hx2 : x < 18446744073709551616) (hy : 0 ≤ y) (hy2 : y < 18446744073709551616) (m : Mem) :
    run E2 (.fn 122) [.int .u64 x, .int .u64 y] m = some (.tup [.int .u64 (x * y / 18446744073709551616), .int .u64 (x * y % 18446744073709551616)], m) := by
  obtain ⟨h1, h2, h3, h4, h5, h6, h7, h8⟩ := mul64 hx hx2 hy hy2
  have hr : 0 ≤ x * y / 18446744073709551616 ∧ x * y / 18446744073709551616 < 18446744073709551616 := by
    have h9 : 0 ≤ x * y := Int.mul_nonneg hx hy
    have h10 : x * y ≤ 18446744073709551615 * y := Int.mul_le_mul_of_nonneg_right (by omega) hy
    omega
  simp only [aps, ips, f122_is (H := H2) rfl, T.f122, Option.bind_some, p2, bin_add, bin_mul, bin_mask _ hx hx2, bin_mask _ hy hy2, bin_shr32 _ hx, bin_shr32 _ hy, wrap_u64 h1.1 h1.2, bin_shr32 _ h1.1, wrap_u64 h2.1 h2.2, wrap_u64 h3.1 h3.2, bin_mask _ h3.1 h3.2, bin_shr32 _ h3.1, wrap_u64 h4.1 h4.2, wrap_u64 h5.1 h5.2, wrap_u64 h6.1 h6.2, wrap_u64 h7.1 h7.2, bin_shr32 _ h5.1, h8, wrap_u64 hr.1 hr.2, wrap_u64_mod]

theorem len8_idx {x : Int} (h0 : 0 < x) (h1 : x < 256) : ∃ n : Nat, indexA Tryz.prog 9 (.str len8) (.int .u8 x) = some (.int .u8 ((n : Int) + 1)) ∧ n < 8 ∧ (2 : Int) ^ n ≤ x ∧ x < 2 * 2 ^ n := by
  obtain ⟨n, e1, e2, e3, e4⟩ := len8_is x.toNat (by omega) (by omega)
  refine ⟨n, ?_, e2, ?_, ?_⟩
  · rw [iv9, if_pos (by omega), e1]
    simp only
    congr 2
    rw [show (UInt8.ofNat (n + 1)).toNat = n + 1 by simp; omega]; rfl
  · have : ((2 ^ n : Nat) : Int) ≤ ((x.toNat : Nat) : Int) := by exact_mod_cast e3
    have e9 : ((2 ^ n : Nat) : Int) = (2 : Int) ^ n := Int.natCast_pow 2 n
    omega
  · have : ((x.toNat : Nat) : Int) < ((2 * 2 ^ n : Nat) : Int) := by exact_mod_cast e4
    have e9 : ((2 ^ n : Nat) : Int) = (2 : Int) ^ n := Int.natCast_pow 2 n
    omega
theorem len8_lit : (len8 : List UInt8) = [0, 1, 2, 2, 3, 3, 3, 3, 4, 4, 4, 4, 4, 4, 4, 4, 5, 5, 5, 5, 5, 5, 5, 5, 5, 5, 5, 5, 5, 5, 5, 5, 6, 6, 6, 6, 6, 6, 6, 6, 6, 6, 6, 6, 6, 6, 6, 6, 6, 6, 6, 6, 6, 6, 6, 6, 6, 6, 6, 6, 6, 6, 6, 6, 7, 7, 7, 7, 7, 7, 7, 7, 7, 7, 7, 7, 7, 7, 7, 7, 7, 7, 7, 7, 7, 7, 7, 7, 7, 7, 7, 7, 7, 7, 7, 7, 7, 7, 7, 7, 7, 7, 7, 7, 7, 7, 7, 7, 7, 7, 7, 7, 7, 7, 7, 7, 7, 7, 7, 7, 7, 7, 7, 7, 7, 7, 7, 7, 8, 8, 8, 8, 8, 8, 8, 8, 8, 8, 8, 8, 8, 8, 8, 8, 8, 8, 8, 8, 8, 8, 8, 8, 8, 8, 8, 8, 8, 8, 8, 8, 8, 8, 8, 8, 8, 8, 8, 8, 8, 8, 8, 8, 8, 8, 8, 8, 8, 8, 8, 8, 8, 8, 8, 8, 8, 8, 8, 8, 8, 8, 8, 8, 8, 8, 8, 8, 8, 8, 8, 8, 8, 8, 8, 8, 8, 8, 8, 8, 8, 8, 8, 8, 8, 8, 8, 8, 8, 8, 8, 8, 8, 8, 8, 8, 8, 8, 8, 8, 8, 8, 8, 8, 8, 8, 8, 8, 8, 8, 8, 8, 8, 8, 8, 8, 8, 8, 8, 8, 8, 8, 8, 8, 8, 8, 8, 8] := by decide +kernel

theorem len64_2 {x k : Int} (h0 : 0 < x) (h1 : x < 256) (hk : 0 ≤ k) (hk2 : k < 1000) (m : Mem) : ∃ n : Nat, D2.gor 516098 [.int .u64 x, .int .i64 k] m = some (.int .i64 (k + n + 1), m) ∧ n < 8 ∧ (2 : Int) ^ n ≤ x ∧ x < 2 * 2 ^ n := by
  obtain ⟨n, e1, e2, e3, e4⟩ := len8_idx h0 h1
  rw [len8_lit] at e1
  have w8 : IntKind.wrap .u8 x = x := by
    have e : IntKind.wrap .u8 x = x % 256 := by simp [IntKind.wrap, IntKind.bits, IntKind.signed]
    rw [e]; omega
  refine ⟨n, ?_, e2, e3, e4⟩
  simp only [aps, ips, g126_2_is (H := H2), T.g126_2, Option.bind_some, p1, p2, bin_add, cv30_5, cv5_3, w8, e1, wrap_i64 (n := (n : Int) + 1) (by omega) (by omega), wrap_i64 (n := k + ((n : Int) + 1)) (by omega) (by omega)]
  rw [Int.add_assoc]

theorem len64_1 {x k : Int} (h0 : 0 < x) (h1 : x < 65536) (hk : 0 ≤ k) (hk2 : k < 900) (m : Mem) : ∃ n : Nat, D2.gor 516097 [.int .u64 x, .int .i64 k] m = some (.int .i64 (k + n + 1), m) ∧ n < 16 ∧ (2 : Int) ^ n ≤ x ∧ x < 2 * 2 ^ n := by
  by_cases h : 256 ≤ x
  · obtain ⟨n, e1, e2, e3, e4⟩ := len64_2 (x := x / 256) (k := k + 8) (by omega) (by omega) (by omega) (by omega) m
    refine ⟨n + 8, ?_, by omega, ?_, ?_⟩
    · simp only [aps, ips, g126_1_is (H := H2), T.g126_1, Option.bind_some, p2, bin_add, bin_geq, condA, decide_eq_true h, bin_shrc _ (show 0 ≤ x by omega) (show (0 : Int) ≤ 8 by omega) (show (2 : Int) ^ (min (8 : Int).toNat IntKind.u64.bits) = 256 by rfl), wrap_i64 (n := k + 8) (by omega) (by omega), e1]
      congr 3; omega
    · rw [Int.pow_add, show (2 : Int) ^ 8 = 256 by rfl]; omega
    · rw [Int.pow_add, show (2 : Int) ^ 8 = 256 by rfl]; omega
  · obtain ⟨n, e1, e2, e3, e4⟩ := len64_2 (x := x) (k := k) (by omega) (by omega) (by omega) (by omega) m
    refine ⟨n, ?_, by omega, e3, e4⟩
    simp only [aps, ips, g126_1_is (H := H2), T.g126_1, Option.bind_some, p2, bin_add, bin_geq, condA, decide_eq_false h, e1]
theorem len64_0 {x k : Int} (h0 : 0 < x) (h1 : x < 4294967296) (hk : 0 ≤ k) (hk2 : k < 800) (m : Mem) : ∃ n : Nat, D2.gor 516096 [.int .u64 x, .int .i64 k] m = some (.int .i64 (k + n + 1), m) ∧ n < 32 ∧ (2 : Int) ^ n ≤ x ∧ x < 2 * 2 ^ n := by
  by_cases h : 65536 ≤ x
  · obtain ⟨n, e1, e2, e3, e4⟩ := len64_1 (x := x / 65536) (k := k + 16) (by omega) (by omega) (by omega) (by omega) m
    refine ⟨n + 16, ?_, by omega, ?_, ?_⟩
    · simp only [aps, ips, g126_0_is (H := H2), T.g126_0, Option.bind_some, p2, bin_add, bin_geq, condA, decide_eq_true h, bin_shrc _ (show 0 ≤ x by omega) (show (0 : Int) ≤ 16 by omega) (show (2 : Int) ^ (min (16 : Int).toNat IntKind.u64.bits) = 65536 by rfl), wrap_i64 (n := k + 16) (by omega) (by omega), e1]
      congr 3; omega
    · rw [Int.pow_add, show (2 : Int) ^ 16 = 65536 by rfl]; omega
    · rw [Int.pow_add, show (2 : Int) ^ 16 = 65536 by rfl]; omega
  · obtain ⟨n, e1, e2, e3, e4⟩ := len64_1 (x := x) (k := k) (by omega) (by omega) (by omega) (by omega) m
    refine ⟨n, ?_, by omega, e3, e4⟩
    simp only [aps, ips, g126_0_is (H := H2), T.g126_0, Option.bind_some, p2, bin_add, bin_geq, condA, decide_eq_false h, e1]
theorem len64_is {x : Int} (h0 : 0 < x) (h1 : x < 18446744073709551616) (m : Mem) : ∃ n : Nat, run E2 (.fn 126) [.int .u64 x] m = some (.int .i64 ((n : Int) + 1), m) ∧ n < 64 ∧ (2 : Int) ^ n ≤ x ∧ x < 2 * 2 ^ n := by
  by_cases h : 4294967296 ≤ x
  · obtain ⟨n, e1, e2, e3, e4⟩ := len64_0 (x := x / 4294967296) (k := 32) (by omega) (by omega) (by omega) (by omega) m
    refine ⟨n + 32, ?_, by omega, ?_, ?_⟩
    · simp only [aps, ips, f126_is (H := H2) rfl, T.f126, Option.bind_some, p2, bin_geq, condA, decide_eq_true h, bin_shr32 _ (show 0 ≤ x by omega), e1]
      congr 3; omega
    · rw [Int.pow_add, show (2 : Int) ^ 32 = 4294967296 by rfl]; omega
    · rw [Int.pow_add, show (2 : Int) ^ 32 = 4294967296 by rfl]; omega
  · obtain ⟨n, e1, e2, e3, e4⟩ := len64_0 (x := x) (k := 0) (by omega) (by omega) (by omega) (by omega) m
    refine ⟨n, ?_, by omega, e3, e4⟩
    simp only [aps, ips, f126_is (H := H2) rfl, T.f126, Option.bind_some, p2, bin_geq, condA, decide_eq_false h, e1, Int.zero_add]
theorem lz_is {x : Int} (h0 : 0 < x) (h1 : x < 18446744073709551616) (m : Mem) : ∃ s : Nat, run E2 (.fn 125) [.int .u64 x] m = some (.int .i64 (s : Int), m) ∧ s < 64 ∧ 9223372036854775808 ≤ x * 2 ^ s ∧ x * 2 ^ s < 18446744073709551616 := by
  obtain ⟨n, e1, e2, e3, e4⟩ := len64_is h0 h1 m
  have hp : (2 : Int) ^ n * 2 ^ (63 - n) = 9223372036854775808 := by
    rw [← Int.pow_add, show n + (63 - n) = 63 by omega]; rfl
  have hpos : (0 : Int) < 2 ^ (63 - n) := Int.pow_pos (by omega)
  have h3 : (2 : Int) ^ n * 2 ^ (63 - n) ≤ x * 2 ^ (63 - n) := Int.mul_le_mul_of_nonneg_right e3 (by omega)
  have h4 : x * 2 ^ (63 - n) < 2 * 2 ^ n * 2 ^ (63 - n) := Int.mul_lt_mul_of_pos_right e4 hpos
  rw [Int.mul_assoc] at h4
  refine ⟨63 - n, ?_, by omega, by omega, by omega⟩
  simp only [aps, ips, f125_is (H := H2) rfl, T.f125, D2_call, Option.bind_some, p2, bin_sub, e1, wrap_i64 (n := 64 - ((n : Int) + 1)) (by omega) (by omega)]
  congr 3; omega
end Go.Proofs.YtlginbmjiecglaaGreat
end
section
namespace Go.Proofs.YtlginbmjiecglaaGreat
set_option maxRecDepth 4000
open Go Go.Abs

theorem div_loop1 {y yn1 yn0 un un1 : Int} (s un0 : AV) (hy : y = yn1 * 4294967296 + yn0) (hy1 : 2147483648 ≤ yn1) (hy2 : yn1 < 4294967296) (hy0 : 0 ≤ yn0) (hy3 : yn0 < 4294967296) (hun : un < y) (hu0 : 0 ≤ un1) (hu1 : un1 < 4294967296) (m : Mem) :
    ∀ (d : Nat) (q r : Int), 4294967296 ≤ r + d * yn1 → 0 ≤ q → q ≤ 4294967297 → 0 ≤ r → r < 4294967296 → q * yn1 + r = un → un * 4294967296 + un1 < (q + 1) * y →
      D2.gor 491523 [.int .u64 y, s, .int .u64 yn1, .int .u64 yn0, .int .u64 un, .int .u64 un1, un0, .int .u64 q, .int .u64 r] m =
      D2.gor 491525 [.int .u64 y, s, .int .u64 yn1, .int .u64 yn0, .int .u64 un, .int .u64 un1, un0, .int .u64 ((un * 4294967296 + un1) / y)] m := by
  intro d
  induction d with
  | zero => intro q r h; intros; omega
  | succ d ih =>
    intro q r hd hq hq2 hr hr2 e hu
    have hyp : 0 < y := by omega
    have step : (∀ h : un * 4294967296 + un1 < q * y, D2.gor 491524 [.int .u64 y, s, .int .u64 yn1, .int .u64 yn0, .int .u64 un, .int .u64 un1, un0, .int .u64 q, .int .u64 r] m =
        D2.gor 491525 [.int .u64 y, s, .int .u64 yn1, .int .u64 yn0, .int .u64 un, .int .u64 un1, un0, .int .u64 ((un * 4294967296 + un1) / y)] m) := by
      intro h
      have hq1 : 1 ≤ q := by
        by_cases h0 : q = 0
        · subst h0
          simp only [Int.zero_mul] at h
          have : 0 ≤ un := by rw [← e]; omega
          omega
        · omega
      have e' := knuth_less e
      have hu' := knuth_in h
      have hdm : ((d + 1 : Nat) : Int) * yn1 = d * yn1 + yn1 := by rw [Int.natCast_add, Int.add_mul]; simp
      rw [hdm] at hd
      by_cases hb : 4294967296 ≤ r + yn1
      · simp only [aps, ips, g120_4_is (H := H2), T.g120_4, Option.bind_some, p2, bin_add, bin_geq, bin_sub, condA, wrap_u64 (x := q - 1) (by omega) (by omega), wrap_u64 (x := r + yn1) (by omega) (by omega), decide_eq_true hb]
        rw [knuth_out hy e' (knuth_brk hy (by omega) hy0 hy3 hun hu0 (by omega) e' hb) hu']
      · simp only [aps, ips, g120_4_is (H := H2), T.g120_4, Option.bind_some, p2, bin_add, bin_geq, bin_sub, condA, wrap_u64 (x := q - 1) (by omega) (by omega), wrap_u64 (x := r + yn1) (by omega) (by omega), decide_eq_false hb]
        exact ih (q - 1) (r + yn1) (by omega) (by omega) (by omega) (by omega) (by omega) e' hu'
    by_cases hbig : 4294967296 ≤ q
    · simp only [aps, ips, g120_3_is (H := H2), T.g120_3, Option.bind_some, p2, bin_add, bin_geq, bin_gtr, bin_mul, condA, ifV, decide_eq_true hbig]
      exact step (knuth_big hun hu1 hbig hyp)
    · have hm := mul_B hq (by omega) hy0 hy3
      by_cases hgt : 4294967296 * r + un1 < q * yn0
      · simp only [aps, ips, g120_3_is (H := H2), T.g120_3, Option.bind_some, p2, bin_add, bin_geq, bin_gtr, bin_mul, condA, ifV, decide_eq_false hbig, wrap_u64 (x := q * yn0) hm.1 (by omega), wrap_u64 (x := 4294967296 * r) (by omega) (by omega), wrap_u64 (x := 4294967296 * r + un1) (by omega) (by omega), decide_eq_true hgt]
        exact step (knuth_gt hy e hgt)
      · simp only [aps, ips, g120_3_is (H := H2), T.g120_3, Option.bind_some, p2, bin_add, bin_geq, bin_gtr, bin_mul, condA, ifV, decide_eq_false hbig, wrap_u64 (x := q * yn0) hm.1 (by omega), wrap_u64 (x := 4294967296 * r) (by omega) (by omega), wrap_u64 (x := 4294967296 * r + un1) (by omega) (by omega), decide_eq_false hgt]
        rw [knuth_out hy e (by omega) hu]
theorem div_loop2 {y yn1 yn0 un un1 : Int} (s q1 : AV) (hy : y = yn1 * 4294967296 + yn0) (hy1 : 2147483648 ≤ yn1) (hy2 : yn1 < 4294967296) (hy0 : 0 ≤ yn0) (hy3 : yn0 < 4294967296) (hun : un < y) (hu0 : 0 ≤ un1) (hu1 : un1 < 4294967296) (m : Mem) :
    ∀ (d : Nat) (q r : Int), 4294967296 ≤ r + d * yn1 → 0 ≤ q → q ≤ 4294967297 → 0 ≤ r → r < 4294967296 → q * yn1 + r = un → un * 4294967296 + un1 < (q + 1) * y →
      D2.gor 491526 [.int .u64 y, s, .int .u64 yn1, .int .u64 yn0, .int .u64 un1, q1, .int .u64 r, .int .u64 un, .int .u64 q] m =
      D2.gor 491528 [.int .u64 y, s, .int .u64 un1, q1, .int .u64 un, .int .u64 ((un * 4294967296 + un1) / y)] m := by
  intro d
  induction d with
  | zero => intro q r h; intros; omega
  | succ d ih =>
    intro q r hd hq hq2 hr hr2 e hu
    have hyp : 0 < y := by omega
    have step : (∀ h : un * 4294967296 + un1 < q * y, D2.gor 491527 [.int .u64 y, s, .int .u64 yn1, .int .u64 yn0, .int .u64 un1, q1, .int .u64 r, .int .u64 un, .int .u64 q] m =
        D2.gor 491528 [.int .u64 y, s, .int .u64 un1, q1, .int .u64 un, .int .u64 ((un * 4294967296 + un1) / y)] m) := by
      intro h
      have hq1 : 1 ≤ q := by
        by_cases h0 : q = 0
        · subst h0
          simp only [Int.zero_mul] at h
          have : 0 ≤ un := by rw [← e]; omega
          omega
        · omega
      have e' := knuth_less e
      have hu' := knuth_in h
      have hdm : ((d + 1 : Nat) : Int) * yn1 = d * yn1 + yn1 := by rw [Int.natCast_add, Int.add_mul]; simp
      rw [hdm] at hd
      by_cases hb : 4294967296 ≤ r + yn1
      · simp only [aps, ips, g120_7_is (H := H2), T.g120_7, Option.bind_some, p2, bin_add, bin_geq, bin_sub, condA, wrap_u64 (x := q - 1) (by omega) (by omega), wrap_u64 (x := r + yn1) (by omega) (by omega), decide_eq_true hb]
        rw [knuth_out hy e' (knuth_brk hy (by omega) hy0 hy3 hun hu0 (by omega) e' hb) hu']
      · simp only [aps, ips, g120_7_is (H := H2), T.g120_7, Option.bind_some, p2, bin_add, bin_geq, bin_sub, condA, wrap_u64 (x := q - 1) (by omega) (by omega), wrap_u64 (x := r + yn1) (by omega) (by omega), decide_eq_false hb]
        exact ih (q - 1) (r + yn1) (by omega) (by omega) (by omega) (by omega) (by omega) e' hu'
    by_cases hbig : 4294967296 ≤ q
    · simp only [aps, ips, g120_6_is (H := H2), T.g120_6, Option.bind_some, p2, bin_add, bin_geq, bin_gtr, bin_mul, condA, ifV, decide_eq_true hbig]
      exact step (knuth_big hun hu1 hbig hyp)
    · have hm := mul_B hq (by omega) hy0 hy3
      by_cases hgt : 4294967296 * r + un1 < q * yn0
      · simp only [aps, ips, g120_6_is (H := H2), T.g120_6, Option.bind_some, p2, bin_add, bin_geq, bin_gtr, bin_mul, condA, ifV, decide_eq_false hbig, wrap_u64 (x := q * yn0) hm.1 (by omega), wrap_u64 (x := 4294967296 * r) (by omega) (by omega), wrap_u64 (x := 4294967296 * r + un1) (by omega) (by omega), decide_eq_true hgt]
        exact step (knuth_gt hy e hgt)
      · simp only [aps, ips, g120_6_is (H := H2), T.g120_6, Option.bind_some, p2, bin_add, bin_geq, bin_gtr, bin_mul, condA, ifV, decide_eq_false hbig, wrap_u64 (x := q * yn0) hm.1 (by omega), wrap_u64 (x := 4294967296 * r) (by omega) (by omega), wrap_u64 (x := 4294967296 * r + un1) (by omega) (by omega), decide_eq_false hgt]
        rw [knuth_out hy e (by omega) hu]

theorem div64_is {hi lo y : Int} (h0 : 0 ≤ hi) (hlt : hi < y) (hy : y < 18446744073709551616) (hl : 0 ≤ lo) (hl2 : lo < 18446744073709551616) (m : Mem) :
    run E2 (.fn 120) [.int .u64 hi, .int .u64 lo, .int .u64 y] m = some (.tup [.int .u64 ((hi * 18446744073709551616 + lo) / y), .int .u64 ((hi * 18446744073709551616 + lo) % y)], m) := by
  have hyp : 0 < y := by omega
  simp only [aps, ips, f120_is (H := H2) rfl, T.f120, Option.bind_some, p2, q1, bin_eql, condA, ld187, decide_eq_false (show ¬ y = 0 by omega)]
  simp only [aps, ips, g120_0_is (H := H2), T.g120_0, Option.bind_some, p2, q1, bin_leq, condA, ld187, decide_eq_false (show ¬ y ≤ hi by omega)]
  by_cases hz : hi = 0
  · subst hz
    have g1 : 0 ≤ lo / y ∧ lo / y < 18446744073709551616 := ⟨Int.ediv_nonneg hl (by omega), Int.lt_of_le_of_lt (Int.ediv_le_self _ hl) hl2⟩
    simp only [aps, ips, g120_1_is (H := H2), T.g120_1, Option.bind_some, p2, bin_eql, condA, decide_true, bin_quo _ _ _ _ (show y ≠ 0 by omega), bin_rem _ _ _ _ (show y ≠ 0 by omega), Int.tdiv_eq_ediv_of_nonneg hl, Int.tmod_eq_emod_of_nonneg hl, wrap_u64 g1.1 g1.2, Int.zero_mul, Int.zero_add]
  · simp only [aps, ips, g120_1_is (H := H2), T.g120_1, Option.bind_some, p2, bin_eql, condA, decide_eq_false hz]
    obtain ⟨s, hs, hs2, hn1, hn2⟩ := lz_is hyp hy m
    obtain ⟨pp, hpp⟩ : ∃ pp : Int, pp = 2 ^ s := ⟨_, rfl⟩
    obtain ⟨qq, hqq⟩ : ∃ qq : Int, qq = 2 ^ (64 - s) := ⟨_, rfl⟩
    have hp0 : 0 < pp := by rw [hpp]; exact Int.pow_pos (by omega)
    have hq0 : 0 < qq := by rw [hqq]; exact Int.pow_pos (by omega)
    have hpq : pp * qq = 18446744073709551616 := by
      rw [hpp, hqq, ← Int.pow_add, show s + (64 - s) = 64 by omega]; rfl
    rw [← hpp] at hn1 hn2
    obtain ⟨y', hy'⟩ : ∃ y', y' = y * pp := ⟨_, rfl⟩
    rw [← hy'] at hn1 hn2
    have hhi : hi * pp < 18446744073709551616 := by
      have : hi * pp < y * pp := Int.mul_lt_mul_of_pos_right hlt hp0
      omega
    have hhi0 : 0 ≤ hi * pp := Int.mul_nonneg h0 (by omega)
    have hb1 : 0 ≤ lo / qq := Int.ediv_nonneg hl (by omega)
    have hb2 : lo / qq < pp := Int.ediv_lt_of_lt_mul hq0 (by rw [hpq]; exact hl2)
    have hb3 : lo / qq < 18446744073709551616 := Int.lt_of_le_of_lt (Int.ediv_le_self _ hl) hl2
    have hor : binA Tryz.prog .or 30 (.int .u64 (hi * pp)) (.int .u64 (lo / qq)) = some (.int .u64 (hi * pp + lo / qq)) := by
      have e1 : hi * pp = ((hi.toNat * 2 ^ s : Nat) : Int) := by
        rw [hpp, Int.natCast_mul, Int.toNat_of_nonneg h0, Int.natCast_pow]; rfl
      have e2 : lo / qq = (((lo / qq).toNat : Nat) : Int) := (Int.toNat_of_nonneg hb1).symm
      have e3 : ((2 ^ s : Nat) : Int) = pp := by rw [hpp]; exact Int.natCast_pow 2 s
      rw [e1, e2, bin_or _ (by omega) (by omega) (by omega)]
      rfl
    obtain ⟨un32, hun⟩ : ∃ un32, un32 = hi * pp + lo / qq := ⟨_, rfl⟩
    obtain ⟨un10, hun10⟩ : ∃ un10, un10 = (lo * pp) % 18446744073709551616 := ⟨_, rfl⟩
    have hM := div_norm hpq hp0 hq0 hun hun10
    have hun10b : 0 ≤ un10 ∧ un10 < 18446744073709551616 := by omega
    have hunlt : un32 < y' := by rw [hy']; exact lt_of_words (y := y) hM hlt hl2 hp0 hun10b.1
    have hun0 : 0 ≤ un32 := by omega
    obtain ⟨yn1, hyn1⟩ : ∃ yn1, yn1 = y' / 4294967296 := ⟨_, rfl⟩
    obtain ⟨yn0, hyn0⟩ : ∃ yn0, yn0 = y' % 4294967296 := ⟨_, rfl⟩
    have hyy : y' = yn1 * 4294967296 + yn0 := by omega
    obtain ⟨i1, i2, i3, i4, i5, i6⟩ := knuth_ini (un := un32) (u1 := un10 / 4294967296) hyy (by omega) (by omega) (by omega) hun0 hunlt (by omega)
    have i0 : 0 ≤ un32 / yn1 * yn1 := Int.mul_nonneg i1 (by omega)
    have k0 : IntKind.wrap .u64 (s : Int) = s := wrap_u64 (by omega) (by omega)
    have k1 : IntKind.wrap .u64 (64 - (s : Int)) = ((64 - s : Nat) : Int) := by rw [wrap_u64 (by omega) (by omega)]; omega
    have t1 : un32.tdiv yn1 = un32 / yn1 := Int.tdiv_eq_ediv_of_nonneg hun0
    have w1 : IntKind.wrap .u64 (un32 / yn1) = un32 / yn1 := wrap_u64 (by omega) (by omega)
    have w2 : IntKind.wrap .u64 (un32 / yn1 * yn1) = un32 / yn1 * yn1 := wrap_u64 (by omega) (by omega)
    have w3 : IntKind.wrap .u64 (un32 - un32 / yn1 * yn1) = un32 - un32 / yn1 * yn1 := wrap_u64 (by omega) (by omega)
    have g2 : D2.gor 491522 [.int .u64 hi, .int .u64 lo, .int .u64 y] m = D2.gor 491523 [.int .u64 y', .int .u64 (s : Int), .int .u64 yn1, .int .u64 yn0, .int .u64 un32, .int .u64 (un10 / 4294967296), .int .u64 (un10 % 4294967296), .int .u64 (un32 / yn1), .int .u64 (un32 - un32 / yn1 * yn1)] m := by
      simp only [aps, ips, g120_2_is (H := H2), T.g120_2, D2_call, Option.bind_some, p1, p2, bin_mul, bin_sub, cv3_127, hs, k0, k1, bin_shln _ s (show s ≤ 64 by omega), ← hpp, ← hy', Int.emod_eq_of_lt (show 0 ≤ y' by omega) hn2, bin_shr32 _ (show 0 ≤ y' by omega), bin_mask _ (show 0 ≤ y' by omega) hn2, Int.emod_eq_of_lt hhi0 hhi, bin_shrn _ (64 - s) (show 64 - s ≤ 64 by omega), ← hqq, hor, ← hun, ← hun10, bin_shr32 _ hun10b.1, bin_mask _ hun10b.1 hun10b.2, ← hyn1, ← hyn0, bin_quo _ _ _ _ (show yn1 ≠ 0 by omega), t1, w1, w2, w3]
    rw [g2, div_loop1 (.int .u64 (s : Int)) (.int .u64 (un10 % 4294967296)) hyy (by omega) (by omega) (by omega) (by omega) hunlt (by omega) (by omega) m 2 _ _ (by omega) i1 i2 i4 (by omega) i3 i6]
    obtain ⟨q1, hq1⟩ : ∃ q1, q1 = (un32 * 4294967296 + un10 / 4294967296) / y' := ⟨_, rfl⟩
    obtain ⟨r1, hr1⟩ : ∃ r1, r1 = (un32 * 4294967296 + un10 / 4294967296) % y' := ⟨_, rfl⟩
    have hqr : un32 * 4294967296 + un10 / 4294967296 = q1 * y' + r1 := by rw [hq1, hr1]; exact (Int.ediv_mul_add_emod _ _).symm
    have hr1b : 0 ≤ r1 ∧ r1 < y' := by rw [hr1]; exact ⟨Int.emod_nonneg _ (by omega), Int.emod_lt_of_pos _ (by omega)⟩
    have hq1b : 0 ≤ q1 ∧ q1 < 4294967296 := by
      rw [hq1]
      exact ⟨Int.ediv_nonneg (by omega) (by omega), Int.ediv_lt_of_lt_mul (by omega) (by omega)⟩
    rw [← hq1]
    have hr1w : IntKind.wrap .u64 (IntKind.wrap .u64 (IntKind.wrap .u64 (un32 * 4294967296) + un10 / 4294967296) - IntKind.wrap .u64 (q1 * y')) = r1 := by
      simp only [wrap_u64_mod]; omega
    obtain ⟨j1, j2, j3, j4, j5, j6⟩ := knuth_ini (un := r1) (u1 := un10 % 4294967296) hyy (by omega) (by omega) (by omega) hr1b.1 hr1b.2 (by omega)
    have j0 : 0 ≤ r1 / yn1 * yn1 := Int.mul_nonneg j1 (by omega)
    have t2 : r1.tdiv yn1 = r1 / yn1 := Int.tdiv_eq_ediv_of_nonneg hr1b.1
    have v1 : IntKind.wrap .u64 (r1 / yn1) = r1 / yn1 := wrap_u64 (by omega) (by omega)
    have v2 : IntKind.wrap .u64 (r1 / yn1 * yn1) = r1 / yn1 * yn1 := wrap_u64 (by omega) (by omega)
    have v3 : IntKind.wrap .u64 (r1 - r1 / yn1 * yn1) = r1 - r1 / yn1 * yn1 := wrap_u64 (by omega) (by omega)
    simp only [aps, ips, g120_5_is (H := H2), T.g120_5, Option.bind_some, p2, bin_add, bin_mul, bin_sub, hr1w, bin_quo _ _ _ _ (show yn1 ≠ 0 by omega), t2, v1, v2, v3]
    rw [div_loop2 (.int .u64 (s : Int)) (.int .u64 q1) hyy (by omega) (by omega) (by omega) (by omega) hr1b.2 (by omega) (by omega) m 2 _ _ (by omega) j1 j2 j4 (by omega) j3 j6]
    obtain ⟨q0, hq0'⟩ : ∃ q0, q0 = (r1 * 4294967296 + un10 % 4294967296) / y' := ⟨_, rfl⟩
    obtain ⟨r0, hr0⟩ : ∃ r0, r0 = (r1 * 4294967296 + un10 % 4294967296) % y' := ⟨_, rfl⟩
    have hqr0 : r1 * 4294967296 + un10 % 4294967296 = q0 * y' + r0 := by rw [hq0', hr0]; exact (Int.ediv_mul_add_emod _ _).symm
    have hr0b : 0 ≤ r0 ∧ r0 < y' := by rw [hr0]; exact ⟨Int.emod_nonneg _ (by omega), Int.emod_lt_of_pos _ (by omega)⟩
    have hq0b : 0 ≤ q0 ∧ q0 < 4294967296 := by
      rw [hq0']
      exact ⟨Int.ediv_nonneg (by omega) (by omega), Int.ediv_lt_of_lt_mul (by omega) (by omega)⟩
    rw [← hq0']
    obtain ⟨f1, f2⟩ := div_join (un32 := un32) (un10 := un10) (y := y') (q1 := q1) (r1 := r1) (q0 := q0) (r0 := r0) (by omega) hqr hqr0 hr0b.1 hr0b.2
    rw [← hM, hy'] at f1 f2
    obtain ⟨b1, b2⟩ := div_back (n := hi * 18446744073709551616 + lo) (y := y) hp0
    rw [b1] at f1
    rw [f2] at b2
    have hr0w : IntKind.wrap .u64 (IntKind.wrap .u64 (IntKind.wrap .u64 (r1 * 4294967296) + un10 % 4294967296) - IntKind.wrap .u64 (q0 * y')) = r0 := by
      simp only [wrap_u64_mod]; omega
    simp only [aps, ips, g120_8_is (H := H2), T.g120_8, Option.bind_some, p2, bin_add, bin_mul, bin_sub, wrap_u64 (x := q1 * 4294967296) (by omega) (by omega), wrap_u64 (x := q1 * 4294967296 + q0) (by omega) (by omega), hr0w, bin_shrn _ s (show s ≤ 64 by omega), ← hpp, b2, f1]
end Go.Proofs.YtlginbmjiecglaaGreat
end
