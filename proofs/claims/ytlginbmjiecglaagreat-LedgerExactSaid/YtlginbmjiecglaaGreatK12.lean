/- Texts of one claim, put together. -/
import Derived.Test.YtlginbmjiecglaaGreatK11
import Derived.KernelRfl
section
namespace Go.Proofs.YtlginbmjiecglaaGreat.T
open Go Go.Abs Go.Proofs.YtlginbmjiecglaaGreat
set_option maxRecDepth 10000
noncomputable def tFn : BT (List AV → CM) := (.node 63 f63
(.node 29 f29
(.node 15 f15
(.node 8 f8
(.node 4 f4
(.node 2 f2
.leaf (.node 3 f3
.leaf .leaf)) (.node 6 f6
(.node 5 f5
.leaf .leaf) (.node 7 f7
.leaf .leaf))) (.node 11 f11
(.node 9 f9
.leaf (.node 10 f10
.leaf .leaf)) (.node 13 f13
(.node 12 f12
.leaf .leaf) (.node 14 f14
.leaf .leaf)))) (.node 22 f22
(.node 18 f18
(.node 16 f16
.leaf (.node 17 f17
.leaf .leaf)) (.node 20 f20
(.node 19 f19
.leaf .leaf) (.node 21 f21
.leaf .leaf))) (.node 25 f25
(.node 23 f23
.leaf (.node 24 f24
.leaf .leaf)) (.node 27 f27
(.node 26 f26
.leaf .leaf) (.node 28 f28
.leaf .leaf))))) (.node 43 f43
(.node 36 f36
(.node 32 f32
(.node 30 f30
.leaf (.node 31 f31
.leaf .leaf)) (.node 34 f34
(.node 33 f33
.leaf .leaf) (.node 35 f35
.leaf .leaf))) (.node 39 f39
(.node 37 f37
.leaf (.node 38 f38
.leaf .leaf)) (.node 41 f41
(.node 40 f40
.leaf .leaf) (.node 42 f42
.leaf .leaf)))) (.node 54 f54
(.node 46 f46
(.node 44 f44
.leaf (.node 45 f45
.leaf .leaf)) (.node 52 f52
(.node 49 f49
.leaf .leaf) (.node 53 f53
.leaf .leaf))) (.node 59 f59
(.node 56 f56
(.node 55 f55
.leaf .leaf) (.node 58 f58
.leaf .leaf)) (.node 61 f61
(.node 60 f60
.leaf .leaf) (.node 62 f62
.leaf .leaf)))))) (.node 98 f98
(.node 77 f77
(.node 70 f70
(.node 66 f66
(.node 64 f64
.leaf (.node 65 f65
.leaf .leaf)) (.node 68 f68
(.node 67 f67
.leaf .leaf) (.node 69 f69
.leaf .leaf))) (.node 73 f73
(.node 71 f71
.leaf (.node 72 f72
.leaf .leaf)) (.node 75 f75
(.node 74 f74
.leaf .leaf) (.node 76 f76
.leaf .leaf)))) (.node 87 f87
(.node 81 f81
(.node 78 f78
.leaf (.node 80 f80
.leaf .leaf)) (.node 85 f85
(.node 83 f83
.leaf .leaf) (.node 86 f86
.leaf .leaf))) (.node 93 f93
(.node 89 f89
.leaf (.node 91 f91
.leaf .leaf)) (.node 96 f96
(.node 94 f94
.leaf .leaf) (.node 97 f97
.leaf .leaf))))) (.node 112 f112
(.node 105 f105
(.node 101 f101
(.node 99 f99
.leaf (.node 100 f100
.leaf .leaf)) (.node 103 f103
(.node 102 f102
.leaf .leaf) (.node 104 f104
.leaf .leaf))) (.node 108 f108
(.node 106 f106
.leaf (.node 107 f107
.leaf .leaf)) (.node 110 f110
(.node 109 f109
.leaf .leaf) (.node 111 f111
.leaf .leaf)))) (.node 119 f119
(.node 115 f115
(.node 113 f113
.leaf (.node 114 f114
.leaf .leaf)) (.node 117 f117
(.node 116 f116
.leaf .leaf) (.node 118 f118
.leaf .leaf))) (.node 123 f123
(.node 121 f121
(.node 120 f120
.leaf .leaf) (.node 122 f122
.leaf .leaf)) (.node 125 f125
(.node 124 f124
.leaf .leaf) (.node 126 f126
.leaf .leaf)))))))
noncomputable def tGo : BT (List AV → CM) := (.node 258052 g63_4
(.node 118784 g29_0
(.node 57344 g14_0
(.node 36865 g9_1
(.node 24576 g6_0
(.node 12289 g3_1
(.node 12288 g3_0
.leaf .leaf) (.node 16384 g4_0
.leaf (.node 20480 g5_0
.leaf .leaf))) (.node 32768 g8_0
(.node 28672 g7_0
.leaf .leaf) (.node 32769 g8_1
.leaf (.node 36864 g9_0
.leaf .leaf)))) (.node 49153 g12_1
(.node 45056 g11_0
(.node 36866 g9_2
.leaf .leaf) (.node 45057 g11_1
.leaf (.node 49152 g12_0
.leaf .leaf))) (.node 49156 g12_4
(.node 49154 g12_2
.leaf (.node 49155 g12_3
.leaf .leaf)) (.node 49157 g12_5
.leaf (.node 53248 g13_0
.leaf .leaf))))) (.node 81920 g20_0
(.node 65541 g16_5
(.node 65536 g16_0
(.node 61440 g15_0
.leaf .leaf) (.node 65538 g16_2
.leaf (.node 65539 g16_3
.leaf .leaf))) (.node 65544 g16_8
(.node 65542 g16_6
.leaf .leaf) (.node 73728 g18_0
.leaf (.node 77824 g19_0
.leaf .leaf)))) (.node 94210 g23_2
(.node 90112 g22_0
(.node 86016 g21_0
.leaf .leaf) (.node 94208 g23_0
.leaf (.node 94209 g23_1
.leaf .leaf))) (.node 106496 g26_0
(.node 94211 g23_3
.leaf (.node 98304 g24_0
.leaf .leaf)) (.node 110592 g27_0
.leaf (.node 114688 g28_0
.leaf .leaf)))))) (.node 241664 g59_0
(.node 184320 g45_0
(.node 147457 g36_1
(.node 135168 g33_0
(.node 131072 g32_0
.leaf .leaf) (.node 139264 g34_0
.leaf (.node 147456 g36_0
.leaf .leaf))) (.node 159744 g39_0
(.node 155648 g38_0
.leaf .leaf) (.node 159745 g39_1
.leaf (.node 167936 g41_0
.leaf .leaf)))) (.node 200705 g49_1
(.node 188417 g46_1
(.node 188416 g46_0
.leaf .leaf) (.node 188418 g46_2
.leaf (.node 200704 g49_0
.leaf .leaf))) (.node 217088 g53_0
(.node 200706 g49_2
.leaf (.node 212992 g52_0
.leaf .leaf)) (.node 221184 g54_0
.leaf (.node 237568 g58_0
.leaf .leaf))))) (.node 249857 g61_1
(.node 245762 g60_2
(.node 241666 g59_2
(.node 241665 g59_1
.leaf .leaf) (.node 245760 g60_0
.leaf (.node 245761 g60_1
.leaf .leaf))) (.node 245765 g60_5
(.node 245763 g60_3
.leaf (.node 245764 g60_4
.leaf .leaf)) (.node 245766 g60_6
.leaf (.node 249856 g61_0
.leaf .leaf)))) (.node 253954 g62_2
(.node 249859 g61_3
(.node 249858 g61_2
.leaf .leaf) (.node 253952 g62_0
.leaf (.node 253953 g62_1
.leaf .leaf))) (.node 258049 g63_1
(.node 253955 g62_3
.leaf (.node 258048 g63_0
.leaf .leaf)) (.node 258050 g63_2
.leaf (.node 258051 g63_3
.leaf .leaf))))))) (.node 458752 g112_0
(.node 385024 g94_0
(.node 270341 g66_5
(.node 270336 g66_0
(.node 262145 g64_1
(.node 262144 g64_0
.leaf .leaf) (.node 262146 g64_2
.leaf (.node 262147 g64_3
.leaf .leaf))) (.node 270338 g66_2
(.node 270337 g66_1
.leaf .leaf) (.node 270339 g66_3
.leaf (.node 270340 g66_4
.leaf .leaf)))) (.node 294912 g72_0
(.node 278528 g68_0
(.node 270342 g66_6
.leaf .leaf) (.node 278529 g68_1
.leaf (.node 278530 g68_2
.leaf .leaf))) (.node 311296 g76_0
(.node 294913 g72_1
.leaf (.node 294914 g72_2
.leaf .leaf)) (.node 311297 g76_1
.leaf (.node 311298 g76_2
.leaf .leaf))))) (.node 409602 g100_2
(.node 397315 g97_3
(.node 397312 g97_0
(.node 385025 g94_1
.leaf .leaf) (.node 397313 g97_1
.leaf (.node 397314 g97_2
.leaf .leaf))) (.node 405504 g99_0
(.node 397316 g97_4
.leaf (.node 397317 g97_5
.leaf .leaf)) (.node 409600 g100_0
.leaf (.node 409601 g100_1
.leaf .leaf)))) (.node 446466 g109_2
(.node 438272 g107_0
(.node 409603 g100_3
.leaf .leaf) (.node 446464 g109_0
.leaf (.node 446465 g109_1
.leaf .leaf))) (.node 454657 g111_1
(.node 446467 g109_3
.leaf (.node 454656 g111_0
.leaf .leaf)) (.node 454658 g111_2
.leaf (.node 454659 g111_3
.leaf .leaf)))))) (.node 483331 g118_3
(.node 471041 g115_1
(.node 462852 g113_4
(.node 462849 g113_1
(.node 462848 g113_0
.leaf .leaf) (.node 462850 g113_2
.leaf (.node 462851 g113_3
.leaf .leaf))) (.node 466945 g114_1
(.node 466944 g114_0
.leaf .leaf) (.node 466946 g114_2
.leaf (.node 471040 g115_0
.leaf .leaf)))) (.node 479232 g117_0
(.node 475136 g116_0
(.node 471042 g115_2
.leaf .leaf) (.node 475137 g116_1
.leaf (.node 475138 g116_2
.leaf .leaf))) (.node 483328 g118_0
(.node 479233 g117_1
.leaf (.node 479234 g117_2
.leaf .leaf)) (.node 483329 g118_1
.leaf (.node 483330 g118_2
.leaf .leaf))))) (.node 491525 g120_5
(.node 487426 g119_2
(.node 483333 g118_5
(.node 483332 g118_4
.leaf .leaf) (.node 487424 g119_0
.leaf (.node 487425 g119_1
.leaf .leaf))) (.node 491522 g120_2
(.node 491520 g120_0
.leaf (.node 491521 g120_1
.leaf .leaf)) (.node 491523 g120_3
.leaf (.node 491524 g120_4
.leaf .leaf)))) (.node 507904 g124_0
(.node 491527 g120_7
(.node 491526 g120_6
.leaf .leaf) (.node 491528 g120_8
.leaf (.node 495616 g121_0
.leaf .leaf))) (.node 516096 g126_0
(.node 507905 g124_1
.leaf (.node 507906 g124_2
.leaf .leaf)) (.node 516097 g126_1
.leaf (.node 516098 g126_2
.leaf .leaf))))))))
noncomputable def tAf : BT ((List AV → CM) × (List AV → CM) × List (Nat × (List AV → CM))) := (.node 65537 (l16_1_none, fun _ => .fail, [])
(.node 65536 (l16_0_none, fun _ => .fail, [])
.leaf .leaf) (.node 65538 (l16_2_none, fun _ => .fail, [])
.leaf .leaf))
noncomputable def T : Tb := ⟨tFn, tGo, tAf⟩
theorem T_ok {H : FuncId → Option (List AV → Mem → R)} (h : ∀ f, (tFn.find f).isSome = true → H f = none) : T.Ok (EH H) Mk Nk := ⟨⟨(f63_ok (h 63 rfl)).le,
⟨(f29_ok (h 29 rfl)).le,
⟨(f15_ok (h 15 rfl)).le,
⟨(f8_ok (h 8 rfl)).le,
⟨(f4_ok (h 4 rfl)).le,
⟨(f2_ok (h 2 rfl)).le,
 trivial, ⟨(f3_ok (h 3 rfl)).le,
 trivial, trivial⟩⟩, ⟨(f6_ok (h 6 rfl)).le,
⟨(f5_ok (h 5 rfl)).le,
 trivial, trivial⟩, ⟨(f7_ok (h 7 rfl)).le,
 trivial, trivial⟩⟩⟩, ⟨(f11_ok (h 11 rfl)).le,
⟨(f9_ok (h 9 rfl)).le,
 trivial, ⟨(f10_ok (h 10 rfl)).le,
 trivial, trivial⟩⟩, ⟨(f13_ok (h 13 rfl)).le,
⟨(f12_ok (h 12 rfl)).le,
 trivial, trivial⟩, ⟨(f14_ok (h 14 rfl)).le,
 trivial, trivial⟩⟩⟩⟩, ⟨(f22_ok (h 22 rfl)).le,
⟨(f18_ok (h 18 rfl)).le,
⟨(f16_ok (h 16 rfl)).le,
 trivial, ⟨(f17_ok (h 17 rfl)).le,
 trivial, trivial⟩⟩, ⟨(f20_ok (h 20 rfl)).le,
⟨(f19_ok (h 19 rfl)).le,
 trivial, trivial⟩, ⟨(f21_ok (h 21 rfl)).le,
 trivial, trivial⟩⟩⟩, ⟨(f25_ok (h 25 rfl)).le,
⟨(f23_ok (h 23 rfl)).le,
 trivial, ⟨(f24_ok (h 24 rfl)).le,
 trivial, trivial⟩⟩, ⟨(f27_ok (h 27 rfl)).le,
⟨(f26_ok (h 26 rfl)).le,
 trivial, trivial⟩, ⟨(f28_ok (h 28 rfl)).le,
 trivial, trivial⟩⟩⟩⟩⟩, ⟨(f43_ok (h 43 rfl)).le,
⟨(f36_ok (h 36 rfl)).le,
⟨(f32_ok (h 32 rfl)).le,
⟨(f30_ok (h 30 rfl)).le,
 trivial, ⟨(f31_ok (h 31 rfl)).le,
 trivial, trivial⟩⟩, ⟨(f34_ok (h 34 rfl)).le,
⟨(f33_ok (h 33 rfl)).le,
 trivial, trivial⟩, ⟨(f35_ok (h 35 rfl)).le,
 trivial, trivial⟩⟩⟩, ⟨(f39_ok (h 39 rfl)).le,
⟨(f37_ok (h 37 rfl)).le,
 trivial, ⟨(f38_ok (h 38 rfl)).le,
 trivial, trivial⟩⟩, ⟨(f41_ok (h 41 rfl)).le,
⟨(f40_ok (h 40 rfl)).le,
 trivial, trivial⟩, ⟨(f42_ok (h 42 rfl)).le,
 trivial, trivial⟩⟩⟩⟩, ⟨(f54_ok (h 54 rfl)).le,
⟨(f46_ok (h 46 rfl)).le,
⟨(f44_ok (h 44 rfl)).le,
 trivial, ⟨(f45_ok (h 45 rfl)).le,
 trivial, trivial⟩⟩, ⟨(f52_ok (h 52 rfl)).le,
⟨(f49_ok (h 49 rfl)).le,
 trivial, trivial⟩, ⟨(f53_ok (h 53 rfl)).le,
 trivial, trivial⟩⟩⟩, ⟨(f59_ok (h 59 rfl)).le,
⟨(f56_ok (h 56 rfl)).le,
⟨(f55_ok (h 55 rfl)).le,
 trivial, trivial⟩, ⟨(f58_ok (h 58 rfl)).le,
 trivial, trivial⟩⟩, ⟨(f61_ok (h 61 rfl)).le,
⟨(f60_ok (h 60 rfl)).le,
 trivial, trivial⟩, ⟨(f62_ok (h 62 rfl)).le,
 trivial, trivial⟩⟩⟩⟩⟩⟩, ⟨(f98_ok (h 98 rfl)).le,
⟨(f77_ok (h 77 rfl)).le,
⟨(f70_ok (h 70 rfl)).le,
⟨(f66_ok (h 66 rfl)).le,
⟨(f64_ok (h 64 rfl)).le,
 trivial, ⟨(f65_ok (h 65 rfl)).le,
 trivial, trivial⟩⟩, ⟨(f68_ok (h 68 rfl)).le,
⟨(f67_ok (h 67 rfl)).le,
 trivial, trivial⟩, ⟨(f69_ok (h 69 rfl)).le,
 trivial, trivial⟩⟩⟩, ⟨(f73_ok (h 73 rfl)).le,
⟨(f71_ok (h 71 rfl)).le,
 trivial, ⟨(f72_ok (h 72 rfl)).le,
 trivial, trivial⟩⟩, ⟨(f75_ok (h 75 rfl)).le,
⟨(f74_ok (h 74 rfl)).le,
 trivial, trivial⟩, ⟨(f76_ok (h 76 rfl)).le,
 trivial, trivial⟩⟩⟩⟩, ⟨(f87_ok (h 87 rfl)).le,
⟨(f81_ok (h 81 rfl)).le,
⟨(f78_ok (h 78 rfl)).le,
 trivial, ⟨(f80_ok (h 80 rfl)).le,
 trivial, trivial⟩⟩, ⟨(f85_ok (h 85 rfl)).le,
⟨(f83_ok (h 83 rfl)).le,
 trivial, trivial⟩, ⟨(f86_ok (h 86 rfl)).le,
 trivial, trivial⟩⟩⟩, ⟨(f93_ok (h 93 rfl)).le,
⟨(f89_ok (h 89 rfl)).le,
 trivial, ⟨(f91_ok (h 91 rfl)).le,
 trivial, trivial⟩⟩, ⟨(f96_ok (h 96 rfl)).le,
⟨(f94_ok (h 94 rfl)).le,
 trivial, trivial⟩, ⟨(f97_ok (h 97 rfl)).le,
 trivial, trivial⟩⟩⟩⟩⟩, ⟨(f112_ok (h 112 rfl)).le,
⟨(f105_ok (h 105 rfl)).le,
⟨(f101_ok (h 101 rfl)).le,
⟨(f99_ok (h 99 rfl)).le,
 trivial, ⟨(f100_ok (h 100 rfl)).le,
 trivial, trivial⟩⟩, ⟨(f103_ok (h 103 rfl)).le,
⟨(f102_ok (h 102 rfl)).le,
 trivial, trivial⟩, ⟨(f104_ok (h 104 rfl)).le,
 trivial, trivial⟩⟩⟩, ⟨(f108_ok (h 108 rfl)).le,
⟨(f106_ok (h 106 rfl)).le,
 trivial, ⟨(f107_ok (h 107 rfl)).le,
 trivial, trivial⟩⟩, ⟨(f110_ok (h 110 rfl)).le,
⟨(f109_ok (h 109 rfl)).le,
 trivial, trivial⟩, ⟨(f111_ok (h 111 rfl)).le,
 trivial, trivial⟩⟩⟩⟩, ⟨(f119_ok (h 119 rfl)).le,
⟨(f115_ok (h 115 rfl)).le,
⟨(f113_ok (h 113 rfl)).le,
 trivial, ⟨(f114_ok (h 114 rfl)).le,
 trivial, trivial⟩⟩, ⟨(f117_ok (h 117 rfl)).le,
⟨(f116_ok (h 116 rfl)).le,
 trivial, trivial⟩, ⟨(f118_ok (h 118 rfl)).le,
 trivial, trivial⟩⟩⟩, ⟨(f123_ok (h 123 rfl)).le,
⟨(f121_ok (h 121 rfl)).le,
⟨(f120_ok (h 120 rfl)).le,
 trivial, trivial⟩, ⟨(f122_ok (h 122 rfl)).le,
 trivial, trivial⟩⟩, ⟨(f125_ok (h 125 rfl)).le,
⟨(f124_ok (h 124 rfl)).le,
 trivial, trivial⟩, ⟨(f126_ok (h 126 rfl)).le,
 trivial, trivial⟩⟩⟩⟩⟩⟩⟩,
⟨g63_4_ok.le,
⟨g29_0_ok.le,
⟨g14_0_ok.le,
⟨g9_1_ok.le,
⟨g6_0_ok.le,
⟨g3_1_ok.le,
⟨g3_0_ok.le,
 trivial, trivial⟩, ⟨g4_0_ok.le,
 trivial, ⟨g5_0_ok.le,
 trivial, trivial⟩⟩⟩, ⟨g8_0_ok.le,
⟨g7_0_ok.le,
 trivial, trivial⟩, ⟨g8_1_ok.le,
 trivial, ⟨g9_0_ok.le,
 trivial, trivial⟩⟩⟩⟩, ⟨g12_1_ok.le,
⟨g11_0_ok.le,
⟨g9_2_ok.le,
 trivial, trivial⟩, ⟨g11_1_ok.le,
 trivial, ⟨g12_0_ok.le,
 trivial, trivial⟩⟩⟩, ⟨g12_4_ok.le,
⟨g12_2_ok.le,
 trivial, ⟨g12_3_ok.le,
 trivial, trivial⟩⟩, ⟨g12_5_ok.le,
 trivial, ⟨g13_0_ok.le,
 trivial, trivial⟩⟩⟩⟩⟩, ⟨g20_0_ok.le,
⟨g16_5_ok.le,
⟨g16_0_ok.le,
⟨g15_0_ok.le,
 trivial, trivial⟩, ⟨g16_2_ok.le,
 trivial, ⟨g16_3_ok.le,
 trivial, trivial⟩⟩⟩, ⟨g16_8_ok.le,
⟨g16_6_ok.le,
 trivial, trivial⟩, ⟨g18_0_ok.le,
 trivial, ⟨g19_0_ok.le,
 trivial, trivial⟩⟩⟩⟩, ⟨g23_2_ok.le,
⟨g22_0_ok.le,
⟨g21_0_ok.le,
 trivial, trivial⟩, ⟨g23_0_ok.le,
 trivial, ⟨g23_1_ok.le,
 trivial, trivial⟩⟩⟩, ⟨g26_0_ok.le,
⟨g23_3_ok.le,
 trivial, ⟨g24_0_ok.le,
 trivial, trivial⟩⟩, ⟨g27_0_ok.le,
 trivial, ⟨g28_0_ok.le,
 trivial, trivial⟩⟩⟩⟩⟩⟩, ⟨g59_0_ok.le,
⟨g45_0_ok.le,
⟨g36_1_ok.le,
⟨g33_0_ok.le,
⟨g32_0_ok.le,
 trivial, trivial⟩, ⟨g34_0_ok.le,
 trivial, ⟨g36_0_ok.le,
 trivial, trivial⟩⟩⟩, ⟨g39_0_ok.le,
⟨g38_0_ok.le,
 trivial, trivial⟩, ⟨g39_1_ok.le,
 trivial, ⟨g41_0_ok.le,
 trivial, trivial⟩⟩⟩⟩, ⟨g49_1_ok.le,
⟨g46_1_ok.le,
⟨g46_0_ok.le,
 trivial, trivial⟩, ⟨g46_2_ok.le,
 trivial, ⟨g49_0_ok.le,
 trivial, trivial⟩⟩⟩, ⟨g53_0_ok.le,
⟨g49_2_ok.le,
 trivial, ⟨g52_0_ok.le,
 trivial, trivial⟩⟩, ⟨g54_0_ok.le,
 trivial, ⟨g58_0_ok.le,
 trivial, trivial⟩⟩⟩⟩⟩, ⟨g61_1_ok.le,
⟨g60_2_ok.le,
⟨g59_2_ok.le,
⟨g59_1_ok.le,
 trivial, trivial⟩, ⟨g60_0_ok.le,
 trivial, ⟨g60_1_ok.le,
 trivial, trivial⟩⟩⟩, ⟨g60_5_ok.le,
⟨g60_3_ok.le,
 trivial, ⟨g60_4_ok.le,
 trivial, trivial⟩⟩, ⟨g60_6_ok.le,
 trivial, ⟨g61_0_ok.le,
 trivial, trivial⟩⟩⟩⟩, ⟨g62_2_ok.le,
⟨g61_3_ok.le,
⟨g61_2_ok.le,
 trivial, trivial⟩, ⟨g62_0_ok.le,
 trivial, ⟨g62_1_ok.le,
 trivial, trivial⟩⟩⟩, ⟨g63_1_ok.le,
⟨g62_3_ok.le,
 trivial, ⟨g63_0_ok.le,
 trivial, trivial⟩⟩, ⟨g63_2_ok.le,
 trivial, ⟨g63_3_ok.le,
 trivial, trivial⟩⟩⟩⟩⟩⟩⟩, ⟨g112_0_ok.le,
⟨g94_0_ok.le,
⟨g66_5_ok.le,
⟨g66_0_ok.le,
⟨g64_1_ok.le,
⟨g64_0_ok.le,
 trivial, trivial⟩, ⟨g64_2_ok.le,
 trivial, ⟨g64_3_ok.le,
 trivial, trivial⟩⟩⟩, ⟨g66_2_ok.le,
⟨g66_1_ok.le,
 trivial, trivial⟩, ⟨g66_3_ok.le,
 trivial, ⟨g66_4_ok.le,
 trivial, trivial⟩⟩⟩⟩, ⟨g72_0_ok.le,
⟨g68_0_ok.le,
⟨g66_6_ok.le,
 trivial, trivial⟩, ⟨g68_1_ok.le,
 trivial, ⟨g68_2_ok.le,
 trivial, trivial⟩⟩⟩, ⟨g76_0_ok.le,
⟨g72_1_ok.le,
 trivial, ⟨g72_2_ok.le,
 trivial, trivial⟩⟩, ⟨g76_1_ok.le,
 trivial, ⟨g76_2_ok.le,
 trivial, trivial⟩⟩⟩⟩⟩, ⟨g100_2_ok.le,
⟨g97_3_ok.le,
⟨g97_0_ok.le,
⟨g94_1_ok.le,
 trivial, trivial⟩, ⟨g97_1_ok.le,
 trivial, ⟨g97_2_ok.le,
 trivial, trivial⟩⟩⟩, ⟨g99_0_ok.le,
⟨g97_4_ok.le,
 trivial, ⟨g97_5_ok.le,
 trivial, trivial⟩⟩, ⟨g100_0_ok.le,
 trivial, ⟨g100_1_ok.le,
 trivial, trivial⟩⟩⟩⟩, ⟨g109_2_ok.le,
⟨g107_0_ok.le,
⟨g100_3_ok.le,
 trivial, trivial⟩, ⟨g109_0_ok.le,
 trivial, ⟨g109_1_ok.le,
 trivial, trivial⟩⟩⟩, ⟨g111_1_ok.le,
⟨g109_3_ok.le,
 trivial, ⟨g111_0_ok.le,
 trivial, trivial⟩⟩, ⟨g111_2_ok.le,
 trivial, ⟨g111_3_ok.le,
 trivial, trivial⟩⟩⟩⟩⟩⟩, ⟨g118_3_ok.le,
⟨g115_1_ok.le,
⟨g113_4_ok.le,
⟨g113_1_ok.le,
⟨g113_0_ok.le,
 trivial, trivial⟩, ⟨g113_2_ok.le,
 trivial, ⟨g113_3_ok.le,
 trivial, trivial⟩⟩⟩, ⟨g114_1_ok.le,
⟨g114_0_ok.le,
 trivial, trivial⟩, ⟨g114_2_ok.le,
 trivial, ⟨g115_0_ok.le,
 trivial, trivial⟩⟩⟩⟩, ⟨g117_0_ok.le,
⟨g116_0_ok.le,
⟨g115_2_ok.le,
 trivial, trivial⟩, ⟨g116_1_ok.le,
 trivial, ⟨g116_2_ok.le,
 trivial, trivial⟩⟩⟩, ⟨g118_0_ok.le,
⟨g117_1_ok.le,
 trivial, ⟨g117_2_ok.le,
 trivial, trivial⟩⟩, ⟨g118_1_ok.le,
 trivial, ⟨g118_2_ok.le,
 trivial, trivial⟩⟩⟩⟩⟩, ⟨g120_5_ok.le,
⟨g119_2_ok.le,
⟨g118_5_ok.le,
⟨g118_4_ok.le,
 trivial, trivial⟩, ⟨g119_0_ok.le,
 trivial, ⟨g119_1_ok.le,
 trivial, trivial⟩⟩⟩, ⟨g120_2_ok.le,
⟨g120_0_ok.le,
 trivial, ⟨g120_1_ok.le,
 trivial, trivial⟩⟩, ⟨g120_3_ok.le,
 trivial, ⟨g120_4_ok.le,
 trivial, trivial⟩⟩⟩⟩, ⟨g124_0_ok.le,
⟨g120_7_ok.le,
⟨g120_6_ok.le,
 trivial, trivial⟩, ⟨g120_8_ok.le,
 trivial, ⟨g121_0_ok.le,
 trivial, trivial⟩⟩⟩, ⟨g126_0_ok.le,
⟨g124_1_ok.le,
 trivial, ⟨g124_2_ok.le,
 trivial, trivial⟩⟩, ⟨g126_1_ok.le,
 trivial, ⟨g126_2_ok.le,
 trivial, trivial⟩⟩⟩⟩⟩⟩⟩⟩,
⟨⟨l16_1_none_ok.le, fail_le, all_nil⟩,
⟨⟨l16_0_none_ok.le, fail_le, all_nil⟩,
 trivial, trivial⟩, ⟨⟨l16_2_none_ok.le, fail_le, all_nil⟩,
 trivial, trivial⟩⟩⟩
end Go.Proofs.YtlginbmjiecglaaGreat.T
end
section
namespace Go.Abs
open Go

def closedH (v : AV) (args : List AV) (m : Mem) : R :=
  match args with
  | [] => some (v, m)
  | _ :: _ => none

theorem closed_ok {E : Env} (hE : EnvOk E) {f : FuncId} {fn : Func} (hfn : E.P.funcs[f]? = some fn) (hb : fn.body.isSome = true) (hn : fn.name ≠ "runtime.NumGoroutine") {b : Bool} {m1 : Mem}
    (h : run E (.fn f) [] (noM (GP E.P)) = some (.bool b, m1)) : ∀ args m r m', closedH (.bool b) args m = some (r, m') → FnOk E.P (.fn f) args m r m' := by
  intro args m r m' e
  cases args with
  | cons _ _ => cases e
  | nil =>
    simp only [closedH, Option.some.injEq, Prod.mk.injEq] at e
    obtain ⟨rfl, rfl⟩ := e
    refine ⟨Nat.le_refl _, fun p w cargs hm _ _ hv => .inl ⟨fn, hfn, hb, hn, ?_⟩⟩
    have hc : cargs = [] := by cases cargs with | nil => rfl | cons _ _ => simp [VRs] at hv
    subst hc
    have hG : GP E.P ≤ w.heap.size := by
      cases hz : GP E.P with
      | zero => exact Nat.zero_le _
      | succ n =>
        obtain ⟨k, hk⟩ := hm.glob n (by show n < GP E.P; omega)
        exact hm.bnd n _ hk
    have hfree : Free (noPhi (GP E.P)) (noM (GP E.P)).next m1.next := by
      intro x h1 h2
      simp only [noM] at h1
      simp only [noPhi]; rw [if_neg (by omega)]
    refine (fnOk_calls (run_sound hE (.fn f) _ _ _ _ h) hfn hb hn (noM_MR hG) (by simp [noM]) hfree (cargs := []) (by simp [VRs])).mono ?_
    rintro e w' ⟨cv, p', rfl, h1, h2⟩
    have keep : ∀ k, k < w.heap.size → w'.heap[k]? = w.heap[k]? := fun k hk => h2.keepC k hk fun b ci h3 => by rw [noM_get] at h3; cases h3
    simp only [VR] at h1
    refine ⟨cv, p, rfl, by simp only [VR]; exact h1, ?_⟩
    exact {
      le := fun _ _ h => h
      out := fun _ _ => rfl
      next := Nat.le_refl _
      rel := {
        has := fun b v ci h3 h4 => by rw [keep _ (hm.bnd b ci h4)]; exact hm.has b v ci h3 h4
        inj := hm.inj
        bnd := fun b ci h4 => Nat.lt_of_lt_of_le (hm.bnd b ci h4) h2.size
        glob := hm.glob }
      keepA := fun _ _ _ => rfl
      dead := fun _ _ h => h
      keepC := fun c hc _ => keep c hc
      fresh := fun b ci h3 h4 => absurd h4 (by omega)
      ro := fun b cs ci h3 h4 => ⟨h3, keep _ (hm.bnd b ci h4)⟩
      size := h2.size
      os := h2.os
      output := h2.output
      tape := h2.tape }
end Go.Abs
end
section
namespace Go.Proofs.YtlginbmjiecglaaGreat
open Go Go.Abs
set_option maxRecDepth 4000
theorem known_run : ((XD E T.T 4000).call (.fn 6) [] (noM (GP Tryz.prog))).map (·.1) = some (.bool true) := by kernel_rfl
theorem known_free (f : Nat) (hf : (T.tFn.find f).isSome = true) : H f = none := by
  unfold H
  split <;> first | rfl | exact absurd (hf.symm.trans (show _ = false by kernel_rfl)) (by simp)
theorem known_runs : ∃ m', run E (.fn 6) [] (noM (GP Tryz.prog)) = some (.bool true, m') := by
  have h := known_run
  cases e : (XD E T.T 4000).call (.fn 6) [] (noM (GP Tryz.prog)) with
  | none => rw [e] at h; cases h
  | some r =>
    rw [e] at h
    obtain ⟨v, m'⟩ := r
    simp only [Option.map_some, Option.some.injEq] at h
    subst h
    exact ⟨m', run_of_X (E := E) (T.T_ok (H := H) known_free) 4000 e⟩
noncomputable def H2 (f : FuncId) : Option (List AV → Mem → R) :=
  match f with
  | 79 => some sub64H
  | 82 => some overlapsH
  | 84 => some overlapsH
  | 88 => some overlapsH
  | 90 => some overlapsH
  | 92 => some add64H
  | 95 => some overlapsH
  | 47 => some (insH Tryz.prog 109)
  | 48 => some (insH Tryz.prog 45)
  | 50 => some (insH Tryz.prog 114)
  | 51 => some (insH Tryz.prog 47)
  | 57 => some (insH Tryz.prog 46)
  | 6 => some (closedH (.bool true))
  | _ => none
noncomputable abbrev E2 : Env := T.EH H2
theorem E2_ok : EnvOk E2 := envOf_ok (by kernel_rfl) 145 (fun f h => by
    unfold hints; rw [List.getElem?_eq_none (by show 145 ≤ f; exact h)]; rfl) (fun f h => List.all_eq_true.1 looks f (List.mem_range.2 h)) (fun f h e => by
    unfold H2 at e
    split at e
    · have e1 := Option.some.inj e; subst e1; exact sub64_ok (P := Tryz.prog) (fn := Tryz.f79) Tryz.func79 (by kernel_rfl) (by kernel_rfl) (by kernel_rfl) (by kernel_rfl)
    · have e1 := Option.some.inj e; subst e1; exact overlaps_ok (P := Tryz.prog) (fn := Tryz.f82) (st := 109) (tr := 4) (e := 9) (sz := 1) Tryz.func82 (by kernel_rfl) (by kernel_rfl) (by kernel_rfl) (by kernel_rfl) (by kernel_rfl) (by kernel_rfl)
    · have e1 := Option.some.inj e; subst e1; exact overlaps_ok (P := Tryz.prog) (fn := Tryz.f84) (st := 45) (tr := 4) (e := 64) (sz := 4) Tryz.func84 (by kernel_rfl) (by kernel_rfl) (by kernel_rfl) (by kernel_rfl) (by kernel_rfl) (by kernel_rfl)
    · have e1 := Option.some.inj e; subst e1; exact overlaps_ok (P := Tryz.prog) (fn := Tryz.f88) (st := 114) (tr := 4) (e := 30) (sz := 1) Tryz.func88 (by kernel_rfl) (by kernel_rfl) (by kernel_rfl) (by kernel_rfl) (by kernel_rfl) (by kernel_rfl)
    · have e1 := Option.some.inj e; subst e1; exact overlaps_ok (P := Tryz.prog) (fn := Tryz.f90) (st := 47) (tr := 4) (e := 70) (sz := 4) Tryz.func90 (by kernel_rfl) (by kernel_rfl) (by kernel_rfl) (by kernel_rfl) (by kernel_rfl) (by kernel_rfl)
    · have e1 := Option.some.inj e; subst e1; exact add64_ok (P := Tryz.prog) (fn := Tryz.f92) Tryz.func92 (by kernel_rfl) (by kernel_rfl) (by kernel_rfl) (by kernel_rfl)
    · have e1 := Option.some.inj e; subst e1; exact overlaps_ok (P := Tryz.prog) (fn := Tryz.f95) (st := 46) (tr := 4) (e := 54) (sz := 9) Tryz.func95 (by kernel_rfl) (by kernel_rfl) (by kernel_rfl) (by kernel_rfl) (by kernel_rfl) (by kernel_rfl)
    · have e1 := Option.some.inj e; subst e1; exact insert_ok (E := E0) E0_ok (st := 109) (e := 9) (by kernel_rfl) (by kernel_rfl) (by kernel_rfl) (by kernel_rfl) ⟨Tryz.f47, Tryz.func47, by kernel_rfl, by decide +kernel⟩ ins47
    · have e1 := Option.some.inj e; subst e1; exact insert_ok (E := E0) E0_ok (st := 45) (e := 64) (by kernel_rfl) (by kernel_rfl) (by kernel_rfl) (by kernel_rfl) ⟨Tryz.f48, Tryz.func48, by kernel_rfl, by decide +kernel⟩ ins48
    · have e1 := Option.some.inj e; subst e1; exact insert_ok (E := E0) E0_ok (st := 114) (e := 30) (by kernel_rfl) (by kernel_rfl) (by kernel_rfl) (by kernel_rfl) ⟨Tryz.f50, Tryz.func50, by kernel_rfl, by decide +kernel⟩ ins50
    · have e1 := Option.some.inj e; subst e1; exact insert_ok (E := E0) E0_ok (st := 47) (e := 70) (by kernel_rfl) (by kernel_rfl) (by kernel_rfl) (by kernel_rfl) ⟨Tryz.f51, Tryz.func51, by kernel_rfl, by decide +kernel⟩ ins51
    · have e1 := Option.some.inj e; subst e1; exact insert_ok (E := E0) E0_ok (st := 46) (e := 54) (by kernel_rfl) (by kernel_rfl) (by kernel_rfl) (by kernel_rfl) ⟨Tryz.f57, Tryz.func57, by kernel_rfl, by decide +kernel⟩ ins57
    · have e1 := Option.some.inj e; subst e1; obtain ⟨m1, h1⟩ := known_runs; exact closed_ok E_ok Tryz.func6 (by kernel_rfl) (by decide +kernel) h1
    · cases e)
noncomputable abbrev D2 : Do := T.Rl H2
end Go.Proofs.YtlginbmjiecglaaGreat
end
section
namespace Go.Abs
open Go

theorem Fr.lay {m m1 : Mem} {S : List Nat} (h : Fr m m1 S) (v : Blk) : Fr m (m1.lay v) S :=
  ⟨Nat.le_trans h.1 (Nat.le_succ _), fun c hc hn => by rw [Mem.get_lay, if_neg (by have := h.1; omega)]; exact h.2 c hc hn⟩
theorem Fr.put' {m m1 : Mem} {S : List Nat} (h : Fr m m1 S) {b : Nat} {v : Option Blk} (hb : b ∈ S ∨ m.next ≤ b) : Fr m (m1.put b v) S :=
  ⟨h.1, fun c hc hn => by
    rw [Mem.get_put, if_neg]
    · exact h.2 c hc hn
    · rintro ⟨rfl, _⟩
      rcases hb with h | h
      · exact hn h
      · omega⟩
theorem Fr.step {m m1 m2 : Mem} {S T : List Nat} (h : Fr m m1 S) (h' : Fr m1 m2 T) (hT : ∀ c, c ∈ T → c ∈ S ∨ m.next ≤ c) : Fr m m2 S :=
  ⟨Nat.le_trans h.1 h'.1, fun c hc hn => by
    rw [h'.2 c (Nat.lt_of_lt_of_le hc h.1), h.2 c hc hn]
    intro hm
    rcases hT c hm with h | h
    · exact hn h
    · omega⟩
theorem Fr.step0 {m m1 m2 : Mem} {S : List Nat} (h : Fr m m1 S) (h' : Fr m1 m2 []) : Fr m m2 S := h.step h' (by simp)
theorem Fr.any {m m1 : Mem} (S : List Nat) (h : Fr m m1 []) : Fr m m1 S := h.mono (by simp)
theorem Fr.next {m m1 : Mem} {S : List Nat} (h : Fr m m1 S) : m.next ≤ m1.next := h.1
theorem Fr.refl' (m : Mem) (S : List Nat) : Fr m m S := (Fr.refl m).any S

section flat
variable {n : Nat}
theorem flat_len : ∀ {l : List (List AV)}, (∀ x ∈ l, x.length = n) → l.flatten.length = l.length * n
  | [], _ => by simp
  | x :: l, h => by
    rw [List.flatten_cons, List.length_append, flat_len (fun y hy => h y (List.mem_cons_of_mem _ hy)), h x List.mem_cons_self, List.length_cons, Nat.succ_mul]; omega
theorem flat_drop : ∀ {l : List (List AV)} (i : Nat), (∀ x ∈ l, x.length = n) → l.flatten.drop (i * n) = (l.drop i).flatten
  | l, 0, _ => by simp
  | [], i + 1, _ => by simp
  | x :: l, i + 1, h => by
    rw [List.flatten_cons, List.drop_append, List.drop_eq_nil_of_le (by rw [h x List.mem_cons_self, Nat.succ_mul]; omega), List.nil_append, h x List.mem_cons_self, Nat.succ_mul, Nat.add_sub_cancel]
    exact flat_drop i (fun y hy => h y (List.mem_cons_of_mem _ hy))
theorem flat_take : ∀ {l : List (List AV)} (i : Nat), (∀ x ∈ l, x.length = n) → l.flatten.take (i * n) = (l.take i).flatten
  | l, 0, _ => by simp
  | [], i + 1, _ => by simp
  | x :: l, i + 1, h => by
    rw [List.flatten_cons, List.take_append, List.take_of_length_le (by rw [h x List.mem_cons_self, Nat.succ_mul]; omega), h x List.mem_cons_self, Nat.succ_mul, Nat.add_sub_cancel]
    rw [flat_take i (fun y hy => h y (List.mem_cons_of_mem _ hy)), List.take_succ_cons, List.flatten_cons]
theorem flat_nth {l : List (List AV)} (h : ∀ x ∈ l, x.length = n) {i : Nat} (hi : i < l.length) : (l.flatten.drop (i * n)).take n = l[i] := by
  rw [flat_drop i h, List.drop_eq_getElem_cons hi, List.flatten_cons, List.take_append, List.take_of_length_le (by rw [h _ (List.getElem_mem hi)]; exact Nat.le_refl _), h _ (List.getElem_mem hi), Nat.sub_self, List.take_zero, List.append_nil]
theorem flat_set {l : List (List AV)} (h : ∀ x ∈ l, x.length = n) {i : Nat} (hi : i < l.length) (v : List AV) : l.flatten.take (i * n) ++ v ++ l.flatten.drop (i * n + n) = (l.set i v).flatten := by
  rw [show i * n + n = (i + 1) * n by rw [Nat.succ_mul], flat_take i h, flat_drop (i + 1) h, List.set_eq_take_append_cons_drop, if_pos hi, List.flatten_append, List.flatten_cons, List.append_assoc]
theorem flat_ones {l : List (List AV)} (h : ∀ x ∈ l, x.all AV.one = true) : l.flatten.all AV.one = true := by
  rw [List.all_eq_true]
  intro v hv
  obtain ⟨x, hx, hv⟩ := List.mem_flatten.1 hv
  exact List.all_eq_true.1 (h x hx) v hv
theorem flat_single : ∀ {l : List AV}, (l.map fun x => [x]).flatten = l
  | [] => rfl
  | x :: l => by rw [List.map_cons, List.flatten_cons, flat_single]; rfl
end flat

def TRow (n : Nat) (m : Mem) (s : AV) (l : List (List AV)) (rb : Option Nat) : Prop :=
  (∀ x ∈ l, x.length = n ∧ x.all AV.one = true) ∧
  ((l = [] ∧ rb = none ∧ ∃ sz ex, s = .sl none sz 0 0 ex) ∨
   ∃ b, rb = some b ∧ s = .sl (some ⟨b, 0⟩) n l.length l.length false ∧ m.get b = some (.cells l.flatten false))

theorem TRow.nil (n : Nat) (m : Mem) (sz : Nat) (ex : Bool) : TRow n m (.sl none sz 0 0 ex) [] none := ⟨by simp, .inl ⟨rfl, rfl, _, _, rfl⟩⟩
theorem TRow.lens {n : Nat} {m : Mem} {s : AV} {l : List (List AV)} {rb : Option Nat} (h : TRow n m s l rb) : ∀ x ∈ l, x.length = n := fun x hx => (h.1 x hx).1
theorem TRow.frame {n : Nat} {m m' : Mem} {s : AV} {l : List (List AV)} {rb : Option Nat} {S : List Nat} (h : TRow n m s l rb) (hf : Fr m m' S) (hd : ∀ b, rb = some b → b ∉ S) : TRow n m' s l rb := by
  rcases h with ⟨h0, h | ⟨b, h1, h2, h3⟩⟩
  · exact ⟨h0, .inl h⟩
  · exact ⟨h0, .inr ⟨b, h1, h2, hf.get h3 (hd b h1)⟩⟩
theorem TRow.lt {n : Nat} {m : Mem} {s : AV} {l : List (List AV)} {b : Nat} (h : TRow n m s l (some b)) : b < m.next := by
  rcases h with ⟨_, ⟨_, h, _⟩ | ⟨b', h1, h2, h3⟩⟩
  · cases h
  · cases h1; exact Mem.get_lt h3
theorem TRow.len {n : Nat} {m : Mem} {s : AV} {l : List (List AV)} {rb : Option Nat} (h : TRow n m s l rb) : ∃ a sz cap ex, s = .sl a sz l.length cap ex := by
  rcases h with ⟨_, ⟨rfl, _, sz, ex, rfl⟩ | ⟨b, _, rfl, _⟩⟩
  · exact ⟨_, _, _, _, rfl⟩
  · exact ⟨_, _, _, _, rfl⟩
theorem TRow.one {n : Nat} {m : Mem} {s : AV} {l : List (List AV)} {rb : Option Nat} (h : TRow n m s l rb) : s.one = true := by
  obtain ⟨a, sz, cap, ex, rfl⟩ := h.len; rfl
theorem TRow.at {n : Nat} {m : Mem} {s : AV} {l : List (List AV)} {rb : Option Nat} (h : TRow n m s l rb) {i : Nat} (hi : i < l.length) :
    ∃ b, rb = some b ∧ s = .sl (some ⟨b, 0⟩) n l.length l.length false ∧ m.get b = some (.cells l.flatten false) ∧ ixA n l.length ⟨b, 0⟩ (i : Int) = some (.ptr (some ⟨b, i * n⟩)) ∧ ldCells m ⟨b, i * n⟩ n = some l[i] := by
  have hl := h.lens
  rcases h with ⟨h0, ⟨rfl, _⟩ | ⟨b, h1, h2, h3⟩⟩
  · simp at hi
  · refine ⟨b, h1, h2, h3, by simp [ixA, hi], ?_⟩
    have : (i + 1) * n ≤ l.length * n := Nat.mul_le_mul_right n hi
    rw [Nat.succ_mul] at this
    simp only [ldCells, h3]
    rw [if_pos (by rw [flat_len hl]; exact this), flat_nth hl hi]
theorem TRow.st {n : Nat} {m : Mem} {s : AV} {l : List (List AV)} {rb : Option Nat} (h : TRow n m s l rb) {i : Nat} (hi : i < l.length) {v : List AV} (hv : v.length = n) (ho : v.all AV.one = true) :
    ∃ b, rb = some b ∧ stCells m ⟨b, i * n⟩ v = some (m.put b (some (.cells (l.set i v).flatten false))) ∧ TRow n (m.put b (some (.cells (l.set i v).flatten false))) s (l.set i v) rb := by
  have hl := h.lens
  obtain ⟨b, h1, h2, h3, _, _⟩ := h.at hi
  refine ⟨b, h1, ?_, fun x hx => ?_, .inr ⟨b, h1, by simpa using h2, by rw [Mem.get_put, if_pos ⟨rfl, Mem.get_lt h3⟩]⟩⟩
  · have : (i + 1) * n ≤ l.length * n := Nat.mul_le_mul_right n hi
    rw [Nat.succ_mul] at this
    simp only [stCells, h3]
    rw [if_pos (by rw [flat_len hl, hv]; exact this), hv, flat_set hl hi]
  · rcases List.mem_or_eq_of_mem_set hx with hx | rfl
    · exact h.1 x hx
    · exact ⟨hv, ho⟩

theorem insH_row {P : Program} {st e : TypeId} {n w : Nat} {zs : List AV} (hst : P.underlying st = some (.slice e)) (hsz : szT P e = some n) (hw : bytesT P e = some w) (hz : zeroA P e = some zs) (hzl : zs.length = n) (hn : 0 < n) (hw0 : 0 < w)
    {m : Mem} {s : AV} {l : List (List AV)} {rb : Option Nat} (h : TRow n m s l rb) {xb : Nat} {new : List AV} (hx : m.get xb = some (.cells new false)) (hl : new.length = n) (ho : new.all AV.one = true) (hne : rb ≠ some xb)
    {i : Nat} (hi : i ≤ l.length) (hb : (l.length + 1) * w ≤ maxBytes) :
    ∃ s' m', insH P st [s, .int .i64 i, .sl (some ⟨xb, 0⟩) n 1 1 true] m = some (s', m') ∧ TRow n m' s' (l.take i ++ new :: l.drop i) (some m.next) ∧ m'.next = m.next + 1 ∧ Fr m m' rb.toList := by
  have hsrc : srcA n (.sl (some ⟨xb, 0⟩) n 1 1 true) m = some (1, new) := by
    simp only [srcA, true_or, if_true, ldCells, hx, Nat.one_mul, Nat.zero_add, hl, Nat.le_refl, List.drop_zero, Option.map_some]
    rw [List.take_of_length_le (by omega)]
  have hall : ∀ x ∈ l.take i ++ new :: l.drop i, x.length = n ∧ x.all AV.one = true := by
    intro x hx'
    simp only [List.mem_append, List.mem_cons] at hx'
    rcases hx' with h1 | rfl | h1
    · exact h.1 x (List.mem_of_mem_take h1)
    · exact ⟨hl, ho⟩
    · exact h.1 x (List.mem_of_mem_drop h1)
  have hlens := h.lens
  have hlen : (l.take i ++ new :: l.drop i).length = l.length + 1 := by simp; omega
  have hones : l.flatten.all AV.one = true := flat_ones fun x hx => (h.1 x hx).2
  have hfl := flat_len hlens
  unfold insH
  simp only [hst, hsz, hw, hz, Option.bind_some, hsrc]
  rw [if_pos ⟨Nat.one_pos, by omega, ho⟩]
  rcases h.2 with ⟨rfl, rfl, sz, ex, rfl⟩ | ⟨b, rfl, rfl, h3⟩
  · have : i = 0 := by simpa using hi
    subst this
    simp only [Int.natCast_zero, if_true]
    unfold appendA
    rw [hsrc]
    simp only [ho, not_true_eq_false, if_false, Nat.one_ne_zero]
    rw [if_pos (by simpa using hb)]
    exact ⟨_, _, rfl, ⟨hall, .inr ⟨m.next, rfl, by simp, by simp [Mem.get_lay]⟩⟩, rfl, Fr.alloc _ _⟩
  · have hxb : xb ≠ b := fun e => hne (by rw [e])
    simp only
    by_cases he : i = l.length
    · subst he
      rw [if_pos rfl, if_pos (.inl trivial)]
      unfold appendA
      rw [hsrc]
      simp only [ho, not_true_eq_false, if_false, true_or, if_true]
      have hld : ldCells m ⟨b, 0⟩ (l.length * n) = some l.flatten := by
        simp only [ldCells, h3]
        rw [if_pos (by omega), List.drop_zero, List.take_of_length_le (by omega)]
      rw [if_neg (by omega), if_pos hb, hld]
      simp only [Bool.false_eq_true, if_false, h3]
      refine ⟨_, _, rfl, ⟨hall, .inr ⟨m.next, rfl, by rw [hlen], ?_⟩⟩, rfl, ((Fr.put m b none).trans (Fr.alloc _ _) (by simp) (by simp))⟩
      simp [Mem.get_lay, List.flatten_append]
    · rw [if_neg (by omega), if_pos ⟨by omega, trivial, trivial, hxb, hn, hw0, hzl, hb, Nat.le_refl _⟩]
      have hld : ldCells m ⟨b, 0⟩ (l.length * n) = some l.flatten := by
        simp only [ldCells, h3]
        rw [if_pos (by omega), List.drop_zero, List.take_of_length_le (by omega)]
      simp only [hx, h3, hld, Option.bind_some, hones, if_true]
      refine ⟨_, _, rfl, ⟨hall, .inr ⟨m.next, rfl, by rw [hlen], ?_⟩⟩, rfl, ((Fr.put m b none).trans (Fr.alloc _ _) (by simp) (by simp))⟩
      rw [Int.toNat_natCast, flat_take i hlens, flat_drop i hlens]
      simp [Mem.get_lay, List.flatten_append]

section lb
variable {κ : Type} {lt : κ → κ → Bool}
def lb (lt : κ → κ → Bool) (k : κ) (ks : List κ) : Nat := (ks.takeWhile (lt · k)).length
def Srt (lt : κ → κ → Bool) (ks : List κ) : Prop := ks.Pairwise fun a b => lt a b = true
theorem lb_le (k : κ) (ks : List κ) : lb lt k ks ≤ ks.length := by
  unfold lb
  have := (List.takeWhile_prefix (p := (lt · k)) (l := ks)).length_le
  exact this
theorem lb_unique {k : κ} : ∀ {ks : List κ} {i : Nat}, i ≤ ks.length → (∀ j (h : j < ks.length), j < i → lt ks[j] k = true) → (∀ (h : i < ks.length), lt ks[i] k = false) → lb lt k ks = i
  | [], i, hi, _, _ => by have : i = 0 := by simpa using hi
                          subst this; rfl
  | a :: ks, 0, _, _, h2 => by
    have := h2 (by simp)
    simp only [List.getElem_cons_zero] at this
    simp [lb, List.takeWhile_cons, this]
  | a :: ks, i + 1, hi, h1, h2 => by
    have h0 := h1 0 (by simp) (by omega)
    simp only [List.getElem_cons_zero] at h0
    have ih := lb_unique (k := k) (ks := ks) (i := i) (by simpa using hi) (fun j h hj => h1 (j + 1) (by simpa using h) (by omega)) (fun h => h2 (by simpa using h))
    unfold lb at ih ⊢
    rw [List.takeWhile_cons, if_pos h0, List.length_cons, ih]
theorem lb_below {k : κ} : ∀ {ks : List κ} {j : Nat} (h : j < ks.length), j < lb lt k ks → lt ks[j] k = true
  | a :: ks, j, h, hj => by
    unfold lb at hj
    rw [List.takeWhile_cons] at hj
    split at hj
    · rename_i ha
      cases j with
      | zero => simpa using ha
      | succ j => simpa using lb_below (k := k) (ks := ks) (j := j) (by simpa using h) (by unfold lb; simpa using hj)
    · simp at hj
theorem lb_at {k : κ} : ∀ {ks : List κ} (h : lb lt k ks < ks.length), lt (ks[lb lt k ks]'h) k = false
  | [], h => by simp at h
  | a :: ks, h => by
    by_cases ha : lt a k = true
    · have e : lb lt k (a :: ks) = lb lt k ks + 1 := by unfold lb; rw [List.takeWhile_cons, if_pos ha]; rfl
      simp only [e, List.getElem_cons_succ]
      exact lb_at (ks := ks) (by rw [e] at h; simpa using h)
    · have e : lb lt k (a :: ks) = 0 := by unfold lb; rw [List.takeWhile_cons, if_neg ha]; rfl
      simp only [e, List.getElem_cons_zero]
      simpa using ha

def hasK [DecidableEq κ] (lt : κ → κ → Bool) (k : κ) (ks : List κ) : Bool := decide (ks[lb lt k ks]? = some k)
def insL {α : Type} (i : Nat) (x : α) (l : List α) : List α := l.take i ++ x :: l.drop i
theorem insL_len {α : Type} {i : Nat} {x : α} {l : List α} (hi : i ≤ l.length) : (insL i x l).length = l.length + 1 := by simp [insL]; omega

theorem srt_lt {ks : List κ} (h : Srt lt ks) {i j : Nat} (hij : i < j) (hj : j < ks.length) : lt (ks[i]'(by omega)) ks[j] = true := List.pairwise_iff_getElem.1 h i j (by omega) hj hij

theorem lb_has [DecidableEq κ] (hir : ∀ a, lt a a = false) {k : κ} {ks : List κ} (hs : Srt lt ks) : hasK lt k ks = decide (k ∈ ks) := by
  unfold hasK
  rw [Bool.eq_iff_iff, decide_eq_true_iff, decide_eq_true_iff]
  constructor
  · intro h; exact List.mem_of_getElem? h
  · intro h
    obtain ⟨i, hi, rfl⟩ := List.mem_iff_getElem.1 h
    have : lb lt ks[i] ks = i := lb_unique (Nat.le_of_lt hi) (fun j h hj => srt_lt hs hj hi) (fun _ => hir _)
    rw [this, List.getElem?_eq_getElem hi]

theorem lb_srt (htr : ∀ a b c, lt a b = true → lt b c = true → lt a c = true) (htot : ∀ a b, lt a b = false → lt b a = false → a = b) {k : κ} {ks : List κ} (hs : Srt lt ks) (hk : k ∉ ks) : Srt lt (insL (lb lt k ks) k ks) := by
  unfold Srt insL
  rw [List.pairwise_append]
  refine ⟨List.Pairwise.sublist (List.take_sublist _ _) hs, ?_, ?_⟩
  · rw [List.pairwise_cons]
    refine ⟨fun a ha => ?_, List.Pairwise.sublist (List.drop_sublist _ _) hs⟩
    obtain ⟨i, hi, rfl⟩ := List.mem_iff_getElem.1 ha
    simp only [List.length_drop] at hi
    rw [List.getElem_drop]
    have hl : lb lt k ks < ks.length := by omega
    have h0 : lt k (ks[lb lt k ks]'hl) = true := by
      cases h : lt k (ks[lb lt k ks]'hl) with
      | true => rfl
      | false => exact absurd (htot _ _ h (lb_at hl)) (fun e => hk (by rw [e]; exact List.getElem_mem hl))
    cases i with
    | zero => simpa using h0
    | succ i => exact htr _ _ _ h0 (srt_lt hs (by omega) (by omega))
  · intro a ha b hb
    obtain ⟨i, hi, rfl⟩ := List.mem_iff_getElem.1 ha
    simp only [List.length_take] at hi
    rw [List.getElem_take]
    have h1 : lt (ks[i]'(by omega)) k = true := lb_below (by omega) (by omega)
    rw [List.mem_cons] at hb
    rcases hb with rfl | hb
    · exact h1
    · obtain ⟨j, hj, rfl⟩ := List.mem_iff_getElem.1 hb
      simp only [List.length_drop] at hj
      rw [List.getElem_drop]
      exact srt_lt hs (by omega) (by omega)
end lb

theorem strLess_irr : ∀ a : List UInt8, strLess a a = false
  | [] => rfl
  | a :: l => by simp [strLess, strLess_irr l]
theorem strLess_tot : ∀ a b : List UInt8, strLess a b = false → strLess b a = false → a = b
  | [], [], _, _ => rfl
  | [], _ :: _, h, _ => by simp [strLess] at h
  | _ :: _, [], _, h => by simp [strLess] at h
  | a :: x, b :: y, h1, h2 => by
    simp only [strLess, Bool.or_eq_false_iff, decide_eq_false_iff_not, Bool.and_eq_false_iff] at h1 h2
    have e : a = b := by
      have := h1.1; have := h2.1
      exact UInt8.le_antisymm (by simpa using h2.1) (by simpa using h1.1)
    subst e
    rw [strLess_tot x y (by simpa using h1.2) (by simpa using h2.2)]
theorem strLess_trans : ∀ a b c : List UInt8, strLess a b = true → strLess b c = true → strLess a c = true
  | _, [], _, h, _ => by simp [strLess] at h
  | _, _ :: _, [], _, h => by simp [strLess] at h
  | [], _ :: _, _ :: _, _, _ => rfl
  | a :: x, b :: y, c :: z, h1, h2 => by
    simp only [strLess, Bool.or_eq_true, Bool.and_eq_true, decide_eq_true_eq] at h1 h2 ⊢
    rcases h1 with h1 | ⟨rfl, h1⟩
    · rcases h2 with h2 | ⟨rfl, h2⟩
      · exact .inl (UInt8.lt_trans h1 h2)
      · exact .inl h1
    · rcases h2 with h2 | ⟨rfl, h2⟩
      · exact .inl h2
      · exact .inr ⟨rfl, strLess_trans x y z h1 h2⟩
def intLess (a b : Int) : Bool := decide (a < b)
theorem intLess_irr (a : Int) : intLess a a = false := by simp [intLess]
theorem intLess_tot (a b : Int) (h : intLess a b = false) (h' : intLess b a = false) : a = b := by simp [intLess] at h h'; omega
theorem intLess_trans (a b c : Int) (h : intLess a b = true) (h' : intLess b c = true) : intLess a c = true := by simp [intLess] at h h' ⊢; omega

section bin
variable {P : Program}
theorem bin_geq (t : TypeId) (k : IntKind) (x y : Int) : binA P .geq t (.int k x) (.int k y) = some (.bool (decide (y ≤ x))) := by simp [binA, intA]
theorem bin_gtr (t : TypeId) (k : IntKind) (x y : Int) : binA P .gtr t (.int k x) (.int k y) = some (.bool (decide (y < x))) := by simp [binA, intA]
theorem bin_lss (t : TypeId) (k : IntKind) (x y : Int) : binA P .lss t (.int k x) (.int k y) = some (.bool (decide (x < y))) := by simp [binA, intA]
theorem bin_leq (t : TypeId) (k : IntKind) (x y : Int) : binA P .leq t (.int k x) (.int k y) = some (.bool (decide (x ≤ y))) := by simp [binA, intA]
theorem bin_eql (t : TypeId) (k : IntKind) (x y : Int) : binA P .eql t (.int k x) (.int k y) = some (.bool (decide (x = y))) := by simp [binA, intA]; rfl
theorem bin_neq (t : TypeId) (k : IntKind) (x y : Int) : binA P .neq t (.int k x) (.int k y) = some (.bool (!decide (x = y))) := by simp [binA, intA, bne]; rfl
theorem bin_add (t : TypeId) (k : IntKind) (x y : Int) : binA P .add t (.int k x) (.int k y) = some (.int k (k.wrap (x + y))) := by simp [binA, intA]
theorem bin_sub (t : TypeId) (k : IntKind) (x y : Int) : binA P .sub t (.int k x) (.int k y) = some (.int k (k.wrap (x - y))) := by simp [binA, intA]
theorem bin_mul (t : TypeId) (k : IntKind) (x y : Int) : binA P .mul t (.int k x) (.int k y) = some (.int k (k.wrap (x * y))) := by simp [binA, intA]
theorem bin_rem (t : TypeId) (k : IntKind) (x y : Int) (h : y ≠ 0) : binA P .rem t (.int k x) (.int k y) = some (.int k (x.tmod y)) := by simp [binA, intA, h]
theorem bin_quo (t : TypeId) (k : IntKind) (x y : Int) (h : y ≠ 0) : binA P .quo t (.int k x) (.int k y) = some (.int k (k.wrap (x.tdiv y))) := by simp [binA, intA, h]
theorem bin_shr (t : TypeId) (k k' : IntKind) (x y : Int) (h : 0 ≤ y) : binA P .shr t (.int k x) (.int k' y) = some (.int k (x.fdiv (2 ^ (min y.toNat k.bits)))) := by
  simp only [binA, shA]; rw [if_neg (by omega)]
theorem bin_slss (t : TypeId) (x y : List UInt8) : binA P .lss t (.str x) (.str y) = some (.bool (strLess x y)) := rfl
theorem beq_dec (x y : List UInt8) : (x == y) = decide (x = y) := by rw [Bool.eq_iff_iff]; simp
theorem bin_seql (t : TypeId) (x y : List UInt8) : binA P .eql t (.str x) (.str y) = some (.bool (decide (x = y))) := by simp only [binA, strA, beq_dec]
theorem bin_sneq (t : TypeId) (x y : List UInt8) : binA P .neq t (.str x) (.str y) = some (.bool (!decide (x = y))) := by simp only [binA, strA, beq_dec]
theorem bin_sgeq (t : TypeId) (x y : List UInt8) : binA P .geq t (.str x) (.str y) = some (.bool (!strLess x y)) := rfl
theorem bin_sadd (t : TypeId) (x y : List UInt8) (h : x.length + y.length ≤ 4611686018427387904) : binA P .add t (.str x) (.str y) = some (.str (x ++ y)) := by simp only [binA, strA]; rw [if_pos h]
end bin
theorem wrap_u64 {x : Int} (h1 : 0 ≤ x) (h2 : x < 18446744073709551616) : IntKind.wrap .u64 x = x := by
  have e : IntKind.wrap .u64 x = x % 18446744073709551616 := by simp [IntKind.wrap, IntKind.bits, IntKind.signed]
  rw [e]; omega
theorem wrap_u64' (x : Int) : IntKind.wrap .u64 x = x % 18446744073709551616 := by simp [IntKind.wrap, IntKind.bits, IntKind.signed]
theorem cells1 {x : AV} (h : x.one = true) : x.cells = some [x] := by cases x <;> first | rfl | (simp [AV.one] at h)

theorem ld1_at {m : Mem} {b o : Nat} {cs : List AV} {ro : Bool} (h : m.get b = some (.cells cs ro)) : ld1 m (.ptr (some ⟨b, o⟩)) = cs[o]? := by simp only [ld1, h]
theorem ldN_at {m : Mem} {b o n : Nat} {cs : List AV} {ro : Bool} (h : m.get b = some (.cells cs ro)) (hl : o + n ≤ cs.length) : ldN m (.ptr (some ⟨b, o⟩)) n = some (.agg ((cs.drop o).take n)) := by simp [ldN, ldCells, h, hl]
theorem stV_at {m : Mem} {b o n : Nat} {cs vs : List AV} {v : AV} (h : m.get b = some (.cells cs false)) (hv : v.cells = some vs) (hn : vs.length = n) (hl : o + n ≤ cs.length) :
    stV m (.ptr (some ⟨b, o⟩)) v n = some (m.put b (some (.cells (cs.take o ++ vs ++ cs.drop (o + n)) false))) := by
  subst hn
  simp only [stV, hv, if_true, stCells, h, if_pos hl]
theorem agg_cells {cs : List AV} (h : cs.all AV.one = true) : (AV.agg cs).cells = some cs := by simp only [AV.cells, h, if_true]
theorem put_self {m : Mem} {b : Nat} {v : Blk} {w : Option Blk} (h : m.get b = some v) : (m.put b w).get b = w := by rw [Mem.get_put, if_pos ⟨rfl, Mem.get_lt h⟩]
theorem put_self' {m : Mem} {b : Nat} {w : Option Blk} (h : b < m.next) : (m.put b w).get b = w := by rw [Mem.get_put, if_pos ⟨rfl, h⟩]
theorem put_ne {m : Mem} {b c : Nat} {w : Option Blk} (h : c ≠ b) : (m.put b w).get c = m.get c := by rw [Mem.get_put, if_neg fun e => h e.1]
theorem lay_self (m : Mem) (v : Blk) : (m.lay v).get m.next = some v := by rw [Mem.get_lay, if_pos rfl]
theorem nth0 (a : AV) (l : List AV) : nth (a :: l) 0 = a := rfl
theorem nth1 (a b : AV) (l : List AV) : nth (a :: b :: l) 1 = b := rfl
theorem nth2 (a b c : AV) (l : List AV) : nth (a :: b :: c :: l) 2 = c := rfl
theorem nth3 (a b c d : AV) (l : List AV) : nth (a :: b :: c :: d :: l) 3 = d := rfl
theorem box_agg {cs : List AV} (h : cs.all AV.one = true) : boxA (.agg cs) = some (.cells cs false, fun b => .ptr (some ⟨b, 0⟩)) := by simp [boxA, agg_cells h]
theorem bs_agg {n : Nat} {zs cs : List AV} (h : cs.all AV.one = true) (hn : cs.length = n) (hz : zs.length = n) : bsA n 1 zs [(0, .agg cs)] = some (.cells cs false, fun b => .sl (some ⟨b, 0⟩) n 1 1 true) := by
  simp [bsA, fillA, agg_cells h, hn, hz]
theorem bs_one1 {x z : AV} (h : x.one = true) : bsA 1 1 [z] [(0, x)] = some (.cells [x] false, fun b => .sl (some ⟨b, 0⟩) 1 1 1 true) := by
  simp [bsA, fillA, cells1 h]
theorem lay_ne {m : Mem} {c : Nat} {v : Blk} (h : c ≠ m.next) : (m.lay v).get c = m.get c := by rw [Mem.get_lay, if_neg h]
end Go.Abs
end
section
namespace Go.Abs
open Go

def tabF (t : Nat) (kb vb : Option Nat) : List Nat := t :: (kb.toList ++ vb.toList)

structure TabAt {κ : Type} (ek : κ → AV) (n : Nat) (m : Mem) (t : Nat) (ks : List κ) (vs : List (List AV)) (most : Int) (F : List Nat) : Prop where
  ex : ∃ sk sv kb vb, m.get t = some (.cells [sk, sv, .int .i64 most] false) ∧ TRow 1 m sk (ks.map fun k => [ek k]) kb ∧ TRow n m sv vs vb ∧ kb ≠ some t ∧ vb ≠ some t ∧ (∀ b, kb = some b → vb ≠ some b) ∧ F = tabF t kb vb
  len : vs.length = ks.length

section
variable {κ : Type} {ek : κ → AV} {n : Nat} {m m' : Mem} {t : Nat} {ks : List κ} {vs : List (List AV)} {most : Int} {F S : List Nat}

theorem TabAt.frame (h : TabAt ek n m t ks vs most F) (hf : Fr m m' S) (hd : ∀ c, c ∈ F → c ∉ S) : TabAt ek n m' t ks vs most F := by
  obtain ⟨⟨sk, sv, kb, vb, h1, h2, h3, h4, h5, h6, rfl⟩, h7⟩ := h
  refine ⟨⟨sk, sv, kb, vb, hf.get h1 (hd _ (by simp [tabF])), h2.frame hf fun b hb => hd _ ?_, h3.frame hf fun b hb => hd _ ?_, h4, h5, h6, rfl⟩, h7⟩
  · subst hb; simp [tabF]
  · subst hb; simp [tabF]
theorem TabAt.lt (h : TabAt ek n m t ks vs most F) : ∀ c, c ∈ F → c < m.next := by
  obtain ⟨⟨sk, sv, kb, vb, h1, h2, h3, _, _, _, rfl⟩, _⟩ := h
  intro c hc
  simp only [tabF, List.mem_cons, List.mem_append, Option.mem_toList] at hc
  rcases hc with rfl | hc | hc
  · exact Mem.get_lt h1
  · have e : kb = some c := hc
    subst e; exact h2.lt
  · have e : vb = some c := hc
    subst e; exact h3.lt
theorem TabAt.mem (h : TabAt ek n m t ks vs most F) : t ∈ F := by
  obtain ⟨⟨sk, sv, kb, vb, _, _, _, _, _, _, rfl⟩, _⟩ := h
  simp [tabF]
theorem TabAt.new (hb : m.get t = some (.cells [.sl none 0 0 0 true, .sl none 0 0 0 true, .int .i64 most] false)) : TabAt ek n m t [] [] most [t] :=
  ⟨⟨_, _, none, none, hb, TRow.nil 1 m 0 true, TRow.nil n m 0 true, by simp, by simp, by simp, rfl⟩, rfl⟩

theorem TabAt.set (h : TabAt ek n m t ks vs most F) {i : Nat} (hi : i < ks.length) {v : List AV} (hv : v.length = n) (ho : v.all AV.one = true) :
    ∃ sk sv b m', m.get t = some (.cells [sk, sv, .int .i64 most] false) ∧ sv = .sl (some ⟨b, 0⟩) n vs.length vs.length false ∧ ixA n vs.length ⟨b, 0⟩ (i : Int) = some (.ptr (some ⟨b, i * n⟩)) ∧ stV m (.ptr (some ⟨b, i * n⟩)) (.agg v) n = some m' ∧ TabAt ek n m' t ks (vs.set i v) most F ∧ Fr m m' F := by
  obtain ⟨⟨sk, sv, kb, vb, h1, h2, h3, h4, h5, h6, rfl⟩, h7⟩ := h
  have hi' : i < vs.length := by omega
  obtain ⟨b, g1, g2, g3, g4, g5⟩ := h3.at hi'
  obtain ⟨b', e1, e2, e3⟩ := h3.st hi' hv ho
  rw [g1] at e1; cases e1
  subst g1
  refine ⟨sk, sv, b, _, h1, g2, g4, ?_, ⟨⟨sk, sv, kb, some b, ?_, ?_, e3, h4, h5, h6, rfl⟩, by simpa using h7⟩, ?_⟩
  · simp only [stV, agg_cells ho, hv, if_true, e2]
  · rw [put_ne (by rintro rfl; exact h5 rfl)]; exact h1
  · exact h2.frame (Fr.put m b _) fun c hc hm => by simp only [List.mem_singleton] at hm; subst hm; exact h6 _ hc rfl
  · exact (Fr.put m b _).mono fun c hc _ => by simp only [List.mem_singleton] at hc; subst hc; simp [tabF]

theorem TabAt.ins {P : Program} {st1 e1 st2 e2 : TypeId} {w1 w2 : Nat} {zs1 zs2 : List AV}
    (hst1 : P.underlying st1 = some (.slice e1)) (hsz1 : szT P e1 = some 1) (hw1 : bytesT P e1 = some w1) (hz1 : zeroA P e1 = some zs1) (hzl1 : zs1.length = 1) (hw01 : 0 < w1)
    (hst2 : P.underlying st2 = some (.slice e2)) (hsz2 : szT P e2 = some n) (hw2 : bytesT P e2 = some w2) (hz2 : zeroA P e2 = some zs2) (hzl2 : zs2.length = n) (hn : 0 < n) (hw02 : 0 < w2)
    (hek : ∀ k, (ek k).one = true) (h : TabAt ek n m t ks vs most F) {i : Nat} (hi : i ≤ ks.length) (hb : ks.length < 4096) (hww : w1 ≤ 4096 ∧ w2 ≤ 4096) {k : κ} {v : List AV} (hv : v.length = n) (ho : v.all AV.one = true) :
    ∃ sk sv sk' m2 sv' m5 F', m.get t = some (.cells [sk, sv, .int .i64 most] false) ∧
      insH P st1 [sk, .int .i64 i, .sl (some ⟨m.next, 0⟩) 1 1 1 true] (m.lay (.cells [ek k] false)) = some (sk', m2) ∧
      stV m2 (.ptr (some ⟨t, 0⟩)) sk' 1 = some (m2.put t (some (.cells [sk', sv, .int .i64 most] false))) ∧
      (m2.put t (some (.cells [sk', sv, .int .i64 most] false))).get t = some (.cells [sk', sv, .int .i64 most] false) ∧
      m2.next = m.next + 2 ∧
      insH P st2 [sv, .int .i64 i, .sl (some ⟨m2.next, 0⟩) n 1 1 true] ((m2.put t (some (.cells [sk', sv, .int .i64 most] false))).lay (.cells v false)) = some (sv', m5) ∧
      stV m5 (.ptr (some ⟨t, 1⟩)) sv' 1 = some (m5.put t (some (.cells [sk', sv', .int .i64 most] false))) ∧
      TabAt ek n (m5.put t (some (.cells [sk', sv', .int .i64 most] false))) t (insL i k ks) (insL i v vs) most F' ∧
      Fr m (m2.put t (some (.cells [sk', sv, .int .i64 most] false))) F ∧
      Fr m (m5.put t (some (.cells [sk', sv', .int .i64 most] false))) F ∧ ∀ c, c ∈ F' → c ∈ F ∨ m.next ≤ c := by
  obtain ⟨⟨sk, sv, kb, vb, h1, h2, h3, h4, h5, h6, rfl⟩, h7⟩ := h
  have htl := Mem.get_lt h1
  have hf1 : Fr m (m.lay (.cells [ek k] false)) [] := Fr.alloc m _
  have hkl : ∀ b, kb = some b → b < m.next := fun b e => by subst e; exact h2.lt
  have hvl : ∀ b, vb = some b → b < m.next := fun b e => by subst e; exact h3.lt
  obtain ⟨sk', m2, a1, a2, a3, a4⟩ := insH_row hst1 hsz1 hw1 hz1 hzl1 Nat.one_pos hw01 (h2.frame hf1 (by simp)) (xb := m.next) (new := [ek k]) (lay_self _ _) rfl (by simp [hek]) (fun e => by have := hkl _ e; omega) (i := i) (by simpa using hi) (by
    simp only [List.length_map]
    calc (ks.length + 1) * w1 ≤ 4096 * 4096 := Nat.mul_le_mul (by omega) hww.1
      _ ≤ maxBytes := by decide)
  have hf2 : Fr m m2 kb.toList := hf1.trans a4 (by simp) (by simp +contextual)
  have ht2 : m2.get t = some (.cells [sk, sv, .int .i64 most] false) := hf2.get h1 (by cases kb with
    | none => simp
    | some c => simp; intro e; exact h4 (by rw [e]))
  have hs1 := stV_at (v := sk') (o := 0) (n := 1) ht2 (cells1 a2.one) rfl (by simp)
  have hs1' : stV m2 (.ptr (some ⟨t, 0⟩)) sk' 1 = some (m2.put t (some (.cells [sk', sv, .int .i64 most] false))) := by simpa using hs1
  have hn2 : m2.next = m.next + 2 := by rw [a3]; rfl
  have hg3 : (m2.put t (some (.cells [sk', sv, .int .i64 most] false))).get t = some (.cells [sk', sv, .int .i64 most] false) := put_self ht2
  have hf3 : Fr m (m2.put t (some (.cells [sk', sv, .int .i64 most] false))) (t :: kb.toList) := (hf2.mono (T := t :: kb.toList) (by simp +contextual)).put' (by simp)
  have hf4 := hf3.lay (.cells v false)
  have hr4 : TRow n ((m2.put t (some (.cells [sk', sv, .int .i64 most] false))).lay (.cells v false)) sv vs vb := h3.frame hf4 (fun b e hm => by
    simp only [List.mem_cons, Option.mem_toList] at hm
    rcases hm with rfl | hm
    · exact h5 e
    · exact h6 b hm e)
  obtain ⟨sv', m5, b1, b2, b3, b4⟩ := insH_row hst2 hsz2 hw2 hz2 hzl2 hn hw02 hr4 (xb := m2.next) (new := v) (by have := lay_self (m2.put t (some (.cells [sk', sv, .int .i64 most] false))) (.cells v false); simpa using this) hv ho (fun e => by have := hvl _ e; omega) (i := i) (by omega) (by
    calc (vs.length + 1) * w2 ≤ 4096 * 4096 := Nat.mul_le_mul (by omega) hww.2
      _ ≤ maxBytes := by decide)
  have hf5 : Fr m m5 (tabF t kb vb) := (hf4.mono (T := tabF t kb vb) (by simp +contextual [tabF])).step b4 (fun c hc => .inl (by simp only [Option.mem_toList] at hc; simp [tabF, hc]))
  have ht5 : m5.get t = some (.cells [sk', sv, .int .i64 most] false) := b4.get (by rw [lay_ne (by simp; omega)]; exact hg3) (by cases vb with
    | none => simp
    | some c => simp; intro e; exact h5 (by rw [e]))
  have hs2 := stV_at (v := sv') (o := 1) (n := 1) ht5 (cells1 b2.one) rfl (by simp)
  have hs2' : stV m5 (.ptr (some ⟨t, 1⟩)) sv' 1 = some (m5.put t (some (.cells [sk', sv', .int .i64 most] false))) := by simpa using hs2
  have hk5 : TRow 1 (m5.put t (some (.cells [sk', sv', .int .i64 most] false))) sk' ((insL i k ks).map fun k => [ek k]) (some (m.next + 1)) := by
    have e : ((insL i k ks).map fun k => [ek k]) = (ks.map fun k => [ek k]).take i ++ [ek k] :: (ks.map fun k => [ek k]).drop i := by simp [insL]
    rw [e]
    have := a2.frame (((((Fr.refl' m2 [t]).put' (b := t) (v := some (.cells [sk', sv, .int .i64 most] false)) (by simp)).lay (.cells v false)).mono (T := t :: vb.toList) (by simp +contextual)).step b4 (fun c hc => .inl (by simp only [Option.mem_toList] at hc; simp [hc]))) (by
      intro b hb hm
      cases hb
      simp only [List.mem_cons, Option.mem_toList] at hm
      rcases hm with hm | hm
      · have : (m.lay (.cells [ek k] false)).next = m.next + 1 := rfl
        omega
      · have := hvl _ hm
        have e9 : (m.lay (.cells [ek k] false)).next = m.next + 1 := rfl
        omega)
    exact this.frame ((Fr.refl' m5 [t]).put' (b := t) (by simp)) (by
      intro b hb hm
      cases hb
      simp only [List.mem_singleton] at hm
      have : (m.lay (.cells [ek k] false)).next = m.next + 1 := rfl
      omega)
  have e9 : ((m2.put t (some (.cells [sk', sv, .int .i64 most] false))).lay (.cells v false)).next = m2.next + 1 := rfl
  refine ⟨sk, sv, sk', m2, sv', m5, tabF t (some (m.next + 1)) (some (m2.next + 1)), h1, a1, hs1', hg3, hn2, b1, hs2', ⟨⟨sk', sv', _, _, put_self ht5, hk5, ?_, ?_, ?_, ?_, rfl⟩, ?_⟩, hf3.mono (by simp +contextual [tabF]), hf5.put' (by simp [tabF]), ?_⟩
  · rw [← e9]
    exact b2.frame ((Fr.refl' m5 [t]).put' (b := t) (by simp)) (by
      intro b hb hm
      cases hb
      simp only [List.mem_singleton] at hm
      omega)
  · simp; omega
  · simp; omega
  · intro b hb e
    simp only [Option.some.injEq] at hb e
    omega
  · rw [insL_len (by omega), insL_len hi, h7]
  · intro c hc
    simp only [tabF, Option.toList_some, List.singleton_append, List.mem_cons, List.not_mem_nil, or_false] at hc
    rcases hc with rfl | rfl | rfl
    · exact .inl (by simp [tabF])
    · exact .inr (by omega)
    · exact .inr (by omega)
end
end Go.Abs
namespace Go.Abs
open Go
theorem TRow.key {κ : Type} {ek : κ → AV} {m : Mem} {s : AV} {ks : List κ} {rb : Option Nat} (h : TRow 1 m s (ks.map fun k => [ek k]) rb) {i : Nat} (hi : i < ks.length) :
    ∃ b, s = .sl (some ⟨b, 0⟩) 1 ks.length ks.length false ∧ ixA 1 ks.length ⟨b, 0⟩ (i : Int) = some (.ptr (some ⟨b, i⟩)) ∧ ld1 m (.ptr (some ⟨b, i⟩)) = some (ek ks[i]) := by
  obtain ⟨b, _, h2, h3, h4, _⟩ := h.at (i := i) (by simpa using hi)
  have e : (ks.map fun k => [ek k]).flatten = ks.map ek := by
    rw [← flat_single (l := ks.map ek), List.map_map]; rfl
  refine ⟨b, by simpa using h2, by simpa using h4, ?_⟩
  rw [ld1_at h3, e, List.getElem?_map, List.getElem?_eq_getElem hi]; rfl
theorem TRow.val {n : Nat} {m : Mem} {s : AV} {vs : List (List AV)} {rb : Option Nat} (h : TRow n m s vs rb) {i : Nat} (hi : i < vs.length) :
    ∃ b, s = .sl (some ⟨b, 0⟩) n vs.length vs.length false ∧ ixA n vs.length ⟨b, 0⟩ (i : Int) = some (.ptr (some ⟨b, i * n⟩)) ∧ ldN m (.ptr (some ⟨b, i * n⟩)) n = some (.agg vs[i]) := by
  obtain ⟨b, _, h2, _, h4, h5⟩ := h.at hi
  exact ⟨b, h2, h4, by simp [ldN, h5]⟩
theorem TRow.klen {κ : Type} {ek : κ → AV} {m : Mem} {s : AV} {ks : List κ} {rb : Option Nat} (h : TRow 1 m s (ks.map fun k => [ek k]) rb) : ∃ a sz cap ex, s = .sl a sz ks.length cap ex := by
  obtain ⟨a, sz, cap, ex, e⟩ := h.len
  exact ⟨a, sz, cap, ex, by simpa using e⟩
theorem ld_all {m : Mem} {b n : Nat} {v : List AV} {ro : Bool} (h : m.get b = some (.cells v ro)) (hv : v.length = n) : ldN m (.ptr (some ⟨b, 0⟩)) n = some (.agg v) := by
  rw [ldN_at h (by omega), List.drop_zero, List.take_of_length_le (by omega)]
theorem st_all {m : Mem} {b n : Nat} {cs v : List AV} (h : m.get b = some (.cells cs false)) (hc : cs.length = n) (hv : v.length = n) (ho : v.all AV.one = true) : stV m (.ptr (some ⟨b, 0⟩)) (.agg v) n = some (m.put b (some (.cells v false))) := by
  rw [stV_at h (agg_cells ho) hv (by omega), List.take_zero, List.nil_append, List.drop_eq_nil_of_le (by omega), List.append_nil]
theorem box_agg1 {cs : List AV} (h : cs.all AV.one = true) : boxA (.agg cs) = some (.cells cs false, fun b => .ptr (some ⟨b, 0⟩)) := box_agg h
def putK {κ : Type} [DecidableEq κ] (lt : κ → κ → Bool) (k : κ) (ks : List κ) (most : Int) : List κ :=
  if hasK lt k ks = true then ks else if (ks.length : Int) < most then insL (lb lt k ks) k ks else ks
def putV {κ α : Type} [DecidableEq κ] (lt : κ → κ → Bool) (k : κ) (ks : List κ) (v : α) (vs : List α) (most : Int) : List α :=
  if hasK lt k ks = true then vs.set (lb lt k ks) v else if (ks.length : Int) < most then insL (lb lt k ks) v vs else vs
theorem lb_end {κ : Type} {lt : κ → κ → Bool} {k : κ} {ks : List κ} (h : ∀ x ∈ ks, lt x k = true) : lb lt k ks = ks.length :=
  lb_unique (Nat.le_refl _) (fun j hj _ => h _ (List.getElem_mem hj)) (fun hj => absurd hj (Nat.lt_irrefl _))
theorem has_end {κ : Type} [DecidableEq κ] {lt : κ → κ → Bool} {k : κ} {ks : List κ} (h : ∀ x ∈ ks, lt x k = true) : hasK lt k ks = false := by
  simp [hasK, lb_end h]
theorem insL_end {α : Type} (x : α) (l : List α) : insL l.length x l = l ++ [x] := by simp [insL]
end Go.Abs
end
section
namespace Go.Abs
open Go

structure Wd where
  hi : Int
  lo : Int
  deriving DecidableEq
def Wd.cells (w : Wd) : List AV := [.int .i64 w.hi, .int .u64 w.lo]
structure PurseV where
  name : List UInt8
  scale : Int
  out : Wd
  deriving DecidableEq
def PurseV.cells (p : PurseV) : List AV := [.str p.name, .int .i64 p.scale, .int .i64 p.out.hi, .int .u64 p.out.lo]
structure PairV where
  x : List UInt8
  y : List UInt8
  rate : Wd
  rscale : Int
  inx : Wd
  outy : Wd
  deriving DecidableEq
def PairV.cells (p : PairV) : List AV := [.str p.x, .str p.y, .int .i64 p.rate.hi, .int .u64 p.rate.lo, .int .i64 p.rscale, .int .i64 p.inx.hi, .int .u64 p.inx.lo, .int .i64 p.outy.hi, .int .u64 p.outy.lo]
def PairV.key (p : PairV) : List UInt8 := p.x ++ p.y
structure AccV where
  id : Int
  coin : List UInt8
  bal : Wd
  deriving DecidableEq
def AccV.cells (a : AccV) : List AV := [.int .u64 a.id, .str a.coin, .int .i64 a.bal.hi, .int .u64 a.bal.lo]
structure LSt where
  purses : List PurseV
  pairs : List PairV
  accs : List AccV
  latest : Int
  most : Int

@[simp] theorem PurseV.cells_len (p : PurseV) : p.cells.length = 4 := rfl
@[simp] theorem PairV.cells_len (p : PairV) : p.cells.length = 9 := rfl
@[simp] theorem AccV.cells_len (p : AccV) : p.cells.length = 4 := rfl
theorem PurseV.cells_one (p : PurseV) : p.cells.all AV.one = true := rfl
theorem PairV.cells_one (p : PairV) : p.cells.all AV.one = true := rfl
theorem AccV.cells_one (p : AccV) : p.cells.all AV.one = true := rfl

def Dj (a b : List Nat) : Prop := ∀ c, c ∈ a → c ∉ b
theorem Dj.symm {a b : List Nat} (h : Dj a b) : Dj b a := fun c h1 h2 => h c h2 h1
theorem Dj.step {a a' b : List Nat} {n : Nat} (h : Dj a b) (ha : ∀ c, c ∈ a' → c ∈ a ∨ n ≤ c) (hb : ∀ c, c ∈ b → c < n) : Dj a' b := fun c h1 h2 => by
  rcases ha c h1 with h3 | h3
  · exact h c h3 h2
  · have := hb c h2; omega

structure LedgerAt (m : Mem) (b : Nat) (st : LSt) (F : List Nat) : Prop where
  ex : ∃ tp tq ta FP FQ FA, m.get b = some (.cells [.int .i64 st.most, .ptr (some ⟨tp, 0⟩), .ptr (some ⟨tq, 0⟩), .ptr (some ⟨ta, 0⟩), .int .u64 st.latest] false) ∧
    TabAt .str 4 m tp (st.purses.map (·.name)) (st.purses.map (·.cells)) 8 FP ∧ TabAt .str 9 m tq (st.pairs.map (·.key)) (st.pairs.map (·.cells)) 64 FQ ∧
    TabAt (.int .u64) 4 m ta (st.accs.map (·.id)) (st.accs.map (·.cells)) st.most FA ∧ b ∉ FP ∧ b ∉ FQ ∧ b ∉ FA ∧ Dj FP FQ ∧ Dj FP FA ∧ Dj FQ FA ∧ F = b :: (FP ++ FQ ++ FA)

section
variable {m m' : Mem} {b : Nat} {st : LSt} {F S : List Nat}
theorem LedgerAt.frame (h : LedgerAt m b st F) (hf : Fr m m' S) (hd : ∀ c, c ∈ F → c ∉ S) : LedgerAt m' b st F := by
  obtain ⟨tp, tq, ta, FP, FQ, FA, h1, h2, h3, h4, h5, h6, h7, h8, h9, h10, rfl⟩ := h.ex
  exact ⟨tp, tq, ta, FP, FQ, FA, hf.get h1 (hd _ (by simp)), h2.frame hf (fun c hc => hd c (by simp [hc])), h3.frame hf (fun c hc => hd c (by simp [hc])), h4.frame hf (fun c hc => hd c (by simp [hc])), h5, h6, h7, h8, h9, h10, rfl⟩
theorem LedgerAt.frame0 (h : LedgerAt m b st F) (hf : Fr m m' []) : LedgerAt m' b st F := h.frame hf (by simp)
theorem LedgerAt.lt (h : LedgerAt m b st F) : ∀ c, c ∈ F → c < m.next := by
  obtain ⟨tp, tq, ta, FP, FQ, FA, h1, h2, h3, h4, h5, h6, h7, h8, h9, h10, rfl⟩ := h.ex
  intro c hc
  simp only [List.mem_cons, List.mem_append] at hc
  rcases hc with rfl | (hc | hc) | hc
  · exact Mem.get_lt h1
  · exact h2.lt c hc
  · exact h3.lt c hc
  · exact h4.lt c hc

theorem LedgerAt.purses {tp tq ta : Nat} {FP FQ FA FP' : List Nat} {ps : List PurseV}
    (h1 : m.get b = some (.cells [.int .i64 st.most, .ptr (some ⟨tp, 0⟩), .ptr (some ⟨tq, 0⟩), .ptr (some ⟨ta, 0⟩), .int .u64 st.latest] false))
    (h2 : TabAt .str 4 m tp (st.purses.map (·.name)) (st.purses.map (·.cells)) 8 FP) (h3 : TabAt .str 9 m tq (st.pairs.map (·.key)) (st.pairs.map (·.cells)) 64 FQ) (h4 : TabAt (.int .u64) 4 m ta (st.accs.map (·.id)) (st.accs.map (·.cells)) st.most FA)
    (h5 : b ∉ FP) (h6 : b ∉ FQ) (h7 : b ∉ FA) (h8 : Dj FP FQ) (h9 : Dj FP FA) (h10 : Dj FQ FA)
    (hf : Fr m m' FP) (ht : TabAt .str 4 m' tp (ps.map (·.name)) (ps.map (·.cells)) 8 FP') (hs : ∀ c, c ∈ FP' → c ∈ FP ∨ m.next ≤ c) :
    ∃ F', LedgerAt m' b { st with purses := ps } F' ∧ Fr m m' (b :: (FP ++ FQ ++ FA)) ∧ ∀ c, c ∈ F' → c ∈ b :: (FP ++ FQ ++ FA) ∨ m.next ≤ c := by
  refine ⟨b :: (FP' ++ FQ ++ FA), ⟨tp, tq, ta, FP', FQ, FA, hf.get h1 h5, ht, h3.frame hf h8.symm, h4.frame hf h9.symm, ?_, h6, h7, h8.step hs h3.lt, h9.step hs h4.lt, h10, rfl⟩, hf.mono (by simp +contextual), ?_⟩
  · intro hb
    rcases hs b hb with h | h
    · exact h5 h
    · have := Mem.get_lt h1; omega
  · intro c hc
    simp only [List.mem_cons, List.mem_append] at hc ⊢
    rcases hc with rfl | (hc | hc) | hc
    · exact .inl (.inl rfl)
    · rcases hs c hc with h | h
      · exact .inl (.inr (.inl (.inl h)))
      · exact .inr h
    · exact .inl (.inr (.inl (.inr hc)))
    · exact .inl (.inr (.inr hc))
theorem LedgerAt.accs {tp tq ta : Nat} {FP FQ FA FA' : List Nat} {az : List AccV}
    (h1 : m.get b = some (.cells [.int .i64 st.most, .ptr (some ⟨tp, 0⟩), .ptr (some ⟨tq, 0⟩), .ptr (some ⟨ta, 0⟩), .int .u64 st.latest] false))
    (h2 : TabAt .str 4 m tp (st.purses.map (·.name)) (st.purses.map (·.cells)) 8 FP) (h3 : TabAt .str 9 m tq (st.pairs.map (·.key)) (st.pairs.map (·.cells)) 64 FQ) (h4 : TabAt (.int .u64) 4 m ta (st.accs.map (·.id)) (st.accs.map (·.cells)) st.most FA)
    (h5 : b ∉ FP) (h6 : b ∉ FQ) (h7 : b ∉ FA) (h8 : Dj FP FQ) (h9 : Dj FP FA) (h10 : Dj FQ FA)
    (hf : Fr m m' FA) (ht : TabAt (.int .u64) 4 m' ta (az.map (·.id)) (az.map (·.cells)) st.most FA') (hs : ∀ c, c ∈ FA' → c ∈ FA ∨ m.next ≤ c) :
    ∃ F', LedgerAt m' b { st with accs := az } F' ∧ Fr m m' (b :: (FP ++ FQ ++ FA)) ∧ ∀ c, c ∈ F' → c ∈ b :: (FP ++ FQ ++ FA) ∨ m.next ≤ c := by
  refine ⟨b :: (FP ++ FQ ++ FA'), ⟨tp, tq, ta, FP, FQ, FA', hf.get h1 h7, h2.frame hf h9, h3.frame hf h10, ht, h5, h6, ?_, h8, (h9.symm.step hs h2.lt).symm, (h10.symm.step hs h3.lt).symm, rfl⟩, hf.mono (by simp +contextual), ?_⟩
  · intro hb
    rcases hs b hb with h | h
    · exact h7 h
    · have := Mem.get_lt h1; omega
  · intro c hc
    simp only [List.mem_cons, List.mem_append] at hc ⊢
    rcases hc with rfl | (hc | hc) | hc
    · exact .inl (.inl rfl)
    · exact .inl (.inr (.inl (.inl hc)))
    · exact .inl (.inr (.inl (.inr hc)))
    · rcases hs c hc with h | h
      · exact .inl (.inr (.inr h))
      · exact .inr h
theorem LedgerAt.pairs {tp tq ta : Nat} {FP FQ FA FQ' : List Nat} {qs : List PairV}
    (h1 : m.get b = some (.cells [.int .i64 st.most, .ptr (some ⟨tp, 0⟩), .ptr (some ⟨tq, 0⟩), .ptr (some ⟨ta, 0⟩), .int .u64 st.latest] false))
    (h2 : TabAt .str 4 m tp (st.purses.map (·.name)) (st.purses.map (·.cells)) 8 FP) (h3 : TabAt .str 9 m tq (st.pairs.map (·.key)) (st.pairs.map (·.cells)) 64 FQ) (h4 : TabAt (.int .u64) 4 m ta (st.accs.map (·.id)) (st.accs.map (·.cells)) st.most FA)
    (h5 : b ∉ FP) (h6 : b ∉ FQ) (h7 : b ∉ FA) (h8 : Dj FP FQ) (h9 : Dj FP FA) (h10 : Dj FQ FA)
    (hf : Fr m m' FQ) (ht : TabAt .str 9 m' tq (qs.map (·.key)) (qs.map (·.cells)) 64 FQ') (hs : ∀ c, c ∈ FQ' → c ∈ FQ ∨ m.next ≤ c) :
    ∃ F', LedgerAt m' b { st with pairs := qs } F' ∧ Fr m m' (b :: (FP ++ FQ ++ FA)) ∧ ∀ c, c ∈ F' → c ∈ b :: (FP ++ FQ ++ FA) ∨ m.next ≤ c := by
  refine ⟨b :: (FP ++ FQ' ++ FA), ⟨tp, tq, ta, FP, FQ', FA, hf.get h1 h6, h2.frame hf h8, ht, h4.frame hf h10.symm, h5, ?_, h7, (h8.symm.step hs h2.lt).symm, h9, h10.step hs h4.lt, rfl⟩, hf.mono (by simp +contextual), ?_⟩
  · intro hb
    rcases hs b hb with h | h
    · exact h6 h
    · have := Mem.get_lt h1; omega
  · intro c hc
    simp only [List.mem_cons, List.mem_append] at hc ⊢
    rcases hc with rfl | (hc | hc) | hc
    · exact .inl (.inl rfl)
    · exact .inl (.inr (.inl (.inl hc)))
    · rcases hs c hc with h | h
      · exact .inl (.inr (.inl (.inr h)))
      · exact .inr h
    · exact .inl (.inr (.inr hc))
end

theorem LedgerAt.latest {m : Mem} {b : Nat} {st : LSt} {tp tq ta : Nat} {FP FQ FA : List Nat} (n : Int)
    (h1 : m.get b = some (.cells [.int .i64 st.most, .ptr (some ⟨tp, 0⟩), .ptr (some ⟨tq, 0⟩), .ptr (some ⟨ta, 0⟩), .int .u64 st.latest] false))
    (h2 : TabAt .str 4 m tp (st.purses.map (·.name)) (st.purses.map (·.cells)) 8 FP) (h3 : TabAt .str 9 m tq (st.pairs.map (·.key)) (st.pairs.map (·.cells)) 64 FQ) (h4 : TabAt (.int .u64) 4 m ta (st.accs.map (·.id)) (st.accs.map (·.cells)) st.most FA)
    (h5 : b ∉ FP) (h6 : b ∉ FQ) (h7 : b ∉ FA) {m' : Mem} (hm : m' = m.put b (some (.cells [.int .i64 st.most, .ptr (some ⟨tp, 0⟩), .ptr (some ⟨tq, 0⟩), .ptr (some ⟨ta, 0⟩), .int .u64 n] false))) :
    stV m (.ptr (some ⟨b, 4⟩)) (.int .u64 n) 1 = some m' ∧ Fr m m' [b] ∧ m'.get b = some (.cells [.int .i64 st.most, .ptr (some ⟨tp, 0⟩), .ptr (some ⟨tq, 0⟩), .ptr (some ⟨ta, 0⟩), .int .u64 n] false) ∧
      TabAt .str 4 m' tp (st.purses.map (·.name)) (st.purses.map (·.cells)) 8 FP ∧ TabAt .str 9 m' tq (st.pairs.map (·.key)) (st.pairs.map (·.cells)) 64 FQ ∧ TabAt (.int .u64) 4 m' ta (st.accs.map (·.id)) (st.accs.map (·.cells)) st.most FA := by
  subst hm
  have hf := Fr.put m b (some (.cells [.int .i64 st.most, .ptr (some ⟨tp, 0⟩), .ptr (some ⟨tq, 0⟩), .ptr (some ⟨ta, 0⟩), .int .u64 n] false))
  refine ⟨?_, hf, put_self h1, h2.frame hf ?_, h3.frame hf ?_, h4.frame hf ?_⟩
  · have := stV_at (v := .int .u64 n) (o := 4) (n := 1) h1 rfl rfl (by simp)
    simpa using this
  · intro c hc hm; simp only [List.mem_singleton] at hm; subst hm; exact h5 hc
  · intro c hc hm; simp only [List.mem_singleton] at hm; subst hm; exact h6 hc
  · intro c hc hm; simp only [List.mem_singleton] at hm; subst hm; exact h7 hc

theorem insL_map {α β : Type} (f : α → β) (i : Nat) (x : α) (l : List α) : (insL i x l).map f = insL i (f x) (l.map f) := by simp [insL]

def nameB (s : List UInt8) : Bool := s.all (fun c => decide (65 ≤ c.toNat) && decide (c.toNat ≤ 90)) && decide (s.length = 3)

def coinF (st : LSt) (name : List UInt8) (scale : Int) : Int × LSt :=
  if nameB name = false then (41, st) else if 18 < scale then (21, st) else if hasK strLess name (st.purses.map (·.name)) = true then (45, st)
  else if 8 ≤ st.purses.length then (2, st) else (0, { st with purses := insL (lb strLess name (st.purses.map (·.name))) ⟨name, scale, ⟨0, 0⟩⟩ st.purses })
def openF (st : LSt) (name : List UInt8) : Int × Int × LSt :=
  if hasK strLess name (st.purses.map (·.name)) = false then (0, 41, st) else if st.most ≤ st.accs.length ∨ 72057594037927935 ≤ st.latest then (0, 2, st)
  else (st.latest + 1, 0, { st with latest := st.latest + 1, accs := st.accs ++ [⟨st.latest + 1, name, ⟨0, 0⟩⟩] })
end Go.Abs
end
section
namespace Go.Abs
open Go

theorem PT.setN_zero (f : Nat) (t : PT) (v : Option Blk) : PT.setN f t 0 v = .node v t.lft t.rgt := by
  cases f with
  | zero => rfl
  | succ f => rw [PT.setN_succ, if_pos rfl]
theorem PT.setN_fuel : ∀ (f g : Nat) (t : PT) (k : Nat) (v : Option Blk), k ≤ f → k ≤ g → PT.setN f t k v = PT.setN g t k v
  | 0, g, t, k, v, h, _ => by
    have : k = 0 := by omega
    subst this; rw [PT.setN_zero, PT.setN_zero]
  | f + 1, 0, t, k, v, _, h => by
    have : k = 0 := by omega
    subst this; rw [PT.setN_zero, PT.setN_zero]
  | f + 1, g + 1, t, k, v, h, h' => by
    rw [PT.setN_succ, PT.setN_succ]
    by_cases h0 : k = 0
    · rw [if_pos h0, if_pos h0]
    · rw [if_neg h0, if_neg h0, PT.setN_fuel f g t.lft (k / 2) v (by omega) (by omega), PT.setN_fuel f g t.rgt (k / 2 - 1) v (by omega) (by omega)]
theorem PT.set_zero (t : PT) (v : Option Blk) : t.set 0 v = .node v t.lft t.rgt := PT.setN_zero 0 t v
theorem PT.set_odd (t : PT) {k : Nat} (h : k % 2 = 1) (v : Option Blk) : t.set k v = .node t.val (t.lft.set (k / 2) v) t.rgt := by
  obtain ⟨j, rfl⟩ : ∃ j, k = j + 1 := ⟨k - 1, by omega⟩
  unfold PT.set
  rw [PT.setN_succ, if_neg (by omega), if_pos h, PT.setN_fuel j ((j + 1) / 2) _ _ _ (by omega) (by omega)]
theorem PT.set_even (t : PT) {k : Nat} (h0 : k ≠ 0) (h : k % 2 ≠ 1) (v : Option Blk) : t.set k v = .node t.val t.lft (t.rgt.set (k / 2 - 1) v) := by
  obtain ⟨j, rfl⟩ : ∃ j, k = j + 1 := ⟨k - 1, by omega⟩
  unfold PT.set
  rw [PT.setN_succ, if_neg (by omega), if_neg h, PT.setN_fuel j ((j + 1) / 2 - 1) _ _ _ (by omega) (by omega)]
theorem PT.lft_node (v : Option Blk) (l r : PT) : (PT.node v l r).lft = l := rfl
theorem PT.rgt_node (v : Option Blk) (l r : PT) : (PT.node v l r).rgt = r := rfl
theorem PT.val_node (v : Option Blk) (l r : PT) : (PT.node v l r).val = v := rfl
theorem PT.set_set (k : Nat) : ∀ (t : PT) (a b : Option Blk), (t.set k a).set k b = t.set k b := by
  induction k using Nat.strongRecOn with
  | _ k ih =>
    intro t a b
    by_cases h0 : k = 0
    · subst h0; rw [PT.set_zero, PT.set_zero, PT.set_zero, PT.lft_node, PT.rgt_node]
    · by_cases h1 : k % 2 = 1
      · rw [PT.set_odd t h1, PT.set_odd _ h1, PT.set_odd t h1, PT.lft_node, PT.rgt_node, PT.val_node, ih (k / 2) (by omega)]
      · rw [PT.set_even t h0 h1, PT.set_even _ h0 h1, PT.set_even t h0 h1, PT.lft_node, PT.rgt_node, PT.val_node, ih (k / 2 - 1) (by omega)]
theorem PT.set_comm (k : Nat) : ∀ (j : Nat) (t : PT) (a b : Option Blk), k ≠ j → (t.set k a).set j b = (t.set j b).set k a := by
  induction k using Nat.strongRecOn with
  | _ k ih =>
    intro j t a b hkj
    by_cases h0 : k = 0
    · subst h0
      have hj : j ≠ 0 := fun e => hkj e.symm
      by_cases h1 : j % 2 = 1
      · simp only [PT.set_zero, PT.set_odd _ h1, PT.lft_node, PT.rgt_node, PT.val_node]
      · simp only [PT.set_zero, PT.set_even _ hj h1, PT.lft_node, PT.rgt_node, PT.val_node]
    · by_cases hj : j = 0
      · subst hj
        by_cases h1 : k % 2 = 1
        · simp only [PT.set_zero, PT.set_odd _ h1, PT.lft_node, PT.rgt_node, PT.val_node]
        · simp only [PT.set_zero, PT.set_even _ h0 h1, PT.lft_node, PT.rgt_node, PT.val_node]
      · by_cases h1 : k % 2 = 1 <;> by_cases h2 : j % 2 = 1
        · simp only [PT.set_odd _ h1, PT.set_odd _ h2, PT.lft_node, PT.rgt_node, PT.val_node]
          rw [ih (k / 2) (by omega) (j / 2) _ _ _ (by omega)]
        · simp only [PT.set_odd _ h1, PT.set_even _ hj h2, PT.lft_node, PT.rgt_node, PT.val_node]
        · simp only [PT.set_even _ h0 h1, PT.set_odd _ h2, PT.lft_node, PT.rgt_node, PT.val_node]
        · simp only [PT.set_even _ h0 h1, PT.set_even _ hj h2, PT.lft_node, PT.rgt_node, PT.val_node]
          rw [ih (k / 2 - 1) (by omega) (j / 2 - 1) _ _ _ (by omega)]

theorem put_lay (m : Mem) (v w : Blk) : (m.lay v).put m.next (some w) = m.lay w := by
  simp only [Mem.put, Mem.lay, PT.set_set]
theorem put_lay_ne {m : Mem} {b : Nat} (h : b ≠ m.next) (v : Blk) (w : Option Blk) : (m.lay v).put b w = (m.put b w).lay v := by
  simp only [Mem.put, Mem.lay]
  rw [PT.set_comm _ _ _ _ _ (fun e => h e.symm)]

theorem ld1_lay (m : Mem) (cs : List AV) (ro : Bool) (b o : Nat) : ld1 (m.lay (.cells cs ro)) (.ptr (some ⟨b, o⟩)) = if b = m.next then cs[o]? else ld1 m (.ptr (some ⟨b, o⟩)) := by
  simp only [ld1, Mem.get_lay]
  by_cases h : b = m.next <;> simp [h]
theorem ldN_lay (m : Mem) (cs : List AV) (ro : Bool) (b o n : Nat) : ldN (m.lay (.cells cs ro)) (.ptr (some ⟨b, o⟩)) n = if b = m.next then (if o + n ≤ cs.length then some (.agg ((cs.drop o).take n)) else none) else ldN m (.ptr (some ⟨b, o⟩)) n := by
  simp only [ldN, ldCells, Mem.get_lay]
  by_cases h : b = m.next
  · simp only [h, if_true]; split <;> simp_all
  · simp [h]
def over (cs : List AV) (o : Nat) (v : AV) (n : Nat) : Option (List AV) :=
  match v.cells with
  | some vs => if vs.length = n then if o + n ≤ cs.length then some (cs.take o ++ vs ++ cs.drop (o + n)) else none else none
  | none => none
theorem stV_lay (m : Mem) (cs : List AV) (b o : Nat) (v : AV) (n : Nat) : stV (m.lay (.cells cs false)) (.ptr (some ⟨b, o⟩)) v n =
    if b = m.next then (over cs o v n).map (fun c => m.lay (.cells c false)) else (stV m (.ptr (some ⟨b, o⟩)) v n).map (fun m' => m'.lay (.cells cs false)) := by
  unfold over
  by_cases h : b = m.next
  · subst h
    simp only [stV, stCells, lay_self, if_true]
    cases hv : v.cells with
    | none => rfl
    | some vs =>
      simp only
      by_cases hn : vs.length = n
      · subst hn
        simp only [if_true]
        by_cases hl : o + vs.length ≤ cs.length
        · simp only [if_pos hl, put_lay, Option.map_some]
        · simp only [if_neg hl, Option.map_none]
      · simp only [if_neg hn, Option.map_none]
  · simp only [stV, stCells, lay_ne h, if_neg h]
    cases hv : v.cells with
    | none => rfl
    | some vs =>
      simp only
      by_cases hn : vs.length = n
      · simp only [if_pos hn]
        cases hg : m.get b with
        | none => rfl
        | some blk =>
          cases blk with
          | cells c ro =>
            cases ro with
            | true => rfl
            | false =>
              simp only
              by_cases hl : o + vs.length ≤ c.length
              · simp only [if_pos hl, put_lay_ne h, Option.map_some]
              · simp only [if_neg hl, Option.map_none]
          | loop _ => rfl
          | map _ => rfl
      · simp only [if_neg hn, Option.map_none]
theorem nn1 (n : Nat) : (n = n + 1) = False := by simp
theorem nn2 (n : Nat) : (n = n + 1 + 1) = False := by simp; omega
theorem nn3 (n : Nat) : (n = n + 1 + 1 + 1) = False := by simp; omega
theorem nn4 (n : Nat) : (n = n + 1 + 1 + 1 + 1) = False := by simp; omega
theorem nn5 (n : Nat) : (n = n + 1 + 1 + 1 + 1 + 1) = False := by simp; omega
theorem nn6 (n : Nat) : (n = n + 1 + 1 + 1 + 1 + 1 + 1) = False := by simp; omega
theorem nn7 (n : Nat) : (n = n + 1 + 1 + 1 + 1 + 1 + 1 + 1) = False := by simp; omega
theorem nn8 (n : Nat) : (n = n + 1 + 1 + 1 + 1 + 1 + 1 + 1 + 1) = False := by simp; omega

def Res (m : Mem) (r : R) (v : AV) : Prop := ∃ m', r = some (v, m') ∧ Fr m m' []
theorem Res.of {m m' : Mem} {v : AV} (h : Fr m m' []) : Res m (some (v, m')) v := ⟨m', rfl, h⟩
theorem Res.eq {m m' : Mem} {v w : AV} (h : Fr m m' []) (e : v = w) : Res m (some (v, m')) w := ⟨m', by rw [e], h⟩
theorem Fr.lays (m m1 : Mem) (v : Blk) (h : Fr m m1 []) : Fr m (m1.lay v) [] := h.lay v

def Wd.ok (w : Wd) : Prop := -9223372036854775808 ≤ w.hi ∧ w.hi < 9223372036854775808 ∧ 0 ≤ w.lo ∧ w.lo < 18446744073709551616
def Wd.val (w : Wd) : Int := w.hi * 18446744073709551616 + w.lo
def Wd.of (n : Int) : Wd := ⟨n / 18446744073709551616, n % 18446744073709551616⟩
def fitsW (n : Int) : Bool := decide (-170141183460469231731687303715884105728 ≤ n) && decide (n < 170141183460469231731687303715884105728)
def Wd.res (n : Int) : Wd × Int := if fitsW n = true then (.of n, 0) else (⟨0, 0⟩, 20)
theorem Wd.of_ok {n : Int} (h : fitsW n = true) : (Wd.of n).ok := by
  simp only [fitsW, Bool.and_eq_true, decide_eq_true_eq] at h
  unfold Wd.ok Wd.of; simp only; omega
theorem Wd.of_val (n : Int) : (Wd.of n).val = n := by unfold Wd.val Wd.of; simp only; omega
theorem Wd.val_fits {w : Wd} (h : w.ok) : fitsW w.val = true := by
  obtain ⟨h1, h2, h3, h4⟩ := h
  unfold fitsW
  rw [Bool.and_eq_true]
  exact ⟨decide_eq_true (by unfold Wd.val; omega), decide_eq_true (by unfold Wd.val; omega)⟩
theorem Wd.ext_val {a b : Wd} (ha : a.ok) (hb : b.ok) (h : a.val = b.val) : a = b := by
  obtain ⟨ah, al⟩ := a
  obtain ⟨bh, bl⟩ := b
  simp only [Wd.ok, Wd.val] at *
  have e1 : ah = bh := by omega
  have e2 : al = bl := by omega
  rw [e1, e2]
theorem Wd.of_of {w : Wd} (h : w.ok) : Wd.of w.val = w := Wd.ext_val (Wd.of_ok (Wd.val_fits h)) h (Wd.of_val _)
theorem wrap_i64_if (x : Int) : IntKind.wrap .i64 x = if x % 18446744073709551616 ≥ 9223372036854775808 then x % 18446744073709551616 - 18446744073709551616 else x % 18446744073709551616 := by
  simp [IntKind.wrap, IntKind.bits, IntKind.signed]
theorem res_ok {hi lo n : Int} (h : fitsW n = true) (hl : 0 ≤ lo ∧ lo < 18446744073709551616) (e : hi * 18446744073709551616 + lo = n) :
    AV.tup [.agg [.int .i64 hi, .int .u64 lo], .int .i64 0] = .tup [.agg (Wd.res n).1.cells, .int .i64 (Wd.res n).2] := by
  have e1 : hi = n / 18446744073709551616 := by omega
  have e2 : lo = n % 18446744073709551616 := by omega
  unfold Wd.res
  rw [if_pos h, e1, e2]; rfl
theorem res_over {n : Int} (h : fitsW n = false) : AV.tup [.agg [.int .i64 0, .int .u64 0], .int .i64 20] = .tup [.agg (Wd.res n).1.cells, .int .i64 (Wd.res n).2] := by
  unfold Wd.res
  rw [h]; rfl
theorem fits_true {n : Int} (h1 : -170141183460469231731687303715884105728 ≤ n) (h2 : n < 170141183460469231731687303715884105728) : fitsW n = true := by
  unfold fitsW; rw [decide_eq_true h1, decide_eq_true h2]; rfl
theorem fits_false {n : Int} (h : n < -170141183460469231731687303715884105728 ∨ 170141183460469231731687303715884105728 ≤ n) : fitsW n = false := by
  unfold fitsW
  rcases h with h | h
  · rw [decide_eq_false (by omega)]; rfl
  · rw [decide_eq_false (show ¬ n < 170141183460469231731687303715884105728 by omega), Bool.and_false]
end Go.Abs
end
