/- The tables, printed by our own program (wip/tools/gen3.lean). -/
import Derived.Test.YtpoafkipnjfioaaGreatT1
import Derived.Test.YtpoafkipnjfioaaGreatT2
import Derived.Test.YtpoafkipnjfioaaGreatT3
import Derived.Test.YtpoafkipnjfioaaGreatT4
import Derived.Test.YtpoafkipnjfioaaGreatT5
import Derived.Test.YtpoafkipnjfioaaGreatT6
import Derived.Test.YtpoafkipnjfioaaGreatT7
import Derived.Test.YtpoafkipnjfioaaGreatT8
namespace Go.Proofs.YtpoafkipnjfioaaGreat.T
open Go Go.Abs Go.Proofs.YtpoafkipnjfioaaGreat
set_option maxRecDepth 10000
noncomputable def tFn : BT (List AV → CM) := (.node 121 f121
(.node 58 f58
(.node 29 f29
(.node 15 f15
(.node 8 f8
(.node 4 f4
(.node 2 f2
.leaf (.node 3 f3
.leaf .leaf)) (.node 6 f6
(.node 5 f5
.leaf .leaf) (.node 7 f7
.leaf .leaf))) (.node 11 f11
(.node 9 f9
.leaf (.node 10 f10
.leaf .leaf)) (.node 13 f13
(.node 12 f12
.leaf .leaf) (.node 14 f14
.leaf .leaf)))) (.node 22 f22
(.node 18 f18
(.node 16 f16
.leaf (.node 17 f17
.leaf .leaf)) (.node 20 f20
(.node 19 f19
.leaf .leaf) (.node 21 f21
.leaf .leaf))) (.node 25 f25
(.node 23 f23
.leaf (.node 24 f24
.leaf .leaf)) (.node 27 f27
(.node 26 f26
.leaf .leaf) (.node 28 f28
.leaf .leaf))))) (.node 43 f43
(.node 36 f36
(.node 32 f32
(.node 30 f30
.leaf (.node 31 f31
.leaf .leaf)) (.node 34 f34
(.node 33 f33
.leaf .leaf) (.node 35 f35
.leaf .leaf))) (.node 39 f39
(.node 37 f37
.leaf (.node 38 f38
.leaf .leaf)) (.node 41 f41
(.node 40 f40
.leaf .leaf) (.node 42 f42
.leaf .leaf)))) (.node 50 f50
(.node 46 f46
(.node 44 f44
.leaf (.node 45 f45
.leaf .leaf)) (.node 48 f48
(.node 47 f47
.leaf .leaf) (.node 49 f49
.leaf .leaf))) (.node 54 f54
(.node 52 f52
(.node 51 f51
.leaf .leaf) (.node 53 f53
.leaf .leaf)) (.node 56 f56
(.node 55 f55
.leaf .leaf) (.node 57 f57
.leaf .leaf)))))) (.node 91 f91
(.node 72 f72
(.node 65 f65
(.node 61 f61
(.node 59 f59
.leaf (.node 60 f60
.leaf .leaf)) (.node 63 f63
(.node 62 f62
.leaf .leaf) (.node 64 f64
.leaf .leaf))) (.node 68 f68
(.node 66 f66
.leaf (.node 67 f67
.leaf .leaf)) (.node 70 f70
(.node 69 f69
.leaf .leaf) (.node 71 f71
.leaf .leaf)))) (.node 79 f79
(.node 75 f75
(.node 73 f73
.leaf (.node 74 f74
.leaf .leaf)) (.node 77 f77
(.node 76 f76
.leaf .leaf) (.node 78 f78
.leaf .leaf))) (.node 83 f83
(.node 81 f81
(.node 80 f80
.leaf .leaf) (.node 82 f82
.leaf .leaf)) (.node 89 f89
(.node 86 f86
.leaf .leaf) (.node 90 f90
.leaf .leaf))))) (.node 106 f106
(.node 99 f99
(.node 94 f94
(.node 92 f92
.leaf (.node 93 f93
.leaf .leaf)) (.node 97 f97
(.node 95 f95
.leaf .leaf) (.node 98 f98
.leaf .leaf))) (.node 102 f102
(.node 100 f100
.leaf (.node 101 f101
.leaf .leaf)) (.node 104 f104
(.node 103 f103
.leaf .leaf) (.node 105 f105
.leaf .leaf)))) (.node 113 f113
(.node 109 f109
(.node 107 f107
.leaf (.node 108 f108
.leaf .leaf)) (.node 111 f111
(.node 110 f110
.leaf .leaf) (.node 112 f112
.leaf .leaf))) (.node 117 f117
(.node 115 f115
(.node 114 f114
.leaf .leaf) (.node 116 f116
.leaf .leaf)) (.node 119 f119
(.node 118 f118
.leaf .leaf) (.node 120 f120
.leaf .leaf))))))) (.node 186 f186
(.node 153 f153
(.node 135 f135
(.node 128 f128
(.node 124 f124
(.node 122 f122
.leaf (.node 123 f123
.leaf .leaf)) (.node 126 f126
(.node 125 f125
.leaf .leaf) (.node 127 f127
.leaf .leaf))) (.node 131 f131
(.node 129 f129
.leaf (.node 130 f130
.leaf .leaf)) (.node 133 f133
(.node 132 f132
.leaf .leaf) (.node 134 f134
.leaf .leaf)))) (.node 142 f142
(.node 138 f138
(.node 136 f136
.leaf (.node 137 f137
.leaf .leaf)) (.node 140 f140
(.node 139 f139
.leaf .leaf) (.node 141 f141
.leaf .leaf))) (.node 147 f147
(.node 143 f143
.leaf (.node 145 f145
.leaf .leaf)) (.node 149 f149
(.node 148 f148
.leaf .leaf) (.node 151 f151
.leaf .leaf))))) (.node 170 f170
(.node 163 f163
(.node 159 f159
(.node 156 f156
.leaf (.node 157 f157
.leaf .leaf)) (.node 161 f161
(.node 160 f160
.leaf .leaf) (.node 162 f162
.leaf .leaf))) (.node 166 f166
(.node 164 f164
.leaf (.node 165 f165
.leaf .leaf)) (.node 168 f168
(.node 167 f167
.leaf .leaf) (.node 169 f169
.leaf .leaf)))) (.node 178 f178
(.node 173 f173
(.node 171 f171
.leaf (.node 172 f172
.leaf .leaf)) (.node 176 f176
(.node 174 f174
.leaf .leaf) (.node 177 f177
.leaf .leaf))) (.node 182 f182
(.node 180 f180
(.node 179 f179
.leaf .leaf) (.node 181 f181
.leaf .leaf)) (.node 184 f184
(.node 183 f183
.leaf .leaf) (.node 185 f185
.leaf .leaf)))))) (.node 215 f215
(.node 200 f200
(.node 193 f193
(.node 189 f189
(.node 187 f187
.leaf (.node 188 f188
.leaf .leaf)) (.node 191 f191
(.node 190 f190
.leaf .leaf) (.node 192 f192
.leaf .leaf))) (.node 196 f196
(.node 194 f194
.leaf (.node 195 f195
.leaf .leaf)) (.node 198 f198
(.node 197 f197
.leaf .leaf) (.node 199 f199
.leaf .leaf)))) (.node 207 f207
(.node 203 f203
(.node 201 f201
.leaf (.node 202 f202
.leaf .leaf)) (.node 205 f205
(.node 204 f204
.leaf .leaf) (.node 206 f206
.leaf .leaf))) (.node 211 f211
(.node 209 f209
(.node 208 f208
.leaf .leaf) (.node 210 f210
.leaf .leaf)) (.node 213 f213
(.node 212 f212
.leaf .leaf) (.node 214 f214
.leaf .leaf))))) (.node 230 f230
(.node 222 f222
(.node 218 f218
(.node 216 f216
.leaf (.node 217 f217
.leaf .leaf)) (.node 220 f220
(.node 219 f219
.leaf .leaf) (.node 221 f221
.leaf .leaf))) (.node 226 f226
(.node 224 f224
.leaf (.node 225 f225
.leaf .leaf)) (.node 228 f228
(.node 227 f227
.leaf .leaf) (.node 229 f229
.leaf .leaf)))) (.node 237 f237
(.node 233 f233
(.node 231 f231
.leaf (.node 232 f232
.leaf .leaf)) (.node 235 f235
(.node 234 f234
.leaf .leaf) (.node 236 f236
.leaf .leaf))) (.node 241 f241
(.node 239 f239
(.node 238 f238
.leaf .leaf) (.node 240 f240
.leaf .leaf)) (.node 243 f243
(.node 242 f242
.leaf .leaf) (.node 244 f244
.leaf .leaf))))))))
noncomputable def tGo : BT (List AV → CM) := (.node 417793 g102_1
(.node 225284 g55_4
(.node 81920 g20_0
(.node 57349 g14_5
(.node 40962 g10_2
(.node 28672 g7_0
(.node 16384 g4_0
(.node 12288 g3_0
.leaf .leaf) (.node 20480 g5_0
.leaf (.node 24576 g6_0
.leaf .leaf))) (.node 36865 g9_1
(.node 32768 g8_0
.leaf (.node 36864 g9_0
.leaf .leaf)) (.node 40960 g10_0
.leaf (.node 40961 g10_1
.leaf .leaf)))) (.node 53249 g13_1
(.node 49154 g12_2
(.node 49152 g12_0
.leaf (.node 49153 g12_1
.leaf .leaf)) (.node 49155 g12_3
.leaf (.node 53248 g13_0
.leaf .leaf))) (.node 57346 g14_2
(.node 57344 g14_0
.leaf (.node 57345 g14_1
.leaf .leaf)) (.node 57347 g14_3
.leaf (.node 57348 g14_4
.leaf .leaf))))) (.node 73732 g18_4
(.node 69634 g17_2
(.node 65536 g16_0
(.node 61440 g15_0
.leaf .leaf) (.node 69632 g17_0
.leaf (.node 69633 g17_1
.leaf .leaf))) (.node 73729 g18_1
(.node 69635 g17_3
.leaf (.node 73728 g18_0
.leaf .leaf)) (.node 73730 g18_2
.leaf (.node 73731 g18_3
.leaf .leaf)))) (.node 77824 g19_0
(.node 73735 g18_7
(.node 73733 g18_5
.leaf (.node 73734 g18_6
.leaf .leaf)) (.node 73736 g18_8
.leaf (.node 73737 g18_9
.leaf .leaf))) (.node 77829 g19_5
(.node 77826 g19_2
.leaf (.node 77827 g19_3
.leaf .leaf)) (.node 77830 g19_6
.leaf (.node 77832 g19_8
.leaf .leaf)))))) (.node 147456 g36_0
(.node 102401 g25_1
(.node 94210 g23_2
(.node 90112 g22_0
(.node 81921 g20_1
.leaf .leaf) (.node 94208 g23_0
.leaf (.node 94209 g23_1
.leaf .leaf))) (.node 94213 g23_5
(.node 94211 g23_3
.leaf (.node 94212 g23_4
.leaf .leaf)) (.node 94214 g23_6
.leaf (.node 102400 g25_0
.leaf .leaf)))) (.node 131073 g32_1
(.node 114688 g28_0
(.node 110592 g27_0
.leaf (.node 110593 g27_1
.leaf .leaf)) (.node 118784 g29_0
.leaf (.node 131072 g32_0
.leaf .leaf))) (.node 139264 g34_0
(.node 131074 g32_2
.leaf (.node 131075 g32_3
.leaf .leaf)) (.node 139265 g34_1
.leaf (.node 143360 g35_0
.leaf .leaf))))) (.node 184320 g45_0
(.node 167936 g41_0
(.node 155648 g38_0
(.node 151552 g37_0
.leaf .leaf) (.node 159744 g39_0
.leaf (.node 163840 g40_0
.leaf .leaf))) (.node 167939 g41_3
(.node 167937 g41_1
.leaf (.node 167938 g41_2
.leaf .leaf)) (.node 172032 g42_0
.leaf (.node 180224 g44_0
.leaf .leaf)))) (.node 221184 g54_0
(.node 208896 g51_0
(.node 188416 g46_0
.leaf (.node 192512 g47_0
.leaf .leaf)) (.node 212992 g52_0
.leaf (.node 217088 g53_0
.leaf .leaf))) (.node 225281 g55_1
(.node 221185 g54_1
.leaf (.node 225280 g55_0
.leaf .leaf)) (.node 225282 g55_2
.leaf (.node 225283 g55_3
.leaf .leaf))))))) (.node 290821 g71_5
(.node 266243 g65_3
(.node 233477 g57_5
(.node 229380 g56_4
(.node 229377 g56_1
(.node 229376 g56_0
.leaf .leaf) (.node 229378 g56_2
.leaf (.node 229379 g56_3
.leaf .leaf))) (.node 233474 g57_2
(.node 233472 g57_0
.leaf (.node 233473 g57_1
.leaf .leaf)) (.node 233475 g57_3
.leaf (.node 233476 g57_4
.leaf .leaf)))) (.node 253952 g62_0
(.node 233480 g57_8
(.node 233478 g57_6
.leaf (.node 233479 g57_7
.leaf .leaf)) (.node 249856 g61_0
.leaf (.node 249857 g61_1
.leaf .leaf))) (.node 266240 g65_0
(.node 262144 g64_0
.leaf (.node 262146 g64_2
.leaf .leaf)) (.node 266241 g65_1
.leaf (.node 266242 g65_2
.leaf .leaf))))) (.node 274437 g67_5
(.node 270337 g66_1
(.node 266245 g65_5
(.node 266244 g65_4
.leaf .leaf) (.node 266246 g65_6
.leaf (.node 270336 g66_0
.leaf .leaf))) (.node 274434 g67_2
(.node 274432 g67_0
.leaf (.node 274433 g67_1
.leaf .leaf)) (.node 274435 g67_3
.leaf (.node 274436 g67_4
.leaf .leaf)))) (.node 286723 g70_3
(.node 286720 g70_0
(.node 278528 g68_0
.leaf (.node 282624 g69_0
.leaf .leaf)) (.node 286721 g70_1
.leaf (.node 286722 g70_2
.leaf .leaf))) (.node 290818 g71_2
(.node 290816 g71_0
.leaf (.node 290817 g71_1
.leaf .leaf)) (.node 290819 g71_3
.leaf (.node 290820 g71_4
.leaf .leaf)))))) (.node 323588 g79_4
(.node 294914 g72_2
(.node 290826 g71_10
(.node 290823 g71_7
(.node 290822 g71_6
.leaf .leaf) (.node 290824 g71_8
.leaf (.node 290825 g71_9
.leaf .leaf))) (.node 290829 g71_13
(.node 290827 g71_11
.leaf (.node 290828 g71_12
.leaf .leaf)) (.node 294912 g72_0
.leaf (.node 294913 g72_1
.leaf .leaf)))) (.node 307200 g75_0
(.node 294917 g72_5
(.node 294915 g72_3
.leaf (.node 294916 g72_4
.leaf .leaf)) (.node 299008 g73_0
.leaf (.node 299010 g73_2
.leaf .leaf))) (.node 323585 g79_1
(.node 315392 g77_0
.leaf (.node 323584 g79_0
.leaf .leaf)) (.node 323586 g79_2
.leaf (.node 323587 g79_3
.leaf .leaf))))) (.node 372736 g91_0
(.node 339970 g83_2
(.node 335872 g82_0
(.node 331776 g81_0
.leaf .leaf) (.node 339968 g83_0
.leaf (.node 339969 g83_1
.leaf .leaf))) (.node 352258 g86_2
(.node 352256 g86_0
.leaf (.node 352257 g86_1
.leaf .leaf)) (.node 364544 g89_0
.leaf (.node 368640 g90_0
.leaf .leaf)))) (.node 401408 g98_0
(.node 397312 g97_0
(.node 376832 g92_0
.leaf (.node 380928 g93_0
.leaf .leaf)) (.node 397313 g97_1
.leaf (.node 397314 g97_2
.leaf .leaf))) (.node 401411 g98_3
(.node 401409 g98_1
.leaf (.node 401410 g98_2
.leaf .leaf)) (.node 405504 g99_0
.leaf (.node 417792 g102_0
.leaf .leaf)))))))) (.node 778240 g190_0
(.node 548866 g134_2
(.node 491532 g120_12
(.node 491520 g120_0
(.node 450560 g110_0
(.node 434176 g106_0
(.node 417794 g102_2
.leaf .leaf) (.node 434177 g106_1
.leaf (.node 434178 g106_2
.leaf .leaf))) (.node 471040 g115_0
(.node 450561 g110_1
.leaf (.node 450562 g110_2
.leaf .leaf)) (.node 479232 g117_0
.leaf (.node 487424 g119_0
.leaf .leaf)))) (.node 491526 g120_6
(.node 491523 g120_3
(.node 491521 g120_1
.leaf (.node 491522 g120_2
.leaf .leaf)) (.node 491524 g120_4
.leaf (.node 491525 g120_5
.leaf .leaf))) (.node 491529 g120_9
(.node 491527 g120_7
.leaf (.node 491528 g120_8
.leaf .leaf)) (.node 491530 g120_10
.leaf (.node 491531 g120_11
.leaf .leaf))))) (.node 516096 g126_0
(.node 503808 g123_0
(.node 491534 g120_14
(.node 491533 g120_13
.leaf .leaf) (.node 491535 g120_15
.leaf (.node 499712 g122_0
.leaf .leaf))) (.node 503811 g123_3
(.node 503809 g123_1
.leaf (.node 503810 g123_2
.leaf .leaf)) (.node 503812 g123_4
.leaf (.node 507904 g124_0
.leaf .leaf)))) (.node 532483 g130_3
(.node 532480 g130_0
(.node 516098 g126_2
.leaf (.node 520192 g127_0
.leaf .leaf)) (.node 532481 g130_1
.leaf (.node 532482 g130_2
.leaf .leaf))) (.node 540672 g132_0
(.node 532484 g130_4
.leaf (.node 532485 g130_5
.leaf .leaf)) (.node 548864 g134_0
.leaf (.node 548865 g134_1
.leaf .leaf)))))) (.node 663552 g162_0
(.node 569345 g139_1
(.node 561152 g137_0
(.node 557056 g136_0
(.node 552960 g135_0
.leaf .leaf) (.node 557057 g136_1
.leaf (.node 557058 g136_2
.leaf .leaf))) (.node 561155 g137_3
(.node 561153 g137_1
.leaf (.node 561154 g137_2
.leaf .leaf)) (.node 561156 g137_4
.leaf (.node 569344 g139_0
.leaf .leaf)))) (.node 655360 g160_0
(.node 569348 g139_4
(.node 569346 g139_2
.leaf (.node 569347 g139_3
.leaf .leaf)) (.node 643072 g157_0
.leaf (.node 643073 g157_1
.leaf .leaf))) (.node 655363 g160_3
(.node 655361 g160_1
.leaf (.node 655362 g160_2
.leaf .leaf)) (.node 655364 g160_4
.leaf (.node 655365 g160_5
.leaf .leaf))))) (.node 720896 g176_0
(.node 688128 g168_0
(.node 671745 g164_1
(.node 671744 g164_0
.leaf .leaf) (.node 671746 g164_2
.leaf (.node 684032 g167_0
.leaf .leaf))) (.node 696322 g170_2
(.node 696320 g170_0
.leaf (.node 696321 g170_1
.leaf .leaf)) (.node 708608 g173_0
.leaf (.node 712704 g174_0
.leaf .leaf)))) (.node 757762 g185_2
(.node 753664 g184_0
(.node 720897 g176_1
.leaf (.node 720898 g176_2
.leaf .leaf)) (.node 757760 g185_0
.leaf (.node 757761 g185_1
.leaf .leaf))) (.node 774144 g189_0
(.node 757763 g185_3
.leaf (.node 757764 g185_4
.leaf .leaf)) (.node 774145 g189_1
.leaf (.node 774146 g189_2
.leaf .leaf))))))) (.node 929792 g227_0
(.node 880643 g215_3
(.node 811010 g198_2
(.node 794626 g194_2
(.node 778242 g190_2
(.node 778241 g190_1
.leaf .leaf) (.node 794624 g194_0
.leaf (.node 794625 g194_1
.leaf .leaf))) (.node 802818 g196_2
(.node 802816 g196_0
.leaf (.node 802817 g196_1
.leaf .leaf)) (.node 811008 g198_0
.leaf (.node 811009 g198_1
.leaf .leaf)))) (.node 839680 g205_0
(.node 819202 g200_2
(.node 819200 g200_0
.leaf (.node 819201 g200_1
.leaf .leaf)) (.node 827392 g202_0
.leaf (.node 835584 g204_0
.leaf .leaf))) (.node 880640 g215_0
(.node 843776 g206_0
.leaf (.node 872448 g213_0
.leaf .leaf)) (.node 880641 g215_1
.leaf (.node 880642 g215_2
.leaf .leaf))))) (.node 901120 g220_0
(.node 892928 g218_0
(.node 888833 g217_1
(.node 888832 g217_0
.leaf .leaf) (.node 888834 g217_2
.leaf (.node 888835 g217_3
.leaf .leaf))) (.node 897026 g219_2
(.node 897024 g219_0
.leaf (.node 897025 g219_1
.leaf .leaf)) (.node 897027 g219_3
.leaf (.node 897028 g219_4
.leaf .leaf)))) (.node 921600 g225_0
(.node 901123 g220_3
(.node 901121 g220_1
.leaf (.node 901122 g220_2
.leaf .leaf)) (.node 901124 g220_4
.leaf (.node 901125 g220_5
.leaf .leaf))) (.node 925697 g226_1
(.node 921601 g225_1
.leaf (.node 925696 g226_0
.leaf .leaf)) (.node 925698 g226_2
.leaf (.node 925699 g226_3
.leaf .leaf)))))) (.node 958469 g234_5
(.node 946178 g231_2
(.node 937988 g229_4
(.node 937985 g229_1
(.node 937984 g229_0
.leaf .leaf) (.node 937986 g229_2
.leaf (.node 937987 g229_3
.leaf .leaf))) (.node 942082 g230_2
(.node 942080 g230_0
.leaf (.node 942081 g230_1
.leaf .leaf)) (.node 946176 g231_0
.leaf (.node 946177 g231_1
.leaf .leaf)))) (.node 954370 g233_2
(.node 950274 g232_2
(.node 950272 g232_0
.leaf (.node 950273 g232_1
.leaf .leaf)) (.node 954368 g233_0
.leaf (.node 954369 g233_1
.leaf .leaf))) (.node 958466 g234_2
(.node 958464 g234_0
.leaf (.node 958465 g234_1
.leaf .leaf)) (.node 958467 g234_3
.leaf (.node 958468 g234_4
.leaf .leaf))))) (.node 966663 g236_7
(.node 966657 g236_1
(.node 962561 g235_1
(.node 962560 g235_0
.leaf .leaf) (.node 962562 g235_2
.leaf (.node 966656 g236_0
.leaf .leaf))) (.node 966660 g236_4
(.node 966658 g236_2
.leaf (.node 966659 g236_3
.leaf .leaf)) (.node 966661 g236_5
.leaf (.node 966662 g236_6
.leaf .leaf)))) (.node 995328 g243_0
(.node 983040 g240_0
(.node 966664 g236_8
.leaf (.node 970752 g237_0
.leaf .leaf)) (.node 983041 g240_1
.leaf (.node 983042 g240_2
.leaf .leaf))) (.node 999424 g244_0
(.node 995329 g243_1
.leaf (.node 995330 g243_2
.leaf .leaf)) (.node 999425 g244_1
.leaf (.node 999426 g244_2
.leaf .leaf)))))))))
noncomputable def tAf : BT ((List AV → CM) × (List AV → CM) × List (Nat × (List AV → CM))) := (.node 77826 (l19_2_none, fun _ => .fail, [])
(.node 77824 (l19_0_none, fun _ => .fail, [])
.leaf (.node 77825 (l19_1_none, fun _ => .fail, [])
.leaf .leaf)) (.node 299008 (l73_0_none, fun _ => .fail, [])
(.node 262144 (l64_0_none, fun _ => .fail, [])
.leaf .leaf) (.node 516096 (l126_0_none, fun _ => .fail, [])
.leaf .leaf)))
noncomputable def T : Tb := ⟨tFn, tGo, tAf⟩
theorem T_ok {H : FuncId → Option (List AV → Mem → R)} (h : ∀ f, (tFn.find f).isSome = true → H f = none) : T.Ok (EH H) Mk Nk := ⟨⟨(f121_ok (h 121 rfl)).le,
⟨(f58_ok (h 58 rfl)).le,
⟨(f29_ok (h 29 rfl)).le,
⟨(f15_ok (h 15 rfl)).le,
⟨(f8_ok (h 8 rfl)).le,
⟨(f4_ok (h 4 rfl)).le,
⟨(f2_ok (h 2 rfl)).le,
 trivial, ⟨(f3_ok (h 3 rfl)).le,
 trivial, trivial⟩⟩, ⟨(f6_ok (h 6 rfl)).le,
⟨(f5_ok (h 5 rfl)).le,
 trivial, trivial⟩, ⟨(f7_ok (h 7 rfl)).le,
 trivial, trivial⟩⟩⟩, ⟨(f11_ok (h 11 rfl)).le,
⟨(f9_ok (h 9 rfl)).le,
 trivial, ⟨(f10_ok (h 10 rfl)).le,
 trivial, trivial⟩⟩, ⟨(f13_ok (h 13 rfl)).le,
⟨(f12_ok (h 12 rfl)).le,
 trivial, trivial⟩, ⟨(f14_ok (h 14 rfl)).le,
 trivial, trivial⟩⟩⟩⟩, ⟨(f22_ok (h 22 rfl)).le,
⟨(f18_ok (h 18 rfl)).le,
⟨(f16_ok (h 16 rfl)).le,
 trivial, ⟨(f17_ok (h 17 rfl)).le,
 trivial, trivial⟩⟩, ⟨(f20_ok (h 20 rfl)).le,
⟨(f19_ok (h 19 rfl)).le,
 trivial, trivial⟩, ⟨(f21_ok (h 21 rfl)).le,
 trivial, trivial⟩⟩⟩, ⟨(f25_ok (h 25 rfl)).le,
⟨(f23_ok (h 23 rfl)).le,
 trivial, ⟨(f24_ok (h 24 rfl)).le,
 trivial, trivial⟩⟩, ⟨(f27_ok (h 27 rfl)).le,
⟨(f26_ok (h 26 rfl)).le,
 trivial, trivial⟩, ⟨(f28_ok (h 28 rfl)).le,
 trivial, trivial⟩⟩⟩⟩⟩, ⟨(f43_ok (h 43 rfl)).le,
⟨(f36_ok (h 36 rfl)).le,
⟨(f32_ok (h 32 rfl)).le,
⟨(f30_ok (h 30 rfl)).le,
 trivial, ⟨(f31_ok (h 31 rfl)).le,
 trivial, trivial⟩⟩, ⟨(f34_ok (h 34 rfl)).le,
⟨(f33_ok (h 33 rfl)).le,
 trivial, trivial⟩, ⟨(f35_ok (h 35 rfl)).le,
 trivial, trivial⟩⟩⟩, ⟨(f39_ok (h 39 rfl)).le,
⟨(f37_ok (h 37 rfl)).le,
 trivial, ⟨(f38_ok (h 38 rfl)).le,
 trivial, trivial⟩⟩, ⟨(f41_ok (h 41 rfl)).le,
⟨(f40_ok (h 40 rfl)).le,
 trivial, trivial⟩, ⟨(f42_ok (h 42 rfl)).le,
 trivial, trivial⟩⟩⟩⟩, ⟨(f50_ok (h 50 rfl)).le,
⟨(f46_ok (h 46 rfl)).le,
⟨(f44_ok (h 44 rfl)).le,
 trivial, ⟨(f45_ok (h 45 rfl)).le,
 trivial, trivial⟩⟩, ⟨(f48_ok (h 48 rfl)).le,
⟨(f47_ok (h 47 rfl)).le,
 trivial, trivial⟩, ⟨(f49_ok (h 49 rfl)).le,
 trivial, trivial⟩⟩⟩, ⟨(f54_ok (h 54 rfl)).le,
⟨(f52_ok (h 52 rfl)).le,
⟨(f51_ok (h 51 rfl)).le,
 trivial, trivial⟩, ⟨(f53_ok (h 53 rfl)).le,
 trivial, trivial⟩⟩, ⟨(f56_ok (h 56 rfl)).le,
⟨(f55_ok (h 55 rfl)).le,
 trivial, trivial⟩, ⟨(f57_ok (h 57 rfl)).le,
 trivial, trivial⟩⟩⟩⟩⟩⟩, ⟨(f91_ok (h 91 rfl)).le,
⟨(f72_ok (h 72 rfl)).le,
⟨(f65_ok (h 65 rfl)).le,
⟨(f61_ok (h 61 rfl)).le,
⟨(f59_ok (h 59 rfl)).le,
 trivial, ⟨(f60_ok (h 60 rfl)).le,
 trivial, trivial⟩⟩, ⟨(f63_ok (h 63 rfl)).le,
⟨(f62_ok (h 62 rfl)).le,
 trivial, trivial⟩, ⟨(f64_ok (h 64 rfl)).le,
 trivial, trivial⟩⟩⟩, ⟨(f68_ok (h 68 rfl)).le,
⟨(f66_ok (h 66 rfl)).le,
 trivial, ⟨(f67_ok (h 67 rfl)).le,
 trivial, trivial⟩⟩, ⟨(f70_ok (h 70 rfl)).le,
⟨(f69_ok (h 69 rfl)).le,
 trivial, trivial⟩, ⟨(f71_ok (h 71 rfl)).le,
 trivial, trivial⟩⟩⟩⟩, ⟨(f79_ok (h 79 rfl)).le,
⟨(f75_ok (h 75 rfl)).le,
⟨(f73_ok (h 73 rfl)).le,
 trivial, ⟨(f74_ok (h 74 rfl)).le,
 trivial, trivial⟩⟩, ⟨(f77_ok (h 77 rfl)).le,
⟨(f76_ok (h 76 rfl)).le,
 trivial, trivial⟩, ⟨(f78_ok (h 78 rfl)).le,
 trivial, trivial⟩⟩⟩, ⟨(f83_ok (h 83 rfl)).le,
⟨(f81_ok (h 81 rfl)).le,
⟨(f80_ok (h 80 rfl)).le,
 trivial, trivial⟩, ⟨(f82_ok (h 82 rfl)).le,
 trivial, trivial⟩⟩, ⟨(f89_ok (h 89 rfl)).le,
⟨(f86_ok (h 86 rfl)).le,
 trivial, trivial⟩, ⟨(f90_ok (h 90 rfl)).le,
 trivial, trivial⟩⟩⟩⟩⟩, ⟨(f106_ok (h 106 rfl)).le,
⟨(f99_ok (h 99 rfl)).le,
⟨(f94_ok (h 94 rfl)).le,
⟨(f92_ok (h 92 rfl)).le,
 trivial, ⟨(f93_ok (h 93 rfl)).le,
 trivial, trivial⟩⟩, ⟨(f97_ok (h 97 rfl)).le,
⟨(f95_ok (h 95 rfl)).le,
 trivial, trivial⟩, ⟨(f98_ok (h 98 rfl)).le,
 trivial, trivial⟩⟩⟩, ⟨(f102_ok (h 102 rfl)).le,
⟨(f100_ok (h 100 rfl)).le,
 trivial, ⟨(f101_ok (h 101 rfl)).le,
 trivial, trivial⟩⟩, ⟨(f104_ok (h 104 rfl)).le,
⟨(f103_ok (h 103 rfl)).le,
 trivial, trivial⟩, ⟨(f105_ok (h 105 rfl)).le,
 trivial, trivial⟩⟩⟩⟩, ⟨(f113_ok (h 113 rfl)).le,
⟨(f109_ok (h 109 rfl)).le,
⟨(f107_ok (h 107 rfl)).le,
 trivial, ⟨(f108_ok (h 108 rfl)).le,
 trivial, trivial⟩⟩, ⟨(f111_ok (h 111 rfl)).le,
⟨(f110_ok (h 110 rfl)).le,
 trivial, trivial⟩, ⟨(f112_ok (h 112 rfl)).le,
 trivial, trivial⟩⟩⟩, ⟨(f117_ok (h 117 rfl)).le,
⟨(f115_ok (h 115 rfl)).le,
⟨(f114_ok (h 114 rfl)).le,
 trivial, trivial⟩, ⟨(f116_ok (h 116 rfl)).le,
 trivial, trivial⟩⟩, ⟨(f119_ok (h 119 rfl)).le,
⟨(f118_ok (h 118 rfl)).le,
 trivial, trivial⟩, ⟨(f120_ok (h 120 rfl)).le,
 trivial, trivial⟩⟩⟩⟩⟩⟩⟩, ⟨(f186_ok (h 186 rfl)).le,
⟨(f153_ok (h 153 rfl)).le,
⟨(f135_ok (h 135 rfl)).le,
⟨(f128_ok (h 128 rfl)).le,
⟨(f124_ok (h 124 rfl)).le,
⟨(f122_ok (h 122 rfl)).le,
 trivial, ⟨(f123_ok (h 123 rfl)).le,
 trivial, trivial⟩⟩, ⟨(f126_ok (h 126 rfl)).le,
⟨(f125_ok (h 125 rfl)).le,
 trivial, trivial⟩, ⟨(f127_ok (h 127 rfl)).le,
 trivial, trivial⟩⟩⟩, ⟨(f131_ok (h 131 rfl)).le,
⟨(f129_ok (h 129 rfl)).le,
 trivial, ⟨(f130_ok (h 130 rfl)).le,
 trivial, trivial⟩⟩, ⟨(f133_ok (h 133 rfl)).le,
⟨(f132_ok (h 132 rfl)).le,
 trivial, trivial⟩, ⟨(f134_ok (h 134 rfl)).le,
 trivial, trivial⟩⟩⟩⟩, ⟨(f142_ok (h 142 rfl)).le,
⟨(f138_ok (h 138 rfl)).le,
⟨(f136_ok (h 136 rfl)).le,
 trivial, ⟨(f137_ok (h 137 rfl)).le,
 trivial, trivial⟩⟩, ⟨(f140_ok (h 140 rfl)).le,
⟨(f139_ok (h 139 rfl)).le,
 trivial, trivial⟩, ⟨(f141_ok (h 141 rfl)).le,
 trivial, trivial⟩⟩⟩, ⟨(f147_ok (h 147 rfl)).le,
⟨(f143_ok (h 143 rfl)).le,
 trivial, ⟨(f145_ok (h 145 rfl)).le,
 trivial, trivial⟩⟩, ⟨(f149_ok (h 149 rfl)).le,
⟨(f148_ok (h 148 rfl)).le,
 trivial, trivial⟩, ⟨(f151_ok (h 151 rfl)).le,
 trivial, trivial⟩⟩⟩⟩⟩, ⟨(f170_ok (h 170 rfl)).le,
⟨(f163_ok (h 163 rfl)).le,
⟨(f159_ok (h 159 rfl)).le,
⟨(f156_ok (h 156 rfl)).le,
 trivial, ⟨(f157_ok (h 157 rfl)).le,
 trivial, trivial⟩⟩, ⟨(f161_ok (h 161 rfl)).le,
⟨(f160_ok (h 160 rfl)).le,
 trivial, trivial⟩, ⟨(f162_ok (h 162 rfl)).le,
 trivial, trivial⟩⟩⟩, ⟨(f166_ok (h 166 rfl)).le,
⟨(f164_ok (h 164 rfl)).le,
 trivial, ⟨(f165_ok (h 165 rfl)).le,
 trivial, trivial⟩⟩, ⟨(f168_ok (h 168 rfl)).le,
⟨(f167_ok (h 167 rfl)).le,
 trivial, trivial⟩, ⟨(f169_ok (h 169 rfl)).le,
 trivial, trivial⟩⟩⟩⟩, ⟨(f178_ok (h 178 rfl)).le,
⟨(f173_ok (h 173 rfl)).le,
⟨(f171_ok (h 171 rfl)).le,
 trivial, ⟨(f172_ok (h 172 rfl)).le,
 trivial, trivial⟩⟩, ⟨(f176_ok (h 176 rfl)).le,
⟨(f174_ok (h 174 rfl)).le,
 trivial, trivial⟩, ⟨(f177_ok (h 177 rfl)).le,
 trivial, trivial⟩⟩⟩, ⟨(f182_ok (h 182 rfl)).le,
⟨(f180_ok (h 180 rfl)).le,
⟨(f179_ok (h 179 rfl)).le,
 trivial, trivial⟩, ⟨(f181_ok (h 181 rfl)).le,
 trivial, trivial⟩⟩, ⟨(f184_ok (h 184 rfl)).le,
⟨(f183_ok (h 183 rfl)).le,
 trivial, trivial⟩, ⟨(f185_ok (h 185 rfl)).le,
 trivial, trivial⟩⟩⟩⟩⟩⟩, ⟨(f215_ok (h 215 rfl)).le,
⟨(f200_ok (h 200 rfl)).le,
⟨(f193_ok (h 193 rfl)).le,
⟨(f189_ok (h 189 rfl)).le,
⟨(f187_ok (h 187 rfl)).le,
 trivial, ⟨(f188_ok (h 188 rfl)).le,
 trivial, trivial⟩⟩, ⟨(f191_ok (h 191 rfl)).le,
⟨(f190_ok (h 190 rfl)).le,
 trivial, trivial⟩, ⟨(f192_ok (h 192 rfl)).le,
 trivial, trivial⟩⟩⟩, ⟨(f196_ok (h 196 rfl)).le,
⟨(f194_ok (h 194 rfl)).le,
 trivial, ⟨(f195_ok (h 195 rfl)).le,
 trivial, trivial⟩⟩, ⟨(f198_ok (h 198 rfl)).le,
⟨(f197_ok (h 197 rfl)).le,
 trivial, trivial⟩, ⟨(f199_ok (h 199 rfl)).le,
 trivial, trivial⟩⟩⟩⟩, ⟨(f207_ok (h 207 rfl)).le,
⟨(f203_ok (h 203 rfl)).le,
⟨(f201_ok (h 201 rfl)).le,
 trivial, ⟨(f202_ok (h 202 rfl)).le,
 trivial, trivial⟩⟩, ⟨(f205_ok (h 205 rfl)).le,
⟨(f204_ok (h 204 rfl)).le,
 trivial, trivial⟩, ⟨(f206_ok (h 206 rfl)).le,
 trivial, trivial⟩⟩⟩, ⟨(f211_ok (h 211 rfl)).le,
⟨(f209_ok (h 209 rfl)).le,
⟨(f208_ok (h 208 rfl)).le,
 trivial, trivial⟩, ⟨(f210_ok (h 210 rfl)).le,
 trivial, trivial⟩⟩, ⟨(f213_ok (h 213 rfl)).le,
⟨(f212_ok (h 212 rfl)).le,
 trivial, trivial⟩, ⟨(f214_ok (h 214 rfl)).le,
 trivial, trivial⟩⟩⟩⟩⟩, ⟨(f230_ok (h 230 rfl)).le,
⟨(f222_ok (h 222 rfl)).le,
⟨(f218_ok (h 218 rfl)).le,
⟨(f216_ok (h 216 rfl)).le,
 trivial, ⟨(f217_ok (h 217 rfl)).le,
 trivial, trivial⟩⟩, ⟨(f220_ok (h 220 rfl)).le,
⟨(f219_ok (h 219 rfl)).le,
 trivial, trivial⟩, ⟨(f221_ok (h 221 rfl)).le,
 trivial, trivial⟩⟩⟩, ⟨(f226_ok (h 226 rfl)).le,
⟨(f224_ok (h 224 rfl)).le,
 trivial, ⟨(f225_ok (h 225 rfl)).le,
 trivial, trivial⟩⟩, ⟨(f228_ok (h 228 rfl)).le,
⟨(f227_ok (h 227 rfl)).le,
 trivial, trivial⟩, ⟨(f229_ok (h 229 rfl)).le,
 trivial, trivial⟩⟩⟩⟩, ⟨(f237_ok (h 237 rfl)).le,
⟨(f233_ok (h 233 rfl)).le,
⟨(f231_ok (h 231 rfl)).le,
 trivial, ⟨(f232_ok (h 232 rfl)).le,
 trivial, trivial⟩⟩, ⟨(f235_ok (h 235 rfl)).le,
⟨(f234_ok (h 234 rfl)).le,
 trivial, trivial⟩, ⟨(f236_ok (h 236 rfl)).le,
 trivial, trivial⟩⟩⟩, ⟨(f241_ok (h 241 rfl)).le,
⟨(f239_ok (h 239 rfl)).le,
⟨(f238_ok (h 238 rfl)).le,
 trivial, trivial⟩, ⟨(f240_ok (h 240 rfl)).le,
 trivial, trivial⟩⟩, ⟨(f243_ok (h 243 rfl)).le,
⟨(f242_ok (h 242 rfl)).le,
 trivial, trivial⟩, ⟨(f244_ok (h 244 rfl)).le,
 trivial, trivial⟩⟩⟩⟩⟩⟩⟩⟩,
⟨g102_1_ok.le,
⟨g55_4_ok.le,
⟨g20_0_ok.le,
⟨g14_5_ok.le,
⟨g10_2_ok.le,
⟨g7_0_ok.le,
⟨g4_0_ok.le,
⟨g3_0_ok.le,
 trivial, trivial⟩, ⟨g5_0_ok.le,
 trivial, ⟨g6_0_ok.le,
 trivial, trivial⟩⟩⟩, ⟨g9_1_ok.le,
⟨g8_0_ok.le,
 trivial, ⟨g9_0_ok.le,
 trivial, trivial⟩⟩, ⟨g10_0_ok.le,
 trivial, ⟨g10_1_ok.le,
 trivial, trivial⟩⟩⟩⟩, ⟨g13_1_ok.le,
⟨g12_2_ok.le,
⟨g12_0_ok.le,
 trivial, ⟨g12_1_ok.le,
 trivial, trivial⟩⟩, ⟨g12_3_ok.le,
 trivial, ⟨g13_0_ok.le,
 trivial, trivial⟩⟩⟩, ⟨g14_2_ok.le,
⟨g14_0_ok.le,
 trivial, ⟨g14_1_ok.le,
 trivial, trivial⟩⟩, ⟨g14_3_ok.le,
 trivial, ⟨g14_4_ok.le,
 trivial, trivial⟩⟩⟩⟩⟩, ⟨g18_4_ok.le,
⟨g17_2_ok.le,
⟨g16_0_ok.le,
⟨g15_0_ok.le,
 trivial, trivial⟩, ⟨g17_0_ok.le,
 trivial, ⟨g17_1_ok.le,
 trivial, trivial⟩⟩⟩, ⟨g18_1_ok.le,
⟨g17_3_ok.le,
 trivial, ⟨g18_0_ok.le,
 trivial, trivial⟩⟩, ⟨g18_2_ok.le,
 trivial, ⟨g18_3_ok.le,
 trivial, trivial⟩⟩⟩⟩, ⟨g19_0_ok.le,
⟨g18_7_ok.le,
⟨g18_5_ok.le,
 trivial, ⟨g18_6_ok.le,
 trivial, trivial⟩⟩, ⟨g18_8_ok.le,
 trivial, ⟨g18_9_ok.le,
 trivial, trivial⟩⟩⟩, ⟨g19_5_ok.le,
⟨g19_2_ok.le,
 trivial, ⟨g19_3_ok.le,
 trivial, trivial⟩⟩, ⟨g19_6_ok.le,
 trivial, ⟨g19_8_ok.le,
 trivial, trivial⟩⟩⟩⟩⟩⟩, ⟨g36_0_ok.le,
⟨g25_1_ok.le,
⟨g23_2_ok.le,
⟨g22_0_ok.le,
⟨g20_1_ok.le,
 trivial, trivial⟩, ⟨g23_0_ok.le,
 trivial, ⟨g23_1_ok.le,
 trivial, trivial⟩⟩⟩, ⟨g23_5_ok.le,
⟨g23_3_ok.le,
 trivial, ⟨g23_4_ok.le,
 trivial, trivial⟩⟩, ⟨g23_6_ok.le,
 trivial, ⟨g25_0_ok.le,
 trivial, trivial⟩⟩⟩⟩, ⟨g32_1_ok.le,
⟨g28_0_ok.le,
⟨g27_0_ok.le,
 trivial, ⟨g27_1_ok.le,
 trivial, trivial⟩⟩, ⟨g29_0_ok.le,
 trivial, ⟨g32_0_ok.le,
 trivial, trivial⟩⟩⟩, ⟨g34_0_ok.le,
⟨g32_2_ok.le,
 trivial, ⟨g32_3_ok.le,
 trivial, trivial⟩⟩, ⟨g34_1_ok.le,
 trivial, ⟨g35_0_ok.le,
 trivial, trivial⟩⟩⟩⟩⟩, ⟨g45_0_ok.le,
⟨g41_0_ok.le,
⟨g38_0_ok.le,
⟨g37_0_ok.le,
 trivial, trivial⟩, ⟨g39_0_ok.le,
 trivial, ⟨g40_0_ok.le,
 trivial, trivial⟩⟩⟩, ⟨g41_3_ok.le,
⟨g41_1_ok.le,
 trivial, ⟨g41_2_ok.le,
 trivial, trivial⟩⟩, ⟨g42_0_ok.le,
 trivial, ⟨g44_0_ok.le,
 trivial, trivial⟩⟩⟩⟩, ⟨g54_0_ok.le,
⟨g51_0_ok.le,
⟨g46_0_ok.le,
 trivial, ⟨g47_0_ok.le,
 trivial, trivial⟩⟩, ⟨g52_0_ok.le,
 trivial, ⟨g53_0_ok.le,
 trivial, trivial⟩⟩⟩, ⟨g55_1_ok.le,
⟨g54_1_ok.le,
 trivial, ⟨g55_0_ok.le,
 trivial, trivial⟩⟩, ⟨g55_2_ok.le,
 trivial, ⟨g55_3_ok.le,
 trivial, trivial⟩⟩⟩⟩⟩⟩⟩, ⟨g71_5_ok.le,
⟨g65_3_ok.le,
⟨g57_5_ok.le,
⟨g56_4_ok.le,
⟨g56_1_ok.le,
⟨g56_0_ok.le,
 trivial, trivial⟩, ⟨g56_2_ok.le,
 trivial, ⟨g56_3_ok.le,
 trivial, trivial⟩⟩⟩, ⟨g57_2_ok.le,
⟨g57_0_ok.le,
 trivial, ⟨g57_1_ok.le,
 trivial, trivial⟩⟩, ⟨g57_3_ok.le,
 trivial, ⟨g57_4_ok.le,
 trivial, trivial⟩⟩⟩⟩, ⟨g62_0_ok.le,
⟨g57_8_ok.le,
⟨g57_6_ok.le,
 trivial, ⟨g57_7_ok.le,
 trivial, trivial⟩⟩, ⟨g61_0_ok.le,
 trivial, ⟨g61_1_ok.le,
 trivial, trivial⟩⟩⟩, ⟨g65_0_ok.le,
⟨g64_0_ok.le,
 trivial, ⟨g64_2_ok.le,
 trivial, trivial⟩⟩, ⟨g65_1_ok.le,
 trivial, ⟨g65_2_ok.le,
 trivial, trivial⟩⟩⟩⟩⟩, ⟨g67_5_ok.le,
⟨g66_1_ok.le,
⟨g65_5_ok.le,
⟨g65_4_ok.le,
 trivial, trivial⟩, ⟨g65_6_ok.le,
 trivial, ⟨g66_0_ok.le,
 trivial, trivial⟩⟩⟩, ⟨g67_2_ok.le,
⟨g67_0_ok.le,
 trivial, ⟨g67_1_ok.le,
 trivial, trivial⟩⟩, ⟨g67_3_ok.le,
 trivial, ⟨g67_4_ok.le,
 trivial, trivial⟩⟩⟩⟩, ⟨g70_3_ok.le,
⟨g70_0_ok.le,
⟨g68_0_ok.le,
 trivial, ⟨g69_0_ok.le,
 trivial, trivial⟩⟩, ⟨g70_1_ok.le,
 trivial, ⟨g70_2_ok.le,
 trivial, trivial⟩⟩⟩, ⟨g71_2_ok.le,
⟨g71_0_ok.le,
 trivial, ⟨g71_1_ok.le,
 trivial, trivial⟩⟩, ⟨g71_3_ok.le,
 trivial, ⟨g71_4_ok.le,
 trivial, trivial⟩⟩⟩⟩⟩⟩, ⟨g79_4_ok.le,
⟨g72_2_ok.le,
⟨g71_10_ok.le,
⟨g71_7_ok.le,
⟨g71_6_ok.le,
 trivial, trivial⟩, ⟨g71_8_ok.le,
 trivial, ⟨g71_9_ok.le,
 trivial, trivial⟩⟩⟩, ⟨g71_13_ok.le,
⟨g71_11_ok.le,
 trivial, ⟨g71_12_ok.le,
 trivial, trivial⟩⟩, ⟨g72_0_ok.le,
 trivial, ⟨g72_1_ok.le,
 trivial, trivial⟩⟩⟩⟩, ⟨g75_0_ok.le,
⟨g72_5_ok.le,
⟨g72_3_ok.le,
 trivial, ⟨g72_4_ok.le,
 trivial, trivial⟩⟩, ⟨g73_0_ok.le,
 trivial, ⟨g73_2_ok.le,
 trivial, trivial⟩⟩⟩, ⟨g79_1_ok.le,
⟨g77_0_ok.le,
 trivial, ⟨g79_0_ok.le,
 trivial, trivial⟩⟩, ⟨g79_2_ok.le,
 trivial, ⟨g79_3_ok.le,
 trivial, trivial⟩⟩⟩⟩⟩, ⟨g91_0_ok.le,
⟨g83_2_ok.le,
⟨g82_0_ok.le,
⟨g81_0_ok.le,
 trivial, trivial⟩, ⟨g83_0_ok.le,
 trivial, ⟨g83_1_ok.le,
 trivial, trivial⟩⟩⟩, ⟨g86_2_ok.le,
⟨g86_0_ok.le,
 trivial, ⟨g86_1_ok.le,
 trivial, trivial⟩⟩, ⟨g89_0_ok.le,
 trivial, ⟨g90_0_ok.le,
 trivial, trivial⟩⟩⟩⟩, ⟨g98_0_ok.le,
⟨g97_0_ok.le,
⟨g92_0_ok.le,
 trivial, ⟨g93_0_ok.le,
 trivial, trivial⟩⟩, ⟨g97_1_ok.le,
 trivial, ⟨g97_2_ok.le,
 trivial, trivial⟩⟩⟩, ⟨g98_3_ok.le,
⟨g98_1_ok.le,
 trivial, ⟨g98_2_ok.le,
 trivial, trivial⟩⟩, ⟨g99_0_ok.le,
 trivial, ⟨g102_0_ok.le,
 trivial, trivial⟩⟩⟩⟩⟩⟩⟩⟩, ⟨g190_0_ok.le,
⟨g134_2_ok.le,
⟨g120_12_ok.le,
⟨g120_0_ok.le,
⟨g110_0_ok.le,
⟨g106_0_ok.le,
⟨g102_2_ok.le,
 trivial, trivial⟩, ⟨g106_1_ok.le,
 trivial, ⟨g106_2_ok.le,
 trivial, trivial⟩⟩⟩, ⟨g115_0_ok.le,
⟨g110_1_ok.le,
 trivial, ⟨g110_2_ok.le,
 trivial, trivial⟩⟩, ⟨g117_0_ok.le,
 trivial, ⟨g119_0_ok.le,
 trivial, trivial⟩⟩⟩⟩, ⟨g120_6_ok.le,
⟨g120_3_ok.le,
⟨g120_1_ok.le,
 trivial, ⟨g120_2_ok.le,
 trivial, trivial⟩⟩, ⟨g120_4_ok.le,
 trivial, ⟨g120_5_ok.le,
 trivial, trivial⟩⟩⟩, ⟨g120_9_ok.le,
⟨g120_7_ok.le,
 trivial, ⟨g120_8_ok.le,
 trivial, trivial⟩⟩, ⟨g120_10_ok.le,
 trivial, ⟨g120_11_ok.le,
 trivial, trivial⟩⟩⟩⟩⟩, ⟨g126_0_ok.le,
⟨g123_0_ok.le,
⟨g120_14_ok.le,
⟨g120_13_ok.le,
 trivial, trivial⟩, ⟨g120_15_ok.le,
 trivial, ⟨g122_0_ok.le,
 trivial, trivial⟩⟩⟩, ⟨g123_3_ok.le,
⟨g123_1_ok.le,
 trivial, ⟨g123_2_ok.le,
 trivial, trivial⟩⟩, ⟨g123_4_ok.le,
 trivial, ⟨g124_0_ok.le,
 trivial, trivial⟩⟩⟩⟩, ⟨g130_3_ok.le,
⟨g130_0_ok.le,
⟨g126_2_ok.le,
 trivial, ⟨g127_0_ok.le,
 trivial, trivial⟩⟩, ⟨g130_1_ok.le,
 trivial, ⟨g130_2_ok.le,
 trivial, trivial⟩⟩⟩, ⟨g132_0_ok.le,
⟨g130_4_ok.le,
 trivial, ⟨g130_5_ok.le,
 trivial, trivial⟩⟩, ⟨g134_0_ok.le,
 trivial, ⟨g134_1_ok.le,
 trivial, trivial⟩⟩⟩⟩⟩⟩, ⟨g162_0_ok.le,
⟨g139_1_ok.le,
⟨g137_0_ok.le,
⟨g136_0_ok.le,
⟨g135_0_ok.le,
 trivial, trivial⟩, ⟨g136_1_ok.le,
 trivial, ⟨g136_2_ok.le,
 trivial, trivial⟩⟩⟩, ⟨g137_3_ok.le,
⟨g137_1_ok.le,
 trivial, ⟨g137_2_ok.le,
 trivial, trivial⟩⟩, ⟨g137_4_ok.le,
 trivial, ⟨g139_0_ok.le,
 trivial, trivial⟩⟩⟩⟩, ⟨g160_0_ok.le,
⟨g139_4_ok.le,
⟨g139_2_ok.le,
 trivial, ⟨g139_3_ok.le,
 trivial, trivial⟩⟩, ⟨g157_0_ok.le,
 trivial, ⟨g157_1_ok.le,
 trivial, trivial⟩⟩⟩, ⟨g160_3_ok.le,
⟨g160_1_ok.le,
 trivial, ⟨g160_2_ok.le,
 trivial, trivial⟩⟩, ⟨g160_4_ok.le,
 trivial, ⟨g160_5_ok.le,
 trivial, trivial⟩⟩⟩⟩⟩, ⟨g176_0_ok.le,
⟨g168_0_ok.le,
⟨g164_1_ok.le,
⟨g164_0_ok.le,
 trivial, trivial⟩, ⟨g164_2_ok.le,
 trivial, ⟨g167_0_ok.le,
 trivial, trivial⟩⟩⟩, ⟨g170_2_ok.le,
⟨g170_0_ok.le,
 trivial, ⟨g170_1_ok.le,
 trivial, trivial⟩⟩, ⟨g173_0_ok.le,
 trivial, ⟨g174_0_ok.le,
 trivial, trivial⟩⟩⟩⟩, ⟨g185_2_ok.le,
⟨g184_0_ok.le,
⟨g176_1_ok.le,
 trivial, ⟨g176_2_ok.le,
 trivial, trivial⟩⟩, ⟨g185_0_ok.le,
 trivial, ⟨g185_1_ok.le,
 trivial, trivial⟩⟩⟩, ⟨g189_0_ok.le,
⟨g185_3_ok.le,
 trivial, ⟨g185_4_ok.le,
 trivial, trivial⟩⟩, ⟨g189_1_ok.le,
 trivial, ⟨g189_2_ok.le,
 trivial, trivial⟩⟩⟩⟩⟩⟩⟩, ⟨g227_0_ok.le,
⟨g215_3_ok.le,
⟨g198_2_ok.le,
⟨g194_2_ok.le,
⟨g190_2_ok.le,
⟨g190_1_ok.le,
 trivial, trivial⟩, ⟨g194_0_ok.le,
 trivial, ⟨g194_1_ok.le,
 trivial, trivial⟩⟩⟩, ⟨g196_2_ok.le,
⟨g196_0_ok.le,
 trivial, ⟨g196_1_ok.le,
 trivial, trivial⟩⟩, ⟨g198_0_ok.le,
 trivial, ⟨g198_1_ok.le,
 trivial, trivial⟩⟩⟩⟩, ⟨g205_0_ok.le,
⟨g200_2_ok.le,
⟨g200_0_ok.le,
 trivial, ⟨g200_1_ok.le,
 trivial, trivial⟩⟩, ⟨g202_0_ok.le,
 trivial, ⟨g204_0_ok.le,
 trivial, trivial⟩⟩⟩, ⟨g215_0_ok.le,
⟨g206_0_ok.le,
 trivial, ⟨g213_0_ok.le,
 trivial, trivial⟩⟩, ⟨g215_1_ok.le,
 trivial, ⟨g215_2_ok.le,
 trivial, trivial⟩⟩⟩⟩⟩, ⟨g220_0_ok.le,
⟨g218_0_ok.le,
⟨g217_1_ok.le,
⟨g217_0_ok.le,
 trivial, trivial⟩, ⟨g217_2_ok.le,
 trivial, ⟨g217_3_ok.le,
 trivial, trivial⟩⟩⟩, ⟨g219_2_ok.le,
⟨g219_0_ok.le,
 trivial, ⟨g219_1_ok.le,
 trivial, trivial⟩⟩, ⟨g219_3_ok.le,
 trivial, ⟨g219_4_ok.le,
 trivial, trivial⟩⟩⟩⟩, ⟨g225_0_ok.le,
⟨g220_3_ok.le,
⟨g220_1_ok.le,
 trivial, ⟨g220_2_ok.le,
 trivial, trivial⟩⟩, ⟨g220_4_ok.le,
 trivial, ⟨g220_5_ok.le,
 trivial, trivial⟩⟩⟩, ⟨g226_1_ok.le,
⟨g225_1_ok.le,
 trivial, ⟨g226_0_ok.le,
 trivial, trivial⟩⟩, ⟨g226_2_ok.le,
 trivial, ⟨g226_3_ok.le,
 trivial, trivial⟩⟩⟩⟩⟩⟩, ⟨g234_5_ok.le,
⟨g231_2_ok.le,
⟨g229_4_ok.le,
⟨g229_1_ok.le,
⟨g229_0_ok.le,
 trivial, trivial⟩, ⟨g229_2_ok.le,
 trivial, ⟨g229_3_ok.le,
 trivial, trivial⟩⟩⟩, ⟨g230_2_ok.le,
⟨g230_0_ok.le,
 trivial, ⟨g230_1_ok.le,
 trivial, trivial⟩⟩, ⟨g231_0_ok.le,
 trivial, ⟨g231_1_ok.le,
 trivial, trivial⟩⟩⟩⟩, ⟨g233_2_ok.le,
⟨g232_2_ok.le,
⟨g232_0_ok.le,
 trivial, ⟨g232_1_ok.le,
 trivial, trivial⟩⟩, ⟨g233_0_ok.le,
 trivial, ⟨g233_1_ok.le,
 trivial, trivial⟩⟩⟩, ⟨g234_2_ok.le,
⟨g234_0_ok.le,
 trivial, ⟨g234_1_ok.le,
 trivial, trivial⟩⟩, ⟨g234_3_ok.le,
 trivial, ⟨g234_4_ok.le,
 trivial, trivial⟩⟩⟩⟩⟩, ⟨g236_7_ok.le,
⟨g236_1_ok.le,
⟨g235_1_ok.le,
⟨g235_0_ok.le,
 trivial, trivial⟩, ⟨g235_2_ok.le,
 trivial, ⟨g236_0_ok.le,
 trivial, trivial⟩⟩⟩, ⟨g236_4_ok.le,
⟨g236_2_ok.le,
 trivial, ⟨g236_3_ok.le,
 trivial, trivial⟩⟩, ⟨g236_5_ok.le,
 trivial, ⟨g236_6_ok.le,
 trivial, trivial⟩⟩⟩⟩, ⟨g243_0_ok.le,
⟨g240_0_ok.le,
⟨g236_8_ok.le,
 trivial, ⟨g237_0_ok.le,
 trivial, trivial⟩⟩, ⟨g240_1_ok.le,
 trivial, ⟨g240_2_ok.le,
 trivial, trivial⟩⟩⟩, ⟨g244_0_ok.le,
⟨g243_1_ok.le,
 trivial, ⟨g243_2_ok.le,
 trivial, trivial⟩⟩, ⟨g244_1_ok.le,
 trivial, ⟨g244_2_ok.le,
 trivial, trivial⟩⟩⟩⟩⟩⟩⟩⟩⟩,
⟨⟨l19_2_none_ok.le, fail_le, all_nil⟩,
⟨⟨l19_0_none_ok.le, fail_le, all_nil⟩,
 trivial, ⟨⟨l19_1_none_ok.le, fail_le, all_nil⟩,
 trivial, trivial⟩⟩, ⟨⟨l73_0_none_ok.le, fail_le, all_nil⟩,
⟨⟨l64_0_none_ok.le, fail_le, all_nil⟩,
 trivial, trivial⟩, ⟨⟨l126_0_none_ok.le, fail_le, all_nil⟩,
 trivial, trivial⟩⟩⟩⟩
end Go.Proofs.YtpoafkipnjfioaaGreat.T
