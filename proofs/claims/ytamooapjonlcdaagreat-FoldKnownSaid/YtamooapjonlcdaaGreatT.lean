/- The tables, printed by our own program (wip/tools/gen3.lean). -/
import Derived.Test.YtamooapjonlcdaaGreatT1
import Derived.Test.YtamooapjonlcdaaGreatT2
import Derived.Test.YtamooapjonlcdaaGreatT3
import Derived.Test.YtamooapjonlcdaaGreatT4
import Derived.Test.YtamooapjonlcdaaGreatT5
import Derived.Test.YtamooapjonlcdaaGreatT6
import Derived.Test.YtamooapjonlcdaaGreatT7
namespace Go.Proofs.YtamooapjonlcdaaGreat.T
open Go Go.Abs Go.Proofs.YtamooapjonlcdaaGreat
set_option maxRecDepth 10000
noncomputable def tFn : BT (List AV → CM) := (.node 110 f110
(.node 52 f52
(.node 26 f26
(.node 13 f13
(.node 7 f7
(.node 4 f4
(.node 2 f2
.leaf (.node 3 f3
.leaf .leaf)) (.node 5 f5
.leaf (.node 6 f6
.leaf .leaf))) (.node 10 f10
(.node 8 f8
.leaf (.node 9 f9
.leaf .leaf)) (.node 11 f11
.leaf (.node 12 f12
.leaf .leaf)))) (.node 19 f19
(.node 16 f16
(.node 14 f14
.leaf (.node 15 f15
.leaf .leaf)) (.node 17 f17
.leaf (.node 18 f18
.leaf .leaf))) (.node 22 f22
(.node 20 f20
.leaf (.node 21 f21
.leaf .leaf)) (.node 24 f24
(.node 23 f23
.leaf .leaf) (.node 25 f25
.leaf .leaf))))) (.node 39 f39
(.node 32 f32
(.node 29 f29
(.node 27 f27
.leaf (.node 28 f28
.leaf .leaf)) (.node 30 f30
.leaf (.node 31 f31
.leaf .leaf))) (.node 35 f35
(.node 33 f33
.leaf (.node 34 f34
.leaf .leaf)) (.node 37 f37
(.node 36 f36
.leaf .leaf) (.node 38 f38
.leaf .leaf)))) (.node 45 f45
(.node 42 f42
(.node 40 f40
.leaf (.node 41 f41
.leaf .leaf)) (.node 43 f43
.leaf (.node 44 f44
.leaf .leaf))) (.node 48 f48
(.node 46 f46
.leaf (.node 47 f47
.leaf .leaf)) (.node 50 f50
(.node 49 f49
.leaf .leaf) (.node 51 f51
.leaf .leaf)))))) (.node 82 f82
(.node 65 f65
(.node 58 f58
(.node 55 f55
(.node 53 f53
.leaf (.node 54 f54
.leaf .leaf)) (.node 56 f56
.leaf (.node 57 f57
.leaf .leaf))) (.node 61 f61
(.node 59 f59
.leaf (.node 60 f60
.leaf .leaf)) (.node 63 f63
(.node 62 f62
.leaf .leaf) (.node 64 f64
.leaf .leaf)))) (.node 71 f71
(.node 68 f68
(.node 66 f66
.leaf (.node 67 f67
.leaf .leaf)) (.node 69 f69
.leaf (.node 70 f70
.leaf .leaf))) (.node 74 f74
(.node 72 f72
.leaf (.node 73 f73
.leaf .leaf)) (.node 76 f76
(.node 75 f75
.leaf .leaf) (.node 79 f79
.leaf .leaf))))) (.node 96 f96
(.node 89 f89
(.node 85 f85
(.node 83 f83
.leaf (.node 84 f84
.leaf .leaf)) (.node 86 f86
.leaf (.node 88 f88
.leaf .leaf))) (.node 92 f92
(.node 90 f90
.leaf (.node 91 f91
.leaf .leaf)) (.node 94 f94
(.node 93 f93
.leaf .leaf) (.node 95 f95
.leaf .leaf)))) (.node 102 f102
(.node 99 f99
(.node 97 f97
.leaf (.node 98 f98
.leaf .leaf)) (.node 100 f100
.leaf (.node 101 f101
.leaf .leaf))) (.node 105 f105
(.node 103 f103
.leaf (.node 104 f104
.leaf .leaf)) (.node 107 f107
(.node 106 f106
.leaf .leaf) (.node 108 f108
.leaf .leaf))))))) (.node 169 f169
(.node 138 f138
(.node 123 f123
(.node 116 f116
(.node 113 f113
(.node 111 f111
.leaf (.node 112 f112
.leaf .leaf)) (.node 114 f114
.leaf (.node 115 f115
.leaf .leaf))) (.node 119 f119
(.node 117 f117
.leaf (.node 118 f118
.leaf .leaf)) (.node 121 f121
(.node 120 f120
.leaf .leaf) (.node 122 f122
.leaf .leaf)))) (.node 129 f129
(.node 126 f126
(.node 124 f124
.leaf (.node 125 f125
.leaf .leaf)) (.node 127 f127
.leaf (.node 128 f128
.leaf .leaf))) (.node 132 f132
(.node 130 f130
.leaf (.node 131 f131
.leaf .leaf)) (.node 134 f134
(.node 133 f133
.leaf .leaf) (.node 136 f136
.leaf .leaf))))) (.node 155 f155
(.node 147 f147
(.node 142 f142
(.node 139 f139
.leaf (.node 140 f140
.leaf .leaf)) (.node 144 f144
.leaf (.node 146 f146
.leaf .leaf))) (.node 151 f151
(.node 149 f149
.leaf (.node 150 f150
.leaf .leaf)) (.node 153 f153
(.node 152 f152
.leaf .leaf) (.node 154 f154
.leaf .leaf)))) (.node 161 f161
(.node 158 f158
(.node 156 f156
.leaf (.node 157 f157
.leaf .leaf)) (.node 159 f159
.leaf (.node 160 f160
.leaf .leaf))) (.node 164 f164
(.node 162 f162
.leaf (.node 163 f163
.leaf .leaf)) (.node 167 f167
(.node 165 f165
.leaf .leaf) (.node 168 f168
.leaf .leaf)))))) (.node 195 f195
(.node 182 f182
(.node 175 f175
(.node 172 f172
(.node 170 f170
.leaf (.node 171 f171
.leaf .leaf)) (.node 173 f173
.leaf (.node 174 f174
.leaf .leaf))) (.node 178 f178
(.node 176 f176
.leaf (.node 177 f177
.leaf .leaf)) (.node 180 f180
(.node 179 f179
.leaf .leaf) (.node 181 f181
.leaf .leaf)))) (.node 188 f188
(.node 185 f185
(.node 183 f183
.leaf (.node 184 f184
.leaf .leaf)) (.node 186 f186
.leaf (.node 187 f187
.leaf .leaf))) (.node 191 f191
(.node 189 f189
.leaf (.node 190 f190
.leaf .leaf)) (.node 193 f193
(.node 192 f192
.leaf .leaf) (.node 194 f194
.leaf .leaf))))) (.node 209 f209
(.node 202 f202
(.node 199 f199
(.node 196 f196
.leaf (.node 197 f197
.leaf .leaf)) (.node 200 f200
.leaf (.node 201 f201
.leaf .leaf))) (.node 205 f205
(.node 203 f203
.leaf (.node 204 f204
.leaf .leaf)) (.node 207 f207
(.node 206 f206
.leaf .leaf) (.node 208 f208
.leaf .leaf)))) (.node 215 f215
(.node 212 f212
(.node 210 f210
.leaf (.node 211 f211
.leaf .leaf)) (.node 213 f213
.leaf (.node 214 f214
.leaf .leaf))) (.node 218 f218
(.node 216 f216
.leaf (.node 217 f217
.leaf .leaf)) (.node 220 f220
(.node 219 f219
.leaf .leaf) (.node 221 f221
.leaf .leaf))))))))
noncomputable def tGo : BT (List AV → CM) := (.node 380932 g93_4
(.node 241666 g59_2
(.node 90119 g22_7
(.node 65536 g16_0
(.node 45056 g11_0
(.node 24576 g6_0
(.node 12289 g3_1
(.node 12288 g3_0
.leaf .leaf) (.node 16384 g4_0
.leaf (.node 20480 g5_0
.leaf .leaf))) (.node 36864 g9_0
(.node 28672 g7_0
.leaf (.node 32768 g8_0
.leaf .leaf)) (.node 40960 g10_0
.leaf (.node 40961 g10_1
.leaf .leaf)))) (.node 57345 g14_1
(.node 53248 g13_0
(.node 45057 g11_1
.leaf (.node 45058 g11_2
.leaf .leaf)) (.node 53249 g13_1
.leaf (.node 57344 g14_0
.leaf .leaf))) (.node 57348 g14_4
(.node 57346 g14_2
.leaf (.node 57347 g14_3
.leaf .leaf)) (.node 57349 g14_5
.leaf (.node 61440 g15_0
.leaf .leaf))))) (.node 81923 g20_3
(.node 73733 g18_5
(.node 73728 g18_0
(.node 69632 g17_0
.leaf .leaf) (.node 73730 g18_2
.leaf (.node 73731 g18_3
.leaf .leaf))) (.node 81920 g20_0
(.node 73734 g18_6
.leaf (.node 73736 g18_8
.leaf .leaf)) (.node 81921 g20_1
.leaf (.node 81922 g20_2
.leaf .leaf)))) (.node 90113 g22_1
(.node 86018 g21_2
(.node 86016 g21_0
.leaf (.node 86017 g21_1
.leaf .leaf)) (.node 86019 g21_3
.leaf (.node 90112 g22_0
.leaf .leaf))) (.node 90116 g22_4
(.node 90114 g22_2
.leaf (.node 90115 g22_3
.leaf .leaf)) (.node 90117 g22_5
.leaf (.node 90118 g22_6
.leaf .leaf)))))) (.node 143363 g35_3
(.node 106501 g26_5
(.node 102400 g25_0
(.node 90121 g22_9
(.node 90120 g22_8
.leaf .leaf) (.node 94208 g23_0
.leaf (.node 94209 g23_1
.leaf .leaf))) (.node 106498 g26_2
(.node 106496 g26_0
.leaf (.node 106497 g26_1
.leaf .leaf)) (.node 106499 g26_3
.leaf (.node 106500 g26_4
.leaf .leaf)))) (.node 131072 g32_0
(.node 114689 g28_1
(.node 106502 g26_6
.leaf (.node 114688 g28_0
.leaf .leaf)) (.node 122880 g30_0
.leaf (.node 126976 g31_0
.leaf .leaf))) (.node 143360 g35_0
(.node 135168 g33_0
.leaf (.node 139264 g34_0
.leaf .leaf)) (.node 143361 g35_1
.leaf (.node 143362 g35_2
.leaf .leaf))))) (.node 204800 g50_0
(.node 167936 g41_0
(.node 155648 g38_0
(.node 147456 g36_0
.leaf .leaf) (.node 159744 g39_0
.leaf (.node 163840 g40_0
.leaf .leaf))) (.node 188416 g46_0
(.node 180224 g44_0
.leaf (.node 184320 g45_0
.leaf .leaf)) (.node 196608 g48_0
.leaf (.node 196609 g48_1
.leaf .leaf)))) (.node 237569 g58_1
(.node 217088 g53_0
(.node 208896 g51_0
.leaf (.node 208897 g51_1
.leaf .leaf)) (.node 233472 g57_0
.leaf (.node 237568 g58_0
.leaf .leaf))) (.node 237572 g58_4
(.node 237570 g58_2
.leaf (.node 237571 g58_3
.leaf .leaf)) (.node 241664 g59_0
.leaf (.node 241665 g59_1
.leaf .leaf))))))) (.node 299015 g73_7
(.node 270341 g66_5
(.node 245768 g60_8
(.node 245762 g60_2
(.node 241668 g59_4
(.node 241667 g59_3
.leaf .leaf) (.node 245760 g60_0
.leaf (.node 245761 g60_1
.leaf .leaf))) (.node 245765 g60_5
(.node 245763 g60_3
.leaf (.node 245764 g60_4
.leaf .leaf)) (.node 245766 g60_6
.leaf (.node 245767 g60_7
.leaf .leaf)))) (.node 266242 g65_2
(.node 253952 g62_0
(.node 249856 g61_0
.leaf (.node 249857 g61_1
.leaf .leaf)) (.node 258048 g63_0
.leaf (.node 266240 g65_0
.leaf .leaf))) (.node 270338 g66_2
(.node 270336 g66_0
.leaf (.node 270337 g66_1
.leaf .leaf)) (.node 270339 g66_3
.leaf (.node 270340 g66_4
.leaf .leaf))))) (.node 286720 g70_0
(.node 278529 g68_1
(.node 274432 g67_0
(.node 270342 g66_6
.leaf .leaf) (.node 274433 g67_1
.leaf (.node 278528 g68_0
.leaf .leaf))) (.node 278532 g68_4
(.node 278530 g68_2
.leaf (.node 278531 g68_3
.leaf .leaf)) (.node 278533 g68_5
.leaf (.node 282624 g69_0
.leaf .leaf)))) (.node 299009 g73_1
(.node 294914 g72_2
(.node 294912 g72_0
.leaf (.node 294913 g72_1
.leaf .leaf)) (.node 294915 g72_3
.leaf (.node 299008 g73_0
.leaf .leaf))) (.node 299012 g73_4
(.node 299010 g73_2
.leaf (.node 299011 g73_3
.leaf .leaf)) (.node 299013 g73_5
.leaf (.node 299014 g73_6
.leaf .leaf)))))) (.node 344064 g84_0
(.node 303108 g74_4
(.node 299020 g73_12
(.node 299017 g73_9
(.node 299016 g73_8
.leaf .leaf) (.node 299018 g73_10
.leaf (.node 299019 g73_11
.leaf .leaf))) (.node 303105 g74_1
(.node 299021 g73_13
.leaf (.node 303104 g74_0
.leaf .leaf)) (.node 303106 g74_2
.leaf (.node 303107 g74_3
.leaf .leaf)))) (.node 311298 g76_2
(.node 307202 g75_2
(.node 303109 g74_5
.leaf (.node 307200 g75_0
.leaf .leaf)) (.node 311296 g76_0
.leaf (.node 311297 g76_1
.leaf .leaf))) (.node 323586 g79_2
(.node 323584 g79_0
.leaf (.node 323585 g79_1
.leaf .leaf)) (.node 335872 g82_0
.leaf (.node 339968 g83_0
.leaf .leaf))))) (.node 372736 g91_0
(.node 368641 g90_1
(.node 364545 g89_1
(.node 360448 g88_0
.leaf (.node 364544 g89_0
.leaf .leaf)) (.node 364546 g89_2
.leaf (.node 368640 g90_0
.leaf .leaf))) (.node 368644 g90_4
(.node 368642 g90_2
.leaf (.node 368643 g90_3
.leaf .leaf)) (.node 368645 g90_5
.leaf (.node 368646 g90_6
.leaf .leaf)))) (.node 376834 g92_2
(.node 372739 g91_3
(.node 372737 g91_1
.leaf (.node 372738 g91_2
.leaf .leaf)) (.node 376832 g92_0
.leaf (.node 376833 g92_1
.leaf .leaf))) (.node 380929 g93_1
(.node 376835 g92_3
.leaf (.node 380928 g93_0
.leaf .leaf)) (.node 380930 g93_2
.leaf (.node 380931 g93_3
.leaf .leaf)))))))) (.node 692224 g169_0
(.node 503808 g123_0
(.node 450562 g110_2
(.node 393222 g96_6
(.node 393216 g96_0
(.node 385025 g94_1
(.node 385024 g94_0
.leaf .leaf) (.node 385026 g94_2
.leaf (.node 385027 g94_3
.leaf .leaf))) (.node 393219 g96_3
(.node 393217 g96_1
.leaf (.node 393218 g96_2
.leaf .leaf)) (.node 393220 g96_4
.leaf (.node 393221 g96_5
.leaf .leaf)))) (.node 417794 g102_2
(.node 401410 g98_2
(.node 401408 g98_0
.leaf (.node 401409 g98_1
.leaf .leaf)) (.node 417792 g102_0
.leaf (.node 417793 g102_1
.leaf .leaf))) (.node 434178 g106_2
(.node 434176 g106_0
.leaf (.node 434177 g106_1
.leaf .leaf)) (.node 450560 g110_0
.leaf (.node 450561 g110_1
.leaf .leaf))))) (.node 491525 g120_5
(.node 487424 g119_0
(.node 454656 g111_0
(.node 450563 g110_3
.leaf .leaf) (.node 471040 g115_0
.leaf (.node 479232 g117_0
.leaf .leaf))) (.node 491522 g120_2
(.node 491520 g120_0
.leaf (.node 491521 g120_1
.leaf .leaf)) (.node 491523 g120_3
.leaf (.node 491524 g120_4
.leaf .leaf)))) (.node 491531 g120_11
(.node 491528 g120_8
(.node 491526 g120_6
.leaf (.node 491527 g120_7
.leaf .leaf)) (.node 491529 g120_9
.leaf (.node 491530 g120_10
.leaf .leaf))) (.node 491534 g120_14
(.node 491532 g120_12
.leaf (.node 491533 g120_13
.leaf .leaf)) (.node 491535 g120_15
.leaf (.node 499712 g122_0
.leaf .leaf)))))) (.node 614401 g150_1
(.node 524290 g128_2
(.node 507904 g124_0
(.node 503810 g123_2
(.node 503809 g123_1
.leaf .leaf) (.node 503811 g123_3
.leaf (.node 503812 g123_4
.leaf .leaf))) (.node 520192 g127_0
(.node 516096 g126_0
.leaf (.node 516098 g126_2
.leaf .leaf)) (.node 524288 g128_0
.leaf (.node 524289 g128_1
.leaf .leaf)))) (.node 536579 g131_3
(.node 536576 g131_0
(.node 524291 g128_3
.leaf (.node 524292 g128_4
.leaf .leaf)) (.node 536577 g131_1
.leaf (.node 536578 g131_2
.leaf .leaf))) (.node 602112 g147_0
(.node 536580 g131_4
.leaf (.node 536581 g131_5
.leaf .leaf)) (.node 602113 g147_1
.leaf (.node 614400 g150_0
.leaf .leaf))))) (.node 634882 g155_2
(.node 626688 g153_0
(.node 614404 g150_4
(.node 614402 g150_2
.leaf (.node 614403 g150_3
.leaf .leaf)) (.node 614405 g150_5
.leaf (.node 622592 g152_0
.leaf .leaf))) (.node 626691 g153_3
(.node 626689 g153_1
.leaf (.node 626690 g153_2
.leaf .leaf)) (.node 634880 g155_0
.leaf (.node 634881 g155_1
.leaf .leaf)))) (.node 671744 g164_0
(.node 659456 g161_0
(.node 647168 g158_0
.leaf (.node 651264 g159_0
.leaf .leaf)) (.node 659457 g161_1
.leaf (.node 659458 g161_2
.leaf .leaf))) (.node 684033 g167_1
(.node 675840 g165_0
.leaf (.node 684032 g167_0
.leaf .leaf)) (.node 684034 g167_2
.leaf (.node 688128 g168_0
.leaf .leaf))))))) (.node 835587 g204_3
(.node 786433 g192_1
(.node 737280 g180_0
(.node 696322 g170_2
(.node 692226 g169_2
(.node 692225 g169_1
.leaf .leaf) (.node 696320 g170_0
.leaf (.node 696321 g170_1
.leaf .leaf))) (.node 704512 g172_0
(.node 696323 g170_3
.leaf (.node 696324 g170_4
.leaf .leaf)) (.node 704513 g172_1
.leaf (.node 704514 g172_2
.leaf .leaf)))) (.node 770048 g188_0
(.node 741378 g181_2
(.node 741376 g181_0
.leaf (.node 741377 g181_1
.leaf .leaf)) (.node 741379 g181_3
.leaf (.node 741380 g181_4
.leaf .leaf))) (.node 778242 g190_2
(.node 778240 g190_0
.leaf (.node 778241 g190_1
.leaf .leaf)) (.node 778243 g190_3
.leaf (.node 786432 g192_0
.leaf .leaf))))) (.node 798722 g195_2
(.node 794625 g194_1
(.node 786435 g192_3
(.node 786434 g192_2
.leaf .leaf) (.node 790528 g193_0
.leaf (.node 794624 g194_0
.leaf .leaf))) (.node 794628 g194_4
(.node 794626 g194_2
.leaf (.node 794627 g194_3
.leaf .leaf)) (.node 798720 g195_0
.leaf (.node 798721 g195_1
.leaf .leaf)))) (.node 827392 g202_0
(.node 798725 g195_5
(.node 798723 g195_3
.leaf (.node 798724 g195_4
.leaf .leaf)) (.node 819200 g200_0
.leaf (.node 823296 g201_0
.leaf .leaf))) (.node 835584 g204_0
(.node 831488 g203_0
.leaf (.node 831489 g203_1
.leaf .leaf)) (.node 835585 g204_1
.leaf (.node 835586 g204_2
.leaf .leaf)))))) (.node 868352 g212_0
(.node 856064 g209_0
(.node 847872 g207_0
(.node 843776 g206_0
(.node 839680 g205_0
.leaf .leaf) (.node 843777 g206_1
.leaf (.node 843778 g206_2
.leaf .leaf))) (.node 851968 g208_0
(.node 847873 g207_1
.leaf (.node 847874 g207_2
.leaf .leaf)) (.node 851969 g208_1
.leaf (.node 851970 g208_2
.leaf .leaf)))) (.node 860163 g210_3
(.node 860160 g210_0
(.node 856065 g209_1
.leaf (.node 856066 g209_2
.leaf .leaf)) (.node 860161 g210_1
.leaf (.node 860162 g210_2
.leaf .leaf))) (.node 864256 g211_0
(.node 860164 g210_4
.leaf (.node 860165 g210_5
.leaf .leaf)) (.node 864257 g211_1
.leaf (.node 864258 g211_2
.leaf .leaf))))) (.node 884738 g216_2
(.node 868358 g212_6
(.node 868355 g212_3
(.node 868353 g212_1
.leaf (.node 868354 g212_2
.leaf .leaf)) (.node 868356 g212_4
.leaf (.node 868357 g212_5
.leaf .leaf))) (.node 872448 g213_0
(.node 868359 g212_7
.leaf (.node 868360 g212_8
.leaf .leaf)) (.node 884736 g216_0
.leaf (.node 884737 g216_1
.leaf .leaf)))) (.node 901120 g220_0
(.node 892930 g218_2
(.node 892928 g218_0
.leaf (.node 892929 g218_1
.leaf .leaf)) (.node 892931 g218_3
.leaf (.node 892932 g218_4
.leaf .leaf))) (.node 905216 g221_0
(.node 901121 g220_1
.leaf (.node 901122 g220_2
.leaf .leaf)) (.node 905217 g221_1
.leaf (.node 905218 g221_2
.leaf .leaf)))))))))
noncomputable def tAf : BT ((List AV → CM) × (List AV → CM) × List (Nat × (List AV → CM))) := (.node 73730 (l18_2_none, fun _ => .fail, [])
(.node 73728 (l18_0_none, fun _ => .fail, [])
.leaf (.node 73729 (l18_1_none, fun _ => .fail, [])
.leaf .leaf)) (.node 307200 (l75_0_none, fun _ => .fail, [])
(.node 266240 (l65_0_none, fun _ => .fail, [])
.leaf .leaf) (.node 516096 (l126_0_none, fun _ => .fail, [])
.leaf .leaf)))
noncomputable def T : Tb := ⟨tFn, tGo, tAf⟩
theorem T_ok : T.Ok E Mk Nk := ⟨⟨f110_ok,
⟨f52_ok,
⟨f26_ok,
⟨f13_ok,
⟨f7_ok,
⟨f4_ok,
⟨f2_ok,
trivial, ⟨f3_ok,
trivial, trivial⟩⟩, ⟨f5_ok,
trivial, ⟨f6_ok,
trivial, trivial⟩⟩⟩, ⟨f10_ok,
⟨f8_ok,
trivial, ⟨f9_ok,
trivial, trivial⟩⟩, ⟨f11_ok,
trivial, ⟨f12_ok,
trivial, trivial⟩⟩⟩⟩, ⟨f19_ok,
⟨f16_ok,
⟨f14_ok,
trivial, ⟨f15_ok,
trivial, trivial⟩⟩, ⟨f17_ok,
trivial, ⟨f18_ok,
trivial, trivial⟩⟩⟩, ⟨f22_ok,
⟨f20_ok,
trivial, ⟨f21_ok,
trivial, trivial⟩⟩, ⟨f24_ok,
⟨f23_ok,
trivial, trivial⟩, ⟨f25_ok,
trivial, trivial⟩⟩⟩⟩⟩, ⟨f39_ok,
⟨f32_ok,
⟨f29_ok,
⟨f27_ok,
trivial, ⟨f28_ok,
trivial, trivial⟩⟩, ⟨f30_ok,
trivial, ⟨f31_ok,
trivial, trivial⟩⟩⟩, ⟨f35_ok,
⟨f33_ok,
trivial, ⟨f34_ok,
trivial, trivial⟩⟩, ⟨f37_ok,
⟨f36_ok,
trivial, trivial⟩, ⟨f38_ok,
trivial, trivial⟩⟩⟩⟩, ⟨f45_ok,
⟨f42_ok,
⟨f40_ok,
trivial, ⟨f41_ok,
trivial, trivial⟩⟩, ⟨f43_ok,
trivial, ⟨f44_ok,
trivial, trivial⟩⟩⟩, ⟨f48_ok,
⟨f46_ok,
trivial, ⟨f47_ok,
trivial, trivial⟩⟩, ⟨f50_ok,
⟨f49_ok,
trivial, trivial⟩, ⟨f51_ok,
trivial, trivial⟩⟩⟩⟩⟩⟩, ⟨f82_ok,
⟨f65_ok,
⟨f58_ok,
⟨f55_ok,
⟨f53_ok,
trivial, ⟨f54_ok,
trivial, trivial⟩⟩, ⟨f56_ok,
trivial, ⟨f57_ok,
trivial, trivial⟩⟩⟩, ⟨f61_ok,
⟨f59_ok,
trivial, ⟨f60_ok,
trivial, trivial⟩⟩, ⟨f63_ok,
⟨f62_ok,
trivial, trivial⟩, ⟨f64_ok,
trivial, trivial⟩⟩⟩⟩, ⟨f71_ok,
⟨f68_ok,
⟨f66_ok,
trivial, ⟨f67_ok,
trivial, trivial⟩⟩, ⟨f69_ok,
trivial, ⟨f70_ok,
trivial, trivial⟩⟩⟩, ⟨f74_ok,
⟨f72_ok,
trivial, ⟨f73_ok,
trivial, trivial⟩⟩, ⟨f76_ok,
⟨f75_ok,
trivial, trivial⟩, ⟨f79_ok,
trivial, trivial⟩⟩⟩⟩⟩, ⟨f96_ok,
⟨f89_ok,
⟨f85_ok,
⟨f83_ok,
trivial, ⟨f84_ok,
trivial, trivial⟩⟩, ⟨f86_ok,
trivial, ⟨f88_ok,
trivial, trivial⟩⟩⟩, ⟨f92_ok,
⟨f90_ok,
trivial, ⟨f91_ok,
trivial, trivial⟩⟩, ⟨f94_ok,
⟨f93_ok,
trivial, trivial⟩, ⟨f95_ok,
trivial, trivial⟩⟩⟩⟩, ⟨f102_ok,
⟨f99_ok,
⟨f97_ok,
trivial, ⟨f98_ok,
trivial, trivial⟩⟩, ⟨f100_ok,
trivial, ⟨f101_ok,
trivial, trivial⟩⟩⟩, ⟨f105_ok,
⟨f103_ok,
trivial, ⟨f104_ok,
trivial, trivial⟩⟩, ⟨f107_ok,
⟨f106_ok,
trivial, trivial⟩, ⟨f108_ok,
trivial, trivial⟩⟩⟩⟩⟩⟩⟩, ⟨f169_ok,
⟨f138_ok,
⟨f123_ok,
⟨f116_ok,
⟨f113_ok,
⟨f111_ok,
trivial, ⟨f112_ok,
trivial, trivial⟩⟩, ⟨f114_ok,
trivial, ⟨f115_ok,
trivial, trivial⟩⟩⟩, ⟨f119_ok,
⟨f117_ok,
trivial, ⟨f118_ok,
trivial, trivial⟩⟩, ⟨f121_ok,
⟨f120_ok,
trivial, trivial⟩, ⟨f122_ok,
trivial, trivial⟩⟩⟩⟩, ⟨f129_ok,
⟨f126_ok,
⟨f124_ok,
trivial, ⟨f125_ok,
trivial, trivial⟩⟩, ⟨f127_ok,
trivial, ⟨f128_ok,
trivial, trivial⟩⟩⟩, ⟨f132_ok,
⟨f130_ok,
trivial, ⟨f131_ok,
trivial, trivial⟩⟩, ⟨f134_ok,
⟨f133_ok,
trivial, trivial⟩, ⟨f136_ok,
trivial, trivial⟩⟩⟩⟩⟩, ⟨f155_ok,
⟨f147_ok,
⟨f142_ok,
⟨f139_ok,
trivial, ⟨f140_ok,
trivial, trivial⟩⟩, ⟨f144_ok,
trivial, ⟨f146_ok,
trivial, trivial⟩⟩⟩, ⟨f151_ok,
⟨f149_ok,
trivial, ⟨f150_ok,
trivial, trivial⟩⟩, ⟨f153_ok,
⟨f152_ok,
trivial, trivial⟩, ⟨f154_ok,
trivial, trivial⟩⟩⟩⟩, ⟨f161_ok,
⟨f158_ok,
⟨f156_ok,
trivial, ⟨f157_ok,
trivial, trivial⟩⟩, ⟨f159_ok,
trivial, ⟨f160_ok,
trivial, trivial⟩⟩⟩, ⟨f164_ok,
⟨f162_ok,
trivial, ⟨f163_ok,
trivial, trivial⟩⟩, ⟨f167_ok,
⟨f165_ok,
trivial, trivial⟩, ⟨f168_ok,
trivial, trivial⟩⟩⟩⟩⟩⟩, ⟨f195_ok,
⟨f182_ok,
⟨f175_ok,
⟨f172_ok,
⟨f170_ok,
trivial, ⟨f171_ok,
trivial, trivial⟩⟩, ⟨f173_ok,
trivial, ⟨f174_ok,
trivial, trivial⟩⟩⟩, ⟨f178_ok,
⟨f176_ok,
trivial, ⟨f177_ok,
trivial, trivial⟩⟩, ⟨f180_ok,
⟨f179_ok,
trivial, trivial⟩, ⟨f181_ok,
trivial, trivial⟩⟩⟩⟩, ⟨f188_ok,
⟨f185_ok,
⟨f183_ok,
trivial, ⟨f184_ok,
trivial, trivial⟩⟩, ⟨f186_ok,
trivial, ⟨f187_ok,
trivial, trivial⟩⟩⟩, ⟨f191_ok,
⟨f189_ok,
trivial, ⟨f190_ok,
trivial, trivial⟩⟩, ⟨f193_ok,
⟨f192_ok,
trivial, trivial⟩, ⟨f194_ok,
trivial, trivial⟩⟩⟩⟩⟩, ⟨f209_ok,
⟨f202_ok,
⟨f199_ok,
⟨f196_ok,
trivial, ⟨f197_ok,
trivial, trivial⟩⟩, ⟨f200_ok,
trivial, ⟨f201_ok,
trivial, trivial⟩⟩⟩, ⟨f205_ok,
⟨f203_ok,
trivial, ⟨f204_ok,
trivial, trivial⟩⟩, ⟨f207_ok,
⟨f206_ok,
trivial, trivial⟩, ⟨f208_ok,
trivial, trivial⟩⟩⟩⟩, ⟨f215_ok,
⟨f212_ok,
⟨f210_ok,
trivial, ⟨f211_ok,
trivial, trivial⟩⟩, ⟨f213_ok,
trivial, ⟨f214_ok,
trivial, trivial⟩⟩⟩, ⟨f218_ok,
⟨f216_ok,
trivial, ⟨f217_ok,
trivial, trivial⟩⟩, ⟨f220_ok,
⟨f219_ok,
trivial, trivial⟩, ⟨f221_ok,
trivial, trivial⟩⟩⟩⟩⟩⟩⟩⟩,
⟨g93_4_ok,
⟨g59_2_ok,
⟨g22_7_ok,
⟨g16_0_ok,
⟨g11_0_ok,
⟨g6_0_ok,
⟨g3_1_ok,
⟨g3_0_ok,
trivial, trivial⟩, ⟨g4_0_ok,
trivial, ⟨g5_0_ok,
trivial, trivial⟩⟩⟩, ⟨g9_0_ok,
⟨g7_0_ok,
trivial, ⟨g8_0_ok,
trivial, trivial⟩⟩, ⟨g10_0_ok,
trivial, ⟨g10_1_ok,
trivial, trivial⟩⟩⟩⟩, ⟨g14_1_ok,
⟨g13_0_ok,
⟨g11_1_ok,
trivial, ⟨g11_2_ok,
trivial, trivial⟩⟩, ⟨g13_1_ok,
trivial, ⟨g14_0_ok,
trivial, trivial⟩⟩⟩, ⟨g14_4_ok,
⟨g14_2_ok,
trivial, ⟨g14_3_ok,
trivial, trivial⟩⟩, ⟨g14_5_ok,
trivial, ⟨g15_0_ok,
trivial, trivial⟩⟩⟩⟩⟩, ⟨g20_3_ok,
⟨g18_5_ok,
⟨g18_0_ok,
⟨g17_0_ok,
trivial, trivial⟩, ⟨g18_2_ok,
trivial, ⟨g18_3_ok,
trivial, trivial⟩⟩⟩, ⟨g20_0_ok,
⟨g18_6_ok,
trivial, ⟨g18_8_ok,
trivial, trivial⟩⟩, ⟨g20_1_ok,
trivial, ⟨g20_2_ok,
trivial, trivial⟩⟩⟩⟩, ⟨g22_1_ok,
⟨g21_2_ok,
⟨g21_0_ok,
trivial, ⟨g21_1_ok,
trivial, trivial⟩⟩, ⟨g21_3_ok,
trivial, ⟨g22_0_ok,
trivial, trivial⟩⟩⟩, ⟨g22_4_ok,
⟨g22_2_ok,
trivial, ⟨g22_3_ok,
trivial, trivial⟩⟩, ⟨g22_5_ok,
trivial, ⟨g22_6_ok,
trivial, trivial⟩⟩⟩⟩⟩⟩, ⟨g35_3_ok,
⟨g26_5_ok,
⟨g25_0_ok,
⟨g22_9_ok,
⟨g22_8_ok,
trivial, trivial⟩, ⟨g23_0_ok,
trivial, ⟨g23_1_ok,
trivial, trivial⟩⟩⟩, ⟨g26_2_ok,
⟨g26_0_ok,
trivial, ⟨g26_1_ok,
trivial, trivial⟩⟩, ⟨g26_3_ok,
trivial, ⟨g26_4_ok,
trivial, trivial⟩⟩⟩⟩, ⟨g32_0_ok,
⟨g28_1_ok,
⟨g26_6_ok,
trivial, ⟨g28_0_ok,
trivial, trivial⟩⟩, ⟨g30_0_ok,
trivial, ⟨g31_0_ok,
trivial, trivial⟩⟩⟩, ⟨g35_0_ok,
⟨g33_0_ok,
trivial, ⟨g34_0_ok,
trivial, trivial⟩⟩, ⟨g35_1_ok,
trivial, ⟨g35_2_ok,
trivial, trivial⟩⟩⟩⟩⟩, ⟨g50_0_ok,
⟨g41_0_ok,
⟨g38_0_ok,
⟨g36_0_ok,
trivial, trivial⟩, ⟨g39_0_ok,
trivial, ⟨g40_0_ok,
trivial, trivial⟩⟩⟩, ⟨g46_0_ok,
⟨g44_0_ok,
trivial, ⟨g45_0_ok,
trivial, trivial⟩⟩, ⟨g48_0_ok,
trivial, ⟨g48_1_ok,
trivial, trivial⟩⟩⟩⟩, ⟨g58_1_ok,
⟨g53_0_ok,
⟨g51_0_ok,
trivial, ⟨g51_1_ok,
trivial, trivial⟩⟩, ⟨g57_0_ok,
trivial, ⟨g58_0_ok,
trivial, trivial⟩⟩⟩, ⟨g58_4_ok,
⟨g58_2_ok,
trivial, ⟨g58_3_ok,
trivial, trivial⟩⟩, ⟨g59_0_ok,
trivial, ⟨g59_1_ok,
trivial, trivial⟩⟩⟩⟩⟩⟩⟩, ⟨g73_7_ok,
⟨g66_5_ok,
⟨g60_8_ok,
⟨g60_2_ok,
⟨g59_4_ok,
⟨g59_3_ok,
trivial, trivial⟩, ⟨g60_0_ok,
trivial, ⟨g60_1_ok,
trivial, trivial⟩⟩⟩, ⟨g60_5_ok,
⟨g60_3_ok,
trivial, ⟨g60_4_ok,
trivial, trivial⟩⟩, ⟨g60_6_ok,
trivial, ⟨g60_7_ok,
trivial, trivial⟩⟩⟩⟩, ⟨g65_2_ok,
⟨g62_0_ok,
⟨g61_0_ok,
trivial, ⟨g61_1_ok,
trivial, trivial⟩⟩, ⟨g63_0_ok,
trivial, ⟨g65_0_ok,
trivial, trivial⟩⟩⟩, ⟨g66_2_ok,
⟨g66_0_ok,
trivial, ⟨g66_1_ok,
trivial, trivial⟩⟩, ⟨g66_3_ok,
trivial, ⟨g66_4_ok,
trivial, trivial⟩⟩⟩⟩⟩, ⟨g70_0_ok,
⟨g68_1_ok,
⟨g67_0_ok,
⟨g66_6_ok,
trivial, trivial⟩, ⟨g67_1_ok,
trivial, ⟨g68_0_ok,
trivial, trivial⟩⟩⟩, ⟨g68_4_ok,
⟨g68_2_ok,
trivial, ⟨g68_3_ok,
trivial, trivial⟩⟩, ⟨g68_5_ok,
trivial, ⟨g69_0_ok,
trivial, trivial⟩⟩⟩⟩, ⟨g73_1_ok,
⟨g72_2_ok,
⟨g72_0_ok,
trivial, ⟨g72_1_ok,
trivial, trivial⟩⟩, ⟨g72_3_ok,
trivial, ⟨g73_0_ok,
trivial, trivial⟩⟩⟩, ⟨g73_4_ok,
⟨g73_2_ok,
trivial, ⟨g73_3_ok,
trivial, trivial⟩⟩, ⟨g73_5_ok,
trivial, ⟨g73_6_ok,
trivial, trivial⟩⟩⟩⟩⟩⟩, ⟨g84_0_ok,
⟨g74_4_ok,
⟨g73_12_ok,
⟨g73_9_ok,
⟨g73_8_ok,
trivial, trivial⟩, ⟨g73_10_ok,
trivial, ⟨g73_11_ok,
trivial, trivial⟩⟩⟩, ⟨g74_1_ok,
⟨g73_13_ok,
trivial, ⟨g74_0_ok,
trivial, trivial⟩⟩, ⟨g74_2_ok,
trivial, ⟨g74_3_ok,
trivial, trivial⟩⟩⟩⟩, ⟨g76_2_ok,
⟨g75_2_ok,
⟨g74_5_ok,
trivial, ⟨g75_0_ok,
trivial, trivial⟩⟩, ⟨g76_0_ok,
trivial, ⟨g76_1_ok,
trivial, trivial⟩⟩⟩, ⟨g79_2_ok,
⟨g79_0_ok,
trivial, ⟨g79_1_ok,
trivial, trivial⟩⟩, ⟨g82_0_ok,
trivial, ⟨g83_0_ok,
trivial, trivial⟩⟩⟩⟩⟩, ⟨g91_0_ok,
⟨g90_1_ok,
⟨g89_1_ok,
⟨g88_0_ok,
trivial, ⟨g89_0_ok,
trivial, trivial⟩⟩, ⟨g89_2_ok,
trivial, ⟨g90_0_ok,
trivial, trivial⟩⟩⟩, ⟨g90_4_ok,
⟨g90_2_ok,
trivial, ⟨g90_3_ok,
trivial, trivial⟩⟩, ⟨g90_5_ok,
trivial, ⟨g90_6_ok,
trivial, trivial⟩⟩⟩⟩, ⟨g92_2_ok,
⟨g91_3_ok,
⟨g91_1_ok,
trivial, ⟨g91_2_ok,
trivial, trivial⟩⟩, ⟨g92_0_ok,
trivial, ⟨g92_1_ok,
trivial, trivial⟩⟩⟩, ⟨g93_1_ok,
⟨g92_3_ok,
trivial, ⟨g93_0_ok,
trivial, trivial⟩⟩, ⟨g93_2_ok,
trivial, ⟨g93_3_ok,
trivial, trivial⟩⟩⟩⟩⟩⟩⟩⟩, ⟨g169_0_ok,
⟨g123_0_ok,
⟨g110_2_ok,
⟨g96_6_ok,
⟨g96_0_ok,
⟨g94_1_ok,
⟨g94_0_ok,
trivial, trivial⟩, ⟨g94_2_ok,
trivial, ⟨g94_3_ok,
trivial, trivial⟩⟩⟩, ⟨g96_3_ok,
⟨g96_1_ok,
trivial, ⟨g96_2_ok,
trivial, trivial⟩⟩, ⟨g96_4_ok,
trivial, ⟨g96_5_ok,
trivial, trivial⟩⟩⟩⟩, ⟨g102_2_ok,
⟨g98_2_ok,
⟨g98_0_ok,
trivial, ⟨g98_1_ok,
trivial, trivial⟩⟩, ⟨g102_0_ok,
trivial, ⟨g102_1_ok,
trivial, trivial⟩⟩⟩, ⟨g106_2_ok,
⟨g106_0_ok,
trivial, ⟨g106_1_ok,
trivial, trivial⟩⟩, ⟨g110_0_ok,
trivial, ⟨g110_1_ok,
trivial, trivial⟩⟩⟩⟩⟩, ⟨g120_5_ok,
⟨g119_0_ok,
⟨g111_0_ok,
⟨g110_3_ok,
trivial, trivial⟩, ⟨g115_0_ok,
trivial, ⟨g117_0_ok,
trivial, trivial⟩⟩⟩, ⟨g120_2_ok,
⟨g120_0_ok,
trivial, ⟨g120_1_ok,
trivial, trivial⟩⟩, ⟨g120_3_ok,
trivial, ⟨g120_4_ok,
trivial, trivial⟩⟩⟩⟩, ⟨g120_11_ok,
⟨g120_8_ok,
⟨g120_6_ok,
trivial, ⟨g120_7_ok,
trivial, trivial⟩⟩, ⟨g120_9_ok,
trivial, ⟨g120_10_ok,
trivial, trivial⟩⟩⟩, ⟨g120_14_ok,
⟨g120_12_ok,
trivial, ⟨g120_13_ok,
trivial, trivial⟩⟩, ⟨g120_15_ok,
trivial, ⟨g122_0_ok,
trivial, trivial⟩⟩⟩⟩⟩⟩, ⟨g150_1_ok,
⟨g128_2_ok,
⟨g124_0_ok,
⟨g123_2_ok,
⟨g123_1_ok,
trivial, trivial⟩, ⟨g123_3_ok,
trivial, ⟨g123_4_ok,
trivial, trivial⟩⟩⟩, ⟨g127_0_ok,
⟨g126_0_ok,
trivial, ⟨g126_2_ok,
trivial, trivial⟩⟩, ⟨g128_0_ok,
trivial, ⟨g128_1_ok,
trivial, trivial⟩⟩⟩⟩, ⟨g131_3_ok,
⟨g131_0_ok,
⟨g128_3_ok,
trivial, ⟨g128_4_ok,
trivial, trivial⟩⟩, ⟨g131_1_ok,
trivial, ⟨g131_2_ok,
trivial, trivial⟩⟩⟩, ⟨g147_0_ok,
⟨g131_4_ok,
trivial, ⟨g131_5_ok,
trivial, trivial⟩⟩, ⟨g147_1_ok,
trivial, ⟨g150_0_ok,
trivial, trivial⟩⟩⟩⟩⟩, ⟨g155_2_ok,
⟨g153_0_ok,
⟨g150_4_ok,
⟨g150_2_ok,
trivial, ⟨g150_3_ok,
trivial, trivial⟩⟩, ⟨g150_5_ok,
trivial, ⟨g152_0_ok,
trivial, trivial⟩⟩⟩, ⟨g153_3_ok,
⟨g153_1_ok,
trivial, ⟨g153_2_ok,
trivial, trivial⟩⟩, ⟨g155_0_ok,
trivial, ⟨g155_1_ok,
trivial, trivial⟩⟩⟩⟩, ⟨g164_0_ok,
⟨g161_0_ok,
⟨g158_0_ok,
trivial, ⟨g159_0_ok,
trivial, trivial⟩⟩, ⟨g161_1_ok,
trivial, ⟨g161_2_ok,
trivial, trivial⟩⟩⟩, ⟨g167_1_ok,
⟨g165_0_ok,
trivial, ⟨g167_0_ok,
trivial, trivial⟩⟩, ⟨g167_2_ok,
trivial, ⟨g168_0_ok,
trivial, trivial⟩⟩⟩⟩⟩⟩⟩, ⟨g204_3_ok,
⟨g192_1_ok,
⟨g180_0_ok,
⟨g170_2_ok,
⟨g169_2_ok,
⟨g169_1_ok,
trivial, trivial⟩, ⟨g170_0_ok,
trivial, ⟨g170_1_ok,
trivial, trivial⟩⟩⟩, ⟨g172_0_ok,
⟨g170_3_ok,
trivial, ⟨g170_4_ok,
trivial, trivial⟩⟩, ⟨g172_1_ok,
trivial, ⟨g172_2_ok,
trivial, trivial⟩⟩⟩⟩, ⟨g188_0_ok,
⟨g181_2_ok,
⟨g181_0_ok,
trivial, ⟨g181_1_ok,
trivial, trivial⟩⟩, ⟨g181_3_ok,
trivial, ⟨g181_4_ok,
trivial, trivial⟩⟩⟩, ⟨g190_2_ok,
⟨g190_0_ok,
trivial, ⟨g190_1_ok,
trivial, trivial⟩⟩, ⟨g190_3_ok,
trivial, ⟨g192_0_ok,
trivial, trivial⟩⟩⟩⟩⟩, ⟨g195_2_ok,
⟨g194_1_ok,
⟨g192_3_ok,
⟨g192_2_ok,
trivial, trivial⟩, ⟨g193_0_ok,
trivial, ⟨g194_0_ok,
trivial, trivial⟩⟩⟩, ⟨g194_4_ok,
⟨g194_2_ok,
trivial, ⟨g194_3_ok,
trivial, trivial⟩⟩, ⟨g195_0_ok,
trivial, ⟨g195_1_ok,
trivial, trivial⟩⟩⟩⟩, ⟨g202_0_ok,
⟨g195_5_ok,
⟨g195_3_ok,
trivial, ⟨g195_4_ok,
trivial, trivial⟩⟩, ⟨g200_0_ok,
trivial, ⟨g201_0_ok,
trivial, trivial⟩⟩⟩, ⟨g204_0_ok,
⟨g203_0_ok,
trivial, ⟨g203_1_ok,
trivial, trivial⟩⟩, ⟨g204_1_ok,
trivial, ⟨g204_2_ok,
trivial, trivial⟩⟩⟩⟩⟩⟩, ⟨g212_0_ok,
⟨g209_0_ok,
⟨g207_0_ok,
⟨g206_0_ok,
⟨g205_0_ok,
trivial, trivial⟩, ⟨g206_1_ok,
trivial, ⟨g206_2_ok,
trivial, trivial⟩⟩⟩, ⟨g208_0_ok,
⟨g207_1_ok,
trivial, ⟨g207_2_ok,
trivial, trivial⟩⟩, ⟨g208_1_ok,
trivial, ⟨g208_2_ok,
trivial, trivial⟩⟩⟩⟩, ⟨g210_3_ok,
⟨g210_0_ok,
⟨g209_1_ok,
trivial, ⟨g209_2_ok,
trivial, trivial⟩⟩, ⟨g210_1_ok,
trivial, ⟨g210_2_ok,
trivial, trivial⟩⟩⟩, ⟨g211_0_ok,
⟨g210_4_ok,
trivial, ⟨g210_5_ok,
trivial, trivial⟩⟩, ⟨g211_1_ok,
trivial, ⟨g211_2_ok,
trivial, trivial⟩⟩⟩⟩⟩, ⟨g216_2_ok,
⟨g212_6_ok,
⟨g212_3_ok,
⟨g212_1_ok,
trivial, ⟨g212_2_ok,
trivial, trivial⟩⟩, ⟨g212_4_ok,
trivial, ⟨g212_5_ok,
trivial, trivial⟩⟩⟩, ⟨g213_0_ok,
⟨g212_7_ok,
trivial, ⟨g212_8_ok,
trivial, trivial⟩⟩, ⟨g216_0_ok,
trivial, ⟨g216_1_ok,
trivial, trivial⟩⟩⟩⟩, ⟨g220_0_ok,
⟨g218_2_ok,
⟨g218_0_ok,
trivial, ⟨g218_1_ok,
trivial, trivial⟩⟩, ⟨g218_3_ok,
trivial, ⟨g218_4_ok,
trivial, trivial⟩⟩⟩, ⟨g221_0_ok,
⟨g220_1_ok,
trivial, ⟨g220_2_ok,
trivial, trivial⟩⟩, ⟨g221_1_ok,
trivial, ⟨g221_2_ok,
trivial, trivial⟩⟩⟩⟩⟩⟩⟩⟩⟩,
⟨⟨l18_2_none_ok, fail_le, all_nil⟩,
⟨⟨l18_0_none_ok, fail_le, all_nil⟩,
trivial, ⟨⟨l18_1_none_ok, fail_le, all_nil⟩,
trivial, trivial⟩⟩, ⟨⟨l75_0_none_ok, fail_le, all_nil⟩,
⟨⟨l65_0_none_ok, fail_le, all_nil⟩,
trivial, trivial⟩, ⟨⟨l126_0_none_ok, fail_le, all_nil⟩,
trivial, trivial⟩⟩⟩⟩
end Go.Proofs.YtamooapjonlcdaaGreat.T
