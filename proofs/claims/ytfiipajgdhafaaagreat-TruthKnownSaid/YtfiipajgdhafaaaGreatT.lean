/- The tables, printed by our own program (wip/tools/gen3.lean). -/
import Derived.Test.YtfiipajgdhafaaaGreatT1
import Derived.Test.YtfiipajgdhafaaaGreatT2
import Derived.Test.YtfiipajgdhafaaaGreatT3
import Derived.Test.YtfiipajgdhafaaaGreatT4
import Derived.Test.YtfiipajgdhafaaaGreatT5
import Derived.Test.YtfiipajgdhafaaaGreatT6
import Derived.Test.YtfiipajgdhafaaaGreatT7
namespace Go.Proofs.YtfiipajgdhafaaaGreat.T
open Go Go.Abs Go.Proofs.YtfiipajgdhafaaaGreat
set_option maxRecDepth 10000
noncomputable def tFn : BT (List AV → CM) := (.node 112 f112
(.node 56 f56
(.node 28 f28
(.node 14 f14
(.node 7 f7
(.node 4 f4
(.node 2 f2
.leaf (.node 3 f3
.leaf .leaf)) (.node 5 f5
.leaf (.node 6 f6
.leaf .leaf))) (.node 10 f10
(.node 8 f8
.leaf (.node 9 f9
.leaf .leaf)) (.node 12 f12
(.node 11 f11
.leaf .leaf) (.node 13 f13
.leaf .leaf)))) (.node 21 f21
(.node 17 f17
(.node 15 f15
.leaf (.node 16 f16
.leaf .leaf)) (.node 19 f19
(.node 18 f18
.leaf .leaf) (.node 20 f20
.leaf .leaf))) (.node 24 f24
(.node 22 f22
.leaf (.node 23 f23
.leaf .leaf)) (.node 26 f26
(.node 25 f25
.leaf .leaf) (.node 27 f27
.leaf .leaf))))) (.node 42 f42
(.node 35 f35
(.node 31 f31
(.node 29 f29
.leaf (.node 30 f30
.leaf .leaf)) (.node 33 f33
(.node 32 f32
.leaf .leaf) (.node 34 f34
.leaf .leaf))) (.node 38 f38
(.node 36 f36
.leaf (.node 37 f37
.leaf .leaf)) (.node 40 f40
(.node 39 f39
.leaf .leaf) (.node 41 f41
.leaf .leaf)))) (.node 49 f49
(.node 45 f45
(.node 43 f43
.leaf (.node 44 f44
.leaf .leaf)) (.node 47 f47
(.node 46 f46
.leaf .leaf) (.node 48 f48
.leaf .leaf))) (.node 52 f52
(.node 50 f50
.leaf (.node 51 f51
.leaf .leaf)) (.node 54 f54
(.node 53 f53
.leaf .leaf) (.node 55 f55
.leaf .leaf)))))) (.node 84 f84
(.node 70 f70
(.node 63 f63
(.node 59 f59
(.node 57 f57
.leaf (.node 58 f58
.leaf .leaf)) (.node 61 f61
(.node 60 f60
.leaf .leaf) (.node 62 f62
.leaf .leaf))) (.node 66 f66
(.node 64 f64
.leaf (.node 65 f65
.leaf .leaf)) (.node 68 f68
(.node 67 f67
.leaf .leaf) (.node 69 f69
.leaf .leaf)))) (.node 77 f77
(.node 73 f73
(.node 71 f71
.leaf (.node 72 f72
.leaf .leaf)) (.node 75 f75
(.node 74 f74
.leaf .leaf) (.node 76 f76
.leaf .leaf))) (.node 80 f80
(.node 78 f78
.leaf (.node 79 f79
.leaf .leaf)) (.node 82 f82
(.node 81 f81
.leaf .leaf) (.node 83 f83
.leaf .leaf))))) (.node 98 f98
(.node 91 f91
(.node 87 f87
(.node 85 f85
.leaf (.node 86 f86
.leaf .leaf)) (.node 89 f89
(.node 88 f88
.leaf .leaf) (.node 90 f90
.leaf .leaf))) (.node 94 f94
(.node 92 f92
.leaf (.node 93 f93
.leaf .leaf)) (.node 96 f96
(.node 95 f95
.leaf .leaf) (.node 97 f97
.leaf .leaf)))) (.node 105 f105
(.node 101 f101
(.node 99 f99
.leaf (.node 100 f100
.leaf .leaf)) (.node 103 f103
(.node 102 f102
.leaf .leaf) (.node 104 f104
.leaf .leaf))) (.node 108 f108
(.node 106 f106
.leaf (.node 107 f107
.leaf .leaf)) (.node 110 f110
(.node 109 f109
.leaf .leaf) (.node 111 f111
.leaf .leaf))))))) (.node 173 f173
(.node 145 f145
(.node 125 f125
(.node 118 f118
(.node 115 f115
(.node 113 f113
.leaf (.node 114 f114
.leaf .leaf)) (.node 116 f116
.leaf (.node 117 f117
.leaf .leaf))) (.node 121 f121
(.node 119 f119
.leaf (.node 120 f120
.leaf .leaf)) (.node 123 f123
(.node 122 f122
.leaf .leaf) (.node 124 f124
.leaf .leaf)))) (.node 132 f132
(.node 128 f128
(.node 126 f126
.leaf (.node 127 f127
.leaf .leaf)) (.node 130 f130
(.node 129 f129
.leaf .leaf) (.node 131 f131
.leaf .leaf))) (.node 141 f141
(.node 136 f136
.leaf (.node 140 f140
.leaf .leaf)) (.node 143 f143
(.node 142 f142
.leaf .leaf) (.node 144 f144
.leaf .leaf))))) (.node 159 f159
(.node 152 f152
(.node 148 f148
(.node 146 f146
.leaf (.node 147 f147
.leaf .leaf)) (.node 150 f150
(.node 149 f149
.leaf .leaf) (.node 151 f151
.leaf .leaf))) (.node 155 f155
(.node 153 f153
.leaf (.node 154 f154
.leaf .leaf)) (.node 157 f157
(.node 156 f156
.leaf .leaf) (.node 158 f158
.leaf .leaf)))) (.node 166 f166
(.node 162 f162
(.node 160 f160
.leaf (.node 161 f161
.leaf .leaf)) (.node 164 f164
(.node 163 f163
.leaf .leaf) (.node 165 f165
.leaf .leaf))) (.node 169 f169
(.node 167 f167
.leaf (.node 168 f168
.leaf .leaf)) (.node 171 f171
(.node 170 f170
.leaf .leaf) (.node 172 f172
.leaf .leaf)))))) (.node 207 f207
(.node 191 f191
(.node 180 f180
(.node 176 f176
(.node 174 f174
.leaf (.node 175 f175
.leaf .leaf)) (.node 178 f178
(.node 177 f177
.leaf .leaf) (.node 179 f179
.leaf .leaf))) (.node 185 f185
(.node 181 f181
.leaf (.node 183 f183
.leaf .leaf)) (.node 188 f188
(.node 187 f187
.leaf .leaf) (.node 189 f189
.leaf .leaf)))) (.node 200 f200
(.node 196 f196
(.node 193 f193
.leaf (.node 195 f195
.leaf .leaf)) (.node 198 f198
(.node 197 f197
.leaf .leaf) (.node 199 f199
.leaf .leaf))) (.node 203 f203
(.node 201 f201
.leaf (.node 202 f202
.leaf .leaf)) (.node 205 f205
(.node 204 f204
.leaf .leaf) (.node 206 f206
.leaf .leaf))))) (.node 223 f223
(.node 216 f216
(.node 210 f210
(.node 208 f208
.leaf (.node 209 f209
.leaf .leaf)) (.node 214 f214
(.node 213 f213
.leaf .leaf) (.node 215 f215
.leaf .leaf))) (.node 219 f219
(.node 217 f217
.leaf (.node 218 f218
.leaf .leaf)) (.node 221 f221
(.node 220 f220
.leaf .leaf) (.node 222 f222
.leaf .leaf)))) (.node 230 f230
(.node 226 f226
(.node 224 f224
.leaf (.node 225 f225
.leaf .leaf)) (.node 228 f228
(.node 227 f227
.leaf .leaf) (.node 229 f229
.leaf .leaf))) (.node 233 f233
(.node 231 f231
.leaf (.node 232 f232
.leaf .leaf)) (.node 235 f235
(.node 234 f234
.leaf .leaf) (.node 236 f236
.leaf .leaf))))))))
noncomputable def tGo : BT (List AV → CM) := (.node 417792 g102_0
(.node 172041 g42_9
(.node 131072 g32_0
(.node 81923 g20_3
(.node 45057 g11_1
(.node 24576 g6_0
(.node 16384 g4_0
(.node 12288 g3_0
.leaf .leaf) (.node 16385 g4_1
.leaf (.node 20480 g5_0
.leaf .leaf))) (.node 36866 g9_2
(.node 36864 g9_0
.leaf (.node 36865 g9_1
.leaf .leaf)) (.node 36867 g9_3
.leaf (.node 45056 g11_0
.leaf .leaf)))) (.node 61441 g15_1
(.node 53248 g13_0
(.node 49152 g12_0
.leaf .leaf) (.node 53249 g13_1
.leaf (.node 61440 g15_0
.leaf .leaf))) (.node 81920 g20_0
(.node 65536 g16_0
.leaf (.node 73728 g18_0
.leaf .leaf)) (.node 81921 g20_1
.leaf (.node 81922 g20_2
.leaf .leaf))))) (.node 98305 g24_1
(.node 86019 g21_3
(.node 86016 g21_0
(.node 81924 g20_4
.leaf .leaf) (.node 86017 g21_1
.leaf (.node 86018 g21_2
.leaf .leaf))) (.node 86022 g21_6
(.node 86020 g21_4
.leaf (.node 86021 g21_5
.leaf .leaf)) (.node 94208 g23_0
.leaf (.node 98304 g24_0
.leaf .leaf)))) (.node 102400 g25_0
(.node 98308 g24_4
(.node 98306 g24_2
.leaf (.node 98307 g24_3
.leaf .leaf)) (.node 98309 g24_5
.leaf (.node 98310 g24_6
.leaf .leaf))) (.node 110592 g27_0
(.node 106496 g26_0
.leaf (.node 106497 g26_1
.leaf .leaf)) (.node 114688 g28_0
.leaf (.node 118784 g29_0
.leaf .leaf)))))) (.node 139269 g34_5
(.node 135175 g33_7
(.node 135169 g33_1
(.node 131074 g32_2
(.node 131073 g32_1
.leaf .leaf) (.node 131075 g32_3
.leaf (.node 135168 g33_0
.leaf .leaf))) (.node 135172 g33_4
(.node 135170 g33_2
.leaf (.node 135171 g33_3
.leaf .leaf)) (.node 135173 g33_5
.leaf (.node 135174 g33_6
.leaf .leaf)))) (.node 135181 g33_13
(.node 135178 g33_10
(.node 135176 g33_8
.leaf (.node 135177 g33_9
.leaf .leaf)) (.node 135179 g33_11
.leaf (.node 135180 g33_12
.leaf .leaf))) (.node 139266 g34_2
(.node 139264 g34_0
.leaf (.node 139265 g34_1
.leaf .leaf)) (.node 139267 g34_3
.leaf (.node 139268 g34_4
.leaf .leaf))))) (.node 155651 g38_3
(.node 151552 g37_0
(.node 143361 g35_1
(.node 143360 g35_0
.leaf .leaf) (.node 143362 g35_2
.leaf (.node 147456 g36_0
.leaf .leaf))) (.node 155648 g38_0
(.node 151553 g37_1
.leaf (.node 151554 g37_2
.leaf .leaf)) (.node 155649 g38_1
.leaf (.node 155650 g38_2
.leaf .leaf)))) (.node 172035 g42_3
(.node 172032 g42_0
(.node 155652 g38_4
.leaf (.node 167936 g41_0
.leaf .leaf)) (.node 172033 g42_1
.leaf (.node 172034 g42_2
.leaf .leaf))) (.node 172038 g42_6
(.node 172036 g42_4
.leaf (.node 172037 g42_5
.leaf .leaf)) (.node 172039 g42_7
.leaf (.node 172040 g42_8
.leaf .leaf))))))) (.node 249857 g61_1
(.node 208896 g51_0
(.node 184323 g45_3
(.node 172046 g42_14
(.node 172043 g42_11
(.node 172042 g42_10
.leaf .leaf) (.node 172044 g42_12
.leaf (.node 172045 g42_13
.leaf .leaf))) (.node 184320 g45_0
(.node 172047 g42_15
.leaf (.node 180224 g44_0
.leaf .leaf)) (.node 184321 g45_1
.leaf (.node 184322 g45_2
.leaf .leaf)))) (.node 188419 g46_3
(.node 188416 g46_0
(.node 184324 g45_4
.leaf .leaf) (.node 188417 g46_1
.leaf (.node 188418 g46_2
.leaf .leaf))) (.node 200706 g49_2
(.node 188420 g46_4
.leaf (.node 200704 g49_0
.leaf .leaf)) (.node 204800 g50_0
.leaf (.node 204801 g50_1
.leaf .leaf))))) (.node 241664 g59_0
(.node 208901 g51_5
(.node 208898 g51_2
(.node 208897 g51_1
.leaf .leaf) (.node 208899 g51_3
.leaf (.node 208900 g51_4
.leaf .leaf))) (.node 225280 g55_0
(.node 212992 g52_0
.leaf (.node 217088 g53_0
.leaf .leaf)) (.node 229376 g56_0
.leaf (.node 233472 g57_0
.leaf .leaf)))) (.node 245765 g60_5
(.node 245762 g60_2
(.node 245760 g60_0
.leaf (.node 245761 g60_1
.leaf .leaf)) (.node 245763 g60_3
.leaf (.node 245764 g60_4
.leaf .leaf))) (.node 245768 g60_8
(.node 245766 g60_6
.leaf (.node 245767 g60_7
.leaf .leaf)) (.node 245769 g60_9
.leaf (.node 249856 g61_0
.leaf .leaf)))))) (.node 319488 g78_0
(.node 286720 g70_0
(.node 266240 g65_0
(.node 249859 g61_3
(.node 249858 g61_2
.leaf .leaf) (.node 249860 g61_4
.leaf (.node 249861 g61_5
.leaf .leaf))) (.node 270336 g66_0
(.node 266241 g65_1
.leaf (.node 266242 g65_2
.leaf .leaf)) (.node 270337 g66_1
.leaf (.node 270338 g66_2
.leaf .leaf)))) (.node 303104 g74_0
(.node 294912 g72_0
(.node 286721 g70_1
.leaf (.node 286722 g70_2
.leaf .leaf)) (.node 294913 g72_1
.leaf (.node 294914 g72_2
.leaf .leaf))) (.node 311296 g76_0
(.node 303105 g74_1
.leaf (.node 303106 g74_2
.leaf .leaf)) (.node 311297 g76_1
.leaf (.node 311298 g76_2
.leaf .leaf))))) (.node 352256 g86_0
(.node 327686 g80_6
(.node 327682 g80_2
(.node 327680 g80_0
.leaf .leaf) (.node 327683 g80_3
.leaf (.node 327685 g80_5
.leaf .leaf))) (.node 331778 g81_2
(.node 327688 g80_8
.leaf (.node 331776 g81_0
.leaf .leaf)) (.node 344064 g84_0
.leaf (.node 348160 g85_0
.leaf .leaf)))) (.node 380929 g93_1
(.node 368640 g90_0
(.node 356352 g87_0
.leaf (.node 364544 g89_0
.leaf .leaf)) (.node 372736 g91_0
.leaf (.node 380928 g93_0
.leaf .leaf))) (.node 397312 g97_0
(.node 380930 g93_2
.leaf (.node 393216 g96_0
.leaf .leaf)) (.node 405504 g99_0
.leaf (.node 409600 g100_0
.leaf .leaf)))))))) (.node 655362 g160_2
(.node 475140 g116_4
(.node 446468 g109_4
(.node 434179 g106_3
(.node 430080 g105_0
(.node 421888 g103_0
(.node 417794 g102_2
.leaf .leaf) (.node 425984 g104_0
.leaf (.node 425985 g104_1
.leaf .leaf))) (.node 434176 g106_0
(.node 430081 g105_1
.leaf (.node 430082 g105_2
.leaf .leaf)) (.node 434177 g106_1
.leaf (.node 434178 g106_2
.leaf .leaf)))) (.node 442368 g108_0
(.node 438273 g107_1
(.node 438272 g107_0
.leaf .leaf) (.node 438274 g107_2
.leaf (.node 438275 g107_3
.leaf .leaf))) (.node 446465 g109_1
(.node 442369 g108_1
.leaf (.node 446464 g109_0
.leaf .leaf)) (.node 446466 g109_2
.leaf (.node 446467 g109_3
.leaf .leaf))))) (.node 466946 g114_2
(.node 462848 g113_0
(.node 450560 g110_0
(.node 446469 g109_5
.leaf .leaf) (.node 454656 g111_0
.leaf (.node 458752 g112_0
.leaf .leaf))) (.node 462851 g113_3
(.node 462849 g113_1
.leaf (.node 462850 g113_2
.leaf .leaf)) (.node 466944 g114_0
.leaf (.node 466945 g114_1
.leaf .leaf)))) (.node 471043 g115_3
(.node 471040 g115_0
(.node 466947 g114_3
.leaf (.node 466948 g114_4
.leaf .leaf)) (.node 471041 g115_1
.leaf (.node 471042 g115_2
.leaf .leaf))) (.node 475137 g116_1
(.node 471044 g115_4
.leaf (.node 475136 g116_0
.leaf .leaf)) (.node 475138 g116_2
.leaf (.node 475139 g116_3
.leaf .leaf)))))) (.node 573443 g140_3
(.node 503809 g123_1
(.node 479232 g117_0
(.node 475142 g116_6
(.node 475141 g116_5
.leaf .leaf) (.node 475143 g116_7
.leaf (.node 475144 g116_8
.leaf .leaf))) (.node 479235 g117_3
(.node 479233 g117_1
.leaf (.node 479234 g117_2
.leaf .leaf)) (.node 479236 g117_4
.leaf (.node 503808 g123_0
.leaf .leaf)))) (.node 557056 g136_0
(.node 540672 g132_0
(.node 503810 g123_2
.leaf (.node 536576 g131_0
.leaf .leaf)) (.node 540673 g132_1
.leaf (.node 540674 g132_2
.leaf .leaf))) (.node 573440 g140_0
(.node 557057 g136_1
.leaf (.node 557058 g136_2
.leaf .leaf)) (.node 573441 g140_1
.leaf (.node 573442 g140_2
.leaf .leaf))))) (.node 606208 g148_0
(.node 577539 g141_3
(.node 577536 g141_0
(.node 573444 g140_4
.leaf .leaf) (.node 577537 g141_1
.leaf (.node 577538 g141_2
.leaf .leaf))) (.node 593920 g145_0
(.node 577540 g141_4
.leaf (.node 577541 g141_5
.leaf .leaf)) (.node 593921 g145_1
.leaf (.node 593922 g145_2
.leaf .leaf)))) (.node 643072 g157_0
(.node 622592 g152_0
(.node 610304 g149_0
.leaf (.node 614400 g150_0
.leaf .leaf)) (.node 626688 g153_0
.leaf (.node 630784 g154_0
.leaf .leaf))) (.node 651265 g159_1
(.node 647168 g158_0
.leaf (.node 651264 g159_0
.leaf .leaf)) (.node 655360 g160_0
.leaf (.node 655361 g160_1
.leaf .leaf))))))) (.node 901120 g220_0
(.node 811008 g198_0
(.node 712705 g174_1
(.node 679937 g166_1
(.node 659456 g161_0
(.node 655363 g160_3
.leaf .leaf) (.node 663552 g162_0
.leaf (.node 679936 g166_0
.leaf .leaf))) (.node 696321 g170_1
(.node 679938 g166_2
.leaf (.node 696320 g170_0
.leaf .leaf)) (.node 696322 g170_2
.leaf (.node 712704 g174_0
.leaf .leaf)))) (.node 729089 g178_1
(.node 724992 g177_0
(.node 712706 g174_2
.leaf .leaf) (.node 724993 g177_1
.leaf (.node 729088 g178_0
.leaf .leaf))) (.node 733184 g179_0
(.node 729090 g178_2
.leaf (.node 729091 g178_3
.leaf .leaf)) (.node 802816 g196_0
.leaf (.node 806912 g197_0
.leaf .leaf))))) (.node 876548 g214_4
(.node 872448 g213_0
(.node 823296 g201_0
(.node 815104 g199_0
.leaf .leaf) (.node 823297 g201_1
.leaf (.node 823298 g201_2
.leaf .leaf))) (.node 876545 g214_1
(.node 872449 g213_1
.leaf (.node 876544 g214_0
.leaf .leaf)) (.node 876546 g214_2
.leaf (.node 876547 g214_3
.leaf .leaf)))) (.node 892928 g218_0
(.node 888832 g217_0
(.node 876549 g214_5
.leaf (.node 884736 g216_0
.leaf .leaf)) (.node 888833 g217_1
.leaf (.node 888834 g217_2
.leaf .leaf))) (.node 897024 g219_0
(.node 892929 g218_1
.leaf (.node 892930 g218_2
.leaf .leaf)) (.node 897025 g219_1
.leaf (.node 897026 g219_2
.leaf .leaf)))))) (.node 933892 g228_4
(.node 917505 g224_1
(.node 905218 g221_2
(.node 901122 g220_2
(.node 901121 g220_1
.leaf .leaf) (.node 905216 g221_0
.leaf (.node 905217 g221_1
.leaf .leaf))) (.node 909314 g222_2
(.node 909312 g222_0
.leaf (.node 909313 g222_1
.leaf .leaf)) (.node 913408 g223_0
.leaf (.node 917504 g224_0
.leaf .leaf)))) (.node 925699 g226_3
(.node 925696 g226_0
(.node 917506 g224_2
.leaf (.node 917507 g224_3
.leaf .leaf)) (.node 925697 g226_1
.leaf (.node 925698 g226_2
.leaf .leaf))) (.node 933889 g228_1
(.node 929792 g227_0
.leaf (.node 933888 g228_0
.leaf .leaf)) (.node 933890 g228_2
.leaf (.node 933891 g228_3
.leaf .leaf))))) (.node 942084 g230_4
(.node 937988 g229_4
(.node 937985 g229_1
(.node 937984 g229_0
.leaf .leaf) (.node 937986 g229_2
.leaf (.node 937987 g229_3
.leaf .leaf))) (.node 942081 g230_1
(.node 937989 g229_5
.leaf (.node 942080 g230_0
.leaf .leaf)) (.node 942082 g230_2
.leaf (.node 942083 g230_3
.leaf .leaf)))) (.node 958464 g234_0
(.node 942087 g230_7
(.node 942085 g230_5
.leaf (.node 942086 g230_6
.leaf .leaf)) (.node 942088 g230_8
.leaf (.node 946176 g231_0
.leaf .leaf))) (.node 966656 g236_0
(.node 958465 g234_1
.leaf (.node 958466 g234_2
.leaf .leaf)) (.node 966657 g236_1
.leaf (.node 966658 g236_2
.leaf .leaf)))))))))
noncomputable def tAf : BT ((List AV → CM) × (List AV → CM) × List (Nat × (List AV → CM))) := (.node 327681 (l80_1_none, fun _ => .fail, [])
(.node 200704 (l49_0_none, fun _ => .fail, [])
.leaf (.node 327680 (l80_0_none, fun _ => .fail, [])
.leaf .leaf)) (.node 331776 (l81_0_none, fun _ => .fail, [])
(.node 327682 (l80_2_none, fun _ => .fail, [])
.leaf .leaf) (.node 417792 (l102_0_none, fun _ => .fail, [])
.leaf .leaf)))
noncomputable def T : Tb := ⟨tFn, tGo, tAf⟩
theorem T_ok : T.Ok E Mk Nk := ⟨⟨f112_ok,
⟨f56_ok,
⟨f28_ok,
⟨f14_ok,
⟨f7_ok,
⟨f4_ok,
⟨f2_ok,
trivial, ⟨f3_ok,
trivial, trivial⟩⟩, ⟨f5_ok,
trivial, ⟨f6_ok,
trivial, trivial⟩⟩⟩, ⟨f10_ok,
⟨f8_ok,
trivial, ⟨f9_ok,
trivial, trivial⟩⟩, ⟨f12_ok,
⟨f11_ok,
trivial, trivial⟩, ⟨f13_ok,
trivial, trivial⟩⟩⟩⟩, ⟨f21_ok,
⟨f17_ok,
⟨f15_ok,
trivial, ⟨f16_ok,
trivial, trivial⟩⟩, ⟨f19_ok,
⟨f18_ok,
trivial, trivial⟩, ⟨f20_ok,
trivial, trivial⟩⟩⟩, ⟨f24_ok,
⟨f22_ok,
trivial, ⟨f23_ok,
trivial, trivial⟩⟩, ⟨f26_ok,
⟨f25_ok,
trivial, trivial⟩, ⟨f27_ok,
trivial, trivial⟩⟩⟩⟩⟩, ⟨f42_ok,
⟨f35_ok,
⟨f31_ok,
⟨f29_ok,
trivial, ⟨f30_ok,
trivial, trivial⟩⟩, ⟨f33_ok,
⟨f32_ok,
trivial, trivial⟩, ⟨f34_ok,
trivial, trivial⟩⟩⟩, ⟨f38_ok,
⟨f36_ok,
trivial, ⟨f37_ok,
trivial, trivial⟩⟩, ⟨f40_ok,
⟨f39_ok,
trivial, trivial⟩, ⟨f41_ok,
trivial, trivial⟩⟩⟩⟩, ⟨f49_ok,
⟨f45_ok,
⟨f43_ok,
trivial, ⟨f44_ok,
trivial, trivial⟩⟩, ⟨f47_ok,
⟨f46_ok,
trivial, trivial⟩, ⟨f48_ok,
trivial, trivial⟩⟩⟩, ⟨f52_ok,
⟨f50_ok,
trivial, ⟨f51_ok,
trivial, trivial⟩⟩, ⟨f54_ok,
⟨f53_ok,
trivial, trivial⟩, ⟨f55_ok,
trivial, trivial⟩⟩⟩⟩⟩⟩, ⟨f84_ok,
⟨f70_ok,
⟨f63_ok,
⟨f59_ok,
⟨f57_ok,
trivial, ⟨f58_ok,
trivial, trivial⟩⟩, ⟨f61_ok,
⟨f60_ok,
trivial, trivial⟩, ⟨f62_ok,
trivial, trivial⟩⟩⟩, ⟨f66_ok,
⟨f64_ok,
trivial, ⟨f65_ok,
trivial, trivial⟩⟩, ⟨f68_ok,
⟨f67_ok,
trivial, trivial⟩, ⟨f69_ok,
trivial, trivial⟩⟩⟩⟩, ⟨f77_ok,
⟨f73_ok,
⟨f71_ok,
trivial, ⟨f72_ok,
trivial, trivial⟩⟩, ⟨f75_ok,
⟨f74_ok,
trivial, trivial⟩, ⟨f76_ok,
trivial, trivial⟩⟩⟩, ⟨f80_ok,
⟨f78_ok,
trivial, ⟨f79_ok,
trivial, trivial⟩⟩, ⟨f82_ok,
⟨f81_ok,
trivial, trivial⟩, ⟨f83_ok,
trivial, trivial⟩⟩⟩⟩⟩, ⟨f98_ok,
⟨f91_ok,
⟨f87_ok,
⟨f85_ok,
trivial, ⟨f86_ok,
trivial, trivial⟩⟩, ⟨f89_ok,
⟨f88_ok,
trivial, trivial⟩, ⟨f90_ok,
trivial, trivial⟩⟩⟩, ⟨f94_ok,
⟨f92_ok,
trivial, ⟨f93_ok,
trivial, trivial⟩⟩, ⟨f96_ok,
⟨f95_ok,
trivial, trivial⟩, ⟨f97_ok,
trivial, trivial⟩⟩⟩⟩, ⟨f105_ok,
⟨f101_ok,
⟨f99_ok,
trivial, ⟨f100_ok,
trivial, trivial⟩⟩, ⟨f103_ok,
⟨f102_ok,
trivial, trivial⟩, ⟨f104_ok,
trivial, trivial⟩⟩⟩, ⟨f108_ok,
⟨f106_ok,
trivial, ⟨f107_ok,
trivial, trivial⟩⟩, ⟨f110_ok,
⟨f109_ok,
trivial, trivial⟩, ⟨f111_ok,
trivial, trivial⟩⟩⟩⟩⟩⟩⟩, ⟨f173_ok,
⟨f145_ok,
⟨f125_ok,
⟨f118_ok,
⟨f115_ok,
⟨f113_ok,
trivial, ⟨f114_ok,
trivial, trivial⟩⟩, ⟨f116_ok,
trivial, ⟨f117_ok,
trivial, trivial⟩⟩⟩, ⟨f121_ok,
⟨f119_ok,
trivial, ⟨f120_ok,
trivial, trivial⟩⟩, ⟨f123_ok,
⟨f122_ok,
trivial, trivial⟩, ⟨f124_ok,
trivial, trivial⟩⟩⟩⟩, ⟨f132_ok,
⟨f128_ok,
⟨f126_ok,
trivial, ⟨f127_ok,
trivial, trivial⟩⟩, ⟨f130_ok,
⟨f129_ok,
trivial, trivial⟩, ⟨f131_ok,
trivial, trivial⟩⟩⟩, ⟨f141_ok,
⟨f136_ok,
trivial, ⟨f140_ok,
trivial, trivial⟩⟩, ⟨f143_ok,
⟨f142_ok,
trivial, trivial⟩, ⟨f144_ok,
trivial, trivial⟩⟩⟩⟩⟩, ⟨f159_ok,
⟨f152_ok,
⟨f148_ok,
⟨f146_ok,
trivial, ⟨f147_ok,
trivial, trivial⟩⟩, ⟨f150_ok,
⟨f149_ok,
trivial, trivial⟩, ⟨f151_ok,
trivial, trivial⟩⟩⟩, ⟨f155_ok,
⟨f153_ok,
trivial, ⟨f154_ok,
trivial, trivial⟩⟩, ⟨f157_ok,
⟨f156_ok,
trivial, trivial⟩, ⟨f158_ok,
trivial, trivial⟩⟩⟩⟩, ⟨f166_ok,
⟨f162_ok,
⟨f160_ok,
trivial, ⟨f161_ok,
trivial, trivial⟩⟩, ⟨f164_ok,
⟨f163_ok,
trivial, trivial⟩, ⟨f165_ok,
trivial, trivial⟩⟩⟩, ⟨f169_ok,
⟨f167_ok,
trivial, ⟨f168_ok,
trivial, trivial⟩⟩, ⟨f171_ok,
⟨f170_ok,
trivial, trivial⟩, ⟨f172_ok,
trivial, trivial⟩⟩⟩⟩⟩⟩, ⟨f207_ok,
⟨f191_ok,
⟨f180_ok,
⟨f176_ok,
⟨f174_ok,
trivial, ⟨f175_ok,
trivial, trivial⟩⟩, ⟨f178_ok,
⟨f177_ok,
trivial, trivial⟩, ⟨f179_ok,
trivial, trivial⟩⟩⟩, ⟨f185_ok,
⟨f181_ok,
trivial, ⟨f183_ok,
trivial, trivial⟩⟩, ⟨f188_ok,
⟨f187_ok,
trivial, trivial⟩, ⟨f189_ok,
trivial, trivial⟩⟩⟩⟩, ⟨f200_ok,
⟨f196_ok,
⟨f193_ok,
trivial, ⟨f195_ok,
trivial, trivial⟩⟩, ⟨f198_ok,
⟨f197_ok,
trivial, trivial⟩, ⟨f199_ok,
trivial, trivial⟩⟩⟩, ⟨f203_ok,
⟨f201_ok,
trivial, ⟨f202_ok,
trivial, trivial⟩⟩, ⟨f205_ok,
⟨f204_ok,
trivial, trivial⟩, ⟨f206_ok,
trivial, trivial⟩⟩⟩⟩⟩, ⟨f223_ok,
⟨f216_ok,
⟨f210_ok,
⟨f208_ok,
trivial, ⟨f209_ok,
trivial, trivial⟩⟩, ⟨f214_ok,
⟨f213_ok,
trivial, trivial⟩, ⟨f215_ok,
trivial, trivial⟩⟩⟩, ⟨f219_ok,
⟨f217_ok,
trivial, ⟨f218_ok,
trivial, trivial⟩⟩, ⟨f221_ok,
⟨f220_ok,
trivial, trivial⟩, ⟨f222_ok,
trivial, trivial⟩⟩⟩⟩, ⟨f230_ok,
⟨f226_ok,
⟨f224_ok,
trivial, ⟨f225_ok,
trivial, trivial⟩⟩, ⟨f228_ok,
⟨f227_ok,
trivial, trivial⟩, ⟨f229_ok,
trivial, trivial⟩⟩⟩, ⟨f233_ok,
⟨f231_ok,
trivial, ⟨f232_ok,
trivial, trivial⟩⟩, ⟨f235_ok,
⟨f234_ok,
trivial, trivial⟩, ⟨f236_ok,
trivial, trivial⟩⟩⟩⟩⟩⟩⟩⟩,
⟨g102_0_ok,
⟨g42_9_ok,
⟨g32_0_ok,
⟨g20_3_ok,
⟨g11_1_ok,
⟨g6_0_ok,
⟨g4_0_ok,
⟨g3_0_ok,
trivial, trivial⟩, ⟨g4_1_ok,
trivial, ⟨g5_0_ok,
trivial, trivial⟩⟩⟩, ⟨g9_2_ok,
⟨g9_0_ok,
trivial, ⟨g9_1_ok,
trivial, trivial⟩⟩, ⟨g9_3_ok,
trivial, ⟨g11_0_ok,
trivial, trivial⟩⟩⟩⟩, ⟨g15_1_ok,
⟨g13_0_ok,
⟨g12_0_ok,
trivial, trivial⟩, ⟨g13_1_ok,
trivial, ⟨g15_0_ok,
trivial, trivial⟩⟩⟩, ⟨g20_0_ok,
⟨g16_0_ok,
trivial, ⟨g18_0_ok,
trivial, trivial⟩⟩, ⟨g20_1_ok,
trivial, ⟨g20_2_ok,
trivial, trivial⟩⟩⟩⟩⟩, ⟨g24_1_ok,
⟨g21_3_ok,
⟨g21_0_ok,
⟨g20_4_ok,
trivial, trivial⟩, ⟨g21_1_ok,
trivial, ⟨g21_2_ok,
trivial, trivial⟩⟩⟩, ⟨g21_6_ok,
⟨g21_4_ok,
trivial, ⟨g21_5_ok,
trivial, trivial⟩⟩, ⟨g23_0_ok,
trivial, ⟨g24_0_ok,
trivial, trivial⟩⟩⟩⟩, ⟨g25_0_ok,
⟨g24_4_ok,
⟨g24_2_ok,
trivial, ⟨g24_3_ok,
trivial, trivial⟩⟩, ⟨g24_5_ok,
trivial, ⟨g24_6_ok,
trivial, trivial⟩⟩⟩, ⟨g27_0_ok,
⟨g26_0_ok,
trivial, ⟨g26_1_ok,
trivial, trivial⟩⟩, ⟨g28_0_ok,
trivial, ⟨g29_0_ok,
trivial, trivial⟩⟩⟩⟩⟩⟩, ⟨g34_5_ok,
⟨g33_7_ok,
⟨g33_1_ok,
⟨g32_2_ok,
⟨g32_1_ok,
trivial, trivial⟩, ⟨g32_3_ok,
trivial, ⟨g33_0_ok,
trivial, trivial⟩⟩⟩, ⟨g33_4_ok,
⟨g33_2_ok,
trivial, ⟨g33_3_ok,
trivial, trivial⟩⟩, ⟨g33_5_ok,
trivial, ⟨g33_6_ok,
trivial, trivial⟩⟩⟩⟩, ⟨g33_13_ok,
⟨g33_10_ok,
⟨g33_8_ok,
trivial, ⟨g33_9_ok,
trivial, trivial⟩⟩, ⟨g33_11_ok,
trivial, ⟨g33_12_ok,
trivial, trivial⟩⟩⟩, ⟨g34_2_ok,
⟨g34_0_ok,
trivial, ⟨g34_1_ok,
trivial, trivial⟩⟩, ⟨g34_3_ok,
trivial, ⟨g34_4_ok,
trivial, trivial⟩⟩⟩⟩⟩, ⟨g38_3_ok,
⟨g37_0_ok,
⟨g35_1_ok,
⟨g35_0_ok,
trivial, trivial⟩, ⟨g35_2_ok,
trivial, ⟨g36_0_ok,
trivial, trivial⟩⟩⟩, ⟨g38_0_ok,
⟨g37_1_ok,
trivial, ⟨g37_2_ok,
trivial, trivial⟩⟩, ⟨g38_1_ok,
trivial, ⟨g38_2_ok,
trivial, trivial⟩⟩⟩⟩, ⟨g42_3_ok,
⟨g42_0_ok,
⟨g38_4_ok,
trivial, ⟨g41_0_ok,
trivial, trivial⟩⟩, ⟨g42_1_ok,
trivial, ⟨g42_2_ok,
trivial, trivial⟩⟩⟩, ⟨g42_6_ok,
⟨g42_4_ok,
trivial, ⟨g42_5_ok,
trivial, trivial⟩⟩, ⟨g42_7_ok,
trivial, ⟨g42_8_ok,
trivial, trivial⟩⟩⟩⟩⟩⟩⟩, ⟨g61_1_ok,
⟨g51_0_ok,
⟨g45_3_ok,
⟨g42_14_ok,
⟨g42_11_ok,
⟨g42_10_ok,
trivial, trivial⟩, ⟨g42_12_ok,
trivial, ⟨g42_13_ok,
trivial, trivial⟩⟩⟩, ⟨g45_0_ok,
⟨g42_15_ok,
trivial, ⟨g44_0_ok,
trivial, trivial⟩⟩, ⟨g45_1_ok,
trivial, ⟨g45_2_ok,
trivial, trivial⟩⟩⟩⟩, ⟨g46_3_ok,
⟨g46_0_ok,
⟨g45_4_ok,
trivial, trivial⟩, ⟨g46_1_ok,
trivial, ⟨g46_2_ok,
trivial, trivial⟩⟩⟩, ⟨g49_2_ok,
⟨g46_4_ok,
trivial, ⟨g49_0_ok,
trivial, trivial⟩⟩, ⟨g50_0_ok,
trivial, ⟨g50_1_ok,
trivial, trivial⟩⟩⟩⟩⟩, ⟨g59_0_ok,
⟨g51_5_ok,
⟨g51_2_ok,
⟨g51_1_ok,
trivial, trivial⟩, ⟨g51_3_ok,
trivial, ⟨g51_4_ok,
trivial, trivial⟩⟩⟩, ⟨g55_0_ok,
⟨g52_0_ok,
trivial, ⟨g53_0_ok,
trivial, trivial⟩⟩, ⟨g56_0_ok,
trivial, ⟨g57_0_ok,
trivial, trivial⟩⟩⟩⟩, ⟨g60_5_ok,
⟨g60_2_ok,
⟨g60_0_ok,
trivial, ⟨g60_1_ok,
trivial, trivial⟩⟩, ⟨g60_3_ok,
trivial, ⟨g60_4_ok,
trivial, trivial⟩⟩⟩, ⟨g60_8_ok,
⟨g60_6_ok,
trivial, ⟨g60_7_ok,
trivial, trivial⟩⟩, ⟨g60_9_ok,
trivial, ⟨g61_0_ok,
trivial, trivial⟩⟩⟩⟩⟩⟩, ⟨g78_0_ok,
⟨g70_0_ok,
⟨g65_0_ok,
⟨g61_3_ok,
⟨g61_2_ok,
trivial, trivial⟩, ⟨g61_4_ok,
trivial, ⟨g61_5_ok,
trivial, trivial⟩⟩⟩, ⟨g66_0_ok,
⟨g65_1_ok,
trivial, ⟨g65_2_ok,
trivial, trivial⟩⟩, ⟨g66_1_ok,
trivial, ⟨g66_2_ok,
trivial, trivial⟩⟩⟩⟩, ⟨g74_0_ok,
⟨g72_0_ok,
⟨g70_1_ok,
trivial, ⟨g70_2_ok,
trivial, trivial⟩⟩, ⟨g72_1_ok,
trivial, ⟨g72_2_ok,
trivial, trivial⟩⟩⟩, ⟨g76_0_ok,
⟨g74_1_ok,
trivial, ⟨g74_2_ok,
trivial, trivial⟩⟩, ⟨g76_1_ok,
trivial, ⟨g76_2_ok,
trivial, trivial⟩⟩⟩⟩⟩, ⟨g86_0_ok,
⟨g80_6_ok,
⟨g80_2_ok,
⟨g80_0_ok,
trivial, trivial⟩, ⟨g80_3_ok,
trivial, ⟨g80_5_ok,
trivial, trivial⟩⟩⟩, ⟨g81_2_ok,
⟨g80_8_ok,
trivial, ⟨g81_0_ok,
trivial, trivial⟩⟩, ⟨g84_0_ok,
trivial, ⟨g85_0_ok,
trivial, trivial⟩⟩⟩⟩, ⟨g93_1_ok,
⟨g90_0_ok,
⟨g87_0_ok,
trivial, ⟨g89_0_ok,
trivial, trivial⟩⟩, ⟨g91_0_ok,
trivial, ⟨g93_0_ok,
trivial, trivial⟩⟩⟩, ⟨g97_0_ok,
⟨g93_2_ok,
trivial, ⟨g96_0_ok,
trivial, trivial⟩⟩, ⟨g99_0_ok,
trivial, ⟨g100_0_ok,
trivial, trivial⟩⟩⟩⟩⟩⟩⟩⟩, ⟨g160_2_ok,
⟨g116_4_ok,
⟨g109_4_ok,
⟨g106_3_ok,
⟨g105_0_ok,
⟨g103_0_ok,
⟨g102_2_ok,
trivial, trivial⟩, ⟨g104_0_ok,
trivial, ⟨g104_1_ok,
trivial, trivial⟩⟩⟩, ⟨g106_0_ok,
⟨g105_1_ok,
trivial, ⟨g105_2_ok,
trivial, trivial⟩⟩, ⟨g106_1_ok,
trivial, ⟨g106_2_ok,
trivial, trivial⟩⟩⟩⟩, ⟨g108_0_ok,
⟨g107_1_ok,
⟨g107_0_ok,
trivial, trivial⟩, ⟨g107_2_ok,
trivial, ⟨g107_3_ok,
trivial, trivial⟩⟩⟩, ⟨g109_1_ok,
⟨g108_1_ok,
trivial, ⟨g109_0_ok,
trivial, trivial⟩⟩, ⟨g109_2_ok,
trivial, ⟨g109_3_ok,
trivial, trivial⟩⟩⟩⟩⟩, ⟨g114_2_ok,
⟨g113_0_ok,
⟨g110_0_ok,
⟨g109_5_ok,
trivial, trivial⟩, ⟨g111_0_ok,
trivial, ⟨g112_0_ok,
trivial, trivial⟩⟩⟩, ⟨g113_3_ok,
⟨g113_1_ok,
trivial, ⟨g113_2_ok,
trivial, trivial⟩⟩, ⟨g114_0_ok,
trivial, ⟨g114_1_ok,
trivial, trivial⟩⟩⟩⟩, ⟨g115_3_ok,
⟨g115_0_ok,
⟨g114_3_ok,
trivial, ⟨g114_4_ok,
trivial, trivial⟩⟩, ⟨g115_1_ok,
trivial, ⟨g115_2_ok,
trivial, trivial⟩⟩⟩, ⟨g116_1_ok,
⟨g115_4_ok,
trivial, ⟨g116_0_ok,
trivial, trivial⟩⟩, ⟨g116_2_ok,
trivial, ⟨g116_3_ok,
trivial, trivial⟩⟩⟩⟩⟩⟩, ⟨g140_3_ok,
⟨g123_1_ok,
⟨g117_0_ok,
⟨g116_6_ok,
⟨g116_5_ok,
trivial, trivial⟩, ⟨g116_7_ok,
trivial, ⟨g116_8_ok,
trivial, trivial⟩⟩⟩, ⟨g117_3_ok,
⟨g117_1_ok,
trivial, ⟨g117_2_ok,
trivial, trivial⟩⟩, ⟨g117_4_ok,
trivial, ⟨g123_0_ok,
trivial, trivial⟩⟩⟩⟩, ⟨g136_0_ok,
⟨g132_0_ok,
⟨g123_2_ok,
trivial, ⟨g131_0_ok,
trivial, trivial⟩⟩, ⟨g132_1_ok,
trivial, ⟨g132_2_ok,
trivial, trivial⟩⟩⟩, ⟨g140_0_ok,
⟨g136_1_ok,
trivial, ⟨g136_2_ok,
trivial, trivial⟩⟩, ⟨g140_1_ok,
trivial, ⟨g140_2_ok,
trivial, trivial⟩⟩⟩⟩⟩, ⟨g148_0_ok,
⟨g141_3_ok,
⟨g141_0_ok,
⟨g140_4_ok,
trivial, trivial⟩, ⟨g141_1_ok,
trivial, ⟨g141_2_ok,
trivial, trivial⟩⟩⟩, ⟨g145_0_ok,
⟨g141_4_ok,
trivial, ⟨g141_5_ok,
trivial, trivial⟩⟩, ⟨g145_1_ok,
trivial, ⟨g145_2_ok,
trivial, trivial⟩⟩⟩⟩, ⟨g157_0_ok,
⟨g152_0_ok,
⟨g149_0_ok,
trivial, ⟨g150_0_ok,
trivial, trivial⟩⟩, ⟨g153_0_ok,
trivial, ⟨g154_0_ok,
trivial, trivial⟩⟩⟩, ⟨g159_1_ok,
⟨g158_0_ok,
trivial, ⟨g159_0_ok,
trivial, trivial⟩⟩, ⟨g160_0_ok,
trivial, ⟨g160_1_ok,
trivial, trivial⟩⟩⟩⟩⟩⟩⟩, ⟨g220_0_ok,
⟨g198_0_ok,
⟨g174_1_ok,
⟨g166_1_ok,
⟨g161_0_ok,
⟨g160_3_ok,
trivial, trivial⟩, ⟨g162_0_ok,
trivial, ⟨g166_0_ok,
trivial, trivial⟩⟩⟩, ⟨g170_1_ok,
⟨g166_2_ok,
trivial, ⟨g170_0_ok,
trivial, trivial⟩⟩, ⟨g170_2_ok,
trivial, ⟨g174_0_ok,
trivial, trivial⟩⟩⟩⟩, ⟨g178_1_ok,
⟨g177_0_ok,
⟨g174_2_ok,
trivial, trivial⟩, ⟨g177_1_ok,
trivial, ⟨g178_0_ok,
trivial, trivial⟩⟩⟩, ⟨g179_0_ok,
⟨g178_2_ok,
trivial, ⟨g178_3_ok,
trivial, trivial⟩⟩, ⟨g196_0_ok,
trivial, ⟨g197_0_ok,
trivial, trivial⟩⟩⟩⟩⟩, ⟨g214_4_ok,
⟨g213_0_ok,
⟨g201_0_ok,
⟨g199_0_ok,
trivial, trivial⟩, ⟨g201_1_ok,
trivial, ⟨g201_2_ok,
trivial, trivial⟩⟩⟩, ⟨g214_1_ok,
⟨g213_1_ok,
trivial, ⟨g214_0_ok,
trivial, trivial⟩⟩, ⟨g214_2_ok,
trivial, ⟨g214_3_ok,
trivial, trivial⟩⟩⟩⟩, ⟨g218_0_ok,
⟨g217_0_ok,
⟨g214_5_ok,
trivial, ⟨g216_0_ok,
trivial, trivial⟩⟩, ⟨g217_1_ok,
trivial, ⟨g217_2_ok,
trivial, trivial⟩⟩⟩, ⟨g219_0_ok,
⟨g218_1_ok,
trivial, ⟨g218_2_ok,
trivial, trivial⟩⟩, ⟨g219_1_ok,
trivial, ⟨g219_2_ok,
trivial, trivial⟩⟩⟩⟩⟩⟩, ⟨g228_4_ok,
⟨g224_1_ok,
⟨g221_2_ok,
⟨g220_2_ok,
⟨g220_1_ok,
trivial, trivial⟩, ⟨g221_0_ok,
trivial, ⟨g221_1_ok,
trivial, trivial⟩⟩⟩, ⟨g222_2_ok,
⟨g222_0_ok,
trivial, ⟨g222_1_ok,
trivial, trivial⟩⟩, ⟨g223_0_ok,
trivial, ⟨g224_0_ok,
trivial, trivial⟩⟩⟩⟩, ⟨g226_3_ok,
⟨g226_0_ok,
⟨g224_2_ok,
trivial, ⟨g224_3_ok,
trivial, trivial⟩⟩, ⟨g226_1_ok,
trivial, ⟨g226_2_ok,
trivial, trivial⟩⟩⟩, ⟨g228_1_ok,
⟨g227_0_ok,
trivial, ⟨g228_0_ok,
trivial, trivial⟩⟩, ⟨g228_2_ok,
trivial, ⟨g228_3_ok,
trivial, trivial⟩⟩⟩⟩⟩, ⟨g230_4_ok,
⟨g229_4_ok,
⟨g229_1_ok,
⟨g229_0_ok,
trivial, trivial⟩, ⟨g229_2_ok,
trivial, ⟨g229_3_ok,
trivial, trivial⟩⟩⟩, ⟨g230_1_ok,
⟨g229_5_ok,
trivial, ⟨g230_0_ok,
trivial, trivial⟩⟩, ⟨g230_2_ok,
trivial, ⟨g230_3_ok,
trivial, trivial⟩⟩⟩⟩, ⟨g234_0_ok,
⟨g230_7_ok,
⟨g230_5_ok,
trivial, ⟨g230_6_ok,
trivial, trivial⟩⟩, ⟨g230_8_ok,
trivial, ⟨g231_0_ok,
trivial, trivial⟩⟩⟩, ⟨g236_0_ok,
⟨g234_1_ok,
trivial, ⟨g234_2_ok,
trivial, trivial⟩⟩, ⟨g236_1_ok,
trivial, ⟨g236_2_ok,
trivial, trivial⟩⟩⟩⟩⟩⟩⟩⟩⟩,
⟨⟨l80_1_none_ok, fail_le, all_nil⟩,
⟨⟨l49_0_none_ok, fail_le, all_nil⟩,
trivial, ⟨⟨l80_0_none_ok, fail_le, all_nil⟩,
trivial, trivial⟩⟩, ⟨⟨l81_0_none_ok, fail_le, all_nil⟩,
⟨⟨l80_2_none_ok, fail_le, all_nil⟩,
trivial, trivial⟩, ⟨⟨l102_0_none_ok, fail_le, all_nil⟩,
trivial, trivial⟩⟩⟩⟩
end Go.Proofs.YtfiipajgdhafaaaGreat.T
