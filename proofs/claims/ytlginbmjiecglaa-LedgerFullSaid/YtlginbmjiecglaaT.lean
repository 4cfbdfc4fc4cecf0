/- The tables, printed by our own program (wip/tools/gen3.lean). -/
import Derived.Test.YtlginbmjiecglaaT1
namespace Go.Proofs.Ytlginbmjiecglaa.T
open Go Go.Abs Go.Proofs.Ytlginbmjiecglaa
set_option maxRecDepth 10000
noncomputable def tFn : BT (List AV → CM) := (.node 25 f25
(.node 13 f13
(.node 7 f7
(.node 4 f4
(.node 2 f2
.leaf (.node 3 f3
.leaf .leaf)) (.node 5 f5
.leaf (.node 6 f6
.leaf .leaf))) (.node 10 f10
(.node 8 f8
.leaf (.node 9 f9
.leaf .leaf)) (.node 11 f11
.leaf (.node 12 f12
.leaf .leaf)))) (.node 19 f19
(.node 16 f16
(.node 14 f14
.leaf (.node 15 f15
.leaf .leaf)) (.node 17 f17
.leaf (.node 18 f18
.leaf .leaf))) (.node 22 f22
(.node 20 f20
.leaf (.node 21 f21
.leaf .leaf)) (.node 23 f23
.leaf (.node 24 f24
.leaf .leaf))))) (.node 44 f44
(.node 35 f35
(.node 32 f32
(.node 28 f28
.leaf (.node 31 f31
.leaf .leaf)) (.node 33 f33
.leaf (.node 34 f34
.leaf .leaf))) (.node 40 f40
(.node 36 f36
.leaf (.node 38 f38
.leaf .leaf)) (.node 41 f41
.leaf (.node 42 f42
.leaf .leaf)))) (.node 53 f53
(.node 50 f50
(.node 46 f46
.leaf (.node 49 f49
.leaf .leaf)) (.node 51 f51
.leaf (.node 52 f52
.leaf .leaf))) (.node 56 f56
(.node 54 f54
.leaf (.node 55 f55
.leaf .leaf)) (.node 57 f57
.leaf (.node 58 f58
.leaf .leaf))))))
noncomputable def tGo : BT (List AV → CM) := (.node 65539 g16_3
(.node 28672 g7_0
(.node 12293 g3_5
(.node 12290 g3_2
(.node 12288 g3_0
.leaf (.node 12289 g3_1
.leaf .leaf)) (.node 12291 g3_3
.leaf (.node 12292 g3_4
.leaf .leaf))) (.node 12296 g3_8
(.node 12294 g3_6
.leaf (.node 12295 g3_7
.leaf .leaf)) (.node 20480 g5_0
(.node 16384 g4_0
.leaf .leaf) (.node 24576 g6_0
.leaf .leaf)))) (.node 49153 g12_1
(.node 36864 g9_0
(.node 32768 g8_0
.leaf (.node 32769 g8_1
.leaf .leaf)) (.node 45056 g11_0
(.node 40960 g10_0
.leaf .leaf) (.node 49152 g12_0
.leaf .leaf))) (.node 61440 g15_0
(.node 49154 g12_2
.leaf (.node 57344 g14_0
.leaf .leaf)) (.node 65537 g16_1
(.node 65536 g16_0
.leaf .leaf) (.node 65538 g16_2
.leaf .leaf))))) (.node 135168 g33_0
(.node 102401 g25_1
(.node 81920 g20_0
(.node 69632 g17_0
.leaf (.node 77824 g19_0
.leaf .leaf)) (.node 90112 g22_0
(.node 86016 g21_0
.leaf .leaf) (.node 102400 g25_0
.leaf .leaf))) (.node 114689 g28_1
(.node 102402 g25_2
.leaf (.node 114688 g28_0
.leaf .leaf)) (.node 126976 g31_0
(.node 114690 g28_2
.leaf .leaf) (.node 131072 g32_0
.leaf .leaf)))) (.node 229378 g56_2
(.node 225281 g55_1
(.node 139264 g34_0
.leaf (.node 225280 g55_0
.leaf .leaf)) (.node 229376 g56_0
(.node 225282 g55_2
.leaf .leaf) (.node 229377 g56_1
.leaf .leaf))) (.node 233474 g57_2
(.node 233472 g57_0
.leaf (.node 233473 g57_1
.leaf .leaf)) (.node 237569 g58_1
(.node 237568 g58_0
.leaf .leaf) (.node 237570 g58_2
.leaf .leaf))))))
noncomputable def tAf : BT ((List AV → CM) × (List AV → CM) × List (Nat × (List AV → CM))) := .leaf
noncomputable def T : Tb := ⟨tFn, tGo, tAf⟩
theorem T_ok {H : FuncId → Option (List AV → Mem → R)} (h : ∀ f, (tFn.find f).isSome = true → H f = none) : T.Ok (EH H) Mk Nk := ⟨⟨(f25_ok (h 25 rfl)).le,
⟨(f13_ok (h 13 rfl)).le,
⟨(f7_ok (h 7 rfl)).le,
⟨(f4_ok (h 4 rfl)).le,
⟨(f2_ok (h 2 rfl)).le,
 trivial, ⟨(f3_ok (h 3 rfl)).le,
 trivial, trivial⟩⟩, ⟨(f5_ok (h 5 rfl)).le,
 trivial, ⟨(f6_ok (h 6 rfl)).le,
 trivial, trivial⟩⟩⟩, ⟨(f10_ok (h 10 rfl)).le,
⟨(f8_ok (h 8 rfl)).le,
 trivial, ⟨(f9_ok (h 9 rfl)).le,
 trivial, trivial⟩⟩, ⟨(f11_ok (h 11 rfl)).le,
 trivial, ⟨(f12_ok (h 12 rfl)).le,
 trivial, trivial⟩⟩⟩⟩, ⟨(f19_ok (h 19 rfl)).le,
⟨(f16_ok (h 16 rfl)).le,
⟨(f14_ok (h 14 rfl)).le,
 trivial, ⟨(f15_ok (h 15 rfl)).le,
 trivial, trivial⟩⟩, ⟨(f17_ok (h 17 rfl)).le,
 trivial, ⟨(f18_ok (h 18 rfl)).le,
 trivial, trivial⟩⟩⟩, ⟨(f22_ok (h 22 rfl)).le,
⟨(f20_ok (h 20 rfl)).le,
 trivial, ⟨(f21_ok (h 21 rfl)).le,
 trivial, trivial⟩⟩, ⟨(f23_ok (h 23 rfl)).le,
 trivial, ⟨(f24_ok (h 24 rfl)).le,
 trivial, trivial⟩⟩⟩⟩⟩, ⟨(f44_ok (h 44 rfl)).le,
⟨(f35_ok (h 35 rfl)).le,
⟨(f32_ok (h 32 rfl)).le,
⟨(f28_ok (h 28 rfl)).le,
 trivial, ⟨(f31_ok (h 31 rfl)).le,
 trivial, trivial⟩⟩, ⟨(f33_ok (h 33 rfl)).le,
 trivial, ⟨(f34_ok (h 34 rfl)).le,
 trivial, trivial⟩⟩⟩, ⟨(f40_ok (h 40 rfl)).le,
⟨(f36_ok (h 36 rfl)).le,
 trivial, ⟨(f38_ok (h 38 rfl)).le,
 trivial, trivial⟩⟩, ⟨(f41_ok (h 41 rfl)).le,
 trivial, ⟨(f42_ok (h 42 rfl)).le,
 trivial, trivial⟩⟩⟩⟩, ⟨(f53_ok (h 53 rfl)).le,
⟨(f50_ok (h 50 rfl)).le,
⟨(f46_ok (h 46 rfl)).le,
 trivial, ⟨(f49_ok (h 49 rfl)).le,
 trivial, trivial⟩⟩, ⟨(f51_ok (h 51 rfl)).le,
 trivial, ⟨(f52_ok (h 52 rfl)).le,
 trivial, trivial⟩⟩⟩, ⟨(f56_ok (h 56 rfl)).le,
⟨(f54_ok (h 54 rfl)).le,
 trivial, ⟨(f55_ok (h 55 rfl)).le,
 trivial, trivial⟩⟩, ⟨(f57_ok (h 57 rfl)).le,
 trivial, ⟨(f58_ok (h 58 rfl)).le,
 trivial, trivial⟩⟩⟩⟩⟩⟩,
⟨g16_3_ok.le,
⟨g7_0_ok.le,
⟨g3_5_ok.le,
⟨g3_2_ok.le,
⟨g3_0_ok.le,
 trivial, ⟨g3_1_ok.le,
 trivial, trivial⟩⟩, ⟨g3_3_ok.le,
 trivial, ⟨g3_4_ok.le,
 trivial, trivial⟩⟩⟩, ⟨g3_8_ok.le,
⟨g3_6_ok.le,
 trivial, ⟨g3_7_ok.le,
 trivial, trivial⟩⟩, ⟨g5_0_ok.le,
⟨g4_0_ok.le,
 trivial, trivial⟩, ⟨g6_0_ok.le,
 trivial, trivial⟩⟩⟩⟩, ⟨g12_1_ok.le,
⟨g9_0_ok.le,
⟨g8_0_ok.le,
 trivial, ⟨g8_1_ok.le,
 trivial, trivial⟩⟩, ⟨g11_0_ok.le,
⟨g10_0_ok.le,
 trivial, trivial⟩, ⟨g12_0_ok.le,
 trivial, trivial⟩⟩⟩, ⟨g15_0_ok.le,
⟨g12_2_ok.le,
 trivial, ⟨g14_0_ok.le,
 trivial, trivial⟩⟩, ⟨g16_1_ok.le,
⟨g16_0_ok.le,
 trivial, trivial⟩, ⟨g16_2_ok.le,
 trivial, trivial⟩⟩⟩⟩⟩, ⟨g33_0_ok.le,
⟨g25_1_ok.le,
⟨g20_0_ok.le,
⟨g17_0_ok.le,
 trivial, ⟨g19_0_ok.le,
 trivial, trivial⟩⟩, ⟨g22_0_ok.le,
⟨g21_0_ok.le,
 trivial, trivial⟩, ⟨g25_0_ok.le,
 trivial, trivial⟩⟩⟩, ⟨g28_1_ok.le,
⟨g25_2_ok.le,
 trivial, ⟨g28_0_ok.le,
 trivial, trivial⟩⟩, ⟨g31_0_ok.le,
⟨g28_2_ok.le,
 trivial, trivial⟩, ⟨g32_0_ok.le,
 trivial, trivial⟩⟩⟩⟩, ⟨g56_2_ok.le,
⟨g55_1_ok.le,
⟨g34_0_ok.le,
 trivial, ⟨g55_0_ok.le,
 trivial, trivial⟩⟩, ⟨g56_0_ok.le,
⟨g55_2_ok.le,
 trivial, trivial⟩, ⟨g56_1_ok.le,
 trivial, trivial⟩⟩⟩, ⟨g57_2_ok.le,
⟨g57_0_ok.le,
 trivial, ⟨g57_1_ok.le,
 trivial, trivial⟩⟩, ⟨g58_1_ok.le,
⟨g58_0_ok.le,
 trivial, trivial⟩, ⟨g58_2_ok.le,
 trivial, trivial⟩⟩⟩⟩⟩⟩,
 trivial⟩
end Go.Proofs.Ytlginbmjiecglaa.T
