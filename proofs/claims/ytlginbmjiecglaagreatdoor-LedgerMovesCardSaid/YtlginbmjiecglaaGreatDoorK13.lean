/- Texts of one claim, put together. -/
import Derived.Test.YtlginbmjiecglaaGreatDoorK0
import Derived.Test.YtlginbmjiecglaaGreatDoorK12
namespace Go.Proofs.YtlginbmjiecglaaGreatDoor.T
section
open Go Go.Abs Go.Proofs.YtlginbmjiecglaaGreatDoor
set_option maxRecDepth 10000
noncomputable section
variable {H:FuncId→Option (List AV→Mem→R)}
def g4_0:List AV→CM:=a4 fun t1 t2 t3 t9=>
 zb .rem 26 t1 (.int .u64 6) fun x0=>
 zb .add 26 (.int .u64 1) x0 fun x1=>
 zb .rem 26 t2 (.int .u64 6) fun x2=>
 zb .add 26 (.int .u64 1) x2 fun x3=>
 zk 16 [t9] fun x4=>
 za [(.sl none 0 0 0 true),(.sl none 0 0 0 true),(.sl none 0 0 0 true),(.int .u64 0)] fun x5=>
 zs x5 x4 4<|
 zk 17 [t9,x1] fun x7=>
 ze 0 x7 fun x8=>
 ze 1 x7 fun x9=>
 za [(.int .i64 0),(.int .u64 0),(.int .i64 0)] fun x10=>
 zs x10 x8 3<|
 zk 17 [t9,x3] fun x12=>
 ze 0 x12 fun x13=>
 ze 1 x12 fun x14=>
 za [(.int .i64 0),(.int .u64 0),(.int .i64 0)] fun x15=>
 zs x15 x13 3<|
 zm fun m17=>
 zk 10 [t3,(.int .i64 4000)] fun x18=>
 zb .add 3 (.int .i64 1) x18 fun x20=>
 zf 45 1 x10 fun x21=>
 zl 3 x21 fun x22=>
 zx 3 x21 m17 x22<|
 zk 18 [x20,x22] fun x24=>
 za [(.int .i64 0),(.int .u64 0),(.int .i64 0)] fun x26=>
 zs x26 x24 3<|
 zl 45 x26 fun x30=>
 zk 19 [t9,x1,x3,x30] fun x31=>
 zk 16 [t9] fun x32=>
 za [(.sl none 0 0 0 true),(.sl none 0 0 0 true),(.sl none 0 0 0 true),(.int .u64 0)] fun x33=>
 zs x33 x32 4<|
 zb .neq 35 x9 (.int .i64 0) fun x35=>
 zI x35 (
 zb .eql 35 x31 (.int .i64 40) fun x36=>
 zR x36) (
 zb .neq 35 x14 (.int .i64 0) fun x37=>
 zC x37 (
 zb .eql 35 x31 (.int .i64 40) fun x38=>
 zR x38) (
 zg 16385 [x1,x3,t9,x5,x10,x15,x26,x31,x33]))
theorem g4_0_ok:OkG H g4_0 16384:=c4 fun _ _ _ _ _=>by kernel_rfl
def g4_1:List AV→CM:=a9 fun t1 t2 t9 t11 t12 t14 t16 t17 t18=>
 zb .neq 35 t17 (.int .i64 0) fun x0=>
 zC x0 (
 zb .eql 35 t17 (.int .i64 45) fun x1=>
 zb .eql 26 t1 t2 fun x2=>
 zb .eql 4 x1 x2 fun x3=>
 zI x3 (
 zl 28 t11 fun x4=>
 zl 28 t18 fun x5=>
 zk 15 [x4,x5] fun x6=>
 zI x6 (
 zb .neq 35 t17 (.int .i64 42) fun x7=>
 zI x7 (
 zR (.bool true)) (
 zf 45 0 t12 fun x8=>
 zl 43 x8 fun x9=>
 zf 45 0 t16 fun x10=>
 zl 43 x10 fun x11=>
 zk 20 [x9,x11] fun x12=>
 zb .lss 3 x12 (.int .i64 0) fun x13=>
 zR x13)) (
 zR (.bool false))) (
 zR (.bool false))) (
 zg 16386 [t1,t2,t9,t11,t12,t14,t16,t18])
theorem g4_1_ok:OkG H g4_1 16385:=c9 fun _ _ _ _ _ _ _ _ _ _=>by kernel_rfl
def g4_2:List AV→CM:=a8 fun t1 t2 t9 t11 t12 t14 t16 t18=>
 zk 17 [t9,t1] fun x0=>
 ze 0 x0 fun x1=>
 ze 1 x0 fun _=>
 za [(.int .i64 0),(.int .u64 0),(.int .i64 0)] fun x3=>
 zs x3 x1 3<|
 zk 17 [t9,t2] fun x5=>
 ze 0 x5 fun x6=>
 ze 1 x5 fun _=>
 za [(.int .i64 0),(.int .u64 0),(.int .i64 0)] fun x8=>
 zs x8 x6 3<|
 zf 45 0 x3 fun x10=>
 zl 43 x10 fun x11=>
 zf 45 0 t16 fun x12=>
 zl 43 x12 fun x13=>
 zk 21 [x11,x13] fun x14=>
 ze 0 x14 fun x15=>
 ze 1 x14 fun _=>
 za [(.int .i64 0),(.int .u64 0)] fun x17=>
 zs x17 x15 2<|
 zf 45 0 x8 fun x19=>
 zl 43 x19 fun x20=>
 zf 45 0 t16 fun x21=>
 zl 43 x21 fun x22=>
 zk 22 [x20,x22] fun x23=>
 ze 0 x23 fun x24=>
 ze 1 x23 fun _=>
 za [(.int .i64 0),(.int .u64 0)] fun x26=>
 zs x26 x24 2<|
 zg 16387 [t1,t2,t11,t12,t14,t18,x17,x26,(.int .i64 0)]
theorem g4_2_ok:OkG H g4_2 16386:=c8 fun _ _ _ _ _ _ _ _ _=>by kernel_rfl
def g4_3:List AV→CM:=a9 fun t1 t2 t11 t12 t14 t18 t23 t25 t27=>
 zf 28 2 t11 fun x0=>
 zl 25 x0 fun x1=>
 zt 25 x1 fun x2=>
 zb .lss 3 t27 x2 fun x3=>
 zC x3 (
 zg 16388 [t1,t2,t11,t12,t14,t18,t23,t25,t27]) (
 zg 16390 [t11,t12,t14,t18,t23,t25])
theorem g4_3_ok:OkG H g4_3 16387:=c9 fun _ _ _ _ _ _ _ _ _ _=>by kernel_rfl
def g4_4:List AV→CM:=a9 fun t1 t2 t11 t12 t14 t18 t23 t25 t27=>
 zf 28 2 t11 fun x0=>
 zl 25 x0 fun x1=>
 zi 25 x1 t27 fun x2=>
 zl 54 x2 fun x3=>
 za [(.int .u64 0),(.str []),(.int .i64 0),(.int .u64 0)] fun x4=>
 zs x4 x3 4<|
 zf 28 2 t18 fun x6=>
 zl 25 x6 fun x7=>
 zt 25 x7 fun x8=>
 zf 28 2 t11 fun x9=>
 zl 25 x9 fun x10=>
 zt 25 x10 fun x11=>
 zb .neq 3 x8 x11 fun x12=>
 zI x12 (
 zR (.bool false)) (
 zf 54 0 x4 fun x13=>
 zl 26 x13 fun x14=>
 zb .neq 26 x14 t1 fun x15=>
 zI x15 (
 zf 54 0 x4 fun x16=>
 zl 26 x16 fun x17=>
 zb .neq 26 x17 t2 fun x18=>
 zI x18 (
 zf 28 2 t18 fun x19=>
 zl 25 x19 fun x20=>
 zi 25 x20 t27 fun x21=>
 zl 54 x21 fun x22=>
 zl 54 x4 fun x23=>
 zb .neq 54 x22 x23 fun x24=>
 zC x24 (
 zR (.bool false)) (
 zg 16389 [t1,t2,t11,t12,t14,t18,t23,t25,t27])) (
 zg 16389 [t1,t2,t11,t12,t14,t18,t23,t25,t27])) (
 zg 16389 [t1,t2,t11,t12,t14,t18,t23,t25,t27]))
theorem g4_4_ok:OkG H g4_4 16388:=c9 fun _ _ _ _ _ _ _ _ _ _=>by kernel_rfl
def g4_5:List AV→CM:=a9 fun t1 t2 t11 t12 t14 t18 t23 t25 t27=>
 zb .add 3 t27 (.int .i64 1) fun x0=>
 zg 16387 [t1,t2,t11,t12,t14,t18,t23,t25,x0]
theorem g4_5_ok:OkG H g4_5 16389:=c9 fun _ _ _ _ _ _ _ _ _ _=>by kernel_rfl
def g4_6:List AV→CM:=a6 fun t11 t12 t14 t18 t23 t25=>
 zl 43 t23 fun x0=>
 zf 45 0 t12 fun x1=>
 zl 43 x1 fun x2=>
 zb .eql 43 x0 x2 fun x3=>
 zI x3 (
 zl 43 t25 fun x4=>
 zf 45 0 t14 fun x5=>
 zl 43 x5 fun x6=>
 zb .eql 43 x4 x6 fun x7=>
 zI x7 (
 zf 28 0 t11 fun x8=>
 zl 23 x8 fun x9=>
 zt 23 x9 fun x10=>
 zf 28 0 t18 fun x11=>
 zl 23 x11 fun x12=>
 zt 23 x12 fun x13=>
 zb .eql 3 x10 x13 fun x14=>
 zI x14 (
 zf 28 0 t11 fun x15=>
 zl 23 x15 fun x16=>
 zt 23 x16 fun x17=>
 zb .eql 3 x17 (.int .i64 0) fun x18=>
 zI x18 (
 zR (.bool true)) (
 zf 28 0 t11 fun x19=>
 zl 23 x19 fun x20=>
 zi 23 x20 (.int .i64 0) fun x21=>
 zl 56 x21 fun x22=>
 zf 28 0 t18 fun x23=>
 zl 23 x23 fun x24=>
 zi 23 x24 (.int .i64 0) fun x25=>
 zl 56 x25 fun x26=>
 zb .eql 56 x22 x26 fun x27=>
 zR x27)) (
 zR (.bool false))) (
 zR (.bool false))) (
 zR (.bool false))
theorem g4_6_ok:OkG H g4_6 16390:=c6 fun _ _ _ _ _ _ _=>by kernel_rfl
def f4:List AV→CM:=a4 fun a0 a1 a2 a3=>
 zk 9 [a0,(.int .i64 8)] fun x0=>
 zk 12 [x0,(.int .i64 8)] fun x1=>
 ze 0 x1 fun x2=>
 ze 1 x1 fun x3=>
 zk 13 [] fun x4=>
 zu x4 fun x5=>
 zI x5 (
 zR (.bool false)) (
 zb .neq 35 x3 (.int .i64 0) fun x6=>
 zI x6 (
 zR (.bool false)) (
 zb .eql 34 x2 (.ptr none) fun x7=>
 zC x7 (
 zR (.bool false)) (
 zg 16384 [a1,a2,a3,x2])))
theorem f4_ok (h:H 4=none):OkF H f4 4:=e4 h rfl fun _ _ _ _ _=>by kernel_rfl
def g9_0:List AV→CM:=a4 fun t0 t4 t5 t6=>
 zt 22 t0 fun x0=>
 zb .lss 3 t6 x0 fun x1=>
 zI x1 (
 zb .lss 3 t6 (.int .i64 60) fun x2=>
 zC x2 (
 zg 36865 [t0,t4,t5,t6]) (
 zg 36867 [t4,t5])) (
 zg 36867 [t4,t5])
theorem g9_0_ok:OkG H g9_0 36864:=c4 fun _ _ _ _ _=>by kernel_rfl
def g9_1:List AV→CM:=a4 fun t0 t4 t5 t6=>
 zi 22 t0 t6 fun x0=>
 zl 77 x0 fun x1=>
 za [(.int .i64 0),(.int .i64 0),(.int .i64 0),(.int .i64 0)] fun x2=>
 zs x2 x1 4<|
 zf 77 1 x2 fun x4=>
 zl 3 x4 fun x5=>
 zk 10 [x5,(.int .i64 5)] fun x6=>
 zb .add 3 (.int .i64 1) x6 fun x7=>
 zc 3 26 x7 fun x8=>
 zf 77 2 x2 fun x9=>
 zl 3 x9 fun x10=>
 zk 10 [x10,(.int .i64 5)] fun x11=>
 zb .add 3 (.int .i64 1) x11 fun x12=>
 zc 3 26 x12 fun x13=>
 zf 77 0 x2 fun x14=>
 zl 3 x14 fun x15=>
 zk 10 [x15,(.int .i64 9)] fun x16=>
 zb .eql 3 x16 (.int .i64 0) fun x17=>
 zC x17 (
 zf 77 1 x2 fun x18=>
 zl 3 x18 fun x19=>
 zm fun m20=>
 zk 10 [x19,(.int .i64 3)] fun x21=>
 zi 79 (.ptr (some ⟨1,0⟩)) x21 fun x23=>
 zl 9 x23 fun x24=>
 zf 77 3 x2 fun x25=>
 zl 3 x25 fun x26=>
 zx 3 x25 m20 x26<|
 zk 10 [x26,(.int .i64 4)] fun x28=>
 zm fun m29=>
 zx 9 x23 m29 x24<|
 zc 3 26 x28 fun x30=>
 zk 27 [t5,x24,x30] fun _=>
 zg 36866 [t0,t4,t5,t6]) (
 zb .eql 3 x16 (.int .i64 1) fun x34=>
 zC x34 (
 zC x34 (
 zf 77 1 x2 fun x35=>
 zl 3 x35 fun x36=>
 zk 10 [x36,(.int .i64 3)] fun x37=>
 zi 79 (.ptr (some ⟨1,0⟩)) x37 fun x38=>
 zl 9 x38 fun x39=>
 zk 28 [t5,x39] fun _=>
 zg 36866 [t0,t4,t5,t6]) (
 zb .eql 3 x16 (.int .i64 3) fun x41=>
 zC x41 (
 zC x41 (
 zf 77 3 x2 fun x42=>
 zl 3 x42 fun x43=>
 zk 30 [t5,x8,x43] fun x44=>
 zk 29 [t5,x8,x44] fun _=>
 zg 36866 [t0,t4,t5,t6]) (
 zb .eql 3 x16 (.int .i64 5) fun x46=>
 zC x46 (
 zf 77 3 x2 fun x47=>
 zl 3 x47 fun x48=>
 zk 30 [t5,x8,x48] fun x49=>
 zk 31 [t5,x8,x49] fun _=>
 zg 36866 [t0,t4,t5,t6]) (
 zb .eql 3 x16 (.int .i64 6) fun x51=>
 zC x51 (
 zf 77 3 x2 fun x52=>
 zl 3 x52 fun x53=>
 zk 30 [t5,x8,x53] fun x54=>
 zk 32 [t5,x8,x13,x54] fun _=>
 zg 36866 [t0,t4,t5,t6]) (
 zb .eql 3 x16 (.int .i64 7) fun x56=>
 zC x56 (
 zf 77 1 x2 fun x57=>
 zl 3 x57 fun x58=>
 zm fun m59=>
 zk 10 [x58,(.int .i64 3)] fun x60=>
 zi 79 (.ptr (some ⟨1,0⟩)) x60 fun x62=>
 zl 9 x62 fun x63=>
 zf 77 2 x2 fun x64=>
 zl 3 x64 fun x65=>
 zx 3 x64 m59 x65<|
 zm fun m66=>
 zk 10 [x65,(.int .i64 3)] fun x67=>
 zm fun m68=>
 zx 9 x62 m68 x63<|
 zi 79 (.ptr (some ⟨1,0⟩)) x67 fun x69=>
 zl 9 x69 fun x70=>
 zf 77 3 x2 fun x71=>
 zl 3 x71 fun x72=>
 zx 3 x71 m66 x72<|
 zx 3 x71 m59 x72<|
 zk 26 [x72] fun x74=>
 zm fun m75=>
 zx 9 x69 m75 x70<|
 zx 9 x62 m75 x63<|
 zk 33 [t5,x63,x70,x74] fun _=>
 zg 36866 [t0,t4,t5,t6]) (
 zf 77 3 x2 fun x79=>
 zl 3 x79 fun x80=>
 zk 30 [t5,x8,x80] fun x81=>
 zk 34 [t5,x8,x13,x81] fun _=>
 zg 36866 [t0,t4,t5,t6]))))) (
 zb .eql 3 x16 (.int .i64 4) fun x83=>
 zC x83 (
 zf 77 3 x2 fun x84=>
 zl 3 x84 fun x85=>
 zk 30 [t5,x8,x85] fun x86=>
 zk 29 [t5,x8,x86] fun _=>
 zg 36866 [t0,t4,t5,t6]) (
 zb .eql 3 x16 (.int .i64 5) fun x88=>
 zC x88 (
 zf 77 3 x2 fun x89=>
 zl 3 x89 fun x90=>
 zk 30 [t5,x8,x90] fun x91=>
 zk 31 [t5,x8,x91] fun _=>
 zg 36866 [t0,t4,t5,t6]) (
 zb .eql 3 x16 (.int .i64 6) fun x93=>
 zC x93 (
 zf 77 3 x2 fun x94=>
 zl 3 x94 fun x95=>
 zk 30 [t5,x8,x95] fun x96=>
 zk 32 [t5,x8,x13,x96] fun _=>
 zg 36866 [t0,t4,t5,t6]) (
 zb .eql 3 x16 (.int .i64 7) fun x98=>
 zC x98 (
 zf 77 1 x2 fun x99=>
 zl 3 x99 fun x100=>
 zm fun m101=>
 zk 10 [x100,(.int .i64 3)] fun x102=>
 zi 79 (.ptr (some ⟨1,0⟩)) x102 fun x104=>
 zl 9 x104 fun x105=>
 zf 77 2 x2 fun x106=>
 zl 3 x106 fun x107=>
 zx 3 x106 m101 x107<|
 zm fun m108=>
 zk 10 [x107,(.int .i64 3)] fun x109=>
 zm fun m110=>
 zx 9 x104 m110 x105<|
 zi 79 (.ptr (some ⟨1,0⟩)) x109 fun x111=>
 zl 9 x111 fun x112=>
 zf 77 3 x2 fun x113=>
 zl 3 x113 fun x114=>
 zx 3 x113 m108 x114<|
 zx 3 x113 m101 x114<|
 zk 26 [x114] fun x116=>
 zm fun m117=>
 zx 9 x111 m117 x112<|
 zx 9 x104 m117 x105<|
 zk 33 [t5,x105,x112,x116] fun _=>
 zg 36866 [t0,t4,t5,t6]) (
 zf 77 3 x2 fun x121=>
 zl 3 x121 fun x122=>
 zk 30 [t5,x8,x122] fun x123=>
 zk 34 [t5,x8,x13,x123] fun _=>
 zg 36866 [t0,t4,t5,t6]))))))) (
 zb .eql 3 x16 (.int .i64 2) fun x125=>
 zC x125 (
 zf 77 1 x2 fun x126=>
 zl 3 x126 fun x127=>
 zk 10 [x127,(.int .i64 3)] fun x128=>
 zi 79 (.ptr (some ⟨1,0⟩)) x128 fun x129=>
 zl 9 x129 fun x130=>
 zk 28 [t5,x130] fun _=>
 zg 36866 [t0,t4,t5,t6]) (
 zb .eql 3 x16 (.int .i64 3) fun x132=>
 zC x132 (
 zC x132 (
 zf 77 3 x2 fun x133=>
 zl 3 x133 fun x134=>
 zk 30 [t5,x8,x134] fun x135=>
 zk 29 [t5,x8,x135] fun _=>
 zg 36866 [t0,t4,t5,t6]) (
 zb .eql 3 x16 (.int .i64 5) fun x137=>
 zC x137 (
 zf 77 3 x2 fun x138=>
 zl 3 x138 fun x139=>
 zk 30 [t5,x8,x139] fun x140=>
 zk 31 [t5,x8,x140] fun _=>
 zg 36866 [t0,t4,t5,t6]) (
 zb .eql 3 x16 (.int .i64 6) fun x142=>
 zC x142 (
 zf 77 3 x2 fun x143=>
 zl 3 x143 fun x144=>
 zk 30 [t5,x8,x144] fun x145=>
 zk 32 [t5,x8,x13,x145] fun _=>
 zg 36866 [t0,t4,t5,t6]) (
 zb .eql 3 x16 (.int .i64 7) fun x147=>
 zC x147 (
 zf 77 1 x2 fun x148=>
 zl 3 x148 fun x149=>
 zm fun m150=>
 zk 10 [x149,(.int .i64 3)] fun x151=>
 zi 79 (.ptr (some ⟨1,0⟩)) x151 fun x153=>
 zl 9 x153 fun x154=>
 zf 77 2 x2 fun x155=>
 zl 3 x155 fun x156=>
 zx 3 x155 m150 x156<|
 zm fun m157=>
 zk 10 [x156,(.int .i64 3)] fun x158=>
 zm fun m159=>
 zx 9 x153 m159 x154<|
 zi 79 (.ptr (some ⟨1,0⟩)) x158 fun x160=>
 zl 9 x160 fun x161=>
 zf 77 3 x2 fun x162=>
 zl 3 x162 fun x163=>
 zx 3 x162 m157 x163<|
 zx 3 x162 m150 x163<|
 zk 26 [x163] fun x165=>
 zm fun m166=>
 zx 9 x160 m166 x161<|
 zx 9 x153 m166 x154<|
 zk 33 [t5,x154,x161,x165] fun _=>
 zg 36866 [t0,t4,t5,t6]) (
 zf 77 3 x2 fun x170=>
 zl 3 x170 fun x171=>
 zk 30 [t5,x8,x171] fun x172=>
 zk 34 [t5,x8,x13,x172] fun _=>
 zg 36866 [t0,t4,t5,t6]))))) (
 zb .eql 3 x16 (.int .i64 4) fun x174=>
 zC x174 (
 zf 77 3 x2 fun x175=>
 zl 3 x175 fun x176=>
 zk 30 [t5,x8,x176] fun x177=>
 zk 29 [t5,x8,x177] fun _=>
 zg 36866 [t0,t4,t5,t6]) (
 zb .eql 3 x16 (.int .i64 5) fun x179=>
 zC x179 (
 zf 77 3 x2 fun x180=>
 zl 3 x180 fun x181=>
 zk 30 [t5,x8,x181] fun x182=>
 zk 31 [t5,x8,x182] fun _=>
 zg 36866 [t0,t4,t5,t6]) (
 zb .eql 3 x16 (.int .i64 6) fun x184=>
 zC x184 (
 zf 77 3 x2 fun x185=>
 zl 3 x185 fun x186=>
 zk 30 [t5,x8,x186] fun x187=>
 zk 32 [t5,x8,x13,x187] fun _=>
 zg 36866 [t0,t4,t5,t6]) (
 zb .eql 3 x16 (.int .i64 7) fun x189=>
 zC x189 (
 zf 77 1 x2 fun x190=>
 zl 3 x190 fun x191=>
 zm fun m192=>
 zk 10 [x191,(.int .i64 3)] fun x193=>
 zi 79 (.ptr (some ⟨1,0⟩)) x193 fun x195=>
 zl 9 x195 fun x196=>
 zf 77 2 x2 fun x197=>
 zl 3 x197 fun x198=>
 zx 3 x197 m192 x198<|
 zm fun m199=>
 zk 10 [x198,(.int .i64 3)] fun x200=>
 zm fun m201=>
 zx 9 x195 m201 x196<|
 zi 79 (.ptr (some ⟨1,0⟩)) x200 fun x202=>
 zl 9 x202 fun x203=>
 zf 77 3 x2 fun x204=>
 zl 3 x204 fun x205=>
 zx 3 x204 m199 x205<|
 zx 3 x204 m192 x205<|
 zk 26 [x205] fun x207=>
 zm fun m208=>
 zx 9 x202 m208 x203<|
 zx 9 x195 m208 x196<|
 zk 33 [t5,x196,x203,x207] fun _=>
 zg 36866 [t0,t4,t5,t6]) (
 zf 77 3 x2 fun x212=>
 zl 3 x212 fun x213=>
 zk 30 [t5,x8,x213] fun x214=>
 zk 34 [t5,x8,x13,x214] fun _=>
 zg 36866 [t0,t4,t5,t6]))))))))
theorem g9_1_ok:OkG H g9_1 36865:=c4 fun _ _ _ _ _=>by kernel_rfl
def g9_2:List AV→CM:=a4 fun t0 t4 t5 t6=>
 zb .add 3 t6 (.int .i64 1) fun x0=>
 zg 36864 [t0,t4,t5,x0]
theorem g9_2_ok:OkG H g9_2 36866:=c4 fun _ _ _ _ _=>by kernel_rfl
def g9_3:List AV→CM:=a2 fun t4 t5=>
 zn t5 fun x0=>
 zf 61 0 x0 fun x1=>
 zl 28 x1 fun x2=>
 zs t4 x2 4<|
 zr [.cell 0 28] [t4]
theorem g9_3_ok:OkG H g9_3 36867:=c2 fun _ _ _=>by kernel_rfl
def f9:List AV→CM:=a2 fun a0 a1=>
 za [(.sl none 0 0 0 true),(.sl none 0 0 0 true),(.sl none 0 0 0 true),(.int .u64 0)] fun x0=>
 zd 61 [(1,a1)] fun x1=>
 zo x1 fun x2=>
 zg 36864 [a0,x0,x2,(.int .i64 0)]
theorem f9_ok (h:H 9=none):OkF H f9 9:=e2 h rfl fun _ _ _=>by kernel_rfl
def g10_0:List AV→CM:=a1 fun t0=>
 zR t0
theorem g10_0_ok:OkG H g10_0 40960:=c1 fun _ _=>by kernel_rfl
def f10:List AV→CM:=a2 fun a0 a1=>
 zb .rem 3 a0 a1 fun x0=>
 zb .lss 3 x0 (.int .i64 0) fun x1=>
 zC x1 (
 zb .add 3 x0 a1 fun x2=>
 zg 40960 [x2]) (
 zg 40960 [x0])
theorem f10_ok (h:H 10=none):OkF H f10 10:=e2 h rfl fun _ _ _=>by kernel_rfl
def g12_0:List AV→CM:=a2 fun t1 t2=>
 zk 38 [t1] fun x0=>
 ze 0 x0 fun x1=>
 ze 1 x0 fun x2=>
 zb .neq 35 x2 (.int .i64 0) fun x3=>
 zC x3 (
 zR (.tup [(.ptr none),x2])) (
 zg 49153 [t2,x1])
theorem g12_0_ok:OkG H g12_0 49152:=c2 fun _ _ _=>by kernel_rfl
def g12_1:List AV→CM:=a2 fun t2 t6=>
 zf 28 0 t2 fun x0=>
 zl 23 x0 fun x1=>
 zt 23 x1 fun x2=>
 zg 49154 [t2,t6,x1,x2,(.int .i64 0)]
theorem g12_1_ok:OkG H g12_1 49153:=c2 fun _ _ _=>by kernel_rfl
def g12_2:List AV→CM:=a5 fun t2 t6 t27 t28 t29=>
 zb .lss 3 t29 t28 fun x0=>
 zC x0 (
 zg 49155 [t2,t6,t27,t28,t29]) (
 zg 49157 [t2,t6])
theorem g12_2_ok:OkG H g12_2 49154:=c5 fun _ _ _ _ _ _=>by kernel_rfl
def g12_3:List AV→CM:=a5 fun t2 t6 t27 t28 t29=>
 zi 23 t27 t29 fun x0=>
 zl 56 x0 fun x1=>
 za [(.str []),(.int .i64 0),(.int .i64 0),(.int .u64 0)] fun x2=>
 zs x2 x1 4<|
 zn t6 fun x4=>
 zf 94 1 x4 fun x5=>
 zl 90 x5 fun x6=>
 zf 56 0 x2 fun x7=>
 zl 9 x7 fun x8=>
 zl 56 x2 fun x9=>
 zk 39 [x6,x8,x9] fun _=>
 zg 49156 [t2,t6,t27,t28,t29]
theorem g12_3_ok:OkG H g12_3 49155:=c5 fun _ _ _ _ _ _=>by kernel_rfl
def g12_4:List AV→CM:=a5 fun t2 t6 t27 t28 t29=>
 zb .add 3 t29 (.int .i64 1) fun x0=>
 zg 49154 [t2,t6,t27,t28,x0]
theorem g12_4_ok:OkG H g12_4 49156:=c5 fun _ _ _ _ _ _=>by kernel_rfl
def g12_5:List AV→CM:=a2 fun t2 t6=>
 zf 28 1 t2 fun x0=>
 zl 24 x0 fun x1=>
 zt 24 x1 fun x2=>
 zg 49158 [t2,t6,x1,x2,(.int .i64 0)]
theorem g12_5_ok:OkG H g12_5 49157:=c2 fun _ _ _=>by kernel_rfl
def g12_6:List AV→CM:=a5 fun t2 t6 t43 t44 t45=>
 zb .lss 3 t45 t44 fun x0=>
 zC x0 (
 zg 49159 [t2,t6,t43,t44,t45]) (
 zg 49161 [t2,t6])
theorem g12_6_ok:OkG H g12_6 49158:=c5 fun _ _ _ _ _ _=>by kernel_rfl
def g12_7:List AV→CM:=a5 fun t2 t6 t43 t44 t45=>
 zi 24 t43 t45 fun x0=>
 zl 74 x0 fun x1=>
 za [(.str []),(.str []),(.int .i64 0),(.int .u64 0),(.int .i64 0),(.int .i64 0),(.int .u64 0),(.int .i64 0),(.int .u64 0)] fun x2=>
 zs x2 x1 9<|
 zn t6 fun x4=>
 zf 94 2 x4 fun x5=>
 zl 91 x5 fun x6=>
 zf 74 0 x2 fun x7=>
 zl 9 x7 fun x8=>
 zf 74 1 x2 fun x9=>
 zl 9 x9 fun x10=>
 zb .add 9 x8 x10 fun x11=>
 zl 74 x2 fun x12=>
 zk 40 [x6,x11,x12] fun _=>
 zg 49160 [t2,t6,t43,t44,t45]
theorem g12_7_ok:OkG H g12_7 49159:=c5 fun _ _ _ _ _ _=>by kernel_rfl
def g12_8:List AV→CM:=a5 fun t2 t6 t43 t44 t45=>
 zb .add 3 t45 (.int .i64 1) fun x0=>
 zg 49158 [t2,t6,t43,t44,x0]
theorem g12_8_ok:OkG H g12_8 49160:=c5 fun _ _ _ _ _ _=>by kernel_rfl
def g12_9:List AV→CM:=a2 fun t2 t6=>
 zf 28 2 t2 fun x0=>
 zl 25 x0 fun x1=>
 zt 25 x1 fun x2=>
 zg 49162 [t2,t6,x1,x2,(.int .i64 0)]
theorem g12_9_ok:OkG H g12_9 49161:=c2 fun _ _ _=>by kernel_rfl
def g12_10:List AV→CM:=a5 fun t2 t6 t62 t63 t64=>
 zb .lss 3 t64 t63 fun x0=>
 zC x0 (
 zg 49163 [t2,t6,t62,t63,t64]) (
 zg 49165 [t2,t6])
theorem g12_10_ok:OkG H g12_10 49162:=c5 fun _ _ _ _ _ _=>by kernel_rfl
def g12_11:List AV→CM:=a5 fun t2 t6 t62 t63 t64=>
 zi 25 t62 t64 fun x0=>
 zl 54 x0 fun x1=>
 za [(.int .u64 0),(.str []),(.int .i64 0),(.int .u64 0)] fun x2=>
 zs x2 x1 4<|
 zn t6 fun x4=>
 zf 94 3 x4 fun x5=>
 zl 92 x5 fun x6=>
 zf 54 0 x2 fun x7=>
 zl 26 x7 fun x8=>
 zl 54 x2 fun x9=>
 zk 41 [x6,x8,x9] fun _=>
 zg 49164 [t2,t6,t62,t63,t64]
theorem g12_11_ok:OkG H g12_11 49163:=c5 fun _ _ _ _ _ _=>by kernel_rfl
def g12_12:List AV→CM:=a5 fun t2 t6 t62 t63 t64=>
 zb .add 3 t64 (.int .i64 1) fun x0=>
 zg 49162 [t2,t6,t62,t63,x0]
theorem g12_12_ok:OkG H g12_12 49164:=c5 fun _ _ _ _ _ _=>by kernel_rfl
def g12_13:List AV→CM:=a2 fun t2 t6=>
 zf 28 3 t2 fun x0=>
 zl 26 x0 fun x1=>
 zn t6 fun x2=>
 zf 94 4 x2 fun x3=>
 zs x3 x1 1<|
 zR (.tup [t6,(.int .i64 0)])
theorem g12_13_ok:OkG H g12_13 49165:=c2 fun _ _ _=>by kernel_rfl
def f12:List AV→CM:=a2 fun a0 a1=>
 zo a0 fun x0=>
 zl 28 x0 fun x1=>
 zk 14 [x1,a1] fun x2=>
 zu x2 fun x3=>
 zC x3 (
 zR (.tup [(.ptr none),(.int .i64 1)])) (
 zg 49152 [a1,x0])
theorem f12_ok (h:H 12=none):OkF H f12 12:=e2 h rfl fun _ _ _=>by kernel_rfl
def g13_0:List AV→CM:=a1 fun t1=>
 zk 42 [t1,(.str [69,85,82]),(.int .u64 2)] fun x0=>
 zk 42 [t1,(.str [69,85,82]),(.int .u64 2)] fun x1=>
 zk 43 [t1,(.str [69,85,82])] fun x2=>
 ze 0 x2 fun x3=>
 ze 1 x2 fun x4=>
 zk 43 [t1,(.str [85,83,68])] fun x5=>
 ze 0 x5 fun _=>
 ze 1 x5 fun x7=>
 zk 18 [(.int .i64 1000),(.int .i64 2)] fun x8=>
 zk 44 [t1,(.int .u64 1),x8] fun x9=>
 zk 45 [t1,(.str [69,85,82])] fun x10=>
 ze 0 x10 fun x11=>
 ze 1 x10 fun x12=>
 za [(.int .i64 0),(.int .u64 0),(.int .i64 0)] fun x13=>
 zs x13 x11 3<|
 zb .eql 35 x0 (.int .i64 0) fun x15=>
 zI x15 (
 zb .eql 35 x1 (.int .i64 45) fun x16=>
 zI x16 (
 zb .eql 26 x3 (.int .u64 1) fun x17=>
 zI x17 (
 zb .eql 35 x4 (.int .i64 0) fun x18=>
 zI x18 (
 zb .eql 35 x7 (.int .i64 41) fun x19=>
 zI x19 (
 zb .eql 35 x9 (.int .i64 0) fun x20=>
 zI x20 (
 zb .eql 35 x12 (.int .i64 0) fun x21=>
 zI x21 (
 zl 45 x13 fun x22=>
 zk 18 [(.int .i64 (-1000)),(.int .i64 2)] fun x24=>
 zm fun m25=>
 zx 45 x13 m25 x22<|
 zb .eql 45 x22 x24 fun x26=>
 zR x26) (
 zR (.bool false))) (
 zR (.bool false))) (
 zR (.bool false))) (
 zR (.bool false))) (
 zR (.bool false))) (
 zR (.bool false))) (
 zR (.bool false))
theorem g13_0_ok:OkG H g13_0 53248:=c1 fun _ _=>by kernel_rfl
def f13:List AV→CM:=a0<|
 zk 38 [(.int .i64 4)] fun x0=>
 ze 0 x0 fun x1=>
 ze 1 x0 fun x2=>
 zb .neq 35 x2 (.int .i64 0) fun x3=>
 zI x3 (
 zR (.bool false)) (
 zb .eql 34 x1 (.ptr none) fun x4=>
 zC x4 (
 zR (.bool false)) (
 zg 53248 [x1]))
theorem f13_ok (h:H 13=none):OkF H f13 13:=e0 h rfl fun _=>by kernel_rfl
def g14_0:List AV→CM:=a1 fun t2=>
 zf 28 0 t2 fun x0=>
 zl 23 x0 fun x1=>
 zt 23 x1 fun x2=>
 zg 57345 [t2,x1,x2,(.int .i64 0)]
theorem g14_0_ok:OkG H g14_0 57344:=c1 fun _ _=>by kernel_rfl
def g14_1:List AV→CM:=a4 fun t2 t29 t30 t31=>
 zb .lss 3 t31 t30 fun x0=>
 zC x0 (
 zg 57346 [t2,t29,t30,t31]) (
 zg 57348 [t2])
theorem g14_1_ok:OkG H g14_1 57345:=c4 fun _ _ _ _ _=>by kernel_rfl
def z6n:List AV→CM:=a4 fun t2 t29 t30 t31=>
 zi 23 t29 t31 fun x0=>
 zl 56 x0 fun x1=>
 za [(.str []),(.int .i64 0),(.int .i64 0),(.int .u64 0)] fun x2=>
 zs x2 x1 4<|
 zf 56 0 x2 fun x4=>
 zl 9 x4 fun x5=>
 zk 46 [x5] fun x7=>
 zu x7 fun x9=>
 zI x9 (
 zR (.bool false)) (
 zb .gtr 3 t31 (.int .i64 0) fun x10=>
 zI x10 (
 zf 28 0 t2 fun x11=>
 zl 23 x11 fun x12=>
 zb .sub 3 t31 (.int .i64 1) fun x13=>
 zi 23 x12 x13 fun x14=>
 zf 56 0 x14 fun x15=>
 zl 9 x15 fun x16=>
 zf 56 0 x2 fun x17=>
 zl 9 x17 fun x18=>
 zb .geq 9 x16 x18 fun x19=>
 zI x19 (
 zR (.bool false)) (
 zf 56 1 x2 fun x20=>
 zl 3 x20 fun x21=>
 zb .lss 3 x21 (.int .i64 0) fun x22=>
 zI x22 (
 zR (.bool false)) (
 zf 56 1 x2 fun x23=>
 zl 3 x23 fun x24=>
 zb .gtr 3 x24 (.int .i64 18) fun x25=>
 zC x25 (
 zR (.bool false)) (
 zg 57347 [t2,t29,t30,t31])))) (
 zf 56 1 x2 fun x26=>
 zl 3 x26 fun x27=>
 zb .lss 3 x27 (.int .i64 0) fun x28=>
 zI x28 (
 zR (.bool false)) (
 zf 56 1 x2 fun x29=>
 zl 3 x29 fun x30=>
 zb .gtr 3 x30 (.int .i64 18) fun x31=>
 zC x31 (
 zR (.bool false)) (
 zg 57347 [t2,t29,t30,t31]))))
theorem g14_2_ok:OkG H z6n 57346:=c4 fun _ _ _ _ _=>by kernel_rfl
def g14_3:List AV→CM:=a4 fun t2 t29 t30 t31=>
 zb .add 3 t31 (.int .i64 1) fun x0=>
 zg 57345 [t2,t29,t30,x0]
theorem g14_3_ok:OkG H g14_3 57347:=c4 fun _ _ _ _ _=>by kernel_rfl
def g14_4:List AV→CM:=a1 fun t2=>
 zl 28 t2 fun x0=>
 zk 47 [x0] fun x1=>
 zu x1 fun x2=>
 zI x2 (
 zR (.bool false)) (
 zl 28 t2 fun x3=>
 zk 48 [x3] fun x4=>
 zu x4 fun x5=>
 zC x5 (
 zR (.bool false)) (
 zg 57349 [t2]))
theorem g14_4_ok:OkG H g14_4 57348:=c1 fun _ _=>by kernel_rfl
def g14_5:List AV→CM:=a1 fun t2=>
 zf 28 0 t2 fun x0=>
 zl 23 x0 fun x1=>
 zt 23 x1 fun x2=>
 zg 57350 [t2,x1,x2,(.int .i64 0)]
theorem g14_5_ok:OkG H g14_5 57349:=c1 fun _ _=>by kernel_rfl
def g14_6:List AV→CM:=a4 fun t2 t76 t77 t78=>
 zb .lss 3 t78 t77 fun x0=>
 zC x0 (
 zg 57351 [t2,t76,t77,t78]) (
 zg 57353 [])
theorem g14_6_ok:OkG H g14_6 57350:=c4 fun _ _ _ _ _=>by kernel_rfl
def g14_7:List AV→CM:=a4 fun t2 t76 t77 t78=>
 zi 23 t76 t78 fun x0=>
 zl 56 x0 fun x1=>
 za [(.str []),(.int .i64 0),(.int .i64 0),(.int .u64 0)] fun x2=>
 zs x2 x1 4<|
 zl 28 t2 fun x4=>
 zl 56 x2 fun x5=>
 zk 49 [x4,x5] fun x6=>
 zu x6 fun x7=>
 zC x7 (
 zR (.bool false)) (
 zg 57352 [t2,t76,t77,t78])
theorem g14_7_ok:OkG H g14_7 57351:=c4 fun _ _ _ _ _=>by kernel_rfl
def g14_8:List AV→CM:=a4 fun t2 t76 t77 t78=>
 zb .add 3 t78 (.int .i64 1) fun x0=>
 zg 57350 [t2,t76,t77,x0]
theorem g14_8_ok:OkG H g14_8 57352:=c4 fun _ _ _ _ _=>by kernel_rfl
def g14_9:List AV→CM:=a0<|
 zR (.bool true)
theorem g14_9_ok:OkG H g14_9 57353:=c0 fun _=>by kernel_rfl
def f14:List AV→CM:=a2 fun a0 a1=>
 zo a0 fun x0=>
 zb .lss 3 a1 (.int .i64 1) fun x1=>
 zI x1 (
 zR (.bool false)) (
 zb .gtr 3 a1 (.int .i64 64) fun x2=>
 zI x2 (
 zR (.bool false)) (
 zf 28 0 x0 fun x3=>
 zl 23 x3 fun x4=>
 zt 23 x4 fun x5=>
 zb .gtr 3 x5 (.int .i64 8) fun x6=>
 zI x6 (
 zR (.bool false)) (
 zf 28 2 x0 fun x7=>
 zl 25 x7 fun x8=>
 zt 25 x8 fun x9=>
 zb .gtr 3 x9 a1 fun x10=>
 zC x10 (
 zR (.bool false)) (
 zg 57344 [x0]))))
theorem f14_ok (h:H 14=none):OkF H f14 14:=e2 h rfl fun _ _ _=>by kernel_rfl
def g15_0:List AV→CM:=a2 fun t2 t3=>
 zg 61441 [t2,t3,(.int .i64 0)]
theorem g15_0_ok:OkG H g15_0 61440:=c2 fun _ _ _=>by kernel_rfl
def g15_1:List AV→CM:=a3 fun t2 t3 t5=>
 zf 28 0 t2 fun x0=>
 zl 23 x0 fun x1=>
 zt 23 x1 fun x2=>
 zb .lss 3 t5 x2 fun x3=>
 zC x3 (
 zg 61442 [t2,t3,t5]) (
 zg 61444 [t2,t3])
theorem g15_1_ok:OkG H g15_1 61441:=c3 fun _ _ _ _=>by kernel_rfl
def g15_2:List AV→CM:=a3 fun t2 t3 t5=>
 zf 28 0 t2 fun x0=>
 zl 23 x0 fun x1=>
 zi 23 x1 t5 fun x2=>
 zl 56 x2 fun x3=>
 zf 28 0 t3 fun x4=>
 zl 23 x4 fun x5=>
 zi 23 x5 t5 fun x6=>
 zl 56 x6 fun x7=>
 zb .neq 56 x3 x7 fun x8=>
 zC x8 (
 zR (.bool false)) (
 zg 61443 [t2,t3,t5])
theorem g15_2_ok:OkG H g15_2 61442:=c3 fun _ _ _ _=>by kernel_rfl
def g15_3:List AV→CM:=a3 fun t2 t3 t5=>
 zb .add 3 t5 (.int .i64 1) fun x0=>
 zg 61441 [t2,t3,x0]
theorem g15_3_ok:OkG H g15_3 61443:=c3 fun _ _ _ _=>by kernel_rfl
def g15_4:List AV→CM:=a2 fun t2 t3=>
 zg 61445 [t2,t3,(.int .i64 0)]
theorem g15_4_ok:OkG H g15_4 61444:=c2 fun _ _ _=>by kernel_rfl
def g15_5:List AV→CM:=a3 fun t2 t3 t6=>
 zf 28 1 t2 fun x0=>
 zl 24 x0 fun x1=>
 zt 24 x1 fun x2=>
 zb .lss 3 t6 x2 fun x3=>
 zC x3 (
 zg 61446 [t2,t3,t6]) (
 zg 61448 [t2,t3])
theorem g15_5_ok:OkG H g15_5 61445:=c3 fun _ _ _ _=>by kernel_rfl
def g15_6:List AV→CM:=a3 fun t2 t3 t6=>
 zf 28 1 t2 fun x0=>
 zl 24 x0 fun x1=>
 zi 24 x1 t6 fun x2=>
 zl 74 x2 fun x3=>
 zf 28 1 t3 fun x4=>
 zl 24 x4 fun x5=>
 zi 24 x5 t6 fun x6=>
 zl 74 x6 fun x7=>
 zb .neq 74 x3 x7 fun x8=>
 zC x8 (
 zR (.bool false)) (
 zg 61447 [t2,t3,t6])
theorem g15_6_ok:OkG H g15_6 61446:=c3 fun _ _ _ _=>by kernel_rfl
def g15_7:List AV→CM:=a3 fun t2 t3 t6=>
 zb .add 3 t6 (.int .i64 1) fun x0=>
 zg 61445 [t2,t3,x0]
theorem g15_7_ok:OkG H g15_7 61447:=c3 fun _ _ _ _=>by kernel_rfl
def g15_8:List AV→CM:=a2 fun t2 t3=>
 zg 61449 [t2,t3,(.int .i64 0)]
theorem g15_8_ok:OkG H g15_8 61448:=c2 fun _ _ _=>by kernel_rfl
def g15_9:List AV→CM:=a3 fun t2 t3 t7=>
 zf 28 2 t2 fun x0=>
 zl 25 x0 fun x1=>
 zt 25 x1 fun x2=>
 zb .lss 3 t7 x2 fun x3=>
 zC x3 (
 zg 61450 [t2,t3,t7]) (
 zg 61452 [])
theorem g15_9_ok:OkG H g15_9 61449:=c3 fun _ _ _ _=>by kernel_rfl
def g15_10:List AV→CM:=a3 fun t2 t3 t7=>
 zf 28 2 t2 fun x0=>
 zl 25 x0 fun x1=>
 zi 25 x1 t7 fun x2=>
 zl 54 x2 fun x3=>
 zf 28 2 t3 fun x4=>
 zl 25 x4 fun x5=>
 zi 25 x5 t7 fun x6=>
 zl 54 x6 fun x7=>
 zb .neq 54 x3 x7 fun x8=>
 zC x8 (
 zR (.bool false)) (
 zg 61451 [t2,t3,t7])
theorem g15_10_ok:OkG H g15_10 61450:=c3 fun _ _ _ _=>by kernel_rfl
def g15_11:List AV→CM:=a3 fun t2 t3 t7=>
 zb .add 3 t7 (.int .i64 1) fun x0=>
 zg 61449 [t2,t3,x0]
theorem g15_11_ok:OkG H g15_11 61451:=c3 fun _ _ _ _=>by kernel_rfl
def g15_12:List AV→CM:=a0<|
 zR (.bool true)
theorem g15_12_ok:OkG H g15_12 61452:=c0 fun _=>by kernel_rfl
def f15:List AV→CM:=a2 fun a0 a1=>
 zo a0 fun x0=>
 zo a1 fun x1=>
 zf 28 0 x0 fun x2=>
 zl 23 x2 fun x3=>
 zt 23 x3 fun x4=>
 zf 28 0 x1 fun x5=>
 zl 23 x5 fun x6=>
 zt 23 x6 fun x7=>
 zb .neq 3 x4 x7 fun x8=>
 zI x8 (
 zR (.bool false)) (
 zf 28 1 x0 fun x9=>
 zl 24 x9 fun x10=>
 zt 24 x10 fun x11=>
 zf 28 1 x1 fun x12=>
 zl 24 x12 fun x13=>
 zt 24 x13 fun x14=>
 zb .neq 3 x11 x14 fun x15=>
 zI x15 (
 zR (.bool false)) (
 zf 28 2 x0 fun x16=>
 zl 25 x16 fun x17=>
 zt 25 x17 fun x18=>
 zf 28 2 x1 fun x19=>
 zl 25 x19 fun x20=>
 zt 25 x20 fun x21=>
 zb .neq 3 x18 x21 fun x22=>
 zI x22 (
 zR (.bool false)) (
 zf 28 3 x0 fun x23=>
 zl 26 x23 fun x24=>
 zf 28 3 x1 fun x25=>
 zl 26 x25 fun x26=>
 zb .neq 26 x24 x26 fun x27=>
 zC x27 (
 zR (.bool false)) (
 zg 61440 [x0,x1]))))
theorem f15_ok (h:H 15=none):OkF H f15 15:=e2 h rfl fun _ _ _=>by kernel_rfl
def g16_0:List AV→CM:=a10 fun t0 t2 t3 t5 t7 t9 t19 t21 t34 t47=>
 CM.rng (.fn (q3w (EH fun _=>none) 16)) t19 (q0y (EH fun _=>none) 16 0 ([t0,.undef,t2,t3,.undef,t5,.undef,t7,.undef,t9,.undef,.undef,.undef,.undef,.undef,.undef,.undef,.undef,.undef,t19,.undef,t21,.undef,.undef,.undef,.undef,.undef,.undef,.undef,.undef,.undef,.undef,.undef,.undef,t34,.undef,.undef,.undef,.undef,.undef,.undef,.undef,.undef,.undef,.undef,.undef,.undef,t47]++List.replicate 7 .undef)) 65536 [t0,t2,t3,t5,t7,t9,t19,t21,t34,t47]
theorem g16_0_ok:OkG H g16_0 65536:=c10 fun _ _ _ _ _ _ _ _ _ _ _=>by kernel_rfl
def g16_2:List AV→CM:=a7 fun t0 t2 t3 t7 t9 t34 t47=>
 zn t0 fun x0=>
 zf 94 2 x0 fun x1=>
 zl 91 x1 fun x2=>
 zk 51 [x2] fun x3=>
 zg 65539 [t0,t2,t3,t7,t9,x3,t34,t47]
theorem g16_2_ok:OkG H g16_2 65538:=c7 fun _ _ _ _ _ _ _ _=>by kernel_rfl
def g16_3:List AV→CM:=a8 fun t0 t2 t3 t7 t9 t32 t34 t47=>
 CM.rng (.fn (q3w (EH fun _=>none) 16)) t32 (q0y (EH fun _=>none) 16 1 ([t0,.undef,t2,t3,.undef,.undef,.undef,t7,.undef,t9,.undef,.undef,.undef,.undef,.undef,.undef,.undef,.undef,.undef,.undef,.undef,.undef,.undef,.undef,.undef,.undef,.undef,.undef,.undef,.undef,.undef,.undef,t32,.undef,t34,.undef,.undef,.undef,.undef,.undef,.undef,.undef,.undef,.undef,.undef,.undef,.undef,t47]++List.replicate 7 .undef)) 65537 [t0,t2,t3,t7,t9,t32,t34,t47]
theorem g16_3_ok:OkG H g16_3 65539:=c8 fun _ _ _ _ _ _ _ _ _=>by kernel_rfl
def g16_5:List AV→CM:=a5 fun t0 t2 t3 t9 t47=>
 zn t0 fun x0=>
 zf 94 3 x0 fun x1=>
 zl 92 x1 fun x2=>
 zk 52 [x2] fun x3=>
 zg 65542 [t2,t3,t9,x3,t47]
theorem g16_5_ok:OkG H g16_5 65541:=c5 fun _ _ _ _ _ _=>by kernel_rfl
def g16_6:List AV→CM:=a5 fun t2 t3 t9 t45 t47=>
 CM.rng (.fn (q3w (EH fun _=>none) 16)) t45 (q0y (EH fun _=>none) 16 2 ([.undef,.undef,t2,t3,.undef,.undef,.undef,.undef,.undef,t9,.undef,.undef,.undef,.undef,.undef,.undef,.undef,.undef,.undef,.undef,.undef,.undef,.undef,.undef,.undef,.undef,.undef,.undef,.undef,.undef,.undef,.undef,.undef,.undef,.undef,.undef,.undef,.undef,.undef,.undef,.undef,.undef,.undef,.undef,.undef,t45,.undef,t47]++List.replicate 7 .undef)) 65538 [t2,t3,t9,t45,t47]
theorem g16_6_ok:OkG H g16_6 65542:=c5 fun _ _ _ _ _ _=>by kernel_rfl
def g16_8:List AV→CM:=a2 fun t2 t3=>
 zl 28 t3 fun x0=>
 zs t2 x0 4<|
 zr [.cell 0 28] [t2]
theorem g16_8_ok:OkG H g16_8 65544:=c2 fun _ _ _=>by kernel_rfl
def q99:List AV→CM:=a10 fun t0 t2 t3 _ t7 t9 _ _ t34 t47=>
 zg 65538 [t0,t2,t3,t7,t9,t34,t47]
theorem z7n:EqD (Rl H) q99 (fun xs m=>afR (EH H) Nk 65536 none xs m):=sE fun _=>sE fun _=>sE fun _=>sE fun _=>sE fun _=>sE fun _=>sE fun _=>sE fun _=>sE fun _=>sE fun _=>zE fun _=>afR_eq 400 (by kernel_rfl)
def z0a:List AV→CM:=a8 fun t0 t2 t3 _ t9 _ _ t47=>
 zg 65541 [t0,t2,t3,t9,t47]
theorem z7p:EqD (Rl H) z0a (fun xs m=>afR (EH H) Nk 65537 none xs m):=sE fun _=>sE fun _=>sE fun _=>sE fun _=>sE fun _=>sE fun _=>sE fun _=>sE fun _=>zE fun _=>afR_eq 400 (by kernel_rfl)
def z0b:List AV→CM:=a5 fun t2 t3 _ _ _=>
 zg 65544 [t2,t3]
theorem z7r:EqD (Rl H) z0b (fun xs m=>afR (EH H) Nk 65538 none xs m):=sE fun _=>sE fun _=>sE fun _=>sE fun _=>sE fun _=>zE fun _=>afR_eq 400 (by kernel_rfl)
def f16:List AV→CM:=a1 fun a0=>
 za [(.sl none 0 0 0 true),(.sl none 0 0 0 true),(.sl none 0 0 0 true),(.int .u64 0)] fun x0=>
 zn a0 fun x1=>
 zf 94 4 x1 fun x2=>
 zl 26 x2 fun x3=>
 zd 28 [(3,x3)] fun x4=>
 za [(.sl none 0 0 0 true),(.sl none 0 0 0 true),(.sl none 0 0 0 true),(.int .u64 0)] fun x5=>
 zs x5 x4 4<|
 zn a0 fun x7=>
 zf 94 1 x7 fun x8=>
 zl 90 x8 fun x9=>
 zk 50 [x9] fun x10=>
 zg 65536 [a0,x0,x5,.undef,.undef,.undef,x10,.undef,.undef,.undef]
theorem f16_ok (h:H 16=none):OkF H f16 16:=e1 h rfl fun _ _=>by kernel_rfl
def g17_0:List AV→CM:=a3 fun t4 t6 t7=>
 zf 54 2 t6 fun x0=>
 zl 43 x0 fun x1=>
 zf 56 1 t7 fun x2=>
 zl 3 x2 fun x3=>
 zd 45 [(0,x1),(1,x3)] fun x4=>
 zs t4 x4 3<|
 zr [.cell 0 45,.tmp 1] [t4,(.int .i64 0)]
theorem g17_0_ok:OkG H g17_0 69632:=c3 fun _ _ _ _=>by kernel_rfl
def f17:List AV→CM:=a2 fun a0 a1=>
 za [(.int .i64 0),(.int .u64 0),(.int .i64 0)] fun x0=>
 zk 53 [a0,a1] fun x1=>
 ze 0 x1 fun x2=>
 ze 1 x1 fun x3=>
 ze 2 x1 fun x4=>
 za [(.int .u64 0),(.str []),(.int .i64 0),(.int .u64 0)] fun x5=>
 za [(.str []),(.int .i64 0),(.int .i64 0),(.int .u64 0)] fun x6=>
 zs x5 x2 4<|
 zs x6 x3 4<|
 zb .neq 35 x4 (.int .i64 0) fun x9=>
 zC x9 (
 zd 45 [] fun x10=>
 zs x0 x10 3<|
 zr [.cell 0 45,.tmp 1] [x0,x4]) (
 zg 69632 [x0,x5,x6])
theorem f17_ok (h:H 17=none):OkF H f17 17:=e2 h rfl fun _ _ _=>by kernel_rfl
def f18:List AV→CM:=a2 fun a0 a1=>
 za [(.int .i64 0),(.int .u64 0),(.int .i64 0)] fun x0=>
 zk 54 [a0] fun x1=>
 zd 45 [(0,x1),(1,a1)] fun x2=>
 zs x0 x2 3<|
 zr [.cell 0 45] [x0]
theorem f18_ok (h:H 18=none):OkF H f18 18:=e2 h rfl fun _ _ _=>by kernel_rfl
def g19_0:List AV→CM:=a5 fun t0 t7 t9 t10 t12=>
 zl 56 t10 fun x0=>
 zl 45 t7 fun x1=>
 zk 55 [x0,x1] fun x2=>
 zb .eql 35 x2 (.int .i64 0) fun x3=>
 zI x3 (
 zl 54 t9 fun x4=>
 zl 45 t7 fun x5=>
 zk 56 [x4,x5] fun x6=>
 zC x6 (
 zg 77825 [t0,t7,t9,(.int .i64 42),t12]) (
 zg 77825 [t0,t7,t9,x2,t12])) (
 zg 77825 [t0,t7,t9,x2,t12])
theorem g19_0_ok:OkG H g19_0 77824:=c5 fun _ _ _ _ _ _=>by kernel_rfl
def g19_1:List AV→CM:=a5 fun t0 t7 t9 t11 t12=>
 zb .eql 35 t11 (.int .i64 0) fun x0=>
 zC x0 (
 zf 54 2 t9 fun x1=>
 zf 54 2 t12 fun x2=>
 zf 45 0 t7 fun x3=>
 zl 43 x3 fun x4=>
 zk 57 [x1,x2,x4] fun x5=>
 zg 77826 [t0,t9,x5,t12]) (
 zg 77826 [t0,t9,t11,t12])
theorem g19_1_ok:OkG H g19_1 77825:=c5 fun _ _ _ _ _ _=>by kernel_rfl
def g19_2:List AV→CM:=a4 fun t0 t9 t11 t12=>
 zb .eql 35 t11 (.int .i64 0) fun x0=>
 zC x0 (
 zl 54 t9 fun x1=>
 zk 58 [t0,x1] fun _=>
 zl 54 t12 fun x3=>
 zk 58 [t0,x3] fun _=>
 zg 77827 [t11]) (
 zg 77827 [t11])
theorem g19_2_ok:OkG H g19_2 77826:=c4 fun _ _ _ _ _=>by kernel_rfl
def g19_3:List AV→CM:=a1 fun t11=>
 zR t11
theorem g19_3_ok:OkG H g19_3 77827:=c1 fun _ _=>by kernel_rfl
def f19:List AV→CM:=a4 fun a0 a1 a2 a3=>
 zo a3 fun x0=>
 zk 53 [a0,a1] fun x1=>
 ze 0 x1 fun x2=>
 ze 1 x1 fun x3=>
 ze 2 x1 fun x4=>
 za [(.int .u64 0),(.str []),(.int .i64 0),(.int .u64 0)] fun x5=>
 za [(.str []),(.int .i64 0),(.int .i64 0),(.int .u64 0)] fun x6=>
 zs x5 x2 4<|
 zs x6 x3 4<|
 zk 53 [a0,a2] fun x9=>
 ze 0 x9 fun x10=>
 ze 1 x9 fun x11=>
 ze 2 x9 fun x12=>
 za [(.int .u64 0),(.str []),(.int .i64 0),(.int .u64 0)] fun x13=>
 za [(.str []),(.int .i64 0),(.int .i64 0),(.int .u64 0)] fun x14=>
 zs x13 x10 4<|
 zs x14 x11 4<|
 zb .neq 35 x4 (.int .i64 0) fun x17=>
 zC x17 (
 zR x4) (
 zb .neq 35 x12 (.int .i64 0) fun x18=>
 zC x18 (
 zR x12) (
 zb .eql 26 a1 a2 fun x19=>
 zC x19 (
 zR (.int .i64 45)) (
 zf 56 0 x6 fun x20=>
 zl 9 x20 fun x21=>
 zf 56 0 x14 fun x22=>
 zl 9 x22 fun x23=>
 zb .neq 9 x21 x23 fun x24=>
 zC x24 (
 zR (.int .i64 41)) (
 zg 77824 [a0,x0,x5,x6,x13]))))
theorem f19_ok (h:H 19=none):OkF H f19 19:=e4 h rfl fun _ _ _ _ _=>by kernel_rfl
end
end
end Go.Proofs.YtlginbmjiecglaaGreatDoor.T
