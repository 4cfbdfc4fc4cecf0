/- Texts of one claim, put together. -/
import Derived.Test.YtlginbmjiecglaaGreatDoorK0
import Derived.Test.YtlginbmjiecglaaGreatDoorK12
namespace Go.Proofs.YtlginbmjiecglaaGreatDoor.T
section
open Go Go.Abs Go.Proofs.YtlginbmjiecglaaGreatDoor
set_option maxRecDepth 10000
noncomputable section
variable {H:FuncId→Option (List AV→Mem→R)}
def g38_0:List AV→CM:=a1 fun t0=>
 zd 94 [(0,t0)] fun x0=>
 zo x0 fun x1=>
 zk 79 [(.int .i64 8)] fun x2=>
 ze 0 x2 fun x3=>
 ze 1 x2 fun _=>
 zn x1 fun x5=>
 zf 94 1 x5 fun x6=>
 zs x6 x3 1<|
 zk 80 [(.int .i64 64)] fun x8=>
 ze 0 x8 fun x9=>
 ze 1 x8 fun _=>
 zn x1 fun x11=>
 zf 94 2 x11 fun x12=>
 zs x12 x9 1<|
 zk 81 [t0] fun x14=>
 ze 0 x14 fun x15=>
 ze 1 x14 fun _=>
 zn x1 fun x17=>
 zf 94 3 x17 fun x18=>
 zs x18 x15 1<|
 zR (.tup [x1,(.int .i64 0)])
theorem j6f:OkG H g38_0 155648:=c1 fun _ _=>by kernel_rfl
def f38:List AV→CM:=a1 fun a0=>
 zb .lss 3 a0 (.int .i64 1) fun x0=>
 zI x0 (
 zR (.tup [(.ptr none),(.int .i64 1)])) (
 zb .gtr 3 a0 (.int .i64 64) fun x1=>
 zC x1 (
 zR (.tup [(.ptr none),(.int .i64 1)])) (
 zg 155648 [a0]))
theorem f38_ok (h:H 38=none):OkF H f38 38:=e1 h rfl fun _ _=>by kernel_rfl
def g39_0:List AV→CM:=a0<|
 zR (.bool true)
theorem j6h:OkG H g39_0 159744:=c0 fun _=>by kernel_rfl
def f39:List AV→CM:=a3 fun a0 a1 a2=>
 zo a2 fun x0=>
 zn a0 fun x1=>
 zf 142 0 x1 fun x2=>
 zl 140 x2 fun x3=>
 zk 82 [x3,a1] fun x4=>
 ze 0 x4 fun x5=>
 ze 1 x4 fun x6=>
 zC x6 (
 zn a0 fun x7=>
 zf 142 1 x7 fun x8=>
 zl 23 x8 fun x9=>
 zl 56 x0 fun x10=>
 zi 23 x9 x5 fun x11=>
 zs x11 x10 4<|
 zg 159744 []) (
 zn a0 fun x15=>
 zf 142 0 x15 fun x16=>
 zl 140 x16 fun x17=>
 zt 140 x17 fun x18=>
 zn a0 fun x19=>
 zf 142 2 x19 fun x20=>
 zl 3 x20 fun x21=>
 zb .geq 3 x18 x21 fun x22=>
 zC x22 (
 zR (.bool false)) (
 zn a0 fun x23=>
 zf 142 0 x23 fun x24=>
 zl 140 x24 fun x25=>
 CM.al (bsA 1 1 [(.str [])] [(0,a1)]) fun x26=>
 zk 83 [x25,x5,x26] fun x27=>
 zn a0 fun x28=>
 zf 142 0 x28 fun x29=>
 zs x29 x27 1<|
 zn a0 fun x31=>
 zf 142 1 x31 fun x32=>
 zl 23 x32 fun x33=>
 zl 56 x0 fun x34=>
 CM.al (bsA 4 1 [(.str []),(.int .i64 0),(.int .i64 0),(.int .u64 0)] [(0,x34)]) fun x35=>
 zk 84 [x33,x5,x35] fun x37=>
 zn a0 fun x39=>
 zf 142 1 x39 fun x40=>
 zs x40 x37 1<|
 zg 159744 []))
theorem f39_ok (h:H 39=none):OkF H f39 39:=e3 h rfl fun _ _ _ _=>by kernel_rfl
def g40_0:List AV→CM:=a0<|
 zR (.bool true)
theorem g40_0_ok:OkG H g40_0 163840:=c0 fun _=>by kernel_rfl
def f40:List AV→CM:=a3 fun a0 a1 a2=>
 zo a2 fun x0=>
 zn a0 fun x1=>
 zf 146 0 x1 fun x2=>
 zl 140 x2 fun x3=>
 zk 82 [x3,a1] fun x4=>
 ze 0 x4 fun x5=>
 ze 1 x4 fun x6=>
 zC x6 (
 zn a0 fun x7=>
 zf 146 1 x7 fun x8=>
 zl 24 x8 fun x9=>
 zl 74 x0 fun x10=>
 zi 24 x9 x5 fun x11=>
 zs x11 x10 9<|
 zg 163840 []) (
 zn a0 fun x15=>
 zf 146 0 x15 fun x16=>
 zl 140 x16 fun x17=>
 zt 140 x17 fun x18=>
 zn a0 fun x19=>
 zf 146 2 x19 fun x20=>
 zl 3 x20 fun x21=>
 zb .geq 3 x18 x21 fun x22=>
 zC x22 (
 zR (.bool false)) (
 zn a0 fun x23=>
 zf 146 0 x23 fun x24=>
 zl 140 x24 fun x25=>
 CM.al (bsA 1 1 [(.str [])] [(0,a1)]) fun x26=>
 zk 83 [x25,x5,x26] fun x27=>
 zn a0 fun x28=>
 zf 146 0 x28 fun x29=>
 zs x29 x27 1<|
 zn a0 fun x31=>
 zf 146 1 x31 fun x32=>
 zl 24 x32 fun x33=>
 zl 74 x0 fun x34=>
 CM.al (bsA 9 1 [(.str []),(.str []),(.int .i64 0),(.int .u64 0),(.int .i64 0),(.int .i64 0),(.int .u64 0),(.int .i64 0),(.int .u64 0)] [(0,x34)]) fun x35=>
 zk 85 [x33,x5,x35] fun x37=>
 zn a0 fun x39=>
 zf 146 1 x39 fun x40=>
 zs x40 x37 1<|
 zg 163840 []))
theorem f40_ok (h:H 40=none):OkF H f40 40:=e3 h rfl fun _ _ _ _=>by kernel_rfl
def g41_0:List AV→CM:=a0<|
 zR (.bool true)
theorem j6k:OkG H g41_0 167936:=c0 fun _=>by kernel_rfl
def f41:List AV→CM:=a3 fun a0 a1 a2=>
 zo a2 fun x0=>
 zn a0 fun x1=>
 zf 151 0 x1 fun x2=>
 zl 149 x2 fun x3=>
 zk 86 [x3,a1] fun x4=>
 ze 0 x4 fun x5=>
 ze 1 x4 fun x6=>
 zC x6 (
 zn a0 fun x7=>
 zf 151 1 x7 fun x8=>
 zl 25 x8 fun x9=>
 zl 54 x0 fun x10=>
 zi 25 x9 x5 fun x11=>
 zs x11 x10 4<|
 zg 167936 []) (
 zn a0 fun x15=>
 zf 151 0 x15 fun x16=>
 zl 149 x16 fun x17=>
 zt 149 x17 fun x18=>
 zn a0 fun x19=>
 zf 151 2 x19 fun x20=>
 zl 3 x20 fun x21=>
 zb .geq 3 x18 x21 fun x22=>
 zC x22 (
 zR (.bool false)) (
 zn a0 fun x23=>
 zf 151 0 x23 fun x24=>
 zl 149 x24 fun x25=>
 CM.al (bsA 1 1 [(.int .u64 0)] [(0,a1)]) fun x26=>
 zk 87 [x25,x5,x26] fun x27=>
 zn a0 fun x28=>
 zf 151 0 x28 fun x29=>
 zs x29 x27 1<|
 zn a0 fun x31=>
 zf 151 1 x31 fun x32=>
 zl 25 x32 fun x33=>
 zl 54 x0 fun x34=>
 CM.al (bsA 4 1 [(.int .u64 0),(.str []),(.int .i64 0),(.int .u64 0)] [(0,x34)]) fun x35=>
 zk 88 [x33,x5,x35] fun x37=>
 zn a0 fun x39=>
 zf 151 1 x39 fun x40=>
 zs x40 x37 1<|
 zg 167936 []))
theorem f41_ok (h:H 41=none):OkF H f41 41:=e3 h rfl fun _ _ _ _=>by kernel_rfl
def g42_0:List AV→CM:=a0<|
 zR (.int .i64 0)
theorem g42_0_ok:OkG H g42_0 172032:=c0 fun _=>by kernel_rfl
def f42:List AV→CM:=a3 fun a0 a1 a2=>
 zn a0 fun x0=>
 zf 94 1 x0 fun x1=>
 zl 90 x1 fun x2=>
 zk 89 [x2,a1] fun x3=>
 ze 0 x3 fun x4=>
 ze 1 x3 fun x5=>
 za [(.str []),(.int .i64 0),(.int .i64 0),(.int .u64 0)] fun x6=>
 zs x6 x4 4<|
 zk 46 [a1] fun x8=>
 zu x8 fun x9=>
 zC x9 (
 zR (.int .i64 41)) (
 zb .gtr 26 a2 (.int .u64 18) fun x10=>
 zC x10 (
 zR (.int .i64 21)) (
 zC x5 (
 zR (.int .i64 45)) (
 zn a0 fun x11=>
 zf 94 1 x11 fun x12=>
 zl 90 x12 fun x13=>
 zc 26 3 a2 fun x14=>
 zd 56 [(0,a1),(1,x14)] fun x15=>
 zk 39 [x13,a1,x15] fun x16=>
 zu x16 fun x17=>
 zC x17 (
 zR (.int .i64 2)) (
 zg 172032 []))))
theorem f42_ok (h:H 42=none):OkF H f42 42:=e3 h rfl fun _ _ _ _=>by kernel_rfl
def g43_0:List AV→CM:=a2 fun t0 t1=>
 zn t0 fun x0=>
 zf 94 3 x0 fun x1=>
 zl 92 x1 fun x2=>
 zm fun m3=>
 zk 90 [x2] fun x4=>
 zn t0 fun x6=>
 zf 94 0 x6 fun x7=>
 zl 3 x7 fun x8=>
 zx 3 x7 m3 x8<|
 zb .geq 3 x4 x8 fun x9=>
 zI x9 (
 zR (.tup [(.int .u64 0),(.int .i64 2)])) (
 zn t0 fun x10=>
 zf 94 4 x10 fun x11=>
 zl 26 x11 fun x12=>
 zb .geq 26 x12 (.int .u64 72057594037927935) fun x13=>
 zC x13 (
 zR (.tup [(.int .u64 0),(.int .i64 2)])) (
 zg 176129 [t0,t1]))
theorem g43_0_ok:OkG H g43_0 176128:=c2 fun _ _ _=>by kernel_rfl
def g43_1:List AV→CM:=a2 fun t0 t1=>
 zn t0 fun x0=>
 zf 94 4 x0 fun x1=>
 zl 26 x1 fun x2=>
 zb .add 26 x2 (.int .u64 1) fun x3=>
 zn t0 fun x4=>
 zf 94 4 x4 fun x5=>
 zs x5 x3 1<|
 zn t0 fun x7=>
 zf 94 3 x7 fun x8=>
 zl 92 x8 fun x9=>
 zn t0 fun x10=>
 zf 94 4 x10 fun x11=>
 zl 26 x11 fun x12=>
 zn t0 fun x13=>
 zf 94 4 x13 fun x14=>
 zl 26 x14 fun x15=>
 zd 54 [(0,x15),(1,t1)] fun x16=>
 zk 41 [x9,x12,x16] fun _=>
 zn t0 fun x20=>
 zf 94 4 x20 fun x21=>
 zl 26 x21 fun x22=>
 zR (.tup [x22,(.int .i64 0)])
theorem g43_1_ok:OkG H g43_1 176129:=c2 fun _ _ _=>by kernel_rfl
def f43:List AV→CM:=a2 fun a0 a1=>
 zn a0 fun x0=>
 zf 94 1 x0 fun x1=>
 zl 90 x1 fun x2=>
 zk 89 [x2,a1] fun x3=>
 ze 0 x3 fun x4=>
 ze 1 x3 fun x5=>
 za [(.str []),(.int .i64 0),(.int .i64 0),(.int .u64 0)] fun x6=>
 zs x6 x4 4<|
 zu x5 fun x8=>
 zC x8 (
 zR (.tup [(.int .u64 0),(.int .i64 41)])) (
 zg 176128 [a0,a1])
theorem f43_ok (h:H 43=none):OkF H f43 43:=e2 h rfl fun _ _ _=>by kernel_rfl
def g44_0:List AV→CM:=a5 fun t0 t5 t7 t8 t9=>
 zb .eql 35 t9 (.int .i64 0) fun x0=>
 zC x0 (
 zf 56 2 t8 fun x1=>
 zf 54 2 t7 fun x2=>
 zf 45 0 t5 fun x3=>
 zl 43 x3 fun x4=>
 zk 57 [x1,x2,x4] fun x5=>
 zg 180225 [t0,t7,t8,x5]) (
 zg 180225 [t0,t7,t8,t9])
theorem g44_0_ok:OkG H g44_0 180224:=c5 fun _ _ _ _ _ _=>by kernel_rfl
def g44_1:List AV→CM:=a4 fun t0 t7 t8 t9=>
 zb .eql 35 t9 (.int .i64 0) fun x0=>
 zC x0 (
 zl 54 t7 fun x1=>
 zk 58 [t0,x1] fun _=>
 zn t0 fun x3=>
 zf 94 1 x3 fun x4=>
 zl 90 x4 fun x5=>
 zf 56 0 t8 fun x6=>
 zl 9 x6 fun x7=>
 zl 56 t8 fun x8=>
 zk 39 [x5,x7,x8] fun _=>
 zg 180226 [t9]) (
 zg 180226 [t9])
theorem g44_1_ok:OkG H g44_1 180225:=c4 fun _ _ _ _ _=>by kernel_rfl
def g44_2:List AV→CM:=a1 fun t9=>
 zR t9
theorem g44_2_ok:OkG H g44_2 180226:=c1 fun _ _=>by kernel_rfl
def f44:List AV→CM:=a3 fun a0 a1 a2=>
 zo a2 fun x0=>
 zk 53 [a0,a1] fun x1=>
 ze 0 x1 fun x2=>
 ze 1 x1 fun x3=>
 ze 2 x1 fun x4=>
 za [(.int .u64 0),(.str []),(.int .i64 0),(.int .u64 0)] fun x5=>
 za [(.str []),(.int .i64 0),(.int .i64 0),(.int .u64 0)] fun x6=>
 zs x5 x2 4<|
 zs x6 x3 4<|
 zb .eql 35 x4 (.int .i64 0) fun x9=>
 zC x9 (
 zl 56 x6 fun x10=>
 zl 45 x0 fun x11=>
 zk 55 [x10,x11] fun x12=>
 zg 180224 [a0,x0,x5,x6,x12]) (
 zg 180224 [a0,x0,x5,x6,x4])
theorem f44_ok (h:H 44=none):OkF H f44 44:=e3 h rfl fun _ _ _ _=>by kernel_rfl
def g45_0:List AV→CM:=a2 fun t4 t6=>
 zf 56 2 t6 fun x0=>
 zl 43 x0 fun x1=>
 zf 56 1 t6 fun x2=>
 zl 3 x2 fun x3=>
 zd 45 [(0,x1),(1,x3)] fun x4=>
 zs t4 x4 3<|
 zr [.cell 0 45,.tmp 1] [t4,(.int .i64 0)]
theorem g45_0_ok:OkG H g45_0 184320:=c2 fun _ _ _=>by kernel_rfl
def f45:List AV→CM:=a2 fun a0 a1=>
 za [(.int .i64 0),(.int .u64 0),(.int .i64 0)] fun x0=>
 zn a0 fun x1=>
 zf 94 1 x1 fun x2=>
 zl 90 x2 fun x3=>
 zk 89 [x3,a1] fun x4=>
 ze 0 x4 fun x5=>
 ze 1 x4 fun x6=>
 za [(.str []),(.int .i64 0),(.int .i64 0),(.int .u64 0)] fun x7=>
 zs x7 x5 4<|
 zu x6 fun x9=>
 zC x9 (
 zd 45 [] fun x10=>
 zs x0 x10 3<|
 zr [.cell 0 45,.tmp 1] [x0,(.int .i64 41)]) (
 zg 184320 [x0,x7])
theorem f45_ok (h:H 45=none):OkF H f45 45:=e2 h rfl fun _ _ _=>by kernel_rfl
def g46_0:List AV→CM:=a2 fun t0 t3=>
 zt 9 t0 fun x0=>
 zb .lss 3 t3 x0 fun x1=>
 zC x1 (
 zg 188417 [t0,t3]) (
 zg 188419 [t0])
theorem j6m:OkG H g46_0 188416:=c2 fun _ _ _=>by kernel_rfl
def g46_1:List AV→CM:=a2 fun t0 t3=>
 CM.pu (p2 (q74 Tryz.prog 9) t0 t3) fun x0=>
 zb .lss 5 x0 (.int .u8 65) fun x1=>
 zI x1 (
 zR (.bool false)) (
 CM.pu (p2 (q74 Tryz.prog 9) t0 t3) fun x2=>
 zb .gtr 5 x2 (.int .u8 90) fun x3=>
 zC x3 (
 zR (.bool false)) (
 zg 188418 [t0,t3]))
theorem j6n:OkG H g46_1 188417:=c2 fun _ _ _=>by kernel_rfl
def g46_2:List AV→CM:=a2 fun t0 t3=>
 zb .add 3 t3 (.int .i64 1) fun x0=>
 zg 188416 [t0,x0]
theorem j6o:OkG H g46_2 188418:=c2 fun _ _ _=>by kernel_rfl
def g46_3:List AV→CM:=a1 fun t0=>
 zt 9 t0 fun x0=>
 zb .eql 3 x0 (.int .i64 3) fun x1=>
 zR x1
theorem j6p:OkG H g46_3 188419:=c1 fun _ _=>by kernel_rfl
def f46:List AV→CM:=a1 fun a0=>
 zg 188416 [a0,(.int .i64 0)]
theorem f46_ok (h:H 46=none):OkF H f46 46:=e1 h rfl fun _ _=>by kernel_rfl
def j9s:List AV→CM:=a4 fun t1 t7 t8 t9=>
 zb .lss 3 t9 t8 fun x0=>
 zC x0 (
 zg 192513 [t1,t7,t8,t9]) (
 zg 192516 [])
theorem g47_0_ok:OkG H j9s 192512:=c4 fun _ _ _ _ _=>by kernel_rfl
def g47_1:List AV→CM:=a4 fun t1 t7 t8 t9=>
 zi 24 t7 t9 fun x0=>
 zl 74 x0 fun x1=>
 za [(.str []),(.str []),(.int .i64 0),(.int .u64 0),(.int .i64 0),(.int .i64 0),(.int .u64 0),(.int .i64 0),(.int .u64 0)] fun x2=>
 zs x2 x1 9<|
 zb .eql 3 t9 (.int .i64 0) fun x4=>
 zI x4 (
 zg 192514 [t1,x2,(.bool true),t7,t8,t9]) (
 zf 28 1 t1 fun x5=>
 zl 24 x5 fun x6=>
 zb .sub 3 t9 (.int .i64 1) fun x7=>
 zi 24 x6 x7 fun x8=>
 zf 74 0 x8 fun x9=>
 zl 9 x9 fun x10=>
 zf 74 0 x2 fun x11=>
 zl 9 x11 fun x12=>
 zb .lss 9 x10 x12 fun x13=>
 zI x13 (
 zg 192514 [t1,x2,(.bool true),t7,t8,t9]) (
 zf 28 1 t1 fun x14=>
 zl 24 x14 fun x15=>
 zb .sub 3 t9 (.int .i64 1) fun x16=>
 zi 24 x15 x16 fun x17=>
 zf 74 0 x17 fun x18=>
 zl 9 x18 fun x19=>
 zf 74 0 x2 fun x20=>
 zl 9 x20 fun x21=>
 zb .eql 9 x19 x21 fun x22=>
 zI x22 (
 zf 28 1 t1 fun x23=>
 zl 24 x23 fun x24=>
 zb .sub 3 t9 (.int .i64 1) fun x25=>
 zi 24 x24 x25 fun x26=>
 zf 74 1 x26 fun x27=>
 zl 9 x27 fun x28=>
 zf 74 1 x2 fun x29=>
 zl 9 x29 fun x30=>
 zb .lss 9 x28 x30 fun x31=>
 zg 192514 [t1,x2,x31,t7,t8,t9]) (
 zg 192514 [t1,x2,(.bool false),t7,t8,t9])))
theorem g47_1_ok:OkG H g47_1 192513:=c4 fun _ _ _ _ _=>by kernel_rfl
def z7a:List AV→CM:=a6 fun t1 t4 t5 t7 t8 t9=>
 zu t5 fun x0=>
 zI x0 (
 zR (.bool false)) (
 zl 28 t1 fun x1=>
 zf 74 0 t4 fun x2=>
 zl 9 x2 fun x3=>
 zk 91 [x1,x3] fun x4=>
 zu x4 fun x5=>
 zI x5 (
 zR (.bool false)) (
 zl 28 t1 fun x6=>
 zf 74 1 t4 fun x7=>
 zl 9 x7 fun x8=>
 zk 91 [x6,x8] fun x9=>
 zu x9 fun x10=>
 zI x10 (
 zR (.bool false)) (
 zf 74 0 t4 fun x11=>
 zl 9 x11 fun x12=>
 zf 74 1 t4 fun x13=>
 zl 9 x13 fun x14=>
 zb .eql 9 x12 x14 fun x15=>
 zI x15 (
 zR (.bool false)) (
 zf 74 2 t4 fun x16=>
 zl 45 x16 fun x17=>
 zk 92 [x17] fun x18=>
 zb .neq 35 x18 (.int .i64 0) fun x19=>
 zI x19 (
 zR (.bool false)) (
 zf 74 3 t4 fun x20=>
 zl 43 x20 fun x21=>
 zk 93 [x21] fun x22=>
 zb .lss 3 x22 (.int .i64 0) fun x23=>
 zI x23 (
 zR (.bool false)) (
 zf 74 4 t4 fun x24=>
 zl 43 x24 fun x25=>
 zk 93 [x25] fun x26=>
 zb .gtr 3 x26 (.int .i64 0) fun x27=>
 zC x27 (
 zR (.bool false)) (
 zg 192515 [t1,t7,t8,t9])))))))
theorem g47_2_ok:OkG H z7a 192514:=c6 fun _ _ _ _ _ _ _=>by kernel_rfl
def g47_3:List AV→CM:=a4 fun t1 t7 t8 t9=>
 zb .add 3 t9 (.int .i64 1) fun x0=>
 zg 192512 [t1,t7,t8,x0]
theorem g47_3_ok:OkG H g47_3 192515:=c4 fun _ _ _ _ _=>by kernel_rfl
def g47_4:List AV→CM:=a0<|
 zR (.bool true)
theorem g47_4_ok:OkG H g47_4 192516:=c0 fun _=>by kernel_rfl
def f47:List AV→CM:=a1 fun a0=>
 zo a0 fun x0=>
 zf 28 1 x0 fun x1=>
 zl 24 x1 fun x2=>
 zt 24 x2 fun x3=>
 zg 192512 [x0,x2,x3,(.int .i64 0)]
theorem f47_ok (h:H 47=none):OkF H f47 47:=e1 h rfl fun _ _=>by kernel_rfl
def g48_0:List AV→CM:=a5 fun t1 t3 t7 t8 t9=>
 zb .lss 3 t9 t8 fun x0=>
 zC x0 (
 zg 196609 [t1,t3,t7,t8,t9]) (
 zg 196612 [t1])
theorem g48_0_ok:OkG H g48_0 196608:=c5 fun _ _ _ _ _ _=>by kernel_rfl
def j9t:List AV→CM:=a5 fun t1 t3 t7 t8 t9=>
 zi 25 t7 t9 fun x0=>
 zl 54 x0 fun x1=>
 za [(.int .u64 0),(.str []),(.int .i64 0),(.int .u64 0)] fun x2=>
 zs x2 x1 4<|
 zf 54 0 x2 fun x4=>
 zl 26 x4 fun x5=>
 zb .leq 26 x5 t3 fun x6=>
 zI x6 (
 zR (.bool false)) (
 zf 54 0 x2 fun x7=>
 zl 26 x7 fun x8=>
 zf 28 3 t1 fun x9=>
 zl 26 x9 fun x10=>
 zb .gtr 26 x8 x10 fun x11=>
 zI x11 (
 zR (.bool false)) (
 zl 28 t1 fun x12=>
 zf 54 1 x2 fun x13=>
 zl 9 x13 fun x14=>
 zk 91 [x12,x14] fun x15=>
 zu x15 fun x16=>
 zI x16 (
 zR (.bool false)) (
 zf 54 2 x2 fun x17=>
 zl 43 x17 fun x18=>
 zk 93 [x18] fun x19=>
 zb .lss 3 x19 (.int .i64 0) fun x20=>
 zC x20 (
 zR (.bool false)) (
 zg 196610 [t1,x2,t7,t8,t9]))))
theorem g48_1_ok:OkG H j9t 196609:=c5 fun _ _ _ _ _ _=>by kernel_rfl
def g48_2:List AV→CM:=a5 fun t1 t5 t7 t8 t9=>
 zf 54 0 t5 fun x0=>
 zl 26 x0 fun x1=>
 zg 196611 [t1,x1,t7,t8,t9]
theorem g48_2_ok:OkG H g48_2 196610:=c5 fun _ _ _ _ _ _=>by kernel_rfl
def g48_3:List AV→CM:=a5 fun t1 t3 t7 t8 t9=>
 zb .add 3 t9 (.int .i64 1) fun x0=>
 zg 196608 [t1,t3,t7,t8,x0]
theorem g48_3_ok:OkG H g48_3 196611:=c5 fun _ _ _ _ _ _=>by kernel_rfl
def g48_4:List AV→CM:=a1 fun t1=>
 zf 28 3 t1 fun x0=>
 zl 26 x0 fun x1=>
 zb .leq 26 x1 (.int .u64 72057594037927935) fun x2=>
 zR x2
theorem g48_4_ok:OkG H g48_4 196612:=c1 fun _ _=>by kernel_rfl
def f48:List AV→CM:=a1 fun a0=>
 zo a0 fun x0=>
 zf 28 2 x0 fun x1=>
 zl 25 x1 fun x2=>
 zt 25 x2 fun x3=>
 zg 196608 [x0,(.int .u64 0),x2,x3,(.int .i64 0)]
theorem f48_ok (h:H 48=none):OkF H f48 48:=e1 h rfl fun _ _=>by kernel_rfl
def g49_0:List AV→CM:=a6 fun t2 t3 t5 t14 t15 t16=>
 zb .lss 3 t16 t15 fun x0=>
 zC x0 (
 zg 200705 [t2,t3,t5,t14,t15,t16]) (
 zg 200707 [t2,t3,t5])
theorem g49_0_ok:OkG H g49_0 200704:=c6 fun _ _ _ _ _ _ _=>by kernel_rfl
def g49_1:List AV→CM:=a6 fun t2 t3 t5 t14 t15 t16=>
 zi 25 t14 t16 fun x0=>
 zl 54 x0 fun x1=>
 za [(.int .u64 0),(.str []),(.int .i64 0),(.int .u64 0)] fun x2=>
 zs x2 x1 4<|
 zf 54 1 x2 fun x4=>
 zl 9 x4 fun x5=>
 zf 56 0 t3 fun x6=>
 zl 9 x6 fun x7=>
 zb .eql 9 x5 x7 fun x8=>
 zC x8 (
 zf 54 2 x2 fun x9=>
 zl 43 x9 fun x10=>
 zk 94 [t5,x10] fun _=>
 zg 200706 [t2,t3,t5,t14,t15,t16]) (
 zg 200706 [t2,t3,t5,t14,t15,t16])
theorem g49_1_ok:OkG H g49_1 200705:=c6 fun _ _ _ _ _ _ _=>by kernel_rfl
def g49_2:List AV→CM:=a6 fun t2 t3 t5 t14 t15 t16=>
 zb .add 3 t16 (.int .i64 1) fun x0=>
 zg 200704 [t2,t3,t5,t14,t15,x0]
theorem g49_2_ok:OkG H g49_2 200706:=c6 fun _ _ _ _ _ _ _=>by kernel_rfl
def g49_3:List AV→CM:=a3 fun t2 t3 t5=>
 zf 28 1 t2 fun x0=>
 zl 24 x0 fun x1=>
 zt 24 x1 fun x2=>
 zg 200708 [t3,t5,x1,x2,(.int .i64 0)]
theorem g49_3_ok:OkG H g49_3 200707:=c3 fun _ _ _ _=>by kernel_rfl
def g49_4:List AV→CM:=a5 fun t3 t5 t30 t31 t32=>
 zb .lss 3 t32 t31 fun x0=>
 zC x0 (
 zg 200709 [t3,t5,t30,t31,t32]) (
 zg 200712 [t5])
theorem g49_4_ok:OkG H g49_4 200708:=c5 fun _ _ _ _ _ _=>by kernel_rfl
def g49_5:List AV→CM:=a5 fun t3 t5 t30 t31 t32=>
 zi 24 t30 t32 fun x0=>
 zl 74 x0 fun x1=>
 za [(.str []),(.str []),(.int .i64 0),(.int .u64 0),(.int .i64 0),(.int .i64 0),(.int .u64 0),(.int .i64 0),(.int .u64 0)] fun x2=>
 zs x2 x1 9<|
 zf 74 0 x2 fun x4=>
 zl 9 x4 fun x5=>
 zf 56 0 t3 fun x6=>
 zl 9 x6 fun x7=>
 zb .eql 9 x5 x7 fun x8=>
 zC x8 (
 zf 74 3 x2 fun x9=>
 zl 43 x9 fun x10=>
 zk 94 [t5,x10] fun _=>
 zg 200710 [t3,t5,x2,t30,t31,t32]) (
 zg 200710 [t3,t5,x2,t30,t31,t32])
theorem g49_5_ok:OkG H g49_5 200709:=c5 fun _ _ _ _ _ _=>by kernel_rfl
def g49_6:List AV→CM:=a6 fun t3 t5 t9 t30 t31 t32=>
 zf 74 1 t9 fun x0=>
 zl 9 x0 fun x1=>
 zf 56 0 t3 fun x2=>
 zl 9 x2 fun x3=>
 zb .eql 9 x1 x3 fun x4=>
 zC x4 (
 zf 74 4 t9 fun x5=>
 zl 43 x5 fun x6=>
 zk 94 [t5,x6] fun _=>
 zg 200711 [t3,t5,t30,t31,t32]) (
 zg 200711 [t3,t5,t30,t31,t32])
theorem g49_6_ok:OkG H g49_6 200710:=c6 fun _ _ _ _ _ _ _=>by kernel_rfl
def g49_7:List AV→CM:=a5 fun t3 t5 t30 t31 t32=>
 zb .add 3 t32 (.int .i64 1) fun x0=>
 zg 200708 [t3,t5,t30,t31,x0]
theorem g49_7_ok:OkG H g49_7 200711:=c5 fun _ _ _ _ _ _=>by kernel_rfl
def g49_8:List AV→CM:=a1 fun t5=>
 zk 95 [t5] fun x0=>
 zR x0
theorem g49_8_ok:OkG H g49_8 200712:=c1 fun _ _=>by kernel_rfl
def f49:List AV→CM:=a2 fun a0 a1=>
 zo a0 fun x0=>
 zo a1 fun x1=>
 za [(.int .i64 0),(.int .u64 0),(.int .u64 0)] fun x2=>
 zf 56 2 x1 fun x3=>
 zl 43 x3 fun x4=>
 zk 94 [x2,x4] fun _=>
 zf 28 2 x0 fun x6=>
 zl 25 x6 fun x7=>
 zt 25 x7 fun x8=>
 zg 200704 [x0,x1,x2,x7,x8,(.int .i64 0)]
theorem f49_ok (h:H 49=none):OkF H f49 49:=e2 h rfl fun _ _ _=>by kernel_rfl
def f50:List AV→CM:=a1 fun a0=>
 zo a0 fun x0=>
 zR (.fn (.func 96) [] [x0])
theorem f50_ok (h:H 50=none):OkF H f50 50:=e1 h rfl fun _ _=>by kernel_rfl
def f51:List AV→CM:=a1 fun a0=>
 zo a0 fun x0=>
 zR (.fn (.func 100) [] [x0])
theorem f51_ok (h:H 51=none):OkF H f51 51:=e1 h rfl fun _ _=>by kernel_rfl
def f52:List AV→CM:=a1 fun a0=>
 zo a0 fun x0=>
 zR (.fn (.func 104) [] [x0])
theorem f52_ok (h:H 52=none):OkF H f52 52:=e1 h rfl fun _ _=>by kernel_rfl
def g53_0:List AV→CM:=a4 fun t0 t4 t5 t7=>
 zn t0 fun x0=>
 zf 94 1 x0 fun x1=>
 zl 90 x1 fun x2=>
 zf 54 1 t7 fun x3=>
 zl 9 x3 fun x4=>
 zk 89 [x2,x4] fun x6=>
 ze 0 x6 fun x8=>
 ze 1 x6 fun _=>
 za [(.str []),(.int .i64 0),(.int .i64 0),(.int .u64 0)] fun x10=>
 zs x10 x8 4<|
 zl 54 t7 fun x14=>
 zl 56 x10 fun x15=>
 zs t4 x14 4<|
 zm fun m18=>
 zx 56 x10 m18 x15<|
 zs t5 x15 4<|
 zr [.cell 0 54,.cell 1 56,.tmp 2] [t4,t5,(.int .i64 0)]
theorem j6w:OkG H g53_0 217088:=c4 fun _ _ _ _ _=>by kernel_rfl
def f53:List AV→CM:=a2 fun a0 a1=>
 za [(.int .u64 0),(.str []),(.int .i64 0),(.int .u64 0)] fun x0=>
 za [(.str []),(.int .i64 0),(.int .i64 0),(.int .u64 0)] fun x1=>
 zn a0 fun x2=>
 zf 94 3 x2 fun x3=>
 zl 92 x3 fun x4=>
 zk 108 [x4,a1] fun x5=>
 ze 0 x5 fun x6=>
 ze 1 x5 fun x7=>
 za [(.int .u64 0),(.str []),(.int .i64 0),(.int .u64 0)] fun x8=>
 zs x8 x6 4<|
 zu x7 fun x10=>
 zC x10 (
 zl 54 x8 fun x11=>
 zd 56 [] fun x12=>
 zs x0 x11 4<|
 zs x1 x12 4<|
 zr [.cell 0 54,.cell 1 56,.tmp 2] [x0,x1,(.int .i64 40)]) (
 zg 217088 [a0,x0,x1,x8])
theorem f53_ok (h:H 53=none):OkF H f53 53:=e2 h rfl fun _ _ _=>by kernel_rfl
def f54:List AV→CM:=a1 fun a0=>
 za [(.int .i64 0),(.int .u64 0)] fun x0=>
 zb .shr 2 a0 (.int .u64 63) fun x1=>
 zc 2 26 a0 fun x2=>
 zd 43 [(0,x1),(1,x2)] fun x3=>
 zs x0 x3 2<|
 zr [.cell 0 43] [x0]
theorem f54_ok (h:H 54=none):OkF H f54 54:=e1 h rfl fun _ _=>by kernel_rfl
def g55_0:List AV→CM:=a0<|
 zR (.int .i64 0)
theorem j6x:OkG H g55_0 225280:=c0 fun _=>by kernel_rfl
def f55:List AV→CM:=a2 fun a0 a1=>
 zo a0 fun x0=>
 zo a1 fun x1=>
 zf 45 1 x1 fun x2=>
 zl 3 x2 fun x3=>
 zf 56 1 x0 fun x4=>
 zl 3 x4 fun x5=>
 zb .neq 3 x3 x5 fun x6=>
 zC x6 (
 zR (.int .i64 21)) (
 zf 45 0 x1 fun x7=>
 zl 43 x7 fun x8=>
 zk 93 [x8] fun x9=>
 zb .leq 3 x9 (.int .i64 0) fun x10=>
 zC x10 (
 zR (.int .i64 43)) (
 zg 225280 []))
theorem f55_ok (h:H 55=none):OkF H f55 55:=e2 h rfl fun _ _ _=>by kernel_rfl
def f56:List AV→CM:=a2 fun a0 a1=>
 zo a0 fun x0=>
 zo a1 fun x1=>
 zf 54 2 x0 fun x2=>
 zl 43 x2 fun x3=>
 zf 45 0 x1 fun x4=>
 zl 43 x4 fun x5=>
 zk 20 [x3,x5] fun x6=>
 zb .lss 3 x6 (.int .i64 0) fun x7=>
 zR x7
theorem f56_ok (h:H 56=none):OkF H f56 56:=e2 h rfl fun _ _ _=>by kernel_rfl
def g57_0:List AV→CM:=a4 fun t0 t1 t7 t9=>
 zl 43 t7 fun x0=>
 zl 43 t9 fun x1=>
 zn t0 fun x2=>
 zs x2 x0 2<|
 zm fun m5=>
 zx 43 t9 m5 x1<|
 zn t1 fun x6=>
 zs x6 x1 2<|
 zR (.int .i64 0)
theorem j6y:OkG H g57_0 233472:=c4 fun _ _ _ _ _=>by kernel_rfl
def f57:List AV→CM:=a3 fun a0 a1 a2=>
 zo a2 fun x0=>
 zn a0 fun x1=>
 zl 43 x1 fun x2=>
 zl 43 x0 fun x3=>
 zk 22 [x2,x3] fun x5=>
 ze 0 x5 fun x7=>
 ze 1 x5 fun x8=>
 za [(.int .i64 0),(.int .u64 0)] fun x9=>
 zs x9 x7 2<|
 zn a1 fun x13=>
 zl 43 x13 fun x14=>
 zl 43 x0 fun x15=>
 zk 21 [x14,x15] fun x17=>
 ze 0 x17 fun x19=>
 ze 1 x17 fun x20=>
 za [(.int .i64 0),(.int .u64 0)] fun x21=>
 zs x21 x19 2<|
 zb .neq 35 x8 (.int .i64 0) fun x25=>
 zI x25 (
 zR (.int .i64 20)) (
 zb .neq 35 x20 (.int .i64 0) fun x26=>
 zC x26 (
 zR (.int .i64 20)) (
 zg 233472 [a0,a1,x9,x21]))
theorem f57_ok (h:H 57=none):OkF H f57 57:=e3 h rfl fun _ _ _ _=>by kernel_rfl
def f58:List AV→CM:=a2 fun a0 a1=>
 zo a1 fun x0=>
 zn a0 fun x1=>
 zf 94 3 x1 fun x2=>
 zl 92 x2 fun x3=>
 zf 54 0 x0 fun x4=>
 zl 26 x4 fun x5=>
 zl 54 x0 fun x6=>
 zk 41 [x3,x5,x6] fun _=>
 zR .undef
theorem f58_ok (h:H 58=none):OkF H f58 58:=e2 h rfl fun _ _ _=>by kernel_rfl
def g64_0:List AV→CM:=a3 fun t0 t4 t6=>
 zn t0 fun x0=>
 zf 61 0 x0 fun x1=>
 zf 28 2 x1 fun x2=>
 zl 25 x2 fun x3=>
 zi 25 x3 t6 fun x4=>
 zf 54 2 x4 fun x5=>
 zl 43 x5 fun x6=>
 zn t0 fun x7=>
 zf 61 0 x7 fun x8=>
 zf 28 0 x8 fun x9=>
 zl 23 x9 fun x10=>
 zn t0 fun x11=>
 zf 61 0 x11 fun x12=>
 zf 28 2 x12 fun x13=>
 zl 25 x13 fun x14=>
 zi 25 x14 t6 fun x15=>
 zf 54 1 x15 fun x16=>
 zl 9 x16 fun x17=>
 zk 36 [t0,x17] fun x19=>
 zm fun m20=>
 zx 23 x9 m20 x10<|
 zx 43 x5 m20 x6<|
 zx 25 x2 m20 x3<|
 zi 23 x10 x19 fun x21=>
 zf 56 1 x21 fun x22=>
 zl 3 x22 fun x23=>
 zd 45 [(0,x6),(1,x23)] fun x24=>
 zs t4 x24 3<|
 zr [.cell 0 45,.tmp 1] [t4,(.int .i64 0)]
theorem g64_0_ok:OkG H g64_0 262144:=c3 fun _ _ _ _=>by kernel_rfl
def f64:List AV→CM:=a2 fun a0 a1=>
 za [(.int .i64 0),(.int .u64 0),(.int .i64 0)] fun x0=>
 zk 71 [a0,a1] fun x1=>
 zb .lss 3 x1 (.int .i64 0) fun x2=>
 zC x2 (
 zd 45 [] fun x3=>
 zs x0 x3 3<|
 zr [.cell 0 45,.tmp 1] [x0,(.int .i64 40)]) (
 zg 262144 [a0,x0,x1])
theorem f64_ok (h:H 64=none):OkF H f64 64:=e2 h rfl fun _ _ _=>by kernel_rfl
def g68_0:List AV→CM:=a4 fun t2 t3 t4 t5=>
 zd 123 [(0,t5)] fun x0=>
 za [(.bool false),(.int .u64 0),(.int .u64 0),(.int .u64 0),(.int .u64 0),(.int .u64 0),(.int .u64 0),(.int .u64 0),(.int .u64 0),(.int .u64 0),(.int .u64 0),(.int .u64 0),(.int .u64 0),(.int .u64 0),(.int .u64 0),(.int .u64 0),(.int .u64 0)] fun x1=>
 zs x1 x0 17<|
 zb .rem 26 t4 (.int .u64 4294967296) fun x3=>
 zf 123 1 x1 fun x4=>
 zi 121 x4 (.int .i64 0) fun x5=>
 zs x5 x3 1<|
 zb .quo 26 t4 (.int .u64 4294967296) fun x7=>
 zf 123 1 x1 fun x8=>
 zi 121 x8 (.int .i64 1) fun x9=>
 zs x9 x7 1<|
 zb .rem 26 t3 (.int .u64 4294967296) fun x11=>
 zf 123 1 x1 fun x12=>
 zi 121 x12 (.int .i64 2) fun x13=>
 zs x13 x11 1<|
 zb .quo 26 t3 (.int .u64 4294967296) fun x15=>
 zf 123 1 x1 fun x16=>
 zi 121 x16 (.int .i64 3) fun x17=>
 zs x17 x15 1<|
 zl 123 x1 fun x19=>
 zs t2 x19 17<|
 zr [.cell 0 123] [t2]
theorem g68_0_ok:OkG H g68_0 278528:=c4 fun _ _ _ _ _=>by kernel_rfl
def f68:List AV→CM:=a1 fun a0=>
 zo a0 fun x0=>
 za [(.bool false),(.int .u64 0),(.int .u64 0),(.int .u64 0),(.int .u64 0),(.int .u64 0),(.int .u64 0),(.int .u64 0),(.int .u64 0),(.int .u64 0),(.int .u64 0),(.int .u64 0),(.int .u64 0),(.int .u64 0),(.int .u64 0),(.int .u64 0),(.int .u64 0)] fun x1=>
 zf 43 0 x0 fun x2=>
 zl 2 x2 fun x3=>
 zc 2 26 x3 fun x4=>
 zf 43 1 x0 fun x5=>
 zl 26 x5 fun x6=>
 zf 43 0 x0 fun x7=>
 zl 2 x7 fun x8=>
 zb .lss 2 x8 (.int .i64 0) fun x9=>
 zC x9 (
 CM.pu (p1 (unA .xor) x4) fun x10=>
 CM.pu (p1 (unA .xor) x6) fun x11=>
 zb .add 26 x11 (.int .u64 1) fun x12=>
 zb .eql 26 x12 (.int .u64 0) fun x13=>
 zC x13 (
 zb .add 26 x10 (.int .u64 1) fun x14=>
 zg 278528 [x1,x14,x12,x9]) (
 zg 278528 [x1,x10,x12,x9])) (
 zg 278528 [x1,x4,x6,x9])
theorem f68_ok (h:H 68=none):OkF H f68 68:=e1 h rfl fun _ _=>by kernel_rfl
def g69_0:List AV→CM:=a3 fun t2 t3 t4=>
 zf 123 1 t2 fun x0=>
 zl 121 x0 fun x1=>
 zf 123 1 t3 fun x2=>
 zl 121 x2 fun x3=>
 zk 112 [x1,x3] fun x4=>
 zb .lss 3 x4 (.int .i64 0) fun x5=>
 zC x5 (
 zf 123 0 t3 fun x6=>
 zl 4 x6 fun x7=>
 zf 123 1 t3 fun x8=>
 zl 121 x8 fun x9=>
 zf 123 1 t2 fun x10=>
 zl 121 x10 fun x11=>
 zk 113 [x9,x11] fun x13=>
 zm fun m14=>
 zx 4 x6 m14 x7<|
 zd 123 [(0,x7),(1,x13)] fun x15=>
 zs t4 x15 17<|
 zr [.cell 0 123] [t4]) (
 zg 282625 [t2,t3,t4])
theorem g69_0_ok:OkG H g69_0 282624:=c3 fun _ _ _ _=>by kernel_rfl
def g69_1:List AV→CM:=a3 fun t2 t3 t4=>
 zf 123 1 t2 fun x0=>
 zl 121 x0 fun x1=>
 zf 123 1 t3 fun x2=>
 zl 121 x2 fun x3=>
 zk 113 [x1,x3] fun x4=>
 za [(.int .u64 0),(.int .u64 0),(.int .u64 0),(.int .u64 0),(.int .u64 0),(.int .u64 0),(.int .u64 0),(.int .u64 0),(.int .u64 0),(.int .u64 0),(.int .u64 0),(.int .u64 0),(.int .u64 0),(.int .u64 0),(.int .u64 0),(.int .u64 0)] fun x5=>
 zs x5 x4 16<|
 zf 123 0 t2 fun x7=>
 zl 4 x7 fun x8=>
 zI x8 (
 zl 121 x5 fun x9=>
 zm fun m10=>
 zk 70 [x9] fun x11=>
 zu x11 fun x13=>
 zl 121 x5 fun x14=>
 zx 121 x5 m10 x14<|
 zd 123 [(0,x13),(1,x14)] fun x15=>
 zs t4 x15 17<|
 zr [.cell 0 123] [t4]) (
 zl 121 x5 fun x19=>
 zd 123 [(0,(.bool false)),(1,x19)] fun x20=>
 zs t4 x20 17<|
 zr [.cell 0 123] [t4])
theorem g69_1_ok:OkG H g69_1 282625:=c3 fun _ _ _ _=>by kernel_rfl
def f69:List AV→CM:=a2 fun a0 a1=>
 zo a0 fun x0=>
 zo a1 fun x1=>
 za [(.bool false),(.int .u64 0),(.int .u64 0),(.int .u64 0),(.int .u64 0),(.int .u64 0),(.int .u64 0),(.int .u64 0),(.int .u64 0),(.int .u64 0),(.int .u64 0),(.int .u64 0),(.int .u64 0),(.int .u64 0),(.int .u64 0),(.int .u64 0),(.int .u64 0)] fun x2=>
 zf 123 0 x0 fun x3=>
 zl 4 x3 fun x4=>
 zf 123 0 x1 fun x5=>
 zl 4 x5 fun x6=>
 zb .eql 4 x4 x6 fun x7=>
 zC x7 (
 zf 123 0 x0 fun x8=>
 zl 4 x8 fun x9=>
 zf 123 1 x0 fun x10=>
 zl 121 x10 fun x11=>
 zf 123 1 x1 fun x12=>
 zl 121 x12 fun x13=>
 zk 111 [x11,x13] fun x15=>
 zm fun m16=>
 zx 4 x8 m16 x9<|
 zd 123 [(0,x9),(1,x15)] fun x17=>
 zs x2 x17 17<|
 zr [.cell 0 123] [x2]) (
 zg 282624 [x0,x1,x2])
theorem f69_ok (h:H 69=none):OkF H f69 69:=e2 h rfl fun _ _ _=>by kernel_rfl
def f70:List AV→CM:=a1 fun a0=>
 zo a0 fun x0=>
 zl 121 x0 fun x1=>
 zd 121 [] fun x2=>
 zb .eql 121 x1 x2 fun x3=>
 zR x3
theorem f70_ok (h:H 70=none):OkF H f70 70:=e1 h rfl fun _ _=>by kernel_rfl
def g71_0:List AV→CM:=a3 fun t0 t1 t5=>
 zn t0 fun x0=>
 zf 61 0 x0 fun x1=>
 zf 28 2 x1 fun x2=>
 zl 25 x2 fun x3=>
 zt 25 x3 fun x4=>
 zb .lss 3 t5 x4 fun x5=>
 zC x5 (
 zg 290817 [t0,t1,t5]) (
 zg 290819 [])
theorem g71_0_ok:OkG H g71_0 290816:=c3 fun _ _ _ _=>by kernel_rfl
def g71_1:List AV→CM:=a3 fun t0 t1 t5=>
 zn t0 fun x0=>
 zf 61 0 x0 fun x1=>
 zf 28 2 x1 fun x2=>
 zl 25 x2 fun x3=>
 zi 25 x3 t5 fun x4=>
 zf 54 0 x4 fun x5=>
 zl 26 x5 fun x6=>
 zb .eql 26 x6 t1 fun x7=>
 zC x7 (
 zR t5) (
 zg 290818 [t0,t1,t5])
theorem g71_1_ok:OkG H g71_1 290817:=c3 fun _ _ _ _=>by kernel_rfl
def g71_2:List AV→CM:=a3 fun t0 t1 t5=>
 zb .add 3 t5 (.int .i64 1) fun x0=>
 zg 290816 [t0,t1,x0]
theorem g71_2_ok:OkG H g71_2 290818:=c3 fun _ _ _ _=>by kernel_rfl
def g71_3:List AV→CM:=a0<|
 zR (.int .i64 (-1))
theorem g71_3_ok:OkG H g71_3 290819:=c0 fun _=>by kernel_rfl
def f71:List AV→CM:=a2 fun a0 a1=>
 zg 290816 [a0,a1,(.int .i64 0)]
theorem f71_ok (h:H 71=none):OkF H f71 71:=e2 h rfl fun _ _ _=>by kernel_rfl
def g72_0:List AV→CM:=a1 fun t5=>
 zf 45 0 t5 fun x0=>
 zf 43 0 x0 fun x1=>
 zl 2 x1 fun x2=>
 zb .lss 2 x2 (.int .i64 0) fun x3=>
 zI x3 (
 zR (.int .i64 43)) (
 zf 45 0 t5 fun x4=>
 zl 43 x4 fun x5=>
 zd 43 [] fun x6=>
 zb .eql 43 x5 x6 fun x7=>
 zC x7 (
 zR (.int .i64 43)) (
 zg 294913 []))
theorem g72_0_ok:OkG H g72_0 294912:=c1 fun _ _=>by kernel_rfl
def g72_1:List AV→CM:=a0<|
 zR (.int .i64 0)
theorem g72_1_ok:OkG H g72_1 294913:=c0 fun _=>by kernel_rfl
def f72:List AV→CM:=a3 fun a0 a1 a2=>
 zo a2 fun x0=>
 zf 45 1 x0 fun x1=>
 zl 3 x1 fun x2=>
 zn a0 fun x3=>
 zf 61 0 x3 fun x4=>
 zf 28 0 x4 fun x5=>
 zl 23 x5 fun x6=>
 zk 36 [a0,a1] fun x8=>
 zm fun m9=>
 zx 23 x5 m9 x6<|
 zx 3 x1 m9 x2<|
 zi 23 x6 x8 fun x10=>
 zf 56 1 x10 fun x11=>
 zl 3 x11 fun x12=>
 zb .neq 3 x2 x12 fun x13=>
 zC x13 (
 zR (.int .i64 21)) (
 zg 294912 [x0])
theorem f72_ok (h:H 72=none):OkF H f72 72:=e3 h rfl fun _ _ _ _=>by kernel_rfl
def f73:List AV→CM:=a2 fun a0 a1=>
 zo a0 fun x0=>
 zo a1 fun x1=>
 za [(.int .i64 0),(.int .u64 0)] fun x2=>
 zl 43 x0 fun x3=>
 zm fun m4=>
 zk 68 [x3] fun x5=>
 zl 43 x1 fun x7=>
 zx 43 x1 m4 x7<|
 zk 68 [x7] fun x9=>
 zk 69 [x5,x9] fun x12=>
 zk 114 [x12] fun x15=>
 ze 0 x15 fun x17=>
 ze 1 x15 fun x18=>
 zs x2 x17 2<|
 zr [.cell 0 43,.tmp 1] [x2,x18]
theorem f73_ok (h:H 73=none):OkF H f73 73:=e2 h rfl fun _ _ _=>by kernel_rfl
def f74:List AV→CM:=a2 fun a0 a1=>
 zo a0 fun x0=>
 zo a1 fun x1=>
 za [(.int .i64 0),(.int .u64 0)] fun x2=>
 zl 43 x0 fun x3=>
 zm fun m4=>
 zk 68 [x3] fun x5=>
 zl 43 x1 fun x7=>
 zx 43 x1 m4 x7<|
 zk 68 [x7] fun x9=>
 zk 115 [x9] fun x12=>
 zk 69 [x5,x12] fun x15=>
 zk 114 [x15] fun x18=>
 ze 0 x18 fun x20=>
 ze 1 x18 fun x21=>
 zs x2 x20 2<|
 zr [.cell 0 43,.tmp 1] [x2,x21]
theorem f74_ok (h:H 74=none):OkF H f74 74:=e2 h rfl fun _ _ _=>by kernel_rfl
def f75:List AV→CM:=a2 fun a0 a1=>
 zo a0 fun x0=>
 zo a1 fun x1=>
 zl 43 x0 fun x2=>
 zm fun m3=>
 zk 68 [x2] fun x4=>
 zl 43 x1 fun x6=>
 zx 43 x1 m3 x6<|
 zk 68 [x6] fun x8=>
 zk 116 [x4,x8] fun x11=>
 zR x11
theorem f75_ok (h:H 75=none):OkF H f75 75:=e2 h rfl fun _ _ _=>by kernel_rfl
def g76_0:List AV→CM:=a4 fun t0 t1 t2 t7=>
 zn t0 fun x0=>
 zf 61 0 x0 fun x1=>
 zf 28 1 x1 fun x2=>
 zl 24 x2 fun x3=>
 zt 24 x3 fun x4=>
 zb .lss 3 t7 x4 fun x5=>
 zC x5 (
 zg 311297 [t0,t1,t2,t7]) (
 zg 311299 [])
theorem g76_0_ok:OkG H g76_0 311296:=c4 fun _ _ _ _ _=>by kernel_rfl
def g76_1:List AV→CM:=a4 fun t0 t1 t2 t7=>
 zn t0 fun x0=>
 zf 61 0 x0 fun x1=>
 zf 28 1 x1 fun x2=>
 zl 24 x2 fun x3=>
 zi 24 x3 t7 fun x4=>
 zf 74 0 x4 fun x5=>
 zl 9 x5 fun x6=>
 zb .eql 9 x6 t1 fun x7=>
 zI x7 (
 zn t0 fun x8=>
 zf 61 0 x8 fun x9=>
 zf 28 1 x9 fun x10=>
 zl 24 x10 fun x11=>
 zi 24 x11 t7 fun x12=>
 zf 74 1 x12 fun x13=>
 zl 9 x13 fun x14=>
 zb .eql 9 x14 t2 fun x15=>
 zC x15 (
 zR t7) (
 zg 311298 [t0,t1,t2,t7])) (
 zg 311298 [t0,t1,t2,t7])
theorem g76_1_ok:OkG H g76_1 311297:=c4 fun _ _ _ _ _=>by kernel_rfl
def g76_2:List AV→CM:=a4 fun t0 t1 t2 t7=>
 zb .add 3 t7 (.int .i64 1) fun x0=>
 zg 311296 [t0,t1,t2,x0]
theorem g76_2_ok:OkG H g76_2 311298:=c4 fun _ _ _ _ _=>by kernel_rfl
def g76_3:List AV→CM:=a0<|
 zR (.int .i64 (-1))
theorem g76_3_ok:OkG H g76_3 311299:=c0 fun _=>by kernel_rfl
def f76:List AV→CM:=a3 fun a0 a1 a2=>
 zg 311296 [a0,a1,a2,(.int .i64 0)]
theorem f76_ok (h:H 76=none):OkF H f76 76:=e3 h rfl fun _ _ _ _=>by kernel_rfl
end
end
end Go.Proofs.YtlginbmjiecglaaGreatDoor.T
