/- Texts of one claim, put together. -/
import Derived.Test.YtlginbmjiecglaaGreatDoorK9
namespace Go.Proofs.YtlginbmjiecglaaGreatDoor.T
section
open Go Go.Abs Go.Proofs.YtlginbmjiecglaaGreatDoor
set_option maxRecDepth 10000
noncomputable section
variable {H:FuncId->Option (List AV->Mem->R)}
def j4z:List AV->CM:=a0<|zR (.bool true)
theorem z4Z:OkG H j4z 159744:=c0 fun _=>by kernel_rfl
def f39:List AV->CM:=a3 fun a0 a1 a2=>zo a2 fun x0=>zn a0 fun x1=>zf 142 0 x1 fun x2=>zl 140 x2 fun x3=>zk 82 [x3,a1] fun x4=>ze 0 x4 fun x5=>ze 1 x4 fun x6=>zC x6 ( zn a0 fun x7=>zf 142 1 x7 fun x8=>zl 23 x8 fun x9=>zl 56 x0 fun x10=>zi 23 x9 x5 fun x11=>zs x11 x10 4<|zg 159744 []) ( zn a0 fun x15=>zf 142 0 x15 fun x16=>zl 140 x16 fun x17=>zt 140 x17 fun x18=>zn a0 fun x19=>zf 142 2 x19 fun x20=>zl 3 x20 fun x21=>zb .geq 3 x18 x21 fun x22=>zC x22 ( zR (.bool false)) ( zn a0 fun x23=>zf 142 0 x23 fun x24=>zl 140 x24 fun x25=>CM.al (bsA 1 1 [z3] [(0,a1)]) fun x26=>zk 83 [x25,x5,x26] fun x27=>zn a0 fun x28=>zf 142 0 x28 fun x29=>zs x29 x27 1<|zn a0 fun x31=>zf 142 1 x31 fun x32=>zl 23 x32 fun x33=>zl 56 x0 fun x34=>CM.al (bsA 4 1 [z3,z1,z1,z2] [(0,x34)]) fun x35=>zk 84 [x33,x5,x35] fun x37=>zn a0 fun x39=>zf 142 1 x39 fun x40=>zs x40 x37 1<|zg 159744 []))
theorem j67 (h:H 39=none):OkF H f39 39:=e3 h rfl fun _ _ _ _=>by kernel_rfl
def a0F:List AV->CM:=a0<|zR (.bool true)
def f40:List AV->CM:=a3 fun a0 a1 a2=>zo a2 fun x0=>zn a0 fun x1=>zf 146 0 x1 fun x2=>zl 140 x2 fun x3=>zk 82 [x3,a1] fun x4=>ze 0 x4 fun x5=>ze 1 x4 fun x6=>zC x6 ( zn a0 fun x7=>zf 146 1 x7 fun x8=>zl 24 x8 fun x9=>zl 74 x0 fun x10=>zi 24 x9 x5 fun x11=>zs x11 x10 9<|zg 163840 []) ( zn a0 fun x15=>zf 146 0 x15 fun x16=>zl 140 x16 fun x17=>zt 140 x17 fun x18=>zn a0 fun x19=>zf 146 2 x19 fun x20=>zl 3 x20 fun x21=>zb .geq 3 x18 x21 fun x22=>zC x22 ( zR (.bool false)) ( zn a0 fun x23=>zf 146 0 x23 fun x24=>zl 140 x24 fun x25=>CM.al (bsA 1 1 [z3] [(0,a1)]) fun x26=>zk 83 [x25,x5,x26] fun x27=>zn a0 fun x28=>zf 146 0 x28 fun x29=>zs x29 x27 1<|zn a0 fun x31=>zf 146 1 x31 fun x32=>zl 24 x32 fun x33=>zl 74 x0 fun x34=>CM.al (bsA 9 1 [z3,z3,z1,z2,z1,z1,z2,z1,z2] [(0,x34)]) fun x35=>zk 85 [x33,x5,x35] fun x37=>zn a0 fun x39=>zf 146 1 x39 fun x40=>zs x40 x37 1<|zg 163840 []))
def j4A:List AV->CM:=a0<|zR (.bool true)
theorem z5c:OkG H j4A 167936:=c0 fun _=>by kernel_rfl
def f41:List AV->CM:=a3 fun a0 a1 a2=>zo a2 fun x0=>zn a0 fun x1=>zf 151 0 x1 fun x2=>zl 149 x2 fun x3=>zk 86 [x3,a1] fun x4=>ze 0 x4 fun x5=>ze 1 x4 fun x6=>zC x6 ( zn a0 fun x7=>zf 151 1 x7 fun x8=>zl 25 x8 fun x9=>zl 54 x0 fun x10=>zi 25 x9 x5 fun x11=>zs x11 x10 4<|zg 167936 []) ( zn a0 fun x15=>zf 151 0 x15 fun x16=>zl 149 x16 fun x17=>zt 149 x17 fun x18=>zn a0 fun x19=>zf 151 2 x19 fun x20=>zl 3 x20 fun x21=>zb .geq 3 x18 x21 fun x22=>zC x22 ( zR (.bool false)) ( zn a0 fun x23=>zf 151 0 x23 fun x24=>zl 149 x24 fun x25=>CM.al (bsA 1 1 [z2] [(0,a1)]) fun x26=>zk 87 [x25,x5,x26] fun x27=>zn a0 fun x28=>zf 151 0 x28 fun x29=>zs x29 x27 1<|zn a0 fun x31=>zf 151 1 x31 fun x32=>zl 25 x32 fun x33=>zl 54 x0 fun x34=>CM.al (bsA 4 1 [z2,z3,z1,z2] [(0,x34)]) fun x35=>zk 88 [x33,x5,x35] fun x37=>zn a0 fun x39=>zf 151 1 x39 fun x40=>zs x40 x37 1<|zg 167936 []))
theorem j68 (h:H 41=none):OkF H f41 41:=e3 h rfl fun _ _ _ _=>by kernel_rfl
def a0G:List AV->CM:=a0<|zR z1
theorem z5d:OkG H a0G 172032:=c0 fun _=>by kernel_rfl
def f42:List AV->CM:=a3 fun a0 a1 a2=>zn a0 fun x0=>zf 94 1 x0 fun x1=>zl 90 x1 fun x2=>zk 89 [x2,a1] fun x3=>ze 0 x3 fun x4=>ze 1 x3 fun x5=>za [z3,z1,z1,z2] fun x6=>zs x6 x4 4<|zk 46 [a1] fun x8=>zu x8 fun x9=>zC x9 ( zR (.int .i64 41)) ( zb .gtr 26 a2 (.int .u64 18) fun x10=>zC x10 ( zR (.int .i64 21)) ( zC x5 ( zR (.int .i64 45)) ( zn a0 fun x11=>zf 94 1 x11 fun x12=>zl 90 x12 fun x13=>zc 26 3 a2 fun x14=>zd 56 [(0,a1),(1,x14)] fun x15=>zk 39 [x13,a1,x15] fun x16=>zu x16 fun x17=>zC x17 ( zR (.int .i64 2)) ( zg 172032 []))))
theorem j7a (h:H 42=none):OkF H f42 42:=e3 h rfl fun _ _ _ _=>by kernel_rfl
def a0H:List AV->CM:=a2 fun t0 t1=>zn t0 fun x0=>zf 94 3 x0 fun x1=>zl 92 x1 fun x2=>zm fun m3=>zk 90 [x2] fun x4=>zn t0 fun x6=>zf 94 0 x6 fun x7=>zl 3 x7 fun x8=>zx 3 x7 m3 x8<|zb .geq 3 x4 x8 fun x9=>zI x9 ( zR (.tup [z2,(.int .i64 2)])) ( zn t0 fun x10=>zf 94 4 x10 fun x11=>zl 26 x11 fun x12=>zb .geq 26 x12 (.int .u64 72057594037927935) fun x13=>zC x13 ( zR (.tup [z2,(.int .i64 2)])) ( zg 176129 [t0,t1]))
theorem z5e:OkG H a0H 176128:=c2 fun _ _ _=>by kernel_rfl
def a0I:List AV->CM:=a2 fun t0 t1=>zn t0 fun x0=>zf 94 4 x0 fun x1=>zl 26 x1 fun x2=>zb .add 26 x2 (.int .u64 1) fun x3=>zn t0 fun x4=>zf 94 4 x4 fun x5=>zs x5 x3 1<|zn t0 fun x7=>zf 94 3 x7 fun x8=>zl 92 x8 fun x9=>zn t0 fun x10=>zf 94 4 x10 fun x11=>zl 26 x11 fun x12=>zn t0 fun x13=>zf 94 4 x13 fun x14=>zl 26 x14 fun x15=>zd 54 [(0,x15),(1,t1)] fun x16=>zk 41 [x9,x12,x16] fun _=>zn t0 fun x20=>zf 94 4 x20 fun x21=>zl 26 x21 fun x22=>zR (.tup [x22,z1])
theorem z5f:OkG H a0I 176129:=c2 fun _ _ _=>by kernel_rfl
def f43:List AV->CM:=a2 fun a0 a1=>zn a0 fun x0=>zf 94 1 x0 fun x1=>zl 90 x1 fun x2=>zk 89 [x2,a1] fun x3=>ze 0 x3 fun x4=>ze 1 x3 fun x5=>za [z3,z1,z1,z2] fun x6=>zs x6 x4 4<|zu x5 fun x8=>zC x8 ( zR (.tup [z2,(.int .i64 41)])) ( zg 176128 [a0,a1])
theorem j7b (h:H 43=none):OkF H f43 43:=e2 h rfl fun _ _ _=>by kernel_rfl
def z3c:List AV->CM:=a5 fun t0 t5 t7 t8 t9=>zb .eql 35 t9 z1 fun x0=>zC x0 ( zf 56 2 t8 fun x1=>zf 54 2 t7 fun x2=>zf 45 0 t5 fun x3=>zl 43 x3 fun x4=>zk 57 [x1,x2,x4] fun x5=>zg 180225 [t0,t7,t8,x5]) ( zg 180225 [t0,t7,t8,t9])
theorem z5g:OkG H z3c 180224:=c5 fun _ _ _ _ _ _=>by kernel_rfl
def z3d:List AV->CM:=a4 fun t0 t7 t8 t9=>zb .eql 35 t9 z1 fun x0=>zC x0 ( zl 54 t7 fun x1=>zk 58 [t0,x1] fun _=>zn t0 fun x3=>zf 94 1 x3 fun x4=>zl 90 x4 fun x5=>zf 56 0 t8 fun x6=>zl 9 x6 fun x7=>zl 56 t8 fun x8=>zk 39 [x5,x7,x8] fun _=>zg 180226 [t9]) ( zg 180226 [t9])
theorem z5h:OkG H z3d 180225:=c4 fun _ _ _ _ _=>by kernel_rfl
def z3e:List AV->CM:=a1 fun t9=>zR t9
theorem z5i:OkG H z3e 180226:=c1 fun _ _=>by kernel_rfl
def f44:List AV->CM:=a3 fun a0 a1 a2=>zo a2 fun x0=>zk 53 [a0,a1] fun x1=>ze 0 x1 fun x2=>ze 1 x1 fun x3=>ze 2 x1 fun x4=>za [z2,z3,z1,z2] fun x5=>za [z3,z1,z1,z2] fun x6=>zs x5 x2 4<|zs x6 x3 4<|zb .eql 35 x4 z1 fun x9=>zC x9 ( zl 56 x6 fun x10=>zl 45 x0 fun x11=>zk 55 [x10,x11] fun x12=>zg 180224 [a0,x0,x5,x6,x12]) ( zg 180224 [a0,x0,x5,x6,x4])
theorem j7c (h:H 44=none):OkF H f44 44:=e3 h rfl fun _ _ _ _=>by kernel_rfl
def a0J:List AV->CM:=a2 fun t4 t6=>zf 56 2 t6 fun x0=>zl 43 x0 fun x1=>zf 56 1 t6 fun x2=>zl 3 x2 fun x3=>zd 45 [(0,x1),(1,x3)] fun x4=>zs t4 x4 3<|zr [.cell 0 45,.tmp 1] [t4,z1]
theorem z5j:OkG H a0J 184320:=c2 fun _ _ _=>by kernel_rfl
def f45:List AV->CM:=a2 fun a0 a1=>za [z1,z2,z1] fun x0=>zn a0 fun x1=>zf 94 1 x1 fun x2=>zl 90 x2 fun x3=>zk 89 [x3,a1] fun x4=>ze 0 x4 fun x5=>ze 1 x4 fun x6=>za [z3,z1,z1,z2] fun x7=>zs x7 x5 4<|zu x6 fun x9=>zC x9 ( zd 45 [] fun x10=>zs x0 x10 3<|zr [.cell 0 45,.tmp 1] [x0,(.int .i64 41)]) ( zg 184320 [x0,x7])
theorem j7e (h:H 45=none):OkF H f45 45:=e2 h rfl fun _ _ _=>by kernel_rfl
def j4F:List AV->CM:=a2 fun t0 t3=>zt 9 t0 fun x0=>zb .lss 3 t3 x0 fun x1=>zC x1 ( zg 188417 [t0,t3]) ( zg 188419 [t0])
theorem z5l:OkG H j4F 188416:=c2 fun _ _ _=>by kernel_rfl
def a0K:List AV->CM:=a2 fun t0 t3=>CM.pu (p2 (q4U Tryz.prog 9) t0 t3) fun x0=>zb .lss 5 x0 (.int .u8 65) fun x1=>zI x1 ( zR (.bool false)) ( CM.pu (p2 (q4U Tryz.prog 9) t0 t3) fun x2=>zb .gtr 5 x2 (.int .u8 90) fun x3=>zC x3 ( zR (.bool false)) ( zg 188418 [t0,t3]))
theorem z5m:OkG H a0K 188417:=c2 fun _ _ _=>by kernel_rfl
def a0L:List AV->CM:=a2 fun t0 t3=>zb .add 3 t3 z4 fun x0=>zg 188416 [t0,x0]
theorem z5n:OkG H a0L 188418:=c2 fun _ _ _=>by kernel_rfl
def a0M:List AV->CM:=a1 fun t0=>zt 9 t0 fun x0=>zb .eql 3 x0 (.int .i64 3) fun x1=>zR x1
theorem z5o:OkG H a0M 188419:=c1 fun _ _=>by kernel_rfl
def f46:List AV->CM:=a1 fun a0=>zg 188416 [a0,z1]
theorem j7f (h:H 46=none):OkF H f46 46:=e1 h rfl fun _ _=>by kernel_rfl
def z7i:List AV->CM:=a4 fun t1 t7 t8 t9=>zb .lss 3 t9 t8 fun x0=>zC x0 ( zg 192513 [t1,t7,t8,t9]) ( zg 192516 [])
def j1h:List AV->CM:=a4 fun t1 t7 t8 t9=>zi 24 t7 t9 fun x0=>zl 74 x0 fun x1=>za [z3,z3,z1,z2,z1,z1,z2,z1,z2] fun x2=>zs x2 x1 9<|zb .eql 3 t9 z1 fun x4=>zI x4 ( zg 192514 [t1,x2,(.bool true),t7,t8,t9]) ( zf 28 1 t1 fun x5=>zl 24 x5 fun x6=>zb .sub 3 t9 z4 fun x7=>zi 24 x6 x7 fun x8=>zf 74 0 x8 fun x9=>zl 9 x9 fun x10=>zf 74 0 x2 fun x11=>zl 9 x11 fun x12=>zb .lss 9 x10 x12 fun x13=>zI x13 ( zg 192514 [t1,x2,(.bool true),t7,t8,t9]) ( zf 28 1 t1 fun x14=>zl 24 x14 fun x15=>zb .sub 3 t9 z4 fun x16=>zi 24 x15 x16 fun x17=>zf 74 0 x17 fun x18=>zl 9 x18 fun x19=>zf 74 0 x2 fun x20=>zl 9 x20 fun x21=>zb .eql 9 x19 x21 fun x22=>zI x22 ( zf 28 1 t1 fun x23=>zl 24 x23 fun x24=>zb .sub 3 t9 z4 fun x25=>zi 24 x24 x25 fun x26=>zf 74 1 x26 fun x27=>zl 9 x27 fun x28=>zf 74 1 x2 fun x29=>zl 9 x29 fun x30=>zb .lss 9 x28 x30 fun x31=>zg 192514 [t1,x2,x31,t7,t8,t9]) ( zg 192514 [t1,x2,(.bool false),t7,t8,t9])))
def q9K:List AV->CM:=a6 fun t1 t4 t5 t7 t8 t9=>zu t5 fun x0=>zI x0 ( zR (.bool false)) ( zl 28 t1 fun x1=>zf 74 0 t4 fun x2=>zl 9 x2 fun x3=>zk 91 [x1,x3] fun x4=>zu x4 fun x5=>zI x5 ( zR (.bool false)) ( zl 28 t1 fun x6=>zf 74 1 t4 fun x7=>zl 9 x7 fun x8=>zk 91 [x6,x8] fun x9=>zu x9 fun x10=>zI x10 ( zR (.bool false)) ( zf 74 0 t4 fun x11=>zl 9 x11 fun x12=>zf 74 1 t4 fun x13=>zl 9 x13 fun x14=>zb .eql 9 x12 x14 fun x15=>zI x15 ( zR (.bool false)) ( zf 74 2 t4 fun x16=>zl 45 x16 fun x17=>zk 92 [x17] fun x18=>zb .neq 35 x18 z1 fun x19=>zI x19 ( zR (.bool false)) ( zf 74 3 t4 fun x20=>zl 43 x20 fun x21=>zk 93 [x21] fun x22=>zb .lss 3 x22 z1 fun x23=>zI x23 ( zR (.bool false)) ( zf 74 4 t4 fun x24=>zl 43 x24 fun x25=>zk 93 [x25] fun x26=>zb .gtr 3 x26 z1 fun x27=>zC x27 ( zR (.bool false)) ( zg 192515 [t1,t7,t8,t9])))))))
def a7r:List AV->CM:=a4 fun t1 t7 t8 t9=>zb .add 3 t9 z4 fun x0=>zg 192512 [t1,t7,t8,x0]
def a7s:List AV->CM:=a0<|zR (.bool true)
def f47:List AV->CM:=a1 fun a0=>zo a0 fun x0=>zf 28 1 x0 fun x1=>zl 24 x1 fun x2=>zt 24 x2 fun x3=>zg 192512 [x0,x2,x3,z1]
def a0N:List AV->CM:=a5 fun t1 t3 t7 t8 t9=>zb .lss 3 t9 t8 fun x0=>zC x0 ( zg 196609 [t1,t3,t7,t8,t9]) ( zg 196612 [t1])
def z7j:List AV->CM:=a5 fun t1 t3 t7 t8 t9=>zi 25 t7 t9 fun x0=>zl 54 x0 fun x1=>za [z2,z3,z1,z2] fun x2=>zs x2 x1 4<|zf 54 0 x2 fun x4=>zl 26 x4 fun x5=>zb .leq 26 x5 t3 fun x6=>zI x6 ( zR (.bool false)) ( zf 54 0 x2 fun x7=>zl 26 x7 fun x8=>zf 28 3 t1 fun x9=>zl 26 x9 fun x10=>zb .gtr 26 x8 x10 fun x11=>zI x11 ( zR (.bool false)) ( zl 28 t1 fun x12=>zf 54 1 x2 fun x13=>zl 9 x13 fun x14=>zk 91 [x12,x14] fun x15=>zu x15 fun x16=>zI x16 ( zR (.bool false)) ( zf 54 2 x2 fun x17=>zl 43 x17 fun x18=>zk 93 [x18] fun x19=>zb .lss 3 x19 z1 fun x20=>zC x20 ( zR (.bool false)) ( zg 196610 [t1,x2,t7,t8,t9]))))
def a7t:List AV->CM:=a5 fun t1 t5 t7 t8 t9=>zf 54 0 t5 fun x0=>zl 26 x0 fun x1=>zg 196611 [t1,x1,t7,t8,t9]
def a7u:List AV->CM:=a5 fun t1 t3 t7 t8 t9=>zb .add 3 t9 z4 fun x0=>zg 196608 [t1,t3,t7,t8,x0]
def a7v:List AV->CM:=a1 fun t1=>zf 28 3 t1 fun x0=>zl 26 x0 fun x1=>zb .leq 26 x1 (.int .u64 72057594037927935) fun x2=>zR x2
def f48:List AV->CM:=a1 fun a0=>zo a0 fun x0=>zf 28 2 x0 fun x1=>zl 25 x1 fun x2=>zt 25 x2 fun x3=>zg 196608 [x0,z2,x2,x3,z1]
def a0O:List AV->CM:=a6 fun t2 t3 t5 t14 t15 t16=>zb .lss 3 t16 t15 fun x0=>zC x0 ( zg 200705 [t2,t3,t5,t14,t15,t16]) ( zg 200707 [t2,t3,t5])
def a0P:List AV->CM:=a6 fun t2 t3 t5 t14 t15 t16=>zi 25 t14 t16 fun x0=>zl 54 x0 fun x1=>za [z2,z3,z1,z2] fun x2=>zs x2 x1 4<|zf 54 1 x2 fun x4=>zl 9 x4 fun x5=>zf 56 0 t3 fun x6=>zl 9 x6 fun x7=>zb .eql 9 x5 x7 fun x8=>zC x8 ( zf 54 2 x2 fun x9=>zl 43 x9 fun x10=>zk 94 [t5,x10] fun _=>zg 200706 [t2,t3,t5,t14,t15,t16]) ( zg 200706 [t2,t3,t5,t14,t15,t16])
def a7w:List AV->CM:=a6 fun t2 t3 t5 t14 t15 t16=>zb .add 3 t16 z4 fun x0=>zg 200704 [t2,t3,t5,t14,t15,x0]
def a7x:List AV->CM:=a3 fun t2 t3 t5=>zf 28 1 t2 fun x0=>zl 24 x0 fun x1=>zt 24 x1 fun x2=>zg 200708 [t3,t5,x1,x2,z1]
def a0Q:List AV->CM:=a5 fun t3 t5 t30 t31 t32=>zb .lss 3 t32 t31 fun x0=>zC x0 ( zg 200709 [t3,t5,t30,t31,t32]) ( zg 200712 [t5])
def a0R:List AV->CM:=a5 fun t3 t5 t30 t31 t32=>zi 24 t30 t32 fun x0=>zl 74 x0 fun x1=>za [z3,z3,z1,z2,z1,z1,z2,z1,z2] fun x2=>zs x2 x1 9<|zf 74 0 x2 fun x4=>zl 9 x4 fun x5=>zf 56 0 t3 fun x6=>zl 9 x6 fun x7=>zb .eql 9 x5 x7 fun x8=>zC x8 ( zf 74 3 x2 fun x9=>zl 43 x9 fun x10=>zk 94 [t5,x10] fun _=>zg 200710 [t3,t5,x2,t30,t31,t32]) ( zg 200710 [t3,t5,x2,t30,t31,t32])
def a0S:List AV->CM:=a6 fun t3 t5 t9 t30 t31 t32=>zf 74 1 t9 fun x0=>zl 9 x0 fun x1=>zf 56 0 t3 fun x2=>zl 9 x2 fun x3=>zb .eql 9 x1 x3 fun x4=>zC x4 ( zf 74 4 t9 fun x5=>zl 43 x5 fun x6=>zk 94 [t5,x6] fun _=>zg 200711 [t3,t5,t30,t31,t32]) ( zg 200711 [t3,t5,t30,t31,t32])
def a7y:List AV->CM:=a5 fun t3 t5 t30 t31 t32=>zb .add 3 t32 z4 fun x0=>zg 200708 [t3,t5,t30,t31,x0]
def a7z:List AV->CM:=a1 fun t5=>zk 95 [t5] fun x0=>zR x0
def f49:List AV->CM:=a2 fun a0 a1=>zo a0 fun x0=>zo a1 fun x1=>za [z1,z2,z2] fun x2=>zf 56 2 x1 fun x3=>zl 43 x3 fun x4=>zk 94 [x2,x4] fun _=>zf 28 2 x0 fun x6=>zl 25 x6 fun x7=>zt 25 x7 fun x8=>zg 200704 [x0,x1,x2,x7,x8,z1]
def f50:List AV->CM:=a1 fun a0=>zo a0 fun x0=>zR (.fn (.func 96) [] [x0])
def f51:List AV->CM:=a1 fun a0=>zo a0 fun x0=>zR (.fn (.func 100) [] [x0])
def f52:List AV->CM:=a1 fun a0=>zo a0 fun x0=>zR (.fn (.func 104) [] [x0])
def a0T:List AV->CM:=a4 fun t0 t4 t5 t7=>zn t0 fun x0=>zf 94 1 x0 fun x1=>zl 90 x1 fun x2=>zf 54 1 t7 fun x3=>zl 9 x3 fun x4=>zk 89 [x2,x4] fun x6=>ze 0 x6 fun x8=>ze 1 x6 fun _=>za [z3,z1,z1,z2] fun x10=>zs x10 x8 4<|zl 54 t7 fun x14=>zl 56 x10 fun x15=>zs t4 x14 4<|zm fun m18=>zx 56 x10 m18 x15<|zs t5 x15 4<|zr [.cell 0 54,.cell 1 56,.tmp 2] [t4,t5,z1]
theorem z5v:OkG H a0T 217088:=c4 fun _ _ _ _ _=>by kernel_rfl
def f53:List AV->CM:=a2 fun a0 a1=>za [z2,z3,z1,z2] fun x0=>za [z3,z1,z1,z2] fun x1=>zn a0 fun x2=>zf 94 3 x2 fun x3=>zl 92 x3 fun x4=>zk 108 [x4,a1] fun x5=>ze 0 x5 fun x6=>ze 1 x5 fun x7=>za [z2,z3,z1,z2] fun x8=>zs x8 x6 4<|zu x7 fun x10=>zC x10 ( zl 54 x8 fun x11=>zd 56 [] fun x12=>zs x0 x11 4<|zs x1 x12 4<|zr [.cell 0 54,.cell 1 56,.tmp 2] [x0,x1,(.int .i64 40)]) ( zg 217088 [a0,x0,x1,x8])
theorem j7h (h:H 53=none):OkF H f53 53:=e2 h rfl fun _ _ _=>by kernel_rfl
def f54:List AV->CM:=a1 fun a0=>za [z1,z2] fun x0=>zb .shr 2 a0 (.int .u64 63) fun x1=>zc 2 26 a0 fun x2=>zd 43 [(0,x1),(1,x2)] fun x3=>zs x0 x3 2<|zr [.cell 0 43] [x0]
theorem j7i (h:H 54=none):OkF H f54 54:=e1 h rfl fun _ _=>by kernel_rfl
def a0U:List AV->CM:=a0<|zR z1
theorem z5w:OkG H a0U 225280:=c0 fun _=>by kernel_rfl
def f55:List AV->CM:=a2 fun a0 a1=>zo a0 fun x0=>zo a1 fun x1=>zf 45 1 x1 fun x2=>zl 3 x2 fun x3=>zf 56 1 x0 fun x4=>zl 3 x4 fun x5=>zb .neq 3 x3 x5 fun x6=>zC x6 ( zR (.int .i64 21)) ( zf 45 0 x1 fun x7=>zl 43 x7 fun x8=>zk 93 [x8] fun x9=>zb .leq 3 x9 z1 fun x10=>zC x10 ( zR (.int .i64 43)) ( zg 225280 []))
theorem j7j (h:H 55=none):OkF H f55 55:=e2 h rfl fun _ _ _=>by kernel_rfl
def f56:List AV->CM:=a2 fun a0 a1=>zo a0 fun x0=>zo a1 fun x1=>zf 54 2 x0 fun x2=>zl 43 x2 fun x3=>zf 45 0 x1 fun x4=>zl 43 x4 fun x5=>zk 20 [x3,x5] fun x6=>zb .lss 3 x6 z1 fun x7=>zR x7
def j1i:List AV->CM:=a4 fun t0 t1 t7 t9=>zl 43 t7 fun x0=>zl 43 t9 fun x1=>zn t0 fun x2=>zs x2 x0 2<|zm fun m5=>zx 43 t9 m5 x1<|zn t1 fun x6=>zs x6 x1 2<|zR z1
theorem z5x:OkG H j1i 233472:=c4 fun _ _ _ _ _=>by kernel_rfl
def f57:List AV->CM:=a3 fun a0 a1 a2=>zo a2 fun x0=>zn a0 fun x1=>zl 43 x1 fun x2=>zl 43 x0 fun x3=>zk 22 [x2,x3] fun x5=>ze 0 x5 fun x7=>ze 1 x5 fun x8=>za [z1,z2] fun x9=>zs x9 x7 2<|zn a1 fun x13=>zl 43 x13 fun x14=>zl 43 x0 fun x15=>zk 21 [x14,x15] fun x17=>ze 0 x17 fun x19=>ze 1 x17 fun x20=>za [z1,z2] fun x21=>zs x21 x19 2<|zb .neq 35 x8 z1 fun x25=>zI x25 ( zR (.int .i64 20)) ( zb .neq 35 x20 z1 fun x26=>zC x26 ( zR (.int .i64 20)) ( zg 233472 [a0,a1,x9,x21]))
theorem j7k (h:H 57=none):OkF H f57 57:=e3 h rfl fun _ _ _ _=>by kernel_rfl
def f58:List AV->CM:=a2 fun a0 a1=>zo a1 fun x0=>zn a0 fun x1=>zf 94 3 x1 fun x2=>zl 92 x2 fun x3=>zf 54 0 x0 fun x4=>zl 26 x4 fun x5=>zl 54 x0 fun x6=>zk 41 [x3,x5,x6] fun _=>zR .undef
theorem j7l (h:H 58=none):OkF H f58 58:=e2 h rfl fun _ _ _=>by kernel_rfl
def z3g:List AV->CM:=a5 fun t0 t5 t7 t8 t9=>zb .eql 35 t9 z1 fun x0=>zI x0 ( zl 54 t7 fun x1=>zl 45 t5 fun x2=>zk 56 [x1,x2] fun x3=>zC x3 ( zg 249857 [t0,t5,t7,t8,(.int .i64 42)]) ( zg 249857 [t0,t5,t7,t8,t9])) ( zg 249857 [t0,t5,t7,t8,t9])
def z3h:List AV->CM:=a5 fun t0 t5 t7 t8 t9=>zb .eql 35 t9 z1 fun x0=>zC x0 ( zf 54 2 t7 fun x1=>zf 56 2 t8 fun x2=>zf 45 0 t5 fun x3=>zl 43 x3 fun x4=>zk 57 [x1,x2,x4] fun x5=>zg 249858 [t0,t7,t8,x5]) ( zg 249858 [t0,t7,t8,t9])
def z3i:List AV->CM:=a4 fun t0 t7 t8 t9=>zb .eql 35 t9 z1 fun x0=>zC x0 ( zl 54 t7 fun x1=>zk 58 [t0,x1] fun _=>zn t0 fun x3=>zf 94 1 x3 fun x4=>zl 90 x4 fun x5=>zf 56 0 t8 fun x6=>zl 9 x6 fun x7=>zl 56 t8 fun x8=>zk 39 [x5,x7,x8] fun _=>zg 249859 [t9]) ( zg 249859 [t9])
def z3j:List AV->CM:=a1 fun t9=>zR t9
def f61:List AV->CM:=a3 fun a0 a1 a2=>zo a2 fun x0=>zk 53 [a0,a1] fun x1=>ze 0 x1 fun x2=>ze 1 x1 fun x3=>ze 2 x1 fun x4=>za [z2,z3,z1,z2] fun x5=>za [z3,z1,z1,z2] fun x6=>zs x5 x2 4<|zs x6 x3 4<|zb .eql 35 x4 z1 fun x9=>zC x9 ( zl 56 x6 fun x10=>zl 45 x0 fun x11=>zk 55 [x10,x11] fun x12=>zg 249856 [a0,x0,x5,x6,x12]) ( zg 249856 [a0,x0,x5,x6,x4])
def a0Z:List AV->CM:=a4 fun t0 t1 t2 t7=>zl 45 t7 fun x0=>zk 92 [x0] fun x1=>zb .neq 35 x1 z1 fun x2=>zC x2 ( zR x1) ( zg 253953 [t0,t1,t2,t7])
def a7A:List AV->CM:=a4 fun t0 t1 t2 t7=>zn t0 fun x0=>zf 94 2 x0 fun x1=>zl 91 x1 fun x2=>zb .add 9 t1 t2 fun x3=>zk 109 [x2,x3] fun x4=>ze 0 x4 fun x5=>ze 1 x4 fun _=>za [z3,z3,z1,z2,z1,z1,z2,z1,z2] fun x7=>zs x7 x5 9<|zl 45 t7 fun x9=>zf 74 0 x7 fun x10=>zs x10 t1 1<|zm fun m13=>zx 45 t7 m13 x9<|zf 74 1 x7 fun x14=>zs x14 t2 1<|zm fun m17=>zx 45 t7 m17 x9<|zf 74 2 x7 fun x18=>zs x18 x9 3<|zn t0 fun x22=>zf 94 2 x22 fun x23=>zl 91 x23 fun x24=>zb .add 9 t1 t2 fun x25=>zl 74 x7 fun x26=>zk 40 [x24,x25,x26] fun _=>zR z1
def f62:List AV->CM:=a4 fun a0 a1 a2 a3=>zo a3 fun x0=>zn a0 fun x1=>zf 94 1 x1 fun x2=>zl 90 x2 fun x3=>zk 89 [x3,a1] fun x4=>ze 0 x4 fun x5=>ze 1 x4 fun x6=>za [z3,z1,z1,z2] fun x7=>zs x7 x5 4<|zn a0 fun x9=>zf 94 1 x9 fun x10=>zl 90 x10 fun x11=>zk 89 [x11,a2] fun x12=>ze 0 x12 fun x13=>ze 1 x12 fun x14=>za [z3,z1,z1,z2] fun x15=>zs x15 x13 4<|zu x6 fun x17=>zI x17 ( zR (.int .i64 41)) ( zu x14 fun x18=>zC x18 ( zR (.int .i64 41)) ( zb .eql 9 a1 a2 fun x19=>zC x19 ( zR (.int .i64 45)) ( zg 253952 [a0,a1,a2,x0])))
def j4V:List AV->CM:=a8 fun t0 t7 t8 t10 t11 t13 t14 t16=>zl 56 t11 fun x0=>zl 45 t7 fun x1=>zk 55 [x0,x1] fun x2=>zb .eql 35 x2 z1 fun x3=>zI x3 ( zl 54 t10 fun x4=>zl 45 t7 fun x5=>zk 56 [x4,x5] fun x6=>zC x6 ( zg 258049 [t0,t7,t8,t10,(.int .i64 42),t13,t14,t16]) ( zg 258049 [t0,t7,t8,t10,x2,t13,t14,t16])) ( zg 258049 [t0,t7,t8,t10,x2,t13,t14,t16])
def a00:List AV->CM:=a8 fun t0 t7 t8 t10 t12 t13 t14 t16=>za [z1,z2,z1] fun x0=>zb .eql 35 t12 z1 fun x1=>zC x1 ( zl 45 t7 fun x2=>zf 74 2 t16 fun x3=>zl 45 x3 fun x4=>zf 56 1 t14 fun x5=>zl 3 x5 fun x6=>zk 110 [x2,x4,x6] fun x7=>ze 0 x7 fun x8=>ze 1 x7 fun x9=>zs x0 x8 3<|zg 258050 [t0,t7,t8,t10,x9,t13,t16,x0]) ( zg 258050 [t0,t7,t8,t10,t12,t13,t16,x0])
def j1j:List AV->CM:=a8 fun t0 t7 t8 t10 t12 t13 t16 t18=>zb .eql 35 t12 z1 fun x0=>zC x0 ( zf 54 2 t10 fun x1=>zf 74 3 t16 fun x2=>zf 45 0 t7 fun x3=>zl 43 x3 fun x4=>zk 57 [x1,x2,x4] fun x5=>zg 258051 [t0,t8,t10,x5,t13,t16,t18]) ( zg 258051 [t0,t8,t10,t12,t13,t16,t18])
def j1k:List AV->CM:=a7 fun t0 t8 t10 t12 t13 t16 t18=>zb .eql 35 t12 z1 fun x0=>zC x0 ( zf 74 4 t16 fun x1=>zf 54 2 t13 fun x2=>zf 45 0 t18 fun x3=>zl 43 x3 fun x4=>zk 57 [x1,x2,x4] fun x5=>zg 258052 [t0,t8,t10,x5,t13,t16,t18]) ( zg 258052 [t0,t8,t10,t12,t13,t16,t18])
def a01:List AV->CM:=a7 fun t0 t8 t10 t12 t13 t16 t18=>zb .neq 35 t12 z1 fun x0=>zC x0 ( zd 45 [] fun x1=>zs t8 x1 3<|zr [.cell 0 45,.tmp 1] [t8,t12]) ( zg 258053 [t0,t8,t10,t13,t16,t18])
def a7B:List AV->CM:=a6 fun t0 t8 t10 t13 t16 t18=>zl 54 t10 fun x0=>zk 58 [t0,x0] fun _=>zl 54 t13 fun x2=>zk 58 [t0,x2] fun _=>zn t0 fun x4=>zf 94 2 x4 fun x5=>zl 91 x5 fun x6=>zf 74 0 t16 fun x7=>zl 9 x7 fun x8=>zf 74 1 t16 fun x9=>zl 9 x9 fun x10=>zb .add 9 x8 x10 fun x11=>zl 74 t16 fun x12=>zk 40 [x6,x11,x12] fun _=>zl 45 t18 fun x16=>zs t8 x16 3<|zr [.cell 0 45,.tmp 1] [t8,z1]
def f63:List AV->CM:=a4 fun a0 a1 a2 a3=>zo a3 fun x0=>za [z1,z2,z1] fun x1=>zk 53 [a0,a1] fun x2=>ze 0 x2 fun x3=>ze 1 x2 fun x4=>ze 2 x2 fun x5=>za [z2,z3,z1,z2] fun x6=>za [z3,z1,z1,z2] fun x7=>zs x6 x3 4<|zs x7 x4 4<|zk 53 [a0,a2] fun x10=>ze 0 x10 fun x11=>ze 1 x10 fun x12=>ze 2 x10 fun x13=>za [z2,z3,z1,z2] fun x14=>za [z3,z1,z1,z2] fun x15=>zs x14 x11 4<|zs x15 x12 4<|zn a0 fun x18=>zf 94 2 x18 fun x19=>zl 91 x19 fun x20=>zf 56 0 x7 fun x21=>zl 9 x21 fun x22=>zf 56 0 x15 fun x23=>zl 9 x23 fun x24=>zb .add 9 x22 x24 fun x25=>zk 109 [x20,x25] fun x27=>ze 0 x27 fun x29=>ze 1 x27 fun x30=>za [z3,z3,z1,z2,z1,z1,z2,z1,z2] fun x31=>zs x31 x29 9<|zb .neq 35 x5 z1 fun x35=>zC x35 ( zd 45 [] fun x36=>zs x1 x36 3<|zr [.cell 0 45,.tmp 1] [x1,x5]) ( zb .neq 35 x13 z1 fun x38=>zC x38 ( zd 45 [] fun x39=>zs x1 x39 3<|zr [.cell 0 45,.tmp 1] [x1,x13]) ( zf 56 0 x7 fun x41=>zl 9 x41 fun x42=>zf 56 0 x15 fun x43=>zl 9 x43 fun x44=>zb .eql 9 x42 x44 fun x45=>zC x45 ( zd 45 [] fun x46=>zs x1 x46 3<|zr [.cell 0 45,.tmp 1] [x1,(.int .i64 45)]) ( zu x30 fun x48=>zC x48 ( zd 45 [] fun x49=>zs x1 x49 3<|zr [.cell 0 45,.tmp 1] [x1,(.int .i64 44)]) ( zg 258048 [a0,x0,x1,x6,x7,x14,x15,x31]))))
def a7C:List AV->CM:=a3 fun t0 t4 t6=>zn t0 fun x0=>zf 61 0 x0 fun x1=>zf 28 2 x1 fun x2=>zl 25 x2 fun x3=>zi 25 x3 t6 fun x4=>zf 54 2 x4 fun x5=>zl 43 x5 fun x6=>zn t0 fun x7=>zf 61 0 x7 fun x8=>zf 28 0 x8 fun x9=>zl 23 x9 fun x10=>zn t0 fun x11=>zf 61 0 x11 fun x12=>zf 28 2 x12 fun x13=>zl 25 x13 fun x14=>zi 25 x14 t6 fun x15=>zf 54 1 x15 fun x16=>zl 9 x16 fun x17=>zk 36 [t0,x17] fun x19=>zm fun m20=>zx 23 x9 m20 x10<|zx 43 x5 m20 x6<|zx 25 x2 m20 x3<|zi 23 x10 x19 fun x21=>zf 56 1 x21 fun x22=>zl 3 x22 fun x23=>zd 45 [(0,x6),(1,x23)] fun x24=>zs t4 x24 3<|zr [.cell 0 45,.tmp 1] [t4,z1]
def f64:List AV->CM:=a2 fun a0 a1=>za [z1,z2,z1] fun x0=>zk 71 [a0,a1] fun x1=>zb .lss 3 x1 z1 fun x2=>zC x2 ( zd 45 [] fun x3=>zs x0 x3 3<|zr [.cell 0 45,.tmp 1] [x0,(.int .i64 40)]) ( zg 262144 [a0,x0,x1])
def a7D:List AV->CM:=a3 fun t0 t4 t6=>zn t0 fun x0=>zf 61 0 x0 fun x1=>zf 28 0 x1 fun x2=>zl 23 x2 fun x3=>zi 23 x3 t6 fun x4=>zf 56 2 x4 fun x5=>zl 43 x5 fun x6=>zn t0 fun x7=>zf 61 0 x7 fun x8=>zf 28 0 x8 fun x9=>zl 23 x9 fun x10=>zi 23 x10 t6 fun x11=>zf 56 1 x11 fun x12=>zl 3 x12 fun x13=>zd 45 [(0,x6),(1,x13)] fun x14=>zs t4 x14 3<|zr [.cell 0 45,.tmp 1] [t4,z1]
def f65:List AV->CM:=a2 fun a0 a1=>za [z1,z2,z1] fun x0=>zk 36 [a0,a1] fun x1=>zb .lss 3 x1 z1 fun x2=>zC x2 ( zd 45 [] fun x3=>zs x0 x3 3<|zr [.cell 0 45,.tmp 1] [x0,(.int .i64 41)]) ( zg 266240 [a0,x0,x1])
def a7E:List AV->CM:=a3 fun t6 t8 t12=>zf 74 3 t12 fun x0=>zl 43 x0 fun x1=>zf 56 1 t8 fun x2=>zl 3 x2 fun x3=>zd 45 [(0,x1),(1,x3)] fun x4=>zs t6 x4 3<|zr [.cell 0 45,.tmp 1] [t6,z1]
def f66:List AV->CM:=a3 fun a0 a1 a2=>za [z1,z2,z1] fun x0=>zn a0 fun x1=>zf 94 1 x1 fun x2=>zl 90 x2 fun x3=>zk 89 [x3,a1] fun x4=>ze 0 x4 fun x5=>ze 1 x4 fun x6=>za [z3,z1,z1,z2] fun x7=>zs x7 x5 4<|zn a0 fun x9=>zf 94 1 x9 fun x10=>zl 90 x10 fun x11=>zk 89 [x11,a2] fun x12=>ze 0 x12 fun x13=>ze 1 x12 fun x14=>za [z3,z1,z1,z2] fun x15=>zs x15 x13 4<|zn a0 fun x17=>zf 94 2 x17 fun x18=>zl 91 x18 fun x19=>zb .add 9 a1 a2 fun x20=>zk 109 [x19,x20] fun x21=>ze 0 x21 fun x22=>ze 1 x21 fun x23=>za [z3,z3,z1,z2,z1,z1,z2,z1,z2] fun x24=>zs x24 x22 9<|zu x6 fun x26=>zI x26 ( zd 45 [] fun x27=>zs x0 x27 3<|zr [.cell 0 45,.tmp 1] [x0,(.int .i64 41)]) ( zu x14 fun x29=>zC x29 ( zd 45 [] fun x30=>zs x0 x30 3<|zr [.cell 0 45,.tmp 1] [x0,(.int .i64 41)]) ( zu x23 fun x32=>zC x32 ( zd 45 [] fun x33=>zs x0 x33 3<|zr [.cell 0 45,.tmp 1] [x0,(.int .i64 44)]) ( zg 270336 [x0,x7,x24])))
end
end
section
open Go Go.Abs Go.Proofs.YtlginbmjiecglaaGreatDoor
set_option maxRecDepth 10000
noncomputable section
variable {H:FuncId->Option (List AV->Mem->R)}
def a02:List AV->CM:=a4 fun t0 t1 t2 t6=>zk 76 [t0,t1,t2] fun x0=>zb .lss 3 x0 z1 fun x1=>zC x1 ( zd 45 [] fun x2=>zs t6 x2 3<|zr [.cell 0 45,.tmp 1] [t6,(.int .i64 44)]) ( zg 274433 [t0,t1,t6,x0])
def a7F:List AV->CM:=a4 fun t0 t1 t6 t8=>zn t0 fun x0=>zf 61 0 x0 fun x1=>zf 28 1 x1 fun x2=>zl 24 x2 fun x3=>zi 24 x3 t8 fun x4=>zf 74 3 x4 fun x5=>zl 43 x5 fun x6=>zn t0 fun x7=>zf 61 0 x7 fun x8=>zf 28 0 x8 fun x9=>zl 23 x9 fun x10=>zk 36 [t0,t1] fun x12=>zm fun m13=>zx 23 x9 m13 x10<|zx 43 x5 m13 x6<|zx 24 x2 m13 x3<|zi 23 x10 x12 fun x14=>zf 56 1 x14 fun x15=>zl 3 x15 fun x16=>zd 45 [(0,x6),(1,x16)] fun x17=>zs t6 x17 3<|zr [.cell 0 45,.tmp 1] [t6,z1]
def f67:List AV->CM:=a3 fun a0 a1 a2=>za [z1,z2,z1] fun x0=>zk 36 [a0,a1] fun x1=>zb .lss 3 x1 z1 fun x2=>zI x2 ( zd 45 [] fun x3=>zs x0 x3 3<|zr [.cell 0 45,.tmp 1] [x0,(.int .i64 41)]) ( zk 36 [a0,a2] fun x5=>zb .lss 3 x5 z1 fun x6=>zC x6 ( zd 45 [] fun x7=>zs x0 x7 3<|zr [.cell 0 45,.tmp 1] [x0,(.int .i64 41)]) ( zg 274432 [a0,a1,a2,x0]))
def a7G:List AV->CM:=a4 fun t2 t3 t4 t5=>zd 123 [(0,t5)] fun x0=>za [(.bool false),z2,z2,z2,z2,z2,z2,z2,z2,z2,z2,z2,z2,z2,z2,z2,z2] fun x1=>zs x1 x0 17<|zb .rem 26 t4 (.int .u64 4294967296) fun x3=>zf 123 1 x1 fun x4=>zi 121 x4 z1 fun x5=>zs x5 x3 1<|zb .quo 26 t4 (.int .u64 4294967296) fun x7=>zf 123 1 x1 fun x8=>zi 121 x8 z4 fun x9=>zs x9 x7 1<|zb .rem 26 t3 (.int .u64 4294967296) fun x11=>zf 123 1 x1 fun x12=>zi 121 x12 (.int .i64 2) fun x13=>zs x13 x11 1<|zb .quo 26 t3 (.int .u64 4294967296) fun x15=>zf 123 1 x1 fun x16=>zi 121 x16 (.int .i64 3) fun x17=>zs x17 x15 1<|zl 123 x1 fun x19=>zs t2 x19 17<|zr [.cell 0 123] [t2]
def f68:List AV->CM:=a1 fun a0=>zo a0 fun x0=>za [(.bool false),z2,z2,z2,z2,z2,z2,z2,z2,z2,z2,z2,z2,z2,z2,z2,z2] fun x1=>zf 43 0 x0 fun x2=>zl 2 x2 fun x3=>zc 2 26 x3 fun x4=>zf 43 1 x0 fun x5=>zl 26 x5 fun x6=>zf 43 0 x0 fun x7=>zl 2 x7 fun x8=>zb .lss 2 x8 z1 fun x9=>zC x9 ( CM.pu (p1 (unA .xor) x4) fun x10=>CM.pu (p1 (unA .xor) x6) fun x11=>zb .add 26 x11 (.int .u64 1) fun x12=>zb .eql 26 x12 z2 fun x13=>zC x13 ( zb .add 26 x10 (.int .u64 1) fun x14=>zg 278528 [x1,x14,x12,x9]) ( zg 278528 [x1,x10,x12,x9])) ( zg 278528 [x1,x4,x6,x9])
def a03:List AV->CM:=a3 fun t2 t3 t4=>zf 123 1 t2 fun x0=>zl 121 x0 fun x1=>zf 123 1 t3 fun x2=>zl 121 x2 fun x3=>zk 112 [x1,x3] fun x4=>zb .lss 3 x4 z1 fun x5=>zC x5 ( zf 123 0 t3 fun x6=>zl 4 x6 fun x7=>zf 123 1 t3 fun x8=>zl 121 x8 fun x9=>zf 123 1 t2 fun x10=>zl 121 x10 fun x11=>zk 113 [x9,x11] fun x13=>zm fun m14=>zx 4 x6 m14 x7<|zd 123 [(0,x7),(1,x13)] fun x15=>zs t4 x15 17<|zr [.cell 0 123] [t4]) ( zg 282625 [t2,t3,t4])
def a04:List AV->CM:=a3 fun t2 t3 t4=>zf 123 1 t2 fun x0=>zl 121 x0 fun x1=>zf 123 1 t3 fun x2=>zl 121 x2 fun x3=>zk 113 [x1,x3] fun x4=>za [z2,z2,z2,z2,z2,z2,z2,z2,z2,z2,z2,z2,z2,z2,z2,z2] fun x5=>zs x5 x4 16<|zf 123 0 t2 fun x7=>zl 4 x7 fun x8=>zI x8 ( zl 121 x5 fun x9=>zm fun m10=>zk 70 [x9] fun x11=>zu x11 fun x13=>zl 121 x5 fun x14=>zx 121 x5 m10 x14<|zd 123 [(0,x13),(1,x14)] fun x15=>zs t4 x15 17<|zr [.cell 0 123] [t4]) ( zl 121 x5 fun x19=>zd 123 [(0,(.bool false)),(1,x19)] fun x20=>zs t4 x20 17<|zr [.cell 0 123] [t4])
def f69:List AV->CM:=a2 fun a0 a1=>zo a0 fun x0=>zo a1 fun x1=>za [(.bool false),z2,z2,z2,z2,z2,z2,z2,z2,z2,z2,z2,z2,z2,z2,z2,z2] fun x2=>zf 123 0 x0 fun x3=>zl 4 x3 fun x4=>zf 123 0 x1 fun x5=>zl 4 x5 fun x6=>zb .eql 4 x4 x6 fun x7=>zC x7 ( zf 123 0 x0 fun x8=>zl 4 x8 fun x9=>zf 123 1 x0 fun x10=>zl 121 x10 fun x11=>zf 123 1 x1 fun x12=>zl 121 x12 fun x13=>zk 111 [x11,x13] fun x15=>zm fun m16=>zx 4 x8 m16 x9<|zd 123 [(0,x9),(1,x15)] fun x17=>zs x2 x17 17<|zr [.cell 0 123] [x2]) ( zg 282624 [x0,x1,x2])
def f70:List AV->CM:=a1 fun a0=>zo a0 fun x0=>zl 121 x0 fun x1=>zd 121 [] fun x2=>zb .eql 121 x1 x2 fun x3=>zR x3
def a05:List AV->CM:=a3 fun t0 t1 t5=>zn t0 fun x0=>zf 61 0 x0 fun x1=>zf 28 2 x1 fun x2=>zl 25 x2 fun x3=>zt 25 x3 fun x4=>zb .lss 3 t5 x4 fun x5=>zC x5 ( zg 290817 [t0,t1,t5]) ( zg 290819 [])
def a7H:List AV->CM:=a3 fun t0 t1 t5=>zn t0 fun x0=>zf 61 0 x0 fun x1=>zf 28 2 x1 fun x2=>zl 25 x2 fun x3=>zi 25 x3 t5 fun x4=>zf 54 0 x4 fun x5=>zl 26 x5 fun x6=>zb .eql 26 x6 t1 fun x7=>zC x7 ( zR t5) ( zg 290818 [t0,t1,t5])
def a7I:List AV->CM:=a3 fun t0 t1 t5=>zb .add 3 t5 z4 fun x0=>zg 290816 [t0,t1,x0]
def a7J:List AV->CM:=a0<|zR (.int .i64 (-1))
def f71:List AV->CM:=a2 fun a0 a1=>zg 290816 [a0,a1,z1]
def j45:List AV->CM:=a1 fun t5=>zf 45 0 t5 fun x0=>zf 43 0 x0 fun x1=>zl 2 x1 fun x2=>zb .lss 2 x2 z1 fun x3=>zI x3 ( zR (.int .i64 43)) ( zf 45 0 t5 fun x4=>zl 43 x4 fun x5=>zd 43 [] fun x6=>zb .eql 43 x5 x6 fun x7=>zC x7 ( zR (.int .i64 43)) ( zg 294913 []))
def a7K:List AV->CM:=a0<|zR z1
def f72:List AV->CM:=a3 fun a0 a1 a2=>zo a2 fun x0=>zf 45 1 x0 fun x1=>zl 3 x1 fun x2=>zn a0 fun x3=>zf 61 0 x3 fun x4=>zf 28 0 x4 fun x5=>zl 23 x5 fun x6=>zk 36 [a0,a1] fun x8=>zm fun m9=>zx 23 x5 m9 x6<|zx 3 x1 m9 x2<|zi 23 x6 x8 fun x10=>zf 56 1 x10 fun x11=>zl 3 x11 fun x12=>zb .neq 3 x2 x12 fun x13=>zC x13 ( zR (.int .i64 21)) ( zg 294912 [x0])
def f73:List AV->CM:=a2 fun a0 a1=>zo a0 fun x0=>zo a1 fun x1=>za [z1,z2] fun x2=>zl 43 x0 fun x3=>zm fun m4=>zk 68 [x3] fun x5=>zl 43 x1 fun x7=>zx 43 x1 m4 x7<|zk 68 [x7] fun x9=>zk 69 [x5,x9] fun x12=>zk 114 [x12] fun x15=>ze 0 x15 fun x17=>ze 1 x15 fun x18=>zs x2 x17 2<|zr [.cell 0 43,.tmp 1] [x2,x18]
def f74:List AV->CM:=a2 fun a0 a1=>zo a0 fun x0=>zo a1 fun x1=>za [z1,z2] fun x2=>zl 43 x0 fun x3=>zm fun m4=>zk 68 [x3] fun x5=>zl 43 x1 fun x7=>zx 43 x1 m4 x7<|zk 68 [x7] fun x9=>zk 115 [x9] fun x12=>zk 69 [x5,x12] fun x15=>zk 114 [x15] fun x18=>ze 0 x18 fun x20=>ze 1 x18 fun x21=>zs x2 x20 2<|zr [.cell 0 43,.tmp 1] [x2,x21]
def f75:List AV->CM:=a2 fun a0 a1=>zo a0 fun x0=>zo a1 fun x1=>zl 43 x0 fun x2=>zm fun m3=>zk 68 [x2] fun x4=>zl 43 x1 fun x6=>zx 43 x1 m3 x6<|zk 68 [x6] fun x8=>zk 116 [x4,x8] fun x11=>zR x11
def a06:List AV->CM:=a4 fun t0 t1 t2 t7=>zn t0 fun x0=>zf 61 0 x0 fun x1=>zf 28 1 x1 fun x2=>zl 24 x2 fun x3=>zt 24 x3 fun x4=>zb .lss 3 t7 x4 fun x5=>zC x5 ( zg 311297 [t0,t1,t2,t7]) ( zg 311299 [])
def a7L:List AV->CM:=a4 fun t0 t1 t2 t7=>zn t0 fun x0=>zf 61 0 x0 fun x1=>zf 28 1 x1 fun x2=>zl 24 x2 fun x3=>zi 24 x3 t7 fun x4=>zf 74 0 x4 fun x5=>zl 9 x5 fun x6=>zb .eql 9 x6 t1 fun x7=>zI x7 ( zn t0 fun x8=>zf 61 0 x8 fun x9=>zf 28 1 x9 fun x10=>zl 24 x10 fun x11=>zi 24 x11 t7 fun x12=>zf 74 1 x12 fun x13=>zl 9 x13 fun x14=>zb .eql 9 x14 t2 fun x15=>zC x15 ( zR t7) ( zg 311298 [t0,t1,t2,t7])) ( zg 311298 [t0,t1,t2,t7])
def a7M:List AV->CM:=a4 fun t0 t1 t2 t7=>zb .add 3 t7 z4 fun x0=>zg 311296 [t0,t1,t2,x0]
def a7N:List AV->CM:=a0<|zR (.int .i64 (-1))
def f76:List AV->CM:=a3 fun a0 a1 a2=>zg 311296 [a0,a1,a2,z1]
def j1l:List AV->CM:=a4 fun t2 t3 t4 t6=>zf 45 0 t3 fun x0=>zf 43 0 x0 fun x1=>zl 2 x1 fun x2=>zb .lss 2 x2 z1 fun x3=>zI x3 ( zd 45 [] fun x4=>zs t6 x4 3<|zr [.cell 0 45,.tmp 1] [t6,(.int .i64 43)]) ( zf 45 0 t3 fun x6=>zl 43 x6 fun x7=>zd 43 [] fun x8=>zb .eql 43 x7 x8 fun x9=>zC x9 ( zd 45 [] fun x10=>zs t6 x10 3<|zr [.cell 0 45,.tmp 1] [t6,(.int .i64 43)]) ( zg 315393 [t2,t3,t4,t6]))
def a07:List AV->CM:=a4 fun t2 t3 t4 t6=>zl 45 t4 fun x0=>zk 37 [x0] fun x1=>zb .neq 35 x1 z1 fun x2=>zC x2 ( zd 45 [] fun x3=>zs t6 x3 3<|zr [.cell 0 45,.tmp 1] [t6,x1]) ( zg 315394 [t2,t3,t4,t6])
def a08:List AV->CM:=a4 fun t2 t3 t4 t6=>zl 45 t3 fun x0=>zl 45 t4 fun x1=>zk 117 [x0,x1,t2] fun x2=>ze 0 x2 fun x3=>ze 1 x2 fun x4=>zs t6 x3 3<|zr [.cell 0 45,.tmp 1] [t6,x4]
def f77:List AV->CM:=a3 fun a0 a1 a2=>zo a0 fun x0=>zo a1 fun x1=>za [z1,z2,z1] fun x2=>zl 45 x0 fun x3=>zk 78 [x3] fun x4=>zu x4 fun x5=>zI x5 ( zd 45 [] fun x6=>zs x2 x6 3<|zr [.cell 0 45,.tmp 1] [x2,(.int .i64 21)]) ( zb .lss 3 a2 z1 fun x8=>zI x8 ( zd 45 [] fun x9=>zs x2 x9 3<|zr [.cell 0 45,.tmp 1] [x2,(.int .i64 21)]) ( zb .gtr 3 a2 (.int .i64 18) fun x11=>zC x11 ( zd 45 [] fun x12=>zs x2 x12 3<|zr [.cell 0 45,.tmp 1] [x2,(.int .i64 21)]) ( zg 315392 [a2,x0,x1,x2])))
def f78:List AV->CM:=a1 fun a0=>zo a0 fun x0=>zf 45 1 x0 fun x1=>zl 3 x1 fun x2=>zb .geq 3 x2 z1 fun x3=>zI x3 ( zf 45 1 x0 fun x4=>zl 3 x4 fun x5=>zb .leq 3 x5 (.int .i64 18) fun x6=>zR x6) ( zR (.bool false))
def a09:List AV->CM:=a1 fun t0=>zd 142 [(2,t0)] fun x0=>zo x0 fun x1=>zR (.tup [x1,z1])
theorem z5I:OkG H a09 323584:=c1 fun _ _=>by kernel_rfl
def f79:List AV->CM:=a1 fun a0=>zb .lss 3 a0 z4 fun x0=>zI x0 ( zR (.tup [(.ptr none),z4])) ( zb .gtr 3 a0 (.int .i64 4096) fun x1=>zC x1 ( zR (.tup [(.ptr none),z4])) ( zg 323584 [a0]))
theorem j7q (h:H 79=none):OkF H f79 79:=e1 h rfl fun _ _=>by kernel_rfl
def a1a:List AV->CM:=a1 fun t0=>zd 146 [(2,t0)] fun x0=>zo x0 fun x1=>zR (.tup [x1,z1])
theorem z5J:OkG H a1a 327680:=c1 fun _ _=>by kernel_rfl
def f80:List AV->CM:=a1 fun a0=>zb .lss 3 a0 z4 fun x0=>zI x0 ( zR (.tup [(.ptr none),z4])) ( zb .gtr 3 a0 (.int .i64 4096) fun x1=>zC x1 ( zR (.tup [(.ptr none),z4])) ( zg 327680 [a0]))
theorem j7r (h:H 80=none):OkF H f80 80:=e1 h rfl fun _ _=>by kernel_rfl
def a1b:List AV->CM:=a1 fun t0=>zd 151 [(2,t0)] fun x0=>zo x0 fun x1=>zR (.tup [x1,z1])
theorem z5K:OkG H a1b 331776:=c1 fun _ _=>by kernel_rfl
def f81:List AV->CM:=a1 fun a0=>zb .lss 3 a0 z4 fun x0=>zI x0 ( zR (.tup [(.ptr none),z4])) ( zb .gtr 3 a0 (.int .i64 4096) fun x1=>zC x1 ( zR (.tup [(.ptr none),z4])) ( zg 331776 [a0]))
theorem j7s (h:H 81=none):OkF H f81 81:=e1 h rfl fun _ _=>by kernel_rfl
def j5d:List AV->CM:=a5 fun t0 t1 t6 t7 t8=>zb .lss 3 t7 t8 fun x0=>zC x0 ( zg 335873 [t0,t1,t6,t7,t8]) ( zg 335874 [t0,t1,t6,t7])
theorem z5M:OkG H j5d 335872:=c5 fun _ _ _ _ _ _=>by kernel_rfl
def a1c:List AV->CM:=a5 fun t0 t1 t6 t7 t8=>zb .add 3 t7 t8 fun x0=>zc 3 172 x0 fun x1=>zb .shr 172 x1 (.int .u64 1) fun x2=>zc 172 3 x2 fun x3=>zi 140 t0 x3 fun x4=>zl 9 x4 fun x5=>zk 118 [x5,t1] fun x6=>zC x6 ( zb .add 3 x3 z4 fun x7=>zg 335872 [t0,t1,t6,x7,t8]) ( zg 335872 [t0,t1,t6,t7,x3])
theorem z5N:OkG H a1c 335873:=c5 fun _ _ _ _ _ _=>by kernel_rfl
def j5f:List AV->CM:=a4 fun t0 t1 t6 t7=>zb .lss 3 t7 t6 fun x0=>zI x0 ( zi 140 t0 t7 fun x1=>zl 9 x1 fun x2=>zb .eql 9 x2 t1 fun x3=>zI x3 ( zR (.tup [t7,(.bool true)])) ( zi 140 t0 t7 fun x4=>zl 9 x4 fun x5=>zk 119 [x5] fun x6=>zI x6 ( zk 119 [t1] fun x7=>zR (.tup [t7,x7])) ( zR (.tup [t7,(.bool false)])))) ( zR (.tup [t7,(.bool false)]))
theorem z5P:OkG H j5f 335874:=c4 fun _ _ _ _ _=>by kernel_rfl
def f82:List AV->CM:=a2 fun a0 a1=>zt 140 a0 fun x0=>zg 335872 [a0,a1,x0,z1,x0]
theorem j7t (h:H 82=none):OkF H f82 82:=e2 h rfl fun _ _ _=>by kernel_rfl
def j5s:List AV->CM:=a5 fun t0 t1 t6 t7 t8=>zb .lss 3 t7 t8 fun x0=>zC x0 ( zg 352257 [t0,t1,t6,t7,t8]) ( zg 352258 [t0,t1,t6,t7])
theorem z5R:OkG H j5s 352256:=c5 fun _ _ _ _ _ _=>by kernel_rfl
def a1d:List AV->CM:=a5 fun t0 t1 t6 t7 t8=>zb .add 3 t7 t8 fun x0=>zc 3 172 x0 fun x1=>zb .shr 172 x1 (.int .u64 1) fun x2=>zc 172 3 x2 fun x3=>zi 149 t0 x3 fun x4=>zl 26 x4 fun x5=>zk 126 [x5,t1] fun x6=>zC x6 ( zb .add 3 x3 z4 fun x7=>zg 352256 [t0,t1,t6,x7,t8]) ( zg 352256 [t0,t1,t6,t7,x3])
theorem z5S:OkG H a1d 352257:=c5 fun _ _ _ _ _ _=>by kernel_rfl
def j5u:List AV->CM:=a4 fun t0 t1 t6 t7=>zb .lss 3 t7 t6 fun x0=>zI x0 ( zi 149 t0 t7 fun x1=>zl 26 x1 fun x2=>zb .eql 26 x2 t1 fun x3=>zI x3 ( zR (.tup [t7,(.bool true)])) ( zi 149 t0 t7 fun x4=>zl 26 x4 fun x5=>zk 127 [x5] fun x6=>zI x6 ( zk 127 [t1] fun x7=>zR (.tup [t7,x7])) ( zR (.tup [t7,(.bool false)])))) ( zR (.tup [t7,(.bool false)]))
theorem z5U:OkG H j5u 352258:=c4 fun _ _ _ _ _=>by kernel_rfl
def f86:List AV->CM:=a2 fun a0 a1=>zt 149 a0 fun x0=>zg 352256 [a0,a1,x0,z1,x0]
theorem j7u (h:H 86=none):OkF H f86 86:=e2 h rfl fun _ _ _=>by kernel_rfl
def a1e:List AV->CM:=a3 fun t0 t4 t6=>zn t0 fun x0=>zf 142 1 x0 fun x1=>zl 23 x1 fun x2=>zi 23 x2 t6 fun x3=>zl 56 x3 fun x4=>zs t4 x4 4<|zr [.cell 0 56,.tmp 1] [t4,(.bool true)]
theorem z5V:OkG H a1e 364544:=c3 fun _ _ _ _=>by kernel_rfl
def f89:List AV->CM:=a2 fun a0 a1=>za [z3,z1,z1,z2] fun x0=>zn a0 fun x1=>zf 142 0 x1 fun x2=>zl 140 x2 fun x3=>zk 82 [x3,a1] fun x4=>ze 0 x4 fun x5=>ze 1 x4 fun x6=>zu x6 fun x7=>zC x7 ( za [z3,z1,z1,z2] fun x8=>zl 56 x8 fun x9=>zs x0 x9 4<|zr [.cell 0 56,.tmp 1] [x0,(.bool false)]) ( zg 364544 [a0,x0,x5])
theorem j7w (h:H 89=none):OkF H f89 89:=e2 h rfl fun _ _ _=>by kernel_rfl
def f90:List AV->CM:=a1 fun a0=>zn a0 fun x0=>zf 151 0 x0 fun x1=>zl 149 x1 fun x2=>zt 149 x2 fun x3=>zR x3
theorem j7x (h:H 90=none):OkF H f90 90:=e1 h rfl fun _ _=>by kernel_rfl
def a1f:List AV->CM:=a4 fun t1 t8 t9 t10=>zb .lss 3 t10 t9 fun x0=>zC x0 ( zg 372737 [t1,t8,t9,t10]) ( zg 372739 [])
def a8i:List AV->CM:=a4 fun t1 t8 t9 t10=>zi 23 t8 t10 fun x0=>zl 56 x0 fun x1=>za [z3,z1,z1,z2] fun x2=>zs x2 x1 4<|zf 56 0 x2 fun x4=>zl 9 x4 fun x5=>zb .eql 9 x5 t1 fun x6=>zC x6 ( zR (.bool true)) ( zg 372738 [t1,t8,t9,t10])
def a8j:List AV->CM:=a4 fun t1 t8 t9 t10=>zb .add 3 t10 z4 fun x0=>zg 372736 [t1,t8,t9,x0]
def a8k:List AV->CM:=a0<|zR (.bool false)
def f91:List AV->CM:=a2 fun a0 a1=>zo a0 fun x0=>zf 28 0 x0 fun x1=>zl 23 x1 fun x2=>zt 23 x2 fun x3=>zg 372736 [a1,x2,x3,z1]
def a8l:List AV->CM:=a0<|zR z1
def f92:List AV->CM:=a1 fun a0=>zo a0 fun x0=>zl 45 x0 fun x1=>zk 132 [x1] fun x2=>zu x2 fun x3=>zC x3 ( zR (.int .i64 21)) ( zl 45 x0 fun x4=>zk 133 [x4] fun x5=>zu x5 fun x6=>zC x6 ( zR (.int .i64 44)) ( zg 376832 []))
def j5I:List AV->CM:=a0<|zR z4
theorem z5Y:OkG H j5I 380928:=c0 fun _=>by kernel_rfl
def f93:List AV->CM:=a1 fun a0=>zo a0 fun x0=>zf 43 0 x0 fun x1=>zl 2 x1 fun x2=>zb .lss 2 x2 z1 fun x3=>zC x3 ( zR (.int .i64 (-1))) ( zf 43 0 x0 fun x4=>zl 2 x4 fun x5=>zb .eql 2 x5 z1 fun x6=>zI x6 ( zf 43 1 x0 fun x7=>zl 26 x7 fun x8=>zb .eql 26 x8 z2 fun x9=>zC x9 ( zR z1) ( zg 380928 [])) ( zg 380928 []))
theorem j7y (h:H 93=none):OkF H f93 93:=e1 h rfl fun _ _=>by kernel_rfl
def a8m:List AV->CM:=a2 fun t0 t3=>zn t0 fun x0=>zf 160 0 x0 fun x1=>zl 43 x1 fun x2=>zf 43 0 t3 fun x3=>zl 2 x3 fun x4=>zk 54 [x4] fun x6=>zm fun m7=>zx 43 x1 m7 x2<|zk 21 [x2,x6] fun x9=>ze 0 x9 fun x11=>ze 1 x9 fun _=>zn t0 fun x13=>zf 160 0 x13 fun x14=>zs x14 x11 2<|zR .undef
def f94:List AV->CM:=a2 fun a0 a1=>zo a1 fun x0=>zn a0 fun x1=>zf 160 1 x1 fun x2=>zl 26 x2 fun x3=>zf 43 1 x0 fun x4=>zl 26 x4 fun x5=>zb .add 26 x3 x5 fun x6=>zn a0 fun x7=>zf 160 1 x7 fun x8=>zs x8 x6 1<|zn a0 fun x12=>zf 160 1 x12 fun x13=>zl 26 x13 fun x14=>zf 43 1 x0 fun x15=>zl 26 x15 fun x16=>zb .lss 26 x14 x16 fun x17=>zC x17 ( zn a0 fun x18=>zf 160 0 x18 fun x19=>zl 43 x19 fun x20=>zk 54 [z4] fun x22=>zm fun m23=>zx 43 x19 m23 x20<|zk 21 [x20,x22] fun x25=>ze 0 x25 fun x27=>ze 1 x25 fun _=>zn a0 fun x29=>zf 160 0 x29 fun x30=>zs x30 x27 2<|zg 385024 [a0,x0]) ( zg 385024 [a0,x0])
def f95:List AV->CM:=a1 fun a0=>zn a0 fun x0=>zf 160 1 x0 fun x1=>zl 26 x1 fun x2=>zb .eql 26 x2 z2 fun x3=>zI x3 ( zn a0 fun x4=>zf 160 0 x4 fun x5=>zl 43 x5 fun x6=>zk 93 [x6] fun x7=>zb .eql 3 x7 z1 fun x8=>zR x8) ( zR (.bool false))
def f96:List AV->CM:=a2 fun a0 a1=>zl 90 a1 fun x0=>zm fun m1=>zk 98 [x0] fun x2=>zl 90 a1 fun x4=>zx 90 a1 m1 x4<|zk 99 [x4] fun x6=>zk 97 [x2,x6,a0] fun _=>zR .undef
def j5K:List AV->CM:=a5 fun t1 t2 t8 t9 t10=>zb .lss 3 t10 t9 fun x0=>zC x0 ( zg 397313 [t1,t2,t8,t9,t10]) ( zR .undef)
def a8n:List AV->CM:=a5 fun t1 t2 t8 t9 t10=>zi 140 t8 t10 fun x0=>zl 9 x0 fun x1=>zi 23 t1 t10 fun x2=>zl 56 x2 fun x3=>CM.callv t2 [x1,x3] fun x4=>zu x4 fun x5=>zC x5 ( zR .undef) ( zg 397314 [t1,t2,t8,t9,t10])
def a8o:List AV->CM:=a5 fun t1 t2 t8 t9 t10=>zb .add 3 t10 z4 fun x0=>zg 397312 [t1,t2,t8,t9,x0]
def f97:List AV->CM:=a3 fun a0 a1 a2=>zt 140 a0 fun x0=>zg 397312 [a1,a2,a0,x0,z1]
def f98:List AV->CM:=a1 fun a0=>CM.al (some (.cells [] false,sB 1 0)) fun x0=>zn a0 fun x1=>zf 142 0 x1 fun x2=>zl 140 x2 fun x3=>CM.ef (apE 1 16 x0 x3) fun x4=>zR x4
def f99:List AV->CM:=a1 fun a0=>CM.al (some (.cells [] false,sB 4 0)) fun x0=>zn a0 fun x1=>zf 142 1 x1 fun x2=>zl 23 x2 fun x3=>CM.ef (apE 4 40 x0 x3) fun x4=>zR x4
def f100:List AV->CM:=a2 fun a0 a1=>zl 91 a1 fun x0=>zm fun m1=>zk 102 [x0] fun x2=>zl 91 a1 fun x4=>zx 91 a1 m1 x4<|zk 103 [x4] fun x6=>zk 101 [x2,x6,a0] fun _=>zR .undef
def z4x:List AV->CM:=a5 fun t1 t2 t8 t9 t10=>zb .lss 3 t10 t9 fun x0=>zC x0 ( zg 413697 [t1,t2,t8,t9,t10]) ( zR .undef)
def j7B:List AV->CM:=a5 fun t1 t2 t8 t9 t10=>zi 140 t8 t10 fun x0=>zl 9 x0 fun x1=>zi 24 t1 t10 fun x2=>zl 74 x2 fun x3=>CM.callv t2 [x1,x3] fun x4=>zu x4 fun x5=>zC x5 ( zR .undef) ( zg 413698 [t1,t2,t8,t9,t10])
def j7C:List AV->CM:=a5 fun t1 t2 t8 t9 t10=>zb .add 3 t10 z4 fun x0=>zg 413696 [t1,t2,t8,t9,x0]
def f101:List AV->CM:=a3 fun a0 a1 a2=>zt 140 a0 fun x0=>zg 413696 [a1,a2,a0,x0,z1]
def f102:List AV->CM:=a1 fun a0=>CM.al (some (.cells [] false,sB 1 0)) fun x0=>zn a0 fun x1=>zf 146 0 x1 fun x2=>zl 140 x2 fun x3=>CM.ef (apE 1 16 x0 x3) fun x4=>zR x4
def f103:List AV->CM:=a1 fun a0=>CM.al (some (.cells [] false,sB 9 0)) fun x0=>zn a0 fun x1=>zf 146 1 x1 fun x2=>zl 24 x2 fun x3=>CM.ef (apE 9 88 x0 x3) fun x4=>zR x4
def f104:List AV->CM:=a2 fun a0 a1=>zl 92 a1 fun x0=>zm fun m1=>zk 106 [x0] fun x2=>zl 92 a1 fun x4=>zx 92 a1 m1 x4<|zk 107 [x4] fun x6=>zk 105 [x2,x6,a0] fun _=>zR .undef
def z4y:List AV->CM:=a5 fun t1 t2 t8 t9 t10=>zb .lss 3 t10 t9 fun x0=>zC x0 ( zg 430081 [t1,t2,t8,t9,t10]) ( zR .undef)
def j7D:List AV->CM:=a5 fun t1 t2 t8 t9 t10=>zi 149 t8 t10 fun x0=>zl 26 x0 fun x1=>zi 25 t1 t10 fun x2=>zl 54 x2 fun x3=>CM.callv t2 [x1,x3] fun x4=>zu x4 fun x5=>zC x5 ( zR .undef) ( zg 430082 [t1,t2,t8,t9,t10])
def j7E:List AV->CM:=a5 fun t1 t2 t8 t9 t10=>zb .add 3 t10 z4 fun x0=>zg 430080 [t1,t2,t8,t9,x0]
def f105:List AV->CM:=a3 fun a0 a1 a2=>zt 149 a0 fun x0=>zg 430080 [a1,a2,a0,x0,z1]
def f106:List AV->CM:=a1 fun a0=>CM.al (some (.cells [] false,sB 1 0)) fun x0=>zn a0 fun x1=>zf 151 0 x1 fun x2=>zl 149 x2 fun x3=>CM.ef (apE 1 8 x0 x3) fun x4=>zR x4
def f107:List AV->CM:=a1 fun a0=>CM.al (some (.cells [] false,sB 4 0)) fun x0=>zn a0 fun x1=>zf 151 1 x1 fun x2=>zl 25 x2 fun x3=>CM.ef (apE 4 40 x0 x3) fun x4=>zR x4
def z9G:List AV->CM:=a3 fun t0 t4 t6=>zn t0 fun x0=>zf 151 1 x0 fun x1=>zl 25 x1 fun x2=>zi 25 x2 t6 fun x3=>zl 54 x3 fun x4=>zs t4 x4 4<|zr [.cell 0 54,.tmp 1] [t4,(.bool true)]
theorem z02:OkG H z9G 442368:=c3 fun _ _ _ _=>by kernel_rfl
def f108:List AV->CM:=a2 fun a0 a1=>za [z2,z3,z1,z2] fun x0=>zn a0 fun x1=>zf 151 0 x1 fun x2=>zl 149 x2 fun x3=>zk 86 [x3,a1] fun x4=>ze 0 x4 fun x5=>ze 1 x4 fun x6=>zu x6 fun x7=>zC x7 ( za [z2,z3,z1,z2] fun x8=>zl 54 x8 fun x9=>zs x0 x9 4<|zr [.cell 0 54,.tmp 1] [x0,(.bool false)]) ( zg 442368 [a0,x0,x5])
theorem z9c (h:H 108=none):OkF H f108 108:=e2 h rfl fun _ _ _=>by kernel_rfl
def j7F:List AV->CM:=a3 fun t0 t4 t6=>zn t0 fun x0=>zf 146 1 x0 fun x1=>zl 24 x1 fun x2=>zi 24 x2 t6 fun x3=>zl 74 x3 fun x4=>zs t4 x4 9<|zr [.cell 0 74,.tmp 1] [t4,(.bool true)]
def f109:List AV->CM:=a2 fun a0 a1=>za [z3,z3,z1,z2,z1,z1,z2,z1,z2] fun x0=>zn a0 fun x1=>zf 146 0 x1 fun x2=>zl 140 x2 fun x3=>zk 82 [x3,a1] fun x4=>ze 0 x4 fun x5=>ze 1 x4 fun x6=>zu x6 fun x7=>zC x7 ( za [z3,z3,z1,z2,z1,z1,z2,z1,z2] fun x8=>zl 74 x8 fun x9=>zs x0 x9 9<|zr [.cell 0 74,.tmp 1] [x0,(.bool false)]) ( zg 446464 [a0,x0,x5])
def z9J:List AV->CM:=a4 fun t2 t3 t4 t6=>zl 45 t4 fun x0=>zk 92 [x0] fun x1=>zb .neq 35 x1 z1 fun x2=>zC x2 ( zd 45 [] fun x3=>zs t6 x3 3<|zr [.cell 0 45,.tmp 1] [t6,x1]) ( zg 450561 [t2,t3,t4,t6])
def z9K:List AV->CM:=a4 fun t2 t3 t4 t6=>zl 45 t3 fun x0=>zl 45 t4 fun x1=>zk 134 [x0,x1,t2] fun x2=>ze 0 x2 fun x3=>ze 1 x2 fun x4=>zs t6 x3 3<|zr [.cell 0 45,.tmp 1] [t6,x4]
def f110:List AV->CM:=a3 fun a0 a1 a2=>zo a0 fun x0=>zo a1 fun x1=>za [z1,z2,z1] fun x2=>zl 45 x0 fun x3=>zk 132 [x3] fun x4=>zu x4 fun x5=>zI x5 ( zd 45 [] fun x6=>zs x2 x6 3<|zr [.cell 0 45,.tmp 1] [x2,(.int .i64 21)]) ( zb .lss 3 a2 z1 fun x8=>zI x8 ( zd 45 [] fun x9=>zs x2 x9 3<|zr [.cell 0 45,.tmp 1] [x2,(.int .i64 21)]) ( zb .gtr 3 a2 (.int .i64 18) fun x11=>zC x11 ( zd 45 [] fun x12=>zs x2 x12 3<|zr [.cell 0 45,.tmp 1] [x2,(.int .i64 21)]) ( zl 45 x0 fun x14=>zk 133 [x14] fun x15=>zu x15 fun x16=>zC x16 ( zd 45 [] fun x17=>zs x2 x17 3<|zr [.cell 0 45,.tmp 1] [x2,(.int .i64 43)]) ( zg 450560 [a2,x0,x1,x2]))))
def z9L:List AV->CM:=a6 fun t2 t3 t4 t5 t6 t7=>zb .lss 3 t7 (.int .i64 16) fun x0=>zC x0 ( zg 454657 [t2,t3,t4,t5,t6,t7]) ( zg 454659 [t4,t5])
def j7G:List AV->CM:=a6 fun t2 t3 t4 t5 t6 t7=>zi 121 t2 t7 fun x0=>zl 26 x0 fun x1=>zi 121 t3 t7 fun x2=>zl 26 x2 fun x3=>zb .add 26 x1 x3 fun x4=>zb .add 26 x4 t6 fun x5=>zb .rem 26 x5 (.int .u64 4294967296) fun x6=>zi 121 t5 t7 fun x7=>zs x7 x6 1<|zb .quo 26 x5 (.int .u64 4294967296) fun x9=>zg 454658 [t2,t3,t4,t5,x9,t7]
def j7H:List AV->CM:=a6 fun t2 t3 t4 t5 t6 t7=>zb .add 3 t7 z4 fun x0=>zg 454656 [t2,t3,t4,t5,t6,x0]
def j7I:List AV->CM:=a2 fun t4 t5=>zl 121 t5 fun x0=>zs t4 x0 16<|zr [.cell 0 121] [t4]
def f111:List AV->CM:=a2 fun a0 a1=>zo a0 fun x0=>zo a1 fun x1=>za [z2,z2,z2,z2,z2,z2,z2,z2,z2,z2,z2,z2,z2,z2,z2,z2] fun x2=>za [z2,z2,z2,z2,z2,z2,z2,z2,z2,z2,z2,z2,z2,z2,z2,z2] fun x3=>zg 454656 [x0,x1,x2,x3,z2,z1]
def z9P:List AV->CM:=a3 fun t2 t3 t5=>zb .geq 3 t5 z1 fun x0=>zC x0 ( zg 458753 [t2,t3,t5]) ( zg 458756 [])
def z4A:List AV->CM:=a3 fun t2 t3 t5=>zi 121 t2 t5 fun x0=>zl 26 x0 fun x1=>zi 121 t3 t5 fun x2=>zl 26 x2 fun x3=>zb .neq 26 x1 x3 fun x4=>zC x4 ( zi 121 t2 t5 fun x5=>zl 26 x5 fun x6=>zi 121 t3 t5 fun x7=>zl 26 x7 fun x8=>zb .lss 26 x6 x8 fun x9=>zC x9 ( zR (.int .i64 (-1))) ( zg 458754 [])) ( zg 458755 [t2,t3,t5])
def j7J:List AV->CM:=a0<|zR z4
def j7K:List AV->CM:=a3 fun t2 t3 t5=>zb .sub 3 t5 z4 fun x0=>zg 458752 [t2,t3,x0]
def j7L:List AV->CM:=a0<|zR z1
def f112:List AV->CM:=a2 fun a0 a1=>zo a0 fun x0=>zo a1 fun x1=>zg 458752 [x0,x1,(.int .i64 15)]
end
end
end Go.Proofs.YtlginbmjiecglaaGreatDoor.T
