/- Texts of one claim, put together. -/
import Derived.Test.YtlginbmjiecglaaGreatDoorK8
import Derived.Test.YtlginbmjiecglaaGreatDoorK10
import Derived.Test.YtlginbmjiecglaaGreatDoorK11
import Derived.KernelRfl
namespace Go.Proofs.YtlginbmjiecglaaGreatDoor.T
section
open Go Go.Abs Go.Proofs.YtlginbmjiecglaaGreatDoor
set_option maxRecDepth 10000
noncomputable section
variable {H:FuncId->Option (List AV->Mem->R)}
def z9T:List AV->CM:=a6 fun t2 t3 t4 t5 t6 t7=>zb .lss 3 t7 (.int .i64 16) fun x0=>zC x0 ( zg 462849 [t2,t3,t4,t5,t6,t7]) ( zg 462851 [t4,t5])
def j7M:List AV->CM:=a6 fun t2 t3 t4 t5 t6 t7=>zi 121 t2 t7 fun x0=>zl 26 x0 fun x1=>zb .add 26 x1 (.int .u64 4294967296) fun x2=>zi 121 t3 t7 fun x3=>zl 26 x3 fun x4=>zb .sub 26 x2 x4 fun x5=>zb .sub 26 x5 t6 fun x6=>zb .rem 26 x6 (.int .u64 4294967296) fun x7=>zi 121 t5 t7 fun x8=>zs x8 x7 1<|zb .quo 26 x6 (.int .u64 4294967296) fun x10=>zb .sub 26 (.int .u64 1) x10 fun x11=>zg 462850 [t2,t3,t4,t5,x11,t7]
def j7N:List AV->CM:=a6 fun t2 t3 t4 t5 t6 t7=>zb .add 3 t7 z4 fun x0=>zg 462848 [t2,t3,t4,t5,t6,x0]
def j7O:List AV->CM:=a2 fun t4 t5=>zl 121 t5 fun x0=>zs t4 x0 16<|zr [.cell 0 121] [t4]
def f113:List AV->CM:=a2 fun a0 a1=>zo a0 fun x0=>zo a1 fun x1=>za [z2,z2,z2,z2,z2,z2,z2,z2,z2,z2,z2,z2,z2,z2,z2,z2] fun x2=>za [z2,z2,z2,z2,z2,z2,z2,z2,z2,z2,z2,z2,z2,z2,z2,z2] fun x3=>zg 462848 [x0,x1,x2,x3,z2,z1]
def j7P:List AV->CM:=a2 fun t2 t4=>zl 43 t4 fun x0=>zs t2 x0 2<|zr [.cell 0 43,.tmp 1] [t2,z1]
def f114:List AV->CM:=a1 fun a0=>zo a0 fun x0=>za [z1,z2] fun x1=>zl 123 x0 fun x2=>zk 135 [x2] fun x3=>ze 0 x3 fun x4=>ze 1 x3 fun x5=>za [z1,z2] fun x6=>zs x6 x4 2<|zu x5 fun x8=>zC x8 ( zd 43 [] fun x9=>zs x1 x9 2<|zr [.cell 0 43,.tmp 1] [x1,(.int .i64 20)]) ( zg 466944 [x1,x6])
def f115:List AV->CM:=a1 fun a0=>zo a0 fun x0=>za [(.bool false),z2,z2,z2,z2,z2,z2,z2,z2,z2,z2,z2,z2,z2,z2,z2,z2] fun x1=>zf 123 0 x0 fun x2=>zl 4 x2 fun x3=>zu x3 fun x4=>zI x4 ( zf 123 1 x0 fun x5=>zl 121 x5 fun x6=>zm fun m7=>zk 70 [x6] fun x8=>zu x8 fun x10=>zf 123 1 x0 fun x11=>zl 121 x11 fun x12=>zx 121 x11 m7 x12<|zd 123 [(0,x10),(1,x12)] fun x13=>zs x1 x13 17<|zr [.cell 0 123] [x1]) ( zf 123 1 x0 fun x17=>zl 121 x17 fun x18=>zd 123 [(0,(.bool false)),(1,x18)] fun x19=>zs x1 x19 17<|zr [.cell 0 123] [x1])
def z9Y:List AV->CM:=a1 fun t5=>zf 123 0 t5 fun x0=>zl 4 x0 fun x1=>zC x1 ( zR (.int .i64 (-1))) ( zg 475137 [])
def j7Q:List AV->CM:=a0<|zR z4
def f116:List AV->CM:=a2 fun a0 a1=>zo a0 fun x0=>zo a1 fun x1=>zl 123 x0 fun x2=>zl 123 x1 fun x3=>zk 115 [x3] fun x5=>zm fun m6=>zx 123 x0 m6 x2<|zk 69 [x2,x5] fun x8=>za [(.bool false),z2,z2,z2,z2,z2,z2,z2,z2,z2,z2,z2,z2,z2,z2,z2,z2] fun x10=>zs x10 x8 17<|zf 123 1 x10 fun x14=>zl 121 x14 fun x15=>zk 70 [x15] fun x16=>zC x16 ( zR z1) ( zg 475136 [x10])
def z90:List AV->CM:=a4 fun t2 t3 t4 t6=>zf 45 0 t3 fun x0=>zl 43 x0 fun x1=>zm fun m2=>zk 68 [x1] fun x3=>zf 45 0 t4 fun x5=>zl 43 x5 fun x6=>zx 43 x5 m2 x6<|zm fun m7=>zk 68 [x6] fun x8=>zm fun m10=>zk 138 [x3,x8] fun x11=>zf 45 1 t3 fun x13=>zl 3 x13 fun x14=>zx 3 x13 m10 x14<|zx 3 x13 m7 x14<|zx 3 x13 m2 x14<|zf 45 1 t4 fun x15=>zl 3 x15 fun x16=>zx 3 x15 m10 x16<|zx 3 x15 m7 x16<|zx 3 x15 m2 x16<|zb .add 3 x14 x16 fun x17=>zb .sub 3 x17 t2 fun x18=>zk 137 [x11,x18] fun x20=>zk 136 [x20,t2] fun x23=>ze 0 x23 fun x25=>ze 1 x23 fun x26=>zs t6 x25 3<|zr [.cell 0 45,.tmp 1] [t6,x26]
def f117:List AV->CM:=a3 fun a0 a1 a2=>zo a0 fun x0=>zo a1 fun x1=>za [z1,z2,z1] fun x2=>zl 45 x0 fun x3=>zk 78 [x3] fun x4=>zu x4 fun x5=>zI x5 ( zd 45 [] fun x6=>zs x2 x6 3<|zr [.cell 0 45,.tmp 1] [x2,(.int .i64 21)]) ( zl 45 x1 fun x8=>zk 78 [x8] fun x9=>zu x9 fun x10=>zI x10 ( zd 45 [] fun x11=>zs x2 x11 3<|zr [.cell 0 45,.tmp 1] [x2,(.int .i64 21)]) ( zb .lss 3 a2 z1 fun x13=>zI x13 ( zd 45 [] fun x14=>zs x2 x14 3<|zr [.cell 0 45,.tmp 1] [x2,(.int .i64 21)]) ( zb .gtr 3 a2 (.int .i64 18) fun x16=>zC x16 ( zd 45 [] fun x17=>zs x2 x17 3<|zr [.cell 0 45,.tmp 1] [x2,(.int .i64 21)]) ( zg 479232 [a2,x0,x1,x2]))))
def f118:List AV->CM:=a2 fun a0 a1=>zk 139 [a0] fun x0=>zI x0 ( zk 139 [a1] fun x1=>zu x1 fun x2=>zI x2 ( zR (.bool true)) ( zb .lss 9 a0 a1 fun x3=>zR x3)) ( zb .lss 9 a0 a1 fun x4=>zR x4)
theorem z9g (h:H 118=none):OkF H f118 118:=e2 h rfl fun _ _ _=>by kernel_rfl
def f119:List AV->CM:=a1 fun a0=>zb .neq 9 a0 a0 fun x0=>zR x0
theorem z9h (h:H 119=none):OkF H f119 119:=e1 h rfl fun _ _=>by kernel_rfl
def f126:List AV->CM:=a2 fun a0 a1=>zk 143 [a0] fun x0=>zI x0 ( zk 143 [a1] fun x1=>zu x1 fun x2=>zI x2 ( zR (.bool true)) ( zb .lss 26 a0 a1 fun x3=>zR x3)) ( zb .lss 26 a0 a1 fun x4=>zR x4)
theorem z9i (h:H 126=none):OkF H f126 126:=e2 h rfl fun _ _ _=>by kernel_rfl
def f127:List AV->CM:=a1 fun a0=>zb .neq 26 a0 a0 fun x0=>zR x0
theorem z9j (h:H 127=none):OkF H f127 127:=e1 h rfl fun _ _=>by kernel_rfl
def f132:List AV->CM:=a1 fun a0=>zo a0 fun x0=>zf 45 1 x0 fun x1=>zl 3 x1 fun x2=>zk 146 [x2] fun x3=>zR x3
def f133:List AV->CM:=a1 fun a0=>zo a0 fun x0=>zl 45 x0 fun x1=>zd 45 [] fun x2=>zk 147 [x1,x2] fun x3=>ze 0 x3 fun x4=>ze 1 x3 fun x5=>zb .eql 35 x5 z1 fun x6=>zI x6 ( zb .gtr 3 x4 z1 fun x7=>zR x7) ( zR (.bool false))
def z4D:List AV->CM:=a4 fun t2 t3 t4 t6=>zf 45 1 t3 fun x0=>zl 3 x0 fun x1=>zf 45 1 t4 fun x2=>zl 3 x2 fun x3=>zb .add 3 x1 x3 fun x4=>zb .sub 3 x4 t2 fun x5=>za [z1,z2] fun x6=>zb .geq 3 x5 z1 fun x7=>zC x7 ( zf 45 0 t3 fun x8=>zl 43 x8 fun x9=>zf 45 0 t4 fun x10=>zl 43 x10 fun x11=>zk 148 [x9,x11,x5] fun x12=>ze 0 x12 fun x13=>ze 1 x12 fun x14=>zs x6 x13 2<|zg 548865 [t2,t6,x6,x14]) ( zf 45 0 t3 fun x16=>zl 43 x16 fun x17=>zf 45 0 t4 fun x18=>zl 43 x18 fun x19=>zk 149 [x17,x19] fun x20=>ze 0 x20 fun x21=>ze 1 x20 fun x22=>zs x6 x21 2<|zb .eql 35 x22 z1 fun x24=>zC x24 ( zl 43 x6 fun x25=>CM.pu (p1 (unA .neg) x5) fun x26=>zk 150 [x25,x26] fun x27=>ze 0 x27 fun x28=>ze 1 x27 fun x29=>zs x6 x28 2<|zg 548865 [t2,t6,x6,x29]) ( zg 548865 [t2,t6,x6,x22]))
def z97:List AV->CM:=a4 fun t2 t6 t9 t10=>zb .neq 35 t10 z1 fun x0=>zC x0 ( zd 45 [] fun x1=>zs t6 x1 3<|zr [.cell 0 45,.tmp 1] [t6,t10]) ( zg 548866 [t2,t6,t9])
def j7U:List AV->CM:=a3 fun t2 t6 t9=>zl 43 t9 fun x0=>zd 45 [(0,x0),(1,t2)] fun x1=>zs t6 x1 3<|zr [.cell 0 45,.tmp 1] [t6,z1]
def f134:List AV->CM:=a3 fun a0 a1 a2=>zo a0 fun x0=>zo a1 fun x1=>za [z1,z2,z1] fun x2=>zl 45 x0 fun x3=>zk 132 [x3] fun x4=>zu x4 fun x5=>zI x5 ( zd 45 [] fun x6=>zs x2 x6 3<|zr [.cell 0 45,.tmp 1] [x2,(.int .i64 21)]) ( zl 45 x1 fun x8=>zk 132 [x8] fun x9=>zu x9 fun x10=>zI x10 ( zd 45 [] fun x11=>zs x2 x11 3<|zr [.cell 0 45,.tmp 1] [x2,(.int .i64 21)]) ( zk 146 [a2] fun x13=>zu x13 fun x14=>zC x14 ( zd 45 [] fun x15=>zs x2 x15 3<|zr [.cell 0 45,.tmp 1] [x2,(.int .i64 21)]) ( zg 548864 [a2,x0,x1,x2])))
def z1c:List AV->CM:=a3 fun t1 t2 t4=>zb .lss 3 t4 (.int .i64 16) fun x0=>zC x0 ( zg 552961 [t1,t2,t4]) ( zg 552963 [t1,t2])
def z4E:List AV->CM:=a3 fun t1 t2 t4=>zf 123 1 t1 fun x0=>zi 121 x0 t4 fun x1=>zl 26 x1 fun x2=>zb .neq 26 x2 z2 fun x3=>zC x3 ( zd 43 [] fun x4=>zs t2 x4 2<|zr [.cell 0 43,.tmp 1] [t2,(.bool false)]) ( zg 552962 [t1,t2,t4])
def z99:List AV->CM:=a3 fun t1 t2 t4=>zb .add 3 t4 z4 fun x0=>zg 552960 [t1,t2,x0]
def j0a:List AV->CM:=a2 fun t1 t2=>zf 123 1 t1 fun x0=>zi 121 x0 z1 fun x1=>zl 26 x1 fun x2=>zf 123 1 t1 fun x3=>zi 121 x3 z4 fun x4=>zl 26 x4 fun x5=>zb .shl 26 x5 (.int .u64 32) fun x6=>zb .add 26 x2 x6 fun x7=>zf 123 1 t1 fun x8=>zi 121 x8 (.int .i64 2) fun x9=>zl 26 x9 fun x10=>zf 123 1 t1 fun x11=>zi 121 x11 (.int .i64 3) fun x12=>zl 26 x12 fun x13=>zb .shl 26 x13 (.int .u64 32) fun x14=>zb .add 26 x10 x14 fun x15=>zf 123 0 t1 fun x16=>zl 4 x16 fun x17=>zu x17 fun x18=>zC x18 ( zc 26 2 x15 fun x19=>zd 43 [(0,x19),(1,x7)] fun x20=>zb .lss 26 x15 (.int .u64 9223372036854775808) fun x21=>zs t2 x20 2<|zr [.cell 0 43,.tmp 1] [t2,x21]) ( zg 552964 [t2,x7,x15])
def z1f:List AV->CM:=a3 fun t2 t5 t6=>zb .gtr 26 t6 (.int .u64 9223372036854775808) fun x0=>zI x0 ( zd 43 [] fun x1=>zs t2 x1 2<|zr [.cell 0 43,.tmp 1] [t2,(.bool false)]) ( zb .eql 26 t6 (.int .u64 9223372036854775808) fun x3=>zI x3 ( zb .gtr 26 t5 z2 fun x4=>zC x4 ( zd 43 [] fun x5=>zs t2 x5 2<|zr [.cell 0 43,.tmp 1] [t2,(.bool false)]) ( zg 552965 [t2,t5,t6])) ( zg 552965 [t2,t5,t6]))
def j0b:List AV->CM:=a3 fun t2 t5 t6=>CM.pu (p1 (unA .xor) t5) fun x0=>CM.pu (p1 (unA .xor) t6) fun x1=>zb .add 26 x0 (.int .u64 1) fun x2=>zb .eql 26 x2 z2 fun x3=>zC x3 ( zb .add 26 x1 (.int .u64 1) fun x4=>zg 552966 [t2,x2,x4]) ( zg 552966 [t2,x2,x1])
def j0c:List AV->CM:=a3 fun t2 t5 t6=>zc 26 2 t6 fun x0=>zd 43 [(0,x0),(1,t5)] fun x1=>zs t2 x1 2<|zr [.cell 0 43,.tmp 1] [t2,(.bool true)]
def f135:List AV->CM:=a1 fun a0=>zo a0 fun x0=>za [z1,z2] fun x1=>zg 552960 [x0,x1,(.int .i64 4)]
def j7V:List AV->CM:=a3 fun t1 t4 t6=>zl 43 t6 fun x0=>zd 45 [(0,x0),(1,t1)] fun x1=>zs t4 x1 3<|zr [.cell 0 45,.tmp 1] [t4,z1]
def f136:List AV->CM:=a2 fun a0 a1=>zo a0 fun x0=>za [z1,z2,z1] fun x1=>zl 123 x0 fun x2=>zk 135 [x2] fun x3=>ze 0 x3 fun x4=>ze 1 x3 fun x5=>za [z1,z2] fun x6=>zs x6 x4 2<|zu x5 fun x8=>zC x8 ( zd 45 [] fun x9=>zs x1 x9 3<|zr [.cell 0 45,.tmp 1] [x1,(.int .i64 20)]) ( zg 557056 [a1,x1,x6])
def z1i:List AV->CM:=a3 fun t1 t2 t4=>zk 151 [t1] fun x0=>za [z2,z2,z2,z2,z2,z2,z2,z2,z2,z2,z2,z2,z2,z2,z2,z2] fun x1=>zs x1 x0 16<|zf 123 1 t2 fun x3=>zl 121 x3 fun x4=>zl 121 x1 fun x5=>zk 152 [x4,x5] fun x6=>ze 0 x6 fun x7=>ze 1 x6 fun x8=>za [z2,z2,z2,z2,z2,z2,z2,z2,z2,z2,z2,z2,z2,z2,z2,z2] fun x9=>za [z2,z2,z2,z2,z2,z2,z2,z2,z2,z2,z2,z2,z2,z2,z2,z2] fun x10=>zs x9 x7 16<|zs x10 x8 16<|za [z2,z2,z2,z2,z2,z2,z2,z2,z2,z2,z2,z2,z2,z2,z2,z2] fun x13=>zi 121 x13 z1 fun x14=>zs x14 (.int .u64 1) 1<|zl 121 x10 fun x16=>zl 121 x10 fun x17=>zm fun m18=>zk 111 [x16,x17] fun x19=>zl 121 x1 fun x21=>zx 121 x1 m18 x21<|zk 112 [x19,x21] fun x23=>zb .gtr 3 x23 z1 fun x25=>zI x25 ( zl 121 x9 fun x26=>zl 121 x13 fun x27=>zk 111 [x26,x27] fun x28=>zs x9 x28 16<|zg 561153 [t2,t4,x9]) ( zb .eql 3 x23 z1 fun x30=>zI x30 ( zi 121 x9 z1 fun x31=>zl 26 x31 fun x32=>zb .rem 26 x32 (.int .u64 2) fun x33=>zb .eql 26 x33 (.int .u64 1) fun x34=>zC x34 ( zl 121 x9 fun x35=>zl 121 x13 fun x36=>zk 111 [x35,x36] fun x37=>zs x9 x37 16<|zg 561153 [t2,t4,x9]) ( zg 561153 [t2,t4,x9])) ( zg 561153 [t2,t4,x9]))
def j0e:List AV->CM:=a3 fun t2 t4 t6=>zf 123 0 t2 fun x0=>zl 4 x0 fun x1=>zI x1 ( zl 121 t6 fun x2=>zm fun m3=>zk 70 [x2] fun x4=>zu x4 fun x6=>zl 121 t6 fun x7=>zx 121 t6 m3 x7<|zd 123 [(0,x6),(1,x7)] fun x8=>zs t4 x8 17<|zr [.cell 0 123] [t4]) ( zl 121 t6 fun x12=>zd 123 [(0,(.bool false)),(1,x12)] fun x13=>zs t4 x13 17<|zr [.cell 0 123] [t4])
def f137:List AV->CM:=a2 fun a0 a1=>zo a0 fun x0=>za [(.bool false),z2,z2,z2,z2,z2,z2,z2,z2,z2,z2,z2,z2,z2,z2,z2,z2] fun x1=>zb .leq 3 a1 z1 fun x2=>zC x2 ( zl 123 x0 fun x3=>CM.pu (p1 (unA .neg) a1) fun x4=>zk 151 [x4] fun x6=>zm fun m7=>zx 123 x0 m7 x3<|zd 123 [(0,(.bool false)),(1,x6)] fun x8=>zk 138 [x3,x8] fun x10=>zs x1 x10 17<|zr [.cell 0 123] [x1]) ( zg 561152 [a1,x0,x1])
def f138:List AV->CM:=a2 fun a0 a1=>zo a0 fun x0=>zo a1 fun x1=>za [(.bool false),z2,z2,z2,z2,z2,z2,z2,z2,z2,z2,z2,z2,z2,z2,z2,z2] fun x2=>zf 123 1 x0 fun x3=>zl 121 x3 fun x4=>zf 123 1 x1 fun x5=>zl 121 x5 fun x6=>zk 153 [x4,x6] fun x7=>za [z2,z2,z2,z2,z2,z2,z2,z2,z2,z2,z2,z2,z2,z2,z2,z2] fun x8=>zs x8 x7 16<|zf 123 0 x0 fun x10=>zl 4 x10 fun x11=>zf 123 0 x1 fun x12=>zl 4 x12 fun x13=>zb .neq 4 x11 x13 fun x14=>zI x14 ( zl 121 x8 fun x15=>zm fun m16=>zk 70 [x15] fun x17=>zu x17 fun x19=>zl 121 x8 fun x20=>zx 121 x8 m16 x20<|zd 123 [(0,x19),(1,x20)] fun x21=>zs x2 x21 17<|zr [.cell 0 123] [x2]) ( zl 121 x8 fun x25=>zd 123 [(0,(.bool false)),(1,x25)] fun x26=>zs x2 x26 17<|zr [.cell 0 123] [x2])
def f139:List AV->CM:=a1 fun a0=>zb .neq 9 a0 a0 fun x0=>zR x0
theorem z9o (h:H 139=none):OkF H f139 139:=e1 h rfl fun _ _=>by kernel_rfl
def f143:List AV->CM:=a1 fun a0=>zb .neq 26 a0 a0 fun x0=>zR x0
theorem z9p (h:H 143=none):OkF H f143 143:=e1 h rfl fun _ _=>by kernel_rfl
def f146:List AV->CM:=a1 fun a0=>zb .geq 3 a0 z1 fun x0=>zI x0 ( zb .leq 3 a0 (.int .i64 18) fun x1=>zR x1) ( zR (.bool false))
def j7W:List AV->CM:=a2 fun t2 t3=>zf 45 1 t2 fun x0=>zl 3 x0 fun x1=>zf 45 1 t3 fun x2=>zl 3 x2 fun x3=>zb .lss 3 x1 x3 fun x4=>zC x4 ( zl 45 t3 fun x5=>zl 45 t2 fun x6=>zk 159 [x5,x6] fun x7=>CM.pu (p1 (unA .neg) x7) fun x8=>zR (.tup [x8,z1])) ( zg 602113 [t2,t3])
def j7X:List AV->CM:=a2 fun t2 t3=>zl 45 t2 fun x0=>zl 45 t3 fun x1=>zk 159 [x0,x1] fun x2=>zR (.tup [x2,z1])
def f147:List AV->CM:=a2 fun a0 a1=>zo a0 fun x0=>zo a1 fun x1=>zl 45 x0 fun x2=>zk 132 [x2] fun x3=>zu x3 fun x4=>zI x4 ( zR (.tup [z1,(.int .i64 21)])) ( zl 45 x1 fun x5=>zk 132 [x5] fun x6=>zu x6 fun x7=>zC x7 ( zR (.tup [z1,(.int .i64 21)])) ( zg 602112 [x0,x1]))
def j7Y:List AV->CM:=a4 fun t2 t3 t4 t6=>CM.pu (p2 a97 t2 (.int .i64 18)) fun x0=>zl 43 t3 fun x1=>zl 43 t4 fun x2=>zk 161 [x1,x2] fun x3=>zk 162 [x0] fun x4=>zk 160 [x3,x4] fun x5=>ze 0 x5 fun x6=>ze 1 x5 fun x7=>za [z2,z2,z2,z2] fun x8=>zs x8 x6 4<|zl 212 x8 fun x10=>zb .sub 3 t2 x0 fun x11=>zk 162 [x11] fun x13=>zm fun m14=>zx 212 x8 m14 x10<|zk 160 [x10,x13] fun x16=>ze 0 x16 fun x18=>ze 1 x16 fun x19=>zs x8 x18 4<|zb .eql 3 t2 z1 fun x23=>zC x23 ( zg 606209 [t3,t4,t6,x8,(.bool false)]) ( zb .eql 3 t2 x0 fun x24=>zC x24 ( zk 162 [x0] fun x25=>zb .quo 26 x25 (.int .u64 2) fun x26=>zb .gtr 26 x7 x26 fun x27=>zI x27 ( zg 606209 [t3,t4,t6,x8,(.bool true)]) ( zk 162 [x0] fun x28=>zb .quo 26 x28 (.int .u64 2) fun x29=>zb .eql 26 x7 x29 fun x30=>zI x30 ( zi 212 x8 z1 fun x31=>zl 26 x31 fun x32=>zb .and 26 x32 (.int .u64 1) fun x33=>zb .eql 26 x33 (.int .u64 1) fun x34=>zg 606209 [t3,t4,t6,x8,x34]) ( zg 606209 [t3,t4,t6,x8,(.bool false)]))) ( zb .sub 3 t2 x0 fun x35=>zk 162 [x35] fun x36=>zb .quo 26 x36 (.int .u64 2) fun x37=>zb .gtr 26 x19 x37 fun x38=>zI x38 ( zg 606209 [t3,t4,t6,x8,(.bool true)]) ( zb .eql 26 x19 x37 fun x39=>zI x39 ( zb .gtr 26 x7 z2 fun x40=>zI x40 ( zg 606209 [t3,t4,t6,x8,(.bool true)]) ( zi 212 x8 z1 fun x41=>zl 26 x41 fun x42=>zb .and 26 x42 (.int .u64 1) fun x43=>zb .eql 26 x43 (.int .u64 1) fun x44=>zg 606209 [t3,t4,t6,x8,x44])) ( zg 606209 [t3,t4,t6,x8,(.bool false)]))))
def j0i:List AV->CM:=a5 fun t3 t4 t6 t9 t12=>zg 606210 [t3,t4,t6,t9,t12,z1]
def q4S:List AV->CM:=a6 fun t3 t4 t6 t9 t12 t14=>zb .lss 3 t14 (.int .i64 4) fun x0=>zI x0 ( zC t12 ( zg 606211 [t3,t4,t6,t9,t14]) ( zg 606213 [t3,t4,t6,t9])) ( zg 606213 [t3,t4,t6,t9])
def z1l:List AV->CM:=a5 fun t3 t4 t6 t9 t14=>zi 212 t9 t14 fun x0=>zl 26 x0 fun x1=>zb .add 26 x1 (.int .u64 1) fun x2=>zi 212 t9 t14 fun x3=>zs x3 x2 1<|zi 212 t9 t14 fun x5=>zl 26 x5 fun x6=>zb .eql 26 x6 z2 fun x7=>zg 606212 [t3,t4,t6,t9,x7,t14]
def q6D:List AV->CM:=a6 fun t3 t4 t6 t9 t12 t14=>zb .add 3 t14 z4 fun x0=>zg 606210 [t3,t4,t6,t9,t12,x0]
def j7Z:List AV->CM:=a4 fun t3 t4 t6 t9=>zf 43 0 t3 fun x0=>zl 2 x0 fun x1=>zb .lss 2 x1 z1 fun x2=>zf 43 0 t4 fun x3=>zl 2 x3 fun x4=>zb .lss 2 x4 z1 fun x5=>zb .neq 4 x2 x5 fun x6=>zl 212 t9 fun x7=>zk 163 [x6,x7] fun x8=>ze 0 x8 fun x9=>ze 1 x8 fun x10=>zs t6 x9 2<|zr [.cell 0 43,.tmp 1] [t6,x10]
def f148:List AV->CM:=a3 fun a0 a1 a2=>zo a0 fun x0=>zo a1 fun x1=>za [z1,z2] fun x2=>zb .lss 3 a2 z1 fun x3=>zI x3 ( zd 43 [] fun x4=>zs x2 x4 2<|zr [.cell 0 43,.tmp 1] [x2,z4]) ( zb .gtr 3 a2 (.int .i64 36) fun x6=>zC x6 ( zd 43 [] fun x7=>zs x2 x7 2<|zr [.cell 0 43,.tmp 1] [x2,z4]) ( zg 606208 [a2,x0,x1,x2]))
def f149:List AV->CM:=a2 fun a0 a1=>zo a0 fun x0=>zo a1 fun x1=>za [z1,z2] fun x2=>zf 43 0 x0 fun x3=>zl 2 x3 fun x4=>zb .lss 2 x4 z1 fun x5=>zf 43 0 x1 fun x6=>zl 2 x6 fun x7=>zb .lss 2 x7 z1 fun x8=>zb .neq 4 x5 x8 fun x9=>zl 43 x0 fun x10=>zl 43 x1 fun x11=>zk 161 [x10,x11] fun x13=>zm fun m14=>zx 2 x6 m14 x7<|zx 2 x3 m14 x4<|zk 163 [x9,x13] fun x16=>ze 0 x16 fun x18=>ze 1 x16 fun x19=>zs x2 x18 2<|zr [.cell 0 43,.tmp 1] [x2,x19]
def j70:List AV->CM:=a3 fun t2 t4 t6=>zl 43 t2 fun x0=>zl 43 t6 fun x1=>zk 149 [x0,x1] fun x2=>ze 0 x2 fun x3=>ze 1 x2 fun x4=>zs t4 x3 2<|zr [.cell 0 43,.tmp 1] [t4,x4]
def f150:List AV->CM:=a2 fun a0 a1=>zo a0 fun x0=>za [z1,z2] fun x1=>zk 164 [a1] fun x2=>ze 0 x2 fun x3=>ze 1 x2 fun x4=>za [z1,z2] fun x5=>zs x5 x3 2<|zb .neq 35 x4 z1 fun x7=>zC x7 ( zd 43 [] fun x8=>zs x1 x8 2<|zr [.cell 0 43,.tmp 1] [x1,x4]) ( zg 614400 [x0,x1,x5])
def j0l:List AV->CM:=a5 fun t0 t2 t3 t4 t5=>zb .lss 3 t5 t0 fun x0=>zC x0 ( zg 618497 [t0,t2,t3,t4,t5]) ( zg 618499 [t2,t3])
def j71:List AV->CM:=a5 fun t0 t2 t3 t4 t5=>zl 121 t3 fun x0=>zl 121 t4 fun x1=>zk 153 [x0,x1] fun x2=>zs t3 x2 16<|zg 618498 [t0,t2,t3,t4,t5]
def j72:List AV->CM:=a5 fun t0 t2 t3 t4 t5=>zb .add 3 t5 z4 fun x0=>zg 618496 [t0,t2,t3,t4,x0]
def j73:List AV->CM:=a2 fun t2 t3=>zl 121 t3 fun x0=>zs t2 x0 16<|zr [.cell 0 121] [t2]
def f151:List AV->CM:=a1 fun a0=>za [z2,z2,z2,z2,z2,z2,z2,z2,z2,z2,z2,z2,z2,z2,z2,z2] fun x0=>za [z2,z2,z2,z2,z2,z2,z2,z2,z2,z2,z2,z2,z2,z2,z2,z2] fun x1=>za [z2,z2,z2,z2,z2,z2,z2,z2,z2,z2,z2,z2,z2,z2,z2,z2] fun x2=>zi 121 x1 z1 fun x3=>zs x3 (.int .u64 1) 1<|zi 121 x2 z1 fun x5=>zs x5 (.int .u64 10) 1<|zg 618496 [a0,x0,x1,x2,z1]
def j0p:List AV->CM:=a5 fun t2 t3 t4 t5 t6=>zb .geq 3 t6 z1 fun x0=>zC x0 ( zg 622593 [t2,t3,t4,t5,t6]) ( zg 622595 [t4,t5])
def j0q:List AV->CM:=a5 fun t2 t3 t4 t5 t6=>zl 121 t5 fun x0=>zl 121 t5 fun x1=>zk 111 [x0,x1] fun x2=>zs t5 x2 16<|zi 121 t5 z1 fun x4=>zl 26 x4 fun x5=>zb .quo 3 t6 (.int .i64 32) fun x6=>zi 121 t2 x6 fun x7=>zl 26 x7 fun x8=>zc 3 172 t6 fun x9=>zb .rem 172 x9 (.int .u64 32) fun x10=>zb .shr 26 x8 x10 fun x11=>zb .rem 26 x11 (.int .u64 2) fun x12=>zb .add 26 x5 x12 fun x13=>zi 121 t5 z1 fun x14=>zs x14 x13 1<|zl 121 t5 fun x18=>zl 121 t3 fun x19=>zk 112 [x18,x19] fun x20=>zb .geq 3 x20 z1 fun x21=>zC x21 ( zl 121 t5 fun x22=>zl 121 t3 fun x23=>zk 113 [x22,x23] fun x24=>zs t5 x24 16<|zb .quo 3 t6 (.int .i64 32) fun x26=>zb .quo 3 t6 (.int .i64 32) fun x27=>zi 121 t4 x27 fun x28=>zl 26 x28 fun x29=>zc 3 172 t6 fun x30=>zb .rem 172 x30 (.int .u64 32) fun x31=>zb .shl 26 (.int .u64 1) x31 fun x32=>zb .add 26 x29 x32 fun x33=>zi 121 t4 x26 fun x34=>zs x34 x33 1<|zg 622594 [t2,t3,t4,t5,t6]) ( zg 622594 [t2,t3,t4,t5,t6])
def j0r:List AV->CM:=a5 fun t2 t3 t4 t5 t6=>zb .sub 3 t6 z4 fun x0=>zg 622592 [t2,t3,t4,t5,x0]
def j74:List AV->CM:=a2 fun t4 t5=>zl 121 t4 fun x0=>zl 121 t5 fun x1=>zs t4 x0 16<|zm fun m4=>zx 121 t5 m4 x1<|zs t5 x1 16<|zr [.cell 0 121,.cell 1 121] [t4,t5]
def f152:List AV->CM:=a2 fun a0 a1=>zo a0 fun x0=>zo a1 fun x1=>za [z2,z2,z2,z2,z2,z2,z2,z2,z2,z2,z2,z2,z2,z2,z2,z2] fun x2=>za [z2,z2,z2,z2,z2,z2,z2,z2,z2,z2,z2,z2,z2,z2,z2,z2] fun x3=>zg 622592 [x0,x1,x2,x3,(.int .i64 511)]
def j0t:List AV->CM:=a5 fun t2 t3 t4 t5 t6=>zb .lss 3 t6 (.int .i64 8) fun x0=>zC x0 ( zg 626689 [t2,t3,t4,t5,t6]) ( zg 626694 [t4,t5])
def j75:List AV->CM:=a5 fun t2 t3 t4 t5 t6=>zg 626690 [t2,t3,t4,t5,t6,z2,z1]
def j0v:List AV->CM:=a7 fun t2 t3 t4 t5 t6 t7 t8=>zb .lss 3 t8 (.int .i64 8) fun x0=>zC x0 ( zg 626691 [t2,t3,t4,t5,t6,t7,t8]) ( zg 626693 [t2,t3,t4,t5,t6])
def j76:List AV->CM:=a7 fun t2 t3 t4 t5 t6 t7 t8=>zb .add 3 t6 t8 fun x0=>zi 121 t5 x0 fun x1=>zl 26 x1 fun x2=>zi 121 t2 t6 fun x3=>zl 26 x3 fun x4=>zi 121 t3 t8 fun x5=>zl 26 x5 fun x6=>zb .mul 26 x4 x6 fun x7=>zb .add 26 x2 x7 fun x8=>zb .add 26 x8 t7 fun x9=>zb .add 3 t6 t8 fun x10=>zb .rem 26 x9 (.int .u64 4294967296) fun x11=>zi 121 t5 x10 fun x12=>zs x12 x11 1<|zb .quo 26 x9 (.int .u64 4294967296) fun x14=>zg 626692 [t2,t3,t4,t5,t6,x14,t8]
def j77:List AV->CM:=a7 fun t2 t3 t4 t5 t6 t7 t8=>zb .add 3 t8 z4 fun x0=>zg 626690 [t2,t3,t4,t5,t6,t7,x0]
def j78:List AV->CM:=a5 fun t2 t3 t4 t5 t6=>zb .add 3 t6 z4 fun x0=>zg 626688 [t2,t3,t4,t5,x0]
def j79:List AV->CM:=a2 fun t4 t5=>zl 121 t5 fun x0=>zs t4 x0 16<|zr [.cell 0 121] [t4]
def f153:List AV->CM:=a2 fun a0 a1=>zo a0 fun x0=>zo a1 fun x1=>za [z2,z2,z2,z2,z2,z2,z2,z2,z2,z2,z2,z2,z2,z2,z2,z2] fun x2=>za [z2,z2,z2,z2,z2,z2,z2,z2,z2,z2,z2,z2,z2,z2,z2,z2] fun x3=>zg 626688 [x0,x1,x2,x3,z1]
def j8a:List AV->CM:=a1 fun t8=>zl 43 t8 fun x0=>zk 93 [x0] fun x1=>zR x1
def f159:List AV->CM:=a2 fun a0 a1=>zo a0 fun x0=>zo a1 fun x1=>zf 45 1 x0 fun x2=>zl 3 x2 fun x3=>zf 45 1 x1 fun x4=>zl 3 x4 fun x5=>zb .sub 3 x3 x5 fun x6=>zk 164 [x6] fun x7=>ze 0 x7 fun x8=>ze 1 x7 fun _=>za [z1,z2] fun x10=>zs x10 x8 2<|zf 45 0 x0 fun x12=>zl 43 x12 fun x13=>zl 43 x10 fun x14=>zk 165 [x13,x14] fun x15=>ze 0 x15 fun x16=>ze 1 x15 fun x17=>ze 2 x15 fun _=>za [z1,z2] fun x19=>za [z1,z2] fun x20=>zs x19 x16 2<|zs x20 x17 2<|zl 43 x19 fun x23=>zf 45 0 x1 fun x24=>zl 43 x24 fun x25=>zk 20 [x23,x25] fun x26=>zb .neq 3 x26 z1 fun x27=>zC x27 ( zR x26) ( zg 651264 [x20])
def q8N:List AV->CM:=a5 fun t1 t2 t4 t6 t7=>zb .geq 3 t7 z1 fun x0=>zC x0 ( zg 655361 [t1,t2,t4,t6,t7]) ( zg 655363 [t2,t4,t6])
def z1s:List AV->CM:=a5 fun t1 t2 t4 t6 t7=>zi 212 t2 t7 fun x0=>zl 26 x0 fun x1=>zk 166 [t6,x1,t1] fun x2=>ze 0 x2 fun x3=>ze 1 x2 fun x4=>zi 212 t2 t7 fun x5=>zs x5 x3 1<|zg 655362 [t1,t2,t4,x4,t7]
def z1t:List AV->CM:=a5 fun t1 t2 t4 t6 t7=>zb .sub 3 t7 z4 fun x0=>zg 655360 [t1,t2,t4,t6,x0]
def j8e:List AV->CM:=a3 fun t2 t4 t6=>zl 212 t2 fun x0=>zs t4 x0 4<|zr [.cell 0 212,.tmp 1] [t4,t6]
def f160:List AV->CM:=a2 fun a0 a1=>zo a0 fun x0=>za [z2,z2,z2,z2] fun x1=>zg 655360 [a1,x0,x1,z2,(.int .i64 3)]
def f161:List AV->CM:=a2 fun a0 a1=>zo a0 fun x0=>zo a1 fun x1=>za [z2,z2,z2,z2] fun x2=>zl 43 x0 fun x3=>zk 167 [x3] fun x4=>ze 0 x4 fun x5=>ze 1 x4 fun x6=>zl 43 x1 fun x7=>zk 167 [x7] fun x8=>ze 0 x8 fun x9=>ze 1 x8 fun x10=>za [z2,z2,z2,z2] fun x11=>zk 168 [x6,x10] fun x12=>ze 0 x12 fun x13=>ze 1 x12 fun x14=>zi 212 x11 z4 fun x15=>zs x15 x13 1<|zi 212 x11 z1 fun x17=>zs x17 x14 1<|CM.callv (.fn (.func 169) [] [x11]) [x6,x9,z4] fun _=>CM.callv (.fn (.func 169) [] [x11]) [x5,x10,z4] fun _=>CM.callv (.fn (.func 169) [] [x11]) [x5,x9,(.int .i64 2)] fun _=>zl 212 x11 fun x22=>zs x2 x22 4<|zr [.cell 0 212] [x2]
end
end
section
open Go Go.Abs Go.Proofs.YtlginbmjiecglaaGreatDoor
set_option maxRecDepth 10000
noncomputable section
variable {H:FuncId->Option (List AV->Mem->R)}
def j0F:List AV->CM:=a2 fun t0 t3=>zb .gtr 3 t0 z1 fun x0=>zC x0 ( zg 663553 [t0,t3]) ( zg 663555 [t3])
def j8f:List AV->CM:=a2 fun t0 t3=>zb .mul 26 t3 (.int .u64 10) fun x0=>zg 663554 [t0,x0]
def j8g:List AV->CM:=a2 fun t0 t3=>zb .sub 3 t0 z4 fun x0=>zg 663552 [x0,t3]
def j8h:List AV->CM:=a1 fun t3=>zR t3
def f162:List AV->CM:=a1 fun a0=>zg 663552 [a0,(.int .u64 1)]
def j8i:List AV->CM:=a3 fun t0 t3 t4=>zi 212 t3 z4 fun x0=>zl 26 x0 fun x1=>zi 212 t3 z1 fun x2=>zl 26 x2 fun x3=>zk 170 [t0,x1,x3] fun x4=>ze 0 x4 fun x5=>ze 1 x4 fun x6=>zs t4 x5 2<|zr [.cell 0 43,.tmp 1] [t4,x6]
def f163:List AV->CM:=a2 fun a0 a1=>zo a1 fun x0=>za [z1,z2] fun x1=>zi 212 x0 (.int .i64 3) fun x2=>zl 26 x2 fun x3=>zb .neq 26 x3 z2 fun x4=>zI x4 ( zd 43 [] fun x5=>zs x1 x5 2<|zr [.cell 0 43,.tmp 1] [x1,(.int .i64 20)]) ( zi 212 x0 (.int .i64 2) fun x7=>zl 26 x7 fun x8=>zb .neq 26 x8 z2 fun x9=>zC x9 ( zd 43 [] fun x10=>zs x1 x10 2<|zr [.cell 0 43,.tmp 1] [x1,(.int .i64 20)]) ( zg 667648 [a0,x0,x1]))
def j8j:List AV->CM:=a2 fun t0 t2=>zd 43 [(1,(.int .u64 1))] fun x0=>za [z1,z2] fun x1=>zs x1 x0 2<|zg 671745 [t0,t2,x1]
def j0L:List AV->CM:=a3 fun t0 t2 t4=>zb .gtr 3 t0 z1 fun x0=>zC x0 ( zg 671746 [t0,t2,t4]) ( zg 671748 [t2,t4])
def j8k:List AV->CM:=a3 fun t0 t2 t4=>zl 43 t4 fun x0=>zd 43 [(1,(.int .u64 10))] fun x1=>zk 149 [x0,x1] fun x2=>ze 0 x2 fun x3=>ze 1 x2 fun _=>zs t4 x3 2<|zg 671747 [t0,t2,t4]
def j8l:List AV->CM:=a3 fun t0 t2 t4=>zb .sub 3 t0 z4 fun x0=>zg 671745 [x0,t2,t4]
def j8m:List AV->CM:=a2 fun t2 t4=>zl 43 t4 fun x0=>zs t2 x0 2<|zr [.cell 0 43,.tmp 1] [t2,z1]
def f164:List AV->CM:=a1 fun a0=>za [z1,z2] fun x0=>zb .lss 3 a0 z1 fun x1=>zI x1 ( zd 43 [] fun x2=>zs x0 x2 2<|zr [.cell 0 43,.tmp 1] [x0,z4]) ( zb .gtr 3 a0 (.int .i64 38) fun x4=>zC x4 ( zd 43 [] fun x5=>zs x0 x5 2<|zr [.cell 0 43,.tmp 1] [x0,z4]) ( zg 671744 [a0,x0]))
def j8n:List AV->CM:=a4 fun t2 t3 t4 t5=>zl 43 t2 fun x0=>zk 167 [x0] fun x1=>ze 0 x1 fun x2=>ze 1 x1 fun x3=>zl 43 t3 fun x4=>zk 167 [x4] fun x5=>ze 0 x5 fun x6=>ze 1 x5 fun x7=>zb .eql 26 x6 z2 fun x8=>zC x8 ( zb .quo 26 x2 x7 fun x9=>zb .rem 26 x2 x7 fun x10=>zk 166 [x10,x3,x7] fun x11=>ze 0 x11 fun x12=>ze 1 x11 fun x13=>zg 675844 [t2,t3,t4,t5,x9,x12,z2,x13]) ( zk 171 [x6] fun x14=>zg 675841 [t2,t3,t4,t5,x6,x7,z2,z2,x2,x3,x14])
def j8o:List AV->CM:=a8 fun t2 t3 t4 t5 t11 t12 t13 t14=>zf 43 0 t2 fun x0=>zl 2 x0 fun x1=>zb .lss 2 x1 z1 fun x2=>zf 43 0 t3 fun x3=>zl 2 x3 fun x4=>zb .lss 2 x4 z1 fun x5=>zb .neq 4 x2 x5 fun x6=>zk 170 [x6,t11,t12] fun x7=>ze 0 x7 fun x8=>ze 1 x7 fun x9=>zs t4 x8 2<|zb .neq 35 x9 z1 fun x11=>zC x11 ( zd 43 [] fun x12=>zd 43 [] fun x13=>zs t4 x12 2<|zs t5 x13 2<|zr [.cell 0 43,.cell 1 43,.tmp 2] [t4,t5,x9]) ( zg 675845 [t2,t4,t5,t13,t14])
def j8p:List AV->CM:=a5 fun t2 t4 t5 t13 t14=>zf 43 0 t2 fun x0=>zl 2 x0 fun x1=>zb .lss 2 x1 z1 fun x2=>zk 170 [x2,t13,t14] fun x3=>ze 0 x3 fun x4=>ze 1 x3 fun _=>zs t5 x4 2<|zl 43 t4 fun x7=>zl 43 t5 fun x8=>zs t4 x7 2<|zm fun m11=>zx 43 t5 m11 x8<|zs t5 x8 2<|zr [.cell 0 43,.cell 1 43,.tmp 2] [t4,t5,z1]
def f165:List AV->CM:=a2 fun a0 a1=>zo a0 fun x0=>zo a1 fun x1=>za [z1,z2] fun x2=>za [z1,z2] fun x3=>zl 43 x1 fun x4=>zd 43 [] fun x5=>zb .eql 43 x4 x5 fun x6=>zC x6 ( zl 43 x2 fun x7=>zl 43 x3 fun x8=>zs x2 x7 2<|zm fun m11=>zx 43 x3 m11 x8<|zs x3 x8 2<|zr [.cell 0 43,.cell 1 43,.tmp 2] [x2,x3,(.int .i64 22)]) ( zg 675840 [x0,x1,x2,x3])
def j8q:List AV->CM:=a3 fun t0 t1 t2=>zb .leq 26 t2 t0 fun x0=>zC x0 ( zl 226 (.ptr (some ⟨3,0⟩)) fun _=>CM.fail) ( zg 679937 [t0,t1,t2])
def j0T:List AV->CM:=a3 fun t0 t1 t2=>zb .eql 26 t0 z2 fun x0=>zC x0 ( zb .quo 26 t1 t2 fun x1=>zb .rem 26 t1 t2 fun x2=>zR (.tup [x1,x2])) ( zg 679938 [t0,t1,t2])
def j8r:List AV->CM:=a3 fun t0 t1 t2=>zk 171 [t2] fun x0=>zc 3 172 x0 fun x1=>zb .shl 26 t2 x1 fun x2=>zb .shr 26 x2 (.int .u64 32) fun x3=>zb .and 26 x2 (.int .u64 4294967295) fun x4=>zb .shl 26 t0 x1 fun x5=>zb .sub 172 (.int .u64 64) x1 fun x6=>zb .shr 26 t1 x6 fun x7=>zb .or 26 x5 x7 fun x8=>zb .shl 26 t1 x1 fun x9=>zb .shr 26 x9 (.int .u64 32) fun x10=>zb .and 26 x9 (.int .u64 4294967295) fun x11=>zb .quo 26 x8 x3 fun x12=>zb .mul 26 x12 x3 fun x13=>zb .sub 26 x8 x13 fun x14=>zg 679939 [x2,x1,x3,x4,x8,x10,x11,x12,x14]
def z4K:List AV->CM:=a9 fun t2 t8 t9 t10 t11 t13 t14 t15 t16=>zb .geq 26 t15 (.int .u64 4294967296) fun x0=>zI x0 ( zg 679940 [t2,t8,t9,t10,t11,t13,t14,t15,t16]) ( zb .mul 26 t15 t10 fun x1=>zb .mul 26 (.int .u64 4294967296) t16 fun x2=>zb .add 26 x2 t13 fun x3=>zb .gtr 26 x1 x3 fun x4=>zC x4 ( zg 679940 [t2,t8,t9,t10,t11,t13,t14,t15,t16]) ( zg 679941 [t2,t8,t9,t10,t11,t13,t14,t15]))
def j0V:List AV->CM:=a9 fun t2 t8 t9 t10 t11 t13 t14 t15 t16=>zb .sub 26 t15 (.int .u64 1) fun x0=>zb .add 26 t16 t9 fun x1=>zb .geq 26 x1 (.int .u64 4294967296) fun x2=>zC x2 ( zg 679941 [t2,t8,t9,t10,t11,t13,t14,x0]) ( zg 679939 [t2,t8,t9,t10,t11,t13,t14,x0,x1])
def j8s:List AV->CM:=a8 fun t2 t8 t9 t10 t11 t13 t14 t15=>zb .mul 26 t11 (.int .u64 4294967296) fun x0=>zb .add 26 x0 t13 fun x1=>zb .mul 26 t15 t2 fun x2=>zb .sub 26 x1 x2 fun x3=>zb .quo 26 x3 t9 fun x4=>zb .mul 26 x4 t9 fun x5=>zb .sub 26 x3 x5 fun x6=>zg 679942 [t2,t8,t9,t10,t14,t15,x6,x3,x4]
def z4L:List AV->CM:=a9 fun t2 t8 t9 t10 t14 t15 t16 t17 t18=>zb .geq 26 t18 (.int .u64 4294967296) fun x0=>zI x0 ( zg 679943 [t2,t8,t9,t10,t14,t15,t16,t17,t18]) ( zb .mul 26 t18 t10 fun x1=>zb .mul 26 (.int .u64 4294967296) t16 fun x2=>zb .add 26 x2 t14 fun x3=>zb .gtr 26 x1 x3 fun x4=>zC x4 ( zg 679943 [t2,t8,t9,t10,t14,t15,t16,t17,t18]) ( zg 679944 [t2,t8,t14,t15,t17,t18]))
def j0X:List AV->CM:=a9 fun t2 t8 t9 t10 t14 t15 t16 t17 t18=>zb .sub 26 t18 (.int .u64 1) fun x0=>zb .add 26 t16 t9 fun x1=>zb .geq 26 x1 (.int .u64 4294967296) fun x2=>zC x2 ( zg 679944 [t2,t8,t14,t15,t17,x0]) ( zg 679942 [t2,t8,t9,t10,t14,t15,x1,t17,x0])
def j8t:List AV->CM:=a6 fun t2 t8 t14 t15 t17 t18=>zb .mul 26 t15 (.int .u64 4294967296) fun x0=>zb .add 26 x0 t18 fun x1=>zb .mul 26 t17 (.int .u64 4294967296) fun x2=>zb .add 26 x2 t14 fun x3=>zb .mul 26 t18 t2 fun x4=>zb .sub 26 x3 x4 fun x5=>zb .shr 26 x5 t8 fun x6=>zR (.tup [x1,x6])
def f166:List AV->CM:=a3 fun a0 a1 a2=>zb .eql 26 a2 z2 fun x0=>zC x0 ( zl 226 (.ptr (some ⟨2,0⟩)) fun _=>CM.fail) ( zg 679936 [a0,a1,a2])
def j8u:List AV->CM:=a1 fun t1=>zf 43 1 t1 fun x0=>zl 26 x0 fun x1=>zk 60 [z2,x1,z2] fun x2=>ze 0 x2 fun x3=>ze 1 x2 fun x4=>zf 43 0 t1 fun x5=>zl 2 x5 fun x6=>zc 2 26 x6 fun x7=>zk 60 [z2,x7,x4] fun x8=>ze 0 x8 fun x9=>ze 1 x8 fun _=>zR (.tup [x9,x3])
def f167:List AV->CM:=a1 fun a0=>zo a0 fun x0=>zf 43 0 x0 fun x1=>zl 2 x1 fun x2=>zb .geq 2 x2 z1 fun x3=>zC x3 ( zf 43 0 x0 fun x4=>zl 2 x4 fun x5=>zc 2 26 x5 fun x6=>zf 43 1 x0 fun x7=>zl 26 x7 fun x8=>zR (.tup [x6,x8])) ( zg 684032 [x0])
def f168:List AV->CM:=a2 fun a0 a1=>zb .and 26 a0 (.int .u64 4294967295) fun x0=>zb .shr 26 a0 (.int .u64 32) fun x1=>zb .and 26 a1 (.int .u64 4294967295) fun x2=>zb .shr 26 a1 (.int .u64 32) fun x3=>zb .mul 26 x0 x2 fun x4=>zb .mul 26 x1 x2 fun x5=>zb .shr 26 x4 (.int .u64 32) fun x6=>zb .add 26 x5 x6 fun x7=>zb .and 26 x7 (.int .u64 4294967295) fun x8=>zb .shr 26 x7 (.int .u64 32) fun x9=>zb .mul 26 x0 x3 fun x10=>zb .add 26 x8 x10 fun x11=>zb .mul 26 x1 x3 fun x12=>zb .add 26 x12 x9 fun x13=>zb .shr 26 x11 (.int .u64 32) fun x14=>zb .add 26 x13 x14 fun x15=>zb .mul 26 a0 a1 fun x16=>zR (.tup [x15,x16])
def f169:List AV->CM:=a4 fun a0 a1 a2 a3=>zk 168 [a0,a1] fun x0=>ze 0 x0 fun x1=>ze 1 x0 fun x2=>zi 212 a3 a2 fun x3=>zl 26 x3 fun x4=>zk 59 [x4,x2,z2] fun x5=>ze 0 x5 fun x6=>ze 1 x5 fun x7=>zi 212 a3 a2 fun x8=>zs x8 x6 1<|zb .add 3 a2 z4 fun x10=>zb .add 3 a2 z4 fun x11=>zi 212 a3 x11 fun x12=>zl 26 x12 fun x13=>zk 59 [x13,x1,x7] fun x14=>ze 0 x14 fun x15=>ze 1 x14 fun x16=>zi 212 a3 x10 fun x17=>zs x17 x15 1<|zb .add 3 a2 (.int .i64 2) fun x19=>zb .lss 3 x19 (.int .i64 4) fun x20=>zC x20 ( zb .add 3 a2 (.int .i64 2) fun x21=>zi 212 a3 x21 fun x22=>zl 26 x22 fun x23=>zb .add 26 x23 x16 fun x24=>zi 212 a3 x21 fun x25=>zs x25 x24 1<|zR .undef) ( zR .undef)
def j8v:List AV->CM:=a3 fun t1 t2 t6=>zc 26 2 t1 fun x0=>zd 43 [(0,x0),(1,t2)] fun x1=>zs t6 x1 2<|zr [.cell 0 43,.tmp 1] [t6,z1]
def j8w:List AV->CM:=a3 fun t1 t2 t6=>zb .gtr 26 t1 (.int .u64 9223372036854775808) fun x0=>zI x0 ( zd 43 [] fun x1=>zs t6 x1 2<|zr [.cell 0 43,.tmp 1] [t6,(.int .i64 20)]) ( zb .eql 26 t1 (.int .u64 9223372036854775808) fun x3=>zI x3 ( zb .gtr 26 t2 z2 fun x4=>zC x4 ( zd 43 [] fun x5=>zs t6 x5 2<|zr [.cell 0 43,.tmp 1] [t6,(.int .i64 20)]) ( zg 696322 [t1,t2,t6])) ( zg 696322 [t1,t2,t6]))
def j8x:List AV->CM:=a3 fun t1 t2 t6=>zk 60 [z2,t2,z2] fun x0=>ze 0 x0 fun x1=>ze 1 x0 fun x2=>zk 60 [z2,t1,x2] fun x3=>ze 0 x3 fun x4=>ze 1 x3 fun _=>zc 26 2 x4 fun x6=>zd 43 [(0,x6),(1,x1)] fun x7=>zs t6 x7 2<|zr [.cell 0 43,.tmp 1] [t6,z1]
def f170:List AV->CM:=a3 fun a0 a1 a2=>za [z1,z2] fun x0=>zu a0 fun x1=>zC x1 ( zb .geq 26 a1 (.int .u64 9223372036854775808) fun x2=>zC x2 ( zd 43 [] fun x3=>zs x0 x3 2<|zr [.cell 0 43,.tmp 1] [x0,(.int .i64 20)]) ( zg 696320 [a1,a2,x0])) ( zg 696321 [a1,a2,x0])
def f171:List AV->CM:=a1 fun a0=>zk 172 [a0] fun x0=>zb .sub 3 (.int .i64 64) x0 fun x1=>zR x1
def j03:List AV->CM:=a2 fun t0 t2=>zb .geq 26 t0 (.int .u64 65536) fun x0=>zC x0 ( zb .shr 26 t0 (.int .u64 16) fun x1=>zb .add 3 t2 (.int .i64 16) fun x2=>zg 704513 [x1,x2]) ( zg 704513 [t0,t2])
def j04:List AV->CM:=a2 fun t0 t2=>zb .geq 26 t0 (.int .u64 256) fun x0=>zC x0 ( zb .shr 26 t0 (.int .u64 8) fun x1=>zb .add 3 t2 (.int .i64 8) fun x2=>zg 704514 [x1,x2]) ( zg 704514 [t0,t2])
def j8y:List AV->CM:=a2 fun t0 t2=>zc 26 5 t0 fun x0=>CM.pu (p2 (q4U Tryz.prog 9) (.str [0,1,2,2,3,3,3,3,4,4,4,4,4,4,4,4,5,5,5,5,5,5,5,5,5,5,5,5,5,5,5,5,6,6,6,6,6,6,6,6,6,6,6,6,6,6,6,6,6,6,6,6,6,6,6,6,6,6,6,6,6,6,6,6,7,7,7,7,7,7,7,7,7,7,7,7,7,7,7,7,7,7,7,7,7,7,7,7,7,7,7,7,7,7,7,7,7,7,7,7,7,7,7,7,7,7,7,7,7,7,7,7,7,7,7,7,7,7,7,7,7,7,7,7,7,7,7,7,8,8,8,8,8,8,8,8,8,8,8,8,8,8,8,8,8,8,8,8,8,8,8,8,8,8,8,8,8,8,8,8,8,8,8,8,8,8,8,8,8,8,8,8,8,8,8,8,8,8,8,8,8,8,8,8,8,8,8,8,8,8,8,8,8,8,8,8,8,8,8,8,8,8,8,8,8,8,8,8,8,8,8,8,8,8,8,8,8,8,8,8,8,8,8,8,8,8,8,8,8,8,8,8,8,8,8,8,8,8,8,8,8,8,8,8,8,8,8,8,8,8,8,8,8,8,8,8]) x0) fun x1=>zc 5 3 x1 fun x2=>zb .add 3 t2 x2 fun x3=>zR x3
def f172:List AV->CM:=a1 fun a0=>zb .geq 26 a0 (.int .u64 4294967296) fun x0=>zC x0 ( zb .shr 26 a0 (.int .u64 32) fun x1=>zg 704512 [x1,(.int .i64 32)]) ( zg 704512 [a0,z1])
end
end
noncomputable section
open Go Go.Abs Go.Proofs.YtlginbmjiecglaaGreatDoor
set_option maxRecDepth 10000
def tFn:BT (List AV->CM):=(.node 57 f57
(.node 42 f42
(.node 22 f22
(.node 18 f18
(.node 13 f13
.leaf .leaf) (.node 21 f21
.leaf .leaf)) (.node 39 f39
(.node 38 f38
.leaf .leaf) (.node 41 f41
.leaf .leaf))) (.node 46 f46
(.node 44 f44
(.node 43 f43
.leaf .leaf) (.node 45 f45
.leaf .leaf)) (.node 54 f54
(.node 53 f53
.leaf .leaf) (.node 55 f55
.leaf .leaf)))) (.node 90 f90
(.node 81 f81
(.node 79 f79
(.node 58 f58
.leaf .leaf) (.node 80 f80
.leaf .leaf)) (.node 86 f86
(.node 82 f82
.leaf .leaf) (.node 89 f89
.leaf .leaf))) (.node 119 f119
(.node 108 f108
(.node 93 f93
.leaf .leaf) (.node 118 f118
.leaf .leaf)) (.node 127 f127
(.node 126 f126
.leaf .leaf) (.node 139 f139
.leaf (.node 143 f143
.leaf .leaf))))))
def tGo:BT (List AV->CM):=(.node 188418 a0L
(.node 176128 a0H
(.node 155648 a0E
(.node 86016 a0u
(.node 53248 a6F
.leaf .leaf) (.node 90112 a0v
.leaf .leaf)) (.node 167936 j4A
(.node 159744 j4z
.leaf .leaf) (.node 172032 a0G
.leaf .leaf))) (.node 180226 z3e
(.node 180224 z3c
(.node 176129 a0I
.leaf .leaf) (.node 180225 z3d
.leaf .leaf)) (.node 188416 j4F
(.node 184320 a0J
.leaf .leaf) (.node 188417 a0K
.leaf .leaf)))) (.node 335872 j5d
(.node 233472 j1i
(.node 217088 a0T
(.node 188419 a0M
.leaf .leaf) (.node 225280 a0U
.leaf .leaf)) (.node 327680 a1a
(.node 323584 a09
.leaf .leaf) (.node 331776 a1b
.leaf .leaf))) (.node 352257 a1d
(.node 335874 j5f
(.node 335873 a1c
.leaf .leaf) (.node 352256 j5s
.leaf .leaf)) (.node 364544 a1e
(.node 352258 j5u
.leaf .leaf) (.node 380928 j5I
.leaf (.node 442368 z9G
.leaf .leaf))))))
def tAf:BT ((List AV->CM)×(List AV->CM)×List (Nat×(List AV->CM))):=.leaf
def T:Tb:=⟨tFn,tGo,tAf⟩
theorem b1P {H:FuncId->Option (List AV->Mem->R)} (h:∀f,(tFn.find f).isSome=true->H f=none):T.Ok (EH H) Mk Nk:=⟨⟨(j7k (h 57 rfl)).le,
⟨(j7a (h 42 rfl)).le,
⟨(j62 (h 22 rfl)).le,
⟨(a4N (h 18 rfl)).le,
⟨(a4K (h 13 rfl)).le,
 trivial,trivial⟩,⟨(j61 (h 21 rfl)).le,
 trivial,trivial⟩⟩,⟨(j67 (h 39 rfl)).le,
⟨(j66 (h 38 rfl)).le,
 trivial,trivial⟩,⟨(j68 (h 41 rfl)).le,
 trivial,trivial⟩⟩⟩,⟨(j7f (h 46 rfl)).le,
⟨(j7c (h 44 rfl)).le,
⟨(j7b (h 43 rfl)).le,
 trivial,trivial⟩,⟨(j7e (h 45 rfl)).le,
 trivial,trivial⟩⟩,⟨(j7i (h 54 rfl)).le,
⟨(j7h (h 53 rfl)).le,
 trivial,trivial⟩,⟨(j7j (h 55 rfl)).le,
 trivial,trivial⟩⟩⟩⟩,⟨(j7x (h 90 rfl)).le,
⟨(j7s (h 81 rfl)).le,
⟨(j7q (h 79 rfl)).le,
⟨(j7l (h 58 rfl)).le,
 trivial,trivial⟩,⟨(j7r (h 80 rfl)).le,
 trivial,trivial⟩⟩,⟨(j7u (h 86 rfl)).le,
⟨(j7t (h 82 rfl)).le,
 trivial,trivial⟩,⟨(j7w (h 89 rfl)).le,
 trivial,trivial⟩⟩⟩,⟨(z9h (h 119 rfl)).le,
⟨(z9c (h 108 rfl)).le,
⟨(j7y (h 93 rfl)).le,
 trivial,trivial⟩,⟨(z9g (h 118 rfl)).le,
 trivial,trivial⟩⟩,⟨(z9j (h 127 rfl)).le,
⟨(z9i (h 126 rfl)).le,
 trivial,trivial⟩,⟨(z9o (h 139 rfl)).le,
 trivial,⟨(z9p (h 143 rfl)).le,
 trivial,trivial⟩⟩⟩⟩⟩⟩,
⟨z5n.le,
⟨z5e.le,
⟨z4X.le,
⟨z4N.le,
⟨j3I.le,
 trivial,trivial⟩,⟨z4O.le,
 trivial,trivial⟩⟩,⟨z5c.le,
⟨z4Z.le,
 trivial,trivial⟩,⟨z5d.le,
 trivial,trivial⟩⟩⟩,⟨z5i.le,
⟨z5g.le,
⟨z5f.le,
 trivial,trivial⟩,⟨z5h.le,
 trivial,trivial⟩⟩,⟨z5l.le,
⟨z5j.le,
 trivial,trivial⟩,⟨z5m.le,
 trivial,trivial⟩⟩⟩⟩,⟨z5M.le,
⟨z5x.le,
⟨z5v.le,
⟨z5o.le,
 trivial,trivial⟩,⟨z5w.le,
 trivial,trivial⟩⟩,⟨z5J.le,
⟨z5I.le,
 trivial,trivial⟩,⟨z5K.le,
 trivial,trivial⟩⟩⟩,⟨z5S.le,
⟨z5P.le,
⟨z5N.le,
 trivial,trivial⟩,⟨z5R.le,
 trivial,trivial⟩⟩,⟨z5V.le,
⟨z5U.le,
 trivial,trivial⟩,⟨z5Y.le,
 trivial,⟨z02.le,
 trivial,trivial⟩⟩⟩⟩⟩⟩,
 trivial⟩
end
end Go.Proofs.YtlginbmjiecglaaGreatDoor.T
namespace Go.Abs
section
open Go
def q7x (v:AV) (args:List AV) (m:Mem):R:=
 match args with
 |[]=>some (v,m)
 | _::_=>none
theorem z8M {E : Env} (hE : q1u E) {f : FuncId} {fn : Func} (hfn : E.P.funcs[f]? = some fn) (hb : fn.body.isSome = true) (hn : fn.name ≠ "runtime.NumGoroutine") {b : Bool} {m1 : Mem}
  (h:run E (.fn f) [] (noM (GP E.P))=some (.bool b,m1)):∀args m r m',q7x (.bool b) args m=some (r,m')->z8t E.P (.fn f) args m r m':=by
 intro args m r m' e;cases args with
 |cons _ _=>cases e
 |nil=>
  simp only[q7x,xoi,Prod.mk.injEq]at e;obtain⟨rfl,rfl⟩:=e;refine⟨xnr _,fun p w cargs hm _ _ hv=>.inl ⟨fn,hfn,hb,hn,?_⟩⟩
  have hc:cargs=[]:=by cases cargs with|nil=>rfl|cons _ _=>simp[VRs]at hv
  subst hc;have hG:GP E.P<=w.heap.size:=by
   cases hz:GP E.P with
   |zero=>exact Nat.zero_le _
   |succ n=>
    obtain⟨k,hk⟩:=hm.q21 n (by show n<GP E.P;omega);exact hm.bnd n _ hk
  have hfree:q55 (j15 (GP E.P)) (noM (GP E.P)).next m1.next:=by
   intro x h1 h2;simp only[noM]at h1;simp only[j15];rw[if_neg (by omega)]
  refine(q4s (q2A hE (.fn f) _ _ _ _ h) hfn hb hn (a99 hG) (by simp[noM]) hfree (cargs:=[]) (by simp[VRs])).mono ?_;rintro e w' ⟨cv,p',rfl,h1,h2⟩
  have keep:∀k,k<w.heap.size->w'.heap[k]? = w.heap[k]?:=fun k hk=>h2.q3f k hk fun b ci h3=>by rw[z3B]at h3;cases h3
  simp only[VR]at h1;refine⟨cv,p,rfl,by simp only[VR];exact h1,?_⟩;exact {
   le:=fun _ _ h=>h
   out:=fun _ _=>rfl
   next:=xnr _
   rel:={
    has:=fun b v ci h3 h4=>by rw[keep _ (hm.bnd b ci h4)];exact hm.has b v ci h3 h4
    inj:=hm.inj
    bnd:=fun b ci h4=>Nat.lt_of_lt_of_le (hm.bnd b ci h4) h2.size
    q21:=hm.q21}
   q39:=fun _ _ _=>rfl
   dead:=fun _ _ h=>h
   q3f:=fun c hc _=>keep c hc
   fresh:=fun b ci h3 h4=>absurd h4 (by omega)
   ro:=fun b cs ci h3 h4=>⟨h3,keep _ (hm.bnd b ci h4)⟩
   size:=h2.size
   os:=h2.os
   output:=h2.output
   tape:=h2.tape}
end
end Go.Abs
namespace Go.Proofs.YtlginbmjiecglaaGreatDoor
section
open Go Go.Abs
set_option maxRecDepth 4000
theorem j1H:((XD E T.T 4000).call (.fn 13) [] (noM (GP Tryz.prog))).map (·.1)=some (.bool true):=by kernel_rfl
theorem z7r (f:Nat) (hf:(T.tFn.find f).isSome=true):H f=none:=by
 unfold H;split<;>first|rfl|exact absurd (hf.symm.trans (show _=false by kernel_rfl)) (by simp)
theorem z7s:∃m',run E (.fn 13) [] (noM (GP Tryz.prog))=some (.bool true,m'):=by
 have h:=j1H;cases e:(XD E T.T 4000).call (.fn 13) [] (noM (GP Tryz.prog)) with
 |none=>rw[e]at h;cases h
 |some r=>
  rw[e]at h;obtain⟨v,m'⟩:=r;simp only[xom,xoi]at h;subst h;exact⟨m',j6B (E:=E) (T.b1P (H:=H) z7r) 4000 e⟩
noncomputable def H2 (f:FuncId):Option (List AV->Mem->R):=
 match f with
 | 59=>some q4O
 | 60=>some q8h
 | 120=>some q0R
 | 122=>some q0R
 | 124=>some q0R
 | 128=>some q0R
 | 130=>some q0R
 | 83=>some (q8p Tryz.prog 140)
 | 84=>some (q8p Tryz.prog 23)
 | 85=>some (q8p Tryz.prog 24)
 | 87=>some (q8p Tryz.prog 149)
 | 88=>some (q8p Tryz.prog 25)
 | 13=>some (q7x (.bool true))
 | _=>none
noncomputable abbrev E2:Env:=T.EH H2
theorem b0A:q1u E2:=q9r (by kernel_rfl) 196 (fun f h=>by
  unfold hints;rw[List.getElem?_eq_none (by show 196<=f;exact h)];rfl) (fun f h=>List.all_eq_true.1 looks f (List.mem_range.2 h)) (fun f h e=>by
  unfold H2 at e;split at e
  ·have e1:=xsj e;subst e1;exact q9a (P:=Tryz.prog) (fn:=Tryz.f59) Tryz.func59 (by kernel_rfl) (by kernel_rfl) (by kernel_rfl) (by kernel_rfl)
  ·have e1:=xsj e;subst e1;exact z0u (P:=Tryz.prog) (fn:=Tryz.f60) Tryz.func60 (by kernel_rfl) (by kernel_rfl) (by kernel_rfl) (by kernel_rfl)
  ·have e1:=xsj e;subst e1;exact q02 (P:=Tryz.prog) (fn:=Tryz.f120) (st:=140) (tr:=4) (e:=9) (sz:=1) Tryz.func120 (by kernel_rfl) (by kernel_rfl) (by kernel_rfl) (by kernel_rfl) (by kernel_rfl) (by kernel_rfl)
  ·have e1:=xsj e;subst e1;exact q02 (P:=Tryz.prog) (fn:=Tryz.f122) (st:=23) (tr:=4) (e:=56) (sz:=4) Tryz.func122 (by kernel_rfl) (by kernel_rfl) (by kernel_rfl) (by kernel_rfl) (by kernel_rfl) (by kernel_rfl)
  ·have e1:=xsj e;subst e1;exact q02 (P:=Tryz.prog) (fn:=Tryz.f124) (st:=24) (tr:=4) (e:=74) (sz:=9) Tryz.func124 (by kernel_rfl) (by kernel_rfl) (by kernel_rfl) (by kernel_rfl) (by kernel_rfl) (by kernel_rfl)
  ·have e1:=xsj e;subst e1;exact q02 (P:=Tryz.prog) (fn:=Tryz.f128) (st:=149) (tr:=4) (e:=26) (sz:=1) Tryz.func128 (by kernel_rfl) (by kernel_rfl) (by kernel_rfl) (by kernel_rfl) (by kernel_rfl) (by kernel_rfl)
  ·have e1:=xsj e;subst e1;exact q02 (P:=Tryz.prog) (fn:=Tryz.f130) (st:=25) (tr:=4) (e:=54) (sz:=4) Tryz.func130 (by kernel_rfl) (by kernel_rfl) (by kernel_rfl) (by kernel_rfl) (by kernel_rfl) (by kernel_rfl)
  ·have e1:=xsj e;subst e1;exact q1S (E:=E0) q8q (st:=140) (e:=9) (by kernel_rfl) (by kernel_rfl) (by kernel_rfl) (by kernel_rfl) ⟨Tryz.f83,Tryz.func83,by kernel_rfl,by decide +kernel⟩ a9X
  ·have e1:=xsj e;subst e1;exact q1S (E:=E0) q8q (st:=23) (e:=56) (by kernel_rfl) (by kernel_rfl) (by kernel_rfl) (by kernel_rfl) ⟨Tryz.f84,Tryz.func84,by kernel_rfl,by decide +kernel⟩ a9Y
  ·have e1:=xsj e;subst e1;exact q1S (E:=E0) q8q (st:=24) (e:=74) (by kernel_rfl) (by kernel_rfl) (by kernel_rfl) (by kernel_rfl) ⟨Tryz.f85,Tryz.func85,by kernel_rfl,by decide +kernel⟩ a9Z
  ·have e1:=xsj e;subst e1;exact q1S (E:=E0) q8q (st:=149) (e:=26) (by kernel_rfl) (by kernel_rfl) (by kernel_rfl) (by kernel_rfl) ⟨Tryz.f87,Tryz.func87,by kernel_rfl,by decide +kernel⟩ a90
  ·have e1:=xsj e;subst e1;exact q1S (E:=E0) q8q (st:=25) (e:=54) (by kernel_rfl) (by kernel_rfl) (by kernel_rfl) (by kernel_rfl) ⟨Tryz.f88,Tryz.func88,by kernel_rfl,by decide +kernel⟩ a92
  ·have e1:=xsj e;subst e1;obtain⟨m1,h1⟩:=z7s;exact z8M b1O Tryz.func13 (by kernel_rfl) (by decide +kernel) h1
  ·cases e)
noncomputable abbrev D2:Do:=T.Rl H2
end
end Go.Proofs.YtlginbmjiecglaaGreatDoor
