/- Texts of one claim, put together. -/
import Derived.Test.YtlginbmjiecglaaGreatDoorK0
import Derived.Test.YtlginbmjiecglaaGreatDoorK10
import Derived.Test.YtlginbmjiecglaaGreatDoorK11
import Derived.Test.YtlginbmjiecglaaGreatDoorK12
import Derived.Test.YtlginbmjiecglaaGreatDoorK13
import Derived.Test.YtlginbmjiecglaaGreatDoorK14
import Derived.Test.YtlginbmjiecglaaGreatDoorK15
import Derived.Test.YtlginbmjiecglaaGreatDoorK16
import Derived.KernelRfl
namespace Go.Proofs.YtlginbmjiecglaaGreatDoor.T
section
open Go Go.Abs Go.Proofs.YtlginbmjiecglaaGreatDoor
set_option maxRecDepth 10000
noncomputable section
variable {H:FuncId→Option (List AV→Mem→R)}
def f138:List AV→CM:=a2 fun a0 a1=>
 zo a0 fun x0=>
 zo a1 fun x1=>
 za [(.bool false),(.int .u64 0),(.int .u64 0),(.int .u64 0),(.int .u64 0),(.int .u64 0),(.int .u64 0),(.int .u64 0),(.int .u64 0),(.int .u64 0),(.int .u64 0),(.int .u64 0),(.int .u64 0),(.int .u64 0),(.int .u64 0),(.int .u64 0),(.int .u64 0)] fun x2=>
 zf 123 1 x0 fun x3=>
 zl 121 x3 fun x4=>
 zf 123 1 x1 fun x5=>
 zl 121 x5 fun x6=>
 zk 153 [x4,x6] fun x7=>
 za [(.int .u64 0),(.int .u64 0),(.int .u64 0),(.int .u64 0),(.int .u64 0),(.int .u64 0),(.int .u64 0),(.int .u64 0),(.int .u64 0),(.int .u64 0),(.int .u64 0),(.int .u64 0),(.int .u64 0),(.int .u64 0),(.int .u64 0),(.int .u64 0)] fun x8=>
 zs x8 x7 16<|
 zf 123 0 x0 fun x10=>
 zl 4 x10 fun x11=>
 zf 123 0 x1 fun x12=>
 zl 4 x12 fun x13=>
 zb .neq 4 x11 x13 fun x14=>
 zI x14 (
 zl 121 x8 fun x15=>
 zm fun m16=>
 zk 70 [x15] fun x17=>
 zu x17 fun x19=>
 zl 121 x8 fun x20=>
 zx 121 x8 m16 x20<|
 zd 123 [(0,x19),(1,x20)] fun x21=>
 zs x2 x21 17<|
 zr [.cell 0 123] [x2]) (
 zl 121 x8 fun x25=>
 zd 123 [(0,(.bool false)),(1,x25)] fun x26=>
 zs x2 x26 17<|
 zr [.cell 0 123] [x2])
theorem f138_ok (h:H 138=none):OkF H f138 138:=e2 h rfl fun _ _ _=>by kernel_rfl
def f139:List AV→CM:=a1 fun a0=>
 zb .neq 9 a0 a0 fun x0=>
 zR x0
theorem f139_ok (h:H 139=none):OkF H f139 139:=e1 h rfl fun _ _=>by kernel_rfl
def f143:List AV→CM:=a1 fun a0=>
 zb .neq 26 a0 a0 fun x0=>
 zR x0
theorem f143_ok (h:H 143=none):OkF H f143 143:=e1 h rfl fun _ _=>by kernel_rfl
def f146:List AV→CM:=a1 fun a0=>
 zb .geq 3 a0 (.int .i64 0) fun x0=>
 zI x0 (
 zb .leq 3 a0 (.int .i64 18) fun x1=>
 zR x1) (
 zR (.bool false))
theorem f146_ok (h:H 146=none):OkF H f146 146:=e1 h rfl fun _ _=>by kernel_rfl
def g147_0:List AV→CM:=a2 fun t2 t3=>
 zf 45 1 t2 fun x0=>
 zl 3 x0 fun x1=>
 zf 45 1 t3 fun x2=>
 zl 3 x2 fun x3=>
 zb .lss 3 x1 x3 fun x4=>
 zC x4 (
 zl 45 t3 fun x5=>
 zl 45 t2 fun x6=>
 zk 159 [x5,x6] fun x7=>
 CM.pu (p1 (unA .neg) x7) fun x8=>
 zR (.tup [x8,(.int .i64 0)])) (
 zg 602113 [t2,t3])
theorem g147_0_ok:OkG H g147_0 602112:=c2 fun _ _ _=>by kernel_rfl
def g147_1:List AV→CM:=a2 fun t2 t3=>
 zl 45 t2 fun x0=>
 zl 45 t3 fun x1=>
 zk 159 [x0,x1] fun x2=>
 zR (.tup [x2,(.int .i64 0)])
theorem g147_1_ok:OkG H g147_1 602113:=c2 fun _ _ _=>by kernel_rfl
def f147:List AV→CM:=a2 fun a0 a1=>
 zo a0 fun x0=>
 zo a1 fun x1=>
 zl 45 x0 fun x2=>
 zk 132 [x2] fun x3=>
 zu x3 fun x4=>
 zI x4 (
 zR (.tup [(.int .i64 0),(.int .i64 21)])) (
 zl 45 x1 fun x5=>
 zk 132 [x5] fun x6=>
 zu x6 fun x7=>
 zC x7 (
 zR (.tup [(.int .i64 0),(.int .i64 21)])) (
 zg 602112 [x0,x1]))
theorem f147_ok (h:H 147=none):OkF H f147 147:=e2 h rfl fun _ _ _=>by kernel_rfl
def f149:List AV→CM:=a2 fun a0 a1=>
 zo a0 fun x0=>
 zo a1 fun x1=>
 za [(.int .i64 0),(.int .u64 0)] fun x2=>
 zf 43 0 x0 fun x3=>
 zl 2 x3 fun x4=>
 zb .lss 2 x4 (.int .i64 0) fun x5=>
 zf 43 0 x1 fun x6=>
 zl 2 x6 fun x7=>
 zb .lss 2 x7 (.int .i64 0) fun x8=>
 zb .neq 4 x5 x8 fun x9=>
 zl 43 x0 fun x10=>
 zl 43 x1 fun x11=>
 zk 161 [x10,x11] fun x13=>
 zm fun m14=>
 zx 2 x6 m14 x7<|
 zx 2 x3 m14 x4<|
 zk 163 [x9,x13] fun x16=>
 ze 0 x16 fun x18=>
 ze 1 x16 fun x19=>
 zs x2 x18 2<|
 zr [.cell 0 43,.tmp 1] [x2,x19]
theorem f149_ok (h:H 149=none):OkF H f149 149:=e2 h rfl fun _ _ _=>by kernel_rfl
def g151_0:List AV→CM:=a5 fun t0 t2 t3 t4 t5=>
 zb .lss 3 t5 t0 fun x0=>
 zC x0 (
 zg 618497 [t0,t2,t3,t4,t5]) (
 zg 618499 [t2,t3])
theorem g151_0_ok:OkG H g151_0 618496:=c5 fun _ _ _ _ _ _=>by kernel_rfl
def g151_1:List AV→CM:=a5 fun t0 t2 t3 t4 t5=>
 zl 121 t3 fun x0=>
 zl 121 t4 fun x1=>
 zk 153 [x0,x1] fun x2=>
 zs t3 x2 16<|
 zg 618498 [t0,t2,t3,t4,t5]
theorem g151_1_ok:OkG H g151_1 618497:=c5 fun _ _ _ _ _ _=>by kernel_rfl
def g151_2:List AV→CM:=a5 fun t0 t2 t3 t4 t5=>
 zb .add 3 t5 (.int .i64 1) fun x0=>
 zg 618496 [t0,t2,t3,t4,x0]
theorem g151_2_ok:OkG H g151_2 618498:=c5 fun _ _ _ _ _ _=>by kernel_rfl
def g151_3:List AV→CM:=a2 fun t2 t3=>
 zl 121 t3 fun x0=>
 zs t2 x0 16<|
 zr [.cell 0 121] [t2]
theorem g151_3_ok:OkG H g151_3 618499:=c2 fun _ _ _=>by kernel_rfl
def f151:List AV→CM:=a1 fun a0=>
 za [(.int .u64 0),(.int .u64 0),(.int .u64 0),(.int .u64 0),(.int .u64 0),(.int .u64 0),(.int .u64 0),(.int .u64 0),(.int .u64 0),(.int .u64 0),(.int .u64 0),(.int .u64 0),(.int .u64 0),(.int .u64 0),(.int .u64 0),(.int .u64 0)] fun x0=>
 za [(.int .u64 0),(.int .u64 0),(.int .u64 0),(.int .u64 0),(.int .u64 0),(.int .u64 0),(.int .u64 0),(.int .u64 0),(.int .u64 0),(.int .u64 0),(.int .u64 0),(.int .u64 0),(.int .u64 0),(.int .u64 0),(.int .u64 0),(.int .u64 0)] fun x1=>
 za [(.int .u64 0),(.int .u64 0),(.int .u64 0),(.int .u64 0),(.int .u64 0),(.int .u64 0),(.int .u64 0),(.int .u64 0),(.int .u64 0),(.int .u64 0),(.int .u64 0),(.int .u64 0),(.int .u64 0),(.int .u64 0),(.int .u64 0),(.int .u64 0)] fun x2=>
 zi 121 x1 (.int .i64 0) fun x3=>
 zs x3 (.int .u64 1) 1<|
 zi 121 x2 (.int .i64 0) fun x5=>
 zs x5 (.int .u64 10) 1<|
 zg 618496 [a0,x0,x1,x2,(.int .i64 0)]
theorem f151_ok (h:H 151=none):OkF H f151 151:=e1 h rfl fun _ _=>by kernel_rfl
def g152_0:List AV→CM:=a5 fun t2 t3 t4 t5 t6=>
 zb .geq 3 t6 (.int .i64 0) fun x0=>
 zC x0 (
 zg 622593 [t2,t3,t4,t5,t6]) (
 zg 622595 [t4,t5])
theorem g152_0_ok:OkG H g152_0 622592:=c5 fun _ _ _ _ _ _=>by kernel_rfl
def g152_1:List AV→CM:=a5 fun t2 t3 t4 t5 t6=>
 zl 121 t5 fun x0=>
 zl 121 t5 fun x1=>
 zk 111 [x0,x1] fun x2=>
 zs t5 x2 16<|
 zi 121 t5 (.int .i64 0) fun x4=>
 zl 26 x4 fun x5=>
 zb .quo 3 t6 (.int .i64 32) fun x6=>
 zi 121 t2 x6 fun x7=>
 zl 26 x7 fun x8=>
 zc 3 172 t6 fun x9=>
 zb .rem 172 x9 (.int .u64 32) fun x10=>
 zb .shr 26 x8 x10 fun x11=>
 zb .rem 26 x11 (.int .u64 2) fun x12=>
 zb .add 26 x5 x12 fun x13=>
 zi 121 t5 (.int .i64 0) fun x14=>
 zs x14 x13 1<|
 zl 121 t5 fun x18=>
 zl 121 t3 fun x19=>
 zk 112 [x18,x19] fun x20=>
 zb .geq 3 x20 (.int .i64 0) fun x21=>
 zC x21 (
 zl 121 t5 fun x22=>
 zl 121 t3 fun x23=>
 zk 113 [x22,x23] fun x24=>
 zs t5 x24 16<|
 zb .quo 3 t6 (.int .i64 32) fun x26=>
 zb .quo 3 t6 (.int .i64 32) fun x27=>
 zi 121 t4 x27 fun x28=>
 zl 26 x28 fun x29=>
 zc 3 172 t6 fun x30=>
 zb .rem 172 x30 (.int .u64 32) fun x31=>
 zb .shl 26 (.int .u64 1) x31 fun x32=>
 zb .add 26 x29 x32 fun x33=>
 zi 121 t4 x26 fun x34=>
 zs x34 x33 1<|
 zg 622594 [t2,t3,t4,t5,t6]) (
 zg 622594 [t2,t3,t4,t5,t6])
theorem g152_1_ok:OkG H g152_1 622593:=c5 fun _ _ _ _ _ _=>by kernel_rfl
def g152_2:List AV→CM:=a5 fun t2 t3 t4 t5 t6=>
 zb .sub 3 t6 (.int .i64 1) fun x0=>
 zg 622592 [t2,t3,t4,t5,x0]
theorem g152_2_ok:OkG H g152_2 622594:=c5 fun _ _ _ _ _ _=>by kernel_rfl
def g152_3:List AV→CM:=a2 fun t4 t5=>
 zl 121 t4 fun x0=>
 zl 121 t5 fun x1=>
 zs t4 x0 16<|
 zm fun m4=>
 zx 121 t5 m4 x1<|
 zs t5 x1 16<|
 zr [.cell 0 121,.cell 1 121] [t4,t5]
theorem g152_3_ok:OkG H g152_3 622595:=c2 fun _ _ _=>by kernel_rfl
def f152:List AV→CM:=a2 fun a0 a1=>
 zo a0 fun x0=>
 zo a1 fun x1=>
 za [(.int .u64 0),(.int .u64 0),(.int .u64 0),(.int .u64 0),(.int .u64 0),(.int .u64 0),(.int .u64 0),(.int .u64 0),(.int .u64 0),(.int .u64 0),(.int .u64 0),(.int .u64 0),(.int .u64 0),(.int .u64 0),(.int .u64 0),(.int .u64 0)] fun x2=>
 za [(.int .u64 0),(.int .u64 0),(.int .u64 0),(.int .u64 0),(.int .u64 0),(.int .u64 0),(.int .u64 0),(.int .u64 0),(.int .u64 0),(.int .u64 0),(.int .u64 0),(.int .u64 0),(.int .u64 0),(.int .u64 0),(.int .u64 0),(.int .u64 0)] fun x3=>
 zg 622592 [x0,x1,x2,x3,(.int .i64 511)]
theorem f152_ok (h:H 152=none):OkF H f152 152:=e2 h rfl fun _ _ _=>by kernel_rfl
def g153_0:List AV→CM:=a5 fun t2 t3 t4 t5 t6=>
 zb .lss 3 t6 (.int .i64 8) fun x0=>
 zC x0 (
 zg 626689 [t2,t3,t4,t5,t6]) (
 zg 626694 [t4,t5])
theorem g153_0_ok:OkG H g153_0 626688:=c5 fun _ _ _ _ _ _=>by kernel_rfl
def g153_1:List AV→CM:=a5 fun t2 t3 t4 t5 t6=>
 zg 626690 [t2,t3,t4,t5,t6,(.int .u64 0),(.int .i64 0)]
theorem g153_1_ok:OkG H g153_1 626689:=c5 fun _ _ _ _ _ _=>by kernel_rfl
def g153_2:List AV→CM:=a7 fun t2 t3 t4 t5 t6 t7 t8=>
 zb .lss 3 t8 (.int .i64 8) fun x0=>
 zC x0 (
 zg 626691 [t2,t3,t4,t5,t6,t7,t8]) (
 zg 626693 [t2,t3,t4,t5,t6])
theorem g153_2_ok:OkG H g153_2 626690:=c7 fun _ _ _ _ _ _ _ _=>by kernel_rfl
def g153_3:List AV→CM:=a7 fun t2 t3 t4 t5 t6 t7 t8=>
 zb .add 3 t6 t8 fun x0=>
 zi 121 t5 x0 fun x1=>
 zl 26 x1 fun x2=>
 zi 121 t2 t6 fun x3=>
 zl 26 x3 fun x4=>
 zi 121 t3 t8 fun x5=>
 zl 26 x5 fun x6=>
 zb .mul 26 x4 x6 fun x7=>
 zb .add 26 x2 x7 fun x8=>
 zb .add 26 x8 t7 fun x9=>
 zb .add 3 t6 t8 fun x10=>
 zb .rem 26 x9 (.int .u64 4294967296) fun x11=>
 zi 121 t5 x10 fun x12=>
 zs x12 x11 1<|
 zb .quo 26 x9 (.int .u64 4294967296) fun x14=>
 zg 626692 [t2,t3,t4,t5,t6,x14,t8]
theorem g153_3_ok:OkG H g153_3 626691:=c7 fun _ _ _ _ _ _ _ _=>by kernel_rfl
def g153_4:List AV→CM:=a7 fun t2 t3 t4 t5 t6 t7 t8=>
 zb .add 3 t8 (.int .i64 1) fun x0=>
 zg 626690 [t2,t3,t4,t5,t6,t7,x0]
theorem g153_4_ok:OkG H g153_4 626692:=c7 fun _ _ _ _ _ _ _ _=>by kernel_rfl
def g153_5:List AV→CM:=a5 fun t2 t3 t4 t5 t6=>
 zb .add 3 t6 (.int .i64 1) fun x0=>
 zg 626688 [t2,t3,t4,t5,x0]
theorem g153_5_ok:OkG H g153_5 626693:=c5 fun _ _ _ _ _ _=>by kernel_rfl
def g153_6:List AV→CM:=a2 fun t4 t5=>
 zl 121 t5 fun x0=>
 zs t4 x0 16<|
 zr [.cell 0 121] [t4]
theorem g153_6_ok:OkG H g153_6 626694:=c2 fun _ _ _=>by kernel_rfl
def f153:List AV→CM:=a2 fun a0 a1=>
 zo a0 fun x0=>
 zo a1 fun x1=>
 za [(.int .u64 0),(.int .u64 0),(.int .u64 0),(.int .u64 0),(.int .u64 0),(.int .u64 0),(.int .u64 0),(.int .u64 0),(.int .u64 0),(.int .u64 0),(.int .u64 0),(.int .u64 0),(.int .u64 0),(.int .u64 0),(.int .u64 0),(.int .u64 0)] fun x2=>
 za [(.int .u64 0),(.int .u64 0),(.int .u64 0),(.int .u64 0),(.int .u64 0),(.int .u64 0),(.int .u64 0),(.int .u64 0),(.int .u64 0),(.int .u64 0),(.int .u64 0),(.int .u64 0),(.int .u64 0),(.int .u64 0),(.int .u64 0),(.int .u64 0)] fun x3=>
 zg 626688 [x0,x1,x2,x3,(.int .i64 0)]
theorem f153_ok (h:H 153=none):OkF H f153 153:=e2 h rfl fun _ _ _=>by kernel_rfl
def g159_0:List AV→CM:=a1 fun t8=>
 zl 43 t8 fun x0=>
 zk 93 [x0] fun x1=>
 zR x1
theorem g159_0_ok:OkG H g159_0 651264:=c1 fun _ _=>by kernel_rfl
def f159:List AV→CM:=a2 fun a0 a1=>
 zo a0 fun x0=>
 zo a1 fun x1=>
 zf 45 1 x0 fun x2=>
 zl 3 x2 fun x3=>
 zf 45 1 x1 fun x4=>
 zl 3 x4 fun x5=>
 zb .sub 3 x3 x5 fun x6=>
 zk 164 [x6] fun x7=>
 ze 0 x7 fun x8=>
 ze 1 x7 fun _=>
 za [(.int .i64 0),(.int .u64 0)] fun x10=>
 zs x10 x8 2<|
 zf 45 0 x0 fun x12=>
 zl 43 x12 fun x13=>
 zl 43 x10 fun x14=>
 zk 165 [x13,x14] fun x15=>
 ze 0 x15 fun x16=>
 ze 1 x15 fun x17=>
 ze 2 x15 fun _=>
 za [(.int .i64 0),(.int .u64 0)] fun x19=>
 za [(.int .i64 0),(.int .u64 0)] fun x20=>
 zs x19 x16 2<|
 zs x20 x17 2<|
 zl 43 x19 fun x23=>
 zf 45 0 x1 fun x24=>
 zl 43 x24 fun x25=>
 zk 20 [x23,x25] fun x26=>
 zb .neq 3 x26 (.int .i64 0) fun x27=>
 zC x27 (
 zR x26) (
 zg 651264 [x20])
theorem f159_ok (h:H 159=none):OkF H f159 159:=e2 h rfl fun _ _ _=>by kernel_rfl
def f161:List AV→CM:=a2 fun a0 a1=>
 zo a0 fun x0=>
 zo a1 fun x1=>
 za [(.int .u64 0),(.int .u64 0),(.int .u64 0),(.int .u64 0)] fun x2=>
 zl 43 x0 fun x3=>
 zk 167 [x3] fun x4=>
 ze 0 x4 fun x5=>
 ze 1 x4 fun x6=>
 zl 43 x1 fun x7=>
 zk 167 [x7] fun x8=>
 ze 0 x8 fun x9=>
 ze 1 x8 fun x10=>
 za [(.int .u64 0),(.int .u64 0),(.int .u64 0),(.int .u64 0)] fun x11=>
 zk 168 [x6,x10] fun x12=>
 ze 0 x12 fun x13=>
 ze 1 x12 fun x14=>
 zi 212 x11 (.int .i64 1) fun x15=>
 zs x15 x13 1<|
 zi 212 x11 (.int .i64 0) fun x17=>
 zs x17 x14 1<|
 CM.callv (.fn (.func 169) [] [x11]) [x6,x9,(.int .i64 1)] fun _=>
 CM.callv (.fn (.func 169) [] [x11]) [x5,x10,(.int .i64 1)] fun _=>
 CM.callv (.fn (.func 169) [] [x11]) [x5,x9,(.int .i64 2)] fun _=>
 zl 212 x11 fun x22=>
 zs x2 x22 4<|
 zr [.cell 0 212] [x2]
theorem f161_ok (h:H 161=none):OkF H f161 161:=e2 h rfl fun _ _ _=>by kernel_rfl
def g163_0:List AV→CM:=a3 fun t0 t3 t4=>
 zi 212 t3 (.int .i64 1) fun x0=>
 zl 26 x0 fun x1=>
 zi 212 t3 (.int .i64 0) fun x2=>
 zl 26 x2 fun x3=>
 zk 170 [t0,x1,x3] fun x4=>
 ze 0 x4 fun x5=>
 ze 1 x4 fun x6=>
 zs t4 x5 2<|
 zr [.cell 0 43,.tmp 1] [t4,x6]
theorem g163_0_ok:OkG H g163_0 667648:=c3 fun _ _ _ _=>by kernel_rfl
def f163:List AV→CM:=a2 fun a0 a1=>
 zo a1 fun x0=>
 za [(.int .i64 0),(.int .u64 0)] fun x1=>
 zi 212 x0 (.int .i64 3) fun x2=>
 zl 26 x2 fun x3=>
 zb .neq 26 x3 (.int .u64 0) fun x4=>
 zI x4 (
 zd 43 [] fun x5=>
 zs x1 x5 2<|
 zr [.cell 0 43,.tmp 1] [x1,(.int .i64 20)]) (
 zi 212 x0 (.int .i64 2) fun x7=>
 zl 26 x7 fun x8=>
 zb .neq 26 x8 (.int .u64 0) fun x9=>
 zC x9 (
 zd 43 [] fun x10=>
 zs x1 x10 2<|
 zr [.cell 0 43,.tmp 1] [x1,(.int .i64 20)]) (
 zg 667648 [a0,x0,x1]))
theorem f163_ok (h:H 163=none):OkF H f163 163:=e2 h rfl fun _ _ _=>by kernel_rfl
def g164_0:List AV→CM:=a2 fun t0 t2=>
 zd 43 [(1,(.int .u64 1))] fun x0=>
 za [(.int .i64 0),(.int .u64 0)] fun x1=>
 zs x1 x0 2<|
 zg 671745 [t0,t2,x1]
theorem g164_0_ok:OkG H g164_0 671744:=c2 fun _ _ _=>by kernel_rfl
def g164_1:List AV→CM:=a3 fun t0 t2 t4=>
 zb .gtr 3 t0 (.int .i64 0) fun x0=>
 zC x0 (
 zg 671746 [t0,t2,t4]) (
 zg 671748 [t2,t4])
theorem g164_1_ok:OkG H g164_1 671745:=c3 fun _ _ _ _=>by kernel_rfl
def g164_2:List AV→CM:=a3 fun t0 t2 t4=>
 zl 43 t4 fun x0=>
 zd 43 [(1,(.int .u64 10))] fun x1=>
 zk 149 [x0,x1] fun x2=>
 ze 0 x2 fun x3=>
 ze 1 x2 fun _=>
 zs t4 x3 2<|
 zg 671747 [t0,t2,t4]
theorem g164_2_ok:OkG H g164_2 671746:=c3 fun _ _ _ _=>by kernel_rfl
def g164_3:List AV→CM:=a3 fun t0 t2 t4=>
 zb .sub 3 t0 (.int .i64 1) fun x0=>
 zg 671745 [x0,t2,t4]
theorem g164_3_ok:OkG H g164_3 671747:=c3 fun _ _ _ _=>by kernel_rfl
def g164_4:List AV→CM:=a2 fun t2 t4=>
 zl 43 t4 fun x0=>
 zs t2 x0 2<|
 zr [.cell 0 43,.tmp 1] [t2,(.int .i64 0)]
theorem g164_4_ok:OkG H g164_4 671748:=c2 fun _ _ _=>by kernel_rfl
def f164:List AV→CM:=a1 fun a0=>
 za [(.int .i64 0),(.int .u64 0)] fun x0=>
 zb .lss 3 a0 (.int .i64 0) fun x1=>
 zI x1 (
 zd 43 [] fun x2=>
 zs x0 x2 2<|
 zr [.cell 0 43,.tmp 1] [x0,(.int .i64 1)]) (
 zb .gtr 3 a0 (.int .i64 38) fun x4=>
 zC x4 (
 zd 43 [] fun x5=>
 zs x0 x5 2<|
 zr [.cell 0 43,.tmp 1] [x0,(.int .i64 1)]) (
 zg 671744 [a0,x0]))
theorem f164_ok (h:H 164=none):OkF H f164 164:=e1 h rfl fun _ _=>by kernel_rfl
def g165_0:List AV→CM:=a4 fun t2 t3 t4 t5=>
 zl 43 t2 fun x0=>
 zk 167 [x0] fun x1=>
 ze 0 x1 fun x2=>
 ze 1 x1 fun x3=>
 zl 43 t3 fun x4=>
 zk 167 [x4] fun x5=>
 ze 0 x5 fun x6=>
 ze 1 x5 fun x7=>
 zb .eql 26 x6 (.int .u64 0) fun x8=>
 zC x8 (
 zb .quo 26 x2 x7 fun x9=>
 zb .rem 26 x2 x7 fun x10=>
 zk 166 [x10,x3,x7] fun x11=>
 ze 0 x11 fun x12=>
 ze 1 x11 fun x13=>
 zg 675844 [t2,t3,t4,t5,x9,x12,(.int .u64 0),x13]) (
 zk 171 [x6] fun x14=>
 zg 675841 [t2,t3,t4,t5,x6,x7,(.int .u64 0),(.int .u64 0),x2,x3,x14])
theorem g165_0_ok:OkG H g165_0 675840:=c4 fun _ _ _ _ _=>by kernel_rfl
def g165_4:List AV→CM:=a8 fun t2 t3 t4 t5 t11 t12 t13 t14=>
 zf 43 0 t2 fun x0=>
 zl 2 x0 fun x1=>
 zb .lss 2 x1 (.int .i64 0) fun x2=>
 zf 43 0 t3 fun x3=>
 zl 2 x3 fun x4=>
 zb .lss 2 x4 (.int .i64 0) fun x5=>
 zb .neq 4 x2 x5 fun x6=>
 zk 170 [x6,t11,t12] fun x7=>
 ze 0 x7 fun x8=>
 ze 1 x7 fun x9=>
 zs t4 x8 2<|
 zb .neq 35 x9 (.int .i64 0) fun x11=>
 zC x11 (
 zd 43 [] fun x12=>
 zd 43 [] fun x13=>
 zs t4 x12 2<|
 zs t5 x13 2<|
 zr [.cell 0 43,.cell 1 43,.tmp 2] [t4,t5,x9]) (
 zg 675845 [t2,t4,t5,t13,t14])
theorem g165_4_ok:OkG H g165_4 675844:=c8 fun _ _ _ _ _ _ _ _ _=>by kernel_rfl
def g165_5:List AV→CM:=a5 fun t2 t4 t5 t13 t14=>
 zf 43 0 t2 fun x0=>
 zl 2 x0 fun x1=>
 zb .lss 2 x1 (.int .i64 0) fun x2=>
 zk 170 [x2,t13,t14] fun x3=>
 ze 0 x3 fun x4=>
 ze 1 x3 fun _=>
 zs t5 x4 2<|
 zl 43 t4 fun x7=>
 zl 43 t5 fun x8=>
 zs t4 x7 2<|
 zm fun m11=>
 zx 43 t5 m11 x8<|
 zs t5 x8 2<|
 zr [.cell 0 43,.cell 1 43,.tmp 2] [t4,t5,(.int .i64 0)]
theorem g165_5_ok:OkG H g165_5 675845:=c5 fun _ _ _ _ _ _=>by kernel_rfl
def f165:List AV→CM:=a2 fun a0 a1=>
 zo a0 fun x0=>
 zo a1 fun x1=>
 za [(.int .i64 0),(.int .u64 0)] fun x2=>
 za [(.int .i64 0),(.int .u64 0)] fun x3=>
 zl 43 x1 fun x4=>
 zd 43 [] fun x5=>
 zb .eql 43 x4 x5 fun x6=>
 zC x6 (
 zl 43 x2 fun x7=>
 zl 43 x3 fun x8=>
 zs x2 x7 2<|
 zm fun m11=>
 zx 43 x3 m11 x8<|
 zs x3 x8 2<|
 zr [.cell 0 43,.cell 1 43,.tmp 2] [x2,x3,(.int .i64 22)]) (
 zg 675840 [x0,x1,x2,x3])
theorem f165_ok (h:H 165=none):OkF H f165 165:=e2 h rfl fun _ _ _=>by kernel_rfl
def g166_0:List AV→CM:=a3 fun t0 t1 t2=>
 zb .leq 26 t2 t0 fun x0=>
 zC x0 (
 zl 226 (.ptr (some ⟨3,0⟩)) fun _=>
 CM.fail) (
 zg 679937 [t0,t1,t2])
theorem g166_0_ok:OkG H g166_0 679936:=c3 fun _ _ _ _=>by kernel_rfl
def g166_1:List AV→CM:=a3 fun t0 t1 t2=>
 zb .eql 26 t0 (.int .u64 0) fun x0=>
 zC x0 (
 zb .quo 26 t1 t2 fun x1=>
 zb .rem 26 t1 t2 fun x2=>
 zR (.tup [x1,x2])) (
 zg 679938 [t0,t1,t2])
theorem g166_1_ok:OkG H g166_1 679937:=c3 fun _ _ _ _=>by kernel_rfl
def g166_2:List AV→CM:=a3 fun t0 t1 t2=>
 zk 171 [t2] fun x0=>
 zc 3 172 x0 fun x1=>
 zb .shl 26 t2 x1 fun x2=>
 zb .shr 26 x2 (.int .u64 32) fun x3=>
 zb .and 26 x2 (.int .u64 4294967295) fun x4=>
 zb .shl 26 t0 x1 fun x5=>
 zb .sub 172 (.int .u64 64) x1 fun x6=>
 zb .shr 26 t1 x6 fun x7=>
 zb .or 26 x5 x7 fun x8=>
 zb .shl 26 t1 x1 fun x9=>
 zb .shr 26 x9 (.int .u64 32) fun x10=>
 zb .and 26 x9 (.int .u64 4294967295) fun x11=>
 zb .quo 26 x8 x3 fun x12=>
 zb .mul 26 x12 x3 fun x13=>
 zb .sub 26 x8 x13 fun x14=>
 zg 679939 [x2,x1,x3,x4,x8,x10,x11,x12,x14]
theorem g166_2_ok:OkG H g166_2 679938:=c3 fun _ _ _ _=>by kernel_rfl
def j54:List AV→CM:=a9 fun t2 t8 t9 t10 t11 t13 t14 t15 t16=>
 zb .geq 26 t15 (.int .u64 4294967296) fun x0=>
 zI x0 (
 zg 679940 [t2,t8,t9,t10,t11,t13,t14,t15,t16]) (
 zb .mul 26 t15 t10 fun x1=>
 zb .mul 26 (.int .u64 4294967296) t16 fun x2=>
 zb .add 26 x2 t13 fun x3=>
 zb .gtr 26 x1 x3 fun x4=>
 zC x4 (
 zg 679940 [t2,t8,t9,t10,t11,t13,t14,t15,t16]) (
 zg 679941 [t2,t8,t9,t10,t11,t13,t14,t15]))
theorem g166_3_ok:OkG H j54 679939:=c9 fun _ _ _ _ _ _ _ _ _ _=>by kernel_rfl
def g166_4:List AV→CM:=a9 fun t2 t8 t9 t10 t11 t13 t14 t15 t16=>
 zb .sub 26 t15 (.int .u64 1) fun x0=>
 zb .add 26 t16 t9 fun x1=>
 zb .geq 26 x1 (.int .u64 4294967296) fun x2=>
 zC x2 (
 zg 679941 [t2,t8,t9,t10,t11,t13,t14,x0]) (
 zg 679939 [t2,t8,t9,t10,t11,t13,t14,x0,x1])
theorem g166_4_ok:OkG H g166_4 679940:=c9 fun _ _ _ _ _ _ _ _ _ _=>by kernel_rfl
def g166_5:List AV→CM:=a8 fun t2 t8 t9 t10 t11 t13 t14 t15=>
 zb .mul 26 t11 (.int .u64 4294967296) fun x0=>
 zb .add 26 x0 t13 fun x1=>
 zb .mul 26 t15 t2 fun x2=>
 zb .sub 26 x1 x2 fun x3=>
 zb .quo 26 x3 t9 fun x4=>
 zb .mul 26 x4 t9 fun x5=>
 zb .sub 26 x3 x5 fun x6=>
 zg 679942 [t2,t8,t9,t10,t14,t15,x6,x3,x4]
theorem g166_5_ok:OkG H g166_5 679941:=c8 fun _ _ _ _ _ _ _ _ _=>by kernel_rfl
def j55:List AV→CM:=a9 fun t2 t8 t9 t10 t14 t15 t16 t17 t18=>
 zb .geq 26 t18 (.int .u64 4294967296) fun x0=>
 zI x0 (
 zg 679943 [t2,t8,t9,t10,t14,t15,t16,t17,t18]) (
 zb .mul 26 t18 t10 fun x1=>
 zb .mul 26 (.int .u64 4294967296) t16 fun x2=>
 zb .add 26 x2 t14 fun x3=>
 zb .gtr 26 x1 x3 fun x4=>
 zC x4 (
 zg 679943 [t2,t8,t9,t10,t14,t15,t16,t17,t18]) (
 zg 679944 [t2,t8,t14,t15,t17,t18]))
theorem g166_6_ok:OkG H j55 679942:=c9 fun _ _ _ _ _ _ _ _ _ _=>by kernel_rfl
def g166_7:List AV→CM:=a9 fun t2 t8 t9 t10 t14 t15 t16 t17 t18=>
 zb .sub 26 t18 (.int .u64 1) fun x0=>
 zb .add 26 t16 t9 fun x1=>
 zb .geq 26 x1 (.int .u64 4294967296) fun x2=>
 zC x2 (
 zg 679944 [t2,t8,t14,t15,t17,x0]) (
 zg 679942 [t2,t8,t9,t10,t14,t15,x1,t17,x0])
theorem g166_7_ok:OkG H g166_7 679943:=c9 fun _ _ _ _ _ _ _ _ _ _=>by kernel_rfl
def g166_8:List AV→CM:=a6 fun t2 t8 t14 t15 t17 t18=>
 zb .mul 26 t15 (.int .u64 4294967296) fun x0=>
 zb .add 26 x0 t18 fun x1=>
 zb .mul 26 t17 (.int .u64 4294967296) fun x2=>
 zb .add 26 x2 t14 fun x3=>
 zb .mul 26 t18 t2 fun x4=>
 zb .sub 26 x3 x4 fun x5=>
 zb .shr 26 x5 t8 fun x6=>
 zR (.tup [x1,x6])
theorem g166_8_ok:OkG H g166_8 679944:=c6 fun _ _ _ _ _ _ _=>by kernel_rfl
def f166:List AV→CM:=a3 fun a0 a1 a2=>
 zb .eql 26 a2 (.int .u64 0) fun x0=>
 zC x0 (
 zl 226 (.ptr (some ⟨2,0⟩)) fun _=>
 CM.fail) (
 zg 679936 [a0,a1,a2])
theorem f166_ok (h:H 166=none):OkF H f166 166:=e3 h rfl fun _ _ _ _=>by kernel_rfl
def g167_0:List AV→CM:=a1 fun t1=>
 zf 43 1 t1 fun x0=>
 zl 26 x0 fun x1=>
 zk 60 [(.int .u64 0),x1,(.int .u64 0)] fun x2=>
 ze 0 x2 fun x3=>
 ze 1 x2 fun x4=>
 zf 43 0 t1 fun x5=>
 zl 2 x5 fun x6=>
 zc 2 26 x6 fun x7=>
 zk 60 [(.int .u64 0),x7,x4] fun x8=>
 ze 0 x8 fun x9=>
 ze 1 x8 fun _=>
 zR (.tup [x9,x3])
theorem g167_0_ok:OkG H g167_0 684032:=c1 fun _ _=>by kernel_rfl
def f167:List AV→CM:=a1 fun a0=>
 zo a0 fun x0=>
 zf 43 0 x0 fun x1=>
 zl 2 x1 fun x2=>
 zb .geq 2 x2 (.int .i64 0) fun x3=>
 zC x3 (
 zf 43 0 x0 fun x4=>
 zl 2 x4 fun x5=>
 zc 2 26 x5 fun x6=>
 zf 43 1 x0 fun x7=>
 zl 26 x7 fun x8=>
 zR (.tup [x6,x8])) (
 zg 684032 [x0])
theorem f167_ok (h:H 167=none):OkF H f167 167:=e1 h rfl fun _ _=>by kernel_rfl
def f168:List AV→CM:=a2 fun a0 a1=>
 zb .and 26 a0 (.int .u64 4294967295) fun x0=>
 zb .shr 26 a0 (.int .u64 32) fun x1=>
 zb .and 26 a1 (.int .u64 4294967295) fun x2=>
 zb .shr 26 a1 (.int .u64 32) fun x3=>
 zb .mul 26 x0 x2 fun x4=>
 zb .mul 26 x1 x2 fun x5=>
 zb .shr 26 x4 (.int .u64 32) fun x6=>
 zb .add 26 x5 x6 fun x7=>
 zb .and 26 x7 (.int .u64 4294967295) fun x8=>
 zb .shr 26 x7 (.int .u64 32) fun x9=>
 zb .mul 26 x0 x3 fun x10=>
 zb .add 26 x8 x10 fun x11=>
 zb .mul 26 x1 x3 fun x12=>
 zb .add 26 x12 x9 fun x13=>
 zb .shr 26 x11 (.int .u64 32) fun x14=>
 zb .add 26 x13 x14 fun x15=>
 zb .mul 26 a0 a1 fun x16=>
 zR (.tup [x15,x16])
theorem f168_ok (h:H 168=none):OkF H f168 168:=e2 h rfl fun _ _ _=>by kernel_rfl
def f169:List AV→CM:=a4 fun a0 a1 a2 a3=>
 zk 168 [a0,a1] fun x0=>
 ze 0 x0 fun x1=>
 ze 1 x0 fun x2=>
 zi 212 a3 a2 fun x3=>
 zl 26 x3 fun x4=>
 zk 59 [x4,x2,(.int .u64 0)] fun x5=>
 ze 0 x5 fun x6=>
 ze 1 x5 fun x7=>
 zi 212 a3 a2 fun x8=>
 zs x8 x6 1<|
 zb .add 3 a2 (.int .i64 1) fun x10=>
 zb .add 3 a2 (.int .i64 1) fun x11=>
 zi 212 a3 x11 fun x12=>
 zl 26 x12 fun x13=>
 zk 59 [x13,x1,x7] fun x14=>
 ze 0 x14 fun x15=>
 ze 1 x14 fun x16=>
 zi 212 a3 x10 fun x17=>
 zs x17 x15 1<|
 zb .add 3 a2 (.int .i64 2) fun x19=>
 zb .lss 3 x19 (.int .i64 4) fun x20=>
 zC x20 (
 zb .add 3 a2 (.int .i64 2) fun x21=>
 zi 212 a3 x21 fun x22=>
 zl 26 x22 fun x23=>
 zb .add 26 x23 x16 fun x24=>
 zi 212 a3 x21 fun x25=>
 zs x25 x24 1<|
 zR .undef) (
 zR .undef)
theorem f169_ok (h:H 169=none):OkF H f169 169:=e4 h rfl fun _ _ _ _ _=>by kernel_rfl
def g170_0:List AV→CM:=a3 fun t1 t2 t6=>
 zc 26 2 t1 fun x0=>
 zd 43 [(0,x0),(1,t2)] fun x1=>
 zs t6 x1 2<|
 zr [.cell 0 43,.tmp 1] [t6,(.int .i64 0)]
theorem g170_0_ok:OkG H g170_0 696320:=c3 fun _ _ _ _=>by kernel_rfl
def g170_1:List AV→CM:=a3 fun t1 t2 t6=>
 zb .gtr 26 t1 (.int .u64 9223372036854775808) fun x0=>
 zI x0 (
 zd 43 [] fun x1=>
 zs t6 x1 2<|
 zr [.cell 0 43,.tmp 1] [t6,(.int .i64 20)]) (
 zb .eql 26 t1 (.int .u64 9223372036854775808) fun x3=>
 zI x3 (
 zb .gtr 26 t2 (.int .u64 0) fun x4=>
 zC x4 (
 zd 43 [] fun x5=>
 zs t6 x5 2<|
 zr [.cell 0 43,.tmp 1] [t6,(.int .i64 20)]) (
 zg 696322 [t1,t2,t6])) (
 zg 696322 [t1,t2,t6]))
theorem g170_1_ok:OkG H g170_1 696321:=c3 fun _ _ _ _=>by kernel_rfl
def g170_2:List AV→CM:=a3 fun t1 t2 t6=>
 zk 60 [(.int .u64 0),t2,(.int .u64 0)] fun x0=>
 ze 0 x0 fun x1=>
 ze 1 x0 fun x2=>
 zk 60 [(.int .u64 0),t1,x2] fun x3=>
 ze 0 x3 fun x4=>
 ze 1 x3 fun _=>
 zc 26 2 x4 fun x6=>
 zd 43 [(0,x6),(1,x1)] fun x7=>
 zs t6 x7 2<|
 zr [.cell 0 43,.tmp 1] [t6,(.int .i64 0)]
theorem g170_2_ok:OkG H g170_2 696322:=c3 fun _ _ _ _=>by kernel_rfl
def f170:List AV→CM:=a3 fun a0 a1 a2=>
 za [(.int .i64 0),(.int .u64 0)] fun x0=>
 zu a0 fun x1=>
 zC x1 (
 zb .geq 26 a1 (.int .u64 9223372036854775808) fun x2=>
 zC x2 (
 zd 43 [] fun x3=>
 zs x0 x3 2<|
 zr [.cell 0 43,.tmp 1] [x0,(.int .i64 20)]) (
 zg 696320 [a1,a2,x0])) (
 zg 696321 [a1,a2,x0])
theorem f170_ok (h:H 170=none):OkF H f170 170:=e3 h rfl fun _ _ _ _=>by kernel_rfl
def f171:List AV→CM:=a1 fun a0=>
 zk 172 [a0] fun x0=>
 zb .sub 3 (.int .i64 64) x0 fun x1=>
 zR x1
theorem f171_ok (h:H 171=none):OkF H f171 171:=e1 h rfl fun _ _=>by kernel_rfl
def g172_0:List AV→CM:=a2 fun t0 t2=>
 zb .geq 26 t0 (.int .u64 65536) fun x0=>
 zC x0 (
 zb .shr 26 t0 (.int .u64 16) fun x1=>
 zb .add 3 t2 (.int .i64 16) fun x2=>
 zg 704513 [x1,x2]) (
 zg 704513 [t0,t2])
theorem g172_0_ok:OkG H g172_0 704512:=c2 fun _ _ _=>by kernel_rfl
def g172_1:List AV→CM:=a2 fun t0 t2=>
 zb .geq 26 t0 (.int .u64 256) fun x0=>
 zC x0 (
 zb .shr 26 t0 (.int .u64 8) fun x1=>
 zb .add 3 t2 (.int .i64 8) fun x2=>
 zg 704514 [x1,x2]) (
 zg 704514 [t0,t2])
theorem g172_1_ok:OkG H g172_1 704513:=c2 fun _ _ _=>by kernel_rfl
def g172_2:List AV→CM:=a2 fun t0 t2=>
 zc 26 5 t0 fun x0=>
 CM.pu (p2 (q74 Tryz.prog 9) (.str [0,1,2,2,3,3,3,3,4,4,4,4,4,4,4,4,5,5,5,5,5,5,5,5,5,5,5,5,5,5,5,5,6,6,6,6,6,6,6,6,6,6,6,6,6,6,6,6,6,6,6,6,6,6,6,6,6,6,6,6,6,6,6,6,7,7,7,7,7,7,7,7,7,7,7,7,7,7,7,7,7,7,7,7,7,7,7,7,7,7,7,7,7,7,7,7,7,7,7,7,7,7,7,7,7,7,7,7,7,7,7,7,7,7,7,7,7,7,7,7,7,7,7,7,7,7,7,7,8,8,8,8,8,8,8,8,8,8,8,8,8,8,8,8,8,8,8,8,8,8,8,8,8,8,8,8,8,8,8,8,8,8,8,8,8,8,8,8,8,8,8,8,8,8,8,8,8,8,8,8,8,8,8,8,8,8,8,8,8,8,8,8,8,8,8,8,8,8,8,8,8,8,8,8,8,8,8,8,8,8,8,8,8,8,8,8,8,8,8,8,8,8,8,8,8,8,8,8,8,8,8,8,8,8,8,8,8,8,8,8,8,8,8,8,8,8,8,8,8,8,8,8,8,8,8,8]) x0) fun x1=>
 zc 5 3 x1 fun x2=>
 zb .add 3 t2 x2 fun x3=>
 zR x3
theorem g172_2_ok:OkG H g172_2 704514:=c2 fun _ _ _=>by kernel_rfl
def f172:List AV→CM:=a1 fun a0=>
 zb .geq 26 a0 (.int .u64 4294967296) fun x0=>
 zC x0 (
 zb .shr 26 a0 (.int .u64 32) fun x1=>
 zg 704512 [x1,(.int .i64 32)]) (
 zg 704512 [a0,(.int .i64 0)])
theorem f172_ok (h:H 172=none):OkF H f172 172:=e1 h rfl fun _ _=>by kernel_rfl
end
end
section
open Go Go.Abs Go.Proofs.YtlginbmjiecglaaGreatDoor
set_option maxRecDepth 10000
noncomputable def tFn:BT (List AV→CM):=(.node 57 f57
(.node 42 f42
(.node 22 f22
(.node 18 f18
(.node 13 f13
.leaf .leaf) (.node 21 f21
.leaf .leaf)) (.node 39 f39
(.node 38 f38
.leaf .leaf) (.node 41 f41
.leaf .leaf))) (.node 46 f46
(.node 44 f44
(.node 43 f43
.leaf .leaf) (.node 45 f45
.leaf .leaf)) (.node 54 f54
(.node 53 f53
.leaf .leaf) (.node 55 f55
.leaf .leaf)))) (.node 90 f90
(.node 81 f81
(.node 79 f79
(.node 58 f58
.leaf .leaf) (.node 80 f80
.leaf .leaf)) (.node 86 f86
(.node 82 f82
.leaf .leaf) (.node 89 f89
.leaf .leaf))) (.node 119 f119
(.node 108 f108
(.node 93 f93
.leaf .leaf) (.node 118 f118
.leaf .leaf)) (.node 127 f127
(.node 126 f126
.leaf .leaf) (.node 139 f139
.leaf (.node 143 f143
.leaf .leaf))))))
noncomputable def tGo:BT (List AV→CM):=(.node 188418 g46_2
(.node 176128 g43_0
(.node 155648 g38_0
(.node 86016 g21_0
(.node 53248 g13_0
.leaf .leaf) (.node 90112 g22_0
.leaf .leaf)) (.node 167936 g41_0
(.node 159744 g39_0
.leaf .leaf) (.node 172032 g42_0
.leaf .leaf))) (.node 180226 g44_2
(.node 180224 g44_0
(.node 176129 g43_1
.leaf .leaf) (.node 180225 g44_1
.leaf .leaf)) (.node 188416 g46_0
(.node 184320 g45_0
.leaf .leaf) (.node 188417 g46_1
.leaf .leaf)))) (.node 335872 g82_0
(.node 233472 g57_0
(.node 217088 g53_0
(.node 188419 g46_3
.leaf .leaf) (.node 225280 g55_0
.leaf .leaf)) (.node 327680 g80_0
(.node 323584 g79_0
.leaf .leaf) (.node 331776 g81_0
.leaf .leaf))) (.node 352257 g86_1
(.node 335874 g82_2
(.node 335873 g82_1
.leaf .leaf) (.node 352256 g86_0
.leaf .leaf)) (.node 364544 g89_0
(.node 352258 g86_2
.leaf .leaf) (.node 380928 g93_0
.leaf (.node 442368 g108_0
.leaf .leaf))))))
noncomputable def tAf:BT ((List AV→CM)×(List AV→CM)×List (Nat×(List AV→CM))):=.leaf
noncomputable def T:Tb:=⟨tFn,tGo,tAf⟩
theorem T_ok {H:FuncId→Option (List AV→Mem→R)} (h:∀f,(tFn.find f).isSome=true→H f=none):T.Ok (EH H) Mk Nk:=⟨⟨(f57_ok (h 57 rfl)).le,
⟨(f42_ok (h 42 rfl)).le,
⟨(f22_ok (h 22 rfl)).le,
⟨(f18_ok (h 18 rfl)).le,
⟨(f13_ok (h 13 rfl)).le,
 trivial,trivial⟩,⟨(f21_ok (h 21 rfl)).le,
 trivial,trivial⟩⟩,⟨(f39_ok (h 39 rfl)).le,
⟨(f38_ok (h 38 rfl)).le,
 trivial,trivial⟩,⟨(f41_ok (h 41 rfl)).le,
 trivial,trivial⟩⟩⟩,⟨(f46_ok (h 46 rfl)).le,
⟨(f44_ok (h 44 rfl)).le,
⟨(f43_ok (h 43 rfl)).le,
 trivial,trivial⟩,⟨(f45_ok (h 45 rfl)).le,
 trivial,trivial⟩⟩,⟨(f54_ok (h 54 rfl)).le,
⟨(f53_ok (h 53 rfl)).le,
 trivial,trivial⟩,⟨(f55_ok (h 55 rfl)).le,
 trivial,trivial⟩⟩⟩⟩,⟨(f90_ok (h 90 rfl)).le,
⟨(f81_ok (h 81 rfl)).le,
⟨(f79_ok (h 79 rfl)).le,
⟨(f58_ok (h 58 rfl)).le,
 trivial,trivial⟩,⟨(f80_ok (h 80 rfl)).le,
 trivial,trivial⟩⟩,⟨(f86_ok (h 86 rfl)).le,
⟨(f82_ok (h 82 rfl)).le,
 trivial,trivial⟩,⟨(f89_ok (h 89 rfl)).le,
 trivial,trivial⟩⟩⟩,⟨(f119_ok (h 119 rfl)).le,
⟨(f108_ok (h 108 rfl)).le,
⟨(f93_ok (h 93 rfl)).le,
 trivial,trivial⟩,⟨(f118_ok (h 118 rfl)).le,
 trivial,trivial⟩⟩,⟨(f127_ok (h 127 rfl)).le,
⟨(f126_ok (h 126 rfl)).le,
 trivial,trivial⟩,⟨(f139_ok (h 139 rfl)).le,
 trivial,⟨(f143_ok (h 143 rfl)).le,
 trivial,trivial⟩⟩⟩⟩⟩⟩,
⟨j6o.le,
⟨g43_0_ok.le,
⟨j6f.le,
⟨j57.le,
⟨g13_0_ok.le,
 trivial,trivial⟩,⟨j58.le,
 trivial,trivial⟩⟩,⟨j6k.le,
⟨j6h.le,
 trivial,trivial⟩,⟨g42_0_ok.le,
 trivial,trivial⟩⟩⟩,⟨g44_2_ok.le,
⟨g44_0_ok.le,
⟨g43_1_ok.le,
 trivial,trivial⟩,⟨g44_1_ok.le,
 trivial,trivial⟩⟩,⟨j6m.le,
⟨g45_0_ok.le,
 trivial,trivial⟩,⟨j6n.le,
 trivial,trivial⟩⟩⟩⟩,⟨j69.le,
⟨j6y.le,
⟨j6w.le,
⟨j6p.le,
 trivial,trivial⟩,⟨j6x.le,
 trivial,trivial⟩⟩,⟨j66.le,
⟨j65.le,
 trivial,trivial⟩,⟨j67.le,
 trivial,trivial⟩⟩⟩,⟨j7f.le,
⟨j7c.le,
⟨j7a.le,
 trivial,trivial⟩,⟨j7e.le,
 trivial,trivial⟩⟩,⟨j7i.le,
⟨j7h.le,
 trivial,trivial⟩,⟨j7l.le,
 trivial,⟨j0e.le,
 trivial,trivial⟩⟩⟩⟩⟩⟩,
 trivial⟩
end
end Go.Proofs.YtlginbmjiecglaaGreatDoor.T
namespace Go.Abs
section
open Go
def z14 (v:AV) (args:List AV) (m:Mem):R:=
 match args with
 |[]=>some (v,m)
 | _::_=>none
theorem closed_ok {E : Env} (hE : EnvOk E) {f : FuncId} {fn : Func} (hfn : E.P.funcs[f]? = some fn) (hb : fn.body.isSome = true) (hn : fn.name ≠ "runtime.NumGoroutine") {b : Bool} {m1 : Mem}
  (h:run E (.fn f) [] (noM (GP E.P))=some (.bool b,m1)):∀args m r m',z14 (.bool b) args m=some (r,m')→FnOk E.P (.fn f) args m r m':=by
 intro args m r m' e
 cases args with
 |cons _ _=>cases e
 |nil=>
  simp only[z14,Option.some.injEq,Prod.mk.injEq]at e
  obtain⟨rfl,rfl⟩:=e
  refine⟨Nat.le_refl _,fun p w cargs hm _ _ hv=>.inl ⟨fn,hfn,hb,hn,?_⟩⟩
  have hc:cargs=[]:=by cases cargs with|nil=>rfl|cons _ _=>simp[VRs]at hv
  subst hc
  have hG:GP E.P≤w.heap.size:=by
   cases hz:GP E.P with
   |zero=>exact Nat.zero_le _
   |succ n=>
    obtain⟨k,hk⟩:=hm.glob n (by show n<GP E.P;omega)
    exact hm.bnd n _ hk
  have hfree:q9w (noPhi (GP E.P)) (noM (GP E.P)).next m1.next:=by
   intro x h1 h2
   simp only[noM]at h1
   simp only[noPhi];rw[if_neg (by omega)]
  refine(q7m (q4i hE (.fn f) _ _ _ _ h) hfn hb hn (noM_MR hG) (by simp[noM]) hfree (cargs:=[]) (by simp[VRs])).mono ?_
  rintro e w' ⟨cv,p',rfl,h1,h2⟩
  have keep:∀k,k<w.heap.size→w'.heap[k]? = w.heap[k]?:=fun k hk=>h2.keepC k hk fun b ci h3=>by rw[j36]at h3;cases h3
  simp only[VR]at h1
  refine⟨cv,p,rfl,by simp only[VR];exact h1,?_⟩
  exact {
   le:=fun _ _ h=>h
   out:=fun _ _=>rfl
   next:=Nat.le_refl _
   rel:={
    has:=fun b v ci h3 h4=>by rw[keep _ (hm.bnd b ci h4)];exact hm.has b v ci h3 h4
    inj:=hm.inj
    bnd:=fun b ci h4=>Nat.lt_of_lt_of_le (hm.bnd b ci h4) h2.size
    glob:=hm.glob}
   keepA:=fun _ _ _=>rfl
   dead:=fun _ _ h=>h
   keepC:=fun c hc _=>keep c hc
   fresh:=fun b ci h3 h4=>absurd h4 (by omega)
   ro:=fun b cs ci h3 h4=>⟨h3,keep _ (hm.bnd b ci h4)⟩
   size:=h2.size
   os:=h2.os
   output:=h2.output
   tape:=h2.tape}
end
end Go.Abs
namespace Go.Proofs.YtlginbmjiecglaaGreatDoor
section
open Go Go.Abs
set_option maxRecDepth 4000
theorem known_run:((XD E T.T 4000).call (.fn 13) [] (noM (GP Tryz.prog))).map (·.1)=some (.bool true):=by kernel_rfl
theorem j92 (f:Nat) (hf:(T.tFn.find f).isSome=true):H f=none:=by
 unfold H
 split<;>first|rfl|exact absurd (hf.symm.trans (show _=false by kernel_rfl)) (by simp)
theorem j93:∃m',run E (.fn 13) [] (noM (GP Tryz.prog))=some (.bool true,m'):=by
 have h:=known_run
 cases e:(XD E T.T 4000).call (.fn 13) [] (noM (GP Tryz.prog)) with
 |none=>rw[e]at h;cases h
 |some r=>
  rw[e]at h
  obtain⟨v,m'⟩:=r
  simp only[Option.map_some,Option.some.injEq]at h
  subst h
  exact⟨m',run_of_X (E:=E) (T.T_ok (H:=H) j92) 4000 e⟩
noncomputable def H2 (f:FuncId):Option (List AV→Mem→R):=
 match f with
 | 59=>some q70
 | 60=>some z3m
 | 120=>some q1a
 | 122=>some q1a
 | 124=>some q1a
 | 128=>some q1a
 | 130=>some q1a
 | 83=>some (z3x Tryz.prog 140)
 | 84=>some (z3x Tryz.prog 23)
 | 85=>some (z3x Tryz.prog 24)
 | 87=>some (z3x Tryz.prog 149)
 | 88=>some (z3x Tryz.prog 25)
 | 13=>some (z14 (.bool true))
 | _=>none
noncomputable abbrev E2:Env:=T.EH H2
theorem E2_ok:EnvOk E2:=z6i (by kernel_rfl) 196 (fun f h=>by
  unfold hints;rw[List.getElem?_eq_none (by show 196≤f;exact h)];rfl) (fun f h=>List.all_eq_true.1 looks f (List.mem_range.2 h)) (fun f h e=>by
  unfold H2 at e
  split at e
  ·have e1:=Option.some.inj e;subst e1;exact z5r (P:=Tryz.prog) (fn:=Tryz.f59) Tryz.func59 (by kernel_rfl) (by kernel_rfl) (by kernel_rfl) (by kernel_rfl)
  ·have e1:=Option.some.inj e;subst e1;exact z8o (P:=Tryz.prog) (fn:=Tryz.f60) Tryz.func60 (by kernel_rfl) (by kernel_rfl) (by kernel_rfl) (by kernel_rfl)
  ·have e1:=Option.some.inj e;subst e1;exact q1l (P:=Tryz.prog) (fn:=Tryz.f120) (st:=140) (tr:=4) (e:=9) (sz:=1) Tryz.func120 (by kernel_rfl) (by kernel_rfl) (by kernel_rfl) (by kernel_rfl) (by kernel_rfl) (by kernel_rfl)
  ·have e1:=Option.some.inj e;subst e1;exact q1l (P:=Tryz.prog) (fn:=Tryz.f122) (st:=23) (tr:=4) (e:=56) (sz:=4) Tryz.func122 (by kernel_rfl) (by kernel_rfl) (by kernel_rfl) (by kernel_rfl) (by kernel_rfl) (by kernel_rfl)
  ·have e1:=Option.some.inj e;subst e1;exact q1l (P:=Tryz.prog) (fn:=Tryz.f124) (st:=24) (tr:=4) (e:=74) (sz:=9) Tryz.func124 (by kernel_rfl) (by kernel_rfl) (by kernel_rfl) (by kernel_rfl) (by kernel_rfl) (by kernel_rfl)
  ·have e1:=Option.some.inj e;subst e1;exact q1l (P:=Tryz.prog) (fn:=Tryz.f128) (st:=149) (tr:=4) (e:=26) (sz:=1) Tryz.func128 (by kernel_rfl) (by kernel_rfl) (by kernel_rfl) (by kernel_rfl) (by kernel_rfl) (by kernel_rfl)
  ·have e1:=Option.some.inj e;subst e1;exact q1l (P:=Tryz.prog) (fn:=Tryz.f130) (st:=25) (tr:=4) (e:=54) (sz:=4) Tryz.func130 (by kernel_rfl) (by kernel_rfl) (by kernel_rfl) (by kernel_rfl) (by kernel_rfl) (by kernel_rfl)
  ·have e1:=Option.some.inj e;subst e1;exact q3d (E:=E0) z3y (st:=140) (e:=9) (by kernel_rfl) (by kernel_rfl) (by kernel_rfl) (by kernel_rfl) ⟨Tryz.f83,Tryz.func83,by kernel_rfl,by decide +kernel⟩ ins83
  ·have e1:=Option.some.inj e;subst e1;exact q3d (E:=E0) z3y (st:=23) (e:=56) (by kernel_rfl) (by kernel_rfl) (by kernel_rfl) (by kernel_rfl) ⟨Tryz.f84,Tryz.func84,by kernel_rfl,by decide +kernel⟩ ins84
  ·have e1:=Option.some.inj e;subst e1;exact q3d (E:=E0) z3y (st:=24) (e:=74) (by kernel_rfl) (by kernel_rfl) (by kernel_rfl) (by kernel_rfl) ⟨Tryz.f85,Tryz.func85,by kernel_rfl,by decide +kernel⟩ ins85
  ·have e1:=Option.some.inj e;subst e1;exact q3d (E:=E0) z3y (st:=149) (e:=26) (by kernel_rfl) (by kernel_rfl) (by kernel_rfl) (by kernel_rfl) ⟨Tryz.f87,Tryz.func87,by kernel_rfl,by decide +kernel⟩ ins87
  ·have e1:=Option.some.inj e;subst e1;exact q3d (E:=E0) z3y (st:=25) (e:=54) (by kernel_rfl) (by kernel_rfl) (by kernel_rfl) (by kernel_rfl) ⟨Tryz.f88,Tryz.func88,by kernel_rfl,by decide +kernel⟩ ins88
  ·have e1:=Option.some.inj e;subst e1;obtain⟨m1,h1⟩:=j93;exact closed_ok E_ok Tryz.func13 (by kernel_rfl) (by decide +kernel) h1
  ·cases e)
noncomputable abbrev D2:Do:=T.Rl H2
end
end Go.Proofs.YtlginbmjiecglaaGreatDoor
