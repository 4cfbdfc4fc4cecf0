/- Texts of one claim, put together. -/
import Derived.Test.YtlginbmjiecglaaGreatDoorK0
import Derived.Test.YtlginbmjiecglaaGreatDoorK12
namespace Go.Proofs.YtlginbmjiecglaaGreatDoor.T
section
open Go Go.Abs Go.Proofs.YtlginbmjiecglaaGreatDoor
set_option maxRecDepth 10000
noncomputable section
variable {H:FuncId→Option (List AV→Mem→R)}
def g77_0:List AV→CM:=a4 fun t2 t3 t4 t6=>
 zf 45 0 t3 fun x0=>
 zf 43 0 x0 fun x1=>
 zl 2 x1 fun x2=>
 zb .lss 2 x2 (.int .i64 0) fun x3=>
 zI x3 (
 zd 45 [] fun x4=>
 zs t6 x4 3<|
 zr [.cell 0 45,.tmp 1] [t6,(.int .i64 43)]) (
 zf 45 0 t3 fun x6=>
 zl 43 x6 fun x7=>
 zd 43 [] fun x8=>
 zb .eql 43 x7 x8 fun x9=>
 zC x9 (
 zd 45 [] fun x10=>
 zs t6 x10 3<|
 zr [.cell 0 45,.tmp 1] [t6,(.int .i64 43)]) (
 zg 315393 [t2,t3,t4,t6]))
theorem g77_0_ok:OkG H g77_0 315392:=c4 fun _ _ _ _ _=>by kernel_rfl
def g77_1:List AV→CM:=a4 fun t2 t3 t4 t6=>
 zl 45 t4 fun x0=>
 zk 37 [x0] fun x1=>
 zb .neq 35 x1 (.int .i64 0) fun x2=>
 zC x2 (
 zd 45 [] fun x3=>
 zs t6 x3 3<|
 zr [.cell 0 45,.tmp 1] [t6,x1]) (
 zg 315394 [t2,t3,t4,t6])
theorem g77_1_ok:OkG H g77_1 315393:=c4 fun _ _ _ _ _=>by kernel_rfl
def g77_2:List AV→CM:=a4 fun t2 t3 t4 t6=>
 zl 45 t3 fun x0=>
 zl 45 t4 fun x1=>
 zk 117 [x0,x1,t2] fun x2=>
 ze 0 x2 fun x3=>
 ze 1 x2 fun x4=>
 zs t6 x3 3<|
 zr [.cell 0 45,.tmp 1] [t6,x4]
theorem g77_2_ok:OkG H g77_2 315394:=c4 fun _ _ _ _ _=>by kernel_rfl
def f77:List AV→CM:=a3 fun a0 a1 a2=>
 zo a0 fun x0=>
 zo a1 fun x1=>
 za [(.int .i64 0),(.int .u64 0),(.int .i64 0)] fun x2=>
 zl 45 x0 fun x3=>
 zk 78 [x3] fun x4=>
 zu x4 fun x5=>
 zI x5 (
 zd 45 [] fun x6=>
 zs x2 x6 3<|
 zr [.cell 0 45,.tmp 1] [x2,(.int .i64 21)]) (
 zb .lss 3 a2 (.int .i64 0) fun x8=>
 zI x8 (
 zd 45 [] fun x9=>
 zs x2 x9 3<|
 zr [.cell 0 45,.tmp 1] [x2,(.int .i64 21)]) (
 zb .gtr 3 a2 (.int .i64 18) fun x11=>
 zC x11 (
 zd 45 [] fun x12=>
 zs x2 x12 3<|
 zr [.cell 0 45,.tmp 1] [x2,(.int .i64 21)]) (
 zg 315392 [a2,x0,x1,x2])))
theorem f77_ok (h:H 77=none):OkF H f77 77:=e3 h rfl fun _ _ _ _=>by kernel_rfl
def f78:List AV→CM:=a1 fun a0=>
 zo a0 fun x0=>
 zf 45 1 x0 fun x1=>
 zl 3 x1 fun x2=>
 zb .geq 3 x2 (.int .i64 0) fun x3=>
 zI x3 (
 zf 45 1 x0 fun x4=>
 zl 3 x4 fun x5=>
 zb .leq 3 x5 (.int .i64 18) fun x6=>
 zR x6) (
 zR (.bool false))
theorem f78_ok (h:H 78=none):OkF H f78 78:=e1 h rfl fun _ _=>by kernel_rfl
def g79_0:List AV→CM:=a1 fun t0=>
 zd 142 [(2,t0)] fun x0=>
 zo x0 fun x1=>
 zR (.tup [x1,(.int .i64 0)])
theorem j65:OkG H g79_0 323584:=c1 fun _ _=>by kernel_rfl
def f79:List AV→CM:=a1 fun a0=>
 zb .lss 3 a0 (.int .i64 1) fun x0=>
 zI x0 (
 zR (.tup [(.ptr none),(.int .i64 1)])) (
 zb .gtr 3 a0 (.int .i64 4096) fun x1=>
 zC x1 (
 zR (.tup [(.ptr none),(.int .i64 1)])) (
 zg 323584 [a0]))
theorem f79_ok (h:H 79=none):OkF H f79 79:=e1 h rfl fun _ _=>by kernel_rfl
def g80_0:List AV→CM:=a1 fun t0=>
 zd 146 [(2,t0)] fun x0=>
 zo x0 fun x1=>
 zR (.tup [x1,(.int .i64 0)])
theorem j66:OkG H g80_0 327680:=c1 fun _ _=>by kernel_rfl
def f80:List AV→CM:=a1 fun a0=>
 zb .lss 3 a0 (.int .i64 1) fun x0=>
 zI x0 (
 zR (.tup [(.ptr none),(.int .i64 1)])) (
 zb .gtr 3 a0 (.int .i64 4096) fun x1=>
 zC x1 (
 zR (.tup [(.ptr none),(.int .i64 1)])) (
 zg 327680 [a0]))
theorem f80_ok (h:H 80=none):OkF H f80 80:=e1 h rfl fun _ _=>by kernel_rfl
def g81_0:List AV→CM:=a1 fun t0=>
 zd 151 [(2,t0)] fun x0=>
 zo x0 fun x1=>
 zR (.tup [x1,(.int .i64 0)])
theorem j67:OkG H g81_0 331776:=c1 fun _ _=>by kernel_rfl
def f81:List AV→CM:=a1 fun a0=>
 zb .lss 3 a0 (.int .i64 1) fun x0=>
 zI x0 (
 zR (.tup [(.ptr none),(.int .i64 1)])) (
 zb .gtr 3 a0 (.int .i64 4096) fun x1=>
 zC x1 (
 zR (.tup [(.ptr none),(.int .i64 1)])) (
 zg 331776 [a0]))
theorem f81_ok (h:H 81=none):OkF H f81 81:=e1 h rfl fun _ _=>by kernel_rfl
def g82_0:List AV→CM:=a5 fun t0 t1 t6 t7 t8=>
 zb .lss 3 t7 t8 fun x0=>
 zC x0 (
 zg 335873 [t0,t1,t6,t7,t8]) (
 zg 335874 [t0,t1,t6,t7])
theorem j69:OkG H g82_0 335872:=c5 fun _ _ _ _ _ _=>by kernel_rfl
def g82_1:List AV→CM:=a5 fun t0 t1 t6 t7 t8=>
 zb .add 3 t7 t8 fun x0=>
 zc 3 172 x0 fun x1=>
 zb .shr 172 x1 (.int .u64 1) fun x2=>
 zc 172 3 x2 fun x3=>
 zi 140 t0 x3 fun x4=>
 zl 9 x4 fun x5=>
 zk 118 [x5,t1] fun x6=>
 zC x6 (
 zb .add 3 x3 (.int .i64 1) fun x7=>
 zg 335872 [t0,t1,t6,x7,t8]) (
 zg 335872 [t0,t1,t6,t7,x3])
theorem j7a:OkG H g82_1 335873:=c5 fun _ _ _ _ _ _=>by kernel_rfl
def g82_2:List AV→CM:=a4 fun t0 t1 t6 t7=>
 zb .lss 3 t7 t6 fun x0=>
 zI x0 (
 zi 140 t0 t7 fun x1=>
 zl 9 x1 fun x2=>
 zb .eql 9 x2 t1 fun x3=>
 zI x3 (
 zR (.tup [t7,(.bool true)])) (
 zi 140 t0 t7 fun x4=>
 zl 9 x4 fun x5=>
 zk 119 [x5] fun x6=>
 zI x6 (
 zk 119 [t1] fun x7=>
 zR (.tup [t7,x7])) (
 zR (.tup [t7,(.bool false)])))) (
 zR (.tup [t7,(.bool false)]))
theorem j7c:OkG H g82_2 335874:=c4 fun _ _ _ _ _=>by kernel_rfl
def f82:List AV→CM:=a2 fun a0 a1=>
 zt 140 a0 fun x0=>
 zg 335872 [a0,a1,x0,(.int .i64 0),x0]
theorem f82_ok (h:H 82=none):OkF H f82 82:=e2 h rfl fun _ _ _=>by kernel_rfl
def g86_0:List AV→CM:=a5 fun t0 t1 t6 t7 t8=>
 zb .lss 3 t7 t8 fun x0=>
 zC x0 (
 zg 352257 [t0,t1,t6,t7,t8]) (
 zg 352258 [t0,t1,t6,t7])
theorem j7e:OkG H g86_0 352256:=c5 fun _ _ _ _ _ _=>by kernel_rfl
def g86_1:List AV→CM:=a5 fun t0 t1 t6 t7 t8=>
 zb .add 3 t7 t8 fun x0=>
 zc 3 172 x0 fun x1=>
 zb .shr 172 x1 (.int .u64 1) fun x2=>
 zc 172 3 x2 fun x3=>
 zi 149 t0 x3 fun x4=>
 zl 26 x4 fun x5=>
 zk 126 [x5,t1] fun x6=>
 zC x6 (
 zb .add 3 x3 (.int .i64 1) fun x7=>
 zg 352256 [t0,t1,t6,x7,t8]) (
 zg 352256 [t0,t1,t6,t7,x3])
theorem j7f:OkG H g86_1 352257:=c5 fun _ _ _ _ _ _=>by kernel_rfl
def g86_2:List AV→CM:=a4 fun t0 t1 t6 t7=>
 zb .lss 3 t7 t6 fun x0=>
 zI x0 (
 zi 149 t0 t7 fun x1=>
 zl 26 x1 fun x2=>
 zb .eql 26 x2 t1 fun x3=>
 zI x3 (
 zR (.tup [t7,(.bool true)])) (
 zi 149 t0 t7 fun x4=>
 zl 26 x4 fun x5=>
 zk 127 [x5] fun x6=>
 zI x6 (
 zk 127 [t1] fun x7=>
 zR (.tup [t7,x7])) (
 zR (.tup [t7,(.bool false)])))) (
 zR (.tup [t7,(.bool false)]))
theorem j7h:OkG H g86_2 352258:=c4 fun _ _ _ _ _=>by kernel_rfl
def f86:List AV→CM:=a2 fun a0 a1=>
 zt 149 a0 fun x0=>
 zg 352256 [a0,a1,x0,(.int .i64 0),x0]
theorem f86_ok (h:H 86=none):OkF H f86 86:=e2 h rfl fun _ _ _=>by kernel_rfl
def g89_0:List AV→CM:=a3 fun t0 t4 t6=>
 zn t0 fun x0=>
 zf 142 1 x0 fun x1=>
 zl 23 x1 fun x2=>
 zi 23 x2 t6 fun x3=>
 zl 56 x3 fun x4=>
 zs t4 x4 4<|
 zr [.cell 0 56,.tmp 1] [t4,(.bool true)]
theorem j7i:OkG H g89_0 364544:=c3 fun _ _ _ _=>by kernel_rfl
def f89:List AV→CM:=a2 fun a0 a1=>
 za [(.str []),(.int .i64 0),(.int .i64 0),(.int .u64 0)] fun x0=>
 zn a0 fun x1=>
 zf 142 0 x1 fun x2=>
 zl 140 x2 fun x3=>
 zk 82 [x3,a1] fun x4=>
 ze 0 x4 fun x5=>
 ze 1 x4 fun x6=>
 zu x6 fun x7=>
 zC x7 (
 za [(.str []),(.int .i64 0),(.int .i64 0),(.int .u64 0)] fun x8=>
 zl 56 x8 fun x9=>
 zs x0 x9 4<|
 zr [.cell 0 56,.tmp 1] [x0,(.bool false)]) (
 zg 364544 [a0,x0,x5])
theorem f89_ok (h:H 89=none):OkF H f89 89:=e2 h rfl fun _ _ _=>by kernel_rfl
def f90:List AV→CM:=a1 fun a0=>
 zn a0 fun x0=>
 zf 151 0 x0 fun x1=>
 zl 149 x1 fun x2=>
 zt 149 x2 fun x3=>
 zR x3
theorem f90_ok (h:H 90=none):OkF H f90 90:=e1 h rfl fun _ _=>by kernel_rfl
def g91_0:List AV→CM:=a4 fun t1 t8 t9 t10=>
 zb .lss 3 t10 t9 fun x0=>
 zC x0 (
 zg 372737 [t1,t8,t9,t10]) (
 zg 372739 [])
theorem g91_0_ok:OkG H g91_0 372736:=c4 fun _ _ _ _ _=>by kernel_rfl
def g91_1:List AV→CM:=a4 fun t1 t8 t9 t10=>
 zi 23 t8 t10 fun x0=>
 zl 56 x0 fun x1=>
 za [(.str []),(.int .i64 0),(.int .i64 0),(.int .u64 0)] fun x2=>
 zs x2 x1 4<|
 zf 56 0 x2 fun x4=>
 zl 9 x4 fun x5=>
 zb .eql 9 x5 t1 fun x6=>
 zC x6 (
 zR (.bool true)) (
 zg 372738 [t1,t8,t9,t10])
theorem g91_1_ok:OkG H g91_1 372737:=c4 fun _ _ _ _ _=>by kernel_rfl
def g91_2:List AV→CM:=a4 fun t1 t8 t9 t10=>
 zb .add 3 t10 (.int .i64 1) fun x0=>
 zg 372736 [t1,t8,t9,x0]
theorem g91_2_ok:OkG H g91_2 372738:=c4 fun _ _ _ _ _=>by kernel_rfl
def g91_3:List AV→CM:=a0<|
 zR (.bool false)
theorem g91_3_ok:OkG H g91_3 372739:=c0 fun _=>by kernel_rfl
def f91:List AV→CM:=a2 fun a0 a1=>
 zo a0 fun x0=>
 zf 28 0 x0 fun x1=>
 zl 23 x1 fun x2=>
 zt 23 x2 fun x3=>
 zg 372736 [a1,x2,x3,(.int .i64 0)]
theorem f91_ok (h:H 91=none):OkF H f91 91:=e2 h rfl fun _ _ _=>by kernel_rfl
def g92_0:List AV→CM:=a0<|
 zR (.int .i64 0)
theorem g92_0_ok:OkG H g92_0 376832:=c0 fun _=>by kernel_rfl
def f92:List AV→CM:=a1 fun a0=>
 zo a0 fun x0=>
 zl 45 x0 fun x1=>
 zk 132 [x1] fun x2=>
 zu x2 fun x3=>
 zC x3 (
 zR (.int .i64 21)) (
 zl 45 x0 fun x4=>
 zk 133 [x4] fun x5=>
 zu x5 fun x6=>
 zC x6 (
 zR (.int .i64 44)) (
 zg 376832 []))
theorem f92_ok (h:H 92=none):OkF H f92 92:=e1 h rfl fun _ _=>by kernel_rfl
def g93_0:List AV→CM:=a0<|
 zR (.int .i64 1)
theorem j7l:OkG H g93_0 380928:=c0 fun _=>by kernel_rfl
def f93:List AV→CM:=a1 fun a0=>
 zo a0 fun x0=>
 zf 43 0 x0 fun x1=>
 zl 2 x1 fun x2=>
 zb .lss 2 x2 (.int .i64 0) fun x3=>
 zC x3 (
 zR (.int .i64 (-1))) (
 zf 43 0 x0 fun x4=>
 zl 2 x4 fun x5=>
 zb .eql 2 x5 (.int .i64 0) fun x6=>
 zI x6 (
 zf 43 1 x0 fun x7=>
 zl 26 x7 fun x8=>
 zb .eql 26 x8 (.int .u64 0) fun x9=>
 zC x9 (
 zR (.int .i64 0)) (
 zg 380928 [])) (
 zg 380928 []))
theorem f93_ok (h:H 93=none):OkF H f93 93:=e1 h rfl fun _ _=>by kernel_rfl
def g94_0:List AV→CM:=a2 fun t0 t3=>
 zn t0 fun x0=>
 zf 160 0 x0 fun x1=>
 zl 43 x1 fun x2=>
 zf 43 0 t3 fun x3=>
 zl 2 x3 fun x4=>
 zk 54 [x4] fun x6=>
 zm fun m7=>
 zx 43 x1 m7 x2<|
 zk 21 [x2,x6] fun x9=>
 ze 0 x9 fun x11=>
 ze 1 x9 fun _=>
 zn t0 fun x13=>
 zf 160 0 x13 fun x14=>
 zs x14 x11 2<|
 zR .undef
theorem g94_0_ok:OkG H g94_0 385024:=c2 fun _ _ _=>by kernel_rfl
def f94:List AV→CM:=a2 fun a0 a1=>
 zo a1 fun x0=>
 zn a0 fun x1=>
 zf 160 1 x1 fun x2=>
 zl 26 x2 fun x3=>
 zf 43 1 x0 fun x4=>
 zl 26 x4 fun x5=>
 zb .add 26 x3 x5 fun x6=>
 zn a0 fun x7=>
 zf 160 1 x7 fun x8=>
 zs x8 x6 1<|
 zn a0 fun x12=>
 zf 160 1 x12 fun x13=>
 zl 26 x13 fun x14=>
 zf 43 1 x0 fun x15=>
 zl 26 x15 fun x16=>
 zb .lss 26 x14 x16 fun x17=>
 zC x17 (
 zn a0 fun x18=>
 zf 160 0 x18 fun x19=>
 zl 43 x19 fun x20=>
 zk 54 [(.int .i64 1)] fun x22=>
 zm fun m23=>
 zx 43 x19 m23 x20<|
 zk 21 [x20,x22] fun x25=>
 ze 0 x25 fun x27=>
 ze 1 x25 fun _=>
 zn a0 fun x29=>
 zf 160 0 x29 fun x30=>
 zs x30 x27 2<|
 zg 385024 [a0,x0]) (
 zg 385024 [a0,x0])
theorem f94_ok (h:H 94=none):OkF H f94 94:=e2 h rfl fun _ _ _=>by kernel_rfl
def f95:List AV→CM:=a1 fun a0=>
 zn a0 fun x0=>
 zf 160 1 x0 fun x1=>
 zl 26 x1 fun x2=>
 zb .eql 26 x2 (.int .u64 0) fun x3=>
 zI x3 (
 zn a0 fun x4=>
 zf 160 0 x4 fun x5=>
 zl 43 x5 fun x6=>
 zk 93 [x6] fun x7=>
 zb .eql 3 x7 (.int .i64 0) fun x8=>
 zR x8) (
 zR (.bool false))
theorem f95_ok (h:H 95=none):OkF H f95 95:=e1 h rfl fun _ _=>by kernel_rfl
def f96:List AV→CM:=a2 fun a0 a1=>
 zl 90 a1 fun x0=>
 zm fun m1=>
 zk 98 [x0] fun x2=>
 zl 90 a1 fun x4=>
 zx 90 a1 m1 x4<|
 zk 99 [x4] fun x6=>
 zk 97 [x2,x6,a0] fun _=>
 zR .undef
theorem f96_ok (h:H 96=none):OkF H f96 96:=e2 h rfl fun _ _ _=>by kernel_rfl
def g97_0:List AV→CM:=a5 fun t1 t2 t8 t9 t10=>
 zb .lss 3 t10 t9 fun x0=>
 zC x0 (
 zg 397313 [t1,t2,t8,t9,t10]) (
 zR .undef)
theorem g97_0_ok:OkG H g97_0 397312:=c5 fun _ _ _ _ _ _=>by kernel_rfl
def g97_1:List AV→CM:=a5 fun t1 t2 t8 t9 t10=>
 zi 140 t8 t10 fun x0=>
 zl 9 x0 fun x1=>
 zi 23 t1 t10 fun x2=>
 zl 56 x2 fun x3=>
 CM.callv t2 [x1,x3] fun x4=>
 zu x4 fun x5=>
 zC x5 (
 zR .undef) (
 zg 397314 [t1,t2,t8,t9,t10])
theorem g97_1_ok:OkG H g97_1 397313:=c5 fun _ _ _ _ _ _=>by kernel_rfl
def g97_2:List AV→CM:=a5 fun t1 t2 t8 t9 t10=>
 zb .add 3 t10 (.int .i64 1) fun x0=>
 zg 397312 [t1,t2,t8,t9,x0]
theorem g97_2_ok:OkG H g97_2 397314:=c5 fun _ _ _ _ _ _=>by kernel_rfl
def f97:List AV→CM:=a3 fun a0 a1 a2=>
 zt 140 a0 fun x0=>
 zg 397312 [a1,a2,a0,x0,(.int .i64 0)]
theorem f97_ok (h:H 97=none):OkF H f97 97:=e3 h rfl fun _ _ _ _=>by kernel_rfl
def f98:List AV→CM:=a1 fun a0=>
 CM.al (some (.cells [] false,sB 1 0)) fun x0=>
 zn a0 fun x1=>
 zf 142 0 x1 fun x2=>
 zl 140 x2 fun x3=>
 CM.ef (apE 1 16 x0 x3) fun x4=>
 zR x4
theorem f98_ok (h:H 98=none):OkF H f98 98:=e1 h rfl fun _ _=>by kernel_rfl
def f99:List AV→CM:=a1 fun a0=>
 CM.al (some (.cells [] false,sB 4 0)) fun x0=>
 zn a0 fun x1=>
 zf 142 1 x1 fun x2=>
 zl 23 x2 fun x3=>
 CM.ef (apE 4 40 x0 x3) fun x4=>
 zR x4
theorem f99_ok (h:H 99=none):OkF H f99 99:=e1 h rfl fun _ _=>by kernel_rfl
def f100:List AV→CM:=a2 fun a0 a1=>
 zl 91 a1 fun x0=>
 zm fun m1=>
 zk 102 [x0] fun x2=>
 zl 91 a1 fun x4=>
 zx 91 a1 m1 x4<|
 zk 103 [x4] fun x6=>
 zk 101 [x2,x6,a0] fun _=>
 zR .undef
theorem f100_ok (h:H 100=none):OkF H f100 100:=e2 h rfl fun _ _ _=>by kernel_rfl
def j5s:List AV→CM:=a5 fun t1 t2 t8 t9 t10=>
 zb .lss 3 t10 t9 fun x0=>
 zC x0 (
 zg 413697 [t1,t2,t8,t9,t10]) (
 zR .undef)
theorem g101_0_ok:OkG H j5s 413696:=c5 fun _ _ _ _ _ _=>by kernel_rfl
def g101_1:List AV→CM:=a5 fun t1 t2 t8 t9 t10=>
 zi 140 t8 t10 fun x0=>
 zl 9 x0 fun x1=>
 zi 24 t1 t10 fun x2=>
 zl 74 x2 fun x3=>
 CM.callv t2 [x1,x3] fun x4=>
 zu x4 fun x5=>
 zC x5 (
 zR .undef) (
 zg 413698 [t1,t2,t8,t9,t10])
theorem g101_1_ok:OkG H g101_1 413697:=c5 fun _ _ _ _ _ _=>by kernel_rfl
def g101_2:List AV→CM:=a5 fun t1 t2 t8 t9 t10=>
 zb .add 3 t10 (.int .i64 1) fun x0=>
 zg 413696 [t1,t2,t8,t9,x0]
theorem g101_2_ok:OkG H g101_2 413698:=c5 fun _ _ _ _ _ _=>by kernel_rfl
def f101:List AV→CM:=a3 fun a0 a1 a2=>
 zt 140 a0 fun x0=>
 zg 413696 [a1,a2,a0,x0,(.int .i64 0)]
theorem f101_ok (h:H 101=none):OkF H f101 101:=e3 h rfl fun _ _ _ _=>by kernel_rfl
def f102:List AV→CM:=a1 fun a0=>
 CM.al (some (.cells [] false,sB 1 0)) fun x0=>
 zn a0 fun x1=>
 zf 146 0 x1 fun x2=>
 zl 140 x2 fun x3=>
 CM.ef (apE 1 16 x0 x3) fun x4=>
 zR x4
theorem f102_ok (h:H 102=none):OkF H f102 102:=e1 h rfl fun _ _=>by kernel_rfl
def f103:List AV→CM:=a1 fun a0=>
 CM.al (some (.cells [] false,sB 9 0)) fun x0=>
 zn a0 fun x1=>
 zf 146 1 x1 fun x2=>
 zl 24 x2 fun x3=>
 CM.ef (apE 9 88 x0 x3) fun x4=>
 zR x4
theorem f103_ok (h:H 103=none):OkF H f103 103:=e1 h rfl fun _ _=>by kernel_rfl
def f104:List AV→CM:=a2 fun a0 a1=>
 zl 92 a1 fun x0=>
 zm fun m1=>
 zk 106 [x0] fun x2=>
 zl 92 a1 fun x4=>
 zx 92 a1 m1 x4<|
 zk 107 [x4] fun x6=>
 zk 105 [x2,x6,a0] fun _=>
 zR .undef
theorem f104_ok (h:H 104=none):OkF H f104 104:=e2 h rfl fun _ _ _=>by kernel_rfl
def j5t:List AV→CM:=a5 fun t1 t2 t8 t9 t10=>
 zb .lss 3 t10 t9 fun x0=>
 zC x0 (
 zg 430081 [t1,t2,t8,t9,t10]) (
 zR .undef)
theorem g105_0_ok:OkG H j5t 430080:=c5 fun _ _ _ _ _ _=>by kernel_rfl
def g105_1:List AV→CM:=a5 fun t1 t2 t8 t9 t10=>
 zi 149 t8 t10 fun x0=>
 zl 26 x0 fun x1=>
 zi 25 t1 t10 fun x2=>
 zl 54 x2 fun x3=>
 CM.callv t2 [x1,x3] fun x4=>
 zu x4 fun x5=>
 zC x5 (
 zR .undef) (
 zg 430082 [t1,t2,t8,t9,t10])
theorem g105_1_ok:OkG H g105_1 430081:=c5 fun _ _ _ _ _ _=>by kernel_rfl
def g105_2:List AV→CM:=a5 fun t1 t2 t8 t9 t10=>
 zb .add 3 t10 (.int .i64 1) fun x0=>
 zg 430080 [t1,t2,t8,t9,x0]
theorem g105_2_ok:OkG H g105_2 430082:=c5 fun _ _ _ _ _ _=>by kernel_rfl
def f105:List AV→CM:=a3 fun a0 a1 a2=>
 zt 149 a0 fun x0=>
 zg 430080 [a1,a2,a0,x0,(.int .i64 0)]
theorem f105_ok (h:H 105=none):OkF H f105 105:=e3 h rfl fun _ _ _ _=>by kernel_rfl
def f106:List AV→CM:=a1 fun a0=>
 CM.al (some (.cells [] false,sB 1 0)) fun x0=>
 zn a0 fun x1=>
 zf 151 0 x1 fun x2=>
 zl 149 x2 fun x3=>
 CM.ef (apE 1 8 x0 x3) fun x4=>
 zR x4
theorem f106_ok (h:H 106=none):OkF H f106 106:=e1 h rfl fun _ _=>by kernel_rfl
def f107:List AV→CM:=a1 fun a0=>
 CM.al (some (.cells [] false,sB 4 0)) fun x0=>
 zn a0 fun x1=>
 zf 151 1 x1 fun x2=>
 zl 25 x2 fun x3=>
 CM.ef (apE 4 40 x0 x3) fun x4=>
 zR x4
theorem f107_ok (h:H 107=none):OkF H f107 107:=e1 h rfl fun _ _=>by kernel_rfl
def g108_0:List AV→CM:=a3 fun t0 t4 t6=>
 zn t0 fun x0=>
 zf 151 1 x0 fun x1=>
 zl 25 x1 fun x2=>
 zi 25 x2 t6 fun x3=>
 zl 54 x3 fun x4=>
 zs t4 x4 4<|
 zr [.cell 0 54,.tmp 1] [t4,(.bool true)]
theorem j0e:OkG H g108_0 442368:=c3 fun _ _ _ _=>by kernel_rfl
def f108:List AV→CM:=a2 fun a0 a1=>
 za [(.int .u64 0),(.str []),(.int .i64 0),(.int .u64 0)] fun x0=>
 zn a0 fun x1=>
 zf 151 0 x1 fun x2=>
 zl 149 x2 fun x3=>
 zk 86 [x3,a1] fun x4=>
 ze 0 x4 fun x5=>
 ze 1 x4 fun x6=>
 zu x6 fun x7=>
 zC x7 (
 za [(.int .u64 0),(.str []),(.int .i64 0),(.int .u64 0)] fun x8=>
 zl 54 x8 fun x9=>
 zs x0 x9 4<|
 zr [.cell 0 54,.tmp 1] [x0,(.bool false)]) (
 zg 442368 [a0,x0,x5])
theorem f108_ok (h:H 108=none):OkF H f108 108:=e2 h rfl fun _ _ _=>by kernel_rfl
def g111_0:List AV→CM:=a6 fun t2 t3 t4 t5 t6 t7=>
 zb .lss 3 t7 (.int .i64 16) fun x0=>
 zC x0 (
 zg 454657 [t2,t3,t4,t5,t6,t7]) (
 zg 454659 [t4,t5])
theorem g111_0_ok:OkG H g111_0 454656:=c6 fun _ _ _ _ _ _ _=>by kernel_rfl
def g111_1:List AV→CM:=a6 fun t2 t3 t4 t5 t6 t7=>
 zi 121 t2 t7 fun x0=>
 zl 26 x0 fun x1=>
 zi 121 t3 t7 fun x2=>
 zl 26 x2 fun x3=>
 zb .add 26 x1 x3 fun x4=>
 zb .add 26 x4 t6 fun x5=>
 zb .rem 26 x5 (.int .u64 4294967296) fun x6=>
 zi 121 t5 t7 fun x7=>
 zs x7 x6 1<|
 zb .quo 26 x5 (.int .u64 4294967296) fun x9=>
 zg 454658 [t2,t3,t4,t5,x9,t7]
theorem g111_1_ok:OkG H g111_1 454657:=c6 fun _ _ _ _ _ _ _=>by kernel_rfl
def g111_2:List AV→CM:=a6 fun t2 t3 t4 t5 t6 t7=>
 zb .add 3 t7 (.int .i64 1) fun x0=>
 zg 454656 [t2,t3,t4,t5,t6,x0]
theorem g111_2_ok:OkG H g111_2 454658:=c6 fun _ _ _ _ _ _ _=>by kernel_rfl
def g111_3:List AV→CM:=a2 fun t4 t5=>
 zl 121 t5 fun x0=>
 zs t4 x0 16<|
 zr [.cell 0 121] [t4]
theorem g111_3_ok:OkG H g111_3 454659:=c2 fun _ _ _=>by kernel_rfl
def f111:List AV→CM:=a2 fun a0 a1=>
 zo a0 fun x0=>
 zo a1 fun x1=>
 za [(.int .u64 0),(.int .u64 0),(.int .u64 0),(.int .u64 0),(.int .u64 0),(.int .u64 0),(.int .u64 0),(.int .u64 0),(.int .u64 0),(.int .u64 0),(.int .u64 0),(.int .u64 0),(.int .u64 0),(.int .u64 0),(.int .u64 0),(.int .u64 0)] fun x2=>
 za [(.int .u64 0),(.int .u64 0),(.int .u64 0),(.int .u64 0),(.int .u64 0),(.int .u64 0),(.int .u64 0),(.int .u64 0),(.int .u64 0),(.int .u64 0),(.int .u64 0),(.int .u64 0),(.int .u64 0),(.int .u64 0),(.int .u64 0),(.int .u64 0)] fun x3=>
 zg 454656 [x0,x1,x2,x3,(.int .u64 0),(.int .i64 0)]
theorem f111_ok (h:H 111=none):OkF H f111 111:=e2 h rfl fun _ _ _=>by kernel_rfl
def g112_0:List AV→CM:=a3 fun t2 t3 t5=>
 zb .geq 3 t5 (.int .i64 0) fun x0=>
 zC x0 (
 zg 458753 [t2,t3,t5]) (
 zg 458756 [])
theorem g112_0_ok:OkG H g112_0 458752:=c3 fun _ _ _ _=>by kernel_rfl
def j5v:List AV→CM:=a3 fun t2 t3 t5=>
 zi 121 t2 t5 fun x0=>
 zl 26 x0 fun x1=>
 zi 121 t3 t5 fun x2=>
 zl 26 x2 fun x3=>
 zb .neq 26 x1 x3 fun x4=>
 zC x4 (
 zi 121 t2 t5 fun x5=>
 zl 26 x5 fun x6=>
 zi 121 t3 t5 fun x7=>
 zl 26 x7 fun x8=>
 zb .lss 26 x6 x8 fun x9=>
 zC x9 (
 zR (.int .i64 (-1))) (
 zg 458754 [])) (
 zg 458755 [t2,t3,t5])
theorem g112_1_ok:OkG H j5v 458753:=c3 fun _ _ _ _=>by kernel_rfl
def g112_2:List AV→CM:=a0<|
 zR (.int .i64 1)
theorem g112_2_ok:OkG H g112_2 458754:=c0 fun _=>by kernel_rfl
def g112_3:List AV→CM:=a3 fun t2 t3 t5=>
 zb .sub 3 t5 (.int .i64 1) fun x0=>
 zg 458752 [t2,t3,x0]
theorem g112_3_ok:OkG H g112_3 458755:=c3 fun _ _ _ _=>by kernel_rfl
def g112_4:List AV→CM:=a0<|
 zR (.int .i64 0)
theorem g112_4_ok:OkG H g112_4 458756:=c0 fun _=>by kernel_rfl
def f112:List AV→CM:=a2 fun a0 a1=>
 zo a0 fun x0=>
 zo a1 fun x1=>
 zg 458752 [x0,x1,(.int .i64 15)]
theorem f112_ok (h:H 112=none):OkF H f112 112:=e2 h rfl fun _ _ _=>by kernel_rfl
def g113_0:List AV→CM:=a6 fun t2 t3 t4 t5 t6 t7=>
 zb .lss 3 t7 (.int .i64 16) fun x0=>
 zC x0 (
 zg 462849 [t2,t3,t4,t5,t6,t7]) (
 zg 462851 [t4,t5])
theorem g113_0_ok:OkG H g113_0 462848:=c6 fun _ _ _ _ _ _ _=>by kernel_rfl
def g113_1:List AV→CM:=a6 fun t2 t3 t4 t5 t6 t7=>
 zi 121 t2 t7 fun x0=>
 zl 26 x0 fun x1=>
 zb .add 26 x1 (.int .u64 4294967296) fun x2=>
 zi 121 t3 t7 fun x3=>
 zl 26 x3 fun x4=>
 zb .sub 26 x2 x4 fun x5=>
 zb .sub 26 x5 t6 fun x6=>
 zb .rem 26 x6 (.int .u64 4294967296) fun x7=>
 zi 121 t5 t7 fun x8=>
 zs x8 x7 1<|
 zb .quo 26 x6 (.int .u64 4294967296) fun x10=>
 zb .sub 26 (.int .u64 1) x10 fun x11=>
 zg 462850 [t2,t3,t4,t5,x11,t7]
theorem g113_1_ok:OkG H g113_1 462849:=c6 fun _ _ _ _ _ _ _=>by kernel_rfl
def g113_2:List AV→CM:=a6 fun t2 t3 t4 t5 t6 t7=>
 zb .add 3 t7 (.int .i64 1) fun x0=>
 zg 462848 [t2,t3,t4,t5,t6,x0]
theorem g113_2_ok:OkG H g113_2 462850:=c6 fun _ _ _ _ _ _ _=>by kernel_rfl
def g113_3:List AV→CM:=a2 fun t4 t5=>
 zl 121 t5 fun x0=>
 zs t4 x0 16<|
 zr [.cell 0 121] [t4]
theorem g113_3_ok:OkG H g113_3 462851:=c2 fun _ _ _=>by kernel_rfl
def f113:List AV→CM:=a2 fun a0 a1=>
 zo a0 fun x0=>
 zo a1 fun x1=>
 za [(.int .u64 0),(.int .u64 0),(.int .u64 0),(.int .u64 0),(.int .u64 0),(.int .u64 0),(.int .u64 0),(.int .u64 0),(.int .u64 0),(.int .u64 0),(.int .u64 0),(.int .u64 0),(.int .u64 0),(.int .u64 0),(.int .u64 0),(.int .u64 0)] fun x2=>
 za [(.int .u64 0),(.int .u64 0),(.int .u64 0),(.int .u64 0),(.int .u64 0),(.int .u64 0),(.int .u64 0),(.int .u64 0),(.int .u64 0),(.int .u64 0),(.int .u64 0),(.int .u64 0),(.int .u64 0),(.int .u64 0),(.int .u64 0),(.int .u64 0)] fun x3=>
 zg 462848 [x0,x1,x2,x3,(.int .u64 0),(.int .i64 0)]
theorem f113_ok (h:H 113=none):OkF H f113 113:=e2 h rfl fun _ _ _=>by kernel_rfl
def g114_0:List AV→CM:=a2 fun t2 t4=>
 zl 43 t4 fun x0=>
 zs t2 x0 2<|
 zr [.cell 0 43,.tmp 1] [t2,(.int .i64 0)]
theorem g114_0_ok:OkG H g114_0 466944:=c2 fun _ _ _=>by kernel_rfl
def f114:List AV→CM:=a1 fun a0=>
 zo a0 fun x0=>
 za [(.int .i64 0),(.int .u64 0)] fun x1=>
 zl 123 x0 fun x2=>
 zk 135 [x2] fun x3=>
 ze 0 x3 fun x4=>
 ze 1 x3 fun x5=>
 za [(.int .i64 0),(.int .u64 0)] fun x6=>
 zs x6 x4 2<|
 zu x5 fun x8=>
 zC x8 (
 zd 43 [] fun x9=>
 zs x1 x9 2<|
 zr [.cell 0 43,.tmp 1] [x1,(.int .i64 20)]) (
 zg 466944 [x1,x6])
theorem f114_ok (h:H 114=none):OkF H f114 114:=e1 h rfl fun _ _=>by kernel_rfl
def f115:List AV→CM:=a1 fun a0=>
 zo a0 fun x0=>
 za [(.bool false),(.int .u64 0),(.int .u64 0),(.int .u64 0),(.int .u64 0),(.int .u64 0),(.int .u64 0),(.int .u64 0),(.int .u64 0),(.int .u64 0),(.int .u64 0),(.int .u64 0),(.int .u64 0),(.int .u64 0),(.int .u64 0),(.int .u64 0),(.int .u64 0)] fun x1=>
 zf 123 0 x0 fun x2=>
 zl 4 x2 fun x3=>
 zu x3 fun x4=>
 zI x4 (
 zf 123 1 x0 fun x5=>
 zl 121 x5 fun x6=>
 zm fun m7=>
 zk 70 [x6] fun x8=>
 zu x8 fun x10=>
 zf 123 1 x0 fun x11=>
 zl 121 x11 fun x12=>
 zx 121 x11 m7 x12<|
 zd 123 [(0,x10),(1,x12)] fun x13=>
 zs x1 x13 17<|
 zr [.cell 0 123] [x1]) (
 zf 123 1 x0 fun x17=>
 zl 121 x17 fun x18=>
 zd 123 [(0,(.bool false)),(1,x18)] fun x19=>
 zs x1 x19 17<|
 zr [.cell 0 123] [x1])
theorem f115_ok (h:H 115=none):OkF H f115 115:=e1 h rfl fun _ _=>by kernel_rfl
def g116_0:List AV→CM:=a1 fun t5=>
 zf 123 0 t5 fun x0=>
 zl 4 x0 fun x1=>
 zC x1 (
 zR (.int .i64 (-1))) (
 zg 475137 [])
theorem g116_0_ok:OkG H g116_0 475136:=c1 fun _ _=>by kernel_rfl
def g116_1:List AV→CM:=a0<|
 zR (.int .i64 1)
theorem g116_1_ok:OkG H g116_1 475137:=c0 fun _=>by kernel_rfl
def f116:List AV→CM:=a2 fun a0 a1=>
 zo a0 fun x0=>
 zo a1 fun x1=>
 zl 123 x0 fun x2=>
 zl 123 x1 fun x3=>
 zk 115 [x3] fun x5=>
 zm fun m6=>
 zx 123 x0 m6 x2<|
 zk 69 [x2,x5] fun x8=>
 za [(.bool false),(.int .u64 0),(.int .u64 0),(.int .u64 0),(.int .u64 0),(.int .u64 0),(.int .u64 0),(.int .u64 0),(.int .u64 0),(.int .u64 0),(.int .u64 0),(.int .u64 0),(.int .u64 0),(.int .u64 0),(.int .u64 0),(.int .u64 0),(.int .u64 0)] fun x10=>
 zs x10 x8 17<|
 zf 123 1 x10 fun x14=>
 zl 121 x14 fun x15=>
 zk 70 [x15] fun x16=>
 zC x16 (
 zR (.int .i64 0)) (
 zg 475136 [x10])
theorem f116_ok (h:H 116=none):OkF H f116 116:=e2 h rfl fun _ _ _=>by kernel_rfl
def g117_0:List AV→CM:=a4 fun t2 t3 t4 t6=>
 zf 45 0 t3 fun x0=>
 zl 43 x0 fun x1=>
 zm fun m2=>
 zk 68 [x1] fun x3=>
 zf 45 0 t4 fun x5=>
 zl 43 x5 fun x6=>
 zx 43 x5 m2 x6<|
 zm fun m7=>
 zk 68 [x6] fun x8=>
 zm fun m10=>
 zk 138 [x3,x8] fun x11=>
 zf 45 1 t3 fun x13=>
 zl 3 x13 fun x14=>
 zx 3 x13 m10 x14<|
 zx 3 x13 m7 x14<|
 zx 3 x13 m2 x14<|
 zf 45 1 t4 fun x15=>
 zl 3 x15 fun x16=>
 zx 3 x15 m10 x16<|
 zx 3 x15 m7 x16<|
 zx 3 x15 m2 x16<|
 zb .add 3 x14 x16 fun x17=>
 zb .sub 3 x17 t2 fun x18=>
 zk 137 [x11,x18] fun x20=>
 zk 136 [x20,t2] fun x23=>
 ze 0 x23 fun x25=>
 ze 1 x23 fun x26=>
 zs t6 x25 3<|
 zr [.cell 0 45,.tmp 1] [t6,x26]
theorem g117_0_ok:OkG H g117_0 479232:=c4 fun _ _ _ _ _=>by kernel_rfl
def f117:List AV→CM:=a3 fun a0 a1 a2=>
 zo a0 fun x0=>
 zo a1 fun x1=>
 za [(.int .i64 0),(.int .u64 0),(.int .i64 0)] fun x2=>
 zl 45 x0 fun x3=>
 zk 78 [x3] fun x4=>
 zu x4 fun x5=>
 zI x5 (
 zd 45 [] fun x6=>
 zs x2 x6 3<|
 zr [.cell 0 45,.tmp 1] [x2,(.int .i64 21)]) (
 zl 45 x1 fun x8=>
 zk 78 [x8] fun x9=>
 zu x9 fun x10=>
 zI x10 (
 zd 45 [] fun x11=>
 zs x2 x11 3<|
 zr [.cell 0 45,.tmp 1] [x2,(.int .i64 21)]) (
 zb .lss 3 a2 (.int .i64 0) fun x13=>
 zI x13 (
 zd 45 [] fun x14=>
 zs x2 x14 3<|
 zr [.cell 0 45,.tmp 1] [x2,(.int .i64 21)]) (
 zb .gtr 3 a2 (.int .i64 18) fun x16=>
 zC x16 (
 zd 45 [] fun x17=>
 zs x2 x17 3<|
 zr [.cell 0 45,.tmp 1] [x2,(.int .i64 21)]) (
 zg 479232 [a2,x0,x1,x2]))))
theorem f117_ok (h:H 117=none):OkF H f117 117:=e3 h rfl fun _ _ _ _=>by kernel_rfl
def f118:List AV→CM:=a2 fun a0 a1=>
 zk 139 [a0] fun x0=>
 zI x0 (
 zk 139 [a1] fun x1=>
 zu x1 fun x2=>
 zI x2 (
 zR (.bool true)) (
 zb .lss 9 a0 a1 fun x3=>
 zR x3)) (
 zb .lss 9 a0 a1 fun x4=>
 zR x4)
theorem f118_ok (h:H 118=none):OkF H f118 118:=e2 h rfl fun _ _ _=>by kernel_rfl
def f119:List AV→CM:=a1 fun a0=>
 zb .neq 9 a0 a0 fun x0=>
 zR x0
theorem f119_ok (h:H 119=none):OkF H f119 119:=e1 h rfl fun _ _=>by kernel_rfl
def f126:List AV→CM:=a2 fun a0 a1=>
 zk 143 [a0] fun x0=>
 zI x0 (
 zk 143 [a1] fun x1=>
 zu x1 fun x2=>
 zI x2 (
 zR (.bool true)) (
 zb .lss 26 a0 a1 fun x3=>
 zR x3)) (
 zb .lss 26 a0 a1 fun x4=>
 zR x4)
theorem f126_ok (h:H 126=none):OkF H f126 126:=e2 h rfl fun _ _ _=>by kernel_rfl
def f127:List AV→CM:=a1 fun a0=>
 zb .neq 26 a0 a0 fun x0=>
 zR x0
theorem f127_ok (h:H 127=none):OkF H f127 127:=e1 h rfl fun _ _=>by kernel_rfl
def f132:List AV→CM:=a1 fun a0=>
 zo a0 fun x0=>
 zf 45 1 x0 fun x1=>
 zl 3 x1 fun x2=>
 zk 146 [x2] fun x3=>
 zR x3
theorem f132_ok (h:H 132=none):OkF H f132 132:=e1 h rfl fun _ _=>by kernel_rfl
def f133:List AV→CM:=a1 fun a0=>
 zo a0 fun x0=>
 zl 45 x0 fun x1=>
 zd 45 [] fun x2=>
 zk 147 [x1,x2] fun x3=>
 ze 0 x3 fun x4=>
 ze 1 x3 fun x5=>
 zb .eql 35 x5 (.int .i64 0) fun x6=>
 zI x6 (
 zb .gtr 3 x4 (.int .i64 0) fun x7=>
 zR x7) (
 zR (.bool false))
theorem f133_ok (h:H 133=none):OkF H f133 133:=e1 h rfl fun _ _=>by kernel_rfl
def j0l:List AV→CM:=a3 fun t1 t2 t4=>
 zb .lss 3 t4 (.int .i64 16) fun x0=>
 zC x0 (
 zg 552961 [t1,t2,t4]) (
 zg 552963 [t1,t2])
theorem g135_0_ok:OkG H j0l 552960:=c3 fun _ _ _ _=>by kernel_rfl
def j5y:List AV→CM:=a3 fun t1 t2 t4=>
 zf 123 1 t1 fun x0=>
 zi 121 x0 t4 fun x1=>
 zl 26 x1 fun x2=>
 zb .neq 26 x2 (.int .u64 0) fun x3=>
 zC x3 (
 zd 43 [] fun x4=>
 zs t2 x4 2<|
 zr [.cell 0 43,.tmp 1] [t2,(.bool false)]) (
 zg 552962 [t1,t2,t4])
theorem g135_1_ok:OkG H j5y 552961:=c3 fun _ _ _ _=>by kernel_rfl
def g135_2:List AV→CM:=a3 fun t1 t2 t4=>
 zb .add 3 t4 (.int .i64 1) fun x0=>
 zg 552960 [t1,t2,x0]
theorem g135_2_ok:OkG H g135_2 552962:=c3 fun _ _ _ _=>by kernel_rfl
def g135_3:List AV→CM:=a2 fun t1 t2=>
 zf 123 1 t1 fun x0=>
 zi 121 x0 (.int .i64 0) fun x1=>
 zl 26 x1 fun x2=>
 zf 123 1 t1 fun x3=>
 zi 121 x3 (.int .i64 1) fun x4=>
 zl 26 x4 fun x5=>
 zb .shl 26 x5 (.int .u64 32) fun x6=>
 zb .add 26 x2 x6 fun x7=>
 zf 123 1 t1 fun x8=>
 zi 121 x8 (.int .i64 2) fun x9=>
 zl 26 x9 fun x10=>
 zf 123 1 t1 fun x11=>
 zi 121 x11 (.int .i64 3) fun x12=>
 zl 26 x12 fun x13=>
 zb .shl 26 x13 (.int .u64 32) fun x14=>
 zb .add 26 x10 x14 fun x15=>
 zf 123 0 t1 fun x16=>
 zl 4 x16 fun x17=>
 zu x17 fun x18=>
 zC x18 (
 zc 26 2 x15 fun x19=>
 zd 43 [(0,x19),(1,x7)] fun x20=>
 zb .lss 26 x15 (.int .u64 9223372036854775808) fun x21=>
 zs t2 x20 2<|
 zr [.cell 0 43,.tmp 1] [t2,x21]) (
 zg 552964 [t2,x7,x15])
theorem g135_3_ok:OkG H g135_3 552963:=c2 fun _ _ _=>by kernel_rfl
def j0o:List AV→CM:=a3 fun t2 t5 t6=>
 zb .gtr 26 t6 (.int .u64 9223372036854775808) fun x0=>
 zI x0 (
 zd 43 [] fun x1=>
 zs t2 x1 2<|
 zr [.cell 0 43,.tmp 1] [t2,(.bool false)]) (
 zb .eql 26 t6 (.int .u64 9223372036854775808) fun x3=>
 zI x3 (
 zb .gtr 26 t5 (.int .u64 0) fun x4=>
 zC x4 (
 zd 43 [] fun x5=>
 zs t2 x5 2<|
 zr [.cell 0 43,.tmp 1] [t2,(.bool false)]) (
 zg 552965 [t2,t5,t6])) (
 zg 552965 [t2,t5,t6]))
theorem g135_4_ok:OkG H j0o 552964:=c3 fun _ _ _ _=>by kernel_rfl
def g135_5:List AV→CM:=a3 fun t2 t5 t6=>
 CM.pu (p1 (unA .xor) t5) fun x0=>
 CM.pu (p1 (unA .xor) t6) fun x1=>
 zb .add 26 x0 (.int .u64 1) fun x2=>
 zb .eql 26 x2 (.int .u64 0) fun x3=>
 zC x3 (
 zb .add 26 x1 (.int .u64 1) fun x4=>
 zg 552966 [t2,x2,x4]) (
 zg 552966 [t2,x2,x1])
theorem g135_5_ok:OkG H g135_5 552965:=c3 fun _ _ _ _=>by kernel_rfl
def g135_6:List AV→CM:=a3 fun t2 t5 t6=>
 zc 26 2 t6 fun x0=>
 zd 43 [(0,x0),(1,t5)] fun x1=>
 zs t2 x1 2<|
 zr [.cell 0 43,.tmp 1] [t2,(.bool true)]
theorem g135_6_ok:OkG H g135_6 552966:=c3 fun _ _ _ _=>by kernel_rfl
def f135:List AV→CM:=a1 fun a0=>
 zo a0 fun x0=>
 za [(.int .i64 0),(.int .u64 0)] fun x1=>
 zg 552960 [x0,x1,(.int .i64 4)]
theorem f135_ok (h:H 135=none):OkF H f135 135:=e1 h rfl fun _ _=>by kernel_rfl
def g136_0:List AV→CM:=a3 fun t1 t4 t6=>
 zl 43 t6 fun x0=>
 zd 45 [(0,x0),(1,t1)] fun x1=>
 zs t4 x1 3<|
 zr [.cell 0 45,.tmp 1] [t4,(.int .i64 0)]
theorem g136_0_ok:OkG H g136_0 557056:=c3 fun _ _ _ _=>by kernel_rfl
def f136:List AV→CM:=a2 fun a0 a1=>
 zo a0 fun x0=>
 za [(.int .i64 0),(.int .u64 0),(.int .i64 0)] fun x1=>
 zl 123 x0 fun x2=>
 zk 135 [x2] fun x3=>
 ze 0 x3 fun x4=>
 ze 1 x3 fun x5=>
 za [(.int .i64 0),(.int .u64 0)] fun x6=>
 zs x6 x4 2<|
 zu x5 fun x8=>
 zC x8 (
 zd 45 [] fun x9=>
 zs x1 x9 3<|
 zr [.cell 0 45,.tmp 1] [x1,(.int .i64 20)]) (
 zg 557056 [a1,x1,x6])
theorem f136_ok (h:H 136=none):OkF H f136 136:=e2 h rfl fun _ _ _=>by kernel_rfl
def j0r:List AV→CM:=a3 fun t1 t2 t4=>
 zk 151 [t1] fun x0=>
 za [(.int .u64 0),(.int .u64 0),(.int .u64 0),(.int .u64 0),(.int .u64 0),(.int .u64 0),(.int .u64 0),(.int .u64 0),(.int .u64 0),(.int .u64 0),(.int .u64 0),(.int .u64 0),(.int .u64 0),(.int .u64 0),(.int .u64 0),(.int .u64 0)] fun x1=>
 zs x1 x0 16<|
 zf 123 1 t2 fun x3=>
 zl 121 x3 fun x4=>
 zl 121 x1 fun x5=>
 zk 152 [x4,x5] fun x6=>
 ze 0 x6 fun x7=>
 ze 1 x6 fun x8=>
 za [(.int .u64 0),(.int .u64 0),(.int .u64 0),(.int .u64 0),(.int .u64 0),(.int .u64 0),(.int .u64 0),(.int .u64 0),(.int .u64 0),(.int .u64 0),(.int .u64 0),(.int .u64 0),(.int .u64 0),(.int .u64 0),(.int .u64 0),(.int .u64 0)] fun x9=>
 za [(.int .u64 0),(.int .u64 0),(.int .u64 0),(.int .u64 0),(.int .u64 0),(.int .u64 0),(.int .u64 0),(.int .u64 0),(.int .u64 0),(.int .u64 0),(.int .u64 0),(.int .u64 0),(.int .u64 0),(.int .u64 0),(.int .u64 0),(.int .u64 0)] fun x10=>
 zs x9 x7 16<|
 zs x10 x8 16<|
 za [(.int .u64 0),(.int .u64 0),(.int .u64 0),(.int .u64 0),(.int .u64 0),(.int .u64 0),(.int .u64 0),(.int .u64 0),(.int .u64 0),(.int .u64 0),(.int .u64 0),(.int .u64 0),(.int .u64 0),(.int .u64 0),(.int .u64 0),(.int .u64 0)] fun x13=>
 zi 121 x13 (.int .i64 0) fun x14=>
 zs x14 (.int .u64 1) 1<|
 zl 121 x10 fun x16=>
 zl 121 x10 fun x17=>
 zm fun m18=>
 zk 111 [x16,x17] fun x19=>
 zl 121 x1 fun x21=>
 zx 121 x1 m18 x21<|
 zk 112 [x19,x21] fun x23=>
 zb .gtr 3 x23 (.int .i64 0) fun x25=>
 zI x25 (
 zl 121 x9 fun x26=>
 zl 121 x13 fun x27=>
 zk 111 [x26,x27] fun x28=>
 zs x9 x28 16<|
 zg 561153 [t2,t4,x9]) (
 zb .eql 3 x23 (.int .i64 0) fun x30=>
 zI x30 (
 zi 121 x9 (.int .i64 0) fun x31=>
 zl 26 x31 fun x32=>
 zb .rem 26 x32 (.int .u64 2) fun x33=>
 zb .eql 26 x33 (.int .u64 1) fun x34=>
 zC x34 (
 zl 121 x9 fun x35=>
 zl 121 x13 fun x36=>
 zk 111 [x35,x36] fun x37=>
 zs x9 x37 16<|
 zg 561153 [t2,t4,x9]) (
 zg 561153 [t2,t4,x9])) (
 zg 561153 [t2,t4,x9]))
theorem g137_0_ok:OkG H j0r 561152:=c3 fun _ _ _ _=>by kernel_rfl
def g137_1:List AV→CM:=a3 fun t2 t4 t6=>
 zf 123 0 t2 fun x0=>
 zl 4 x0 fun x1=>
 zI x1 (
 zl 121 t6 fun x2=>
 zm fun m3=>
 zk 70 [x2] fun x4=>
 zu x4 fun x6=>
 zl 121 t6 fun x7=>
 zx 121 t6 m3 x7<|
 zd 123 [(0,x6),(1,x7)] fun x8=>
 zs t4 x8 17<|
 zr [.cell 0 123] [t4]) (
 zl 121 t6 fun x12=>
 zd 123 [(0,(.bool false)),(1,x12)] fun x13=>
 zs t4 x13 17<|
 zr [.cell 0 123] [t4])
theorem g137_1_ok:OkG H g137_1 561153:=c3 fun _ _ _ _=>by kernel_rfl
def f137:List AV→CM:=a2 fun a0 a1=>
 zo a0 fun x0=>
 za [(.bool false),(.int .u64 0),(.int .u64 0),(.int .u64 0),(.int .u64 0),(.int .u64 0),(.int .u64 0),(.int .u64 0),(.int .u64 0),(.int .u64 0),(.int .u64 0),(.int .u64 0),(.int .u64 0),(.int .u64 0),(.int .u64 0),(.int .u64 0),(.int .u64 0)] fun x1=>
 zb .leq 3 a1 (.int .i64 0) fun x2=>
 zC x2 (
 zl 123 x0 fun x3=>
 CM.pu (p1 (unA .neg) a1) fun x4=>
 zk 151 [x4] fun x6=>
 zm fun m7=>
 zx 123 x0 m7 x3<|
 zd 123 [(0,(.bool false)),(1,x6)] fun x8=>
 zk 138 [x3,x8] fun x10=>
 zs x1 x10 17<|
 zr [.cell 0 123] [x1]) (
 zg 561152 [a1,x0,x1])
theorem f137_ok (h:H 137=none):OkF H f137 137:=e2 h rfl fun _ _ _=>by kernel_rfl
end
end
end Go.Proofs.YtlginbmjiecglaaGreatDoor.T
