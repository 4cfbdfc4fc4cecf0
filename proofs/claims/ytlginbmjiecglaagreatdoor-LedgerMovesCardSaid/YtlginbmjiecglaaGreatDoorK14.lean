/- Texts of one claim, put together. -/
import Derived.Test.YtlginbmjiecglaaGreatDoorK0
import Derived.Test.YtlginbmjiecglaaGreatDoorK12
namespace Go.Proofs.YtlginbmjiecglaaGreatDoor.T
section
open Go Go.Abs Go.Proofs.YtlginbmjiecglaaGreatDoor
set_option maxRecDepth 10000
noncomputable section
variable {H:FuncId→Option (List AV→Mem→R)}
def g20_0:List AV→CM:=a0<|
 zR (.int .i64 1)
theorem g20_0_ok:OkG H g20_0 81920:=c0 fun _=>by kernel_rfl
def f20:List AV→CM:=a2 fun a0 a1=>
 zo a0 fun x0=>
 zo a1 fun x1=>
 zf 43 0 x0 fun x2=>
 zl 2 x2 fun x3=>
 zf 43 0 x1 fun x4=>
 zl 2 x4 fun x5=>
 zb .lss 2 x3 x5 fun x6=>
 zI x6 (
 zR (.int .i64 (-1))) (
 zf 43 0 x0 fun x7=>
 zl 2 x7 fun x8=>
 zf 43 0 x1 fun x9=>
 zl 2 x9 fun x10=>
 zb .eql 2 x8 x10 fun x11=>
 zI x11 (
 zf 43 1 x0 fun x12=>
 zl 26 x12 fun x13=>
 zf 43 1 x1 fun x14=>
 zl 26 x14 fun x15=>
 zb .lss 26 x13 x15 fun x16=>
 zC x16 (
 zR (.int .i64 (-1))) (
 zl 43 x0 fun x17=>
 zl 43 x1 fun x18=>
 zb .eql 43 x17 x18 fun x19=>
 zC x19 (
 zR (.int .i64 0)) (
 zg 81920 []))) (
 zl 43 x0 fun x20=>
 zl 43 x1 fun x21=>
 zb .eql 43 x20 x21 fun x22=>
 zC x22 (
 zR (.int .i64 0)) (
 zg 81920 [])))
theorem f20_ok (h:H 20=none):OkF H f20 20:=e2 h rfl fun _ _ _=>by kernel_rfl
def g21_0:List AV→CM:=a3 fun t4 t6 t8=>
 zc 26 2 t8 fun x0=>
 zd 43 [(0,x0),(1,t6)] fun x1=>
 zs t4 x1 2<|
 zr [.cell 0 43,.tmp 1] [t4,(.int .i64 0)]
theorem j57:OkG H g21_0 86016:=c3 fun _ _ _ _=>by kernel_rfl
def f21:List AV→CM:=a2 fun a0 a1=>
 zo a0 fun x0=>
 zo a1 fun x1=>
 za [(.int .i64 0),(.int .u64 0)] fun x2=>
 zf 43 1 x0 fun x3=>
 zl 26 x3 fun x4=>
 zf 43 1 x1 fun x5=>
 zl 26 x5 fun x6=>
 zk 59 [x4,x6,(.int .u64 0)] fun x7=>
 ze 0 x7 fun x8=>
 ze 1 x7 fun x9=>
 zf 43 0 x0 fun x10=>
 zl 2 x10 fun x11=>
 zc 2 26 x11 fun x12=>
 zf 43 0 x1 fun x13=>
 zl 2 x13 fun x14=>
 zc 2 26 x14 fun x15=>
 zk 59 [x12,x15,x9] fun x16=>
 ze 0 x16 fun x17=>
 ze 1 x16 fun _=>
 zf 43 0 x0 fun x19=>
 zl 2 x19 fun x20=>
 zb .lss 2 x20 (.int .i64 0) fun x21=>
 zf 43 0 x1 fun x22=>
 zl 2 x22 fun x23=>
 zb .lss 2 x23 (.int .i64 0) fun x24=>
 zb .eql 4 x21 x24 fun x25=>
 zI x25 (
 zc 26 2 x17 fun x26=>
 zb .lss 2 x26 (.int .i64 0) fun x27=>
 zf 43 0 x0 fun x28=>
 zl 2 x28 fun x29=>
 zb .lss 2 x29 (.int .i64 0) fun x30=>
 zb .neq 4 x27 x30 fun x31=>
 zC x31 (
 zd 43 [] fun x32=>
 zs x2 x32 2<|
 zr [.cell 0 43,.tmp 1] [x2,(.int .i64 20)]) (
 zg 86016 [x2,x8,x17])) (
 zg 86016 [x2,x8,x17])
theorem f21_ok (h:H 21=none):OkF H f21 21:=e2 h rfl fun _ _ _=>by kernel_rfl
def g22_0:List AV→CM:=a3 fun t4 t6 t8=>
 zc 26 2 t8 fun x0=>
 zd 43 [(0,x0),(1,t6)] fun x1=>
 zs t4 x1 2<|
 zr [.cell 0 43,.tmp 1] [t4,(.int .i64 0)]
theorem j58:OkG H g22_0 90112:=c3 fun _ _ _ _=>by kernel_rfl
def f22:List AV→CM:=a2 fun a0 a1=>
 zo a0 fun x0=>
 zo a1 fun x1=>
 za [(.int .i64 0),(.int .u64 0)] fun x2=>
 zf 43 1 x0 fun x3=>
 zl 26 x3 fun x4=>
 zf 43 1 x1 fun x5=>
 zl 26 x5 fun x6=>
 zk 60 [x4,x6,(.int .u64 0)] fun x7=>
 ze 0 x7 fun x8=>
 ze 1 x7 fun x9=>
 zf 43 0 x0 fun x10=>
 zl 2 x10 fun x11=>
 zc 2 26 x11 fun x12=>
 zf 43 0 x1 fun x13=>
 zl 2 x13 fun x14=>
 zc 2 26 x14 fun x15=>
 zk 60 [x12,x15,x9] fun x16=>
 ze 0 x16 fun x17=>
 ze 1 x16 fun _=>
 zf 43 0 x0 fun x19=>
 zl 2 x19 fun x20=>
 zb .lss 2 x20 (.int .i64 0) fun x21=>
 zf 43 0 x1 fun x22=>
 zl 2 x22 fun x23=>
 zb .lss 2 x23 (.int .i64 0) fun x24=>
 zb .neq 4 x21 x24 fun x25=>
 zI x25 (
 zc 26 2 x17 fun x26=>
 zb .lss 2 x26 (.int .i64 0) fun x27=>
 zf 43 0 x0 fun x28=>
 zl 2 x28 fun x29=>
 zb .lss 2 x29 (.int .i64 0) fun x30=>
 zb .neq 4 x27 x30 fun x31=>
 zC x31 (
 zd 43 [] fun x32=>
 zs x2 x32 2<|
 zr [.cell 0 43,.tmp 1] [x2,(.int .i64 20)]) (
 zg 90112 [x2,x8,x17])) (
 zg 90112 [x2,x8,x17])
theorem f22_ok (h:H 22=none):OkF H f22 22:=e2 h rfl fun _ _ _=>by kernel_rfl
def j9o:List AV→CM:=a2 fun t2 t3=>
 zl 45 t3 fun x0=>
 zs t2 x0 3<|
 zr [.cell 0 45] [t2]
theorem g26_0_ok:OkG H j9o 106496:=c2 fun _ _ _=>by kernel_rfl
def f26:List AV→CM:=a1 fun a0=>
 za [(.int .i64 0),(.int .u64 0),(.int .i64 0)] fun x0=>
 zk 10 [a0,(.int .i64 5000)] fun x1=>
 zc 3 26 x1 fun x2=>
 zd 43 [(1,x2)] fun x3=>
 zd 45 [(0,x3),(1,(.int .i64 2))] fun x4=>
 za [(.int .i64 0),(.int .u64 0),(.int .i64 0)] fun x5=>
 zs x5 x4 3<|
 zb .quo 3 a0 (.int .i64 7) fun x7=>
 zk 10 [x7,(.int .i64 24)] fun x8=>
 zb .eql 3 x8 (.int .i64 0) fun x9=>
 zC x9 (
 zb .quo 3 a0 (.int .i64 13) fun x10=>
 zk 10 [x10,(.int .i64 19)] fun x11=>
 zf 45 1 x5 fun x12=>
 zs x12 x11 1<|
 zg 106496 [x0,x5]) (
 zb .eql 3 x8 (.int .i64 1) fun x14=>
 zC x14 (
 zd 43 [(0,(.int .i64 9223372036854775807)),(1,(.int .u64 18446744073709551615))] fun x15=>
 zf 45 0 x5 fun x16=>
 zs x16 x15 2<|
 zg 106496 [x0,x5]) (
 zb .eql 3 x8 (.int .i64 2) fun x18=>
 zC x18 (
 zd 43 [(0,(.int .i64 (-1))),(1,(.int .u64 18446744073709551615))] fun x19=>
 zf 45 0 x5 fun x20=>
 zs x20 x19 2<|
 zg 106496 [x0,x5]) (
 zb .eql 3 x8 (.int .i64 3) fun x22=>
 zC x22 (
 zk 10 [a0,(.int .i64 4611686018427387904)] fun x23=>
 zf 45 0 x5 fun x24=>
 zf 43 0 x24 fun x25=>
 zs x25 x23 1<|
 zg 106496 [x0,x5]) (
 zg 106496 [x0,x5]))))
theorem f26_ok (h:H 26=none):OkF H f26 26:=e1 h rfl fun _ _=>by kernel_rfl
def g27_0:List AV→CM:=a3 fun t0 t1 t2=>
 zg 110593 [t0,t1,t2,(.int .i64 0)]
theorem g27_0_ok:OkG H g27_0 110592:=c3 fun _ _ _ _=>by kernel_rfl
def g27_1:List AV→CM:=a4 fun t0 t1 t2 t7=>
 zn t0 fun x0=>
 zf 61 0 x0 fun x1=>
 zf 28 0 x1 fun x2=>
 zl 23 x2 fun x3=>
 zt 23 x3 fun x4=>
 zb .lss 3 t7 x4 fun x5=>
 zI x5 (
 zn t0 fun x6=>
 zf 61 0 x6 fun x7=>
 zf 28 0 x7 fun x8=>
 zl 23 x8 fun x9=>
 zi 23 x9 t7 fun x10=>
 zf 56 0 x10 fun x11=>
 zl 9 x11 fun x12=>
 zb .lss 9 x12 t1 fun x13=>
 zC x13 (
 zg 110594 [t0,t1,t2,t7]) (
 zg 110595 [t0,t1,t2,t7])) (
 zg 110595 [t0,t1,t2,t7])
theorem g27_1_ok:OkG H g27_1 110593:=c4 fun _ _ _ _ _=>by kernel_rfl
def g27_2:List AV→CM:=a4 fun t0 t1 t2 t7=>
 zb .add 3 t7 (.int .i64 1) fun x0=>
 zg 110593 [t0,t1,t2,x0]
theorem g27_2_ok:OkG H g27_2 110594:=c4 fun _ _ _ _ _=>by kernel_rfl
def g27_3:List AV→CM:=a4 fun t0 t1 t2 t7=>
 zn t0 fun x0=>
 zf 61 0 x0 fun x1=>
 zf 28 0 x1 fun x2=>
 zl 23 x2 fun x3=>
 CM.pu (p2 (fun a h=>q0q Tryz.prog 23 a none (some h)) x3 t7) fun x4=>
 zm fun m5=>
 CM.ef (apE 4 40 (.sl none 0 0 0 true) x4) fun x6=>
 zc 26 3 t2 fun x8=>
 zd 56 [(0,t1),(1,x8)] fun x9=>
 CM.al (bsA 4 1 [(.str []),(.int .i64 0),(.int .i64 0),(.int .u64 0)] [(0,x9)]) fun x10=>
 zm fun m11=>
 CM.ef (apE 4 40 x6 x10) fun x12=>
 zn t0 fun x14=>
 zf 61 0 x14 fun x15=>
 zf 28 0 x15 fun x16=>
 zl 23 x16 fun x17=>
 zx 23 x16 m11 x17<|
 zx 23 x16 m5 x17<|
 CM.pu (p2 (fun a l=>q0q Tryz.prog 23 a (some l) none) x17 t7) fun x18=>
 CM.ef (apE 4 40 x12 x18) fun x20=>
 zn t0 fun x22=>
 zf 61 0 x22 fun x23=>
 zf 28 0 x23 fun x24=>
 zs x24 x20 1<|
 zR (.int .i64 0)
theorem g27_3_ok:OkG H g27_3 110595:=c4 fun _ _ _ _ _=>by kernel_rfl
def f27:List AV→CM:=a3 fun a0 a1 a2=>
 zk 35 [a1] fun x0=>
 zu x0 fun x1=>
 zC x1 (
 zR (.int .i64 41)) (
 zb .gtr 26 a2 (.int .u64 18) fun x2=>
 zC x2 (
 zR (.int .i64 21)) (
 zk 36 [a0,a1] fun x3=>
 zb .geq 3 x3 (.int .i64 0) fun x4=>
 zC x4 (
 zR (.int .i64 45)) (
 zn a0 fun x5=>
 zf 61 0 x5 fun x6=>
 zf 28 0 x6 fun x7=>
 zl 23 x7 fun x8=>
 zt 23 x8 fun x9=>
 zb .geq 3 x9 (.int .i64 8) fun x10=>
 zC x10 (
 zR (.int .i64 2)) (
 zg 110592 [a0,a1,a2]))))
theorem f27_ok (h:H 27=none):OkF H f27 27:=e3 h rfl fun _ _ _ _=>by kernel_rfl
def g28_0:List AV→CM:=a2 fun t0 t1=>
 zn t0 fun x0=>
 zf 61 0 x0 fun x1=>
 zf 28 2 x1 fun x2=>
 zl 25 x2 fun x3=>
 zt 25 x3 fun x4=>
 zn t0 fun x5=>
 zf 61 1 x5 fun x6=>
 zl 3 x6 fun x7=>
 zb .geq 3 x4 x7 fun x8=>
 zI x8 (
 zR (.tup [(.int .u64 0),(.int .i64 2)])) (
 zn t0 fun x9=>
 zf 61 0 x9 fun x10=>
 zf 28 3 x10 fun x11=>
 zl 26 x11 fun x12=>
 zb .geq 26 x12 (.int .u64 72057594037927935) fun x13=>
 zC x13 (
 zR (.tup [(.int .u64 0),(.int .i64 2)])) (
 zg 114689 [t0,t1]))
theorem g28_0_ok:OkG H g28_0 114688:=c2 fun _ _ _=>by kernel_rfl
def g28_1:List AV→CM:=a2 fun t0 t1=>
 zn t0 fun x0=>
 zf 61 0 x0 fun x1=>
 zf 28 3 x1 fun x2=>
 zl 26 x2 fun x3=>
 zb .add 26 x3 (.int .u64 1) fun x4=>
 zn t0 fun x5=>
 zf 61 0 x5 fun x6=>
 zf 28 3 x6 fun x7=>
 zs x7 x4 1<|
 CM.al (some (.cells [] false,sB 4 0)) fun x9=>
 zn t0 fun x10=>
 zf 61 0 x10 fun x11=>
 zf 28 2 x11 fun x12=>
 zl 25 x12 fun x13=>
 zm fun m14=>
 CM.ef (apE 4 40 x9 x13) fun x15=>
 zn t0 fun x17=>
 zf 61 0 x17 fun x18=>
 zf 28 3 x18 fun x19=>
 zl 26 x19 fun x20=>
 zx 26 x19 m14 x20<|
 zd 54 [(0,x20),(1,t1)] fun x21=>
 CM.al (bsA 4 1 [(.int .u64 0),(.str []),(.int .i64 0),(.int .u64 0)] [(0,x21)]) fun x22=>
 CM.ef (apE 4 40 x15 x22) fun x24=>
 zn t0 fun x26=>
 zf 61 0 x26 fun x27=>
 zf 28 2 x27 fun x28=>
 zs x28 x24 1<|
 zn t0 fun x32=>
 zf 61 0 x32 fun x33=>
 zf 28 3 x33 fun x34=>
 zl 26 x34 fun x35=>
 zR (.tup [x35,(.int .i64 0)])
theorem g28_1_ok:OkG H g28_1 114689:=c2 fun _ _ _=>by kernel_rfl
def f28:List AV→CM:=a2 fun a0 a1=>
 zk 36 [a0,a1] fun x0=>
 zb .lss 3 x0 (.int .i64 0) fun x1=>
 zC x1 (
 zR (.tup [(.int .u64 0),(.int .i64 41)])) (
 zg 114688 [a0,a1])
theorem f28_ok (h:H 28=none):OkF H f28 28:=e2 h rfl fun _ _ _=>by kernel_rfl
def g29_0:List AV→CM:=a3 fun t0 t5 t7=>
 zn t0 fun x0=>
 zf 61 0 x0 fun x1=>
 zf 28 2 x1 fun x2=>
 zl 25 x2 fun x3=>
 zi 25 x3 t7 fun x4=>
 zf 54 1 x4 fun x5=>
 zl 9 x5 fun x6=>
 zl 45 t5 fun x7=>
 zk 72 [t0,x6,x7] fun x9=>
 zb .neq 35 x9 (.int .i64 0) fun x11=>
 zC x11 (
 zR x9) (
 zg 118785 [t0,t5,t7])
theorem g29_0_ok:OkG H g29_0 118784:=c3 fun _ _ _ _=>by kernel_rfl
def g29_1:List AV→CM:=a3 fun t0 t5 t7=>
 zn t0 fun x0=>
 zf 61 0 x0 fun x1=>
 zf 28 2 x1 fun x2=>
 zl 25 x2 fun x3=>
 zi 25 x3 t7 fun x4=>
 zf 54 1 x4 fun x5=>
 zl 9 x5 fun x6=>
 zk 36 [t0,x6] fun x7=>
 zn t0 fun x8=>
 zf 61 0 x8 fun x9=>
 zf 28 2 x9 fun x10=>
 zl 25 x10 fun x11=>
 zi 25 x11 t7 fun x12=>
 zf 54 2 x12 fun x13=>
 zl 43 x13 fun x14=>
 zf 45 0 t5 fun x15=>
 zl 43 x15 fun x16=>
 zk 73 [x14,x16] fun x18=>
 ze 0 x18 fun x20=>
 ze 1 x18 fun x21=>
 za [(.int .i64 0),(.int .u64 0)] fun x22=>
 zs x22 x20 2<|
 zn t0 fun x26=>
 zf 61 0 x26 fun x27=>
 zf 28 0 x27 fun x28=>
 zl 23 x28 fun x29=>
 zi 23 x29 x7 fun x30=>
 zf 56 2 x30 fun x31=>
 zl 43 x31 fun x32=>
 zf 45 0 t5 fun x33=>
 zl 43 x33 fun x34=>
 zk 74 [x32,x34] fun x36=>
 ze 0 x36 fun x38=>
 ze 1 x36 fun x39=>
 za [(.int .i64 0),(.int .u64 0)] fun x40=>
 zs x40 x38 2<|
 zb .neq 35 x21 (.int .i64 0) fun x44=>
 zI x44 (
 zR (.int .i64 20)) (
 zb .neq 35 x39 (.int .i64 0) fun x45=>
 zC x45 (
 zR (.int .i64 20)) (
 zg 118786 [t0,t7,x7,x22,x40]))
theorem g29_1_ok:OkG H g29_1 118785:=c3 fun _ _ _ _=>by kernel_rfl
def g29_2:List AV→CM:=a5 fun t0 t7 t9 t10 t12=>
 zn t0 fun x0=>
 zf 61 0 x0 fun x1=>
 zf 28 2 x1 fun x2=>
 zl 25 x2 fun x3=>
 zl 43 t10 fun x4=>
 zi 25 x3 t7 fun x5=>
 zf 54 2 x5 fun x6=>
 zs x6 x4 2<|
 zn t0 fun x10=>
 zf 61 0 x10 fun x11=>
 zf 28 0 x11 fun x12=>
 zl 23 x12 fun x13=>
 zl 43 t12 fun x14=>
 zi 23 x13 t9 fun x15=>
 zf 56 2 x15 fun x16=>
 zs x16 x14 2<|
 zR (.int .i64 0)
theorem g29_2_ok:OkG H g29_2 118786:=c5 fun _ _ _ _ _ _=>by kernel_rfl
def f29:List AV→CM:=a3 fun a0 a1 a2=>
 zo a2 fun x0=>
 zk 71 [a0,a1] fun x1=>
 zb .lss 3 x1 (.int .i64 0) fun x2=>
 zC x2 (
 zR (.int .i64 40)) (
 zg 118784 [a0,x0,x1])
theorem f29_ok (h:H 29=none):OkF H f29 29:=e3 h rfl fun _ _ _ _=>by kernel_rfl
def f30:List AV→CM:=a3 fun a0 a1 a2=>
 za [(.int .i64 0),(.int .u64 0),(.int .i64 0)] fun x0=>
 zk 64 [a0,a1] fun x1=>
 ze 0 x1 fun x2=>
 ze 1 x1 fun _=>
 za [(.int .i64 0),(.int .u64 0),(.int .i64 0)] fun x4=>
 zs x4 x2 3<|
 zk 26 [a2] fun x6=>
 za [(.int .i64 0),(.int .u64 0),(.int .i64 0)] fun x7=>
 zs x7 x6 3<|
 zf 45 1 x4 fun x9=>
 zl 3 x9 fun x10=>
 zf 45 1 x7 fun x11=>
 zs x11 x10 1<|
 zl 45 x7 fun x13=>
 zs x0 x13 3<|
 zr [.cell 0 45] [x0]
theorem f30_ok (h:H 30=none):OkF H f30 30:=e3 h rfl fun _ _ _ _=>by kernel_rfl
def g31_0:List AV→CM:=a3 fun t0 t5 t7=>
 zn t0 fun x0=>
 zf 61 0 x0 fun x1=>
 zf 28 2 x1 fun x2=>
 zl 25 x2 fun x3=>
 zi 25 x3 t7 fun x4=>
 zf 54 1 x4 fun x5=>
 zl 9 x5 fun x6=>
 zl 45 t5 fun x7=>
 zk 72 [t0,x6,x7] fun x9=>
 zb .neq 35 x9 (.int .i64 0) fun x11=>
 zC x11 (
 zR x9) (
 zg 126977 [t0,t5,t7])
theorem g31_0_ok:OkG H g31_0 126976:=c3 fun _ _ _ _=>by kernel_rfl
def g31_1:List AV→CM:=a3 fun t0 t5 t7=>
 zn t0 fun x0=>
 zf 61 0 x0 fun x1=>
 zf 28 2 x1 fun x2=>
 zl 25 x2 fun x3=>
 zi 25 x3 t7 fun x4=>
 zf 54 1 x4 fun x5=>
 zl 9 x5 fun x6=>
 zk 36 [t0,x6] fun x7=>
 zn t0 fun x8=>
 zf 61 0 x8 fun x9=>
 zf 28 2 x9 fun x10=>
 zl 25 x10 fun x11=>
 zi 25 x11 t7 fun x12=>
 zf 54 2 x12 fun x13=>
 zl 43 x13 fun x14=>
 zf 45 0 t5 fun x15=>
 zl 43 x15 fun x16=>
 zk 75 [x14,x16] fun x18=>
 zb .lss 3 x18 (.int .i64 0) fun x20=>
 zC x20 (
 zR (.int .i64 42)) (
 zg 126978 [t0,t5,t7,x7])
theorem g31_1_ok:OkG H g31_1 126977:=c3 fun _ _ _ _=>by kernel_rfl
def g31_2:List AV→CM:=a4 fun t0 t5 t7 t9=>
 zn t0 fun x0=>
 zf 61 0 x0 fun x1=>
 zf 28 2 x1 fun x2=>
 zl 25 x2 fun x3=>
 zi 25 x3 t7 fun x4=>
 zf 54 2 x4 fun x5=>
 zl 43 x5 fun x6=>
 zf 45 0 t5 fun x7=>
 zl 43 x7 fun x8=>
 zk 74 [x6,x8] fun x10=>
 ze 0 x10 fun x12=>
 ze 1 x10 fun _=>
 za [(.int .i64 0),(.int .u64 0)] fun x14=>
 zs x14 x12 2<|
 zn t0 fun x18=>
 zf 61 0 x18 fun x19=>
 zf 28 0 x19 fun x20=>
 zl 23 x20 fun x21=>
 zi 23 x21 t9 fun x22=>
 zf 56 2 x22 fun x23=>
 zl 43 x23 fun x24=>
 zf 45 0 t5 fun x25=>
 zl 43 x25 fun x26=>
 zk 73 [x24,x26] fun x28=>
 ze 0 x28 fun x30=>
 ze 1 x28 fun x31=>
 za [(.int .i64 0),(.int .u64 0)] fun x32=>
 zs x32 x30 2<|
 zb .neq 35 x31 (.int .i64 0) fun x36=>
 zC x36 (
 zR (.int .i64 20)) (
 zg 126979 [t0,t7,t9,x14,x32])
theorem g31_2_ok:OkG H g31_2 126978:=c4 fun _ _ _ _ _=>by kernel_rfl
def g31_3:List AV→CM:=a5 fun t0 t7 t9 t10 t12=>
 zn t0 fun x0=>
 zf 61 0 x0 fun x1=>
 zf 28 2 x1 fun x2=>
 zl 25 x2 fun x3=>
 zl 43 t10 fun x4=>
 zi 25 x3 t7 fun x5=>
 zf 54 2 x5 fun x6=>
 zs x6 x4 2<|
 zn t0 fun x10=>
 zf 61 0 x10 fun x11=>
 zf 28 0 x11 fun x12=>
 zl 23 x12 fun x13=>
 zl 43 t12 fun x14=>
 zi 23 x13 t9 fun x15=>
 zf 56 2 x15 fun x16=>
 zs x16 x14 2<|
 zR (.int .i64 0)
theorem g31_3_ok:OkG H g31_3 126979:=c5 fun _ _ _ _ _ _=>by kernel_rfl
def f31:List AV→CM:=a3 fun a0 a1 a2=>
 zo a2 fun x0=>
 zk 71 [a0,a1] fun x1=>
 zb .lss 3 x1 (.int .i64 0) fun x2=>
 zC x2 (
 zR (.int .i64 40)) (
 zg 126976 [a0,x0,x1])
theorem f31_ok (h:H 31=none):OkF H f31 31:=e3 h rfl fun _ _ _ _=>by kernel_rfl
def j3m:List AV→CM:=a4 fun t0 t7 t9 t10=>
 zb .eql 3 t9 t10 fun x0=>
 zC x0 (
 zR (.int .i64 45)) (
 zg 131073 [t0,t7,t9,t10])
theorem g32_0_ok:OkG H j3m 131072:=c4 fun _ _ _ _ _=>by kernel_rfl
def j9p:List AV→CM:=a4 fun t0 t7 t9 t10=>
 zn t0 fun x0=>
 zf 61 0 x0 fun x1=>
 zf 28 2 x1 fun x2=>
 zl 25 x2 fun x3=>
 zi 25 x3 t9 fun x4=>
 zf 54 1 x4 fun x5=>
 zl 9 x5 fun x6=>
 zn t0 fun x7=>
 zf 61 0 x7 fun x8=>
 zf 28 2 x8 fun x9=>
 zl 25 x9 fun x10=>
 zi 25 x10 t10 fun x11=>
 zf 54 1 x11 fun x12=>
 zl 9 x12 fun x13=>
 zb .neq 9 x6 x13 fun x14=>
 zC x14 (
 zR (.int .i64 41)) (
 zg 131074 [t0,t7,t9,t10])
theorem g32_1_ok:OkG H j9p 131073:=c4 fun _ _ _ _ _=>by kernel_rfl
def g32_2:List AV→CM:=a4 fun t0 t7 t9 t10=>
 zn t0 fun x0=>
 zf 61 0 x0 fun x1=>
 zf 28 2 x1 fun x2=>
 zl 25 x2 fun x3=>
 zi 25 x3 t9 fun x4=>
 zf 54 1 x4 fun x5=>
 zl 9 x5 fun x6=>
 zl 45 t7 fun x7=>
 zk 72 [t0,x6,x7] fun x9=>
 zb .neq 35 x9 (.int .i64 0) fun x11=>
 zC x11 (
 zR x9) (
 zg 131075 [t0,t7,t9,t10])
theorem g32_2_ok:OkG H g32_2 131074:=c4 fun _ _ _ _ _=>by kernel_rfl
def g32_3:List AV→CM:=a4 fun t0 t7 t9 t10=>
 zn t0 fun x0=>
 zf 61 0 x0 fun x1=>
 zf 28 2 x1 fun x2=>
 zl 25 x2 fun x3=>
 zi 25 x3 t9 fun x4=>
 zf 54 2 x4 fun x5=>
 zl 43 x5 fun x6=>
 zf 45 0 t7 fun x7=>
 zl 43 x7 fun x8=>
 zk 75 [x6,x8] fun x10=>
 zb .lss 3 x10 (.int .i64 0) fun x12=>
 zC x12 (
 zR (.int .i64 42)) (
 zg 131076 [t0,t7,t9,t10])
theorem g32_3_ok:OkG H g32_3 131075:=c4 fun _ _ _ _ _=>by kernel_rfl
def g32_4:List AV→CM:=a4 fun t0 t7 t9 t10=>
 zn t0 fun x0=>
 zf 61 0 x0 fun x1=>
 zf 28 2 x1 fun x2=>
 zl 25 x2 fun x3=>
 zi 25 x3 t9 fun x4=>
 zf 54 2 x4 fun x5=>
 zl 43 x5 fun x6=>
 zf 45 0 t7 fun x7=>
 zl 43 x7 fun x8=>
 zk 74 [x6,x8] fun x10=>
 ze 0 x10 fun x12=>
 ze 1 x10 fun _=>
 za [(.int .i64 0),(.int .u64 0)] fun x14=>
 zs x14 x12 2<|
 zn t0 fun x18=>
 zf 61 0 x18 fun x19=>
 zf 28 2 x19 fun x20=>
 zl 25 x20 fun x21=>
 zi 25 x21 t10 fun x22=>
 zf 54 2 x22 fun x23=>
 zl 43 x23 fun x24=>
 zf 45 0 t7 fun x25=>
 zl 43 x25 fun x26=>
 zk 73 [x24,x26] fun x28=>
 ze 0 x28 fun x30=>
 ze 1 x28 fun x31=>
 za [(.int .i64 0),(.int .u64 0)] fun x32=>
 zs x32 x30 2<|
 zb .neq 35 x31 (.int .i64 0) fun x36=>
 zC x36 (
 zR (.int .i64 20)) (
 zg 131077 [t0,t9,t10,x14,x32])
theorem g32_4_ok:OkG H g32_4 131076:=c4 fun _ _ _ _ _=>by kernel_rfl
def g32_5:List AV→CM:=a5 fun t0 t9 t10 t12 t14=>
 zn t0 fun x0=>
 zf 61 0 x0 fun x1=>
 zf 28 2 x1 fun x2=>
 zl 25 x2 fun x3=>
 zl 43 t12 fun x4=>
 zi 25 x3 t9 fun x5=>
 zf 54 2 x5 fun x6=>
 zs x6 x4 2<|
 zn t0 fun x10=>
 zf 61 0 x10 fun x11=>
 zf 28 2 x11 fun x12=>
 zl 25 x12 fun x13=>
 zl 43 t14 fun x14=>
 zi 25 x13 t10 fun x15=>
 zf 54 2 x15 fun x16=>
 zs x16 x14 2<|
 zR (.int .i64 0)
theorem g32_5_ok:OkG H g32_5 131077:=c5 fun _ _ _ _ _ _=>by kernel_rfl
def f32:List AV→CM:=a4 fun a0 a1 a2 a3=>
 zo a3 fun x0=>
 zk 71 [a0,a1] fun x1=>
 zk 71 [a0,a2] fun x2=>
 zb .lss 3 x1 (.int .i64 0) fun x3=>
 zI x3 (
 zR (.int .i64 40)) (
 zb .lss 3 x2 (.int .i64 0) fun x4=>
 zC x4 (
 zR (.int .i64 40)) (
 zg 131072 [a0,x0,x1,x2]))
theorem f32_ok (h:H 32=none):OkF H f32 32:=e4 h rfl fun _ _ _ _ _=>by kernel_rfl
def g33_0:List AV→CM:=a4 fun t0 t1 t2 t7=>
 zb .eql 9 t1 t2 fun x0=>
 zC x0 (
 zR (.int .i64 45)) (
 zg 135169 [t0,t1,t2,t7])
theorem g33_0_ok:OkG H g33_0 135168:=c4 fun _ _ _ _ _=>by kernel_rfl
def g33_1:List AV→CM:=a4 fun t0 t1 t2 t7=>
 zl 45 t7 fun x0=>
 zk 37 [x0] fun x1=>
 zb .neq 35 x1 (.int .i64 0) fun x2=>
 zC x2 (
 zR x1) (
 zg 135170 [t0,t1,t2,t7])
theorem g33_1_ok:OkG H g33_1 135169:=c4 fun _ _ _ _ _=>by kernel_rfl
def g33_2:List AV→CM:=a4 fun t0 t1 t2 t7=>
 zk 76 [t0,t1,t2] fun x0=>
 zb .geq 3 x0 (.int .i64 0) fun x1=>
 zC x1 (
 zn t0 fun x2=>
 zf 61 0 x2 fun x3=>
 zf 28 1 x3 fun x4=>
 zl 24 x4 fun x5=>
 zl 45 t7 fun x6=>
 zi 24 x5 x0 fun x7=>
 zf 74 2 x7 fun x8=>
 zs x8 x6 3<|
 zR (.int .i64 0)) (
 zg 135171 [t0,t1,t2,t7])
theorem g33_2_ok:OkG H g33_2 135170:=c4 fun _ _ _ _ _=>by kernel_rfl
def g33_3:List AV→CM:=a4 fun t0 t1 t2 t7=>
 zg 135172 [t0,t1,t2,t7,(.int .i64 0)]
theorem g33_3_ok:OkG H g33_3 135171:=c4 fun _ _ _ _ _=>by kernel_rfl
def j9q:List AV→CM:=a5 fun t0 t1 t2 t7 t11=>
 zn t0 fun x0=>
 zf 61 0 x0 fun x1=>
 zf 28 1 x1 fun x2=>
 zl 24 x2 fun x3=>
 zt 24 x3 fun x4=>
 zb .lss 3 t11 x4 fun x5=>
 zI x5 (
 zn t0 fun x6=>
 zf 61 0 x6 fun x7=>
 zf 28 1 x7 fun x8=>
 zl 24 x8 fun x9=>
 zi 24 x9 t11 fun x10=>
 zf 74 0 x10 fun x11=>
 zl 9 x11 fun x12=>
 zb .lss 9 x12 t1 fun x13=>
 zI x13 (
 zg 135173 [t0,t1,t2,t7,t11]) (
 zn t0 fun x14=>
 zf 61 0 x14 fun x15=>
 zf 28 1 x15 fun x16=>
 zl 24 x16 fun x17=>
 zi 24 x17 t11 fun x18=>
 zf 74 0 x18 fun x19=>
 zl 9 x19 fun x20=>
 zb .eql 9 x20 t1 fun x21=>
 zI x21 (
 zn t0 fun x22=>
 zf 61 0 x22 fun x23=>
 zf 28 1 x23 fun x24=>
 zl 24 x24 fun x25=>
 zi 24 x25 t11 fun x26=>
 zf 74 1 x26 fun x27=>
 zl 9 x27 fun x28=>
 zb .lss 9 x28 t2 fun x29=>
 zC x29 (
 zg 135173 [t0,t1,t2,t7,t11]) (
 zg 135174 [t0,t1,t2,t7,t11])) (
 zg 135174 [t0,t1,t2,t7,t11]))) (
 zg 135174 [t0,t1,t2,t7,t11])
theorem g33_4_ok:OkG H j9q 135172:=c5 fun _ _ _ _ _ _=>by kernel_rfl
def g33_5:List AV→CM:=a5 fun t0 t1 t2 t7 t11=>
 zb .add 3 t11 (.int .i64 1) fun x0=>
 zg 135172 [t0,t1,t2,t7,x0]
theorem g33_5_ok:OkG H g33_5 135173:=c5 fun _ _ _ _ _ _=>by kernel_rfl
def g33_6:List AV→CM:=a5 fun t0 t1 t2 t7 t11=>
 zn t0 fun x0=>
 zf 61 0 x0 fun x1=>
 zf 28 1 x1 fun x2=>
 zl 24 x2 fun x3=>
 CM.pu (p2 (fun a h=>q0q Tryz.prog 24 a none (some h)) x3 t11) fun x4=>
 zm fun m5=>
 CM.ef (apE 9 88 (.sl none 0 0 0 true) x4) fun x6=>
 zl 45 t7 fun x8=>
 zx 45 t7 m5 x8<|
 zd 74 [(0,t1),(1,t2),(2,x8)] fun x9=>
 CM.al (bsA 9 1 [(.str []),(.str []),(.int .i64 0),(.int .u64 0),(.int .i64 0),(.int .i64 0),(.int .u64 0),(.int .i64 0),(.int .u64 0)] [(0,x9)]) fun x10=>
 zm fun m11=>
 CM.ef (apE 9 88 x6 x10) fun x12=>
 zn t0 fun x14=>
 zf 61 0 x14 fun x15=>
 zf 28 1 x15 fun x16=>
 zl 24 x16 fun x17=>
 zx 24 x16 m11 x17<|
 zx 24 x16 m5 x17<|
 CM.pu (p2 (fun a l=>q0q Tryz.prog 24 a (some l) none) x17 t11) fun x18=>
 CM.ef (apE 9 88 x12 x18) fun x20=>
 zn t0 fun x22=>
 zf 61 0 x22 fun x23=>
 zf 28 1 x23 fun x24=>
 zs x24 x20 1<|
 zR (.int .i64 0)
theorem g33_6_ok:OkG H g33_6 135174:=c5 fun _ _ _ _ _ _=>by kernel_rfl
def f33:List AV→CM:=a4 fun a0 a1 a2 a3=>
 zo a3 fun x0=>
 zk 36 [a0,a1] fun x1=>
 zb .lss 3 x1 (.int .i64 0) fun x2=>
 zI x2 (
 zR (.int .i64 41)) (
 zk 36 [a0,a2] fun x3=>
 zb .lss 3 x3 (.int .i64 0) fun x4=>
 zC x4 (
 zR (.int .i64 41)) (
 zg 135168 [a0,a1,a2,x0]))
theorem f33_ok (h:H 33=none):OkF H f33 33:=e4 h rfl fun _ _ _ _ _=>by kernel_rfl
def g34_0:List AV→CM:=a5 fun t0 t7 t8 t10 t11=>
 zn t0 fun x0=>
 zf 61 0 x0 fun x1=>
 zf 28 2 x1 fun x2=>
 zl 25 x2 fun x3=>
 zi 25 x3 t10 fun x4=>
 zf 54 1 x4 fun x5=>
 zl 9 x5 fun x6=>
 zn t0 fun x7=>
 zf 61 0 x7 fun x8=>
 zf 28 2 x8 fun x9=>
 zl 25 x9 fun x10=>
 zi 25 x10 t11 fun x11=>
 zf 54 1 x11 fun x12=>
 zl 9 x12 fun x13=>
 zb .eql 9 x6 x13 fun x14=>
 zC x14 (
 zd 45 [] fun x15=>
 zs t8 x15 3<|
 zr [.cell 0 45,.tmp 1] [t8,(.int .i64 45)]) (
 zg 139265 [t0,t7,t8,t10,t11,x6,x13])
theorem g34_0_ok:OkG H g34_0 139264:=c5 fun _ _ _ _ _ _=>by kernel_rfl
def j9r:List AV→CM:=a7 fun t0 t7 t8 t10 t11 t12 t13=>
 zk 76 [t0,t12,t13] fun x0=>
 zb .lss 3 x0 (.int .i64 0) fun x1=>
 zC x1 (
 zd 45 [] fun x2=>
 zs t8 x2 3<|
 zr [.cell 0 45,.tmp 1] [t8,(.int .i64 44)]) (
 zg 139266 [t0,t7,t8,t10,t11,t12,t13,x0])
theorem g34_1_ok:OkG H j9r 139265:=c7 fun _ _ _ _ _ _ _ _=>by kernel_rfl
def g34_2:List AV→CM:=a8 fun t0 t7 t8 t10 t11 t12 t13 t14=>
 zl 45 t7 fun x0=>
 zk 72 [t0,t12,x0] fun x1=>
 zb .neq 35 x1 (.int .i64 0) fun x2=>
 zC x2 (
 zd 45 [] fun x3=>
 zs t8 x3 3<|
 zr [.cell 0 45,.tmp 1] [t8,x1]) (
 zg 139267 [t0,t7,t8,t10,t11,t13,t14])
theorem g34_2_ok:OkG H g34_2 139266:=c8 fun _ _ _ _ _ _ _ _ _=>by kernel_rfl
def g34_3:List AV→CM:=a7 fun t0 t7 t8 t10 t11 t13 t14=>
 zn t0 fun x0=>
 zf 61 0 x0 fun x1=>
 zf 28 2 x1 fun x2=>
 zl 25 x2 fun x3=>
 zi 25 x3 t10 fun x4=>
 zf 54 2 x4 fun x5=>
 zl 43 x5 fun x6=>
 zf 45 0 t7 fun x7=>
 zl 43 x7 fun x8=>
 zk 75 [x6,x8] fun x10=>
 zb .lss 3 x10 (.int .i64 0) fun x12=>
 zC x12 (
 zd 45 [] fun x13=>
 zs t8 x13 3<|
 zr [.cell 0 45,.tmp 1] [t8,(.int .i64 42)]) (
 zg 139268 [t0,t7,t8,t10,t11,t13,t14])
theorem g34_3_ok:OkG H g34_3 139267:=c7 fun _ _ _ _ _ _ _ _=>by kernel_rfl
def g34_4:List AV→CM:=a7 fun t0 t7 t8 t10 t11 t13 t14=>
 zl 45 t7 fun x0=>
 zn t0 fun x1=>
 zf 61 0 x1 fun x2=>
 zf 28 1 x2 fun x3=>
 zl 24 x3 fun x4=>
 zi 24 x4 t14 fun x5=>
 zf 74 2 x5 fun x6=>
 zl 45 x6 fun x7=>
 zn t0 fun x8=>
 zf 61 0 x8 fun x9=>
 zf 28 0 x9 fun x10=>
 zl 23 x10 fun x11=>
 zk 36 [t0,t13] fun x13=>
 zm fun m14=>
 zx 23 x10 m14 x11<|
 zx 45 x6 m14 x7<|
 zx 24 x3 m14 x4<|
 zx 45 t7 m14 x0<|
 zi 23 x11 x13 fun x15=>
 zf 56 1 x15 fun x16=>
 zl 3 x16 fun x17=>
 zk 77 [x0,x7,x17] fun x19=>
 ze 0 x19 fun x21=>
 ze 1 x19 fun x22=>
 za [(.int .i64 0),(.int .u64 0),(.int .i64 0)] fun x23=>
 zs x23 x21 3<|
 zb .neq 35 x22 (.int .i64 0) fun x27=>
 zC x27 (
 zd 45 [] fun x28=>
 zs t8 x28 3<|
 zr [.cell 0 45,.tmp 1] [t8,x22]) (
 zg 139269 [t0,t7,t8,t10,t11,t14,x23])
theorem g34_4_ok:OkG H g34_4 139268:=c7 fun _ _ _ _ _ _ _ _=>by kernel_rfl
def g34_5:List AV→CM:=a7 fun t0 t7 t8 t10 t11 t14 t16=>
 zn t0 fun x0=>
 zf 61 0 x0 fun x1=>
 zf 28 1 x1 fun x2=>
 zl 24 x2 fun x3=>
 zi 24 x3 t14 fun x4=>
 zf 74 3 x4 fun x5=>
 zl 43 x5 fun x6=>
 zf 45 0 t7 fun x7=>
 zl 43 x7 fun x8=>
 zk 73 [x6,x8] fun x10=>
 ze 0 x10 fun x12=>
 ze 1 x10 fun x13=>
 za [(.int .i64 0),(.int .u64 0)] fun x14=>
 zs x14 x12 2<|
 zn t0 fun x18=>
 zf 61 0 x18 fun x19=>
 zf 28 1 x19 fun x20=>
 zl 24 x20 fun x21=>
 zi 24 x21 t14 fun x22=>
 zf 74 4 x22 fun x23=>
 zl 43 x23 fun x24=>
 zf 45 0 t16 fun x25=>
 zl 43 x25 fun x26=>
 zk 74 [x24,x26] fun x28=>
 ze 0 x28 fun x30=>
 ze 1 x28 fun x31=>
 za [(.int .i64 0),(.int .u64 0)] fun x32=>
 zs x32 x30 2<|
 zn t0 fun x36=>
 zf 61 0 x36 fun x37=>
 zf 28 2 x37 fun x38=>
 zl 25 x38 fun x39=>
 zi 25 x39 t11 fun x40=>
 zf 54 2 x40 fun x41=>
 zl 43 x41 fun x42=>
 zf 45 0 t16 fun x43=>
 zl 43 x43 fun x44=>
 zk 73 [x42,x44] fun x46=>
 ze 0 x46 fun x48=>
 ze 1 x46 fun x49=>
 za [(.int .i64 0),(.int .u64 0)] fun x50=>
 zs x50 x48 2<|
 zb .neq 35 x13 (.int .i64 0) fun x54=>
 zI x54 (
 zd 45 [] fun x55=>
 zs t8 x55 3<|
 zr [.cell 0 45,.tmp 1] [t8,(.int .i64 20)]) (
 zb .neq 35 x31 (.int .i64 0) fun x57=>
 zI x57 (
 zd 45 [] fun x58=>
 zs t8 x58 3<|
 zr [.cell 0 45,.tmp 1] [t8,(.int .i64 20)]) (
 zb .neq 35 x49 (.int .i64 0) fun x60=>
 zC x60 (
 zd 45 [] fun x61=>
 zs t8 x61 3<|
 zr [.cell 0 45,.tmp 1] [t8,(.int .i64 20)]) (
 zg 139270 [t0,t7,t8,t10,t11,t14,t16,x14,x32,x50])))
theorem g34_5_ok:OkG H g34_5 139269:=c7 fun _ _ _ _ _ _ _ _=>by kernel_rfl
def g34_6:List AV→CM:=a10 fun t0 t7 t8 t10 t11 t14 t16 t18 t20 t22=>
 zn t0 fun x0=>
 zf 61 0 x0 fun x1=>
 zf 28 2 x1 fun x2=>
 zl 25 x2 fun x3=>
 zi 25 x3 t10 fun x4=>
 zf 54 2 x4 fun x5=>
 zl 43 x5 fun x6=>
 zf 45 0 t7 fun x7=>
 zl 43 x7 fun x8=>
 zk 74 [x6,x8] fun x10=>
 ze 0 x10 fun x12=>
 ze 1 x10 fun _=>
 za [(.int .i64 0),(.int .u64 0)] fun x14=>
 zs x14 x12 2<|
 zn t0 fun x18=>
 zf 61 0 x18 fun x19=>
 zf 28 1 x19 fun x20=>
 zl 24 x20 fun x21=>
 zl 43 t18 fun x22=>
 zi 24 x21 t14 fun x23=>
 zf 74 3 x23 fun x24=>
 zs x24 x22 2<|
 zn t0 fun x28=>
 zf 61 0 x28 fun x29=>
 zf 28 1 x29 fun x30=>
 zl 24 x30 fun x31=>
 zl 43 t20 fun x32=>
 zi 24 x31 t14 fun x33=>
 zf 74 4 x33 fun x34=>
 zs x34 x32 2<|
 zn t0 fun x38=>
 zf 61 0 x38 fun x39=>
 zf 28 2 x39 fun x40=>
 zl 25 x40 fun x41=>
 zl 43 t22 fun x42=>
 zi 25 x41 t11 fun x43=>
 zf 54 2 x43 fun x44=>
 zs x44 x42 2<|
 zn t0 fun x48=>
 zf 61 0 x48 fun x49=>
 zf 28 2 x49 fun x50=>
 zl 25 x50 fun x51=>
 zl 43 x14 fun x52=>
 zi 25 x51 t10 fun x53=>
 zf 54 2 x53 fun x54=>
 zs x54 x52 2<|
 zl 45 t16 fun x58=>
 zs t8 x58 3<|
 zr [.cell 0 45,.tmp 1] [t8,(.int .i64 0)]
theorem g34_6_ok:OkG H g34_6 139270:=c10 fun _ _ _ _ _ _ _ _ _ _ _=>by kernel_rfl
def f34:List AV→CM:=a4 fun a0 a1 a2 a3=>
 zo a3 fun x0=>
 za [(.int .i64 0),(.int .u64 0),(.int .i64 0)] fun x1=>
 zk 71 [a0,a1] fun x2=>
 zk 71 [a0,a2] fun x3=>
 zb .lss 3 x2 (.int .i64 0) fun x4=>
 zI x4 (
 zd 45 [] fun x5=>
 zs x1 x5 3<|
 zr [.cell 0 45,.tmp 1] [x1,(.int .i64 40)]) (
 zb .lss 3 x3 (.int .i64 0) fun x7=>
 zC x7 (
 zd 45 [] fun x8=>
 zs x1 x8 3<|
 zr [.cell 0 45,.tmp 1] [x1,(.int .i64 40)]) (
 zg 139264 [a0,x0,x1,x2,x3]))
theorem f34_ok (h:H 34=none):OkF H f34 34:=e4 h rfl fun _ _ _ _ _=>by kernel_rfl
def g35_0:List AV→CM:=a1 fun t0=>
 zg 143361 [t0,(.int .i64 0)]
theorem g35_0_ok:OkG H g35_0 143360:=c1 fun _ _=>by kernel_rfl
def g35_1:List AV→CM:=a2 fun t0 t3=>
 zb .lss 3 t3 (.int .i64 3) fun x0=>
 zC x0 (
 zg 143362 [t0,t3]) (
 zg 143364 [])
theorem g35_1_ok:OkG H g35_1 143361:=c2 fun _ _ _=>by kernel_rfl
def g35_2:List AV→CM:=a2 fun t0 t3=>
 CM.pu (p2 (q74 Tryz.prog 9) t0 t3) fun x0=>
 zb .lss 5 x0 (.int .u8 65) fun x1=>
 zI x1 (
 zR (.bool false)) (
 CM.pu (p2 (q74 Tryz.prog 9) t0 t3) fun x2=>
 zb .gtr 5 x2 (.int .u8 90) fun x3=>
 zC x3 (
 zR (.bool false)) (
 zg 143363 [t0,t3]))
theorem g35_2_ok:OkG H g35_2 143362:=c2 fun _ _ _=>by kernel_rfl
def g35_3:List AV→CM:=a2 fun t0 t3=>
 zb .add 3 t3 (.int .i64 1) fun x0=>
 zg 143361 [t0,x0]
theorem g35_3_ok:OkG H g35_3 143363:=c2 fun _ _ _=>by kernel_rfl
def g35_4:List AV→CM:=a0<|
 zR (.bool true)
theorem g35_4_ok:OkG H g35_4 143364:=c0 fun _=>by kernel_rfl
def f35:List AV→CM:=a1 fun a0=>
 zt 9 a0 fun x0=>
 zb .neq 3 x0 (.int .i64 3) fun x1=>
 zC x1 (
 zR (.bool false)) (
 zg 143360 [a0])
theorem f35_ok (h:H 35=none):OkF H f35 35:=e1 h rfl fun _ _=>by kernel_rfl
def g36_0:List AV→CM:=a3 fun t0 t1 t5=>
 zn t0 fun x0=>
 zf 61 0 x0 fun x1=>
 zf 28 0 x1 fun x2=>
 zl 23 x2 fun x3=>
 zt 23 x3 fun x4=>
 zb .lss 3 t5 x4 fun x5=>
 zC x5 (
 zg 147457 [t0,t1,t5]) (
 zg 147459 [])
theorem g36_0_ok:OkG H g36_0 147456:=c3 fun _ _ _ _=>by kernel_rfl
def g36_1:List AV→CM:=a3 fun t0 t1 t5=>
 zn t0 fun x0=>
 zf 61 0 x0 fun x1=>
 zf 28 0 x1 fun x2=>
 zl 23 x2 fun x3=>
 zi 23 x3 t5 fun x4=>
 zf 56 0 x4 fun x5=>
 zl 9 x5 fun x6=>
 zb .eql 9 x6 t1 fun x7=>
 zC x7 (
 zR t5) (
 zg 147458 [t0,t1,t5])
theorem g36_1_ok:OkG H g36_1 147457:=c3 fun _ _ _ _=>by kernel_rfl
def g36_2:List AV→CM:=a3 fun t0 t1 t5=>
 zb .add 3 t5 (.int .i64 1) fun x0=>
 zg 147456 [t0,t1,x0]
theorem g36_2_ok:OkG H g36_2 147458:=c3 fun _ _ _ _=>by kernel_rfl
def g36_3:List AV→CM:=a0<|
 zR (.int .i64 (-1))
theorem g36_3_ok:OkG H g36_3 147459:=c0 fun _=>by kernel_rfl
def f36:List AV→CM:=a2 fun a0 a1=>
 zg 147456 [a0,a1,(.int .i64 0)]
theorem f36_ok (h:H 36=none):OkF H f36 36:=e2 h rfl fun _ _ _=>by kernel_rfl
def g37_0:List AV→CM:=a1 fun t1=>
 zf 45 0 t1 fun x0=>
 zf 43 0 x0 fun x1=>
 zl 2 x1 fun x2=>
 zb .lss 2 x2 (.int .i64 0) fun x3=>
 zI x3 (
 zR (.int .i64 44)) (
 zf 45 0 t1 fun x4=>
 zl 43 x4 fun x5=>
 zd 43 [] fun x6=>
 zb .eql 43 x5 x6 fun x7=>
 zC x7 (
 zR (.int .i64 44)) (
 zg 151553 []))
theorem g37_0_ok:OkG H g37_0 151552:=c1 fun _ _=>by kernel_rfl
def g37_1:List AV→CM:=a0<|
 zR (.int .i64 0)
theorem g37_1_ok:OkG H g37_1 151553:=c0 fun _=>by kernel_rfl
def f37:List AV→CM:=a1 fun a0=>
 zo a0 fun x0=>
 zl 45 x0 fun x1=>
 zk 78 [x1] fun x2=>
 zu x2 fun x3=>
 zC x3 (
 zR (.int .i64 21)) (
 zg 151552 [x0])
theorem f37_ok (h:H 37=none):OkF H f37 37:=e1 h rfl fun _ _=>by kernel_rfl
end
end
end Go.Proofs.YtlginbmjiecglaaGreatDoor.T
