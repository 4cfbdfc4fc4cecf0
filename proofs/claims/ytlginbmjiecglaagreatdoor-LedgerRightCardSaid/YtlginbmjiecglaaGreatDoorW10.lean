/- Texts of one claim, put together. -/
import Derived.Test.YtlginbmjiecglaaGreatDoorW9
namespace Go.Proofs.YtlginbmjiecglaaGreatDoor.T
section
open Go Go.Abs Go.Proofs.YtlginbmjiecglaaGreatDoor
set_option maxRecDepth 10000
noncomputable section
variable {H:FuncId->Option (List AV->Mem->R)}
def a3I:List AV->CM:=a2 fun a b=>zg 61441 [a,b,z1]
def j8a:List AV->CM:=a3 fun a b c=>zf 28 0 a fun d=>zl 23 d fun d=>zt 23 d fun d=>zb .lss 3 c d fun d=>zC d ( zg 61442 [a,b,c]) ( zg 61444 [a,b])
def a3J:List AV->CM:=a3 fun a b c=>zf 28 0 a fun d=>zl 23 d fun d=>zi 23 d c fun d=>zl 56 d fun d=>zf 28 0 b fun e=>zl 23 e fun e=>zi 23 e c fun e=>zl 56 e fun e=>zb .neq 56 d e fun d=>zC d ( zR (.bool false)) ( zg 61443 [a,b,c])
def a3K:List AV->CM:=a3 fun a b c=>zb .add 3 c z4 fun c=>zg 61441 [a,b,c]
def a3L:List AV->CM:=a2 fun a b=>zg 61445 [a,b,z1]
def j8b:List AV->CM:=a3 fun a b c=>zf 28 1 a fun d=>zl 24 d fun d=>zt 24 d fun d=>zb .lss 3 c d fun d=>zC d ( zg 61446 [a,b,c]) ( zg 61448 [a,b])
def a3M:List AV->CM:=a3 fun a b c=>zf 28 1 a fun d=>zl 24 d fun d=>zi 24 d c fun d=>zl 74 d fun d=>zf 28 1 b fun e=>zl 24 e fun e=>zi 24 e c fun e=>zl 74 e fun e=>zb .neq 74 d e fun d=>zC d ( zR (.bool false)) ( zg 61447 [a,b,c])
def a3N:List AV->CM:=a3 fun a b c=>zb .add 3 c z4 fun c=>zg 61445 [a,b,c]
def a3O:List AV->CM:=a2 fun a b=>zg 61449 [a,b,z1]
def j8c:List AV->CM:=a3 fun a b c=>zf 28 2 a fun d=>zl 25 d fun d=>zt 25 d fun d=>zb .lss 3 c d fun d=>zC d ( zg 61450 [a,b,c]) ( zg 61452 [])
def j53:List AV->CM:=a3 fun a b c=>zf 28 2 a fun d=>zl 25 d fun d=>zi 25 d c fun d=>zl 54 d fun d=>zf 28 2 b fun e=>zl 25 e fun e=>zi 25 e c fun e=>zl 54 e fun e=>zb .neq 54 d e fun d=>zC d ( zR (.bool false)) ( zg 61451 [a,b,c])
def j54:List AV->CM:=a3 fun a b c=>zb .add 3 c z4 fun c=>zg 61449 [a,b,c]
def j55:List AV->CM:=a0<|zR (.bool true)
def f15:List AV->CM:=a2 fun a b=>zo a fun a=>zo b fun b=>zf 28 0 a fun c=>zl 23 c fun c=>zt 23 c fun c=>zf 28 0 b fun d=>zl 23 d fun d=>zt 23 d fun d=>zb .neq 3 c d fun c=>zI c ( zR (.bool false)) ( zf 28 1 a fun c=>zl 24 c fun c=>zt 24 c fun c=>zf 28 1 b fun d=>zl 24 d fun d=>zt 24 d fun d=>zb .neq 3 c d fun c=>zI c ( zR (.bool false)) ( zf 28 2 a fun c=>zl 25 c fun c=>zt 25 c fun c=>zf 28 2 b fun d=>zl 25 d fun d=>zt 25 d fun d=>zb .neq 3 c d fun c=>zI c ( zR (.bool false)) ( zf 28 3 a fun c=>zl 26 c fun c=>zf 28 3 b fun d=>zl 26 d fun d=>zb .neq 26 c d fun c=>zC c ( zR (.bool false)) ( zg 61440 [a,b]))))
def a3P:List AV->CM:=a10 fun a b c d e f g h i j=>CM.rng (.fn (q1l (EH fun _=>none) 16)) g (q0t (EH fun _=>none) 16 0 ([a,.undef,b,c,.undef,d,.undef,e,.undef,f,.undef,.undef,.undef,.undef,.undef,.undef,.undef,.undef,.undef,g,.undef,h,.undef,.undef,.undef,.undef,.undef,.undef,.undef,.undef,.undef,.undef,.undef,.undef,i,.undef,.undef,.undef,.undef,.undef,.undef,.undef,.undef,.undef,.undef,.undef,.undef,j]++List.replicate 7 .undef)) 65536 [a,b,c,d,e,f,g,h,i,j]
def a3Q:List AV->CM:=a7 fun a b c d e f g=>zn a fun h=>zf 94 2 h fun h=>zl 91 h fun h=>zk 51 [h] fun h=>zg 65539 [a,b,c,d,e,h,f,g]
def a3R:List AV->CM:=a8 fun a b c d e f g h=>CM.rng (.fn (q1l (EH fun _=>none) 16)) f (q0t (EH fun _=>none) 16 1 ([a,.undef,b,c,.undef,.undef,.undef,d,.undef,e,.undef,.undef,.undef,.undef,.undef,.undef,.undef,.undef,.undef,.undef,.undef,.undef,.undef,.undef,.undef,.undef,.undef,.undef,.undef,.undef,.undef,.undef,f,.undef,g,.undef,.undef,.undef,.undef,.undef,.undef,.undef,.undef,.undef,.undef,.undef,.undef,h]++List.replicate 7 .undef)) 65537 [a,b,c,d,e,f,g,h]
def a3S:List AV->CM:=a5 fun a b c d e=>zn a fun a=>zf 94 3 a fun a=>zl 92 a fun a=>zk 52 [a] fun a=>zg 65542 [b,c,d,a,e]
def a3T:List AV->CM:=a5 fun a b c d e=>CM.rng (.fn (q1l (EH fun _=>none) 16)) d (q0t (EH fun _=>none) 16 2 ([.undef,.undef,a,b,.undef,.undef,.undef,.undef,.undef,c,.undef,.undef,.undef,.undef,.undef,.undef,.undef,.undef,.undef,.undef,.undef,.undef,.undef,.undef,.undef,.undef,.undef,.undef,.undef,.undef,.undef,.undef,.undef,.undef,.undef,.undef,.undef,.undef,.undef,.undef,.undef,.undef,.undef,.undef,.undef,d,.undef,e]++List.replicate 7 .undef)) 65538 [a,b,c,d,e]
def a3U:List AV->CM:=a2 fun a b=>zl 28 b fun b=>zs a b 4<|zr [.cell 0 28] [a]
def q5L:List AV->CM:=a10 fun a b c _ d e _ _ f g=>zg 65538 [a,b,c,d,e,f,g]
theorem q9d:EqD (Rl H) q5L (fun xs m=>afR (EH H) Nk 65536 none xs m):=sE fun _=>sE fun _=>sE fun _=>sE fun _=>sE fun _=>sE fun _=>sE fun _=>sE fun _=>sE fun _=>sE fun _=>zE fun _=>z6c 400 (by kernel_rfl)
def q5M:List AV->CM:=a8 fun a b c _ d _ _ e=>zg 65541 [a,b,c,d,e]
theorem q9f:EqD (Rl H) q5M (fun xs m=>afR (EH H) Nk 65537 none xs m):=sE fun _=>sE fun _=>sE fun _=>sE fun _=>sE fun _=>sE fun _=>sE fun _=>sE fun _=>zE fun _=>z6c 400 (by kernel_rfl)
def q5N:List AV->CM:=a5 fun a b _ _ _=>zg 65544 [a,b]
theorem q9h:EqD (Rl H) q5N (fun xs m=>afR (EH H) Nk 65538 none xs m):=sE fun _=>sE fun _=>sE fun _=>sE fun _=>sE fun _=>zE fun _=>z6c 400 (by kernel_rfl)
def f16:List AV->CM:=a1 fun a=>za [z0,z0,z0,z2] fun b=>zn a fun c=>zf 94 4 c fun c=>zl 26 c fun c=>zd 28 [(3,c)] fun c=>za [z0,z0,z0,z2] fun d=>zs d c 4<|zn a fun c=>zf 94 1 c fun c=>zl 90 c fun c=>zk 50 [c] fun c=>zg 65536 [a,b,d,.undef,.undef,.undef,c,.undef,.undef,.undef]
def f18:List AV->CM:=a2 fun a b=>za [z1,z2,z1] fun c=>zk 54 [a] fun a=>zd 45 [(0,a),(1,b)] fun a=>zs c a 3<|zr [.cell 0 45] [c]
theorem a1G (h:H 18=none):OkF H f18 18:=e2 h rfl fun _ _ _=>by kernel_rfl
def j8d:List AV->CM:=a0<|zR z4
def f20:List AV->CM:=a2 fun a b=>zo a fun a=>zo b fun b=>zf 43 0 a fun c=>zl 2 c fun c=>zf 43 0 b fun d=>zl 2 d fun d=>zb .lss 2 c d fun c=>zI c ( zR (.int .i64 (-1))) ( zf 43 0 a fun c=>zl 2 c fun c=>zf 43 0 b fun d=>zl 2 d fun d=>zb .eql 2 c d fun c=>zI c ( zf 43 1 a fun c=>zl 26 c fun c=>zf 43 1 b fun d=>zl 26 d fun d=>zb .lss 26 c d fun c=>zC c ( zR (.int .i64 (-1))) ( zl 43 a fun c=>zl 43 b fun d=>zb .eql 43 c d fun c=>zC c ( zR z1) ( zg 81920 []))) ( zl 43 a fun a=>zl 43 b fun b=>zb .eql 43 a b fun a=>zC a ( zR z1) ( zg 81920 [])))
def j8e:List AV->CM:=a3 fun a b c=>zc 26 2 c fun c=>zd 43 [(0,c),(1,b)] fun b=>zs a b 2<|zr [.cell 0 43,.tmp 1] [a,z1]
theorem z2Z:OkG H j8e 86016:=c3 fun _ _ _ _=>by kernel_rfl
def f21:List AV->CM:=a2 fun a b=>zo a fun a=>zo b fun b=>za [z1,z2] fun c=>zf 43 1 a fun d=>zl 26 d fun d=>zf 43 1 b fun e=>zl 26 e fun e=>zk 59 [d,e,z2] fun d=>ze 0 d fun e=>ze 1 d fun d=>zf 43 0 a fun f=>zl 2 f fun f=>zc 2 26 f fun f=>zf 43 0 b fun g=>zl 2 g fun g=>zc 2 26 g fun g=>zk 59 [f,g,d] fun d=>ze 0 d fun f=>ze 1 d fun _=>zf 43 0 a fun d=>zl 2 d fun d=>zb .lss 2 d z1 fun d=>zf 43 0 b fun b=>zl 2 b fun b=>zb .lss 2 b z1 fun b=>zb .eql 4 d b fun b=>zI b ( zc 26 2 f fun b=>zb .lss 2 b z1 fun b=>zf 43 0 a fun a=>zl 2 a fun a=>zb .lss 2 a z1 fun a=>zb .neq 4 b a fun a=>zC a ( zd 43 [] fun a=>zs c a 2<|zr [.cell 0 43,.tmp 1] [c,(.int .i64 20)]) ( zg 86016 [c,e,f])) ( zg 86016 [c,e,f])
theorem j5c (h:H 21=none):OkF H f21 21:=e2 h rfl fun _ _ _=>by kernel_rfl
def a3V:List AV->CM:=a3 fun a b c=>zc 26 2 c fun c=>zd 43 [(0,c),(1,b)] fun b=>zs a b 2<|zr [.cell 0 43,.tmp 1] [a,z1]
theorem j2d:OkG H a3V 90112:=c3 fun _ _ _ _=>by kernel_rfl
def f22:List AV->CM:=a2 fun a b=>zo a fun a=>zo b fun b=>za [z1,z2] fun c=>zf 43 1 a fun d=>zl 26 d fun d=>zf 43 1 b fun e=>zl 26 e fun e=>zk 60 [d,e,z2] fun d=>ze 0 d fun e=>ze 1 d fun d=>zf 43 0 a fun f=>zl 2 f fun f=>zc 2 26 f fun f=>zf 43 0 b fun g=>zl 2 g fun g=>zc 2 26 g fun g=>zk 60 [f,g,d] fun d=>ze 0 d fun f=>ze 1 d fun _=>zf 43 0 a fun d=>zl 2 d fun d=>zb .lss 2 d z1 fun d=>zf 43 0 b fun b=>zl 2 b fun b=>zb .lss 2 b z1 fun b=>zb .neq 4 d b fun b=>zI b ( zc 26 2 f fun b=>zb .lss 2 b z1 fun b=>zf 43 0 a fun a=>zl 2 a fun a=>zb .lss 2 a z1 fun a=>zb .neq 4 b a fun a=>zC a ( zd 43 [] fun a=>zs c a 2<|zr [.cell 0 43,.tmp 1] [c,(.int .i64 20)]) ( zg 90112 [c,e,f])) ( zg 90112 [c,e,f])
theorem a1J (h:H 22=none):OkF H f22 22:=e2 h rfl fun _ _ _=>by kernel_rfl
def j8f:List AV->CM:=a2 fun a b=>zf 28 0 a fun c=>zl 23 c fun c=>zt 23 c fun c=>zb .lss 3 b c fun c=>zC c ( zg 102401 [a,b]) ( zg 102412 [])
def a3W:List AV->CM:=a2 fun a b=>zf 28 0 a fun c=>zl 23 c fun c=>zi 23 c b fun c=>zf 56 0 c fun c=>zl 9 c fun c=>zf 28 0 a fun d=>zl 23 d fun d=>zi 23 d b fun d=>zf 56 2 d fun d=>zl 43 d fun d=>zk 68 [d] fun d=>za [(.bool false),z2,z2,z2,z2,z2,z2,z2,z2,z2,z2,z2,z2,z2,z2,z2,z2] fun e=>zs e d 17<|zg 102402 [a,b,c,e,z1]
def j2f:List AV->CM:=a5 fun a b c d e=>zf 28 2 a fun f=>zl 25 f fun f=>zt 25 f fun f=>zb .lss 3 e f fun f=>zC f ( zg 102403 [a,b,c,d,e]) ( zg 102405 [a,b,c,d])
def j8g:List AV->CM:=a5 fun a b c d e=>zf 28 2 a fun f=>zl 25 f fun f=>zi 25 f e fun f=>zf 54 1 f fun f=>zl 9 f fun f=>zb .eql 9 f c fun f=>zC f ( zl 123 d fun f=>zf 28 2 a fun g=>zl 25 g fun g=>zi 25 g e fun g=>zf 54 2 g fun g=>zl 43 g fun g=>zk 68 [g] fun g=>zm fun h=>zx 123 d h f<|zk 69 [f,g] fun f=>zs d f 17<|zg 102404 [a,b,c,d,e]) ( zg 102404 [a,b,c,d,e])
def a3X:List AV->CM:=a5 fun a b c d e=>zb .add 3 e z4 fun e=>zg 102402 [a,b,c,d,e]
def a3Y:List AV->CM:=a4 fun a b c d=>zg 102406 [a,b,c,d,z1]
def j2i:List AV->CM:=a5 fun a b c d e=>zf 28 1 a fun f=>zl 24 f fun f=>zt 24 f fun f=>zb .lss 3 e f fun f=>zC f ( zg 102407 [a,b,c,d,e]) ( zg 102410 [a,b,d])
def j8h:List AV->CM:=a5 fun a b c d e=>zf 28 1 a fun f=>zl 24 f fun f=>zi 24 f e fun f=>zf 74 0 f fun f=>zl 9 f fun f=>zb .eql 9 f c fun f=>zC f ( zl 123 d fun f=>zf 28 1 a fun g=>zl 24 g fun g=>zi 24 g e fun g=>zf 74 3 g fun g=>zl 43 g fun g=>zk 68 [g] fun g=>zm fun h=>zx 123 d h f<|zk 69 [f,g] fun f=>zs d f 17<|zg 102408 [a,b,c,d,e]) ( zg 102408 [a,b,c,d,e])
def j8i:List AV->CM:=a5 fun a b c d e=>zf 28 1 a fun f=>zl 24 f fun f=>zi 24 f e fun f=>zf 74 1 f fun f=>zl 9 f fun f=>zb .eql 9 f c fun f=>zC f ( zl 123 d fun f=>zf 28 1 a fun g=>zl 24 g fun g=>zi 24 g e fun g=>zf 74 4 g fun g=>zl 43 g fun g=>zk 68 [g] fun g=>zm fun h=>zx 123 d h f<|zk 69 [f,g] fun f=>zs d f 17<|zg 102409 [a,b,c,d,e]) ( zg 102409 [a,b,c,d,e])
def a3Z:List AV->CM:=a5 fun a b c d e=>zb .add 3 e z4 fun e=>zg 102406 [a,b,c,d,e]
def z8L:List AV->CM:=a3 fun a b c=>zf 123 1 c fun c=>zl 121 c fun c=>zk 70 [c] fun c=>zu c fun c=>zC c ( zR (.bool false)) ( zg 102411 [a,b])
def j6n:List AV->CM:=a2 fun a b=>zb .add 3 b z4 fun b=>zg 102400 [a,b]
def j6o:List AV->CM:=a0<|zR (.bool true)
def f25:List AV->CM:=a1 fun a=>zo a fun a=>zg 102400 [a,z1]
def z4U:List AV->CM:=a2 fun a b=>zl 45 b fun b=>zs a b 3<|zr [.cell 0 45] [a]
def f26:List AV->CM:=a1 fun a=>za [z1,z2,z1] fun b=>zk 10 [a,(.int .i64 5000)] fun c=>zc 3 26 c fun c=>zd 43 [(1,c)] fun c=>zd 45 [(0,c),(1,(.int .i64 2))] fun c=>za [z1,z2,z1] fun d=>zs d c 3<|zb .quo 3 a (.int .i64 7) fun c=>zk 10 [c,(.int .i64 24)] fun c=>zb .eql 3 c z1 fun e=>zC e ( zb .quo 3 a (.int .i64 13) fun e=>zk 10 [e,(.int .i64 19)] fun e=>zf 45 1 d fun f=>zs f e 1<|zg 106496 [b,d]) ( zb .eql 3 c z4 fun e=>zC e ( zd 43 [(0,(.int .i64 9223372036854775807)),(1,(.int .u64 18446744073709551615))] fun e=>zf 45 0 d fun f=>zs f e 2<|zg 106496 [b,d]) ( zb .eql 3 c (.int .i64 2) fun e=>zC e ( zd 43 [(0,(.int .i64 (-1))),(1,(.int .u64 18446744073709551615))] fun e=>zf 45 0 d fun f=>zs f e 2<|zg 106496 [b,d]) ( zb .eql 3 c (.int .i64 3) fun c=>zC c ( zk 10 [a,(.int .i64 4611686018427387904)] fun a=>zf 45 0 d fun c=>zf 43 0 c fun c=>zs c a 1<|zg 106496 [b,d]) ( zg 106496 [b,d]))))
def a4a:List AV->CM:=a3 fun a b c=>zg 110593 [a,b,c,z1]
def j2l:List AV->CM:=a4 fun a b c d=>zn a fun e=>zf 61 0 e fun e=>zf 28 0 e fun e=>zl 23 e fun e=>zt 23 e fun e=>zb .lss 3 d e fun e=>zI e ( zn a fun e=>zf 61 0 e fun e=>zf 28 0 e fun e=>zl 23 e fun e=>zi 23 e d fun e=>zf 56 0 e fun e=>zl 9 e fun e=>zb .lss 9 e b fun e=>zC e ( zg 110594 [a,b,c,d]) ( zg 110595 [a,b,c,d])) ( zg 110595 [a,b,c,d])
def a4b:List AV->CM:=a4 fun a b c d=>zb .add 3 d z4 fun d=>zg 110593 [a,b,c,d]
def a4c:List AV->CM:=a4 fun b c d e=>zn b fun f=>zf 61 0 f fun f=>zf 28 0 f fun f=>zl 23 f fun f=>CM.pu (p2 (fun a h=>q0o Tryz.prog 23 a none (some h)) f e) fun f=>zm fun g=>CM.ef (apE 4 40 z0 f) fun f=>zc 26 3 d fun d=>zd 56 [(0,c),(1,d)] fun c=>CM.al (bsA 4 1 [z3,z1,z1,z2] [(0,c)]) fun c=>zm fun d=>CM.ef (apE 4 40 f c) fun c=>zn b fun f=>zf 61 0 f fun f=>zf 28 0 f fun f=>zl 23 f fun i=>zx 23 f d i<|zx 23 f g i<|CM.pu (p2 (fun a l=>q0o Tryz.prog 23 a (some l) none) i e) fun d=>CM.ef (apE 4 40 c d) fun c=>zn b fun b=>zf 61 0 b fun b=>zf 28 0 b fun b=>zs b c 1<|zR z1
def f27:List AV->CM:=a3 fun a b c=>zk 35 [b] fun d=>zu d fun d=>zC d ( zR (.int .i64 41)) ( zb .gtr 26 c (.int .u64 18) fun d=>zC d ( zR (.int .i64 21)) ( zk 36 [a,b] fun d=>zb .geq 3 d z1 fun d=>zC d ( zR (.int .i64 45)) ( zn a fun d=>zf 61 0 d fun d=>zf 28 0 d fun d=>zl 23 d fun d=>zt 23 d fun d=>zb .geq 3 d (.int .i64 8) fun d=>zC d ( zR (.int .i64 2)) ( zg 110592 [a,b,c]))))
def j2o:List AV->CM:=a2 fun a b=>zn a fun c=>zf 61 0 c fun c=>zf 28 2 c fun c=>zl 25 c fun c=>zt 25 c fun c=>zn a fun d=>zf 61 1 d fun d=>zl 3 d fun d=>zb .geq 3 c d fun c=>zI c ( zR (.tup [z2,(.int .i64 2)])) ( zn a fun c=>zf 61 0 c fun c=>zf 28 3 c fun c=>zl 26 c fun c=>zb .geq 26 c (.int .u64 72057594037927935) fun c=>zC c ( zR (.tup [z2,(.int .i64 2)])) ( zg 114689 [a,b]))
def a4d:List AV->CM:=a2 fun a b=>zn a fun c=>zf 61 0 c fun c=>zf 28 3 c fun c=>zl 26 c fun c=>zb .add 26 c (.int .u64 1) fun c=>zn a fun d=>zf 61 0 d fun d=>zf 28 3 d fun d=>zs d c 1<|CM.al (some (.cells [] false,sB 4 0)) fun c=>zn a fun d=>zf 61 0 d fun d=>zf 28 2 d fun d=>zl 25 d fun d=>zm fun e=>CM.ef (apE 4 40 c d) fun c=>zn a fun d=>zf 61 0 d fun d=>zf 28 3 d fun d=>zl 26 d fun f=>zx 26 d e f<|zd 54 [(0,f),(1,b)] fun b=>CM.al (bsA 4 1 [z2,z3,z1,z2] [(0,b)]) fun b=>CM.ef (apE 4 40 c b) fun b=>zn a fun c=>zf 61 0 c fun c=>zf 28 2 c fun c=>zs c b 1<|zn a fun a=>zf 61 0 a fun a=>zf 28 3 a fun a=>zl 26 a fun a=>zR (.tup [a,z1])
def f28:List AV->CM:=a2 fun a b=>zk 36 [a,b] fun c=>zb .lss 3 c z1 fun c=>zC c ( zR (.tup [z2,(.int .i64 41)])) ( zg 114688 [a,b])
def z8O:List AV->CM:=a3 fun a b c=>zn a fun d=>zf 61 0 d fun d=>zf 28 2 d fun d=>zl 25 d fun d=>zi 25 d c fun d=>zf 54 1 d fun d=>zl 9 d fun d=>zl 45 b fun e=>zk 72 [a,d,e] fun d=>zb .neq 35 d z1 fun e=>zC e ( zR d) ( zg 118785 [a,b,c])
def j2q:List AV->CM:=a3 fun a b c=>zn a fun d=>zf 61 0 d fun d=>zf 28 2 d fun d=>zl 25 d fun d=>zi 25 d c fun d=>zf 54 1 d fun d=>zl 9 d fun d=>zk 36 [a,d] fun d=>zn a fun e=>zf 61 0 e fun e=>zf 28 2 e fun e=>zl 25 e fun e=>zi 25 e c fun e=>zf 54 2 e fun e=>zl 43 e fun e=>zf 45 0 b fun f=>zl 43 f fun f=>zk 73 [e,f] fun e=>ze 0 e fun f=>ze 1 e fun e=>za [z1,z2] fun g=>zs g f 2<|zn a fun f=>zf 61 0 f fun f=>zf 28 0 f fun f=>zl 23 f fun f=>zi 23 f d fun f=>zf 56 2 f fun f=>zl 43 f fun f=>zf 45 0 b fun b=>zl 43 b fun b=>zk 74 [f,b] fun b=>ze 0 b fun f=>ze 1 b fun b=>za [z1,z2] fun h=>zs h f 2<|zb .neq 35 e z1 fun e=>zI e ( zR (.int .i64 20)) ( zb .neq 35 b z1 fun b=>zC b ( zR (.int .i64 20)) ( zg 118786 [a,c,d,g,h]))
def a4e:List AV->CM:=a5 fun a b c d e=>zn a fun f=>zf 61 0 f fun f=>zf 28 2 f fun f=>zl 25 f fun f=>zl 43 d fun d=>zi 25 f b fun b=>zf 54 2 b fun b=>zs b d 2<|zn a fun a=>zf 61 0 a fun a=>zf 28 0 a fun a=>zl 23 a fun a=>zl 43 e fun b=>zi 23 a c fun a=>zf 56 2 a fun a=>zs a b 2<|zR z1
def f29:List AV->CM:=a3 fun a b c=>zo c fun c=>zk 71 [a,b] fun b=>zb .lss 3 b z1 fun d=>zC d ( zR (.int .i64 40)) ( zg 118784 [a,c,b])
def f30:List AV->CM:=a3 fun a b c=>za [z1,z2,z1] fun d=>zk 64 [a,b] fun a=>ze 0 a fun b=>ze 1 a fun _=>za [z1,z2,z1] fun a=>zs a b 3<|zk 26 [c] fun b=>za [z1,z2,z1] fun c=>zs c b 3<|zf 45 1 a fun a=>zl 3 a fun a=>zf 45 1 c fun b=>zs b a 1<|zl 45 c fun a=>zs d a 3<|zr [.cell 0 45] [d]
def z8P:List AV->CM:=a3 fun a b c=>zn a fun d=>zf 61 0 d fun d=>zf 28 2 d fun d=>zl 25 d fun d=>zi 25 d c fun d=>zf 54 1 d fun d=>zl 9 d fun d=>zl 45 b fun e=>zk 72 [a,d,e] fun d=>zb .neq 35 d z1 fun e=>zC e ( zR d) ( zg 126977 [a,b,c])
def j2s:List AV->CM:=a3 fun a b c=>zn a fun d=>zf 61 0 d fun d=>zf 28 2 d fun d=>zl 25 d fun d=>zi 25 d c fun d=>zf 54 1 d fun d=>zl 9 d fun d=>zk 36 [a,d] fun d=>zn a fun e=>zf 61 0 e fun e=>zf 28 2 e fun e=>zl 25 e fun e=>zi 25 e c fun e=>zf 54 2 e fun e=>zl 43 e fun e=>zf 45 0 b fun f=>zl 43 f fun f=>zk 75 [e,f] fun e=>zb .lss 3 e z1 fun e=>zC e ( zR (.int .i64 42)) ( zg 126978 [a,b,c,d])
def j8j:List AV->CM:=a4 fun a b c d=>zn a fun e=>zf 61 0 e fun e=>zf 28 2 e fun e=>zl 25 e fun e=>zi 25 e c fun e=>zf 54 2 e fun e=>zl 43 e fun e=>zf 45 0 b fun f=>zl 43 f fun f=>zk 74 [e,f] fun e=>ze 0 e fun f=>ze 1 e fun _=>za [z1,z2] fun e=>zs e f 2<|zn a fun f=>zf 61 0 f fun f=>zf 28 0 f fun f=>zl 23 f fun f=>zi 23 f d fun f=>zf 56 2 f fun f=>zl 43 f fun f=>zf 45 0 b fun b=>zl 43 b fun b=>zk 73 [f,b] fun b=>ze 0 b fun f=>ze 1 b fun b=>za [z1,z2] fun g=>zs g f 2<|zb .neq 35 b z1 fun b=>zC b ( zR (.int .i64 20)) ( zg 126979 [a,c,d,e,g])
def a4f:List AV->CM:=a5 fun a b c d e=>zn a fun f=>zf 61 0 f fun f=>zf 28 2 f fun f=>zl 25 f fun f=>zl 43 d fun d=>zi 25 f b fun b=>zf 54 2 b fun b=>zs b d 2<|zn a fun a=>zf 61 0 a fun a=>zf 28 0 a fun a=>zl 23 a fun a=>zl 43 e fun b=>zi 23 a c fun a=>zf 56 2 a fun a=>zs a b 2<|zR z1
def f31:List AV->CM:=a3 fun a b c=>zo c fun c=>zk 71 [a,b] fun b=>zb .lss 3 b z1 fun d=>zC d ( zR (.int .i64 40)) ( zg 126976 [a,c,b])
def z1S:List AV->CM:=a4 fun a b c d=>zb .eql 3 c d fun e=>zC e ( zR (.int .i64 45)) ( zg 131073 [a,b,c,d])
def z4V:List AV->CM:=a4 fun a b c d=>zn a fun e=>zf 61 0 e fun e=>zf 28 2 e fun e=>zl 25 e fun e=>zi 25 e c fun e=>zf 54 1 e fun e=>zl 9 e fun e=>zn a fun f=>zf 61 0 f fun f=>zf 28 2 f fun f=>zl 25 f fun f=>zi 25 f d fun f=>zf 54 1 f fun f=>zl 9 f fun f=>zb .neq 9 e f fun e=>zC e ( zR (.int .i64 41)) ( zg 131074 [a,b,c,d])
def z8Q:List AV->CM:=a4 fun a b c d=>zn a fun e=>zf 61 0 e fun e=>zf 28 2 e fun e=>zl 25 e fun e=>zi 25 e c fun e=>zf 54 1 e fun e=>zl 9 e fun e=>zl 45 b fun f=>zk 72 [a,e,f] fun e=>zb .neq 35 e z1 fun f=>zC f ( zR e) ( zg 131075 [a,b,c,d])
def j2u:List AV->CM:=a4 fun a b c d=>zn a fun e=>zf 61 0 e fun e=>zf 28 2 e fun e=>zl 25 e fun e=>zi 25 e c fun e=>zf 54 2 e fun e=>zl 43 e fun e=>zf 45 0 b fun f=>zl 43 f fun f=>zk 75 [e,f] fun e=>zb .lss 3 e z1 fun e=>zC e ( zR (.int .i64 42)) ( zg 131076 [a,b,c,d])
def j8k:List AV->CM:=a4 fun a b c d=>zn a fun e=>zf 61 0 e fun e=>zf 28 2 e fun e=>zl 25 e fun e=>zi 25 e c fun e=>zf 54 2 e fun e=>zl 43 e fun e=>zf 45 0 b fun f=>zl 43 f fun f=>zk 74 [e,f] fun e=>ze 0 e fun f=>ze 1 e fun _=>za [z1,z2] fun e=>zs e f 2<|zn a fun f=>zf 61 0 f fun f=>zf 28 2 f fun f=>zl 25 f fun f=>zi 25 f d fun f=>zf 54 2 f fun f=>zl 43 f fun f=>zf 45 0 b fun b=>zl 43 b fun b=>zk 73 [f,b] fun b=>ze 0 b fun f=>ze 1 b fun b=>za [z1,z2] fun g=>zs g f 2<|zb .neq 35 b z1 fun b=>zC b ( zR (.int .i64 20)) ( zg 131077 [a,c,d,e,g])
def a4g:List AV->CM:=a5 fun a b c d e=>zn a fun f=>zf 61 0 f fun f=>zf 28 2 f fun f=>zl 25 f fun f=>zl 43 d fun d=>zi 25 f b fun b=>zf 54 2 b fun b=>zs b d 2<|zn a fun a=>zf 61 0 a fun a=>zf 28 2 a fun a=>zl 25 a fun a=>zl 43 e fun b=>zi 25 a c fun a=>zf 54 2 a fun a=>zs a b 2<|zR z1
def f32:List AV->CM:=a4 fun a b c d=>zo d fun d=>zk 71 [a,b] fun b=>zk 71 [a,c] fun c=>zb .lss 3 b z1 fun e=>zI e ( zR (.int .i64 40)) ( zb .lss 3 c z1 fun e=>zC e ( zR (.int .i64 40)) ( zg 131072 [a,d,b,c]))
def z8R:List AV->CM:=a4 fun a b c d=>zb .eql 9 b c fun e=>zC e ( zR (.int .i64 45)) ( zg 135169 [a,b,c,d])
def j2w:List AV->CM:=a4 fun a b c d=>zl 45 d fun e=>zk 37 [e] fun e=>zb .neq 35 e z1 fun f=>zC f ( zR e) ( zg 135170 [a,b,c,d])
def j8l:List AV->CM:=a4 fun a b c d=>zk 76 [a,b,c] fun e=>zb .geq 3 e z1 fun f=>zC f ( zn a fun f=>zf 61 0 f fun f=>zf 28 1 f fun f=>zl 24 f fun f=>zl 45 d fun g=>zi 24 f e fun e=>zf 74 2 e fun e=>zs e g 3<|zR z1) ( zg 135171 [a,b,c,d])
def a4h:List AV->CM:=a4 fun a b c d=>zg 135172 [a,b,c,d,z1]
def z4W:List AV->CM:=a5 fun a b c d e=>zn a fun f=>zf 61 0 f fun f=>zf 28 1 f fun f=>zl 24 f fun f=>zt 24 f fun f=>zb .lss 3 e f fun f=>zI f ( zn a fun f=>zf 61 0 f fun f=>zf 28 1 f fun f=>zl 24 f fun f=>zi 24 f e fun f=>zf 74 0 f fun f=>zl 9 f fun f=>zb .lss 9 f b fun f=>zI f ( zg 135173 [a,b,c,d,e]) ( zn a fun f=>zf 61 0 f fun f=>zf 28 1 f fun f=>zl 24 f fun f=>zi 24 f e fun f=>zf 74 0 f fun f=>zl 9 f fun f=>zb .eql 9 f b fun f=>zI f ( zn a fun f=>zf 61 0 f fun f=>zf 28 1 f fun f=>zl 24 f fun f=>zi 24 f e fun f=>zf 74 1 f fun f=>zl 9 f fun f=>zb .lss 9 f c fun f=>zC f ( zg 135173 [a,b,c,d,e]) ( zg 135174 [a,b,c,d,e])) ( zg 135174 [a,b,c,d,e]))) ( zg 135174 [a,b,c,d,e])
def a4i:List AV->CM:=a5 fun a b c d e=>zb .add 3 e z4 fun e=>zg 135172 [a,b,c,d,e]
def a4j:List AV->CM:=a5 fun b c d e f=>zn b fun g=>zf 61 0 g fun g=>zf 28 1 g fun g=>zl 24 g fun g=>CM.pu (p2 (fun a h=>q0o Tryz.prog 24 a none (some h)) g f) fun g=>zm fun i=>CM.ef (apE 9 88 z0 g) fun g=>zl 45 e fun j=>zx 45 e i j<|zd 74 [(0,c),(1,d),(2,j)] fun c=>CM.al (bsA 9 1 [z3,z3,z1,z2,z1,z1,z2,z1,z2] [(0,c)]) fun c=>zm fun d=>CM.ef (apE 9 88 g c) fun c=>zn b fun e=>zf 61 0 e fun e=>zf 28 1 e fun e=>zl 24 e fun g=>zx 24 e d g<|zx 24 e i g<|CM.pu (p2 (fun a l=>q0o Tryz.prog 24 a (some l) none) g f) fun d=>CM.ef (apE 9 88 c d) fun c=>zn b fun b=>zf 61 0 b fun b=>zf 28 1 b fun b=>zs b c 1<|zR z1
def f33:List AV->CM:=a4 fun a b c d=>zo d fun d=>zk 36 [a,b] fun e=>zb .lss 3 e z1 fun e=>zI e ( zR (.int .i64 41)) ( zk 36 [a,c] fun e=>zb .lss 3 e z1 fun e=>zC e ( zR (.int .i64 41)) ( zg 135168 [a,b,c,d]))
end
end
section
open Go Go.Abs Go.Proofs.YtlginbmjiecglaaGreatDoor
set_option maxRecDepth 10000
noncomputable section
variable {H:FuncId->Option (List AV->Mem->R)}
def j8m:List AV->CM:=a5 fun a b c d e=>zn a fun f=>zf 61 0 f fun f=>zf 28 2 f fun f=>zl 25 f fun f=>zi 25 f d fun f=>zf 54 1 f fun f=>zl 9 f fun f=>zn a fun g=>zf 61 0 g fun g=>zf 28 2 g fun g=>zl 25 g fun g=>zi 25 g e fun g=>zf 54 1 g fun g=>zl 9 g fun g=>zb .eql 9 f g fun h=>zC h ( zd 45 [] fun h=>zs c h 3<|zr [.cell 0 45,.tmp 1] [c,(.int .i64 45)]) ( zg 139265 [a,b,c,d,e,f,g])
def z4X:List AV->CM:=a7 fun a b c d e f g=>zk 76 [a,f,g] fun h=>zb .lss 3 h z1 fun i=>zC i ( zd 45 [] fun i=>zs c i 3<|zr [.cell 0 45,.tmp 1] [c,(.int .i64 44)]) ( zg 139266 [a,b,c,d,e,f,g,h])
def z8S:List AV->CM:=a8 fun a b c d e f g h=>zl 45 b fun i=>zk 72 [a,f,i] fun f=>zb .neq 35 f z1 fun i=>zC i ( zd 45 [] fun i=>zs c i 3<|zr [.cell 0 45,.tmp 1] [c,f]) ( zg 139267 [a,b,c,d,e,g,h])
def j2A:List AV->CM:=a7 fun a b c d e f g=>zn a fun h=>zf 61 0 h fun h=>zf 28 2 h fun h=>zl 25 h fun h=>zi 25 h d fun h=>zf 54 2 h fun h=>zl 43 h fun h=>zf 45 0 b fun i=>zl 43 i fun i=>zk 75 [h,i] fun h=>zb .lss 3 h z1 fun h=>zC h ( zd 45 [] fun h=>zs c h 3<|zr [.cell 0 45,.tmp 1] [c,(.int .i64 42)]) ( zg 139268 [a,b,c,d,e,f,g])
def j8n:List AV->CM:=a7 fun a b c d e f g=>zl 45 b fun h=>zn a fun i=>zf 61 0 i fun i=>zf 28 1 i fun i=>zl 24 i fun j=>zi 24 j g fun k=>zf 74 2 k fun k=>zl 45 k fun l=>zn a fun m=>zf 61 0 m fun m=>zf 28 0 m fun m=>zl 23 m fun n=>zk 36 [a,f] fun f=>zm fun o=>zx 23 m o n<|zx 45 k o l<|zx 24 i o j<|zx 45 b o h<|zi 23 n f fun f=>zf 56 1 f fun f=>zl 3 f fun f=>zk 77 [h,l,f] fun f=>ze 0 f fun h=>ze 1 f fun f=>za [z1,z2,z1] fun i=>zs i h 3<|zb .neq 35 f z1 fun h=>zC h ( zd 45 [] fun h=>zs c h 3<|zr [.cell 0 45,.tmp 1] [c,f]) ( zg 139269 [a,b,c,d,e,g,i])
def z8T:List AV->CM:=a7 fun a b c d e f g=>zn a fun h=>zf 61 0 h fun h=>zf 28 1 h fun h=>zl 24 h fun h=>zi 24 h f fun h=>zf 74 3 h fun h=>zl 43 h fun h=>zf 45 0 b fun i=>zl 43 i fun i=>zk 73 [h,i] fun h=>ze 0 h fun i=>ze 1 h fun h=>za [z1,z2] fun j=>zs j i 2<|zn a fun i=>zf 61 0 i fun i=>zf 28 1 i fun i=>zl 24 i fun i=>zi 24 i f fun i=>zf 74 4 i fun i=>zl 43 i fun i=>zf 45 0 g fun k=>zl 43 k fun k=>zk 74 [i,k] fun i=>ze 0 i fun k=>ze 1 i fun i=>za [z1,z2] fun l=>zs l k 2<|zn a fun k=>zf 61 0 k fun k=>zf 28 2 k fun k=>zl 25 k fun k=>zi 25 k e fun k=>zf 54 2 k fun k=>zl 43 k fun k=>zf 45 0 g fun m=>zl 43 m fun m=>zk 73 [k,m] fun k=>ze 0 k fun m=>ze 1 k fun k=>za [z1,z2] fun n=>zs n m 2<|zb .neq 35 h z1 fun h=>zI h ( zd 45 [] fun h=>zs c h 3<|zr [.cell 0 45,.tmp 1] [c,(.int .i64 20)]) ( zb .neq 35 i z1 fun h=>zI h ( zd 45 [] fun h=>zs c h 3<|zr [.cell 0 45,.tmp 1] [c,(.int .i64 20)]) ( zb .neq 35 k z1 fun h=>zC h ( zd 45 [] fun h=>zs c h 3<|zr [.cell 0 45,.tmp 1] [c,(.int .i64 20)]) ( zg 139270 [a,b,c,d,e,f,g,j,l,n])))
def a4k:List AV->CM:=a10 fun a b c d e f g h i j=>zn a fun k=>zf 61 0 k fun k=>zf 28 2 k fun k=>zl 25 k fun k=>zi 25 k d fun k=>zf 54 2 k fun k=>zl 43 k fun k=>zf 45 0 b fun b=>zl 43 b fun b=>zk 74 [k,b] fun b=>ze 0 b fun k=>ze 1 b fun _=>za [z1,z2] fun b=>zs b k 2<|zn a fun k=>zf 61 0 k fun k=>zf 28 1 k fun k=>zl 24 k fun k=>zl 43 h fun h=>zi 24 k f fun k=>zf 74 3 k fun k=>zs k h 2<|zn a fun h=>zf 61 0 h fun h=>zf 28 1 h fun h=>zl 24 h fun h=>zl 43 i fun i=>zi 24 h f fun f=>zf 74 4 f fun f=>zs f i 2<|zn a fun f=>zf 61 0 f fun f=>zf 28 2 f fun f=>zl 25 f fun f=>zl 43 j fun h=>zi 25 f e fun e=>zf 54 2 e fun e=>zs e h 2<|zn a fun a=>zf 61 0 a fun a=>zf 28 2 a fun a=>zl 25 a fun a=>zl 43 b fun b=>zi 25 a d fun a=>zf 54 2 a fun a=>zs a b 2<|zl 45 g fun a=>zs c a 3<|zr [.cell 0 45,.tmp 1] [c,z1]
def f34:List AV->CM:=a4 fun a b c d=>zo d fun d=>za [z1,z2,z1] fun e=>zk 71 [a,b] fun b=>zk 71 [a,c] fun c=>zb .lss 3 b z1 fun f=>zI f ( zd 45 [] fun f=>zs e f 3<|zr [.cell 0 45,.tmp 1] [e,(.int .i64 40)]) ( zb .lss 3 c z1 fun f=>zC f ( zd 45 [] fun f=>zs e f 3<|zr [.cell 0 45,.tmp 1] [e,(.int .i64 40)]) ( zg 139264 [a,d,e,b,c]))
def a4l:List AV->CM:=a1 fun a=>zg 143361 [a,z1]
def z8U:List AV->CM:=a2 fun a b=>zb .lss 3 b (.int .i64 3) fun c=>zC c ( zg 143362 [a,b]) ( zg 143364 [])
def j2D:List AV->CM:=a2 fun a b=>CM.pu (p2 (q4A Tryz.prog 9) a b) fun c=>zb .lss 5 c (.int .u8 65) fun c=>zI c ( zR (.bool false)) ( CM.pu (p2 (q4A Tryz.prog 9) a b) fun c=>zb .gtr 5 c (.int .u8 90) fun c=>zC c ( zR (.bool false)) ( zg 143363 [a,b]))
def j2E:List AV->CM:=a2 fun a b=>zb .add 3 b z4 fun b=>zg 143361 [a,b]
def a4m:List AV->CM:=a0<|zR (.bool true)
def f35:List AV->CM:=a1 fun a=>zt 9 a fun b=>zb .neq 3 b (.int .i64 3) fun b=>zC b ( zR (.bool false)) ( zg 143360 [a])
def z8V:List AV->CM:=a3 fun a b c=>zn a fun d=>zf 61 0 d fun d=>zf 28 0 d fun d=>zl 23 d fun d=>zt 23 d fun d=>zb .lss 3 c d fun d=>zC d ( zg 147457 [a,b,c]) ( zg 147459 [])
def j8o:List AV->CM:=a3 fun a b c=>zn a fun d=>zf 61 0 d fun d=>zf 28 0 d fun d=>zl 23 d fun d=>zi 23 d c fun d=>zf 56 0 d fun d=>zl 9 d fun d=>zb .eql 9 d b fun d=>zC d ( zR c) ( zg 147458 [a,b,c])
def j8p:List AV->CM:=a3 fun a b c=>zb .add 3 c z4 fun c=>zg 147456 [a,b,c]
def j8q:List AV->CM:=a0<|zR (.int .i64 (-1))
def f36:List AV->CM:=a2 fun a b=>zg 147456 [a,b,z1]
def j2G:List AV->CM:=a1 fun a=>zf 45 0 a fun b=>zf 43 0 b fun b=>zl 2 b fun b=>zb .lss 2 b z1 fun b=>zI b ( zR (.int .i64 44)) ( zf 45 0 a fun a=>zl 43 a fun a=>zd 43 [] fun b=>zb .eql 43 a b fun a=>zC a ( zR (.int .i64 44)) ( zg 151553 []))
def a4n:List AV->CM:=a0<|zR z1
def f37:List AV->CM:=a1 fun a=>zo a fun a=>zl 45 a fun b=>zk 78 [b] fun b=>zu b fun b=>zC b ( zR (.int .i64 21)) ( zg 151552 [a])
def j8r:List AV->CM:=a1 fun a=>zd 94 [(0,a)] fun b=>zo b fun b=>zk 79 [(.int .i64 8)] fun c=>ze 0 c fun d=>ze 1 c fun _=>zn b fun c=>zf 94 1 c fun c=>zs c d 1<|zk 80 [(.int .i64 64)] fun c=>ze 0 c fun d=>ze 1 c fun _=>zn b fun c=>zf 94 2 c fun c=>zs c d 1<|zk 81 [a] fun a=>ze 0 a fun c=>ze 1 a fun _=>zn b fun a=>zf 94 3 a fun a=>zs a c 1<|zR (.tup [b,z1])
theorem z3m:OkG H j8r 155648:=c1 fun _ _=>by kernel_rfl
def f38:List AV->CM:=a1 fun a=>zb .lss 3 a z4 fun b=>zI b ( zR (.tup [(.ptr none),z4])) ( zb .gtr 3 a (.int .i64 64) fun b=>zC b ( zR (.tup [(.ptr none),z4])) ( zg 155648 [a]))
theorem j5f (h:H 38=none):OkF H f38 38:=e1 h rfl fun _ _=>by kernel_rfl
def j2J:List AV->CM:=a0<|zR (.bool true)
theorem z3o:OkG H j2J 159744:=c0 fun _=>by kernel_rfl
def f39:List AV->CM:=a3 fun a b c=>zo c fun c=>zn a fun d=>zf 142 0 d fun d=>zl 140 d fun d=>zk 82 [d,b] fun d=>ze 0 d fun e=>ze 1 d fun d=>zC d ( zn a fun d=>zf 142 1 d fun d=>zl 23 d fun d=>zl 56 c fun f=>zi 23 d e fun d=>zs d f 4<|zg 159744 []) ( zn a fun d=>zf 142 0 d fun d=>zl 140 d fun d=>zt 140 d fun d=>zn a fun f=>zf 142 2 f fun f=>zl 3 f fun f=>zb .geq 3 d f fun d=>zC d ( zR (.bool false)) ( zn a fun d=>zf 142 0 d fun d=>zl 140 d fun d=>CM.al (bsA 1 1 [z3] [(0,b)]) fun b=>zk 83 [d,e,b] fun b=>zn a fun d=>zf 142 0 d fun d=>zs d b 1<|zn a fun b=>zf 142 1 b fun b=>zl 23 b fun b=>zl 56 c fun c=>CM.al (bsA 4 1 [z3,z1,z1,z2] [(0,c)]) fun c=>zk 84 [b,e,c] fun b=>zn a fun a=>zf 142 1 a fun a=>zs a b 1<|zg 159744 []))
theorem j5g (h:H 39=none):OkF H f39 39:=e3 h rfl fun _ _ _ _=>by kernel_rfl
def j8s:List AV->CM:=a0<|zR (.bool true)
def f40:List AV->CM:=a3 fun a b c=>zo c fun c=>zn a fun d=>zf 146 0 d fun d=>zl 140 d fun d=>zk 82 [d,b] fun d=>ze 0 d fun e=>ze 1 d fun d=>zC d ( zn a fun d=>zf 146 1 d fun d=>zl 24 d fun d=>zl 74 c fun f=>zi 24 d e fun d=>zs d f 9<|zg 163840 []) ( zn a fun d=>zf 146 0 d fun d=>zl 140 d fun d=>zt 140 d fun d=>zn a fun f=>zf 146 2 f fun f=>zl 3 f fun f=>zb .geq 3 d f fun d=>zC d ( zR (.bool false)) ( zn a fun d=>zf 146 0 d fun d=>zl 140 d fun d=>CM.al (bsA 1 1 [z3] [(0,b)]) fun b=>zk 83 [d,e,b] fun b=>zn a fun d=>zf 146 0 d fun d=>zs d b 1<|zn a fun b=>zf 146 1 b fun b=>zl 24 b fun b=>zl 74 c fun c=>CM.al (bsA 9 1 [z3,z3,z1,z2,z1,z1,z2,z1,z2] [(0,c)]) fun c=>zk 85 [b,e,c] fun b=>zn a fun a=>zf 146 1 a fun a=>zs a b 1<|zg 163840 []))
def j2K:List AV->CM:=a0<|zR (.bool true)
theorem z3r:OkG H j2K 167936:=c0 fun _=>by kernel_rfl
def f41:List AV->CM:=a3 fun a b c=>zo c fun c=>zn a fun d=>zf 151 0 d fun d=>zl 149 d fun d=>zk 86 [d,b] fun d=>ze 0 d fun e=>ze 1 d fun d=>zC d ( zn a fun d=>zf 151 1 d fun d=>zl 25 d fun d=>zl 54 c fun f=>zi 25 d e fun d=>zs d f 4<|zg 167936 []) ( zn a fun d=>zf 151 0 d fun d=>zl 149 d fun d=>zt 149 d fun d=>zn a fun f=>zf 151 2 f fun f=>zl 3 f fun f=>zb .geq 3 d f fun d=>zC d ( zR (.bool false)) ( zn a fun d=>zf 151 0 d fun d=>zl 149 d fun d=>CM.al (bsA 1 1 [z2] [(0,b)]) fun b=>zk 87 [d,e,b] fun b=>zn a fun d=>zf 151 0 d fun d=>zs d b 1<|zn a fun b=>zf 151 1 b fun b=>zl 25 b fun b=>zl 54 c fun c=>CM.al (bsA 4 1 [z2,z3,z1,z2] [(0,c)]) fun c=>zk 88 [b,e,c] fun b=>zn a fun a=>zf 151 1 a fun a=>zs a b 1<|zg 167936 []))
theorem j5h (h:H 41=none):OkF H f41 41:=e3 h rfl fun _ _ _ _=>by kernel_rfl
def a4o:List AV->CM:=a0<|zR z1
theorem j2L:OkG H a4o 172032:=c0 fun _=>by kernel_rfl
def f42:List AV->CM:=a3 fun a b c=>zn a fun d=>zf 94 1 d fun d=>zl 90 d fun d=>zk 89 [d,b] fun d=>ze 0 d fun e=>ze 1 d fun d=>za [z3,z1,z1,z2] fun f=>zs f e 4<|zk 46 [b] fun e=>zu e fun e=>zC e ( zR (.int .i64 41)) ( zb .gtr 26 c (.int .u64 18) fun e=>zC e ( zR (.int .i64 21)) ( zC d ( zR (.int .i64 45)) ( zn a fun a=>zf 94 1 a fun a=>zl 90 a fun a=>zc 26 3 c fun c=>zd 56 [(0,b),(1,c)] fun c=>zk 39 [a,b,c] fun a=>zu a fun a=>zC a ( zR (.int .i64 2)) ( zg 172032 []))))
theorem a1O (h:H 42=none):OkF H f42 42:=e3 h rfl fun _ _ _ _=>by kernel_rfl
def a4p:List AV->CM:=a2 fun a b=>zn a fun c=>zf 94 3 c fun c=>zl 92 c fun c=>zm fun d=>zk 90 [c] fun c=>zn a fun e=>zf 94 0 e fun e=>zl 3 e fun f=>zx 3 e d f<|zb .geq 3 c f fun c=>zI c ( zR (.tup [z2,(.int .i64 2)])) ( zn a fun c=>zf 94 4 c fun c=>zl 26 c fun c=>zb .geq 26 c (.int .u64 72057594037927935) fun c=>zC c ( zR (.tup [z2,(.int .i64 2)])) ( zg 176129 [a,b]))
theorem j2M:OkG H a4p 176128:=c2 fun _ _ _=>by kernel_rfl
def a4q:List AV->CM:=a2 fun a b=>zn a fun c=>zf 94 4 c fun c=>zl 26 c fun c=>zb .add 26 c (.int .u64 1) fun c=>zn a fun d=>zf 94 4 d fun d=>zs d c 1<|zn a fun c=>zf 94 3 c fun c=>zl 92 c fun c=>zn a fun d=>zf 94 4 d fun d=>zl 26 d fun d=>zn a fun e=>zf 94 4 e fun e=>zl 26 e fun e=>zd 54 [(0,e),(1,b)] fun b=>zk 41 [c,d,b] fun _=>zn a fun a=>zf 94 4 a fun a=>zl 26 a fun a=>zR (.tup [a,z1])
theorem j2N:OkG H a4q 176129:=c2 fun _ _ _=>by kernel_rfl
def f43:List AV->CM:=a2 fun a b=>zn a fun c=>zf 94 1 c fun c=>zl 90 c fun c=>zk 89 [c,b] fun c=>ze 0 c fun d=>ze 1 c fun c=>za [z3,z1,z1,z2] fun e=>zs e d 4<|zu c fun c=>zC c ( zR (.tup [z2,(.int .i64 41)])) ( zg 176128 [a,b])
theorem a1P (h:H 43=none):OkF H f43 43:=e2 h rfl fun _ _ _=>by kernel_rfl
def a4r:List AV->CM:=a5 fun a b c d e=>zb .eql 35 e z1 fun f=>zC f ( zf 56 2 d fun f=>zf 54 2 c fun g=>zf 45 0 b fun b=>zl 43 b fun b=>zk 57 [f,g,b] fun b=>zg 180225 [a,c,d,b]) ( zg 180225 [a,c,d,e])
theorem j2O:OkG H a4r 180224:=c5 fun _ _ _ _ _ _=>by kernel_rfl
def a4s:List AV->CM:=a4 fun a b c d=>zb .eql 35 d z1 fun e=>zC e ( zl 54 b fun b=>zk 58 [a,b] fun _=>zn a fun a=>zf 94 1 a fun a=>zl 90 a fun a=>zf 56 0 c fun b=>zl 9 b fun b=>zl 56 c fun c=>zk 39 [a,b,c] fun _=>zg 180226 [d]) ( zg 180226 [d])
theorem j2P:OkG H a4s 180225:=c4 fun _ _ _ _ _=>by kernel_rfl
def a4t:List AV->CM:=a1 fun a=>zR a
theorem j2Q:OkG H a4t 180226:=c1 fun _ _=>by kernel_rfl
def f44:List AV->CM:=a3 fun a b c=>zo c fun c=>zk 53 [a,b] fun b=>ze 0 b fun d=>ze 1 b fun e=>ze 2 b fun b=>za [z2,z3,z1,z2] fun f=>za [z3,z1,z1,z2] fun g=>zs f d 4<|zs g e 4<|zb .eql 35 b z1 fun d=>zC d ( zl 56 g fun d=>zl 45 c fun e=>zk 55 [d,e] fun d=>zg 180224 [a,c,f,g,d]) ( zg 180224 [a,c,f,g,b])
theorem a1Q (h:H 44=none):OkF H f44 44:=e3 h rfl fun _ _ _ _=>by kernel_rfl
def a4u:List AV->CM:=a2 fun a b=>zf 56 2 b fun c=>zl 43 c fun c=>zf 56 1 b fun b=>zl 3 b fun b=>zd 45 [(0,c),(1,b)] fun b=>zs a b 3<|zr [.cell 0 45,.tmp 1] [a,z1]
theorem j2R:OkG H a4u 184320:=c2 fun _ _ _=>by kernel_rfl
def f45:List AV->CM:=a2 fun a b=>za [z1,z2,z1] fun c=>zn a fun a=>zf 94 1 a fun a=>zl 90 a fun a=>zk 89 [a,b] fun a=>ze 0 a fun b=>ze 1 a fun a=>za [z3,z1,z1,z2] fun d=>zs d b 4<|zu a fun a=>zC a ( zd 45 [] fun a=>zs c a 3<|zr [.cell 0 45,.tmp 1] [c,(.int .i64 41)]) ( zg 184320 [c,d])
theorem a1R (h:H 45=none):OkF H f45 45:=e2 h rfl fun _ _ _=>by kernel_rfl
def j2S:List AV->CM:=a2 fun a b=>zt 9 a fun c=>zb .lss 3 b c fun c=>zC c ( zg 188417 [a,b]) ( zg 188419 [a])
theorem z3t:OkG H j2S 188416:=c2 fun _ _ _=>by kernel_rfl
def j8t:List AV->CM:=a2 fun a b=>CM.pu (p2 (q4A Tryz.prog 9) a b) fun c=>zb .lss 5 c (.int .u8 65) fun c=>zI c ( zR (.bool false)) ( CM.pu (p2 (q4A Tryz.prog 9) a b) fun c=>zb .gtr 5 c (.int .u8 90) fun c=>zC c ( zR (.bool false)) ( zg 188418 [a,b]))
theorem z3u:OkG H j8t 188417:=c2 fun _ _ _=>by kernel_rfl
def j8u:List AV->CM:=a2 fun a b=>zb .add 3 b z4 fun b=>zg 188416 [a,b]
theorem z3v:OkG H j8u 188418:=c2 fun _ _ _=>by kernel_rfl
def j8v:List AV->CM:=a1 fun a=>zt 9 a fun a=>zb .eql 3 a (.int .i64 3) fun a=>zR a
theorem z3w:OkG H j8v 188419:=c1 fun _ _=>by kernel_rfl
def f46:List AV->CM:=a1 fun a=>zg 188416 [a,z1]
theorem j5i (h:H 46=none):OkF H f46 46:=e1 h rfl fun _ _=>by kernel_rfl
def z4Y:List AV->CM:=a4 fun a b c d=>zb .lss 3 d c fun e=>zC e ( zg 192513 [a,b,c,d]) ( zg 192516 [])
def z8Y:List AV->CM:=a4 fun a b c d=>zi 24 b d fun e=>zl 74 e fun e=>za [z3,z3,z1,z2,z1,z1,z2,z1,z2] fun f=>zs f e 9<|zb .eql 3 d z1 fun e=>zI e ( zg 192514 [a,f,(.bool true),b,c,d]) ( zf 28 1 a fun e=>zl 24 e fun e=>zb .sub 3 d z4 fun g=>zi 24 e g fun e=>zf 74 0 e fun e=>zl 9 e fun e=>zf 74 0 f fun g=>zl 9 g fun g=>zb .lss 9 e g fun e=>zI e ( zg 192514 [a,f,(.bool true),b,c,d]) ( zf 28 1 a fun e=>zl 24 e fun e=>zb .sub 3 d z4 fun g=>zi 24 e g fun e=>zf 74 0 e fun e=>zl 9 e fun e=>zf 74 0 f fun g=>zl 9 g fun g=>zb .eql 9 e g fun e=>zI e ( zf 28 1 a fun e=>zl 24 e fun e=>zb .sub 3 d z4 fun g=>zi 24 e g fun e=>zf 74 1 e fun e=>zl 9 e fun e=>zf 74 1 f fun g=>zl 9 g fun g=>zb .lss 9 e g fun e=>zg 192514 [a,f,e,b,c,d]) ( zg 192514 [a,f,(.bool false),b,c,d])))
def q8W:List AV->CM:=a6 fun a b c d e f=>zu c fun c=>zI c ( zR (.bool false)) ( zl 28 a fun c=>zf 74 0 b fun g=>zl 9 g fun g=>zk 91 [c,g] fun c=>zu c fun c=>zI c ( zR (.bool false)) ( zl 28 a fun c=>zf 74 1 b fun g=>zl 9 g fun g=>zk 91 [c,g] fun c=>zu c fun c=>zI c ( zR (.bool false)) ( zf 74 0 b fun c=>zl 9 c fun c=>zf 74 1 b fun g=>zl 9 g fun g=>zb .eql 9 c g fun c=>zI c ( zR (.bool false)) ( zf 74 2 b fun c=>zl 45 c fun c=>zk 92 [c] fun c=>zb .neq 35 c z1 fun c=>zI c ( zR (.bool false)) ( zf 74 3 b fun c=>zl 43 c fun c=>zk 93 [c] fun c=>zb .lss 3 c z1 fun c=>zI c ( zR (.bool false)) ( zf 74 4 b fun b=>zl 43 b fun b=>zk 93 [b] fun b=>zb .gtr 3 b z1 fun b=>zC b ( zR (.bool false)) ( zg 192515 [a,d,e,f])))))))
def a4v:List AV->CM:=a4 fun a b c d=>zb .add 3 d z4 fun d=>zg 192512 [a,b,c,d]
def a4w:List AV->CM:=a0<|zR (.bool true)
def f47:List AV->CM:=a1 fun a=>zo a fun a=>zf 28 1 a fun b=>zl 24 b fun b=>zt 24 b fun c=>zg 192512 [a,b,c,z1]
def j8w:List AV->CM:=a5 fun a b c d e=>zb .lss 3 e d fun f=>zC f ( zg 196609 [a,b,c,d,e]) ( zg 196612 [a])
def z4Z:List AV->CM:=a5 fun a b c d e=>zi 25 c e fun f=>zl 54 f fun f=>za [z2,z3,z1,z2] fun g=>zs g f 4<|zf 54 0 g fun f=>zl 26 f fun f=>zb .leq 26 f b fun b=>zI b ( zR (.bool false)) ( zf 54 0 g fun b=>zl 26 b fun b=>zf 28 3 a fun f=>zl 26 f fun f=>zb .gtr 26 b f fun b=>zI b ( zR (.bool false)) ( zl 28 a fun b=>zf 54 1 g fun f=>zl 9 f fun f=>zk 91 [b,f] fun b=>zu b fun b=>zI b ( zR (.bool false)) ( zf 54 2 g fun b=>zl 43 b fun b=>zk 93 [b] fun b=>zb .lss 3 b z1 fun b=>zC b ( zR (.bool false)) ( zg 196610 [a,g,c,d,e]))))
def a4x:List AV->CM:=a5 fun a b c d e=>zf 54 0 b fun b=>zl 26 b fun b=>zg 196611 [a,b,c,d,e]
def a4y:List AV->CM:=a5 fun a b c d e=>zb .add 3 e z4 fun e=>zg 196608 [a,b,c,d,e]
def a4z:List AV->CM:=a1 fun a=>zf 28 3 a fun a=>zl 26 a fun a=>zb .leq 26 a (.int .u64 72057594037927935) fun a=>zR a
def f48:List AV->CM:=a1 fun a=>zo a fun a=>zf 28 2 a fun b=>zl 25 b fun b=>zt 25 b fun c=>zg 196608 [a,z2,b,c,z1]
def j8x:List AV->CM:=a6 fun a b c d e f=>zb .lss 3 f e fun g=>zC g ( zg 200705 [a,b,c,d,e,f]) ( zg 200707 [a,b,c])
def j8y:List AV->CM:=a6 fun a b c d e f=>zi 25 d f fun g=>zl 54 g fun g=>za [z2,z3,z1,z2] fun h=>zs h g 4<|zf 54 1 h fun g=>zl 9 g fun g=>zf 56 0 b fun i=>zl 9 i fun i=>zb .eql 9 g i fun g=>zC g ( zf 54 2 h fun g=>zl 43 g fun g=>zk 94 [c,g] fun _=>zg 200706 [a,b,c,d,e,f]) ( zg 200706 [a,b,c,d,e,f])
def a4A:List AV->CM:=a6 fun a b c d e f=>zb .add 3 f z4 fun f=>zg 200704 [a,b,c,d,e,f]
def a4B:List AV->CM:=a3 fun a b c=>zf 28 1 a fun a=>zl 24 a fun a=>zt 24 a fun d=>zg 200708 [b,c,a,d,z1]
def j8z:List AV->CM:=a5 fun a b c d e=>zb .lss 3 e d fun f=>zC f ( zg 200709 [a,b,c,d,e]) ( zg 200712 [b])
def j8A:List AV->CM:=a5 fun a b c d e=>zi 24 c e fun f=>zl 74 f fun f=>za [z3,z3,z1,z2,z1,z1,z2,z1,z2] fun g=>zs g f 9<|zf 74 0 g fun f=>zl 9 f fun f=>zf 56 0 a fun h=>zl 9 h fun h=>zb .eql 9 f h fun f=>zC f ( zf 74 3 g fun f=>zl 43 f fun f=>zk 94 [b,f] fun _=>zg 200710 [a,b,g,c,d,e]) ( zg 200710 [a,b,g,c,d,e])
def j8B:List AV->CM:=a6 fun a b c d e f=>zf 74 1 c fun g=>zl 9 g fun g=>zf 56 0 a fun h=>zl 9 h fun h=>zb .eql 9 g h fun g=>zC g ( zf 74 4 c fun c=>zl 43 c fun c=>zk 94 [b,c] fun _=>zg 200711 [a,b,d,e,f]) ( zg 200711 [a,b,d,e,f])
def a4C:List AV->CM:=a5 fun a b c d e=>zb .add 3 e z4 fun e=>zg 200708 [a,b,c,d,e]
def a4D:List AV->CM:=a1 fun a=>zk 95 [a] fun a=>zR a
def f49:List AV->CM:=a2 fun a b=>zo a fun a=>zo b fun b=>za [z1,z2,z2] fun c=>zf 56 2 b fun d=>zl 43 d fun d=>zk 94 [c,d] fun _=>zf 28 2 a fun d=>zl 25 d fun d=>zt 25 d fun e=>zg 200704 [a,b,c,d,e,z1]
def f50:List AV->CM:=a1 fun a=>zo a fun a=>zR (.fn (.func 96) [] [a])
def f51:List AV->CM:=a1 fun a=>zo a fun a=>zR (.fn (.func 100) [] [a])
def f52:List AV->CM:=a1 fun a=>zo a fun a=>zR (.fn (.func 104) [] [a])
def a4E:List AV->CM:=a4 fun a b c d=>zn a fun a=>zf 94 1 a fun a=>zl 90 a fun a=>zf 54 1 d fun e=>zl 9 e fun e=>zk 89 [a,e] fun a=>ze 0 a fun e=>ze 1 a fun _=>za [z3,z1,z1,z2] fun a=>zs a e 4<|zl 54 d fun d=>zl 56 a fun e=>zs b d 4<|zm fun d=>zx 56 a d e<|zs c e 4<|zr [.cell 0 54,.cell 1 56,.tmp 2] [b,c,z1]
theorem j25:OkG H a4E 217088:=c4 fun _ _ _ _ _=>by kernel_rfl
def f53:List AV->CM:=a2 fun a b=>za [z2,z3,z1,z2] fun c=>za [z3,z1,z1,z2] fun d=>zn a fun e=>zf 94 3 e fun e=>zl 92 e fun e=>zk 108 [e,b] fun b=>ze 0 b fun e=>ze 1 b fun b=>za [z2,z3,z1,z2] fun f=>zs f e 4<|zu b fun b=>zC b ( zl 54 f fun b=>zd 56 [] fun e=>zs c b 4<|zs d e 4<|zr [.cell 0 54,.cell 1 56,.tmp 2] [c,d,(.int .i64 40)]) ( zg 217088 [a,c,d,f])
theorem a1Z (h:H 53=none):OkF H f53 53:=e2 h rfl fun _ _ _=>by kernel_rfl
def f54:List AV->CM:=a1 fun a=>za [z1,z2] fun b=>zb .shr 2 a (.int .u64 63) fun c=>zc 2 26 a fun a=>zd 43 [(0,c),(1,a)] fun a=>zs b a 2<|zr [.cell 0 43] [b]
theorem j5j (h:H 54=none):OkF H f54 54:=e1 h rfl fun _ _=>by kernel_rfl
def a4F:List AV->CM:=a0<|zR z1
theorem j26:OkG H a4F 225280:=c0 fun _=>by kernel_rfl
def f55:List AV->CM:=a2 fun a b=>zo a fun a=>zo b fun b=>zf 45 1 b fun c=>zl 3 c fun c=>zf 56 1 a fun a=>zl 3 a fun a=>zb .neq 3 c a fun a=>zC a ( zR (.int .i64 21)) ( zf 45 0 b fun a=>zl 43 a fun a=>zk 93 [a] fun a=>zb .leq 3 a z1 fun a=>zC a ( zR (.int .i64 43)) ( zg 225280 []))
theorem a13 (h:H 55=none):OkF H f55 55:=e2 h rfl fun _ _ _=>by kernel_rfl
def a4G:List AV->CM:=a4 fun a b c d=>zl 43 c fun c=>zl 43 d fun e=>zn a fun a=>zs a c 2<|zm fun a=>zx 43 d a e<|zn b fun a=>zs a e 2<|zR z1
theorem j27:OkG H a4G 233472:=c4 fun _ _ _ _ _=>by kernel_rfl
def f57:List AV->CM:=a3 fun a b c=>zo c fun c=>zn a fun d=>zl 43 d fun d=>zl 43 c fun e=>zk 22 [d,e] fun d=>ze 0 d fun e=>ze 1 d fun d=>za [z1,z2] fun f=>zs f e 2<|zn b fun e=>zl 43 e fun e=>zl 43 c fun c=>zk 21 [e,c] fun c=>ze 0 c fun e=>ze 1 c fun c=>za [z1,z2] fun g=>zs g e 2<|zb .neq 35 d z1 fun d=>zI d ( zR (.int .i64 20)) ( zb .neq 35 c z1 fun c=>zC c ( zR (.int .i64 20)) ( zg 233472 [a,b,f,g]))
theorem a14 (h:H 57=none):OkF H f57 57:=e3 h rfl fun _ _ _ _=>by kernel_rfl
def f58:List AV->CM:=a2 fun a b=>zo b fun b=>zn a fun a=>zf 94 3 a fun a=>zl 92 a fun a=>zf 54 0 b fun c=>zl 26 c fun c=>zl 54 b fun b=>zk 41 [a,c,b] fun _=>zR .undef
theorem a15 (h:H 58=none):OkF H f58 58:=e2 h rfl fun _ _ _=>by kernel_rfl
def a4H:List AV->CM:=a3 fun a b c=>zn a fun d=>zf 61 0 d fun d=>zf 28 2 d fun d=>zl 25 d fun e=>zi 25 e c fun f=>zf 54 2 f fun f=>zl 43 f fun g=>zn a fun h=>zf 61 0 h fun h=>zf 28 0 h fun h=>zl 23 h fun i=>zn a fun j=>zf 61 0 j fun j=>zf 28 2 j fun j=>zl 25 j fun j=>zi 25 j c fun c=>zf 54 1 c fun c=>zl 9 c fun c=>zk 36 [a,c] fun a=>zm fun c=>zx 23 h c i<|zx 43 f c g<|zx 25 d c e<|zi 23 i a fun a=>zf 56 1 a fun a=>zl 3 a fun a=>zd 45 [(0,g),(1,a)] fun a=>zs b a 3<|zr [.cell 0 45,.tmp 1] [b,z1]
def f64:List AV->CM:=a2 fun a b=>za [z1,z2,z1] fun c=>zk 71 [a,b] fun b=>zb .lss 3 b z1 fun d=>zC d ( zd 45 [] fun d=>zs c d 3<|zr [.cell 0 45,.tmp 1] [c,(.int .i64 40)]) ( zg 262144 [a,c,b])
end
end
end Go.Proofs.YtlginbmjiecglaaGreatDoor.T
