/- Texts of one claim, put together. -/
import Derived.Test.YtlginbmjiecglaaGreatDoorW10
import Derived.KernelRfl
namespace Go.Proofs.YtlginbmjiecglaaGreatDoor.T
section
open Go Go.Abs Go.Proofs.YtlginbmjiecglaaGreatDoor
set_option maxRecDepth 10000
noncomputable section
variable {H:FuncId->Option (List AV->Mem->R)}
def a4I:List AV->CM:=a4 fun a b c d=>zd 123 [(0,d)] fun d=>za [(.bool false),z2,z2,z2,z2,z2,z2,z2,z2,z2,z2,z2,z2,z2,z2,z2,z2] fun e=>zs e d 17<|zb .rem 26 c (.int .u64 4294967296) fun d=>zf 123 1 e fun f=>zi 121 f z1 fun f=>zs f d 1<|zb .quo 26 c (.int .u64 4294967296) fun c=>zf 123 1 e fun d=>zi 121 d z4 fun d=>zs d c 1<|zb .rem 26 b (.int .u64 4294967296) fun c=>zf 123 1 e fun d=>zi 121 d (.int .i64 2) fun d=>zs d c 1<|zb .quo 26 b (.int .u64 4294967296) fun b=>zf 123 1 e fun c=>zi 121 c (.int .i64 3) fun c=>zs c b 1<|zl 123 e fun b=>zs a b 17<|zr [.cell 0 123] [a]
def f68:List AV->CM:=a1 fun a=>zo a fun a=>za [(.bool false),z2,z2,z2,z2,z2,z2,z2,z2,z2,z2,z2,z2,z2,z2,z2,z2] fun b=>zf 43 0 a fun c=>zl 2 c fun c=>zc 2 26 c fun c=>zf 43 1 a fun d=>zl 26 d fun d=>zf 43 0 a fun a=>zl 2 a fun a=>zb .lss 2 a z1 fun a=>zC a ( CM.pu (p1 (unA .xor) c) fun e=>CM.pu (p1 (unA .xor) d) fun f=>zb .add 26 f (.int .u64 1) fun f=>zb .eql 26 f z2 fun g=>zC g ( zb .add 26 e (.int .u64 1) fun g=>zg 278528 [b,g,f,a]) ( zg 278528 [b,e,f,a])) ( zg 278528 [b,c,d,a])
def j8C:List AV->CM:=a3 fun a b c=>zf 123 1 a fun d=>zl 121 d fun d=>zf 123 1 b fun e=>zl 121 e fun e=>zk 112 [d,e] fun d=>zb .lss 3 d z1 fun d=>zC d ( zf 123 0 b fun d=>zl 4 d fun e=>zf 123 1 b fun f=>zl 121 f fun f=>zf 123 1 a fun g=>zl 121 g fun g=>zk 113 [f,g] fun f=>zm fun g=>zx 4 d g e<|zd 123 [(0,e),(1,f)] fun d=>zs c d 17<|zr [.cell 0 123] [c]) ( zg 282625 [a,b,c])
def j8D:List AV->CM:=a3 fun a b c=>zf 123 1 a fun d=>zl 121 d fun d=>zf 123 1 b fun b=>zl 121 b fun b=>zk 113 [d,b] fun b=>za [z2,z2,z2,z2,z2,z2,z2,z2,z2,z2,z2,z2,z2,z2,z2,z2] fun d=>zs d b 16<|zf 123 0 a fun a=>zl 4 a fun a=>zI a ( zl 121 d fun a=>zm fun b=>zk 70 [a] fun a=>zu a fun a=>zl 121 d fun e=>zx 121 d b e<|zd 123 [(0,a),(1,e)] fun a=>zs c a 17<|zr [.cell 0 123] [c]) ( zl 121 d fun a=>zd 123 [(0,(.bool false)),(1,a)] fun a=>zs c a 17<|zr [.cell 0 123] [c])
def f69:List AV->CM:=a2 fun a b=>zo a fun a=>zo b fun b=>za [(.bool false),z2,z2,z2,z2,z2,z2,z2,z2,z2,z2,z2,z2,z2,z2,z2,z2] fun c=>zf 123 0 a fun d=>zl 4 d fun d=>zf 123 0 b fun e=>zl 4 e fun e=>zb .eql 4 d e fun d=>zC d ( zf 123 0 a fun d=>zl 4 d fun e=>zf 123 1 a fun f=>zl 121 f fun f=>zf 123 1 b fun g=>zl 121 g fun g=>zk 111 [f,g] fun f=>zm fun g=>zx 4 d g e<|zd 123 [(0,e),(1,f)] fun d=>zs c d 17<|zr [.cell 0 123] [c]) ( zg 282624 [a,b,c])
def f70:List AV->CM:=a1 fun a=>zo a fun a=>zl 121 a fun a=>zd 121 [] fun b=>zb .eql 121 a b fun a=>zR a
def j8E:List AV->CM:=a3 fun a b c=>zn a fun d=>zf 61 0 d fun d=>zf 28 2 d fun d=>zl 25 d fun d=>zt 25 d fun d=>zb .lss 3 c d fun d=>zC d ( zg 290817 [a,b,c]) ( zg 290819 [])
def a4J:List AV->CM:=a3 fun a b c=>zn a fun d=>zf 61 0 d fun d=>zf 28 2 d fun d=>zl 25 d fun d=>zi 25 d c fun d=>zf 54 0 d fun d=>zl 26 d fun d=>zb .eql 26 d b fun d=>zC d ( zR c) ( zg 290818 [a,b,c])
def a4K:List AV->CM:=a3 fun a b c=>zb .add 3 c z4 fun c=>zg 290816 [a,b,c]
def a4L:List AV->CM:=a0<|zR (.int .i64 (-1))
def f71:List AV->CM:=a2 fun a b=>zg 290816 [a,b,z1]
def j3d:List AV->CM:=a1 fun a=>zf 45 0 a fun b=>zf 43 0 b fun b=>zl 2 b fun b=>zb .lss 2 b z1 fun b=>zI b ( zR (.int .i64 43)) ( zf 45 0 a fun a=>zl 43 a fun a=>zd 43 [] fun b=>zb .eql 43 a b fun a=>zC a ( zR (.int .i64 43)) ( zg 294913 []))
def a4M:List AV->CM:=a0<|zR z1
def f72:List AV->CM:=a3 fun a b c=>zo c fun c=>zf 45 1 c fun d=>zl 3 d fun e=>zn a fun f=>zf 61 0 f fun f=>zf 28 0 f fun f=>zl 23 f fun g=>zk 36 [a,b] fun a=>zm fun b=>zx 23 f b g<|zx 3 d b e<|zi 23 g a fun a=>zf 56 1 a fun a=>zl 3 a fun a=>zb .neq 3 e a fun a=>zC a ( zR (.int .i64 21)) ( zg 294912 [c])
def f73:List AV->CM:=a2 fun a b=>zo a fun a=>zo b fun b=>za [z1,z2] fun c=>zl 43 a fun a=>zm fun d=>zk 68 [a] fun a=>zl 43 b fun e=>zx 43 b d e<|zk 68 [e] fun b=>zk 69 [a,b] fun a=>zk 114 [a] fun a=>ze 0 a fun b=>ze 1 a fun a=>zs c b 2<|zr [.cell 0 43,.tmp 1] [c,a]
def f74:List AV->CM:=a2 fun a b=>zo a fun a=>zo b fun b=>za [z1,z2] fun c=>zl 43 a fun a=>zm fun d=>zk 68 [a] fun a=>zl 43 b fun e=>zx 43 b d e<|zk 68 [e] fun b=>zk 115 [b] fun b=>zk 69 [a,b] fun a=>zk 114 [a] fun a=>ze 0 a fun b=>ze 1 a fun a=>zs c b 2<|zr [.cell 0 43,.tmp 1] [c,a]
def f75:List AV->CM:=a2 fun a b=>zo a fun a=>zo b fun b=>zl 43 a fun a=>zm fun c=>zk 68 [a] fun a=>zl 43 b fun d=>zx 43 b c d<|zk 68 [d] fun b=>zk 116 [a,b] fun a=>zR a
def j8F:List AV->CM:=a4 fun a b c d=>zn a fun e=>zf 61 0 e fun e=>zf 28 1 e fun e=>zl 24 e fun e=>zt 24 e fun e=>zb .lss 3 d e fun e=>zC e ( zg 311297 [a,b,c,d]) ( zg 311299 [])
def a4N:List AV->CM:=a4 fun a b c d=>zn a fun e=>zf 61 0 e fun e=>zf 28 1 e fun e=>zl 24 e fun e=>zi 24 e d fun e=>zf 74 0 e fun e=>zl 9 e fun e=>zb .eql 9 e b fun e=>zI e ( zn a fun e=>zf 61 0 e fun e=>zf 28 1 e fun e=>zl 24 e fun e=>zi 24 e d fun e=>zf 74 1 e fun e=>zl 9 e fun e=>zb .eql 9 e c fun e=>zC e ( zR d) ( zg 311298 [a,b,c,d])) ( zg 311298 [a,b,c,d])
def a4O:List AV->CM:=a4 fun a b c d=>zb .add 3 d z4 fun d=>zg 311296 [a,b,c,d]
def a4P:List AV->CM:=a0<|zR (.int .i64 (-1))
def f76:List AV->CM:=a3 fun a b c=>zg 311296 [a,b,c,z1]
def z8Z:List AV->CM:=a4 fun a b c d=>zf 45 0 b fun e=>zf 43 0 e fun e=>zl 2 e fun e=>zb .lss 2 e z1 fun e=>zI e ( zd 45 [] fun e=>zs d e 3<|zr [.cell 0 45,.tmp 1] [d,(.int .i64 43)]) ( zf 45 0 b fun e=>zl 43 e fun e=>zd 43 [] fun f=>zb .eql 43 e f fun e=>zC e ( zd 45 [] fun e=>zs d e 3<|zr [.cell 0 45,.tmp 1] [d,(.int .i64 43)]) ( zg 315393 [a,b,c,d]))
def j8G:List AV->CM:=a4 fun a b c d=>zl 45 c fun e=>zk 37 [e] fun e=>zb .neq 35 e z1 fun f=>zC f ( zd 45 [] fun f=>zs d f 3<|zr [.cell 0 45,.tmp 1] [d,e]) ( zg 315394 [a,b,c,d])
def j8H:List AV->CM:=a4 fun a b c d=>zl 45 b fun b=>zl 45 c fun c=>zk 117 [b,c,a] fun a=>ze 0 a fun b=>ze 1 a fun a=>zs d b 3<|zr [.cell 0 45,.tmp 1] [d,a]
def f77:List AV->CM:=a3 fun a b c=>zo a fun a=>zo b fun b=>za [z1,z2,z1] fun d=>zl 45 a fun e=>zk 78 [e] fun e=>zu e fun e=>zI e ( zd 45 [] fun e=>zs d e 3<|zr [.cell 0 45,.tmp 1] [d,(.int .i64 21)]) ( zb .lss 3 c z1 fun e=>zI e ( zd 45 [] fun e=>zs d e 3<|zr [.cell 0 45,.tmp 1] [d,(.int .i64 21)]) ( zb .gtr 3 c (.int .i64 18) fun e=>zC e ( zd 45 [] fun e=>zs d e 3<|zr [.cell 0 45,.tmp 1] [d,(.int .i64 21)]) ( zg 315392 [c,a,b,d])))
def f78:List AV->CM:=a1 fun a=>zo a fun a=>zf 45 1 a fun b=>zl 3 b fun b=>zb .geq 3 b z1 fun b=>zI b ( zf 45 1 a fun a=>zl 3 a fun a=>zb .leq 3 a (.int .i64 18) fun a=>zR a) ( zR (.bool false))
def j8I:List AV->CM:=a1 fun a=>zd 142 [(2,a)] fun a=>zo a fun a=>zR (.tup [a,z1])
theorem z3J:OkG H j8I 323584:=c1 fun _ _=>by kernel_rfl
def f79:List AV->CM:=a1 fun a=>zb .lss 3 a z4 fun b=>zI b ( zR (.tup [(.ptr none),z4])) ( zb .gtr 3 a (.int .i64 4096) fun b=>zC b ( zR (.tup [(.ptr none),z4])) ( zg 323584 [a]))
theorem j5n (h:H 79=none):OkF H f79 79:=e1 h rfl fun _ _=>by kernel_rfl
def j8K:List AV->CM:=a1 fun a=>zd 146 [(2,a)] fun a=>zo a fun a=>zR (.tup [a,z1])
theorem z3K:OkG H j8K 327680:=c1 fun _ _=>by kernel_rfl
def f80:List AV->CM:=a1 fun a=>zb .lss 3 a z4 fun b=>zI b ( zR (.tup [(.ptr none),z4])) ( zb .gtr 3 a (.int .i64 4096) fun b=>zC b ( zR (.tup [(.ptr none),z4])) ( zg 327680 [a]))
theorem j5o (h:H 80=none):OkF H f80 80:=e1 h rfl fun _ _=>by kernel_rfl
def j8L:List AV->CM:=a1 fun a=>zd 151 [(2,a)] fun a=>zo a fun a=>zR (.tup [a,z1])
theorem z3L:OkG H j8L 331776:=c1 fun _ _=>by kernel_rfl
def f81:List AV->CM:=a1 fun a=>zb .lss 3 a z4 fun b=>zI b ( zR (.tup [(.ptr none),z4])) ( zb .gtr 3 a (.int .i64 4096) fun b=>zC b ( zR (.tup [(.ptr none),z4])) ( zg 331776 [a]))
theorem j5p (h:H 81=none):OkF H f81 81:=e1 h rfl fun _ _=>by kernel_rfl
def j3l:List AV->CM:=a5 fun a b c d e=>zb .lss 3 d e fun f=>zC f ( zg 335873 [a,b,c,d,e]) ( zg 335874 [a,b,c,d])
theorem z3N:OkG H j3l 335872:=c5 fun _ _ _ _ _ _=>by kernel_rfl
def j8M:List AV->CM:=a5 fun a b c d e=>zb .add 3 d e fun f=>zc 3 172 f fun f=>zb .shr 172 f (.int .u64 1) fun f=>zc 172 3 f fun f=>zi 140 a f fun g=>zl 9 g fun g=>zk 118 [g,b] fun g=>zC g ( zb .add 3 f z4 fun g=>zg 335872 [a,b,c,g,e]) ( zg 335872 [a,b,c,d,f])
theorem z3O:OkG H j8M 335873:=c5 fun _ _ _ _ _ _=>by kernel_rfl
def j3n:List AV->CM:=a4 fun a b c d=>zb .lss 3 d c fun c=>zI c ( zi 140 a d fun c=>zl 9 c fun c=>zb .eql 9 c b fun c=>zI c ( zR (.tup [d,(.bool true)])) ( zi 140 a d fun a=>zl 9 a fun a=>zk 119 [a] fun a=>zI a ( zk 119 [b] fun a=>zR (.tup [d,a])) ( zR (.tup [d,(.bool false)])))) ( zR (.tup [d,(.bool false)]))
theorem z3Q:OkG H j3n 335874:=c4 fun _ _ _ _ _=>by kernel_rfl
def f82:List AV->CM:=a2 fun a b=>zt 140 a fun c=>zg 335872 [a,b,c,z1,c]
theorem j5q (h:H 82=none):OkF H f82 82:=e2 h rfl fun _ _ _=>by kernel_rfl
def j3A:List AV->CM:=a5 fun a b c d e=>zb .lss 3 d e fun f=>zC f ( zg 352257 [a,b,c,d,e]) ( zg 352258 [a,b,c,d])
theorem z3S:OkG H j3A 352256:=c5 fun _ _ _ _ _ _=>by kernel_rfl
def j8N:List AV->CM:=a5 fun a b c d e=>zb .add 3 d e fun f=>zc 3 172 f fun f=>zb .shr 172 f (.int .u64 1) fun f=>zc 172 3 f fun f=>zi 149 a f fun g=>zl 26 g fun g=>zk 126 [g,b] fun g=>zC g ( zb .add 3 f z4 fun g=>zg 352256 [a,b,c,g,e]) ( zg 352256 [a,b,c,d,f])
theorem z3T:OkG H j8N 352257:=c5 fun _ _ _ _ _ _=>by kernel_rfl
def j3C:List AV->CM:=a4 fun a b c d=>zb .lss 3 d c fun c=>zI c ( zi 149 a d fun c=>zl 26 c fun c=>zb .eql 26 c b fun c=>zI c ( zR (.tup [d,(.bool true)])) ( zi 149 a d fun a=>zl 26 a fun a=>zk 127 [a] fun a=>zI a ( zk 127 [b] fun a=>zR (.tup [d,a])) ( zR (.tup [d,(.bool false)])))) ( zR (.tup [d,(.bool false)]))
theorem z3V:OkG H j3C 352258:=c4 fun _ _ _ _ _=>by kernel_rfl
def f86:List AV->CM:=a2 fun a b=>zt 149 a fun c=>zg 352256 [a,b,c,z1,c]
theorem j5r (h:H 86=none):OkF H f86 86:=e2 h rfl fun _ _ _=>by kernel_rfl
def a5m:List AV->CM:=a3 fun a b c=>zn a fun a=>zf 142 1 a fun a=>zl 23 a fun a=>zi 23 a c fun a=>zl 56 a fun a=>zs b a 4<|zr [.cell 0 56,.tmp 1] [b,(.bool true)]
theorem j3L:OkG H a5m 364544:=c3 fun _ _ _ _=>by kernel_rfl
def f89:List AV->CM:=a2 fun a b=>za [z3,z1,z1,z2] fun c=>zn a fun d=>zf 142 0 d fun d=>zl 140 d fun d=>zk 82 [d,b] fun b=>ze 0 b fun d=>ze 1 b fun b=>zu b fun b=>zC b ( za [z3,z1,z1,z2] fun b=>zl 56 b fun b=>zs c b 4<|zr [.cell 0 56,.tmp 1] [c,(.bool false)]) ( zg 364544 [a,c,d])
theorem a2o (h:H 89=none):OkF H f89 89:=e2 h rfl fun _ _ _=>by kernel_rfl
def f90:List AV->CM:=a1 fun a=>zn a fun a=>zf 151 0 a fun a=>zl 149 a fun a=>zt 149 a fun a=>zR a
theorem a2p (h:H 90=none):OkF H f90 90:=e1 h rfl fun _ _=>by kernel_rfl
def j8O:List AV->CM:=a4 fun a b c d=>zb .lss 3 d c fun e=>zC e ( zg 372737 [a,b,c,d]) ( zg 372739 [])
def a5n:List AV->CM:=a4 fun a b c d=>zi 23 b d fun e=>zl 56 e fun e=>za [z3,z1,z1,z2] fun f=>zs f e 4<|zf 56 0 f fun e=>zl 9 e fun e=>zb .eql 9 e a fun e=>zC e ( zR (.bool true)) ( zg 372738 [a,b,c,d])
def a5o:List AV->CM:=a4 fun a b c d=>zb .add 3 d z4 fun d=>zg 372736 [a,b,c,d]
def a5p:List AV->CM:=a0<|zR (.bool false)
def f91:List AV->CM:=a2 fun a b=>zo a fun a=>zf 28 0 a fun a=>zl 23 a fun a=>zt 23 a fun c=>zg 372736 [b,a,c,z1]
def a5q:List AV->CM:=a0<|zR z1
def f92:List AV->CM:=a1 fun a=>zo a fun a=>zl 45 a fun b=>zk 132 [b] fun b=>zu b fun b=>zC b ( zR (.int .i64 21)) ( zl 45 a fun a=>zk 133 [a] fun a=>zu a fun a=>zC a ( zR (.int .i64 44)) ( zg 376832 []))
def j3Q:List AV->CM:=a0<|zR z4
theorem z3Y:OkG H j3Q 380928:=c0 fun _=>by kernel_rfl
def f93:List AV->CM:=a1 fun a=>zo a fun a=>zf 43 0 a fun b=>zl 2 b fun b=>zb .lss 2 b z1 fun b=>zC b ( zR (.int .i64 (-1))) ( zf 43 0 a fun b=>zl 2 b fun b=>zb .eql 2 b z1 fun b=>zI b ( zf 43 1 a fun a=>zl 26 a fun a=>zb .eql 26 a z2 fun a=>zC a ( zR z1) ( zg 380928 [])) ( zg 380928 []))
theorem j5s (h:H 93=none):OkF H f93 93:=e1 h rfl fun _ _=>by kernel_rfl
def a5r:List AV->CM:=a2 fun a b=>zn a fun c=>zf 160 0 c fun c=>zl 43 c fun d=>zf 43 0 b fun b=>zl 2 b fun b=>zk 54 [b] fun b=>zm fun e=>zx 43 c e d<|zk 21 [d,b] fun b=>ze 0 b fun c=>ze 1 b fun _=>zn a fun a=>zf 160 0 a fun a=>zs a c 2<|zR .undef
def f94:List AV->CM:=a2 fun a b=>zo b fun b=>zn a fun c=>zf 160 1 c fun c=>zl 26 c fun c=>zf 43 1 b fun d=>zl 26 d fun d=>zb .add 26 c d fun c=>zn a fun d=>zf 160 1 d fun d=>zs d c 1<|zn a fun c=>zf 160 1 c fun c=>zl 26 c fun c=>zf 43 1 b fun d=>zl 26 d fun d=>zb .lss 26 c d fun c=>zC c ( zn a fun c=>zf 160 0 c fun c=>zl 43 c fun d=>zk 54 [z4] fun e=>zm fun f=>zx 43 c f d<|zk 21 [d,e] fun c=>ze 0 c fun d=>ze 1 c fun _=>zn a fun c=>zf 160 0 c fun c=>zs c d 2<|zg 385024 [a,b]) ( zg 385024 [a,b])
def f95:List AV->CM:=a1 fun a=>zn a fun b=>zf 160 1 b fun b=>zl 26 b fun b=>zb .eql 26 b z2 fun b=>zI b ( zn a fun a=>zf 160 0 a fun a=>zl 43 a fun a=>zk 93 [a] fun a=>zb .eql 3 a z1 fun a=>zR a) ( zR (.bool false))
def f96:List AV->CM:=a2 fun a b=>zl 90 b fun c=>zm fun d=>zk 98 [c] fun c=>zl 90 b fun e=>zx 90 b d e<|zk 99 [e] fun b=>zk 97 [c,b,a] fun _=>zR .undef
def j3S:List AV->CM:=a5 fun a b c d e=>zb .lss 3 e d fun f=>zC f ( zg 397313 [a,b,c,d,e]) ( zR .undef)
def a5s:List AV->CM:=a5 fun a b c d e=>zi 140 c e fun f=>zl 9 f fun f=>zi 23 a e fun g=>zl 56 g fun g=>CM.callv b [f,g] fun f=>zu f fun f=>zC f ( zR .undef) ( zg 397314 [a,b,c,d,e])
def a5t:List AV->CM:=a5 fun a b c d e=>zb .add 3 e z4 fun e=>zg 397312 [a,b,c,d,e]
def f97:List AV->CM:=a3 fun a b c=>zt 140 a fun d=>zg 397312 [b,c,a,d,z1]
def f98:List AV->CM:=a1 fun a=>CM.al (some (.cells [] false,sB 1 0)) fun b=>zn a fun a=>zf 142 0 a fun a=>zl 140 a fun a=>CM.ef (apE 1 16 b a) fun a=>zR a
def f99:List AV->CM:=a1 fun a=>CM.al (some (.cells [] false,sB 4 0)) fun b=>zn a fun a=>zf 142 1 a fun a=>zl 23 a fun a=>CM.ef (apE 4 40 b a) fun a=>zR a
def f100:List AV->CM:=a2 fun a b=>zl 91 b fun c=>zm fun d=>zk 102 [c] fun c=>zl 91 b fun e=>zx 91 b d e<|zk 103 [e] fun b=>zk 101 [c,b,a] fun _=>zR .undef
def z2I:List AV->CM:=a5 fun a b c d e=>zb .lss 3 e d fun f=>zC f ( zg 413697 [a,b,c,d,e]) ( zR .undef)
def j5v:List AV->CM:=a5 fun a b c d e=>zi 140 c e fun f=>zl 9 f fun f=>zi 24 a e fun g=>zl 74 g fun g=>CM.callv b [f,g] fun f=>zu f fun f=>zC f ( zR .undef) ( zg 413698 [a,b,c,d,e])
def j5w:List AV->CM:=a5 fun a b c d e=>zb .add 3 e z4 fun e=>zg 413696 [a,b,c,d,e]
def f101:List AV->CM:=a3 fun a b c=>zt 140 a fun d=>zg 413696 [b,c,a,d,z1]
def f102:List AV->CM:=a1 fun a=>CM.al (some (.cells [] false,sB 1 0)) fun b=>zn a fun a=>zf 146 0 a fun a=>zl 140 a fun a=>CM.ef (apE 1 16 b a) fun a=>zR a
def f103:List AV->CM:=a1 fun a=>CM.al (some (.cells [] false,sB 9 0)) fun b=>zn a fun a=>zf 146 1 a fun a=>zl 24 a fun a=>CM.ef (apE 9 88 b a) fun a=>zR a
def f104:List AV->CM:=a2 fun a b=>zl 92 b fun c=>zm fun d=>zk 106 [c] fun c=>zl 92 b fun e=>zx 92 b d e<|zk 107 [e] fun b=>zk 105 [c,b,a] fun _=>zR .undef
def z2J:List AV->CM:=a5 fun a b c d e=>zb .lss 3 e d fun f=>zC f ( zg 430081 [a,b,c,d,e]) ( zR .undef)
def j5x:List AV->CM:=a5 fun a b c d e=>zi 149 c e fun f=>zl 26 f fun f=>zi 25 a e fun g=>zl 54 g fun g=>CM.callv b [f,g] fun f=>zu f fun f=>zC f ( zR .undef) ( zg 430082 [a,b,c,d,e])
def j5y:List AV->CM:=a5 fun a b c d e=>zb .add 3 e z4 fun e=>zg 430080 [a,b,c,d,e]
def f105:List AV->CM:=a3 fun a b c=>zt 149 a fun d=>zg 430080 [b,c,a,d,z1]
def f106:List AV->CM:=a1 fun a=>CM.al (some (.cells [] false,sB 1 0)) fun b=>zn a fun a=>zf 151 0 a fun a=>zl 149 a fun a=>CM.ef (apE 1 8 b a) fun a=>zR a
def f107:List AV->CM:=a1 fun a=>CM.al (some (.cells [] false,sB 4 0)) fun b=>zn a fun a=>zf 151 1 a fun a=>zl 25 a fun a=>CM.ef (apE 4 40 b a) fun a=>zR a
def j5z:List AV->CM:=a3 fun a b c=>zn a fun a=>zf 151 1 a fun a=>zl 25 a fun a=>zi 25 a c fun a=>zl 54 a fun a=>zs b a 4<|zr [.cell 0 54,.tmp 1] [b,(.bool true)]
theorem z7p:OkG H j5z 442368:=c3 fun _ _ _ _=>by kernel_rfl
def f108:List AV->CM:=a2 fun a b=>za [z2,z3,z1,z2] fun c=>zn a fun d=>zf 151 0 d fun d=>zl 149 d fun d=>zk 86 [d,b] fun b=>ze 0 b fun d=>ze 1 b fun b=>zu b fun b=>zC b ( za [z2,z3,z1,z2] fun b=>zl 54 b fun b=>zs c b 4<|zr [.cell 0 54,.tmp 1] [c,(.bool false)]) ( zg 442368 [a,c,d])
theorem j7p (h:H 108=none):OkF H f108 108:=e2 h rfl fun _ _ _=>by kernel_rfl
def z7q:List AV->CM:=a6 fun a b c d e f=>zb .lss 3 f (.int .i64 16) fun g=>zC g ( zg 454657 [a,b,c,d,e,f]) ( zg 454659 [c,d])
def j5A:List AV->CM:=a6 fun a b c d e f=>zi 121 a f fun g=>zl 26 g fun g=>zi 121 b f fun h=>zl 26 h fun h=>zb .add 26 g h fun g=>zb .add 26 g e fun e=>zb .rem 26 e (.int .u64 4294967296) fun g=>zi 121 d f fun h=>zs h g 1<|zb .quo 26 e (.int .u64 4294967296) fun e=>zg 454658 [a,b,c,d,e,f]
def j5B:List AV->CM:=a6 fun a b c d e f=>zb .add 3 f z4 fun f=>zg 454656 [a,b,c,d,e,f]
def j5C:List AV->CM:=a2 fun a b=>zl 121 b fun b=>zs a b 16<|zr [.cell 0 121] [a]
def f111:List AV->CM:=a2 fun a b=>zo a fun a=>zo b fun b=>za [z2,z2,z2,z2,z2,z2,z2,z2,z2,z2,z2,z2,z2,z2,z2,z2] fun c=>za [z2,z2,z2,z2,z2,z2,z2,z2,z2,z2,z2,z2,z2,z2,z2,z2] fun d=>zg 454656 [a,b,c,d,z2,z1]
def z7u:List AV->CM:=a3 fun a b c=>zb .geq 3 c z1 fun d=>zC d ( zg 458753 [a,b,c]) ( zg 458756 [])
def z2L:List AV->CM:=a3 fun a b c=>zi 121 a c fun d=>zl 26 d fun d=>zi 121 b c fun e=>zl 26 e fun e=>zb .neq 26 d e fun d=>zC d ( zi 121 a c fun d=>zl 26 d fun d=>zi 121 b c fun e=>zl 26 e fun e=>zb .lss 26 d e fun d=>zC d ( zR (.int .i64 (-1))) ( zg 458754 [])) ( zg 458755 [a,b,c])
def j5D:List AV->CM:=a0<|zR z4
def j5E:List AV->CM:=a3 fun a b c=>zb .sub 3 c z4 fun c=>zg 458752 [a,b,c]
def j5F:List AV->CM:=a0<|zR z1
def f112:List AV->CM:=a2 fun a b=>zo a fun a=>zo b fun b=>zg 458752 [a,b,(.int .i64 15)]
def z7y:List AV->CM:=a6 fun a b c d e f=>zb .lss 3 f (.int .i64 16) fun g=>zC g ( zg 462849 [a,b,c,d,e,f]) ( zg 462851 [c,d])
def j5G:List AV->CM:=a6 fun a b c d e f=>zi 121 a f fun g=>zl 26 g fun g=>zb .add 26 g (.int .u64 4294967296) fun g=>zi 121 b f fun h=>zl 26 h fun h=>zb .sub 26 g h fun g=>zb .sub 26 g e fun e=>zb .rem 26 e (.int .u64 4294967296) fun g=>zi 121 d f fun h=>zs h g 1<|zb .quo 26 e (.int .u64 4294967296) fun e=>zb .sub 26 (.int .u64 1) e fun e=>zg 462850 [a,b,c,d,e,f]
def j5H:List AV->CM:=a6 fun a b c d e f=>zb .add 3 f z4 fun f=>zg 462848 [a,b,c,d,e,f]
def j5I:List AV->CM:=a2 fun a b=>zl 121 b fun b=>zs a b 16<|zr [.cell 0 121] [a]
def f113:List AV->CM:=a2 fun a b=>zo a fun a=>zo b fun b=>za [z2,z2,z2,z2,z2,z2,z2,z2,z2,z2,z2,z2,z2,z2,z2,z2] fun c=>za [z2,z2,z2,z2,z2,z2,z2,z2,z2,z2,z2,z2,z2,z2,z2,z2] fun d=>zg 462848 [a,b,c,d,z2,z1]
def j5J:List AV->CM:=a2 fun a b=>zl 43 b fun b=>zs a b 2<|zr [.cell 0 43,.tmp 1] [a,z1]
def f114:List AV->CM:=a1 fun a=>zo a fun a=>za [z1,z2] fun b=>zl 123 a fun a=>zk 135 [a] fun a=>ze 0 a fun c=>ze 1 a fun a=>za [z1,z2] fun d=>zs d c 2<|zu a fun a=>zC a ( zd 43 [] fun a=>zs b a 2<|zr [.cell 0 43,.tmp 1] [b,(.int .i64 20)]) ( zg 466944 [b,d])
def f115:List AV->CM:=a1 fun a=>zo a fun a=>za [(.bool false),z2,z2,z2,z2,z2,z2,z2,z2,z2,z2,z2,z2,z2,z2,z2,z2] fun b=>zf 123 0 a fun c=>zl 4 c fun c=>zu c fun c=>zI c ( zf 123 1 a fun c=>zl 121 c fun c=>zm fun d=>zk 70 [c] fun c=>zu c fun c=>zf 123 1 a fun e=>zl 121 e fun f=>zx 121 e d f<|zd 123 [(0,c),(1,f)] fun c=>zs b c 17<|zr [.cell 0 123] [b]) ( zf 123 1 a fun a=>zl 121 a fun a=>zd 123 [(0,(.bool false)),(1,a)] fun a=>zs b a 17<|zr [.cell 0 123] [b])
def z7D:List AV->CM:=a1 fun a=>zf 123 0 a fun a=>zl 4 a fun a=>zC a ( zR (.int .i64 (-1))) ( zg 475137 [])
def j5K:List AV->CM:=a0<|zR z4
def f116:List AV->CM:=a2 fun a b=>zo a fun a=>zo b fun b=>zl 123 a fun c=>zl 123 b fun b=>zk 115 [b] fun b=>zm fun d=>zx 123 a d c<|zk 69 [c,b] fun a=>za [(.bool false),z2,z2,z2,z2,z2,z2,z2,z2,z2,z2,z2,z2,z2,z2,z2,z2] fun b=>zs b a 17<|zf 123 1 b fun a=>zl 121 a fun a=>zk 70 [a] fun a=>zC a ( zR z1) ( zg 475136 [b])
end
end
section
open Go Go.Abs Go.Proofs.YtlginbmjiecglaaGreatDoor
set_option maxRecDepth 10000
noncomputable section
variable {H:FuncId->Option (List AV->Mem->R)}
def z7F:List AV->CM:=a4 fun a b c d=>zf 45 0 b fun e=>zl 43 e fun e=>zm fun f=>zk 68 [e] fun e=>zf 45 0 c fun g=>zl 43 g fun h=>zx 43 g f h<|zm fun g=>zk 68 [h] fun h=>zm fun i=>zk 138 [e,h] fun e=>zf 45 1 b fun b=>zl 3 b fun h=>zx 3 b i h<|zx 3 b g h<|zx 3 b f h<|zf 45 1 c fun b=>zl 3 b fun c=>zx 3 b i c<|zx 3 b g c<|zx 3 b f c<|zb .add 3 h c fun b=>zb .sub 3 b a fun b=>zk 137 [e,b] fun b=>zk 136 [b,a] fun a=>ze 0 a fun b=>ze 1 a fun a=>zs d b 3<|zr [.cell 0 45,.tmp 1] [d,a]
def f117:List AV->CM:=a3 fun a b c=>zo a fun a=>zo b fun b=>za [z1,z2,z1] fun d=>zl 45 a fun e=>zk 78 [e] fun e=>zu e fun e=>zI e ( zd 45 [] fun e=>zs d e 3<|zr [.cell 0 45,.tmp 1] [d,(.int .i64 21)]) ( zl 45 b fun e=>zk 78 [e] fun e=>zu e fun e=>zI e ( zd 45 [] fun e=>zs d e 3<|zr [.cell 0 45,.tmp 1] [d,(.int .i64 21)]) ( zb .lss 3 c z1 fun e=>zI e ( zd 45 [] fun e=>zs d e 3<|zr [.cell 0 45,.tmp 1] [d,(.int .i64 21)]) ( zb .gtr 3 c (.int .i64 18) fun e=>zC e ( zd 45 [] fun e=>zs d e 3<|zr [.cell 0 45,.tmp 1] [d,(.int .i64 21)]) ( zg 479232 [c,a,b,d]))))
def f118:List AV->CM:=a2 fun a b=>zk 139 [a] fun c=>zI c ( zk 139 [b] fun c=>zu c fun c=>zI c ( zR (.bool true)) ( zb .lss 9 a b fun c=>zR c)) ( zb .lss 9 a b fun a=>zR a)
theorem z6Q (h:H 118=none):OkF H f118 118:=e2 h rfl fun _ _ _=>by kernel_rfl
def f119:List AV->CM:=a1 fun a=>zb .neq 9 a a fun a=>zR a
theorem z6R (h:H 119=none):OkF H f119 119:=e1 h rfl fun _ _=>by kernel_rfl
def f126:List AV->CM:=a2 fun a b=>zk 143 [a] fun c=>zI c ( zk 143 [b] fun c=>zu c fun c=>zI c ( zR (.bool true)) ( zb .lss 26 a b fun c=>zR c)) ( zb .lss 26 a b fun a=>zR a)
theorem z6S (h:H 126=none):OkF H f126 126:=e2 h rfl fun _ _ _=>by kernel_rfl
def f127:List AV->CM:=a1 fun a=>zb .neq 26 a a fun a=>zR a
theorem z6T (h:H 127=none):OkF H f127 127:=e1 h rfl fun _ _=>by kernel_rfl
def f132:List AV->CM:=a1 fun a=>zo a fun a=>zf 45 1 a fun a=>zl 3 a fun a=>zk 146 [a] fun a=>zR a
def f133:List AV->CM:=a1 fun a=>zo a fun a=>zl 45 a fun a=>zd 45 [] fun b=>zk 147 [a,b] fun a=>ze 0 a fun b=>ze 1 a fun a=>zb .eql 35 a z1 fun a=>zI a ( zb .gtr 3 b z1 fun a=>zR a) ( zR (.bool false))
def z0g:List AV->CM:=a3 fun a b c=>zb .lss 3 c (.int .i64 16) fun d=>zC d ( zg 552961 [a,b,c]) ( zg 552963 [a,b])
def z2Q:List AV->CM:=a3 fun a b c=>zf 123 1 a fun d=>zi 121 d c fun d=>zl 26 d fun d=>zb .neq 26 d z2 fun d=>zC d ( zd 43 [] fun d=>zs b d 2<|zr [.cell 0 43,.tmp 1] [b,(.bool false)]) ( zg 552962 [a,b,c])
def z7N:List AV->CM:=a3 fun a b c=>zb .add 3 c z4 fun c=>zg 552960 [a,b,c]
def z7O:List AV->CM:=a2 fun a b=>zf 123 1 a fun c=>zi 121 c z1 fun c=>zl 26 c fun c=>zf 123 1 a fun d=>zi 121 d z4 fun d=>zl 26 d fun d=>zb .shl 26 d (.int .u64 32) fun d=>zb .add 26 c d fun c=>zf 123 1 a fun d=>zi 121 d (.int .i64 2) fun d=>zl 26 d fun d=>zf 123 1 a fun e=>zi 121 e (.int .i64 3) fun e=>zl 26 e fun e=>zb .shl 26 e (.int .u64 32) fun e=>zb .add 26 d e fun d=>zf 123 0 a fun a=>zl 4 a fun a=>zu a fun a=>zC a ( zc 26 2 d fun a=>zd 43 [(0,a),(1,c)] fun a=>zb .lss 26 d (.int .u64 9223372036854775808) fun e=>zs b a 2<|zr [.cell 0 43,.tmp 1] [b,e]) ( zg 552964 [b,c,d])
def z0j:List AV->CM:=a3 fun a b c=>zb .gtr 26 c (.int .u64 9223372036854775808) fun d=>zI d ( zd 43 [] fun d=>zs a d 2<|zr [.cell 0 43,.tmp 1] [a,(.bool false)]) ( zb .eql 26 c (.int .u64 9223372036854775808) fun d=>zI d ( zb .gtr 26 b z2 fun d=>zC d ( zd 43 [] fun d=>zs a d 2<|zr [.cell 0 43,.tmp 1] [a,(.bool false)]) ( zg 552965 [a,b,c])) ( zg 552965 [a,b,c]))
def z7P:List AV->CM:=a3 fun a b c=>CM.pu (p1 (unA .xor) b) fun b=>CM.pu (p1 (unA .xor) c) fun c=>zb .add 26 b (.int .u64 1) fun b=>zb .eql 26 b z2 fun d=>zC d ( zb .add 26 c (.int .u64 1) fun d=>zg 552966 [a,b,d]) ( zg 552966 [a,b,c])
def z7Q:List AV->CM:=a3 fun a b c=>zc 26 2 c fun c=>zd 43 [(0,c),(1,b)] fun b=>zs a b 2<|zr [.cell 0 43,.tmp 1] [a,(.bool true)]
def f135:List AV->CM:=a1 fun a=>zo a fun a=>za [z1,z2] fun b=>zg 552960 [a,b,(.int .i64 4)]
def j5Q:List AV->CM:=a3 fun a b c=>zl 43 c fun c=>zd 45 [(0,c),(1,a)] fun a=>zs b a 3<|zr [.cell 0 45,.tmp 1] [b,z1]
def f136:List AV->CM:=a2 fun a b=>zo a fun a=>za [z1,z2,z1] fun c=>zl 123 a fun a=>zk 135 [a] fun a=>ze 0 a fun d=>ze 1 a fun a=>za [z1,z2] fun e=>zs e d 2<|zu a fun a=>zC a ( zd 45 [] fun a=>zs c a 3<|zr [.cell 0 45,.tmp 1] [c,(.int .i64 20)]) ( zg 557056 [b,c,e])
def z0m:List AV->CM:=a3 fun a b c=>zk 151 [a] fun a=>za [z2,z2,z2,z2,z2,z2,z2,z2,z2,z2,z2,z2,z2,z2,z2,z2] fun d=>zs d a 16<|zf 123 1 b fun a=>zl 121 a fun a=>zl 121 d fun e=>zk 152 [a,e] fun a=>ze 0 a fun e=>ze 1 a fun a=>za [z2,z2,z2,z2,z2,z2,z2,z2,z2,z2,z2,z2,z2,z2,z2,z2] fun f=>za [z2,z2,z2,z2,z2,z2,z2,z2,z2,z2,z2,z2,z2,z2,z2,z2] fun g=>zs f e 16<|zs g a 16<|za [z2,z2,z2,z2,z2,z2,z2,z2,z2,z2,z2,z2,z2,z2,z2,z2] fun a=>zi 121 a z1 fun e=>zs e (.int .u64 1) 1<|zl 121 g fun e=>zl 121 g fun g=>zm fun h=>zk 111 [e,g] fun e=>zl 121 d fun g=>zx 121 d h g<|zk 112 [e,g] fun d=>zb .gtr 3 d z1 fun e=>zI e ( zl 121 f fun e=>zl 121 a fun g=>zk 111 [e,g] fun e=>zs f e 16<|zg 561153 [b,c,f]) ( zb .eql 3 d z1 fun d=>zI d ( zi 121 f z1 fun d=>zl 26 d fun d=>zb .rem 26 d (.int .u64 2) fun d=>zb .eql 26 d (.int .u64 1) fun d=>zC d ( zl 121 f fun d=>zl 121 a fun a=>zk 111 [d,a] fun a=>zs f a 16<|zg 561153 [b,c,f]) ( zg 561153 [b,c,f])) ( zg 561153 [b,c,f]))
def z7S:List AV->CM:=a3 fun a b c=>zf 123 0 a fun a=>zl 4 a fun a=>zI a ( zl 121 c fun a=>zm fun d=>zk 70 [a] fun a=>zu a fun a=>zl 121 c fun e=>zx 121 c d e<|zd 123 [(0,a),(1,e)] fun a=>zs b a 17<|zr [.cell 0 123] [b]) ( zl 121 c fun a=>zd 123 [(0,(.bool false)),(1,a)] fun a=>zs b a 17<|zr [.cell 0 123] [b])
def f137:List AV->CM:=a2 fun a b=>zo a fun a=>za [(.bool false),z2,z2,z2,z2,z2,z2,z2,z2,z2,z2,z2,z2,z2,z2,z2,z2] fun c=>zb .leq 3 b z1 fun d=>zC d ( zl 123 a fun d=>CM.pu (p1 (unA .neg) b) fun e=>zk 151 [e] fun e=>zm fun f=>zx 123 a f d<|zd 123 [(0,(.bool false)),(1,e)] fun e=>zk 138 [d,e] fun d=>zs c d 17<|zr [.cell 0 123] [c]) ( zg 561152 [b,a,c])
def f138:List AV->CM:=a2 fun a b=>zo a fun a=>zo b fun b=>za [(.bool false),z2,z2,z2,z2,z2,z2,z2,z2,z2,z2,z2,z2,z2,z2,z2,z2] fun c=>zf 123 1 a fun d=>zl 121 d fun d=>zf 123 1 b fun e=>zl 121 e fun e=>zk 153 [d,e] fun d=>za [z2,z2,z2,z2,z2,z2,z2,z2,z2,z2,z2,z2,z2,z2,z2,z2] fun e=>zs e d 16<|zf 123 0 a fun a=>zl 4 a fun a=>zf 123 0 b fun b=>zl 4 b fun b=>zb .neq 4 a b fun a=>zI a ( zl 121 e fun a=>zm fun b=>zk 70 [a] fun a=>zu a fun a=>zl 121 e fun d=>zx 121 e b d<|zd 123 [(0,a),(1,d)] fun a=>zs c a 17<|zr [.cell 0 123] [c]) ( zl 121 e fun a=>zd 123 [(0,(.bool false)),(1,a)] fun a=>zs c a 17<|zr [.cell 0 123] [c])
def f139:List AV->CM:=a1 fun a=>zb .neq 9 a a fun a=>zR a
theorem z6Y (h:H 139=none):OkF H f139 139:=e1 h rfl fun _ _=>by kernel_rfl
def f143:List AV->CM:=a1 fun a=>zb .neq 26 a a fun a=>zR a
theorem z6Z (h:H 143=none):OkF H f143 143:=e1 h rfl fun _ _=>by kernel_rfl
def f146:List AV->CM:=a1 fun a=>zb .geq 3 a z1 fun b=>zI b ( zb .leq 3 a (.int .i64 18) fun a=>zR a) ( zR (.bool false))
def j5R:List AV->CM:=a2 fun a b=>zf 45 1 a fun c=>zl 3 c fun c=>zf 45 1 b fun d=>zl 3 d fun d=>zb .lss 3 c d fun c=>zC c ( zl 45 b fun c=>zl 45 a fun d=>zk 159 [c,d] fun c=>CM.pu (p1 (unA .neg) c) fun c=>zR (.tup [c,z1])) ( zg 602113 [a,b])
def j5S:List AV->CM:=a2 fun a b=>zl 45 a fun a=>zl 45 b fun b=>zk 159 [a,b] fun a=>zR (.tup [a,z1])
def f147:List AV->CM:=a2 fun a b=>zo a fun a=>zo b fun b=>zl 45 a fun c=>zk 132 [c] fun c=>zu c fun c=>zI c ( zR (.tup [z1,(.int .i64 21)])) ( zl 45 b fun c=>zk 132 [c] fun c=>zu c fun c=>zC c ( zR (.tup [z1,(.int .i64 21)])) ( zg 602112 [a,b]))
def f149:List AV->CM:=a2 fun a b=>zo a fun a=>zo b fun b=>za [z1,z2] fun c=>zf 43 0 a fun d=>zl 2 d fun e=>zb .lss 2 e z1 fun f=>zf 43 0 b fun g=>zl 2 g fun h=>zb .lss 2 h z1 fun i=>zb .neq 4 f i fun f=>zl 43 a fun a=>zl 43 b fun b=>zk 161 [a,b] fun a=>zm fun b=>zx 2 g b h<|zx 2 d b e<|zk 163 [f,a] fun a=>ze 0 a fun b=>ze 1 a fun a=>zs c b 2<|zr [.cell 0 43,.tmp 1] [c,a]
def z7V:List AV->CM:=a5 fun a b c d e=>zb .lss 3 e a fun f=>zC f ( zg 618497 [a,b,c,d,e]) ( zg 618499 [b,c])
def j5T:List AV->CM:=a5 fun a b c d e=>zl 121 c fun f=>zl 121 d fun g=>zk 153 [f,g] fun f=>zs c f 16<|zg 618498 [a,b,c,d,e]
def j5U:List AV->CM:=a5 fun a b c d e=>zb .add 3 e z4 fun e=>zg 618496 [a,b,c,d,e]
def j5V:List AV->CM:=a2 fun a b=>zl 121 b fun b=>zs a b 16<|zr [.cell 0 121] [a]
def f151:List AV->CM:=a1 fun a=>za [z2,z2,z2,z2,z2,z2,z2,z2,z2,z2,z2,z2,z2,z2,z2,z2] fun b=>za [z2,z2,z2,z2,z2,z2,z2,z2,z2,z2,z2,z2,z2,z2,z2,z2] fun c=>za [z2,z2,z2,z2,z2,z2,z2,z2,z2,z2,z2,z2,z2,z2,z2,z2] fun d=>zi 121 c z1 fun e=>zs e (.int .u64 1) 1<|zi 121 d z1 fun e=>zs e (.int .u64 10) 1<|zg 618496 [a,b,c,d,z1]
def z7Z:List AV->CM:=a5 fun a b c d e=>zb .geq 3 e z1 fun f=>zC f ( zg 622593 [a,b,c,d,e]) ( zg 622595 [c,d])
def z8a:List AV->CM:=a5 fun a b c d e=>zl 121 d fun f=>zl 121 d fun g=>zk 111 [f,g] fun f=>zs d f 16<|zi 121 d z1 fun f=>zl 26 f fun f=>zb .quo 3 e (.int .i64 32) fun g=>zi 121 a g fun g=>zl 26 g fun g=>zc 3 172 e fun h=>zb .rem 172 h (.int .u64 32) fun h=>zb .shr 26 g h fun g=>zb .rem 26 g (.int .u64 2) fun g=>zb .add 26 f g fun f=>zi 121 d z1 fun g=>zs g f 1<|zl 121 d fun f=>zl 121 b fun g=>zk 112 [f,g] fun f=>zb .geq 3 f z1 fun f=>zC f ( zl 121 d fun f=>zl 121 b fun g=>zk 113 [f,g] fun f=>zs d f 16<|zb .quo 3 e (.int .i64 32) fun f=>zb .quo 3 e (.int .i64 32) fun g=>zi 121 c g fun g=>zl 26 g fun g=>zc 3 172 e fun h=>zb .rem 172 h (.int .u64 32) fun h=>zb .shl 26 (.int .u64 1) h fun h=>zb .add 26 g h fun g=>zi 121 c f fun f=>zs f g 1<|zg 622594 [a,b,c,d,e]) ( zg 622594 [a,b,c,d,e])
def z8b:List AV->CM:=a5 fun a b c d e=>zb .sub 3 e z4 fun e=>zg 622592 [a,b,c,d,e]
def j5W:List AV->CM:=a2 fun a b=>zl 121 a fun c=>zl 121 b fun d=>zs a c 16<|zm fun c=>zx 121 b c d<|zs b d 16<|zr [.cell 0 121,.cell 1 121] [a,b]
def f152:List AV->CM:=a2 fun a b=>zo a fun a=>zo b fun b=>za [z2,z2,z2,z2,z2,z2,z2,z2,z2,z2,z2,z2,z2,z2,z2,z2] fun c=>za [z2,z2,z2,z2,z2,z2,z2,z2,z2,z2,z2,z2,z2,z2,z2,z2] fun d=>zg 622592 [a,b,c,d,(.int .i64 511)]
def z8d:List AV->CM:=a5 fun a b c d e=>zb .lss 3 e (.int .i64 8) fun f=>zC f ( zg 626689 [a,b,c,d,e]) ( zg 626694 [c,d])
def j5X:List AV->CM:=a5 fun a b c d e=>zg 626690 [a,b,c,d,e,z2,z1]
def z8f:List AV->CM:=a7 fun a b c d e f g=>zb .lss 3 g (.int .i64 8) fun h=>zC h ( zg 626691 [a,b,c,d,e,f,g]) ( zg 626693 [a,b,c,d,e])
def j5Y:List AV->CM:=a7 fun a b c d e f g=>zb .add 3 e g fun h=>zi 121 d h fun h=>zl 26 h fun h=>zi 121 a e fun i=>zl 26 i fun i=>zi 121 b g fun j=>zl 26 j fun j=>zb .mul 26 i j fun i=>zb .add 26 h i fun h=>zb .add 26 h f fun f=>zb .add 3 e g fun h=>zb .rem 26 f (.int .u64 4294967296) fun i=>zi 121 d h fun h=>zs h i 1<|zb .quo 26 f (.int .u64 4294967296) fun f=>zg 626692 [a,b,c,d,e,f,g]
def j5Z:List AV->CM:=a7 fun a b c d e f g=>zb .add 3 g z4 fun g=>zg 626690 [a,b,c,d,e,f,g]
def j50:List AV->CM:=a5 fun a b c d e=>zb .add 3 e z4 fun e=>zg 626688 [a,b,c,d,e]
def j51:List AV->CM:=a2 fun a b=>zl 121 b fun b=>zs a b 16<|zr [.cell 0 121] [a]
def f153:List AV->CM:=a2 fun a b=>zo a fun a=>zo b fun b=>za [z2,z2,z2,z2,z2,z2,z2,z2,z2,z2,z2,z2,z2,z2,z2,z2] fun c=>za [z2,z2,z2,z2,z2,z2,z2,z2,z2,z2,z2,z2,z2,z2,z2,z2] fun d=>zg 626688 [a,b,c,d,z1]
def j52:List AV->CM:=a1 fun a=>zl 43 a fun a=>zk 93 [a] fun a=>zR a
def f159:List AV->CM:=a2 fun a b=>zo a fun a=>zo b fun b=>zf 45 1 a fun c=>zl 3 c fun c=>zf 45 1 b fun d=>zl 3 d fun d=>zb .sub 3 c d fun c=>zk 164 [c] fun c=>ze 0 c fun d=>ze 1 c fun _=>za [z1,z2] fun c=>zs c d 2<|zf 45 0 a fun a=>zl 43 a fun a=>zl 43 c fun c=>zk 165 [a,c] fun a=>ze 0 a fun c=>ze 1 a fun d=>ze 2 a fun _=>za [z1,z2] fun a=>za [z1,z2] fun e=>zs a c 2<|zs e d 2<|zl 43 a fun a=>zf 45 0 b fun b=>zl 43 b fun b=>zk 20 [a,b] fun a=>zb .neq 3 a z1 fun b=>zC b ( zR a) ( zg 651264 [e])
def f161:List AV->CM:=a2 fun a b=>zo a fun a=>zo b fun b=>za [z2,z2,z2,z2] fun c=>zl 43 a fun a=>zk 167 [a] fun a=>ze 0 a fun d=>ze 1 a fun a=>zl 43 b fun b=>zk 167 [b] fun b=>ze 0 b fun e=>ze 1 b fun b=>za [z2,z2,z2,z2] fun f=>zk 168 [a,b] fun g=>ze 0 g fun h=>ze 1 g fun g=>zi 212 f z4 fun i=>zs i h 1<|zi 212 f z1 fun h=>zs h g 1<|CM.callv (.fn (.func 169) [] [f]) [a,e,z4] fun _=>CM.callv (.fn (.func 169) [] [f]) [d,b,z4] fun _=>CM.callv (.fn (.func 169) [] [f]) [d,e,(.int .i64 2)] fun _=>zl 212 f fun a=>zs c a 4<|zr [.cell 0 212] [c]
def j56:List AV->CM:=a3 fun a b c=>zi 212 b z4 fun d=>zl 26 d fun d=>zi 212 b z1 fun b=>zl 26 b fun b=>zk 170 [a,d,b] fun a=>ze 0 a fun b=>ze 1 a fun a=>zs c b 2<|zr [.cell 0 43,.tmp 1] [c,a]
def f163:List AV->CM:=a2 fun a b=>zo b fun b=>za [z1,z2] fun c=>zi 212 b (.int .i64 3) fun d=>zl 26 d fun d=>zb .neq 26 d z2 fun d=>zI d ( zd 43 [] fun d=>zs c d 2<|zr [.cell 0 43,.tmp 1] [c,(.int .i64 20)]) ( zi 212 b (.int .i64 2) fun d=>zl 26 d fun d=>zb .neq 26 d z2 fun d=>zC d ( zd 43 [] fun d=>zs c d 2<|zr [.cell 0 43,.tmp 1] [c,(.int .i64 20)]) ( zg 667648 [a,b,c]))
def j57:List AV->CM:=a2 fun a b=>zd 43 [(1,(.int .u64 1))] fun c=>za [z1,z2] fun d=>zs d c 2<|zg 671745 [a,b,d]
def z8q:List AV->CM:=a3 fun a b c=>zb .gtr 3 a z1 fun d=>zC d ( zg 671746 [a,b,c]) ( zg 671748 [b,c])
def j58:List AV->CM:=a3 fun a b c=>zl 43 c fun d=>zd 43 [(1,(.int .u64 10))] fun e=>zk 149 [d,e] fun d=>ze 0 d fun e=>ze 1 d fun _=>zs c e 2<|zg 671747 [a,b,c]
def j59:List AV->CM:=a3 fun a b c=>zb .sub 3 a z4 fun a=>zg 671745 [a,b,c]
def j6a:List AV->CM:=a2 fun a b=>zl 43 b fun b=>zs a b 2<|zr [.cell 0 43,.tmp 1] [a,z1]
def f164:List AV->CM:=a1 fun a=>za [z1,z2] fun b=>zb .lss 3 a z1 fun c=>zI c ( zd 43 [] fun c=>zs b c 2<|zr [.cell 0 43,.tmp 1] [b,z4]) ( zb .gtr 3 a (.int .i64 38) fun c=>zC c ( zd 43 [] fun c=>zs b c 2<|zr [.cell 0 43,.tmp 1] [b,z4]) ( zg 671744 [a,b]))
def j6b:List AV->CM:=a4 fun a b c d=>zl 43 a fun e=>zk 167 [e] fun e=>ze 0 e fun f=>ze 1 e fun e=>zl 43 b fun g=>zk 167 [g] fun g=>ze 0 g fun h=>ze 1 g fun g=>zb .eql 26 h z2 fun i=>zC i ( zb .quo 26 f g fun i=>zb .rem 26 f g fun j=>zk 166 [j,e,g] fun j=>ze 0 j fun k=>ze 1 j fun j=>zg 675844 [a,b,c,d,i,k,z2,j]) ( zk 171 [h] fun i=>zg 675841 [a,b,c,d,h,g,z2,z2,f,e,i])
def j6c:List AV->CM:=a8 fun a b c d e f g h=>zf 43 0 a fun i=>zl 2 i fun i=>zb .lss 2 i z1 fun i=>zf 43 0 b fun b=>zl 2 b fun b=>zb .lss 2 b z1 fun b=>zb .neq 4 i b fun b=>zk 170 [b,e,f] fun b=>ze 0 b fun e=>ze 1 b fun b=>zs c e 2<|zb .neq 35 b z1 fun e=>zC e ( zd 43 [] fun e=>zd 43 [] fun f=>zs c e 2<|zs d f 2<|zr [.cell 0 43,.cell 1 43,.tmp 2] [c,d,b]) ( zg 675845 [a,c,d,g,h])
def j6d:List AV->CM:=a5 fun a b c d e=>zf 43 0 a fun a=>zl 2 a fun a=>zb .lss 2 a z1 fun a=>zk 170 [a,d,e] fun a=>ze 0 a fun d=>ze 1 a fun _=>zs c d 2<|zl 43 b fun a=>zl 43 c fun d=>zs b a 2<|zm fun a=>zx 43 c a d<|zs c d 2<|zr [.cell 0 43,.cell 1 43,.tmp 2] [b,c,z1]
def f165:List AV->CM:=a2 fun a b=>zo a fun a=>zo b fun b=>za [z1,z2] fun c=>za [z1,z2] fun d=>zl 43 b fun e=>zd 43 [] fun f=>zb .eql 43 e f fun e=>zC e ( zl 43 c fun e=>zl 43 d fun f=>zs c e 2<|zm fun e=>zx 43 d e f<|zs d f 2<|zr [.cell 0 43,.cell 1 43,.tmp 2] [c,d,(.int .i64 22)]) ( zg 675840 [a,b,c,d])
def j6e:List AV->CM:=a3 fun a b c=>zb .leq 26 c a fun d=>zC d ( zl 226 (.ptr (some ⟨3,0⟩)) fun _=>CM.fail) ( zg 679937 [a,b,c])
def z8y:List AV->CM:=a3 fun a b c=>zb .eql 26 a z2 fun d=>zC d ( zb .quo 26 b c fun d=>zb .rem 26 b c fun e=>zR (.tup [d,e])) ( zg 679938 [a,b,c])
def j6f:List AV->CM:=a3 fun a b c=>zk 171 [c] fun d=>zc 3 172 d fun d=>zb .shl 26 c d fun c=>zb .shr 26 c (.int .u64 32) fun e=>zb .and 26 c (.int .u64 4294967295) fun f=>zb .shl 26 a d fun a=>zb .sub 172 (.int .u64 64) d fun g=>zb .shr 26 b g fun g=>zb .or 26 a g fun a=>zb .shl 26 b d fun b=>zb .shr 26 b (.int .u64 32) fun g=>zb .and 26 b (.int .u64 4294967295) fun b=>zb .quo 26 a e fun h=>zb .mul 26 h e fun i=>zb .sub 26 a i fun i=>zg 679939 [c,d,e,f,a,g,b,h,i]
def z2W:List AV->CM:=a9 fun a b c d e f g h i=>zb .geq 26 h (.int .u64 4294967296) fun j=>zI j ( zg 679940 [a,b,c,d,e,f,g,h,i]) ( zb .mul 26 h d fun j=>zb .mul 26 (.int .u64 4294967296) i fun k=>zb .add 26 k f fun k=>zb .gtr 26 j k fun j=>zC j ( zg 679940 [a,b,c,d,e,f,g,h,i]) ( zg 679941 [a,b,c,d,e,f,g,h]))
def z8A:List AV->CM:=a9 fun a b c d e f g h i=>zb .sub 26 h (.int .u64 1) fun h=>zb .add 26 i c fun i=>zb .geq 26 i (.int .u64 4294967296) fun j=>zC j ( zg 679941 [a,b,c,d,e,f,g,h]) ( zg 679939 [a,b,c,d,e,f,g,h,i])
def j6g:List AV->CM:=a8 fun a b c d e f g h=>zb .mul 26 e (.int .u64 4294967296) fun e=>zb .add 26 e f fun e=>zb .mul 26 h a fun f=>zb .sub 26 e f fun e=>zb .quo 26 e c fun f=>zb .mul 26 f c fun i=>zb .sub 26 e i fun i=>zg 679942 [a,b,c,d,g,h,i,e,f]
def z2X:List AV->CM:=a9 fun a b c d e f g h i=>zb .geq 26 i (.int .u64 4294967296) fun j=>zI j ( zg 679943 [a,b,c,d,e,f,g,h,i]) ( zb .mul 26 i d fun j=>zb .mul 26 (.int .u64 4294967296) g fun k=>zb .add 26 k e fun k=>zb .gtr 26 j k fun j=>zC j ( zg 679943 [a,b,c,d,e,f,g,h,i]) ( zg 679944 [a,b,e,f,h,i]))
def z8C:List AV->CM:=a9 fun a b c d e f g h i=>zb .sub 26 i (.int .u64 1) fun i=>zb .add 26 g c fun g=>zb .geq 26 g (.int .u64 4294967296) fun j=>zC j ( zg 679944 [a,b,e,f,h,i]) ( zg 679942 [a,b,c,d,e,f,g,h,i])
def j6h:List AV->CM:=a6 fun a b c d e f=>zb .mul 26 d (.int .u64 4294967296) fun d=>zb .add 26 d f fun d=>zb .mul 26 e (.int .u64 4294967296) fun e=>zb .add 26 e c fun c=>zb .mul 26 f a fun a=>zb .sub 26 c a fun a=>zb .shr 26 a b fun a=>zR (.tup [d,a])
def f166:List AV->CM:=a3 fun a b c=>zb .eql 26 c z2 fun d=>zC d ( zl 226 (.ptr (some ⟨2,0⟩)) fun _=>CM.fail) ( zg 679936 [a,b,c])
def j6i:List AV->CM:=a1 fun a=>zf 43 1 a fun b=>zl 26 b fun b=>zk 60 [z2,b,z2] fun b=>ze 0 b fun c=>ze 1 b fun b=>zf 43 0 a fun a=>zl 2 a fun a=>zc 2 26 a fun a=>zk 60 [z2,a,b] fun a=>ze 0 a fun b=>ze 1 a fun _=>zR (.tup [b,c])
def f167:List AV->CM:=a1 fun a=>zo a fun a=>zf 43 0 a fun b=>zl 2 b fun b=>zb .geq 2 b z1 fun b=>zC b ( zf 43 0 a fun b=>zl 2 b fun b=>zc 2 26 b fun b=>zf 43 1 a fun c=>zl 26 c fun c=>zR (.tup [b,c])) ( zg 684032 [a])
def f168:List AV->CM:=a2 fun a b=>zb .and 26 a (.int .u64 4294967295) fun c=>zb .shr 26 a (.int .u64 32) fun d=>zb .and 26 b (.int .u64 4294967295) fun e=>zb .shr 26 b (.int .u64 32) fun f=>zb .mul 26 c e fun g=>zb .mul 26 d e fun e=>zb .shr 26 g (.int .u64 32) fun g=>zb .add 26 e g fun e=>zb .and 26 e (.int .u64 4294967295) fun g=>zb .shr 26 e (.int .u64 32) fun e=>zb .mul 26 c f fun c=>zb .add 26 g c fun c=>zb .mul 26 d f fun d=>zb .add 26 d e fun d=>zb .shr 26 c (.int .u64 32) fun c=>zb .add 26 d c fun c=>zb .mul 26 a b fun a=>zR (.tup [c,a])
end
end
section
open Go Go.Abs Go.Proofs.YtlginbmjiecglaaGreatDoor
set_option maxRecDepth 10000
noncomputable section
variable {H:FuncId->Option (List AV->Mem->R)}
def f169:List AV->CM:=a4 fun a b c d=>zk 168 [a,b] fun a=>ze 0 a fun b=>ze 1 a fun a=>zi 212 d c fun e=>zl 26 e fun e=>zk 59 [e,a,z2] fun a=>ze 0 a fun e=>ze 1 a fun a=>zi 212 d c fun f=>zs f e 1<|zb .add 3 c z4 fun e=>zb .add 3 c z4 fun f=>zi 212 d f fun f=>zl 26 f fun f=>zk 59 [f,b,a] fun a=>ze 0 a fun b=>ze 1 a fun a=>zi 212 d e fun e=>zs e b 1<|zb .add 3 c (.int .i64 2) fun b=>zb .lss 3 b (.int .i64 4) fun b=>zC b ( zb .add 3 c (.int .i64 2) fun b=>zi 212 d b fun c=>zl 26 c fun c=>zb .add 26 c a fun a=>zi 212 d b fun b=>zs b a 1<|zR .undef) ( zR .undef)
def j6j:List AV->CM:=a3 fun a b c=>zc 26 2 a fun a=>zd 43 [(0,a),(1,b)] fun a=>zs c a 2<|zr [.cell 0 43,.tmp 1] [c,z1]
def j6k:List AV->CM:=a3 fun a b c=>zb .gtr 26 a (.int .u64 9223372036854775808) fun d=>zI d ( zd 43 [] fun d=>zs c d 2<|zr [.cell 0 43,.tmp 1] [c,(.int .i64 20)]) ( zb .eql 26 a (.int .u64 9223372036854775808) fun d=>zI d ( zb .gtr 26 b z2 fun d=>zC d ( zd 43 [] fun d=>zs c d 2<|zr [.cell 0 43,.tmp 1] [c,(.int .i64 20)]) ( zg 696322 [a,b,c])) ( zg 696322 [a,b,c]))
def j6l:List AV->CM:=a3 fun a b c=>zk 60 [z2,b,z2] fun b=>ze 0 b fun d=>ze 1 b fun b=>zk 60 [z2,a,b] fun a=>ze 0 a fun b=>ze 1 a fun _=>zc 26 2 b fun a=>zd 43 [(0,a),(1,d)] fun a=>zs c a 2<|zr [.cell 0 43,.tmp 1] [c,z1]
def f170:List AV->CM:=a3 fun a b c=>za [z1,z2] fun d=>zu a fun a=>zC a ( zb .geq 26 b (.int .u64 9223372036854775808) fun a=>zC a ( zd 43 [] fun a=>zs d a 2<|zr [.cell 0 43,.tmp 1] [d,(.int .i64 20)]) ( zg 696320 [b,c,d])) ( zg 696321 [b,c,d])
def f171:List AV->CM:=a1 fun a=>zk 172 [a] fun a=>zb .sub 3 (.int .i64 64) a fun a=>zR a
def z8I:List AV->CM:=a2 fun a b=>zb .geq 26 a (.int .u64 65536) fun c=>zC c ( zb .shr 26 a (.int .u64 16) fun c=>zb .add 3 b (.int .i64 16) fun d=>zg 704513 [c,d]) ( zg 704513 [a,b])
def z8J:List AV->CM:=a2 fun a b=>zb .geq 26 a (.int .u64 256) fun c=>zC c ( zb .shr 26 a (.int .u64 8) fun c=>zb .add 3 b (.int .i64 8) fun d=>zg 704514 [c,d]) ( zg 704514 [a,b])
def j6m:List AV->CM:=a2 fun a b=>zc 26 5 a fun a=>CM.pu (p2 (q4A Tryz.prog 9) (.str [0,1,2,2,3,3,3,3,4,4,4,4,4,4,4,4,5,5,5,5,5,5,5,5,5,5,5,5,5,5,5,5,6,6,6,6,6,6,6,6,6,6,6,6,6,6,6,6,6,6,6,6,6,6,6,6,6,6,6,6,6,6,6,6,7,7,7,7,7,7,7,7,7,7,7,7,7,7,7,7,7,7,7,7,7,7,7,7,7,7,7,7,7,7,7,7,7,7,7,7,7,7,7,7,7,7,7,7,7,7,7,7,7,7,7,7,7,7,7,7,7,7,7,7,7,7,7,7,8,8,8,8,8,8,8,8,8,8,8,8,8,8,8,8,8,8,8,8,8,8,8,8,8,8,8,8,8,8,8,8,8,8,8,8,8,8,8,8,8,8,8,8,8,8,8,8,8,8,8,8,8,8,8,8,8,8,8,8,8,8,8,8,8,8,8,8,8,8,8,8,8,8,8,8,8,8,8,8,8,8,8,8,8,8,8,8,8,8,8,8,8,8,8,8,8,8,8,8,8,8,8,8,8,8,8,8,8,8,8,8,8,8,8,8,8,8,8,8,8,8,8,8,8,8,8,8]) a) fun a=>zc 5 3 a fun a=>zb .add 3 b a fun a=>zR a
def f172:List AV->CM:=a1 fun a=>zb .geq 26 a (.int .u64 4294967296) fun b=>zC b ( zb .shr 26 a (.int .u64 32) fun b=>zg 704512 [b,(.int .i64 32)]) ( zg 704512 [a,z1])
end
end
noncomputable section
open Go Go.Abs Go.Proofs.YtlginbmjiecglaaGreatDoor
set_option maxRecDepth 10000
def tFn:BT (List AV->CM):=(.node 57 f57
(.node 42 f42
(.node 22 f22
(.node 18 f18
(.node 13 f13
.leaf .leaf) (.node 21 f21
.leaf .leaf)) (.node 39 f39
(.node 38 f38
.leaf .leaf) (.node 41 f41
.leaf .leaf))) (.node 46 f46
(.node 44 f44
(.node 43 f43
.leaf .leaf) (.node 45 f45
.leaf .leaf)) (.node 54 f54
(.node 53 f53
.leaf .leaf) (.node 55 f55
.leaf .leaf)))) (.node 90 f90
(.node 81 f81
(.node 79 f79
(.node 58 f58
.leaf .leaf) (.node 80 f80
.leaf .leaf)) (.node 86 f86
(.node 82 f82
.leaf .leaf) (.node 89 f89
.leaf .leaf))) (.node 119 f119
(.node 108 f108
(.node 93 f93
.leaf .leaf) (.node 118 f118
.leaf .leaf)) (.node 127 f127
(.node 126 f126
.leaf .leaf) (.node 139 f139
.leaf (.node 143 f143
.leaf .leaf))))))
def tGo:BT (List AV->CM):=(.node 188418 j8u
(.node 176128 a4p
(.node 155648 j8r
(.node 86016 j8e
(.node 53248 a3C
.leaf .leaf) (.node 90112 a3V
.leaf .leaf)) (.node 167936 j2K
(.node 159744 j2J
.leaf .leaf) (.node 172032 a4o
.leaf .leaf))) (.node 180226 a4t
(.node 180224 a4r
(.node 176129 a4q
.leaf .leaf) (.node 180225 a4s
.leaf .leaf)) (.node 188416 j2S
(.node 184320 a4u
.leaf .leaf) (.node 188417 j8t
.leaf .leaf)))) (.node 335872 j3l
(.node 233472 a4G
(.node 217088 a4E
(.node 188419 j8v
.leaf .leaf) (.node 225280 a4F
.leaf .leaf)) (.node 327680 j8K
(.node 323584 j8I
.leaf .leaf) (.node 331776 j8L
.leaf .leaf))) (.node 352257 j8N
(.node 335874 j3n
(.node 335873 j8M
.leaf .leaf) (.node 352256 j3A
.leaf .leaf)) (.node 364544 a5m
(.node 352258 j3C
.leaf .leaf) (.node 380928 j3Q
.leaf (.node 442368 j5z
.leaf .leaf))))))
def tAf:BT ((List AV->CM)×(List AV->CM)×List (Nat×(List AV->CM))):=.leaf
def T:Tb:=⟨tFn,tGo,tAf⟩
theorem a9p {H:FuncId->Option (List AV->Mem->R)} (h:∀f,(tFn.find f).isSome=true->H f=none):T.Ok (EH H) Mk Nk:=⟨⟨(a14 (h 57 rfl)).le,
⟨(a1O (h 42 rfl)).le,
⟨(a1J (h 22 rfl)).le,
⟨(a1G (h 18 rfl)).le,
⟨(a1D (h 13 rfl)).le,
 trivial,trivial⟩,⟨(j5c (h 21 rfl)).le,
 trivial,trivial⟩⟩,⟨(j5g (h 39 rfl)).le,
⟨(j5f (h 38 rfl)).le,
 trivial,trivial⟩,⟨(j5h (h 41 rfl)).le,
 trivial,trivial⟩⟩⟩,⟨(j5i (h 46 rfl)).le,
⟨(a1Q (h 44 rfl)).le,
⟨(a1P (h 43 rfl)).le,
 trivial,trivial⟩,⟨(a1R (h 45 rfl)).le,
 trivial,trivial⟩⟩,⟨(j5j (h 54 rfl)).le,
⟨(a1Z (h 53 rfl)).le,
 trivial,trivial⟩,⟨(a13 (h 55 rfl)).le,
 trivial,trivial⟩⟩⟩⟩,⟨(a2p (h 90 rfl)).le,
⟨(j5p (h 81 rfl)).le,
⟨(j5n (h 79 rfl)).le,
⟨(a15 (h 58 rfl)).le,
 trivial,trivial⟩,⟨(j5o (h 80 rfl)).le,
 trivial,trivial⟩⟩,⟨(j5r (h 86 rfl)).le,
⟨(j5q (h 82 rfl)).le,
 trivial,trivial⟩,⟨(a2o (h 89 rfl)).le,
 trivial,trivial⟩⟩⟩,⟨(z6R (h 119 rfl)).le,
⟨(j7p (h 108 rfl)).le,
⟨(j5s (h 93 rfl)).le,
 trivial,trivial⟩,⟨(z6Q (h 118 rfl)).le,
 trivial,trivial⟩⟩,⟨(z6T (h 127 rfl)).le,
⟨(z6S (h 126 rfl)).le,
 trivial,trivial⟩,⟨(z6Y (h 139 rfl)).le,
 trivial,⟨(z6Z (h 143 rfl)).le,
 trivial,trivial⟩⟩⟩⟩⟩⟩,
⟨z3v.le,
⟨j2M.le,
⟨z3m.le,
⟨z2Z.le,
⟨j1N.le,
 trivial,trivial⟩,⟨j2d.le,
 trivial,trivial⟩⟩,⟨z3r.le,
⟨z3o.le,
 trivial,trivial⟩,⟨j2L.le,
 trivial,trivial⟩⟩⟩,⟨j2Q.le,
⟨j2O.le,
⟨j2N.le,
 trivial,trivial⟩,⟨j2P.le,
 trivial,trivial⟩⟩,⟨z3t.le,
⟨j2R.le,
 trivial,trivial⟩,⟨z3u.le,
 trivial,trivial⟩⟩⟩⟩,⟨z3N.le,
⟨j27.le,
⟨j25.le,
⟨z3w.le,
 trivial,trivial⟩,⟨j26.le,
 trivial,trivial⟩⟩,⟨z3K.le,
⟨z3J.le,
 trivial,trivial⟩,⟨z3L.le,
 trivial,trivial⟩⟩⟩,⟨z3T.le,
⟨z3Q.le,
⟨z3O.le,
 trivial,trivial⟩,⟨z3S.le,
 trivial,trivial⟩⟩,⟨j3L.le,
⟨z3V.le,
 trivial,trivial⟩,⟨z3Y.le,
 trivial,⟨z7p.le,
 trivial,trivial⟩⟩⟩⟩⟩⟩,
 trivial⟩
end
end Go.Proofs.YtlginbmjiecglaaGreatDoor.T
namespace Go.Abs
section
open Go
def q6K (v:AV) (args:List AV) (m:Mem):R:=
 match args with
 |[]=>some (v,m)
 | _::_=>none
theorem z6v {E : Env} (hE : q1i E) {f : FuncId} {fn : Func} (hfn : E.P.funcs[f]? = some fn) (hb : fn.body.isSome = true) (hn : fn.name ≠ "runtime.NumGoroutine") {b : Bool} {m1 : Mem}
  (h:run E (.fn f) [] (noM (GP E.P))=some (.bool b,m1)):∀args m r m',q6K (.bool b) args m=some (r,m')->z6b E.P (.fn f) args m r m':=by
 intro args m r m' e;cases args with
 |cons _ _=>cases e
 |nil=>
  simp only[q6K,xoi,Prod.mk.injEq]at e;obtain⟨rfl,rfl⟩:=e;refine⟨xnr _,fun p w cargs hm _ _ hv=>.inl ⟨fn,hfn,hb,hn,?_⟩⟩
  have hc:cargs=[]:=by cases cargs with|nil=>rfl|cons _ _=>simp[VRs]at hv
  subst hc;have hG:GP E.P<=w.heap.size:=by
   cases hz:GP E.P with
   |zero=>exact Nat.zero_le _
   |succ n=>
    obtain⟨k,hk⟩:=hm.q2O n (by show n<GP E.P;omega);exact hm.bnd n _ hk
  have hfree:q5x (z9X (GP E.P)) (noM (GP E.P)).next m1.next:=by
   intro x h1 h2;simp only[noM]at h1;simp only[z9X];rw[if_neg (by omega)]
  refine(q4g (q2k hE (.fn f) _ _ _ _ h) hfn hb hn (a7e hG) (by simp[noM]) hfree (cargs:=[]) (by simp[VRs])).mono ?_;rintro e w' ⟨cv,p',rfl,h1,h2⟩
  have keep:∀k,k<w.heap.size->w'.heap[k]? = w.heap[k]?:=fun k hk=>h2.q28 k hk fun b ci h3=>by rw[z19]at h3;cases h3
  simp only[VR]at h1;refine⟨cv,p,rfl,by simp only[VR];exact h1,?_⟩;exact {
   le:=fun _ _ h=>h
   out:=fun _ _=>rfl
   next:=xnr _
   rel:={
    has:=fun b v ci h3 h4=>by rw[keep _ (hm.bnd b ci h4)];exact hm.has b v ci h3 h4
    inj:=hm.inj
    bnd:=fun b ci h4=>Nat.lt_of_lt_of_le (hm.bnd b ci h4) h2.size
    q2O:=hm.q2O}
   q34:=fun _ _ _=>rfl
   dead:=fun _ _ h=>h
   q28:=fun c hc _=>keep c hc
   fresh:=fun b ci h3 h4=>absurd h4 (by omega)
   ro:=fun b cs ci h3 h4=>⟨h3,keep _ (hm.bnd b ci h4)⟩
   size:=h2.size
   os:=h2.os
   output:=h2.output
   tape:=h2.tape}
end
end Go.Abs
namespace Go.Proofs.YtlginbmjiecglaaGreatDoor
section
open Go Go.Abs
set_option maxRecDepth 4000
theorem z9D:((XD E T.T 4000).call (.fn 13) [] (noM (GP Tryz.prog))).map (·.1)=some (.bool true):=by kernel_rfl
theorem z5i (f:Nat) (hf:(T.tFn.find f).isSome=true):H f=none:=by
 unfold H;split<;>first|rfl|exact absurd (hf.symm.trans (show _=false by kernel_rfl)) (by simp)
theorem z5j:∃m',run E (.fn 13) [] (noM (GP Tryz.prog))=some (.bool true,m'):=by
 have h:=z9D;cases e:(XD E T.T 4000).call (.fn 13) [] (noM (GP Tryz.prog)) with
 |none=>rw[e]at h;cases h
 |some r=>
  rw[e]at h;obtain⟨v,m'⟩:=r;simp only[xom,xoi]at h;subst h;exact⟨m',j4N (E:=E) (T.a9p (H:=H) z5i) 4000 e⟩
noncomputable def H2 (f:FuncId):Option (List AV->Mem->R):=
 match f with
 | 59=>some q4w
 | 60=>some q7q
 | 120=>some q0I
 | 122=>some q0I
 | 124=>some q0I
 | 128=>some q0I
 | 130=>some q0I
 | 83=>some (q7v Tryz.prog 140)
 | 84=>some (q7v Tryz.prog 23)
 | 85=>some (q7v Tryz.prog 24)
 | 87=>some (q7v Tryz.prog 149)
 | 88=>some (q7v Tryz.prog 25)
 | 13=>some (q6K (.bool true))
 | _=>none
noncomputable abbrev E2:Env:=T.EH H2
theorem a7Q:q1i E2:=q8B (by kernel_rfl) 196 (fun f h=>by
  unfold hints;rw[List.getElem?_eq_none (by show 196<=f;exact h)];rfl) (fun f h=>List.all_eq_true.1 looks f (List.mem_range.2 h)) (fun f h e=>by
  unfold H2 at e;split at e
  ·have e1:=xsj e;subst e1;exact q8l (P:=Tryz.prog) (fn:=Tryz.f59) Tryz.func59 (by kernel_rfl) (by kernel_rfl) (by kernel_rfl) (by kernel_rfl)
  ·have e1:=xsj e;subst e1;exact q9G (P:=Tryz.prog) (fn:=Tryz.f60) Tryz.func60 (by kernel_rfl) (by kernel_rfl) (by kernel_rfl) (by kernel_rfl)
  ·have e1:=xsj e;subst e1;exact q0R (P:=Tryz.prog) (fn:=Tryz.f120) (st:=140) (tr:=4) (e:=9) (sz:=1) Tryz.func120 (by kernel_rfl) (by kernel_rfl) (by kernel_rfl) (by kernel_rfl) (by kernel_rfl) (by kernel_rfl)
  ·have e1:=xsj e;subst e1;exact q0R (P:=Tryz.prog) (fn:=Tryz.f122) (st:=23) (tr:=4) (e:=56) (sz:=4) Tryz.func122 (by kernel_rfl) (by kernel_rfl) (by kernel_rfl) (by kernel_rfl) (by kernel_rfl) (by kernel_rfl)
  ·have e1:=xsj e;subst e1;exact q0R (P:=Tryz.prog) (fn:=Tryz.f124) (st:=24) (tr:=4) (e:=74) (sz:=9) Tryz.func124 (by kernel_rfl) (by kernel_rfl) (by kernel_rfl) (by kernel_rfl) (by kernel_rfl) (by kernel_rfl)
  ·have e1:=xsj e;subst e1;exact q0R (P:=Tryz.prog) (fn:=Tryz.f128) (st:=149) (tr:=4) (e:=26) (sz:=1) Tryz.func128 (by kernel_rfl) (by kernel_rfl) (by kernel_rfl) (by kernel_rfl) (by kernel_rfl) (by kernel_rfl)
  ·have e1:=xsj e;subst e1;exact q0R (P:=Tryz.prog) (fn:=Tryz.f130) (st:=25) (tr:=4) (e:=54) (sz:=4) Tryz.func130 (by kernel_rfl) (by kernel_rfl) (by kernel_rfl) (by kernel_rfl) (by kernel_rfl) (by kernel_rfl)
  ·have e1:=xsj e;subst e1;exact q1J (E:=E0) q7w (st:=140) (e:=9) (by kernel_rfl) (by kernel_rfl) (by kernel_rfl) (by kernel_rfl) ⟨Tryz.f83,Tryz.func83,by kernel_rfl,by decide +kernel⟩ a6V
  ·have e1:=xsj e;subst e1;exact q1J (E:=E0) q7w (st:=23) (e:=56) (by kernel_rfl) (by kernel_rfl) (by kernel_rfl) (by kernel_rfl) ⟨Tryz.f84,Tryz.func84,by kernel_rfl,by decide +kernel⟩ a6W
  ·have e1:=xsj e;subst e1;exact q1J (E:=E0) q7w (st:=24) (e:=74) (by kernel_rfl) (by kernel_rfl) (by kernel_rfl) (by kernel_rfl) ⟨Tryz.f85,Tryz.func85,by kernel_rfl,by decide +kernel⟩ a6X
  ·have e1:=xsj e;subst e1;exact q1J (E:=E0) q7w (st:=149) (e:=26) (by kernel_rfl) (by kernel_rfl) (by kernel_rfl) (by kernel_rfl) ⟨Tryz.f87,Tryz.func87,by kernel_rfl,by decide +kernel⟩ a6Y
  ·have e1:=xsj e;subst e1;exact q1J (E:=E0) q7w (st:=25) (e:=54) (by kernel_rfl) (by kernel_rfl) (by kernel_rfl) (by kernel_rfl) ⟨Tryz.f88,Tryz.func88,by kernel_rfl,by decide +kernel⟩ a6Z
  ·have e1:=xsj e;subst e1;obtain⟨m1,h1⟩:=z5j;exact z6v a9o Tryz.func13 (by kernel_rfl) (by decide +kernel) h1
  ·cases e)
noncomputable abbrev D2:Do:=T.Rl H2
end
end Go.Proofs.YtlginbmjiecglaaGreatDoor
