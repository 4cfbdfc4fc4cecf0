/- Texts of one claim, put together. -/
import Derived.Test.YtlginbmjiecglaaGreatDoorW8
namespace Go.Proofs.YtlginbmjiecglaaGreatDoor.T
section
open Go Go.Abs Go.Proofs.YtlginbmjiecglaaGreatDoor
set_option maxRecDepth 10000
noncomputable abbrev EH (H:FuncId->Option (List AV->Mem->R)):Env:=z4R Tryz.prog hints H
def nl (k a b:Nat):BT (List Bool):=.node k (bM a b) .leaf .leaf
def nd (k a b:Nat) (l r:BT (List Bool)):BT (List Bool):=.node k (bM a b) l r
def mt:BT (List Bool):=(nd 180225 43 897
(nd 65539 55 140758963192461
(nd 49156 83 939524164
(nd 45056 228 36
(nd 28678 172 2722258935367507707706996859454145700632
(nd 28673 172 1848
(nd 12289 83 237568
(nl 12288 83 8208) (nl 28672 172 2199023257880)) (nd 28675 172 1208925819614629174710552
(nl 28674 172 1208925819614629174710552) (nd 28676 172 1848
.leaf (nl 28677 172 2722258935367507707706996859454145700632)))) (nd 36864 125 113
(nd 28680 172 1304
(nl 28679 172 1336) (nl 28681 172 272)) (nd 36866 125 113
(nl 36865 125 113) (nd 36867 125 48
.leaf (nl 40960 14 1))))) (nd 45065 228 36
(nd 45060 228 36
(nd 45058 228 100
(nl 45057 228 100) (nl 45059 228 100)) (nd 45062 228 292
(nl 45061 228 292) (nd 45063 228 804
.leaf (nl 45064 228 292)))) (nd 45069 228 4
(nd 45067 228 1060
(nl 45066 228 1060) (nl 45068 228 1060)) (nd 49153 83 68
(nl 49152 83 6) (nd 49154 83 939524164
.leaf (nl 49155 83 939524164)))))) (nd 57351 87 528905046081400263933956
(nd 49165 83 68
(nd 49160 83 61572651155524
(nd 49158 83 61572651155524
(nl 49157 83 68) (nl 49159 83 61572651155524)) (nd 49162 83 32281802128991715396
(nl 49161 83 68) (nd 49163 83 32281802128991715396
.leaf (nl 49164 83 32281802128991715396)))) (nd 57346 87 3758096388
(nd 57344 87 4
(nl 53248 75 2) (nl 57345 87 3758096388)) (nd 57348 87 4
(nl 57347 87 3758096388) (nd 57349 87 4
.leaf (nl 57350 87 528905046081400263933956))))) (nd 61446 94 76
(nd 61441 94 44
(nd 57353 87 0
(nl 57352 87 528905046081400263933956) (nl 61440 94 12)) (nd 61443 94 44
(nl 61442 94 44) (nd 61444 94 12
.leaf (nl 61445 94 76)))) (nd 61450 94 140
(nd 61448 94 12
(nl 61447 94 76) (nl 61449 94 140)) (nd 61452 94 0
(nl 61451 94 140) (nd 65536 55 140754670846637
.leaf (nl 65538 55 140754668225165))))))) (nd 131074 128 1665
(nd 102411 97 10
(nd 102402 97 122
(nd 81920 29 0
(nd 65542 55 175921860444684
(nl 65541 55 140737488355853) (nl 65544 55 12)) (nd 90112 50 336
(nl 86016 50 336) (nd 102400 97 10
.leaf (nl 102401 97 10)))) (nd 102406 97 186
(nd 102404 97 122
(nl 102403 97 122) (nl 102405 97 58)) (nd 102408 97 186
(nl 102407 97 186) (nd 102409 97 186
.leaf (nl 102410 97 42))))) (nd 118784 99 161
(nd 110593 80 135
(nd 106496 33 12
(nl 102412 97 0) (nl 110592 80 7)) (nd 110595 80 135
(nl 110594 80 135) (nd 114688 63 3
.leaf (nl 114689 63 3)))) (nd 126977 108 161
(nd 118786 99 5761
(nl 118785 99 161) (nl 126976 108 161)) (nd 126979 108 5761
(nl 126978 108 673) (nd 131072 128 1665
.leaf (nl 131073 128 1665)))))) (nd 143360 21 1
(nd 135173 123 2183
(nd 135168 123 135
(nd 131076 128 1665
(nl 131075 128 1665) (nl 131077 128 22017)) (nd 135170 123 135
(nl 135169 123 135) (nd 135171 123 135
.leaf (nl 135172 123 2183)))) (nd 139266 227 32129
(nd 139264 227 3457
(nl 135174 123 2183) (nl 139265 227 15745)) (nd 139268 227 28033
(nl 139267 227 28033) (nd 139269 227 85377
.leaf (nl 139270 227 5590401))))) (nd 151552 16 2
(nd 143364 21 0
(nd 143362 21 9
(nl 143361 21 9) (nl 143363 21 9)) (nd 147457 28 35
(nl 147456 28 35) (nd 147458 28 35
.leaf (nl 147459 28 0)))) (nd 167936 60 0
(nd 155648 37 1
(nl 151553 16 0) (nd 159744 60 0
.leaf (nl 163840 60 0))) (nd 176128 62 3
(nl 172032 39 0) (nd 176129 62 3
.leaf (nl 180224 43 929)))))))) (nd 454656 29 252
(nd 290819 28 0
(nd 200705 54 114732
(nd 192514 94 946
(nd 188417 23 9
(nd 184320 25 80
(nl 180226 43 512) (nl 188416 23 9)) (nd 188419 23 1
(nl 188418 23 9) (nd 192512 94 898
.leaf (nl 192513 94 898)))) (nd 196609 43 906
(nd 192516 94 0
(nl 192515 94 898) (nl 196608 43 906)) (nd 196611 43 906
(nl 196610 43 930) (nd 196612 43 2
.leaf (nl 200704 54 114732))))) (nd 225280 16 0
(nd 200709 54 7516192808
(nd 200707 54 44
(nl 200706 54 114732) (nl 200708 54 7516192808)) (nd 200711 54 7516192808
(nl 200710 54 7516193320) (nd 200712 54 32
.leaf (nl 217088 36 177)))) (nd 282624 47 28
(nd 262144 42 81
(nl 233472 39 643) (nl 278528 45 60)) (nd 290816 28 35
(nl 282625 47 28) (nd 290817 28 35
.leaf (nl 290818 28 35)))))) (nd 352258 54 195
(nd 315394 44 92
(nd 311297 43 135
(nd 294913 31 0
(nl 294912 31 32) (nl 311296 43 135)) (nd 311299 43 0
(nl 311298 43 135) (nd 315392 44 92
.leaf (nl 315393 44 92)))) (nd 335872 54 451
(nd 327680 13 1
(nl 323584 13 1) (nl 331776 13 1)) (nd 335874 54 195
(nl 335873 54 451) (nd 352256 54 451
.leaf (nl 352257 54 451))))) (nd 397312 24 1798
(nd 372738 19 1794
(nd 372736 19 1794
(nl 364544 28 81) (nl 372737 19 1794)) (nd 376832 11 0
(nl 372739 19 0) (nd 380928 16 0
.leaf (nl 385024 46 9)))) (nd 413698 24 1798
(nd 397314 24 1798
(nl 397313 24 1798) (nd 413696 24 1798
.leaf (nl 413697 24 1798))) (nd 430081 24 1798
(nl 430080 24 1798) (nd 430082 24 1798
.leaf (nl 442368 28 81))))))) (nd 622595 48 48
(nd 552961 67 22
(nd 462848 31 252
(nd 458752 24 44
(nd 454658 29 252
(nl 454657 29 252) (nl 454659 29 48)) (nd 458754 24 0
(nl 458753 24 44) (nd 458755 24 44
.leaf (nl 458756 24 0)))) (nd 466944 15 20
(nd 462850 31 252
(nl 462849 31 252) (nl 462851 31 48)) (nd 475137 15 0
(nl 475136 15 32) (nd 479232 44 92
.leaf (nl 552960 67 22))))) (nd 602112 26 12
(nd 552965 67 100
(nd 552963 67 6
(nl 552962 67 22) (nl 552964 67 100)) (nd 557056 19 82
(nl 552966 67 100) (nd 561152 57 22
.leaf (nl 561153 57 84)))) (nd 618498 17 61
(nd 618496 17 61
(nl 602113 26 12) (nl 618497 17 61)) (nd 622592 48 124
(nl 618499 17 12) (nd 622593 48 124
.leaf (nl 622594 48 124)))))) (nd 675843 127 65084
(nd 667648 23 25
(nd 626691 42 508
(nd 626689 42 124
(nl 626688 42 124) (nl 626690 42 508)) (nd 626693 42 124
(nl 626692 42 508) (nd 626694 42 48
.leaf (nl 651264 37 256)))) (nd 671747 24 21
(nd 671745 24 21
(nl 671744 24 5) (nl 671746 24 21)) (nd 675840 127 60
(nl 671748 24 20) (nd 675841 127 65084
.leaf (nl 675842 127 65084))))) (nd 679942 135 509700
(nd 679937 135 7
(nd 675845 127 24628
(nl 675844 127 30780) (nl 679936 135 7)) (nd 679939 135 126724
(nl 679938 135 7) (nd 679940 135 126724
.leaf (nl 679941 135 61188)))) (nd 696321 47 70
(nd 679944 135 442628
(nl 679943 135 509700) (nd 684032 29 2
.leaf (nl 696320 47 70))) (nd 704512 25 5
(nl 696322 47 70) (nd 704513 25 5
.leaf (nl 704514 25 5)))))))))
def nt:BT (List Bool):=(nd 65537 55 140758963192461
(nl 65536 55 140754670846637) (nl 65538 55 175921860444684))
noncomputable def Mk (k:Nat):List Bool:=(mt.find k).getD []
noncomputable def Nk (k:Nat):List Bool:=(nt.find k).getD []
noncomputable abbrev Rl (H:FuncId->Option (List AV->Mem->R)):Do:=real (EH H) Mk Nk
noncomputable abbrev zl (t:TypeId) (p:AV) (K:AV->CM):CM:=CM.rm (q1 (q1p Tryz.prog t) p) K
noncomputable abbrev zf (t:TypeId) (f:Nat) (x:AV) (K:AV->CM):CM:=CM.pu (p1 (fun a=>q0h Tryz.prog t a f) x) K
noncomputable abbrev ze (f:Nat) (x:AV) (K:AV->CM):CM:=CM.pu (p1 (fun a=>q0l a f) x) K
noncomputable abbrev zb (op:BinOp) (t:TypeId) (x y:AV) (K:AV->CM):CM:=CM.pu (p2 (q0J Tryz.prog op t) x y) K
noncomputable abbrev zi (t:TypeId) (x y:AV) (K:AV->CM):CM:=CM.pu (p2 (q0F Tryz.prog t) x y) K
noncomputable abbrev zc (t u:TypeId) (x:AV) (K:AV->CM):CM:=CM.pu (p1 (q59 Tryz.prog t u) x) K
noncomputable abbrev zt (t:TypeId) (x:AV) (K:AV->CM):CM:=CM.pu (p1 (q1M Tryz.prog t) x) K
noncomputable abbrev zd (t:TypeId) (x:List (Nat×AV)) (K:AV->CM):CM:=CM.pu (p1 (q2j Tryz.prog t) x) K
noncomputable abbrev zu (x:AV) (K:AV->CM):CM:=CM.pu (p1 (unA .not) x) K
noncomputable abbrev zn (x:AV) (K:AV->CM):CM:=CM.pu (p1 nnA x) K
noncomputable abbrev zs (x v:AV) (n:Nat) (K:CM):CM:=CM.st (fun m=>stV m x v n) K
noncomputable abbrev za (l:List AV) (K:AV->CM):CM:=CM.al (some (.cells l false,pB)) K
noncomputable abbrev zo (x:AV) (K:AV->CM):CM:=CM.al (q0N x) K
noncomputable abbrev zx (t:TypeId) (p:AV) (m:Mem) (v:AV) (K:CM):CM:=CM.chk (q1 (q1p Tryz.prog t) p m) v K
noncomputable abbrev zr:=@CM.resC Tryz.prog
noncomputable abbrev zk:=@CM.call
noncomputable abbrev zC:=@CM.cond
noncomputable abbrev zI:=@CM.ifv
noncomputable abbrev zg:=@CM.go
noncomputable abbrev zR:=@CM.ret
noncomputable abbrev zm:=@CM.memo
def z0:AV:=.sl none 0 0 0 true
def z1:AV:=.int .i64 0
def z2:AV:=.int .u64 0
def z3:AV:=.str []
def z4:AV:=.int .i64 1
theorem zz0:z0=.sl none 0 0 0 true:=rfl
theorem zz1:z1=.int .i64 0:=rfl
theorem zz2:z2=.int .u64 0:=rfl
theorem zz3:z3=.str []:=rfl
theorem zz4:z4=.int .i64 1:=rfl
abbrev OkG (H:FuncId->Option (List AV->Mem->R)) (g:List AV->CM) (k:Nat):Prop:=EqD (Rl H) g (fun xs m=>goR (EH H) Mk k xs m)
abbrev OkF (H:FuncId->Option (List AV->Mem->R)) (g:List AV->CM) (k:Nat):Prop:=EqD (Rl H) g (fun xs m=>run (EH H) (.fn k) xs m)
section
variable {H:FuncId->Option (List AV->Mem->R)} {k:Nat}
noncomputable abbrev a0 (F:CM):List AV->CM:=ap0 F
theorem c0 {F:CM} (h:∀(m:Mem),goC (EH H) (run (EH H)) (.fn (q1l (EH H) (k / 4096))) (go (EH H) (.fn (q1l (EH H) (k / 4096)))) 400 (kAt (EH H) (k / 4096) (k % 4096)) (spread (Mk k) []) m=q0i (Rl H) F m):OkG H (a0 F) k:=zE fun _=>q17 400 (h _)
theorem e0 {F:CM} (hH:H k=none) (hB:((EH H).B k).isSome=true) (h:∀(m:Mem),goC (EH H) (run (EH H)) (.fn (q1l (EH H) k)) (go (EH H) (.fn (q1l (EH H) k))) 400 [.code (codeOf (EH H) k)] ([]++List.replicate (z1q (EH H) k-List.length ([]:List AV)) .undef) m=q0i (Rl H) F m):OkF H (a0 F) k:=zE fun _=>run_eq 400 hH hB (h _)
abbrev IG0 (H:FuncId->Option (List AV->Mem->R)) (g:List AV->CM) (k:Nat):Prop:=∀(m:Mem),(Rl H).gor k [] m=q0i (Rl H) (g []) m
theorem gk0 {F:CM} (h:∀(m:Mem),goC (EH H) (run (EH H)) (.fn (q1l (EH H) (k / 4096))) (go (EH H) (.fn (q1l (EH H) (k / 4096)))) 400 (kAt (EH H) (k / 4096) (k % 4096)) (spread (Mk k) []) m=q0i (Rl H) F m):IG0 H (a0 F) k:=fun m=>q17 400 (h m)
noncomputable abbrev a1 (F:AV->CM):List AV->CM:=apS fun u=>ap0 (F u)
theorem c1 {F:AV->CM} (h:∀(u:AV) (m:Mem),goC (EH H) (run (EH H)) (.fn (q1l (EH H) (k / 4096))) (go (EH H) (.fn (q1l (EH H) (k / 4096)))) 400 (kAt (EH H) (k / 4096) (k % 4096)) (spread (Mk k) [u]) m=q0i (Rl H) (F u) m):OkG H (a1 F) k:=sE fun _=>zE fun _=>q17 400 (h _ _)
theorem e1 {F:AV->CM} (hH:H k=none) (hB:((EH H).B k).isSome=true) (h:∀(u:AV) (m:Mem),goC (EH H) (run (EH H)) (.fn (q1l (EH H) k)) (go (EH H) (.fn (q1l (EH H) k))) 400 [.code (codeOf (EH H) k)] ([u]++List.replicate (z1q (EH H) k-List.length ([u]:List AV)) .undef) m=q0i (Rl H) (F u) m):OkF H (a1 F) k:=sE fun _=>zE fun _=>run_eq 400 hH hB (h _ _)
abbrev IG1 (H:FuncId->Option (List AV->Mem->R)) (g:List AV->CM) (k:Nat):Prop:=∀(u:AV) (m:Mem),(Rl H).gor k [u] m=q0i (Rl H) (g [u]) m
abbrev IF1 (H:FuncId->Option (List AV->Mem->R)) (g:List AV->CM) (k:Nat):Prop:=∀(u:AV) (m:Mem),run (EH H) (.fn k) [u] m=q0i (Rl H) (g [u]) m
theorem gk1 {F:AV->CM} (h:∀(u:AV) (m:Mem),goC (EH H) (run (EH H)) (.fn (q1l (EH H) (k / 4096))) (go (EH H) (.fn (q1l (EH H) (k / 4096)))) 400 (kAt (EH H) (k / 4096) (k % 4096)) (spread (Mk k) [u]) m=q0i (Rl H) (F u) m):IG1 H (a1 F) k:=fun u m=>q17 400 (h u m)
theorem fk1 {F:AV->CM} (hH:H k=none) (hB:((EH H).B k).isSome=true) (h:∀(u:AV) (m:Mem),goC (EH H) (run (EH H)) (.fn (q1l (EH H) k)) (go (EH H) (.fn (q1l (EH H) k))) 400 [.code (codeOf (EH H) k)] ([u]++List.replicate (z1q (EH H) k-List.length ([u]:List AV)) .undef) m=q0i (Rl H) (F u) m):IF1 H (a1 F) k:=fun u m=>run_eq 400 hH hB (h u m)
noncomputable abbrev a2 (F:AV->AV->CM):List AV->CM:=apS fun u=>apS fun v=>ap0 (F u v)
theorem c2 {F:AV->AV->CM} (h:∀(u v:AV) (m:Mem),goC (EH H) (run (EH H)) (.fn (q1l (EH H) (k / 4096))) (go (EH H) (.fn (q1l (EH H) (k / 4096)))) 400 (kAt (EH H) (k / 4096) (k % 4096)) (spread (Mk k) [u,v]) m=q0i (Rl H) (F u v) m):OkG H (a2 F) k:=sE fun _=>sE fun _=>zE fun _=>q17 400 (h _ _ _)
theorem e2 {F:AV->AV->CM} (hH:H k=none) (hB:((EH H).B k).isSome=true) (h:∀(u v:AV) (m:Mem),goC (EH H) (run (EH H)) (.fn (q1l (EH H) k)) (go (EH H) (.fn (q1l (EH H) k))) 400 [.code (codeOf (EH H) k)] ([u,v]++List.replicate (z1q (EH H) k-List.length ([u,v]:List AV)) .undef) m=q0i (Rl H) (F u v) m):OkF H (a2 F) k:=sE fun _=>sE fun _=>zE fun _=>run_eq 400 hH hB (h _ _ _)
abbrev IG2 (H:FuncId->Option (List AV->Mem->R)) (g:List AV->CM) (k:Nat):Prop:=∀(u v:AV) (m:Mem),(Rl H).gor k [u,v] m=q0i (Rl H) (g [u,v]) m
abbrev IF2 (H:FuncId->Option (List AV->Mem->R)) (g:List AV->CM) (k:Nat):Prop:=∀(u v:AV) (m:Mem),run (EH H) (.fn k) [u,v] m=q0i (Rl H) (g [u,v]) m
theorem gk2 {F:AV->AV->CM} (h:∀(u v:AV) (m:Mem),goC (EH H) (run (EH H)) (.fn (q1l (EH H) (k / 4096))) (go (EH H) (.fn (q1l (EH H) (k / 4096)))) 400 (kAt (EH H) (k / 4096) (k % 4096)) (spread (Mk k) [u,v]) m=q0i (Rl H) (F u v) m):IG2 H (a2 F) k:=fun u v m=>q17 400 (h u v m)
theorem fk2 {F:AV->AV->CM} (hH:H k=none) (hB:((EH H).B k).isSome=true) (h:∀(u v:AV) (m:Mem),goC (EH H) (run (EH H)) (.fn (q1l (EH H) k)) (go (EH H) (.fn (q1l (EH H) k))) 400 [.code (codeOf (EH H) k)] ([u,v]++List.replicate (z1q (EH H) k-List.length ([u,v]:List AV)) .undef) m=q0i (Rl H) (F u v) m):IF2 H (a2 F) k:=fun u v m=>run_eq 400 hH hB (h u v m)
noncomputable abbrev a3 (F:AV->AV->AV->CM):List AV->CM:=apS fun u=>apS fun v=>apS fun w=>ap0 (F u v w)
theorem c3 {F:AV->AV->AV->CM} (h:∀(u v w:AV) (m:Mem),goC (EH H) (run (EH H)) (.fn (q1l (EH H) (k / 4096))) (go (EH H) (.fn (q1l (EH H) (k / 4096)))) 400 (kAt (EH H) (k / 4096) (k % 4096)) (spread (Mk k) [u,v,w]) m=q0i (Rl H) (F u v w) m):OkG H (a3 F) k:=sE fun _=>sE fun _=>sE fun _=>zE fun _=>q17 400 (h _ _ _ _)
theorem e3 {F:AV->AV->AV->CM} (hH:H k=none) (hB:((EH H).B k).isSome=true) (h:∀(u v w:AV) (m:Mem),goC (EH H) (run (EH H)) (.fn (q1l (EH H) k)) (go (EH H) (.fn (q1l (EH H) k))) 400 [.code (codeOf (EH H) k)] ([u,v,w]++List.replicate (z1q (EH H) k-List.length ([u,v,w]:List AV)) .undef) m=q0i (Rl H) (F u v w) m):OkF H (a3 F) k:=sE fun _=>sE fun _=>sE fun _=>zE fun _=>run_eq 400 hH hB (h _ _ _ _)
abbrev IG3 (H:FuncId->Option (List AV->Mem->R)) (g:List AV->CM) (k:Nat):Prop:=∀(u v w:AV) (m:Mem),(Rl H).gor k [u,v,w] m=q0i (Rl H) (g [u,v,w]) m
abbrev IF3 (H:FuncId->Option (List AV->Mem->R)) (g:List AV->CM) (k:Nat):Prop:=∀(u v w:AV) (m:Mem),run (EH H) (.fn k) [u,v,w] m=q0i (Rl H) (g [u,v,w]) m
theorem gk3 {F:AV->AV->AV->CM} (h:∀(u v w:AV) (m:Mem),goC (EH H) (run (EH H)) (.fn (q1l (EH H) (k / 4096))) (go (EH H) (.fn (q1l (EH H) (k / 4096)))) 400 (kAt (EH H) (k / 4096) (k % 4096)) (spread (Mk k) [u,v,w]) m=q0i (Rl H) (F u v w) m):IG3 H (a3 F) k:=fun u v w m=>q17 400 (h u v w m)
theorem fk3 {F:AV->AV->AV->CM} (hH:H k=none) (hB:((EH H).B k).isSome=true) (h:∀(u v w:AV) (m:Mem),goC (EH H) (run (EH H)) (.fn (q1l (EH H) k)) (go (EH H) (.fn (q1l (EH H) k))) 400 [.code (codeOf (EH H) k)] ([u,v,w]++List.replicate (z1q (EH H) k-List.length ([u,v,w]:List AV)) .undef) m=q0i (Rl H) (F u v w) m):IF3 H (a3 F) k:=fun u v w m=>run_eq 400 hH hB (h u v w m)
noncomputable abbrev a4 (F:AV->AV->AV->AV->CM):List AV->CM:=apS fun u=>apS fun v=>apS fun w=>apS fun x=>ap0 (F u v w x)
theorem c4 {F:AV->AV->AV->AV->CM} (h:∀(u v w x:AV) (m:Mem),goC (EH H) (run (EH H)) (.fn (q1l (EH H) (k / 4096))) (go (EH H) (.fn (q1l (EH H) (k / 4096)))) 400 (kAt (EH H) (k / 4096) (k % 4096)) (spread (Mk k) [u,v,w,x]) m=q0i (Rl H) (F u v w x) m):OkG H (a4 F) k:=sE fun _=>sE fun _=>sE fun _=>sE fun _=>zE fun _=>q17 400 (h _ _ _ _ _)
theorem e4 {F:AV->AV->AV->AV->CM} (hH:H k=none) (hB:((EH H).B k).isSome=true) (h:∀(u v w x:AV) (m:Mem),goC (EH H) (run (EH H)) (.fn (q1l (EH H) k)) (go (EH H) (.fn (q1l (EH H) k))) 400 [.code (codeOf (EH H) k)] ([u,v,w,x]++List.replicate (z1q (EH H) k-List.length ([u,v,w,x]:List AV)) .undef) m=q0i (Rl H) (F u v w x) m):OkF H (a4 F) k:=sE fun _=>sE fun _=>sE fun _=>sE fun _=>zE fun _=>run_eq 400 hH hB (h _ _ _ _ _)
abbrev IG4 (H:FuncId->Option (List AV->Mem->R)) (g:List AV->CM) (k:Nat):Prop:=∀(u v w x:AV) (m:Mem),(Rl H).gor k [u,v,w,x] m=q0i (Rl H) (g [u,v,w,x]) m
abbrev IF4 (H:FuncId->Option (List AV->Mem->R)) (g:List AV->CM) (k:Nat):Prop:=∀(u v w x:AV) (m:Mem),run (EH H) (.fn k) [u,v,w,x] m=q0i (Rl H) (g [u,v,w,x]) m
theorem gk4 {F:AV->AV->AV->AV->CM} (h:∀(u v w x:AV) (m:Mem),goC (EH H) (run (EH H)) (.fn (q1l (EH H) (k / 4096))) (go (EH H) (.fn (q1l (EH H) (k / 4096)))) 400 (kAt (EH H) (k / 4096) (k % 4096)) (spread (Mk k) [u,v,w,x]) m=q0i (Rl H) (F u v w x) m):IG4 H (a4 F) k:=fun u v w x m=>q17 400 (h u v w x m)
theorem fk4 {F:AV->AV->AV->AV->CM} (hH:H k=none) (hB:((EH H).B k).isSome=true) (h:∀(u v w x:AV) (m:Mem),goC (EH H) (run (EH H)) (.fn (q1l (EH H) k)) (go (EH H) (.fn (q1l (EH H) k))) 400 [.code (codeOf (EH H) k)] ([u,v,w,x]++List.replicate (z1q (EH H) k-List.length ([u,v,w,x]:List AV)) .undef) m=q0i (Rl H) (F u v w x) m):IF4 H (a4 F) k:=fun u v w x m=>run_eq 400 hH hB (h u v w x m)
noncomputable abbrev a5 (F:AV->AV->AV->AV->AV->CM):List AV->CM:=apS fun u=>apS fun v=>apS fun w=>apS fun x=>apS fun y=>ap0 (F u v w x y)
theorem c5 {F:AV->AV->AV->AV->AV->CM} (h:∀(u v w x y:AV) (m:Mem),goC (EH H) (run (EH H)) (.fn (q1l (EH H) (k / 4096))) (go (EH H) (.fn (q1l (EH H) (k / 4096)))) 400 (kAt (EH H) (k / 4096) (k % 4096)) (spread (Mk k) [u,v,w,x,y]) m=q0i (Rl H) (F u v w x y) m):OkG H (a5 F) k:=sE fun _=>sE fun _=>sE fun _=>sE fun _=>sE fun _=>zE fun _=>q17 400 (h _ _ _ _ _ _)
theorem e5 {F:AV->AV->AV->AV->AV->CM} (hH:H k=none) (hB:((EH H).B k).isSome=true) (h:∀(u v w x y:AV) (m:Mem),goC (EH H) (run (EH H)) (.fn (q1l (EH H) k)) (go (EH H) (.fn (q1l (EH H) k))) 400 [.code (codeOf (EH H) k)] ([u,v,w,x,y]++List.replicate (z1q (EH H) k-List.length ([u,v,w,x,y]:List AV)) .undef) m=q0i (Rl H) (F u v w x y) m):OkF H (a5 F) k:=sE fun _=>sE fun _=>sE fun _=>sE fun _=>sE fun _=>zE fun _=>run_eq 400 hH hB (h _ _ _ _ _ _)
abbrev IG5 (H:FuncId->Option (List AV->Mem->R)) (g:List AV->CM) (k:Nat):Prop:=∀(u v w x y:AV) (m:Mem),(Rl H).gor k [u,v,w,x,y] m=q0i (Rl H) (g [u,v,w,x,y]) m
theorem gk5 {F:AV->AV->AV->AV->AV->CM} (h:∀(u v w x y:AV) (m:Mem),goC (EH H) (run (EH H)) (.fn (q1l (EH H) (k / 4096))) (go (EH H) (.fn (q1l (EH H) (k / 4096)))) 400 (kAt (EH H) (k / 4096) (k % 4096)) (spread (Mk k) [u,v,w,x,y]) m=q0i (Rl H) (F u v w x y) m):IG5 H (a5 F) k:=fun u v w x y m=>q17 400 (h u v w x y m)
noncomputable abbrev a6 (F:AV->AV->AV->AV->AV->AV->CM):List AV->CM:=apS fun u=>apS fun v=>apS fun w=>apS fun x=>apS fun y=>apS fun z=>ap0 (F u v w x y z)
theorem e6 {F:AV->AV->AV->AV->AV->AV->CM} (hH:H k=none) (hB:((EH H).B k).isSome=true) (h:∀(u v w x y z:AV) (m:Mem),goC (EH H) (run (EH H)) (.fn (q1l (EH H) k)) (go (EH H) (.fn (q1l (EH H) k))) 400 [.code (codeOf (EH H) k)] ([u,v,w,x,y,z]++List.replicate (z1q (EH H) k-List.length ([u,v,w,x,y,z]:List AV)) .undef) m=q0i (Rl H) (F u v w x y z) m):OkF H (a6 F) k:=sE fun _=>sE fun _=>sE fun _=>sE fun _=>sE fun _=>sE fun _=>zE fun _=>run_eq 400 hH hB (h _ _ _ _ _ _ _)
abbrev IG6 (H:FuncId->Option (List AV->Mem->R)) (g:List AV->CM) (k:Nat):Prop:=∀(u v w x y z:AV) (m:Mem),(Rl H).gor k [u,v,w,x,y,z] m=q0i (Rl H) (g [u,v,w,x,y,z]) m
abbrev IF6 (H:FuncId->Option (List AV->Mem->R)) (g:List AV->CM) (k:Nat):Prop:=∀(u v w x y z:AV) (m:Mem),run (EH H) (.fn k) [u,v,w,x,y,z] m=q0i (Rl H) (g [u,v,w,x,y,z]) m
theorem gk6 {F:AV->AV->AV->AV->AV->AV->CM} (h:∀(u v w x y z:AV) (m:Mem),goC (EH H) (run (EH H)) (.fn (q1l (EH H) (k / 4096))) (go (EH H) (.fn (q1l (EH H) (k / 4096)))) 400 (kAt (EH H) (k / 4096) (k % 4096)) (spread (Mk k) [u,v,w,x,y,z]) m=q0i (Rl H) (F u v w x y z) m):IG6 H (a6 F) k:=fun u v w x y z m=>q17 400 (h u v w x y z m)
theorem fk6 {F:AV->AV->AV->AV->AV->AV->CM} (hH:H k=none) (hB:((EH H).B k).isSome=true) (h:∀(u v w x y z:AV) (m:Mem),goC (EH H) (run (EH H)) (.fn (q1l (EH H) k)) (go (EH H) (.fn (q1l (EH H) k))) 400 [.code (codeOf (EH H) k)] ([u,v,w,x,y,z]++List.replicate (z1q (EH H) k-List.length ([u,v,w,x,y,z]:List AV)) .undef) m=q0i (Rl H) (F u v w x y z) m):IF6 H (a6 F) k:=fun u v w x y z m=>run_eq 400 hH hB (h u v w x y z m)
noncomputable abbrev a7 (F:AV->AV->AV->AV->AV->AV->AV->CM):List AV->CM:=apS fun u=>apS fun v=>apS fun w=>apS fun x=>apS fun y=>apS fun z=>apS fun u6=>ap0 (F u v w x y z u6)
theorem c7 {F:AV->AV->AV->AV->AV->AV->AV->CM} (h:∀(u v w x y z u6:AV) (m:Mem),goC (EH H) (run (EH H)) (.fn (q1l (EH H) (k / 4096))) (go (EH H) (.fn (q1l (EH H) (k / 4096)))) 400 (kAt (EH H) (k / 4096) (k % 4096)) (spread (Mk k) [u,v,w,x,y,z,u6]) m=q0i (Rl H) (F u v w x y z u6) m):OkG H (a7 F) k:=sE fun _=>sE fun _=>sE fun _=>sE fun _=>sE fun _=>sE fun _=>sE fun _=>zE fun _=>q17 400 (h _ _ _ _ _ _ _ _)
theorem e7 {F:AV->AV->AV->AV->AV->AV->AV->CM} (hH:H k=none) (hB:((EH H).B k).isSome=true) (h:∀(u v w x y z u6:AV) (m:Mem),goC (EH H) (run (EH H)) (.fn (q1l (EH H) k)) (go (EH H) (.fn (q1l (EH H) k))) 400 [.code (codeOf (EH H) k)] ([u,v,w,x,y,z,u6]++List.replicate (z1q (EH H) k-List.length ([u,v,w,x,y,z,u6]:List AV)) .undef) m=q0i (Rl H) (F u v w x y z u6) m):OkF H (a7 F) k:=sE fun _=>sE fun _=>sE fun _=>sE fun _=>sE fun _=>sE fun _=>sE fun _=>zE fun _=>run_eq 400 hH hB (h _ _ _ _ _ _ _ _)
abbrev IG7 (H:FuncId->Option (List AV->Mem->R)) (g:List AV->CM) (k:Nat):Prop:=∀(u v w x y z u6:AV) (m:Mem),(Rl H).gor k [u,v,w,x,y,z,u6] m=q0i (Rl H) (g [u,v,w,x,y,z,u6]) m
theorem gk7 {F:AV->AV->AV->AV->AV->AV->AV->CM} (h:∀(u v w x y z u6:AV) (m:Mem),goC (EH H) (run (EH H)) (.fn (q1l (EH H) (k / 4096))) (go (EH H) (.fn (q1l (EH H) (k / 4096)))) 400 (kAt (EH H) (k / 4096) (k % 4096)) (spread (Mk k) [u,v,w,x,y,z,u6]) m=q0i (Rl H) (F u v w x y z u6) m):IG7 H (a7 F) k:=fun u v w x y z u6 m=>q17 400 (h u v w x y z u6 m)
noncomputable abbrev a8 (F:AV->AV->AV->AV->AV->AV->AV->AV->CM):List AV->CM:=apS fun u=>apS fun v=>apS fun w=>apS fun x=>apS fun y=>apS fun z=>apS fun u6=>apS fun u7=>ap0 (F u v w x y z u6 u7)
abbrev IG8 (H:FuncId->Option (List AV->Mem->R)) (g:List AV->CM) (k:Nat):Prop:=∀(u v w x y z u6 u7:AV) (m:Mem),(Rl H).gor k [u,v,w,x,y,z,u6,u7] m=q0i (Rl H) (g [u,v,w,x,y,z,u6,u7]) m
theorem gk8 {F:AV->AV->AV->AV->AV->AV->AV->AV->CM} (h:∀(u v w x y z u6 u7:AV) (m:Mem),goC (EH H) (run (EH H)) (.fn (q1l (EH H) (k / 4096))) (go (EH H) (.fn (q1l (EH H) (k / 4096)))) 400 (kAt (EH H) (k / 4096) (k % 4096)) (spread (Mk k) [u,v,w,x,y,z,u6,u7]) m=q0i (Rl H) (F u v w x y z u6 u7) m):IG8 H (a8 F) k:=fun u v w x y z u6 u7 m=>q17 400 (h u v w x y z u6 u7 m)
noncomputable abbrev a9 (F:AV->AV->AV->AV->AV->AV->AV->AV->AV->CM):List AV->CM:=apS fun u=>apS fun v=>apS fun w=>apS fun x=>apS fun y=>apS fun z=>apS fun u6=>apS fun u7=>apS fun u8=>ap0 (F u v w x y z u6 u7 u8)
theorem e9 {F:AV->AV->AV->AV->AV->AV->AV->AV->AV->CM} (hH:H k=none) (hB:((EH H).B k).isSome=true) (h:∀(u v w x y z u6 u7 u8:AV) (m:Mem),goC (EH H) (run (EH H)) (.fn (q1l (EH H) k)) (go (EH H) (.fn (q1l (EH H) k))) 400 [.code (codeOf (EH H) k)] ([u,v,w,x,y,z,u6,u7,u8]++List.replicate (z1q (EH H) k-List.length ([u,v,w,x,y,z,u6,u7,u8]:List AV)) .undef) m=q0i (Rl H) (F u v w x y z u6 u7 u8) m):OkF H (a9 F) k:=sE fun _=>sE fun _=>sE fun _=>sE fun _=>sE fun _=>sE fun _=>sE fun _=>sE fun _=>sE fun _=>zE fun _=>run_eq 400 hH hB (h _ _ _ _ _ _ _ _ _ _)
abbrev IG9 (H:FuncId->Option (List AV->Mem->R)) (g:List AV->CM) (k:Nat):Prop:=∀(u v w x y z u6 u7 u8:AV) (m:Mem),(Rl H).gor k [u,v,w,x,y,z,u6,u7,u8] m=q0i (Rl H) (g [u,v,w,x,y,z,u6,u7,u8]) m
theorem gk9 {F:AV->AV->AV->AV->AV->AV->AV->AV->AV->CM} (h:∀(u v w x y z u6 u7 u8:AV) (m:Mem),goC (EH H) (run (EH H)) (.fn (q1l (EH H) (k / 4096))) (go (EH H) (.fn (q1l (EH H) (k / 4096)))) 400 (kAt (EH H) (k / 4096) (k % 4096)) (spread (Mk k) [u,v,w,x,y,z,u6,u7,u8]) m=q0i (Rl H) (F u v w x y z u6 u7 u8) m):IG9 H (a9 F) k:=fun u v w x y z u6 u7 u8 m=>q17 400 (h u v w x y z u6 u7 u8 m)
noncomputable abbrev a10 (F:AV->AV->AV->AV->AV->AV->AV->AV->AV->AV->CM):List AV->CM:=apS fun u=>apS fun v=>apS fun w=>apS fun x=>apS fun y=>apS fun z=>apS fun u6=>apS fun u7=>apS fun u8=>apS fun u9=>ap0 (F u v w x y z u6 u7 u8 u9)
abbrev a7Y (H:FuncId->Option (List AV->Mem->R)) (g:List AV->CM) (k:Nat):Prop:=∀(u v w x y z u6 u7 u8 u9:AV) (m:Mem),(Rl H).gor k [u,v,w,x,y,z,u6,u7,u8,u9] m=q0i (Rl H) (g [u,v,w,x,y,z,u6,u7,u8,u9]) m
theorem a9k {F:AV->AV->AV->AV->AV->AV->AV->AV->AV->AV->CM} (h:∀(u v w x y z u6 u7 u8 u9:AV) (m:Mem),goC (EH H) (run (EH H)) (.fn (q1l (EH H) (k / 4096))) (go (EH H) (.fn (q1l (EH H) (k / 4096)))) 400 (kAt (EH H) (k / 4096) (k % 4096)) (spread (Mk k) [u,v,w,x,y,z,u6,u7,u8,u9]) m=q0i (Rl H) (F u v w x y z u6 u7 u8 u9) m):a7Y H (a10 F) k:=fun u v w x y z u6 u7 u8 u9 m=>q17 400 (h u v w x y z u6 u7 u8 u9 m)
end
end
section
open Go Go.Abs Go.Proofs.YtlginbmjiecglaaGreatDoor
set_option maxRecDepth 10000
noncomputable section
variable {H:FuncId->Option (List AV->Mem->R)}
def a8k:List AV->CM:=a2 fun a b=>zl 28 b fun c=>zk 8 [c] fun c=>za [z0,z0,z0,z2] fun d=>zs d c 4<|zl 28 b fun c=>zk 11 [c,a] fun c=>zl 28 d fun e=>zk 12 [e,a] fun e=>ze 0 e fun f=>ze 1 e fun e=>zk 13 [] fun g=>zu g fun g=>zI g ( zR (.bool false)) ( zl 28 d fun g=>zk 14 [g,a] fun a=>zb .neq 4 a c fun a=>zI a ( zR (.bool false)) ( zb .eql 35 e z1 fun a=>zb .neq 4 a c fun a=>zI a ( zR (.bool false)) ( zb .neq 34 f (.ptr none) fun a=>zb .neq 4 a c fun a=>zI a ( zR (.bool false)) ( zl 28 d fun a=>zl 28 b fun d=>zk 15 [a,d] fun a=>zu a fun a=>zC a ( zR (.bool false)) ( zg 12289 [b,c,f,e])))))
def a8l:List AV->CM:=a4 fun a b c d=>zu b fun e=>zI e ( zb .eql 35 d z4 fun d=>zI d ( zR (.bool true)) ( zI b ( zm fun d=>zk 16 [c] fun e=>zl 28 a fun f=>zx 28 a d f<|zk 15 [e,f] fun d=>zR d) ( zR (.bool false)))) ( zI b ( zm fun b=>zk 16 [c] fun c=>zl 28 a fun d=>zx 28 a b d<|zk 15 [c,d] fun a=>zR a) ( zR (.bool false)))
def f3:List AV->CM:=a6 fun a b c d e f=>zo b fun b=>zl 28 b fun g=>za [z0,z0,z0,z2] fun h=>zs h g 4<|zC f ( zm fun f=>zk 9 [a,(.int .i64 8)] fun a=>zm fun g=>zk 8 [a] fun a=>zl 28 b fun i=>zx 28 b g i<|zx 28 b f i<|zk 7 [a,i,c,d] fun a=>zs h a 4<|zk 10 [e,(.int .i64 9)] fun a=>zb .add 3 z4 a fun a=>zg 12288 [a,h]) ( zg 12288 [e,h])
def a8m:List AV->CM:=a5 fun a b c d e=>zb .eql 3 e z4 fun e=>zC e ( zk 10 [a,(.int .i64 22)] fun e=>zb .sub 3 e z4 fun e=>zn d fun f=>zf 56 1 f fun f=>zs f e 1<|zg 28681 [b,c]) ( zk 10 [a,(.int .i64 4)] fun a=>zi 70 (.ptr (some ⟨0,0⟩)) a fun a=>zl 9 a fun a=>zn d fun d=>zf 56 0 d fun d=>zs d a 1<|zg 28681 [b,c])
def a4Q:List AV->CM:=a6 fun a b c d e f=>zb .lss 3 f (.int .i64 7) fun g=>zI g ( zf 28 2 b fun g=>zl 25 g fun g=>zt 25 g fun g=>zb .gtr 3 g z1 fun g=>zC g ( zf 28 2 b fun g=>zl 25 g fun h=>zf 28 2 b fun i=>zl 25 i fun i=>zt 25 i fun i=>zk 10 [a,i] fun i=>zm fun j=>zx 25 g j h<|zi 25 h i fun g=>zb .eql 3 f (.int .i64 3) fun h=>zC h ( zl 43 e fun h=>zn g fun i=>zf 54 2 i fun i=>zs i h 2<|zg 28681 [b,d]) ( zg 28674 [a,b,d,g,f])) ( zg 28676 [a,b,c,d,e,f])) ( zg 28676 [a,b,c,d,e,f])
def a8n:List AV->CM:=a5 fun a b c d e=>zb .eql 3 e (.int .i64 4) fun f=>zC f ( zk 10 [a,(.int .i64 8)] fun f=>zc 3 26 f fun f=>zn d fun g=>zf 54 0 g fun g=>zs g f 1<|zg 28681 [b,c]) ( zg 28675 [a,b,c,d,e])
def a8o:List AV->CM:=a5 fun a b c d e=>zb .eql 3 e (.int .i64 5) fun e=>zC e ( zk 10 [a,(.int .i64 4)] fun a=>zi 70 (.ptr (some ⟨0,0⟩)) a fun a=>zl 9 a fun a=>zn d fun e=>zf 54 1 e fun e=>zs e a 1<|zg 28681 [b,c]) ( CM.al (some (.cells [] false,sB 4 0)) fun a=>zf 28 2 b fun e=>zl 25 e fun e=>zm fun f=>CM.ef (apE 4 40 a e) fun a=>zn d fun d=>zl 54 d fun e=>zx 54 d f e<|CM.al (bsA 4 1 [z2,z3,z1,z2] [(0,e)]) fun d=>CM.ef (apE 4 40 a d) fun a=>zf 28 2 b fun d=>zs d a 1<|zg 28681 [b,c])
def a4R:List AV->CM:=a6 fun a b c d e f=>zb .lss 3 f (.int .i64 11) fun g=>zI g ( zf 28 1 b fun g=>zl 24 g fun g=>zt 24 g fun g=>zb .gtr 3 g z1 fun g=>zC g ( zf 28 1 b fun g=>zl 24 g fun h=>zf 28 1 b fun i=>zl 24 i fun i=>zt 24 i fun i=>zk 10 [a,i] fun i=>zm fun j=>zx 24 g j h<|zi 24 h i fun g=>zb .eql 3 f (.int .i64 7) fun h=>zC h ( zl 43 e fun h=>zn g fun i=>zf 74 3 i fun i=>zs i h 2<|zg 28681 [b,d]) ( zg 28677 [a,b,d,e,g,f])) ( zg 28679 [a,b,c,d,f])) ( zg 28679 [a,b,c,d,f])
def a8p:List AV->CM:=a6 fun a b c d e f=>zb .eql 3 f (.int .i64 8) fun g=>zC g ( zk 26 [a] fun g=>zn e fun h=>zf 74 2 h fun h=>zs h g 3<|zg 28681 [b,c]) ( zg 28678 [a,b,c,d,e,f])
def a8q:List AV->CM:=a6 fun a b c d e f=>zb .eql 3 f (.int .i64 9) fun f=>zC f ( zk 10 [a,(.int .i64 4)] fun a=>zi 70 (.ptr (some ⟨0,0⟩)) a fun a=>zl 9 a fun a=>zn e fun f=>zf 74 1 f fun f=>zs f a 1<|zg 28681 [b,c]) ( zl 43 d fun a=>zn e fun d=>zf 74 4 d fun d=>zs d a 2<|zg 28681 [b,c])
def a8r:List AV->CM:=a5 fun a b c d e=>zb .eql 3 e (.int .i64 11) fun f=>zC f ( zf 28 3 c fun c=>zl 26 c fun c=>zf 28 3 b fun f=>zs f c 1<|zg 28681 [b,d]) ( zg 28680 [a,b,d,e])
def a8s:List AV->CM:=a4 fun a b c d=>zb .eql 3 d (.int .i64 12) fun d=>zC d ( zk 10 [a,(.int .i64 6)] fun a=>zc 3 26 a fun a=>zf 28 3 b fun d=>zs d a 1<|zg 28681 [b,c]) ( zg 28681 [b,c])
def a9h:List AV->CM:=a2 fun a b=>zl 28 a fun a=>zs b a 4<|zr [.cell 0 28] [b]
def f7:List AV->CM:=a4 fun a b c d=>zo a fun a=>zo b fun b=>za [z0,z0,z0,z2] fun e=>zk 10 [d,(.int .i64 5)] fun f=>zb .sub 3 f (.int .i64 2) fun f=>zb .quo 3 d (.int .i64 5) fun g=>zk 10 [g,(.int .i64 9)] fun g=>zc 3 26 g fun g=>zd 43 [(0,f),(1,g)] fun f=>za [z1,z2] fun g=>zs g f 2<|zk 10 [c,(.int .i64 14)] fun c=>zb .lss 3 c (.int .i64 3) fun f=>zI f ( zf 28 0 a fun f=>zl 23 f fun f=>zt 23 f fun f=>zb .gtr 3 f z1 fun f=>zC f ( zf 28 0 a fun f=>zl 23 f fun h=>zf 28 0 a fun i=>zl 23 i fun i=>zt 23 i fun i=>zk 10 [d,i] fun i=>zm fun j=>zx 23 f j h<|zi 23 h i fun f=>zb .eql 3 c z1 fun h=>zC h ( zl 43 g fun h=>zn f fun i=>zf 56 2 i fun i=>zs i h 2<|zg 28681 [a,e]) ( zg 28672 [d,a,e,f,c])) ( zg 28673 [d,a,b,e,g,c])) ( zg 28673 [d,a,b,e,g,c])
def f8:List AV->CM:=a1 fun a=>zo a fun a=>za [z0,z0,z0,z2] fun b=>CM.al (some (.cells [] false,sB 4 0)) fun c=>zf 28 0 a fun d=>zl 23 d fun d=>CM.ef (apE 4 40 c d) fun c=>zf 28 0 a fun d=>zs d c 1<|CM.al (some (.cells [] false,sB 9 0)) fun c=>zf 28 1 a fun d=>zl 24 d fun d=>CM.ef (apE 9 88 c d) fun c=>zf 28 1 a fun d=>zs d c 1<|CM.al (some (.cells [] false,sB 4 0)) fun c=>zf 28 2 a fun d=>zl 25 d fun d=>CM.ef (apE 4 40 c d) fun c=>zf 28 2 a fun d=>zs d c 1<|zl 28 a fun a=>zs b a 4<|zr [.cell 0 28] [b]
def a5u:List AV->CM:=a4 fun a b c d=>zt 22 a fun e=>zb .lss 3 d e fun e=>zI e ( zb .lss 3 d (.int .i64 60) fun e=>zC e ( zg 36865 [a,b,c,d]) ( zg 36867 [b,c])) ( zg 36867 [b,c])
abbrev z9f (a:AV) (b:AV) (c:AV) (d:AV) (e:AV) (f:AV) (g:AV) (h:AV):CM:=
 zb .eql 3 a (.int .i64 5) fun i=>zC i ( zf 77 3 b fun i=>zl 3 i fun i=>zk 30 [c,d,i] fun i=>zk 31 [c,d,i] fun _=>zg 36866 [e,f,c,g]) ( zb .eql 3 a (.int .i64 6) fun i=>zC i ( zf 77 3 b fun i=>zl 3 i fun i=>zk 30 [c,d,i] fun i=>zk 32 [c,d,h,i] fun _=>zg 36866 [e,f,c,g]) ( zb .eql 3 a (.int .i64 7) fun a=>zC a ( zf 77 1 b fun a=>zl 3 a fun a=>zm fun i=>zk 10 [a,(.int .i64 3)] fun a=>zi 79 (.ptr (some ⟨1,0⟩)) a fun a=>zl 9 a fun j=>zf 77 2 b fun k=>zl 3 k fun l=>zx 3 k i l<|zm fun k=>zk 10 [l,(.int .i64 3)] fun l=>zm fun m=>zx 9 a m j<|zi 79 (.ptr (some ⟨1,0⟩)) l fun l=>zl 9 l fun m=>zf 77 3 b fun n=>zl 3 n fun o=>zx 3 n k o<|zx 3 n i o<|zk 26 [o] fun i=>zm fun k=>zx 9 l k m<|zx 9 a k j<|zk 33 [c,j,m,i] fun _=>zg 36866 [e,f,c,g]) ( zf 77 3 b fun a=>zl 3 a fun a=>zk 30 [c,d,a] fun a=>zk 34 [c,d,h,a] fun _=>zg 36866 [e,f,c,g])))
abbrev z9g (a:AV) (b:AV) (c:AV) (d:AV) (e:AV) (f:AV) (g:AV) (h:AV):CM:=
 zb .eql 3 a (.int .i64 3) fun i=>zC i ( zC i ( zf 77 3 b fun i=>zl 3 i fun i=>zk 30 [c,d,i] fun i=>zk 29 [c,d,i] fun _=>zg 36866 [e,f,c,g]) (
 z9f a b c d e f g h)) ( zb .eql 3 a (.int .i64 4) fun i=>zC i ( zf 77 3 b fun i=>zl 3 i fun i=>zk 30 [c,d,i] fun i=>zk 29 [c,d,i] fun _=>zg 36866 [e,f,c,g]) (
 z9f a b c d e f g h))
def j01:List AV->CM:=a4 fun a b c d=>zi 22 a d fun e=>zl 77 e fun e=>za [z1,z1,z1,z1] fun f=>zs f e 4<|zf 77 1 f fun e=>zl 3 e fun e=>zk 10 [e,(.int .i64 5)] fun e=>zb .add 3 z4 e fun e=>zc 3 26 e fun e=>zf 77 2 f fun g=>zl 3 g fun g=>zk 10 [g,(.int .i64 5)] fun g=>zb .add 3 z4 g fun g=>zc 3 26 g fun g=>zf 77 0 f fun h=>zl 3 h fun h=>zk 10 [h,(.int .i64 9)] fun h=>zb .eql 3 h z1 fun i=>zC i ( zf 77 1 f fun i=>zl 3 i fun i=>zm fun j=>zk 10 [i,(.int .i64 3)] fun i=>zi 79 (.ptr (some ⟨1,0⟩)) i fun i=>zl 9 i fun k=>zf 77 3 f fun l=>zl 3 l fun m=>zx 3 l j m<|zk 10 [m,(.int .i64 4)] fun j=>zm fun l=>zx 9 i l k<|zc 3 26 j fun i=>zk 27 [c,k,i] fun _=>zg 36866 [a,b,c,d]) ( zb .eql 3 h z4 fun i=>zC i ( zC i ( zf 77 1 f fun i=>zl 3 i fun i=>zk 10 [i,(.int .i64 3)] fun i=>zi 79 (.ptr (some ⟨1,0⟩)) i fun i=>zl 9 i fun i=>zk 28 [c,i] fun _=>zg 36866 [a,b,c,d]) (
 z9g h f c e a b d g)) ( zb .eql 3 h (.int .i64 2) fun i=>zC i ( zf 77 1 f fun i=>zl 3 i fun i=>zk 10 [i,(.int .i64 3)] fun i=>zi 79 (.ptr (some ⟨1,0⟩)) i fun i=>zl 9 i fun i=>zk 28 [c,i] fun _=>zg 36866 [a,b,c,d]) (
 z9g h f c e a b d g)))
def a9i:List AV->CM:=a4 fun a b c d=>zb .add 3 d z4 fun d=>zg 36864 [a,b,c,d]
def a9j:List AV->CM:=a2 fun a b=>zn b fun b=>zf 61 0 b fun b=>zl 28 b fun b=>zs a b 4<|zr [.cell 0 28] [a]
def f9:List AV->CM:=a2 fun a b=>za [z0,z0,z0,z2] fun c=>zd 61 [(1,b)] fun b=>zo b fun b=>zg 36864 [a,c,b,z1]
def j73:List AV->CM:=a1 fun a=>zR a
def f10:List AV->CM:=a2 fun a b=>zb .rem 3 a b fun a=>zb .lss 3 a z1 fun c=>zC c ( zb .add 3 a b fun b=>zg 40960 [b]) ( zg 40960 [a])
def a3p:List AV->CM:=a2 fun a b=>zg 45057 [a,b,z1]
def j74:List AV->CM:=a3 fun a b c=>zf 28 0 a fun d=>zl 23 d fun d=>zt 23 d fun d=>zb .lss 3 c d fun d=>zC d ( zg 45058 [a,b,c]) ( zg 45060 [a,b])
def z1R:List AV->CM:=a3 fun a b c=>zf 28 0 a fun d=>zl 23 d fun d=>zi 23 d c fun d=>zl 56 d fun d=>za [z3,z1,z1,z2] fun e=>zs e d 4<|zf 56 0 e fun d=>zl 9 d fun d=>zk 35 [d] fun d=>zu d fun d=>zI d ( zR (.bool false)) ( zf 56 1 e fun d=>zl 3 d fun d=>zb .lss 3 d z1 fun d=>zI d ( zR (.bool false)) ( zf 56 1 e fun d=>zl 3 d fun d=>zb .gtr 3 d (.int .i64 18) fun d=>zI d ( zR (.bool false)) ( zb .gtr 3 c z1 fun d=>zI d ( zf 28 0 a fun d=>zl 23 d fun d=>zb .sub 3 c z4 fun f=>zi 23 d f fun d=>zf 56 0 d fun d=>zl 9 d fun d=>zf 56 0 e fun e=>zl 9 e fun e=>zb .geq 9 d e fun d=>zC d ( zR (.bool false)) ( zg 45059 [a,b,c])) ( zg 45059 [a,b,c]))))
def a3q:List AV->CM:=a3 fun a b c=>zb .add 3 c z4 fun c=>zg 45057 [a,b,c]
def a3r:List AV->CM:=a2 fun a b=>zg 45061 [a,b,z1]
def j75:List AV->CM:=a3 fun a b c=>zf 28 1 a fun d=>zl 24 d fun d=>zt 24 d fun d=>zb .lss 3 c d fun d=>zC d ( zg 45062 [a,b,c]) ( zg 45065 [a,b])
def q8G:List AV->CM:=a3 fun a b c=>zf 28 1 a fun d=>zl 24 d fun d=>zi 24 d c fun d=>zl 74 d fun d=>za [z3,z3,z1,z2,z1,z1,z2,z1,z2] fun e=>zs e d 9<|zf 74 0 e fun d=>zl 9 d fun d=>zk 36 [b,d] fun d=>zb .lss 3 d z1 fun d=>zI d ( zR (.bool false)) ( zf 74 1 e fun d=>zl 9 d fun d=>zk 36 [b,d] fun d=>zb .lss 3 d z1 fun d=>zI d ( zR (.bool false)) ( zf 74 0 e fun d=>zl 9 d fun d=>zf 74 1 e fun f=>zl 9 f fun f=>zb .eql 9 d f fun d=>zI d ( zR (.bool false)) ( zf 74 2 e fun d=>zl 45 d fun d=>zk 37 [d] fun d=>zb .neq 35 d z1 fun d=>zI d ( zR (.bool false)) ( zf 74 3 e fun d=>zf 43 0 d fun d=>zl 2 d fun d=>zb .lss 2 d z1 fun d=>zI d ( zR (.bool false)) ( zf 74 4 e fun d=>zf 43 0 d fun d=>zl 2 d fun d=>zb .geq 2 d z1 fun d=>zI d ( zf 74 4 e fun d=>zl 43 d fun d=>zd 43 [] fun f=>zb .neq 43 d f fun d=>zC d ( zR (.bool false)) ( zg 45063 [a,b,c,e])) ( zg 45063 [a,b,c,e]))))))
def z4T:List AV->CM:=a4 fun a b c d=>zb .gtr 3 c z1 fun e=>zI e ( zf 28 1 a fun e=>zl 24 e fun e=>zb .sub 3 c z4 fun f=>zi 24 e f fun e=>zf 74 0 e fun e=>zl 9 e fun e=>zf 74 0 d fun f=>zl 9 f fun f=>zb .gtr 9 e f fun e=>zI e ( zR (.bool false)) ( zf 28 1 a fun e=>zl 24 e fun e=>zb .sub 3 c z4 fun f=>zi 24 e f fun e=>zf 74 0 e fun e=>zl 9 e fun e=>zf 74 0 d fun f=>zl 9 f fun f=>zb .eql 9 e f fun e=>zI e ( zf 28 1 a fun e=>zl 24 e fun e=>zb .sub 3 c z4 fun f=>zi 24 e f fun e=>zf 74 1 e fun e=>zl 9 e fun e=>zf 74 1 d fun d=>zl 9 d fun d=>zb .geq 9 e d fun d=>zC d ( zR (.bool false)) ( zg 45064 [a,b,c])) ( zg 45064 [a,b,c]))) ( zg 45064 [a,b,c])
def a3s:List AV->CM:=a3 fun a b c=>zb .add 3 c z4 fun c=>zg 45061 [a,b,c]
def a3t:List AV->CM:=a2 fun a b=>zg 45066 [a,b,z1]
def z7G:List AV->CM:=a3 fun a b c=>zf 28 2 a fun d=>zl 25 d fun d=>zt 25 d fun d=>zb .lss 3 c d fun d=>zC d ( zg 45067 [a,b,c]) ( zg 45069 [a])
def q51:List AV->CM:=a3 fun a b c=>zf 28 2 a fun d=>zl 25 d fun d=>zi 25 d c fun d=>zl 54 d fun d=>za [z2,z3,z1,z2] fun e=>zs e d 4<|zf 54 0 e fun d=>zl 26 d fun d=>zb .lss 26 d (.int .u64 1) fun d=>zI d ( zR (.bool false)) ( zf 54 0 e fun d=>zl 26 d fun d=>zf 28 3 a fun f=>zl 26 f fun f=>zb .gtr 26 d f fun d=>zI d ( zR (.bool false)) ( zf 54 1 e fun d=>zl 9 d fun d=>zk 36 [b,d] fun d=>zb .lss 3 d z1 fun d=>zI d ( zR (.bool false)) ( zf 54 2 e fun d=>zf 43 0 d fun d=>zl 2 d fun d=>zb .lss 2 d z1 fun d=>zI d ( zR (.bool false)) ( zb .gtr 3 c z1 fun d=>zI d ( zf 28 2 a fun d=>zl 25 d fun d=>zb .sub 3 c z4 fun f=>zi 25 d f fun d=>zf 54 0 d fun d=>zl 26 d fun d=>zf 54 0 e fun e=>zl 26 e fun e=>zb .geq 26 d e fun d=>zC d ( zR (.bool false)) ( zg 45068 [a,b,c])) ( zg 45068 [a,b,c])))))
def j5L:List AV->CM:=a3 fun a b c=>zb .add 3 c z4 fun c=>zg 45066 [a,b,c]
def j5M:List AV->CM:=a1 fun a=>zl 28 a fun a=>zk 25 [a] fun a=>zR a
def f11:List AV->CM:=a2 fun a b=>zo a fun a=>zl 28 a fun c=>zd 61 [(0,c),(1,b)] fun c=>zo c fun c=>zb .lss 3 b z4 fun d=>zI d ( zR (.bool false)) ( zb .gtr 3 b (.int .i64 64) fun d=>zI d ( zR (.bool false)) ( zf 28 0 a fun d=>zl 23 d fun d=>zt 23 d fun d=>zb .gtr 3 d (.int .i64 8) fun d=>zI d ( zR (.bool false)) ( zf 28 2 a fun d=>zl 25 d fun d=>zt 25 d fun d=>zb .gtr 3 d b fun b=>zI b ( zR (.bool false)) ( zf 28 3 a fun b=>zl 26 b fun b=>zb .gtr 26 b (.int .u64 72057594037927935) fun b=>zC b ( zR (.bool false)) ( zg 45056 [a,c])))))
def a3u:List AV->CM:=a2 fun a b=>zk 38 [a] fun a=>ze 0 a fun c=>ze 1 a fun a=>zb .neq 35 a z1 fun d=>zC d ( zR (.tup [(.ptr none),a])) ( zg 49153 [b,c])
def a3v:List AV->CM:=a2 fun a b=>zf 28 0 a fun c=>zl 23 c fun c=>zt 23 c fun d=>zg 49154 [a,b,c,d,z1]
def j76:List AV->CM:=a5 fun a b c d e=>zb .lss 3 e d fun f=>zC f ( zg 49155 [a,b,c,d,e]) ( zg 49157 [a,b])
def a3w:List AV->CM:=a5 fun a b c d e=>zi 23 c e fun f=>zl 56 f fun f=>za [z3,z1,z1,z2] fun g=>zs g f 4<|zn b fun f=>zf 94 1 f fun f=>zl 90 f fun f=>zf 56 0 g fun h=>zl 9 h fun h=>zl 56 g fun g=>zk 39 [f,h,g] fun _=>zg 49156 [a,b,c,d,e]
def a3x:List AV->CM:=a5 fun a b c d e=>zb .add 3 e z4 fun e=>zg 49154 [a,b,c,d,e]
def a3y:List AV->CM:=a2 fun a b=>zf 28 1 a fun c=>zl 24 c fun c=>zt 24 c fun d=>zg 49158 [a,b,c,d,z1]
def j77:List AV->CM:=a5 fun a b c d e=>zb .lss 3 e d fun f=>zC f ( zg 49159 [a,b,c,d,e]) ( zg 49161 [a,b])
def a3z:List AV->CM:=a5 fun a b c d e=>zi 24 c e fun f=>zl 74 f fun f=>za [z3,z3,z1,z2,z1,z1,z2,z1,z2] fun g=>zs g f 9<|zn b fun f=>zf 94 2 f fun f=>zl 91 f fun f=>zf 74 0 g fun h=>zl 9 h fun h=>zf 74 1 g fun i=>zl 9 i fun i=>zb .add 9 h i fun h=>zl 74 g fun g=>zk 40 [f,h,g] fun _=>zg 49160 [a,b,c,d,e]
def a3A:List AV->CM:=a5 fun a b c d e=>zb .add 3 e z4 fun e=>zg 49158 [a,b,c,d,e]
def a3B:List AV->CM:=a2 fun a b=>zf 28 2 a fun c=>zl 25 c fun c=>zt 25 c fun d=>zg 49162 [a,b,c,d,z1]
def z7J:List AV->CM:=a5 fun a b c d e=>zb .lss 3 e d fun f=>zC f ( zg 49163 [a,b,c,d,e]) ( zg 49165 [a,b])
def j5N:List AV->CM:=a5 fun a b c d e=>zi 25 c e fun f=>zl 54 f fun f=>za [z2,z3,z1,z2] fun g=>zs g f 4<|zn b fun f=>zf 94 3 f fun f=>zl 92 f fun f=>zf 54 0 g fun h=>zl 26 h fun h=>zl 54 g fun g=>zk 41 [f,h,g] fun _=>zg 49164 [a,b,c,d,e]
def j5O:List AV->CM:=a5 fun a b c d e=>zb .add 3 e z4 fun e=>zg 49162 [a,b,c,d,e]
def j5P:List AV->CM:=a2 fun a b=>zf 28 3 a fun a=>zl 26 a fun a=>zn b fun c=>zf 94 4 c fun c=>zs c a 1<|zR (.tup [b,z1])
def f12:List AV->CM:=a2 fun a b=>zo a fun a=>zl 28 a fun c=>zk 14 [c,b] fun c=>zu c fun c=>zC c ( zR (.tup [(.ptr none),z4])) ( zg 49152 [b,a])
def a3C:List AV->CM:=a1 fun a=>zk 42 [a,(.str [69,85,82]),(.int .u64 2)] fun b=>zk 42 [a,(.str [69,85,82]),(.int .u64 2)] fun c=>zk 43 [a,(.str [69,85,82])] fun d=>ze 0 d fun e=>ze 1 d fun d=>zk 43 [a,(.str [85,83,68])] fun f=>ze 0 f fun _=>ze 1 f fun f=>zk 18 [(.int .i64 1000),(.int .i64 2)] fun g=>zk 44 [a,(.int .u64 1),g] fun g=>zk 45 [a,(.str [69,85,82])] fun a=>ze 0 a fun h=>ze 1 a fun a=>za [z1,z2,z1] fun i=>zs i h 3<|zb .eql 35 b z1 fun b=>zI b ( zb .eql 35 c (.int .i64 45) fun b=>zI b ( zb .eql 26 e (.int .u64 1) fun b=>zI b ( zb .eql 35 d z1 fun b=>zI b ( zb .eql 35 f (.int .i64 41) fun b=>zI b ( zb .eql 35 g z1 fun b=>zI b ( zb .eql 35 a z1 fun a=>zI a ( zl 45 i fun a=>zk 18 [(.int .i64 (-1000)),(.int .i64 2)] fun b=>zm fun c=>zx 45 i c a<|zb .eql 45 a b fun a=>zR a) ( zR (.bool false))) ( zR (.bool false))) ( zR (.bool false))) ( zR (.bool false))) ( zR (.bool false))) ( zR (.bool false))) ( zR (.bool false))
theorem j1N:OkG H a3C 53248:=c1 fun _ _=>by kernel_rfl
def f13:List AV->CM:=a0<|zk 38 [(.int .i64 4)] fun a=>ze 0 a fun b=>ze 1 a fun a=>zb .neq 35 a z1 fun a=>zI a ( zR (.bool false)) ( zb .eql 34 b (.ptr none) fun a=>zC a ( zR (.bool false)) ( zg 53248 [b]))
theorem a1D (h:H 13=none):OkF H f13 13:=e0 h rfl fun _=>by kernel_rfl
def a3D:List AV->CM:=a1 fun a=>zf 28 0 a fun b=>zl 23 b fun b=>zt 23 b fun c=>zg 57345 [a,b,c,z1]
def j78:List AV->CM:=a4 fun a b c d=>zb .lss 3 d c fun e=>zC e ( zg 57346 [a,b,c,d]) ( zg 57348 [a])
def q8H:List AV->CM:=a4 fun a b c d=>zi 23 b d fun e=>zl 56 e fun e=>za [z3,z1,z1,z2] fun f=>zs f e 4<|zf 56 0 f fun e=>zl 9 e fun e=>zk 46 [e] fun e=>zu e fun e=>zI e ( zR (.bool false)) ( zb .gtr 3 d z1 fun e=>zI e ( zf 28 0 a fun e=>zl 23 e fun e=>zb .sub 3 d z4 fun g=>zi 23 e g fun e=>zf 56 0 e fun e=>zl 9 e fun e=>zf 56 0 f fun g=>zl 9 g fun g=>zb .geq 9 e g fun e=>zI e ( zR (.bool false)) ( zf 56 1 f fun e=>zl 3 e fun e=>zb .lss 3 e z1 fun e=>zI e ( zR (.bool false)) ( zf 56 1 f fun e=>zl 3 e fun e=>zb .gtr 3 e (.int .i64 18) fun e=>zC e ( zR (.bool false)) ( zg 57347 [a,b,c,d])))) ( zf 56 1 f fun e=>zl 3 e fun e=>zb .lss 3 e z1 fun e=>zI e ( zR (.bool false)) ( zf 56 1 f fun e=>zl 3 e fun e=>zb .gtr 3 e (.int .i64 18) fun e=>zC e ( zR (.bool false)) ( zg 57347 [a,b,c,d]))))
def a3E:List AV->CM:=a4 fun a b c d=>zb .add 3 d z4 fun d=>zg 57345 [a,b,c,d]
def j1Q:List AV->CM:=a1 fun a=>zl 28 a fun b=>zk 47 [b] fun b=>zu b fun b=>zI b ( zR (.bool false)) ( zl 28 a fun b=>zk 48 [b] fun b=>zu b fun b=>zC b ( zR (.bool false)) ( zg 57349 [a]))
def a3F:List AV->CM:=a1 fun a=>zf 28 0 a fun b=>zl 23 b fun b=>zt 23 b fun c=>zg 57350 [a,b,c,z1]
def j1S:List AV->CM:=a4 fun a b c d=>zb .lss 3 d c fun e=>zC e ( zg 57351 [a,b,c,d]) ( zg 57353 [])
def j79:List AV->CM:=a4 fun a b c d=>zi 23 b d fun e=>zl 56 e fun e=>za [z3,z1,z1,z2] fun f=>zs f e 4<|zl 28 a fun e=>zl 56 f fun f=>zk 49 [e,f] fun e=>zu e fun e=>zC e ( zR (.bool false)) ( zg 57352 [a,b,c,d])
def a3G:List AV->CM:=a4 fun a b c d=>zb .add 3 d z4 fun d=>zg 57350 [a,b,c,d]
def a3H:List AV->CM:=a0<|zR (.bool true)
def f14:List AV->CM:=a2 fun a b=>zo a fun a=>zb .lss 3 b z4 fun c=>zI c ( zR (.bool false)) ( zb .gtr 3 b (.int .i64 64) fun c=>zI c ( zR (.bool false)) ( zf 28 0 a fun c=>zl 23 c fun c=>zt 23 c fun c=>zb .gtr 3 c (.int .i64 8) fun c=>zI c ( zR (.bool false)) ( zf 28 2 a fun c=>zl 25 c fun c=>zt 25 c fun c=>zb .gtr 3 c b fun b=>zC b ( zR (.bool false)) ( zg 57344 [a]))))
end
end
end Go.Proofs.YtlginbmjiecglaaGreatDoor.T
