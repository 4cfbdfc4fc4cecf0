/- Texts of one claim, put together. -/
import Derived.Test.YtlginbmjiecglaaGreatDoorQ8
namespace Go.Proofs.YtlginbmjiecglaaGreatDoor.T
section
open Go Go.Abs Go.Proofs.YtlginbmjiecglaaGreatDoor
set_option maxRecDepth 10000
noncomputable abbrev EH (H:FuncId->Option (List AV->Mem->R)):Env:=z7q Tryz.prog hints H
def nl (k a b:Nat):BT (List Bool):=.node k (bM a b) .leaf .leaf
def nd (k a b:Nat) (l r:BT (List Bool)):BT (List Bool):=.node k (bM a b) l r
def mt:BT (List Bool):=(nd 200712 54 32
(nd 102412 97 0
(nd 61443 94 44
(nd 49160 83 61572651155524
(nd 36867 125 48
(nd 24579 87 1669
(nd 24577 87 1669
(nl 24576 87 133) (nl 24578 87 1669)) (nd 36864 125 113
(nl 24580 87 0) (nd 36865 125 113
.leaf (nl 36866 125 113)))) (nd 49155 83 939524164
(nd 49152 83 6
(nl 40960 14 1) (nd 49153 83 68
.leaf (nl 49154 83 939524164))) (nd 49157 83 68
(nl 49156 83 939524164) (nd 49158 83 61572651155524
.leaf (nl 49159 83 61572651155524))))) (nd 57347 87 3758096388
(nd 49165 83 68
(nd 49162 83 32281802128991715396
(nl 49161 83 68) (nd 49163 83 32281802128991715396
.leaf (nl 49164 83 32281802128991715396))) (nd 57344 87 4
(nl 53248 75 2) (nd 57345 87 3758096388
.leaf (nl 57346 87 3758096388)))) (nd 57352 87 528905046081400263933956
(nd 57349 87 4
(nl 57348 87 4) (nd 57350 87 528905046081400263933956
.leaf (nl 57351 87 528905046081400263933956))) (nd 61440 94 12
(nl 57353 87 0) (nd 61441 94 44
.leaf (nl 61442 94 44)))))) (nd 77827 73 2048
(nd 65536 55 140754670846637
(nd 61448 94 12
(nd 61445 94 76
(nl 61444 94 12) (nd 61446 94 76
.leaf (nl 61447 94 76))) (nd 61450 94 140
(nl 61449 94 140) (nd 61451 94 140
.leaf (nl 61452 94 0)))) (nd 65544 55 12
(nd 65539 55 140758963192461
(nl 65538 55 140754668225165) (nd 65541 55 140737488355853
.leaf (nl 65542 55 175921860444684))) (nd 77824 73 5761
(nl 69632 25 208) (nd 77825 73 6785
.leaf (nl 77826 73 6657))))) (nd 102402 97 122
(nd 98304 73 25
(nd 86016 50 336
(nl 81920 29 0) (nd 90112 50 336
.leaf (nl 94208 254 384))) (nd 98306 73 24
(nl 98305 73 24) (nd 102400 97 10
.leaf (nl 102401 97 10)))) (nd 102407 97 186
(nd 102404 97 122
(nl 102403 97 122) (nd 102405 97 58
.leaf (nl 102406 97 186))) (nd 102409 97 186
(nl 102408 97 186) (nd 102410 97 42
.leaf (nl 102411 97 10))))))) (nd 143364 21 0
(nd 131076 128 1665
(nd 118785 99 161
(nd 110594 80 135
(nd 110592 80 7
(nl 106496 33 12) (nl 110593 80 135)) (nd 114688 63 3
(nl 110595 80 135) (nd 114689 63 3
.leaf (nl 118784 99 161)))) (nd 126979 108 5761
(nd 126976 108 161
(nl 118786 99 5761) (nd 126977 108 161
.leaf (nl 126978 108 673))) (nd 131073 128 1665
(nl 131072 128 1665) (nd 131074 128 1665
.leaf (nl 131075 128 1665))))) (nd 139265 227 15745
(nd 135171 123 135
(nd 135168 123 135
(nl 131077 128 22017) (nd 135169 123 135
.leaf (nl 135170 123 135))) (nd 135173 123 2183
(nl 135172 123 2183) (nd 135174 123 2183
.leaf (nl 139264 227 3457)))) (nd 139270 227 5590401
(nd 139267 227 28033
(nl 139266 227 32129) (nd 139268 227 28033
.leaf (nl 139269 227 85377))) (nd 143361 21 9
(nl 143360 21 1) (nd 143362 21 9
.leaf (nl 143363 21 9)))))) (nd 188418 23 9
(nd 167936 60 0
(nd 151552 16 2
(nd 147457 28 35
(nl 147456 28 35) (nd 147458 28 35
.leaf (nl 147459 28 0))) (nd 155648 37 1
(nl 151553 16 0) (nd 159744 60 0
.leaf (nl 163840 60 0)))) (nd 180225 43 897
(nd 176128 62 3
(nl 172032 39 0) (nd 176129 62 3
.leaf (nl 180224 43 929))) (nd 184320 25 80
(nl 180226 43 512) (nd 188416 23 9
.leaf (nl 188417 23 9))))) (nd 196611 43 906
(nd 192515 94 898
(nd 192512 94 898
(nl 188419 23 1) (nd 192513 94 898
.leaf (nl 192514 94 946))) (nd 196608 43 906
(nl 192516 94 0) (nd 196609 43 906
.leaf (nl 196610 43 930)))) (nd 200707 54 44
(nd 200704 54 114732
(nl 196612 43 2) (nd 200705 54 114732
.leaf (nl 200706 54 114732))) (nd 200709 54 7516192808
(nl 200708 54 7516192808) (nd 200710 54 7516193320
.leaf (nl 200711 54 7516192808)))))))) (nd 462851 31 48
(nd 331776 13 1
(nd 274432 48 71
(nd 253953 76 135
(nd 249856 50 929
(nd 225280 16 0
(nl 217088 36 177) (nl 233472 39 643)) (nd 249858 50 897
(nl 249857 50 929) (nd 249859 50 512
.leaf (nl 253952 76 135)))) (nd 258052 124 341249
(nd 258049 124 95617
(nl 258048 124 93569) (nd 258050 124 341377
.leaf (nl 258051 124 341249))) (nd 262144 42 81
(nl 258053 124 337153) (nd 266240 32 81
.leaf (nl 270336 60 4416))))) (nd 294913 31 0
(nd 290816 28 35
(nd 278528 45 60
(nl 274433 48 323) (nd 282624 47 28
.leaf (nl 282625 47 28))) (nd 290818 28 35
(nl 290817 28 35) (nd 290819 28 0
.leaf (nl 294912 31 32)))) (nd 315392 44 92
(nd 311297 43 135
(nl 311296 43 135) (nd 311298 43 135
.leaf (nl 311299 43 0))) (nd 315394 44 92
(nl 315393 44 92) (nd 323584 13 1
.leaf (nl 327680 13 1)))))) (nd 413698 24 1798
(nd 372738 19 1794
(nd 352257 54 451
(nd 335873 54 451
(nl 335872 54 451) (nd 335874 54 195
.leaf (nl 352256 54 451))) (nd 364544 28 81
(nl 352258 54 195) (nd 372736 19 1794
.leaf (nl 372737 19 1794)))) (nd 397312 24 1798
(nd 376832 11 0
(nl 372739 19 0) (nd 380928 16 0
.leaf (nl 385024 46 9))) (nd 397314 24 1798
(nl 397313 24 1798) (nd 413696 24 1798
.leaf (nl 413697 24 1798))))) (nd 454658 29 252
(nd 446464 28 81
(nd 430081 24 1798
(nl 430080 24 1798) (nd 430082 24 1798
.leaf (nl 442368 28 81))) (nd 450561 39 92
(nl 450560 39 92) (nd 454656 29 252
.leaf (nl 454657 29 252)))) (nd 458755 24 44
(nd 458752 24 44
(nl 454659 29 48) (nd 458753 24 44
.leaf (nl 458754 24 0))) (nd 462848 31 252
(nl 458756 24 0) (nd 462849 31 252
.leaf (nl 462850 31 252))))))) (nd 626692 42 508
(nd 602113 26 12
(nd 552961 67 22
(nd 479232 44 92
(nd 475136 15 32
(nl 466944 15 20) (nl 475137 15 0)) (nd 548865 67 1604
(nl 548864 67 92) (nd 548866 67 580
.leaf (nl 552960 67 22)))) (nd 552966 67 100
(nd 552963 67 6
(nl 552962 67 22) (nd 552964 67 100
.leaf (nl 552965 67 100))) (nd 561152 57 22
(nl 557056 19 82) (nd 561153 57 84
.leaf (nl 602112 26 12))))) (nd 618498 17 61
(nd 606212 117 21080
(nd 606209 117 4696
(nl 606208 117 92) (nd 606210 117 21080
.leaf (nl 606211 117 16984))) (nd 614400 22 84
(nl 606213 117 600) (nd 618496 17 61
.leaf (nl 618497 17 61)))) (nd 622595 48 48
(nd 622592 48 124
(nl 618499 17 12) (nd 622593 48 124
.leaf (nl 622594 48 124))) (nd 626689 42 124
(nl 626688 42 124) (nd 626690 42 508
.leaf (nl 626691 42 508)))))) (nd 675842 127 65084
(nd 663554 11 9
(nd 655361 25 214
(nd 626694 42 48
(nl 626693 42 124) (nd 651264 37 256
.leaf (nl 655360 25 214))) (nd 655363 25 84
(nl 655362 25 214) (nd 663552 11 9
.leaf (nl 663553 11 9)))) (nd 671746 24 21
(nd 667648 23 25
(nl 663555 11 8) (nd 671744 24 5
.leaf (nl 671745 24 21))) (nd 671748 24 20
(nl 671747 24 21) (nd 675840 127 60
.leaf (nl 675841 127 65084))))) (nd 679942 135 509700
(nd 679937 135 7
(nd 675844 127 30780
(nl 675843 127 65084) (nd 675845 127 24628
.leaf (nl 679936 135 7))) (nd 679939 135 126724
(nl 679938 135 7) (nd 679940 135 126724
.leaf (nl 679941 135 61188)))) (nd 696321 47 70
(nd 679944 135 442628
(nl 679943 135 509700) (nd 684032 29 2
.leaf (nl 696320 47 70))) (nd 704512 25 5
(nl 696322 47 70) (nd 704513 25 5
.leaf (nl 704514 25 5)))))))))
def nt:BT (List Bool):=(nd 65537 55 140758963192461
(nl 65536 55 140754670846637) (nl 65538 55 175921860444684))
noncomputable def Mk (k:Nat):List Bool:=(mt.find k).getD []
noncomputable def Nk (k:Nat):List Bool:=(nt.find k).getD []
noncomputable abbrev Rl (H:FuncId->Option (List AV->Mem->R)):Do:=real (EH H) Mk Nk
noncomputable abbrev zl (t:TypeId) (p:AV) (K:AV->CM):CM:=CM.rm (q1 (q1E Tryz.prog t) p) K
noncomputable abbrev zf (t:TypeId) (f:Nat) (x:AV) (K:AV->CM):CM:=CM.pu (p1 (fun a=>q0j Tryz.prog t a f) x) K
noncomputable abbrev ze (f:Nat) (x:AV) (K:AV->CM):CM:=CM.pu (p1 (fun a=>q0d a f) x) K
noncomputable abbrev zb (op:BinOp) (t:TypeId) (x y:AV) (K:AV->CM):CM:=CM.pu (p2 (q0S Tryz.prog op t) x y) K
noncomputable abbrev zi (t:TypeId) (x y:AV) (K:AV->CM):CM:=CM.pu (p2 (q0M Tryz.prog t) x y) K
noncomputable abbrev zc (t u:TypeId) (x:AV) (K:AV->CM):CM:=CM.pu (p1 (q6R Tryz.prog t u) x) K
noncomputable abbrev zt (t:TypeId) (x:AV) (K:AV->CM):CM:=CM.pu (p1 (q2s Tryz.prog t) x) K
noncomputable abbrev zd (t:TypeId) (x:List (Nat×AV)) (K:AV->CM):CM:=CM.pu (p1 (q2x Tryz.prog t) x) K
noncomputable abbrev zu (x:AV) (K:AV->CM):CM:=CM.pu (p1 (unA .not) x) K
noncomputable abbrev zn (x:AV) (K:AV->CM):CM:=CM.pu (p1 nnA x) K
noncomputable abbrev zs (x v:AV) (n:Nat) (K:CM):CM:=CM.st (fun m=>stV m x v n) K
noncomputable abbrev za (l:List AV) (K:AV->CM):CM:=CM.al (some (.cells l false,pB)) K
noncomputable abbrev zo (x:AV) (K:AV->CM):CM:=CM.al (q0K x) K
noncomputable abbrev zx (t:TypeId) (p:AV) (m:Mem) (v:AV) (K:CM):CM:=CM.chk (q1 (q1E Tryz.prog t) p m) v K
noncomputable abbrev zr:=@CM.resC Tryz.prog
noncomputable abbrev zk:=@CM.call
noncomputable abbrev zC:=@CM.cond
noncomputable abbrev zI:=@CM.ifv
noncomputable abbrev zg:=@CM.go
noncomputable abbrev zR:=@CM.ret
noncomputable abbrev zm:=@CM.memo
def z0:AV:=.sl none 0 0 0 true
def z1:AV:=.int .i64 0
def z2:AV:=.int .u64 0
def z3:AV:=.str []
def z4:AV:=.int .i64 1
theorem zz0:z0=.sl none 0 0 0 true:=rfl
theorem zz1:z1=.int .i64 0:=rfl
theorem zz2:z2=.int .u64 0:=rfl
theorem zz3:z3=.str []:=rfl
theorem zz4:z4=.int .i64 1:=rfl
abbrev OkG (H:FuncId->Option (List AV->Mem->R)) (g:List AV->CM) (k:Nat):Prop:=EqD (Rl H) g (fun xs m=>goR (EH H) Mk k xs m)
abbrev OkF (H:FuncId->Option (List AV->Mem->R)) (g:List AV->CM) (k:Nat):Prop:=EqD (Rl H) g (fun xs m=>run (EH H) (.fn k) xs m)
section
variable {H:FuncId->Option (List AV->Mem->R)} {k:Nat}
noncomputable abbrev a0 (F:CM):List AV->CM:=ap0 F
theorem c0 {F:CM} (h:∀(m:Mem),goC (EH H) (run (EH H)) (.fn (q1x (EH H) (k / 4096))) (go (EH H) (.fn (q1x (EH H) (k / 4096)))) 400 (kAt (EH H) (k / 4096) (k % 4096)) (spread (Mk k) []) m=q0k (Rl H) F m):OkG H (a0 F) k:=zE fun _=>q2d 400 (h _)
theorem e0 {F:CM} (hH:H k=none) (hB:((EH H).B k).isSome=true) (h:∀(m:Mem),goC (EH H) (run (EH H)) (.fn (q1x (EH H) k)) (go (EH H) (.fn (q1x (EH H) k))) 400 [.code (codeOf (EH H) k)] ([]++List.replicate (z3M (EH H) k-List.length ([]:List AV)) .undef) m=q0k (Rl H) F m):OkF H (a0 F) k:=zE fun _=>run_eq 400 hH hB (h _)
abbrev IG0 (H:FuncId->Option (List AV->Mem->R)) (g:List AV->CM) (k:Nat):Prop:=∀(m:Mem),(Rl H).gor k [] m=q0k (Rl H) (g []) m
theorem gk0 {F:CM} (h:∀(m:Mem),goC (EH H) (run (EH H)) (.fn (q1x (EH H) (k / 4096))) (go (EH H) (.fn (q1x (EH H) (k / 4096)))) 400 (kAt (EH H) (k / 4096) (k % 4096)) (spread (Mk k) []) m=q0k (Rl H) F m):IG0 H (a0 F) k:=fun m=>q2d 400 (h m)
noncomputable abbrev a1 (F:AV->CM):List AV->CM:=apS fun u=>ap0 (F u)
theorem c1 {F:AV->CM} (h:∀(u:AV) (m:Mem),goC (EH H) (run (EH H)) (.fn (q1x (EH H) (k / 4096))) (go (EH H) (.fn (q1x (EH H) (k / 4096)))) 400 (kAt (EH H) (k / 4096) (k % 4096)) (spread (Mk k) [u]) m=q0k (Rl H) (F u) m):OkG H (a1 F) k:=sE fun _=>zE fun _=>q2d 400 (h _ _)
theorem e1 {F:AV->CM} (hH:H k=none) (hB:((EH H).B k).isSome=true) (h:∀(u:AV) (m:Mem),goC (EH H) (run (EH H)) (.fn (q1x (EH H) k)) (go (EH H) (.fn (q1x (EH H) k))) 400 [.code (codeOf (EH H) k)] ([u]++List.replicate (z3M (EH H) k-List.length ([u]:List AV)) .undef) m=q0k (Rl H) (F u) m):OkF H (a1 F) k:=sE fun _=>zE fun _=>run_eq 400 hH hB (h _ _)
abbrev IG1 (H:FuncId->Option (List AV->Mem->R)) (g:List AV->CM) (k:Nat):Prop:=∀(u:AV) (m:Mem),(Rl H).gor k [u] m=q0k (Rl H) (g [u]) m
abbrev IF1 (H:FuncId->Option (List AV->Mem->R)) (g:List AV->CM) (k:Nat):Prop:=∀(u:AV) (m:Mem),run (EH H) (.fn k) [u] m=q0k (Rl H) (g [u]) m
theorem gk1 {F:AV->CM} (h:∀(u:AV) (m:Mem),goC (EH H) (run (EH H)) (.fn (q1x (EH H) (k / 4096))) (go (EH H) (.fn (q1x (EH H) (k / 4096)))) 400 (kAt (EH H) (k / 4096) (k % 4096)) (spread (Mk k) [u]) m=q0k (Rl H) (F u) m):IG1 H (a1 F) k:=fun u m=>q2d 400 (h u m)
theorem fk1 {F:AV->CM} (hH:H k=none) (hB:((EH H).B k).isSome=true) (h:∀(u:AV) (m:Mem),goC (EH H) (run (EH H)) (.fn (q1x (EH H) k)) (go (EH H) (.fn (q1x (EH H) k))) 400 [.code (codeOf (EH H) k)] ([u]++List.replicate (z3M (EH H) k-List.length ([u]:List AV)) .undef) m=q0k (Rl H) (F u) m):IF1 H (a1 F) k:=fun u m=>run_eq 400 hH hB (h u m)
noncomputable abbrev a2 (F:AV->AV->CM):List AV->CM:=apS fun u=>apS fun v=>ap0 (F u v)
theorem c2 {F:AV->AV->CM} (h:∀(u v:AV) (m:Mem),goC (EH H) (run (EH H)) (.fn (q1x (EH H) (k / 4096))) (go (EH H) (.fn (q1x (EH H) (k / 4096)))) 400 (kAt (EH H) (k / 4096) (k % 4096)) (spread (Mk k) [u,v]) m=q0k (Rl H) (F u v) m):OkG H (a2 F) k:=sE fun _=>sE fun _=>zE fun _=>q2d 400 (h _ _ _)
theorem e2 {F:AV->AV->CM} (hH:H k=none) (hB:((EH H).B k).isSome=true) (h:∀(u v:AV) (m:Mem),goC (EH H) (run (EH H)) (.fn (q1x (EH H) k)) (go (EH H) (.fn (q1x (EH H) k))) 400 [.code (codeOf (EH H) k)] ([u,v]++List.replicate (z3M (EH H) k-List.length ([u,v]:List AV)) .undef) m=q0k (Rl H) (F u v) m):OkF H (a2 F) k:=sE fun _=>sE fun _=>zE fun _=>run_eq 400 hH hB (h _ _ _)
abbrev IG2 (H:FuncId->Option (List AV->Mem->R)) (g:List AV->CM) (k:Nat):Prop:=∀(u v:AV) (m:Mem),(Rl H).gor k [u,v] m=q0k (Rl H) (g [u,v]) m
abbrev IF2 (H:FuncId->Option (List AV->Mem->R)) (g:List AV->CM) (k:Nat):Prop:=∀(u v:AV) (m:Mem),run (EH H) (.fn k) [u,v] m=q0k (Rl H) (g [u,v]) m
theorem gk2 {F:AV->AV->CM} (h:∀(u v:AV) (m:Mem),goC (EH H) (run (EH H)) (.fn (q1x (EH H) (k / 4096))) (go (EH H) (.fn (q1x (EH H) (k / 4096)))) 400 (kAt (EH H) (k / 4096) (k % 4096)) (spread (Mk k) [u,v]) m=q0k (Rl H) (F u v) m):IG2 H (a2 F) k:=fun u v m=>q2d 400 (h u v m)
theorem fk2 {F:AV->AV->CM} (hH:H k=none) (hB:((EH H).B k).isSome=true) (h:∀(u v:AV) (m:Mem),goC (EH H) (run (EH H)) (.fn (q1x (EH H) k)) (go (EH H) (.fn (q1x (EH H) k))) 400 [.code (codeOf (EH H) k)] ([u,v]++List.replicate (z3M (EH H) k-List.length ([u,v]:List AV)) .undef) m=q0k (Rl H) (F u v) m):IF2 H (a2 F) k:=fun u v m=>run_eq 400 hH hB (h u v m)
noncomputable abbrev a3 (F:AV->AV->AV->CM):List AV->CM:=apS fun u=>apS fun v=>apS fun w=>ap0 (F u v w)
theorem c3 {F:AV->AV->AV->CM} (h:∀(u v w:AV) (m:Mem),goC (EH H) (run (EH H)) (.fn (q1x (EH H) (k / 4096))) (go (EH H) (.fn (q1x (EH H) (k / 4096)))) 400 (kAt (EH H) (k / 4096) (k % 4096)) (spread (Mk k) [u,v,w]) m=q0k (Rl H) (F u v w) m):OkG H (a3 F) k:=sE fun _=>sE fun _=>sE fun _=>zE fun _=>q2d 400 (h _ _ _ _)
theorem e3 {F:AV->AV->AV->CM} (hH:H k=none) (hB:((EH H).B k).isSome=true) (h:∀(u v w:AV) (m:Mem),goC (EH H) (run (EH H)) (.fn (q1x (EH H) k)) (go (EH H) (.fn (q1x (EH H) k))) 400 [.code (codeOf (EH H) k)] ([u,v,w]++List.replicate (z3M (EH H) k-List.length ([u,v,w]:List AV)) .undef) m=q0k (Rl H) (F u v w) m):OkF H (a3 F) k:=sE fun _=>sE fun _=>sE fun _=>zE fun _=>run_eq 400 hH hB (h _ _ _ _)
abbrev IG3 (H:FuncId->Option (List AV->Mem->R)) (g:List AV->CM) (k:Nat):Prop:=∀(u v w:AV) (m:Mem),(Rl H).gor k [u,v,w] m=q0k (Rl H) (g [u,v,w]) m
abbrev IF3 (H:FuncId->Option (List AV->Mem->R)) (g:List AV->CM) (k:Nat):Prop:=∀(u v w:AV) (m:Mem),run (EH H) (.fn k) [u,v,w] m=q0k (Rl H) (g [u,v,w]) m
theorem gk3 {F:AV->AV->AV->CM} (h:∀(u v w:AV) (m:Mem),goC (EH H) (run (EH H)) (.fn (q1x (EH H) (k / 4096))) (go (EH H) (.fn (q1x (EH H) (k / 4096)))) 400 (kAt (EH H) (k / 4096) (k % 4096)) (spread (Mk k) [u,v,w]) m=q0k (Rl H) (F u v w) m):IG3 H (a3 F) k:=fun u v w m=>q2d 400 (h u v w m)
theorem fk3 {F:AV->AV->AV->CM} (hH:H k=none) (hB:((EH H).B k).isSome=true) (h:∀(u v w:AV) (m:Mem),goC (EH H) (run (EH H)) (.fn (q1x (EH H) k)) (go (EH H) (.fn (q1x (EH H) k))) 400 [.code (codeOf (EH H) k)] ([u,v,w]++List.replicate (z3M (EH H) k-List.length ([u,v,w]:List AV)) .undef) m=q0k (Rl H) (F u v w) m):IF3 H (a3 F) k:=fun u v w m=>run_eq 400 hH hB (h u v w m)
noncomputable abbrev a4 (F:AV->AV->AV->AV->CM):List AV->CM:=apS fun u=>apS fun v=>apS fun w=>apS fun x=>ap0 (F u v w x)
theorem c4 {F:AV->AV->AV->AV->CM} (h:∀(u v w x:AV) (m:Mem),goC (EH H) (run (EH H)) (.fn (q1x (EH H) (k / 4096))) (go (EH H) (.fn (q1x (EH H) (k / 4096)))) 400 (kAt (EH H) (k / 4096) (k % 4096)) (spread (Mk k) [u,v,w,x]) m=q0k (Rl H) (F u v w x) m):OkG H (a4 F) k:=sE fun _=>sE fun _=>sE fun _=>sE fun _=>zE fun _=>q2d 400 (h _ _ _ _ _)
theorem e4 {F:AV->AV->AV->AV->CM} (hH:H k=none) (hB:((EH H).B k).isSome=true) (h:∀(u v w x:AV) (m:Mem),goC (EH H) (run (EH H)) (.fn (q1x (EH H) k)) (go (EH H) (.fn (q1x (EH H) k))) 400 [.code (codeOf (EH H) k)] ([u,v,w,x]++List.replicate (z3M (EH H) k-List.length ([u,v,w,x]:List AV)) .undef) m=q0k (Rl H) (F u v w x) m):OkF H (a4 F) k:=sE fun _=>sE fun _=>sE fun _=>sE fun _=>zE fun _=>run_eq 400 hH hB (h _ _ _ _ _)
abbrev IG4 (H:FuncId->Option (List AV->Mem->R)) (g:List AV->CM) (k:Nat):Prop:=∀(u v w x:AV) (m:Mem),(Rl H).gor k [u,v,w,x] m=q0k (Rl H) (g [u,v,w,x]) m
abbrev IF4 (H:FuncId->Option (List AV->Mem->R)) (g:List AV->CM) (k:Nat):Prop:=∀(u v w x:AV) (m:Mem),run (EH H) (.fn k) [u,v,w,x] m=q0k (Rl H) (g [u,v,w,x]) m
theorem gk4 {F:AV->AV->AV->AV->CM} (h:∀(u v w x:AV) (m:Mem),goC (EH H) (run (EH H)) (.fn (q1x (EH H) (k / 4096))) (go (EH H) (.fn (q1x (EH H) (k / 4096)))) 400 (kAt (EH H) (k / 4096) (k % 4096)) (spread (Mk k) [u,v,w,x]) m=q0k (Rl H) (F u v w x) m):IG4 H (a4 F) k:=fun u v w x m=>q2d 400 (h u v w x m)
theorem fk4 {F:AV->AV->AV->AV->CM} (hH:H k=none) (hB:((EH H).B k).isSome=true) (h:∀(u v w x:AV) (m:Mem),goC (EH H) (run (EH H)) (.fn (q1x (EH H) k)) (go (EH H) (.fn (q1x (EH H) k))) 400 [.code (codeOf (EH H) k)] ([u,v,w,x]++List.replicate (z3M (EH H) k-List.length ([u,v,w,x]:List AV)) .undef) m=q0k (Rl H) (F u v w x) m):IF4 H (a4 F) k:=fun u v w x m=>run_eq 400 hH hB (h u v w x m)
noncomputable abbrev a5 (F:AV->AV->AV->AV->AV->CM):List AV->CM:=apS fun u=>apS fun v=>apS fun w=>apS fun x=>apS fun y=>ap0 (F u v w x y)
theorem c5 {F:AV->AV->AV->AV->AV->CM} (h:∀(u v w x y:AV) (m:Mem),goC (EH H) (run (EH H)) (.fn (q1x (EH H) (k / 4096))) (go (EH H) (.fn (q1x (EH H) (k / 4096)))) 400 (kAt (EH H) (k / 4096) (k % 4096)) (spread (Mk k) [u,v,w,x,y]) m=q0k (Rl H) (F u v w x y) m):OkG H (a5 F) k:=sE fun _=>sE fun _=>sE fun _=>sE fun _=>sE fun _=>zE fun _=>q2d 400 (h _ _ _ _ _ _)
theorem e5 {F:AV->AV->AV->AV->AV->CM} (hH:H k=none) (hB:((EH H).B k).isSome=true) (h:∀(u v w x y:AV) (m:Mem),goC (EH H) (run (EH H)) (.fn (q1x (EH H) k)) (go (EH H) (.fn (q1x (EH H) k))) 400 [.code (codeOf (EH H) k)] ([u,v,w,x,y]++List.replicate (z3M (EH H) k-List.length ([u,v,w,x,y]:List AV)) .undef) m=q0k (Rl H) (F u v w x y) m):OkF H (a5 F) k:=sE fun _=>sE fun _=>sE fun _=>sE fun _=>sE fun _=>zE fun _=>run_eq 400 hH hB (h _ _ _ _ _ _)
abbrev IG5 (H:FuncId->Option (List AV->Mem->R)) (g:List AV->CM) (k:Nat):Prop:=∀(u v w x y:AV) (m:Mem),(Rl H).gor k [u,v,w,x,y] m=q0k (Rl H) (g [u,v,w,x,y]) m
theorem gk5 {F:AV->AV->AV->AV->AV->CM} (h:∀(u v w x y:AV) (m:Mem),goC (EH H) (run (EH H)) (.fn (q1x (EH H) (k / 4096))) (go (EH H) (.fn (q1x (EH H) (k / 4096)))) 400 (kAt (EH H) (k / 4096) (k % 4096)) (spread (Mk k) [u,v,w,x,y]) m=q0k (Rl H) (F u v w x y) m):IG5 H (a5 F) k:=fun u v w x y m=>q2d 400 (h u v w x y m)
noncomputable abbrev a6 (F:AV->AV->AV->AV->AV->AV->CM):List AV->CM:=apS fun u=>apS fun v=>apS fun w=>apS fun x=>apS fun y=>apS fun z=>ap0 (F u v w x y z)
theorem c6 {F:AV->AV->AV->AV->AV->AV->CM} (h:∀(u v w x y z:AV) (m:Mem),goC (EH H) (run (EH H)) (.fn (q1x (EH H) (k / 4096))) (go (EH H) (.fn (q1x (EH H) (k / 4096)))) 400 (kAt (EH H) (k / 4096) (k % 4096)) (spread (Mk k) [u,v,w,x,y,z]) m=q0k (Rl H) (F u v w x y z) m):OkG H (a6 F) k:=sE fun _=>sE fun _=>sE fun _=>sE fun _=>sE fun _=>sE fun _=>zE fun _=>q2d 400 (h _ _ _ _ _ _ _)
theorem e6 {F:AV->AV->AV->AV->AV->AV->CM} (hH:H k=none) (hB:((EH H).B k).isSome=true) (h:∀(u v w x y z:AV) (m:Mem),goC (EH H) (run (EH H)) (.fn (q1x (EH H) k)) (go (EH H) (.fn (q1x (EH H) k))) 400 [.code (codeOf (EH H) k)] ([u,v,w,x,y,z]++List.replicate (z3M (EH H) k-List.length ([u,v,w,x,y,z]:List AV)) .undef) m=q0k (Rl H) (F u v w x y z) m):OkF H (a6 F) k:=sE fun _=>sE fun _=>sE fun _=>sE fun _=>sE fun _=>sE fun _=>zE fun _=>run_eq 400 hH hB (h _ _ _ _ _ _ _)
abbrev IG6 (H:FuncId->Option (List AV->Mem->R)) (g:List AV->CM) (k:Nat):Prop:=∀(u v w x y z:AV) (m:Mem),(Rl H).gor k [u,v,w,x,y,z] m=q0k (Rl H) (g [u,v,w,x,y,z]) m
theorem gk6 {F:AV->AV->AV->AV->AV->AV->CM} (h:∀(u v w x y z:AV) (m:Mem),goC (EH H) (run (EH H)) (.fn (q1x (EH H) (k / 4096))) (go (EH H) (.fn (q1x (EH H) (k / 4096)))) 400 (kAt (EH H) (k / 4096) (k % 4096)) (spread (Mk k) [u,v,w,x,y,z]) m=q0k (Rl H) (F u v w x y z) m):IG6 H (a6 F) k:=fun u v w x y z m=>q2d 400 (h u v w x y z m)
noncomputable abbrev a7 (F:AV->AV->AV->AV->AV->AV->AV->CM):List AV->CM:=apS fun u=>apS fun v=>apS fun w=>apS fun x=>apS fun y=>apS fun z=>apS fun u6=>ap0 (F u v w x y z u6)
theorem e7 {F:AV->AV->AV->AV->AV->AV->AV->CM} (hH:H k=none) (hB:((EH H).B k).isSome=true) (h:∀(u v w x y z u6:AV) (m:Mem),goC (EH H) (run (EH H)) (.fn (q1x (EH H) k)) (go (EH H) (.fn (q1x (EH H) k))) 400 [.code (codeOf (EH H) k)] ([u,v,w,x,y,z,u6]++List.replicate (z3M (EH H) k-List.length ([u,v,w,x,y,z,u6]:List AV)) .undef) m=q0k (Rl H) (F u v w x y z u6) m):OkF H (a7 F) k:=sE fun _=>sE fun _=>sE fun _=>sE fun _=>sE fun _=>sE fun _=>sE fun _=>zE fun _=>run_eq 400 hH hB (h _ _ _ _ _ _ _ _)
abbrev IG7 (H:FuncId->Option (List AV->Mem->R)) (g:List AV->CM) (k:Nat):Prop:=∀(u v w x y z u6:AV) (m:Mem),(Rl H).gor k [u,v,w,x,y,z,u6] m=q0k (Rl H) (g [u,v,w,x,y,z,u6]) m
theorem gk7 {F:AV->AV->AV->AV->AV->AV->AV->CM} (h:∀(u v w x y z u6:AV) (m:Mem),goC (EH H) (run (EH H)) (.fn (q1x (EH H) (k / 4096))) (go (EH H) (.fn (q1x (EH H) (k / 4096)))) 400 (kAt (EH H) (k / 4096) (k % 4096)) (spread (Mk k) [u,v,w,x,y,z,u6]) m=q0k (Rl H) (F u v w x y z u6) m):IG7 H (a7 F) k:=fun u v w x y z u6 m=>q2d 400 (h u v w x y z u6 m)
noncomputable abbrev a8 (F:AV->AV->AV->AV->AV->AV->AV->AV->CM):List AV->CM:=apS fun u=>apS fun v=>apS fun w=>apS fun x=>apS fun y=>apS fun z=>apS fun u6=>apS fun u7=>ap0 (F u v w x y z u6 u7)
abbrev IG8 (H:FuncId->Option (List AV->Mem->R)) (g:List AV->CM) (k:Nat):Prop:=∀(u v w x y z u6 u7:AV) (m:Mem),(Rl H).gor k [u,v,w,x,y,z,u6,u7] m=q0k (Rl H) (g [u,v,w,x,y,z,u6,u7]) m
theorem gk8 {F:AV->AV->AV->AV->AV->AV->AV->AV->CM} (h:∀(u v w x y z u6 u7:AV) (m:Mem),goC (EH H) (run (EH H)) (.fn (q1x (EH H) (k / 4096))) (go (EH H) (.fn (q1x (EH H) (k / 4096)))) 400 (kAt (EH H) (k / 4096) (k % 4096)) (spread (Mk k) [u,v,w,x,y,z,u6,u7]) m=q0k (Rl H) (F u v w x y z u6 u7) m):IG8 H (a8 F) k:=fun u v w x y z u6 u7 m=>q2d 400 (h u v w x y z u6 u7 m)
noncomputable abbrev a9 (F:AV->AV->AV->AV->AV->AV->AV->AV->AV->CM):List AV->CM:=apS fun u=>apS fun v=>apS fun w=>apS fun x=>apS fun y=>apS fun z=>apS fun u6=>apS fun u7=>apS fun u8=>ap0 (F u v w x y z u6 u7 u8)
theorem c9 {F:AV->AV->AV->AV->AV->AV->AV->AV->AV->CM} (h:∀(u v w x y z u6 u7 u8:AV) (m:Mem),goC (EH H) (run (EH H)) (.fn (q1x (EH H) (k / 4096))) (go (EH H) (.fn (q1x (EH H) (k / 4096)))) 400 (kAt (EH H) (k / 4096) (k % 4096)) (spread (Mk k) [u,v,w,x,y,z,u6,u7,u8]) m=q0k (Rl H) (F u v w x y z u6 u7 u8) m):OkG H (a9 F) k:=sE fun _=>sE fun _=>sE fun _=>sE fun _=>sE fun _=>sE fun _=>sE fun _=>sE fun _=>sE fun _=>zE fun _=>q2d 400 (h _ _ _ _ _ _ _ _ _ _)
theorem e9 {F:AV->AV->AV->AV->AV->AV->AV->AV->AV->CM} (hH:H k=none) (hB:((EH H).B k).isSome=true) (h:∀(u v w x y z u6 u7 u8:AV) (m:Mem),goC (EH H) (run (EH H)) (.fn (q1x (EH H) k)) (go (EH H) (.fn (q1x (EH H) k))) 400 [.code (codeOf (EH H) k)] ([u,v,w,x,y,z,u6,u7,u8]++List.replicate (z3M (EH H) k-List.length ([u,v,w,x,y,z,u6,u7,u8]:List AV)) .undef) m=q0k (Rl H) (F u v w x y z u6 u7 u8) m):OkF H (a9 F) k:=sE fun _=>sE fun _=>sE fun _=>sE fun _=>sE fun _=>sE fun _=>sE fun _=>sE fun _=>sE fun _=>zE fun _=>run_eq 400 hH hB (h _ _ _ _ _ _ _ _ _ _)
abbrev IG9 (H:FuncId->Option (List AV->Mem->R)) (g:List AV->CM) (k:Nat):Prop:=∀(u v w x y z u6 u7 u8:AV) (m:Mem),(Rl H).gor k [u,v,w,x,y,z,u6,u7,u8] m=q0k (Rl H) (g [u,v,w,x,y,z,u6,u7,u8]) m
theorem gk9 {F:AV->AV->AV->AV->AV->AV->AV->AV->AV->CM} (h:∀(u v w x y z u6 u7 u8:AV) (m:Mem),goC (EH H) (run (EH H)) (.fn (q1x (EH H) (k / 4096))) (go (EH H) (.fn (q1x (EH H) (k / 4096)))) 400 (kAt (EH H) (k / 4096) (k % 4096)) (spread (Mk k) [u,v,w,x,y,z,u6,u7,u8]) m=q0k (Rl H) (F u v w x y z u6 u7 u8) m):IG9 H (a9 F) k:=fun u v w x y z u6 u7 u8 m=>q2d 400 (h u v w x y z u6 u7 u8 m)
noncomputable abbrev a10 (F:AV->AV->AV->AV->AV->AV->AV->AV->AV->AV->CM):List AV->CM:=apS fun u=>apS fun v=>apS fun w=>apS fun x=>apS fun y=>apS fun z=>apS fun u6=>apS fun u7=>apS fun u8=>apS fun u9=>ap0 (F u v w x y z u6 u7 u8 u9)
abbrev b1l (H:FuncId->Option (List AV->Mem->R)) (g:List AV->CM) (k:Nat):Prop:=∀(u v w x y z u6 u7 u8 u9:AV) (m:Mem),(Rl H).gor k [u,v,w,x,y,z,u6,u7,u8,u9] m=q0k (Rl H) (g [u,v,w,x,y,z,u6,u7,u8,u9]) m
theorem b2q {F:AV->AV->AV->AV->AV->AV->AV->AV->AV->AV->CM} (h:∀(u v w x y z u6 u7 u8 u9:AV) (m:Mem),goC (EH H) (run (EH H)) (.fn (q1x (EH H) (k / 4096))) (go (EH H) (.fn (q1x (EH H) (k / 4096)))) 400 (kAt (EH H) (k / 4096) (k % 4096)) (spread (Mk k) [u,v,w,x,y,z,u6,u7,u8,u9]) m=q0k (Rl H) (F u v w x y z u6 u7 u8 u9) m):b1l H (a10 F) k:=fun u v w x y z u6 u7 u8 u9 m=>q2d 400 (h u v w x y z u6 u7 u8 u9 m)
end
end
section
open Go Go.Abs Go.Proofs.YtlginbmjiecglaaGreatDoor
set_option maxRecDepth 10000
noncomputable section
variable {H:FuncId->Option (List AV->Mem->R)}
def b2m:List AV->CM:=a3 fun a b c=>zk 16 [c] fun d=>zk 8 [d] fun d=>zd 61 [(0,d),(1,a)] fun d=>zo d fun d=>zg 24577 [a,b,c,d,z1]
def b1a:List AV->CM:=a5 fun a b c d e=>zt 58 b fun f=>zb .lss 3 e f fun f=>zI f ( zb .lss 3 e (.int .i64 100) fun f=>zC f ( zg 24578 [a,b,c,d,e]) ( zg 24580 [])) ( zg 24580 [])
def b1x:List AV->CM:=a5 fun a b c d e=>zk 16 [c] fun f=>za [z0,z0,z0,z2] fun g=>zs g f 4<|zi 58 b e fun f=>zl 65 f fun f=>zk 24 [d,f] fun f=>zk 23 [c,d,f] fun f=>ze 0 f fun _=>ze 1 f fun f=>zk 16 [c] fun h=>za [z0,z0,z0,z2] fun i=>zs i h 4<|zb .neq 35 f z1 fun f=>zI f ( zl 28 g fun f=>zl 28 i fun g=>zk 15 [f,g] fun f=>zu f fun f=>zI f ( zR (.bool false)) ( zl 28 i fun f=>zk 25 [f] fun f=>zu f fun f=>zI f ( zR (.bool false)) ( zl 28 i fun f=>zk 14 [f,a] fun f=>zu f fun f=>zC f ( zR (.bool false)) ( zg 24579 [a,b,c,d,e])))) ( zl 28 i fun f=>zk 25 [f] fun f=>zu f fun f=>zI f ( zR (.bool false)) ( zl 28 i fun f=>zk 14 [f,a] fun f=>zu f fun f=>zC f ( zR (.bool false)) ( zg 24579 [a,b,c,d,e])))
def b2n:List AV->CM:=a5 fun a b c d e=>zb .add 3 e z4 fun e=>zg 24577 [a,b,c,d,e]
def b1y:List AV->CM:=a0<|zR (.bool true)
def f6:List AV->CM:=a3 fun a b c=>zk 10 [a,(.int .i64 8)] fun a=>zb .add 3 z4 a fun a=>zk 9 [b,a] fun b=>zk 12 [b,a] fun b=>ze 0 b fun d=>ze 1 b fun b=>zk 13 [] fun e=>zu e fun e=>zI e ( zR (.bool false)) ( zb .neq 35 b z1 fun b=>zI b ( zR (.bool false)) ( zb .eql 34 d (.ptr none) fun b=>zC b ( zR (.bool false)) ( zg 24576 [a,c,d])))
def f8:List AV->CM:=a1 fun a=>zo a fun a=>za [z0,z0,z0,z2] fun b=>CM.al (some (.cells [] false,sB 4 0)) fun c=>zf 28 0 a fun d=>zl 23 d fun d=>CM.ef (apE 4 40 c d) fun c=>zf 28 0 a fun d=>zs d c 1<|CM.al (some (.cells [] false,sB 9 0)) fun c=>zf 28 1 a fun d=>zl 24 d fun d=>CM.ef (apE 9 88 c d) fun c=>zf 28 1 a fun d=>zs d c 1<|CM.al (some (.cells [] false,sB 4 0)) fun c=>zf 28 2 a fun d=>zl 25 d fun d=>CM.ef (apE 4 40 c d) fun c=>zf 28 2 a fun d=>zs d c 1<|zl 28 a fun a=>zs b a 4<|zr [.cell 0 28] [b]
def a8Y:List AV->CM:=a4 fun a b c d=>zt 22 a fun e=>zb .lss 3 d e fun e=>zI e ( zb .lss 3 d (.int .i64 60) fun e=>zC e ( zg 36865 [a,b,c,d]) ( zg 36867 [b,c])) ( zg 36867 [b,c])
abbrev j1D (a:AV) (b:AV) (c:AV) (d:AV) (e:AV) (f:AV) (g:AV) (h:AV):CM:=
 zb .eql 3 a (.int .i64 5) fun i=>zC i ( zf 77 3 b fun i=>zl 3 i fun i=>zk 30 [c,d,i] fun i=>zk 31 [c,d,i] fun _=>zg 36866 [e,f,c,g]) ( zb .eql 3 a (.int .i64 6) fun i=>zC i ( zf 77 3 b fun i=>zl 3 i fun i=>zk 30 [c,d,i] fun i=>zk 32 [c,d,h,i] fun _=>zg 36866 [e,f,c,g]) ( zb .eql 3 a (.int .i64 7) fun a=>zC a ( zf 77 1 b fun a=>zl 3 a fun a=>zm fun i=>zk 10 [a,(.int .i64 3)] fun a=>zi 79 (.ptr (some ⟨1,0⟩)) a fun a=>zl 9 a fun j=>zf 77 2 b fun k=>zl 3 k fun l=>zx 3 k i l<|zm fun k=>zk 10 [l,(.int .i64 3)] fun l=>zm fun m=>zx 9 a m j<|zi 79 (.ptr (some ⟨1,0⟩)) l fun l=>zl 9 l fun m=>zf 77 3 b fun n=>zl 3 n fun o=>zx 3 n k o<|zx 3 n i o<|zk 26 [o] fun i=>zm fun k=>zx 9 l k m<|zx 9 a k j<|zk 33 [c,j,m,i] fun _=>zg 36866 [e,f,c,g]) ( zf 77 3 b fun a=>zl 3 a fun a=>zk 30 [c,d,a] fun a=>zk 34 [c,d,h,a] fun _=>zg 36866 [e,f,c,g])))
abbrev j1E (a:AV) (b:AV) (c:AV) (d:AV) (e:AV) (f:AV) (g:AV) (h:AV):CM:=
 zb .eql 3 a (.int .i64 3) fun i=>zC i ( zC i ( zf 77 3 b fun i=>zl 3 i fun i=>zk 30 [c,d,i] fun i=>zk 29 [c,d,i] fun _=>zg 36866 [e,f,c,g]) (
 j1D a b c d e f g h)) ( zb .eql 3 a (.int .i64 4) fun i=>zC i ( zf 77 3 b fun i=>zl 3 i fun i=>zk 30 [c,d,i] fun i=>zk 29 [c,d,i] fun _=>zg 36866 [e,f,c,g]) (
 j1D a b c d e f g h))
def j3k:List AV->CM:=a4 fun a b c d=>zi 22 a d fun e=>zl 77 e fun e=>za [z1,z1,z1,z1] fun f=>zs f e 4<|zf 77 1 f fun e=>zl 3 e fun e=>zk 10 [e,(.int .i64 5)] fun e=>zb .add 3 z4 e fun e=>zc 3 26 e fun e=>zf 77 2 f fun g=>zl 3 g fun g=>zk 10 [g,(.int .i64 5)] fun g=>zb .add 3 z4 g fun g=>zc 3 26 g fun g=>zf 77 0 f fun h=>zl 3 h fun h=>zk 10 [h,(.int .i64 9)] fun h=>zb .eql 3 h z1 fun i=>zC i ( zf 77 1 f fun i=>zl 3 i fun i=>zm fun j=>zk 10 [i,(.int .i64 3)] fun i=>zi 79 (.ptr (some ⟨1,0⟩)) i fun i=>zl 9 i fun k=>zf 77 3 f fun l=>zl 3 l fun m=>zx 3 l j m<|zk 10 [m,(.int .i64 4)] fun j=>zm fun l=>zx 9 i l k<|zc 3 26 j fun i=>zk 27 [c,k,i] fun _=>zg 36866 [a,b,c,d]) ( zb .eql 3 h z4 fun i=>zC i ( zC i ( zf 77 1 f fun i=>zl 3 i fun i=>zk 10 [i,(.int .i64 3)] fun i=>zi 79 (.ptr (some ⟨1,0⟩)) i fun i=>zl 9 i fun i=>zk 28 [c,i] fun _=>zg 36866 [a,b,c,d]) (
 j1E h f c e a b d g)) ( zb .eql 3 h (.int .i64 2) fun i=>zC i ( zf 77 1 f fun i=>zl 3 i fun i=>zk 10 [i,(.int .i64 3)] fun i=>zi 79 (.ptr (some ⟨1,0⟩)) i fun i=>zl 9 i fun i=>zk 28 [c,i] fun _=>zg 36866 [a,b,c,d]) (
 j1E h f c e a b d g)))
def b2o:List AV->CM:=a4 fun a b c d=>zb .add 3 d z4 fun d=>zg 36864 [a,b,c,d]
def b2p:List AV->CM:=a2 fun a b=>zn b fun b=>zf 61 0 b fun b=>zl 28 b fun b=>zs a b 4<|zr [.cell 0 28] [a]
def f9:List AV->CM:=a2 fun a b=>za [z0,z0,z0,z2] fun c=>zd 61 [(1,b)] fun b=>zo b fun b=>zg 36864 [a,c,b,z1]
def a0L:List AV->CM:=a1 fun a=>zR a
def f10:List AV->CM:=a2 fun a b=>zb .rem 3 a b fun a=>zb .lss 3 a z1 fun c=>zC c ( zb .add 3 a b fun b=>zg 40960 [b]) ( zg 40960 [a])
def a7c:List AV->CM:=a2 fun a b=>zk 38 [a] fun a=>ze 0 a fun c=>ze 1 a fun a=>zb .neq 35 a z1 fun d=>zC d ( zR (.tup [(.ptr none),a])) ( zg 49153 [b,c])
def a7d:List AV->CM:=a2 fun a b=>zf 28 0 a fun c=>zl 23 c fun c=>zt 23 c fun d=>zg 49154 [a,b,c,d,z1]
def a0M:List AV->CM:=a5 fun a b c d e=>zb .lss 3 e d fun f=>zC f ( zg 49155 [a,b,c,d,e]) ( zg 49157 [a,b])
def a7e:List AV->CM:=a5 fun a b c d e=>zi 23 c e fun f=>zl 56 f fun f=>za [z3,z1,z1,z2] fun g=>zs g f 4<|zn b fun f=>zf 94 1 f fun f=>zl 90 f fun f=>zf 56 0 g fun h=>zl 9 h fun h=>zl 56 g fun g=>zk 39 [f,h,g] fun _=>zg 49156 [a,b,c,d,e]
def a7f:List AV->CM:=a5 fun a b c d e=>zb .add 3 e z4 fun e=>zg 49154 [a,b,c,d,e]
def a7g:List AV->CM:=a2 fun a b=>zf 28 1 a fun c=>zl 24 c fun c=>zt 24 c fun d=>zg 49158 [a,b,c,d,z1]
def a0N:List AV->CM:=a5 fun a b c d e=>zb .lss 3 e d fun f=>zC f ( zg 49159 [a,b,c,d,e]) ( zg 49161 [a,b])
def a7h:List AV->CM:=a5 fun a b c d e=>zi 24 c e fun f=>zl 74 f fun f=>za [z3,z3,z1,z2,z1,z1,z2,z1,z2] fun g=>zs g f 9<|zn b fun f=>zf 94 2 f fun f=>zl 91 f fun f=>zf 74 0 g fun h=>zl 9 h fun h=>zf 74 1 g fun i=>zl 9 i fun i=>zb .add 9 h i fun h=>zl 74 g fun g=>zk 40 [f,h,g] fun _=>zg 49160 [a,b,c,d,e]
def a7i:List AV->CM:=a5 fun a b c d e=>zb .add 3 e z4 fun e=>zg 49158 [a,b,c,d,e]
def a7j:List AV->CM:=a2 fun a b=>zf 28 2 a fun c=>zl 25 c fun c=>zt 25 c fun d=>zg 49162 [a,b,c,d,z1]
def j0f:List AV->CM:=a5 fun a b c d e=>zb .lss 3 e d fun f=>zC f ( zg 49163 [a,b,c,d,e]) ( zg 49165 [a,b])
def j8f:List AV->CM:=a5 fun a b c d e=>zi 25 c e fun f=>zl 54 f fun f=>za [z2,z3,z1,z2] fun g=>zs g f 4<|zn b fun f=>zf 94 3 f fun f=>zl 92 f fun f=>zf 54 0 g fun h=>zl 26 h fun h=>zl 54 g fun g=>zk 41 [f,h,g] fun _=>zg 49164 [a,b,c,d,e]
def j8g:List AV->CM:=a5 fun a b c d e=>zb .add 3 e z4 fun e=>zg 49162 [a,b,c,d,e]
def j8h:List AV->CM:=a2 fun a b=>zf 28 3 a fun a=>zl 26 a fun a=>zn b fun c=>zf 94 4 c fun c=>zs c a 1<|zR (.tup [b,z1])
def f12:List AV->CM:=a2 fun a b=>zo a fun a=>zl 28 a fun c=>zk 14 [c,b] fun c=>zu c fun c=>zC c ( zR (.tup [(.ptr none),z4])) ( zg 49152 [b,a])
def a7k:List AV->CM:=a1 fun a=>zk 42 [a,(.str [69,85,82]),(.int .u64 2)] fun b=>zk 42 [a,(.str [69,85,82]),(.int .u64 2)] fun c=>zk 43 [a,(.str [69,85,82])] fun d=>ze 0 d fun e=>ze 1 d fun d=>zk 43 [a,(.str [85,83,68])] fun f=>ze 0 f fun _=>ze 1 f fun f=>zk 18 [(.int .i64 1000),(.int .i64 2)] fun g=>zk 44 [a,(.int .u64 1),g] fun g=>zk 45 [a,(.str [69,85,82])] fun a=>ze 0 a fun h=>ze 1 a fun a=>za [z1,z2,z1] fun i=>zs i h 3<|zb .eql 35 b z1 fun b=>zI b ( zb .eql 35 c (.int .i64 45) fun b=>zI b ( zb .eql 26 e (.int .u64 1) fun b=>zI b ( zb .eql 35 d z1 fun b=>zI b ( zb .eql 35 f (.int .i64 41) fun b=>zI b ( zb .eql 35 g z1 fun b=>zI b ( zb .eql 35 a z1 fun a=>zI a ( zl 45 i fun a=>zk 18 [(.int .i64 (-1000)),(.int .i64 2)] fun b=>zm fun c=>zx 45 i c a<|zb .eql 45 a b fun a=>zR a) ( zR (.bool false))) ( zR (.bool false))) ( zR (.bool false))) ( zR (.bool false))) ( zR (.bool false))) ( zR (.bool false))) ( zR (.bool false))
theorem j3X:OkG H a7k 53248:=c1 fun _ _=>by kernel_rfl
def f13:List AV->CM:=a0<|zk 38 [(.int .i64 4)] fun a=>ze 0 a fun b=>ze 1 a fun a=>zb .neq 35 a z1 fun a=>zI a ( zR (.bool false)) ( zb .eql 34 b (.ptr none) fun a=>zC a ( zR (.bool false)) ( zg 53248 [b]))
theorem a5o (h:H 13=none):OkF H f13 13:=e0 h rfl fun _=>by kernel_rfl
def a7l:List AV->CM:=a1 fun a=>zf 28 0 a fun b=>zl 23 b fun b=>zt 23 b fun c=>zg 57345 [a,b,c,z1]
def a0O:List AV->CM:=a4 fun a b c d=>zb .lss 3 d c fun e=>zC e ( zg 57346 [a,b,c,d]) ( zg 57348 [a])
def q9E:List AV->CM:=a4 fun a b c d=>zi 23 b d fun e=>zl 56 e fun e=>za [z3,z1,z1,z2] fun f=>zs f e 4<|zf 56 0 f fun e=>zl 9 e fun e=>zk 46 [e] fun e=>zu e fun e=>zI e ( zR (.bool false)) ( zb .gtr 3 d z1 fun e=>zI e ( zf 28 0 a fun e=>zl 23 e fun e=>zb .sub 3 d z4 fun g=>zi 23 e g fun e=>zf 56 0 e fun e=>zl 9 e fun e=>zf 56 0 f fun g=>zl 9 g fun g=>zb .geq 9 e g fun e=>zI e ( zR (.bool false)) ( zf 56 1 f fun e=>zl 3 e fun e=>zb .lss 3 e z1 fun e=>zI e ( zR (.bool false)) ( zf 56 1 f fun e=>zl 3 e fun e=>zb .gtr 3 e (.int .i64 18) fun e=>zC e ( zR (.bool false)) ( zg 57347 [a,b,c,d])))) ( zf 56 1 f fun e=>zl 3 e fun e=>zb .lss 3 e z1 fun e=>zI e ( zR (.bool false)) ( zf 56 1 f fun e=>zl 3 e fun e=>zb .gtr 3 e (.int .i64 18) fun e=>zC e ( zR (.bool false)) ( zg 57347 [a,b,c,d]))))
def a7m:List AV->CM:=a4 fun a b c d=>zb .add 3 d z4 fun d=>zg 57345 [a,b,c,d]
def j30:List AV->CM:=a1 fun a=>zl 28 a fun b=>zk 47 [b] fun b=>zu b fun b=>zI b ( zR (.bool false)) ( zl 28 a fun b=>zk 48 [b] fun b=>zu b fun b=>zC b ( zR (.bool false)) ( zg 57349 [a]))
def a7n:List AV->CM:=a1 fun a=>zf 28 0 a fun b=>zl 23 b fun b=>zt 23 b fun c=>zg 57350 [a,b,c,z1]
def j32:List AV->CM:=a4 fun a b c d=>zb .lss 3 d c fun e=>zC e ( zg 57351 [a,b,c,d]) ( zg 57353 [])
def a0P:List AV->CM:=a4 fun a b c d=>zi 23 b d fun e=>zl 56 e fun e=>za [z3,z1,z1,z2] fun f=>zs f e 4<|zl 28 a fun e=>zl 56 f fun f=>zk 49 [e,f] fun e=>zu e fun e=>zC e ( zR (.bool false)) ( zg 57352 [a,b,c,d])
def a7o:List AV->CM:=a4 fun a b c d=>zb .add 3 d z4 fun d=>zg 57350 [a,b,c,d]
def a7p:List AV->CM:=a0<|zR (.bool true)
def f14:List AV->CM:=a2 fun a b=>zo a fun a=>zb .lss 3 b z4 fun c=>zI c ( zR (.bool false)) ( zb .gtr 3 b (.int .i64 64) fun c=>zI c ( zR (.bool false)) ( zf 28 0 a fun c=>zl 23 c fun c=>zt 23 c fun c=>zb .gtr 3 c (.int .i64 8) fun c=>zI c ( zR (.bool false)) ( zf 28 2 a fun c=>zl 25 c fun c=>zt 25 c fun c=>zb .gtr 3 c b fun b=>zC b ( zR (.bool false)) ( zg 57344 [a]))))
def a7q:List AV->CM:=a2 fun a b=>zg 61441 [a,b,z1]
def a0Q:List AV->CM:=a3 fun a b c=>zf 28 0 a fun d=>zl 23 d fun d=>zt 23 d fun d=>zb .lss 3 c d fun d=>zC d ( zg 61442 [a,b,c]) ( zg 61444 [a,b])
def a7r:List AV->CM:=a3 fun a b c=>zf 28 0 a fun d=>zl 23 d fun d=>zi 23 d c fun d=>zl 56 d fun d=>zf 28 0 b fun e=>zl 23 e fun e=>zi 23 e c fun e=>zl 56 e fun e=>zb .neq 56 d e fun d=>zC d ( zR (.bool false)) ( zg 61443 [a,b,c])
def a7s:List AV->CM:=a3 fun a b c=>zb .add 3 c z4 fun c=>zg 61441 [a,b,c]
def a7t:List AV->CM:=a2 fun a b=>zg 61445 [a,b,z1]
def a0R:List AV->CM:=a3 fun a b c=>zf 28 1 a fun d=>zl 24 d fun d=>zt 24 d fun d=>zb .lss 3 c d fun d=>zC d ( zg 61446 [a,b,c]) ( zg 61448 [a,b])
def a7u:List AV->CM:=a3 fun a b c=>zf 28 1 a fun d=>zl 24 d fun d=>zi 24 d c fun d=>zl 74 d fun d=>zf 28 1 b fun e=>zl 24 e fun e=>zi 24 e c fun e=>zl 74 e fun e=>zb .neq 74 d e fun d=>zC d ( zR (.bool false)) ( zg 61447 [a,b,c])
def a7v:List AV->CM:=a3 fun a b c=>zb .add 3 c z4 fun c=>zg 61445 [a,b,c]
def a7w:List AV->CM:=a2 fun a b=>zg 61449 [a,b,z1]
def a0S:List AV->CM:=a3 fun a b c=>zf 28 2 a fun d=>zl 25 d fun d=>zt 25 d fun d=>zb .lss 3 c d fun d=>zC d ( zg 61450 [a,b,c]) ( zg 61452 [])
def j8z:List AV->CM:=a3 fun a b c=>zf 28 2 a fun d=>zl 25 d fun d=>zi 25 d c fun d=>zl 54 d fun d=>zf 28 2 b fun e=>zl 25 e fun e=>zi 25 e c fun e=>zl 54 e fun e=>zb .neq 54 d e fun d=>zC d ( zR (.bool false)) ( zg 61451 [a,b,c])
def j8A:List AV->CM:=a3 fun a b c=>zb .add 3 c z4 fun c=>zg 61449 [a,b,c]
def j8B:List AV->CM:=a0<|zR (.bool true)
def f15:List AV->CM:=a2 fun a b=>zo a fun a=>zo b fun b=>zf 28 0 a fun c=>zl 23 c fun c=>zt 23 c fun c=>zf 28 0 b fun d=>zl 23 d fun d=>zt 23 d fun d=>zb .neq 3 c d fun c=>zI c ( zR (.bool false)) ( zf 28 1 a fun c=>zl 24 c fun c=>zt 24 c fun c=>zf 28 1 b fun d=>zl 24 d fun d=>zt 24 d fun d=>zb .neq 3 c d fun c=>zI c ( zR (.bool false)) ( zf 28 2 a fun c=>zl 25 c fun c=>zt 25 c fun c=>zf 28 2 b fun d=>zl 25 d fun d=>zt 25 d fun d=>zb .neq 3 c d fun c=>zI c ( zR (.bool false)) ( zf 28 3 a fun c=>zl 26 c fun c=>zf 28 3 b fun d=>zl 26 d fun d=>zb .neq 26 c d fun c=>zC c ( zR (.bool false)) ( zg 61440 [a,b]))))
def a7x:List AV->CM:=a10 fun a b c d e f g h i j=>CM.rng (.fn (q1x (EH fun _=>none) 16)) g (q0C (EH fun _=>none) 16 0 ([a,.undef,b,c,.undef,d,.undef,e,.undef,f,.undef,.undef,.undef,.undef,.undef,.undef,.undef,.undef,.undef,g,.undef,h,.undef,.undef,.undef,.undef,.undef,.undef,.undef,.undef,.undef,.undef,.undef,.undef,i,.undef,.undef,.undef,.undef,.undef,.undef,.undef,.undef,.undef,.undef,.undef,.undef,j]++List.replicate 7 .undef)) 65536 [a,b,c,d,e,f,g,h,i,j]
def a7y:List AV->CM:=a7 fun a b c d e f g=>zn a fun h=>zf 94 2 h fun h=>zl 91 h fun h=>zk 51 [h] fun h=>zg 65539 [a,b,c,d,e,h,f,g]
def a7z:List AV->CM:=a8 fun a b c d e f g h=>CM.rng (.fn (q1x (EH fun _=>none) 16)) f (q0C (EH fun _=>none) 16 1 ([a,.undef,b,c,.undef,.undef,.undef,d,.undef,e,.undef,.undef,.undef,.undef,.undef,.undef,.undef,.undef,.undef,.undef,.undef,.undef,.undef,.undef,.undef,.undef,.undef,.undef,.undef,.undef,.undef,.undef,f,.undef,g,.undef,.undef,.undef,.undef,.undef,.undef,.undef,.undef,.undef,.undef,.undef,.undef,h]++List.replicate 7 .undef)) 65537 [a,b,c,d,e,f,g,h]
def a7A:List AV->CM:=a5 fun a b c d e=>zn a fun a=>zf 94 3 a fun a=>zl 92 a fun a=>zk 52 [a] fun a=>zg 65542 [b,c,d,a,e]
def a7B:List AV->CM:=a5 fun a b c d e=>CM.rng (.fn (q1x (EH fun _=>none) 16)) d (q0C (EH fun _=>none) 16 2 ([.undef,.undef,a,b,.undef,.undef,.undef,.undef,.undef,c,.undef,.undef,.undef,.undef,.undef,.undef,.undef,.undef,.undef,.undef,.undef,.undef,.undef,.undef,.undef,.undef,.undef,.undef,.undef,.undef,.undef,.undef,.undef,.undef,.undef,.undef,.undef,.undef,.undef,.undef,.undef,.undef,.undef,.undef,.undef,d,.undef,e]++List.replicate 7 .undef)) 65538 [a,b,c,d,e]
def a7C:List AV->CM:=a2 fun a b=>zl 28 b fun b=>zs a b 4<|zr [.cell 0 28] [a]
def q6m:List AV->CM:=a10 fun a b c _ d e _ _ f g=>zg 65538 [a,b,c,d,e,f,g]
theorem z0a:EqD (Rl H) q6m (fun xs m=>afR (EH H) Nk 65536 none xs m):=sE fun _=>sE fun _=>sE fun _=>sE fun _=>sE fun _=>sE fun _=>sE fun _=>sE fun _=>sE fun _=>sE fun _=>zE fun _=>z8G 400 (by kernel_rfl)
def q6n:List AV->CM:=a8 fun a b c _ d _ _ e=>zg 65541 [a,b,c,d,e]
theorem z0c:EqD (Rl H) q6n (fun xs m=>afR (EH H) Nk 65537 none xs m):=sE fun _=>sE fun _=>sE fun _=>sE fun _=>sE fun _=>sE fun _=>sE fun _=>sE fun _=>zE fun _=>z8G 400 (by kernel_rfl)
def q6o:List AV->CM:=a5 fun a b _ _ _=>zg 65544 [a,b]
theorem z0e:EqD (Rl H) q6o (fun xs m=>afR (EH H) Nk 65538 none xs m):=sE fun _=>sE fun _=>sE fun _=>sE fun _=>sE fun _=>zE fun _=>z8G 400 (by kernel_rfl)
def f16:List AV->CM:=a1 fun a=>za [z0,z0,z0,z2] fun b=>zn a fun c=>zf 94 4 c fun c=>zl 26 c fun c=>zd 28 [(3,c)] fun c=>za [z0,z0,z0,z2] fun d=>zs d c 4<|zn a fun c=>zf 94 1 c fun c=>zl 90 c fun c=>zk 50 [c] fun c=>zg 65536 [a,b,d,.undef,.undef,.undef,c,.undef,.undef,.undef]
def a7D:List AV->CM:=a3 fun a b c=>zf 54 2 b fun b=>zl 43 b fun b=>zf 56 1 c fun c=>zl 3 c fun c=>zd 45 [(0,b),(1,c)] fun b=>zs a b 3<|zr [.cell 0 45,.tmp 1] [a,z1]
def f17:List AV->CM:=a2 fun a b=>za [z1,z2,z1] fun c=>zk 53 [a,b] fun a=>ze 0 a fun b=>ze 1 a fun d=>ze 2 a fun a=>za [z2,z3,z1,z2] fun e=>za [z3,z1,z1,z2] fun f=>zs e b 4<|zs f d 4<|zb .neq 35 a z1 fun b=>zC b ( zd 45 [] fun b=>zs c b 3<|zr [.cell 0 45,.tmp 1] [c,a]) ( zg 69632 [c,e,f])
def f18:List AV->CM:=a2 fun a b=>za [z1,z2,z1] fun c=>zk 54 [a] fun a=>zd 45 [(0,a),(1,b)] fun a=>zs c a 3<|zr [.cell 0 45] [c]
theorem a5r (h:H 18=none):OkF H f18 18:=e2 h rfl fun _ _ _=>by kernel_rfl
def j1i:List AV->CM:=a5 fun a b c d e=>zl 56 d fun d=>zl 45 b fun f=>zk 55 [d,f] fun d=>zb .eql 35 d z1 fun f=>zI f ( zl 54 c fun f=>zl 45 b fun g=>zk 56 [f,g] fun f=>zC f ( zg 77825 [a,b,c,(.int .i64 42),e]) ( zg 77825 [a,b,c,d,e])) ( zg 77825 [a,b,c,d,e])
def j1j:List AV->CM:=a5 fun a b c d e=>zb .eql 35 d z1 fun f=>zC f ( zf 54 2 c fun f=>zf 54 2 e fun g=>zf 45 0 b fun b=>zl 43 b fun b=>zk 57 [f,g,b] fun b=>zg 77826 [a,c,b,e]) ( zg 77826 [a,c,d,e])
def j1k:List AV->CM:=a4 fun a b c d=>zb .eql 35 c z1 fun e=>zC e ( zl 54 b fun b=>zk 58 [a,b] fun _=>zl 54 d fun b=>zk 58 [a,b] fun _=>zg 77827 [c]) ( zg 77827 [c])
def j1l:List AV->CM:=a1 fun a=>zR a
def f19:List AV->CM:=a4 fun a b c d=>zo d fun d=>zk 53 [a,b] fun e=>ze 0 e fun f=>ze 1 e fun g=>ze 2 e fun e=>za [z2,z3,z1,z2] fun h=>za [z3,z1,z1,z2] fun i=>zs h f 4<|zs i g 4<|zk 53 [a,c] fun f=>ze 0 f fun g=>ze 1 f fun j=>ze 2 f fun f=>za [z2,z3,z1,z2] fun k=>za [z3,z1,z1,z2] fun l=>zs k g 4<|zs l j 4<|zb .neq 35 e z1 fun g=>zC g ( zR e) ( zb .neq 35 f z1 fun e=>zC e ( zR f) ( zb .eql 26 b c fun b=>zC b ( zR (.int .i64 45)) ( zf 56 0 i fun b=>zl 9 b fun b=>zf 56 0 l fun c=>zl 9 c fun c=>zb .neq 9 b c fun b=>zC b ( zR (.int .i64 41)) ( zg 77824 [a,d,h,i,k]))))
def a0T:List AV->CM:=a0<|zR z4
def f20:List AV->CM:=a2 fun a b=>zo a fun a=>zo b fun b=>zf 43 0 a fun c=>zl 2 c fun c=>zf 43 0 b fun d=>zl 2 d fun d=>zb .lss 2 c d fun c=>zI c ( zR (.int .i64 (-1))) ( zf 43 0 a fun c=>zl 2 c fun c=>zf 43 0 b fun d=>zl 2 d fun d=>zb .eql 2 c d fun c=>zI c ( zf 43 1 a fun c=>zl 26 c fun c=>zf 43 1 b fun d=>zl 26 d fun d=>zb .lss 26 c d fun c=>zC c ( zR (.int .i64 (-1))) ( zl 43 a fun c=>zl 43 b fun d=>zb .eql 43 c d fun c=>zC c ( zR z1) ( zg 81920 []))) ( zl 43 a fun a=>zl 43 b fun b=>zb .eql 43 a b fun a=>zC a ( zR z1) ( zg 81920 [])))
def a0U:List AV->CM:=a3 fun a b c=>zc 26 2 c fun c=>zd 43 [(0,c),(1,b)] fun b=>zs a b 2<|zr [.cell 0 43,.tmp 1] [a,z1]
theorem z4X:OkG H a0U 86016:=c3 fun _ _ _ _=>by kernel_rfl
def f21:List AV->CM:=a2 fun a b=>zo a fun a=>zo b fun b=>za [z1,z2] fun c=>zf 43 1 a fun d=>zl 26 d fun d=>zf 43 1 b fun e=>zl 26 e fun e=>zk 59 [d,e,z2] fun d=>ze 0 d fun e=>ze 1 d fun d=>zf 43 0 a fun f=>zl 2 f fun f=>zc 2 26 f fun f=>zf 43 0 b fun g=>zl 2 g fun g=>zc 2 26 g fun g=>zk 59 [f,g,d] fun d=>ze 0 d fun f=>ze 1 d fun _=>zf 43 0 a fun d=>zl 2 d fun d=>zb .lss 2 d z1 fun d=>zf 43 0 b fun b=>zl 2 b fun b=>zb .lss 2 b z1 fun b=>zb .eql 4 d b fun b=>zI b ( zc 26 2 f fun b=>zb .lss 2 b z1 fun b=>zf 43 0 a fun a=>zl 2 a fun a=>zb .lss 2 a z1 fun a=>zb .neq 4 b a fun a=>zC a ( zd 43 [] fun a=>zs c a 2<|zr [.cell 0 43,.tmp 1] [c,(.int .i64 20)]) ( zg 86016 [c,e,f])) ( zg 86016 [c,e,f])
theorem j7p (h:H 21=none):OkF H f21 21:=e2 h rfl fun _ _ _=>by kernel_rfl
end
end
section
open Go Go.Abs Go.Proofs.YtlginbmjiecglaaGreatDoor
set_option maxRecDepth 10000
noncomputable section
variable {H:FuncId->Option (List AV->Mem->R)}
def a0V:List AV->CM:=a3 fun a b c=>zc 26 2 c fun c=>zd 43 [(0,c),(1,b)] fun b=>zs a b 2<|zr [.cell 0 43,.tmp 1] [a,z1]
theorem z4Y:OkG H a0V 90112:=c3 fun _ _ _ _=>by kernel_rfl
def f22:List AV->CM:=a2 fun a b=>zo a fun a=>zo b fun b=>za [z1,z2] fun c=>zf 43 1 a fun d=>zl 26 d fun d=>zf 43 1 b fun e=>zl 26 e fun e=>zk 60 [d,e,z2] fun d=>ze 0 d fun e=>ze 1 d fun d=>zf 43 0 a fun f=>zl 2 f fun f=>zc 2 26 f fun f=>zf 43 0 b fun g=>zl 2 g fun g=>zc 2 26 g fun g=>zk 60 [f,g,d] fun d=>ze 0 d fun f=>ze 1 d fun _=>zf 43 0 a fun d=>zl 2 d fun d=>zb .lss 2 d z1 fun d=>zf 43 0 b fun b=>zl 2 b fun b=>zb .lss 2 b z1 fun b=>zb .neq 4 d b fun b=>zI b ( zc 26 2 f fun b=>zb .lss 2 b z1 fun b=>zf 43 0 a fun a=>zl 2 a fun a=>zb .lss 2 a z1 fun a=>zb .neq 4 b a fun a=>zC a ( zd 43 [] fun a=>zs c a 2<|zr [.cell 0 43,.tmp 1] [c,(.int .i64 20)]) ( zg 90112 [c,e,f])) ( zg 90112 [c,e,f])
theorem j7q (h:H 22=none):OkF H f22 22:=e2 h rfl fun _ _ _=>by kernel_rfl
def z7s:List AV->CM:=a2 fun a b=>zb .eql 35 a b fun b=>zR (.tup [b,a])
abbrev z4y (a:AV) (b:AV) (c:AV) (d:AV):CM:=
 zb .eql 3 a (.int .i64 7) fun e=>zC e ( zf 65 1 b fun e=>zl 26 e fun e=>zf 65 5 b fun f=>zl 45 f fun f=>zk 61 [c,e,f] fun e=>zf 65 1 b fun f=>zl 26 f fun f=>zf 65 5 b fun g=>zl 45 g fun g=>zk 31 [d,f,g] fun f=>zg 94208 [e,f]) ( zb .eql 3 a (.int .i64 8) fun e=>zC e ( zf 65 1 b fun e=>zl 26 e fun e=>zf 65 2 b fun f=>zl 26 f fun f=>zf 65 5 b fun g=>zl 45 g fun g=>zk 19 [c,e,f,g] fun e=>zf 65 1 b fun f=>zl 26 f fun f=>zf 65 2 b fun g=>zl 26 g fun g=>zf 65 5 b fun h=>zl 45 h fun h=>zk 32 [d,f,g,h] fun f=>zg 94208 [e,f]) ( zb .eql 3 a (.int .i64 9) fun e=>zC e ( zf 65 3 b fun e=>zl 9 e fun e=>zf 65 4 b fun f=>zl 9 f fun f=>zf 65 5 b fun g=>zl 45 g fun g=>zk 62 [c,e,f,g] fun e=>zf 65 3 b fun f=>zl 9 f fun f=>zf 65 4 b fun g=>zl 9 g fun g=>zf 65 5 b fun h=>zl 45 h fun h=>zk 33 [d,f,g,h] fun f=>zg 94208 [e,f]) ( zb .eql 3 a (.int .i64 10) fun e=>zC e ( zC e ( zf 65 1 b fun e=>zl 26 e fun e=>zf 65 2 b fun f=>zl 26 f fun f=>zf 65 5 b fun g=>zl 45 g fun g=>zk 63 [c,e,f,g] fun e=>ze 0 e fun f=>ze 1 e fun e=>za [z1,z2,z1] fun g=>zs g f 3<|zf 65 1 b fun f=>zl 26 f fun f=>zf 65 2 b fun h=>zl 26 h fun h=>zf 65 5 b fun i=>zl 45 i fun i=>zk 34 [d,f,h,i] fun f=>ze 0 f fun h=>ze 1 f fun f=>za [z1,z2,z1] fun i=>zs i h 3<|zl 45 g fun g=>zl 45 i fun h=>zb .eql 45 g h fun g=>zI g ( zb .eql 35 e f fun f=>zR (.tup [f,e])) ( zR (.tup [(.bool false),e]))) ( zb .eql 3 a (.int .i64 12) fun e=>zC e ( zf 65 1 b fun e=>zl 26 e fun e=>zk 17 [c,e] fun e=>ze 0 e fun f=>ze 1 e fun e=>za [z1,z2,z1] fun g=>zs g f 3<|zf 65 1 b fun f=>zl 26 f fun f=>zk 64 [d,f] fun f=>ze 0 f fun h=>ze 1 f fun f=>za [z1,z2,z1] fun i=>zs i h 3<|zl 45 g fun g=>zl 45 i fun h=>zb .eql 45 g h fun g=>zI g ( zb .eql 35 e f fun f=>zR (.tup [f,e])) ( zR (.tup [(.bool false),e]))) ( zb .eql 3 a (.int .i64 13) fun e=>zC e ( zf 65 3 b fun e=>zl 9 e fun e=>zk 45 [c,e] fun e=>ze 0 e fun f=>ze 1 e fun e=>za [z1,z2,z1] fun g=>zs g f 3<|zf 65 3 b fun f=>zl 9 f fun f=>zk 65 [d,f] fun f=>ze 0 f fun h=>ze 1 f fun f=>za [z1,z2,z1] fun i=>zs i h 3<|zl 45 g fun g=>zl 45 i fun h=>zb .eql 45 g h fun g=>zI g ( zb .eql 35 e f fun f=>zR (.tup [f,e])) ( zR (.tup [(.bool false),e]))) ( zb .eql 3 a (.int .i64 14) fun e=>zC e ( zf 65 3 b fun e=>zl 9 e fun e=>zf 65 4 b fun f=>zl 9 f fun f=>zk 66 [c,e,f] fun e=>ze 0 e fun f=>ze 1 e fun e=>za [z1,z2,z1] fun g=>zs g f 3<|zf 65 3 b fun f=>zl 9 f fun f=>zf 65 4 b fun h=>zl 9 h fun h=>zk 67 [d,f,h] fun f=>ze 0 f fun h=>ze 1 f fun f=>za [z1,z2,z1] fun i=>zs i h 3<|zl 45 g fun g=>zl 45 i fun h=>zb .eql 45 g h fun g=>zI g ( zb .eql 35 e f fun f=>zR (.tup [f,e])) ( zR (.tup [(.bool false),e]))) ( zf 65 1 b fun e=>zl 26 e fun e=>zf 65 5 b fun f=>zl 45 f fun f=>zk 44 [c,e,f] fun e=>
 zf 65 1 b fun f=>zl 26 f fun f=>zf 65 5 b fun g=>zl 45 g fun g=>zk 29 [d,f,g] fun f=>zg 94208 [e,f]))))) ( zb .eql 3 a (.int .i64 11) fun e=>zC e ( zf 65 1 b fun e=>zl 26 e fun e=>zf 65 2 b fun f=>zl 26 f fun f=>zf 65 5 b fun g=>zl 45 g fun g=>zk 63 [c,e,f,g] fun e=>ze 0 e fun f=>ze 1 e fun e=>za [z1,z2,z1] fun g=>zs g f 3<|zf 65 1 b fun f=>zl 26 f fun f=>zf 65 2 b fun h=>zl 26 h fun h=>zf 65 5 b fun i=>zl 45 i fun i=>zk 34 [d,f,h,i] fun f=>ze 0 f fun h=>ze 1 f fun f=>za [z1,z2,z1] fun i=>zs i h 3<|zl 45 g fun g=>zl 45 i fun h=>zb .eql 45 g h fun g=>zI g ( zb .eql 35 e f fun f=>zR (.tup [f,e])) ( zR (.tup [(.bool false),e]))) ( zb .eql 3 a (.int .i64 12) fun e=>zC e ( zf 65 1 b fun e=>zl 26 e fun e=>zk 17 [c,e] fun e=>ze 0 e fun f=>ze 1 e fun e=>za [z1,z2,z1] fun g=>zs g f 3<|zf 65 1 b fun f=>zl 26 f fun f=>zk 64 [d,f] fun f=>ze 0 f fun h=>ze 1 f fun f=>za [z1,z2,z1] fun i=>zs i h 3<|zl 45 g fun g=>zl 45 i fun h=>zb .eql 45 g h fun g=>zI g ( zb .eql 35 e f fun f=>zR (.tup [f,e])) ( zR (.tup [(.bool false),e]))) ( zb .eql 3 a (.int .i64 13) fun e=>zC e ( zf 65 3 b fun e=>zl 9 e fun e=>zk 45 [c,e] fun e=>ze 0 e fun f=>ze 1 e fun e=>za [z1,z2,z1] fun g=>zs g f 3<|zf 65 3 b fun f=>zl 9 f fun f=>zk 65 [d,f] fun f=>ze 0 f fun h=>ze 1 f fun f=>za [z1,z2,z1] fun i=>zs i h 3<|zl 45 g fun g=>zl 45 i fun h=>zb .eql 45 g h fun g=>zI g ( zb .eql 35 e f fun f=>zR (.tup [f,e])) ( zR (.tup [(.bool false),e]))) ( zb .eql 3 a (.int .i64 14) fun a=>zC a ( zf 65 3 b fun a=>zl 9 a fun a=>zf 65 4 b fun e=>zl 9 e fun e=>zk 66 [c,a,e] fun a=>ze 0 a fun e=>ze 1 a fun a=>za [z1,z2,z1] fun f=>zs f e 3<|zf 65 3 b fun e=>zl 9 e fun e=>zf 65 4 b fun g=>zl 9 g fun g=>zk 67 [d,e,g] fun e=>ze 0 e fun g=>ze 1 e fun e=>za [z1,z2,z1] fun h=>zs h g 3<|zl 45 f fun f=>zl 45 h fun g=>zb .eql 45 f g fun f=>zI f ( zb .eql 35 a e fun e=>zR (.tup [e,a])) ( zR (.tup [(.bool false),a]))) ( zf 65 1 b fun a=>zl 26 a fun a=>zf 65 5 b fun e=>zl 45 e fun e=>zk 44 [c,a,e] fun a=>zf 65 1 b fun c=>zl 26 c fun c=>zf 65 5 b fun b=>zl 45 b fun b=>zk 29 [d,c,b] fun b=>zg 94208 [a,b]))))))))
abbrev z4z (a:AV) (b:AV) (c:AV):CM:=
 zf 65 3 a fun d=>zl 9 d fun d=>zk 43 [b,d] fun b=>ze 0 b fun d=>ze 1 b fun b=>zf 65 3 a fun a=>zl 9 a fun a=>zk 28 [c,a] fun a=>ze 0 a fun c=>ze 1 a fun a=>zb .eql 26 d c fun c=>zI c ( zb .eql 35 b a fun a=>zR (.tup [a,b])) ( zR (.tup [(.bool false),b]))
abbrev j7r (a:AV) (b:AV) (c:AV):CM:=
 zf 65 3 a fun d=>zl 9 d fun d=>zf 65 1 a fun e=>zl 26 e fun e=>zb .sub 26 e (.int .u64 1) fun e=>zk 42 [b,d,e] fun b=>zf 65 3 a fun d=>zl 9 d fun d=>zf 65 1 a fun a=>zl 26 a fun a=>zb .sub 26 a (.int .u64 1) fun a=>zk 27 [c,d,a] fun a=>zg 94208 [b,a]
def f23:List AV->CM:=a3 fun a b c=>zo c fun c=>zf 65 0 c fun d=>zl 3 d fun d=>zk 10 [d,(.int .i64 15)] fun d=>zb .eql 3 d z1 fun e=>zC e ( zC e (
 j7r c a b) ( zb .eql 3 d (.int .i64 2) fun e=>zC e ( zC e (
 z4z c a b) (
 z4y d c a b)) ( zb .eql 3 d (.int .i64 3) fun e=>zC e (
 z4z c a b) (
 z4y d c a b)))) ( zb .eql 3 d z4 fun e=>zC e (
 j7r c a b) ( zb .eql 3 d (.int .i64 2) fun e=>zC e ( zC e (
 z4z c a b) (
 z4y d c a b)) ( zb .eql 3 d (.int .i64 3) fun e=>zC e (
 z4z c a b) (
 z4y d c a b))))
end
end
end Go.Proofs.YtlginbmjiecglaaGreatDoor.T
