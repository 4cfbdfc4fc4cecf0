/- Functions as trees, printed by our own program (wip/tools/gen3.lean). -/
import Derived.Test.YtfiipajgdhafaaaGreatT0
namespace Go.Proofs.YtfiipajgdhafaaaGreat.T
open Go Go.Abs Go.Proofs.YtfiipajgdhafaaaGreat
set_option maxRecDepth 10000
noncomputable def f82 : List AV → CM := apS fun a0 => ap0 <|
CM.al (boxA a0) fun x0 =>
CM.al (some (.cells [(.sl none 0 0 0 true), (.sl none 0 0 0 true), (.sl none 0 0 0 true), (.int .u64 0)] false, pB)) fun x1 =>
CM.al (some (.cells [(.sl none 0 0 0 true), (.sl none 0 0 0 true), (.sl none 0 0 0 true), (.int .u64 0)] false, pB)) fun x2 =>
CM.rm (q1 (loadA Tryz.prog 170) x0 ) fun x3 =>
CM.call 123 [x3, (.int .u64 8), (.fn (.func 124) [] [x0, x2])] fun _ =>
CM.rm (q1 (loadA Tryz.prog 170) x0 ) fun x5 =>
CM.call 123 [x5, (.int .u64 64), (.fn (.func 127) [] [x0, x2])] fun _ =>
CM.rm (q1 (loadA Tryz.prog 170) x0 ) fun x7 =>
CM.pu (p1 nnA x7) fun x8 =>
CM.pu (p1 (fun a => fieldAddrA Tryz.prog 172 a 0) x8) fun x9 =>
CM.rm (q1 (loadA Tryz.prog 106) x9 ) fun x10 =>
CM.call 93 [x10, (.int .u64 18446744073709551615)] fun x11 =>
CM.pu (p1 (fun a => fieldAddrA Tryz.prog 93 a 3) x2) fun x12 =>
CM.st (fun m => stV m x12 x11 1) <|
CM.rm (q1 (loadA Tryz.prog 170) x0 ) fun x14 =>
CM.call 123 [x14, (.int .u64 64), (.fn (.func 128) [] [x0, x2])] fun _ =>
CM.rm (q1 (loadA Tryz.prog 93) x2 ) fun x16 =>
CM.st (fun m => stV m x1 x16 4) <|
CM.resC Tryz.prog [ResultVar.cell 0 93] [x1]
theorem f82_ok : LeD (real E Mk Nk) f82 (fun xs m => run E (.fn 82) xs m) := apS_le fun _ => ap0_le fun _ => run_eq 400 rfl (by kernel_rfl) (by kernel_rfl)
noncomputable def f83 : List AV → CM := apS fun a0 => ap0 <|
CM.al (boxA a0) fun x0 =>
CM.al (some (.cells [(.sl none 0 0 0 true)] false, pB)) fun x1 =>
CM.rm (q1 (loadA Tryz.prog 170) x0 ) fun x2 =>
CM.call 123 [x2, (.int .u64 16), (.fn (.func 129) [] [x0, x1])] fun _ =>
CM.rm (q1 (loadA Tryz.prog 95) x1 ) fun x4 =>
CM.ret x4
theorem f83_ok : LeD (real E Mk Nk) f83 (fun xs m => run E (.fn 83) xs m) := apS_le fun _ => ap0_le fun _ => run_eq 400 rfl (by kernel_rfl) (by kernel_rfl)
noncomputable def g84_0 : List AV → CM := ap0 <|
CM.ret (.bool true)
theorem g84_0_ok : LeD (real E Mk Nk) g84_0 (fun ts m => goR E Mk 344064 ts m) := ap0_le fun _ => goR_eq 400 (by kernel_rfl)
noncomputable def f84 : List AV → CM := apS fun a0 => apS fun a1 => apS fun a2 => ap0 <|
CM.al (boxA a2) fun x0 =>
CM.pu (p1 nnA a0) fun x1 =>
CM.pu (p1 (fun a => fieldAddrA Tryz.prog 208 a 0) x1) fun x2 =>
CM.rm (q1 (loadA Tryz.prog 206) x2 ) fun x3 =>
CM.call 132 [x3, a1] fun x4 =>
CM.pu (p1 (fun a => extractA a 0) x4) fun x5 =>
CM.pu (p1 (fun a => extractA a 1) x4) fun x6 =>
CM.cond x6 (
CM.pu (p1 nnA a0) fun x7 =>
CM.pu (p1 (fun a => fieldAddrA Tryz.prog 208 a 1) x7) fun x8 =>
CM.rm (q1 (loadA Tryz.prog 89) x8 ) fun x9 =>
CM.rm (q1 (loadA Tryz.prog 132) x0 ) fun x10 =>
CM.pu (p2 (indexAddrA Tryz.prog 89) x9 x5) fun x11 =>
CM.st (fun m => stV m x11 x10 4) <|
CM.go 344064 []) (
CM.pu (p1 nnA a0) fun x15 =>
CM.pu (p1 (fun a => fieldAddrA Tryz.prog 208 a 0) x15) fun x16 =>
CM.rm (q1 (loadA Tryz.prog 206) x16 ) fun x17 =>
CM.pu (p1 (lenT Tryz.prog 206) x17) fun x18 =>
CM.pu (p1 nnA a0) fun x19 =>
CM.pu (p1 (fun a => fieldAddrA Tryz.prog 208 a 2) x19) fun x20 =>
CM.rm (q1 (loadA Tryz.prog 3) x20 ) fun x21 =>
CM.pu (p2 (binA Tryz.prog .geq 3) x18 x21) fun x22 =>
CM.cond x22 (
CM.ret (.bool false)) (
CM.pu (p1 nnA a0) fun x23 =>
CM.pu (p1 (fun a => fieldAddrA Tryz.prog 208 a 0) x23) fun x24 =>
CM.rm (q1 (loadA Tryz.prog 206) x24 ) fun x25 =>
CM.al (bsA 1 1 [(.str [])] [(0, a1)]) fun x26 =>
CM.call 133 [x25, x5, x26] fun x27 =>
CM.pu (p1 nnA a0) fun x28 =>
CM.pu (p1 (fun a => fieldAddrA Tryz.prog 208 a 0) x28) fun x29 =>
CM.st (fun m => stV m x29 x27 1) <|
CM.pu (p1 nnA a0) fun x31 =>
CM.pu (p1 (fun a => fieldAddrA Tryz.prog 208 a 1) x31) fun x32 =>
CM.rm (q1 (loadA Tryz.prog 89) x32 ) fun x33 =>
CM.rm (q1 (loadA Tryz.prog 132) x0 ) fun x34 =>
CM.al (bsA 4 1 [(.str []), (.int .i64 0), (.int .i64 0), (.int .u64 0)] [(0, x34)]) fun x35 =>
CM.call 134 [x33, x5, x35] fun x37 =>
CM.pu (p1 nnA a0) fun x39 =>
CM.pu (p1 (fun a => fieldAddrA Tryz.prog 208 a 1) x39) fun x40 =>
CM.st (fun m => stV m x40 x37 1) <|
CM.go 344064 []))
theorem f84_ok : LeD (real E Mk Nk) f84 (fun xs m => run E (.fn 84) xs m) := apS_le fun _ => apS_le fun _ => apS_le fun _ => ap0_le fun _ => run_eq 400 rfl (by kernel_rfl) (by kernel_rfl)
noncomputable def g85_0 : List AV → CM := ap0 <|
CM.ret (.bool true)
theorem g85_0_ok : LeD (real E Mk Nk) g85_0 (fun ts m => goR E Mk 348160 ts m) := ap0_le fun _ => goR_eq 400 (by kernel_rfl)
noncomputable def f85 : List AV → CM := apS fun a0 => apS fun a1 => apS fun a2 => ap0 <|
CM.al (boxA a2) fun x0 =>
CM.pu (p1 nnA a0) fun x1 =>
CM.pu (p1 (fun a => fieldAddrA Tryz.prog 210 a 0) x1) fun x2 =>
CM.rm (q1 (loadA Tryz.prog 206) x2 ) fun x3 =>
CM.call 132 [x3, a1] fun x4 =>
CM.pu (p1 (fun a => extractA a 0) x4) fun x5 =>
CM.pu (p1 (fun a => extractA a 1) x4) fun x6 =>
CM.cond x6 (
CM.pu (p1 nnA a0) fun x7 =>
CM.pu (p1 (fun a => fieldAddrA Tryz.prog 210 a 1) x7) fun x8 =>
CM.rm (q1 (loadA Tryz.prog 90) x8 ) fun x9 =>
CM.rm (q1 (loadA Tryz.prog 136) x0 ) fun x10 =>
CM.pu (p2 (indexAddrA Tryz.prog 90) x9 x5) fun x11 =>
CM.st (fun m => stV m x11 x10 9) <|
CM.go 348160 []) (
CM.pu (p1 nnA a0) fun x15 =>
CM.pu (p1 (fun a => fieldAddrA Tryz.prog 210 a 0) x15) fun x16 =>
CM.rm (q1 (loadA Tryz.prog 206) x16 ) fun x17 =>
CM.pu (p1 (lenT Tryz.prog 206) x17) fun x18 =>
CM.pu (p1 nnA a0) fun x19 =>
CM.pu (p1 (fun a => fieldAddrA Tryz.prog 210 a 2) x19) fun x20 =>
CM.rm (q1 (loadA Tryz.prog 3) x20 ) fun x21 =>
CM.pu (p2 (binA Tryz.prog .geq 3) x18 x21) fun x22 =>
CM.cond x22 (
CM.ret (.bool false)) (
CM.pu (p1 nnA a0) fun x23 =>
CM.pu (p1 (fun a => fieldAddrA Tryz.prog 210 a 0) x23) fun x24 =>
CM.rm (q1 (loadA Tryz.prog 206) x24 ) fun x25 =>
CM.al (bsA 1 1 [(.str [])] [(0, a1)]) fun x26 =>
CM.call 133 [x25, x5, x26] fun x27 =>
CM.pu (p1 nnA a0) fun x28 =>
CM.pu (p1 (fun a => fieldAddrA Tryz.prog 210 a 0) x28) fun x29 =>
CM.st (fun m => stV m x29 x27 1) <|
CM.pu (p1 nnA a0) fun x31 =>
CM.pu (p1 (fun a => fieldAddrA Tryz.prog 210 a 1) x31) fun x32 =>
CM.rm (q1 (loadA Tryz.prog 90) x32 ) fun x33 =>
CM.rm (q1 (loadA Tryz.prog 136) x0 ) fun x34 =>
CM.al (bsA 9 1 [(.str []), (.str []), (.int .i64 0), (.int .u64 0), (.int .i64 0), (.int .i64 0), (.int .u64 0), (.int .i64 0), (.int .u64 0)] [(0, x34)]) fun x35 =>
CM.call 135 [x33, x5, x35] fun x37 =>
CM.pu (p1 nnA a0) fun x39 =>
CM.pu (p1 (fun a => fieldAddrA Tryz.prog 210 a 1) x39) fun x40 =>
CM.st (fun m => stV m x40 x37 1) <|
CM.go 348160 []))
theorem f85_ok : LeD (real E Mk Nk) f85 (fun xs m => run E (.fn 85) xs m) := apS_le fun _ => apS_le fun _ => apS_le fun _ => ap0_le fun _ => run_eq 400 rfl (by kernel_rfl) (by kernel_rfl)
noncomputable def g86_0 : List AV → CM := ap0 <|
CM.ret (.bool true)
theorem g86_0_ok : LeD (real E Mk Nk) g86_0 (fun ts m => goR E Mk 352256 ts m) := ap0_le fun _ => goR_eq 400 (by kernel_rfl)
noncomputable def f86 : List AV → CM := apS fun a0 => apS fun a1 => apS fun a2 => ap0 <|
CM.al (boxA a2) fun x0 =>
CM.pu (p1 nnA a0) fun x1 =>
CM.pu (p1 (fun a => fieldAddrA Tryz.prog 212 a 0) x1) fun x2 =>
CM.rm (q1 (loadA Tryz.prog 116) x2 ) fun x3 =>
CM.call 136 [x3, a1] fun x4 =>
CM.pu (p1 (fun a => extractA a 0) x4) fun x5 =>
CM.pu (p1 (fun a => extractA a 1) x4) fun x6 =>
CM.cond x6 (
CM.pu (p1 nnA a0) fun x7 =>
CM.pu (p1 (fun a => fieldAddrA Tryz.prog 212 a 1) x7) fun x8 =>
CM.rm (q1 (loadA Tryz.prog 91) x8 ) fun x9 =>
CM.rm (q1 (loadA Tryz.prog 140) x0 ) fun x10 =>
CM.pu (p2 (indexAddrA Tryz.prog 91) x9 x5) fun x11 =>
CM.st (fun m => stV m x11 x10 4) <|
CM.go 352256 []) (
CM.pu (p1 nnA a0) fun x15 =>
CM.pu (p1 (fun a => fieldAddrA Tryz.prog 212 a 0) x15) fun x16 =>
CM.rm (q1 (loadA Tryz.prog 116) x16 ) fun x17 =>
CM.pu (p1 (lenT Tryz.prog 116) x17) fun x18 =>
CM.pu (p1 nnA a0) fun x19 =>
CM.pu (p1 (fun a => fieldAddrA Tryz.prog 212 a 2) x19) fun x20 =>
CM.rm (q1 (loadA Tryz.prog 3) x20 ) fun x21 =>
CM.pu (p2 (binA Tryz.prog .geq 3) x18 x21) fun x22 =>
CM.cond x22 (
CM.ret (.bool false)) (
CM.pu (p1 nnA a0) fun x23 =>
CM.pu (p1 (fun a => fieldAddrA Tryz.prog 212 a 0) x23) fun x24 =>
CM.rm (q1 (loadA Tryz.prog 116) x24 ) fun x25 =>
CM.al (bsA 1 1 [(.int .u64 0)] [(0, a1)]) fun x26 =>
CM.call 137 [x25, x5, x26] fun x27 =>
CM.pu (p1 nnA a0) fun x28 =>
CM.pu (p1 (fun a => fieldAddrA Tryz.prog 212 a 0) x28) fun x29 =>
CM.st (fun m => stV m x29 x27 1) <|
CM.pu (p1 nnA a0) fun x31 =>
CM.pu (p1 (fun a => fieldAddrA Tryz.prog 212 a 1) x31) fun x32 =>
CM.rm (q1 (loadA Tryz.prog 91) x32 ) fun x33 =>
CM.rm (q1 (loadA Tryz.prog 140) x0 ) fun x34 =>
CM.al (bsA 4 1 [(.int .u64 0), (.str []), (.int .i64 0), (.int .u64 0)] [(0, x34)]) fun x35 =>
CM.call 138 [x33, x5, x35] fun x37 =>
CM.pu (p1 nnA a0) fun x39 =>
CM.pu (p1 (fun a => fieldAddrA Tryz.prog 212 a 1) x39) fun x40 =>
CM.st (fun m => stV m x40 x37 1) <|
CM.go 352256 []))
theorem f86_ok : LeD (real E Mk Nk) f86 (fun xs m => run E (.fn 86) xs m) := apS_le fun _ => apS_le fun _ => apS_le fun _ => ap0_le fun _ => run_eq 400 rfl (by kernel_rfl) (by kernel_rfl)
noncomputable def g87_0 : List AV → CM := ap0 <|
CM.ret (.bool true)
theorem g87_0_ok : LeD (real E Mk Nk) g87_0 (fun ts m => goR E Mk 356352 ts m) := ap0_le fun _ => goR_eq 400 (by kernel_rfl)
noncomputable def f87 : List AV → CM := apS fun a0 => apS fun a1 => apS fun a2 => ap0 <|
CM.al (boxA a2) fun x0 =>
CM.pu (p1 nnA a0) fun x1 =>
CM.pu (p1 (fun a => fieldAddrA Tryz.prog 214 a 0) x1) fun x2 =>
CM.rm (q1 (loadA Tryz.prog 116) x2 ) fun x3 =>
CM.call 136 [x3, a1] fun x4 =>
CM.pu (p1 (fun a => extractA a 0) x4) fun x5 =>
CM.pu (p1 (fun a => extractA a 1) x4) fun x6 =>
CM.cond x6 (
CM.pu (p1 nnA a0) fun x7 =>
CM.pu (p1 (fun a => fieldAddrA Tryz.prog 214 a 1) x7) fun x8 =>
CM.rm (q1 (loadA Tryz.prog 95) x8 ) fun x9 =>
CM.rm (q1 (loadA Tryz.prog 146) x0 ) fun x10 =>
CM.pu (p2 (indexAddrA Tryz.prog 95) x9 x5) fun x11 =>
CM.st (fun m => stV m x11 x10 4) <|
CM.go 356352 []) (
CM.pu (p1 nnA a0) fun x15 =>
CM.pu (p1 (fun a => fieldAddrA Tryz.prog 214 a 0) x15) fun x16 =>
CM.rm (q1 (loadA Tryz.prog 116) x16 ) fun x17 =>
CM.pu (p1 (lenT Tryz.prog 116) x17) fun x18 =>
CM.pu (p1 nnA a0) fun x19 =>
CM.pu (p1 (fun a => fieldAddrA Tryz.prog 214 a 2) x19) fun x20 =>
CM.rm (q1 (loadA Tryz.prog 3) x20 ) fun x21 =>
CM.pu (p2 (binA Tryz.prog .geq 3) x18 x21) fun x22 =>
CM.cond x22 (
CM.ret (.bool false)) (
CM.pu (p1 nnA a0) fun x23 =>
CM.pu (p1 (fun a => fieldAddrA Tryz.prog 214 a 0) x23) fun x24 =>
CM.rm (q1 (loadA Tryz.prog 116) x24 ) fun x25 =>
CM.al (bsA 1 1 [(.int .u64 0)] [(0, a1)]) fun x26 =>
CM.call 137 [x25, x5, x26] fun x27 =>
CM.pu (p1 nnA a0) fun x28 =>
CM.pu (p1 (fun a => fieldAddrA Tryz.prog 214 a 0) x28) fun x29 =>
CM.st (fun m => stV m x29 x27 1) <|
CM.pu (p1 nnA a0) fun x31 =>
CM.pu (p1 (fun a => fieldAddrA Tryz.prog 214 a 1) x31) fun x32 =>
CM.rm (q1 (loadA Tryz.prog 95) x32 ) fun x33 =>
CM.rm (q1 (loadA Tryz.prog 146) x0 ) fun x34 =>
CM.al (bsA 4 1 [(.int .u64 0), (.int .u64 0), (.int .u64 0), (.sl none 0 0 0 true)] [(0, x34)]) fun x35 =>
CM.call 139 [x33, x5, x35] fun x37 =>
CM.pu (p1 nnA a0) fun x39 =>
CM.pu (p1 (fun a => fieldAddrA Tryz.prog 214 a 1) x39) fun x40 =>
CM.st (fun m => stV m x40 x37 1) <|
CM.go 356352 []))
theorem f87_ok : LeD (real E Mk Nk) f87 (fun xs m => run E (.fn 87) xs m) := apS_le fun _ => apS_le fun _ => apS_le fun _ => ap0_le fun _ => run_eq 400 rfl (by kernel_rfl) (by kernel_rfl)
noncomputable def f88 : List AV → CM := apS fun a0 => ap0 <|
CM.al (boxA a0) fun x0 =>
CM.al (some (.cells [(.int .u64 0), (.int .u64 0), (.int .u64 0), (.sl none 0 0 0 true)] false, pB)) fun x1 =>
CM.al (some (.cells [] false, sB 6 0)) fun x2 =>
CM.pu (p1 (fun a => fieldAddrA Tryz.prog 146 a 3) x0) fun x3 =>
CM.rm (q1 (loadA Tryz.prog 144) x3 ) fun x4 =>
CM.ef (apE 6 48 x2 x4) fun x5 =>
CM.pu (p1 (fun a => fieldAddrA Tryz.prog 146 a 3) x0) fun x6 =>
CM.st (fun m => stV m x6 x5 1) <|
CM.rm (q1 (loadA Tryz.prog 146) x0 ) fun x8 =>
CM.st (fun m => stV m x1 x8 4) <|
CM.resC Tryz.prog [ResultVar.cell 0 146] [x1]
theorem f88_ok : LeD (real E Mk Nk) f88 (fun xs m => run E (.fn 88) xs m) := apS_le fun _ => ap0_le fun _ => run_eq 400 rfl (by kernel_rfl) (by kernel_rfl)
noncomputable def g89_0 : List AV → CM := apS fun t1 => ap0 <|
CM.pu (p2 (binA Tryz.prog .geq 26) t1 (.int .u64 1)) fun x0 =>
CM.ifv x0 (
CM.pu (p2 (binA Tryz.prog .leq 26) t1 (.int .u64 72057594037927935)) fun x1 =>
CM.ret x1) (
CM.ret (.bool false))
theorem g89_0_ok : LeD (real E Mk Nk) g89_0 (fun ts m => goR E Mk 364544 ts m) := apS_le fun _ => ap0_le fun _ => goR_eq 400 (by kernel_rfl)
noncomputable def f89 : List AV → CM := apS fun a0 => apS fun a1 => ap0 <|
CM.pu (p1 (unA .not) a0) fun x0 =>
CM.cond x0 (
CM.pu (p2 (binA Tryz.prog .eql 26) a1 (.int .u64 0)) fun x1 =>
CM.ret x1) (
CM.go 364544 [a1])
theorem f89_ok : LeD (real E Mk Nk) f89 (fun xs m => run E (.fn 89) xs m) := apS_le fun _ => apS_le fun _ => ap0_le fun _ => run_eq 400 rfl (by kernel_rfl) (by kernel_rfl)
noncomputable def g90_0 : List AV → CM := apS fun t1 => ap0 <|
CM.call 140 [t1] fun x0 =>
CM.ret x0
theorem g90_0_ok : LeD (real E Mk Nk) g90_0 (fun ts m => goR E Mk 368640 ts m) := apS_le fun _ => ap0_le fun _ => goR_eq 400 (by kernel_rfl)
noncomputable def f90 : List AV → CM := apS fun a0 => apS fun a1 => ap0 <|
CM.pu (p1 (unA .not) a0) fun x0 =>
CM.cond x0 (
CM.pu (p2 (binA Tryz.prog .eql 9) a1 (.str [])) fun x1 =>
CM.ret x1) (
CM.go 368640 [a1])
theorem f90_ok : LeD (real E Mk Nk) f90 (fun xs m => run E (.fn 90) xs m) := apS_le fun _ => apS_le fun _ => ap0_le fun _ => run_eq 400 rfl (by kernel_rfl) (by kernel_rfl)
noncomputable def g91_0 : List AV → CM := apS fun t0 => ap0 <|
CM.pu (p1 (convA Tryz.prog 2 26) t0) fun x0 =>
CM.pu (p2 (binA Tryz.prog .mul 26) x0 (.int .u64 2)) fun x1 =>
CM.call 37 [x1] fun x2 =>
CM.ret x2
theorem g91_0_ok : LeD (real E Mk Nk) g91_0 (fun ts m => goR E Mk 372736 ts m) := apS_le fun _ => ap0_le fun _ => goR_eq 400 (by kernel_rfl)
noncomputable def f91 : List AV → CM := apS fun a0 => ap0 <|
CM.pu (p2 (binA Tryz.prog .lss 2) a0 (.int .i64 0)) fun x0 =>
CM.cond x0 (
CM.pu (p2 (binA Tryz.prog .add 2) a0 (.int .i64 1)) fun x1 =>
CM.pu (p1 (unA .neg) x1) fun x2 =>
CM.pu (p1 (convA Tryz.prog 2 26) x2) fun x3 =>
CM.pu (p2 (binA Tryz.prog .mul 26) x3 (.int .u64 2)) fun x4 =>
CM.pu (p2 (binA Tryz.prog .add 26) x4 (.int .u64 1)) fun x5 =>
CM.call 37 [x5] fun x6 =>
CM.ret x6) (
CM.go 372736 [a0])
theorem f91_ok : LeD (real E Mk Nk) f91 (fun xs m => run E (.fn 91) xs m) := apS_le fun _ => ap0_le fun _ => run_eq 400 rfl (by kernel_rfl) (by kernel_rfl)
noncomputable def f92 : List AV → CM := apS fun a0 => apS fun a1 => ap0 <|
CM.pu (p1 nnA a0) fun x0 =>
CM.pu (p1 (fun a => fieldAddrA Tryz.prog 183 a 2) x0) fun x1 =>
CM.rm (q1 (loadA Tryz.prog 23) x1 ) fun x2 =>
CM.pu (p2 (binA Tryz.prog .eql 23) x2 (.int .i64 0)) fun x3 =>
CM.cond x3 (
CM.pu (p1 nnA a0) fun x4 =>
CM.pu (p1 (fun a => fieldAddrA Tryz.prog 183 a 2) x4) fun x5 =>
CM.st (fun m => stV m x5 a1 1) <|
CM.ret .undef) (
CM.ret .undef)
theorem f92_ok : LeD (real E Mk Nk) f92 (fun xs m => run E (.fn 92) xs m) := apS_le fun _ => apS_le fun _ => ap0_le fun _ => run_eq 400 rfl (by kernel_rfl) (by kernel_rfl)
noncomputable def g93_0 : List AV → CM := apS fun t0 => apS fun t1 => ap0 <|
CM.pu (p1 nnA t0) fun x0 =>
CM.pu (p1 (fun a => fieldAddrA Tryz.prog 183 a 0) x0) fun x1 =>
CM.rm (q1 (loadA Tryz.prog 33) x1 ) fun x2 =>
CM.pu (p1 nnA t0) fun x3 =>
CM.pu (p1 (fun a => fieldAddrA Tryz.prog 183 a 1) x3) fun x4 =>
CM.rm (q1 (loadA Tryz.prog 3) x4 ) fun x5 =>
CM.call 141 [x2, x5] fun x7 =>
CM.pu (p1 (fun a => extractA a 0) x7) fun x9 =>
CM.pu (p1 (fun a => extractA a 1) x7) fun x10 =>
CM.pu (p1 (fun a => extractA a 2) x7) fun x11 =>
CM.pu (p2 (binA Tryz.prog .eql 23) x10 (.int .i64 0)) fun x12 =>
CM.ifv x12 (
CM.pu (p2 (binA Tryz.prog .gtr 26) x9 t1) fun x13 =>
CM.cond x13 (
CM.go 380929 [t0, x9, (.int .i64 12), x11]) (
CM.go 380929 [t0, x9, x10, x11])) (
CM.go 380929 [t0, x9, x10, x11])
theorem g93_0_ok : LeD (real E Mk Nk) g93_0 (fun ts m => goR E Mk 380928 ts m) := apS_le fun _ => apS_le fun _ => ap0_le fun _ => goR_eq 400 (by kernel_rfl)
noncomputable def g93_1 : List AV → CM := apS fun t0 => apS fun t5 => apS fun t6 => apS fun t7 => ap0 <|
CM.pu (p2 (binA Tryz.prog .neq 23) t6 (.int .i64 0)) fun x0 =>
CM.cond x0 (
CM.call 92 [t0, t6] fun _ =>
CM.ret (.int .u64 0)) (
CM.go 380930 [t0, t5, t7])
theorem g93_1_ok : LeD (real E Mk Nk) g93_1 (fun ts m => goR E Mk 380929 ts m) := apS_le fun _ => apS_le fun _ => apS_le fun _ => apS_le fun _ => ap0_le fun _ => goR_eq 400 (by kernel_rfl)
noncomputable def g93_2 : List AV → CM := apS fun t0 => apS fun t5 => apS fun t7 => ap0 <|
CM.pu (p1 nnA t0) fun x0 =>
CM.pu (p1 (fun a => fieldAddrA Tryz.prog 183 a 1) x0) fun x1 =>
CM.st (fun m => stV m x1 t7 1) <|
CM.ret t5
theorem g93_2_ok : LeD (real E Mk Nk) g93_2 (fun ts m => goR E Mk 380930 ts m) := apS_le fun _ => apS_le fun _ => apS_le fun _ => ap0_le fun _ => goR_eq 400 (by kernel_rfl)
noncomputable def f93 : List AV → CM := apS fun a0 => apS fun a1 => ap0 <|
CM.pu (p1 nnA a0) fun x0 =>
CM.pu (p1 (fun a => fieldAddrA Tryz.prog 183 a 2) x0) fun x1 =>
CM.rm (q1 (loadA Tryz.prog 23) x1 ) fun x2 =>
CM.pu (p2 (binA Tryz.prog .neq 23) x2 (.int .i64 0)) fun x3 =>
CM.cond x3 (
CM.ret (.int .u64 0)) (
CM.go 380928 [a0, a1])
theorem f93_ok : LeD (real E Mk Nk) f93 (fun xs m => run E (.fn 93) xs m) := apS_le fun _ => apS_le fun _ => ap0_le fun _ => run_eq 400 rfl (by kernel_rfl) (by kernel_rfl)
noncomputable def f94 : List AV → CM := apS fun a0 => ap0 <|
CM.al (some (.cells [(.int .i64 0), (.int .u64 0), (.int .i64 0)] false, pB)) fun x0 =>
CM.al (some (.cells [(.int .i64 0), (.int .u64 0), (.int .i64 0)] false, pB)) fun x1 =>
CM.call 41 [a0, (.int .u8 18)] fun x2 =>
CM.pu (p1 (convA Tryz.prog 5 3) x2) fun x3 =>
CM.pu (p1 (fun a => fieldAddrA Tryz.prog 38 a 1) x1) fun x4 =>
CM.st (fun m => stV m x4 x3 1) <|
CM.call 142 [a0] fun x6 =>
CM.pu (p1 (fun a => fieldAddrA Tryz.prog 38 a 0) x1) fun x7 =>
CM.pu (p1 (fun a => fieldAddrA Tryz.prog 36 a 0) x7) fun x8 =>
CM.st (fun m => stV m x8 x6 1) <|
CM.call 93 [a0, (.int .u64 18446744073709551615)] fun x10 =>
CM.pu (p1 (fun a => fieldAddrA Tryz.prog 38 a 0) x1) fun x11 =>
CM.pu (p1 (fun a => fieldAddrA Tryz.prog 36 a 1) x11) fun x12 =>
CM.st (fun m => stV m x12 x10 1) <|
CM.rm (q1 (loadA Tryz.prog 38) x1 ) fun x14 =>
CM.st (fun m => stV m x0 x14 3) <|
CM.resC Tryz.prog [ResultVar.cell 0 38] [x0]
theorem f94_ok : LeD (real E Mk Nk) f94 (fun xs m => run E (.fn 94) xs m) := apS_le fun _ => ap0_le fun _ => run_eq 400 rfl (by kernel_rfl) (by kernel_rfl)
noncomputable def f95 : List AV → CM := apS fun a0 => ap0 <|
CM.call 41 [a0, (.int .u8 90)] fun x0 =>
CM.call 41 [a0, (.int .u8 90)] fun x1 =>
CM.call 41 [a0, (.int .u8 90)] fun x2 =>
CM.al (bsA 1 3 [(.int .u8 0)] [(0, x0), (1, x1), (2, x2)]) fun x3 =>
CM.rm (q1 (toStrA Tryz.prog 33) x3 ) fun x4 =>
CM.ret x4
theorem f95_ok : LeD (real E Mk Nk) f95 (fun xs m => run E (.fn 95) xs m) := apS_le fun _ => ap0_le fun _ => run_eq 400 rfl (by kernel_rfl) (by kernel_rfl)
noncomputable def g96_0 : List AV → CM := ap0 <|
CM.ret (.bool true)
theorem g96_0_ok : LeD (real E Mk Nk) g96_0 (fun ts m => goR E Mk 393216 ts m) := ap0_le fun _ => goR_eq 400 (by kernel_rfl)
noncomputable def f96 : List AV → CM := apS fun a0 => apS fun a1 => ap0 <|
CM.al (boxA a0) fun x0 =>
CM.pu (p2 (binA Tryz.prog .eql 3) a1 (.int .i64 1)) fun x1 =>
CM.cond x1 (
CM.pu (p1 (fun a => fieldAddrA Tryz.prog 40 a 1) x0) fun x2 =>
CM.rm (q1 (loadA Tryz.prog 26) x2 ) fun x3 =>
CM.call 143 [x3] fun x4 =>
CM.ret x4) (
CM.pu (p2 (binA Tryz.prog .eql 3) a1 (.int .i64 2)) fun x5 =>
CM.cond x5 (
CM.pu (p1 (fun a => fieldAddrA Tryz.prog 40 a 2) x0) fun x6 =>
CM.rm (q1 (loadA Tryz.prog 26) x6 ) fun x7 =>
CM.call 143 [x7] fun x8 =>
CM.ret x8) (
CM.pu (p2 (binA Tryz.prog .eql 3) a1 (.int .i64 16)) fun x9 =>
CM.cond x9 (
CM.pu (p1 (fun a => fieldAddrA Tryz.prog 40 a 5) x0) fun x10 =>
CM.rm (q1 (loadA Tryz.prog 38) x10 ) fun x11 =>
CM.call 118 [x11] fun x12 =>
CM.ret x12) (
CM.pu (p2 (binA Tryz.prog .eql 3) a1 (.int .i64 32)) fun x13 =>
CM.cond x13 (
CM.pu (p1 (fun a => fieldAddrA Tryz.prog 40 a 6) x0) fun x14 =>
CM.rm (q1 (loadA Tryz.prog 9) x14 ) fun x15 =>
CM.call 113 [x15] fun x16 =>
CM.ret x16) (
CM.pu (p2 (binA Tryz.prog .eql 3) a1 (.int .i64 64)) fun x17 =>
CM.cond x17 (
CM.pu (p1 (fun a => fieldAddrA Tryz.prog 40 a 7) x0) fun x18 =>
CM.rm (q1 (loadA Tryz.prog 9) x18 ) fun x19 =>
CM.call 113 [x19] fun x20 =>
CM.ret x20) (
CM.go 393216 [])))))
theorem f96_ok : LeD (real E Mk Nk) f96 (fun xs m => run E (.fn 96) xs m) := apS_le fun _ => apS_le fun _ => ap0_le fun _ => run_eq 400 rfl (by kernel_rfl) (by kernel_rfl)
noncomputable def g97_0 : List AV → CM := apS fun t2 => ap0 <|
CM.pu (p1 (fun a => fieldAddrA Tryz.prog 40 a 7) t2) fun x0 =>
CM.rm (q1 (loadA Tryz.prog 9) x0 ) fun x1 =>
CM.pu (p2 (binA Tryz.prog .eql 9) x1 (.str [])) fun x2 =>
CM.ret x2
theorem g97_0_ok : LeD (real E Mk Nk) g97_0 (fun ts m => goR E Mk 397312 ts m) := apS_le fun _ => ap0_le fun _ => goR_eq 400 (by kernel_rfl)
noncomputable def f97 : List AV → CM := apS fun a0 => apS fun a1 => ap0 <|
CM.al (boxA a0) fun x0 =>
CM.pu (p2 (binA Tryz.prog .eql 3) a1 (.int .i64 1)) fun x1 =>
CM.cond x1 (
CM.pu (p1 (fun a => fieldAddrA Tryz.prog 40 a 1) x0) fun x2 =>
CM.rm (q1 (loadA Tryz.prog 26) x2 ) fun x3 =>
CM.pu (p2 (binA Tryz.prog .eql 26) x3 (.int .u64 0)) fun x4 =>
CM.ret x4) (
CM.pu (p2 (binA Tryz.prog .eql 3) a1 (.int .i64 2)) fun x5 =>
CM.cond x5 (
CM.pu (p1 (fun a => fieldAddrA Tryz.prog 40 a 2) x0) fun x6 =>
CM.rm (q1 (loadA Tryz.prog 26) x6 ) fun x7 =>
CM.pu (p2 (binA Tryz.prog .eql 26) x7 (.int .u64 0)) fun x8 =>
CM.ret x8) (
CM.pu (p2 (binA Tryz.prog .eql 3) a1 (.int .i64 4)) fun x9 =>
CM.cond x9 (
CM.pu (p1 (fun a => fieldAddrA Tryz.prog 40 a 3) x0) fun x10 =>
CM.rm (q1 (loadA Tryz.prog 26) x10 ) fun x11 =>
CM.pu (p2 (binA Tryz.prog .eql 26) x11 (.int .u64 0)) fun x12 =>
CM.ret x12) (
CM.pu (p2 (binA Tryz.prog .eql 3) a1 (.int .i64 8)) fun x13 =>
CM.cond x13 (
CM.pu (p1 (fun a => fieldAddrA Tryz.prog 40 a 4) x0) fun x14 =>
CM.rm (q1 (loadA Tryz.prog 26) x14 ) fun x15 =>
CM.pu (p2 (binA Tryz.prog .eql 26) x15 (.int .u64 0)) fun x16 =>
CM.ret x16) (
CM.pu (p2 (binA Tryz.prog .eql 3) a1 (.int .i64 16)) fun x17 =>
CM.cond x17 (
CM.pu (p1 (fun a => fieldAddrA Tryz.prog 40 a 5) x0) fun x18 =>
CM.rm (q1 (loadA Tryz.prog 38) x18 ) fun x19 =>
CM.pu (p1 (buildA Tryz.prog 38) []) fun x20 =>
CM.pu (p2 (binA Tryz.prog .eql 38) x19 x20) fun x21 =>
CM.ret x21) (
CM.pu (p2 (binA Tryz.prog .eql 3) a1 (.int .i64 32)) fun x22 =>
CM.cond x22 (
CM.pu (p1 (fun a => fieldAddrA Tryz.prog 40 a 6) x0) fun x23 =>
CM.rm (q1 (loadA Tryz.prog 9) x23 ) fun x24 =>
CM.pu (p2 (binA Tryz.prog .eql 9) x24 (.str [])) fun x25 =>
CM.ret x25) (
CM.go 397312 [x0]))))))
theorem f97_ok : LeD (real E Mk Nk) f97 (fun xs m => run E (.fn 97) xs m) := apS_le fun _ => apS_le fun _ => ap0_le fun _ => run_eq 400 rfl (by kernel_rfl) (by kernel_rfl)
noncomputable def f98 : List AV → CM := apS fun a0 => ap0 <|
CM.al (boxA a0) fun x0 =>
CM.ret (.fn (.func 144) [] [x0])
theorem f98_ok : LeD (real E Mk Nk) f98 (fun xs m => run E (.fn 98) xs m) := apS_le fun _ => ap0_le fun _ => run_eq 400 rfl (by kernel_rfl) (by kernel_rfl)
noncomputable def g99_0 : List AV → CM := apS fun t6 => ap0 <|
CM.ret t6
theorem g99_0_ok : LeD (real E Mk Nk) g99_0 (fun ts m => goR E Mk 405504 ts m) := apS_le fun _ => ap0_le fun _ => goR_eq 400 (by kernel_rfl)
noncomputable def f99 : List AV → CM := apS fun a0 => apS fun a1 => ap0 <|
CM.pu (p1 nnA a0) fun x0 =>
CM.pu (p1 (fun a => fieldAddrA Tryz.prog 214 a 0) x0) fun x1 =>
CM.rm (q1 (loadA Tryz.prog 116) x1 ) fun x2 =>
CM.call 136 [x2, a1] fun x3 =>
CM.pu (p1 (fun a => extractA a 0) x3) fun x4 =>
CM.pu (p1 (fun a => extractA a 1) x3) fun x5 =>
CM.cond x5 (
CM.pu (p1 nnA a0) fun x6 =>
CM.pu (p1 (fun a => fieldAddrA Tryz.prog 214 a 0) x6) fun x7 =>
CM.rm (q1 (loadA Tryz.prog 116) x7 ) fun x8 =>
CM.pu (p2 (binA Tryz.prog .add 3) x4 (.int .i64 1)) fun x9 =>
CM.call 148 [x8, x4, x9] fun x10 =>
CM.pu (p1 nnA a0) fun x11 =>
CM.pu (p1 (fun a => fieldAddrA Tryz.prog 214 a 0) x11) fun x12 =>
CM.st (fun m => stV m x12 x10 1) <|
CM.pu (p1 nnA a0) fun x14 =>
CM.pu (p1 (fun a => fieldAddrA Tryz.prog 214 a 1) x14) fun x15 =>
CM.rm (q1 (loadA Tryz.prog 95) x15 ) fun x16 =>
CM.pu (p2 (binA Tryz.prog .add 3) x4 (.int .i64 1)) fun x17 =>
CM.call 149 [x16, x4, x17] fun x18 =>
CM.pu (p1 nnA a0) fun x19 =>
CM.pu (p1 (fun a => fieldAddrA Tryz.prog 214 a 1) x19) fun x20 =>
CM.st (fun m => stV m x20 x18 1) <|
CM.go 405504 [x5]) (
CM.go 405504 [x5])
theorem f99_ok : LeD (real E Mk Nk) f99 (fun xs m => run E (.fn 99) xs m) := apS_le fun _ => apS_le fun _ => ap0_le fun _ => run_eq 400 rfl (by kernel_rfl) (by kernel_rfl)
noncomputable def g100_0 : List AV → CM := apS fun t0 => apS fun t4 => apS fun t6 => ap0 <|
CM.pu (p1 nnA t0) fun x0 =>
CM.pu (p1 (fun a => fieldAddrA Tryz.prog 214 a 1) x0) fun x1 =>
CM.rm (q1 (loadA Tryz.prog 95) x1 ) fun x2 =>
CM.pu (p2 (indexAddrA Tryz.prog 95) x2 t6) fun x3 =>
CM.rm (q1 (loadA Tryz.prog 146) x3 ) fun x4 =>
CM.st (fun m => stV m t4 x4 4) <|
CM.resC Tryz.prog [ResultVar.cell 0 146, ResultVar.tmp 1] [t4, (.bool true)]
theorem g100_0_ok : LeD (real E Mk Nk) g100_0 (fun ts m => goR E Mk 409600 ts m) := apS_le fun _ => apS_le fun _ => apS_le fun _ => ap0_le fun _ => goR_eq 400 (by kernel_rfl)
noncomputable def f100 : List AV → CM := apS fun a0 => apS fun a1 => ap0 <|
CM.al (some (.cells [(.int .u64 0), (.int .u64 0), (.int .u64 0), (.sl none 0 0 0 true)] false, pB)) fun x0 =>
CM.pu (p1 nnA a0) fun x1 =>
CM.pu (p1 (fun a => fieldAddrA Tryz.prog 214 a 0) x1) fun x2 =>
CM.rm (q1 (loadA Tryz.prog 116) x2 ) fun x3 =>
CM.call 136 [x3, a1] fun x4 =>
CM.pu (p1 (fun a => extractA a 0) x4) fun x5 =>
CM.pu (p1 (fun a => extractA a 1) x4) fun x6 =>
CM.pu (p1 (unA .not) x6) fun x7 =>
CM.cond x7 (
CM.al (some (.cells [(.int .u64 0), (.int .u64 0), (.int .u64 0), (.sl none 0 0 0 true)] false, pB)) fun x8 =>
CM.rm (q1 (loadA Tryz.prog 146) x8 ) fun x9 =>
CM.st (fun m => stV m x0 x9 4) <|
CM.resC Tryz.prog [ResultVar.cell 0 146, ResultVar.tmp 1] [x0, (.bool false)]) (
CM.go 409600 [a0, x0, x5])
theorem f100_ok : LeD (real E Mk Nk) f100 (fun xs m => run E (.fn 100) xs m) := apS_le fun _ => apS_le fun _ => ap0_le fun _ => run_eq 400 rfl (by kernel_rfl) (by kernel_rfl)
noncomputable def f101 : List AV → CM := apS fun a0 => ap0 <|
CM.pu (p1 nnA a0) fun x0 =>
CM.pu (p1 (fun a => fieldAddrA Tryz.prog 214 a 0) x0) fun x1 =>
CM.rm (q1 (loadA Tryz.prog 116) x1 ) fun x2 =>
CM.pu (p1 (lenT Tryz.prog 116) x2) fun x3 =>
CM.ret x3
theorem f101_ok : LeD (real E Mk Nk) f101 (fun xs m => run E (.fn 101) xs m) := apS_le fun _ => ap0_le fun _ => run_eq 400 rfl (by kernel_rfl) (by kernel_rfl)
noncomputable def g102_0 : List AV → CM := apS fun t3 => apS fun t4 => apS fun t5 => apS fun t6 => apS fun t7 => apS fun t12 => apS fun t13 => apS fun t14 => ap0 <|
CM.rng (.fn (rsOf E 102)) t12 (loopOf E 102 0 ([.undef, .undef, .undef, t3, t4, t5, t6, t7, .undef, .undef, .undef, .undef, t12, t13, t14] ++ List.replicate 12 .undef)) 417792 [t3, t4, t5, t6, t7, t12, t13, t14]
theorem g102_0_ok : LeD (real E Mk Nk) g102_0 (fun ts m => goR E Mk 417792 ts m) := apS_le fun _ => apS_le fun _ => apS_le fun _ => apS_le fun _ => apS_le fun _ => apS_le fun _ => apS_le fun _ => apS_le fun _ => ap0_le fun _ => goR_eq 400 (by kernel_rfl)
noncomputable def g102_2 : List AV → CM := apS fun t3 => ap0 <|
CM.rm (q1 (loadA Tryz.prog 26) t3 ) fun x0 =>
CM.ret x0
theorem g102_2_ok : LeD (real E Mk Nk) g102_2 (fun ts m => goR E Mk 417794 ts m) := apS_le fun _ => ap0_le fun _ => goR_eq 400 (by kernel_rfl)
noncomputable def l102_0_none : List AV → CM := apS fun t3 => apS fun _ => apS fun _ => apS fun _ => apS fun _ => apS fun _ => apS fun _ => apS fun _ => ap0 <|
CM.go 417794 [t3]
theorem l102_0_none_ok : LeD (real E Mk Nk) l102_0_none (fun ts m => afR E Nk 417792 none ts m) := apS_le fun _ => apS_le fun _ => apS_le fun _ => apS_le fun _ => apS_le fun _ => apS_le fun _ => apS_le fun _ => apS_le fun _ => ap0_le fun _ => afR_eq 400 (by kernel_rfl)
noncomputable def f102 : List AV → CM := apS fun a0 => ap0 <|
CM.al (some (.cells [(.int .u64 0)] false, pB)) fun x0 =>
CM.al (some (.cells [(.int .u64 0)] false, pB)) fun x1 =>
CM.al (some (.cells [(.bool false)] false, pB)) fun x2 =>
CM.st (fun m => stV m x0 (.int .u64 0) 1) <|
CM.st (fun m => stV m x1 (.int .u64 0) 1) <|
CM.st (fun m => stV m x2 (.bool false) 1) <|
CM.pu (p1 nnA a0) fun x6 =>
CM.pu (p1 (fun a => fieldAddrA Tryz.prog 148 a 1) x6) fun x7 =>
CM.rm (q1 (loadA Tryz.prog 141) x7 ) fun x8 =>
CM.call 98 [x8] fun x9 =>
CM.go 417792 [x0, x1, x2, .undef, .undef, x9, .undef, .undef]
theorem f102_ok : LeD (real E Mk Nk) f102 (fun xs m => run E (.fn 102) xs m) := apS_le fun _ => ap0_le fun _ => run_eq 400 rfl (by kernel_rfl) (by kernel_rfl)
noncomputable def g103_0 : List AV → CM := ap0 <|
CM.ret (.int .i64 0)
theorem g103_0_ok : LeD (real E Mk Nk) g103_0 (fun ts m => goR E Mk 421888 ts m) := ap0_le fun _ => goR_eq 400 (by kernel_rfl)
noncomputable def f103 : List AV → CM := apS fun a0 => apS fun a1 => apS fun a2 => ap0 <|
CM.pu (p1 nnA a0) fun x0 =>
CM.pu (p1 (fun a => fieldAddrA Tryz.prog 128 a 1) x0) fun x1 =>
CM.rm (q1 (loadA Tryz.prog 124) x1 ) fun x2 =>
CM.call 150 [x2, a1] fun x3 =>
CM.pu (p1 (fun a => extractA a 0) x3) fun x4 =>
CM.pu (p1 (fun a => extractA a 1) x3) fun x5 =>
CM.al (some (.cells [(.str []), (.int .i64 0), (.int .i64 0), (.int .u64 0)] false, pB)) fun x6 =>
CM.st (fun m => stV m x6 x4 4) <|
CM.call 113 [a1] fun x8 =>
CM.pu (p1 (unA .not) x8) fun x9 =>
CM.cond x9 (
CM.ret (.int .i64 41)) (
CM.pu (p2 (binA Tryz.prog .gtr 26) a2 (.int .u64 18)) fun x10 =>
CM.cond x10 (
CM.ret (.int .i64 21)) (
CM.cond x5 (
CM.ret (.int .i64 45)) (
CM.pu (p1 nnA a0) fun x11 =>
CM.pu (p1 (fun a => fieldAddrA Tryz.prog 128 a 1) x11) fun x12 =>
CM.rm (q1 (loadA Tryz.prog 124) x12 ) fun x13 =>
CM.pu (p1 (convA Tryz.prog 26 3) a2) fun x14 =>
CM.pu (p1 (buildA Tryz.prog 132) [(0, a1), (1, x14)]) fun x15 =>
CM.call 84 [x13, a1, x15] fun x16 =>
CM.pu (p1 (unA .not) x16) fun x17 =>
CM.cond x17 (
CM.ret (.int .i64 2)) (
CM.go 421888 []))))
theorem f103_ok : LeD (real E Mk Nk) f103 (fun xs m => run E (.fn 103) xs m) := apS_le fun _ => apS_le fun _ => apS_le fun _ => ap0_le fun _ => run_eq 400 rfl (by kernel_rfl) (by kernel_rfl)
noncomputable def g104_0 : List AV → CM := apS fun t0 => apS fun t1 => ap0 <|
CM.pu (p1 nnA t0) fun x0 =>
CM.pu (p1 (fun a => fieldAddrA Tryz.prog 128 a 3) x0) fun x1 =>
CM.rm (q1 (loadA Tryz.prog 126) x1 ) fun x2 =>
CM.memo fun m3 =>
CM.call 151 [x2] fun x4 =>
CM.pu (p1 nnA t0) fun x6 =>
CM.pu (p1 (fun a => fieldAddrA Tryz.prog 128 a 0) x6) fun x7 =>
CM.rm (q1 (loadA Tryz.prog 3) x7 ) fun x8 =>
CM.chk (q1 (loadA Tryz.prog 3) x7 m3) x8 <|
CM.pu (p2 (binA Tryz.prog .geq 3) x4 x8) fun x9 =>
CM.ifv x9 (
CM.ret (.tup [(.int .u64 0), (.int .i64 2)])) (
CM.pu (p1 nnA t0) fun x10 =>
CM.pu (p1 (fun a => fieldAddrA Tryz.prog 128 a 4) x10) fun x11 =>
CM.rm (q1 (loadA Tryz.prog 26) x11 ) fun x12 =>
CM.pu (p2 (binA Tryz.prog .geq 26) x12 (.int .u64 72057594037927935)) fun x13 =>
CM.cond x13 (
CM.ret (.tup [(.int .u64 0), (.int .i64 2)])) (
CM.go 425985 [t0, t1]))
theorem g104_0_ok : LeD (real E Mk Nk) g104_0 (fun ts m => goR E Mk 425984 ts m) := apS_le fun _ => apS_le fun _ => ap0_le fun _ => goR_eq 400 (by kernel_rfl)
noncomputable def g104_1 : List AV → CM := apS fun t0 => apS fun t1 => ap0 <|
CM.pu (p1 nnA t0) fun x0 =>
CM.pu (p1 (fun a => fieldAddrA Tryz.prog 128 a 4) x0) fun x1 =>
CM.rm (q1 (loadA Tryz.prog 26) x1 ) fun x2 =>
CM.pu (p2 (binA Tryz.prog .add 26) x2 (.int .u64 1)) fun x3 =>
CM.pu (p1 nnA t0) fun x4 =>
CM.pu (p1 (fun a => fieldAddrA Tryz.prog 128 a 4) x4) fun x5 =>
CM.st (fun m => stV m x5 x3 1) <|
CM.pu (p1 nnA t0) fun x7 =>
CM.pu (p1 (fun a => fieldAddrA Tryz.prog 128 a 3) x7) fun x8 =>
CM.rm (q1 (loadA Tryz.prog 126) x8 ) fun x9 =>
CM.pu (p1 nnA t0) fun x10 =>
CM.pu (p1 (fun a => fieldAddrA Tryz.prog 128 a 4) x10) fun x11 =>
CM.rm (q1 (loadA Tryz.prog 26) x11 ) fun x12 =>
CM.pu (p1 nnA t0) fun x13 =>
CM.pu (p1 (fun a => fieldAddrA Tryz.prog 128 a 4) x13) fun x14 =>
CM.rm (q1 (loadA Tryz.prog 26) x14 ) fun x15 =>
CM.pu (p1 (buildA Tryz.prog 140) [(0, x15), (1, t1)]) fun x16 =>
CM.call 86 [x9, x12, x16] fun _ =>
CM.pu (p1 nnA t0) fun x20 =>
CM.pu (p1 (fun a => fieldAddrA Tryz.prog 128 a 4) x20) fun x21 =>
CM.rm (q1 (loadA Tryz.prog 26) x21 ) fun x22 =>
CM.ret (.tup [x22, (.int .i64 0)])
theorem g104_1_ok : LeD (real E Mk Nk) g104_1 (fun ts m => goR E Mk 425985 ts m) := apS_le fun _ => apS_le fun _ => ap0_le fun _ => goR_eq 400 (by kernel_rfl)
noncomputable def f104 : List AV → CM := apS fun a0 => apS fun a1 => ap0 <|
CM.pu (p1 nnA a0) fun x0 =>
CM.pu (p1 (fun a => fieldAddrA Tryz.prog 128 a 1) x0) fun x1 =>
CM.rm (q1 (loadA Tryz.prog 124) x1 ) fun x2 =>
CM.call 150 [x2, a1] fun x3 =>
CM.pu (p1 (fun a => extractA a 0) x3) fun x4 =>
CM.pu (p1 (fun a => extractA a 1) x3) fun x5 =>
CM.al (some (.cells [(.str []), (.int .i64 0), (.int .i64 0), (.int .u64 0)] false, pB)) fun x6 =>
CM.st (fun m => stV m x6 x4 4) <|
CM.pu (p1 (unA .not) x5) fun x8 =>
CM.cond x8 (
CM.ret (.tup [(.int .u64 0), (.int .i64 41)])) (
CM.go 425984 [a0, a1])
theorem f104_ok : LeD (real E Mk Nk) f104 (fun xs m => run E (.fn 104) xs m) := apS_le fun _ => apS_le fun _ => ap0_le fun _ => run_eq 400 rfl (by kernel_rfl) (by kernel_rfl)
noncomputable def g105_0 : List AV → CM := apS fun t0 => apS fun t5 => apS fun t7 => apS fun t8 => apS fun t9 => ap0 <|
CM.pu (p2 (binA Tryz.prog .eql 23) t9 (.int .i64 0)) fun x0 =>
CM.cond x0 (
CM.pu (p1 (fun a => fieldAddrA Tryz.prog 132 a 2) t8) fun x1 =>
CM.pu (p1 (fun a => fieldAddrA Tryz.prog 140 a 2) t7) fun x2 =>
CM.pu (p1 (fun a => fieldAddrA Tryz.prog 38 a 0) t5) fun x3 =>
CM.rm (q1 (loadA Tryz.prog 36) x3 ) fun x4 =>
CM.call 154 [x1, x2, x4] fun x5 =>
CM.go 430081 [t0, t7, t8, x5]) (
CM.go 430081 [t0, t7, t8, t9])
theorem g105_0_ok : LeD (real E Mk Nk) g105_0 (fun ts m => goR E Mk 430080 ts m) := apS_le fun _ => apS_le fun _ => apS_le fun _ => apS_le fun _ => apS_le fun _ => ap0_le fun _ => goR_eq 400 (by kernel_rfl)
noncomputable def g105_1 : List AV → CM := apS fun t0 => apS fun t7 => apS fun t8 => apS fun t9 => ap0 <|
CM.pu (p2 (binA Tryz.prog .eql 23) t9 (.int .i64 0)) fun x0 =>
CM.cond x0 (
CM.rm (q1 (loadA Tryz.prog 140) t7 ) fun x1 =>
CM.call 155 [t0, x1] fun _ =>
CM.pu (p1 nnA t0) fun x3 =>
CM.pu (p1 (fun a => fieldAddrA Tryz.prog 128 a 1) x3) fun x4 =>
CM.rm (q1 (loadA Tryz.prog 124) x4 ) fun x5 =>
CM.pu (p1 (fun a => fieldAddrA Tryz.prog 132 a 0) t8) fun x6 =>
CM.rm (q1 (loadA Tryz.prog 9) x6 ) fun x7 =>
CM.rm (q1 (loadA Tryz.prog 132) t8 ) fun x8 =>
CM.call 84 [x5, x7, x8] fun _ =>
CM.go 430082 [t9]) (
CM.go 430082 [t9])
theorem g105_1_ok : LeD (real E Mk Nk) g105_1 (fun ts m => goR E Mk 430081 ts m) := apS_le fun _ => apS_le fun _ => apS_le fun _ => apS_le fun _ => ap0_le fun _ => goR_eq 400 (by kernel_rfl)
noncomputable def g105_2 : List AV → CM := apS fun t9 => ap0 <|
CM.ret t9
theorem g105_2_ok : LeD (real E Mk Nk) g105_2 (fun ts m => goR E Mk 430082 ts m) := apS_le fun _ => ap0_le fun _ => goR_eq 400 (by kernel_rfl)
noncomputable def f105 : List AV → CM := apS fun a0 => apS fun a1 => apS fun a2 => ap0 <|
CM.al (boxA a2) fun x0 =>
CM.call 152 [a0, a1] fun x1 =>
CM.pu (p1 (fun a => extractA a 0) x1) fun x2 =>
CM.pu (p1 (fun a => extractA a 1) x1) fun x3 =>
CM.pu (p1 (fun a => extractA a 2) x1) fun x4 =>
CM.al (some (.cells [(.int .u64 0), (.str []), (.int .i64 0), (.int .u64 0)] false, pB)) fun x5 =>
CM.al (some (.cells [(.str []), (.int .i64 0), (.int .i64 0), (.int .u64 0)] false, pB)) fun x6 =>
CM.st (fun m => stV m x5 x2 4) <|
CM.st (fun m => stV m x6 x3 4) <|
CM.pu (p2 (binA Tryz.prog .eql 23) x4 (.int .i64 0)) fun x9 =>
CM.cond x9 (
CM.rm (q1 (loadA Tryz.prog 132) x6 ) fun x10 =>
CM.rm (q1 (loadA Tryz.prog 38) x0 ) fun x11 =>
CM.call 153 [x10, x11] fun x12 =>
CM.go 430080 [a0, x0, x5, x6, x12]) (
CM.go 430080 [a0, x0, x5, x6, x4])
theorem f105_ok : LeD (real E Mk Nk) f105 (fun xs m => run E (.fn 105) xs m) := apS_le fun _ => apS_le fun _ => apS_le fun _ => ap0_le fun _ => run_eq 400 rfl (by kernel_rfl) (by kernel_rfl)
noncomputable def g106_0 : List AV → CM := apS fun t0 => apS fun t5 => apS fun t7 => apS fun t8 => apS fun t9 => ap0 <|
CM.pu (p2 (binA Tryz.prog .eql 23) t9 (.int .i64 0)) fun x0 =>
CM.ifv x0 (
CM.rm (q1 (loadA Tryz.prog 140) t7 ) fun x1 =>
CM.rm (q1 (loadA Tryz.prog 38) t5 ) fun x2 =>
CM.call 156 [x1, x2] fun x3 =>
CM.cond x3 (
CM.go 434177 [t0, t5, t7, t8, (.int .i64 42)]) (
CM.go 434177 [t0, t5, t7, t8, t9])) (
CM.go 434177 [t0, t5, t7, t8, t9])
theorem g106_0_ok : LeD (real E Mk Nk) g106_0 (fun ts m => goR E Mk 434176 ts m) := apS_le fun _ => apS_le fun _ => apS_le fun _ => apS_le fun _ => apS_le fun _ => ap0_le fun _ => goR_eq 400 (by kernel_rfl)
noncomputable def g106_1 : List AV → CM := apS fun t0 => apS fun t5 => apS fun t7 => apS fun t8 => apS fun t9 => ap0 <|
CM.pu (p2 (binA Tryz.prog .eql 23) t9 (.int .i64 0)) fun x0 =>
CM.cond x0 (
CM.pu (p1 (fun a => fieldAddrA Tryz.prog 140 a 2) t7) fun x1 =>
CM.pu (p1 (fun a => fieldAddrA Tryz.prog 132 a 2) t8) fun x2 =>
CM.pu (p1 (fun a => fieldAddrA Tryz.prog 38 a 0) t5) fun x3 =>
CM.rm (q1 (loadA Tryz.prog 36) x3 ) fun x4 =>
CM.call 154 [x1, x2, x4] fun x5 =>
CM.go 434178 [t0, t7, t8, x5]) (
CM.go 434178 [t0, t7, t8, t9])
theorem g106_1_ok : LeD (real E Mk Nk) g106_1 (fun ts m => goR E Mk 434177 ts m) := apS_le fun _ => apS_le fun _ => apS_le fun _ => apS_le fun _ => apS_le fun _ => ap0_le fun _ => goR_eq 400 (by kernel_rfl)
noncomputable def g106_2 : List AV → CM := apS fun t0 => apS fun t7 => apS fun t8 => apS fun t9 => ap0 <|
CM.pu (p2 (binA Tryz.prog .eql 23) t9 (.int .i64 0)) fun x0 =>
CM.cond x0 (
CM.rm (q1 (loadA Tryz.prog 140) t7 ) fun x1 =>
CM.call 155 [t0, x1] fun _ =>
CM.pu (p1 nnA t0) fun x3 =>
CM.pu (p1 (fun a => fieldAddrA Tryz.prog 128 a 1) x3) fun x4 =>
CM.rm (q1 (loadA Tryz.prog 124) x4 ) fun x5 =>
CM.pu (p1 (fun a => fieldAddrA Tryz.prog 132 a 0) t8) fun x6 =>
CM.rm (q1 (loadA Tryz.prog 9) x6 ) fun x7 =>
CM.rm (q1 (loadA Tryz.prog 132) t8 ) fun x8 =>
CM.call 84 [x5, x7, x8] fun _ =>
CM.go 434179 [t9]) (
CM.go 434179 [t9])
theorem g106_2_ok : LeD (real E Mk Nk) g106_2 (fun ts m => goR E Mk 434178 ts m) := apS_le fun _ => apS_le fun _ => apS_le fun _ => apS_le fun _ => ap0_le fun _ => goR_eq 400 (by kernel_rfl)
noncomputable def g106_3 : List AV → CM := apS fun t9 => ap0 <|
CM.ret t9
theorem g106_3_ok : LeD (real E Mk Nk) g106_3 (fun ts m => goR E Mk 434179 ts m) := apS_le fun _ => ap0_le fun _ => goR_eq 400 (by kernel_rfl)
noncomputable def f106 : List AV → CM := apS fun a0 => apS fun a1 => apS fun a2 => ap0 <|
CM.al (boxA a2) fun x0 =>
CM.call 152 [a0, a1] fun x1 =>
CM.pu (p1 (fun a => extractA a 0) x1) fun x2 =>
CM.pu (p1 (fun a => extractA a 1) x1) fun x3 =>
CM.pu (p1 (fun a => extractA a 2) x1) fun x4 =>
CM.al (some (.cells [(.int .u64 0), (.str []), (.int .i64 0), (.int .u64 0)] false, pB)) fun x5 =>
CM.al (some (.cells [(.str []), (.int .i64 0), (.int .i64 0), (.int .u64 0)] false, pB)) fun x6 =>
CM.st (fun m => stV m x5 x2 4) <|
CM.st (fun m => stV m x6 x3 4) <|
CM.pu (p2 (binA Tryz.prog .eql 23) x4 (.int .i64 0)) fun x9 =>
CM.cond x9 (
CM.rm (q1 (loadA Tryz.prog 132) x6 ) fun x10 =>
CM.rm (q1 (loadA Tryz.prog 38) x0 ) fun x11 =>
CM.call 153 [x10, x11] fun x12 =>
CM.go 434176 [a0, x0, x5, x6, x12]) (
CM.go 434176 [a0, x0, x5, x6, x4])
theorem f106_ok : LeD (real E Mk Nk) f106 (fun xs m => run E (.fn 106) xs m) := apS_le fun _ => apS_le fun _ => apS_le fun _ => ap0_le fun _ => run_eq 400 rfl (by kernel_rfl) (by kernel_rfl)
noncomputable def g107_0 : List AV → CM := apS fun t0 => apS fun t7 => apS fun t9 => apS fun t10 => apS fun t12 => ap0 <|
CM.rm (q1 (loadA Tryz.prog 132) t10 ) fun x0 =>
CM.rm (q1 (loadA Tryz.prog 38) t7 ) fun x1 =>
CM.call 153 [x0, x1] fun x2 =>
CM.pu (p2 (binA Tryz.prog .eql 23) x2 (.int .i64 0)) fun x3 =>
CM.ifv x3 (
CM.rm (q1 (loadA Tryz.prog 140) t9 ) fun x4 =>
CM.rm (q1 (loadA Tryz.prog 38) t7 ) fun x5 =>
CM.call 156 [x4, x5] fun x6 =>
CM.cond x6 (
CM.go 438273 [t0, t7, t9, (.int .i64 42), t12]) (
CM.go 438273 [t0, t7, t9, x2, t12])) (
CM.go 438273 [t0, t7, t9, x2, t12])
theorem g107_0_ok : LeD (real E Mk Nk) g107_0 (fun ts m => goR E Mk 438272 ts m) := apS_le fun _ => apS_le fun _ => apS_le fun _ => apS_le fun _ => apS_le fun _ => ap0_le fun _ => goR_eq 400 (by kernel_rfl)
noncomputable def g107_1 : List AV → CM := apS fun t0 => apS fun t7 => apS fun t9 => apS fun t11 => apS fun t12 => ap0 <|
CM.pu (p2 (binA Tryz.prog .eql 23) t11 (.int .i64 0)) fun x0 =>
CM.cond x0 (
CM.pu (p1 (fun a => fieldAddrA Tryz.prog 140 a 2) t9) fun x1 =>
CM.pu (p1 (fun a => fieldAddrA Tryz.prog 140 a 2) t12) fun x2 =>
CM.pu (p1 (fun a => fieldAddrA Tryz.prog 38 a 0) t7) fun x3 =>
CM.rm (q1 (loadA Tryz.prog 36) x3 ) fun x4 =>
CM.call 154 [x1, x2, x4] fun x5 =>
CM.go 438274 [t0, t9, x5, t12]) (
CM.go 438274 [t0, t9, t11, t12])
theorem g107_1_ok : LeD (real E Mk Nk) g107_1 (fun ts m => goR E Mk 438273 ts m) := apS_le fun _ => apS_le fun _ => apS_le fun _ => apS_le fun _ => apS_le fun _ => ap0_le fun _ => goR_eq 400 (by kernel_rfl)
noncomputable def g107_2 : List AV → CM := apS fun t0 => apS fun t9 => apS fun t11 => apS fun t12 => ap0 <|
CM.pu (p2 (binA Tryz.prog .eql 23) t11 (.int .i64 0)) fun x0 =>
CM.cond x0 (
CM.rm (q1 (loadA Tryz.prog 140) t9 ) fun x1 =>
CM.call 155 [t0, x1] fun _ =>
CM.rm (q1 (loadA Tryz.prog 140) t12 ) fun x3 =>
CM.call 155 [t0, x3] fun _ =>
CM.go 438275 [t11]) (
CM.go 438275 [t11])
theorem g107_2_ok : LeD (real E Mk Nk) g107_2 (fun ts m => goR E Mk 438274 ts m) := apS_le fun _ => apS_le fun _ => apS_le fun _ => apS_le fun _ => ap0_le fun _ => goR_eq 400 (by kernel_rfl)
noncomputable def g107_3 : List AV → CM := apS fun t11 => ap0 <|
CM.ret t11
theorem g107_3_ok : LeD (real E Mk Nk) g107_3 (fun ts m => goR E Mk 438275 ts m) := apS_le fun _ => ap0_le fun _ => goR_eq 400 (by kernel_rfl)
noncomputable def f107 : List AV → CM := apS fun a0 => apS fun a1 => apS fun a2 => apS fun a3 => ap0 <|
CM.al (boxA a3) fun x0 =>
CM.call 152 [a0, a1] fun x1 =>
CM.pu (p1 (fun a => extractA a 0) x1) fun x2 =>
CM.pu (p1 (fun a => extractA a 1) x1) fun x3 =>
CM.pu (p1 (fun a => extractA a 2) x1) fun x4 =>
CM.al (some (.cells [(.int .u64 0), (.str []), (.int .i64 0), (.int .u64 0)] false, pB)) fun x5 =>
CM.al (some (.cells [(.str []), (.int .i64 0), (.int .i64 0), (.int .u64 0)] false, pB)) fun x6 =>
CM.st (fun m => stV m x5 x2 4) <|
CM.st (fun m => stV m x6 x3 4) <|
CM.call 152 [a0, a2] fun x9 =>
CM.pu (p1 (fun a => extractA a 0) x9) fun x10 =>
CM.pu (p1 (fun a => extractA a 1) x9) fun x11 =>
CM.pu (p1 (fun a => extractA a 2) x9) fun x12 =>
CM.al (some (.cells [(.int .u64 0), (.str []), (.int .i64 0), (.int .u64 0)] false, pB)) fun x13 =>
CM.al (some (.cells [(.str []), (.int .i64 0), (.int .i64 0), (.int .u64 0)] false, pB)) fun x14 =>
CM.st (fun m => stV m x13 x10 4) <|
CM.st (fun m => stV m x14 x11 4) <|
CM.pu (p2 (binA Tryz.prog .neq 23) x4 (.int .i64 0)) fun x17 =>
CM.cond x17 (
CM.ret x4) (
CM.pu (p2 (binA Tryz.prog .neq 23) x12 (.int .i64 0)) fun x18 =>
CM.cond x18 (
CM.ret x12) (
CM.pu (p2 (binA Tryz.prog .eql 26) a1 a2) fun x19 =>
CM.cond x19 (
CM.ret (.int .i64 45)) (
CM.pu (p1 (fun a => fieldAddrA Tryz.prog 132 a 0) x6) fun x20 =>
CM.rm (q1 (loadA Tryz.prog 9) x20 ) fun x21 =>
CM.pu (p1 (fun a => fieldAddrA Tryz.prog 132 a 0) x14) fun x22 =>
CM.rm (q1 (loadA Tryz.prog 9) x22 ) fun x23 =>
CM.pu (p2 (binA Tryz.prog .neq 9) x21 x23) fun x24 =>
CM.cond x24 (
CM.ret (.int .i64 41)) (
CM.go 438272 [a0, x0, x5, x6, x13]))))
theorem f107_ok : LeD (real E Mk Nk) f107 (fun xs m => run E (.fn 107) xs m) := apS_le fun _ => apS_le fun _ => apS_le fun _ => apS_le fun _ => ap0_le fun _ => run_eq 400 rfl (by kernel_rfl) (by kernel_rfl)
noncomputable def g108_0 : List AV → CM := apS fun t0 => apS fun t1 => apS fun t2 => apS fun t7 => ap0 <|
CM.rm (q1 (loadA Tryz.prog 38) t7 ) fun x0 =>
CM.call 157 [x0] fun x1 =>
CM.pu (p2 (binA Tryz.prog .neq 23) x1 (.int .i64 0)) fun x2 =>
CM.cond x2 (
CM.ret x1) (
CM.go 442369 [t0, t1, t2, t7])
theorem g108_0_ok : LeD (real E Mk Nk) g108_0 (fun ts m => goR E Mk 442368 ts m) := apS_le fun _ => apS_le fun _ => apS_le fun _ => apS_le fun _ => ap0_le fun _ => goR_eq 400 (by kernel_rfl)
noncomputable def g108_1 : List AV → CM := apS fun t0 => apS fun t1 => apS fun t2 => apS fun t7 => ap0 <|
CM.pu (p1 nnA t0) fun x0 =>
CM.pu (p1 (fun a => fieldAddrA Tryz.prog 128 a 2) x0) fun x1 =>
CM.rm (q1 (loadA Tryz.prog 125) x1 ) fun x2 =>
CM.pu (p2 (binA Tryz.prog .add 9) t1 t2) fun x3 =>
CM.call 158 [x2, x3] fun x4 =>
CM.pu (p1 (fun a => extractA a 0) x4) fun x5 =>
CM.pu (p1 (fun a => extractA a 1) x4) fun _ =>
CM.al (some (.cells [(.str []), (.str []), (.int .i64 0), (.int .u64 0), (.int .i64 0), (.int .i64 0), (.int .u64 0), (.int .i64 0), (.int .u64 0)] false, pB)) fun x7 =>
CM.st (fun m => stV m x7 x5 9) <|
CM.rm (q1 (loadA Tryz.prog 38) t7 ) fun x9 =>
CM.pu (p1 (fun a => fieldAddrA Tryz.prog 136 a 0) x7) fun x10 =>
CM.st (fun m => stV m x10 t1 1) <|
CM.memo fun m13 =>
CM.chk (q1 (loadA Tryz.prog 38) t7 m13) x9 <|
CM.pu (p1 (fun a => fieldAddrA Tryz.prog 136 a 1) x7) fun x14 =>
CM.st (fun m => stV m x14 t2 1) <|
CM.memo fun m17 =>
CM.chk (q1 (loadA Tryz.prog 38) t7 m17) x9 <|
CM.pu (p1 (fun a => fieldAddrA Tryz.prog 136 a 2) x7) fun x18 =>
CM.st (fun m => stV m x18 x9 3) <|
CM.pu (p1 nnA t0) fun x22 =>
CM.pu (p1 (fun a => fieldAddrA Tryz.prog 128 a 2) x22) fun x23 =>
CM.rm (q1 (loadA Tryz.prog 125) x23 ) fun x24 =>
CM.pu (p2 (binA Tryz.prog .add 9) t1 t2) fun x25 =>
CM.rm (q1 (loadA Tryz.prog 136) x7 ) fun x26 =>
CM.call 85 [x24, x25, x26] fun _ =>
CM.ret (.int .i64 0)
theorem g108_1_ok : LeD (real E Mk Nk) g108_1 (fun ts m => goR E Mk 442369 ts m) := apS_le fun _ => apS_le fun _ => apS_le fun _ => apS_le fun _ => ap0_le fun _ => goR_eq 400 (by kernel_rfl)
noncomputable def f108 : List AV → CM := apS fun a0 => apS fun a1 => apS fun a2 => apS fun a3 => ap0 <|
CM.al (boxA a3) fun x0 =>
CM.pu (p1 nnA a0) fun x1 =>
CM.pu (p1 (fun a => fieldAddrA Tryz.prog 128 a 1) x1) fun x2 =>
CM.rm (q1 (loadA Tryz.prog 124) x2 ) fun x3 =>
CM.call 150 [x3, a1] fun x4 =>
CM.pu (p1 (fun a => extractA a 0) x4) fun x5 =>
CM.pu (p1 (fun a => extractA a 1) x4) fun x6 =>
CM.al (some (.cells [(.str []), (.int .i64 0), (.int .i64 0), (.int .u64 0)] false, pB)) fun x7 =>
CM.st (fun m => stV m x7 x5 4) <|
CM.pu (p1 nnA a0) fun x9 =>
CM.pu (p1 (fun a => fieldAddrA Tryz.prog 128 a 1) x9) fun x10 =>
CM.rm (q1 (loadA Tryz.prog 124) x10 ) fun x11 =>
CM.call 150 [x11, a2] fun x12 =>
CM.pu (p1 (fun a => extractA a 0) x12) fun x13 =>
CM.pu (p1 (fun a => extractA a 1) x12) fun x14 =>
CM.al (some (.cells [(.str []), (.int .i64 0), (.int .i64 0), (.int .u64 0)] false, pB)) fun x15 =>
CM.st (fun m => stV m x15 x13 4) <|
CM.pu (p1 (unA .not) x6) fun x17 =>
CM.ifv x17 (
CM.ret (.int .i64 41)) (
CM.pu (p1 (unA .not) x14) fun x18 =>
CM.cond x18 (
CM.ret (.int .i64 41)) (
CM.pu (p2 (binA Tryz.prog .eql 9) a1 a2) fun x19 =>
CM.cond x19 (
CM.ret (.int .i64 45)) (
CM.go 442368 [a0, a1, a2, x0])))
theorem f108_ok : LeD (real E Mk Nk) f108 (fun xs m => run E (.fn 108) xs m) := apS_le fun _ => apS_le fun _ => apS_le fun _ => apS_le fun _ => ap0_le fun _ => run_eq 400 rfl (by kernel_rfl) (by kernel_rfl)
noncomputable def g109_0 : List AV → CM := apS fun t0 => apS fun t7 => apS fun t8 => apS fun t10 => apS fun t11 => apS fun t13 => apS fun t14 => apS fun t16 => ap0 <|
CM.rm (q1 (loadA Tryz.prog 132) t11 ) fun x0 =>
CM.rm (q1 (loadA Tryz.prog 38) t7 ) fun x1 =>
CM.call 153 [x0, x1] fun x2 =>
CM.pu (p2 (binA Tryz.prog .eql 23) x2 (.int .i64 0)) fun x3 =>
CM.ifv x3 (
CM.rm (q1 (loadA Tryz.prog 140) t10 ) fun x4 =>
CM.rm (q1 (loadA Tryz.prog 38) t7 ) fun x5 =>
CM.call 156 [x4, x5] fun x6 =>
CM.cond x6 (
CM.go 446465 [t0, t7, t8, t10, (.int .i64 42), t13, t14, t16]) (
CM.go 446465 [t0, t7, t8, t10, x2, t13, t14, t16])) (
CM.go 446465 [t0, t7, t8, t10, x2, t13, t14, t16])
theorem g109_0_ok : LeD (real E Mk Nk) g109_0 (fun ts m => goR E Mk 446464 ts m) := apS_le fun _ => apS_le fun _ => apS_le fun _ => apS_le fun _ => apS_le fun _ => apS_le fun _ => apS_le fun _ => apS_le fun _ => ap0_le fun _ => goR_eq 400 (by kernel_rfl)
noncomputable def g109_1 : List AV → CM := apS fun t0 => apS fun t7 => apS fun t8 => apS fun t10 => apS fun t12 => apS fun t13 => apS fun t14 => apS fun t16 => ap0 <|
CM.al (some (.cells [(.int .i64 0), (.int .u64 0), (.int .i64 0)] false, pB)) fun x0 =>
CM.pu (p2 (binA Tryz.prog .eql 23) t12 (.int .i64 0)) fun x1 =>
CM.cond x1 (
CM.rm (q1 (loadA Tryz.prog 38) t7 ) fun x2 =>
CM.pu (p1 (fun a => fieldAddrA Tryz.prog 136 a 2) t16) fun x3 =>
CM.rm (q1 (loadA Tryz.prog 38) x3 ) fun x4 =>
CM.pu (p1 (fun a => fieldAddrA Tryz.prog 132 a 1) t14) fun x5 =>
CM.rm (q1 (loadA Tryz.prog 3) x5 ) fun x6 =>
CM.call 159 [x2, x4, x6] fun x7 =>
CM.pu (p1 (fun a => extractA a 0) x7) fun x8 =>
CM.pu (p1 (fun a => extractA a 1) x7) fun x9 =>
CM.st (fun m => stV m x0 x8 3) <|
CM.go 446466 [t0, t7, t8, t10, x9, t13, t16, x0]) (
CM.go 446466 [t0, t7, t8, t10, t12, t13, t16, x0])
theorem g109_1_ok : LeD (real E Mk Nk) g109_1 (fun ts m => goR E Mk 446465 ts m) := apS_le fun _ => apS_le fun _ => apS_le fun _ => apS_le fun _ => apS_le fun _ => apS_le fun _ => apS_le fun _ => apS_le fun _ => ap0_le fun _ => goR_eq 400 (by kernel_rfl)
noncomputable def g109_2 : List AV → CM := apS fun t0 => apS fun t7 => apS fun t8 => apS fun t10 => apS fun t12 => apS fun t13 => apS fun t16 => apS fun t18 => ap0 <|
CM.pu (p2 (binA Tryz.prog .eql 23) t12 (.int .i64 0)) fun x0 =>
CM.cond x0 (
CM.pu (p1 (fun a => fieldAddrA Tryz.prog 140 a 2) t10) fun x1 =>
CM.pu (p1 (fun a => fieldAddrA Tryz.prog 136 a 3) t16) fun x2 =>
CM.pu (p1 (fun a => fieldAddrA Tryz.prog 38 a 0) t7) fun x3 =>
CM.rm (q1 (loadA Tryz.prog 36) x3 ) fun x4 =>
CM.call 154 [x1, x2, x4] fun x5 =>
CM.go 446467 [t0, t8, t10, x5, t13, t16, t18]) (
CM.go 446467 [t0, t8, t10, t12, t13, t16, t18])
theorem g109_2_ok : LeD (real E Mk Nk) g109_2 (fun ts m => goR E Mk 446466 ts m) := apS_le fun _ => apS_le fun _ => apS_le fun _ => apS_le fun _ => apS_le fun _ => apS_le fun _ => apS_le fun _ => apS_le fun _ => ap0_le fun _ => goR_eq 400 (by kernel_rfl)
noncomputable def g109_3 : List AV → CM := apS fun t0 => apS fun t8 => apS fun t10 => apS fun t12 => apS fun t13 => apS fun t16 => apS fun t18 => ap0 <|
CM.pu (p2 (binA Tryz.prog .eql 23) t12 (.int .i64 0)) fun x0 =>
CM.cond x0 (
CM.pu (p1 (fun a => fieldAddrA Tryz.prog 136 a 4) t16) fun x1 =>
CM.pu (p1 (fun a => fieldAddrA Tryz.prog 140 a 2) t13) fun x2 =>
CM.pu (p1 (fun a => fieldAddrA Tryz.prog 38 a 0) t18) fun x3 =>
CM.rm (q1 (loadA Tryz.prog 36) x3 ) fun x4 =>
CM.call 154 [x1, x2, x4] fun x5 =>
CM.go 446468 [t0, t8, t10, x5, t13, t16, t18]) (
CM.go 446468 [t0, t8, t10, t12, t13, t16, t18])
theorem g109_3_ok : LeD (real E Mk Nk) g109_3 (fun ts m => goR E Mk 446467 ts m) := apS_le fun _ => apS_le fun _ => apS_le fun _ => apS_le fun _ => apS_le fun _ => apS_le fun _ => apS_le fun _ => ap0_le fun _ => goR_eq 400 (by kernel_rfl)
noncomputable def g109_4 : List AV → CM := apS fun t0 => apS fun t8 => apS fun t10 => apS fun t12 => apS fun t13 => apS fun t16 => apS fun t18 => ap0 <|
CM.pu (p2 (binA Tryz.prog .neq 23) t12 (.int .i64 0)) fun x0 =>
CM.cond x0 (
CM.pu (p1 (buildA Tryz.prog 38) []) fun x1 =>
CM.st (fun m => stV m t8 x1 3) <|
CM.resC Tryz.prog [ResultVar.cell 0 38, ResultVar.tmp 1] [t8, t12]) (
CM.go 446469 [t0, t8, t10, t13, t16, t18])
theorem g109_4_ok : LeD (real E Mk Nk) g109_4 (fun ts m => goR E Mk 446468 ts m) := apS_le fun _ => apS_le fun _ => apS_le fun _ => apS_le fun _ => apS_le fun _ => apS_le fun _ => apS_le fun _ => ap0_le fun _ => goR_eq 400 (by kernel_rfl)
noncomputable def g109_5 : List AV → CM := apS fun t0 => apS fun t8 => apS fun t10 => apS fun t13 => apS fun t16 => apS fun t18 => ap0 <|
CM.rm (q1 (loadA Tryz.prog 140) t10 ) fun x0 =>
CM.call 155 [t0, x0] fun _ =>
CM.rm (q1 (loadA Tryz.prog 140) t13 ) fun x2 =>
CM.call 155 [t0, x2] fun _ =>
CM.pu (p1 nnA t0) fun x4 =>
CM.pu (p1 (fun a => fieldAddrA Tryz.prog 128 a 2) x4) fun x5 =>
CM.rm (q1 (loadA Tryz.prog 125) x5 ) fun x6 =>
CM.pu (p1 (fun a => fieldAddrA Tryz.prog 136 a 0) t16) fun x7 =>
CM.rm (q1 (loadA Tryz.prog 9) x7 ) fun x8 =>
CM.pu (p1 (fun a => fieldAddrA Tryz.prog 136 a 1) t16) fun x9 =>
CM.rm (q1 (loadA Tryz.prog 9) x9 ) fun x10 =>
CM.pu (p2 (binA Tryz.prog .add 9) x8 x10) fun x11 =>
CM.rm (q1 (loadA Tryz.prog 136) t16 ) fun x12 =>
CM.call 85 [x6, x11, x12] fun _ =>
CM.rm (q1 (loadA Tryz.prog 38) t18 ) fun x16 =>
CM.st (fun m => stV m t8 x16 3) <|
CM.resC Tryz.prog [ResultVar.cell 0 38, ResultVar.tmp 1] [t8, (.int .i64 0)]
theorem g109_5_ok : LeD (real E Mk Nk) g109_5 (fun ts m => goR E Mk 446469 ts m) := apS_le fun _ => apS_le fun _ => apS_le fun _ => apS_le fun _ => apS_le fun _ => apS_le fun _ => ap0_le fun _ => goR_eq 400 (by kernel_rfl)
noncomputable def f109 : List AV → CM := apS fun a0 => apS fun a1 => apS fun a2 => apS fun a3 => ap0 <|
CM.al (boxA a3) fun x0 =>
CM.al (some (.cells [(.int .i64 0), (.int .u64 0), (.int .i64 0)] false, pB)) fun x1 =>
CM.call 152 [a0, a1] fun x2 =>
CM.pu (p1 (fun a => extractA a 0) x2) fun x3 =>
CM.pu (p1 (fun a => extractA a 1) x2) fun x4 =>
CM.pu (p1 (fun a => extractA a 2) x2) fun x5 =>
CM.al (some (.cells [(.int .u64 0), (.str []), (.int .i64 0), (.int .u64 0)] false, pB)) fun x6 =>
CM.al (some (.cells [(.str []), (.int .i64 0), (.int .i64 0), (.int .u64 0)] false, pB)) fun x7 =>
CM.st (fun m => stV m x6 x3 4) <|
CM.st (fun m => stV m x7 x4 4) <|
CM.call 152 [a0, a2] fun x10 =>
CM.pu (p1 (fun a => extractA a 0) x10) fun x11 =>
CM.pu (p1 (fun a => extractA a 1) x10) fun x12 =>
CM.pu (p1 (fun a => extractA a 2) x10) fun x13 =>
CM.al (some (.cells [(.int .u64 0), (.str []), (.int .i64 0), (.int .u64 0)] false, pB)) fun x14 =>
CM.al (some (.cells [(.str []), (.int .i64 0), (.int .i64 0), (.int .u64 0)] false, pB)) fun x15 =>
CM.st (fun m => stV m x14 x11 4) <|
CM.st (fun m => stV m x15 x12 4) <|
CM.pu (p1 nnA a0) fun x18 =>
CM.pu (p1 (fun a => fieldAddrA Tryz.prog 128 a 2) x18) fun x19 =>
CM.rm (q1 (loadA Tryz.prog 125) x19 ) fun x20 =>
CM.pu (p1 (fun a => fieldAddrA Tryz.prog 132 a 0) x7) fun x21 =>
CM.rm (q1 (loadA Tryz.prog 9) x21 ) fun x22 =>
CM.pu (p1 (fun a => fieldAddrA Tryz.prog 132 a 0) x15) fun x23 =>
CM.rm (q1 (loadA Tryz.prog 9) x23 ) fun x24 =>
CM.pu (p2 (binA Tryz.prog .add 9) x22 x24) fun x25 =>
CM.call 158 [x20, x25] fun x27 =>
CM.pu (p1 (fun a => extractA a 0) x27) fun x29 =>
CM.pu (p1 (fun a => extractA a 1) x27) fun x30 =>
CM.al (some (.cells [(.str []), (.str []), (.int .i64 0), (.int .u64 0), (.int .i64 0), (.int .i64 0), (.int .u64 0), (.int .i64 0), (.int .u64 0)] false, pB)) fun x31 =>
CM.st (fun m => stV m x31 x29 9) <|
CM.pu (p2 (binA Tryz.prog .neq 23) x5 (.int .i64 0)) fun x35 =>
CM.cond x35 (
CM.pu (p1 (buildA Tryz.prog 38) []) fun x36 =>
CM.st (fun m => stV m x1 x36 3) <|
CM.resC Tryz.prog [ResultVar.cell 0 38, ResultVar.tmp 1] [x1, x5]) (
CM.pu (p2 (binA Tryz.prog .neq 23) x13 (.int .i64 0)) fun x38 =>
CM.cond x38 (
CM.pu (p1 (buildA Tryz.prog 38) []) fun x39 =>
CM.st (fun m => stV m x1 x39 3) <|
CM.resC Tryz.prog [ResultVar.cell 0 38, ResultVar.tmp 1] [x1, x13]) (
CM.pu (p1 (fun a => fieldAddrA Tryz.prog 132 a 0) x7) fun x41 =>
CM.rm (q1 (loadA Tryz.prog 9) x41 ) fun x42 =>
CM.pu (p1 (fun a => fieldAddrA Tryz.prog 132 a 0) x15) fun x43 =>
CM.rm (q1 (loadA Tryz.prog 9) x43 ) fun x44 =>
CM.pu (p2 (binA Tryz.prog .eql 9) x42 x44) fun x45 =>
CM.cond x45 (
CM.pu (p1 (buildA Tryz.prog 38) []) fun x46 =>
CM.st (fun m => stV m x1 x46 3) <|
CM.resC Tryz.prog [ResultVar.cell 0 38, ResultVar.tmp 1] [x1, (.int .i64 45)]) (
CM.pu (p1 (unA .not) x30) fun x48 =>
CM.cond x48 (
CM.pu (p1 (buildA Tryz.prog 38) []) fun x49 =>
CM.st (fun m => stV m x1 x49 3) <|
CM.resC Tryz.prog [ResultVar.cell 0 38, ResultVar.tmp 1] [x1, (.int .i64 44)]) (
CM.go 446464 [a0, x0, x1, x6, x7, x14, x15, x31]))))
theorem f109_ok : LeD (real E Mk Nk) f109 (fun xs m => run E (.fn 109) xs m) := apS_le fun _ => apS_le fun _ => apS_le fun _ => apS_le fun _ => ap0_le fun _ => run_eq 400 rfl (by kernel_rfl) (by kernel_rfl)
noncomputable def g110_0 : List AV → CM := apS fun t4 => apS fun t6 => apS fun t7 => ap0 <|
CM.pu (p1 (fun a => fieldAddrA Tryz.prog 140 a 2) t6) fun x0 =>
CM.rm (q1 (loadA Tryz.prog 36) x0 ) fun x1 =>
CM.pu (p1 (fun a => fieldAddrA Tryz.prog 132 a 1) t7) fun x2 =>
CM.rm (q1 (loadA Tryz.prog 3) x2 ) fun x3 =>
CM.pu (p1 (buildA Tryz.prog 38) [(0, x1), (1, x3)]) fun x4 =>
CM.st (fun m => stV m t4 x4 3) <|
CM.resC Tryz.prog [ResultVar.cell 0 38, ResultVar.tmp 1] [t4, (.int .i64 0)]
theorem g110_0_ok : LeD (real E Mk Nk) g110_0 (fun ts m => goR E Mk 450560 ts m) := apS_le fun _ => apS_le fun _ => apS_le fun _ => ap0_le fun _ => goR_eq 400 (by kernel_rfl)
noncomputable def f110 : List AV → CM := apS fun a0 => apS fun a1 => ap0 <|
CM.al (some (.cells [(.int .i64 0), (.int .u64 0), (.int .i64 0)] false, pB)) fun x0 =>
CM.call 152 [a0, a1] fun x1 =>
CM.pu (p1 (fun a => extractA a 0) x1) fun x2 =>
CM.pu (p1 (fun a => extractA a 1) x1) fun x3 =>
CM.pu (p1 (fun a => extractA a 2) x1) fun x4 =>
CM.al (some (.cells [(.int .u64 0), (.str []), (.int .i64 0), (.int .u64 0)] false, pB)) fun x5 =>
CM.al (some (.cells [(.str []), (.int .i64 0), (.int .i64 0), (.int .u64 0)] false, pB)) fun x6 =>
CM.st (fun m => stV m x5 x2 4) <|
CM.st (fun m => stV m x6 x3 4) <|
CM.pu (p2 (binA Tryz.prog .neq 23) x4 (.int .i64 0)) fun x9 =>
CM.cond x9 (
CM.pu (p1 (buildA Tryz.prog 38) []) fun x10 =>
CM.st (fun m => stV m x0 x10 3) <|
CM.resC Tryz.prog [ResultVar.cell 0 38, ResultVar.tmp 1] [x0, x4]) (
CM.go 450560 [x0, x5, x6])
theorem f110_ok : LeD (real E Mk Nk) f110 (fun xs m => run E (.fn 110) xs m) := apS_le fun _ => apS_le fun _ => ap0_le fun _ => run_eq 400 rfl (by kernel_rfl) (by kernel_rfl)
noncomputable def g111_0 : List AV → CM := apS fun t4 => apS fun t6 => ap0 <|
CM.pu (p1 (fun a => fieldAddrA Tryz.prog 132 a 2) t6) fun x0 =>
CM.rm (q1 (loadA Tryz.prog 36) x0 ) fun x1 =>
CM.pu (p1 (fun a => fieldAddrA Tryz.prog 132 a 1) t6) fun x2 =>
CM.rm (q1 (loadA Tryz.prog 3) x2 ) fun x3 =>
CM.pu (p1 (buildA Tryz.prog 38) [(0, x1), (1, x3)]) fun x4 =>
CM.st (fun m => stV m t4 x4 3) <|
CM.resC Tryz.prog [ResultVar.cell 0 38, ResultVar.tmp 1] [t4, (.int .i64 0)]
theorem g111_0_ok : LeD (real E Mk Nk) g111_0 (fun ts m => goR E Mk 454656 ts m) := apS_le fun _ => apS_le fun _ => ap0_le fun _ => goR_eq 400 (by kernel_rfl)
noncomputable def f111 : List AV → CM := apS fun a0 => apS fun a1 => ap0 <|
CM.al (some (.cells [(.int .i64 0), (.int .u64 0), (.int .i64 0)] false, pB)) fun x0 =>
CM.pu (p1 nnA a0) fun x1 =>
CM.pu (p1 (fun a => fieldAddrA Tryz.prog 128 a 1) x1) fun x2 =>
CM.rm (q1 (loadA Tryz.prog 124) x2 ) fun x3 =>
CM.call 150 [x3, a1] fun x4 =>
CM.pu (p1 (fun a => extractA a 0) x4) fun x5 =>
CM.pu (p1 (fun a => extractA a 1) x4) fun x6 =>
CM.al (some (.cells [(.str []), (.int .i64 0), (.int .i64 0), (.int .u64 0)] false, pB)) fun x7 =>
CM.st (fun m => stV m x7 x5 4) <|
CM.pu (p1 (unA .not) x6) fun x9 =>
CM.cond x9 (
CM.pu (p1 (buildA Tryz.prog 38) []) fun x10 =>
CM.st (fun m => stV m x0 x10 3) <|
CM.resC Tryz.prog [ResultVar.cell 0 38, ResultVar.tmp 1] [x0, (.int .i64 41)]) (
CM.go 454656 [x0, x7])
theorem f111_ok : LeD (real E Mk Nk) f111 (fun xs m => run E (.fn 111) xs m) := apS_le fun _ => apS_le fun _ => ap0_le fun _ => run_eq 400 rfl (by kernel_rfl) (by kernel_rfl)
noncomputable def g112_0 : List AV → CM := apS fun t6 => apS fun t8 => apS fun t12 => ap0 <|
CM.pu (p1 (fun a => fieldAddrA Tryz.prog 136 a 3) t12) fun x0 =>
CM.rm (q1 (loadA Tryz.prog 36) x0 ) fun x1 =>
CM.pu (p1 (fun a => fieldAddrA Tryz.prog 132 a 1) t8) fun x2 =>
CM.rm (q1 (loadA Tryz.prog 3) x2 ) fun x3 =>
CM.pu (p1 (buildA Tryz.prog 38) [(0, x1), (1, x3)]) fun x4 =>
CM.st (fun m => stV m t6 x4 3) <|
CM.resC Tryz.prog [ResultVar.cell 0 38, ResultVar.tmp 1] [t6, (.int .i64 0)]
theorem g112_0_ok : LeD (real E Mk Nk) g112_0 (fun ts m => goR E Mk 458752 ts m) := apS_le fun _ => apS_le fun _ => apS_le fun _ => ap0_le fun _ => goR_eq 400 (by kernel_rfl)
noncomputable def f112 : List AV → CM := apS fun a0 => apS fun a1 => apS fun a2 => ap0 <|
CM.al (some (.cells [(.int .i64 0), (.int .u64 0), (.int .i64 0)] false, pB)) fun x0 =>
CM.pu (p1 nnA a0) fun x1 =>
CM.pu (p1 (fun a => fieldAddrA Tryz.prog 128 a 1) x1) fun x2 =>
CM.rm (q1 (loadA Tryz.prog 124) x2 ) fun x3 =>
CM.call 150 [x3, a1] fun x4 =>
CM.pu (p1 (fun a => extractA a 0) x4) fun x5 =>
CM.pu (p1 (fun a => extractA a 1) x4) fun x6 =>
CM.al (some (.cells [(.str []), (.int .i64 0), (.int .i64 0), (.int .u64 0)] false, pB)) fun x7 =>
CM.st (fun m => stV m x7 x5 4) <|
CM.pu (p1 nnA a0) fun x9 =>
CM.pu (p1 (fun a => fieldAddrA Tryz.prog 128 a 1) x9) fun x10 =>
CM.rm (q1 (loadA Tryz.prog 124) x10 ) fun x11 =>
CM.call 150 [x11, a2] fun x12 =>
CM.pu (p1 (fun a => extractA a 0) x12) fun x13 =>
CM.pu (p1 (fun a => extractA a 1) x12) fun x14 =>
CM.al (some (.cells [(.str []), (.int .i64 0), (.int .i64 0), (.int .u64 0)] false, pB)) fun x15 =>
CM.st (fun m => stV m x15 x13 4) <|
CM.pu (p1 nnA a0) fun x17 =>
CM.pu (p1 (fun a => fieldAddrA Tryz.prog 128 a 2) x17) fun x18 =>
CM.rm (q1 (loadA Tryz.prog 125) x18 ) fun x19 =>
CM.pu (p2 (binA Tryz.prog .add 9) a1 a2) fun x20 =>
CM.call 158 [x19, x20] fun x21 =>
CM.pu (p1 (fun a => extractA a 0) x21) fun x22 =>
CM.pu (p1 (fun a => extractA a 1) x21) fun x23 =>
CM.al (some (.cells [(.str []), (.str []), (.int .i64 0), (.int .u64 0), (.int .i64 0), (.int .i64 0), (.int .u64 0), (.int .i64 0), (.int .u64 0)] false, pB)) fun x24 =>
CM.st (fun m => stV m x24 x22 9) <|
CM.pu (p1 (unA .not) x6) fun x26 =>
CM.ifv x26 (
CM.pu (p1 (buildA Tryz.prog 38) []) fun x27 =>
CM.st (fun m => stV m x0 x27 3) <|
CM.resC Tryz.prog [ResultVar.cell 0 38, ResultVar.tmp 1] [x0, (.int .i64 41)]) (
CM.pu (p1 (unA .not) x14) fun x29 =>
CM.cond x29 (
CM.pu (p1 (buildA Tryz.prog 38) []) fun x30 =>
CM.st (fun m => stV m x0 x30 3) <|
CM.resC Tryz.prog [ResultVar.cell 0 38, ResultVar.tmp 1] [x0, (.int .i64 41)]) (
CM.pu (p1 (unA .not) x23) fun x32 =>
CM.cond x32 (
CM.pu (p1 (buildA Tryz.prog 38) []) fun x33 =>
CM.st (fun m => stV m x0 x33 3) <|
CM.resC Tryz.prog [ResultVar.cell 0 38, ResultVar.tmp 1] [x0, (.int .i64 44)]) (
CM.go 458752 [x0, x7, x24])))
theorem f112_ok : LeD (real E Mk Nk) f112 (fun xs m => run E (.fn 112) xs m) := apS_le fun _ => apS_le fun _ => apS_le fun _ => ap0_le fun _ => run_eq 400 rfl (by kernel_rfl) (by kernel_rfl)
end Go.Proofs.YtfiipajgdhafaaaGreat.T
