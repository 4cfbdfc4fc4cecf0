/- What each tree is, and facts of the types. Printed by our own program (wip/tools/gen4.py). -/
import Derived.Test.YtlginbmjiecglaaEnv2
import Derived.Test.YtlginbmjiecglaaAbs29
namespace Go.Proofs.Ytlginbmjiecglaa
open Go Go.Abs Go.Proofs.Ytlginbmjiecglaa.T
set_option maxRecDepth 4000
theorem D2_call (t : Tg) (xs : List AV) (m : Mem) : D2.call t xs m = run E2 t xs m := rfl
theorem cv3_5 (k : IntKind) (n : Int) : convA Try.prog 3 5 (.int k n) = some (.int .u8 (IntKind.wrap .u8 n)) := by kernel_rfl
theorem ts30 (a : AA) (sz n c : Nat) (e : Bool) (m : Mem) : toStrA Try.prog 30 (.sl (some a) sz n c e) m = ((ldCells m a n).bind bytesA).map AV.str := by kernel_rfl
theorem cv3_22 (k : IntKind) (n : Int) : convA Try.prog 3 22 (.int k n) = some (.int .u64 (IntKind.wrap .u64 n)) := by kernel_rfl
theorem fa38_1 (b o : Nat) : fieldAddrA Try.prog 38 (.ptr (some ⟨b, o⟩)) 1 = some (.ptr (some ⟨b, o + 1⟩)) := by kernel_rfl
theorem fa38_2 (b o : Nat) : fieldAddrA Try.prog 38 (.ptr (some ⟨b, o⟩)) 2 = some (.ptr (some ⟨b, o + 2⟩)) := by kernel_rfl
theorem fa38_3 (b o : Nat) : fieldAddrA Try.prog 38 (.ptr (some ⟨b, o⟩)) 3 = some (.ptr (some ⟨b, o + 3⟩)) := by kernel_rfl
theorem bd38 (ps : List (Nat × AV)) : buildA Try.prog 38 ps = (fillA (fun i => ([(0, 1), (1, 1), (2, 1), (3, 1), (4, 1)] : List (Nat × Nat))[i]?) [.int .i64 0, .ptr none, .ptr none, .ptr none, .int .u64 0] ps).map AV.agg := by kernel_rfl
theorem ld48 (p : AV) (m : Mem) : loadA Try.prog 48 p m = ldN m p 3 := by kernel_rfl
theorem ld34 (p : AV) (m : Mem) : loadA Try.prog 34 p m = ld1 m p := by kernel_rfl
theorem bd44 (ps : List (Nat × AV)) : buildA Try.prog 44 ps = (fillA (fun i => ([(0, 1), (1, 1), (2, 2)] : List (Nat × Nat))[i]?) [.str [], .int .i64 0, .int .i64 0, .int .u64 0] ps).map AV.agg := by kernel_rfl
theorem cv22_3 (k : IntKind) (n : Int) : convA Try.prog 22 3 (.int k n) = some (.int .i64 (IntKind.wrap .i64 n)) := by kernel_rfl
theorem fa38_0 (b o : Nat) : fieldAddrA Try.prog 38 (.ptr (some ⟨b, o⟩)) 0 = some (.ptr (some ⟨b, o + 0⟩)) := by kernel_rfl
theorem fa38_4 (b o : Nat) : fieldAddrA Try.prog 38 (.ptr (some ⟨b, o⟩)) 4 = some (.ptr (some ⟨b, o + 4⟩)) := by kernel_rfl
theorem ld36 (p : AV) (m : Mem) : loadA Try.prog 36 p m = ld1 m p := by kernel_rfl
theorem ld3 (p : AV) (m : Mem) : loadA Try.prog 3 p m = ld1 m p := by kernel_rfl
theorem ld22 (p : AV) (m : Mem) : loadA Try.prog 22 p m = ld1 m p := by kernel_rfl
theorem bd54 (ps : List (Nat × AV)) : buildA Try.prog 54 ps = (fillA (fun i => ([(0, 1), (1, 1), (2, 2)] : List (Nat × Nat))[i]?) [.int .u64 0, .str [], .int .i64 0, .int .u64 0] ps).map AV.agg := by kernel_rfl
theorem bd68 (ps : List (Nat × AV)) : buildA Try.prog 68 ps = (fillA (fun i => ([(0, 1), (1, 1), (2, 1)] : List (Nat × Nat))[i]?) [.sl none 0 0 0 true, .sl none 0 0 0 true, .int .i64 0] ps).map AV.agg := by kernel_rfl
theorem bd71 (ps : List (Nat × AV)) : buildA Try.prog 71 ps = (fillA (fun i => ([(0, 1), (1, 1), (2, 1)] : List (Nat × Nat))[i]?) [.sl none 0 0 0 true, .sl none 0 0 0 true, .int .i64 0] ps).map AV.agg := by kernel_rfl
theorem bd75 (ps : List (Nat × AV)) : buildA Try.prog 75 ps = (fillA (fun i => ([(0, 1), (1, 1), (2, 1)] : List (Nat × Nat))[i]?) [.sl none 0 0 0 true, .sl none 0 0 0 true, .int .i64 0] ps).map AV.agg := by kernel_rfl
theorem fa44_2 (b o : Nat) : fieldAddrA Try.prog 44 (.ptr (some ⟨b, o⟩)) 2 = some (.ptr (some ⟨b, o + 2⟩)) := by kernel_rfl
theorem fa54_2 (b o : Nat) : fieldAddrA Try.prog 54 (.ptr (some ⟨b, o⟩)) 2 = some (.ptr (some ⟨b, o + 2⟩)) := by kernel_rfl
theorem fa48_0 (b o : Nat) : fieldAddrA Try.prog 48 (.ptr (some ⟨b, o⟩)) 0 = some (.ptr (some ⟨b, o + 0⟩)) := by kernel_rfl
theorem ld42 (p : AV) (m : Mem) : loadA Try.prog 42 p m = ldN m p 2 := by kernel_rfl
theorem fa44_0 (b o : Nat) : fieldAddrA Try.prog 44 (.ptr (some ⟨b, o⟩)) 0 = some (.ptr (some ⟨b, o + 0⟩)) := by kernel_rfl
theorem ld54 (p : AV) (m : Mem) : loadA Try.prog 54 p m = ldN m p 4 := by kernel_rfl
theorem ld9 (p : AV) (m : Mem) : loadA Try.prog 9 p m = ld1 m p := by kernel_rfl
theorem ld44 (p : AV) (m : Mem) : loadA Try.prog 44 p m = ldN m p 4 := by kernel_rfl
theorem bd48 (ps : List (Nat × AV)) : buildA Try.prog 48 ps = (fillA (fun i => ([(0, 2), (2, 1)] : List (Nat × Nat))[i]?) [.int .i64 0, .int .u64 0, .int .i64 0] ps).map AV.agg := by kernel_rfl
theorem fa44_1 (b o : Nat) : fieldAddrA Try.prog 44 (.ptr (some ⟨b, o⟩)) 1 = some (.ptr (some ⟨b, o + 1⟩)) := by kernel_rfl
theorem fa68_1 (b o : Nat) : fieldAddrA Try.prog 68 (.ptr (some ⟨b, o⟩)) 1 = some (.ptr (some ⟨b, o + 1⟩)) := by kernel_rfl
theorem ld66 (p : AV) (m : Mem) : loadA Try.prog 66 p m = ld1 m p := by kernel_rfl
theorem ix66 (a : AA) (sz n c : Nat) (e : Bool) (k : IntKind) (i : Int) : indexAddrA Try.prog 66 (.sl (some a) sz n c e) (.int k i) = if 4 = sz ∨ e = true then ixA 4 n a i else none := by kernel_rfl
theorem fa68_0 (b o : Nat) : fieldAddrA Try.prog 68 (.ptr (some ⟨b, o⟩)) 0 = some (.ptr (some ⟨b, o + 0⟩)) := by kernel_rfl
theorem ld65 (p : AV) (m : Mem) : loadA Try.prog 65 p m = ld1 m p := by kernel_rfl
theorem len9 (s : List UInt8) : lenT Try.prog 9 (.str s) = some (.int .i64 s.length) := by kernel_rfl
theorem iv9 (s : List UInt8) (k : IntKind) (n : Int) : indexA Try.prog 9 (.str s) (.int k n) = if 0 ≤ n then (match s[n.toNat]? with | some c => some (.int .u8 c.toNat) | none => none) else none := by kernel_rfl
theorem fa68_2 (b o : Nat) : fieldAddrA Try.prog 68 (.ptr (some ⟨b, o⟩)) 2 = some (.ptr (some ⟨b, o + 2⟩)) := by kernel_rfl
theorem len65 (a : Option AA) (sz n c : Nat) (e : Bool) : lenT Try.prog 65 (.sl a sz n c e) = some (.int .i64 n) := by kernel_rfl
theorem fa75_0 (b o : Nat) : fieldAddrA Try.prog 75 (.ptr (some ⟨b, o⟩)) 0 = some (.ptr (some ⟨b, o + 0⟩)) := by kernel_rfl
theorem ld72 (p : AV) (m : Mem) : loadA Try.prog 72 p m = ld1 m p := by kernel_rfl
theorem len72 (a : Option AA) (sz n c : Nat) (e : Bool) : lenT Try.prog 72 (.sl a sz n c e) = some (.int .i64 n) := by kernel_rfl
theorem fa75_1 (b o : Nat) : fieldAddrA Try.prog 75 (.ptr (some ⟨b, o⟩)) 1 = some (.ptr (some ⟨b, o + 1⟩)) := by kernel_rfl
theorem fa75_2 (b o : Nat) : fieldAddrA Try.prog 75 (.ptr (some ⟨b, o⟩)) 2 = some (.ptr (some ⟨b, o + 2⟩)) := by kernel_rfl
theorem ld73 (p : AV) (m : Mem) : loadA Try.prog 73 p m = ld1 m p := by kernel_rfl
theorem ix73 (a : AA) (sz n c : Nat) (e : Bool) (k : IntKind) (i : Int) : indexAddrA Try.prog 73 (.sl (some a) sz n c e) (.int k i) = if 4 = sz ∨ e = true then ixA 4 n a i else none := by kernel_rfl
theorem fa54_1 (b o : Nat) : fieldAddrA Try.prog 54 (.ptr (some ⟨b, o⟩)) 1 = some (.ptr (some ⟨b, o + 1⟩)) := by kernel_rfl
theorem fa48_1 (b o : Nat) : fieldAddrA Try.prog 48 (.ptr (some ⟨b, o⟩)) 1 = some (.ptr (some ⟨b, o + 2⟩)) := by kernel_rfl
theorem fa54_0 (b o : Nat) : fieldAddrA Try.prog 54 (.ptr (some ⟨b, o⟩)) 0 = some (.ptr (some ⟨b, o + 0⟩)) := by kernel_rfl
theorem bd42 (ps : List (Nat × AV)) : buildA Try.prog 42 ps = (fillA (fun i => ([(0, 1), (1, 1)] : List (Nat × Nat))[i]?) [.int .i64 0, .int .u64 0] ps).map AV.agg := by kernel_rfl
theorem cv2_22 (k : IntKind) (n : Int) : convA Try.prog 2 22 (.int k n) = some (.int .u64 (IntKind.wrap .u64 n)) := by kernel_rfl
theorem ix65 (a : AA) (sz n c : Nat) (e : Bool) (k : IntKind) (i : Int) : indexAddrA Try.prog 65 (.sl (some a) sz n c e) (.int k i) = if 1 = sz ∨ e = true then ixA 1 n a i else none := by kernel_rfl
theorem cv3_95 (k : IntKind) (n : Int) : convA Try.prog 3 95 (.int k n) = some (.int .u64 (IntKind.wrap .u64 n)) := by kernel_rfl
theorem cv95_3 (k : IntKind) (n : Int) : convA Try.prog 95 3 (.int k n) = some (.int .i64 (IntKind.wrap .i64 n)) := by kernel_rfl
theorem ix72 (a : AA) (sz n c : Nat) (e : Bool) (k : IntKind) (i : Int) : indexAddrA Try.prog 72 (.sl (some a) sz n c e) (.int k i) = if 1 = sz ∨ e = true then ixA 1 n a i else none := by kernel_rfl
theorem fa42_0 (b o : Nat) : fieldAddrA Try.prog 42 (.ptr (some ⟨b, o⟩)) 0 = some (.ptr (some ⟨b, o + 0⟩)) := by kernel_rfl
theorem fa42_1 (b o : Nat) : fieldAddrA Try.prog 42 (.ptr (some ⟨b, o⟩)) 1 = some (.ptr (some ⟨b, o + 1⟩)) := by kernel_rfl
theorem ld2 (p : AV) (m : Mem) : loadA Try.prog 2 p m = ld1 m p := by kernel_rfl
theorem cv22_2 (k : IntKind) (n : Int) : convA Try.prog 22 2 (.int k n) = some (.int .i64 (IntKind.wrap .i64 n)) := by kernel_rfl
theorem len66 (a : Option AA) (sz n c : Nat) (e : Bool) : lenT Try.prog 66 (.sl a sz n c e) = some (.int .i64 n) := by kernel_rfl
theorem len73 (a : Option AA) (sz n c : Nat) (e : Bool) : lenT Try.prog 73 (.sl a sz n c e) = some (.int .i64 n) := by kernel_rfl
theorem sl65 (a : AA) (sz n c : Nat) (e : Bool) (lo hi : Option AV) : sliceA Try.prog 65 (.sl (some a) sz n c e) lo hi = (match hiA hi n c with | some h => (match loA lo h with | some l => if 1 = sz ∨ e = true then some (.sl (some ⟨a.b, a.o + l * 1⟩) 1 (h - l) (c - l) e) else none | none => none) | none => none) := by kernel_rfl
theorem sl66 (a : AA) (sz n c : Nat) (e : Bool) (lo hi : Option AV) : sliceA Try.prog 66 (.sl (some a) sz n c e) lo hi = (match hiA hi n c with | some h => (match loA lo h with | some l => if 4 = sz ∨ e = true then some (.sl (some ⟨a.b, a.o + l * 4⟩) 4 (h - l) (c - l) e) else none | none => none) | none => none) := by kernel_rfl
theorem sl72 (a : AA) (sz n c : Nat) (e : Bool) (lo hi : Option AV) : sliceA Try.prog 72 (.sl (some a) sz n c e) lo hi = (match hiA hi n c with | some h => (match loA lo h with | some l => if 1 = sz ∨ e = true then some (.sl (some ⟨a.b, a.o + l * 1⟩) 1 (h - l) (c - l) e) else none | none => none) | none => none) := by kernel_rfl
theorem sl73 (a : AA) (sz n c : Nat) (e : Bool) (lo hi : Option AV) : sliceA Try.prog 73 (.sl (some a) sz n c e) lo hi = (match hiA hi n c with | some h => (match loA lo h with | some l => if 4 = sz ∨ e = true then some (.sl (some ⟨a.b, a.o + l * 4⟩) 4 (h - l) (c - l) e) else none | none => none) | none => none) := by kernel_rfl
end Go.Proofs.Ytlginbmjiecglaa
