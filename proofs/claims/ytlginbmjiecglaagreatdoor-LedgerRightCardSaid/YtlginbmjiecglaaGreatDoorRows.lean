/-
  NARROWER THAN 'FOR EVERY INPUT', by the rows' own cells (each row's printed sentence says how): LedgerRight: laid · LedgerMoves: laid · LedgerPlays: laid · LedgerSums: laid.
  DERIVED. THE GIVEN ROWS OF THIS SEAT. 4 by the template 'for every input the law returns true; each argument reads behind the call as it read before'; 0 by the template 'total and deterministic' (their statements: YtlginbmjiecglaaGreatDoorTotals.lean).
  GIVEN WITH THE SEED: the statements are not yours to turn. If you find one false, say at which input.
  Laid BY PROGRAM, IN A SANDBOX (cutbox-rows.mjs): the forced cells as the released guide's own fill.sh prints them over the translation 790e51129c0f8039… (all of the seat's roots in one cut). By AI agents, Wed Nov 11 2026. No macro, syntax, notation, axiom, sorry.
-/
import Derived.Test.YtlginbmjiecglaaGreatDoorChecked
import GoSem.Claim
import GoSem.ClaimJoined
import GoSem.ClaimMapViews
import Derived.JoinedTies
import Derived.KernelRfl
namespace Go.Proofs.YtlginbmjiecglaaGreatDoor
/- THE CELL 'sum', in the pinned program and in every row, IS THE sha256 OF THE DUMP (.gsa) THAT YtlginbmjiecglaaGreatDoorProg.lean LOADS. Nothing in Lean hashes anything: it is a label: what it is worth is what the hold of that sum in a sandbox is worth. -/
noncomputable def Tryz.pinned : Pinned := { name := "ytlginbmjiecglaagreatdoor", sum := "790e51129c0f80397554802999065641004df2c77481486d182fa2babe246344", checked := Tryz.checked }
namespace Rows
def none {H : Type} : Left H := { results := [], args := [] }

/- WHAT THE LISTED PACKAGE-LEVEL VARIABLES READ AS WHEN THE CALL BEGINS. Each datum BY PROGRAM (the guide's laid-datum.mjs) off the statement by which the dump's own 'gosem.cut.vars' lays the variable. In a bare row this is a premise. The card (YtlginbmjiecglaaGreatDoorCards.lean) ties it to the program's text. -/
def laid_bursar_bursarhand_coins {H : Type} : DataW H := .agg [.lit (.string [69, 85, 82]), .lit (.string [74, 80, 89]), .lit (.string [85, 83, 68])]
def laid_bursar_bursarlaw19_coins {H : Type} : DataW H := .agg [.lit (.string [69, 85, 82]), .lit (.string [74, 80, 89]), .lit (.string [85, 83, 68]), .lit (.string [101, 117, 114])]

/-- 'bursarlaw19.LedgerRight': WHATEVER THE INPUT: true; the input reads as it did. -/
def ledgerRightSpec : ChangeSpec := { name := "ledgerRight", fn := fun _ => fun
  | [d1, d2, d3, d4, d5, d6] => { results := [.lit (.bool true)], args := [d1, d2, d3, d4, d5, d6] }
  | _ => none }
def ledgerRightRow : OpenClaim := { program := "ytlginbmjiecglaagreatdoor", sum := "790e51129c0f80397554802999065641004df2c77481486d182fa2babe246344", func := "bursar/bursarlaw19.LedgerRight", spec := "ledgerRight", inPlace := ["math/bits.Sub64", "math/bits.Add64", "slices.overlaps[string]", "slices.overlaps[bursar/api.Purse]", "slices.overlaps[bursar/api.Pair]", "slices.overlaps[uint64]", "slices.overlaps[bursar/api.Account]"], unfollowed := true, recurses := true, named := ["bursar/bursarhand.coins", "bursar/bursarlaw19.coins", "math/bits.divideError", "math/bits.overflowError"], apart := false, laid := [("bursar/bursarhand.coins", laid_bursar_bursarhand_coins), ("bursar/bursarlaw19.coins", laid_bursar_bursarlaw19_coins)] }
def LedgerRightSaid : Prop := ledgerRightRow.holds Tryz.pinned (OpenSpec.ofChange ledgerRightSpec)

/-- ITS FALSE NEIGHBOUR: 'it returns false'. Refute it at one input. -/
def ledgerRightWrong : ChangeSpec := { name := "ledgerRight", fn := fun _ => fun
  | [d1, d2, d3, d4, d5, d6] => { results := [.lit (.bool false)], args := [d1, d2, d3, d4, d5, d6] }
  | _ => none }
def LedgerRightWrongFalsely : Prop := ledgerRightRow.holds Tryz.pinned (OpenSpec.ofChange ledgerRightWrong)

/-- 'bursarlaw19.LedgerMoves': WHATEVER THE INPUT: true; the input reads as it did. -/
def ledgerMovesSpec : ChangeSpec := { name := "ledgerMoves", fn := fun _ => fun
  | [d1, d2, d3, d4] => { results := [.lit (.bool true)], args := [d1, d2, d3, d4] }
  | _ => none }
def ledgerMovesRow : OpenClaim := { program := "ytlginbmjiecglaagreatdoor", sum := "790e51129c0f80397554802999065641004df2c77481486d182fa2babe246344", func := "bursar/bursarlaw19.LedgerMoves", spec := "ledgerMoves", inPlace := ["math/bits.Sub64", "math/bits.Add64", "slices.overlaps[string]", "slices.overlaps[bursar/api.Purse]", "slices.overlaps[bursar/api.Pair]", "slices.overlaps[uint64]", "slices.overlaps[bursar/api.Account]"], unfollowed := true, recurses := true, named := ["bursar/bursarhand.coins", "math/bits.divideError", "math/bits.overflowError"], apart := false, laid := [("bursar/bursarhand.coins", laid_bursar_bursarhand_coins)] }
def LedgerMovesSaid : Prop := ledgerMovesRow.holds Tryz.pinned (OpenSpec.ofChange ledgerMovesSpec)

/-- ITS FALSE NEIGHBOUR: 'it returns false'. Refute it at one input. -/
def ledgerMovesWrong : ChangeSpec := { name := "ledgerMoves", fn := fun _ => fun
  | [d1, d2, d3, d4] => { results := [.lit (.bool false)], args := [d1, d2, d3, d4] }
  | _ => none }
def LedgerMovesWrongFalsely : Prop := ledgerMovesRow.holds Tryz.pinned (OpenSpec.ofChange ledgerMovesWrong)

/-- 'bursarlaw19.LedgerPlays': WHATEVER THE INPUT: true; the input reads as it did. -/
def ledgerPlaysSpec : ChangeSpec := { name := "ledgerPlays", fn := fun _ => fun
  | [d1, d2, d3] => { results := [.lit (.bool true)], args := [d1, d2, d3] }
  | _ => none }
def ledgerPlaysRow : OpenClaim := { program := "ytlginbmjiecglaagreatdoor", sum := "790e51129c0f80397554802999065641004df2c77481486d182fa2babe246344", func := "bursar/bursarlaw19.LedgerPlays", spec := "ledgerPlays", inPlace := ["math/bits.Sub64", "math/bits.Add64", "slices.overlaps[string]", "slices.overlaps[bursar/api.Purse]", "slices.overlaps[bursar/api.Pair]", "slices.overlaps[uint64]", "slices.overlaps[bursar/api.Account]"], unfollowed := true, recurses := true, named := ["bursar/bursarhand.coins", "math/bits.divideError", "math/bits.overflowError", "bursar/bursarlaw19.coins"], apart := false, laid := [("bursar/bursarhand.coins", laid_bursar_bursarhand_coins), ("bursar/bursarlaw19.coins", laid_bursar_bursarlaw19_coins)] }
def LedgerPlaysSaid : Prop := ledgerPlaysRow.holds Tryz.pinned (OpenSpec.ofChange ledgerPlaysSpec)

/-- ITS FALSE NEIGHBOUR: 'it returns false'. Refute it at one input. -/
def ledgerPlaysWrong : ChangeSpec := { name := "ledgerPlays", fn := fun _ => fun
  | [d1, d2, d3] => { results := [.lit (.bool false)], args := [d1, d2, d3] }
  | _ => none }
def LedgerPlaysWrongFalsely : Prop := ledgerPlaysRow.holds Tryz.pinned (OpenSpec.ofChange ledgerPlaysWrong)

/-- 'bursarlaw19.LedgerSums': WHATEVER THE INPUT: true; the input reads as it did. -/
def ledgerSumsSpec : ChangeSpec := { name := "ledgerSums", fn := fun _ => fun
  | [d1, d2, d3] => { results := [.lit (.bool true)], args := [d1, d2, d3] }
  | _ => none }
def ledgerSumsRow : OpenClaim := { program := "ytlginbmjiecglaagreatdoor", sum := "790e51129c0f80397554802999065641004df2c77481486d182fa2babe246344", func := "bursar/bursarlaw19.LedgerSums", spec := "ledgerSums", inPlace := ["math/bits.Sub64", "math/bits.Add64", "slices.overlaps[string]", "slices.overlaps[bursar/api.Purse]", "slices.overlaps[bursar/api.Pair]", "slices.overlaps[uint64]", "slices.overlaps[bursar/api.Account]"], unfollowed := true, recurses := true, named := ["bursar/bursarhand.coins", "math/bits.divideError", "math/bits.overflowError", "bursar/bursarlaw19.coins"], apart := false, laid := [("bursar/bursarhand.coins", laid_bursar_bursarhand_coins), ("bursar/bursarlaw19.coins", laid_bursar_bursarlaw19_coins)] }
def LedgerSumsSaid : Prop := ledgerSumsRow.holds Tryz.pinned (OpenSpec.ofChange ledgerSumsSpec)

/-- ITS FALSE NEIGHBOUR: 'it returns false'. Refute it at one input. -/
def ledgerSumsWrong : ChangeSpec := { name := "ledgerSums", fn := fun _ => fun
  | [d1, d2, d3] => { results := [.lit (.bool false)], args := [d1, d2, d3] }
  | _ => none }
def LedgerSumsWrongFalsely : Prop := ledgerSumsRow.holds Tryz.pinned (OpenSpec.ofChange ledgerSumsWrong)

/- THE SECOND FORM. 'bulk': how many values and letters a reading holds, each counted each time it is reached (what is shared counts as often as it is met; a slice's spare places count too). A statement '..UptoSaid' is the law's where the arguments, and the package variables that the reading takes, are together of bulk at most 1048576: NARROWER than '..Said'. Prove '..Said' where nothing that the law and all that it calls make is longer than what came in: it says more and counts as full. Else prove '..UptoSaid'. A law counts once. -/
mutual
def uptoBulk {H : Type} : DataW H → Nat
  | .lit (.string bytes) => bytes.length + 1
  | .lit _ => 1
  | .nil => 1
  | .ptr d => uptoBulk d + 1
  | .slice elems spare => uptoBulkAll elems + uptoBulkAll spare + 1
  | .agg parts => uptoBulkAll parts + 1
  | .iface _ d => uptoBulk d + 1
  | .map entries => uptoBulkEntries entries + 1
  | .held _ => 1
def uptoBulkAll {H : Type} : List (DataW H) → Nat
  | [] => 0
  | d :: r => uptoBulk d + uptoBulkAll r
def uptoBulkEntries {H : Type} : List (Lit × DataW H) → Nat
  | [] => 0
  | x :: r => uptoBulkEntry x + uptoBulkEntries r
def uptoBulkEntry {H : Type} : Lit × DataW H → Nat
  | (.string bytes, d) => bytes.length + uptoBulk d + 1
  | (_, d) => uptoBulk d + 1
 end
def uptoSmall : (H : Type) → List (DataW H) → Bool := fun _ ds => decide (uptoBulkAll ds ≤ 1048576)
def OpenSpec.upto (s : _root_.Go.ChangeSpec) : _root_.Go.OpenSpec := { _root_.Go.OpenSpec.ofChange s with cond := some uptoSmall }

/-- 'bursarlaw19.LedgerRight', WHERE WHAT IT READS IS OF BULK AT MOST 1048576: true; the input reads as it did. -/
def ledgerRightUptoRow : OpenClaim := { program := "ytlginbmjiecglaagreatdoor", sum := "790e51129c0f80397554802999065641004df2c77481486d182fa2babe246344", func := "bursar/bursarlaw19.LedgerRight", spec := "ledgerRight", inPlace := ["math/bits.Sub64", "math/bits.Add64", "slices.overlaps[string]", "slices.overlaps[bursar/api.Purse]", "slices.overlaps[bursar/api.Pair]", "slices.overlaps[uint64]", "slices.overlaps[bursar/api.Account]"], unfollowed := true, recurses := true, named := ["bursar/bursarhand.coins", "bursar/bursarlaw19.coins", "math/bits.divideError", "math/bits.overflowError"], apart := false, laid := [("bursar/bursarhand.coins", laid_bursar_bursarhand_coins), ("bursar/bursarlaw19.coins", laid_bursar_bursarlaw19_coins)], narrowed := true }
def LedgerRightUptoSaid : Prop := ledgerRightUptoRow.holds Tryz.pinned (OpenSpec.upto ledgerRightSpec)

/-- 'bursarlaw19.LedgerMoves', WHERE WHAT IT READS IS OF BULK AT MOST 1048576: true; the input reads as it did. -/
def ledgerMovesUptoRow : OpenClaim := { program := "ytlginbmjiecglaagreatdoor", sum := "790e51129c0f80397554802999065641004df2c77481486d182fa2babe246344", func := "bursar/bursarlaw19.LedgerMoves", spec := "ledgerMoves", inPlace := ["math/bits.Sub64", "math/bits.Add64", "slices.overlaps[string]", "slices.overlaps[bursar/api.Purse]", "slices.overlaps[bursar/api.Pair]", "slices.overlaps[uint64]", "slices.overlaps[bursar/api.Account]"], unfollowed := true, recurses := true, named := ["bursar/bursarhand.coins", "math/bits.divideError", "math/bits.overflowError"], apart := false, laid := [("bursar/bursarhand.coins", laid_bursar_bursarhand_coins)], narrowed := true }
def LedgerMovesUptoSaid : Prop := ledgerMovesUptoRow.holds Tryz.pinned (OpenSpec.upto ledgerMovesSpec)

/-- 'bursarlaw19.LedgerPlays', WHERE WHAT IT READS IS OF BULK AT MOST 1048576: true; the input reads as it did. -/
def ledgerPlaysUptoRow : OpenClaim := { program := "ytlginbmjiecglaagreatdoor", sum := "790e51129c0f80397554802999065641004df2c77481486d182fa2babe246344", func := "bursar/bursarlaw19.LedgerPlays", spec := "ledgerPlays", inPlace := ["math/bits.Sub64", "math/bits.Add64", "slices.overlaps[string]", "slices.overlaps[bursar/api.Purse]", "slices.overlaps[bursar/api.Pair]", "slices.overlaps[uint64]", "slices.overlaps[bursar/api.Account]"], unfollowed := true, recurses := true, named := ["bursar/bursarhand.coins", "math/bits.divideError", "math/bits.overflowError", "bursar/bursarlaw19.coins"], apart := false, laid := [("bursar/bursarhand.coins", laid_bursar_bursarhand_coins), ("bursar/bursarlaw19.coins", laid_bursar_bursarlaw19_coins)], narrowed := true }
def LedgerPlaysUptoSaid : Prop := ledgerPlaysUptoRow.holds Tryz.pinned (OpenSpec.upto ledgerPlaysSpec)

/-- 'bursarlaw19.LedgerSums', WHERE WHAT IT READS IS OF BULK AT MOST 1048576: true; the input reads as it did. -/
def ledgerSumsUptoRow : OpenClaim := { program := "ytlginbmjiecglaagreatdoor", sum := "790e51129c0f80397554802999065641004df2c77481486d182fa2babe246344", func := "bursar/bursarlaw19.LedgerSums", spec := "ledgerSums", inPlace := ["math/bits.Sub64", "math/bits.Add64", "slices.overlaps[string]", "slices.overlaps[bursar/api.Purse]", "slices.overlaps[bursar/api.Pair]", "slices.overlaps[uint64]", "slices.overlaps[bursar/api.Account]"], unfollowed := true, recurses := true, named := ["bursar/bursarhand.coins", "math/bits.divideError", "math/bits.overflowError", "bursar/bursarlaw19.coins"], apart := false, laid := [("bursar/bursarhand.coins", laid_bursar_bursarhand_coins), ("bursar/bursarlaw19.coins", laid_bursar_bursarlaw19_coins)], narrowed := true }
def LedgerSumsUptoSaid : Prop := ledgerSumsUptoRow.holds Tryz.pinned (OpenSpec.upto ledgerSumsSpec)

end Rows
end Go.Proofs.YtlginbmjiecglaaGreatDoor
