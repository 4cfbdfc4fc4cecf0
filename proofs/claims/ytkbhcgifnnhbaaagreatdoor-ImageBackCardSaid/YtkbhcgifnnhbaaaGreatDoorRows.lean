/-
  NARROWER THAN 'FOR EVERY INPUT', by the rows' own cells (each row's printed sentence says how): ImageEncodes: laid · ImageDecodes: laid · ImageBack: laid · ImageOnly: laid · FoldAgain: laid · FoldSums: laid · FoldPlays: laid · FoldRestored: laid · FoldImages: laid · TruthOwn: laid · TruthPlays: laid.
  DERIVED. THE GIVEN ROWS OF THIS SEAT. 11 by the template 'for every input the law returns true; each argument reads behind the call as it read before'; 0 by the template 'total and deterministic' (their statements: YtkbhcgifnnhbaaaGreatDoorTotals.lean).
  GIVEN WITH THE SEED: the statements are not yours to turn. If you find one false, say at which input.
  Laid BY PROGRAM, IN A SANDBOX (cutbox-rows.mjs): the forced cells as the released guide's own fill.sh prints them over the translation 2977581503634416… (all of the seat's roots in one cut). By AI agents, Wed Nov 11 2026. No macro, syntax, notation, axiom, sorry.
-/
import Derived.Test.YtkbhcgifnnhbaaaGreatDoorChecked
import GoSem.Claim
import GoSem.ClaimJoined
import GoSem.ClaimMapViews
import Derived.JoinedTies
import Derived.KernelRfl
namespace Go.Proofs.YtkbhcgifnnhbaaaGreatDoor
/- THE CELL 'sum', in the pinned program and in every row, IS THE sha256 OF THE DUMP (.gsa) THAT YtkbhcgifnnhbaaaGreatDoorProg.lean LOADS. Nothing in Lean hashes anything: it is a label: what it is worth is what the hold of that sum in a sandbox is worth. -/
noncomputable def Tryz.pinned : Pinned := { name := "ytkbhcgifnnhbaaagreatdoor", sum := "297758150363441610841c7370c8342dc7d62771a8eb96dbbe92ea69c2bc7175", checked := Tryz.checked }
namespace Rows
def none {H : Type} : Left H := { results := [], args := [] }

/- WHAT THE LISTED PACKAGE-LEVEL VARIABLES READ AS WHEN THE CALL BEGINS. Each datum BY PROGRAM (the guide's laid-datum.mjs) off the statement by which the dump's own 'gosem.cut.vars' lays the variable. In a bare row this is a premise. The card (YtkbhcgifnnhbaaaGreatDoorCards.lean) ties it to the program's text. -/
def laid_bursar_bursarhand_coins {H : Type} : DataW H := .agg [.lit (.string [69, 85, 82]), .lit (.string [74, 80, 89]), .lit (.string [85, 83, 68])]

/-- 'bursarlaw21.ImageEncodes': WHATEVER THE INPUT: true; the input reads as it did. -/
def imageEncodesSpec : ChangeSpec := { name := "imageEncodes", fn := fun _ => fun
  | [d1, d2, d3, d4] => { results := [.lit (.bool true)], args := [d1, d2, d3, d4] }
  | _ => none }
def imageEncodesRow : OpenClaim := { program := "ytkbhcgifnnhbaaagreatdoor", sum := "297758150363441610841c7370c8342dc7d62771a8eb96dbbe92ea69c2bc7175", func := "bursar/bursarlaw21.ImageEncodes", spec := "imageEncodes", inPlace := ["math/bits.Sub64", "math/bits.Add64"], unfollowed := true, recurses := true, named := ["bursar/bursarhand.coins", "math/bits.divideError", "math/bits.overflowError"], apart := false, laid := [("bursar/bursarhand.coins", laid_bursar_bursarhand_coins)] }
def ImageEncodesSaid : Prop := imageEncodesRow.holds Tryz.pinned (OpenSpec.ofChange imageEncodesSpec)

/-- ITS FALSE NEIGHBOUR: 'it returns false'. Refute it at one input. -/
def imageEncodesWrong : ChangeSpec := { name := "imageEncodes", fn := fun _ => fun
  | [d1, d2, d3, d4] => { results := [.lit (.bool false)], args := [d1, d2, d3, d4] }
  | _ => none }
def ImageEncodesWrongFalsely : Prop := imageEncodesRow.holds Tryz.pinned (OpenSpec.ofChange imageEncodesWrong)

/-- 'bursarlaw21.ImageDecodes': WHATEVER THE INPUT: true; the input reads as it did. -/
def imageDecodesSpec : ChangeSpec := { name := "imageDecodes", fn := fun _ => fun
  | [d1, d2, d3, d4, d5, d6, d7] => { results := [.lit (.bool true)], args := [d1, d2, d3, d4, d5, d6, d7] }
  | _ => none }
def imageDecodesRow : OpenClaim := { program := "ytkbhcgifnnhbaaagreatdoor", sum := "297758150363441610841c7370c8342dc7d62771a8eb96dbbe92ea69c2bc7175", func := "bursar/bursarlaw21.ImageDecodes", spec := "imageDecodes", inPlace := ["math/bits.Sub64", "math/bits.Add64"], unfollowed := true, recurses := true, named := ["bursar/bursarhand.coins", "math/bits.divideError", "math/bits.overflowError"], apart := false, laid := [("bursar/bursarhand.coins", laid_bursar_bursarhand_coins)] }
def ImageDecodesSaid : Prop := imageDecodesRow.holds Tryz.pinned (OpenSpec.ofChange imageDecodesSpec)

/-- ITS FALSE NEIGHBOUR: 'it returns false'. Refute it at one input. -/
def imageDecodesWrong : ChangeSpec := { name := "imageDecodes", fn := fun _ => fun
  | [d1, d2, d3, d4, d5, d6, d7] => { results := [.lit (.bool false)], args := [d1, d2, d3, d4, d5, d6, d7] }
  | _ => none }
def ImageDecodesWrongFalsely : Prop := imageDecodesRow.holds Tryz.pinned (OpenSpec.ofChange imageDecodesWrong)

/-- 'bursarlaw21.ImageBack': WHATEVER THE INPUT: true; the input reads as it did. -/
def imageBackSpec : ChangeSpec := { name := "imageBack", fn := fun _ => fun
  | [d1, d2] => { results := [.lit (.bool true)], args := [d1, d2] }
  | _ => none }
def imageBackRow : OpenClaim := { program := "ytkbhcgifnnhbaaagreatdoor", sum := "297758150363441610841c7370c8342dc7d62771a8eb96dbbe92ea69c2bc7175", func := "bursar/bursarlaw21.ImageBack", spec := "imageBack", inPlace := ["math/bits.Sub64", "math/bits.Add64"], unfollowed := true, recurses := true, named := ["bursar/bursarhand.coins", "math/bits.divideError", "math/bits.overflowError"], apart := false, laid := [("bursar/bursarhand.coins", laid_bursar_bursarhand_coins)] }
def ImageBackSaid : Prop := imageBackRow.holds Tryz.pinned (OpenSpec.ofChange imageBackSpec)

/-- ITS FALSE NEIGHBOUR: 'it returns false'. Refute it at one input. -/
def imageBackWrong : ChangeSpec := { name := "imageBack", fn := fun _ => fun
  | [d1, d2] => { results := [.lit (.bool false)], args := [d1, d2] }
  | _ => none }
def ImageBackWrongFalsely : Prop := imageBackRow.holds Tryz.pinned (OpenSpec.ofChange imageBackWrong)

/-- 'bursarlaw21.ImageOnly': WHATEVER THE INPUT: true; the input reads as it did. -/
def imageOnlySpec : ChangeSpec := { name := "imageOnly", fn := fun _ => fun
  | [d1, d2, d3, d4, d5] => { results := [.lit (.bool true)], args := [d1, d2, d3, d4, d5] }
  | _ => none }
def imageOnlyRow : OpenClaim := { program := "ytkbhcgifnnhbaaagreatdoor", sum := "297758150363441610841c7370c8342dc7d62771a8eb96dbbe92ea69c2bc7175", func := "bursar/bursarlaw21.ImageOnly", spec := "imageOnly", inPlace := ["math/bits.Sub64", "math/bits.Add64"], unfollowed := true, recurses := true, named := ["bursar/bursarhand.coins", "math/bits.divideError", "math/bits.overflowError"], apart := false, laid := [("bursar/bursarhand.coins", laid_bursar_bursarhand_coins)] }
def ImageOnlySaid : Prop := imageOnlyRow.holds Tryz.pinned (OpenSpec.ofChange imageOnlySpec)

/-- ITS FALSE NEIGHBOUR: 'it returns false'. Refute it at one input. -/
def imageOnlyWrong : ChangeSpec := { name := "imageOnly", fn := fun _ => fun
  | [d1, d2, d3, d4, d5] => { results := [.lit (.bool false)], args := [d1, d2, d3, d4, d5] }
  | _ => none }
def ImageOnlyWrongFalsely : Prop := imageOnlyRow.holds Tryz.pinned (OpenSpec.ofChange imageOnlyWrong)

/-- 'bursarlaw22.FoldAgain': WHATEVER THE INPUT: true; the input reads as it did. -/
def foldAgainSpec : ChangeSpec := { name := "foldAgain", fn := fun _ => fun
  | [d1, d2, d3] => { results := [.lit (.bool true)], args := [d1, d2, d3] }
  | _ => none }
def foldAgainRow : OpenClaim := { program := "ytkbhcgifnnhbaaagreatdoor", sum := "297758150363441610841c7370c8342dc7d62771a8eb96dbbe92ea69c2bc7175", func := "bursar/bursarlaw22.FoldAgain", spec := "foldAgain", inPlace := ["slices.overlaps[uint64]", "slices.overlaps[bursar/api.Session]", "slices.overlaps[string]", "slices.overlaps[bursar/api.Purse]", "slices.overlaps[bursar/api.Account]", "math/bits.Sub64", "math/bits.Add64", "slices.overlaps[bursar/api.Pair]"], unfollowed := true, recurses := true, named := ["math/bits.divideError", "math/bits.overflowError", "bursar/bursarhand.coins"], apart := false, laid := [("bursar/bursarhand.coins", laid_bursar_bursarhand_coins)] }
def FoldAgainSaid : Prop := foldAgainRow.holds Tryz.pinned (OpenSpec.ofChange foldAgainSpec)

/-- ITS FALSE NEIGHBOUR: 'it returns false'. Refute it at one input. -/
def foldAgainWrong : ChangeSpec := { name := "foldAgain", fn := fun _ => fun
  | [d1, d2, d3] => { results := [.lit (.bool false)], args := [d1, d2, d3] }
  | _ => none }
def FoldAgainWrongFalsely : Prop := foldAgainRow.holds Tryz.pinned (OpenSpec.ofChange foldAgainWrong)

/-- 'bursarlaw22.FoldSums': WHATEVER THE INPUT: true; the input reads as it did. -/
def foldSumsSpec : ChangeSpec := { name := "foldSums", fn := fun _ => fun
  | [d1, d2] => { results := [.lit (.bool true)], args := [d1, d2] }
  | _ => none }
def foldSumsRow : OpenClaim := { program := "ytkbhcgifnnhbaaagreatdoor", sum := "297758150363441610841c7370c8342dc7d62771a8eb96dbbe92ea69c2bc7175", func := "bursar/bursarlaw22.FoldSums", spec := "foldSums", inPlace := ["slices.overlaps[uint64]", "slices.overlaps[bursar/api.Session]", "slices.overlaps[string]", "slices.overlaps[bursar/api.Purse]", "slices.overlaps[bursar/api.Account]", "math/bits.Sub64", "math/bits.Add64", "slices.overlaps[bursar/api.Pair]"], unfollowed := true, recurses := true, named := ["math/bits.divideError", "math/bits.overflowError", "bursar/bursarhand.coins"], apart := false, laid := [("bursar/bursarhand.coins", laid_bursar_bursarhand_coins)] }
def FoldSumsSaid : Prop := foldSumsRow.holds Tryz.pinned (OpenSpec.ofChange foldSumsSpec)

/-- ITS FALSE NEIGHBOUR: 'it returns false'. Refute it at one input. -/
def foldSumsWrong : ChangeSpec := { name := "foldSums", fn := fun _ => fun
  | [d1, d2] => { results := [.lit (.bool false)], args := [d1, d2] }
  | _ => none }
def FoldSumsWrongFalsely : Prop := foldSumsRow.holds Tryz.pinned (OpenSpec.ofChange foldSumsWrong)

/-- 'bursarlaw22.FoldPlays': WHATEVER THE INPUT: true; the input reads as it did. -/
def foldPlaysSpec : ChangeSpec := { name := "foldPlays", fn := fun _ => fun
  | [d1, d2] => { results := [.lit (.bool true)], args := [d1, d2] }
  | _ => none }
def foldPlaysRow : OpenClaim := { program := "ytkbhcgifnnhbaaagreatdoor", sum := "297758150363441610841c7370c8342dc7d62771a8eb96dbbe92ea69c2bc7175", func := "bursar/bursarlaw22.FoldPlays", spec := "foldPlays", inPlace := ["slices.overlaps[uint64]", "slices.overlaps[bursar/api.Session]", "slices.overlaps[string]", "slices.overlaps[bursar/api.Purse]", "slices.overlaps[bursar/api.Account]", "math/bits.Sub64", "math/bits.Add64", "slices.overlaps[bursar/api.Pair]"], unfollowed := true, recurses := true, named := ["math/bits.divideError", "math/bits.overflowError", "bursar/bursarhand.coins"], apart := false, laid := [("bursar/bursarhand.coins", laid_bursar_bursarhand_coins)] }
def FoldPlaysSaid : Prop := foldPlaysRow.holds Tryz.pinned (OpenSpec.ofChange foldPlaysSpec)

/-- ITS FALSE NEIGHBOUR: 'it returns false'. Refute it at one input. -/
def foldPlaysWrong : ChangeSpec := { name := "foldPlays", fn := fun _ => fun
  | [d1, d2] => { results := [.lit (.bool false)], args := [d1, d2] }
  | _ => none }
def FoldPlaysWrongFalsely : Prop := foldPlaysRow.holds Tryz.pinned (OpenSpec.ofChange foldPlaysWrong)

/-- 'bursarlaw22.FoldRestored': WHATEVER THE INPUT: true; the input reads as it did. -/
def foldRestoredSpec : ChangeSpec := { name := "foldRestored", fn := fun _ => fun
  | [d1, d2, d3] => { results := [.lit (.bool true)], args := [d1, d2, d3] }
  | _ => none }
def foldRestoredRow : OpenClaim := { program := "ytkbhcgifnnhbaaagreatdoor", sum := "297758150363441610841c7370c8342dc7d62771a8eb96dbbe92ea69c2bc7175", func := "bursar/bursarlaw22.FoldRestored", spec := "foldRestored", inPlace := ["slices.overlaps[uint64]", "slices.overlaps[bursar/api.Session]", "slices.overlaps[string]", "slices.overlaps[bursar/api.Purse]", "slices.overlaps[bursar/api.Account]", "math/bits.Sub64", "math/bits.Add64", "slices.overlaps[bursar/api.Pair]"], unfollowed := true, recurses := true, named := ["math/bits.divideError", "math/bits.overflowError", "bursar/bursarhand.coins"], apart := false, laid := [("bursar/bursarhand.coins", laid_bursar_bursarhand_coins)] }
def FoldRestoredSaid : Prop := foldRestoredRow.holds Tryz.pinned (OpenSpec.ofChange foldRestoredSpec)

/-- ITS FALSE NEIGHBOUR: 'it returns false'. Refute it at one input. -/
def foldRestoredWrong : ChangeSpec := { name := "foldRestored", fn := fun _ => fun
  | [d1, d2, d3] => { results := [.lit (.bool false)], args := [d1, d2, d3] }
  | _ => none }
def FoldRestoredWrongFalsely : Prop := foldRestoredRow.holds Tryz.pinned (OpenSpec.ofChange foldRestoredWrong)

/-- 'bursarlaw22.FoldImages': WHATEVER THE INPUT: true; the input reads as it did. -/
def foldImagesSpec : ChangeSpec := { name := "foldImages", fn := fun _ => fun
  | [d1, d2, d3, d4, d5, d6, d7] => { results := [.lit (.bool true)], args := [d1, d2, d3, d4, d5, d6, d7] }
  | _ => none }
def foldImagesRow : OpenClaim := { program := "ytkbhcgifnnhbaaagreatdoor", sum := "297758150363441610841c7370c8342dc7d62771a8eb96dbbe92ea69c2bc7175", func := "bursar/bursarlaw22.FoldImages", spec := "foldImages", inPlace := ["slices.overlaps[uint64]", "slices.overlaps[bursar/api.Session]", "slices.overlaps[string]", "slices.overlaps[bursar/api.Purse]", "slices.overlaps[bursar/api.Account]", "math/bits.Sub64", "math/bits.Add64", "slices.overlaps[bursar/api.Pair]"], unfollowed := true, recurses := true, named := ["math/bits.divideError", "math/bits.overflowError", "bursar/bursarhand.coins"], apart := false, laid := [("bursar/bursarhand.coins", laid_bursar_bursarhand_coins)] }
def FoldImagesSaid : Prop := foldImagesRow.holds Tryz.pinned (OpenSpec.ofChange foldImagesSpec)

/-- ITS FALSE NEIGHBOUR: 'it returns false'. Refute it at one input. -/
def foldImagesWrong : ChangeSpec := { name := "foldImages", fn := fun _ => fun
  | [d1, d2, d3, d4, d5, d6, d7] => { results := [.lit (.bool false)], args := [d1, d2, d3, d4, d5, d6, d7] }
  | _ => none }
def FoldImagesWrongFalsely : Prop := foldImagesRow.holds Tryz.pinned (OpenSpec.ofChange foldImagesWrong)

/-- 'bursarlaw26.TruthOwn': WHATEVER THE INPUT: true; the input reads as it did. -/
def truthOwnSpec : ChangeSpec := { name := "truthOwn", fn := fun _ => fun
  | [d1, d2] => { results := [.lit (.bool true)], args := [d1, d2] }
  | _ => none }
def truthOwnRow : OpenClaim := { program := "ytkbhcgifnnhbaaagreatdoor", sum := "297758150363441610841c7370c8342dc7d62771a8eb96dbbe92ea69c2bc7175", func := "bursar/bursarlaw26.TruthOwn", spec := "truthOwn", inPlace := ["math/bits.Sub64", "math/bits.Add64", "slices.overlaps[string]", "slices.overlaps[bursar/api.Purse]", "slices.overlaps[bursar/api.Pair]", "slices.overlaps[uint64]", "slices.overlaps[bursar/api.Account]", "slices.overlaps[bursar/api.Session]"], unfollowed := true, recurses := true, named := ["math/bits.divideError", "math/bits.overflowError", "bursar/bursarhand.coins"], apart := false, laid := [("bursar/bursarhand.coins", laid_bursar_bursarhand_coins)] }
def TruthOwnSaid : Prop := truthOwnRow.holds Tryz.pinned (OpenSpec.ofChange truthOwnSpec)

/-- ITS FALSE NEIGHBOUR: 'it returns false'. Refute it at one input. -/
def truthOwnWrong : ChangeSpec := { name := "truthOwn", fn := fun _ => fun
  | [d1, d2] => { results := [.lit (.bool false)], args := [d1, d2] }
  | _ => none }
def TruthOwnWrongFalsely : Prop := truthOwnRow.holds Tryz.pinned (OpenSpec.ofChange truthOwnWrong)

/-- 'bursarlaw26.TruthPlays': WHATEVER THE INPUT: true; the input reads as it did. -/
def truthPlaysSpec : ChangeSpec := { name := "truthPlays", fn := fun _ => fun
  | [d1, d2] => { results := [.lit (.bool true)], args := [d1, d2] }
  | _ => none }
def truthPlaysRow : OpenClaim := { program := "ytkbhcgifnnhbaaagreatdoor", sum := "297758150363441610841c7370c8342dc7d62771a8eb96dbbe92ea69c2bc7175", func := "bursar/bursarlaw26.TruthPlays", spec := "truthPlays", inPlace := ["math/bits.Sub64", "math/bits.Add64", "slices.overlaps[string]", "slices.overlaps[bursar/api.Purse]", "slices.overlaps[bursar/api.Pair]", "slices.overlaps[uint64]", "slices.overlaps[bursar/api.Account]", "slices.overlaps[bursar/api.Session]"], unfollowed := true, recurses := true, named := ["math/bits.divideError", "math/bits.overflowError", "bursar/bursarhand.coins"], apart := false, laid := [("bursar/bursarhand.coins", laid_bursar_bursarhand_coins)] }
def TruthPlaysSaid : Prop := truthPlaysRow.holds Tryz.pinned (OpenSpec.ofChange truthPlaysSpec)

/-- ITS FALSE NEIGHBOUR: 'it returns false'. Refute it at one input. -/
def truthPlaysWrong : ChangeSpec := { name := "truthPlays", fn := fun _ => fun
  | [d1, d2] => { results := [.lit (.bool false)], args := [d1, d2] }
  | _ => none }
def TruthPlaysWrongFalsely : Prop := truthPlaysRow.holds Tryz.pinned (OpenSpec.ofChange truthPlaysWrong)

/- THE SECOND FORM. 'bulk': how many values and letters a reading holds, each counted each time it is reached (what is shared counts as often as it is met; a slice's spare places count too). A statement '..UptoSaid' is the law's where the arguments, and the package variables that the reading takes, are together of bulk at most 1048576: NARROWER than '..Said'. Prove '..Said' where nothing that the law and all that it calls make is longer than what came in: it says more and counts as full. Else prove '..UptoSaid'. A law counts once. -/
mutual
def uptoBulk {H : Type} : DataW H → Nat
  | .lit (.string bytes) => bytes.length + 1
  | .lit _ => 1
  | .nil => 1
  | .ptr d => uptoBulk d + 1
  | .slice elems spare => uptoBulkAll elems + uptoBulkAll spare + 1
  | .agg parts => uptoBulkAll parts + 1
  | .iface _ d => uptoBulk d + 1
  | .map entries => uptoBulkEntries entries + 1
  | .held _ => 1
def uptoBulkAll {H : Type} : List (DataW H) → Nat
  | [] => 0
  | d :: r => uptoBulk d + uptoBulkAll r
def uptoBulkEntries {H : Type} : List (Lit × DataW H) → Nat
  | [] => 0
  | x :: r => uptoBulkEntry x + uptoBulkEntries r
def uptoBulkEntry {H : Type} : Lit × DataW H → Nat
  | (.string bytes, d) => bytes.length + uptoBulk d + 1
  | (_, d) => uptoBulk d + 1
 end
def uptoSmall : (H : Type) → List (DataW H) → Bool := fun _ ds => decide (uptoBulkAll ds ≤ 1048576)
def OpenSpec.upto (s : _root_.Go.ChangeSpec) : _root_.Go.OpenSpec := { _root_.Go.OpenSpec.ofChange s with cond := some uptoSmall }

/-- 'bursarlaw21.ImageEncodes', WHERE WHAT IT READS IS OF BULK AT MOST 1048576: true; the input reads as it did. -/
def imageEncodesUptoRow : OpenClaim := { program := "ytkbhcgifnnhbaaagreatdoor", sum := "297758150363441610841c7370c8342dc7d62771a8eb96dbbe92ea69c2bc7175", func := "bursar/bursarlaw21.ImageEncodes", spec := "imageEncodes", inPlace := ["math/bits.Sub64", "math/bits.Add64"], unfollowed := true, recurses := true, named := ["bursar/bursarhand.coins", "math/bits.divideError", "math/bits.overflowError"], apart := false, laid := [("bursar/bursarhand.coins", laid_bursar_bursarhand_coins)], narrowed := true }
def ImageEncodesUptoSaid : Prop := imageEncodesUptoRow.holds Tryz.pinned (OpenSpec.upto imageEncodesSpec)

/-- 'bursarlaw21.ImageDecodes', WHERE WHAT IT READS IS OF BULK AT MOST 1048576: true; the input reads as it did. -/
def imageDecodesUptoRow : OpenClaim := { program := "ytkbhcgifnnhbaaagreatdoor", sum := "297758150363441610841c7370c8342dc7d62771a8eb96dbbe92ea69c2bc7175", func := "bursar/bursarlaw21.ImageDecodes", spec := "imageDecodes", inPlace := ["math/bits.Sub64", "math/bits.Add64"], unfollowed := true, recurses := true, named := ["bursar/bursarhand.coins", "math/bits.divideError", "math/bits.overflowError"], apart := false, laid := [("bursar/bursarhand.coins", laid_bursar_bursarhand_coins)], narrowed := true }
def ImageDecodesUptoSaid : Prop := imageDecodesUptoRow.holds Tryz.pinned (OpenSpec.upto imageDecodesSpec)

/-- 'bursarlaw21.ImageBack', WHERE WHAT IT READS IS OF BULK AT MOST 1048576: true; the input reads as it did. -/
def imageBackUptoRow : OpenClaim := { program := "ytkbhcgifnnhbaaagreatdoor", sum := "297758150363441610841c7370c8342dc7d62771a8eb96dbbe92ea69c2bc7175", func := "bursar/bursarlaw21.ImageBack", spec := "imageBack", inPlace := ["math/bits.Sub64", "math/bits.Add64"], unfollowed := true, recurses := true, named := ["bursar/bursarhand.coins", "math/bits.divideError", "math/bits.overflowError"], apart := false, laid := [("bursar/bursarhand.coins", laid_bursar_bursarhand_coins)], narrowed := true }
def ImageBackUptoSaid : Prop := imageBackUptoRow.holds Tryz.pinned (OpenSpec.upto imageBackSpec)

/-- 'bursarlaw21.ImageOnly', WHERE WHAT IT READS IS OF BULK AT MOST 1048576: true; the input reads as it did. -/
def imageOnlyUptoRow : OpenClaim := { program := "ytkbhcgifnnhbaaagreatdoor", sum := "297758150363441610841c7370c8342dc7d62771a8eb96dbbe92ea69c2bc7175", func := "bursar/bursarlaw21.ImageOnly", spec := "imageOnly", inPlace := ["math/bits.Sub64", "math/bits.Add64"], unfollowed := true, recurses := true, named := ["bursar/bursarhand.coins", "math/bits.divideError", "math/bits.overflowError"], apart := false, laid := [("bursar/bursarhand.coins", laid_bursar_bursarhand_coins)], narrowed := true }
def ImageOnlyUptoSaid : Prop := imageOnlyUptoRow.holds Tryz.pinned (OpenSpec.upto imageOnlySpec)

/-- 'bursarlaw22.FoldAgain', WHERE WHAT IT READS IS OF BULK AT MOST 1048576: true; the input reads as it did. -/
def foldAgainUptoRow : OpenClaim := { program := "ytkbhcgifnnhbaaagreatdoor", sum := "297758150363441610841c7370c8342dc7d62771a8eb96dbbe92ea69c2bc7175", func := "bursar/bursarlaw22.FoldAgain", spec := "foldAgain", inPlace := ["slices.overlaps[uint64]", "slices.overlaps[bursar/api.Session]", "slices.overlaps[string]", "slices.overlaps[bursar/api.Purse]", "slices.overlaps[bursar/api.Account]", "math/bits.Sub64", "math/bits.Add64", "slices.overlaps[bursar/api.Pair]"], unfollowed := true, recurses := true, named := ["math/bits.divideError", "math/bits.overflowError", "bursar/bursarhand.coins"], apart := false, laid := [("bursar/bursarhand.coins", laid_bursar_bursarhand_coins)], narrowed := true }
def FoldAgainUptoSaid : Prop := foldAgainUptoRow.holds Tryz.pinned (OpenSpec.upto foldAgainSpec)

/-- 'bursarlaw22.FoldSums', WHERE WHAT IT READS IS OF BULK AT MOST 1048576: true; the input reads as it did. -/
def foldSumsUptoRow : OpenClaim := { program := "ytkbhcgifnnhbaaagreatdoor", sum := "297758150363441610841c7370c8342dc7d62771a8eb96dbbe92ea69c2bc7175", func := "bursar/bursarlaw22.FoldSums", spec := "foldSums", inPlace := ["slices.overlaps[uint64]", "slices.overlaps[bursar/api.Session]", "slices.overlaps[string]", "slices.overlaps[bursar/api.Purse]", "slices.overlaps[bursar/api.Account]", "math/bits.Sub64", "math/bits.Add64", "slices.overlaps[bursar/api.Pair]"], unfollowed := true, recurses := true, named := ["math/bits.divideError", "math/bits.overflowError", "bursar/bursarhand.coins"], apart := false, laid := [("bursar/bursarhand.coins", laid_bursar_bursarhand_coins)], narrowed := true }
def FoldSumsUptoSaid : Prop := foldSumsUptoRow.holds Tryz.pinned (OpenSpec.upto foldSumsSpec)

/-- 'bursarlaw22.FoldPlays', WHERE WHAT IT READS IS OF BULK AT MOST 1048576: true; the input reads as it did. -/
def foldPlaysUptoRow : OpenClaim := { program := "ytkbhcgifnnhbaaagreatdoor", sum := "297758150363441610841c7370c8342dc7d62771a8eb96dbbe92ea69c2bc7175", func := "bursar/bursarlaw22.FoldPlays", spec := "foldPlays", inPlace := ["slices.overlaps[uint64]", "slices.overlaps[bursar/api.Session]", "slices.overlaps[string]", "slices.overlaps[bursar/api.Purse]", "slices.overlaps[bursar/api.Account]", "math/bits.Sub64", "math/bits.Add64", "slices.overlaps[bursar/api.Pair]"], unfollowed := true, recurses := true, named := ["math/bits.divideError", "math/bits.overflowError", "bursar/bursarhand.coins"], apart := false, laid := [("bursar/bursarhand.coins", laid_bursar_bursarhand_coins)], narrowed := true }
def FoldPlaysUptoSaid : Prop := foldPlaysUptoRow.holds Tryz.pinned (OpenSpec.upto foldPlaysSpec)

/-- 'bursarlaw22.FoldRestored', WHERE WHAT IT READS IS OF BULK AT MOST 1048576: true; the input reads as it did. -/
def foldRestoredUptoRow : OpenClaim := { program := "ytkbhcgifnnhbaaagreatdoor", sum := "297758150363441610841c7370c8342dc7d62771a8eb96dbbe92ea69c2bc7175", func := "bursar/bursarlaw22.FoldRestored", spec := "foldRestored", inPlace := ["slices.overlaps[uint64]", "slices.overlaps[bursar/api.Session]", "slices.overlaps[string]", "slices.overlaps[bursar/api.Purse]", "slices.overlaps[bursar/api.Account]", "math/bits.Sub64", "math/bits.Add64", "slices.overlaps[bursar/api.Pair]"], unfollowed := true, recurses := true, named := ["math/bits.divideError", "math/bits.overflowError", "bursar/bursarhand.coins"], apart := false, laid := [("bursar/bursarhand.coins", laid_bursar_bursarhand_coins)], narrowed := true }
def FoldRestoredUptoSaid : Prop := foldRestoredUptoRow.holds Tryz.pinned (OpenSpec.upto foldRestoredSpec)

/-- 'bursarlaw22.FoldImages', WHERE WHAT IT READS IS OF BULK AT MOST 1048576: true; the input reads as it did. -/
def foldImagesUptoRow : OpenClaim := { program := "ytkbhcgifnnhbaaagreatdoor", sum := "297758150363441610841c7370c8342dc7d62771a8eb96dbbe92ea69c2bc7175", func := "bursar/bursarlaw22.FoldImages", spec := "foldImages", inPlace := ["slices.overlaps[uint64]", "slices.overlaps[bursar/api.Session]", "slices.overlaps[string]", "slices.overlaps[bursar/api.Purse]", "slices.overlaps[bursar/api.Account]", "math/bits.Sub64", "math/bits.Add64", "slices.overlaps[bursar/api.Pair]"], unfollowed := true, recurses := true, named := ["math/bits.divideError", "math/bits.overflowError", "bursar/bursarhand.coins"], apart := false, laid := [("bursar/bursarhand.coins", laid_bursar_bursarhand_coins)], narrowed := true }
def FoldImagesUptoSaid : Prop := foldImagesUptoRow.holds Tryz.pinned (OpenSpec.upto foldImagesSpec)

/-- 'bursarlaw26.TruthOwn', WHERE WHAT IT READS IS OF BULK AT MOST 1048576: true; the input reads as it did. -/
def truthOwnUptoRow : OpenClaim := { program := "ytkbhcgifnnhbaaagreatdoor", sum := "297758150363441610841c7370c8342dc7d62771a8eb96dbbe92ea69c2bc7175", func := "bursar/bursarlaw26.TruthOwn", spec := "truthOwn", inPlace := ["math/bits.Sub64", "math/bits.Add64", "slices.overlaps[string]", "slices.overlaps[bursar/api.Purse]", "slices.overlaps[bursar/api.Pair]", "slices.overlaps[uint64]", "slices.overlaps[bursar/api.Account]", "slices.overlaps[bursar/api.Session]"], unfollowed := true, recurses := true, named := ["math/bits.divideError", "math/bits.overflowError", "bursar/bursarhand.coins"], apart := false, laid := [("bursar/bursarhand.coins", laid_bursar_bursarhand_coins)], narrowed := true }
def TruthOwnUptoSaid : Prop := truthOwnUptoRow.holds Tryz.pinned (OpenSpec.upto truthOwnSpec)

/-- 'bursarlaw26.TruthPlays', WHERE WHAT IT READS IS OF BULK AT MOST 1048576: true; the input reads as it did. -/
def truthPlaysUptoRow : OpenClaim := { program := "ytkbhcgifnnhbaaagreatdoor", sum := "297758150363441610841c7370c8342dc7d62771a8eb96dbbe92ea69c2bc7175", func := "bursar/bursarlaw26.TruthPlays", spec := "truthPlays", inPlace := ["math/bits.Sub64", "math/bits.Add64", "slices.overlaps[string]", "slices.overlaps[bursar/api.Purse]", "slices.overlaps[bursar/api.Pair]", "slices.overlaps[uint64]", "slices.overlaps[bursar/api.Account]", "slices.overlaps[bursar/api.Session]"], unfollowed := true, recurses := true, named := ["math/bits.divideError", "math/bits.overflowError", "bursar/bursarhand.coins"], apart := false, laid := [("bursar/bursarhand.coins", laid_bursar_bursarhand_coins)], narrowed := true }
def TruthPlaysUptoSaid : Prop := truthPlaysUptoRow.holds Tryz.pinned (OpenSpec.upto truthPlaysSpec)

end Rows
end Go.Proofs.YtkbhcgifnnhbaaaGreatDoor
