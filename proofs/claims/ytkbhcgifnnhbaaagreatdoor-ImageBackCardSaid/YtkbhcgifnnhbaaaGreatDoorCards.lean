/-
  DERIVED. GIVEN WITH THE SEED: THE CARDS: each row of YtkbhcgifnnhbaaaGreatDoorRows.lean that lists a variable, with what it lists TIED to the program's text (the seventh form; the later family's looks); each row that meets fmt, with fmt's text TOLD by the authors' own Lean function (tested against real Go, not proved from fmt's source: count such statements apart). THE CARD IS WHAT COUNTS. Prove the row's statement (the work); the ties are given (YtkbhcgifnnhbaaaGreatDoorTie.lean); close each card by the builder's one call (the guide's Derived/Test/ToyasCard.lean, 'card_holds'). Laid BY PROGRAM, IN A SANDBOX (cutbox-door.mjs). By AI agents, Wed Nov 11 2026. No macro, syntax, notation, axiom, sorry.
-/
import Derived.Test.YtkbhcgifnnhbaaaGreatDoorRows
import GoSem.ClaimSeven
namespace Go.Proofs.YtkbhcgifnnhbaaaGreatDoor
namespace Rows

/-- THE TIED CARD OF 'bursarlaw21.ImageEncodes'. -/
def imageEncodesCard : Claim7 := { stood := { row := imageEncodesRow, standIns := [], harness := (true, "32672e82109454fcff7ee0b906ff774cbdf83f1271df557561aacdcc10b3759e"), looks := false }, kinds := [], alts := [], laidByText := true, laidKinds := [.data], laidTests := true, laidLooks := .later }
def ImageEncodesCardSaid : Prop := Claim7.holds Tryz.pinned (.plain (OpenSpec.ofChange imageEncodesSpec)) imageEncodesCard

/-- THE TIED CARD OF 'bursarlaw21.ImageDecodes'. -/
def imageDecodesCard : Claim7 := { stood := { row := imageDecodesRow, standIns := [], harness := (true, "32672e82109454fcff7ee0b906ff774cbdf83f1271df557561aacdcc10b3759e"), looks := false }, kinds := [], alts := [], laidByText := true, laidKinds := [.data], laidTests := true, laidLooks := .later }
def ImageDecodesCardSaid : Prop := Claim7.holds Tryz.pinned (.plain (OpenSpec.ofChange imageDecodesSpec)) imageDecodesCard

/-- THE TIED CARD OF 'bursarlaw21.ImageBack'. -/
def imageBackCard : Claim7 := { stood := { row := imageBackRow, standIns := [], harness := (true, "32672e82109454fcff7ee0b906ff774cbdf83f1271df557561aacdcc10b3759e"), looks := false }, kinds := [], alts := [], laidByText := true, laidKinds := [.data], laidTests := true, laidLooks := .later }
def ImageBackCardSaid : Prop := Claim7.holds Tryz.pinned (.plain (OpenSpec.ofChange imageBackSpec)) imageBackCard

/-- THE TIED CARD OF 'bursarlaw21.ImageOnly'. -/
def imageOnlyCard : Claim7 := { stood := { row := imageOnlyRow, standIns := [], harness := (true, "32672e82109454fcff7ee0b906ff774cbdf83f1271df557561aacdcc10b3759e"), looks := false }, kinds := [], alts := [], laidByText := true, laidKinds := [.data], laidTests := true, laidLooks := .later }
def ImageOnlyCardSaid : Prop := Claim7.holds Tryz.pinned (.plain (OpenSpec.ofChange imageOnlySpec)) imageOnlyCard

/-- THE TIED CARD OF 'bursarlaw22.FoldAgain'. -/
def foldAgainCard : Claim7 := { stood := { row := foldAgainRow, standIns := [], harness := (true, "32672e82109454fcff7ee0b906ff774cbdf83f1271df557561aacdcc10b3759e"), looks := false }, kinds := [], alts := [], laidByText := true, laidKinds := [.data], laidTests := true, laidLooks := .later }
def FoldAgainCardSaid : Prop := Claim7.holds Tryz.pinned (.plain (OpenSpec.ofChange foldAgainSpec)) foldAgainCard

/-- THE TIED CARD OF 'bursarlaw22.FoldSums'. -/
def foldSumsCard : Claim7 := { stood := { row := foldSumsRow, standIns := [], harness := (true, "32672e82109454fcff7ee0b906ff774cbdf83f1271df557561aacdcc10b3759e"), looks := false }, kinds := [], alts := [], laidByText := true, laidKinds := [.data], laidTests := true, laidLooks := .later }
def FoldSumsCardSaid : Prop := Claim7.holds Tryz.pinned (.plain (OpenSpec.ofChange foldSumsSpec)) foldSumsCard

/-- THE TIED CARD OF 'bursarlaw22.FoldPlays'. -/
def foldPlaysCard : Claim7 := { stood := { row := foldPlaysRow, standIns := [], harness := (true, "32672e82109454fcff7ee0b906ff774cbdf83f1271df557561aacdcc10b3759e"), looks := false }, kinds := [], alts := [], laidByText := true, laidKinds := [.data], laidTests := true, laidLooks := .later }
def FoldPlaysCardSaid : Prop := Claim7.holds Tryz.pinned (.plain (OpenSpec.ofChange foldPlaysSpec)) foldPlaysCard

/-- THE TIED CARD OF 'bursarlaw22.FoldRestored'. -/
def foldRestoredCard : Claim7 := { stood := { row := foldRestoredRow, standIns := [], harness := (true, "32672e82109454fcff7ee0b906ff774cbdf83f1271df557561aacdcc10b3759e"), looks := false }, kinds := [], alts := [], laidByText := true, laidKinds := [.data], laidTests := true, laidLooks := .later }
def FoldRestoredCardSaid : Prop := Claim7.holds Tryz.pinned (.plain (OpenSpec.ofChange foldRestoredSpec)) foldRestoredCard

/-- THE TIED CARD OF 'bursarlaw22.FoldImages'. -/
def foldImagesCard : Claim7 := { stood := { row := foldImagesRow, standIns := [], harness := (true, "32672e82109454fcff7ee0b906ff774cbdf83f1271df557561aacdcc10b3759e"), looks := false }, kinds := [], alts := [], laidByText := true, laidKinds := [.data], laidTests := true, laidLooks := .later }
def FoldImagesCardSaid : Prop := Claim7.holds Tryz.pinned (.plain (OpenSpec.ofChange foldImagesSpec)) foldImagesCard

/-- THE TIED CARD OF 'bursarlaw26.TruthOwn'. -/
def truthOwnCard : Claim7 := { stood := { row := truthOwnRow, standIns := [], harness := (true, "32672e82109454fcff7ee0b906ff774cbdf83f1271df557561aacdcc10b3759e"), looks := false }, kinds := [], alts := [], laidByText := true, laidKinds := [.data], laidTests := true, laidLooks := .later }
def TruthOwnCardSaid : Prop := Claim7.holds Tryz.pinned (.plain (OpenSpec.ofChange truthOwnSpec)) truthOwnCard

/-- THE TIED CARD OF 'bursarlaw26.TruthPlays'. -/
def truthPlaysCard : Claim7 := { stood := { row := truthPlaysRow, standIns := [], harness := (true, "32672e82109454fcff7ee0b906ff774cbdf83f1271df557561aacdcc10b3759e"), looks := false }, kinds := [], alts := [], laidByText := true, laidKinds := [.data], laidTests := true, laidLooks := .later }
def TruthPlaysCardSaid : Prop := Claim7.holds Tryz.pinned (.plain (OpenSpec.ofChange truthPlaysSpec)) truthPlaysCard

/-- THE SECOND FORM's CARD OF 'bursarlaw21.ImageEncodes'. -/
def imageEncodesUptoCard : Claim7 := { stood := { row := imageEncodesUptoRow, standIns := [], harness := (true, "32672e82109454fcff7ee0b906ff774cbdf83f1271df557561aacdcc10b3759e"), looks := false }, kinds := [], alts := [], laidByText := true, laidKinds := [.data], laidTests := true, laidLooks := .later }
def ImageEncodesUptoCardSaid : Prop := Claim7.holds Tryz.pinned (.plain (OpenSpec.upto imageEncodesSpec)) imageEncodesUptoCard

/-- THE SECOND FORM's CARD OF 'bursarlaw21.ImageDecodes'. -/
def imageDecodesUptoCard : Claim7 := { stood := { row := imageDecodesUptoRow, standIns := [], harness := (true, "32672e82109454fcff7ee0b906ff774cbdf83f1271df557561aacdcc10b3759e"), looks := false }, kinds := [], alts := [], laidByText := true, laidKinds := [.data], laidTests := true, laidLooks := .later }
def ImageDecodesUptoCardSaid : Prop := Claim7.holds Tryz.pinned (.plain (OpenSpec.upto imageDecodesSpec)) imageDecodesUptoCard

/-- THE SECOND FORM's CARD OF 'bursarlaw21.ImageBack'. -/
def imageBackUptoCard : Claim7 := { stood := { row := imageBackUptoRow, standIns := [], harness := (true, "32672e82109454fcff7ee0b906ff774cbdf83f1271df557561aacdcc10b3759e"), looks := false }, kinds := [], alts := [], laidByText := true, laidKinds := [.data], laidTests := true, laidLooks := .later }
def ImageBackUptoCardSaid : Prop := Claim7.holds Tryz.pinned (.plain (OpenSpec.upto imageBackSpec)) imageBackUptoCard

/-- THE SECOND FORM's CARD OF 'bursarlaw21.ImageOnly'. -/
def imageOnlyUptoCard : Claim7 := { stood := { row := imageOnlyUptoRow, standIns := [], harness := (true, "32672e82109454fcff7ee0b906ff774cbdf83f1271df557561aacdcc10b3759e"), looks := false }, kinds := [], alts := [], laidByText := true, laidKinds := [.data], laidTests := true, laidLooks := .later }
def ImageOnlyUptoCardSaid : Prop := Claim7.holds Tryz.pinned (.plain (OpenSpec.upto imageOnlySpec)) imageOnlyUptoCard

/-- THE SECOND FORM's CARD OF 'bursarlaw22.FoldAgain'. -/
def foldAgainUptoCard : Claim7 := { stood := { row := foldAgainUptoRow, standIns := [], harness := (true, "32672e82109454fcff7ee0b906ff774cbdf83f1271df557561aacdcc10b3759e"), looks := false }, kinds := [], alts := [], laidByText := true, laidKinds := [.data], laidTests := true, laidLooks := .later }
def FoldAgainUptoCardSaid : Prop := Claim7.holds Tryz.pinned (.plain (OpenSpec.upto foldAgainSpec)) foldAgainUptoCard

/-- THE SECOND FORM's CARD OF 'bursarlaw22.FoldSums'. -/
def foldSumsUptoCard : Claim7 := { stood := { row := foldSumsUptoRow, standIns := [], harness := (true, "32672e82109454fcff7ee0b906ff774cbdf83f1271df557561aacdcc10b3759e"), looks := false }, kinds := [], alts := [], laidByText := true, laidKinds := [.data], laidTests := true, laidLooks := .later }
def FoldSumsUptoCardSaid : Prop := Claim7.holds Tryz.pinned (.plain (OpenSpec.upto foldSumsSpec)) foldSumsUptoCard

/-- THE SECOND FORM's CARD OF 'bursarlaw22.FoldPlays'. -/
def foldPlaysUptoCard : Claim7 := { stood := { row := foldPlaysUptoRow, standIns := [], harness := (true, "32672e82109454fcff7ee0b906ff774cbdf83f1271df557561aacdcc10b3759e"), looks := false }, kinds := [], alts := [], laidByText := true, laidKinds := [.data], laidTests := true, laidLooks := .later }
def FoldPlaysUptoCardSaid : Prop := Claim7.holds Tryz.pinned (.plain (OpenSpec.upto foldPlaysSpec)) foldPlaysUptoCard

/-- THE SECOND FORM's CARD OF 'bursarlaw22.FoldRestored'. -/
def foldRestoredUptoCard : Claim7 := { stood := { row := foldRestoredUptoRow, standIns := [], harness := (true, "32672e82109454fcff7ee0b906ff774cbdf83f1271df557561aacdcc10b3759e"), looks := false }, kinds := [], alts := [], laidByText := true, laidKinds := [.data], laidTests := true, laidLooks := .later }
def FoldRestoredUptoCardSaid : Prop := Claim7.holds Tryz.pinned (.plain (OpenSpec.upto foldRestoredSpec)) foldRestoredUptoCard

/-- THE SECOND FORM's CARD OF 'bursarlaw22.FoldImages'. -/
def foldImagesUptoCard : Claim7 := { stood := { row := foldImagesUptoRow, standIns := [], harness := (true, "32672e82109454fcff7ee0b906ff774cbdf83f1271df557561aacdcc10b3759e"), looks := false }, kinds := [], alts := [], laidByText := true, laidKinds := [.data], laidTests := true, laidLooks := .later }
def FoldImagesUptoCardSaid : Prop := Claim7.holds Tryz.pinned (.plain (OpenSpec.upto foldImagesSpec)) foldImagesUptoCard

/-- THE SECOND FORM's CARD OF 'bursarlaw26.TruthOwn'. -/
def truthOwnUptoCard : Claim7 := { stood := { row := truthOwnUptoRow, standIns := [], harness := (true, "32672e82109454fcff7ee0b906ff774cbdf83f1271df557561aacdcc10b3759e"), looks := false }, kinds := [], alts := [], laidByText := true, laidKinds := [.data], laidTests := true, laidLooks := .later }
def TruthOwnUptoCardSaid : Prop := Claim7.holds Tryz.pinned (.plain (OpenSpec.upto truthOwnSpec)) truthOwnUptoCard

/-- THE SECOND FORM's CARD OF 'bursarlaw26.TruthPlays'. -/
def truthPlaysUptoCard : Claim7 := { stood := { row := truthPlaysUptoRow, standIns := [], harness := (true, "32672e82109454fcff7ee0b906ff774cbdf83f1271df557561aacdcc10b3759e"), looks := false }, kinds := [], alts := [], laidByText := true, laidKinds := [.data], laidTests := true, laidLooks := .later }
def TruthPlaysUptoCardSaid : Prop := Claim7.holds Tryz.pinned (.plain (OpenSpec.upto truthPlaysSpec)) truthPlaysUptoCard
end Rows
end Go.Proofs.YtkbhcgifnnhbaaaGreatDoor
