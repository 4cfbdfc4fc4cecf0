/-
  DERIVED. GIVEN WITH THE SEED: THE CARDS: each row of YtlginbmjiecglaaGreatDoorRows.lean that lists a variable, with what it lists TIED to the program's text (the seventh form; the later family's looks); each row that meets fmt, with fmt's text TOLD by the authors' own Lean function (tested against real Go, not proved from fmt's source: count such statements apart). THE CARD IS WHAT COUNTS. Prove the row's statement (the work); the ties are given (YtlginbmjiecglaaGreatDoorTie.lean); close each card by the builder's one call (the guide's Derived/Test/ToyasCard.lean, 'card_holds'). Laid BY PROGRAM, IN A SANDBOX (cutbox-door.mjs). By AI agents, Wed Nov 11 2026. No macro, syntax, notation, axiom, sorry.
-/
import Derived.Test.YtlginbmjiecglaaGreatDoorRows
import GoSem.ClaimSeven
namespace Go.Proofs.YtlginbmjiecglaaGreatDoor
namespace Rows

/-- THE TIED CARD OF 'bursarlaw19.LedgerRight'. -/
def ledgerRightCard : Claim7 := { stood := { row := ledgerRightRow, standIns := [], harness := (true, "3b9de312a36aa67f1d7a0a48bbb3438900f88f05f542bdb18c262ba31eb5ce4c"), looks := false }, kinds := [], alts := [], laidByText := true, laidKinds := [.data, .data], laidTests := true, laidLooks := .later }
def LedgerRightCardSaid : Prop := Claim7.holds Tryz.pinned (.plain (OpenSpec.ofChange ledgerRightSpec)) ledgerRightCard

/-- THE TIED CARD OF 'bursarlaw19.LedgerMoves'. -/
def ledgerMovesCard : Claim7 := { stood := { row := ledgerMovesRow, standIns := [], harness := (true, "3b9de312a36aa67f1d7a0a48bbb3438900f88f05f542bdb18c262ba31eb5ce4c"), looks := false }, kinds := [], alts := [], laidByText := true, laidKinds := [.data], laidTests := true, laidLooks := .later }
def LedgerMovesCardSaid : Prop := Claim7.holds Tryz.pinned (.plain (OpenSpec.ofChange ledgerMovesSpec)) ledgerMovesCard

/-- THE TIED CARD OF 'bursarlaw19.LedgerPlays'. -/
def ledgerPlaysCard : Claim7 := { stood := { row := ledgerPlaysRow, standIns := [], harness := (true, "3b9de312a36aa67f1d7a0a48bbb3438900f88f05f542bdb18c262ba31eb5ce4c"), looks := false }, kinds := [], alts := [], laidByText := true, laidKinds := [.data, .data], laidTests := true, laidLooks := .later }
def LedgerPlaysCardSaid : Prop := Claim7.holds Tryz.pinned (.plain (OpenSpec.ofChange ledgerPlaysSpec)) ledgerPlaysCard

/-- THE TIED CARD OF 'bursarlaw19.LedgerSums'. -/
def ledgerSumsCard : Claim7 := { stood := { row := ledgerSumsRow, standIns := [], harness := (true, "3b9de312a36aa67f1d7a0a48bbb3438900f88f05f542bdb18c262ba31eb5ce4c"), looks := false }, kinds := [], alts := [], laidByText := true, laidKinds := [.data, .data], laidTests := true, laidLooks := .later }
def LedgerSumsCardSaid : Prop := Claim7.holds Tryz.pinned (.plain (OpenSpec.ofChange ledgerSumsSpec)) ledgerSumsCard

/-- THE SECOND FORM's CARD OF 'bursarlaw19.LedgerRight'. -/
def ledgerRightUptoCard : Claim7 := { stood := { row := ledgerRightUptoRow, standIns := [], harness := (true, "3b9de312a36aa67f1d7a0a48bbb3438900f88f05f542bdb18c262ba31eb5ce4c"), looks := false }, kinds := [], alts := [], laidByText := true, laidKinds := [.data, .data], laidTests := true, laidLooks := .later }
def LedgerRightUptoCardSaid : Prop := Claim7.holds Tryz.pinned (.plain (OpenSpec.upto ledgerRightSpec)) ledgerRightUptoCard

/-- THE SECOND FORM's CARD OF 'bursarlaw19.LedgerMoves'. -/
def ledgerMovesUptoCard : Claim7 := { stood := { row := ledgerMovesUptoRow, standIns := [], harness := (true, "3b9de312a36aa67f1d7a0a48bbb3438900f88f05f542bdb18c262ba31eb5ce4c"), looks := false }, kinds := [], alts := [], laidByText := true, laidKinds := [.data], laidTests := true, laidLooks := .later }
def LedgerMovesUptoCardSaid : Prop := Claim7.holds Tryz.pinned (.plain (OpenSpec.upto ledgerMovesSpec)) ledgerMovesUptoCard

/-- THE SECOND FORM's CARD OF 'bursarlaw19.LedgerPlays'. -/
def ledgerPlaysUptoCard : Claim7 := { stood := { row := ledgerPlaysUptoRow, standIns := [], harness := (true, "3b9de312a36aa67f1d7a0a48bbb3438900f88f05f542bdb18c262ba31eb5ce4c"), looks := false }, kinds := [], alts := [], laidByText := true, laidKinds := [.data, .data], laidTests := true, laidLooks := .later }
def LedgerPlaysUptoCardSaid : Prop := Claim7.holds Tryz.pinned (.plain (OpenSpec.upto ledgerPlaysSpec)) ledgerPlaysUptoCard

/-- THE SECOND FORM's CARD OF 'bursarlaw19.LedgerSums'. -/
def ledgerSumsUptoCard : Claim7 := { stood := { row := ledgerSumsUptoRow, standIns := [], harness := (true, "3b9de312a36aa67f1d7a0a48bbb3438900f88f05f542bdb18c262ba31eb5ce4c"), looks := false }, kinds := [], alts := [], laidByText := true, laidKinds := [.data, .data], laidTests := true, laidLooks := .later }
def LedgerSumsUptoCardSaid : Prop := Claim7.holds Tryz.pinned (.plain (OpenSpec.upto ledgerSumsSpec)) ledgerSumsUptoCard
end Rows
end Go.Proofs.YtlginbmjiecglaaGreatDoor
