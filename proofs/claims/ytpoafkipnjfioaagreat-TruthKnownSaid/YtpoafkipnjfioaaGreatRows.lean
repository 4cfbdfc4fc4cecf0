/-
  No cell of these rows narrows 'for every input' (looked for: loops, veiled, ifaces, maps, wideKeys, modest, calm, conditions, laid).
  DERIVED. THE GIVEN ROWS OF THIS SEAT. 3 by the template 'for every input the law returns true; each argument reads behind the call as it read before'; 0 by the template 'total and deterministic' (their statements: YtpoafkipnjfioaaGreatTotals.lean).
  GIVEN WITH THE SEED: the statements are not yours to turn. If you find one false, say at which input.
  Laid BY PROGRAM, IN A SANDBOX (cutbox-rows.mjs): the forced cells as the released guide's own fill.sh prints them over the translation c92eecb6cdb73096… (all of the seat's roots in one cut). By AI agents, Wed Nov 11 2026. No macro, syntax, notation, axiom, sorry.
-/
import Derived.Test.YtpoafkipnjfioaaGreatChecked
import GoSem.Claim
import GoSem.ClaimJoined
import GoSem.ClaimMapViews
import Derived.JoinedTies
import Derived.KernelRfl
namespace Go.Proofs.YtpoafkipnjfioaaGreat
/- THE CELL 'sum', in the pinned program and in every row, IS THE sha256 OF THE DUMP (.gsa) THAT YtpoafkipnjfioaaGreatProg.lean LOADS. Nothing in Lean hashes anything: it is a label: what it is worth is what the hold of that sum in a sandbox is worth. -/
noncomputable def Tryz.pinned : Pinned := { name := "ytpoafkipnjfioaagreat", sum := "c92eecb6cdb73096df749209c612fd01ee0e152f4267a9752b6e228d2f0a4254", checked := Tryz.checked }
namespace Rows
def none {H : Type} : Left H := { results := [], args := [] }

/-- 'bursarlaw19.LedgerKnown': WHATEVER THE INPUT: true; the input reads as it did. -/
def ledgerKnownSpec : ChangeSpec := { name := "ledgerKnown", fn := fun _ => fun
  | [] => { results := [.lit (.bool true)], args := [] }
  | _ => none }
def ledgerKnownRow : OpenClaim := { program := "ytpoafkipnjfioaagreat", sum := "c92eecb6cdb73096df749209c612fd01ee0e152f4267a9752b6e228d2f0a4254", func := "bursar/bursarlaw19.LedgerKnown", spec := "ledgerKnown", inPlace := ["slices.overlaps[string]", "slices.overlaps[bursar/api.Purse]", "slices.overlaps[uint64]", "slices.overlaps[bursar/api.Account]", "math/bits.Sub64", "math/bits.Add64", "slices.overlaps[bursar/api.Pair]"], unfollowed := true, recurses := true, named := ["math/bits.divideError", "math/bits.overflowError"], apart := false }
def LedgerKnownSaid : Prop := ledgerKnownRow.holds Tryz.pinned (OpenSpec.ofChange ledgerKnownSpec)

/-- ITS FALSE NEIGHBOUR: 'it returns false'. Refute it at one input. -/
def ledgerKnownWrong : ChangeSpec := { name := "ledgerKnown", fn := fun _ => fun
  | [] => { results := [.lit (.bool false)], args := [] }
  | _ => none }
def LedgerKnownWrongFalsely : Prop := ledgerKnownRow.holds Tryz.pinned (OpenSpec.ofChange ledgerKnownWrong)

/-- 'bursarlaw22.FoldKnown': WHATEVER THE INPUT: true; the input reads as it did. -/
def foldKnownSpec : ChangeSpec := { name := "foldKnown", fn := fun _ => fun
  | [] => { results := [.lit (.bool true)], args := [] }
  | _ => none }
def foldKnownRow : OpenClaim := { program := "ytpoafkipnjfioaagreat", sum := "c92eecb6cdb73096df749209c612fd01ee0e152f4267a9752b6e228d2f0a4254", func := "bursar/bursarlaw22.FoldKnown", spec := "foldKnown", inPlace := ["slices.overlaps[uint64]", "slices.overlaps[bursar/api.Session]", "slices.overlaps[string]", "slices.overlaps[bursar/api.Purse]", "slices.overlaps[bursar/api.Account]", "math/bits.Sub64", "math/bits.Add64", "slices.overlaps[bursar/api.Pair]"], unfollowed := true, recurses := true, named := ["math/bits.divideError", "math/bits.overflowError"], apart := false }
def FoldKnownSaid : Prop := foldKnownRow.holds Tryz.pinned (OpenSpec.ofChange foldKnownSpec)

/-- ITS FALSE NEIGHBOUR: 'it returns false'. Refute it at one input. -/
def foldKnownWrong : ChangeSpec := { name := "foldKnown", fn := fun _ => fun
  | [] => { results := [.lit (.bool false)], args := [] }
  | _ => none }
def FoldKnownWrongFalsely : Prop := foldKnownRow.holds Tryz.pinned (OpenSpec.ofChange foldKnownWrong)

/-- 'bursarlaw26.TruthKnown': WHATEVER THE INPUT: true; the input reads as it did. -/
def truthKnownSpec : ChangeSpec := { name := "truthKnown", fn := fun _ => fun
  | [] => { results := [.lit (.bool true)], args := [] }
  | _ => none }
def truthKnownRow : OpenClaim := { program := "ytpoafkipnjfioaagreat", sum := "c92eecb6cdb73096df749209c612fd01ee0e152f4267a9752b6e228d2f0a4254", func := "bursar/bursarlaw26.TruthKnown", spec := "truthKnown", inPlace := ["math/bits.Sub64", "math/bits.Add64", "slices.overlaps[string]", "slices.overlaps[bursar/api.Purse]", "slices.overlaps[bursar/api.Pair]", "slices.overlaps[uint64]", "slices.overlaps[bursar/api.Account]", "slices.overlaps[bursar/api.Session]"], unfollowed := true, recurses := true, named := ["math/bits.divideError", "math/bits.overflowError"], apart := false }
def TruthKnownSaid : Prop := truthKnownRow.holds Tryz.pinned (OpenSpec.ofChange truthKnownSpec)

/-- ITS FALSE NEIGHBOUR: 'it returns false'. Refute it at one input. -/
def truthKnownWrong : ChangeSpec := { name := "truthKnown", fn := fun _ => fun
  | [] => { results := [.lit (.bool false)], args := [] }
  | _ => none }
def TruthKnownWrongFalsely : Prop := truthKnownRow.holds Tryz.pinned (OpenSpec.ofChange truthKnownWrong)

/- THE SECOND FORM. 'bulk': how many values and letters a reading holds, each counted each time it is reached (what is shared counts as often as it is met; a slice's spare places count too). A statement '..UptoSaid' is the law's where the arguments, and the package variables that the reading takes, are together of bulk at most 1048576: NARROWER than '..Said'. Prove '..Said' where nothing that the law and all that it calls make is longer than what came in: it says more and counts as full. Else prove '..UptoSaid'. A law counts once. -/
mutual
def uptoBulk {H : Type} : DataW H → Nat
  | .lit (.string bytes) => bytes.length + 1
  | .lit _ => 1
  | .nil => 1
  | .ptr d => uptoBulk d + 1
  | .slice elems spare => uptoBulkAll elems + uptoBulkAll spare + 1
  | .agg parts => uptoBulkAll parts + 1
  | .iface _ d => uptoBulk d + 1
  | .map entries => uptoBulkEntries entries + 1
  | .held _ => 1
def uptoBulkAll {H : Type} : List (DataW H) → Nat
  | [] => 0
  | d :: r => uptoBulk d + uptoBulkAll r
def uptoBulkEntries {H : Type} : List (Lit × DataW H) → Nat
  | [] => 0
  | x :: r => uptoBulkEntry x + uptoBulkEntries r
def uptoBulkEntry {H : Type} : Lit × DataW H → Nat
  | (.string bytes, d) => bytes.length + uptoBulk d + 1
  | (_, d) => uptoBulk d + 1
 end
def uptoSmall : (H : Type) → List (DataW H) → Bool := fun _ ds => decide (uptoBulkAll ds ≤ 1048576)
def OpenSpec.upto (s : _root_.Go.ChangeSpec) : _root_.Go.OpenSpec := { _root_.Go.OpenSpec.ofChange s with cond := some uptoSmall }

/-- 'bursarlaw19.LedgerKnown', WHERE WHAT IT READS IS OF BULK AT MOST 1048576: true; the input reads as it did. -/
def ledgerKnownUptoRow : OpenClaim := { program := "ytpoafkipnjfioaagreat", sum := "c92eecb6cdb73096df749209c612fd01ee0e152f4267a9752b6e228d2f0a4254", func := "bursar/bursarlaw19.LedgerKnown", spec := "ledgerKnown", inPlace := ["slices.overlaps[string]", "slices.overlaps[bursar/api.Purse]", "slices.overlaps[uint64]", "slices.overlaps[bursar/api.Account]", "math/bits.Sub64", "math/bits.Add64", "slices.overlaps[bursar/api.Pair]"], unfollowed := true, recurses := true, named := ["math/bits.divideError", "math/bits.overflowError"], apart := false, narrowed := true }
def LedgerKnownUptoSaid : Prop := ledgerKnownUptoRow.holds Tryz.pinned (OpenSpec.upto ledgerKnownSpec)

/-- 'bursarlaw22.FoldKnown', WHERE WHAT IT READS IS OF BULK AT MOST 1048576: true; the input reads as it did. -/
def foldKnownUptoRow : OpenClaim := { program := "ytpoafkipnjfioaagreat", sum := "c92eecb6cdb73096df749209c612fd01ee0e152f4267a9752b6e228d2f0a4254", func := "bursar/bursarlaw22.FoldKnown", spec := "foldKnown", inPlace := ["slices.overlaps[uint64]", "slices.overlaps[bursar/api.Session]", "slices.overlaps[string]", "slices.overlaps[bursar/api.Purse]", "slices.overlaps[bursar/api.Account]", "math/bits.Sub64", "math/bits.Add64", "slices.overlaps[bursar/api.Pair]"], unfollowed := true, recurses := true, named := ["math/bits.divideError", "math/bits.overflowError"], apart := false, narrowed := true }
def FoldKnownUptoSaid : Prop := foldKnownUptoRow.holds Tryz.pinned (OpenSpec.upto foldKnownSpec)

/-- 'bursarlaw26.TruthKnown', WHERE WHAT IT READS IS OF BULK AT MOST 1048576: true; the input reads as it did. -/
def truthKnownUptoRow : OpenClaim := { program := "ytpoafkipnjfioaagreat", sum := "c92eecb6cdb73096df749209c612fd01ee0e152f4267a9752b6e228d2f0a4254", func := "bursar/bursarlaw26.TruthKnown", spec := "truthKnown", inPlace := ["math/bits.Sub64", "math/bits.Add64", "slices.overlaps[string]", "slices.overlaps[bursar/api.Purse]", "slices.overlaps[bursar/api.Pair]", "slices.overlaps[uint64]", "slices.overlaps[bursar/api.Account]", "slices.overlaps[bursar/api.Session]"], unfollowed := true, recurses := true, named := ["math/bits.divideError", "math/bits.overflowError"], apart := false, narrowed := true }
def TruthKnownUptoSaid : Prop := truthKnownUptoRow.holds Tryz.pinned (OpenSpec.upto truthKnownSpec)

end Rows
end Go.Proofs.YtpoafkipnjfioaaGreat
