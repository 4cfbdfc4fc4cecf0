/-
  No cell of these rows narrows 'for every input' (looked for: loops, veiled, ifaces, maps, wideKeys, modest, calm, conditions, laid).
  DERIVED. THE GIVEN ROWS OF THIS SEAT. 6 by the template 'for every input the law returns true; each argument reads behind the call as it read before'; 0 by the template 'total and deterministic' (their statements: YtolmealocdgdhaaGreatTotals.lean).
  GIVEN WITH THE SEED: the statements are not yours to turn. If you find one false, say at which input.
  Laid BY PROGRAM, IN A SANDBOX (cutbox-rows.mjs): the forced cells as the released guide's own fill.sh prints them over the translation a392ed49ddff17b8… (all of the seat's roots in one cut). By AI agents, Wed Nov 11 2026. No macro, syntax, notation, axiom, sorry.
-/
import Derived.Test.YtolmealocdgdhaaGreatChecked
import GoSem.Claim
import GoSem.ClaimJoined
import GoSem.ClaimMapViews
import Derived.JoinedTies
import Derived.KernelRfl
namespace Go.Proofs.YtolmealocdgdhaaGreat
/- THE CELL 'sum', in the pinned program and in every row, IS THE sha256 OF THE DUMP (.gsa) THAT YtolmealocdgdhaaGreatProg.lean LOADS. Nothing in Lean hashes anything: it is a label: what it is worth is what the hold of that sum in a sandbox is worth. -/
noncomputable def Tryz.pinned : Pinned := { name := "ytolmealocdgdhaagreat", sum := "a392ed49ddff17b89b7fd3d147de1fe36cc79f09d82ca4ccc0277f988838a7bb", checked := Tryz.checked }
namespace Rows
def none {H : Type} : Left H := { results := [], args := [] }

/-- 'bursarlaw27.AuditKnown': WHATEVER THE INPUT: true; the input reads as it did. -/
def auditKnownSpec : ChangeSpec := { name := "auditKnown", fn := fun _ => fun
  | [] => { results := [.lit (.bool true)], args := [] }
  | _ => none }
def auditKnownRow : OpenClaim := { program := "ytolmealocdgdhaagreat", sum := "a392ed49ddff17b89b7fd3d147de1fe36cc79f09d82ca4ccc0277f988838a7bb", func := "bursar/bursarlaw27.AuditKnown", spec := "auditKnown", inPlace := ["math/bits.Sub64", "math/bits.Add64", "slices.overlaps[string]", "slices.overlaps[bursar/api.Purse]", "slices.overlaps[bursar/api.Pair]", "slices.overlaps[uint64]", "slices.overlaps[bursar/api.Account]", "slices.overlaps[bursar/api.Session]"], unfollowed := true, recurses := true, named := ["math/bits.divideError", "math/bits.overflowError"], apart := false }
def AuditKnownSaid : Prop := auditKnownRow.holds Tryz.pinned (OpenSpec.ofChange auditKnownSpec)

/-- ITS FALSE NEIGHBOUR: 'it returns false'. Refute it at one input. -/
def auditKnownWrong : ChangeSpec := { name := "auditKnown", fn := fun _ => fun
  | [] => { results := [.lit (.bool false)], args := [] }
  | _ => none }
def AuditKnownWrongFalsely : Prop := auditKnownRow.holds Tryz.pinned (OpenSpec.ofChange auditKnownWrong)

/-- 'bursarlaw27.AuditAlike': WHATEVER THE INPUT: true; the input reads as it did. -/
def auditAlikeSpec : ChangeSpec := { name := "auditAlike", fn := fun _ => fun
  | [d1, d2, d3, d4, d5, d6, d7, d8] => { results := [.lit (.bool true)], args := [d1, d2, d3, d4, d5, d6, d7, d8] }
  | _ => none }
def auditAlikeRow : OpenClaim := { program := "ytolmealocdgdhaagreat", sum := "a392ed49ddff17b89b7fd3d147de1fe36cc79f09d82ca4ccc0277f988838a7bb", func := "bursar/bursarlaw27.AuditAlike", spec := "auditAlike", inPlace := ["math/bits.Sub64", "math/bits.Add64", "slices.overlaps[string]", "slices.overlaps[bursar/api.Purse]", "slices.overlaps[bursar/api.Pair]", "slices.overlaps[uint64]", "slices.overlaps[bursar/api.Account]", "slices.overlaps[bursar/api.Session]"], unfollowed := true, recurses := true, named := ["math/bits.divideError", "math/bits.overflowError"], apart := false }
def AuditAlikeSaid : Prop := auditAlikeRow.holds Tryz.pinned (OpenSpec.ofChange auditAlikeSpec)

/-- ITS FALSE NEIGHBOUR: 'it returns false'. Refute it at one input. -/
def auditAlikeWrong : ChangeSpec := { name := "auditAlike", fn := fun _ => fun
  | [d1, d2, d3, d4, d5, d6, d7, d8] => { results := [.lit (.bool false)], args := [d1, d2, d3, d4, d5, d6, d7, d8] }
  | _ => none }
def AuditAlikeWrongFalsely : Prop := auditAlikeRow.holds Tryz.pinned (OpenSpec.ofChange auditAlikeWrong)

/-- 'bursarlaw24.NodeKnown': WHATEVER THE INPUT: true; the input reads as it did. -/
def nodeKnownSpec : ChangeSpec := { name := "nodeKnown", fn := fun _ => fun
  | [] => { results := [.lit (.bool true)], args := [] }
  | _ => none }
def nodeKnownRow : OpenClaim := { program := "ytolmealocdgdhaagreat", sum := "a392ed49ddff17b89b7fd3d147de1fe36cc79f09d82ca4ccc0277f988838a7bb", func := "bursar/bursarlaw24.NodeKnown", spec := "nodeKnown", inPlace := ["math/bits.Sub64", "math/bits.Add64", "slices.overlaps[string]", "slices.overlaps[bursar/api.Purse]", "slices.overlaps[bursar/api.Pair]", "slices.overlaps[uint64]", "slices.overlaps[bursar/api.Account]", "slices.overlaps[bursar/api.Session]", "slices.overlaps[bursar/desk.waiter[bursar/node.asker]]"], unfollowed := true, recurses := true, named := ["math/bits.divideError", "math/bits.overflowError"], apart := false }
def NodeKnownSaid : Prop := nodeKnownRow.holds Tryz.pinned (OpenSpec.ofChange nodeKnownSpec)

/-- ITS FALSE NEIGHBOUR: 'it returns false'. Refute it at one input. -/
def nodeKnownWrong : ChangeSpec := { name := "nodeKnown", fn := fun _ => fun
  | [] => { results := [.lit (.bool false)], args := [] }
  | _ => none }
def NodeKnownWrongFalsely : Prop := nodeKnownRow.holds Tryz.pinned (OpenSpec.ofChange nodeKnownWrong)

/-- 'bursarlaw25.ClusterKnown': WHATEVER THE INPUT: true; the input reads as it did. -/
def clusterKnownSpec : ChangeSpec := { name := "clusterKnown", fn := fun _ => fun
  | [] => { results := [.lit (.bool true)], args := [] }
  | _ => none }
def clusterKnownRow : OpenClaim := { program := "ytolmealocdgdhaagreat", sum := "a392ed49ddff17b89b7fd3d147de1fe36cc79f09d82ca4ccc0277f988838a7bb", func := "bursar/bursarlaw25.ClusterKnown", spec := "clusterKnown", inPlace := ["math/bits.Sub64", "math/bits.Add64", "slices.overlaps[string]", "slices.overlaps[bursar/api.Purse]", "slices.overlaps[bursar/api.Pair]", "slices.overlaps[uint64]", "slices.overlaps[bursar/api.Account]", "slices.overlaps[bursar/api.Session]", "slices.overlaps[bursar/desk.waiter[bursar/node.asker]]"], unfollowed := true, recurses := true, named := ["math/bits.divideError", "math/bits.overflowError"], apart := false }
def ClusterKnownSaid : Prop := clusterKnownRow.holds Tryz.pinned (OpenSpec.ofChange clusterKnownSpec)

/-- ITS FALSE NEIGHBOUR: 'it returns false'. Refute it at one input. -/
def clusterKnownWrong : ChangeSpec := { name := "clusterKnown", fn := fun _ => fun
  | [] => { results := [.lit (.bool false)], args := [] }
  | _ => none }
def ClusterKnownWrongFalsely : Prop := clusterKnownRow.holds Tryz.pinned (OpenSpec.ofChange clusterKnownWrong)

/-- 'bursarlaw28.CalmKnown': WHATEVER THE INPUT: true; the input reads as it did. -/
def calmKnownSpec : ChangeSpec := { name := "calmKnown", fn := fun _ => fun
  | [] => { results := [.lit (.bool true)], args := [] }
  | _ => none }
def calmKnownRow : OpenClaim := { program := "ytolmealocdgdhaagreat", sum := "a392ed49ddff17b89b7fd3d147de1fe36cc79f09d82ca4ccc0277f988838a7bb", func := "bursar/bursarlaw28.CalmKnown", spec := "calmKnown", inPlace := ["math/bits.Sub64", "math/bits.Add64", "slices.overlaps[string]", "slices.overlaps[bursar/api.Purse]", "slices.overlaps[bursar/api.Pair]", "slices.overlaps[uint64]", "slices.overlaps[bursar/api.Account]", "slices.overlaps[bursar/api.Session]", "slices.overlaps[bursar/desk.waiter[bursar/node.asker]]"], unfollowed := true, recurses := true, named := ["math/bits.divideError", "math/bits.overflowError"], apart := false }
def CalmKnownSaid : Prop := calmKnownRow.holds Tryz.pinned (OpenSpec.ofChange calmKnownSpec)

/-- ITS FALSE NEIGHBOUR: 'it returns false'. Refute it at one input. -/
def calmKnownWrong : ChangeSpec := { name := "calmKnown", fn := fun _ => fun
  | [] => { results := [.lit (.bool false)], args := [] }
  | _ => none }
def CalmKnownWrongFalsely : Prop := calmKnownRow.holds Tryz.pinned (OpenSpec.ofChange calmKnownWrong)

/-- 'bursarlaw28.CalmBounds': WHATEVER THE INPUT: true; the input reads as it did. -/
def calmBoundsSpec : ChangeSpec := { name := "calmBounds", fn := fun _ => fun
  | [d1, d2, d3] => { results := [.lit (.bool true)], args := [d1, d2, d3] }
  | _ => none }
def calmBoundsRow : OpenClaim := { program := "ytolmealocdgdhaagreat", sum := "a392ed49ddff17b89b7fd3d147de1fe36cc79f09d82ca4ccc0277f988838a7bb", func := "bursar/bursarlaw28.CalmBounds", spec := "calmBounds", inPlace := ["math/bits.Sub64", "math/bits.Add64", "slices.overlaps[string]", "slices.overlaps[bursar/api.Purse]", "slices.overlaps[bursar/api.Pair]", "slices.overlaps[uint64]", "slices.overlaps[bursar/api.Account]", "slices.overlaps[bursar/api.Session]", "slices.overlaps[bursar/desk.waiter[bursar/node.asker]]"], unfollowed := true, recurses := true, named := ["math/bits.divideError", "math/bits.overflowError"], apart := false }
def CalmBoundsSaid : Prop := calmBoundsRow.holds Tryz.pinned (OpenSpec.ofChange calmBoundsSpec)

/-- ITS FALSE NEIGHBOUR: 'it returns false'. Refute it at one input. -/
def calmBoundsWrong : ChangeSpec := { name := "calmBounds", fn := fun _ => fun
  | [d1, d2, d3] => { results := [.lit (.bool false)], args := [d1, d2, d3] }
  | _ => none }
def CalmBoundsWrongFalsely : Prop := calmBoundsRow.holds Tryz.pinned (OpenSpec.ofChange calmBoundsWrong)

/- THE SECOND FORM. 'bulk': how many values and letters a reading holds, each counted each time it is reached (what is shared counts as often as it is met; a slice's spare places count too). A statement '..UptoSaid' is the law's where the arguments, and the package variables that the reading takes, are together of bulk at most 1048576: NARROWER than '..Said'. Prove '..Said' where nothing that the law and all that it calls make is longer than what came in: it says more and counts as full. Else prove '..UptoSaid'. A law counts once. -/
mutual
def uptoBulk {H : Type} : DataW H → Nat
  | .lit (.string bytes) => bytes.length + 1
  | .lit _ => 1
  | .nil => 1
  | .ptr d => uptoBulk d + 1
  | .slice elems spare => uptoBulkAll elems + uptoBulkAll spare + 1
  | .agg parts => uptoBulkAll parts + 1
  | .iface _ d => uptoBulk d + 1
  | .map entries => uptoBulkEntries entries + 1
  | .held _ => 1
def uptoBulkAll {H : Type} : List (DataW H) → Nat
  | [] => 0
  | d :: r => uptoBulk d + uptoBulkAll r
def uptoBulkEntries {H : Type} : List (Lit × DataW H) → Nat
  | [] => 0
  | x :: r => uptoBulkEntry x + uptoBulkEntries r
def uptoBulkEntry {H : Type} : Lit × DataW H → Nat
  | (.string bytes, d) => bytes.length + uptoBulk d + 1
  | (_, d) => uptoBulk d + 1
 end
def uptoSmall : (H : Type) → List (DataW H) → Bool := fun _ ds => decide (uptoBulkAll ds ≤ 1048576)
def OpenSpec.upto (s : _root_.Go.ChangeSpec) : _root_.Go.OpenSpec := { _root_.Go.OpenSpec.ofChange s with cond := some uptoSmall }

/-- 'bursarlaw27.AuditKnown', WHERE WHAT IT READS IS OF BULK AT MOST 1048576: true; the input reads as it did. -/
def auditKnownUptoRow : OpenClaim := { program := "ytolmealocdgdhaagreat", sum := "a392ed49ddff17b89b7fd3d147de1fe36cc79f09d82ca4ccc0277f988838a7bb", func := "bursar/bursarlaw27.AuditKnown", spec := "auditKnown", inPlace := ["math/bits.Sub64", "math/bits.Add64", "slices.overlaps[string]", "slices.overlaps[bursar/api.Purse]", "slices.overlaps[bursar/api.Pair]", "slices.overlaps[uint64]", "slices.overlaps[bursar/api.Account]", "slices.overlaps[bursar/api.Session]"], unfollowed := true, recurses := true, named := ["math/bits.divideError", "math/bits.overflowError"], apart := false, narrowed := true }
def AuditKnownUptoSaid : Prop := auditKnownUptoRow.holds Tryz.pinned (OpenSpec.upto auditKnownSpec)

/-- 'bursarlaw27.AuditAlike', WHERE WHAT IT READS IS OF BULK AT MOST 1048576: true; the input reads as it did. -/
def auditAlikeUptoRow : OpenClaim := { program := "ytolmealocdgdhaagreat", sum := "a392ed49ddff17b89b7fd3d147de1fe36cc79f09d82ca4ccc0277f988838a7bb", func := "bursar/bursarlaw27.AuditAlike", spec := "auditAlike", inPlace := ["math/bits.Sub64", "math/bits.Add64", "slices.overlaps[string]", "slices.overlaps[bursar/api.Purse]", "slices.overlaps[bursar/api.Pair]", "slices.overlaps[uint64]", "slices.overlaps[bursar/api.Account]", "slices.overlaps[bursar/api.Session]"], unfollowed := true, recurses := true, named := ["math/bits.divideError", "math/bits.overflowError"], apart := false, narrowed := true }
def AuditAlikeUptoSaid : Prop := auditAlikeUptoRow.holds Tryz.pinned (OpenSpec.upto auditAlikeSpec)

/-- 'bursarlaw24.NodeKnown', WHERE WHAT IT READS IS OF BULK AT MOST 1048576: true; the input reads as it did. -/
def nodeKnownUptoRow : OpenClaim := { program := "ytolmealocdgdhaagreat", sum := "a392ed49ddff17b89b7fd3d147de1fe36cc79f09d82ca4ccc0277f988838a7bb", func := "bursar/bursarlaw24.NodeKnown", spec := "nodeKnown", inPlace := ["math/bits.Sub64", "math/bits.Add64", "slices.overlaps[string]", "slices.overlaps[bursar/api.Purse]", "slices.overlaps[bursar/api.Pair]", "slices.overlaps[uint64]", "slices.overlaps[bursar/api.Account]", "slices.overlaps[bursar/api.Session]", "slices.overlaps[bursar/desk.waiter[bursar/node.asker]]"], unfollowed := true, recurses := true, named := ["math/bits.divideError", "math/bits.overflowError"], apart := false, narrowed := true }
def NodeKnownUptoSaid : Prop := nodeKnownUptoRow.holds Tryz.pinned (OpenSpec.upto nodeKnownSpec)

/-- 'bursarlaw25.ClusterKnown', WHERE WHAT IT READS IS OF BULK AT MOST 1048576: true; the input reads as it did. -/
def clusterKnownUptoRow : OpenClaim := { program := "ytolmealocdgdhaagreat", sum := "a392ed49ddff17b89b7fd3d147de1fe36cc79f09d82ca4ccc0277f988838a7bb", func := "bursar/bursarlaw25.ClusterKnown", spec := "clusterKnown", inPlace := ["math/bits.Sub64", "math/bits.Add64", "slices.overlaps[string]", "slices.overlaps[bursar/api.Purse]", "slices.overlaps[bursar/api.Pair]", "slices.overlaps[uint64]", "slices.overlaps[bursar/api.Account]", "slices.overlaps[bursar/api.Session]", "slices.overlaps[bursar/desk.waiter[bursar/node.asker]]"], unfollowed := true, recurses := true, named := ["math/bits.divideError", "math/bits.overflowError"], apart := false, narrowed := true }
def ClusterKnownUptoSaid : Prop := clusterKnownUptoRow.holds Tryz.pinned (OpenSpec.upto clusterKnownSpec)

/-- 'bursarlaw28.CalmKnown', WHERE WHAT IT READS IS OF BULK AT MOST 1048576: true; the input reads as it did. -/
def calmKnownUptoRow : OpenClaim := { program := "ytolmealocdgdhaagreat", sum := "a392ed49ddff17b89b7fd3d147de1fe36cc79f09d82ca4ccc0277f988838a7bb", func := "bursar/bursarlaw28.CalmKnown", spec := "calmKnown", inPlace := ["math/bits.Sub64", "math/bits.Add64", "slices.overlaps[string]", "slices.overlaps[bursar/api.Purse]", "slices.overlaps[bursar/api.Pair]", "slices.overlaps[uint64]", "slices.overlaps[bursar/api.Account]", "slices.overlaps[bursar/api.Session]", "slices.overlaps[bursar/desk.waiter[bursar/node.asker]]"], unfollowed := true, recurses := true, named := ["math/bits.divideError", "math/bits.overflowError"], apart := false, narrowed := true }
def CalmKnownUptoSaid : Prop := calmKnownUptoRow.holds Tryz.pinned (OpenSpec.upto calmKnownSpec)

/-- 'bursarlaw28.CalmBounds', WHERE WHAT IT READS IS OF BULK AT MOST 1048576: true; the input reads as it did. -/
def calmBoundsUptoRow : OpenClaim := { program := "ytolmealocdgdhaagreat", sum := "a392ed49ddff17b89b7fd3d147de1fe36cc79f09d82ca4ccc0277f988838a7bb", func := "bursar/bursarlaw28.CalmBounds", spec := "calmBounds", inPlace := ["math/bits.Sub64", "math/bits.Add64", "slices.overlaps[string]", "slices.overlaps[bursar/api.Purse]", "slices.overlaps[bursar/api.Pair]", "slices.overlaps[uint64]", "slices.overlaps[bursar/api.Account]", "slices.overlaps[bursar/api.Session]", "slices.overlaps[bursar/desk.waiter[bursar/node.asker]]"], unfollowed := true, recurses := true, named := ["math/bits.divideError", "math/bits.overflowError"], apart := false, narrowed := true }
def CalmBoundsUptoSaid : Prop := calmBoundsUptoRow.holds Tryz.pinned (OpenSpec.upto calmBoundsSpec)

end Rows
end Go.Proofs.YtolmealocdgdhaaGreat
