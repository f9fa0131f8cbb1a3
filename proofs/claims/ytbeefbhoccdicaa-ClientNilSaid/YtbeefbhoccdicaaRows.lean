/-
  No cell of these rows narrows 'for every input' (looked for: loops, veiled, ifaces, maps, wideKeys, modest, calm, conditions, laid).
  DERIVED. THE GIVEN ROWS OF THIS SEAT. 11 by the template 'for every input the law returns true; each argument reads behind the call as it read before'; 0 by the template 'total and deterministic' (their statements: YtbeefbhoccdicaaTotals.lean).
  GIVEN WITH THE SEED: the statements are not yours to turn. If you find one false, say at which input.
  Laid BY PROGRAM, IN A SANDBOX (cutbox-rows.mjs): the forced cells as the released guide's own fill.sh prints them over the translation 90ad73b82061fdc1… (all of the seat's roots in one cut). By AI agents, Wed Nov 11 2026. No macro, syntax, notation, axiom, sorry.
-/
import Derived.Test.YtbeefbhoccdicaaChecked
import GoSem.Claim
import GoSem.ClaimJoined
import GoSem.ClaimMapViews
import Derived.JoinedTies
import Derived.KernelRfl
namespace Go.Proofs.Ytbeefbhoccdicaa
/- THE CELL 'sum', in the pinned program and in every row, IS THE sha256 OF THE DUMP (.gsa) THAT YtbeefbhoccdicaaProg.lean LOADS. Nothing in Lean hashes anything: it is a label: what it is worth is what the hold of that sum in a sandbox is worth. -/
noncomputable def Try.pinned : Pinned := { name := "ytbeefbhoccdicaa", sum := "90ad73b82061fdc1bc9e5f65ef96bf6db6752218e6a9dba952c1689e1c15e4fd", checked := Try.checked }
namespace Rows
def none {H : Type} : Left H := { results := [], args := [] }

/-- 'cohortlaw03.GraphChecks': WHATEVER THE INPUT: true; the input reads as it did. -/
def graphChecksSpec : ChangeSpec := { name := "graphChecks", fn := fun _ => fun
  | [d] => { results := [.lit (.bool true)], args := [d] }
  | _ => none }
def graphChecksRow : OpenClaim := { program := "ytbeefbhoccdicaa", sum := "90ad73b82061fdc1bc9e5f65ef96bf6db6752218e6a9dba952c1689e1c15e4fd", func := "cohort/cohortlaw03.GraphChecks", spec := "graphChecks", unfollowed := true, recurses := true, apart := false }
def GraphChecksSaid : Prop := graphChecksRow.holds Try.pinned (OpenSpec.ofChange graphChecksSpec)

/-- ITS FALSE NEIGHBOUR: 'it returns false'. Refute it at one input. -/
def graphChecksWrong : ChangeSpec := { name := "graphChecks", fn := fun _ => fun
  | [d] => { results := [.lit (.bool false)], args := [d] }
  | _ => none }
def GraphChecksWrongFalsely : Prop := graphChecksRow.holds Try.pinned (OpenSpec.ofChange graphChecksWrong)

/-- 'cohortlaw03.GraphReads': WHATEVER THE INPUT: true; the input reads as it did. -/
def graphReadsSpec : ChangeSpec := { name := "graphReads", fn := fun _ => fun
  | [d] => { results := [.lit (.bool true)], args := [d] }
  | _ => none }
def graphReadsRow : OpenClaim := { program := "ytbeefbhoccdicaa", sum := "90ad73b82061fdc1bc9e5f65ef96bf6db6752218e6a9dba952c1689e1c15e4fd", func := "cohort/cohortlaw03.GraphReads", spec := "graphReads", unfollowed := true, recurses := true, apart := false }
def GraphReadsSaid : Prop := graphReadsRow.holds Try.pinned (OpenSpec.ofChange graphReadsSpec)

/-- ITS FALSE NEIGHBOUR: 'it returns false'. Refute it at one input. -/
def graphReadsWrong : ChangeSpec := { name := "graphReads", fn := fun _ => fun
  | [d] => { results := [.lit (.bool false)], args := [d] }
  | _ => none }
def GraphReadsWrongFalsely : Prop := graphReadsRow.holds Try.pinned (OpenSpec.ofChange graphReadsWrong)

/-- 'cohortlaw03.GraphVertices': WHATEVER THE INPUT: true; the input reads as it did. -/
def graphVerticesSpec : ChangeSpec := { name := "graphVertices", fn := fun _ => fun
  | [d1, d2] => { results := [.lit (.bool true)], args := [d1, d2] }
  | _ => none }
def graphVerticesRow : OpenClaim := { program := "ytbeefbhoccdicaa", sum := "90ad73b82061fdc1bc9e5f65ef96bf6db6752218e6a9dba952c1689e1c15e4fd", func := "cohort/cohortlaw03.GraphVertices", spec := "graphVertices", unfollowed := true, recurses := true, apart := false }
def GraphVerticesSaid : Prop := graphVerticesRow.holds Try.pinned (OpenSpec.ofChange graphVerticesSpec)

/-- ITS FALSE NEIGHBOUR: 'it returns false'. Refute it at one input. -/
def graphVerticesWrong : ChangeSpec := { name := "graphVertices", fn := fun _ => fun
  | [d1, d2] => { results := [.lit (.bool false)], args := [d1, d2] }
  | _ => none }
def GraphVerticesWrongFalsely : Prop := graphVerticesRow.holds Try.pinned (OpenSpec.ofChange graphVerticesWrong)

/-- 'cohortlaw03.GraphParts': WHATEVER THE INPUT: true; the input reads as it did. -/
def graphPartsSpec : ChangeSpec := { name := "graphParts", fn := fun _ => fun
  | [d1, d2, d3] => { results := [.lit (.bool true)], args := [d1, d2, d3] }
  | _ => none }
def graphPartsRow : OpenClaim := { program := "ytbeefbhoccdicaa", sum := "90ad73b82061fdc1bc9e5f65ef96bf6db6752218e6a9dba952c1689e1c15e4fd", func := "cohort/cohortlaw03.GraphParts", spec := "graphParts", unfollowed := true, recurses := true, apart := false }
def GraphPartsSaid : Prop := graphPartsRow.holds Try.pinned (OpenSpec.ofChange graphPartsSpec)

/-- ITS FALSE NEIGHBOUR: 'it returns false'. Refute it at one input. -/
def graphPartsWrong : ChangeSpec := { name := "graphParts", fn := fun _ => fun
  | [d1, d2, d3] => { results := [.lit (.bool false)], args := [d1, d2, d3] }
  | _ => none }
def GraphPartsWrongFalsely : Prop := graphPartsRow.holds Try.pinned (OpenSpec.ofChange graphPartsWrong)

/-- 'cohortlaw03.GraphFinds': WHATEVER THE INPUT: true; the input reads as it did. -/
def graphFindsSpec : ChangeSpec := { name := "graphFinds", fn := fun _ => fun
  | [d1, d2, d3] => { results := [.lit (.bool true)], args := [d1, d2, d3] }
  | _ => none }
def graphFindsRow : OpenClaim := { program := "ytbeefbhoccdicaa", sum := "90ad73b82061fdc1bc9e5f65ef96bf6db6752218e6a9dba952c1689e1c15e4fd", func := "cohort/cohortlaw03.GraphFinds", spec := "graphFinds", unfollowed := true, recurses := true, apart := false }
def GraphFindsSaid : Prop := graphFindsRow.holds Try.pinned (OpenSpec.ofChange graphFindsSpec)

/-- ITS FALSE NEIGHBOUR: 'it returns false'. Refute it at one input. -/
def graphFindsWrong : ChangeSpec := { name := "graphFinds", fn := fun _ => fun
  | [d1, d2, d3] => { results := [.lit (.bool false)], args := [d1, d2, d3] }
  | _ => none }
def GraphFindsWrongFalsely : Prop := graphFindsRow.holds Try.pinned (OpenSpec.ofChange graphFindsWrong)

/-- 'cohortlaw07.KernTells': WHATEVER THE INPUT: true; the input reads as it did. -/
def kernTellsSpec : ChangeSpec := { name := "kernTells", fn := fun _ => fun
  | [d1, d2] => { results := [.lit (.bool true)], args := [d1, d2] }
  | _ => none }
def kernTellsRow : OpenClaim := { program := "ytbeefbhoccdicaa", sum := "90ad73b82061fdc1bc9e5f65ef96bf6db6752218e6a9dba952c1689e1c15e4fd", func := "cohort/cohortlaw07.KernTells", spec := "kernTells", named := ["math/bits.divideError", "math/bits.overflowError"], apart := false }
def KernTellsSaid : Prop := kernTellsRow.holds Try.pinned (OpenSpec.ofChange kernTellsSpec)

/-- ITS FALSE NEIGHBOUR: 'it returns false'. Refute it at one input. -/
def kernTellsWrong : ChangeSpec := { name := "kernTells", fn := fun _ => fun
  | [d1, d2] => { results := [.lit (.bool false)], args := [d1, d2] }
  | _ => none }
def KernTellsWrongFalsely : Prop := kernTellsRow.holds Try.pinned (OpenSpec.ofChange kernTellsWrong)

/-- 'cohortlaw07.KernNames': WHATEVER THE INPUT: true; the input reads as it did. -/
def kernNamesSpec : ChangeSpec := { name := "kernNames", fn := fun _ => fun
  | [d1, d2] => { results := [.lit (.bool true)], args := [d1, d2] }
  | _ => none }
def kernNamesRow : OpenClaim := { program := "ytbeefbhoccdicaa", sum := "90ad73b82061fdc1bc9e5f65ef96bf6db6752218e6a9dba952c1689e1c15e4fd", func := "cohort/cohortlaw07.KernNames", spec := "kernNames", named := ["math/bits.divideError", "math/bits.overflowError"], apart := false }
def KernNamesSaid : Prop := kernNamesRow.holds Try.pinned (OpenSpec.ofChange kernNamesSpec)

/-- ITS FALSE NEIGHBOUR: 'it returns false'. Refute it at one input. -/
def kernNamesWrong : ChangeSpec := { name := "kernNames", fn := fun _ => fun
  | [d1, d2] => { results := [.lit (.bool false)], args := [d1, d2] }
  | _ => none }
def KernNamesWrongFalsely : Prop := kernNamesRow.holds Try.pinned (OpenSpec.ofChange kernNamesWrong)

/-- 'cohortlaw07.KernChecks': WHATEVER THE INPUT: true; the input reads as it did. -/
def kernChecksSpec : ChangeSpec := { name := "kernChecks", fn := fun _ => fun
  | [d1, d2, d3] => { results := [.lit (.bool true)], args := [d1, d2, d3] }
  | _ => none }
def kernChecksRow : OpenClaim := { program := "ytbeefbhoccdicaa", sum := "90ad73b82061fdc1bc9e5f65ef96bf6db6752218e6a9dba952c1689e1c15e4fd", func := "cohort/cohortlaw07.KernChecks", spec := "kernChecks", unfollowed := true, recurses := true, named := ["math/bits.divideError", "math/bits.overflowError"], apart := false }
def KernChecksSaid : Prop := kernChecksRow.holds Try.pinned (OpenSpec.ofChange kernChecksSpec)

/-- ITS FALSE NEIGHBOUR: 'it returns false'. Refute it at one input. -/
def kernChecksWrong : ChangeSpec := { name := "kernChecks", fn := fun _ => fun
  | [d1, d2, d3] => { results := [.lit (.bool false)], args := [d1, d2, d3] }
  | _ => none }
def KernChecksWrongFalsely : Prop := kernChecksRow.holds Try.pinned (OpenSpec.ofChange kernChecksWrong)

/-- 'cohortlaw08.MoreChecks': WHATEVER THE INPUT: true; the input reads as it did. -/
def moreChecksSpec : ChangeSpec := { name := "moreChecks", fn := fun _ => fun
  | [d1, d2, d3] => { results := [.lit (.bool true)], args := [d1, d2, d3] }
  | _ => none }
def moreChecksRow : OpenClaim := { program := "ytbeefbhoccdicaa", sum := "90ad73b82061fdc1bc9e5f65ef96bf6db6752218e6a9dba952c1689e1c15e4fd", func := "cohort/cohortlaw08.MoreChecks", spec := "moreChecks", unfollowed := true, recurses := true, named := ["math/bits.divideError", "math/bits.overflowError"], apart := false }
def MoreChecksSaid : Prop := moreChecksRow.holds Try.pinned (OpenSpec.ofChange moreChecksSpec)

/-- ITS FALSE NEIGHBOUR: 'it returns false'. Refute it at one input. -/
def moreChecksWrong : ChangeSpec := { name := "moreChecks", fn := fun _ => fun
  | [d1, d2, d3] => { results := [.lit (.bool false)], args := [d1, d2, d3] }
  | _ => none }
def MoreChecksWrongFalsely : Prop := moreChecksRow.holds Try.pinned (OpenSpec.ofChange moreChecksWrong)

/-- 'cohortlaw23.ClientWaits': WHATEVER THE INPUT: true; the input reads as it did. -/
def clientWaitsSpec : ChangeSpec := { name := "clientWaits", fn := fun _ => fun
  | [d1, d2] => { results := [.lit (.bool true)], args := [d1, d2] }
  | _ => none }
def clientWaitsRow : OpenClaim := { program := "ytbeefbhoccdicaa", sum := "90ad73b82061fdc1bc9e5f65ef96bf6db6752218e6a9dba952c1689e1c15e4fd", func := "cohort/cohortlaw23.ClientWaits", spec := "clientWaits", unfollowed := true, recurses := true, apart := false }
def ClientWaitsSaid : Prop := clientWaitsRow.holds Try.pinned (OpenSpec.ofChange clientWaitsSpec)

/-- ITS FALSE NEIGHBOUR: 'it returns false'. Refute it at one input. -/
def clientWaitsWrong : ChangeSpec := { name := "clientWaits", fn := fun _ => fun
  | [d1, d2] => { results := [.lit (.bool false)], args := [d1, d2] }
  | _ => none }
def ClientWaitsWrongFalsely : Prop := clientWaitsRow.holds Try.pinned (OpenSpec.ofChange clientWaitsWrong)

/-- 'cohortlaw23.ClientNil': WHATEVER THE INPUT: true; the input reads as it did. -/
def clientNilSpec : ChangeSpec := { name := "clientNil", fn := fun _ => fun
  | [d1, d2, d3] => { results := [.lit (.bool true)], args := [d1, d2, d3] }
  | _ => none }
def clientNilRow : OpenClaim := { program := "ytbeefbhoccdicaa", sum := "90ad73b82061fdc1bc9e5f65ef96bf6db6752218e6a9dba952c1689e1c15e4fd", func := "cohort/cohortlaw23.ClientNil", spec := "clientNil", unfollowed := true, recurses := true, apart := false }
def ClientNilSaid : Prop := clientNilRow.holds Try.pinned (OpenSpec.ofChange clientNilSpec)

/-- ITS FALSE NEIGHBOUR: 'it returns false'. Refute it at one input. -/
def clientNilWrong : ChangeSpec := { name := "clientNil", fn := fun _ => fun
  | [d1, d2, d3] => { results := [.lit (.bool false)], args := [d1, d2, d3] }
  | _ => none }
def ClientNilWrongFalsely : Prop := clientNilRow.holds Try.pinned (OpenSpec.ofChange clientNilWrong)

/- THE SECOND FORM. 'bulk': how many values and letters a reading holds, each counted each time it is reached (what is shared counts as often as it is met; a slice's spare places count too). A statement '..UptoSaid' is the law's where the arguments, and the package variables that the reading takes, are together of bulk at most 1048576: NARROWER than '..Said'. Prove '..Said' where nothing that the law and all that it calls make is longer than what came in: it says more and counts as full. Else prove '..UptoSaid'. A law counts once. -/
mutual
def uptoBulk {H : Type} : DataW H → Nat
  | .lit (.string bytes) => bytes.length + 1
  | .lit _ => 1
  | .nil => 1
  | .ptr d => uptoBulk d + 1
  | .slice elems spare => uptoBulkAll elems + uptoBulkAll spare + 1
  | .agg parts => uptoBulkAll parts + 1
  | .iface _ d => uptoBulk d + 1
  | .map entries => uptoBulkEntries entries + 1
  | .held _ => 1
def uptoBulkAll {H : Type} : List (DataW H) → Nat
  | [] => 0
  | d :: r => uptoBulk d + uptoBulkAll r
def uptoBulkEntries {H : Type} : List (Lit × DataW H) → Nat
  | [] => 0
  | x :: r => uptoBulkEntry x + uptoBulkEntries r
def uptoBulkEntry {H : Type} : Lit × DataW H → Nat
  | (.string bytes, d) => bytes.length + uptoBulk d + 1
  | (_, d) => uptoBulk d + 1
 end
def uptoSmall : (H : Type) → List (DataW H) → Bool := fun _ ds => decide (uptoBulkAll ds ≤ 1048576)
def OpenSpec.upto (s : _root_.Go.ChangeSpec) : _root_.Go.OpenSpec := { _root_.Go.OpenSpec.ofChange s with cond := some uptoSmall }

/-- 'cohortlaw03.GraphChecks', WHERE WHAT IT READS IS OF BULK AT MOST 1048576: true; the input reads as it did. -/
def graphChecksUptoRow : OpenClaim := { program := "ytbeefbhoccdicaa", sum := "90ad73b82061fdc1bc9e5f65ef96bf6db6752218e6a9dba952c1689e1c15e4fd", func := "cohort/cohortlaw03.GraphChecks", spec := "graphChecks", unfollowed := true, recurses := true, apart := false, narrowed := true }
def GraphChecksUptoSaid : Prop := graphChecksUptoRow.holds Try.pinned (OpenSpec.upto graphChecksSpec)

/-- 'cohortlaw03.GraphReads', WHERE WHAT IT READS IS OF BULK AT MOST 1048576: true; the input reads as it did. -/
def graphReadsUptoRow : OpenClaim := { program := "ytbeefbhoccdicaa", sum := "90ad73b82061fdc1bc9e5f65ef96bf6db6752218e6a9dba952c1689e1c15e4fd", func := "cohort/cohortlaw03.GraphReads", spec := "graphReads", unfollowed := true, recurses := true, apart := false, narrowed := true }
def GraphReadsUptoSaid : Prop := graphReadsUptoRow.holds Try.pinned (OpenSpec.upto graphReadsSpec)

/-- 'cohortlaw03.GraphVertices', WHERE WHAT IT READS IS OF BULK AT MOST 1048576: true; the input reads as it did. -/
def graphVerticesUptoRow : OpenClaim := { program := "ytbeefbhoccdicaa", sum := "90ad73b82061fdc1bc9e5f65ef96bf6db6752218e6a9dba952c1689e1c15e4fd", func := "cohort/cohortlaw03.GraphVertices", spec := "graphVertices", unfollowed := true, recurses := true, apart := false, narrowed := true }
def GraphVerticesUptoSaid : Prop := graphVerticesUptoRow.holds Try.pinned (OpenSpec.upto graphVerticesSpec)

/-- 'cohortlaw03.GraphParts', WHERE WHAT IT READS IS OF BULK AT MOST 1048576: true; the input reads as it did. -/
def graphPartsUptoRow : OpenClaim := { program := "ytbeefbhoccdicaa", sum := "90ad73b82061fdc1bc9e5f65ef96bf6db6752218e6a9dba952c1689e1c15e4fd", func := "cohort/cohortlaw03.GraphParts", spec := "graphParts", unfollowed := true, recurses := true, apart := false, narrowed := true }
def GraphPartsUptoSaid : Prop := graphPartsUptoRow.holds Try.pinned (OpenSpec.upto graphPartsSpec)

/-- 'cohortlaw03.GraphFinds', WHERE WHAT IT READS IS OF BULK AT MOST 1048576: true; the input reads as it did. -/
def graphFindsUptoRow : OpenClaim := { program := "ytbeefbhoccdicaa", sum := "90ad73b82061fdc1bc9e5f65ef96bf6db6752218e6a9dba952c1689e1c15e4fd", func := "cohort/cohortlaw03.GraphFinds", spec := "graphFinds", unfollowed := true, recurses := true, apart := false, narrowed := true }
def GraphFindsUptoSaid : Prop := graphFindsUptoRow.holds Try.pinned (OpenSpec.upto graphFindsSpec)

/-- 'cohortlaw07.KernTells', WHERE WHAT IT READS IS OF BULK AT MOST 1048576: true; the input reads as it did. -/
def kernTellsUptoRow : OpenClaim := { program := "ytbeefbhoccdicaa", sum := "90ad73b82061fdc1bc9e5f65ef96bf6db6752218e6a9dba952c1689e1c15e4fd", func := "cohort/cohortlaw07.KernTells", spec := "kernTells", named := ["math/bits.divideError", "math/bits.overflowError"], apart := false, narrowed := true }
def KernTellsUptoSaid : Prop := kernTellsUptoRow.holds Try.pinned (OpenSpec.upto kernTellsSpec)

/-- 'cohortlaw07.KernNames', WHERE WHAT IT READS IS OF BULK AT MOST 1048576: true; the input reads as it did. -/
def kernNamesUptoRow : OpenClaim := { program := "ytbeefbhoccdicaa", sum := "90ad73b82061fdc1bc9e5f65ef96bf6db6752218e6a9dba952c1689e1c15e4fd", func := "cohort/cohortlaw07.KernNames", spec := "kernNames", named := ["math/bits.divideError", "math/bits.overflowError"], apart := false, narrowed := true }
def KernNamesUptoSaid : Prop := kernNamesUptoRow.holds Try.pinned (OpenSpec.upto kernNamesSpec)

/-- 'cohortlaw07.KernChecks', WHERE WHAT IT READS IS OF BULK AT MOST 1048576: true; the input reads as it did. -/
def kernChecksUptoRow : OpenClaim := { program := "ytbeefbhoccdicaa", sum := "90ad73b82061fdc1bc9e5f65ef96bf6db6752218e6a9dba952c1689e1c15e4fd", func := "cohort/cohortlaw07.KernChecks", spec := "kernChecks", unfollowed := true, recurses := true, named := ["math/bits.divideError", "math/bits.overflowError"], apart := false, narrowed := true }
def KernChecksUptoSaid : Prop := kernChecksUptoRow.holds Try.pinned (OpenSpec.upto kernChecksSpec)

/-- 'cohortlaw08.MoreChecks', WHERE WHAT IT READS IS OF BULK AT MOST 1048576: true; the input reads as it did. -/
def moreChecksUptoRow : OpenClaim := { program := "ytbeefbhoccdicaa", sum := "90ad73b82061fdc1bc9e5f65ef96bf6db6752218e6a9dba952c1689e1c15e4fd", func := "cohort/cohortlaw08.MoreChecks", spec := "moreChecks", unfollowed := true, recurses := true, named := ["math/bits.divideError", "math/bits.overflowError"], apart := false, narrowed := true }
def MoreChecksUptoSaid : Prop := moreChecksUptoRow.holds Try.pinned (OpenSpec.upto moreChecksSpec)

/-- 'cohortlaw23.ClientWaits', WHERE WHAT IT READS IS OF BULK AT MOST 1048576: true; the input reads as it did. -/
def clientWaitsUptoRow : OpenClaim := { program := "ytbeefbhoccdicaa", sum := "90ad73b82061fdc1bc9e5f65ef96bf6db6752218e6a9dba952c1689e1c15e4fd", func := "cohort/cohortlaw23.ClientWaits", spec := "clientWaits", unfollowed := true, recurses := true, apart := false, narrowed := true }
def ClientWaitsUptoSaid : Prop := clientWaitsUptoRow.holds Try.pinned (OpenSpec.upto clientWaitsSpec)

/-- 'cohortlaw23.ClientNil', WHERE WHAT IT READS IS OF BULK AT MOST 1048576: true; the input reads as it did. -/
def clientNilUptoRow : OpenClaim := { program := "ytbeefbhoccdicaa", sum := "90ad73b82061fdc1bc9e5f65ef96bf6db6752218e6a9dba952c1689e1c15e4fd", func := "cohort/cohortlaw23.ClientNil", spec := "clientNil", unfollowed := true, recurses := true, apart := false, narrowed := true }
def ClientNilUptoSaid : Prop := clientNilUptoRow.holds Try.pinned (OpenSpec.upto clientNilSpec)

end Rows
end Go.Proofs.Ytbeefbhoccdicaa
