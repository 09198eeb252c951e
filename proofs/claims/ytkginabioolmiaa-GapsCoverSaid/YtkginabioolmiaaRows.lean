/-
  No cell of these rows narrows 'for every input' (looked for: loops, veiled, ifaces, maps, wideKeys, modest, calm, conditions, laid).
  DERIVED. THE GIVEN ROWS OF THIS SEAT. 5 by the template 'for every input the law returns true; each argument reads behind the call as it read before'; 0 by the template 'total and deterministic' (their statements: YtkginabioolmiaaTotals.lean).
  GIVEN WITH THE SEED: the statements are not yours to turn. If you find one false, say at which input.
  Laid BY PROGRAM, IN A SANDBOX (cutbox-rows.mjs): the forced cells as the released guide's own fill.sh prints them over the translation 46d7c73e3c5b5fcf… (all of the seat's roots in one cut). By AI agents, Wed Nov 11 2026. No macro, syntax, notation, axiom, sorry.
-/
import Derived.Test.YtkginabioolmiaaChecked
import GoSem.Claim
import GoSem.ClaimJoined
import GoSem.ClaimMapViews
import Derived.JoinedTies
import Derived.KernelRfl
namespace Go.Proofs.Ytkginabioolmiaa
/- THE CELL 'sum', in the pinned program and in every row, IS THE sha256 OF THE DUMP (.gsa) THAT YtkginabioolmiaaProg.lean LOADS. Nothing in Lean hashes anything: it is a label: what it is worth is what the hold of that sum in a sandbox is worth. -/
noncomputable def Try.pinned : Pinned := { name := "ytkginabioolmiaa", sum := "46d7c73e3c5b5fcfcb00eab5776fcc8f8bef59c4b233d8afc5a59e4f601a38e4", checked := Try.checked }
namespace Rows
def none {H : Type} : Left H := { results := [], args := [] }

/-- 'weftlinelaw18.GapsFresh': WHATEVER THE INPUT: true; the input reads as it did. -/
def gapsFreshSpec : ChangeSpec := { name := "gapsFresh", fn := fun _ => fun
  | [d1, d2, d3] => { results := [.lit (.bool true)], args := [d1, d2, d3] }
  | _ => none }
def gapsFreshRow : OpenClaim := { program := "ytkginabioolmiaa", sum := "46d7c73e3c5b5fcfcb00eab5776fcc8f8bef59c4b233d8afc5a59e4f601a38e4", func := "weftline/weftlinelaw18.GapsFresh", spec := "gapsFresh", inPlace := ["slices.overlaps[uint32]"], unfollowed := true, recurses := true, apart := false }
def GapsFreshSaid : Prop := gapsFreshRow.holds Try.pinned (OpenSpec.ofChange gapsFreshSpec)

/-- ITS FALSE NEIGHBOUR: 'it returns false'. Refute it at one input. -/
def gapsFreshWrong : ChangeSpec := { name := "gapsFresh", fn := fun _ => fun
  | [d1, d2, d3] => { results := [.lit (.bool false)], args := [d1, d2, d3] }
  | _ => none }
def GapsFreshWrongFalsely : Prop := gapsFreshRow.holds Try.pinned (OpenSpec.ofChange gapsFreshWrong)

/-- 'weftlinelaw18.GapsDups': WHATEVER THE INPUT: true; the input reads as it did. -/
def gapsDupsSpec : ChangeSpec := { name := "gapsDups", fn := fun _ => fun
  | [d1, d2] => { results := [.lit (.bool true)], args := [d1, d2] }
  | _ => none }
def gapsDupsRow : OpenClaim := { program := "ytkginabioolmiaa", sum := "46d7c73e3c5b5fcfcb00eab5776fcc8f8bef59c4b233d8afc5a59e4f601a38e4", func := "weftline/weftlinelaw18.GapsDups", spec := "gapsDups", inPlace := ["slices.overlaps[uint32]"], unfollowed := true, recurses := true, apart := false }
def GapsDupsSaid : Prop := gapsDupsRow.holds Try.pinned (OpenSpec.ofChange gapsDupsSpec)

/-- ITS FALSE NEIGHBOUR: 'it returns false'. Refute it at one input. -/
def gapsDupsWrong : ChangeSpec := { name := "gapsDups", fn := fun _ => fun
  | [d1, d2] => { results := [.lit (.bool false)], args := [d1, d2] }
  | _ => none }
def GapsDupsWrongFalsely : Prop := gapsDupsRow.holds Try.pinned (OpenSpec.ofChange gapsDupsWrong)

/-- 'weftlinelaw18.GapsCover': WHATEVER THE INPUT: true; the input reads as it did. -/
def gapsCoverSpec : ChangeSpec := { name := "gapsCover", fn := fun _ => fun
  | [d1, d2] => { results := [.lit (.bool true)], args := [d1, d2] }
  | _ => none }
def gapsCoverRow : OpenClaim := { program := "ytkginabioolmiaa", sum := "46d7c73e3c5b5fcfcb00eab5776fcc8f8bef59c4b233d8afc5a59e4f601a38e4", func := "weftline/weftlinelaw18.GapsCover", spec := "gapsCover", inPlace := ["slices.overlaps[uint32]"], unfollowed := true, recurses := true, apart := false }
def GapsCoverSaid : Prop := gapsCoverRow.holds Try.pinned (OpenSpec.ofChange gapsCoverSpec)

/-- ITS FALSE NEIGHBOUR: 'it returns false'. Refute it at one input. -/
def gapsCoverWrong : ChangeSpec := { name := "gapsCover", fn := fun _ => fun
  | [d1, d2] => { results := [.lit (.bool false)], args := [d1, d2] }
  | _ => none }
def GapsCoverWrongFalsely : Prop := gapsCoverRow.holds Try.pinned (OpenSpec.ofChange gapsCoverWrong)

/-- 'weftlinelaw18.GapsLoads': WHATEVER THE INPUT: true; the input reads as it did. -/
def gapsLoadsSpec : ChangeSpec := { name := "gapsLoads", fn := fun _ => fun
  | [d1, d2, d3] => { results := [.lit (.bool true)], args := [d1, d2, d3] }
  | _ => none }
def gapsLoadsRow : OpenClaim := { program := "ytkginabioolmiaa", sum := "46d7c73e3c5b5fcfcb00eab5776fcc8f8bef59c4b233d8afc5a59e4f601a38e4", func := "weftline/weftlinelaw18.GapsLoads", spec := "gapsLoads", inPlace := ["slices.overlaps[uint32]"], unfollowed := true, recurses := true, apart := false }
def GapsLoadsSaid : Prop := gapsLoadsRow.holds Try.pinned (OpenSpec.ofChange gapsLoadsSpec)

/-- ITS FALSE NEIGHBOUR: 'it returns false'. Refute it at one input. -/
def gapsLoadsWrong : ChangeSpec := { name := "gapsLoads", fn := fun _ => fun
  | [d1, d2, d3] => { results := [.lit (.bool false)], args := [d1, d2, d3] }
  | _ => none }
def GapsLoadsWrongFalsely : Prop := gapsLoadsRow.holds Try.pinned (OpenSpec.ofChange gapsLoadsWrong)

/-- 'weftlinelaw17.OutqCopies': WHATEVER THE INPUT: true; the input reads as it did. -/
def outqCopiesSpec : ChangeSpec := { name := "outqCopies", fn := fun _ => fun
  | [d1, d2, d3] => { results := [.lit (.bool true)], args := [d1, d2, d3] }
  | _ => none }
def outqCopiesRow : OpenClaim := { program := "ytkginabioolmiaa", sum := "46d7c73e3c5b5fcfcb00eab5776fcc8f8bef59c4b233d8afc5a59e4f601a38e4", func := "weftline/weftlinelaw17.OutqCopies", spec := "outqCopies", unfollowed := true, recurses := true, apart := false }
def OutqCopiesSaid : Prop := outqCopiesRow.holds Try.pinned (OpenSpec.ofChange outqCopiesSpec)

/-- ITS FALSE NEIGHBOUR: 'it returns false'. Refute it at one input. -/
def outqCopiesWrong : ChangeSpec := { name := "outqCopies", fn := fun _ => fun
  | [d1, d2, d3] => { results := [.lit (.bool false)], args := [d1, d2, d3] }
  | _ => none }
def OutqCopiesWrongFalsely : Prop := outqCopiesRow.holds Try.pinned (OpenSpec.ofChange outqCopiesWrong)

/- THE SECOND FORM. 'bulk': how many values and letters a reading holds, each counted each time it is reached (what is shared counts as often as it is met; a slice's spare places count too). A statement '..UptoSaid' is the law's where the arguments, and the package variables that the reading takes, are together of bulk at most 1048576: NARROWER than '..Said'. Prove '..Said' where nothing that the law and all that it calls make is longer than what came in: it says more and counts as full. Else prove '..UptoSaid'. A law counts once. -/
mutual
def uptoBulk {H : Type} : DataW H → Nat
  | .lit (.string bytes) => bytes.length + 1
  | .lit _ => 1
  | .nil => 1
  | .ptr d => uptoBulk d + 1
  | .slice elems spare => uptoBulkAll elems + uptoBulkAll spare + 1
  | .agg parts => uptoBulkAll parts + 1
  | .iface _ d => uptoBulk d + 1
  | .map entries => uptoBulkEntries entries + 1
  | .held _ => 1
def uptoBulkAll {H : Type} : List (DataW H) → Nat
  | [] => 0
  | d :: r => uptoBulk d + uptoBulkAll r
def uptoBulkEntries {H : Type} : List (Lit × DataW H) → Nat
  | [] => 0
  | x :: r => uptoBulkEntry x + uptoBulkEntries r
def uptoBulkEntry {H : Type} : Lit × DataW H → Nat
  | (.string bytes, d) => bytes.length + uptoBulk d + 1
  | (_, d) => uptoBulk d + 1
 end
def uptoSmall : (H : Type) → List (DataW H) → Bool := fun _ ds => decide (uptoBulkAll ds ≤ 1048576)
def OpenSpec.upto (s : _root_.Go.ChangeSpec) : _root_.Go.OpenSpec := { _root_.Go.OpenSpec.ofChange s with cond := some uptoSmall }

/-- 'weftlinelaw18.GapsFresh', WHERE WHAT IT READS IS OF BULK AT MOST 1048576: true; the input reads as it did. -/
def gapsFreshUptoRow : OpenClaim := { program := "ytkginabioolmiaa", sum := "46d7c73e3c5b5fcfcb00eab5776fcc8f8bef59c4b233d8afc5a59e4f601a38e4", func := "weftline/weftlinelaw18.GapsFresh", spec := "gapsFresh", inPlace := ["slices.overlaps[uint32]"], unfollowed := true, recurses := true, apart := false, narrowed := true }
def GapsFreshUptoSaid : Prop := gapsFreshUptoRow.holds Try.pinned (OpenSpec.upto gapsFreshSpec)

/-- 'weftlinelaw18.GapsDups', WHERE WHAT IT READS IS OF BULK AT MOST 1048576: true; the input reads as it did. -/
def gapsDupsUptoRow : OpenClaim := { program := "ytkginabioolmiaa", sum := "46d7c73e3c5b5fcfcb00eab5776fcc8f8bef59c4b233d8afc5a59e4f601a38e4", func := "weftline/weftlinelaw18.GapsDups", spec := "gapsDups", inPlace := ["slices.overlaps[uint32]"], unfollowed := true, recurses := true, apart := false, narrowed := true }
def GapsDupsUptoSaid : Prop := gapsDupsUptoRow.holds Try.pinned (OpenSpec.upto gapsDupsSpec)

/-- 'weftlinelaw18.GapsCover', WHERE WHAT IT READS IS OF BULK AT MOST 1048576: true; the input reads as it did. -/
def gapsCoverUptoRow : OpenClaim := { program := "ytkginabioolmiaa", sum := "46d7c73e3c5b5fcfcb00eab5776fcc8f8bef59c4b233d8afc5a59e4f601a38e4", func := "weftline/weftlinelaw18.GapsCover", spec := "gapsCover", inPlace := ["slices.overlaps[uint32]"], unfollowed := true, recurses := true, apart := false, narrowed := true }
def GapsCoverUptoSaid : Prop := gapsCoverUptoRow.holds Try.pinned (OpenSpec.upto gapsCoverSpec)

/-- 'weftlinelaw18.GapsLoads', WHERE WHAT IT READS IS OF BULK AT MOST 1048576: true; the input reads as it did. -/
def gapsLoadsUptoRow : OpenClaim := { program := "ytkginabioolmiaa", sum := "46d7c73e3c5b5fcfcb00eab5776fcc8f8bef59c4b233d8afc5a59e4f601a38e4", func := "weftline/weftlinelaw18.GapsLoads", spec := "gapsLoads", inPlace := ["slices.overlaps[uint32]"], unfollowed := true, recurses := true, apart := false, narrowed := true }
def GapsLoadsUptoSaid : Prop := gapsLoadsUptoRow.holds Try.pinned (OpenSpec.upto gapsLoadsSpec)

/-- 'weftlinelaw17.OutqCopies', WHERE WHAT IT READS IS OF BULK AT MOST 1048576: true; the input reads as it did. -/
def outqCopiesUptoRow : OpenClaim := { program := "ytkginabioolmiaa", sum := "46d7c73e3c5b5fcfcb00eab5776fcc8f8bef59c4b233d8afc5a59e4f601a38e4", func := "weftline/weftlinelaw17.OutqCopies", spec := "outqCopies", unfollowed := true, recurses := true, apart := false, narrowed := true }
def OutqCopiesUptoSaid : Prop := outqCopiesUptoRow.holds Try.pinned (OpenSpec.upto outqCopiesSpec)

end Rows
end Go.Proofs.Ytkginabioolmiaa
