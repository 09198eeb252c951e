/-
  No cell of these rows narrows 'for every input' (looked for: loops, veiled, ifaces, maps, wideKeys, modest, calm, conditions, laid).
  DERIVED. THE GIVEN ROWS OF THIS SEAT. 8 by the template 'for every input the law returns true; each argument reads behind the call as it read before'; 0 by the template 'total and deterministic' (their statements: YtblooffiggciiaaTotals.lean).
  GIVEN WITH THE SEED: the statements are not yours to turn. If you find one false, say at which input.
  Laid BY PROGRAM, IN A SANDBOX (cutbox-rows.mjs): the forced cells as the released guide's own fill.sh prints them over the translation 83234e44e7de0a15… (all of the seat's roots in one cut). By AI agents, Wed Nov 11 2026. No macro, syntax, notation, axiom, sorry.
-/
import Derived.Test.YtblooffiggciiaaChecked
import GoSem.Claim
import GoSem.ClaimJoined
import GoSem.ClaimMapViews
import Derived.JoinedTies
import Derived.KernelRfl
namespace Go.Proofs.Ytblooffiggciiaa
/- THE CELL 'sum', in the pinned program and in every row, IS THE sha256 OF THE DUMP (.gsa) THAT YtblooffiggciiaaProg.lean LOADS. Nothing in Lean hashes anything: it is a label: what it is worth is what the hold of that sum in a sandbox is worth. -/
noncomputable def Try.pinned : Pinned := { name := "ytblooffiggciiaa", sum := "83234e44e7de0a15322faffae069e5d2a0414fdeb36ae1c8a6a24609caf4af53", checked := Try.checked }
namespace Rows
def none {H : Type} : Left H := { results := [], args := [] }

/-- 'weftlinelaw13.PathFails': WHATEVER THE INPUT: true; the input reads as it did. -/
def pathFailsSpec : ChangeSpec := { name := "pathFails", fn := fun _ => fun
  | [d1, d2] => { results := [.lit (.bool true)], args := [d1, d2] }
  | _ => none }
def pathFailsRow : OpenClaim := { program := "ytblooffiggciiaa", sum := "83234e44e7de0a15322faffae069e5d2a0414fdeb36ae1c8a6a24609caf4af53", func := "weftline/weftlinelaw13.PathFails", spec := "pathFails", apart := false }
def PathFailsSaid : Prop := pathFailsRow.holds Try.pinned (OpenSpec.ofChange pathFailsSpec)

/-- ITS FALSE NEIGHBOUR: 'it returns false'. Refute it at one input. -/
def pathFailsWrong : ChangeSpec := { name := "pathFails", fn := fun _ => fun
  | [d1, d2] => { results := [.lit (.bool false)], args := [d1, d2] }
  | _ => none }
def PathFailsWrongFalsely : Prop := pathFailsRow.holds Try.pinned (OpenSpec.ofChange pathFailsWrong)

/-- 'weftlinelaw13.PathBeats': WHATEVER THE INPUT: true; the input reads as it did. -/
def pathBeatsSpec : ChangeSpec := { name := "pathBeats", fn := fun _ => fun
  | [d1, d2, d3] => { results := [.lit (.bool true)], args := [d1, d2, d3] }
  | _ => none }
def pathBeatsRow : OpenClaim := { program := "ytblooffiggciiaa", sum := "83234e44e7de0a15322faffae069e5d2a0414fdeb36ae1c8a6a24609caf4af53", func := "weftline/weftlinelaw13.PathBeats", spec := "pathBeats", apart := false }
def PathBeatsSaid : Prop := pathBeatsRow.holds Try.pinned (OpenSpec.ofChange pathBeatsSpec)

/-- ITS FALSE NEIGHBOUR: 'it returns false'. Refute it at one input. -/
def pathBeatsWrong : ChangeSpec := { name := "pathBeats", fn := fun _ => fun
  | [d1, d2, d3] => { results := [.lit (.bool false)], args := [d1, d2, d3] }
  | _ => none }
def PathBeatsWrongFalsely : Prop := pathBeatsRow.holds Try.pinned (OpenSpec.ofChange pathBeatsWrong)

/-- 'weftlinelaw13.PathKeeps': WHATEVER THE INPUT: true; the input reads as it did. -/
def pathKeepsSpec : ChangeSpec := { name := "pathKeeps", fn := fun _ => fun
  | [d1, d2] => { results := [.lit (.bool true)], args := [d1, d2] }
  | _ => none }
def pathKeepsRow : OpenClaim := { program := "ytblooffiggciiaa", sum := "83234e44e7de0a15322faffae069e5d2a0414fdeb36ae1c8a6a24609caf4af53", func := "weftline/weftlinelaw13.PathKeeps", spec := "pathKeeps", apart := false }
def PathKeepsSaid : Prop := pathKeepsRow.holds Try.pinned (OpenSpec.ofChange pathKeepsSpec)

/-- ITS FALSE NEIGHBOUR: 'it returns false'. Refute it at one input. -/
def pathKeepsWrong : ChangeSpec := { name := "pathKeeps", fn := fun _ => fun
  | [d1, d2] => { results := [.lit (.bool false)], args := [d1, d2] }
  | _ => none }
def PathKeepsWrongFalsely : Prop := pathKeepsRow.holds Try.pinned (OpenSpec.ofChange pathKeepsWrong)

/-- 'weftlinelaw13.PathRound': WHATEVER THE INPUT: true; the input reads as it did. -/
def pathRoundSpec : ChangeSpec := { name := "pathRound", fn := fun _ => fun
  | [d] => { results := [.lit (.bool true)], args := [d] }
  | _ => none }
def pathRoundRow : OpenClaim := { program := "ytblooffiggciiaa", sum := "83234e44e7de0a15322faffae069e5d2a0414fdeb36ae1c8a6a24609caf4af53", func := "weftline/weftlinelaw13.PathRound", spec := "pathRound", apart := false }
def PathRoundSaid : Prop := pathRoundRow.holds Try.pinned (OpenSpec.ofChange pathRoundSpec)

/-- ITS FALSE NEIGHBOUR: 'it returns false'. Refute it at one input. -/
def pathRoundWrong : ChangeSpec := { name := "pathRound", fn := fun _ => fun
  | [d] => { results := [.lit (.bool false)], args := [d] }
  | _ => none }
def PathRoundWrongFalsely : Prop := pathRoundRow.holds Try.pinned (OpenSpec.ofChange pathRoundWrong)

/-- 'weftlinelaw14.PathsPuts': WHATEVER THE INPUT: true; the input reads as it did. -/
def pathsPutsSpec : ChangeSpec := { name := "pathsPuts", fn := fun _ => fun
  | [d1, d2, d3] => { results := [.lit (.bool true)], args := [d1, d2, d3] }
  | _ => none }
def pathsPutsRow : OpenClaim := { program := "ytblooffiggciiaa", sum := "83234e44e7de0a15322faffae069e5d2a0414fdeb36ae1c8a6a24609caf4af53", func := "weftline/weftlinelaw14.PathsPuts", spec := "pathsPuts", unfollowed := true, recurses := true, apart := false }
def PathsPutsSaid : Prop := pathsPutsRow.holds Try.pinned (OpenSpec.ofChange pathsPutsSpec)

/-- ITS FALSE NEIGHBOUR: 'it returns false'. Refute it at one input. -/
def pathsPutsWrong : ChangeSpec := { name := "pathsPuts", fn := fun _ => fun
  | [d1, d2, d3] => { results := [.lit (.bool false)], args := [d1, d2, d3] }
  | _ => none }
def PathsPutsWrongFalsely : Prop := pathsPutsRow.holds Try.pinned (OpenSpec.ofChange pathsPutsWrong)

/-- 'weftlinelaw14.PathsUse': WHATEVER THE INPUT: true; the input reads as it did. -/
def pathsUseSpec : ChangeSpec := { name := "pathsUse", fn := fun _ => fun
  | [d1, d2] => { results := [.lit (.bool true)], args := [d1, d2] }
  | _ => none }
def pathsUseRow : OpenClaim := { program := "ytblooffiggciiaa", sum := "83234e44e7de0a15322faffae069e5d2a0414fdeb36ae1c8a6a24609caf4af53", func := "weftline/weftlinelaw14.PathsUse", spec := "pathsUse", unfollowed := true, recurses := true, apart := false }
def PathsUseSaid : Prop := pathsUseRow.holds Try.pinned (OpenSpec.ofChange pathsUseSpec)

/-- ITS FALSE NEIGHBOUR: 'it returns false'. Refute it at one input. -/
def pathsUseWrong : ChangeSpec := { name := "pathsUse", fn := fun _ => fun
  | [d1, d2] => { results := [.lit (.bool false)], args := [d1, d2] }
  | _ => none }
def PathsUseWrongFalsely : Prop := pathsUseRow.holds Try.pinned (OpenSpec.ofChange pathsUseWrong)

/-- 'weftlinelaw14.PathsChange': WHATEVER THE INPUT: true; the input reads as it did. -/
def pathsChangeSpec : ChangeSpec := { name := "pathsChange", fn := fun _ => fun
  | [d1, d2, d3] => { results := [.lit (.bool true)], args := [d1, d2, d3] }
  | _ => none }
def pathsChangeRow : OpenClaim := { program := "ytblooffiggciiaa", sum := "83234e44e7de0a15322faffae069e5d2a0414fdeb36ae1c8a6a24609caf4af53", func := "weftline/weftlinelaw14.PathsChange", spec := "pathsChange", unfollowed := true, recurses := true, apart := false }
def PathsChangeSaid : Prop := pathsChangeRow.holds Try.pinned (OpenSpec.ofChange pathsChangeSpec)

/-- ITS FALSE NEIGHBOUR: 'it returns false'. Refute it at one input. -/
def pathsChangeWrong : ChangeSpec := { name := "pathsChange", fn := fun _ => fun
  | [d1, d2, d3] => { results := [.lit (.bool false)], args := [d1, d2, d3] }
  | _ => none }
def PathsChangeWrongFalsely : Prop := pathsChangeRow.holds Try.pinned (OpenSpec.ofChange pathsChangeWrong)

/-- 'weftlinelaw14.PathsKeep': WHATEVER THE INPUT: true; the input reads as it did. -/
def pathsKeepSpec : ChangeSpec := { name := "pathsKeep", fn := fun _ => fun
  | [d1, d2] => { results := [.lit (.bool true)], args := [d1, d2] }
  | _ => none }
def pathsKeepRow : OpenClaim := { program := "ytblooffiggciiaa", sum := "83234e44e7de0a15322faffae069e5d2a0414fdeb36ae1c8a6a24609caf4af53", func := "weftline/weftlinelaw14.PathsKeep", spec := "pathsKeep", unfollowed := true, recurses := true, apart := false }
def PathsKeepSaid : Prop := pathsKeepRow.holds Try.pinned (OpenSpec.ofChange pathsKeepSpec)

/-- ITS FALSE NEIGHBOUR: 'it returns false'. Refute it at one input. -/
def pathsKeepWrong : ChangeSpec := { name := "pathsKeep", fn := fun _ => fun
  | [d1, d2] => { results := [.lit (.bool false)], args := [d1, d2] }
  | _ => none }
def PathsKeepWrongFalsely : Prop := pathsKeepRow.holds Try.pinned (OpenSpec.ofChange pathsKeepWrong)

/- THE SECOND FORM. 'bulk': how many values and letters a reading holds, each counted each time it is reached (what is shared counts as often as it is met; a slice's spare places count too). A statement '..UptoSaid' is the law's where the arguments, and the package variables that the reading takes, are together of bulk at most 1048576: NARROWER than '..Said'. Prove '..Said' where nothing that the law and all that it calls make is longer than what came in: it says more and counts as full. Else prove '..UptoSaid'. A law counts once. -/
mutual
def uptoBulk {H : Type} : DataW H → Nat
  | .lit (.string bytes) => bytes.length + 1
  | .lit _ => 1
  | .nil => 1
  | .ptr d => uptoBulk d + 1
  | .slice elems spare => uptoBulkAll elems + uptoBulkAll spare + 1
  | .agg parts => uptoBulkAll parts + 1
  | .iface _ d => uptoBulk d + 1
  | .map entries => uptoBulkEntries entries + 1
  | .held _ => 1
def uptoBulkAll {H : Type} : List (DataW H) → Nat
  | [] => 0
  | d :: r => uptoBulk d + uptoBulkAll r
def uptoBulkEntries {H : Type} : List (Lit × DataW H) → Nat
  | [] => 0
  | x :: r => uptoBulkEntry x + uptoBulkEntries r
def uptoBulkEntry {H : Type} : Lit × DataW H → Nat
  | (.string bytes, d) => bytes.length + uptoBulk d + 1
  | (_, d) => uptoBulk d + 1
 end
def uptoSmall : (H : Type) → List (DataW H) → Bool := fun _ ds => decide (uptoBulkAll ds ≤ 1048576)
def OpenSpec.upto (s : _root_.Go.ChangeSpec) : _root_.Go.OpenSpec := { _root_.Go.OpenSpec.ofChange s with cond := some uptoSmall }

/-- 'weftlinelaw13.PathFails', WHERE WHAT IT READS IS OF BULK AT MOST 1048576: true; the input reads as it did. -/
def pathFailsUptoRow : OpenClaim := { program := "ytblooffiggciiaa", sum := "83234e44e7de0a15322faffae069e5d2a0414fdeb36ae1c8a6a24609caf4af53", func := "weftline/weftlinelaw13.PathFails", spec := "pathFails", apart := false, narrowed := true }
def PathFailsUptoSaid : Prop := pathFailsUptoRow.holds Try.pinned (OpenSpec.upto pathFailsSpec)

/-- 'weftlinelaw13.PathBeats', WHERE WHAT IT READS IS OF BULK AT MOST 1048576: true; the input reads as it did. -/
def pathBeatsUptoRow : OpenClaim := { program := "ytblooffiggciiaa", sum := "83234e44e7de0a15322faffae069e5d2a0414fdeb36ae1c8a6a24609caf4af53", func := "weftline/weftlinelaw13.PathBeats", spec := "pathBeats", apart := false, narrowed := true }
def PathBeatsUptoSaid : Prop := pathBeatsUptoRow.holds Try.pinned (OpenSpec.upto pathBeatsSpec)

/-- 'weftlinelaw13.PathKeeps', WHERE WHAT IT READS IS OF BULK AT MOST 1048576: true; the input reads as it did. -/
def pathKeepsUptoRow : OpenClaim := { program := "ytblooffiggciiaa", sum := "83234e44e7de0a15322faffae069e5d2a0414fdeb36ae1c8a6a24609caf4af53", func := "weftline/weftlinelaw13.PathKeeps", spec := "pathKeeps", apart := false, narrowed := true }
def PathKeepsUptoSaid : Prop := pathKeepsUptoRow.holds Try.pinned (OpenSpec.upto pathKeepsSpec)

/-- 'weftlinelaw13.PathRound', WHERE WHAT IT READS IS OF BULK AT MOST 1048576: true; the input reads as it did. -/
def pathRoundUptoRow : OpenClaim := { program := "ytblooffiggciiaa", sum := "83234e44e7de0a15322faffae069e5d2a0414fdeb36ae1c8a6a24609caf4af53", func := "weftline/weftlinelaw13.PathRound", spec := "pathRound", apart := false, narrowed := true }
def PathRoundUptoSaid : Prop := pathRoundUptoRow.holds Try.pinned (OpenSpec.upto pathRoundSpec)

/-- 'weftlinelaw14.PathsPuts', WHERE WHAT IT READS IS OF BULK AT MOST 1048576: true; the input reads as it did. -/
def pathsPutsUptoRow : OpenClaim := { program := "ytblooffiggciiaa", sum := "83234e44e7de0a15322faffae069e5d2a0414fdeb36ae1c8a6a24609caf4af53", func := "weftline/weftlinelaw14.PathsPuts", spec := "pathsPuts", unfollowed := true, recurses := true, apart := false, narrowed := true }
def PathsPutsUptoSaid : Prop := pathsPutsUptoRow.holds Try.pinned (OpenSpec.upto pathsPutsSpec)

/-- 'weftlinelaw14.PathsUse', WHERE WHAT IT READS IS OF BULK AT MOST 1048576: true; the input reads as it did. -/
def pathsUseUptoRow : OpenClaim := { program := "ytblooffiggciiaa", sum := "83234e44e7de0a15322faffae069e5d2a0414fdeb36ae1c8a6a24609caf4af53", func := "weftline/weftlinelaw14.PathsUse", spec := "pathsUse", unfollowed := true, recurses := true, apart := false, narrowed := true }
def PathsUseUptoSaid : Prop := pathsUseUptoRow.holds Try.pinned (OpenSpec.upto pathsUseSpec)

/-- 'weftlinelaw14.PathsChange', WHERE WHAT IT READS IS OF BULK AT MOST 1048576: true; the input reads as it did. -/
def pathsChangeUptoRow : OpenClaim := { program := "ytblooffiggciiaa", sum := "83234e44e7de0a15322faffae069e5d2a0414fdeb36ae1c8a6a24609caf4af53", func := "weftline/weftlinelaw14.PathsChange", spec := "pathsChange", unfollowed := true, recurses := true, apart := false, narrowed := true }
def PathsChangeUptoSaid : Prop := pathsChangeUptoRow.holds Try.pinned (OpenSpec.upto pathsChangeSpec)

/-- 'weftlinelaw14.PathsKeep', WHERE WHAT IT READS IS OF BULK AT MOST 1048576: true; the input reads as it did. -/
def pathsKeepUptoRow : OpenClaim := { program := "ytblooffiggciiaa", sum := "83234e44e7de0a15322faffae069e5d2a0414fdeb36ae1c8a6a24609caf4af53", func := "weftline/weftlinelaw14.PathsKeep", spec := "pathsKeep", unfollowed := true, recurses := true, apart := false, narrowed := true }
def PathsKeepUptoSaid : Prop := pathsKeepUptoRow.holds Try.pinned (OpenSpec.upto pathsKeepSpec)

end Rows
end Go.Proofs.Ytblooffiggciiaa
