/-
  No cell of these rows narrows 'for every input' (looked for: loops, veiled, ifaces, maps, wideKeys, modest, calm, conditions, laid).
  DERIVED. THE GIVEN ROWS OF THIS SEAT. 5 by the template 'for every input the law returns true; each argument reads behind the call as it read before'; 0 by the template 'total and deterministic' (their statements: YthflkloghbhhgaaTotals.lean).
  GIVEN WITH THE SEED: the statements are not yours to turn. If you find one false, say at which input.
  Laid BY PROGRAM, IN A SANDBOX (cutbox-rows.mjs): the forced cells as the released guide's own fill.sh prints them over the translation 93d823336843bb51… (all of the seat's roots in one cut). By AI agents, Wed Nov 11 2026. No macro, syntax, notation, axiom, sorry.
-/
import Derived.Test.YthflkloghbhhgaaChecked
import GoSem.Claim
import GoSem.ClaimJoined
import GoSem.ClaimMapViews
import Derived.JoinedTies
import Derived.KernelRfl
namespace Go.Proofs.Ythflkloghbhhgaa
/- THE CELL 'sum', in the pinned program and in every row, IS THE sha256 OF THE DUMP (.gsa) THAT YthflkloghbhhgaaProg.lean LOADS. Nothing in Lean hashes anything: it is a label: what it is worth is what the hold of that sum in a sandbox is worth. -/
noncomputable def Try.pinned : Pinned := { name := "ythflkloghbhhgaa", sum := "93d823336843bb51f3f4b02e7ceb14274b992ca15a47ebc078ae0e4ab75f0cb7", checked := Try.checked }
namespace Rows
def none {H : Type} : Left H := { results := [], args := [] }

/-- 'weftlinelaw03.RowSets': WHATEVER THE INPUT: true; the input reads as it did. -/
def rowSetsSpec : ChangeSpec := { name := "rowSets", fn := fun _ => fun
  | [d1, d2, d3] => { results := [.lit (.bool true)], args := [d1, d2, d3] }
  | _ => none }
def rowSetsRow : OpenClaim := { program := "ythflkloghbhhgaa", sum := "93d823336843bb51f3f4b02e7ceb14274b992ca15a47ebc078ae0e4ab75f0cb7", func := "weftline/weftlinelaw03.RowSets", spec := "rowSets", apart := false }
def RowSetsSaid : Prop := rowSetsRow.holds Try.pinned (OpenSpec.ofChange rowSetsSpec)

/-- ITS FALSE NEIGHBOUR: 'it returns false'. Refute it at one input. -/
def rowSetsWrong : ChangeSpec := { name := "rowSets", fn := fun _ => fun
  | [d1, d2, d3] => { results := [.lit (.bool false)], args := [d1, d2, d3] }
  | _ => none }
def RowSetsWrongFalsely : Prop := rowSetsRow.holds Try.pinned (OpenSpec.ofChange rowSetsWrong)

/-- 'weftlinelaw03.RowOrders': WHATEVER THE INPUT: true; the input reads as it did. -/
def rowOrdersSpec : ChangeSpec := { name := "rowOrders", fn := fun _ => fun
  | [d1, d2, d3] => { results := [.lit (.bool true)], args := [d1, d2, d3] }
  | _ => none }
def rowOrdersRow : OpenClaim := { program := "ythflkloghbhhgaa", sum := "93d823336843bb51f3f4b02e7ceb14274b992ca15a47ebc078ae0e4ab75f0cb7", func := "weftline/weftlinelaw03.RowOrders", spec := "rowOrders", apart := false }
def RowOrdersSaid : Prop := rowOrdersRow.holds Try.pinned (OpenSpec.ofChange rowOrdersSpec)

/-- ITS FALSE NEIGHBOUR: 'it returns false'. Refute it at one input. -/
def rowOrdersWrong : ChangeSpec := { name := "rowOrders", fn := fun _ => fun
  | [d1, d2, d3] => { results := [.lit (.bool false)], args := [d1, d2, d3] }
  | _ => none }
def RowOrdersWrongFalsely : Prop := rowOrdersRow.holds Try.pinned (OpenSpec.ofChange rowOrdersWrong)

/-- 'weftlinelaw03.RowCuts': WHATEVER THE INPUT: true; the input reads as it did. -/
def rowCutsSpec : ChangeSpec := { name := "rowCuts", fn := fun _ => fun
  | [d1, d2, d3] => { results := [.lit (.bool true)], args := [d1, d2, d3] }
  | _ => none }
def rowCutsRow : OpenClaim := { program := "ythflkloghbhhgaa", sum := "93d823336843bb51f3f4b02e7ceb14274b992ca15a47ebc078ae0e4ab75f0cb7", func := "weftline/weftlinelaw03.RowCuts", spec := "rowCuts", apart := false }
def RowCutsSaid : Prop := rowCutsRow.holds Try.pinned (OpenSpec.ofChange rowCutsSpec)

/-- ITS FALSE NEIGHBOUR: 'it returns false'. Refute it at one input. -/
def rowCutsWrong : ChangeSpec := { name := "rowCuts", fn := fun _ => fun
  | [d1, d2, d3] => { results := [.lit (.bool false)], args := [d1, d2, d3] }
  | _ => none }
def RowCutsWrongFalsely : Prop := rowCutsRow.holds Try.pinned (OpenSpec.ofChange rowCutsWrong)

/-- 'weftlinelaw03.RowPlays': WHATEVER THE INPUT: true; the input reads as it did. -/
def rowPlaysSpec : ChangeSpec := { name := "rowPlays", fn := fun _ => fun
  | [d1, d2] => { results := [.lit (.bool true)], args := [d1, d2] }
  | _ => none }
def rowPlaysRow : OpenClaim := { program := "ythflkloghbhhgaa", sum := "93d823336843bb51f3f4b02e7ceb14274b992ca15a47ebc078ae0e4ab75f0cb7", func := "weftline/weftlinelaw03.RowPlays", spec := "rowPlays", unfollowed := true, recurses := true, apart := false }
def RowPlaysSaid : Prop := rowPlaysRow.holds Try.pinned (OpenSpec.ofChange rowPlaysSpec)

/-- ITS FALSE NEIGHBOUR: 'it returns false'. Refute it at one input. -/
def rowPlaysWrong : ChangeSpec := { name := "rowPlays", fn := fun _ => fun
  | [d1, d2] => { results := [.lit (.bool false)], args := [d1, d2] }
  | _ => none }
def RowPlaysWrongFalsely : Prop := rowPlaysRow.holds Try.pinned (OpenSpec.ofChange rowPlaysWrong)

/-- 'weftlinelaw03.RowCopies': WHATEVER THE INPUT: true; the input reads as it did. -/
def rowCopiesSpec : ChangeSpec := { name := "rowCopies", fn := fun _ => fun
  | [d1, d2, d3] => { results := [.lit (.bool true)], args := [d1, d2, d3] }
  | _ => none }
def rowCopiesRow : OpenClaim := { program := "ythflkloghbhhgaa", sum := "93d823336843bb51f3f4b02e7ceb14274b992ca15a47ebc078ae0e4ab75f0cb7", func := "weftline/weftlinelaw03.RowCopies", spec := "rowCopies", unfollowed := true, recurses := true, apart := false }
def RowCopiesSaid : Prop := rowCopiesRow.holds Try.pinned (OpenSpec.ofChange rowCopiesSpec)

/-- ITS FALSE NEIGHBOUR: 'it returns false'. Refute it at one input. -/
def rowCopiesWrong : ChangeSpec := { name := "rowCopies", fn := fun _ => fun
  | [d1, d2, d3] => { results := [.lit (.bool false)], args := [d1, d2, d3] }
  | _ => none }
def RowCopiesWrongFalsely : Prop := rowCopiesRow.holds Try.pinned (OpenSpec.ofChange rowCopiesWrong)

/- THE SECOND FORM. 'bulk': how many values and letters a reading holds, each counted each time it is reached (what is shared counts as often as it is met; a slice's spare places count too). A statement '..UptoSaid' is the law's where the arguments, and the package variables that the reading takes, are together of bulk at most 1048576: NARROWER than '..Said'. Prove '..Said' where nothing that the law and all that it calls make is longer than what came in: it says more and counts as full. Else prove '..UptoSaid'. A law counts once. -/
mutual
def uptoBulk {H : Type} : DataW H → Nat
  | .lit (.string bytes) => bytes.length + 1
  | .lit _ => 1
  | .nil => 1
  | .ptr d => uptoBulk d + 1
  | .slice elems spare => uptoBulkAll elems + uptoBulkAll spare + 1
  | .agg parts => uptoBulkAll parts + 1
  | .iface _ d => uptoBulk d + 1
  | .map entries => uptoBulkEntries entries + 1
  | .held _ => 1
def uptoBulkAll {H : Type} : List (DataW H) → Nat
  | [] => 0
  | d :: r => uptoBulk d + uptoBulkAll r
def uptoBulkEntries {H : Type} : List (Lit × DataW H) → Nat
  | [] => 0
  | x :: r => uptoBulkEntry x + uptoBulkEntries r
def uptoBulkEntry {H : Type} : Lit × DataW H → Nat
  | (.string bytes, d) => bytes.length + uptoBulk d + 1
  | (_, d) => uptoBulk d + 1
 end
def uptoSmall : (H : Type) → List (DataW H) → Bool := fun _ ds => decide (uptoBulkAll ds ≤ 1048576)
def OpenSpec.upto (s : _root_.Go.ChangeSpec) : _root_.Go.OpenSpec := { _root_.Go.OpenSpec.ofChange s with cond := some uptoSmall }

/-- 'weftlinelaw03.RowSets', WHERE WHAT IT READS IS OF BULK AT MOST 1048576: true; the input reads as it did. -/
def rowSetsUptoRow : OpenClaim := { program := "ythflkloghbhhgaa", sum := "93d823336843bb51f3f4b02e7ceb14274b992ca15a47ebc078ae0e4ab75f0cb7", func := "weftline/weftlinelaw03.RowSets", spec := "rowSets", apart := false, narrowed := true }
def RowSetsUptoSaid : Prop := rowSetsUptoRow.holds Try.pinned (OpenSpec.upto rowSetsSpec)

/-- 'weftlinelaw03.RowOrders', WHERE WHAT IT READS IS OF BULK AT MOST 1048576: true; the input reads as it did. -/
def rowOrdersUptoRow : OpenClaim := { program := "ythflkloghbhhgaa", sum := "93d823336843bb51f3f4b02e7ceb14274b992ca15a47ebc078ae0e4ab75f0cb7", func := "weftline/weftlinelaw03.RowOrders", spec := "rowOrders", apart := false, narrowed := true }
def RowOrdersUptoSaid : Prop := rowOrdersUptoRow.holds Try.pinned (OpenSpec.upto rowOrdersSpec)

/-- 'weftlinelaw03.RowCuts', WHERE WHAT IT READS IS OF BULK AT MOST 1048576: true; the input reads as it did. -/
def rowCutsUptoRow : OpenClaim := { program := "ythflkloghbhhgaa", sum := "93d823336843bb51f3f4b02e7ceb14274b992ca15a47ebc078ae0e4ab75f0cb7", func := "weftline/weftlinelaw03.RowCuts", spec := "rowCuts", apart := false, narrowed := true }
def RowCutsUptoSaid : Prop := rowCutsUptoRow.holds Try.pinned (OpenSpec.upto rowCutsSpec)

/-- 'weftlinelaw03.RowPlays', WHERE WHAT IT READS IS OF BULK AT MOST 1048576: true; the input reads as it did. -/
def rowPlaysUptoRow : OpenClaim := { program := "ythflkloghbhhgaa", sum := "93d823336843bb51f3f4b02e7ceb14274b992ca15a47ebc078ae0e4ab75f0cb7", func := "weftline/weftlinelaw03.RowPlays", spec := "rowPlays", unfollowed := true, recurses := true, apart := false, narrowed := true }
def RowPlaysUptoSaid : Prop := rowPlaysUptoRow.holds Try.pinned (OpenSpec.upto rowPlaysSpec)

/-- 'weftlinelaw03.RowCopies', WHERE WHAT IT READS IS OF BULK AT MOST 1048576: true; the input reads as it did. -/
def rowCopiesUptoRow : OpenClaim := { program := "ythflkloghbhhgaa", sum := "93d823336843bb51f3f4b02e7ceb14274b992ca15a47ebc078ae0e4ab75f0cb7", func := "weftline/weftlinelaw03.RowCopies", spec := "rowCopies", unfollowed := true, recurses := true, apart := false, narrowed := true }
def RowCopiesUptoSaid : Prop := rowCopiesUptoRow.holds Try.pinned (OpenSpec.upto rowCopiesSpec)

end Rows
end Go.Proofs.Ythflkloghbhhgaa
