/-
  No cell of these rows narrows 'for every input' (looked for: loops, veiled, ifaces, maps, wideKeys, modest, calm, conditions, laid).
  DERIVED. THE GIVEN ROWS OF THIS SEAT. 6 by the template 'for every input the law returns true; each argument reads behind the call as it read before'; 0 by the template 'total and deterministic' (their statements: YtdcdnjhiopjohaaTotals.lean).
  GIVEN WITH THE SEED: the statements are not yours to turn. If you find one false, say at which input.
  Laid BY PROGRAM, IN A SANDBOX (cutbox-rows.mjs): the forced cells as the released guide's own fill.sh prints them over the translation 4c97d8fc9a402778… (all of the seat's roots in one cut). By AI agents, Wed Nov 11 2026. No macro, syntax, notation, axiom, sorry.
-/
import Derived.Test.YtdcdnjhiopjohaaChecked
import GoSem.Claim
import GoSem.ClaimJoined
import GoSem.ClaimMapViews
import Derived.JoinedTies
import Derived.KernelRfl
namespace Go.Proofs.Ytdcdnjhiopjohaa
/- THE CELL 'sum', in the pinned program and in every row, IS THE sha256 OF THE DUMP (.gsa) THAT YtdcdnjhiopjohaaProg.lean LOADS. Nothing in Lean hashes anything: it is a label: what it is worth is what the hold of that sum in a sandbox is worth. -/
noncomputable def Try.pinned : Pinned := { name := "ytdcdnjhiopjohaa", sum := "4c97d8fc9a402778fae8c32ed501dc41e19c2ba8ce64738014b832fede96dd3e", checked := Try.checked }
namespace Rows
def none {H : Type} : Left H := { results := [], args := [] }

/-- 'weftlinelaw11.RtoSteady': WHATEVER THE INPUT: true; the input reads as it did. -/
def rtoSteadySpec : ChangeSpec := { name := "rtoSteady", fn := fun _ => fun
  | [d1, d2] => { results := [.lit (.bool true)], args := [d1, d2] }
  | _ => none }
def rtoSteadyRow : OpenClaim := { program := "ytdcdnjhiopjohaa", sum := "4c97d8fc9a402778fae8c32ed501dc41e19c2ba8ce64738014b832fede96dd3e", func := "weftline/weftlinelaw11.RtoSteady", spec := "rtoSteady", apart := false }
def RtoSteadySaid : Prop := rtoSteadyRow.holds Try.pinned (OpenSpec.ofChange rtoSteadySpec)

/-- ITS FALSE NEIGHBOUR: 'it returns false'. Refute it at one input. -/
def rtoSteadyWrong : ChangeSpec := { name := "rtoSteady", fn := fun _ => fun
  | [d1, d2] => { results := [.lit (.bool false)], args := [d1, d2] }
  | _ => none }
def RtoSteadyWrongFalsely : Prop := rtoSteadyRow.holds Try.pinned (OpenSpec.ofChange rtoSteadyWrong)

/-- 'weftlinelaw11.RtoKeeps': WHATEVER THE INPUT: true; the input reads as it did. -/
def rtoKeepsSpec : ChangeSpec := { name := "rtoKeeps", fn := fun _ => fun
  | [d1, d2] => { results := [.lit (.bool true)], args := [d1, d2] }
  | _ => none }
def rtoKeepsRow : OpenClaim := { program := "ytdcdnjhiopjohaa", sum := "4c97d8fc9a402778fae8c32ed501dc41e19c2ba8ce64738014b832fede96dd3e", func := "weftline/weftlinelaw11.RtoKeeps", spec := "rtoKeeps", apart := false }
def RtoKeepsSaid : Prop := rtoKeepsRow.holds Try.pinned (OpenSpec.ofChange rtoKeepsSpec)

/-- ITS FALSE NEIGHBOUR: 'it returns false'. Refute it at one input. -/
def rtoKeepsWrong : ChangeSpec := { name := "rtoKeeps", fn := fun _ => fun
  | [d1, d2] => { results := [.lit (.bool false)], args := [d1, d2] }
  | _ => none }
def RtoKeepsWrongFalsely : Prop := rtoKeepsRow.holds Try.pinned (OpenSpec.ofChange rtoKeepsWrong)

/-- 'weftlinelaw11.RtoTook': WHATEVER THE INPUT: true; the input reads as it did. -/
def rtoTookSpec : ChangeSpec := { name := "rtoTook", fn := fun _ => fun
  | [d1, d2] => { results := [.lit (.bool true)], args := [d1, d2] }
  | _ => none }
def rtoTookRow : OpenClaim := { program := "ytdcdnjhiopjohaa", sum := "4c97d8fc9a402778fae8c32ed501dc41e19c2ba8ce64738014b832fede96dd3e", func := "weftline/weftlinelaw11.RtoTook", spec := "rtoTook", apart := false }
def RtoTookSaid : Prop := rtoTookRow.holds Try.pinned (OpenSpec.ofChange rtoTookSpec)

/-- ITS FALSE NEIGHBOUR: 'it returns false'. Refute it at one input. -/
def rtoTookWrong : ChangeSpec := { name := "rtoTook", fn := fun _ => fun
  | [d1, d2] => { results := [.lit (.bool false)], args := [d1, d2] }
  | _ => none }
def RtoTookWrongFalsely : Prop := rtoTookRow.holds Try.pinned (OpenSpec.ofChange rtoTookWrong)

/-- 'weftlinelaw11.RtoWaits': WHATEVER THE INPUT: true; the input reads as it did. -/
def rtoWaitsSpec : ChangeSpec := { name := "rtoWaits", fn := fun _ => fun
  | [d1, d2] => { results := [.lit (.bool true)], args := [d1, d2] }
  | _ => none }
def rtoWaitsRow : OpenClaim := { program := "ytdcdnjhiopjohaa", sum := "4c97d8fc9a402778fae8c32ed501dc41e19c2ba8ce64738014b832fede96dd3e", func := "weftline/weftlinelaw11.RtoWaits", spec := "rtoWaits", apart := false }
def RtoWaitsSaid : Prop := rtoWaitsRow.holds Try.pinned (OpenSpec.ofChange rtoWaitsSpec)

/-- ITS FALSE NEIGHBOUR: 'it returns false'. Refute it at one input. -/
def rtoWaitsWrong : ChangeSpec := { name := "rtoWaits", fn := fun _ => fun
  | [d1, d2] => { results := [.lit (.bool false)], args := [d1, d2] }
  | _ => none }
def RtoWaitsWrongFalsely : Prop := rtoWaitsRow.holds Try.pinned (OpenSpec.ofChange rtoWaitsWrong)

/-- 'weftlinelaw12.CwndGrows': WHATEVER THE INPUT: true; the input reads as it did. -/
def cwndGrowsSpec : ChangeSpec := { name := "cwndGrows", fn := fun _ => fun
  | [d] => { results := [.lit (.bool true)], args := [d] }
  | _ => none }
def cwndGrowsRow : OpenClaim := { program := "ytdcdnjhiopjohaa", sum := "4c97d8fc9a402778fae8c32ed501dc41e19c2ba8ce64738014b832fede96dd3e", func := "weftline/weftlinelaw12.CwndGrows", spec := "cwndGrows", apart := false }
def CwndGrowsSaid : Prop := cwndGrowsRow.holds Try.pinned (OpenSpec.ofChange cwndGrowsSpec)

/-- ITS FALSE NEIGHBOUR: 'it returns false'. Refute it at one input. -/
def cwndGrowsWrong : ChangeSpec := { name := "cwndGrows", fn := fun _ => fun
  | [d] => { results := [.lit (.bool false)], args := [d] }
  | _ => none }
def CwndGrowsWrongFalsely : Prop := cwndGrowsRow.holds Try.pinned (OpenSpec.ofChange cwndGrowsWrong)

/-- 'weftlinelaw12.CwndLoses': WHATEVER THE INPUT: true; the input reads as it did. -/
def cwndLosesSpec : ChangeSpec := { name := "cwndLoses", fn := fun _ => fun
  | [d] => { results := [.lit (.bool true)], args := [d] }
  | _ => none }
def cwndLosesRow : OpenClaim := { program := "ytdcdnjhiopjohaa", sum := "4c97d8fc9a402778fae8c32ed501dc41e19c2ba8ce64738014b832fede96dd3e", func := "weftline/weftlinelaw12.CwndLoses", spec := "cwndLoses", apart := false }
def CwndLosesSaid : Prop := cwndLosesRow.holds Try.pinned (OpenSpec.ofChange cwndLosesSpec)

/-- ITS FALSE NEIGHBOUR: 'it returns false'. Refute it at one input. -/
def cwndLosesWrong : ChangeSpec := { name := "cwndLoses", fn := fun _ => fun
  | [d] => { results := [.lit (.bool false)], args := [d] }
  | _ => none }
def CwndLosesWrongFalsely : Prop := cwndLosesRow.holds Try.pinned (OpenSpec.ofChange cwndLosesWrong)

/- THE SECOND FORM. 'bulk': how many values and letters a reading holds, each counted each time it is reached (what is shared counts as often as it is met; a slice's spare places count too). A statement '..UptoSaid' is the law's where the arguments, and the package variables that the reading takes, are together of bulk at most 1048576: NARROWER than '..Said'. Prove '..Said' where nothing that the law and all that it calls make is longer than what came in: it says more and counts as full. Else prove '..UptoSaid'. A law counts once. -/
mutual
def uptoBulk {H : Type} : DataW H → Nat
  | .lit (.string bytes) => bytes.length + 1
  | .lit _ => 1
  | .nil => 1
  | .ptr d => uptoBulk d + 1
  | .slice elems spare => uptoBulkAll elems + uptoBulkAll spare + 1
  | .agg parts => uptoBulkAll parts + 1
  | .iface _ d => uptoBulk d + 1
  | .map entries => uptoBulkEntries entries + 1
  | .held _ => 1
def uptoBulkAll {H : Type} : List (DataW H) → Nat
  | [] => 0
  | d :: r => uptoBulk d + uptoBulkAll r
def uptoBulkEntries {H : Type} : List (Lit × DataW H) → Nat
  | [] => 0
  | x :: r => uptoBulkEntry x + uptoBulkEntries r
def uptoBulkEntry {H : Type} : Lit × DataW H → Nat
  | (.string bytes, d) => bytes.length + uptoBulk d + 1
  | (_, d) => uptoBulk d + 1
 end
def uptoSmall : (H : Type) → List (DataW H) → Bool := fun _ ds => decide (uptoBulkAll ds ≤ 1048576)
def OpenSpec.upto (s : _root_.Go.ChangeSpec) : _root_.Go.OpenSpec := { _root_.Go.OpenSpec.ofChange s with cond := some uptoSmall }

/-- 'weftlinelaw11.RtoSteady', WHERE WHAT IT READS IS OF BULK AT MOST 1048576: true; the input reads as it did. -/
def rtoSteadyUptoRow : OpenClaim := { program := "ytdcdnjhiopjohaa", sum := "4c97d8fc9a402778fae8c32ed501dc41e19c2ba8ce64738014b832fede96dd3e", func := "weftline/weftlinelaw11.RtoSteady", spec := "rtoSteady", apart := false, narrowed := true }
def RtoSteadyUptoSaid : Prop := rtoSteadyUptoRow.holds Try.pinned (OpenSpec.upto rtoSteadySpec)

/-- 'weftlinelaw11.RtoKeeps', WHERE WHAT IT READS IS OF BULK AT MOST 1048576: true; the input reads as it did. -/
def rtoKeepsUptoRow : OpenClaim := { program := "ytdcdnjhiopjohaa", sum := "4c97d8fc9a402778fae8c32ed501dc41e19c2ba8ce64738014b832fede96dd3e", func := "weftline/weftlinelaw11.RtoKeeps", spec := "rtoKeeps", apart := false, narrowed := true }
def RtoKeepsUptoSaid : Prop := rtoKeepsUptoRow.holds Try.pinned (OpenSpec.upto rtoKeepsSpec)

/-- 'weftlinelaw11.RtoTook', WHERE WHAT IT READS IS OF BULK AT MOST 1048576: true; the input reads as it did. -/
def rtoTookUptoRow : OpenClaim := { program := "ytdcdnjhiopjohaa", sum := "4c97d8fc9a402778fae8c32ed501dc41e19c2ba8ce64738014b832fede96dd3e", func := "weftline/weftlinelaw11.RtoTook", spec := "rtoTook", apart := false, narrowed := true }
def RtoTookUptoSaid : Prop := rtoTookUptoRow.holds Try.pinned (OpenSpec.upto rtoTookSpec)

/-- 'weftlinelaw11.RtoWaits', WHERE WHAT IT READS IS OF BULK AT MOST 1048576: true; the input reads as it did. -/
def rtoWaitsUptoRow : OpenClaim := { program := "ytdcdnjhiopjohaa", sum := "4c97d8fc9a402778fae8c32ed501dc41e19c2ba8ce64738014b832fede96dd3e", func := "weftline/weftlinelaw11.RtoWaits", spec := "rtoWaits", apart := false, narrowed := true }
def RtoWaitsUptoSaid : Prop := rtoWaitsUptoRow.holds Try.pinned (OpenSpec.upto rtoWaitsSpec)

/-- 'weftlinelaw12.CwndGrows', WHERE WHAT IT READS IS OF BULK AT MOST 1048576: true; the input reads as it did. -/
def cwndGrowsUptoRow : OpenClaim := { program := "ytdcdnjhiopjohaa", sum := "4c97d8fc9a402778fae8c32ed501dc41e19c2ba8ce64738014b832fede96dd3e", func := "weftline/weftlinelaw12.CwndGrows", spec := "cwndGrows", apart := false, narrowed := true }
def CwndGrowsUptoSaid : Prop := cwndGrowsUptoRow.holds Try.pinned (OpenSpec.upto cwndGrowsSpec)

/-- 'weftlinelaw12.CwndLoses', WHERE WHAT IT READS IS OF BULK AT MOST 1048576: true; the input reads as it did. -/
def cwndLosesUptoRow : OpenClaim := { program := "ytdcdnjhiopjohaa", sum := "4c97d8fc9a402778fae8c32ed501dc41e19c2ba8ce64738014b832fede96dd3e", func := "weftline/weftlinelaw12.CwndLoses", spec := "cwndLoses", apart := false, narrowed := true }
def CwndLosesUptoSaid : Prop := cwndLosesUptoRow.holds Try.pinned (OpenSpec.upto cwndLosesSpec)

end Rows
end Go.Proofs.Ytdcdnjhiopjohaa
