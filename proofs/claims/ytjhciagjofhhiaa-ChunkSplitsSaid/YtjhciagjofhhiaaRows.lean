/-
  No cell of these rows narrows 'for every input' (looked for: loops, veiled, ifaces, maps, wideKeys, modest, calm, conditions, laid).
  DERIVED. THE GIVEN ROWS OF THIS SEAT. 8 by the template 'for every input the law returns true; each argument reads behind the call as it read before'; 0 by the template 'total and deterministic' (their statements: YtjhciagjofhhiaaTotals.lean).
  GIVEN WITH THE SEED: the statements are not yours to turn. If you find one false, say at which input.
  Laid BY PROGRAM, IN A SANDBOX (cutbox-rows.mjs): the forced cells as the released guide's own fill.sh prints them over the translation c1c9d1e6f882d958… (all of the seat's roots in one cut). By AI agents, Wed Nov 11 2026. No macro, syntax, notation, axiom, sorry.
-/
import Derived.Test.YtjhciagjofhhiaaChecked
import GoSem.Claim
import GoSem.ClaimJoined
import GoSem.ClaimMapViews
import Derived.JoinedTies
import Derived.KernelRfl
namespace Go.Proofs.Ytjhciagjofhhiaa
/- THE CELL 'sum', in the pinned program and in every row, IS THE sha256 OF THE DUMP (.gsa) THAT YtjhciagjofhhiaaProg.lean LOADS. Nothing in Lean hashes anything: it is a label: what it is worth is what the hold of that sum in a sandbox is worth. -/
noncomputable def Try.pinned : Pinned := { name := "ytjhciagjofhhiaa", sum := "c1c9d1e6f882d958ec4e581cba8cbb9be56a7afbcfac09622b7408dd140ee2be", checked := Try.checked }
namespace Rows
def none {H : Type} : Left H := { results := [], args := [] }

/-- 'weftlinelaw06.TlvPuts': WHATEVER THE INPUT: true; the input reads as it did. -/
def tlvPutsSpec : ChangeSpec := { name := "tlvPuts", fn := fun _ => fun
  | [d] => { results := [.lit (.bool true)], args := [d] }
  | _ => none }
def tlvPutsRow : OpenClaim := { program := "ytjhciagjofhhiaa", sum := "c1c9d1e6f882d958ec4e581cba8cbb9be56a7afbcfac09622b7408dd140ee2be", func := "weftline/weftlinelaw06.TlvPuts", spec := "tlvPuts", apart := false }
def TlvPutsSaid : Prop := tlvPutsRow.holds Try.pinned (OpenSpec.ofChange tlvPutsSpec)

/-- ITS FALSE NEIGHBOUR: 'it returns false'. Refute it at one input. -/
def tlvPutsWrong : ChangeSpec := { name := "tlvPuts", fn := fun _ => fun
  | [d] => { results := [.lit (.bool false)], args := [d] }
  | _ => none }
def TlvPutsWrongFalsely : Prop := tlvPutsRow.holds Try.pinned (OpenSpec.ofChange tlvPutsWrong)

/-- 'weftlinelaw06.TlvReads': WHATEVER THE INPUT: true; the input reads as it did. -/
def tlvReadsSpec : ChangeSpec := { name := "tlvReads", fn := fun _ => fun
  | [d1, d2] => { results := [.lit (.bool true)], args := [d1, d2] }
  | _ => none }
def tlvReadsRow : OpenClaim := { program := "ytjhciagjofhhiaa", sum := "c1c9d1e6f882d958ec4e581cba8cbb9be56a7afbcfac09622b7408dd140ee2be", func := "weftline/weftlinelaw06.TlvReads", spec := "tlvReads", apart := false }
def TlvReadsSaid : Prop := tlvReadsRow.holds Try.pinned (OpenSpec.ofChange tlvReadsSpec)

/-- ITS FALSE NEIGHBOUR: 'it returns false'. Refute it at one input. -/
def tlvReadsWrong : ChangeSpec := { name := "tlvReads", fn := fun _ => fun
  | [d1, d2] => { results := [.lit (.bool false)], args := [d1, d2] }
  | _ => none }
def TlvReadsWrongFalsely : Prop := tlvReadsRow.holds Try.pinned (OpenSpec.ofChange tlvReadsWrong)

/-- 'weftlinelaw06.TlvParams': WHATEVER THE INPUT: true; the input reads as it did. -/
def tlvParamsSpec : ChangeSpec := { name := "tlvParams", fn := fun _ => fun
  | [d] => { results := [.lit (.bool true)], args := [d] }
  | _ => none }
def tlvParamsRow : OpenClaim := { program := "ytjhciagjofhhiaa", sum := "c1c9d1e6f882d958ec4e581cba8cbb9be56a7afbcfac09622b7408dd140ee2be", func := "weftline/weftlinelaw06.TlvParams", spec := "tlvParams", apart := false }
def TlvParamsSaid : Prop := tlvParamsRow.holds Try.pinned (OpenSpec.ofChange tlvParamsSpec)

/-- ITS FALSE NEIGHBOUR: 'it returns false'. Refute it at one input. -/
def tlvParamsWrong : ChangeSpec := { name := "tlvParams", fn := fun _ => fun
  | [d] => { results := [.lit (.bool false)], args := [d] }
  | _ => none }
def TlvParamsWrongFalsely : Prop := tlvParamsRow.holds Try.pinned (OpenSpec.ofChange tlvParamsWrong)

/-- 'weftlinelaw06.TlvWrites': WHATEVER THE INPUT: true; the input reads as it did. -/
def tlvWritesSpec : ChangeSpec := { name := "tlvWrites", fn := fun _ => fun
  | [d1, d2] => { results := [.lit (.bool true)], args := [d1, d2] }
  | _ => none }
def tlvWritesRow : OpenClaim := { program := "ytjhciagjofhhiaa", sum := "c1c9d1e6f882d958ec4e581cba8cbb9be56a7afbcfac09622b7408dd140ee2be", func := "weftline/weftlinelaw06.TlvWrites", spec := "tlvWrites", apart := false }
def TlvWritesSaid : Prop := tlvWritesRow.holds Try.pinned (OpenSpec.ofChange tlvWritesSpec)

/-- ITS FALSE NEIGHBOUR: 'it returns false'. Refute it at one input. -/
def tlvWritesWrong : ChangeSpec := { name := "tlvWrites", fn := fun _ => fun
  | [d1, d2] => { results := [.lit (.bool false)], args := [d1, d2] }
  | _ => none }
def TlvWritesWrongFalsely : Prop := tlvWritesRow.holds Try.pinned (OpenSpec.ofChange tlvWritesWrong)

/-- 'weftlinelaw07.ChunkBytes': WHATEVER THE INPUT: true; the input reads as it did. -/
def chunkBytesSpec : ChangeSpec := { name := "chunkBytes", fn := fun _ => fun
  | [d] => { results := [.lit (.bool true)], args := [d] }
  | _ => none }
def chunkBytesRow : OpenClaim := { program := "ytjhciagjofhhiaa", sum := "c1c9d1e6f882d958ec4e581cba8cbb9be56a7afbcfac09622b7408dd140ee2be", func := "weftline/weftlinelaw07.ChunkBytes", spec := "chunkBytes", unfollowed := true, recurses := true, apart := false }
def ChunkBytesSaid : Prop := chunkBytesRow.holds Try.pinned (OpenSpec.ofChange chunkBytesSpec)

/-- ITS FALSE NEIGHBOUR: 'it returns false'. Refute it at one input. -/
def chunkBytesWrong : ChangeSpec := { name := "chunkBytes", fn := fun _ => fun
  | [d] => { results := [.lit (.bool false)], args := [d] }
  | _ => none }
def ChunkBytesWrongFalsely : Prop := chunkBytesRow.holds Try.pinned (OpenSpec.ofChange chunkBytesWrong)

/-- 'weftlinelaw07.ChunkReads': WHATEVER THE INPUT: true; the input reads as it did. -/
def chunkReadsSpec : ChangeSpec := { name := "chunkReads", fn := fun _ => fun
  | [d] => { results := [.lit (.bool true)], args := [d] }
  | _ => none }
def chunkReadsRow : OpenClaim := { program := "ytjhciagjofhhiaa", sum := "c1c9d1e6f882d958ec4e581cba8cbb9be56a7afbcfac09622b7408dd140ee2be", func := "weftline/weftlinelaw07.ChunkReads", spec := "chunkReads", unfollowed := true, recurses := true, apart := false }
def ChunkReadsSaid : Prop := chunkReadsRow.holds Try.pinned (OpenSpec.ofChange chunkReadsSpec)

/-- ITS FALSE NEIGHBOUR: 'it returns false'. Refute it at one input. -/
def chunkReadsWrong : ChangeSpec := { name := "chunkReads", fn := fun _ => fun
  | [d] => { results := [.lit (.bool false)], args := [d] }
  | _ => none }
def ChunkReadsWrongFalsely : Prop := chunkReadsRow.holds Try.pinned (OpenSpec.ofChange chunkReadsWrong)

/-- 'weftlinelaw07.ChunkSplits': WHATEVER THE INPUT: true; the input reads as it did. -/
def chunkSplitsSpec : ChangeSpec := { name := "chunkSplits", fn := fun _ => fun
  | [d1, d2] => { results := [.lit (.bool true)], args := [d1, d2] }
  | _ => none }
def chunkSplitsRow : OpenClaim := { program := "ytjhciagjofhhiaa", sum := "c1c9d1e6f882d958ec4e581cba8cbb9be56a7afbcfac09622b7408dd140ee2be", func := "weftline/weftlinelaw07.ChunkSplits", spec := "chunkSplits", unfollowed := true, recurses := true, apart := false }
def ChunkSplitsSaid : Prop := chunkSplitsRow.holds Try.pinned (OpenSpec.ofChange chunkSplitsSpec)

/-- ITS FALSE NEIGHBOUR: 'it returns false'. Refute it at one input. -/
def chunkSplitsWrong : ChangeSpec := { name := "chunkSplits", fn := fun _ => fun
  | [d1, d2] => { results := [.lit (.bool false)], args := [d1, d2] }
  | _ => none }
def ChunkSplitsWrongFalsely : Prop := chunkSplitsRow.holds Try.pinned (OpenSpec.ofChange chunkSplitsWrong)

/-- 'weftlinelaw07.ChunkCopies': WHATEVER THE INPUT: true; the input reads as it did. -/
def chunkCopiesSpec : ChangeSpec := { name := "chunkCopies", fn := fun _ => fun
  | [d1, d2] => { results := [.lit (.bool true)], args := [d1, d2] }
  | _ => none }
def chunkCopiesRow : OpenClaim := { program := "ytjhciagjofhhiaa", sum := "c1c9d1e6f882d958ec4e581cba8cbb9be56a7afbcfac09622b7408dd140ee2be", func := "weftline/weftlinelaw07.ChunkCopies", spec := "chunkCopies", unfollowed := true, recurses := true, apart := false }
def ChunkCopiesSaid : Prop := chunkCopiesRow.holds Try.pinned (OpenSpec.ofChange chunkCopiesSpec)

/-- ITS FALSE NEIGHBOUR: 'it returns false'. Refute it at one input. -/
def chunkCopiesWrong : ChangeSpec := { name := "chunkCopies", fn := fun _ => fun
  | [d1, d2] => { results := [.lit (.bool false)], args := [d1, d2] }
  | _ => none }
def ChunkCopiesWrongFalsely : Prop := chunkCopiesRow.holds Try.pinned (OpenSpec.ofChange chunkCopiesWrong)

/- THE SECOND FORM. 'bulk': how many values and letters a reading holds, each counted each time it is reached (what is shared counts as often as it is met; a slice's spare places count too). A statement '..UptoSaid' is the law's where the arguments, and the package variables that the reading takes, are together of bulk at most 1048576: NARROWER than '..Said'. Prove '..Said' where nothing that the law and all that it calls make is longer than what came in: it says more and counts as full. Else prove '..UptoSaid'. A law counts once. -/
mutual
def uptoBulk {H : Type} : DataW H → Nat
  | .lit (.string bytes) => bytes.length + 1
  | .lit _ => 1
  | .nil => 1
  | .ptr d => uptoBulk d + 1
  | .slice elems spare => uptoBulkAll elems + uptoBulkAll spare + 1
  | .agg parts => uptoBulkAll parts + 1
  | .iface _ d => uptoBulk d + 1
  | .map entries => uptoBulkEntries entries + 1
  | .held _ => 1
def uptoBulkAll {H : Type} : List (DataW H) → Nat
  | [] => 0
  | d :: r => uptoBulk d + uptoBulkAll r
def uptoBulkEntries {H : Type} : List (Lit × DataW H) → Nat
  | [] => 0
  | x :: r => uptoBulkEntry x + uptoBulkEntries r
def uptoBulkEntry {H : Type} : Lit × DataW H → Nat
  | (.string bytes, d) => bytes.length + uptoBulk d + 1
  | (_, d) => uptoBulk d + 1
 end
def uptoSmall : (H : Type) → List (DataW H) → Bool := fun _ ds => decide (uptoBulkAll ds ≤ 1048576)
def OpenSpec.upto (s : _root_.Go.ChangeSpec) : _root_.Go.OpenSpec := { _root_.Go.OpenSpec.ofChange s with cond := some uptoSmall }

/-- 'weftlinelaw06.TlvPuts', WHERE WHAT IT READS IS OF BULK AT MOST 1048576: true; the input reads as it did. -/
def tlvPutsUptoRow : OpenClaim := { program := "ytjhciagjofhhiaa", sum := "c1c9d1e6f882d958ec4e581cba8cbb9be56a7afbcfac09622b7408dd140ee2be", func := "weftline/weftlinelaw06.TlvPuts", spec := "tlvPuts", apart := false, narrowed := true }
def TlvPutsUptoSaid : Prop := tlvPutsUptoRow.holds Try.pinned (OpenSpec.upto tlvPutsSpec)

/-- 'weftlinelaw06.TlvReads', WHERE WHAT IT READS IS OF BULK AT MOST 1048576: true; the input reads as it did. -/
def tlvReadsUptoRow : OpenClaim := { program := "ytjhciagjofhhiaa", sum := "c1c9d1e6f882d958ec4e581cba8cbb9be56a7afbcfac09622b7408dd140ee2be", func := "weftline/weftlinelaw06.TlvReads", spec := "tlvReads", apart := false, narrowed := true }
def TlvReadsUptoSaid : Prop := tlvReadsUptoRow.holds Try.pinned (OpenSpec.upto tlvReadsSpec)

/-- 'weftlinelaw06.TlvParams', WHERE WHAT IT READS IS OF BULK AT MOST 1048576: true; the input reads as it did. -/
def tlvParamsUptoRow : OpenClaim := { program := "ytjhciagjofhhiaa", sum := "c1c9d1e6f882d958ec4e581cba8cbb9be56a7afbcfac09622b7408dd140ee2be", func := "weftline/weftlinelaw06.TlvParams", spec := "tlvParams", apart := false, narrowed := true }
def TlvParamsUptoSaid : Prop := tlvParamsUptoRow.holds Try.pinned (OpenSpec.upto tlvParamsSpec)

/-- 'weftlinelaw06.TlvWrites', WHERE WHAT IT READS IS OF BULK AT MOST 1048576: true; the input reads as it did. -/
def tlvWritesUptoRow : OpenClaim := { program := "ytjhciagjofhhiaa", sum := "c1c9d1e6f882d958ec4e581cba8cbb9be56a7afbcfac09622b7408dd140ee2be", func := "weftline/weftlinelaw06.TlvWrites", spec := "tlvWrites", apart := false, narrowed := true }
def TlvWritesUptoSaid : Prop := tlvWritesUptoRow.holds Try.pinned (OpenSpec.upto tlvWritesSpec)

/-- 'weftlinelaw07.ChunkBytes', WHERE WHAT IT READS IS OF BULK AT MOST 1048576: true; the input reads as it did. -/
def chunkBytesUptoRow : OpenClaim := { program := "ytjhciagjofhhiaa", sum := "c1c9d1e6f882d958ec4e581cba8cbb9be56a7afbcfac09622b7408dd140ee2be", func := "weftline/weftlinelaw07.ChunkBytes", spec := "chunkBytes", unfollowed := true, recurses := true, apart := false, narrowed := true }
def ChunkBytesUptoSaid : Prop := chunkBytesUptoRow.holds Try.pinned (OpenSpec.upto chunkBytesSpec)

/-- 'weftlinelaw07.ChunkReads', WHERE WHAT IT READS IS OF BULK AT MOST 1048576: true; the input reads as it did. -/
def chunkReadsUptoRow : OpenClaim := { program := "ytjhciagjofhhiaa", sum := "c1c9d1e6f882d958ec4e581cba8cbb9be56a7afbcfac09622b7408dd140ee2be", func := "weftline/weftlinelaw07.ChunkReads", spec := "chunkReads", unfollowed := true, recurses := true, apart := false, narrowed := true }
def ChunkReadsUptoSaid : Prop := chunkReadsUptoRow.holds Try.pinned (OpenSpec.upto chunkReadsSpec)

/-- 'weftlinelaw07.ChunkSplits', WHERE WHAT IT READS IS OF BULK AT MOST 1048576: true; the input reads as it did. -/
def chunkSplitsUptoRow : OpenClaim := { program := "ytjhciagjofhhiaa", sum := "c1c9d1e6f882d958ec4e581cba8cbb9be56a7afbcfac09622b7408dd140ee2be", func := "weftline/weftlinelaw07.ChunkSplits", spec := "chunkSplits", unfollowed := true, recurses := true, apart := false, narrowed := true }
def ChunkSplitsUptoSaid : Prop := chunkSplitsUptoRow.holds Try.pinned (OpenSpec.upto chunkSplitsSpec)

/-- 'weftlinelaw07.ChunkCopies', WHERE WHAT IT READS IS OF BULK AT MOST 1048576: true; the input reads as it did. -/
def chunkCopiesUptoRow : OpenClaim := { program := "ytjhciagjofhhiaa", sum := "c1c9d1e6f882d958ec4e581cba8cbb9be56a7afbcfac09622b7408dd140ee2be", func := "weftline/weftlinelaw07.ChunkCopies", spec := "chunkCopies", unfollowed := true, recurses := true, apart := false, narrowed := true }
def ChunkCopiesUptoSaid : Prop := chunkCopiesUptoRow.holds Try.pinned (OpenSpec.upto chunkCopiesSpec)

end Rows
end Go.Proofs.Ytjhciagjofhhiaa
