/-
  NARROWER THAN 'FOR EVERY INPUT', by the rows' own cells (each row's printed sentence says how): ShaSums: laid · ShaParts: laid · ShaCopies: laid · MacKeys: laid · MacChecks: laid · MacParts: laid · MacSums: laid · MacDerives: laid.
  DERIVED. THE GIVEN ROWS OF THIS SEAT. 8 by the template 'for every input the law returns true; each argument reads behind the call as it read before'; 0 by the template 'total and deterministic' (their statements: YtjmgeelblodcgaaDoorTotals.lean).
  GIVEN WITH THE SEED: the statements are not yours to turn. If you find one false, say at which input.
  Laid BY PROGRAM, IN A SANDBOX (cutbox-rows.mjs): the forced cells as the released guide's own fill.sh prints them over the translation 5c7c587f984f58c3… (all of the seat's roots in one cut). By AI agents, Wed Nov 11 2026. No macro, syntax, notation, axiom, sorry.
-/
import Derived.Test.YtjmgeelblodcgaaDoorChecked
import GoSem.Claim
import GoSem.ClaimJoined
import GoSem.ClaimMapViews
import Derived.JoinedTies
import Derived.KernelRfl
namespace Go.Proofs.YtjmgeelblodcgaaDoor
/- THE CELL 'sum', in the pinned program and in every row, IS THE sha256 OF THE DUMP (.gsa) THAT YtjmgeelblodcgaaDoorProg.lean LOADS. Nothing in Lean hashes anything: it is a label: what it is worth is what the hold of that sum in a sandbox is worth. -/
noncomputable def Tryd.pinned : Pinned := { name := "ytjmgeelblodcgaadoor", sum := "5c7c587f984f58c32619aa2f5988eb7d3a30cc58d73490d43ec0ec5187561ef0", checked := Tryd.checked }
namespace Rows
def none {H : Type} : Left H := { results := [], args := [] }

/- WHAT THE LISTED PACKAGE-LEVEL VARIABLES READ AS WHEN THE CALL BEGINS. Each datum BY PROGRAM (the guide's laid-datum.mjs) off the statement by which the dump's own 'gosem.cut.vars' lays the variable. In a bare row this is a premise. The card (YtjmgeelblodcgaaDoorCards.lean) ties it to the program's text. -/
def laid_weftline_weftlineref04_cube {H : Type} : DataW H := .agg [.lit (.int .u32 1116352408), .lit (.int .u32 1899447441), .lit (.int .u32 3049323471), .lit (.int .u32 3921009573), .lit (.int .u32 961987163), .lit (.int .u32 1508970993), .lit (.int .u32 2453635748), .lit (.int .u32 2870763221), .lit (.int .u32 3624381080), .lit (.int .u32 310598401), .lit (.int .u32 607225278), .lit (.int .u32 1426881987), .lit (.int .u32 1925078388), .lit (.int .u32 2162078206), .lit (.int .u32 2614888103), .lit (.int .u32 3248222580), .lit (.int .u32 3835390401), .lit (.int .u32 4022224774), .lit (.int .u32 264347078), .lit (.int .u32 604807628), .lit (.int .u32 770255983), .lit (.int .u32 1249150122), .lit (.int .u32 1555081692), .lit (.int .u32 1996064986), .lit (.int .u32 2554220882), .lit (.int .u32 2821834349), .lit (.int .u32 2952996808), .lit (.int .u32 3210313671), .lit (.int .u32 3336571891), .lit (.int .u32 3584528711), .lit (.int .u32 113926993), .lit (.int .u32 338241895), .lit (.int .u32 666307205), .lit (.int .u32 773529912), .lit (.int .u32 1294757372), .lit (.int .u32 1396182291), .lit (.int .u32 1695183700), .lit (.int .u32 1986661051), .lit (.int .u32 2177026350), .lit (.int .u32 2456956037), .lit (.int .u32 2730485921), .lit (.int .u32 2820302411), .lit (.int .u32 3259730800), .lit (.int .u32 3345764771), .lit (.int .u32 3516065817), .lit (.int .u32 3600352804), .lit (.int .u32 4094571909), .lit (.int .u32 275423344), .lit (.int .u32 430227734), .lit (.int .u32 506948616), .lit (.int .u32 659060556), .lit (.int .u32 883997877), .lit (.int .u32 958139571), .lit (.int .u32 1322822218), .lit (.int .u32 1537002063), .lit (.int .u32 1747873779), .lit (.int .u32 1955562222), .lit (.int .u32 2024104815), .lit (.int .u32 2227730452), .lit (.int .u32 2361852424), .lit (.int .u32 2428436474), .lit (.int .u32 2756734187), .lit (.int .u32 3204031479), .lit (.int .u32 3329325298)]
def laid_weftline_sha_roots {H : Type} : DataW H := .agg [.lit (.int .u32 1779033703), .lit (.int .u32 3144134277), .lit (.int .u32 1013904242), .lit (.int .u32 2773480762), .lit (.int .u32 1359893119), .lit (.int .u32 2600822924), .lit (.int .u32 528734635), .lit (.int .u32 1541459225)]
def laid_weftline_sha_cubes {H : Type} : DataW H := .agg [.lit (.int .u32 1116352408), .lit (.int .u32 1899447441), .lit (.int .u32 3049323471), .lit (.int .u32 3921009573), .lit (.int .u32 961987163), .lit (.int .u32 1508970993), .lit (.int .u32 2453635748), .lit (.int .u32 2870763221), .lit (.int .u32 3624381080), .lit (.int .u32 310598401), .lit (.int .u32 607225278), .lit (.int .u32 1426881987), .lit (.int .u32 1925078388), .lit (.int .u32 2162078206), .lit (.int .u32 2614888103), .lit (.int .u32 3248222580), .lit (.int .u32 3835390401), .lit (.int .u32 4022224774), .lit (.int .u32 264347078), .lit (.int .u32 604807628), .lit (.int .u32 770255983), .lit (.int .u32 1249150122), .lit (.int .u32 1555081692), .lit (.int .u32 1996064986), .lit (.int .u32 2554220882), .lit (.int .u32 2821834349), .lit (.int .u32 2952996808), .lit (.int .u32 3210313671), .lit (.int .u32 3336571891), .lit (.int .u32 3584528711), .lit (.int .u32 113926993), .lit (.int .u32 338241895), .lit (.int .u32 666307205), .lit (.int .u32 773529912), .lit (.int .u32 1294757372), .lit (.int .u32 1396182291), .lit (.int .u32 1695183700), .lit (.int .u32 1986661051), .lit (.int .u32 2177026350), .lit (.int .u32 2456956037), .lit (.int .u32 2730485921), .lit (.int .u32 2820302411), .lit (.int .u32 3259730800), .lit (.int .u32 3345764771), .lit (.int .u32 3516065817), .lit (.int .u32 3600352804), .lit (.int .u32 4094571909), .lit (.int .u32 275423344), .lit (.int .u32 430227734), .lit (.int .u32 506948616), .lit (.int .u32 659060556), .lit (.int .u32 883997877), .lit (.int .u32 958139571), .lit (.int .u32 1322822218), .lit (.int .u32 1537002063), .lit (.int .u32 1747873779), .lit (.int .u32 1955562222), .lit (.int .u32 2024104815), .lit (.int .u32 2227730452), .lit (.int .u32 2361852424), .lit (.int .u32 2428436474), .lit (.int .u32 2756734187), .lit (.int .u32 3204031479), .lit (.int .u32 3329325298)]

/-- 'weftlinelaw04.ShaSums': WHATEVER THE INPUT: true; the input reads as it did. -/
def shaSumsSpec : ChangeSpec := { name := "shaSums", fn := fun _ => fun
  | [d] => { results := [.lit (.bool true)], args := [d] }
  | _ => none }
def shaSumsRow : OpenClaim := { program := "ytjmgeelblodcgaadoor", sum := "5c7c587f984f58c32619aa2f5988eb7d3a30cc58d73490d43ec0ec5187561ef0", func := "weftline/weftlinelaw04.ShaSums", spec := "shaSums", unfollowed := true, recurses := true, named := ["weftline/sha.roots", "weftline/sha.cubes", "weftline/weftlineref04.cube"], apart := false, laid := [("weftline/weftlineref04.cube", laid_weftline_weftlineref04_cube), ("weftline/sha.roots", laid_weftline_sha_roots), ("weftline/sha.cubes", laid_weftline_sha_cubes)] }
def ShaSumsSaid : Prop := shaSumsRow.holds Tryd.pinned (OpenSpec.ofChange shaSumsSpec)

/-- ITS FALSE NEIGHBOUR: 'it returns false'. Refute it at one input. -/
def shaSumsWrong : ChangeSpec := { name := "shaSums", fn := fun _ => fun
  | [d] => { results := [.lit (.bool false)], args := [d] }
  | _ => none }
def ShaSumsWrongFalsely : Prop := shaSumsRow.holds Tryd.pinned (OpenSpec.ofChange shaSumsWrong)

/-- 'weftlinelaw04.ShaParts': WHATEVER THE INPUT: true; the input reads as it did. -/
def shaPartsSpec : ChangeSpec := { name := "shaParts", fn := fun _ => fun
  | [d] => { results := [.lit (.bool true)], args := [d] }
  | _ => none }
def shaPartsRow : OpenClaim := { program := "ytjmgeelblodcgaadoor", sum := "5c7c587f984f58c32619aa2f5988eb7d3a30cc58d73490d43ec0ec5187561ef0", func := "weftline/weftlinelaw04.ShaParts", spec := "shaParts", unfollowed := true, recurses := true, named := ["weftline/sha.roots", "weftline/sha.cubes"], apart := false, laid := [("weftline/sha.roots", laid_weftline_sha_roots), ("weftline/sha.cubes", laid_weftline_sha_cubes)] }
def ShaPartsSaid : Prop := shaPartsRow.holds Tryd.pinned (OpenSpec.ofChange shaPartsSpec)

/-- ITS FALSE NEIGHBOUR: 'it returns false'. Refute it at one input. -/
def shaPartsWrong : ChangeSpec := { name := "shaParts", fn := fun _ => fun
  | [d] => { results := [.lit (.bool false)], args := [d] }
  | _ => none }
def ShaPartsWrongFalsely : Prop := shaPartsRow.holds Tryd.pinned (OpenSpec.ofChange shaPartsWrong)

/-- 'weftlinelaw04.ShaCopies': WHATEVER THE INPUT: true; the input reads as it did. -/
def shaCopiesSpec : ChangeSpec := { name := "shaCopies", fn := fun _ => fun
  | [d1, d2, d3] => { results := [.lit (.bool true)], args := [d1, d2, d3] }
  | _ => none }
def shaCopiesRow : OpenClaim := { program := "ytjmgeelblodcgaadoor", sum := "5c7c587f984f58c32619aa2f5988eb7d3a30cc58d73490d43ec0ec5187561ef0", func := "weftline/weftlinelaw04.ShaCopies", spec := "shaCopies", unfollowed := true, recurses := true, named := ["weftline/sha.roots", "weftline/sha.cubes"], apart := false, laid := [("weftline/sha.roots", laid_weftline_sha_roots), ("weftline/sha.cubes", laid_weftline_sha_cubes)] }
def ShaCopiesSaid : Prop := shaCopiesRow.holds Tryd.pinned (OpenSpec.ofChange shaCopiesSpec)

/-- ITS FALSE NEIGHBOUR: 'it returns false'. Refute it at one input. -/
def shaCopiesWrong : ChangeSpec := { name := "shaCopies", fn := fun _ => fun
  | [d1, d2, d3] => { results := [.lit (.bool false)], args := [d1, d2, d3] }
  | _ => none }
def ShaCopiesWrongFalsely : Prop := shaCopiesRow.holds Tryd.pinned (OpenSpec.ofChange shaCopiesWrong)

/-- 'weftlinelaw05.MacKeys': WHATEVER THE INPUT: true; the input reads as it did. -/
def macKeysSpec : ChangeSpec := { name := "macKeys", fn := fun _ => fun
  | [d1, d2, d3] => { results := [.lit (.bool true)], args := [d1, d2, d3] }
  | _ => none }
def macKeysRow : OpenClaim := { program := "ytjmgeelblodcgaadoor", sum := "5c7c587f984f58c32619aa2f5988eb7d3a30cc58d73490d43ec0ec5187561ef0", func := "weftline/weftlinelaw05.MacKeys", spec := "macKeys", inPlace := ["internal/bytealg.MakeNoZero"], unfollowed := true, recurses := true, named := ["weftline/sha.roots", "weftline/sha.cubes"], apart := false, laid := [("weftline/sha.roots", laid_weftline_sha_roots), ("weftline/sha.cubes", laid_weftline_sha_cubes)] }
def MacKeysSaid : Prop := macKeysRow.holds Tryd.pinned (OpenSpec.ofChange macKeysSpec)

/-- ITS FALSE NEIGHBOUR: 'it returns false'. Refute it at one input. -/
def macKeysWrong : ChangeSpec := { name := "macKeys", fn := fun _ => fun
  | [d1, d2, d3] => { results := [.lit (.bool false)], args := [d1, d2, d3] }
  | _ => none }
def MacKeysWrongFalsely : Prop := macKeysRow.holds Tryd.pinned (OpenSpec.ofChange macKeysWrong)

/-- 'weftlinelaw05.MacChecks': WHATEVER THE INPUT: true; the input reads as it did. -/
def macChecksSpec : ChangeSpec := { name := "macChecks", fn := fun _ => fun
  | [d] => { results := [.lit (.bool true)], args := [d] }
  | _ => none }
def macChecksRow : OpenClaim := { program := "ytjmgeelblodcgaadoor", sum := "5c7c587f984f58c32619aa2f5988eb7d3a30cc58d73490d43ec0ec5187561ef0", func := "weftline/weftlinelaw05.MacChecks", spec := "macChecks", inPlace := ["internal/bytealg.MakeNoZero"], unfollowed := true, recurses := true, named := ["weftline/sha.roots", "weftline/sha.cubes"], apart := false, laid := [("weftline/sha.roots", laid_weftline_sha_roots), ("weftline/sha.cubes", laid_weftline_sha_cubes)] }
def MacChecksSaid : Prop := macChecksRow.holds Tryd.pinned (OpenSpec.ofChange macChecksSpec)

/-- ITS FALSE NEIGHBOUR: 'it returns false'. Refute it at one input. -/
def macChecksWrong : ChangeSpec := { name := "macChecks", fn := fun _ => fun
  | [d] => { results := [.lit (.bool false)], args := [d] }
  | _ => none }
def MacChecksWrongFalsely : Prop := macChecksRow.holds Tryd.pinned (OpenSpec.ofChange macChecksWrong)

/-- 'weftlinelaw05.MacParts': WHATEVER THE INPUT: true; the input reads as it did. -/
def macPartsSpec : ChangeSpec := { name := "macParts", fn := fun _ => fun
  | [d1, d2] => { results := [.lit (.bool true)], args := [d1, d2] }
  | _ => none }
def macPartsRow : OpenClaim := { program := "ytjmgeelblodcgaadoor", sum := "5c7c587f984f58c32619aa2f5988eb7d3a30cc58d73490d43ec0ec5187561ef0", func := "weftline/weftlinelaw05.MacParts", spec := "macParts", inPlace := ["internal/bytealg.MakeNoZero"], unfollowed := true, recurses := true, named := ["weftline/sha.roots", "weftline/sha.cubes"], apart := false, laid := [("weftline/sha.roots", laid_weftline_sha_roots), ("weftline/sha.cubes", laid_weftline_sha_cubes)] }
def MacPartsSaid : Prop := macPartsRow.holds Tryd.pinned (OpenSpec.ofChange macPartsSpec)

/-- ITS FALSE NEIGHBOUR: 'it returns false'. Refute it at one input. -/
def macPartsWrong : ChangeSpec := { name := "macParts", fn := fun _ => fun
  | [d1, d2] => { results := [.lit (.bool false)], args := [d1, d2] }
  | _ => none }
def MacPartsWrongFalsely : Prop := macPartsRow.holds Tryd.pinned (OpenSpec.ofChange macPartsWrong)

/-- 'weftlinelaw05.MacSums': WHATEVER THE INPUT: true; the input reads as it did. -/
def macSumsSpec : ChangeSpec := { name := "macSums", fn := fun _ => fun
  | [d1, d2, d3] => { results := [.lit (.bool true)], args := [d1, d2, d3] }
  | _ => none }
def macSumsRow : OpenClaim := { program := "ytjmgeelblodcgaadoor", sum := "5c7c587f984f58c32619aa2f5988eb7d3a30cc58d73490d43ec0ec5187561ef0", func := "weftline/weftlinelaw05.MacSums", spec := "macSums", inPlace := ["internal/bytealg.MakeNoZero"], unfollowed := true, recurses := true, named := ["weftline/sha.roots", "weftline/sha.cubes", "weftline/weftlineref04.cube"], apart := false, laid := [("weftline/weftlineref04.cube", laid_weftline_weftlineref04_cube), ("weftline/sha.roots", laid_weftline_sha_roots), ("weftline/sha.cubes", laid_weftline_sha_cubes)] }
def MacSumsSaid : Prop := macSumsRow.holds Tryd.pinned (OpenSpec.ofChange macSumsSpec)

/-- ITS FALSE NEIGHBOUR: 'it returns false'. Refute it at one input. -/
def macSumsWrong : ChangeSpec := { name := "macSums", fn := fun _ => fun
  | [d1, d2, d3] => { results := [.lit (.bool false)], args := [d1, d2, d3] }
  | _ => none }
def MacSumsWrongFalsely : Prop := macSumsRow.holds Tryd.pinned (OpenSpec.ofChange macSumsWrong)

/-- 'weftlinelaw05.MacDerives': WHATEVER THE INPUT: true; the input reads as it did. -/
def macDerivesSpec : ChangeSpec := { name := "macDerives", fn := fun _ => fun
  | [d1, d2, d3] => { results := [.lit (.bool true)], args := [d1, d2, d3] }
  | _ => none }
def macDerivesRow : OpenClaim := { program := "ytjmgeelblodcgaadoor", sum := "5c7c587f984f58c32619aa2f5988eb7d3a30cc58d73490d43ec0ec5187561ef0", func := "weftline/weftlinelaw05.MacDerives", spec := "macDerives", inPlace := ["internal/bytealg.MakeNoZero", "internal/bytealg.Compare"], unfollowed := true, recurses := true, named := ["weftline/sha.roots", "weftline/sha.cubes", "weftline/weftlineref04.cube"], apart := false, laid := [("weftline/weftlineref04.cube", laid_weftline_weftlineref04_cube), ("weftline/sha.roots", laid_weftline_sha_roots), ("weftline/sha.cubes", laid_weftline_sha_cubes)] }
def MacDerivesSaid : Prop := macDerivesRow.holds Tryd.pinned (OpenSpec.ofChange macDerivesSpec)

/-- ITS FALSE NEIGHBOUR: 'it returns false'. Refute it at one input. -/
def macDerivesWrong : ChangeSpec := { name := "macDerives", fn := fun _ => fun
  | [d1, d2, d3] => { results := [.lit (.bool false)], args := [d1, d2, d3] }
  | _ => none }
def MacDerivesWrongFalsely : Prop := macDerivesRow.holds Tryd.pinned (OpenSpec.ofChange macDerivesWrong)

/- THE SECOND FORM. 'bulk': how many values and letters a reading holds, each counted each time it is reached (what is shared counts as often as it is met; a slice's spare places count too). A statement '..UptoSaid' is the law's where the arguments, and the package variables that the reading takes, are together of bulk at most 1048576: NARROWER than '..Said'. Prove '..Said' where nothing that the law and all that it calls make is longer than what came in: it says more and counts as full. Else prove '..UptoSaid'. A law counts once. -/
mutual
def uptoBulk {H : Type} : DataW H → Nat
  | .lit (.string bytes) => bytes.length + 1
  | .lit _ => 1
  | .nil => 1
  | .ptr d => uptoBulk d + 1
  | .slice elems spare => uptoBulkAll elems + uptoBulkAll spare + 1
  | .agg parts => uptoBulkAll parts + 1
  | .iface _ d => uptoBulk d + 1
  | .map entries => uptoBulkEntries entries + 1
  | .held _ => 1
def uptoBulkAll {H : Type} : List (DataW H) → Nat
  | [] => 0
  | d :: r => uptoBulk d + uptoBulkAll r
def uptoBulkEntries {H : Type} : List (Lit × DataW H) → Nat
  | [] => 0
  | x :: r => uptoBulkEntry x + uptoBulkEntries r
def uptoBulkEntry {H : Type} : Lit × DataW H → Nat
  | (.string bytes, d) => bytes.length + uptoBulk d + 1
  | (_, d) => uptoBulk d + 1
 end
def uptoSmall : (H : Type) → List (DataW H) → Bool := fun _ ds => decide (uptoBulkAll ds ≤ 1048576)
def OpenSpec.upto (s : _root_.Go.ChangeSpec) : _root_.Go.OpenSpec := { _root_.Go.OpenSpec.ofChange s with cond := some uptoSmall }

/-- 'weftlinelaw04.ShaSums', WHERE WHAT IT READS IS OF BULK AT MOST 1048576: true; the input reads as it did. -/
def shaSumsUptoRow : OpenClaim := { program := "ytjmgeelblodcgaadoor", sum := "5c7c587f984f58c32619aa2f5988eb7d3a30cc58d73490d43ec0ec5187561ef0", func := "weftline/weftlinelaw04.ShaSums", spec := "shaSums", unfollowed := true, recurses := true, named := ["weftline/sha.roots", "weftline/sha.cubes", "weftline/weftlineref04.cube"], apart := false, laid := [("weftline/weftlineref04.cube", laid_weftline_weftlineref04_cube), ("weftline/sha.roots", laid_weftline_sha_roots), ("weftline/sha.cubes", laid_weftline_sha_cubes)], narrowed := true }
def ShaSumsUptoSaid : Prop := shaSumsUptoRow.holds Tryd.pinned (OpenSpec.upto shaSumsSpec)

/-- 'weftlinelaw04.ShaParts', WHERE WHAT IT READS IS OF BULK AT MOST 1048576: true; the input reads as it did. -/
def shaPartsUptoRow : OpenClaim := { program := "ytjmgeelblodcgaadoor", sum := "5c7c587f984f58c32619aa2f5988eb7d3a30cc58d73490d43ec0ec5187561ef0", func := "weftline/weftlinelaw04.ShaParts", spec := "shaParts", unfollowed := true, recurses := true, named := ["weftline/sha.roots", "weftline/sha.cubes"], apart := false, laid := [("weftline/sha.roots", laid_weftline_sha_roots), ("weftline/sha.cubes", laid_weftline_sha_cubes)], narrowed := true }
def ShaPartsUptoSaid : Prop := shaPartsUptoRow.holds Tryd.pinned (OpenSpec.upto shaPartsSpec)

/-- 'weftlinelaw04.ShaCopies', WHERE WHAT IT READS IS OF BULK AT MOST 1048576: true; the input reads as it did. -/
def shaCopiesUptoRow : OpenClaim := { program := "ytjmgeelblodcgaadoor", sum := "5c7c587f984f58c32619aa2f5988eb7d3a30cc58d73490d43ec0ec5187561ef0", func := "weftline/weftlinelaw04.ShaCopies", spec := "shaCopies", unfollowed := true, recurses := true, named := ["weftline/sha.roots", "weftline/sha.cubes"], apart := false, laid := [("weftline/sha.roots", laid_weftline_sha_roots), ("weftline/sha.cubes", laid_weftline_sha_cubes)], narrowed := true }
def ShaCopiesUptoSaid : Prop := shaCopiesUptoRow.holds Tryd.pinned (OpenSpec.upto shaCopiesSpec)

/-- 'weftlinelaw05.MacKeys', WHERE WHAT IT READS IS OF BULK AT MOST 1048576: true; the input reads as it did. -/
def macKeysUptoRow : OpenClaim := { program := "ytjmgeelblodcgaadoor", sum := "5c7c587f984f58c32619aa2f5988eb7d3a30cc58d73490d43ec0ec5187561ef0", func := "weftline/weftlinelaw05.MacKeys", spec := "macKeys", inPlace := ["internal/bytealg.MakeNoZero"], unfollowed := true, recurses := true, named := ["weftline/sha.roots", "weftline/sha.cubes"], apart := false, laid := [("weftline/sha.roots", laid_weftline_sha_roots), ("weftline/sha.cubes", laid_weftline_sha_cubes)], narrowed := true }
def MacKeysUptoSaid : Prop := macKeysUptoRow.holds Tryd.pinned (OpenSpec.upto macKeysSpec)

/-- 'weftlinelaw05.MacChecks', WHERE WHAT IT READS IS OF BULK AT MOST 1048576: true; the input reads as it did. -/
def macChecksUptoRow : OpenClaim := { program := "ytjmgeelblodcgaadoor", sum := "5c7c587f984f58c32619aa2f5988eb7d3a30cc58d73490d43ec0ec5187561ef0", func := "weftline/weftlinelaw05.MacChecks", spec := "macChecks", inPlace := ["internal/bytealg.MakeNoZero"], unfollowed := true, recurses := true, named := ["weftline/sha.roots", "weftline/sha.cubes"], apart := false, laid := [("weftline/sha.roots", laid_weftline_sha_roots), ("weftline/sha.cubes", laid_weftline_sha_cubes)], narrowed := true }
def MacChecksUptoSaid : Prop := macChecksUptoRow.holds Tryd.pinned (OpenSpec.upto macChecksSpec)

/-- 'weftlinelaw05.MacParts', WHERE WHAT IT READS IS OF BULK AT MOST 1048576: true; the input reads as it did. -/
def macPartsUptoRow : OpenClaim := { program := "ytjmgeelblodcgaadoor", sum := "5c7c587f984f58c32619aa2f5988eb7d3a30cc58d73490d43ec0ec5187561ef0", func := "weftline/weftlinelaw05.MacParts", spec := "macParts", inPlace := ["internal/bytealg.MakeNoZero"], unfollowed := true, recurses := true, named := ["weftline/sha.roots", "weftline/sha.cubes"], apart := false, laid := [("weftline/sha.roots", laid_weftline_sha_roots), ("weftline/sha.cubes", laid_weftline_sha_cubes)], narrowed := true }
def MacPartsUptoSaid : Prop := macPartsUptoRow.holds Tryd.pinned (OpenSpec.upto macPartsSpec)

/-- 'weftlinelaw05.MacSums', WHERE WHAT IT READS IS OF BULK AT MOST 1048576: true; the input reads as it did. -/
def macSumsUptoRow : OpenClaim := { program := "ytjmgeelblodcgaadoor", sum := "5c7c587f984f58c32619aa2f5988eb7d3a30cc58d73490d43ec0ec5187561ef0", func := "weftline/weftlinelaw05.MacSums", spec := "macSums", inPlace := ["internal/bytealg.MakeNoZero"], unfollowed := true, recurses := true, named := ["weftline/sha.roots", "weftline/sha.cubes", "weftline/weftlineref04.cube"], apart := false, laid := [("weftline/weftlineref04.cube", laid_weftline_weftlineref04_cube), ("weftline/sha.roots", laid_weftline_sha_roots), ("weftline/sha.cubes", laid_weftline_sha_cubes)], narrowed := true }
def MacSumsUptoSaid : Prop := macSumsUptoRow.holds Tryd.pinned (OpenSpec.upto macSumsSpec)

/-- 'weftlinelaw05.MacDerives', WHERE WHAT IT READS IS OF BULK AT MOST 1048576: true; the input reads as it did. -/
def macDerivesUptoRow : OpenClaim := { program := "ytjmgeelblodcgaadoor", sum := "5c7c587f984f58c32619aa2f5988eb7d3a30cc58d73490d43ec0ec5187561ef0", func := "weftline/weftlinelaw05.MacDerives", spec := "macDerives", inPlace := ["internal/bytealg.MakeNoZero", "internal/bytealg.Compare"], unfollowed := true, recurses := true, named := ["weftline/sha.roots", "weftline/sha.cubes", "weftline/weftlineref04.cube"], apart := false, laid := [("weftline/weftlineref04.cube", laid_weftline_weftlineref04_cube), ("weftline/sha.roots", laid_weftline_sha_roots), ("weftline/sha.cubes", laid_weftline_sha_cubes)], narrowed := true }
def MacDerivesUptoSaid : Prop := macDerivesUptoRow.holds Tryd.pinned (OpenSpec.upto macDerivesSpec)

end Rows
end Go.Proofs.YtjmgeelblodcgaaDoor
