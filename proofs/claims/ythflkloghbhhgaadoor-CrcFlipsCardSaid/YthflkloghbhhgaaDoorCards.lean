/-
  DERIVED. GIVEN WITH THE SEED: THE CARDS: each row of YthflkloghbhhgaaDoorRows.lean that lists a variable, with what it lists TIED to the program's text (the seventh form; the later family's looks); each row that meets fmt, with fmt's text TOLD by the authors' own Lean function (tested against real Go, not proved from fmt's source: count such statements apart). THE CARD IS WHAT COUNTS. Prove the row's statement (the work); the ties are given (YthflkloghbhhgaaDoorTie.lean); close each card by the builder's one call (the guide's Derived/Test/ToyasCard.lean, 'card_holds'). Laid BY PROGRAM, IN A SANDBOX (cutbox-door.mjs). By AI agents, Wed Nov 11 2026. No macro, syntax, notation, axiom, sorry.
-/
import Derived.Test.YthflkloghbhhgaaDoorRows
import GoSem.ClaimSeven
namespace Go.Proofs.YthflkloghbhhgaaDoor
namespace Rows

/-- THE TIED CARD OF 'weftlinelaw01.CrcParts'. -/
def crcPartsCard : Claim7 := { stood := { row := crcPartsRow, standIns := [], harness := (true, "83911954b4856f4813ecb8d481419ac576e6bab7beda34910b584190796e431f"), looks := false }, kinds := [], alts := [], laidByText := true, laidKinds := [.data], laidTests := true, laidLooks := .later }
def CrcPartsCardSaid : Prop := Claim7.holds Tryd.pinned (.plain (OpenSpec.ofChange crcPartsSpec)) crcPartsCard

/-- THE TIED CARD OF 'weftlinelaw01.CrcSums'. -/
def crcSumsCard : Claim7 := { stood := { row := crcSumsRow, standIns := [], harness := (true, "83911954b4856f4813ecb8d481419ac576e6bab7beda34910b584190796e431f"), looks := false }, kinds := [], alts := [], laidByText := true, laidKinds := [.data], laidTests := true, laidLooks := .later }
def CrcSumsCardSaid : Prop := Claim7.holds Tryd.pinned (.plain (OpenSpec.ofChange crcSumsSpec)) crcSumsCard

/-- THE TIED CARD OF 'weftlinelaw01.CrcFlips'. -/
def crcFlipsCard : Claim7 := { stood := { row := crcFlipsRow, standIns := [], harness := (true, "83911954b4856f4813ecb8d481419ac576e6bab7beda34910b584190796e431f"), looks := false }, kinds := [], alts := [], laidByText := true, laidKinds := [.data], laidTests := true, laidLooks := .later }
def CrcFlipsCardSaid : Prop := Claim7.holds Tryd.pinned (.plain (OpenSpec.ofChange crcFlipsSpec)) crcFlipsCard

/-- THE SECOND FORM's CARD OF 'weftlinelaw01.CrcParts'. -/
def crcPartsUptoCard : Claim7 := { stood := { row := crcPartsUptoRow, standIns := [], harness := (true, "83911954b4856f4813ecb8d481419ac576e6bab7beda34910b584190796e431f"), looks := false }, kinds := [], alts := [], laidByText := true, laidKinds := [.data], laidTests := true, laidLooks := .later }
def CrcPartsUptoCardSaid : Prop := Claim7.holds Tryd.pinned (.plain (OpenSpec.upto crcPartsSpec)) crcPartsUptoCard

/-- THE SECOND FORM's CARD OF 'weftlinelaw01.CrcSums'. -/
def crcSumsUptoCard : Claim7 := { stood := { row := crcSumsUptoRow, standIns := [], harness := (true, "83911954b4856f4813ecb8d481419ac576e6bab7beda34910b584190796e431f"), looks := false }, kinds := [], alts := [], laidByText := true, laidKinds := [.data], laidTests := true, laidLooks := .later }
def CrcSumsUptoCardSaid : Prop := Claim7.holds Tryd.pinned (.plain (OpenSpec.upto crcSumsSpec)) crcSumsUptoCard

/-- THE SECOND FORM's CARD OF 'weftlinelaw01.CrcFlips'. -/
def crcFlipsUptoCard : Claim7 := { stood := { row := crcFlipsUptoRow, standIns := [], harness := (true, "83911954b4856f4813ecb8d481419ac576e6bab7beda34910b584190796e431f"), looks := false }, kinds := [], alts := [], laidByText := true, laidKinds := [.data], laidTests := true, laidLooks := .later }
def CrcFlipsUptoCardSaid : Prop := Claim7.holds Tryd.pinned (.plain (OpenSpec.upto crcFlipsSpec)) crcFlipsUptoCard
end Rows
end Go.Proofs.YthflkloghbhhgaaDoor
