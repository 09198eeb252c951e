import Derived.Test.YthflkloghbhhgaaDoorCrB
import Derived.WalkSpells
import Derived.WalkLawsBesides
import Derived.Outline
import Derived.Deep.QuietTactic
import Derived.BigQuiet
/- The walk of the matrix on a register. -/
namespace Go.Proofs.YthflkloghbhhgaaDoor.Cr
open Go.RowKit Go.Proofs.YthflkloghbhhgaaDoorW.PrintWords Go.Proofs.YthflkloghbhhgaaDoorW.PrintMore Go.Proofs.YthflkloghbhhgaaDoor.Sh
set_option linter.unusedVariables false
set_option linter.unusedSimpArgs false
/-- A matrix's row. -/
def mr (m : List Nat) (k : Nat) : Nat := m.getD k 0
/-- What the first k rows of a matrix make of a register. -/
def ofN (m : List Nat) (c : Nat) : Nat → Nat
  | 0 => 0
  | k + 1 => if c / 2 ^ k % 2 = 1 then ofN m c k ^^^ mr m k else ofN m c k
/-- A matrix in memory, of which we know all but what lies behind the first cells. -/
def MatAt (w : World) (b : Nat) (m : List Nat) : Prop := ∀ k, k < 32 → w.cell? ⟨b, k, none⟩ = some (.int .u32 (mr m k : Nat)) ∧ w.frozen? ⟨b, k, none⟩ = false
def Good (m : List Nat) : Prop := ∀ k, mr m k < 4294967296
theorem ofN_lt {m : List Nat} (hm : Good m) (c k : Nat) : ofN m c k < 4294967296 := by
  induction k with
  | zero => exact (by decide : 0 < 4294967296)
  | succ k ih => unfold ofN; split; exact xor_lt32 ih (hm k); exact ih
theorem bit_facts (c k : Nat) (hc : c < 4294967296) : bits .and .u32 ((c : Int) / 2 ^ k) 1 = ((c / 2 ^ k % 2 : Nat) : Int) := by
  have h := and32 (c / 2 ^ k) 1 (Nat.lt_of_le_of_lt (Nat.div_le_self _ _) hc) (by decide)
  have e : ((c : Int) / 2 ^ k) = ((c / 2 ^ k : Nat) : Int) := by rw [Int.natCast_ediv, Int.natCast_pow]; rfl
  rw [e]
  exact h
set_option maxRecDepth 100000 in
theorem of_calls (w : World) (b : Nat) (m : List Nat) (hm : MatAt w b m) (hg : Good m) (c : Nat) (hc : c < 4294967296) :
    Calls Tryd.prog 20 #[.pointer (some ⟨b, 0, none⟩), .int .u32 c] w fun e w' => e = .returned (.int .u32 (ofN m c 32 : Nat)) ∧ w' = w := by
  have HM := Aside0.mk hm
  have HG := Aside0.mk hg
  have HB := Aside0.mk hc
  clear hg hm hc
  go_enter Tryd.func20, Tryd.ntmps20
  go_wp2_with fail
  go_loop [5, 7] (fun v i => ∃ k : Nat, k ≤ 32 ∧ i = .int .i64 k ∧ v = .int .u32 (ofN m c k : Nat)) (fun _ i => 32 - (intOf i).toNat)
  case atStart => exact ⟨0, Nat.zero_le _, rfl, rfl⟩
  case round =>
    obtain ⟨k, hk, rfl, rfl⟩ := hrel
    by_cases hlt : k < 32
    · have hcell := (HM.out k hlt).1
      have hb := bit_facts c k HB.out
      have hx := xor32 (ofN m c k) (mr m k) (ofN_lt HG.out c k) (HG.out k)
      have HE := Aside0.mk (show ofN m c (k + 1) = if c / 2 ^ k % 2 = 1 then ofN m c k ^^^ mr m k else ofN m c k from rfl)
      by_cases h1 : c / 2 ^ k % 2 = 1
      · rw [h1] at hb
        have HE := Aside0.mk (HE.out.trans (if_pos h1))
        clear h1
        go_wp2_with fail
        go_round
        case rel => exact ⟨k + 1, by omega, by go_num, by rw [HE.out]⟩
        case measure => simp [intOf]; omega
      · obtain h0 : c / 2 ^ k % 2 = 0 := by omega
        rw [h0] at hb
        have HE := Aside0.mk (HE.out.trans (if_neg h1))
        clear h1 h0
        go_wp2_with fail
        go_round
        case rel => exact ⟨k + 1, by omega, by go_num, by rw [HE.out]⟩
        case measure => simp [intOf]; omega
    · obtain rfl : k = 32 := by omega
      go_wp2_with fail
      go_ret
      exact ⟨rfl, rfl⟩
end Go.Proofs.YthflkloghbhhgaaDoor.Cr
