import Derived.Test.YthflkloghbhhgaaDoorSh
/- Check sums in plain numbers: a register of 32 bits, four bits a step. -/
namespace Go.Proofs.YthflkloghbhhgaaDoor.Cr
open Go.RowKit Go.Proofs.YthflkloghbhhgaaDoorW.PrintWords Go.Proofs.YthflkloghbhhgaaDoorW.PrintMore Go.Proofs.YthflkloghbhhgaaDoor.Sh
set_option linter.unusedVariables false
set_option linter.unusedSimpArgs false
/-- The table of sixteen. -/
def H : List Nat := [0, 274646895, 549293790, 820201905, 1098587580, 1361435347, 1640403810, 1905808397, 2197175160, 2460548119, 2722870694, 2987750089, 3280807620, 3553878443, 3811616794, 4084100981]
def hv (k : Nat) : Nat := H.getD k 0
/-- Four bits more. -/
def nib (c : Nat) : Nat := (c / 16) ^^^ hv (c % 16)
/-- A byte more. -/
def byt (c : Nat) (x : Int) : Nat := nib (nib (c ^^^ x.toNat))
/-- A text more. -/
def run (c : Nat) (l : List Int) : Nat := l.foldl byt c
theorem run_nil (c : Nat) : run c [] = c := rfl
theorem run_append (c : Nat) (a b : List Int) : run c (a ++ b) = run (run c a) b := by simp [run, List.foldl_append]
theorem hv_lt (k : Nat) : hv k < 4294967296 := by
  unfold hv
  by_cases h : k < 16
  · have : ∀ j : Fin 16, H.getD j.1 0 < 4294967296 := by decide
    exact this ⟨k, h⟩
  · rw [List.getD_eq_getElem?_getD, List.getElem?_eq_none (by simp [H]; omega)]; decide
theorem xor_lt32 {a b : Nat} (ha : a < 4294967296) (hb : b < 4294967296) : a ^^^ b < 4294967296 := Nat.xor_lt_two_pow (n := 32) ha hb
theorem nib_lt {c : Nat} (h : c < 4294967296) : nib c < 4294967296 := xor_lt32 (by omega) (hv_lt _)
theorem byt_lt {c : Nat} {x : Int} (h : c < 4294967296) (hx : x.toNat < 256) : byt c x < 4294967296 := nib_lt (nib_lt (xor_lt32 h (by omega)))
theorem run_lt {c : Nat} (l : List Int) (h : c < 4294967296) (hl : ∀ x ∈ l, x.toNat < 256) : run c l < 4294967296 := by
  induction l generalizing c with
  | nil => exact h
  | cons x r ih => exact ih (byt_lt h (hl x (by simp))) (fun y hy => hl y (by simp [hy]))
/-- The model's exclusive or of two of 32 bits. -/
theorem xor32 (a b : Nat) (ha : a < 4294967296) (hb : b < 4294967296) : bits .xor .u32 (a : Int) (b : Int) = ((a ^^^ b : Nat) : Int) := by
  have h := xor_lt32 ha hb
  have e : bits .xor .u32 (a : Int) (b : Int) = IntKind.u32.wrap ((BitVec.ofInt 32 (a : Int) ^^^ BitVec.ofInt 32 (b : Int)).toNat : Int) := rfl
  rw [e]
  have e2 : (BitVec.ofInt 32 (a : Int) ^^^ BitVec.ofInt 32 (b : Int)).toNat = a ^^^ b := by
    rw [BitVec.toNat_xor]
    simp [BitVec.toNat_ofInt]
    rw [Nat.mod_eq_of_lt ha, Nat.mod_eq_of_lt hb]
  rw [e2]
  show ((a ^^^ b : Nat) : Int) % 4294967296 = _
  omega
/-- The model's 'and' with one less than a power of two. -/
theorem and32 (a j : Nat) (ha : a < 4294967296) (hj : j ≤ 32) : bits .and .u32 (a : Int) ((2 ^ j - 1 : Nat) : Int) = ((a % 2 ^ j : Nat) : Int) := by
  have hp : 2 ^ j ≤ 2 ^ 32 := Nat.pow_le_pow_right (by decide) hj
  have hq : 0 < 2 ^ j := Nat.two_pow_pos j
  have h : a % 2 ^ j < 4294967296 := Nat.lt_of_le_of_lt (Nat.mod_le _ _) ha
  have e : bits .and .u32 (a : Int) ((2 ^ j - 1 : Nat) : Int) = IntKind.u32.wrap ((BitVec.ofInt 32 (a : Int) &&& BitVec.ofInt 32 ((2 ^ j - 1 : Nat) : Int)).toNat : Int) := rfl
  rw [e]
  have e2 : (BitVec.ofInt 32 (a : Int) &&& BitVec.ofInt 32 ((2 ^ j - 1 : Nat) : Int)).toNat = a % 2 ^ j := by
    rw [BitVec.toNat_and]
    simp only [BitVec.toNat_ofInt]
    rw [show (((a : Int) % ((2 ^ 32 : Nat) : Int)).toNat) = a by omega, show ((((2 ^ j - 1 : Nat) : Int) % ((2 ^ 32 : Nat) : Int)).toNat) = 2 ^ j - 1 by omega]
    exact Nat.and_two_pow_sub_one_eq_mod a j
  rw [e2]
  show ((a % 2 ^ j : Nat) : Int) % 4294967296 = _
  omega
/-- The table, where it lies. -/
def Tab (w : World) : Prop := ∀ k, k < 16 → w.cell? ⟨0, k, none⟩ = some (.int .u32 (hv k : Int))
end Go.Proofs.YthflkloghbhhgaaDoor.Cr
