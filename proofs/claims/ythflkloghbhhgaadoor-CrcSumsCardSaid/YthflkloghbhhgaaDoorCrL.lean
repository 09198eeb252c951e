import Derived.Test.YthflkloghbhhgaaDoorCrK
import Derived.Test.YthflkloghbhhgaaDoorPAllx2
/- The reference's sum, a sum's bytes: the plain laws. -/
namespace Go.Proofs.YthflkloghbhhgaaDoor.Cr
open Go.RowKit Go.Proofs.YthflkloghbhhgaaDoorW.PrintWords Go.Proofs.YthflkloghbhhgaaDoorW.PrintLast Go.Proofs.YthflkloghbhhgaaDoorW.PrintMore Go.Proofs.YthflkloghbhhgaaDoor.Sh Go.Proofs.YthflkloghbhhgaaDoor.PAll
set_option linter.unusedVariables false
set_option linter.unusedSimpArgs false
theorem w64 (a : Int) (h0 : 0 ≤ a) (h1 : a < 4611686018427387904) : wrap64 a = a := by unfold wrap64; omega
theorem it_front (f : Nat → Nat) (n x : Nat) : it f (n + 1) x = it f n (f x) := by
  rw [Nat.add_comm, it_add]
  rfl
theorem half_int (c : Nat) (h : c < 4294967296) : (Int.tdiv (c : Int) 2) % 4294967296 = ((c / 2 : Nat) : Int) := by
  rw [Int.tdiv_eq_ediv_of_nonneg (by omega)]
  omega
theorem ref_l1 (l : List Int) (x4 : Int) (f : Nat) : ∀ n j c : Nat, n + j = 8 → c < 4294967296 → weftlineref01_Sum.l1 (n + 1 + f) l (c : Int) x4 (j : Int) = weftlineref01_Sum.l0 f l ((it st n c : Nat) : Int) (wrap64 (x4 + 1))
  | 0, j, c, h, _ => by
    rw [show 0 + 1 + f = f + 1 by omega, weftlineref01_Sum.l1, if_neg (by omega)]
    rfl
  | n + 1, j, c, h, hc => by
    have ih := ref_l1 l x4 f n (j + 1) (st c) (by omega) (st_lt hc)
    have e1 : wrap64 ((j : Int) + 1) = ((j + 1 : Nat) : Int) := by rw [w64 _ (by omega) (by omega)]; omega
    have hh := half_int c hc
    have hm : Int.tmod (c : Int) 2 = ((c % 2 : Nat) : Int) := by rw [Int.tmod_eq_emod_of_nonneg (by omega)]; omega
    rw [show n + 1 + 1 + f = (n + 1 + f) + 1 by omega, weftlineref01_Sum.l1, if_pos (by omega), e1, hh, hm, it_front, ← ih]
    have hc2 : c / 2 < 4294967296 := by omega
    by_cases h2 : c % 2 = 1
    · rw [if_pos (by rw [h2]; rfl)]
      have hx := xor32 (c / 2) 2197175160 hc2 (by decide)
      rw [show ((2197175160 : Nat) : Int) = 2197175160 from rfl] at hx
      rw [hx]
      unfold st
      rw [if_pos h2]
    · rw [if_neg (by intro e; exact h2 (by omega))]
      unfold st
      rw [if_neg h2, Nat.xor_zero]
theorem ref_l0 {l : List Int} (hb : Bytes l) (hl : l.length ≤ 1000000) : ∀ n i c : Nat, i + n = l.length → c < 4294967296 → weftlineref01_Sum.l0 (10 * n + 1) l (c : Int) (i : Int) = some ((4294967295 - ((run c (l.drop i) : Nat) : Int)) % 4294967296)
  | 0, i, c, h, _ => by
    rw [show 10 * 0 + 1 = 0 + 1 from rfl, weftlineref01_Sum.l0, if_neg (by omega), List.drop_eq_nil_of_le (show l.length ≤ i by omega)]
    rfl
  | n + 1, i, c, h, hc => by
    have hi : i < l.length := by omega
    have hrd : rd l (i : Int) = (bt l i : Nat) := by
      have := bt_eq hb i
      unfold rd
      rw [Int.toNat_natCast]
      exact this
    have hby := bt_lt hb i
    have hm : ((bt l i : Nat) : Int) % 4294967296 = ((bt l i : Nat) : Int) := by omega
    have hcx : c ^^^ bt l i < 4294967296 := xor_lt32 hc (by omega)
    have ih := ref_l0 hb hl n (i + 1) (it st 8 (c ^^^ bt l i)) (by omega) (it_lt (fun c h => st_lt h) 8 hcx)
    have h1 := ref_l1 l (i : Int) (10 * n + 1) 8 0 (c ^^^ bt l i) rfl hcx
    have e1 : wrap64 ((i : Int) + 1) = ((i + 1 : Nat) : Int) := by rw [w64 _ (by omega) (by omega)]; omega
    rw [show 10 * (n + 1) + 1 = (8 + 1 + (10 * n + 1)) + 1 by omega, weftlineref01_Sum.l0, if_pos (by omega), if_pos (by omega), hrd, hm, xor32 c _ hc (by omega)]
    rw [e1] at h1
    refine h1.trans (ih.trans ?_)
    rw [List.drop_eq_getElem_cons hi]
    show _ = some ((4294967295 - ((run (byt c l[i]) (l.drop (i + 1)) : Nat) : Int)) % 4294967296)
    rw [byt_eq]
    have : l[i].toNat = bt l i := by
      unfold bt
      rw [List.getD_eq_getElem?_getD, List.getElem?_eq_getElem hi, Option.getD_some]
    rw [this]
theorem not32 (t : Nat) (h : t < 4294967296) : 4294967295 ^^^ t = 4294967295 - t := by
  have h1 := BitVec.toNat_not (x := BitVec.ofNat 32 t)
  have h2 : (BitVec.allOnes 32 ^^^ BitVec.ofNat 32 t) = ~~~ (BitVec.ofNat 32 t) := by rw [BitVec.allOnes_xor]
  rw [← h2, BitVec.toNat_xor, BitVec.toNat_allOnes, BitVec.toNat_ofNat, Nat.mod_eq_of_lt (by omega)] at h1
  simpa using h1
theorem ref_sum {l : List Int} (hb : Bytes l) (hl : l.length ≤ 1000000) : weftlineref01_Sum.f (10 * l.length + 1) l = some ((sum [l] : Nat) : Int) := by
  unfold weftlineref01_Sum.f
  have h := ref_l0 hb hl l.length 0 4294967295 (by omega) (by decide)
  have hr : run 4294967295 l < 4294967296 := run_lt l (by decide) (bytes_nat hb)
  refine h.trans ?_
  rw [List.drop_zero, sum_one, not32 _ hr]
  congr 1
  omega
theorem ref_bytes (s : Nat) (hs : s < 4294967296) : weftlineref01_Bytes.f (s : Int) = some (p4 s 4) := by
  unfold weftlineref01_Bytes.f
  have e : p4 s 4 = [((s / 2 ^ 0 % 256 : Nat) : Int), ((s / 2 ^ 8 % 256 : Nat) : Int), ((s / 2 ^ 16 % 256 : Nat) : Int), ((s / 2 ^ 24 % 256 : Nat) : Int)] := rfl
  rw [e, Int.tmod_eq_emod_of_nonneg (by omega), Int.tdiv_eq_ediv_of_nonneg (by omega), Int.tdiv_eq_ediv_of_nonneg (by omega), Int.tdiv_eq_ediv_of_nonneg (by omega)]
  congr 1
  simp only [Nat.pow_zero, Nat.div_one, show (2 : Nat) ^ 8 = 256 from rfl, show (2 : Nat) ^ 16 = 65536 from rfl, show (2 : Nat) ^ 24 = 16777216 from rfl]
  have a0 : (s : Int) % 256 % 256 = ((s % 256 : Nat) : Int) := by omega
  have a1 : (s : Int) / 256 % 4294967296 % 256 = ((s / 256 % 256 : Nat) : Int) := by omega
  have a2 : (s : Int) / 65536 % 4294967296 % 256 = ((s / 65536 % 256 : Nat) : Int) := by omega
  have a3 : (s : Int) / 16777216 % 4294967296 % 256 = ((s / 16777216 % 256 : Nat) : Int) := by omega
  rw [a0, a1, a2, a3]
end Go.Proofs.YthflkloghbhhgaaDoor.Cr
