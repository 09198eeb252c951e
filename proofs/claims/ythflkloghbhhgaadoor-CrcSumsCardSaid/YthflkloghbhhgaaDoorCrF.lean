import Derived.Test.YthflkloghbhhgaaDoorCrE
/- The walk of Join: a matrix to the power of so many bytes. -/
namespace Go.Proofs.YthflkloghbhhgaaDoor.Cr
open Go.RowKit Go.Proofs.YthflkloghbhhgaaDoorW.PrintWords Go.Proofs.YthflkloghbhhgaaDoorW.PrintMore Go.Proofs.YthflkloghbhhgaaDoor.Sh
set_option linter.unusedVariables false
set_option linter.unusedSimpArgs false
theorem good_of (f : Nat → Nat) (h : ∀ i, i < 32 → f i < 4294967296) : Good ((List.range 32).map f) := by
  intro k
  unfold mr
  rw [List.getD_eq_getElem?_getD]
  by_cases hk : k < 32
  · rw [List.getElem?_eq_getElem (by simpa using hk)]; simpa using h k hk
  · rw [List.getElem?_eq_none (by simpa using hk)]; decide
theorem good_bit : Good (bitN 32) := by
  apply good_of
  have : ∀ j : Fin 32, (if j.1 = 0 then 2197175160 else if j.1 < 32 then 2 ^ (j.1 - 1) else 0) < 4294967296 := by decide
  exact fun i hi => this ⟨i, hi⟩
theorem good_tw (m : List Nat) (hg : Good m) : Good (twN m 32) := good_of _ (fun i hi => by rw [if_pos hi]; exact ofN_lt hg _ _)
/-- The matrix, twice so and so often. -/
def pw (m : List Nat) : Nat → List Nat
  | 0 => m
  | k + 1 => twN (pw m k) 32
theorem good_pw {m : List Nat} (hg : Good m) (k : Nat) : Good (pw m k) := by
  induction k with
  | zero => exact hg
  | succ k ih => exact good_tw _ ih
/-- A register, by the bits of a number. -/
def joinF : Nat → List Nat → Nat → Nat → Nat
  | 0, _, a, _ => a
  | f + 1, m, a, k => if k = 0 then a else joinF f (twN m 32) (if k % 2 = 1 then ofN m a 32 else a) (k / 2)
theorem join_lt : ∀ (f : Nat) (m : List Nat) (a k : Nat), Good m → a < 4294967296 → joinF f m a k < 4294967296
  | 0, _, _, _, _, h => h
  | f + 1, m, a, k, hg, h => by
    unfold joinF
    split
    · exact h
    · exact join_lt f _ _ _ (good_tw m hg) (by split; exact ofN_lt hg _ _; exact h)
theorem and64 (j : Nat) (hj : j < 4294967296) : bits .and .i64 (j : Int) 1 = ((j % 2 : Nat) : Int) := by
  have e : bits .and .i64 (j : Int) 1 = IntKind.i64.wrap ((BitVec.ofInt 64 (j : Int) &&& BitVec.ofInt 64 1).toNat : Int) := rfl
  have e2 : (BitVec.ofInt 64 (j : Int) &&& BitVec.ofInt 64 1).toNat = j % 2 := by
    rw [BitVec.toNat_and]
    simp only [BitVec.toNat_ofInt]
    rw [show (((j : Int) % ((2 ^ 64 : Nat) : Int)).toNat) = j by omega, show (((1 : Int) % ((2 ^ 64 : Nat) : Int)).toNat) = 2 ^ 1 - 1 by decide]
    exact Nat.and_two_pow_sub_one_eq_mod j 1
  rw [e, e2]
  have : j % 2 < 2 := Nat.mod_lt _ (by decide)
  generalize j % 2 = r at this
  have : ∀ r : Fin 2, IntKind.i64.wrap (r.1 : Int) = r.1 := by decide
  exact this ⟨r, by assumption⟩
set_option maxRecDepth 100000 in
theorem join_calls (w : World) (a b : Nat) (ha : a < 4294967296) (hb : b < 4294967296) (n : Nat) (hn : n < 1048576) :
    Calls Tryd.prog 8 #[.int .u32 a, .int .u32 b, .int .i64 n] w fun e w' => e = .returned (.int .u32 (joinF 21 (pw (bitN 32) 3) a n ^^^ b : Nat)) ∧ Below w.heap.size w w' := by
  have HA := Aside0.mk ha
  have HB := Aside0.mk hb
  clear ha hb
  obtain ⟨R, hR⟩ : ∃ R, R = joinF 21 (pw (bitN 32) 3) a n := ⟨_, rfl⟩
  rw [← hR]
  have HR := Aside0.mk hR
  clear hR
  go_enter Tryd.func8, Tryd.ntmps8
  go_wp2_with fail
  refine (bit_calls w).mono ?_
  rintro e w1 ⟨rfl, hM, hB⟩
  have HM1 := Aside0.mk hM
  have HB1 := Aside0.mk hB
  clear hM hB
  go_wp2_with fail
  go_loopw [7, 10] (fun p i wr => ∃ k g : Nat, k ≤ 3 ∧ i = .int .i64 k ∧ p = .pointer (some ⟨g, 0, none⟩) ∧ Aside0 (MB wr g (pw (bitN 32) k)) ∧ Aside0 (Below w.heap.size w wr)) (fun _ i _ => 3 - (intOf i).toNat)
  case atStart => exact ⟨0, _, by decide, rfl, rfl, HM1, HB1⟩
  case round =>
    obtain ⟨k, g, hk, rfl, rfl, HM, HB2⟩ := hrel
    by_cases hlt : k < 3
    · have HT := Aside0.mk (twice_calls wr g _ HM.out (good_pw good_bit k))
      go_wp2_with (first | (go_at_call 19; refine HT.out.mono ?_; rintro e w3 ⟨rfl, hM, hB⟩; have HM3 := Aside0.mk hM; have HB3 := Aside0.mk hB; clear hM hB))
      go_roundw
      case rel => exact ⟨k + 1, _, by omega, by go_num, rfl, HM3, ⟨HB2.out.trans (HB3.out.mono HB2.out.size)⟩⟩
      case measure => simp [intOf]; omega
    · obtain rfl : k = 3 := by omega
      simp only [show ((3 : Nat) : Int) = 3 from rfl]
      by_cases hn0 : 0 < n
      · have hq := Aside0.mk (and64 n (by omega))
        go_wp2_with fail
        go_loopw [0, 7, 8] (fun av p i wr => ∃ (j f g a' : Nat) (M : List Nat), f ≤ 21 ∧ j < 2 ^ f ∧ i = .int .i64 j ∧ av = .int .u32 a' ∧ p = .pointer (some ⟨g, 0, none⟩) ∧ Aside0 (MB wr g M) ∧ Aside0 (Good M ∧ a' < 4294967296 ∧ joinF f M a' j = R) ∧ Aside0 (Below w.heap.size w wr)) (fun _ _ i _ => (intOf i).toNat)
        case atStart => exact ⟨n, 21, g, a, _, by decide, by omega, rfl, rfl, rfl, HM, ⟨good_pw good_bit 3, HA.out, HR.out.symm⟩, HB2⟩
        case round =>
          obtain ⟨j, f, g, a', M, hf, hj, rfl, rfl, rfl, HM, HJ, HB3⟩ := hrel
          by_cases hj0 : 0 < j
          · obtain ⟨f, rfl⟩ : ∃ f', f = f' + 1 := by
              cases f with
              | zero => omega
              | succ f' => exact ⟨f', rfl⟩
            have hj2 : j < 2097152 := Nat.lt_of_lt_of_le hj (Nat.pow_le_pow_right (by decide) hf : 2 ^ (f + 1) ≤ 2 ^ 21)
            have hjf : j / 2 < 2 ^ f := by rw [Nat.pow_succ] at hj; omega
            have hj3 : (j : Int) < 2097152 := by omega
            have HJ2 := Aside0.mk (show joinF f (twN M 32) (if j % 2 = 1 then ofN M a' 32 else a') (j / 2) = R from (by rw [← HJ.out.2.2]; conv => rhs; unfold joinF; rw [if_neg (by omega)]))
            have hb := and64 j (by omega)
            have HT := Aside0.mk (twice_calls wr g M HM.out HJ.out.1)
            have hf2 : f ≤ 21 := by omega
            clear hj hf
            by_cases h1 : j % 2 = 1
            · rw [h1] at hb
              rw [if_pos h1] at HJ2
              have HO := Aside0.mk (of_calls wr g M HM.out.at HJ.out.1 a' HJ.out.2.1)
              clear h1
              go_wp2_with (first | (go_at_call 20; refine HO.out.mono ?_; rintro e w3 ⟨rfl, rfl⟩) | (go_at_call 19; refine HT.out.mono ?_; rintro e w3 ⟨rfl, hM, hB⟩; have HM3 := Aside0.mk hM; have HB3' := Aside0.mk hB; clear hM hB))
              go_roundw
              case rel => exact ⟨j / 2, f, _, _, _, hf2, hjf, by go_num, rfl, rfl, HM3, ⟨good_tw M HJ.out.1, ofN_lt HJ.out.1 _ _, HJ2.out⟩, ⟨HB3.out.trans (HB3'.out.mono HB3.out.size)⟩⟩
              case measure => simp [intOf]; omega
            · have h0 : j % 2 = 0 := by omega
              rw [h0] at hb
              rw [if_neg h1] at HJ2
              clear h1 h0
              go_wp2_with (first | (go_at_call 19; refine HT.out.mono ?_; rintro e w3 ⟨rfl, hM, hB⟩; have HM3 := Aside0.mk hM; have HB3' := Aside0.mk hB; clear hM hB))
              go_roundw
              case rel => exact ⟨j / 2, f, _, _, _, hf2, hjf, by go_num, rfl, rfl, HM3, ⟨good_tw M HJ.out.1, HJ.out.2.1, HJ2.out⟩, ⟨HB3.out.trans (HB3'.out.mono HB3.out.size)⟩⟩
              case measure => simp [intOf]; omega
          · obtain rfl : j = 0 := by omega
            have hR : a' = R := by
              have := HJ.out.2.2
              cases f with
              | zero => exact this
              | succ f' => unfold joinF at this; exact this
            subst hR
            have hx := xor32 a' b HJ.out.2.1 HB.out
            go_wp2_with fail
            go_ret
            exact ⟨rfl, HB3.out⟩
      · obtain rfl : n = 0 := by omega
        have hR : R = a := HR.out
        clear HR; subst hR
        have hx := xor32 _ b HA.out HB.out
        go_wp2_with fail
        go_loopw [0, 7, 8] (fun av p i wr => av = .int .u32 R ∧ i = .int .i64 0 ∧ Aside0 (Below w.heap.size w wr)) (fun _ _ i _ => (intOf i).toNat)
        case atStart => exact ⟨rfl, rfl, HB2⟩
        case round =>
          obtain ⟨rfl, rfl, HB3⟩ := hrel
          go_wp2_with fail
          go_ret
          exact ⟨rfl, HB3.out⟩
end Go.Proofs.YthflkloghbhhgaaDoor.Cr
