import Derived.Test.YthflkloghbhhgaaRowH
import Derived.Test.YthflkloghbhhgaaRowN
namespace Go.Proofs.Ythflkloghbhhgaa.Rw
open Go.RowKit Go.Proofs.YthflkloghbhhgaaW.PrintWords Go.Proofs.YthflkloghbhhgaaW.PrintMore Go.Proofs.Ythflkloghbhhgaa.Sh Go.Proofs.Ythflkloghbhhgaa.PAll
open Go.Proofs.Ythflkloghbhhgaa.Rs (chg_below alive_row Yes)
set_option linter.unusedVariables false
set_option linter.unusedSimpArgs false
/-- What of the first k things there is room for. -/
def capped (l : List Int) (mo : Int) (k : Nat) : List Int := (l.take k).take mo.toNat
theorem capped_zero (l : List Int) (mo : Int) : capped l mo 0 = [] := by simp [capped]
theorem capped_len (l : List Int) (mo : Int) (k : Nat) (h : 0 ≤ mo) : ((capped l mo k).length : Int) ≤ mo := by simp [capped]; omega
theorem capped_succ (l : List Int) (mo : Int) (k : Nat) (h : 1 ≤ mo) (hk : k < l.length) (y : Int) (hy : rd l k = y) :
    capped l mo (k + 1) = if ((capped l mo k).length : Int) < mo then capped l mo k ++ [y] else capped l mo k := by
  have he : l.take (k + 1) = l.take k ++ [y] := by
    rw [List.take_succ_eq_append_getElem hk]
    have : l[k] = y := by rw [← hy]; unfold rd; simp [List.getD_eq_getElem?_getD, List.getElem?_eq_getElem hk]
    rw [this]
  have hl : (l.take k).length = k := by simp; omega
  unfold capped
  rw [he]
  by_cases h1 : (((l.take k).take mo.toNat).length : Int) < mo
  · rw [if_pos h1]
    have : k < mo.toNat := by simp at h1; omega
    rw [List.take_of_length_le (l := l.take k ++ [y]) (by simp; omega), List.take_of_length_le (l := l.take k) (by omega)]
  · rw [if_neg h1]
    have : mo.toNat ≤ k := by simp at h1; omega
    rw [List.take_append_of_le_length (by omega)]
theorem u64_rem (a : Int) (n : Nat) (h0 : 0 < n) (h1 : n ≤ 1024) : ∃ k : Nat, wrap64 ((IntKind.u64.wrap a).tmod n) = k ∧ k < n := by
  have h : IntKind.u64.wrap a = a % 18446744073709551616 := by rfl
  rw [h, Int.tmod_eq_emod_of_nonneg (by omega)]
  have hb : 0 ≤ a % 18446744073709551616 % (n : Int) := Int.emod_nonneg _ (by omega)
  have hb2 : a % 18446744073709551616 % (n : Int) < n := Int.emod_lt_of_pos _ (by omega)
  refine ⟨(a % 18446744073709551616 % (n : Int)).toNat, ?_, by omega⟩
  unfold wrap64
  omega
section
variable {W wr w' : World} {A1 : Option Addr} {l1 : List Int} {p : Nat} {f0 fr fr' mo : Int} {xs ys : List Int} {v v' : Value}
theorem inv_cell {ad : Addr} (h : Inv W (some ad) l1 p f0 fr mo xs wr) (k : Nat) (hk : k < l1.length) : wr.cell? (ad.add k) = some (.int .i64 (rd l1 k)) := by
  obtain ⟨v, h1, h2, h3, h4, h5⟩ := h
  obtain ⟨ad', he, hc⟩ := Kd.at_int h4 k (by omega) (by omega)
  injection he with he
  subst he
  simpa using hc
theorem inv_len (h : Inv W A1 l1 p f0 fr mo xs wr) : Calls Try.prog 11 #[.pointer (some ⟨p, 0, none⟩)] wr fun e w' => e = .returned (.int .i64 xs.length) ∧ wr = w' := len_row h.choose_spec.1
theorem inv_from (h : Inv W A1 l1 p f0 fr mo xs wr) : Calls Try.prog 16 #[.pointer (some ⟨p, 0, none⟩)] wr fun e w' => e = .returned (.int .u32 fr) ∧ wr = w' := from_row h.choose_spec.1
theorem inv_next (h : Inv W A1 l1 p f0 fr mo xs wr) : Calls Try.prog 18 #[.pointer (some ⟨p, 0, none⟩)] wr fun e w' => e = .returned (.int .u32 ((fr + (xs.length : Int)) % 4294967296)) ∧ ∃ m, w' = wr.drewN m := next_row h.choose_spec.1
theorem inv_at (h : Inv W A1 l1 p f0 fr mo xs wr) (n : Int) (i : Nat) (hi : (n - fr) % 4294967296 = i) (hl : i < xs.length) (y : Int) (hy : xs.getD i 0 = y) :
    Calls Try.prog 14 #[.pointer (some ⟨p, 0, none⟩), .int .u32 n] wr fun e w' => e = .returned (.tuple #[.int .i64 y, .bool true]) ∧ ∃ m, w' = wr.drewN m := at_yes h.choose_spec.1 n i hi hl y hy
theorem inv_at_no (h : Inv W A1 l1 p f0 fr mo xs wr) (n : Int) (hi : ¬ (n - fr) % 4294967296 < xs.length) :
    Calls Try.prog 14 #[.pointer (some ⟨p, 0, none⟩), .int .u32 n] wr fun e w' => e = .returned (.tuple #[.int .i64 0, .bool false]) ∧ ∃ m, w' = wr.drewN m := at_no h.choose_spec.1 n hi
theorem inv_set (h : Inv W A1 l1 p f0 fr mo xs wr) (hC0 : Kd.C (Kd.int .i64) W A1 l1.length l1) (n x : Int) (i : Nat) (hi : (n - fr) % 4294967296 = i) (hl : i < xs.length) :
    Calls Try.prog 12 #[.pointer (some ⟨p, 0, none⟩), .int .u32 n, .int .i64 x] wr fun e w' => e = .returned .nilIface ∧ Inv W A1 l1 p f0 fr mo (xs.set i x) w' := by
  obtain ⟨v, h1, h2, h3, h4, h5⟩ := h
  exact (set_yes h1 n x i hi hl).mono fun e w' ⟨he, hr, hc⟩ => ⟨he, Inv.step h1 h2 h3 hC0 h5 hr hc⟩
theorem inv_set_no (h : Inv W A1 l1 p f0 fr mo xs wr) (n x : Int) (hi : ¬ (n - fr) % 4294967296 < xs.length) :
    Calls Try.prog 12 #[.pointer (some ⟨p, 0, none⟩), .int .u32 n, .int .i64 x] wr fun e w' => e = .returned (.iface 38 (.int .i64 4)) ∧ ∃ m, w' = wr.drewN m := set_no h.choose_spec.1 n x hi
theorem inv_box (h : Inv W A1 l1 p f0 fr mo xs wr) : wr.heap[W.heap.size]? = some (.cells #[.int .u32 f0, .int .i64 mo] 24 (0, 0)) := h.choose_spec.2.2.1
theorem inv_below (h : Inv W A1 l1 p f0 fr mo xs wr) : Below W.heap.size W wr := h.choose_spec.2.2.2.2
end
set_option maxRecDepth 100000 in
theorem rowSets_main (W : World) (f0 mo : Int) (A1 : Option Addr) (c1 : Nat) (l1 : List Int) (a2 : Int) (hf0 : 0 ≤ f0) (hf1 : f0 < 4294967296) (h1 : 1 ≤ mo) (h2 : mo ≤ 1024) (hl0 : 0 < l1.length) (hl1 : l1.length ≤ 60)
    (hc1 : l1.length ≤ c1) (hC0 : Kd.C (Kd.int .i64) W A1 l1.length l1) :
    Calls Try.prog 3 #[.agg #[.int .u32 f0, .int .i64 mo], .slice A1 l1.length c1, .int .i64 a2] W (Yes W) := by
  obtain ⟨ad, rfl, _⟩ := hC0.2.2 hl0
  have HC := Aside0.mk hC0
  have n1 : (((l1.length : Nat) : Int) == 0) = false := by rw [beq_eq_false_iff_ne]; omega
  have n2 : decide ((60 : Int) < (l1.length : Int)) = false := by simp; omega
  clear hC0
  go_enter Try.func3, Try.ntmps3
  go_wp2_with fail
  refine alive_row.mono ?_
  rintro e w1 ⟨rfl, hB1⟩
  have HX := Aside0.mk ((hB1.block W.heap.size (by simp)).trans (blk_new W (.cells #[.int .u32 f0, .int .i64 mo] 24 (0, 0))))
  have HB1 := Aside0.mk (((Below.refl W.heap.size W).alloc (Nat.le_refl _) _).trans (hB1.mono (by simp)))
  clear hB1
  have hx := cc2 HX.out
  go_wp2_with fail
  refine (inv_new h1 h2 HX.out HC.out HB1.out).mono ?_
  rintro e w2 ⟨p, rfl, hI⟩
  have HI := Aside0.mk hI
  clear hI hx
  go_wp2_with fail
  go_loopw [41] (fun i wr => ∃ k : Nat, k ≤ l1.length ∧ i = .int .i64 k ∧ Aside0 (Inv W (some ad) l1 p f0 f0 mo (capped l1 mo k) wr)) (fun i _ => l1.length - (intOf i).toNat)
  case atStart => exact ⟨0, Nat.zero_le _, rfl, ⟨by rw [capped_zero]; exact HI.out⟩⟩
  case round =>
    obtain ⟨k, hk, rfl, HI2⟩ := hrel
    by_cases hlt : k < l1.length
    · have hcell := inv_cell HI2.out k hlt
      obtain ⟨y, hy⟩ : ∃ y, rd l1 k = y := ⟨_, rfl⟩
      rw [hy] at hcell
      have HS := Aside0.mk (capped_succ l1 mo k h1 hlt y hy)
      have HP := Aside0.mk (capped_len l1 mo k (by omega))
      clear hy
      go_wp2_with (first | (go_at_call 10; refine (inv_push HI2.out HC.out _ h2 HP.out).mono ?_; rintro e w3 ⟨n, er, rfl, hI3⟩; rw [← HS.out] at hI3; have HI3 := Aside0.mk hI3; clear hI3))
      go_roundw
      case rel => exact ⟨k + 1, by omega, by go_num, HI3⟩
      case measure => simp [intOf]; omega
    · obtain rfl : k = l1.length := by omega
      obtain ⟨ys, hys⟩ : ∃ ys, ys = capped l1 mo l1.length := ⟨_, rfl⟩
      rw [← hys] at HI2
      have hn0 : 0 < ys.length := by rw [hys]; simp [capped]; omega
      have hn1 : ys.length ≤ 60 := by rw [hys]; simp [capped]; omega
      have HY := Aside0.mk hys
      clear hys
      have hbx := cc2 (inv_box HI2.out)
      go_wp2_with (first | (go_at_call 11; refine (inv_len HI2.out).mono ?_; rintro e w3 ⟨rfl, rfl⟩))
      obtain ⟨kk, hkk, hkl⟩ := u64_rem a2 ys.length hn0 (by omega)
      rw [hkk]
      clear hkk hbx
      refine (inv_set HI2.out HC.out _ 7777 kk (by omega) hkl).mono ?_
      rintro e w4 ⟨rfl, hI4⟩
      have HI4 := Aside0.mk hI4
      clear hI4
      have hbx := cc2 (inv_box HI4.out)
      go_wp2_with fail
      refine (inv_set_no HI4.out _ 1 (by rw [List.length_set]; omega)).mono ?_
      rintro e w5 ⟨rfl, nd, rfl⟩
      go_wp2_with (first | (go_at_call 13; refine (is_no 4 rfl _).mono ?_; rintro e w6 ⟨rfl, rfl⟩))
      have HI5 := Aside0.mk (HI4.out.drewN nd)
      clear hbx
      go_loopw [80] (fun i wr => ∃ j : Nat, j ≤ ys.length ∧ i = .int .i64 j ∧ Aside0 (Inv W (some ad) l1 p f0 f0 mo (ys.set kk 7777) wr)) (fun i _ => ys.length - (intOf i).toNat)
      case atStart => exact ⟨0, Nat.zero_le _, rfl, HI5⟩
      case round =>
        obtain ⟨j, hj, rfl, HI6⟩ := hrel
        have hbx := cc2 (inv_box HI6.out)
        by_cases hlt : j < ys.length
        · have hjl : j < l1.length := by have h := HY.out; simp [capped] at h; rw [h] at hlt; simp at hlt; omega
          have hcell := inv_cell HI6.out j hjl
          obtain ⟨y, hy⟩ : ∃ y, rd l1 j = y := ⟨_, rfl⟩
          rw [hy] at hcell
          have hyj : ys.getD j 0 = y := by
            rw [← hy, HY.out]
            unfold rd capped
            rw [Int.toNat_natCast, List.getD_eq_getElem?_getD, List.getD_eq_getElem?_getD, List.take_of_length_le (l := l1) (Nat.le_refl _), List.getElem?_take, if_pos (by rw [HY.out] at hlt; simp [capped] at hlt; omega)]
          have hll : (j : Int) < (l1.length : Int) := by omega
          by_cases hjk : j = kk
          · have hA := Aside0.mk (show (ys.set kk 7777).getD j 0 = 7777 by rw [hjk, List.getD_eq_getElem?_getD, List.getElem?_set_self hkl]; rfl)
            have hb : ((j : Int) == (kk : Int)) = true := by rw [beq_iff_eq]; omega
            clear hy hyj hjk
            go_wp2_with (first | (go_at_call 14; refine (inv_at HI6.out _ j (by omega) (by rw [List.length_set]; exact hlt) 7777 hA.out).mono ?_; rintro e w7 ⟨rfl, nd7, rfl⟩))
            go_roundw
            case rel => exact ⟨j + 1, by omega, by go_num, ⟨HI6.out.drewN nd7⟩⟩
            case measure => simp [intOf]; omega
          · have hA := Aside0.mk (show (ys.set kk 7777).getD j 0 = y by rw [← hyj, List.getD_eq_getElem?_getD, List.getD_eq_getElem?_getD, List.getElem?_set_ne (fun h => hjk h.symm)])
            have hb : ((j : Int) == (kk : Int)) = false := by rw [beq_eq_false_iff_ne]; omega
            clear hy hyj hjk
            go_wp2_with (first | (go_at_call 14; refine (inv_at HI6.out _ j (by omega) (by rw [List.length_set]; exact hlt) y hA.out).mono ?_; rintro e w7 ⟨rfl, nd7, rfl⟩))
            go_roundw
            case rel => exact ⟨j + 1, by omega, by go_num, ⟨HI6.out.drewN nd7⟩⟩
            case measure => simp [intOf]; omega
        · obtain rfl : j = ys.length := by omega
          have HL := Aside0.mk (inv_len HI6.out)
          simp only [List.length_set] at HL
          go_wp2_with (first | (go_at_call 11; refine HL.out.mono ?_; rintro e w8 ⟨rfl, rfl⟩))
          go_ret
          exact ⟨rfl, inv_below HI6.out⟩
end Go.Proofs.Ythflkloghbhhgaa.Rw
