import Derived.Test.YthflkloghbhhgaaRowJ
namespace Go.Proofs.Ythflkloghbhhgaa.Rw
open Go.RowKit Go.Proofs.YthflkloghbhhgaaW.PrintWords Go.Proofs.YthflkloghbhhgaaW.PrintMore Go.Proofs.Ythflkloghbhhgaa.Sh Go.Proofs.Ythflkloghbhhgaa.PAll
open Go.Proofs.Ythflkloghbhhgaa.Rs (chg_below alive_row Yes)
set_option linter.unusedVariables false
set_option linter.unusedSimpArgs false
theorem u64_rem1 (a : Int) (n : Nat) (h1 : n ≤ 1000) : ∃ k : Nat, wrap64 ((IntKind.u64.wrap a).tmod ((n : Int) + 1)) = k ∧ k ≤ n := by
  obtain ⟨k, h, hk⟩ := u64_rem a (n + 1) (Nat.succ_pos n) (by omega)
  exact ⟨k, by simpa using h, by omega⟩
/-- The row is cut at k: what came off lies by itself. -/
def CutAt (W : World) (A1 : Option Addr) (l1 : List Int) (p : Nat) (f0 mo : Int) (xs : List Int) (k : Nat) (n : Int) (e : Ending) (w' : World) : Prop :=
  ∃ A c, e = .returned (.tuple #[.slice A k c, .nilIface]) ∧ k ≤ c ∧ Kd.C (Kd.int .i64) w' A k (xs.take k) ∧ Inv W A1 l1 p f0 n mo (xs.drop k) w'
theorem inv_cut {W wr : World} {A1 : Option Addr} {l1 : List Int} {p : Nat} {f0 fr mo : Int} {xs : List Int} (h : Inv W A1 l1 p f0 fr mo xs wr) (hC0 : Kd.C (Kd.int .i64) W A1 l1.length l1) (n : Int) (k : Nat) (hi : (n - fr) % 4294967296 = k) (hl : k ≤ xs.length) (hm : xs.length ≤ 1024) :
    Calls Try.prog 17 #[.pointer (some ⟨p, 0, none⟩), .int .u32 n] wr (CutAt W A1 l1 p f0 mo xs k n) := by
  obtain ⟨v, h1, h2, h3, h4, h5⟩ := h
  refine (cut_yes h1 n k hi hl hm).mono fun e w' ⟨A, c, v', he, hR, hr, hc, _⟩ => ?_
  obtain ⟨_, hc', hC⟩ := Kd.R_reads' hR
  have hlen : (xs.take k).length = k := by simp; omega
  rw [hlen] at hC
  exact ⟨A, c, he, hc', hC, Inv.step h1 h2 h3 hC0 h5 hr hc⟩
section
variable {W wr : World} {A1 : Option Addr} {l1 : List Int} {p : Nat} {f0 fr mo : Int} {xs : List Int}
theorem inv_len_q (h : Inv W A1 l1 p f0 fr mo xs wr) (m : Nat) : Calls Try.prog 11 #[.pointer (some ⟨p, 0, none⟩)] (wr.drewN m) fun e w' => e = .returned (.int .i64 xs.length) ∧ ∃ n, w' = wr.drewN n :=
  (inv_len (h.drewN m)).mono fun _ _ hh => ⟨hh.1, m, hh.2.symm⟩
theorem inv_from_q (h : Inv W A1 l1 p f0 fr mo xs wr) (m : Nat) : Calls Try.prog 16 #[.pointer (some ⟨p, 0, none⟩)] (wr.drewN m) fun e w' => e = .returned (.int .u32 fr) ∧ ∃ n, w' = wr.drewN n :=
  (inv_from (h.drewN m)).mono fun _ _ hh => ⟨hh.1, m, hh.2.symm⟩
theorem inv_next_q (h : Inv W A1 l1 p f0 fr mo xs wr) (m : Nat) : Calls Try.prog 18 #[.pointer (some ⟨p, 0, none⟩)] (wr.drewN m) fun e w' => e = .returned (.int .u32 ((fr + (xs.length : Int)) % 4294967296)) ∧ ∃ n, w' = wr.drewN n :=
  (inv_next (h.drewN m)).mono fun _ _ ⟨he, n, hw⟩ => ⟨he, m + n, by rw [hw, World.drewN_drewN]⟩
end
set_option maxRecDepth 100000 in
set_option maxHeartbeats 2000000 in
theorem rowCuts_main (W : World) (f0 mo : Int) (A1 : Option Addr) (c1 : Nat) (l1 : List Int) (a2 : Int) (hf0 : 0 ≤ f0) (hf1 : f0 < 4294967296) (h1 : 1 ≤ mo) (h2 : mo ≤ 1024) (hl1 : l1.length ≤ 60)
    (hc1 : l1.length ≤ c1) (hC0 : Kd.C (Kd.int .i64) W A1 l1.length l1) :
    Calls Try.prog 5 #[.agg #[.int .u32 f0, .int .i64 mo], .slice A1 l1.length c1, .int .i64 a2] W (Yes W) := by
  have HC := Aside0.mk hC0
  have n2 : decide ((60 : Int) < (l1.length : Int)) = false := by simp; omega
  clear hC0
  go_enter Try.func5, Try.ntmps5
  go_wp2_with fail
  refine alive_row.mono ?_
  rintro e w1 ⟨rfl, hB1⟩
  have HX := Aside0.mk ((hB1.block W.heap.size (by simp)).trans (blk_new W (.cells #[.int .u32 f0, .int .i64 mo] 24 (0, 0))))
  have HB1 := Aside0.mk (start_below W w1 f0 mo hB1)
  clear hB1
  have hx := cc2 HX.out
  go_wp2_with fail
  refine (inv_new h1 h2 HX.out HC.out HB1.out).mono ?_
  rintro e w2 ⟨p, rfl, hI⟩
  have HI := Aside0.mk hI
  clear hI hx
  go_wp2_with fail
  go_loopw [36] (fun i wr => ∃ k : Nat, k ≤ l1.length ∧ i = .int .i64 k ∧ Aside0 (Inv W A1 l1 p f0 f0 mo (capped l1 mo k) wr)) (fun i _ => l1.length - (intOf i).toNat)
  case atStart => exact ⟨0, Nat.zero_le _, rfl, ⟨by rw [capped_zero]; exact HI.out⟩⟩
  case round =>
    obtain ⟨k, hk, rfl, HI2⟩ := hrel
    by_cases hlt : k < l1.length
    · obtain ⟨ad, rfl, _⟩ := HC.out.2.2 (by omega)
      have hcell := inv_cell HI2.out k hlt
      obtain ⟨y, hy⟩ : ∃ y, rd l1 k = y := ⟨_, rfl⟩
      rw [hy] at hcell
      have HS := Aside0.mk (capped_succ l1 mo k h1 hlt y hy)
      have HP := Aside0.mk (capped_len l1 mo k (by omega))
      clear hy
      go_wp2_with (first | (go_at_call 10; refine (inv_push HI2.out HC.out _ h2 HP.out).mono ?_; rintro e w3 ⟨n, er, rfl, hI3⟩; rw [← HS.out] at hI3; have HI3 := Aside0.mk hI3; clear hI3))
      go_roundw
      case rel => exact ⟨k + 1, by omega, by go_num, HI3⟩
      case measure => simp [intOf]; omega
    · obtain rfl : k = l1.length := by omega
      obtain ⟨ys, hys⟩ : ∃ ys, ys = capped l1 mo l1.length := ⟨_, rfl⟩
      rw [← hys] at HI2
      have hn1 : ys.length ≤ 60 := by rw [hys]; simp [capped]; omega
      have hnl : ys.length ≤ l1.length := by rw [hys]; simp [capped]; omega
      have HY := Aside0.mk (show ∀ j, j < ys.length → ys.getD j 0 = rd l1 j by
        intro j hj
        rw [hys] at hj ⊢
        unfold rd capped
        rw [List.getD_eq_getElem?_getD, List.getD_eq_getElem?_getD, List.take_of_length_le (l := l1) (Nat.le_refl _), Int.toNat_natCast, List.getElem?_take, if_pos (by simp [capped] at hj; omega)])
      clear hys
      have hbx := cc2 (inv_box HI2.out)
      go_wp2_with (first | (go_at_call 11; refine (inv_len HI2.out).mono ?_; rintro e w3 ⟨rfl, rfl⟩))
      obtain ⟨kk, hkk, hkl⟩ := u64_rem1 a2 ys.length (by omega)
      rw [hkk]
      clear hkk hbx
      refine (inv_cut HI2.out HC.out _ kk (by omega) hkl (by omega)).mono ?_
      rintro e w4 ⟨A2, c2, rfl, hc2, hT, hI4⟩
      obtain ⟨fr, hfr⟩ : ∃ fr, fr = (f0 + (kk : Int)) % 4294967296 := ⟨_, rfl⟩
      rw [← hfr] at hI4
      have hfr0 : 0 ≤ fr := by omega
      have hfr1 : fr < 4294967296 := by omega
      have HI4 := Aside0.mk hI4
      have HT := Aside0.mk hT
      have hbx := cc2 (inv_box HI4.out)
      have HL := Aside0.mk (inv_len_q HI4.out)
      have HN := Aside0.mk (inv_next_q HI4.out)
      have hdl : (ys.drop kk).length = ys.length - kk := by simp
      have hd2 : ((ys.length - kk : Nat) : Int) = (ys.length : Int) - (kk : Int) := by omega
      have hnx : (fr + ((ys.length : Int) - (kk : Int))) % 4294967296 = (f0 + (ys.length : Int)) % 4294967296 := by omega
      rw [hdl, hd2] at HL HN
      rw [hnx] at HN
      have HF := Aside0.mk hfr
      clear hI4 hT hdl hd2 hnx
      go_wp2_with fail
      go_quiet (first | (go_at_call 11; exact HL.out _) | (go_at_call 16; exact inv_from_q HI4.out _) | (go_at_call 18; exact HN.out _))
      clear hfr
      go_wp2_with fail
      clear hbx
      go_loopw [103] (fun i wr => ∃ j : Nat, j ≤ ys.length ∧ i = .int .i64 j ∧ Aside0 (Inv W A1 l1 p f0 fr mo (ys.drop kk) wr) ∧ Aside0 (Kd.C (Kd.int .i64) wr A2 kk (ys.take kk))) (fun i _ => ys.length - (intOf i).toNat)
      case atStart => exact ⟨0, Nat.zero_le _, rfl, ⟨HI4.out.drewN _⟩, ⟨Kd.C_drewN HT.out _⟩⟩
      case round =>
        obtain ⟨j, hj, rfl, HI6, HT6⟩ := hrel
        have hbx := cc2 (inv_box HI6.out)
        by_cases hlt : j < ys.length
        · have hjl : j < l1.length := by omega
          obtain ⟨ad, rfl, _⟩ := HC.out.2.2 (by omega)
          have hcell := inv_cell HI6.out j hjl
          obtain ⟨y, hy⟩ : ∃ y, rd l1 j = y := ⟨_, rfl⟩
          rw [hy] at hcell
          have hyj := HY.out j hlt
          rw [hy] at hyj
          have hll : (j : Int) < (l1.length : Int) := by omega
          by_cases hjk : j < kk
          · have hA := Aside0.mk (show ¬ ((f0 + (j : Int)) % 4294967296 - fr) % 4294967296 < ((ys.drop kk).length : Int) by
              rw [HF.out, List.length_drop]; omega)
            obtain ⟨ad2, hA2, hcell2⟩ := Kd.at_int HT6.out j (by omega) (by omega)
            obtain rfl : A2 = some ad2 := hA2
            have hrd : rd (ys.take kk) j = y := by
              rw [← hyj]
              unfold rd
              rw [List.getD_eq_getElem?_getD, List.getD_eq_getElem?_getD, List.getElem?_take, if_pos (by simpa using hjk)]
              simp
            rw [hrd, Int.toNat_natCast] at hcell2
            have hb : decide ((j : Int) < (kk : Int)) = true := by simp; omega
            have hb1 : (j : Int) < (kk : Int) := by omega
            have hb2 : decide ((kk : Int) ≤ (j : Int)) = false := by simp; omega
            have hb3 : decide (j < kk) = true := by simp; omega
            have hb4 : decide (kk ≤ j) = false := by simp; omega
            clear hy hyj hjk hrd
            go_wp2_with (first | (go_at_call 14; refine (inv_at_no HI6.out _ hA.out).mono ?_; rintro e w7 ⟨rfl, nd7, rfl⟩))
            go_quiet (fail)
            go_wp2_with fail
            go_roundw
            case rel => exact ⟨j + 1, by omega, by go_num, ⟨HI6.out.drewN _⟩, ⟨Kd.C_drewN HT6.out _⟩⟩
            case measure => simp [intOf]; omega
          · have hA := Aside0.mk (show ((f0 + (j : Int)) % 4294967296 - fr) % 4294967296 = ((j - kk : Nat) : Int) by
              rw [HF.out]; omega)
            have hA1 := Aside0.mk (show (ys.drop kk).getD (j - kk) 0 = y by
              rw [← hyj, List.getD_eq_getElem?_getD, List.getD_eq_getElem?_getD, List.getElem?_drop, Nat.add_sub_cancel' (by omega)])
            have hA2 := Aside0.mk (show j - kk < (ys.drop kk).length by rw [List.length_drop]; omega)
            have hb : decide ((j : Int) < (kk : Int)) = false := by simp; omega
            have hb2 : decide ((kk : Int) ≤ (j : Int)) = true := by simp; omega
            have hb3 : decide (j < kk) = false := by simp; omega
            have hb4 : decide (kk ≤ j) = true := by simp; omega
            clear hy hyj hjk
            go_wp2_with (first | (go_at_call 14; refine (inv_at HI6.out _ (j - kk) hA.out hA2.out y hA1.out).mono ?_; rintro e w7 ⟨rfl, nd7, rfl⟩))
            go_quiet (fail)
            go_wp2_with fail
            go_roundw
            case rel => exact ⟨j + 1, by omega, by go_num, ⟨HI6.out.drewN _⟩, ⟨Kd.C_drewN HT6.out _⟩⟩
            case measure => simp [intOf]; omega
        · obtain rfl : j = ys.length := by omega
          go_wp2_with fail
          go_ret
          exact ⟨rfl, inv_below HI6.out⟩
set_option maxRecDepth 100000 in
theorem rowCuts_bad (W : World) (f0 mo : Int) (A1 : Option Addr) (c1 : Nat) (l1 : List Int) (a2 : Int) (h : mo < 1 ∨ 1024 < mo) :
    Calls Try.prog 5 #[.agg #[.int .u32 f0, .int .i64 mo], .slice A1 l1.length c1, .int .i64 a2] W (Yes W) := by
  have HH := Aside0.mk h
  clear h
  go_enter Try.func5, Try.ntmps5
  go_wp2_with fail
  refine alive_row.mono ?_
  rintro e w1 ⟨rfl, hB1⟩
  have HX := Aside0.mk ((hB1.block W.heap.size (by simp)).trans (blk_new W (.cells #[.int .u32 f0, .int .i64 mo] 24 (0, 0))))
  have HB1 := Aside0.mk (start_below W w1 f0 mo hB1)
  clear hB1
  have hx := cc2 HX.out
  go_wp2_with fail
  refine (new_bad HH.out).mono ?_
  rintro e w2 ⟨rfl, rfl⟩
  go_wp2_with fail
  go_ret
  exact ⟨rfl, HB1.out⟩
set_option maxRecDepth 100000 in
theorem rowCuts_out (W : World) (f0 mo : Int) (A1 : Option Addr) (c1 : Nat) (l1 : List Int) (a2 : Int) (h1 : 1 ≤ mo) (h2 : mo ≤ 1024) (h : 60 < l1.length)
    (hC0 : Kd.C (Kd.int .i64) W A1 l1.length l1) :
    Calls Try.prog 5 #[.agg #[.int .u32 f0, .int .i64 mo], .slice A1 l1.length c1, .int .i64 a2] W (Yes W) := by
  have HC := Aside0.mk hC0
  have hd2 : decide ((60 : Int) < (l1.length : Int)) = true := by simp; omega
  clear hC0 h
  go_enter Try.func5, Try.ntmps5
  go_wp2_with fail
  refine alive_row.mono ?_
  rintro e w1 ⟨rfl, hB1⟩
  have HX := Aside0.mk ((hB1.block W.heap.size (by simp)).trans (blk_new W (.cells #[.int .u32 f0, .int .i64 mo] 24 (0, 0))))
  have HB1 := Aside0.mk (start_below W w1 f0 mo hB1)
  clear hB1
  have hx := cc2 HX.out
  go_wp2_with fail
  refine (inv_new h1 h2 HX.out HC.out HB1.out).mono ?_
  rintro e w2 ⟨p, rfl, hI⟩
  have HI := Aside0.mk hI
  clear hI hx
  go_wp2_with fail
  go_ret
  exact ⟨rfl, inv_below HI.out⟩
theorem rowCuts_walk (W : World) (a0_0 : Int) (a0_1 : Int) (A1 : Option Addr) (c1 : Nat) (l1 : (List Int)) (a2 : Int) (w0_0 : (Lit.int .u32 a0_0).wf = true) (w0_1 : (Lit.int .i64 a0_1).wf = true) (hc1 : l1.length ≤ c1) (hr1 : Kd.C (Kd.int .i64) W A1 l1.length l1) (w1 : (∀ zl1 ∈ l1, (Lit.int .i64 zl1).wf = true)) (w2 : (Lit.int .i64 a2).wf = true) :
    Calls Try.prog 5 #[.agg #[.int .u32 a0_0, .int .i64 a0_1], .slice A1 l1.length c1, .int .i64 a2] W fun e w' => e = .returned (.bool true) ∧ Below W.heap.size W w' := by
  have hf := u32_wf w0_0
  by_cases hm : a0_1 < 1 ∨ 1024 < a0_1
  · exact rowCuts_bad W a0_0 a0_1 A1 c1 l1 a2 hm
  · by_cases hl : 60 < l1.length
    · exact rowCuts_out W a0_0 a0_1 A1 c1 l1 a2 (by omega) (by omega) hl hr1
    · exact rowCuts_main W a0_0 a0_1 A1 c1 l1 a2 hf.1 hf.2 (by omega) (by omega) (by omega) hc1 hr1
end Go.Proofs.Ythflkloghbhhgaa.Rw
