import Derived.Test.YthflkloghbhhgaaRowL
namespace Go.Proofs.Ythflkloghbhhgaa.Rw
open Go.RowKit Go.Proofs.YthflkloghbhhgaaW.PrintWords Go.Proofs.YthflkloghbhhgaaW.PrintMore Go.Proofs.Ythflkloghbhhgaa.Sh Go.Proofs.Ythflkloghbhhgaa.PAll
open Go.Proofs.Ythflkloghbhhgaa.Rs (chg_below alive_row Yes)
set_option linter.unusedVariables false
set_option linter.unusedSimpArgs false
section
variable {W wr w' : World} {A1 A9 : Option Addr} {l1 : List Int} {p c9 : Nat} {f0 fr fr' mo : Int} {xs ys ts : List Int} {v v' v9 v1 : Value}
theorem o_push_k {k : Nat} (h : OInv W A1 l1 p f0 f0 mo (capped l1 mo k) v9 (capped l1 mo k) wr) (hC0 : Kd.C (Kd.int .i64) W A1 l1.length l1) (h1 : 1 ≤ mo) (hm : mo ≤ 1024) (hk : k < l1.length) (hlt : (k : Int) < mo) (y : Int) (hy : rd l1 k = y) :
    Calls Try.prog 10 #[.pointer (some ⟨p, 0, none⟩), .int .i64 y] wr fun e w' => e = .returned (.tuple #[.int .u32 ((f0 + (k : Int)) % 4294967296), .nilIface]) ∧ OInv W A1 l1 p f0 f0 mo (capped l1 mo (k + 1)) v9 (capped l1 mo k) w' := by
  have hlen : (capped l1 mo k).length = k := by simp [capped]; omega
  have h2 := capped_succ l1 mo k h1 hk y hy
  rw [hlen, if_pos hlt] at h2
  have := o_push h hC0 y hm (by rw [hlen]; exact hlt)
  rw [hlen, ← h2] at this
  exact this
theorem o_full_k {k : Nat} (h : OInv W A1 l1 p f0 f0 mo (capped l1 mo k) v9 (capped l1 mo k) wr) (h1 : 1 ≤ mo) (hk : k < l1.length) (hlt : mo ≤ (k : Int)) (y : Int) (hy : rd l1 k = y) :
    Calls Try.prog 10 #[.pointer (some ⟨p, 0, none⟩), .int .i64 y] wr fun e w' => e = .returned (.tuple #[.int .u32 0, .iface 38 (.int .i64 3)]) ∧ OInv W A1 l1 p f0 f0 mo (capped l1 mo (k + 1)) v9 (capped l1 mo (k + 1)) w' := by
  have hlen : ((capped l1 mo k).length : Int) = mo := by simp [capped]; omega
  have h2 := capped_succ l1 mo k h1 hk y hy
  rw [hlen, if_neg (Int.lt_irrefl mo)] at h2
  rw [h2]
  exact (o_full h y hlen).mono fun e w' ⟨he, m, hw⟩ => ⟨he, hw ▸ h.drewN m⟩
theorem o_pop_j {j : Nat} (h : OInv W A1 l1 p f0 ((f0 + (j : Int)) % 4294967296) mo (ys.drop j) v9 ys wr) (hC0 : Kd.C (Kd.int .i64) W A1 l1.length l1) (hj : j < ys.length) (y : Int) (hy : rd ys j = y) :
    Calls Try.prog 15 #[.pointer (some ⟨p, 0, none⟩)] wr fun e w' => e = .returned (.tuple #[.int .i64 y, .nilIface]) ∧ OInv W A1 l1 p f0 ((f0 + (j : Int) + 1) % 4294967296) mo (ys.drop (j + 1)) v9 ys w' := by
  have := o_pop h hC0 (by simp; omega) y (by rw [← hy]; unfold rd; simp [List.getD_eq_getElem?_getD, List.getElem?_drop])
  rw [List.drop_drop, show (((f0 + (j : Int)) % 4294967296 + 1) % 4294967296) = (f0 + (j : Int) + 1) % 4294967296 by omega] at this
  exact this
theorem o_at (h : OInv W A1 l1 p f0 fr mo xs (.slice A9 ys.length c9) ys wr) (j : Nat) (hj : j < ys.length) : ∃ ad, A9 = some ad ∧ wr.cell? (ad.add j) = some (.int .i64 (rd ys j)) := by
  obtain ⟨A, c, he, _, hC⟩ := h.own
  injection he with h1 h2 h3
  subst h1
  obtain ⟨ad, he, hc⟩ := Kd.at_int hC j (by omega) (by omega)
  exact ⟨ad, he, by simpa using hc⟩
/-- The rest of the second list, as the row's rest. -/
theorem o_rest (h : OInv W A1 l1 p f0 fr mo xs (.slice A9 ys.length c9) ys wr) (j : Nat) (hj : j ≤ ys.length) (r : List Int) (hr : r = ys.drop j) : ∃ A7 c7,
    (∀ w2 : World, (Instr.slice 25 (.slice A9 ys.length c9) (some (.int .i64 ((ys.length : Int) - (r.length : Int)))) none none).run Try.prog w2 = .ok (.slice A7 r.length c7) w2) ∧ r.length ≤ c7 ∧ Kd.C (Kd.int .i64) wr A7 r.length r := by
  subst hr
  obtain ⟨A, c, he, hc, hC⟩ := h.own
  injection he with h1 h2 h3
  subst h1 h3
  obtain ⟨i0, hi, _, hsz, _⟩ := info_parts info3
  have hcut := cut_from 25 3 .i64 Try.underlying25 hi 1 hsz A9 ys.length c9 (j : Int) (by omega) (by omega)
  have hQ := Kd.Q_drop (k := j) h.q hj
  have hl : (ys.drop j).length = ys.length - j := by simp
  rw [Int.toNat_natCast] at hcut
  rw [hl, show ((ys.length : Int) - ((ys.length - j : Nat) : Int)) = (j : Int) by omega]
  refine ⟨_, _, hcut, by omega, ?_⟩
  have := (Kd.Q_reads' hQ).2.2
  rw [hl] at this
  exact this
theorem o_cut_all (h : OInv W A1 l1 p f0 fr mo xs v9 ys wr) (hC0 : Kd.C (Kd.int .i64) W A1 l1.length l1) (hm : xs.length ≤ 60) (h0 : 0 ≤ fr) (hf : fr < 4294967296) :
    Calls Try.prog 17 #[.pointer (some ⟨p, 0, none⟩), .int .u32 ((fr + (xs.length : Int)) % 4294967296)] wr fun e w' => ∃ A c n, e = .returned (.tuple #[.slice A xs.length c, .nilIface]) ∧ xs.length ≤ c ∧ Kd.C (Kd.int .i64) w' A xs.length xs ∧ OInv W A1 l1 p f0 n mo [] v9 ys w' := by
  refine (o_cut h hC0 _ xs.length ?_ (Nat.le_refl _) (by omega)).mono fun e w' ⟨A, c, he, hc, hC, hO⟩ => ⟨A, c, (fr + (xs.length : Int)) % 4294967296, he, hc, ?_, ?_⟩
  · omega
  · rwa [List.take_length] at hC
  · rwa [List.drop_length] at hO
theorem ints_call (k : Nat) (l : List Int) (hk : weftlinenum_Ints.f k l l = some true) {A B : Option Addr} {c d : Nat} {w : World} (hA : Kd.C (Kd.int .i64) w A l.length l) (hc : l.length ≤ c) (hB : Kd.C (Kd.int .i64) w B l.length l) (hd : l.length ≤ d) :
    Calls Try.prog 19 #[.slice A l.length c, .slice B l.length d] w fun e w' => e = .returned (.bool true) ∧ Drawn0 w w' := weftlinenum_Ints.calls k A c l B d l true w hA hc hB hd hk
end
set_option maxRecDepth 100000 in
set_option maxHeartbeats 4000000 in
theorem rowOrders_main (W : World) (f0 mo : Int) (A1 : Option Addr) (c1 : Nat) (l1 : List Int) (a2 : Int) (hf0 : 0 ≤ f0) (hf1 : f0 < 4294967296) (h1 : 1 ≤ mo) (h2 : mo ≤ 1024) (hl1 : l1.length ≤ 60)
    (hc1 : l1.length ≤ c1) (hC0 : Kd.C (Kd.int .i64) W A1 l1.length l1) :
    Calls Try.prog 4 #[.agg #[.int .u32 f0, .int .i64 mo], .slice A1 l1.length c1, .int .i64 a2] W (Yes W) := by
  have HC := Aside0.mk hC0
  have n2 : decide ((60 : Int) < (l1.length : Int)) = false := by simp; omega
  clear hC0
  go_enter Try.func4, Try.ntmps4
  go_wp2_with fail
  refine alive_row.mono ?_
  rintro e w1 ⟨rfl, hB1⟩
  have HX := Aside0.mk ((hB1.block W.heap.size (by simp)).trans (blk_new W (.cells #[.int .u32 f0, .int .i64 mo] 24 (0, 0))))
  have HB1 := Aside0.mk (start_below W w1 f0 mo hB1)
  clear hB1
  have hx := cc2 HX.out
  go_wp2_with fail
  refine (inv_new h1 h2 HX.out HC.out HB1.out).mono ?_
  rintro e w2 ⟨p, rfl, hI⟩
  have HI := Aside0.mk (OInv.begin hI HC.out)
  clear hI hx
  go_wp2_with fail
  go_loopw [38, 9] (fun i s wr => ∃ k : Nat, k ≤ l1.length ∧ i = .int .i64 k ∧ Aside0 (OInv W A1 l1 p f0 f0 mo (capped l1 mo k) s (capped l1 mo k) wr)) (fun i _ _ => l1.length - (intOf i).toNat)
  case atStart => exact ⟨0, Nat.zero_le _, rfl, ⟨by rw [capped_zero]; exact HI.out⟩⟩
  case round =>
    obtain ⟨k, hk, rfl, HI2⟩ := hrel
    obtain ⟨A9, c9, rfl, _⟩ := HI2.out.own
    by_cases hlt : k < l1.length
    · obtain ⟨ad, rfl, _⟩ := HC.out.2.2 (by omega)
      have hcell := inv_cell HI2.out.inv k hlt
      obtain ⟨y, hy⟩ : ∃ y, rd l1 k = y := ⟨_, rfl⟩
      rw [hy] at hcell
      have HY := Aside0.mk hy
      clear hy
      by_cases hmk : (k : Int) < mo
      · have HS := Aside0.mk (show capped l1 mo (k + 1) = capped l1 mo k ++ [y] by
          have h := capped_succ l1 mo k h1 hlt y HY.out
          rwa [if_pos (by simp [capped]; omega)] at h)
        have HL := Aside0.mk (show ((capped l1 mo k).length + 1) * 8 ≤ 140737488355328 by simp [capped]; omega)
        go_wp2_with (first | (go_at_call 10; refine (o_push_k HI2.out HC.out h1 h2 hlt hmk y HY.out).mono ?_; rintro e w3 ⟨rfl, hI3⟩; have hbx := cc2 hI3.box; have HI3 := Aside0.mk hI3; clear hI3) | (at_builtin; refine Kd.Q_append (Kd.int .i64) W.heap.size rfl (.tmp 67) (.tmp 69) 25 3 (.int .i64 0) 8 rfl Try.underlying25 info3 rfl (by decide) (by decide) (.slice A9 (capped l1 mo k).length c9) (capped l1 mo k) y [.int .i64 y] (fun _ => True) (fun _ => False) rfl rfl rfl (fun _ h => h.elim) (fun _ _ => trivial) HI3.out.q HI3.out.below HI3.out.below.size HL.out ?_; intro v1 w4 hQ hB hg ha; have HI4 := Aside0.mk (OInv.grow HI3.out HC.out hQ hB hg ha); clear hQ hB hg ha))
        go_roundw
        case rel => exact ⟨k + 1, by omega, by go_num, ⟨by have h := HI4.out; rw [← HS.out] at h; exact h⟩⟩
        case measure => simp [intOf]; omega
      · have hmk2 : mo ≤ (k : Int) := by omega
        go_wp2_with (first | (go_at_call 10; refine (o_full_k HI2.out h1 hlt hmk2 y HY.out).mono ?_; rintro e w3 ⟨rfl, hI3⟩; have hbx := cc2 hI3.box; have HI3 := Aside0.mk hI3; clear hI3) | (go_at_call 13; refine (is_no 3 rfl _).mono ?_; rintro e w6 ⟨rfl, rfl⟩))
        go_roundw
        case rel => exact ⟨k + 1, by omega, by go_num, HI3⟩
        case measure => simp [intOf]; omega
    · obtain rfl : k = l1.length := by omega
      obtain ⟨ys, hys⟩ : ∃ ys, ys = capped l1 mo l1.length := ⟨_, rfl⟩
      rw [← hys] at HI2
      have hn1 : ys.length ≤ 60 := by rw [hys]; simp [capped]; omega
      rw [← hys]
      clear hys
      go_wp2_with fail
      go_loopw [74] (fun i wr => ∃ j : Nat, j ≤ ys.length ∧ i = .int .i64 j ∧ Aside0 (OInv W A1 l1 p f0 ((f0 + (j : Int)) % 4294967296) mo (ys.drop j) (.slice A9 ys.length c9) ys wr)) (fun i _ => ys.length - (intOf i).toNat)
      case atStart => exact ⟨0, Nat.zero_le _, rfl, ⟨by
        rw [show (f0 + ((0 : Nat) : Int)) % 4294967296 = f0 by omega]
        exact HI2.out⟩⟩
      case round =>
        obtain ⟨j, hj, rfl, HI6⟩ := hrel
        by_cases hlt : j < ys.length
        · by_cases hs : wrap64 ((IntKind.u64.wrap a2).tmod 20) ≤ (j : Int)
          · obtain ⟨r, hr⟩ : ∃ r, r = ys.drop j := ⟨_, rfl⟩
            obtain ⟨fr, hfr⟩ : ∃ fr, fr = (f0 + (j : Int)) % 4294967296 := ⟨_, rfl⟩
            have hrl : r.length ≤ 60 := by rw [hr]; simp; omega
            have hfr0 : 0 ≤ fr := by omega
            have hfr1 : fr < 4294967296 := by omega
            rw [← hr, ← hfr] at HI6
            obtain ⟨ki, hki⟩ := ints_same r (by omega)
            have HK := Aside0.mk hki
            have HR := Aside0.mk hr
            have hrj : r.length ≤ ys.length := by rw [hr]; simp
            clear hr hfr hki
            go_wp2_with (first | (go_at_call 18; refine (inv_next HI6.out.inv).mono ?_; rintro e w8 ⟨rfl, nd, rfl⟩))
            refine (o_cut_all (HI6.out.drewN nd) HC.out hrl hfr0 hfr1).mono ?_
            rintro e w9 ⟨A8, c8, n8, rfl, hc8, hC8, hO⟩
            obtain ⟨A7, c7, hcut, hc7, hC7⟩ := o_rest hO j hj r HR.out
            have HO := Aside0.mk hO
            have H8 := Aside0.mk hC8
            have H7 := Aside0.mk hC7
            have HL9 := Aside0.mk (inv_len hO.inv)
            simp only [List.length_nil] at HL9
            clear hO hC8 hC7
            go_wp2_with (first | (go_at_call 11; refine HL9.out.mono ?_; rintro e w10 ⟨rfl, rfl⟩) | (go_at_call 19; refine (ints_call ki r HK.out H8.out hc8 H7.out hc7).mono ?_; rintro e w11 ⟨rfl, nd11, rfl⟩))
            go_ret
            exact ⟨rfl, by first | exact HO.out.below | exact (HO.out.drewN _).below⟩
          · have hs2 : (j : Int) < wrap64 ((IntKind.u64.wrap a2).tmod 20) := by omega
            obtain ⟨y, hy⟩ : ∃ y, rd ys j = y := ⟨_, rfl⟩
            have HY := Aside0.mk hy
            clear hy
            go_wp2_with (first | (go_at_call 15; refine (o_pop_j HI6.out HC.out hlt y HY.out).mono ?_; rintro e w7 ⟨rfl, hI7⟩; obtain ⟨ad9, rfl, hc9⟩ := o_at hI7 j hlt; rw [HY.out] at hc9; have hbx := cc2 hI7.box; have HI7 := Aside0.mk hI7; clear hI7))
            have e1 : (((f0 + (j : Int)) % 4294967296 + 1) % 4294967296 : Int) = (f0 + (j : Int) + 1) % 4294967296 := by omega
            go_quiet (first | (go_at_call 16; exact inv_from_q HI7.out.inv _))
            go_wp2_with fail
            go_roundw
            case rel => exact ⟨j + 1, by omega, by go_num, ⟨by
              have h := HI7.out.drewN nq
              rw [show (f0 + (j : Int) + 1) % 4294967296 = (f0 + ((j + 1 : Nat) : Int)) % 4294967296 by omega] at h
              exact h⟩⟩
            case measure => simp [intOf]; omega
        · obtain ⟨r, hr⟩ : ∃ r, r = ys.drop j := ⟨_, rfl⟩
          obtain ⟨fr, hfr⟩ : ∃ fr, fr = (f0 + (j : Int)) % 4294967296 := ⟨_, rfl⟩
          have hjl : ¬ ((j : Int) < (ys.length : Int)) := by omega
          have hrl : r.length ≤ 60 := by rw [hr]; simp; omega
          have hfr0 : 0 ≤ fr := by omega
          have hfr1 : fr < 4294967296 := by omega
          rw [← hr, ← hfr] at HI6
          obtain ⟨ki, hki⟩ := ints_same r (by omega)
          have HK := Aside0.mk hki
          have HR := Aside0.mk hr
          have hrj : r.length ≤ ys.length := by rw [hr]; simp
          clear hr hfr hki
          go_wp2_with (first | (go_at_call 18; refine (inv_next HI6.out.inv).mono ?_; rintro e w8 ⟨rfl, nd, rfl⟩))
          refine (o_cut_all (HI6.out.drewN nd) HC.out hrl hfr0 hfr1).mono ?_
          rintro e w9 ⟨A8, c8, n8, rfl, hc8, hC8, hO⟩
          obtain ⟨A7, c7, hcut, hc7, hC7⟩ := o_rest hO j hj r HR.out
          have HO := Aside0.mk hO
          have H8 := Aside0.mk hC8
          have H7 := Aside0.mk hC7
          have HL9 := Aside0.mk (inv_len hO.inv)
          simp only [List.length_nil] at HL9
          clear hO hC8 hC7
          go_wp2_with (first | (go_at_call 11; refine HL9.out.mono ?_; rintro e w10 ⟨rfl, rfl⟩) | (go_at_call 19; refine (ints_call ki r HK.out H8.out hc8 H7.out hc7).mono ?_; rintro e w11 ⟨rfl, nd11, rfl⟩))
          go_ret
          exact ⟨rfl, by first | exact HO.out.below | exact (HO.out.drewN _).below⟩
set_option maxRecDepth 100000 in
theorem rowOrders_bad (W : World) (f0 mo : Int) (A1 : Option Addr) (c1 : Nat) (l1 : List Int) (a2 : Int) (h : mo < 1 ∨ 1024 < mo) :
    Calls Try.prog 4 #[.agg #[.int .u32 f0, .int .i64 mo], .slice A1 l1.length c1, .int .i64 a2] W (Yes W) := by
  have HH := Aside0.mk h
  clear h
  go_enter Try.func4, Try.ntmps4
  go_wp2_with fail
  refine alive_row.mono ?_
  rintro e w1 ⟨rfl, hB1⟩
  have HX := Aside0.mk ((hB1.block W.heap.size (by simp)).trans (blk_new W (.cells #[.int .u32 f0, .int .i64 mo] 24 (0, 0))))
  have HB1 := Aside0.mk (start_below W w1 f0 mo hB1)
  clear hB1
  have hx := cc2 HX.out
  go_wp2_with fail
  refine (new_bad HH.out).mono ?_
  rintro e w2 ⟨rfl, rfl⟩
  go_wp2_with fail
  go_ret
  exact ⟨rfl, HB1.out⟩
set_option maxRecDepth 100000 in
theorem rowOrders_out (W : World) (f0 mo : Int) (A1 : Option Addr) (c1 : Nat) (l1 : List Int) (a2 : Int) (h1 : 1 ≤ mo) (h2 : mo ≤ 1024) (h : 60 < l1.length)
    (hC0 : Kd.C (Kd.int .i64) W A1 l1.length l1) :
    Calls Try.prog 4 #[.agg #[.int .u32 f0, .int .i64 mo], .slice A1 l1.length c1, .int .i64 a2] W (Yes W) := by
  have HC := Aside0.mk hC0
  have hd2 : decide ((60 : Int) < (l1.length : Int)) = true := by simp; omega
  clear hC0 h
  go_enter Try.func4, Try.ntmps4
  go_wp2_with fail
  refine alive_row.mono ?_
  rintro e w1 ⟨rfl, hB1⟩
  have HX := Aside0.mk ((hB1.block W.heap.size (by simp)).trans (blk_new W (.cells #[.int .u32 f0, .int .i64 mo] 24 (0, 0))))
  have HB1 := Aside0.mk (start_below W w1 f0 mo hB1)
  clear hB1
  have hx := cc2 HX.out
  go_wp2_with fail
  refine (inv_new h1 h2 HX.out HC.out HB1.out).mono ?_
  rintro e w2 ⟨p, rfl, hI⟩
  have HI := Aside0.mk hI
  clear hI hx
  go_wp2_with fail
  go_ret
  exact ⟨rfl, inv_below HI.out⟩
theorem rowOrders_walk (W : World) (a0_0 : Int) (a0_1 : Int) (A1 : Option Addr) (c1 : Nat) (l1 : (List Int)) (a2 : Int) (w0_0 : (Lit.int .u32 a0_0).wf = true) (w0_1 : (Lit.int .i64 a0_1).wf = true) (hc1 : l1.length ≤ c1) (hr1 : Kd.C (Kd.int .i64) W A1 l1.length l1) (w1 : (∀ zl1 ∈ l1, (Lit.int .i64 zl1).wf = true)) (w2 : (Lit.int .i64 a2).wf = true) :
    Calls Try.prog 4 #[.agg #[.int .u32 a0_0, .int .i64 a0_1], .slice A1 l1.length c1, .int .i64 a2] W fun e w' => e = .returned (.bool true) ∧ Below W.heap.size W w' := by
  have hf := u32_wf w0_0
  by_cases hm : a0_1 < 1 ∨ 1024 < a0_1
  · exact rowOrders_bad W a0_0 a0_1 A1 c1 l1 a2 hm
  · by_cases hl : 60 < l1.length
    · exact rowOrders_out W a0_0 a0_1 A1 c1 l1 a2 (by omega) (by omega) hl hr1
    · exact rowOrders_main W a0_0 a0_1 A1 c1 l1 a2 hf.1 hf.2 (by omega) (by omega) (by omega) hc1 hr1
end Go.Proofs.Ythflkloghbhhgaa.Rw
