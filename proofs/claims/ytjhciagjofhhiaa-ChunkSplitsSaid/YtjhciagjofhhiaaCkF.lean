import Derived.Test.YtjhciagjofhhiaaCkE
/- chunk: the reference's Split. -/
namespace Go.Proofs.Ytjhciagjofhhiaa.Ck
open Go.RowKit Go.Proofs.YtjhciagjofhhiaaW.PrintWords Go.Proofs.YtjhciagjofhhiaaW.PrintLast Go.Proofs.YtjhciagjofhhiaaW.PrintMore Go.Proofs.Ytjhciagjofhhiaa.Sh Go.Proofs.Ytjhciagjofhhiaa.Tl
set_option linter.unusedVariables false
set_option linter.unusedSimpArgs false
def RSplits (w : World) (A : Option Addr) (c : Nat) (b : List Int) (e : Ending) (w' : World) : Prop :=
  Below w.heap.size w w' ∧ ((b = [] ∧ e = .returned (.tuple #[.int .i64 0, nilS, nilS, .int .i64 4])) ∨ (b ≠ [] ∧ ¬ okS b ∧ e = .returned (.tuple #[.int .i64 0, nilS, nilS, .int .i64 2])) ∨
    (okS b ∧ ∃ A2, e = .returned (.tuple #[.int .i64 (b.getD 0 0), .slice A (b.take (allOf b)).length c, .slice A2 (b.drop (allOf b)).length (c - allOf b), .int .i64 0]) ∧ Kd.C (Kd.int .u8) w A (b.take (allOf b)).length (b.take (allOf b)) ∧ Kd.C (Kd.int .u8) w A2 (b.drop (allOf b)).length (b.drop (allOf b))))
set_option maxRecDepth 100000 in
set_option maxHeartbeats 4000000 in
theorem rsplit_calls (w : World) (A : Option Addr) (c : Nat) (b : List Int) (hc : b.length ≤ c) (hC : Kd.C (Kd.int .u8) w A b.length b) (hl : b.length ≤ 1048576) (hb : Bytes b) : Calls Try.prog 51 #[.slice A b.length c] w (RSplits w A c b) := by
  have HB0 := Aside0.mk (Below.refl w.heap.size w)
  have hbad : ∀ e w', b ≠ [] → e = .returned (.tuple #[.int .i64 0, nilS, nilS, .int .i64 2]) → Below w.heap.size w w' → ¬ okS b → RSplits w A c b e w' := fun e w' hne he hB hn => ⟨hB, .inr (.inl ⟨hne, hn, he⟩)⟩
  have HBAD := Aside0.mk hbad
  clear hbad
  by_cases hnil : b.length = 0
  · have HNIL := Aside0.mk (List.length_eq_zero_iff.1 hnil)
    have h0i : (b.length : Int) = 0 := by omega
    clear hC hb
    go_enter Try.func51, Try.ntmps51
    go_wp2_with fail
    refine bodyPost_ret (results_tmp4 rfl _ _ _) rfl ?_
    exact ⟨HB0.out, .inl ⟨HNIL.out, rfl⟩⟩
  · have h0i : ¬ (b.length : Int) = 0 := by omega
    have HNE := Aside0.mk (show b ≠ [] from fun h => hnil (by rw [h]; rfl))
    by_cases h4 : b.length < 4
    · have h4i : (b.length : Int) < 4 := by omega
      have HNO := Aside0.mk (show ¬ okS b from fun h => by have := h.1; omega)
      clear hC hb
      go_enter Try.func51, Try.ntmps51
      go_wp2_with fail
      refine bodyPost_ret (results_tmp4 rfl _ _ _) rfl ?_
      exact HBAD.out _ _ HNE.out rfl HB0.out HNO.out
    · have h4i : ¬ (b.length : Int) < 4 := by omega
      obtain ⟨x2, e2, l2, g2⟩ := byte_at hb 2 (by omega)
      obtain ⟨x3, e3, l3, g3⟩ := byte_at hb 3 (by omega)
      obtain ⟨x0, e0, l0, g0⟩ := byte_at hb 0 (by omega)
      obtain ⟨ad, rfl, q0⟩ := Kd.at_int hC (((0 : Nat) : Int)) (by omega) (by omega)
      obtain ⟨ad', ha', q2⟩ := Kd.at_int hC (((2 : Nat) : Int)) (by omega) (by omega)
      obtain rfl : ad = ad' := by injection ha'
      obtain ⟨ad', ha', q3⟩ := Kd.at_int hC (((3 : Nat) : Int)) (by omega) (by omega)
      obtain rfl : ad = ad' := by injection ha'
      rw [e0] at q0
      rw [e2] at q2
      rw [e3] at q3
      simp only [Int.toNat_natCast] at q0 q2 q3
      rw [show ad.add 0 = ad from rfl] at q0
      rw [show ad.add 2 = ⟨ad.block, ad.off + 2, none⟩ from rfl] at q2
      rw [show ad.add 3 = ⟨ad.block, ad.off + 3, none⟩ from rfl] at q3
      obtain ⟨N, hN⟩ : ∃ N, N = x2 * 256 + x3 := ⟨_, rfl⟩
      have HNO := Aside0.mk ((nOf_val b x2 x3 (by omega) g2 g3).trans hN.symm)
      have hNl : N < 65536 := by omega
      have hw1 : wrap64 ((x2 : Int) * 256) = (x2 : Int) * 256 := w64 _ _ rfl (by omega) (by omega)
      have hw2 : wrap64 ((x2 : Int) * 256 + (x3 : Int)) = (N : Int) := w64 _ _ (by omega) (by omega) (by omega)
      have HNN := Aside0.mk hN
      have HG0 := Aside0.mk g0
      have HC := Aside0.mk (And.intro hc hC)
      have HBY := Aside0.mk hb
      have i2 : (2 : Int) < (b.length : Int) := by omega
      have i3 : (3 : Int) < (b.length : Int) := by omega
      have i0 : (0 : Int) < (b.length : Int) := by omega
      clear e0 e2 e3 ha' hN hC hb g0 g2 g3 hnil
      go_enter Try.func51, Try.ntmps51
      go_wp2_with fail
      go_quiet (fail)
      go_upto_region 6 with fail
      rw [show ((x2 : Int) * 256 + (x3 : Int)) = (N : Int) by rw [HNN.out]; simp]
      have HB5 := Aside0.mk (pw_below_drewN HB0.out nq)
      have HC5 := Aside0.mk (Kd.C_drewN HC.out.2 nq)
      have q05 : (w.drewN nq).cell? ad = some (.int .u8 (x0 : Int)) := q0
      generalize w.drewN nq = w5 at HB5 HC5 q05 ⊢
      clear hw1 hw2 q0 q2 q3
      obtain ⟨T, hT⟩ : ∃ T, T = N + padn N := ⟨_, rfl⟩
      have hTl : T < 65540 ∧ N ≤ T ∧ T % 4 = 0 ∧ (∀ q, N ≤ q → q < T → q % 4 ≠ 0) := by
        refine ⟨by rw [hT]; unfold padn; omega, by omega, by rw [hT]; exact padn_mod N, fun q h1 h2 => ?_⟩
        rw [hT] at h2
        unfold padn at h2
        omega
      have HT := Aside0.mk hT
      obtain ⟨hT1, hT2, hT3, hT4⟩ := hTl
      have HT4 := Aside0.mk hT4
      clear hT hT4
      go_wp2_with fail
      go_loopw [7] (fun i wr => ∃ q : Nat, N ≤ q ∧ q ≤ T ∧ i = .int .i64 (q : Nat) ∧ wr = w5) (fun i _ => T - (intOf i).toNat)
      case atStart => exact ⟨N, Nat.le_refl _, hT2, rfl, rfl⟩
      case round =>
        obtain ⟨q, hq1, hq2, rfl, rfl⟩ := hrel
        by_cases hqT : q < T
        · have hm : ¬ (q : Int) % 4 = 0 := by have := HT4.out q hq1 hqT; omega
          go_wp2_with fail
          exact ⟨⟨q + 1, by omega, by omega, by go_num, trivial⟩, by simp [intOf]; omega⟩
        · obtain rfl : q = T := by omega
          have hm : (q : Int) % 4 = 0 := by omega
          by_cases hN4 : N < 4
          · have hN4i : (N : Int) < 4 := by omega
            have HNK := Aside0.mk (show ¬ okS b from fun h => by have h2 := h.2.1; rw [HNO.out] at h2; omega)
            go_wp2_with fail
            refine bodyPost_ret (results_tmp4 rfl _ _ _) rfl ?_
            exact HBAD.out _ _ HNE.out rfl HB5.out HNK.out
          · have hN4i : ¬ (N : Int) < 4 := by omega
            by_cases hTb : b.length < q
            · have hTi : (b.length : Int) < (q : Int) := by omega
              have HNK := Aside0.mk (show ¬ okS b from fun h => by have h2 := h.2.2.1; rw [HNO.out, ← HT.out] at h2; omega)
              go_wp2_with fail
              refine bodyPost_ret (results_tmp4 rfl _ _ _) rfl ?_
              exact HBAD.out _ _ HNE.out rfl HB5.out HNK.out
            · have hTi : ¬ (b.length : Int) < (q : Int) := by omega
              go_wp2_with fail
              go_loopw [8] (fun i wx => ∃ k : Nat, N ≤ k ∧ k ≤ q ∧ i = .int .i64 (k : Nat) ∧ wx = wr ∧ Aside0 (∀ j, N ≤ j → j < k → b.getD j 0 = 0)) (fun i _ => q - (intOf i).toNat)
              case atStart => exact ⟨N, Nat.le_refl _, hT2, rfl, rfl, ⟨fun j h1 h2 => absurd h2 (by omega)⟩⟩
              case round =>
                obtain ⟨k, hk1, hk2, rfl, rfl, HZ⟩ := hrel
                by_cases hkT : k < q
                · have hkTi : (k : Int) < (q : Int) := by omega
                  have hkd : (k : Int) < (b.length : Int) := by omega
                  obtain ⟨xk, ek, lk, gk2⟩ := byte_at HBY.out k (by omega)
                  obtain ⟨ad2, ha2, qk⟩ := Kd.at_int HC5.out (k : Int) (by omega) hkd
                  obtain rfl : ad = ad2 := by injection ha2
                  rw [ek, Int.toNat_natCast] at qk
                  have HG := Aside0.mk gk2
                  clear ek gk2 ha2
                  by_cases hx0 : xk = 0
                  · subst hx0
                    go_wp2_with fail
                    exact ⟨⟨k + 1, by omega, by omega, by go_num, trivial, ⟨fun j h1 h2 => by
                      by_cases hjk : j = k
                      · rw [hjk]; exact HG.out
                      · exact HZ.out j h1 (by omega)⟩⟩, by simp [intOf]; omega⟩
                  · have hxi : ¬ (xk : Int) = 0 := by omega
                    have HNK := Aside0.mk (show ¬ okS b from fun h => by
                      have hz := h.2.2.2
                      rw [HNO.out] at hz
                      have hm : b.getD k 0 ∈ (b.drop N).take (padn N) := by
                        have h1 : b.getD k 0 = ((b.drop N).take (padn N)).getD (k - N) 0 := by
                          rw [List.getD_eq_getElem?_getD, List.getD_eq_getElem?_getD, List.getElem?_take_of_lt (by have := HT.out; omega), List.getElem?_drop, show N + (k - N) = k by omega]
                        rw [h1, List.getD_eq_getElem?_getD, List.getElem?_eq_getElem (by rw [List.length_take, List.length_drop]; have := HT.out; omega)]
                        exact List.getElem_mem _
                      have := hz _ hm
                      rw [HG.out] at this
                      omega)
                    go_wp2_with fail
                    refine bodyPost_ret (results_tmp4 rfl _ _ _) rfl ?_
                    exact HBAD.out _ _ HNE.out rfl HB5.out HNK.out
                · obtain rfl : k = q := by omega
                  obtain ⟨i0', hi0, _, hsz, _⟩ := info_parts info5
                  obtain ⟨hrunT, hrdT, hcapT⟩ := print_take_int (P := Try.prog) (k := .u8) 26 5 Try.underlying26 hi0 hsz (some ad) c b (k : Int) (by omega) (by omega) HC.out.1
                  obtain ⟨A7, hrunD, hrdD, hcapD⟩ := print_cut_int (P := Try.prog) (k := .u8) 26 5 Try.underlying26 hi0 hsz (some ad) c b (k : Int) (by omega) (by omega) HC.out.1
                  simp only [Int.toNat_natCast] at hrunT hrdT hcapT hrunD hrdD hcapD
                  have HRT := Aside0.mk hrdT
                  have HRD := Aside0.mk hrdD
                  have HOK := Aside0.mk (show okS b from ⟨by omega, by rw [HNO.out]; omega, by rw [HNO.out, ← HT.out]; omega, fun x hx => by
                    rw [HNO.out] at hx
                    obtain ⟨i, hi, rfl⟩ := List.getElem_of_mem hx
                    rw [List.length_take, List.length_drop] at hi
                    have h1 := HZ.out (N + i) (by omega) (by have := HT.out; omega)
                    rw [List.getElem_take, List.getElem_drop]
                    rw [List.getD_eq_getElem?_getD, List.getElem?_eq_getElem (by have := HT.out; omega)] at h1
                    exact h1⟩)
                  have HAX := Aside0.mk (show allOf b = k from by unfold allOf; rw [HNO.out, HT.out])
                  obtain ⟨X, hX⟩ : ∃ X, X = b.take k := ⟨_, rfl⟩
                  obtain ⟨Y, hY⟩ : ∃ Y, Y = b.drop k := ⟨_, rfl⟩
                  rw [← hX] at hrunT
                  rw [← hY] at hrunD
                  have HXY := Aside0.mk (And.intro hX hY)
                  clear hX hY hrdT hrdD hcapT hcapD hi0 hsz
                  go_wp2_with fail
                  go_quiet (fail)
                  go_wp2_with fail
                  refine bodyPost_ret (results_tmp4 rfl _ _ _) rfl ?_
                  refine ⟨pw_below_drewN HB5.out _, .inr (.inr ⟨HOK.out, A7, ?_, ?_, ?_⟩)⟩
                  · rw [HAX.out, ← HXY.out.1, ← HXY.out.2, HG0.out]; rfl
                  · rw [HAX.out]; exact Kd.C_of_reads (HRT.out w (Kd.reads_of_C HC.out.2))
                  · rw [HAX.out]; exact Kd.C_of_reads (HRD.out w (Kd.reads_of_C HC.out.2))
end Go.Proofs.Ytjhciagjofhhiaa.Ck
