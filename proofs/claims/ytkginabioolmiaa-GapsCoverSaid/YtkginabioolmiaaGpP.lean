import Derived.Test.YtkginabioolmiaaGpO
/- The walk of GapsCover. -/
namespace Go.Proofs.Ytkginabioolmiaa.Gp
open Go.RowKit Go.Shelf Go.Proofs.YtkginabioolmiaaW.PrintWords Go.Proofs.YtkginabioolmiaaW.PrintLast Go.Proofs.YtkginabioolmiaaW.PrintMore Go.Proofs.Ytkginabioolmiaa.Sh
set_option linter.unusedVariables false
set_option linter.unusedSimpArgs false
theorem gaps_all {c : Int} {xs : List Int} (h : (gapsL c xs).length ≠ 16) : gapsL c xs = (runs xs).map (gapOf c) := by
  unfold gapsL at *
  rw [List.take_of_length_le]
  simp at h
  omega
theorem pq_at {w : World} {B : Nat} {g o n cap : Nat} {L : List (Int × Int)} (h : PQ w B (.slice (some ⟨g, o, none⟩) n cap) L) (i : Nat) (hi : i < L.length) : w.cell? ⟨g, o + i * 2, none⟩ = some (.int .i64 (L.getD i (0, 0)).1) ∧ w.cell? ⟨g, o + i * 2 + 1, none⟩ = some (.int .i64 (L.getD i (0, 0)).2) := by
  have hn := (Kd.Q_reads' h).1
  obtain ⟨c0, _, hM0, hc0, _⟩ := Kd.Q_elem h (0, 0) (i : Int) (by omega) (by omega)
  rw [Int.toNat_natCast] at hM0 hc0
  obtain ⟨a0, b0, rfl, h1, h2⟩ := hM0
  have h1' : a0 = [.int .i64 (L.getD i (0, 0)).1] := h1
  have h2' : b0 = [.int .i64 (L.getD i (0, 0)).2] := h2
  subst h1' h2'
  exact ⟨hc0 0 _ rfl, hc0 1 _ rfl⟩
set_option maxRecDepth 100000 in
set_option maxHeartbeats 4000000 in
theorem gapsCover_main (W : World) (a0 : Int) (A1 : Option Addr) (c1 : Nat) (l1 : List Int) (w0 : U32 a0) (hr1 : Kd.C (Kd.int .u32) W A1 l1.length l1) (w1 : ∀ z ∈ l1, U32 z) (hl : l1.length ≤ 60) :
    Calls Try.prog 5 #[.int .u32 a0, .slice A1 l1.length c1] W (Yes W) := by
  have HA := Aside0.mk (alive_calls W)
  have HC := Aside0.mk (And.intro hr1 w1)
  have H0 := Aside0.mk w0
  have hn0 : ¬ ((60 : Int) < (l1.length : Int)) := by omega
  clear hr1 w1 w0
  go_enter Try.func5, Try.ntmps5
  go_wp2_with (first | (go_at_call 8; refine HA.out.mono ?_; rintro e w2 ⟨rfl, hb⟩; have HB2 := Aside0.mk hb; clear hb) | (go_at_call 9; refine (new_calls _ W.heap.size a0 HB2.out.size).mono ?_; rintro e w3 ⟨rfl, hT, hb⟩; have HT3 := Aside0.mk hT; have HB3 := Aside0.mk hb; clear hT hb))
  have hO : Own W w2.heap.size a0 [] [] (fun k => k = w2.heap.size) w3 := ⟨HT3.out, HB2.out.trans (HB3.out.mono HB2.out.size), fun k hk => by have hk' : k = w2.heap.size := hk; rw [hk']; exact HB2.out.size, fun k hk => by have hk' : k = w2.heap.size := hk; rw [hk']; obtain ⟨v, u, hT', _⟩ := HT3.out; exact hT'.lt⟩
  obtain ⟨p, hp⟩ : ∃ p, p = w2.heap.size := ⟨_, rfl⟩
  rw [← hp] at hO
  rw [← hp]
  have HO := Aside0.mk hO
  clear hO hp HT3 HB3 HB2 HA
  go_loopw [24] (fun i wr => ∃ (k : Nat) (c : Int) (xs ds : List Int) (S : Nat → Prop), k ≤ l1.length ∧ i = .int .i64 (k : Nat) ∧ Aside0 (Own W p c xs ds S wr ∧ Gd c xs ∧ xs.length ≤ k)) (fun i _ => l1.length - (intOf i).toNat)
  case atStart => exact ⟨0, a0, [], [], _, Nat.zero_le _, rfl, ⟨HO.out, gd_new H0.out, Nat.zero_le _⟩⟩
  case round =>
    obtain ⟨k, c, xs, ds, S, hk, rfl, HI⟩ := hrel
    have hxl : xs.length ≤ 900 := by have := HI.out.2.2; omega
    by_cases hlt : k < l1.length
    · have hlt2 : (k : Int) < (l1.length : Int) := by omega
      obtain ⟨ad, rfl, hcell⟩ := Kd.at_int (Kd.C_below HC.out.1 HI.out.1.bel) (k : Int) (by omega) (by omega)
      rw [Int.toNat_natCast] at hcell
      obtain ⟨x, hx⟩ : ∃ x, x = rd l1 (k : Int) := ⟨_, rfl⟩
      rw [← hx] at hcell
      have hx32 : U32 x := by rw [hx]; unfold rd; rw [Int.toNat_natCast, List.getD_eq_getElem?_getD, List.getElem?_eq_getElem hlt]; exact HC.out.2 _ (List.getElem_mem hlt)
      have HT := Aside0.mk (own_take HI.out.1 HI.out.2.1.srt hxl HI.out.2.1.c32 HI.out.2.1.u32 x hx32)
      have HGD := Aside0.mk (take_gd (ds := ds) HI.out.2.1 hx32)
      have HTL := Aside0.mk (take_len c x xs ds)
      obtain ⟨T, hT⟩ : ∃ T, T = take c xs ds x := ⟨_, rfl⟩
      rw [← hT] at HT HGD HTL
      clear hx hx32 hT
      go_wp2_with (first | (go_at_call 10; refine HT.out.mono ?_; rintro e w5 ⟨rfl, S5, ho5, hc5⟩; have HO5 := Aside0.mk ho5; clear ho5 hc5))
      exact ⟨⟨k + 1, T.c, T.xs, T.ds, S5, by omega, by go_num, ⟨HO5.out, HGD.out, by have := HTL.out; have := HI.out.2.2; omega⟩⟩, by simp [intOf]; omega⟩
    · obtain rfl : k = l1.length := by omega
      have HI0 := Aside0.mk HI.out
      have HGA := Aside0.mk (gaps_calls HI.out.1.tr (by omega))
      obtain ⟨G, hG⟩ : ∃ G, G = gapsL c xs := ⟨_, rfl⟩
      rw [← hG] at HGA
      have HG := Aside0.mk hG
      clear HI hG hlt
      by_cases h16 : G.length = 16
      · go_wp2_with (first | (go_at_call 16; refine HGA.out.mono ?_; rintro e w5 ⟨v5, rfl, hq5, hb5⟩; obtain ⟨A5, c5, rfl, _⟩ := Kd.Q_slice hq5; have HB5 := Aside0.mk (HI0.out.1.bel.trans (hb5.mono HI0.out.1.bel.size)); rw [h16]; clear hq5 hb5))
        go_ret
        exact ⟨rfl, HB5.out⟩
      · have h16b : ((G.length : Int) == 16) = false := by simp; omega
        have HGL := Aside0.mk h16
        clear h16
        go_wp2_with (first | (go_at_call 16; refine HGA.out.mono ?_; rintro e w5 ⟨v5, rfl, hq5, hb5⟩; obtain ⟨A5, c5, rfl, _⟩ := Kd.Q_slice hq5; have HQ5 := Aside0.mk hq5; have HO5 := Aside0.mk (HI0.out.1.below hb5); have HBY := Aside0.mk (beyond_calls HO5.out.tr (by omega)); clear hq5 hb5) | (go_at_call 17; refine HBY.out.mono ?_; rintro e w6 ⟨A6, c6, rfl, hq6, hb6⟩; have HQ6 := Aside0.mk hq6; have HO6 := Aside0.mk (HO5.out.below hb6); have HQ56 := Aside0.mk (Kd.Q_below HQ5.out hb6); clear hq6 hb6))
        have HE := Aside0.mk (show G = (runs xs).map (gapOf c) by rw [HG.out]; exact gaps_all (by rw [← HG.out]; exact HGL.out))
        have hG16 : G.length ≤ 16 := by rw [HG.out]; unfold gapsL; simp; omega
        have hG17 : (G.length : Int) ≤ 16 := by omega
        have HCU := Aside0.mk (cum_calls HO6.out.tr)
        have HHO := Aside0.mk (holes_calls HO6.out.tr (by omega))
        obtain ⟨w9, hw9⟩ : ∃ w9, w9 = w6 := ⟨_, rfl⟩
        rw [← hw9] at HQ6 HO6 HQ56 HCU HHO ⊢
        clear hw9 HBY HO5 HQ5 HGA HO HC H0
        go_loopw [10, 11, 44] (fun tk tl i wr => ∃ gi k : Nat, gi ≤ G.length ∧ tk = .int .i64 (k : Nat) ∧ tl = .int .i64 (lastF c xs k) ∧ i = .int .i64 (gi : Nat) ∧ Aside0 (G.drop gi = (runs (xs.drop k)).map (gapOf c) ∧ k ≤ xs.length ∧ Bd xs k ∧ Below w9.heap.size w9 wr)) (fun _ _ i _ => G.length - (intOf i).toNat)
        case atStart => exact ⟨0, 0, Nat.zero_le _, rfl, rfl, rfl, ⟨by rw [List.drop_zero, List.drop_zero]; exact HE.out, Nat.zero_le _, .inl rfl, Below.refl _ _⟩⟩
        case round =>
          obtain ⟨gi, k, hgi, rfl, rfl, rfl, HJ⟩ := hrel
          by_cases hlt : gi < G.length
          · have hlt2 : (gi : Int) < (G.length : Int) := by omega
            have hkl : k < xs.length := by
              rcases Nat.lt_or_ge k xs.length with h | h
              · exact h
              · have h1 := HJ.out.1
                rw [List.drop_eq_nil_of_le h] at h1
                have h2 := congrArg List.length h1
                rw [List.length_drop] at h2
                simp [runs, runsF] at h2
                omega
            obtain ⟨m, f, hm1, hm2, hr, hf, hgo, hl2, hf2, hf5, hall, hlast, hbd⟩ := run_gap HI0.out.2.1 hkl HJ.out.2.2.1
            obtain ⟨g5, o5, cap5, hv5, _⟩ := Kd.Q_form HQ56.out (by omega)
            injection hv5 with hv5
            subst hv5
            have hcells := pq_at (Kd.Q_below HQ56.out HJ.out.2.2.2) gi hlt
            have hgv : G.getD gi (0, 0) = (f, f + (m : Int) - 1) ∧ G.drop (gi + 1) = (runs (xs.drop (k + m))).map (gapOf c) := by
              have h1 := HJ.out.1
              rw [hr, List.map_cons, hgo] at h1
              have h2 : G.drop gi = G.getD gi (0, 0) :: G.drop (gi + 1) := by
                rw [List.drop_eq_getElem_cons hlt]
                simp [List.getD_eq_getElem?_getD, List.getElem?_eq_getElem hlt]
              rw [h2] at h1
              injection h1 with h3 h4
              exact ⟨h3, h4⟩
            rw [hgv.1] at hcells
            obtain ⟨hc0, hc1⟩ := hcells
            have hc0' : wr.cell? ⟨g5, o5 + gi * 2, none⟩ = some (.int .i64 f) := hc0
            have hc1' : wr.cell? ⟨g5, o5 + gi * 2 + 1, none⟩ = some (.int .i64 (f + (m : Int) - 1)) := hc1
            have hl0 : 0 ≤ lastF c xs k := by unfold lastF; split; exact Int.le_refl _; exact far_nn _ _
            have HALL := Aside0.mk hall
            have HR := Aside0.mk (And.intro hgv.2 (And.intro hlast hbd))
            obtain ⟨la, hla⟩ : ∃ la, la = lastF c xs k := ⟨_, rfl⟩
            rw [← hla] at hl2 hl0 ⊢
            clear hla hr hf hgo hall hlast hbd hgv hc0 hc1
            have ht1 : decide (f < la + 2) = false := decide_eq_false (by omega)
            have ht2 : decide (f + (m : Int) - 1 < f) = false := decide_eq_false (by omega)
            go_wp2_with fail
            have hD := blk_new wr (.cells #[.int .i64 f, .int .i64 (f + (m : Int) - 1)] 44)
            have HB9 := Aside0.mk (HJ.out.2.2.2.trans ((below_alloc (Below.refl wr.heap.size wr) (.cells #[.int .i64 f, .int .i64 (f + (m : Int) - 1)] 44)).mono HJ.out.2.2.2.size))
            obtain ⟨D, hDe⟩ : ∃ D, D = wr.heap.size := ⟨_, rfl⟩
            obtain ⟨w10, hw10⟩ : ∃ w10, w10 = wr.alloc (.cells #[.int .i64 f, .int .i64 (f + (m : Int) - 1)] 44) := ⟨_, rfl⟩
            rw [← hDe, ← hw10] at hD
            rw [← hw10] at HB9
            rw [← hDe, ← hw10]
            have hd1 : w10.cell? ⟨D, 1, none⟩ = some (.int .i64 (f + (m : Int) - 1)) := (blk_cell hD 1).trans rfl
            have HK := Aside0.mk hgi
            clear hD hDe hw10 hc0' hc1' hgi
            go_loopw [10, 14] (fun tk n wq => ∃ j q : Nat, j ≤ m ∧ tk = .int .i64 ((k + j : Nat) : Int) ∧ n = .int .i64 (f + (j : Int)) ∧ wq = w10.drewN q) (fun _ n _ => (f + (m : Int) - intOf n).toNat)
            case atStart => exact ⟨0, 0, Nat.zero_le _, rfl, by simp, rfl⟩
            case round =>
              obtain ⟨j, q, hj, rfl, rfl, rfl⟩ := hrel
              by_cases hjm : j < m
              · have hjm2 : f + (j : Int) ≤ f + (m : Int) - 1 := by omega
                obtain ⟨ad, rfl, hcell⟩ := Kd.at_int (Kd.C_below (Kd.Q_reads' HQ6.out).2.2 HB9.out) ((k + j : Nat) : Int) (by omega) (by omega)
                rw [Int.toNat_natCast] at hcell
                have hcell' : w10.cell? (ad.add (k + j)) = some (.int .u32 ((c + (f + (j : Int))) % 4294967296)) := by
                  rw [← HALL.out j hjm]
                  exact hcell
                have hlen : ((k + j : Nat) : Int) < (xs.length : Int) := by omega
                have hdl : decide ((xs.length : Int) ≤ ((k + j : Nat) : Int)) = false := decide_eq_false (by omega)
                have hdl2 : decide (xs.length ≤ k + j) = false := decide_eq_false (by omega)
                have hdl3 : decide ((xs.length : Int) ≤ (k : Int) + (j : Int)) = false := decide_eq_false (by omega)
                have hmod : (f + (j : Int)) % 4294967296 = f + (j : Int) := by omega
                have hmod2 : IntKind.u32.wrap (f + (j : Int)) = f + (j : Int) := hmod
                obtain ⟨z, hz⟩ : ∃ z, z = (c + (f + (j : Int))) % 4294967296 := ⟨_, rfl⟩
                have hz2 : IntKind.u32.wrap (c + (f + (j : Int))) = z := hz.symm
                have hz3 : (c + (f + (j : Int))) % 4294967296 = z := hz.symm
                rw [← hz] at hcell'
                have hzz : (z != z) = false := by simp
                have HCW := Aside0.mk (fun n : Nat => cum_calls ((HO6.out.below HB9.out).tr.below (pw_below_drewN (Below.refl _ _) n)))
                clear hcell hz
                go_wp2_with fail
                go_quiet ((go_at_call 11; exact (HCW.out _).mono fun e w' ⟨h1, h2⟩ => ⟨h1, ⟨_, h2⟩⟩))
                go_wp2
                exact ⟨⟨j + 1, q + nq, by omega, by rw [show ((k + (j + 1) : Nat) : Int) = (k : Int) + (j : Int) + 1 by omega], by rw [show ((j + 1 : Nat) : Int) = (j : Int) + 1 by omega, ← Int.add_assoc], rfl⟩, by simp [intOf]; omega⟩
              · obtain rfl : j = m := by omega
                have hjm2 : ¬ (f + (j : Int) ≤ f + (j : Int) - 1) := by omega
                have hwr : Below w9.heap.size w9 (w10.drewN q) := b2 HB9.out q
                have HWR := Aside0.mk hwr
                clear hwr
                go_wp2_with fail
                go_roundw
                case rel => exact ⟨_, .int .i64 ((k + j : Nat) : Int), .int .i64 (lastF c xs (k + j)), _, _, .int .i64 ((gi + 1 : Nat) : Int), ⟨gi + 1, by omega, k + j, rfl, rfl, rfl, ⟨HR.out.1, hm2, HR.out.2.2, HWR.out⟩⟩, rfl, by go_num, by rw [HR.out.2.1], rfl, rfl, by go_num⟩
                case measure => simp [intOf]; omega
          · obtain rfl : gi = G.length := by omega
            have hkx : k = xs.length := by
              have h1 := HJ.out.1
              rw [List.drop_length] at h1
              rcases Nat.lt_or_ge k xs.length with h | h
              · obtain ⟨m, f, _, _, hr, _⟩ := run_gap HI0.out.2.1 h HJ.out.2.2.1
                rw [hr] at h1
                simp at h1
              · have := HJ.out.2.1
                omega
            subst hkx
            have HHW := Aside0.mk (holes_calls (HO6.out.below HJ.out.2.2.2).tr (by omega))
            rw [holes_last] at HHW
            have HBF := Aside0.mk (HO6.out.below HJ.out.2.2.2).bel
            have hl0 : 0 ≤ lastF c xs xs.length := by unfold lastF; split; exact Int.le_refl _; exact far_nn _ _
            have hl1 : lastF c xs xs.length < 4294967296 := by unfold lastF; split; decide; exact far_lt _ _
            obtain ⟨la, hla⟩ : ∃ la, la = lastF c xs xs.length := ⟨_, rfl⟩
            rw [← hla] at HHW hl0 hl1 ⊢
            have hw64 : wrap64 (la - (xs.length : Int)) = la - (xs.length : Int) := by unfold wrap64; omega
            have hnlt : ¬ ((G.length : Int) < (G.length : Int)) := Int.lt_irrefl _
            clear hla
            go_wp2_with (first | (go_at_call 18; refine HHW.out.mono ?_; rintro e w12 ⟨rfl, n12, rfl⟩))
            go_ret
            exact ⟨rfl, b2 HBF.out n12⟩
set_option maxRecDepth 100000 in
theorem gapsCover_long (W : World) (a0 : Int) (A1 : Option Addr) (c1 : Nat) (l1 : List Int) (hl : 60 < l1.length) :
    Calls Try.prog 5 #[.int .u32 a0, .slice A1 l1.length c1] W (Yes W) := by
  have HA := Aside0.mk (alive_calls W)
  have hn0 : (60 : Int) < (l1.length : Int) := by omega
  go_enter Try.func5, Try.ntmps5
  go_wp2_with (first | (go_at_call 8; refine HA.out.mono ?_; rintro e w2 ⟨rfl, hb⟩; have HB2 := Aside0.mk hb; clear hb))
  go_ret
  exact ⟨rfl, HB2.out⟩
theorem gapsCover_walk (W : World) (a0 : Int) (A1 : Option Addr) (c1 : Nat) (l1 : (List Int)) (w0 : (Lit.int .u32 a0).wf = true) (hc1 : l1.length ≤ c1) (hr1 : Kd.C (Kd.int .u32) W A1 l1.length l1) (w1 : (∀ zl1 ∈ l1, (Lit.int .u32 zl1).wf = true)) :
    Calls Try.prog 5 #[.int .u32 a0, .slice A1 l1.length c1] W fun e w' => e = .returned (.bool true) ∧ Below W.heap.size W w' := by
  by_cases h : 60 < l1.length
  · exact gapsCover_long W a0 A1 c1 l1 h
  · exact gapsCover_main W a0 A1 c1 l1 (u32_of_wf w0) hr1 (fun z hz => u32_of_wf (w1 z hz)) (by omega)
end Go.Proofs.Ytkginabioolmiaa.Gp
