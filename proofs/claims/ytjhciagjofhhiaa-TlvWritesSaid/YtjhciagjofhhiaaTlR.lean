import Derived.Test.YtjhciagjofhhiaaTlL
import Derived.Deep.DeepCutAuto
/- For TlvWrites: the reference's Write. -/
namespace Go.Proofs.Ytjhciagjofhhiaa.Tl
open Go.RowKit Go.Proofs.YtjhciagjofhhiaaW.PrintWords Go.Proofs.YtjhciagjofhhiaaW.PrintLast Go.Proofs.YtjhciagjofhhiaaW.PrintMore Go.Proofs.Ytjhciagjofhhiaa.Sh Go.Proofs.Ytjhciagjofhhiaa.POne
set_option linter.unusedVariables false
set_option linter.unusedSimpArgs false
def RWrote (w : World) (l : List Par) (e : Ending) (w' : World) : Prop := ∃ A c, e = .returned (.slice A (wr l).length c) ∧ RB w' w.heap.size (.slice A (wr l).length c) (wr l) ∧ Below w.heap.size w w'
theorem nbz2 (n : Nat) : nbz n 2 = nb n 2 := by unfold nbz; rw [if_pos (.inr (.inl rfl))]; rfl
theorem nbz2_len (n : Nat) : (nbz n 2).length = 2 := by rw [nbz2, nb_len]
theorem take_next {l : List Par} {j : Nat} (h : j < l.length) : l.take (j + 1) = l.take j ++ [l.getD j (0, [])] := by
  rw [List.take_add_one, List.getD_eq_getElem?_getD, List.getElem?_eq_getElem h]
  simp
set_option maxRecDepth 100000 in
set_option maxHeartbeats 4000000 in
theorem rwrite_calls (w : World) (A : Option Addr) (c : Nat) (l : List Par) (hC : Kd.C PAR w A l.length l) (hl : l.length ≤ 100) (hg : ∀ p ∈ l, gd p) (hT : ∀ j, (wr (l.take j)).length ≤ 900000) : Calls Try.prog 38 #[.slice A l.length c] w (RWrote w l) := by
  have HC := Aside0.mk hC
  have HG := Aside0.mk hg
  have HT := Aside0.mk hT
  clear hC hg hT
  go_enter Try.func38, Try.ntmps38
  go_wp2_with fail
  go_loopw [3, 4] (fun vo i wx => ∃ (j : Nat) (A4 : Option Addr) (c4 : Nat) (L : List Int), j ≤ l.length ∧ i = .int .i64 (j : Nat) ∧ vo = .slice A4 L.length c4 ∧ Aside0 (L = wr (l.take j)) ∧ Aside0 (RB wx w.heap.size (.slice A4 L.length c4) L) ∧ Aside0 (Below w.heap.size w wx)) (fun _ i _ => l.length - (intOf i).toNat)
  case atStart => exact ⟨0, none, 0, [], Nat.zero_le _, rfl, rfl, ⟨rfl⟩, ⟨Kd.R_nil _ _ _ _ _⟩, ⟨Below.refl _ _⟩⟩
  case round =>
    rename World => wx
    obtain ⟨j, A4, c4, L, hj, rfl, rfl, HE, HR, HB⟩ := hrel
    by_cases hlt : j < l.length
    · obtain ⟨ad, A6, c6, rfl, h0, h1, hc6, hC6⟩ := par_cells HC.out j hlt
      have hmem : l.getD j (0, []) ∈ l := by
        rw [List.getD_eq_getElem?_getD, List.getElem?_eq_getElem hlt]
        exact List.getElem_mem hlt
      have hgj := HG.out _ hmem
      have HE2 := Aside0.mk (show L ++ rec1 (l.getD j (0, [])) = wr (l.take (j + 1)) from by rw [take_next hlt, wr_snoc, ← HE.out])
      obtain ⟨z, hz⟩ : ∃ z, z = l.getD j (0, []) := ⟨_, rfl⟩
      rw [← hz] at h0 h1 hc6 hC6 hgj HE2
      clear hz hmem
      obtain ⟨k, V⟩ := z
      obtain ⟨hk0, hk1, hVl⟩ := hgj
      simp only at h0 h1 hc6 hC6 hk0 hk1 hVl
      obtain ⟨kn, rfl⟩ := Int.eq_ofNat_of_zero_le hk0
      have HV6 := Aside0.mk (And.intro hc6 hC6)
      have H01 := Aside0.mk (And.intro h0 h1)
      have hji : (j : Int) < (l.length : Int) := by omega
      have hkn : kn ≤ 65535 := by omega
      have hLl := HT.out j
      rw [← HE.out] at hLl
      have HD := Aside0.mk (show Below w.heap.size w wx.drew from below_drew1 HB.out)
      have h0d := pw_cell_below HD.out H01.out.1
      have h1d := pw_cell_below HD.out H01.out.2
      have HRd := Aside0.mk (Kd.R_drewN HR.out 1)
      have hcv : wrap64 ((V.length : Int) + 4) = ((V.length + 4 : Nat) : Int) := w64 _ _ (by omega) (by omega) (by omega)
      have hcu : IntKind.u64.wrap ((V.length + 4 : Nat) : Int) = ((V.length + 4 : Nat) : Int) := by show (((V.length + 4 : Nat) : Int)) % 18446744073709551616 = _; omega
      have hck : IntKind.u64.wrap (kn : Int) = (kn : Int) := by show ((kn : Int)) % 18446744073709551616 = _; omega
      have HN1 := Aside0.mk (fun W => weftlineref06_Num.calls 20 (IntKind.u64.wrap (kn : Int)) 2 (nbz kn 2) W (by rw [hck]; exact num_f kn 2))
      have HN2 := Aside0.mk (fun W => weftlineref06_Num.calls 20 (IntKind.u64.wrap (wrap64 ((V.length : Int) + 4))) 2 (nbz (V.length + 4) 2) W (by rw [hcv, hcu]; exact num_f (V.length + 4) 2))
      obtain ⟨b4, hb4⟩ : ∃ b4, b4 = nbz kn 2 ++ nbz (V.length + 4) 2 := ⟨_, rfl⟩
      obtain ⟨q, hq⟩ : ∃ q, q = b4 ++ V := ⟨_, rfl⟩
      obtain ⟨q2, hq2⟩ : ∃ q2, q2 = L ++ padL q := ⟨_, rfl⟩
      have hl4 : b4.length = 4 := by rw [hb4, List.length_append, nbz2_len, nbz2_len]
      have hlq : q.length = 4 + V.length := by rw [hq, List.length_append, hl4]
      have HQ := Aside0.mk (show q2 = wr (l.take (j + 1)) from by rw [hq2, ← HE2.out, hq, hb4, nbz2, nbz2]; rfl)
      have HB4 := Aside0.mk hb4
      have HQQ := Aside0.mk (And.intro hq hq2)
      have HM1 := Aside0.mk (show ((nbz kn 2).length + (nbz (V.length + 4) 2).length) * 1 ≤ 140737488355328 from by rw [nbz2_len, nbz2_len]; omega)
      have HM2 := Aside0.mk (show (b4.length + V.length) * 1 ≤ 140737488355328 from by omega)
      have HM3 := Aside0.mk (show (L.length + (padL q).length) * 1 ≤ 140737488355328 from by rw [padL_len]; unfold padn; omega)
      have HPd := Aside0.mk (pad_f q (by omega))
      clear h0 h1 hc6 hC6 hk0 hk1 hcv hcu hck hb4 hq hq2 hl4 hlq HB HR HE
      go_wp2_with fail
      refine start_ (n := 18) (S := fun w' => w'.cell? (ad.add (j * 2)) = some (.int .i64 (kn : Nat)) ∧ w'.cell? ⟨(ad.add (j * 2)).block, (ad.add (j * 2)).off + 1, none⟩ = some (.slice A6 V.length c6)) (ds := [16]) #[false, false, false, false, false, false, false, false, false, false, false, false, false, false, false, false, false, false] (by kernel_rfl) rfl rfl ⟨pw_cell_below HD.out H01.out.1, pw_cell_below HD.out H01.out.2⟩ (fun hHeld => ?_)
      refine pure_ (i := 0) (N := some 12) (v := ?_) (a' := ?_) #[true, false, false, false, false, false, false, false, false, false, false, false, false, false, false, false, false, false] rfl rfl (by kernel_rfl) (fun _ _ _ h => h) (Or.inl ⟨by rfl, ?_⟩) ?_ ?_
      rotate_left
      · intro w'
        go_simp
        with_reducible rfl
      rotate_left
      · simp only [Act.put, List.setIfInBounds_toArray, List.set_cons_zero, List.set_cons_succ, i64_w, i32_w]
        rfl
      refine pure_ (i := 1) (N := some 13) (v := ?_) (a' := ?_) #[true, true, false, false, false, false, false, false, false, false, false, false, false, false, false, false, false, false] rfl rfl (by kernel_rfl) (fun _ _ _ h => h) (Or.inl ⟨by rfl, ?_⟩) ?_ ?_
      rotate_left
      · intro w'
        go_simp
        with_reducible rfl
      rotate_left
      · simp only [Act.put, List.setIfInBounds_toArray, List.set_cons_zero, List.set_cons_succ, i64_w, i32_w]
        rfl
      refine pure_ (i := 2) (N := some 14) (v := ?_) (a' := ?_) #[true, true, true, false, false, false, false, false, false, false, false, false, false, false, false, false, false, false] rfl rfl (by kernel_rfl) (fun _ _ _ h => h) (Or.inl ⟨by rfl, ?_⟩) ?_ ?_
      rotate_left
      · intro w'
        go_simp
        with_reducible rfl
      rotate_left
      · simp only [Act.put, List.setIfInBounds_toArray, List.set_cons_zero, List.set_cons_succ, i64_w, i32_w]
        rfl
      refine pure_ (i := 3) (N := some 15) (v := ?_) (a' := ?_) #[true, true, true, true, false, false, false, false, false, false, false, false, false, false, false, false, false, false] rfl rfl (by kernel_rfl) (fun _ _ _ h => h) (Or.inl ⟨by rfl, ?_⟩) ?_ ?_
      rotate_left
      · intro w'
        go_simp
        with_reducible rfl
      rotate_left
      · simp only [Act.put, List.setIfInBounds_toArray, List.set_cons_zero, List.set_cons_succ, i64_w, i32_w]
        rfl
      refine pure_ (i := 7) (N := some 19) (v := ?_) (a' := ?_) #[true, true, true, true, false, false, false, true, false, false, false, false, false, false, false, false, false, false] rfl rfl (by kernel_rfl) (fun _ _ _ h => h) (Or.inl ⟨by rfl, ?_⟩) ?_ ?_
      rotate_left
      · intro w'
        go_simp
        with_reducible rfl
      rotate_left
      · simp only [Act.put, List.setIfInBounds_toArray, List.set_cons_zero, List.set_cons_succ, i64_w, i32_w]
        rfl
      refine pure_ (i := 8) (N := some 20) (v := ?_) (a' := ?_) #[true, true, true, true, false, false, false, true, true, false, false, false, false, false, false, false, false, false] rfl rfl (by kernel_rfl) (fun _ _ _ h => h) (Or.inl ⟨by rfl, ?_⟩) ?_ ?_
      rotate_left
      · intro w'
        go_simp
        with_reducible rfl
      rotate_left
      · simp only [Act.put, List.setIfInBounds_toArray, List.set_cons_zero, List.set_cons_succ, i64_w, i32_w]
        rfl
      refine pure_ (i := 9) (N := some 21) (v := ?_) (a' := ?_) #[true, true, true, true, false, false, false, true, true, true, false, false, false, false, false, false, false, false] rfl rfl (by kernel_rfl) (fun _ _ _ h => h) (Or.inl ⟨by rfl, ?_⟩) ?_ ?_
      rotate_left
      · intro w'
        go_simp
        with_reducible rfl
      rotate_left
      · simp only [Act.put, List.setIfInBounds_toArray, List.set_cons_zero, List.set_cons_succ, i64_w, i32_w]
        rfl
      refine pure_ (i := 10) (N := some 22) (v := ?_) (a' := ?_) #[true, true, true, true, false, false, false, true, true, true, true, false, false, false, false, false, false, false] rfl rfl (by kernel_rfl) (fun _ _ _ h => h) (Or.inl ⟨by rfl, ?_⟩) ?_ ?_
      rotate_left
      · intro w'
        go_simp
        with_reducible rfl
      rotate_left
      · simp only [Act.put, List.setIfInBounds_toArray, List.set_cons_zero, List.set_cons_succ, i64_w, i32_w]
        rfl
      refine take_ (i := 4) (N := some 16) (v := ?_) (a' := ?_) #[true, true, true, true, true, false, false, true, true, true, true, false, false, false, false, false, false, false] rfl rfl (by kernel_rfl) (fun _ _ _ h => h) (Or.inl ⟨by rfl, ?_⟩) hHeld ?_ ?_
      rotate_left
      · rintro w' ⟨s0, s1⟩
        go_simp
        with_reducible rfl
      rotate_left
      · simp only [Act.put, List.setIfInBounds_toArray, List.set_cons_zero, List.set_cons_succ, i64_w, i32_w]
        rfl
      refine pure_ (i := 5) (N := some 17) (v := ?_) (a' := ?_) #[true, true, true, true, true, true, false, true, true, true, true, false, false, false, false, false, false, false] rfl rfl (by kernel_rfl) (fun _ _ _ h => h) (Or.inl ⟨by rfl, ?_⟩) ?_ ?_
      rotate_left
      · intro w'
        go_simp
        with_reducible rfl
      rotate_left
      · simp only [Act.put, List.setIfInBounds_toArray, List.set_cons_zero, List.set_cons_succ, i64_w, i32_w]
        rfl
      refine take_ (i := 11) (N := some 23) (v := ?_) (a' := ?_) #[true, true, true, true, true, true, false, true, true, true, true, true, false, false, false, false, false, false] rfl rfl (by kernel_rfl) (fun _ _ _ h => h) (Or.inl ⟨by rfl, ?_⟩) hHeld ?_ ?_
      rotate_left
      · rintro w' ⟨s0, s1⟩
        go_simp
        with_reducible rfl
      rotate_left
      · simp only [Act.put, List.setIfInBounds_toArray, List.set_cons_zero, List.set_cons_succ, i64_w, i32_w]
        rfl
      refine pure_ (i := 12) (N := some 24) (v := ?_) (a' := ?_) #[true, true, true, true, true, true, false, true, true, true, true, true, true, false, false, false, false, false] rfl rfl (by kernel_rfl) (fun _ _ _ h => h) (Or.inl ⟨by rfl, ?_⟩) ?_ ?_
      rotate_left
      · intro w'
        go_simp
        with_reducible rfl
      rotate_left
      · simp only [Act.put, List.setIfInBounds_toArray, List.set_cons_zero, List.set_cons_succ, i64_w, i32_w]
        rfl
      refine pure_ (i := 13) (N := some 25) (v := ?_) (a' := ?_) #[true, true, true, true, true, true, false, true, true, true, true, true, true, true, false, false, false, false] rfl rfl (by kernel_rfl) (fun _ _ _ h => h) (Or.inl ⟨by rfl, ?_⟩) ?_ ?_
      rotate_left
      · intro w'
        go_simp
        with_reducible rfl
      rotate_left
      · simp only [Act.put, List.setIfInBounds_toArray, List.set_cons_zero, List.set_cons_succ, i64_w, i32_w]
        rfl
      refine pure_ (i := 14) (N := some 26) (v := ?_) (a' := ?_) #[true, true, true, true, true, true, false, true, true, true, true, true, true, true, true, false, false, false] rfl rfl (by kernel_rfl) (fun _ _ _ h => h) (Or.inl ⟨by rfl, ?_⟩) ?_ ?_
      rotate_left
      · intro w'
        go_simp
        with_reducible rfl
      rotate_left
      · simp only [Act.put, List.setIfInBounds_toArray, List.set_cons_zero, List.set_cons_succ, i64_w, i32_w]
        rfl
      refine one_ (i := 6) (N := some 18) #[true, true, true, true, true, true, true, true, true, true, true, true, true, true, true, false, false, false] rfl rfl (by kernel_rfl) (by decide) (fun K hK => ?_)
      refine goes_ Try.func14 (by kernel_rfl) rfl #[.int .u64 (IntKind.u64.wrap (kn : Int)), .int .i64 2] (by rfl) rfl rfl (by first | rfl | (simp only [List.map_toArray, List.map_cons, List.map_nil]; rfl)) ?_
      with_reducible refine (HN1.out _).mono ?_
      rintro e w2 ⟨v2, rfl, hR2, hb2⟩
      obtain ⟨A2, c2, rfl⟩ := Kd.R_slice hR2
      refine ⟨_, rfl, ?_⟩
      refine hK.out _ _ ⟨pw_cell_below hb2 hHeld.1, pw_cell_below hb2 hHeld.2⟩ (fun hHeld => ?_)
      clear hK K
      refine norm_ (a' := ?_) ?_ ?_
      rotate_left
      · show Act.put _ (some 18) _ = _
        simp only [Act.put, List.setIfInBounds_toArray, List.set_cons_zero, List.set_cons_succ, i64_w, i32_w]
        rfl
      refine one_ (i := 15) (N := some 27) #[true, true, true, true, true, true, true, true, true, true, true, true, true, true, true, true, false, false] rfl rfl (by kernel_rfl) (by decide) (fun K hK => ?_)
      refine goes_ Try.func14 (by kernel_rfl) rfl #[.int .u64 (IntKind.u64.wrap (wrap64 ((V.length : Int) + 4))), .int .i64 2] (by rfl) rfl rfl (by first | rfl | (simp only [List.map_toArray, List.map_cons, List.map_nil]; rfl)) ?_
      with_reducible refine (HN2.out _).mono ?_
      rintro e w3 ⟨v3, rfl, hR3, hb3⟩
      obtain ⟨A3, c3, rfl⟩ := Kd.R_slice hR3
      refine ⟨_, rfl, ?_⟩
      refine hK.out _ _ ⟨pw_cell_below hb3 hHeld.1, pw_cell_below hb3 hHeld.2⟩ (fun hHeld => ?_)
      clear hK K
      refine norm_ (a' := ?_) ?_ ?_
      rotate_left
      · show Act.put _ (some 27) _ = _
        simp only [Act.put, List.setIfInBounds_toArray, List.set_cons_zero, List.set_cons_succ, i64_w, i32_w]
        rfl
      refine last_ (i := 16) (N := some 28) #[true, true, true, true, true, true, true, true, true, true, true, true, true, true, true, true, true, false] rfl rfl (by kernel_rfl) (by decide) (fun K hK => ?_)
      refine Kd.R_append_rows_step (Kd.int .u8) (w0 := wx.drew) wx.drew.heap.size ?hw (.tmp 18) (.tmp 27) 26 5 (.int .u8 0) 1 ?ho Try.underlying26 info5 rfl (by decide) (by decide) (.slice A2 (nbz kn 2).length c2) (nbz kn 2) (nbz (V.length + 4) 2) A3 (nbz (V.length + 4) 2).length c3 (fun _ => True) (fun _ => False) ?aA ?aC ?aO ?aR (fun _ _ h => h) (fun _ h => h.elim) (fun _ _ => trivial) ?aB ?aS ?aL ?_
      case hw => rfl
      case ho => rfl
      case aA => rfl
      case aC => rfl
      case aO => exact Kd.R_below hR2 hb3
      case aR => exact (Kd.R_reads' hR3).2.2
      case aB => exact below_step hb2 hb3
      case aS => exact (below_step hb2 hb3).size
      case aL => exact HM1.out
      intro v7 w7 ho hb hg hn
      refine hK.out _ _ ?_
      clear hK K
      refine norm_ (a' := ?_) ?_ ?_
      rotate_left
      · show Act.put _ (some 28) _ = _
        simp only [Act.put, List.setIfInBounds_toArray, List.set_cons_zero, List.set_cons_succ, i64_w, i32_w]
        rfl
      refine pure_ (i := 17) (N := some 5) (v := ?_) (a' := ?_) #[true, true, true, true, true, true, true, true, true, true, true, true, true, true, true, true, true, true] rfl rfl (by kernel_rfl) (fun _ _ _ h => h) (Or.inl ⟨by rfl, ?_⟩) ?_ ?_
      rotate_left
      · intro w'
        go_simp
        with_reducible rfl
      rotate_left
      · simp only [Act.put, List.setIfInBounds_toArray, List.set_cons_zero, List.set_cons_succ, i64_w, i32_w]
        rfl
      refine done_ (by kernel_rfl) ?_
      rw [← HB4.out] at ho
      have HO7 := Aside0.mk ho
      have HB7 := Aside0.mk hb
      clear ho hb hg hn
      obtain ⟨A7, c7, rfl⟩ := Kd.R_slice HO7.out
      have HBw := Aside0.mk (HD.out.trans (HB7.out.mono HD.out.size))
      have hx7 := pw_cell_below HBw.out H01.out.2
      go_wp2_with (first | (at_builtin; first | (refine Kd.R_append_rows (Kd.int .u8) (w0 := wx.drew) wx.drew.heap.size rfl (.tmp 30) (.tmp 35) 26 5 (.int .u8 0) 1 rfl Try.underlying26 info5 rfl (by decide) (by omega) (.slice A7 b4.length c7) b4 V A6 V.length c6 (fun _ => True) (fun _ => False) rfl rfl ?aO ?aR (fun _ _ h => h) (fun _ h => h.elim) (fun _ _ => trivial) ?aB ?aS ?aL ?_; (case aO => exact HO7.out); (case aR => exact Kd.C_below HV6.out.2 HBw.out); (case aB => exact HB7.out); (case aS => exact HB7.out.size); (case aL => exact HM2.out); intro v8 w8 ho hb hg hn; rw [← HQQ.out.1] at ho; have HO8 := Aside0.mk ho; have HB8 := Aside0.mk hb; clear ho hb hg hn; obtain ⟨A8, c8, rfl⟩ := Kd.R_slice HO8.out) | (refine Kd.R_append_rows (Kd.int .u8) (w0 := w) w.heap.size rfl (.tmp 29) (.tmp 37) 26 5 (.int .u8 0) 1 rfl Try.underlying26 info5 rfl (by decide) (by omega) (.slice A4 L.length c4) L (padL q) A9 (padL q).length c9 (fun _ => True) (fun _ => False) rfl rfl ?aO ?aR (fun _ _ h => h) (fun _ h => h.elim) (fun _ _ => trivial) ?aB ?aS ?aL ?_; (case aO => exact HR9.out); (case aR => exact HO9.out); (case aB => exact HB9.out); (case aS => exact HB9.out.size); (case aL => exact HM3.out); intro vA wA ho hb hg hn; rw [← HQQ.out.2] at ho; have HOA := Aside0.mk ho; have HBA := Aside0.mk hb; clear ho hb hg hn; obtain ⟨AA, cA, rfl⟩ := Kd.R_slice HOA.out)) | (go_at_call 17; refine (weftlineref06_Pad.calls 8 A8 c8 q (padL q) w8 (Kd.R_reads' HO8.out).2.2 (Kd.R_reads' HO8.out).2.1 HPd.out).mono ?_; rintro e w9 ⟨v9, rfl, hR9, hb9⟩; obtain ⟨A9, c9, rfl⟩ := Kd.R_slice hR9; have HO9 := Aside0.mk (Kd.R_reads' hR9).2.2; have HR9 := Aside0.mk (Kd.R_below (Kd.R_below HRd.out HB8.out) hb9); have HB9 := Aside0.mk (below_step (HD.out.trans (HB8.out.mono HD.out.size)) hb9); clear hR9 hb9))
      exact ⟨⟨j + 1, AA, cA, q2, by omega, by go_num, rfl, HQ, HOA, HBA⟩, by simp [intOf]; omega⟩
    · obtain rfl : j = l.length := by omega
      have HE' := Aside0.mk (show L = wr l from by rw [HE.out, List.take_length])
      go_wp2_with fail
      go_ret
      obtain rfl := HE'.out
      exact ⟨A4, c4, rfl, HR.out, HB.out⟩
end Go.Proofs.Ytjhciagjofhhiaa.Tl
