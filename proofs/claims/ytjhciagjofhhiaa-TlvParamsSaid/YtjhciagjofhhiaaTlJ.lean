import Derived.Test.YtjhciagjofhhiaaTlI
/- TlvParams: the walk. -/
namespace Go.Proofs.Ytjhciagjofhhiaa.Tl
open Go.RowKit Go.Proofs.YtjhciagjofhhiaaW.PrintWords Go.Proofs.YtjhciagjofhhiaaW.PrintLast Go.Proofs.YtjhciagjofhhiaaW.PrintMore Go.Proofs.Ytjhciagjofhhiaa.Sh
set_option linter.unusedVariables false
set_option linter.unusedSimpArgs false
theorem bytes_wf {l : List Int} (h : ∀ z ∈ l, (Lit.int .u8 z).wf = true) : Bytes l := by
  intro x hx
  have := h x hx
  simp [Lit.wf, IntKind.min, IntKind.max, IntKind.signed, IntKind.bits] at this
  omega
theorem par_nil (w : World) : Kd.C PAR w none 0 [] := ⟨rfl, by decide, fun h => absurd h (by decide)⟩
theorem str_of {W : World} {A : Option Addr} {n c : Nat} {l : List Int} (hn : n = l.length) (h : Kd.C (Kd.int .u8) W A n l) : ∀ q, (convert 26 9 (.slice A n c)).run Try.prog (W.drewN q) = .ok (.string (strOfNums l)) (W.drewN q) := fun q => by
  subst hn
  exact Kd.C_string (P := Try.prog) (A := A) (c := c) Try.underlying26 Try.underlying5 Try.underlying9 (Kd.C_drewN h q)
theorem str_at {W : World} {A : Option Addr} {n c : Nat} {l : List Int} (hn : n = l.length) (h : Kd.C (Kd.int .u8) W A n l) : (convert 26 9 (.slice A n c)).run Try.prog W = .ok (.string (strOfNums l)) W := by
  subst hn
  exact Kd.C_string (P := Try.prog) (A := A) (c := c) Try.underlying26 Try.underlying5 Try.underlying9 h
set_option maxRecDepth 100000 in
set_option maxHeartbeats 4000000 in
theorem tlvParams_walk (W : World) (A0 : Option Addr) (c0 : Nat) (l0 : (List Int)) (hc0 : l0.length ≤ c0) (hr0 : Kd.C (Kd.int .u8) W A0 l0.length l0) (w0 : (∀ zl0 ∈ l0, (Lit.int .u8 zl0).wf = true)) :
    Calls Try.prog 5 #[.slice A0 l0.length c0] W fun e w' => e = .returned (.bool true) ∧ Below W.heap.size W w' := by
  have HBY := Aside0.mk (bytes_wf w0)
  have HC := Aside0.mk hr0
  have HCC := Aside0.mk hc0
  clear w0 hr0 hc0
  have hcase : (decide ((9000 : Int) < (l0.length : Int)) = true) ∨ (decide ((9000 : Int) < (l0.length : Int)) = false ∧ l0.length ≤ 9000) := by
    rcases Nat.lt_or_ge 9000 l0.length with h | h
    · left; simp; omega
    · right; exact ⟨by simp; omega, h⟩
  go_enter Try.func5, Try.ntmps5
  go_wp2_with fail
  refine (alive_calls W).mono ?_
  rintro e w1 ⟨rfl, hB1⟩
  have HB1 := Aside0.mk hB1
  clear hB1
  rcases hcase with hd | ⟨hd, hl⟩
  · go_wp2_with fail
    go_ret
    exact ⟨rfl, HB1.out⟩
  · have HL := Aside0.mk hl
    have HLA := Aside0.mk (show (([] : List Int).length + l0.length) * 1 ≤ 140737488355328 by simp; omega)
    clear hl
    have HC1 := Aside0.mk (Kd.C_below HC.out HB1.out)
    go_wp2_with (first | ((with_reducible refine gate_dst (N := 14) rfl ?_); refine Kd.R_lit (Kd.int .u8) (w0 := W) W.heap.size 5 ?hg (N := 14) ?hd (xs := ([] : List Int)) (inner := []) (ok := fun _ => True) (okp := fun _ => True) ?hr ?hp (fun _ hk => hk) trivial HB1.out HB1.out.size (by simp) ?_; (case hd => rfl); (case hg => rfl); (case hr => first | (go_simp; done) | (go_simp; rfl)); (case hp => exact (Reps.none _ _)); intro v1 w2 ho hb hg hn; have HO2 := Aside0.mk ho; have HB2 := Aside0.mk hb; clear ho hb hg hn; obtain ⟨A2, c2, rfl⟩ := Kd.R_slice HO2.out) | (at_builtin; refine Kd.R_append_rows (Kd.int .u8) (w0 := W) W.heap.size rfl (.tmp 14) (.tmp 15) 26 5 (.int .u8 0) 1 rfl Try.underlying26 info5 rfl (by decide) (by omega) (.slice A2 ([] : List Int).length c2) [] l0 _ _ _ (fun _ => True) (fun _ => False) rfl rfl ?aO ?aR (fun _ _ h => h) (fun _ h => h.elim) (fun _ _ => trivial) ?aB ?aS ?aL ?_; (case aO => exact HO2.out); (case aR => exact Kd.C_below HC.out HB2.out); (case aB => exact HB2.out); (case aS => exact HB2.out.size); (case aL => exact HLA.out); intro v2 w3 ho hb hg hn; rw [List.nil_append] at ho; have HO3 := Aside0.mk ho; have HB3 := Aside0.mk hb; clear ho hb hg hn; obtain ⟨A3, c3, rfl⟩ := Kd.R_slice HO3.out))
    obtain ⟨_, hc3, hC3⟩ := Kd.R_reads' HO3.out
    refine (params_calls w3 A3 c3 l0 hc3 hC3 (by have := HL.out; omega) HBY.out).mono ?_
    rintro e w4 ⟨hb4, h4⟩
    have HC4 := Aside0.mk (Kd.C_below hC3 hb4)
    have HB4 := Aside0.mk (below_step HB3.out hb4)
    clear hc3 hC3
    rcases h4 with ⟨ps, v, hps, rfl, hP⟩ | ⟨hps, rfl⟩
    · obtain ⟨A4, c4, rfl, hcp4, hCp4⟩ := Kd.R_reads hP
      have HP4 := Aside0.mk (And.intro hcp4 hCp4)
      have HPS := Aside0.mk hps
      clear hP hcp4 hCp4 hps hb4
      go_wp2_with fail
      refine (rparams_calls w4 A0 c0 l0 HCC.out (Kd.C_below HC.out HB4.out) (by have := HL.out; omega) HBY.out).mono ?_
      rintro e w5 ⟨hb5, h5⟩
      rcases h5 with ⟨ps5, v5, hps5, rfl, hP5⟩ | ⟨hps5, _⟩
      · have hpe : ps5 = ps := by
          have := HPS.out
          rw [hps5] at this
          injection this
        subst hpe
        obtain ⟨A5, c5, rfl, hcp5, hCp5⟩ := Kd.R_reads hP5
        have HP5 := Aside0.mk (And.intro hcp5 hCp5)
        have HP45 := Aside0.mk (Kd.C_below HP4.out.2 hb5)
        have HB5 := Aside0.mk (below_step HB4.out hb5)
        have hs1 := str_of (c := c3) rfl (Kd.C_below HC4.out hb5)
        have hs2 := str_of (c := c0) rfl (Kd.C_below HC.out HB5.out)
        have HWP := Aside0.mk (wr_prs _ _ _ HBY.out HPS.out)
        clear hP5 hcp5 hCp5 hps5 hb5
        go_wp2_with (first | (go_at_call 33; refine (same_true A4 c4 A5 c5 ps5 w5 HP4.out.1 HP45.out HP5.out.1 HP5.out.2).mono ?_; rintro e w6 ⟨rfl, m6, rfl⟩))
        refine (write_calls _ A4 c4 ps5 HP4.out.1 (Kd.C_drewN HP45.out m6) (by rw [HWP.out.1]; have := HL.out; omega)).mono ?_
        rintro e w7 ⟨hb7, h7⟩
        rcases h7 with ⟨_, A7, c7, rfl, hR7⟩ | ⟨hn, _⟩
        · rw [HWP.out.1] at hR7 ⊢
          obtain ⟨_, hc7, hC7⟩ := Kd.R_reads' hR7
          have HB7 := Aside0.mk (below_step (HB5.out.trans (pw_below_drewN (Below.refl _ _) m6)) hb7)
          have hs3 := str_at (c := c7) rfl hC7
          have hs4 := str_at (c := c0) rfl (Kd.C_below HC.out HB7.out)
          clear hR7 hc7 hC7 hb7 hs1 hs2
          go_wp2_with fail
          go_ret
          exact ⟨rfl, HB7.out⟩
        · exact absurd HWP.out.2 hn
      · exact absurd hps5 (by rw [HPS.out]; simp)
    · have HPS := Aside0.mk hps
      clear hps hb4
      go_wp2_with fail
      refine (rparams_calls w4 A0 c0 l0 HCC.out (Kd.C_below HC.out HB4.out) (by have := HL.out; omega) HBY.out).mono ?_
      rintro e w5 ⟨hb5, h5⟩
      rcases h5 with ⟨ps5, v5, hps5, _, _⟩ | ⟨_, rfl⟩
      · exact absurd hps5 (by rw [HPS.out]; simp)
      · have HB5 := Aside0.mk (below_step HB4.out hb5)
        have hs1 := str_of (c := c3) rfl (Kd.C_below HC4.out hb5)
        have hs2 := str_of (c := c0) rfl (Kd.C_below HC.out HB5.out)
        clear hb5
        go_wp2_with (first | (go_at_call 30; refine (is_form _).mono ?_; rintro e w6 ⟨rfl, rfl⟩) | (go_at_call 33; refine (same_true none 0 none 0 [] w5 (Nat.le_refl _) (par_nil _) (Nat.le_refl _) (par_nil _)).mono ?_; rintro e w6 ⟨rfl, m6, rfl⟩))
        go_ret
        exact ⟨rfl, HB5.out.trans (pw_below_drewN (Below.refl _ _) _)⟩
end Go.Proofs.Ytjhciagjofhhiaa.Tl
