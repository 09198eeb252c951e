import Derived.Test.YtjhciagjofhhiaaTlG
/- Errors as numbers; same; alive. -/
namespace Go.Proofs.Ytjhciagjofhhiaa.Tl
open Go.RowKit Go.Proofs.YtjhciagjofhhiaaW.PrintWords Go.Proofs.YtjhciagjofhhiaaW.PrintLast Go.Proofs.YtjhciagjofhhiaaW.PrintMore Go.Proofs.Ytjhciagjofhhiaa.Sh
set_option linter.unusedVariables false
set_option linter.unusedSimpArgs false
set_option maxRecDepth 100000 in
theorem num_err (c : Int) (hc : (c == 0) = false) (w : World) : Calls Try.prog 52 #[.iface 55 (.int .i64 c)] w fun e w' => e = .returned (.int .i64 c) ∧ w = w' := by
  have hta : ∀ (v : Value) (W : World), (Instr.typeAssert (.iface 55 v) 51 55 true).run Try.prog W = .ok (.tuple #[v, .bool true]) W := fun v W => by rfl
  have hc2 : (c != 0) = true := by rw [bne_iff_ne]; rw [beq_eq_false_iff_ne] at hc; exact hc
  go_enter Try.func52, Try.ntmps52
  go_wp2
  go_ret
  exact ⟨rfl, rfl⟩
theorem is_form (w : World) : Calls Try.prog 30 #[.iface 55 (.int .i64 2), .int .i64 2] w fun e w' => e = .returned (.bool true) ∧ w = w' := by
  go_enter Try.func30, Try.ntmps30
  go_wp2_with (first | (go_at_call 52; refine (num_err 2 rfl _).mono ?_; rintro e w' ⟨rfl, rfl⟩))
  go_ret
  exact ⟨rfl, rfl⟩
set_option maxRecDepth 100000 in
theorem same_true (A : Option Addr) (c : Nat) (A2 : Option Addr) (c2 : Nat) (l : List Par) (w : World) (hc : l.length ≤ c) (hC : Kd.C PAR w A l.length l) (hc2 : l.length ≤ c2) (hC2 : Kd.C PAR w A2 l.length l) :
    Calls Try.prog 33 #[.slice A l.length c, .slice A2 l.length c2] w fun e w' => e = .returned (.bool true) ∧ ∃ m, w' = w.drewN m := by
  have HC := Aside0.mk hC
  have HC2 := Aside0.mk hC2
  have hlb : l.length ≤ 9223372036854775807 := hC.2.1
  clear hC hC2
  go_enter Try.func33, Try.ntmps33
  go_wp2_with fail
  go_loopw [13] (fun i wr => ∃ (j m : Nat), j ≤ l.length ∧ i = .int .i64 j ∧ wr = w.drewN m) (fun i _ => l.length - (intOf i).toNat)
  case atStart => exact ⟨0, 0, Nat.zero_le _, rfl, rfl⟩
  case round =>
    obtain ⟨j, m, hj, rfl, rfl⟩ := hrel
    by_cases hlt : j < l.length
    · obtain ⟨ad, A3, c3, rfl, h0, h1, _, h3⟩ := par_cells HC.out j hlt
      obtain ⟨ad2, A4, c4, rfl, k0, k1, _, k3⟩ := par_cells HC2.out j hlt
      obtain ⟨z, hz⟩ : ∃ z, z = l.getD j (0, []) := ⟨_, rfl⟩
      rw [← hz] at h0 h1 h3 k0 k1 k3
      clear hz
      have hcv1 := fun q => Kd.C_string (P := Try.prog) (A := A3) (c := c3) Try.underlying26 Try.underlying5 Try.underlying9 (Kd.C_drewN h3 q)
      have hcv2 := fun q => Kd.C_string (P := Try.prog) (A := A4) (c := c4) Try.underlying26 Try.underlying5 Try.underlying9 (Kd.C_drewN k3 q)
      clear h3 k3
      have hji : (j : Int) < (l.length : Int) := by omega
      go_wp2
      go_quiet (fail)
      go_wp2
      exact ⟨⟨j + 1, _, by omega, by go_num, rfl⟩, by simp [intOf]; omega⟩
    · obtain rfl : j = l.length := by omega
      go_wp2
      go_ret
      exact ⟨rfl, _, rfl⟩
theorem par_one {w : World} {b : Nat} {p : Par} {A1 : Option Addr} {c1 : Nat} (h : w.heap[b]? = some (.cells #[.int .i64 p.1, .slice A1 p.2.length c1] 115 (0, 0))) (h2 : p.2.length ≤ c1) (h3 : Kd.C (Kd.int .u8) w A1 p.2.length p.2) : Kd.C PAR w (some ⟨b, 0, none⟩) 1 [p] := by
  refine ⟨rfl, by decide, fun _ => ⟨_, rfl, fun j q hj => ?_⟩⟩
  have hj0 : j = 0 := by
    rcases j with _ | j
    · rfl
    · simp at hj
  subst hj0
  have hq : p = q := by simpa using hj
  subst hq
  refine ⟨[.int .i64 p.1, .slice A1 p.2.length c1], rfl, ⟨[.int .i64 p.1], [.slice A1 p.2.length c1], rfl, rfl, A1, c1, rfl, h2, h3⟩, fun i u hu => ?_⟩
  rw [add_row, Joins.cell_of_block h]
  have hi : i = 0 ∨ i = 1 := by
    rcases i with _ | _ | i
    · exact .inl rfl
    · exact .inr rfl
    · simp at hu
  rcases hi with rfl | rfl
  · exact hu
  · exact hu
def Yes (w : World) (e : Ending) (w' : World) : Prop := e = .returned (.bool true) ∧ Below w.heap.size w w'
theorem wr_ab : wr [((5 : Int), [97, 98])] = [0, 5, 0, 6, 97, 98, 0, 0] := by decide
theorem prs_ab : prs 9 [0, 5, 0, 6, 97, 98, 0, 0] = some [((5 : Int), [97, 98])] := by decide
theorem str_ab : ((strOfNums [0, 5, 0, 6, 97, 98, 0, 0]).toList == ([0, 5, 0, 6, 97, 98, 0, 0] : List UInt8)) = true := by
  rw [ByteArray.toList_eq, strOfNums_data]
  decide
set_option maxRecDepth 100000 in
theorem alive_calls (w : World) : Calls Try.prog 11 #[] w (Yes w) := by
  have hb1 := (Below.refl w.heap.size w).alloc (Nat.le_refl _) (.cells #[.int .u8 97, .int .u8 98] 5 (2, 3))
  have hb2 := hb1.alloc (by simp) (.cells #[.int .i64 5, .slice (some ⟨w.heap.size, 0, none⟩) 2 2] 115)
  have HB2 := Aside0.mk hb2
  have hx1 := blk_alloc (blk_new w (.cells #[.int .u8 97, .int .u8 98] 5 (2, 3))) (.cells #[.int .i64 5, .slice (some ⟨w.heap.size, 0, none⟩) 2 2] 115)
  have hx2 := blk_new (w.alloc (.cells #[.int .u8 97, .int .u8 98] 5 (2, 3))) (.cells #[.int .i64 5, .slice (some ⟨w.heap.size, 0, none⟩) 2 2] 115)
  simp only [World.size_alloc] at hx2
  have ht := txt_pre (l := [97, 98]) 2 2 rfl (Nat.le_refl _) hx1 (fun j hj => by
    have : j = 0 ∨ j = 1 := by simp at hj; omega
    rcases this with rfl | rfl <;> rfl) (by decide) (by intro x hx; simp at hx; omega)
  have HW := Aside0.mk (write_calls _ _ 1 [((5 : Int), [97, 98])] (Nat.le_refl _) (par_one (p := ((5 : Int), [97, 98])) hx2 (Nat.le_refl _) (txt_C ht).1) (by rw [wr_ab]; decide))
  clear hb1 hb2 hx1 hx2 ht
  have hcn := Joins.run_convert_bytes_const_at (P := Try.prog) w 26 5 #[.int .u8 97, .int .u8 98] 2 2 _ rfl Try.underlying26 Try.underlying5
  go_enter Try.func11, Try.ntmps11
  go_wp2_with fail
  refine HW.out.mono ?_
  rintro e w3 ⟨hb3, h3⟩
  rcases h3 with ⟨_, A3, c3, rfl, hR3⟩ | ⟨hn, _⟩
  · rw [wr_ab] at hR3 ⊢
    have HB3 := Aside0.mk (below_step HB2.out hb3)
    obtain ⟨_, hc3, hC3⟩ := Kd.R_reads' hR3
    have HC3 := Aside0.mk hC3
    have HP := Aside0.mk (params_calls w3 A3 c3 [0, 5, 0, 6, 97, 98, 0, 0] hc3 hC3 (by decide) (by intro x hx; simp at hx; omega))
    clear hb3 hR3 hC3 hc3
    go_wp2_with fail
    refine HP.out.mono ?_
    rintro e w4 ⟨hb4, h4⟩
    rcases h4 with ⟨ps, v, hps, rfl, hP⟩ | ⟨hn, _⟩
    · have hps' : ps = [((5 : Int), [97, 98])] := by
        have h5 := prs_ab
        rw [show ([0, 5, 0, 6, 97, 98, 0, 0] : List Int).length + 1 = 9 from rfl] at hps
        rw [h5] at hps
        injection hps with hps
        exact hps.symm
      subst hps'
      obtain ⟨A4, c4, rfl, hc4, hC4⟩ := Kd.R_reads hP
      obtain ⟨ad, A5, c5, rfl, h0, _, _, _⟩ := par_cells hC4 0 (by decide)
      rw [Nat.zero_mul, show ad.add 0 = ad from rfl] at h0
      have h0' : w4.cell? ad = some (.int .i64 5) := h0
      clear h0
      have hcv : (convert 26 9 (.slice A3 8 c3)).run Try.prog w4 = .ok (.string (strOfNums [0, 5, 0, 6, 97, 98, 0, 0])) w4 := Kd.C_string (P := Try.prog) (A := A3) (c := c3) Try.underlying26 Try.underlying5 Try.underlying9 (Kd.C_below HC3.out hb4)
      have HB4 := Aside0.mk (below_step HB3.out hb4)
      have hab := str_ab
      clear hb4 hP hC4 hc4 hps HP HW
      go_wp2_with fail
      go_ret
      exact ⟨rfl, HB4.out⟩
    · exact absurd hn (by rw [show ([0, 5, 0, 6, 97, 98, 0, 0] : List Int).length + 1 = 9 from rfl, prs_ab]; simp)
  · exact absurd (fun p hp => by rw [List.mem_singleton.1 hp]; exact ⟨by decide, by decide, by decide⟩) hn
end Go.Proofs.Ytjhciagjofhhiaa.Tl
