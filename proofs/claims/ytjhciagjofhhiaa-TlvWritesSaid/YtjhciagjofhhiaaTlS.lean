import Derived.Test.YtjhciagjofhhiaaTlR
import Derived.Test.YtjhciagjofhhiaaTlQ
import Derived.Test.YtjhciagjofhhiaaPOnex9
/- TlvWrites: the walk. -/
namespace Go.Proofs.Ytjhciagjofhhiaa.Tl
open Go.RowKit Go.Proofs.YtjhciagjofhhiaaW.PrintWords Go.Proofs.YtjhciagjofhhiaaW.PrintLast Go.Proofs.YtjhciagjofhhiaaW.PrintMore Go.Proofs.Ytjhciagjofhhiaa.Sh Go.Proofs.Ytjhciagjofhhiaa.POne
set_option linter.unusedVariables false
set_option linter.unusedSimpArgs false
theorem rec1_len (p : Par) : (rec1 p).length ≤ p.2.length + 7 ∧ 4 ≤ (rec1 p).length := by
  unfold rec1
  rw [padL_len, List.length_append, List.length_append, nb_len, nb_len]
  unfold padn
  omega
theorem wr_len_le : ∀ l : List Par, (∀ p ∈ l, p.2.length ≤ 5000) → (wr l).length ≤ 5007 * l.length
  | [], _ => by simp [wr]
  | p :: l, h => by
    have ih := wr_len_le l (fun q hq => h q (List.mem_cons_of_mem _ hq))
    have h1 := (rec1_len p).1
    have h2 := h p List.mem_cons_self
    have e : wr (p :: l) = rec1 p ++ wr l := by simp [wr]
    rw [e, List.length_append, List.length_cons]
    omega
theorem wr_len_ge : ∀ l : List Par, l.length ≤ (wr l).length
  | [] => by simp
  | p :: l => by
    have ih := wr_len_ge l
    have h1 := (rec1_len p).2
    have e : wr (p :: l) = rec1 p ++ wr l := by simp [wr]
    rw [e, List.length_append, List.length_cons]
    omega
theorem nb_bytes (n : Nat) : ∀ k, Bytes (nb n k)
  | 0 => by intro x hx; simp [nb] at hx
  | k + 1 => by
    intro x hx
    have h : x = ((n / 256 ^ k % 256 : Nat) : Int) ∨ x ∈ nb n k := by simpa [nb] using hx
    rcases h with rfl | h
    · omega
    · exact nb_bytes n k x h
theorem rec1_bytes {p : Par} (h : Bytes p.2) : Bytes (rec1 p) := by
  intro x hx
  unfold rec1 padL at hx
  rcases List.mem_append.1 hx with hx | hx
  · rcases List.mem_append.1 hx with hx | hx
    · rcases List.mem_append.1 hx with hx | hx
      · exact nb_bytes _ _ x hx
      · exact nb_bytes _ _ x hx
    · exact h x hx
  · rw [List.eq_of_mem_replicate hx]
    omega
theorem wr_bytes {l : List Par} (h : ∀ p ∈ l, Bytes p.2) : Bytes (wr l) := by
  intro x hx
  unfold wr at hx
  obtain ⟨r, hr, hx⟩ := List.mem_flatten.1 hx
  obtain ⟨p, hp, rfl⟩ := List.mem_map.1 hr
  exact rec1_bytes (h p hp) x hx
theorem and64 (a b : Nat) (ha : a < 9223372036854775808) (hb : b < 9223372036854775808) : bits .and .i64 (a : Int) (b : Int) = ((a &&& b : Nat) : Int) := by
  have e : bits .and .i64 (a : Int) (b : Int) = IntKind.i64.wrap (((BitVec.ofInt 64 (a : Int) &&& BitVec.ofInt 64 (b : Int)).toNat : Nat) : Int) := rfl
  have e2 : (BitVec.ofInt 64 (a : Int) &&& BitVec.ofInt 64 (b : Int)).toNat = a &&& b := by
    rw [BitVec.toNat_and]
    simp [BitVec.toNat_ofInt]
    rw [Nat.mod_eq_of_lt (by omega), Nat.mod_eq_of_lt (by omega)]
  have h : a &&& b ≤ a := Nat.and_le_left
  rw [e, e2]
  generalize a &&& b = y at h
  have hm : ((y : Nat) : Int) % (2 ^ IntKind.i64.bits : Int) = (y : Int) := by show (y : Int) % 18446744073709551616 = _; omega
  unfold IntKind.wrap
  simp only [hm]
  rw [if_neg (fun hx => ?_)]
  have hx2 := (Bool.and_eq_true _ _ ▸ hx).2
  have hx3 : (9223372036854775808 : Int) ≤ (y : Int) := by simpa [IntKind.bits] using hx2
  omega
theorem bit_zero (m i : Nat) : m &&& 2 ^ i = 0 ↔ m.testBit i = false := by
  constructor
  · intro h
    have h1 := congrArg (fun x => Nat.testBit x i) h
    simpa [Nat.testBit_and, Nat.testBit_two_pow_self] using h1
  · intro h
    apply Nat.eq_of_testBit_eq
    intro j
    rw [Nat.testBit_and, Nat.testBit_two_pow]
    by_cases hij : i = j
    · subst hij; simp [h]
    · simp [hij]
theorem bit_and (m i : Nat) (hi : i < 20) (hm : m ≤ 65535) : (bits .and .i64 (m : Int) ((2 ^ i : Nat) : Int) != 0) = decide (m / 2 ^ i % 2 = 1) := by
  have h1 : 2 ^ i ≤ 2 ^ 20 := Nat.pow_le_pow_right (by decide) (by omega)
  have h2 : (2 : Nat) ^ 20 = 1048576 := by decide
  have hz := bit_zero m i
  rw [Nat.testBit_eq_decide_div_mod_eq] at hz
  rw [and64 _ _ (by omega) (by omega)]
  generalize m &&& 2 ^ i = y at hz
  by_cases h : m / 2 ^ i % 2 = 1
  · rw [decide_eq_true h] at hz ⊢
    have : y ≠ 0 := fun e => by have := hz.1 e; cases this
    rw [bne_iff_ne]
    omega
  · rw [decide_eq_false h] at hz ⊢
    obtain rfl := hz.2 rfl
    rfl
/-- The two high bits of a kind. -/
def hiK (k : Int) : Int := if 0 ≤ k ∧ k ≤ 65535 then k / 16384 else 0
theorem action_f (k : Int) : tlv_Action.f k = some (decide (2 ≤ hiK k), decide (hiK k % 2 = 1)) := by
  unfold tlv_Action.f hiK
  by_cases h0 : k < 0
  · rw [if_pos h0, if_neg (by omega)]; rfl
  · by_cases h1 : k > 65535
    · rw [if_neg h0, if_pos h1, if_neg (by omega)]; rfl
    · rw [if_neg h0, if_neg h1, if_pos (by omega)]
      obtain ⟨m, rfl⟩ := Int.eq_ofNat_of_zero_le (show 0 ≤ k by omega)
      have e1 := bit_and m 15 (by omega) (by omega)
      have e2 := bit_and m 14 (by omega) (by omega)
      rw [show (((2 ^ 15 : Nat) : Nat) : Int) = 32768 from rfl, show (2 : Nat) ^ 15 = 32768 from rfl] at e1
      rw [show (((2 ^ 14 : Nat) : Nat) : Int) = 16384 from rfl, show (2 : Nat) ^ 14 = 16384 from rfl] at e2
      rw [e1, e2]
      congr 2
      · rw [decide_eq_decide]; omega
      · rw [decide_eq_decide]; omega
theorem hiK_four (k : Int) : hiK k = 0 ∨ hiK k = 1 ∨ hiK k = 2 ∨ hiK k = 3 := by unfold hiK; split <;> omega
theorem par_wf {l : List Par} (h : ∀ z ∈ l, ((Lit.int .i64 z.1).wf = true ∧ ∀ x ∈ z.2, (Lit.int .u8 x).wf = true)) : ∀ p ∈ l, Bytes p.2 := by
  intro p hp x hx
  have := (h p hp).2 x hx
  simp [Lit.wf, IntKind.min, IntKind.max, IntKind.signed, IntKind.bits] at this
  omega
theorem str_atS {W : World} {A : Option Addr} {n c : Nat} {l : List Int} (hn : n = l.length) (h : Kd.C (Kd.int .u8) W A n l) : (convert 26 9 (.slice A n c)).run Try.prog W = .ok (.string (strOfNums l)) W := by
  subst hn
  exact Kd.C_string (P := Try.prog) (A := A) (c := c) Try.underlying26 Try.underlying5 Try.underlying9 h
/-- Between two rounds of the first loop. -/
def GJ (W : World) (l : List Par) (j : Nat) (gb : Bool) (wx : World) : Prop := gb = decide (∀ p ∈ l.take j, gd p) ∧ (∀ p ∈ l.take j, p.2.length ≤ 5000) ∧ Below W.heap.size W wx
theorem gj_step {W wx w2 : World} {l : List Par} {j : Nat} {gb : Bool} (h : GJ W l j gb wx) (hj : j < l.length) (hv : (l.getD j (0, [])).2.length ≤ 5000) (hb : Below W.heap.size W w2) : GJ W l (j + 1) (gb && decide (gd (l.getD j (0, [])))) w2 := by
  have e := take_next hj
  refine ⟨?_, ?_, hb⟩
  · rw [h.1, e, ← Bool.decide_and, decide_eq_decide]
    constructor
    · rintro ⟨h1, h2⟩ p hp
      rcases List.mem_append.1 hp with hp | hp
      · exact h1 p hp
      · rw [List.mem_singleton.1 hp]; exact h2
    · intro h1
      exact ⟨fun p hp => h1 p (List.mem_append.2 (.inl hp)), h1 _ (List.mem_append.2 (.inr (List.mem_singleton.2 rfl)))⟩
  · rw [e]
    intro p hp
    rcases List.mem_append.1 hp with hp | hp
    · exact h.2.1 p hp
    · rw [List.mem_singleton.1 hp]; exact hv
set_option maxRecDepth 100000 in
set_option maxHeartbeats 4000000 in
theorem tlvWrites_walk (W : World) (A0 : Option Addr) (c0 : Nat) (l0 : (List (Int × (List Int)))) (a1 : Int) (hc0 : l0.length ≤ c0) (hr0 : Kd.C (Kd.pair (Kd.int .i64) (Kd.slice 5 (Kd.int .u8))) W A0 l0.length l0) (w0 : (∀ zl0 ∈ l0, ((Lit.int .i64 zl0.1).wf = true ∧ (∀ zl02 ∈ zl0.2, (Lit.int .u8 zl02).wf = true)))) (w1 : (Lit.int .i64 a1).wf = true) :
    Calls Try.prog 6 #[.slice A0 l0.length c0, .int .i64 a1] W fun e w' => e = .returned (.bool true) ∧ Below W.heap.size W w' := by
  have HC := Aside0.mk (And.intro hc0 (show Kd.C PAR W A0 l0.length l0 from hr0))
  have HY := Aside0.mk (par_wf w0)
  clear hr0 w0 hc0 w1
  go_enter Try.func6, Try.ntmps6
  go_wp2_with fail
  refine (alive_calls W).mono ?_
  rintro e w1 ⟨rfl, hB1⟩
  have HB1 := Aside0.mk (show GJ W l0 0 true w1 from ⟨by simp, fun p hp => by simp at hp, hB1⟩)
  clear hB1
  go_wp2_with fail
  go_loopw [5, 19] (fun gv i wx => ∃ (j : Nat) (gb : Bool), j ≤ l0.length ∧ j ≤ 13 ∧ i = .int .i64 (j : Nat) ∧ gv = .bool gb ∧ Aside0 (GJ W l0 j gb wx)) (fun _ i _ => l0.length - (intOf i).toNat)
  case atStart => exact ⟨0, true, Nat.zero_le _, by omega, rfl, rfl, HB1⟩
  case round =>
    rename World => wx
    obtain ⟨j, gb, hj, hj13, rfl, rfl, HG⟩ := hrel
    clear HB1
    by_cases hlt : j < l0.length
    · obtain ⟨ad, A6, c6, rfl, h0, h1, hc6, hC6⟩ := par_cells HC.out.2 j hlt
      replace h0 := pw_cell_below HG.out.2.2 h0
      replace h1 := pw_cell_below HG.out.2.2 h1
      have HS := Aside0.mk (fun w2 hv hb => gj_step (w2 := w2) HG.out hlt hv hb)
      obtain ⟨z, hz⟩ : ∃ z, z = l0.getD j (0, []) := ⟨_, rfl⟩
      rw [← hz] at h0 h1 hc6 hC6 HS
      clear hz hc6 hC6
      obtain ⟨k, V⟩ := z
      simp only at h0 h1
      have HBa := Aside0.mk (HG.out.2.2.alloc HG.out.2.2.size (.cells #[.int .i64 k, .slice A6 V.length c6] 68))
      have hji : (j : Int) < (l0.length : Int) := by omega
      by_cases hj12 : 12 < j
      · have hj12i : (12 : Int) < (j : Int) := by omega
        go_wp2_with fail
        go_ret
        exact ⟨rfl, HBa.out⟩
      · have hj12i : ¬ (12 : Int) < (j : Int) := by omega
        by_cases hV : 5000 < V.length
        · have hVi : (5000 : Int) < (V.length : Int) := by omega
          go_wp2_with fail
          go_ret
          exact ⟨rfl, HBa.out⟩
        · have hVi : ¬ (5000 : Int) < (V.length : Int) := by omega
          cases gb with
          | true =>
            go_wp2_with (first | (go_at_call 35; refine (rgood_calls _ k A6 V.length c6 V rfl).mono ?_; rintro e w5 ⟨rfl, hb5⟩; have HB5 := Aside0.mk (below_step HBa.out hb5); clear hb5))
            exact ⟨⟨j + 1, decide (gd (k, V)), by omega, by omega, by go_num, rfl, ⟨by have h := HS.out _ (show V.length ≤ 5000 from by omega) HB5.out; rw [Bool.true_and] at h; exact h⟩⟩, by simp [intOf]; omega⟩
          | false =>
            go_wp2_with fail
            exact ⟨⟨j + 1, false, by omega, by omega, by go_num, rfl, ⟨by have h := HS.out _ (show V.length ≤ 5000 from by omega) HBa.out; rw [Bool.false_and] at h; exact h⟩⟩, by simp [intOf]; omega⟩
    · obtain rfl : j = l0.length := by omega
      have HB := Aside0.mk HG.out.2.2
      have hall := HG.out
      unfold GJ at hall
      rw [List.take_length] at hall
      have HV := Aside0.mk hall.2.1
      have HGB := Aside0.mk hall.1
      have HWL := Aside0.mk (show (wr l0).length ≤ 65091 from by have := wr_len_le l0 hall.2.1; omega)
      clear hall HG
      obtain ⟨hh, hhe⟩ : ∃ hh, hh = hiK a1 := ⟨_, rfl⟩
      have HA := Aside0.mk (fun w => tlv_Action.calls a1 (decide (2 ≤ hh)) (decide (hh % 2 = 1)) w (by rw [hhe]; exact action_f a1))
      have HF := Aside0.mk (show hh = 0 ∨ hh = 1 ∨ hh = 2 ∨ hh = 3 from by rw [hhe]; exact hiK_four a1)
      have HK := Aside0.mk (show hh = if 0 ≤ a1 ∧ a1 ≤ 65535 then a1 / 16384 else 0 from hhe)
      clear hhe
      go_wp2_with fail
      refine (HA.out _).mono ?_
      rintro e w2 ⟨rfl, hd2⟩
      have HB2 := Aside0.mk (below_step HB.out hd2.below)
      clear hd2
      go_upto_region 13 with fail
      go_cut [48] (fun s wx => s = .bool (decide (0 ≤ a1 ∧ a1 ≤ 65535)) ∧ wx = w2)
      case first =>
        by_cases h1 : 0 ≤ a1
        · by_cases h2 : a1 ≤ 65535
          · go_wp2_with fail
            go_meet
            exact ⟨by simp [h1, h2], rfl⟩
          · go_wp2_with fail
            go_meet
            exact ⟨by simp [h2], rfl⟩
        · go_wp2_with fail
          go_meet
          exact ⟨by simp; omega, rfl⟩
      case rest =>
        obtain ⟨rfl, rfl⟩ := hcut
        go_upto_if 48 with fail
        go_cut [10] (fun s wx => s = .int .i64 hh ∧ wx = wc)
        case first =>
          by_cases hin : 0 ≤ a1 ∧ a1 ≤ 65535
          · have hk := HK.out
            rw [if_pos hin] at hk
            rw [decide_eq_true hin]
            have hqq : a1.tdiv 16384 = hh := by rw [hk]; exact Int.tdiv_eq_ediv_of_nonneg hin.1
            have hbd : 0 ≤ hh ∧ hh ≤ 3 := by rw [hk]; omega
            clear hk hin HK
            go_wp2_with fail
            go_meet
            exact ⟨rfl, rfl⟩
          · have hk := HK.out
            rw [if_neg hin] at hk
            subst hk
            rw [decide_eq_false hin]
            go_wp2_with fail
            go_meet
            exact ⟨rfl, rfl⟩
        case rest =>
          obtain ⟨rfl, rfl⟩ := hcut
          go_upto_region 15 with fail
          go_cut [61] (fun s wx => s = .bool false ∧ wx = wc)
          case first =>
            rcases HF.out with rfl | rfl | rfl | rfl
            all_goals go_wp2_with fail
            all_goals go_meet
            all_goals exact ⟨rfl, rfl⟩
          case rest =>
            obtain ⟨rfl, rfl⟩ := hcut
            go_wp2_with fail
            refine (mk_calls wc A0 c0 l0 (Kd.C_below HC.out.2 HB2.out) (by omega) HV.out).mono ?_
            rintro e w3 ⟨A3, c3, rfl, hR3, hb3⟩
            have HB3 := Aside0.mk (below_step HB2.out hb3)
            have HR3 := Aside0.mk (Kd.R_reads' hR3)
            clear hR3 hb3
            go_wp2_with fail
            refine (write_calls w3 A3 c3 l0 HR3.out.2.1 HR3.out.2.2 (by have := HWL.out; omega)).mono ?_
            rintro e w4 ⟨hb4, h4⟩
            have HB4 := Aside0.mk (below_step HB3.out hb4)
            clear hb4
            rcases h4 with ⟨hgd, A4, c4, rfl, hR4⟩ | ⟨hgd, rfl⟩
            · obtain rfl : gb = true := by rw [HGB.out]; exact decide_eq_true hgd
              have HR4 := Aside0.mk (Kd.R_reads' hR4)
              have HGD := Aside0.mk hgd
              have HPS := Aside0.mk (prs_wr l0 ((wr l0).length + 1) hgd (by have := wr_len_ge l0; omega))
              clear hR4 hgd
              go_wp2_with fail
              refine (params_calls w4 A4 c4 (wr l0) HR4.out.2.1 HR4.out.2.2 (by have := HWL.out; omega) (wr_bytes HY.out)).mono ?_
              rintro e w5 ⟨hb5, h5⟩
              rcases h5 with ⟨ps, v5, hps, rfl, hP5⟩ | ⟨hps, _⟩
              · obtain rfl : l0 = ps := by
                  have h := HPS.out
                  rw [hps] at h
                  injection h with h
                  exact h.symm
                obtain ⟨A5, c5, rfl⟩ := Kd.R_slice hP5
                have HP5 := Aside0.mk (Kd.R_reads' hP5)
                have HB5 := Aside0.mk (below_step HB4.out hb5)
                have HBd := Aside0.mk (below_drew1 HB5.out)
                have hd1 : Below w5.heap.size w5 w5.drew := pw_below_drewN (Below.refl _ _) 1
                have HC4 := Aside0.mk (Kd.C_below (Kd.C_below HR4.out.2.2 hb5) hd1)
                have HC5 := Aside0.mk (Kd.C_below HP5.out.2.2 hd1)
                have HW := Aside0.mk (rwrite_calls w5.drew A0 c0 l0 (Kd.C_below HC.out.2 HBd.out) (by omega) HGD.out (fun j => by have := wr_take_le l0 j; have := HWL.out; omega))
                have hs4 := str_atS (c := c4) rfl HC4.out
                have HM := Aside0.mk (And.intro HP5.out.2.1 HC.out.1)
                clear hps hP5 hb5 hd1
                go_wp2_with fail
                refine start_ (n := 20) (S := fun w' => Below W.heap.size W w' ∧ (convert 26 9 (.slice A4 (wr l0).length c4)).run Try.prog w' = .ok (.string (strOfNums (wr l0))) w') (ds := [17]) #[false, false, false, false, false, false, false, false, false, false, false, false, false, false, false, false, false, false, false, false] (by kernel_rfl) rfl rfl ⟨HBd.out, hs4⟩ (fun hHeld => ?_)
                refine pure_ (i := 0) (N := some 82) (v := ?_) (a' := ?_) #[true, false, false, false, false, false, false, false, false, false, false, false, false, false, false, false, false, false, false, false] rfl rfl (by kernel_rfl) (fun _ _ _ h => h) (Or.inl ⟨by rfl, ?_⟩) ?_ ?_
                rotate_left
                · intro w'
                  go_simp
                  with_reducible rfl
                rotate_left
                · simp only [Act.put, List.setIfInBounds_toArray, List.set_cons_zero, List.set_cons_succ, i64_w, i32_w]
                  rfl
                refine pure_ (i := 1) (N := some 83) (v := ?_) (a' := ?_) #[true, true, false, false, false, false, false, false, false, false, false, false, false, false, false, false, false, false, false, false] rfl rfl (by kernel_rfl) (fun _ _ _ h => h) (Or.inl ⟨by rfl, ?_⟩) ?_ ?_
                rotate_left
                · intro w'
                  go_simp
                  with_reducible rfl
                rotate_left
                · simp only [Act.put, List.setIfInBounds_toArray, List.set_cons_zero, List.set_cons_succ, i64_w, i32_w]
                  rfl
                refine pure_ (i := 2) (N := some 84) (v := ?_) (a' := ?_) #[true, true, true, false, false, false, false, false, false, false, false, false, false, false, false, false, false, false, false, false] rfl rfl (by kernel_rfl) (fun _ _ _ h => h) (Or.inl ⟨by rfl, ?_⟩) ?_ ?_
                rotate_left
                · intro w'
                  go_simp
                  with_reducible rfl
                rotate_left
                · simp only [Act.put, List.setIfInBounds_toArray, List.set_cons_zero, List.set_cons_succ, i64_w, i32_w]
                  rfl
                refine pure_ (i := 3) (N := some 85) (v := ?_) (a' := ?_) #[true, true, true, true, false, false, false, false, false, false, false, false, false, false, false, false, false, false, false, false] rfl rfl (by kernel_rfl) (fun _ _ _ h => h) (Or.inl ⟨by rfl, ?_⟩) ?_ ?_
                rotate_left
                · intro w'
                  go_simp
                  with_reducible rfl
                rotate_left
                · simp only [Act.put, List.setIfInBounds_toArray, List.set_cons_zero, List.set_cons_succ, i64_w, i32_w]
                  rfl
                refine pure_ (i := 4) (N := some 86) (v := ?_) (a' := ?_) #[true, true, true, true, true, false, false, false, false, false, false, false, false, false, false, false, false, false, false, false] rfl rfl (by kernel_rfl) (fun _ _ _ h => h) (Or.inl ⟨by rfl, ?_⟩) ?_ ?_
                rotate_left
                · intro w'
                  go_simp
                  with_reducible rfl
                rotate_left
                · simp only [Act.put, List.setIfInBounds_toArray, List.set_cons_zero, List.set_cons_succ, i64_w, i32_w]
                  rfl
                refine pure_ (i := 5) (N := some 87) (v := ?_) (a' := ?_) #[true, true, true, true, true, true, false, false, false, false, false, false, false, false, false, false, false, false, false, false] rfl rfl (by kernel_rfl) (fun _ _ _ h => h) (Or.inl ⟨by rfl, ?_⟩) ?_ ?_
                rotate_left
                · intro w'
                  go_simp
                  with_reducible rfl
                rotate_left
                · simp only [Act.put, List.setIfInBounds_toArray, List.set_cons_zero, List.set_cons_succ, i64_w, i32_w]
                  rfl
                refine pure_ (i := 6) (N := some 88) (v := ?_) (a' := ?_) #[true, true, true, true, true, true, true, false, false, false, false, false, false, false, false, false, false, false, false, false] rfl rfl (by kernel_rfl) (fun _ _ _ h => h) (Or.inl ⟨by rfl, ?_⟩) ?_ ?_
                rotate_left
                · intro w'
                  go_simp
                  with_reducible rfl
                rotate_left
                · simp only [Act.put, List.setIfInBounds_toArray, List.set_cons_zero, List.set_cons_succ, i64_w, i32_w]
                  rfl
                refine pure_ (i := 7) (N := some 89) (v := ?_) (a' := ?_) #[true, true, true, true, true, true, true, true, false, false, false, false, false, false, false, false, false, false, false, false] rfl rfl (by kernel_rfl) (fun _ _ _ h => h) (Or.inl ⟨by rfl, ?_⟩) ?_ ?_
                rotate_left
                · intro w'
                  go_simp
                  with_reducible rfl
                rotate_left
                · simp only [Act.put, List.setIfInBounds_toArray, List.set_cons_zero, List.set_cons_succ, i64_w, i32_w]
                  rfl
                refine pure_ (i := 9) (N := some 91) (v := ?_) (a' := ?_) #[true, true, true, true, true, true, true, true, false, true, false, false, false, false, false, false, false, false, false, false] rfl rfl (by kernel_rfl) (fun _ _ _ h => h) (Or.inl ⟨by rfl, ?_⟩) ?_ ?_
                rotate_left
                · intro w'
                  go_simp
                  with_reducible rfl
                rotate_left
                · simp only [Act.put, List.setIfInBounds_toArray, List.set_cons_zero, List.set_cons_succ, i64_w, i32_w]
                  rfl
                refine take_ (i := 8) (N := some 90) (v := ?_) (a' := ?_) #[true, true, true, true, true, true, true, true, true, true, false, false, false, false, false, false, false, false, false, false] rfl rfl (by kernel_rfl) (fun _ _ _ h => h) (Or.inl ⟨by rfl, ?_⟩) hHeld ?_ ?_
                rotate_left
                · rintro w' ⟨s0, s1⟩
                  go_simp
                  with_reducible rfl
                rotate_left
                · simp only [Act.put, List.setIfInBounds_toArray, List.set_cons_zero, List.set_cons_succ, i64_w, i32_w]
                  rfl
                refine one_ (i := 10) (N := some 92) #[true, true, true, true, true, true, true, true, true, true, true, false, false, false, false, false, false, false, false, false] rfl rfl (by kernel_rfl) (by decide) (fun K hK => ?_)
                refine goes_ Try.func38 (by kernel_rfl) rfl #[.slice A0 l0.length c0] (by rfl) rfl rfl (by first | rfl | (simp only [List.map_toArray, List.map_cons, List.map_nil]; rfl)) ?_
                with_reducible refine (HW.out).mono ?_
                rintro e w6 ⟨A6, c6, rfl, hR6, hb6⟩
                have HB6 := Aside0.mk (below_step HBd.out hb6)
                have hs5 := str_atS (c := c4) rfl (Kd.C_below HC4.out hb6)
                have hs6 := str_atS (c := c6) rfl (Kd.R_reads' hR6).2.2
                have HC6 := Aside0.mk (Kd.C_below HC5.out hb6)
                clear hR6 hb6
                refine ⟨_, rfl, ?_⟩
                refine hK.out _ _ ⟨HB6.out, hs5⟩ (fun hHeld => ?_)
                clear hK K
                refine norm_ (a' := ?_) ?_ ?_
                rotate_left
                · show Act.put _ (some 92) _ = _
                  simp only [Act.put, List.setIfInBounds_toArray, List.set_cons_zero, List.set_cons_succ, i64_w, i32_w]
                  rfl
                refine one_ (i := 11) (N := some 93) #[true, true, true, true, true, true, true, true, true, true, true, true, false, false, false, false, false, false, false, false] rfl rfl (by kernel_rfl) (by decide) (fun K hK => ?_)
                refine value_ (v := .string (strOfNums (wr l0))) (by rfl) rfl (conv_run rfl rfl hs6) ?_
                refine hK.out _ _ ⟨HB6.out, hs5⟩ (fun hHeld => ?_)
                clear hK K
                refine norm_ (a' := ?_) ?_ ?_
                rotate_left
                · show Act.put _ (some 93) _ = _
                  simp only [Act.put, List.setIfInBounds_toArray, List.set_cons_zero, List.set_cons_succ, i64_w, i32_w]
                  rfl
                refine pure_ (i := 12) (N := some 94) (v := ?_) (a' := ?_) #[true, true, true, true, true, true, true, true, true, true, true, true, true, false, false, false, false, false, false, false] rfl rfl (by kernel_rfl) (fun _ _ _ h => h) (Or.inl ⟨by rfl, ?_⟩) ?_ ?_
                rotate_left
                · intro w'
                  go_simp
                  with_reducible rfl
                rotate_left
                · simp only [Act.put, List.setIfInBounds_toArray, List.set_cons_zero, List.set_cons_succ, i64_w, i32_w]
                  rfl
                refine pure_ (i := 13) (N := some 95) (v := ?_) (a' := ?_) #[true, true, true, true, true, true, true, true, true, true, true, true, true, true, false, false, false, false, false, false] rfl rfl (by kernel_rfl) (fun _ _ _ h => h) (Or.inl ⟨by rfl, ?_⟩) ?_ ?_
                rotate_left
                · intro w'
                  go_simp
                  with_reducible rfl
                rotate_left
                · simp only [Act.put, List.setIfInBounds_toArray, List.set_cons_zero, List.set_cons_succ, i64_w, i32_w]
                  rfl
                refine pure_ (i := 14) (N := some 96) (v := ?_) (a' := ?_) #[true, true, true, true, true, true, true, true, true, true, true, true, true, true, true, false, false, false, false, false] rfl rfl (by kernel_rfl) (fun _ _ _ h => h) (Or.inl ⟨by rfl, ?_⟩) ?_ ?_
                rotate_left
                · intro w'
                  go_simp
                  with_reducible rfl
                rotate_left
                · simp only [Act.put, List.setIfInBounds_toArray, List.set_cons_zero, List.set_cons_succ, i64_w, i32_w]
                  rfl
                refine pure_ (i := 15) (N := some 97) (v := ?_) (a' := ?_) #[true, true, true, true, true, true, true, true, true, true, true, true, true, true, true, true, false, false, false, false] rfl rfl (by kernel_rfl) (fun _ _ _ h => h) (Or.inl ⟨by rfl, ?_⟩) ?_ ?_
                rotate_left
                · intro w'
                  go_simp
                  with_reducible rfl
                rotate_left
                · simp only [Act.put, List.setIfInBounds_toArray, List.set_cons_zero, List.set_cons_succ, i64_w, i32_w]
                  rfl
                refine pure_ (i := 16) (N := some 98) (v := ?_) (a' := ?_) #[true, true, true, true, true, true, true, true, true, true, true, true, true, true, true, true, true, false, false, false] rfl rfl (by kernel_rfl) (fun _ _ _ h => h) (Or.inl ⟨by rfl, ?_⟩) ?_ ?_
                rotate_left
                · intro w'
                  go_simp
                  with_reducible rfl
                rotate_left
                · simp only [Act.put, List.setIfInBounds_toArray, List.set_cons_zero, List.set_cons_succ, i64_w, i32_w]
                  rfl
                refine last_ (i := 17) (N := some 99) #[true, true, true, true, true, true, true, true, true, true, true, true, true, true, true, true, true, true, false, false] rfl rfl (by kernel_rfl) (by decide) (fun K hK => ?_)
                refine goes_ Try.func33 (by kernel_rfl) rfl #[.slice A5 l0.length c5, .slice A0 l0.length c0] (by rfl) rfl rfl (by first | rfl | (simp only [List.map_toArray, List.map_cons, List.map_nil]; rfl)) ?_
                with_reducible refine ((same_true A5 c5 A0 c0 l0 w6 HM.out.1 HC6.out HM.out.2 (Kd.C_below HC.out.2 HB6.out))).mono ?_
                rintro e w7 ⟨rfl, m7, hw7⟩
                have HB7 := Aside0.mk (show Below W.heap.size W w7 from by rw [hw7]; exact pw_below_drewN HB6.out m7)
                clear hw7
                refine ⟨_, rfl, ?_⟩
                refine hK.out _ _ ?_
                clear hK K
                refine norm_ (a' := ?_) ?_ ?_
                rotate_left
                · show Act.put _ (some 99) _ = _
                  simp only [Act.put, List.setIfInBounds_toArray, List.set_cons_zero, List.set_cons_succ, i64_w, i32_w]
                  rfl
                refine pure_ (i := 18) (N := some 100) (v := ?_) (a' := ?_) #[true, true, true, true, true, true, true, true, true, true, true, true, true, true, true, true, true, true, true, false] rfl rfl (by kernel_rfl) (fun _ _ _ h => h) (Or.inl ⟨by rfl, ?_⟩) ?_ ?_
                rotate_left
                · intro w'
                  go_simp
                  with_reducible rfl
                rotate_left
                · simp only [Act.put, List.setIfInBounds_toArray, List.set_cons_zero, List.set_cons_succ, i64_w, i32_w]
                  rfl
                refine pure_ (i := 19) (N := some 4) (v := ?_) (a' := ?_) #[true, true, true, true, true, true, true, true, true, true, true, true, true, true, true, true, true, true, true, true] rfl rfl (by kernel_rfl) (fun _ _ _ h => h) (Or.inl ⟨by rfl, ?_⟩) ?_ ?_
                rotate_left
                · intro w'
                  go_simp
                  with_reducible rfl
                rotate_left
                · simp only [Act.put, List.setIfInBounds_toArray, List.set_cons_zero, List.set_cons_succ, i64_w, i32_w]
                  rfl
                refine done_ (by kernel_rfl) ?_
                go_wp2_with fail
                go_ret
                exact ⟨rfl, HB7.out⟩
              · exact absurd hps (by rw [HPS.out]; simp)
            · obtain rfl : gb = false := by rw [HGB.out]; exact decide_eq_false hgd
              clear hgd
              go_wp2_with (first | (go_at_call 30; refine (is_form _).mono ?_; rintro e w6 ⟨rfl, rfl⟩))
              go_ret
              exact ⟨rfl, HB4.out⟩
end Go.Proofs.Ytjhciagjofhhiaa.Tl
