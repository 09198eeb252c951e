import Derived.Test.YtjhciagjofhhiaaTlE
/- Write. -/
namespace Go.Proofs.Ytjhciagjofhhiaa.Tl
open Go.RowKit Go.Proofs.YtjhciagjofhhiaaW.PrintWords Go.Proofs.YtjhciagjofhhiaaW.PrintLast Go.Proofs.YtjhciagjofhhiaaW.PrintMore Go.Proofs.Ytjhciagjofhhiaa.Sh
set_option linter.unusedVariables false
set_option linter.unusedSimpArgs false
abbrev PAR : Kd Par := Kd.pair (Kd.int .i64) (Kd.slice 5 (Kd.int .u8))
theorem add_off (ad : Addr) (n k : Nat) : ad.add (n + (k + 1)) = ⟨(ad.add n).block, (ad.add n).off + (k + 1), none⟩ := by
  unfold Addr.add
  rw [if_neg (by omega)]
  split
  · rename_i h; subst h; simp
  · simp; omega
theorem par_cells {W : World} {A : Option Addr} {n : Nat} {l : List Par} (h : Kd.C PAR W A n l) (k : Nat) (hk : k < n) :
    ∃ ad A1 c1, A = some ad ∧ W.cell? (ad.add (k * 2)) = some (.int .i64 (l.getD k (0, [])).1) ∧ W.cell? ⟨(ad.add (k * 2)).block, (ad.add (k * 2)).off + 1, none⟩ = some (.slice A1 (l.getD k (0, [])).2.length c1) ∧
      (l.getD k (0, [])).2.length ≤ c1 ∧ Kd.C (Kd.int .u8) W A1 (l.getD k (0, [])).2.length (l.getD k (0, [])).2 := by
  obtain ⟨ad, cs, hA, hl, hK, hc⟩ := Kd.C_get h (0, []) k (by omega) (by omega)
  rw [Int.toNat_natCast] at hK hc
  obtain ⟨c0, c2, rfl, h0, A1, c1, rfl, h1, h2⟩ := hK
  have e0 : c0 = [.int .i64 (l.getD k (0, [])).1] := h0
  subst e0
  refine ⟨ad, A1, c1, hA, hc 0 _ rfl, ?_, h1, h2⟩
  have h := hc 1 _ rfl
  rw [show k * PAR.sz + 1 = k * 2 + (0 + 1) from rfl, add_off] at h
  exact h
instance (p : Par) : Decidable (gd p) := by unfold gd; infer_instance
theorem good_calls (w : World) (k : Int) (A : Option Addr) (n c : Nat) (l : List Int) (hn : n = l.length) : Calls Try.prog 61 #[.agg #[.int .i64 k, .slice A n c]] w fun e w' => e = .returned (.bool (decide (gd (k, l)))) ∧ Below w.heap.size w w' := by
  subst hn
  have hB := Aside0.mk ((Below.refl w.heap.size w).alloc (Nat.le_refl _) (.cells #[.int .i64 k, .slice A l.length c] 115 (0, 0)))
  by_cases h1 : 0 ≤ k
  · by_cases h2 : k ≤ 65535
    · by_cases h3 : l.length ≤ 4000
      · have HG := Aside0.mk (decide_eq_true (show gd (k, l) from ⟨h1, h2, h3⟩))
        have h3i : (l.length : Int) ≤ 4000 := by omega
        go_enter Try.func61, Try.ntmps61
        go_wp2
        go_ret
        refine ⟨?_, hB.out⟩
        rw [HG.out]; first | rfl | (simp; omega)
      · have HG := Aside0.mk (decide_eq_false (show ¬ gd (k, l) from fun h => h3 h.2.2))
        have h3i : ¬ (l.length : Int) ≤ 4000 := by omega
        go_enter Try.func61, Try.ntmps61
        go_wp2
        go_ret
        refine ⟨?_, hB.out⟩
        rw [HG.out]; first | rfl | (simp; omega)
    · have HG := Aside0.mk (decide_eq_false (show ¬ gd (k, l) from fun h => h2 h.2.1))
      go_enter Try.func61, Try.ntmps61
      go_wp2
      go_ret
      refine ⟨?_, hB.out⟩
      rw [HG.out]; first | rfl | (simp; omega)
  · have HG := Aside0.mk (decide_eq_false (show ¬ gd (k, l) from fun h => h1 h.1))
    go_enter Try.func61, Try.ntmps61
    go_wp2
    go_ret
    refine ⟨?_, hB.out⟩
    rw [HG.out]; first | rfl | (simp; omega)
theorem wr_take_le (l : List Par) : ∀ j, (wr (l.take j)).length ≤ (wr l).length := by
  intro j
  have h : wr l = wr (l.take j) ++ wr (l.drop j) := by
    unfold wr
    rw [← List.flatten_append, ← List.map_append, List.take_append_drop]
  rw [h, List.length_append]
  omega
theorem take_snoc (l : List Par) (j : Nat) (hj : j < l.length) : l.take (j + 1) = l.take j ++ [l.getD j (0, [])] := by
  rw [List.take_add_one, List.getD_eq_getElem?_getD, List.getElem?_eq_getElem hj]
  simp
/-- Out, in the call's own memory. -/
def OW (w : World) (p : Nat) (L : List Int) (wr : World) : Prop := (∃ v, OutAt wr w.heap.size p v L) ∧ Below w.heap.size w wr
theorem OW.puts {w wr w2 : World} {p : Nat} {L L2 : List Int} {v : Value} (h1 : OutAt wr w.heap.size p v L) (h2 : Below w.heap.size w wr) (h : ∃ v', OutAt w2 w.heap.size p v' L2 ∧ Chg wr w2 p v ∧ Fresh wr v v') : OW w p L2 w2 := by
  obtain ⟨v', ho, hc, _⟩ := h
  refine ⟨⟨v', ho⟩, h2.trans ⟨hc.os, hc.tape, hc.output, hc.size, fun k hk => hc.block k (Nat.lt_of_lt_of_le hk h2.size) (by have := h1.1; omega) (fun he => ?_)⟩⟩
  obtain ⟨inner, ho⟩ := Kd.R_own h1.2.2
  have := own_base ho k he
  omega
theorem OW.below {w wr w2 : World} {p : Nat} {L : List Int} (h : OW w p L wr) (hb : Below wr.heap.size wr w2) : OW w p L w2 := by
  obtain ⟨⟨v, h1⟩, h2⟩ := h
  exact ⟨⟨v, h1.1, blk_below h1.2.1 hb, Kd.R_below h1.2.2 hb⟩, below_step h2 hb⟩
def Kp (t : Nat) (wr w' : World) : Prop := ∀ (g : Nat) (cs : Array Value), wr.heap[g]? = some (.cells cs t (0, 0)) → w'.heap[g]? = some (.cells cs t (0, 0))
theorem Kp.refl (t : Nat) (w : World) : Kp t w w := fun _ _ h => h
theorem Kp.trans {t : Nat} {a b c : World} (h1 : Kp t a b) (h2 : Kp t b c) : Kp t a c := fun g cs h => h2 g cs (h1 g cs h)
theorem Kp.below {t : Nat} {a b : World} (h : Below a.heap.size a b) : Kp t a b := fun g cs hg => blk_below hg h
theorem Chg.kp {t : Nat} (h28 : t ≠ 28) (h5 : t ≠ 5) {B p : Nat} {wr w' : World} {v : Value} {L : List Int} (h1 : OutAt wr B p v L) (hc : Chg wr w' p v) : Kp t wr w' := fun g cs hg => (hc.block g (blk_lt hg) (fun e => by
  have h2 := h1.2.1
  rw [← e, hg] at h2
  injection h2 with h2
  injection h2 with _ h2
  exact h28 h2) (fun he => Kd.R_ne h1.2.2 hg (fun e => h5 e.symm) he.symm)).trans hg
theorem ow_num {w wr : World} {p : Nat} {L : List Int} (h : OW w p L wr) (n : Nat) (s : Int) (hl : L.length + 8 ≤ 1048576) : Calls Try.prog 13 #[.pointer (some ⟨p, 0, none⟩), .int .u64 (n : Nat), .int .i64 s] wr fun e w' => (∃ u, e = .returned u) ∧ OW w p (L ++ nbz n s) w' ∧ Kp 115 wr w' := by
  obtain ⟨⟨v, h1⟩, h2⟩ := h
  exact (num_calls h1 n s hl).mono fun e w' ⟨he, hp⟩ => ⟨he, OW.puts h1 h2 hp, by obtain ⟨_, _, hc, _⟩ := hp; exact Chg.kp (by decide) (by decide) h1 hc⟩
theorem ow_put {w wr : World} {p : Nat} {L : List Int} (h : OW w p L wr) (A : Option Addr) (c : Nat) (l2 : List Int) (hc : l2.length ≤ c) (hC : Kd.C (Kd.int .u8) wr A l2.length l2) (hl : L.length + l2.length ≤ 1048576) : Calls Try.prog 15 #[.pointer (some ⟨p, 0, none⟩), .slice A l2.length c] wr fun e w' => (∃ u, e = .returned u) ∧ OW w p (L ++ l2) w' ∧ Kp 115 wr w' := by
  obtain ⟨⟨v, h1⟩, h2⟩ := h
  exact (put_calls h1 A c l2 hc hC hl).mono fun e w' ⟨he, hp⟩ => ⟨he, OW.puts h1 h2 hp, by obtain ⟨_, _, hc, _⟩ := hp; exact Chg.kp (by decide) (by decide) h1 hc⟩
theorem ow_pad {w wr : World} {p : Nat} {L : List Int} (h : OW w p L wr) (hl : L.length + 8 ≤ 1048576) : Calls Try.prog 16 #[.pointer (some ⟨p, 0, none⟩)] wr fun e w' => (∃ u, e = .returned u) ∧ OW w p (padL L) w' ∧ Kp 115 wr w' := by
  obtain ⟨⟨v, h1⟩, h2⟩ := h
  exact (pad_calls h1 hl).mono fun e w' ⟨he, hp⟩ => ⟨he, OW.puts h1 h2 hp, by obtain ⟨_, _, hc, _⟩ := hp; exact Chg.kp (by decide) (by decide) h1 hc⟩
theorem ow_bytes {w wr : World} {p : Nat} {L : List Int} (h : OW w p L wr) (hl : L.length ≤ 1048576) : Calls Try.prog 18 #[.pointer (some ⟨p, 0, none⟩)] wr (Cloned wr L) := by
  obtain ⟨⟨v, h1⟩, h2⟩ := h
  exact bytes_calls h1 hl
def Written (w : World) (l : List Par) (e : Ending) (w' : World) : Prop :=
  Below w.heap.size w w' ∧ (((∀ p ∈ l, gd p) ∧ ∃ A c, e = .returned (.tuple #[.slice A (wr l).length c, .nilIface]) ∧ RB w' w.heap.size (.slice A (wr l).length c) (wr l)) ∨ ((¬ ∀ p ∈ l, gd p) ∧ e = .returned (.tuple #[.slice none 0 0, .iface 55 (.int .i64 2)])))
set_option maxRecDepth 100000 in
set_option maxHeartbeats 4000000 in
theorem write_calls (w : World) (A : Option Addr) (c : Nat) (l : List Par) (hc : l.length ≤ c) (hC : Kd.C PAR w A l.length l) (hT : (wr l).length ≤ 900000) : Calls Try.prog 34 #[.slice A l.length c] w (Written w l) := by
  have HC := Aside0.mk hC
  have HT := Aside0.mk hT
  have HO0 := Aside0.mk (show OW w w.heap.size (wr (l.take 0)) (w.alloc (.cells #[.slice none 0 0] 28)) from ⟨⟨.slice none 0 0, Nat.le_refl _, blk_new _ _, Kd.R_nil _ _ _ _ _⟩, (Below.refl w.heap.size w).alloc (Nat.le_refl _) _⟩)
  have hlb : l.length ≤ 9223372036854775807 := hC.2.1
  clear hC hT
  go_enter Try.func34, Try.ntmps34
  go_wp2_with fail
  go_loopw [11] (fun i wr' => ∃ j : Nat, j ≤ l.length ∧ i = .int .i64 j ∧ Aside0 (∀ p ∈ l.take j, gd p) ∧ Aside0 (OW w w.heap.size (wr (l.take j)) wr')) (fun i _ => l.length - (intOf i).toNat)
  case atStart => exact ⟨0, Nat.zero_le _, rfl, ⟨fun p hp => by simp at hp⟩, HO0⟩
  case round =>
    rename World => wrr
    obtain ⟨j, hj, rfl, HG, HO⟩ := hrel
    by_cases hlt : j < l.length
    · obtain ⟨ad, A1, c1, rfl, h0, h1, h2, h3⟩ := par_cells HC.out j hlt
      obtain ⟨z, hz⟩ : ∃ z, z = l.getD j (0, []) := ⟨_, rfl⟩
      rw [← hz] at h0 h1 h2 h3
      have HS := Aside0.mk (show l.take (j + 1) = l.take j ++ [z] from by rw [hz]; exact take_snoc l j hlt)
      have HM := Aside0.mk (show z ∈ l from by rw [hz, List.getD_eq_getElem?_getD, List.getElem?_eq_getElem hlt]; exact List.getElem_mem hlt)
      obtain ⟨k, val⟩ := z
      simp only at h0 h1 h2 h3
      replace h0 := pw_cell_below HO.out.2 h0
      replace h1 := pw_cell_below HO.out.2 h1
      have HC1 := Aside0.mk (And.intro h2 h3)
      clear hz h2 h3
      have hjl : (j : Int) < (l.length : Int) := by omega
      by_cases hg : gd (k, val)
      · have hd := decide_eq_true hg
        have HGC := Aside0.mk (fun W => good_calls W k A1 val.length c1 val rfl)
        rw [hd] at HGC
        obtain ⟨q, rfl⟩ := Int.eq_ofNat_of_zero_le hg.1
        have HQ := Aside0.mk hg
        have hq1 : (q : Int) ≤ 65535 := hg.2.1
        have hv1 : val.length ≤ 4000 := hg.2.2
        have HL := Aside0.mk (show (wr (l.take j)).length ≤ 900000 from Nat.le_trans (wr_take_le l j) HT.out)
        have HM4 := Aside0.mk (wr_mod (l.take j))
        obtain ⟨L, hL⟩ : ∃ L, L = wr (l.take j) := ⟨_, rfl⟩
        rw [← hL] at HL HO HM4
        have HE := Aside0.mk (show wr (l.take (j + 1)) = L ++ rec1 ((q : Int), val) from by rw [HS.out, wr_snoc, hL])
        clear hL hg hd
        have HOA := Aside0.mk (HO.out.below ((Below.refl wrr.heap.size wrr).alloc (Nat.le_refl _) (.cells #[.int .i64 (q : Nat), .slice A1 val.length c1] 115 (0, 0))))
        have HX := Aside0.mk (blk_new wrr (.cells #[.int .i64 (q : Nat), .slice A1 val.length c1] 115 (0, 0)))
        have HQN := Aside0.mk (show nbz q 2 = nb q 2 ∧ nbz (val.length + 4) 2 = nb (val.length + 4) 2 from ⟨if_pos (.inr (.inl rfl)), if_pos (.inr (.inl rfl))⟩)
        go_wp2_with fail
        refine (HGC.out _).mono ?_
        rintro e w2 ⟨rfl, hb2⟩
        generalize wrr.alloc (Obj.cells #[Value.int IntKind.i64 (q : Nat), Value.slice A1 val.length c1] 115) = wp at HOA HX hb2
        obtain ⟨g6, hg6⟩ : ∃ g, g = wrr.heap.size := ⟨_, rfl⟩
        rw [← hg6] at HX ⊢
        clear hg6 h0 h1
        have HO2 := Aside0.mk (HOA.out.below hb2)
        have HX2 := Aside0.mk (blk_below HX.out hb2)
        clear HOA HX hb2
        have hx := cc2 HX2.out
        have hqw : (q : Int) % 18446744073709551616 = (q : Int) := by omega
        go_wp2_with fail
        refine (ow_num HO2.out q 2 (by have := HL.out; omega)).mono ?_
        rintro e w3 ⟨⟨u3, rfl⟩, ho3, hk3⟩
        have HO3 := Aside0.mk ho3
        have HX3 := Aside0.mk (hk3 _ _ HX2.out)
        clear ho3 hk3 hx
        have hx := cc2 HX3.out
        have hvw : wrap64 ((val.length : Int) + 4) = ((val.length + 4 : Nat) : Int) := w64 _ _ (by omega) (by omega) (by omega)
        go_wp2_with fail
        refine (ow_num HO3.out (val.length + 4) 2 (by rw [List.length_append, HQN.out.1, nb_len]; have := HL.out; omega)).mono ?_
        rintro e w4 ⟨⟨u4, rfl⟩, ho4, hk4⟩
        have HO4 := Aside0.mk ho4
        have HX4 := Aside0.mk (hk4 _ _ HX3.out)
        clear ho4 hk4 hx hvw
        have hx := cc2 HX4.out
        go_wp2_with fail
        refine (ow_put HO4.out A1 c1 val HC1.out.1 (Kd.C_below HC1.out.2 HO4.out.2) (by rw [List.length_append, List.length_append, HQN.out.1, HQN.out.2, nb_len, nb_len]; have := HL.out; omega)).mono ?_
        rintro e w5 ⟨⟨u5, rfl⟩, ho5, hk5⟩
        have HO5 := Aside0.mk ho5
        clear ho5 hk5 hx
        go_wp2_with fail
        refine (ow_pad HO5.out (by rw [List.length_append, List.length_append, List.length_append, HQN.out.1, HQN.out.2, nb_len, nb_len]; have := HL.out; omega)).mono ?_
        rintro e w6 ⟨⟨u6, rfl⟩, ho6, hk6⟩
        have HO6 := Aside0.mk ho6
        clear ho6 hk6
        go_wp2_with fail
        refine ⟨⟨j + 1, by omega, by go_num, ⟨?_⟩, ⟨?_⟩⟩, by simp [intOf]; omega⟩
        · rw [HS.out]
          intro p hp
          rcases List.mem_append.1 hp with hp | hp
          · exact HG.out p hp
          · rw [List.mem_singleton.1 hp]; exact HQ.out
        · rw [HE.out]
          have h := HO6.out
          rw [HQN.out.1, HQN.out.2, List.append_assoc, List.append_assoc, padL_app HM4.out] at h
          unfold rec1
          rw [Int.toNat_natCast, List.append_assoc]
          exact h
      · have hd := decide_eq_false hg
        have HGC := Aside0.mk (fun W => good_calls W k A1 val.length c1 val rfl)
        rw [hd] at HGC
        have HNG := Aside0.mk (show ¬ ∀ p ∈ l, gd p from fun h => hg (h _ HM.out))
        clear hg hd
        go_wp2_with (first | (go_at_call 61; refine (HGC.out _).mono ?_; rintro e w3 ⟨rfl, hb3⟩; have HB3 := Aside0.mk hb3; clear hb3))
        go_ret2
        exact ⟨below_step (HO.out.2.alloc HO.out.2.size _) HB3.out, .inr ⟨HNG.out, rfl⟩⟩
    · obtain rfl : j = l.length := by omega
      rw [List.take_length] at HG HO
      go_wp2_with (first | (go_at_call 18; refine (ow_bytes HO.out (by have := HT.out; omega)).mono ?_; rintro e w3 ⟨A3, c3, rfl, hR3, hB3⟩; have H3 := Aside0.mk (And.intro hR3 hB3); clear hR3 hB3))
      go_ret2
      exact ⟨below_step HO.out.2 H3.out.2, .inl ⟨HG.out, _, _, rfl, Kd.R_lower H3.out.1 HO.out.2.size⟩⟩
end Go.Proofs.Ytjhciagjofhhiaa.Tl
