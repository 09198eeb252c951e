import Derived.Test.YtjhciagjofhhiaaTlI
import Derived.Test.YtjhciagjofhhiaaTlG
import Derived.Deep.DeepCutAuto
/- For TlvWrites: the reference's Good, params. -/
namespace Go.Proofs.Ytjhciagjofhhiaa.Tl
open Go.RowKit Go.Proofs.YtjhciagjofhhiaaW.PrintWords Go.Proofs.YtjhciagjofhhiaaW.PrintLast Go.Proofs.YtjhciagjofhhiaaW.PrintMore Go.Proofs.Ytjhciagjofhhiaa.Sh
set_option linter.unusedVariables false
set_option linter.unusedSimpArgs false
theorem rgood_calls (w : World) (k : Int) (A : Option Addr) (n c : Nat) (l : List Int) (hn : n = l.length) : Calls Try.prog 35 #[.agg #[.int .i64 k, .slice A n c]] w fun e w' => e = .returned (.bool (decide (gd (k, l)))) ∧ Below w.heap.size w w' := by
  subst hn
  have hB := Aside0.mk ((Below.refl w.heap.size w).alloc (Nat.le_refl _) (.cells #[.int .i64 k, .slice A l.length c] 68 (0, 0)))
  by_cases h1 : 0 ≤ k
  · by_cases h2 : k ≤ 65535
    · by_cases h3 : l.length ≤ 4000
      · have HG := Aside0.mk (decide_eq_true (show gd (k, l) from ⟨h1, h2, h3⟩))
        have h3i : (l.length : Int) ≤ 4000 := by omega
        go_enter Try.func35, Try.ntmps35
        go_wp2
        go_ret
        refine ⟨?_, hB.out⟩
        rw [HG.out]; first | rfl | (simp; omega)
      · have HG := Aside0.mk (decide_eq_false (show ¬ gd (k, l) from fun h => h3 h.2.2))
        have h3i : ¬ (l.length : Int) ≤ 4000 := by omega
        go_enter Try.func35, Try.ntmps35
        go_wp2
        go_ret
        refine ⟨?_, hB.out⟩
        rw [HG.out]; first | rfl | (simp; omega)
    · have HG := Aside0.mk (decide_eq_false (show ¬ gd (k, l) from fun h => h2 h.2.1))
      go_enter Try.func35, Try.ntmps35
      go_wp2
      go_ret
      refine ⟨?_, hB.out⟩
      rw [HG.out]; first | rfl | (simp; omega)
  · have HG := Aside0.mk (decide_eq_false (show ¬ gd (k, l) from fun h => h1 h.1))
    go_enter Try.func35, Try.ntmps35
    go_wp2
    go_ret
    refine ⟨?_, hB.out⟩
    rw [HG.out]; first | rfl | (simp; omega)
theorem pr_new {W w5 w7 : World} {base : Nat} {vo : Value} {ps : List Par} {g : Nat} (h : PR w5 base vo ps) (hW : W.heap = (w5.alloc (.cells #[] 5)).heap) (hg : W.grownBy w7 (some g)) (hgs : g = w5.heap.size) : PR w7 base vo ps :=
  Kd.R_mono (Kd.R_step (Kd.R_bound h) (fun k hk hlt => by
    have h1 : k < W.heap.size := by rw [hW, World.size_alloc]; omega
    rw [hg.block k h1 (fun e => by injection e with e; omega), hW]
    exact Below.heap_alloc w5 _ k hlt)) (fun _ _ => trivial)
theorem cell_new {W w5 w7 : World} {g q : Nat} {j : Nat} {x : Value} (h : w5.cell? ⟨q, j, none⟩ = some x) (hW : W.heap = (w5.alloc (.cells #[] 5)).heap) (hg : W.grownBy w7 (some g)) (hgs : g = w5.heap.size) : w7.cell? ⟨q, j, none⟩ = some x := by
  cases hx : w5.heap[q]? with
  | none => rw [World.cell?, hx] at h; cases h
  | some o =>
    have hlt := blk_lt hx
    have h1 : q < W.heap.size := by rw [hW, World.size_alloc]; omega
    have h2 : w7.heap[q]? = w5.heap[q]? := by
      rw [hg.block q h1 (fun e => by injection e with e; omega), hW]
      exact Below.heap_alloc w5 _ q hlt
    rw [World.cell?_of_block (show w7.heap[(⟨q, j, none⟩ : Addr).block]? = w5.heap[(⟨q, j, none⟩ : Addr).block]? from h2)]
    exact h
def Made (w : World) (l : List Par) (e : Ending) (w' : World) : Prop := ∃ A c, e = .returned (.slice A l.length c) ∧ PR w' w.heap.size (.slice A l.length c) l ∧ Below w.heap.size w w'
set_option maxRecDepth 100000 in
set_option maxHeartbeats 4000000 in
theorem mk_calls (w : World) (A : Option Addr) (c : Nat) (l : List Par) (hC : Kd.C PAR w A l.length l) (hl : l.length ≤ 1000) (hv : ∀ p ∈ l, p.2.length ≤ 5000) : Calls Try.prog 37 #[.slice A l.length c] w (Made w l) := by
  have HC := Aside0.mk hC
  have HV := Aside0.mk hv
  clear hC hv
  have HB0 := Aside0.mk (Below.refl w.heap.size w)
  go_enter Try.func37, Try.ntmps37
  go_wp2_with (first | ((with_reducible refine gate_dst (N := 6) rfl ?_); refine Kd.R_lit PAR (w0 := w) w.heap.size 115 ?hg (N := 6) ?hd (xs := ([] : List Par)) (inner := []) (ok := fun _ => True) (okp := fun _ => True) ?hr ?hp (fun _ hk => hk) trivial HB0.out (Nat.le_refl _) (by simp) ?_; (case hd => rfl); (case hg => rfl); (case hr => first | (go_simp; done) | (go_simp; rfl)); (case hp => exact (Reps.none _ _)); intro v1 w1 ho hb hg hn; have HO1 := Aside0.mk ho; have HB1 := Aside0.mk hb; clear ho hb hg hn; obtain ⟨A1, c1, rfl⟩ := Kd.R_slice HO1.out))
  go_loopw [3, 9] (fun vo i wr => ∃ (A4 : Option Addr) (c4 : Nat) (ps : List Par), ps.length ≤ l.length ∧ i = .int .i64 (ps.length : Nat) ∧ vo = .slice A4 ps.length c4 ∧ Aside0 (ps = l.take ps.length) ∧ Aside0 (PR wr w.heap.size (.slice A4 ps.length c4) ps) ∧ Aside0 (Below w.heap.size w wr)) (fun _ i _ => l.length - (intOf i).toNat)
  case atStart => exact ⟨A1, c1, [], Nat.zero_le _, rfl, rfl, ⟨rfl⟩, HO1, HB1⟩
  case round =>
    obtain ⟨A4, c4, ps, hj, rfl, rfl, HE, HP, HB⟩ := hrel
    by_cases hlt : ps.length < l.length
    · obtain ⟨ad, A6, c6, rfl, h0, h1, hc6, hC6⟩ := par_cells HC.out ps.length hlt
      replace h0 := pw_cell_below HB.out h0
      replace h1 := pw_cell_below HB.out h1
      have hmem : l.getD ps.length (0, []) ∈ l := by
        rw [List.getD_eq_getElem?_getD, List.getElem?_eq_getElem hlt]
        exact List.getElem_mem hlt
      have hv5 := HV.out _ hmem
      have HE2 := Aside0.mk (show ps ++ [l.getD ps.length (0, [])] = l.take (ps.length + 1) from by
        rw [List.take_add_one, ← HE.out, List.getD_eq_getElem?_getD, List.getElem?_eq_getElem hlt]
        simp)
      obtain ⟨z, hz⟩ : ∃ z, z = l.getD ps.length (0, []) := ⟨_, rfl⟩
      rw [← hz] at h0 h1 hc6 hC6 hv5 HE2
      clear hz hmem HE
      obtain ⟨k, V⟩ := z
      simp only at h0 h1 hc6 hC6 hv5
      have HV6 := Aside0.mk (And.intro hc6 hC6)
      have hji : (ps.length : Int) < (l.length : Int) := by omega
      have HBa := Aside0.mk (HB.out.alloc HB.out.size (.cells #[.int .i64 k, .slice A6 V.length c6] 68))
      have HPa := Aside0.mk (Kd.R_alloc HP.out (.cells #[.int .i64 k, .slice A6 V.length c6] 68))
      have HXa := Aside0.mk (blk_new wr (.cells #[.int .i64 k, .slice A6 V.length c6] 68))
      have HML := Aside0.mk (show (([] : List Int).length + V.length) * 1 ≤ 140737488355328 by simp; omega)
      have HNP := Aside0.mk (show (ps.length + 1) * 32 ≤ 140737488355328 by omega)
      clear hc6 hC6
      go_upto_region 5 with fail
      generalize wr.alloc (Obj.cells #[Value.int IntKind.i64 k, Value.slice A6 V.length c6] 68) = w3 at HBa HPa HXa ⊢
      obtain ⟨g5, hg5⟩ : ∃ g, g = wr.heap.size := ⟨_, rfl⟩
      rw [← hg5] at HXa ⊢
      clear hg5 h0 h1 HP HB
      have hx := cc2 HXa.out
      have hxd : ∀ o : Obj, (w3.alloc o).cell? ⟨g5, 0, none⟩ = some (.int .i64 k) ∧ (w3.alloc o).cell? ⟨g5, 1, none⟩ = some (.slice A6 V.length c6) := fun o => ⟨(cc2 (blk_alloc HXa.out o)).1, (cc2 (blk_alloc HXa.out o)).2.1⟩
      have HO0 := Aside0.mk (rb_empty w3 HBa.out.size)
      have HBD := Aside0.mk (show Below w.heap.size w (w3.alloc (.cells #[] 5)).drew from below_drew1 (HBa.out.alloc HBa.out.size _))
      refine start_ (n := 11) (S := fun w' => w'.cell? ⟨g5, 0, none⟩ = some (.int .i64 k) ∧ w'.cell? ⟨g5, 1, none⟩ = some (.slice A6 V.length c6) ∧ Below w.heap.size w w' ∧ PR w' w.heap.size (.slice A4 ps.length c4) ps) (ds := [9]) #[false, false, false, false, false, false, false, false, false, false, false] (by kernel_rfl) rfl rfl ⟨hx.1, hx.2.1, below_drew1 HBa.out, Kd.R_drewN HPa.out 1⟩ (fun hHeld => ?_)
      refine pure_ (i := 0) (N := some 13) (v := ?_) (a' := ?_) #[true, false, false, false, false, false, false, false, false, false, false] rfl rfl (by kernel_rfl) (fun _ _ _ h => h) (Or.inl ⟨by rfl, ?_⟩) ?_ ?_
      rotate_left
      · intro w'
        go_simp
        with_reducible rfl
      rotate_left
      · simp only [Act.put, List.setIfInBounds_toArray, List.set_cons_zero, List.set_cons_succ, i64_w, i32_w]
        rfl
      refine pure_ (i := 1) (N := some 14) (v := ?_) (a' := ?_) #[true, true, false, false, false, false, false, false, false, false, false] rfl rfl (by kernel_rfl) (fun _ _ _ h => h) (Or.inl ⟨by rfl, ?_⟩) ?_ ?_
      rotate_left
      · intro w'
        go_simp
        with_reducible rfl
      rotate_left
      · simp only [Act.put, List.setIfInBounds_toArray, List.set_cons_zero, List.set_cons_succ, i64_w, i32_w]
        rfl
      refine pure_ (i := 4) (N := some 17) (v := ?_) (a' := ?_) #[true, true, false, false, true, false, false, false, false, false, false] rfl rfl (by kernel_rfl) (fun _ _ _ h => h) (Or.inl ⟨by rfl, ?_⟩) ?_ ?_
      rotate_left
      · intro w'
        go_simp
        with_reducible rfl
      rotate_left
      · simp only [Act.put, List.setIfInBounds_toArray, List.set_cons_zero, List.set_cons_succ, i64_w, i32_w]
        rfl
      refine take_ (i := 2) (N := some 15) (v := ?_) (a' := ?_) #[true, true, true, false, true, false, false, false, false, false, false] rfl rfl (by kernel_rfl) (fun _ _ _ h => h) (Or.inl ⟨by rfl, ?_⟩) hHeld ?_ ?_
      rotate_left
      · rintro w' ⟨s0, s1, s2, s3⟩
        go_simp
        with_reducible rfl
      rotate_left
      · simp only [Act.put, List.setIfInBounds_toArray, List.set_cons_zero, List.set_cons_succ, i64_w, i32_w]
        rfl
      refine take_ (i := 5) (N := some 18) (v := ?_) (a' := ?_) #[true, true, true, false, true, true, false, false, false, false, false] rfl rfl (by kernel_rfl) (fun _ _ _ h => h) (Or.inl ⟨by rfl, ?_⟩) hHeld ?_ ?_
      rotate_left
      · rintro w' ⟨s0, s1, s2, s3⟩
        go_simp
        with_reducible rfl
      rotate_left
      · simp only [Act.put, List.setIfInBounds_toArray, List.set_cons_zero, List.set_cons_succ, i64_w, i32_w]
        rfl
      refine one_ (i := 3) (N := some 16) #[true, true, true, true, true, true, false, false, false, false, false] rfl rfl (by kernel_rfl) (by decide) (fun K hK => ?_)
      refine value_ (w1 := ?_) (v := ?_) (by rfl) rfl ?_ ?_
      rotate_left 2
      · go_simp
        constructor
        · rfl
        · rfl
      refine hK.out _ _ ⟨pw_cell_below ((Below.refl _ _).alloc (Nat.le_refl _) _) hHeld.1, pw_cell_below ((Below.refl _ _).alloc (Nat.le_refl _) _) hHeld.2.1, hHeld.2.2.1.alloc hHeld.2.2.1.size _, Kd.R_alloc hHeld.2.2.2 _⟩ (fun hHeld => ?_)
      clear hK K
      refine norm_ (a' := ?_) ?_ ?_
      rotate_left
      · show Act.put _ (some 16) _ = _
        simp only [Act.put, List.setIfInBounds_toArray, List.set_cons_zero, List.set_cons_succ, i64_w, i32_w]
        rfl
      refine one_ (i := 6) (N := some 19) #[true, true, true, true, true, true, true, false, false, false, false] rfl rfl (by kernel_rfl) (by decide) (fun K hK => ?_)
      refine Kd.R_append_rows_step (Kd.int .u8) (w0 := w) w.heap.size ?hw (.tmp 16) (.tmp 18) 26 5 (.int .u8 0) 1 ?ho Try.underlying26 info5 rfl (by decide) (by decide) (.slice (some ⟨w3.heap.size, 0, none⟩) 0 0) [] V A6 V.length c6 (fun _ => True) (fun _ => False) ?aA ?aC ?aO ?aR (fun _ _ h => h) (fun _ h => h.elim) (fun _ _ => trivial) ?aB ?aS ?aL ?_
      case hw => rfl
      case ho => rfl
      case aA => rfl
      case aC => rfl
      case aO => exact HO0.out
      case aR => exact Kd.C_below HV6.out.2 HBD.out
      case aB => exact HBD.out
      case aS => exact Nat.le_trans HBa.out.size (by simp)
      case aL => exact HML.out
      intro v7 w7 ho hb hg hn
      rw [List.nil_append] at ho
      have HV7 := Aside0.mk ho
      have HB7 := Aside0.mk hb
      have HP7 := Aside0.mk ((fun h1 => pr_new (g := w3.heap.size) (w5 := w3) HPa.out h1 hg rfl) rfl)
      have HQ7 := Aside0.mk ((fun h1 => And.intro (cell_new (g := w3.heap.size) (w5 := w3) hx.1 h1 hg rfl) (cell_new (g := w3.heap.size) (w5 := w3) hx.2.1 h1 hg rfl)) rfl)
      clear ho hg hn
      obtain ⟨A7, c7, rfl⟩ := Kd.R_slice HV7.out
      refine hK.out _ _ ⟨HQ7.out.1, HQ7.out.2, hb, HP7.out⟩ (fun hHeld => ?_)
      clear hK K
      refine norm_ (a' := ?_) ?_ ?_
      rotate_left
      · show Act.put _ (some 19) _ = _
        simp only [Act.put, List.setIfInBounds_toArray, List.set_cons_zero, List.set_cons_succ, i64_w, i32_w]
        rfl
      refine pure_ (i := 7) (N := some 20) (v := ?_) (a' := ?_) #[true, true, true, true, true, true, true, true, false, false, false] rfl rfl (by kernel_rfl) (fun _ _ _ h => h) (Or.inl ⟨by rfl, ?_⟩) ?_ ?_
      rotate_left
      · intro w'
        go_simp
        with_reducible rfl
      rotate_left
      · simp only [Act.put, List.setIfInBounds_toArray, List.set_cons_zero, List.set_cons_succ, i64_w, i32_w]
        rfl
      refine one_ (i := 8) (N := some 21) #[true, true, true, true, true, true, true, true, true, false, false] rfl rfl (by kernel_rfl) (by decide) (fun K hK => ?_)
      refine value_ (w1 := ?_) (v := ?_) (by rfl) rfl ?_ ?_
      rotate_left 2
      · go_simp
        constructor
        · rfl
        · rfl
      refine hK.out _ _ ⟨pw_cell_below ((Below.refl _ _).alloc (Nat.le_refl _) _) hHeld.1, pw_cell_below ((Below.refl _ _).alloc (Nat.le_refl _) _) hHeld.2.1, hHeld.2.2.1.alloc hHeld.2.2.1.size _, Kd.R_alloc hHeld.2.2.2 _⟩ (fun hHeld => ?_)
      clear hK K
      refine norm_ (a' := ?_) ?_ ?_
      rotate_left
      · show Act.put _ (some 21) _ = _
        simp only [Act.put, List.setIfInBounds_toArray, List.set_cons_zero, List.set_cons_succ, i64_w, i32_w]
        rfl
      refine last_ (i := 9) (N := some 22) #[true, true, true, true, true, true, true, true, true, true, false] rfl rfl (by kernel_rfl) (by decide) (fun K hK => ?_)
      refine Kd.R_append_step PAR (w0 := w) (W := w7) w.heap.size ?hw (.tmp 13) (.tmp 21) 57 115 (.agg #[.int .i64 0, .slice none 0 0]) 32 ?ho Try.underlying57 info115 rfl (by decide) (by decide) (.slice A4 ps.length c4) ps (k, V) [.int .i64 k, .slice A7 V.length c7] (fun _ => True) (fun q => some q ≠ (Value.slice A4 ps.length c4).ownBlock) ?aA ?aC ?aD (fun _ h => ⟨trivial, h⟩) (fun _ _ => trivial) ?aO ?aB ?aS ?aL ?_
      case hw => rfl
      case ho => rfl
      case aA => rfl
      case aC => rfl
      case aD => exact par_m HP7.out HV7.out
      case aO => exact HP7.out
      case aB => exact HB7.out
      case aS => exact HB7.out.size
      case aL => exact HNP.out
      intro v9 w9 ho9 hb9 hg9 hn9
      have HO9 := Aside0.mk ho9
      have HB9 := Aside0.mk hb9
      clear ho9 hb9 hg9 hn9
      obtain ⟨A9, c9, rfl⟩ := Kd.R_slice HO9.out
      refine hK.out _ _ ?_
      clear hK K
      refine norm_ (a' := ?_) ?_ ?_
      rotate_left
      · show Act.put _ (some 22) _ = _
        simp only [Act.put, List.setIfInBounds_toArray, List.set_cons_zero, List.set_cons_succ, i64_w, i32_w]
        rfl
      refine pure_ (i := 10) (N := some 3) (v := ?_) (a' := ?_) #[true, true, true, true, true, true, true, true, true, true, true] rfl rfl (by kernel_rfl) (fun _ _ _ h => h) (Or.inl ⟨by rfl, ?_⟩) ?_ ?_
      rotate_left
      · intro w'
        go_simp
        with_reducible rfl
      rotate_left
      · simp only [Act.put, List.setIfInBounds_toArray, List.set_cons_zero, List.set_cons_succ, i64_w, i32_w]
        rfl
      refine done_ (by kernel_rfl) ?_
      go_wp2_with fail
      refine ⟨⟨A9, c9, ps ++ [(k, V)], by rw [List.length_append, List.length_singleton]; omega, by rw [List.length_append, List.length_singleton]; go_num, ?_, ⟨by rw [List.length_append, List.length_singleton]; exact HE2.out⟩, HO9, HB9⟩, by simp [intOf]; omega⟩
      first | rfl | rw [List.length_append, List.length_singleton]
    · obtain rfl : ps = l := by
        have h1 : ps.length = l.length := by omega
        have h2 := HE.out
        rw [h1, List.take_length] at h2
        exact h2
      go_wp2_with fail
      go_ret
      exact ⟨A4, c4, rfl, HP.out, HB.out⟩
end Go.Proofs.Ytjhciagjofhhiaa.Tl
