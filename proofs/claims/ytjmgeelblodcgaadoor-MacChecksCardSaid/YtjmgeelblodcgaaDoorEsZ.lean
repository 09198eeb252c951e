import Derived.Test.YtjmgeelblodcgaaDoorEsZa
/- The walk of MacChecks. (Printed by tools/genEsZ.py.) -/
namespace Go.Proofs.YtjmgeelblodcgaaDoor.Sx
open Go.RowKit Go.Proofs.YtjmgeelblodcgaaDoorW.PrintWords Go.Proofs.YtjmgeelblodcgaaDoorW.PrintLast Go.Proofs.YtjmgeelblodcgaaDoorW.PrintMore Go.Proofs.YtjmgeelblodcgaaDoor.Sh
set_option linter.unusedVariables false
set_option linter.unusedSimpArgs false
set_option maxRecDepth 100000 in
set_option maxHeartbeats 4000000 in
theorem macChecks_main (w : World) (hr : Roots w) (hcu : Cubes w) (A0 : Option Addr) (c0 : Nat) (l0 : List Int) (t0 : Txt w (.slice A0 l0.length c0) l0) (A1 : Option Addr) (c1 : Nat) (l1 : List Int) (t1 : Txt w (.slice A1 l1.length c1) l1) (A2 : Option Addr) (c2 : Nat) (l2 : List Int) (t2 : Txt w (.slice A2 l2.length c2) l2) (h0 : l0.length ≤ 300) (h1 : l1.length ≤ 500) (h2 : l2.length ≤ 100) (a3 : Int) :
    Calls Tryd.prog 7 #[.agg #[.slice A0 l0.length c0, .slice A1 l1.length c1, .slice A2 l2.length c2, .int .i64 a3]] w (Yes w) := by
  have E := Aside0.mk (⟨fun t ht => by
    simp only [List.mem_cons, List.not_mem_nil, or_false] at ht
    rcases ht with rfl | rfl | rfl
    · exact t0
    · exact t1
    · exact t2, hr, hcu, Below.refl _ _⟩ : Env w w [(.slice A0 l0.length c0, l0), (.slice A1 l1.length c1, l1), (.slice A2 l2.length c2, l2)])
  have n0 : decide ((300 : Int) < (l0.length : Int)) = false := by simp; omega
  have n1 : decide ((500 : Int) < (l1.length : Int)) = false := by simp; omega
  have n2 : decide ((100 : Int) < (l2.length : Int)) = false := by simp; omega
  have H2w := Aside0.mk (cell_lt (hcu 0 (by decide)) : 2 < w.heap.size)
  clear hr hcu t0 t1 t2
  go_enter Tryd.func7, Tryd.ntmps7
  go_wp2_with fail
  have HB0 := Aside0.mk (below_alloc (Below.refl w.heap.size w) (.cells #[.slice A0 l0.length c0, .slice A1 l1.length c1, .slice A2 l2.length c2, .int .i64 a3] 40))
  have HG0 := Aside0.mk (blk_new w (.cells #[.slice A0 l0.length c0, .slice A1 l1.length c1, .slice A2 l2.length c2, .int .i64 a3] 40))
  obtain ⟨W0, hW0⟩ : ∃ x, x = w.alloc (.cells #[.slice A0 l0.length c0, .slice A1 l1.length c1, .slice A2 l2.length c2, .int .i64 a3] 40) := ⟨_, rfl⟩
  rw [← hW0] at HB0 HG0 ⊢
  obtain ⟨G, hGe⟩ : ∃ g, g = w.heap.size := ⟨_, rfl⟩
  rw [← hGe] at HG0 ⊢
  clear hW0
  have HGE := Aside0.mk hGe
  clear hGe
  refine (alive5_calls W0 (E.out.below HB0.out).roots (E.out.below HB0.out).cubes).mono ?_
  rintro e w1 ⟨rfl, hb⟩
  have E1 := Aside0.mk ((E.out.below HB0.out).below hb)
  have HG1 := Aside0.mk ((hb.block G (blk_lt HG0.out)).trans HG0.out)
  have g0 := blk_cell HG1.out 0
  have g1 := blk_cell HG1.out 1
  have g2 := blk_cell HG1.out 2
  have g3 := blk_cell HG1.out 3
  clear hb HG0 HB0
  go_wp2_with fail
  clear n0 n1 n2
  refine (mac1 (l1 := l1) E1.out.roots E1.out.cubes (E1.out.txt (.slice A0 l0.length c0, l0) (by simp)) (by omega) (E1.out.txt (.slice A1 l1.length c1, l1) (by simp)) (by omega) _ rfl).mono ?_
  rintro e W4 ⟨rfl, hb4⟩
  have E4 := E1.out.below hb4
  have hG4 := (hb4.block G (blk_lt HG1.out)).trans HG1.out
  obtain ⟨d, hd⟩ : ∃ d, d = mac l0 l1 := ⟨_, rfl⟩
  have hdl : d.length = 32 := by rw [hd]; exact mac_len _ _
  have hdb : Bytes d := by rw [hd]; exact mac_bytes _ _
  dsimp only
  rw [← hd]
  have hst := store32 (W4.alloc (.cells zero32 25)) W4.heap.size d hdl (old := List.replicate 32 0) (blk_new W4 _) rfl
  have HST := Aside0.mk hst.1
  have hB5 := below_setRow (below_alloc (Below.refl W4.heap.size W4) (.cells zero32 25)) (Nat.le_refl _) (cellsB d)
  have E6 := Aside0.mk (E4.below hB5)
  have HG6 := Aside0.mk ((hB5.block G (blk_lt hG4)).trans hG4)
  have HD6 := Aside0.mk hst.2
  obtain ⟨W6, hW6⟩ : ∃ x, x = (W4.alloc (.cells zero32 25)).setRow W4.heap.size (cellsB d) := ⟨_, rfl⟩
  have HW6 := Aside0.mk hW6
  rw [← hW6] at E6 HD6 HG6
  obtain ⟨D, hD⟩ : ∃ D, D = W4.heap.size := ⟨_, rfl⟩
  have HDe := Aside0.mk hD
  rw [← hD] at HD6
  have HDL := Aside0.mk hdl
  have HDB := Aside0.mk hdb
  have HDD := Aside0.mk hd
  have HC6 := Aside0.mk (show ∀ W', Below W6.heap.size W6 W' → Kd.C (Kd.int .u8) W' (some ⟨D, 0, none⟩) 32 d from fun W' hB => by
    obtain ⟨A9, c9, he, _, h9, _⟩ := (dig_at hdl hdb HD6.out hB).2
    rw [hdl] at he h9
    simp only [Value.slice.injEq, true_and] at he
    rw [he.1]
    exact h9)
  clear hst hd hW6 hD hb4 E4 E1 hdl hdb hB5 g0 g1 g2 g3 HG1 hG4
  have HLA := Aside0.mk (show (([] : List Int).length + 32) * 1 ≤ 140737488355328 by decide)
  go_wp2_with (first | (refine store_whole (s := .tmp 3) rfl rfl rfl rfl HST.out ?_) | ((with_reducible refine gate_dst (N := 30) rfl ?_); rw [← show W6 = (W4.alloc (.cells zero32 25)).setRow W4.heap.size (cellsB d) from HW6.out, ← show D = W4.heap.size from HDe.out]; clear HW6 HST HDe; refine Kd.R_lit (Kd.int .u8) (w0 := w) w.heap.size 5 ?hg (N := 30) ?hd (xs := ([] : List Int)) (inner := []) (ok := fun _ => True) (okp := fun _ => True) ?hr ?hp (fun _ hk => hk) trivial E6.out.bel E6.out.bel.size (by simp) ?_; (case hd => rfl); (case hg => rfl); (case hr => first | (go_simp; done) | (go_simp; rfl)); (case hp => exact (Reps.none _ _)); intro v7 W7 ho hb hg hn; have HO7 := Aside0.mk ho; have HB7 := Aside0.mk hb; have HG7 := Aside0.mk hg; have HN7 := Aside0.mk hn; clear ho hb hg hn; obtain ⟨A7, c7, rfl⟩ := Kd.R_slice HO7.out) | (at_builtin; refine Kd.R_append_rows (Kd.int .u8) (w0 := w) w.heap.size rfl (.tmp 30) (.tmp 31) 22 5 (.int .u8 0) 1 rfl Tryd.underlying22 info5 rfl (by decide) (by omega) (.slice A7 ([] : List Int).length c7) ([] : List Int) d (some ⟨D, 0, none⟩) 32 32 (fun _ => True) (fun _ => False) rfl rfl ?aO ?aR (fun _ _ h => h) (fun _ h => h.elim) (fun _ _ => trivial) ?aB ?aS ?aL ?_; (case aO => exact HO7.out); (case aR => exact HC6.out W7 (gb_to HG7.out (Nat.le_refl _) (fun k e => by cases e))); (case aB => exact HB7.out); (case aS => exact HB7.out.size); (case aL => exact HLA.out); intro v8 W8 ho hb hg hn; have HO8 := Aside0.mk ho; have HB8 := Aside0.mk hb; have HG8 := Aside0.mk hg; clear ho hb hg hn; obtain ⟨A8, c8, rfl⟩ := Kd.R_slice HO8.out))
  have hb67 := gb_to HG7.out (Nat.le_refl _) (fun k e => by cases e)
  have hb78 : Below W6.heap.size W7 W8 := gb_to HG8.out hb67.size (fun k e => by obtain ⟨b, h1, h2⟩ := HN7.out; rw [h1] at e; cases e; exact h2)
  have hb68 := hb67.trans hb78
  have E8 := Aside0.mk (E6.out.below hb68)
  have HGC := Aside0.mk ((hb68.block G (blk_lt HG6.out)).trans HG6.out)
  have ho8 := HO8.out
  rw [List.nil_append] at ho8
  obtain ⟨h, rfl⟩ : ∃ g, A8 = some ⟨g, 0, none⟩ := (own_form ho8).resolve_left (by intro e; have h9 := HDL.out; rw [e] at h9; cases h9)

  rw [HDL.out] at ho8 ⊢
  obtain ⟨cur, hcur, hc8, hbase, hcells⟩ := rb_block ho8
  rw [HDL.out] at hc8 hcells
  have HCU := Aside0.mk hcur
  have HCE := Aside0.mk hcells
  have HBA := Aside0.mk hbase
  have HTO := Aside0.mk (show ∀ W', Below W8.heap.size W8 W' → Txt W' (.slice (some ⟨h, 0, none⟩) 32 c8) d from fun W' hB => txt_pre (l := d) 32 c8 (by rw [HDL.out]) hc8 ((hB.block h (blk_lt HCU.out)).trans HCU.out) (fun j hj => HCE.out j (by rw [← HDL.out]; exact hj)) (by rw [HDL.out]; decide) HDB.out)
  have HT31 := Aside0.mk (show ∀ W', Below W8.heap.size W8 W' → Txt W' (.slice (some ⟨h, 0, none⟩) 31 c8) (d.take 31) from fun W' hB => txt_pre (l := d.take 31) 31 c8 (by rw [List.length_take, HDL.out]; rfl) (by omega) ((hB.block h (blk_lt HCU.out)).trans HCU.out) (fun j hj => by
    rw [List.length_take, HDL.out] at hj
    rw [HCE.out j (by omega), List.getD_eq_getElem?_getD, List.getD_eq_getElem?_getD, List.getElem?_take, if_pos (by omega)]) (by rw [List.length_take]; omega) (fun x hx => HDB.out x (List.mem_of_mem_take hx)))
  have HCC := Aside0.mk (show ∀ W', Below W8.heap.size W8 W' → W'.heap.size = W'.heap.size ∧ ∀ (A : Option Addr) (n c : Nat) (tag : List Int) (r : Bool), n = tag.length → Txt W' (.slice A tag.length c) tag → r = ((strOfNums tag).toList == (strOfNums d).toList) → Calls Tryd.prog 20 #[.slice A n c, .slice A0 l0.length c0, .slice (some ⟨W'.heap.size, 0, none⟩) 1 1] (W'.alloc (.cells #[.slice A1 l1.length c1] 22)) (fun e w' => e = .returned (.bool r) ∧ Below W'.heap.size W' w') from fun W' hB => ⟨rfl, fun A n c tag r hn hG hr => by
    have Ew := E8.out.below hB
    exact check1 (l1 := l1) (key := l0) (tag := tag) r Ew.roots Ew.cubes hn hG (Ew.txt (.slice A0 l0.length c0, l0) (by simp)) (by omega) (Ew.txt (.slice A1 l1.length c1, l1) (by simp)) (by omega) (by rw [← HDD.out]; exact hr)⟩)
  have HC1 := Aside0.mk (show Calls Tryd.prog 20 #[.slice (some ⟨h, 0, none⟩) 32 c8, .slice A0 l0.length c0, .slice (some ⟨W8.heap.size, 0, none⟩) 1 1] (W8.alloc (.cells #[.slice A1 l1.length c1] 22)).drew (fun e w' => e = .returned (.bool true) ∧ Below W8.heap.size W8.drew w') from
    (HCC.out W8.drew (below_drew1 (Below.refl _ _))).2 _ _ _ d true HDL.out.symm (by rw [HDL.out]; exact HTO.out _ (below_drew1 (Below.refl _ _))) (by rw [beq_self_eq_true]))
  have HC2 := Aside0.mk (show ∀ W', Below W8.heap.size W8 W' → Calls Tryd.prog 20 #[.slice A2 l2.length c2, .slice A0 l0.length c0, .slice (some ⟨W'.heap.size, 0, none⟩) 1 1] (W'.alloc (.cells #[.slice A1 l1.length c1] 22)) (fun e w' => e = .returned (.bool ((strOfNums l2).toList == (strOfNums d).toList)) ∧ Below W'.heap.size W' w') from fun W' hB =>
    (HCC.out W' hB).2 _ _ _ l2 _ rfl ((E8.out.below hB).txt (.slice A2 l2.length c2, l2) (by simp)) rfl)
  have HC3 := Aside0.mk (show ∀ W', Below W8.heap.size W8 W' → Calls Tryd.prog 20 #[.slice (some ⟨h, 0, none⟩) 31 c8, .slice A0 l0.length c0, .slice (some ⟨W'.heap.size, 0, none⟩) 1 1] (W'.alloc (.cells #[.slice A1 l1.length c1] 22)) (fun e w' => e = .returned (.bool false) ∧ Below W'.heap.size W' w') from fun W' hB =>
    (HCC.out W' hB).2 _ _ _ (d.take 31) _ (by rw [List.length_take, HDL.out]; rfl) (by rw [show (d.take 31).length = 31 by rw [List.length_take, HDL.out]; rfl]; exact HT31.out _ hB) (by
      rw [str_beq (fun x hx => HDB.out x (List.mem_of_mem_take hx)) HDB.out, decide_eq_false (fun e => by have h9 := congrArg List.length e; rw [List.length_take, HDL.out] at h9; cases h9)]))
  have HF := Aside0.mk (show ∀ w', Below W8.heap.size W8 w' → w'.cell? ⟨G, 0, none⟩ = some (.slice A0 l0.length c0) ∧ w'.cell? ⟨G, 1, none⟩ = some (.slice A1 l1.length c1) ∧ w'.cell? ⟨G, 2, none⟩ = some (.slice A2 l2.length c2) ∧ (convert 22 9 (.slice A2 l2.length c2)).run Tryd.prog w' = .ok (.string (strOfNums l2)) w' ∧ (convert 22 9 (.slice (some ⟨h, 0, none⟩) 32 c8)).run Tryd.prog w' = .ok (.string (strOfNums d)) w' from fun w' hB => by
    have hg := (hB.block G (blk_lt HGC.out)).trans HGC.out
    refine ⟨blk_cell hg 0, blk_cell hg 1, blk_cell hg 2, ?_, ?_⟩
    · obtain ⟨A9, c9, he, _, h9, _⟩ := (E8.out.below hB).txt (.slice A2 l2.length c2, l2) (by simp)
      simp only [Value.slice.injEq, true_and] at he
      obtain ⟨rfl, rfl⟩ := he
      exact Kd.C_string Tryd.underlying22 Tryd.underlying5 Tryd.underlying9 h9
    · obtain ⟨A9, c9, he, _, h9, _⟩ := HTO.out _ hB
      simp only [Value.slice.injEq] at he
      obtain ⟨rfl, e32, rfl⟩ := he
      rw [e32]
      exact Kd.C_string Tryd.underlying22 Tryd.underlying5 Tryd.underlying9 h9)
  have h31 : (31 : Int) ≤ (c8 : Int) := by omega
  have h31n : 31 ≤ c8 := by omega
  clear hb67 hb78 hb68 ho8 hcur hcells hbase HC6 HLA HN7 HO7 HB7 HG7 HG8
  refine start_ (n := 35) (S := fun w' => Below W8.heap.size W8 w' ∧ w'.cell? ⟨G, 0, none⟩ = some (.slice A0 l0.length c0) ∧ w'.cell? ⟨G, 1, none⟩ = some (.slice A1 l1.length c1) ∧ w'.cell? ⟨G, 2, none⟩ = some (.slice A2 l2.length c2) ∧ (convert 22 9 (.slice A2 l2.length c2)).run Tryd.prog w' = .ok (.string (strOfNums l2)) w' ∧ (convert 22 9 (.slice (some ⟨h, 0, none⟩) 32 c8)).run Tryd.prog w' = .ok (.string (strOfNums d)) w') (ds := []) #[false, false, false, false, false, false, false, false, false, false, false, false, false, false, false, false, false, false, false, false, false, false, false, false, false, false, false, false, false, false, false, false, false, false, false] (by kernel_rfl) rfl rfl ⟨below_drew1 (Below.refl _ _), (HF.out _ (below_drew1 (Below.refl _ _))).1, (HF.out _ (below_drew1 (Below.refl _ _))).2.1, (HF.out _ (below_drew1 (Below.refl _ _))).2.2.1, (HF.out _ (below_drew1 (Below.refl _ _))).2.2.2.1, (HF.out _ (below_drew1 (Below.refl _ _))).2.2.2.2⟩ (fun hHeld => ?_)
  refine pure_ (i := 0) (N := some 33) (v := ?_) (a' := ?_) #[true, false, false, false, false, false, false, false, false, false, false, false, false, false, false, false, false, false, false, false, false, false, false, false, false, false, false, false, false, false, false, false, false, false, false] rfl rfl (by kernel_rfl) (fun _ _ _ h => h) (Or.inl ⟨by rfl, ?_⟩) ?_ ?_
  rotate_left
  · intro w'
    go_simp
    with_reducible rfl
  rotate_left
  · simp only [Act.put, List.setIfInBounds_toArray, List.set_cons_zero, List.set_cons_succ, i64_w, i32_w]
    rfl
  refine pure_ (i := 1) (N := some 34) (v := ?_) (a' := ?_) #[true, true, false, false, false, false, false, false, false, false, false, false, false, false, false, false, false, false, false, false, false, false, false, false, false, false, false, false, false, false, false, false, false, false, false] rfl rfl (by kernel_rfl) (fun _ _ _ h => h) (Or.inl ⟨by rfl, ?_⟩) ?_ ?_
  rotate_left
  · intro w'
    go_simp
    with_reducible rfl
  rotate_left
  · simp only [Act.put, List.setIfInBounds_toArray, List.set_cons_zero, List.set_cons_succ, i64_w, i32_w]
    rfl
  refine pure_ (i := 3) (N := some 36) (v := ?_) (a' := ?_) #[true, true, false, true, false, false, false, false, false, false, false, false, false, false, false, false, false, false, false, false, false, false, false, false, false, false, false, false, false, false, false, false, false, false, false] rfl rfl (by kernel_rfl) (fun _ _ _ h => h) (Or.inl ⟨by rfl, ?_⟩) ?_ ?_
  rotate_left
  · intro w'
    go_simp
    with_reducible rfl
  rotate_left
  · simp only [Act.put, List.setIfInBounds_toArray, List.set_cons_zero, List.set_cons_succ, i64_w, i32_w]
    rfl
  refine take_ (i := 2) (N := some 35) (v := ?_) (a' := ?_) #[true, true, true, true, false, false, false, false, false, false, false, false, false, false, false, false, false, false, false, false, false, false, false, false, false, false, false, false, false, false, false, false, false, false, false] rfl rfl (by kernel_rfl) (fun _ _ _ h => h) (Or.inl ⟨by rfl, ?_⟩) hHeld ?_ ?_
  rotate_left
  · rintro w' ⟨s0, s1, s2, s3, s4, s5⟩
    go_simp
    with_reducible rfl
  rotate_left
  · simp only [Act.put, List.setIfInBounds_toArray, List.set_cons_zero, List.set_cons_succ, i64_w, i32_w]
    rfl
  refine take_ (i := 4) (N := some 37) (v := ?_) (a' := ?_) #[true, true, true, true, true, false, false, false, false, false, false, false, false, false, false, false, false, false, false, false, false, false, false, false, false, false, false, false, false, false, false, false, false, false, false] rfl rfl (by kernel_rfl) (fun _ _ _ h => h) (Or.inl ⟨by rfl, ?_⟩) hHeld ?_ ?_
  rotate_left
  · rintro w' ⟨s0, s1, s2, s3, s4, s5⟩
    go_simp
    with_reducible rfl
  rotate_left
  · simp only [Act.put, List.setIfInBounds_toArray, List.set_cons_zero, List.set_cons_succ, i64_w, i32_w]
    rfl
  refine one_ (i := 5) (N := some 38) #[true, true, true, true, true, true, false, false, false, false, false, false, false, false, false, false, false, false, false, false, false, false, false, false, false, false, false, false, false, false, false, false, false, false, false] rfl rfl (by kernel_rfl) (by decide) (fun K hK => ?_)
  refine value_ (w1 := ?_) (v := ?_) (by rfl) rfl ?_ ?_
  rotate_left 2
  · go_simp
    constructor
    · rfl
    · rfl
  refine hK.out _ _ ⟨below_alloc hHeld.1 _, (HF.out _ (below_alloc hHeld.1 _)).1, (HF.out _ (below_alloc hHeld.1 _)).2.1, (HF.out _ (below_alloc hHeld.1 _)).2.2.1, (HF.out _ (below_alloc hHeld.1 _)).2.2.2.1, (HF.out _ (below_alloc hHeld.1 _)).2.2.2.2⟩ (fun hHeld => ?_)
  clear hK K
  refine norm_ (a' := ?_) ?_ ?_
  rotate_left
  · show Act.put _ (some 38) _ = _
    simp only [Act.put, List.setIfInBounds_toArray, List.set_cons_zero, List.set_cons_succ, i64_w, i32_w]
    rfl
  refine one_ (i := 6) (N := some 39) #[true, true, true, true, true, true, true, false, false, false, false, false, false, false, false, false, false, false, false, false, false, false, false, false, false, false, false, false, false, false, false, false, false, false, false] rfl rfl (by kernel_rfl) (by decide) (fun K hK => ?_)
  refine goes_ Tryd.func20 (by kernel_rfl) rfl #[.slice (some ⟨h, 0, none⟩) 32 c8, .slice A0 l0.length c0, .slice (some ⟨W8.heap.size, 0, none⟩) 1 1] (by rfl) rfl rfl (by first | rfl | (simp only [List.map_toArray, List.map_cons, List.map_nil]; rfl)) ?_
  with_reducible refine (HC1.out).mono ?_
  rintro e w10 ⟨rfl, hb10⟩
  refine ⟨_, rfl, ?_⟩
  have hB10 : Below W8.heap.size W8 w10 := (below_drew1 (Below.refl W8.heap.size W8)).trans hb10
  refine hK.out _ _ ⟨hB10, (HF.out _ (hB10)).1, (HF.out _ (hB10)).2.1, (HF.out _ (hB10)).2.2.1, (HF.out _ (hB10)).2.2.2.1, (HF.out _ (hB10)).2.2.2.2⟩ (fun hHeld => ?_)
  clear hK K
  refine norm_ (a' := ?_) ?_ ?_
  rotate_left
  · show Act.put _ (some 39) _ = _
    simp only [Act.put, List.setIfInBounds_toArray, List.set_cons_zero, List.set_cons_succ, i64_w, i32_w]
    rfl
  refine pure_ (i := 7) (N := some 40) (v := ?_) (a' := ?_) #[true, true, true, true, true, true, true, true, false, false, false, false, false, false, false, false, false, false, false, false, false, false, false, false, false, false, false, false, false, false, false, false, false, false, false] rfl rfl (by kernel_rfl) (fun _ _ _ h => h) (Or.inl ⟨by rfl, ?_⟩) ?_ ?_
  rotate_left
  · intro w'
    go_simp
    with_reducible rfl
  rotate_left
  · simp only [Act.put, List.setIfInBounds_toArray, List.set_cons_zero, List.set_cons_succ, i64_w, i32_w]
    rfl
  refine pure_ (i := 8) (N := some 41) (v := ?_) (a' := ?_) #[true, true, true, true, true, true, true, true, true, false, false, false, false, false, false, false, false, false, false, false, false, false, false, false, false, false, false, false, false, false, false, false, false, false, false] rfl rfl (by kernel_rfl) (fun _ _ _ h => h) (Or.inl ⟨by rfl, ?_⟩) ?_ ?_
  rotate_left
  · intro w'
    go_simp
    with_reducible rfl
  rotate_left
  · simp only [Act.put, List.setIfInBounds_toArray, List.set_cons_zero, List.set_cons_succ, i64_w, i32_w]
    rfl
  refine pure_ (i := 9) (N := some 42) (v := ?_) (a' := ?_) #[true, true, true, true, true, true, true, true, true, true, false, false, false, false, false, false, false, false, false, false, false, false, false, false, false, false, false, false, false, false, false, false, false, false, false] rfl rfl (by kernel_rfl) (fun _ _ _ h => h) (Or.inl ⟨by rfl, ?_⟩) ?_ ?_
  rotate_left
  · intro w'
    go_simp
    with_reducible rfl
  rotate_left
  · simp only [Act.put, List.setIfInBounds_toArray, List.set_cons_zero, List.set_cons_succ, i64_w, i32_w]
    rfl
  refine pure_ (i := 11) (N := some 44) (v := ?_) (a' := ?_) #[true, true, true, true, true, true, true, true, true, true, false, true, false, false, false, false, false, false, false, false, false, false, false, false, false, false, false, false, false, false, false, false, false, false, false] rfl rfl (by kernel_rfl) (fun _ _ _ h => h) (Or.inl ⟨by rfl, ?_⟩) ?_ ?_
  rotate_left
  · intro w'
    go_simp
    with_reducible rfl
  rotate_left
  · simp only [Act.put, List.setIfInBounds_toArray, List.set_cons_zero, List.set_cons_succ, i64_w, i32_w]
    rfl
  refine pure_ (i := 13) (N := some 46) (v := ?_) (a' := ?_) #[true, true, true, true, true, true, true, true, true, true, false, true, false, true, false, false, false, false, false, false, false, false, false, false, false, false, false, false, false, false, false, false, false, false, false] rfl rfl (by kernel_rfl) (fun _ _ _ h => h) (Or.inl ⟨by rfl, ?_⟩) ?_ ?_
  rotate_left
  · intro w'
    go_simp
    with_reducible rfl
  rotate_left
  · simp only [Act.put, List.setIfInBounds_toArray, List.set_cons_zero, List.set_cons_succ, i64_w, i32_w]
    rfl
  refine pure_ (i := 17) (N := some 50) (v := ?_) (a' := ?_) #[true, true, true, true, true, true, true, true, true, true, false, true, false, true, false, false, false, true, false, false, false, false, false, false, false, false, false, false, false, false, false, false, false, false, false] rfl rfl (by kernel_rfl) (fun _ _ _ h => h) (Or.inl ⟨by rfl, ?_⟩) ?_ ?_
  rotate_left
  · intro w'
    go_simp
    with_reducible rfl
  rotate_left
  · simp only [Act.put, List.setIfInBounds_toArray, List.set_cons_zero, List.set_cons_succ, i64_w, i32_w]
    rfl
  refine pure_ (i := 20) (N := some 53) (v := ?_) (a' := ?_) #[true, true, true, true, true, true, true, true, true, true, false, true, false, true, false, false, false, true, false, false, true, false, false, false, false, false, false, false, false, false, false, false, false, false, false] rfl rfl (by kernel_rfl) (fun _ _ _ h => h) (Or.inl ⟨by rfl, ?_⟩) ?_ ?_
  rotate_left
  · intro w'
    go_simp
    with_reducible rfl
  rotate_left
  · simp only [Act.put, List.setIfInBounds_toArray, List.set_cons_zero, List.set_cons_succ, i64_w, i32_w]
    rfl
  refine take_ (i := 10) (N := some 43) (v := ?_) (a' := ?_) #[true, true, true, true, true, true, true, true, true, true, true, true, false, true, false, false, false, true, false, false, true, false, false, false, false, false, false, false, false, false, false, false, false, false, false] rfl rfl (by kernel_rfl) (fun _ _ _ h => h) (Or.inl ⟨by rfl, ?_⟩) hHeld ?_ ?_
  rotate_left
  · rintro w' ⟨s0, s1, s2, s3, s4, s5⟩
    go_simp
    with_reducible rfl
  rotate_left
  · simp only [Act.put, List.setIfInBounds_toArray, List.set_cons_zero, List.set_cons_succ, i64_w, i32_w]
    rfl
  refine take_ (i := 12) (N := some 45) (v := ?_) (a' := ?_) #[true, true, true, true, true, true, true, true, true, true, true, true, true, true, false, false, false, true, false, false, true, false, false, false, false, false, false, false, false, false, false, false, false, false, false] rfl rfl (by kernel_rfl) (fun _ _ _ h => h) (Or.inl ⟨by rfl, ?_⟩) hHeld ?_ ?_
  rotate_left
  · rintro w' ⟨s0, s1, s2, s3, s4, s5⟩
    go_simp
    with_reducible rfl
  rotate_left
  · simp only [Act.put, List.setIfInBounds_toArray, List.set_cons_zero, List.set_cons_succ, i64_w, i32_w]
    rfl
  refine take_ (i := 14) (N := some 47) (v := ?_) (a' := ?_) #[true, true, true, true, true, true, true, true, true, true, true, true, true, true, true, false, false, true, false, false, true, false, false, false, false, false, false, false, false, false, false, false, false, false, false] rfl rfl (by kernel_rfl) (fun _ _ _ h => h) (Or.inl ⟨by rfl, ?_⟩) hHeld ?_ ?_
  rotate_left
  · rintro w' ⟨s0, s1, s2, s3, s4, s5⟩
    go_simp
    with_reducible rfl
  rotate_left
  · simp only [Act.put, List.setIfInBounds_toArray, List.set_cons_zero, List.set_cons_succ, i64_w, i32_w]
    rfl
  refine take_ (i := 18) (N := some 51) (v := ?_) (a' := ?_) #[true, true, true, true, true, true, true, true, true, true, true, true, true, true, true, false, false, true, true, false, true, false, false, false, false, false, false, false, false, false, false, false, false, false, false] rfl rfl (by kernel_rfl) (fun _ _ _ h => h) (Or.inl ⟨by rfl, ?_⟩) hHeld ?_ ?_
  rotate_left
  · rintro w' ⟨s0, s1, s2, s3, s4, s5⟩
    go_simp
    with_reducible rfl
  rotate_left
  · simp only [Act.put, List.setIfInBounds_toArray, List.set_cons_zero, List.set_cons_succ, i64_w, i32_w]
    rfl
  refine take_ (i := 19) (N := some 52) (v := ?_) (a' := ?_) #[true, true, true, true, true, true, true, true, true, true, true, true, true, true, true, false, false, true, true, true, true, false, false, false, false, false, false, false, false, false, false, false, false, false, false] rfl rfl (by kernel_rfl) (fun _ _ _ h => h) (Or.inl ⟨by rfl, ?_⟩) hHeld ?_ ?_
  rotate_left
  · rintro w' ⟨s0, s1, s2, s3, s4, s5⟩
    go_simp
    with_reducible rfl
  rotate_left
  · simp only [Act.put, List.setIfInBounds_toArray, List.set_cons_zero, List.set_cons_succ, i64_w, i32_w]
    rfl
  refine take_ (i := 21) (N := some 54) (v := ?_) (a' := ?_) #[true, true, true, true, true, true, true, true, true, true, true, true, true, true, true, false, false, true, true, true, true, true, false, false, false, false, false, false, false, false, false, false, false, false, false] rfl rfl (by kernel_rfl) (fun _ _ _ h => h) (Or.inl ⟨by rfl, ?_⟩) hHeld ?_ ?_
  rotate_left
  · rintro w' ⟨s0, s1, s2, s3, s4, s5⟩
    go_simp
    with_reducible rfl
  rotate_left
  · simp only [Act.put, List.setIfInBounds_toArray, List.set_cons_zero, List.set_cons_succ, i64_w, i32_w]
    rfl
  refine pure_ (i := 22) (N := some 55) (v := ?_) (a' := ?_) #[true, true, true, true, true, true, true, true, true, true, true, true, true, true, true, false, false, true, true, true, true, true, true, false, false, false, false, false, false, false, false, false, false, false, false] rfl rfl (by kernel_rfl) (fun _ _ _ h => h) (Or.inl ⟨by rfl, ?_⟩) ?_ ?_
  rotate_left
  · intro w'
    go_simp
    with_reducible rfl
  rotate_left
  · simp only [Act.put, List.setIfInBounds_toArray, List.set_cons_zero, List.set_cons_succ, i64_w, i32_w]
    rfl
  refine one_ (i := 15) (N := some 48) #[true, true, true, true, true, true, true, true, true, true, true, true, true, true, true, true, false, true, true, true, true, true, true, false, false, false, false, false, false, false, false, false, false, false, false] rfl rfl (by kernel_rfl) (by decide) (fun K hK => ?_)
  refine value_ (w1 := ?_) (v := ?_) (by rfl) rfl ?_ ?_
  rotate_left 2
  · go_simp
    constructor
    · rfl
    · rfl
  refine hK.out _ _ ⟨below_alloc hHeld.1 _, (HF.out _ (below_alloc hHeld.1 _)).1, (HF.out _ (below_alloc hHeld.1 _)).2.1, (HF.out _ (below_alloc hHeld.1 _)).2.2.1, (HF.out _ (below_alloc hHeld.1 _)).2.2.2.1, (HF.out _ (below_alloc hHeld.1 _)).2.2.2.2⟩ (fun hHeld => ?_)
  clear hK K
  refine norm_ (a' := ?_) ?_ ?_
  rotate_left
  · show Act.put _ (some 48) _ = _
    simp only [Act.put, List.setIfInBounds_toArray, List.set_cons_zero, List.set_cons_succ, i64_w, i32_w]
    rfl
  refine one_ (i := 16) (N := some 49) #[true, true, true, true, true, true, true, true, true, true, true, true, true, true, true, true, true, true, true, true, true, true, true, false, false, false, false, false, false, false, false, false, false, false, false] rfl rfl (by kernel_rfl) (by decide) (fun K hK => ?_)
  refine goes_ Tryd.func20 (by kernel_rfl) rfl #[.slice A2 l2.length c2, .slice A0 l0.length c0, .slice (some ⟨w10.heap.size, 0, none⟩) 1 1] (by rfl) rfl rfl (by first | rfl | (simp only [List.map_toArray, List.map_cons, List.map_nil]; rfl)) ?_
  with_reducible refine (HC2.out _ hB10).mono ?_
  rintro e w11 ⟨rfl, hb11⟩
  refine ⟨_, rfl, ?_⟩
  have hB11 : Below W8.heap.size W8 w11 := hB10.trans (hb11.mono hB10.size)
  refine hK.out _ _ ⟨hB11, (HF.out _ (hB11)).1, (HF.out _ (hB11)).2.1, (HF.out _ (hB11)).2.2.1, (HF.out _ (hB11)).2.2.2.1, (HF.out _ (hB11)).2.2.2.2⟩ (fun hHeld => ?_)
  clear hK K
  refine norm_ (a' := ?_) ?_ ?_
  rotate_left
  · show Act.put _ (some 49) _ = _
    simp only [Act.put, List.setIfInBounds_toArray, List.set_cons_zero, List.set_cons_succ, i64_w, i32_w]
    rfl
  refine pure_ (i := 23) (N := some 56) (v := ?_) (a' := ?_) #[true, true, true, true, true, true, true, true, true, true, true, true, true, true, true, true, true, true, true, true, true, true, true, true, false, false, false, false, false, false, false, false, false, false, false] rfl rfl (by kernel_rfl) (fun _ _ _ h => h) (Or.inl ⟨by rfl, ?_⟩) ?_ ?_
  rotate_left
  · intro w'
    go_simp
    with_reducible rfl
  rotate_left
  · simp only [Act.put, List.setIfInBounds_toArray, List.set_cons_zero, List.set_cons_succ, i64_w, i32_w]
    rfl
  refine pure_ (i := 24) (N := some 57) (v := ?_) (a' := ?_) #[true, true, true, true, true, true, true, true, true, true, true, true, true, true, true, true, true, true, true, true, true, true, true, true, true, false, false, false, false, false, false, false, false, false, false] rfl rfl (by kernel_rfl) (fun _ _ _ h => h) (Or.inl ⟨by rfl, ?_⟩) ?_ ?_
  rotate_left
  · intro w'
    go_simp
    with_reducible rfl
  rotate_left
  · simp only [Act.put, List.setIfInBounds_toArray, List.set_cons_zero, List.set_cons_succ, i64_w, i32_w]
    rfl
  refine pure_ (i := 25) (N := some 58) (v := ?_) (a' := ?_) #[true, true, true, true, true, true, true, true, true, true, true, true, true, true, true, true, true, true, true, true, true, true, true, true, true, true, false, false, false, false, false, false, false, false, false] rfl rfl (by kernel_rfl) (fun _ _ _ h => h) (Or.inl ⟨by rfl, ?_⟩) ?_ ?_
  rotate_left
  · intro w'
    go_simp
    with_reducible rfl
  rotate_left
  · simp only [Act.put, List.setIfInBounds_toArray, List.set_cons_zero, List.set_cons_succ, i64_w, i32_w]
    rfl
  refine pure_ (i := 26) (N := some 59) (v := ?_) (a' := ?_) #[true, true, true, true, true, true, true, true, true, true, true, true, true, true, true, true, true, true, true, true, true, true, true, true, true, true, true, false, false, false, false, false, false, false, false] rfl rfl (by kernel_rfl) (fun _ _ _ h => h) (Or.inl ⟨by rfl, ?_⟩) ?_ ?_
  rotate_left
  · intro w'
    go_simp
    with_reducible rfl
  rotate_left
  · simp only [Act.put, List.setIfInBounds_toArray, List.set_cons_zero, List.set_cons_succ, i64_w, i32_w]
    rfl
  refine pure_ (i := 27) (N := some 60) (v := ?_) (a' := ?_) #[true, true, true, true, true, true, true, true, true, true, true, true, true, true, true, true, true, true, true, true, true, true, true, true, true, true, true, true, false, false, false, false, false, false, false] rfl rfl (by kernel_rfl) (fun _ _ _ h => h) (Or.inl ⟨by rfl, ?_⟩) ?_ ?_
  rotate_left
  · intro w'
    go_simp
    with_reducible rfl
  rotate_left
  · simp only [Act.put, List.setIfInBounds_toArray, List.set_cons_zero, List.set_cons_succ, i64_w, i32_w]
    rfl
  refine pure_ (i := 28) (N := some 61) (v := ?_) (a' := ?_) #[true, true, true, true, true, true, true, true, true, true, true, true, true, true, true, true, true, true, true, true, true, true, true, true, true, true, true, true, true, false, false, false, false, false, false] rfl rfl (by kernel_rfl) (fun _ _ _ h => h) (Or.inl ⟨by rfl, ?_⟩) ?_ ?_
  rotate_left
  · intro w'
    go_simp
    with_reducible rfl
  rotate_left
  · simp only [Act.put, List.setIfInBounds_toArray, List.set_cons_zero, List.set_cons_succ, i64_w, i32_w]
    rfl
  refine pure_ (i := 30) (N := some 63) (v := ?_) (a' := ?_) #[true, true, true, true, true, true, true, true, true, true, true, true, true, true, true, true, true, true, true, true, true, true, true, true, true, true, true, true, true, false, true, false, false, false, false] rfl rfl (by kernel_rfl) (fun _ _ _ h => h) (Or.inl ⟨by rfl, ?_⟩) ?_ ?_
  rotate_left
  · intro w'
    go_simp
    with_reducible rfl
  rotate_left
  · simp only [Act.put, List.setIfInBounds_toArray, List.set_cons_zero, List.set_cons_succ, i64_w, i32_w]
    rfl
  refine take_ (i := 29) (N := some 62) (v := ?_) (a' := ?_) #[true, true, true, true, true, true, true, true, true, true, true, true, true, true, true, true, true, true, true, true, true, true, true, true, true, true, true, true, true, true, true, false, false, false, false] rfl rfl (by kernel_rfl) (fun _ _ _ h => h) (Or.inl ⟨by rfl, ?_⟩) hHeld ?_ ?_
  rotate_left
  · rintro w' ⟨s0, s1, s2, s3, s4, s5⟩
    go_simp
    with_reducible rfl
  rotate_left
  · simp only [Act.put, List.setIfInBounds_toArray, List.set_cons_zero, List.set_cons_succ, i64_w, i32_w]
    rfl
  refine take_ (i := 31) (N := some 64) (v := ?_) (a' := ?_) #[true, true, true, true, true, true, true, true, true, true, true, true, true, true, true, true, true, true, true, true, true, true, true, true, true, true, true, true, true, true, true, true, false, false, false] rfl rfl (by kernel_rfl) (fun _ _ _ h => h) (Or.inl ⟨by rfl, ?_⟩) hHeld ?_ ?_
  rotate_left
  · rintro w' ⟨s0, s1, s2, s3, s4, s5⟩
    go_simp
    with_reducible rfl
  rotate_left
  · simp only [Act.put, List.setIfInBounds_toArray, List.set_cons_zero, List.set_cons_succ, i64_w, i32_w]
    rfl
  refine one_ (i := 32) (N := some 65) #[true, true, true, true, true, true, true, true, true, true, true, true, true, true, true, true, true, true, true, true, true, true, true, true, true, true, true, true, true, true, true, true, true, false, false] rfl rfl (by kernel_rfl) (by decide) (fun K hK => ?_)
  refine value_ (w1 := ?_) (v := ?_) (by rfl) rfl ?_ ?_
  rotate_left 2
  · go_simp
    constructor
    · rfl
    · rfl
  refine hK.out _ _ ⟨below_alloc hHeld.1 _, (HF.out _ (below_alloc hHeld.1 _)).1, (HF.out _ (below_alloc hHeld.1 _)).2.1, (HF.out _ (below_alloc hHeld.1 _)).2.2.1, (HF.out _ (below_alloc hHeld.1 _)).2.2.2.1, (HF.out _ (below_alloc hHeld.1 _)).2.2.2.2⟩ (fun hHeld => ?_)
  clear hK K
  refine norm_ (a' := ?_) ?_ ?_
  rotate_left
  · show Act.put _ (some 65) _ = _
    simp only [Act.put, List.setIfInBounds_toArray, List.set_cons_zero, List.set_cons_succ, i64_w, i32_w]
    rfl
  refine one_ (i := 33) (N := some 66) #[true, true, true, true, true, true, true, true, true, true, true, true, true, true, true, true, true, true, true, true, true, true, true, true, true, true, true, true, true, true, true, true, true, true, false] rfl rfl (by kernel_rfl) (by decide) (fun K hK => ?_)
  refine goes_ Tryd.func20 (by kernel_rfl) rfl #[.slice (some ⟨h, 0, none⟩) 31 c8, .slice A0 l0.length c0, .slice (some ⟨w11.heap.size, 0, none⟩) 1 1] (by rfl) rfl rfl (by first | rfl | (simp only [List.map_toArray, List.map_cons, List.map_nil]; rfl)) ?_
  with_reducible refine (HC3.out _ hB11).mono ?_
  rintro e w12 ⟨rfl, hb12⟩
  refine ⟨_, rfl, ?_⟩
  have hB12 : Below W8.heap.size W8 w12 := hB11.trans (hb12.mono hB11.size)
  refine hK.out _ _ ⟨hB12, (HF.out _ (hB12)).1, (HF.out _ (hB12)).2.1, (HF.out _ (hB12)).2.2.1, (HF.out _ (hB12)).2.2.2.1, (HF.out _ (hB12)).2.2.2.2⟩ (fun hHeld => ?_)
  clear hK K
  refine norm_ (a' := ?_) ?_ ?_
  rotate_left
  · show Act.put _ (some 66) _ = _
    simp only [Act.put, List.setIfInBounds_toArray, List.set_cons_zero, List.set_cons_succ, i64_w, i32_w]
    rfl
  refine pure_ (i := 34) (N := some 67) (v := ?_) (a' := ?_) #[true, true, true, true, true, true, true, true, true, true, true, true, true, true, true, true, true, true, true, true, true, true, true, true, true, true, true, true, true, true, true, true, true, true, true] rfl rfl (by kernel_rfl) (fun _ _ _ h => h) (Or.inl ⟨by rfl, ?_⟩) ?_ ?_
  rotate_left
  · intro w'
    go_simp
    with_reducible rfl
  rotate_left
  · simp only [Act.put, List.setIfInBounds_toArray, List.set_cons_zero, List.set_cons_succ, i64_w, i32_w]
    rfl
  refine done_ (by kernel_rfl) ?_
  have hG12 := (hB12.block G (blk_lt HGC.out)).trans HGC.out
  have HGD := Aside0.mk hG12
  have E12 := Aside0.mk (E8.out.below hB12)
  have HCV := Aside0.mk ((hB12.block h (blk_lt HCU.out)).trans HCU.out)
  have g3 := blk_cell HGD.out 3
  have HB12 := Aside0.mk (HB8.out.trans (hB12.mono HB8.out.size))
  obtain ⟨k, hk, hkl⟩ := u64_rem a3 256 (by decide) (by decide)
  have hk : wrap64 ((IntKind.u64.wrap a3).tmod 256) = (k : Int) := hk
  clear HC1 HC2 HC3 HCC HF hHeld hb10 hB10 hb11 hB11 hb12 hB12 hG12 E8 HGC HCU
  go_wp2_with fail
  rw [hk]
  clear hk
  obtain ⟨q, r, hq2, hr2, hq3, hr3, hql, hrl, hqi⟩ := k_facts k hkl
  have HQ9 := Aside0.mk (show w12.drew.cell? ⟨h, q, none⟩ = some (.int .u8 (d.getD q 0)) from (blk_cell HCV.out q).trans (HCE.out q hql))
  have HH9 := Aside0.mk (show w12.drew.heap[h]? = some (.cells cur 5 (0, 0)) from HCV.out)
  have hfz := blk_frozen HCV.out q
  have hby : 0 ≤ d.getD q 0 ∧ d.getD q 0 < 256 := HDB.out _ (by rw [List.getD_eq_getElem?_getD, List.getElem?_eq_getElem (by rw [HDL.out]; exact hql)]; exact List.getElem_mem _)
  obtain ⟨m, hm⟩ : ∃ m, m = ((2 ^ r : Nat) : Int) := ⟨_, rfl⟩
  have hmr : 0 < m ∧ m < 256 := by rw [hm]; exact pow_range r hrl
  obtain ⟨z, hz⟩ : ∃ z, z = bits .xor .u8 (d.getD q 0) m := ⟨_, rfl⟩
  have hzr : 0 ≤ z ∧ z < 256 := by rw [hz]; exact xor_byte _ _ hby ⟨Int.le_of_lt hmr.1, hmr.2⟩
  have hzn : z ≠ d.getD q 0 := by rw [hz]; exact xor_ne _ _ hby hmr
  have HZR := Aside0.mk hzr
  have HZN := Aside0.mk hzn
  have HZ := Aside0.mk hz
  have HM := Aside0.mk hm
  clear hzr hzn hz hby hmr hm
  refine start_ (n := 11) (S := fun w' => w'.cell? ⟨h, q, none⟩ = some (.int .u8 (d.getD q 0)) ∧ w'.heap[h]? = some (.cells cur 5 (0, 0))) (ds := [10]) #[false, false, false, false, false, false, false, false, false, false, false] (by kernel_rfl) rfl rfl ⟨HQ9.out, HH9.out⟩ (fun hHeld => ?_)
  refine pure_ (i := 0) (N := some 73) (v := ?_) (a' := ?_) #[true, false, false, false, false, false, false, false, false, false, false] rfl rfl (by kernel_rfl) (fun _ _ _ h => h) (Or.inl ⟨by rfl, ?_⟩) ?_ ?_
  rotate_left
  · intro w'
    go_simp
    with_reducible rfl
  rotate_left
  · simp only [Act.put, List.setIfInBounds_toArray, List.set_cons_zero, List.set_cons_succ, i64_w, i32_w]
    rfl
  refine pure_ (i := 1) (N := some 74) (v := ?_) (a' := ?_) #[true, true, false, false, false, false, false, false, false, false, false] rfl rfl (by kernel_rfl) (fun _ _ _ h => h) (Or.inl ⟨by rfl, ?_⟩) ?_ ?_
  rotate_left
  · intro w'
    go_simp
    with_reducible rfl
  rotate_left
  · simp only [Act.put, List.setIfInBounds_toArray, List.set_cons_zero, List.set_cons_succ, i64_w, i32_w]
    rfl
  refine pure_ (i := 2) (N := some 75) (v := ?_) (a' := ?_) #[true, true, true, false, false, false, false, false, false, false, false] rfl rfl (by kernel_rfl) (fun _ _ _ h => h) (Or.inl ⟨by rfl, ?_⟩) ?_ ?_
  rotate_left
  · intro w'
    go_simp
    with_reducible rfl
  rotate_left
  · simp only [Act.put, List.setIfInBounds_toArray, List.set_cons_zero, List.set_cons_succ, i64_w, i32_w]
    rfl
  refine pure_ (i := 3) (N := some 76) (v := ?_) (a' := ?_) #[true, true, true, true, false, false, false, false, false, false, false] rfl rfl (by kernel_rfl) (fun _ _ _ h => h) (Or.inl ⟨by rfl, ?_⟩) ?_ ?_
  rotate_left
  · intro w'
    go_simp
    with_reducible rfl
  rotate_left
  · simp only [Act.put, List.setIfInBounds_toArray, List.set_cons_zero, List.set_cons_succ, i64_w, i32_w]
    rfl
  refine pure_ (i := 5) (N := some 78) (v := ?_) (a' := ?_) #[true, true, true, true, false, true, false, false, false, false, false] rfl rfl (by kernel_rfl) (fun _ _ _ h => h) (Or.inl ⟨by rfl, ?_⟩) ?_ ?_
  rotate_left
  · intro w'
    go_simp
    with_reducible rfl
  rotate_left
  · simp only [Act.put, List.setIfInBounds_toArray, List.set_cons_zero, List.set_cons_succ, i64_w, i32_w]
    rfl
  refine pure_ (i := 6) (N := some 79) (v := ?_) (a' := ?_) #[true, true, true, true, false, true, true, false, false, false, false] rfl rfl (by kernel_rfl) (fun _ _ _ h => h) (Or.inl ⟨by rfl, ?_⟩) ?_ ?_
  rotate_left
  · intro w'
    go_simp
    with_reducible rfl
  rotate_left
  · simp only [Act.put, List.setIfInBounds_toArray, List.set_cons_zero, List.set_cons_succ, i64_w, i32_w]
    rfl
  refine pure_ (i := 7) (N := some 80) (v := ?_) (a' := ?_) #[true, true, true, true, false, true, true, true, false, false, false] rfl rfl (by kernel_rfl) (fun _ _ _ h => h) (Or.inl ⟨by rfl, ?_⟩) ?_ ?_
  rotate_left
  · intro w'
    refine shl_run (x := .const (.int .u8 1)) (y := .tmp 79) HM.out hrl ?_ ?_ ?_ <;> rfl
  rotate_left
  · simp only [Act.put, List.setIfInBounds_toArray, List.set_cons_zero, List.set_cons_succ, i64_w, i32_w]
    rfl
  refine take_ (i := 4) (N := some 77) (v := ?_) (a' := ?_) #[true, true, true, true, true, true, true, true, false, false, false] rfl rfl (by kernel_rfl) (fun _ _ _ h => h) (Or.inl ⟨by rfl, ?_⟩) hHeld ?_ ?_
  rotate_left
  · rintro w' ⟨s0, s1⟩
    go_simp
    with_reducible rfl
  rotate_left
  · simp only [Act.put, List.setIfInBounds_toArray, List.set_cons_zero, List.set_cons_succ, i64_w, i32_w]
    rfl
  refine pure_ (i := 8) (N := some 81) (v := ?_) (a' := ?_) #[true, true, true, true, true, true, true, true, true, false, false] rfl rfl (by kernel_rfl) (fun _ _ _ h => h) (Or.inl ⟨by rfl, ?_⟩) ?_ ?_
  rotate_left
  · intro w'
    go_simp
    with_reducible rfl
  rotate_left
  · simp only [Act.put, List.setIfInBounds_toArray, List.set_cons_zero, List.set_cons_succ, i64_w, i32_w]
    rfl
  refine pure_ (i := 9) (N := some 82) (v := ?_) (a' := ?_) #[true, true, true, true, true, true, true, true, true, true, false] rfl rfl (by kernel_rfl) (fun _ _ _ h => h) (Or.inl ⟨by rfl, ?_⟩) ?_ ?_
  rotate_left
  · intro w'
    go_simp
    with_reducible rfl
  rotate_left
  · simp only [Act.put, List.setIfInBounds_toArray, List.set_cons_zero, List.set_cons_succ, i64_w, i32_w]
    rfl
  refine last_ (i := 10) (N := none) #[true, true, true, true, true, true, true, true, true, true, true] rfl rfl (by kernel_rfl) (by decide) (fun K hK => ?_)
  refine skip_ (w1 := ?_) (by rfl) rfl ?_ ?_
  rotate_left
  · go_simp
    rfl
  refine hK.out _ _ ?_
  clear hK K
  refine done_ (by kernel_rfl) ?_
  rw [← List.getD_eq_getElem?_getD, ← HZ.out]
  have hGh : G ≠ h := blk_ne HGD.out HCV.out (by decide)
  have HB13 := Aside0.mk (below_drew (below_set (j := q) (v := .int .u8 z) HB12.out HBA.out))
  have HG13 := Aside0.mk (show (w12.setCell ⟨h, q, none⟩ (.int .u8 z)).drew.heap[G]? = _ from (Below.heap_setCell w12 ⟨h, q, none⟩ (.int .u8 z) G hGh).trans HGD.out)
  have HO13 := Aside0.mk (show (w12.setCell ⟨h, q, none⟩ (.int .u8 z)).drew.heap[h]? = some (.cells (cur.setIfInBounds q (.int .u8 z)) 5 (0, 0)) from blk_set HCV.out q (.int .u8 z))
  obtain ⟨W13, hW13⟩ : ∃ x, x = (w12.setCell ⟨h, q, none⟩ (.int .u8 z)).drew := ⟨_, rfl⟩
  rw [← hW13] at HB13 HG13 HO13 ⊢
  clear hW13 hHeld hfz
  have E13 := E.out.below HB13.out
  have hlen : (d.set q z).length = 32 := by rw [List.length_set, HDL.out]
  have htx : Txt W13 (.slice (some ⟨h, 0, none⟩) 32 c8) (d.set q z) := txt_pre (l := d.set q z) 32 c8 hlen.symm hc8 HO13.out (fun j hj => by
    rw [hlen] at hj
    rw [Array.getElem?_setIfInBounds, List.getD_eq_getElem?_getD, List.getElem?_set]
    have hcs : q < cur.size := by
      rcases Nat.lt_or_ge q cur.size with h9 | h9
      · exact h9
      · have := HCE.out q hql; rw [Array.getElem?_eq_none h9] at this; cases this
    by_cases hqj : q = j
    · subst hqj
      rw [if_pos rfl, if_pos hcs, if_pos rfl, if_pos (by rw [HDL.out]; exact hql)]
      rfl
    · rw [if_neg hqj, if_neg hqj, HCE.out j hj, List.getD_eq_getElem?_getD]) (by rw [hlen]; decide) (flip_bytes HDB.out q HZR.out)
  have HC13 := Aside0.mk (check1 (l1 := l1) (key := l0) (tag := d.set q z) false E13.roots E13.cubes hlen.symm (by rw [hlen]; exact htx) (E13.txt (.slice A0 l0.length c0, l0) (by simp)) (by omega) (E13.txt (.slice A1 l1.length c1, l1) (by simp)) (by omega) (by
    rw [← HDD.out, str_beq (flip_bytes HDB.out q HZR.out) HDB.out, decide_eq_false (flip_ne q (by rw [HDL.out]; exact hql) HZN.out)]))
  have g0 := blk_cell HG13.out 0
  have g1 := blk_cell HG13.out 1
  clear htx E13
  go_wp2_with fail
  refine HC13.out.mono ?_
  rintro e w14 ⟨rfl, hb14⟩
  go_wp2_with fail
  go_ret
  exact ⟨rfl, HB13.out.trans (hb14.mono HB13.out.size)⟩
end Go.Proofs.YtjmgeelblodcgaaDoor.Sx
