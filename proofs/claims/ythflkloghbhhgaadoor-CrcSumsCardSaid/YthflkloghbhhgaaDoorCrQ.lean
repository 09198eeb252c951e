import Derived.Test.YthflkloghbhhgaaDoorCrO
/- The walk of CrcSums. (Printed by tools/genCrQ.py.) -/
namespace Go.Proofs.YthflkloghbhhgaaDoor.Cr
open Go.RowKit Go.Proofs.YthflkloghbhhgaaDoorW.PrintWords Go.Proofs.YthflkloghbhhgaaDoorW.PrintLast Go.Proofs.YthflkloghbhhgaaDoorW.PrintMore Go.Proofs.YthflkloghbhhgaaDoor.Sh Go.Proofs.YthflkloghbhhgaaDoor.PAll
set_option linter.unusedVariables false
set_option linter.unusedSimpArgs false
theorem rclose_q (W : World) (A : Option Addr) (c : Nat) (l : List Int) (hT : Txt W (.slice A l.length c) l) (hl : l.length ≤ 1000000) : Calls Tryd.prog 14 #[.slice A l.length c] W fun e w' => ∃ v, e = .returned v ∧ RB w' W.heap.size v (l ++ p4 (sum [l]) 4) ∧ Below W.heap.size W w' := by
  obtain ⟨h1, h2, h3⟩ := txt_C hT
  have hb : Bytes l := by obtain ⟨_, _, _, _, _, h, _⟩ := hT; exact h
  refine weftlineref01_Close.calls (10 * l.length + 1) A c l _ W h1 h3 ?_
  unfold weftlineref01_Close.f
  simp only [Option.bind_some, List.nil_append]
  rw [if_pos (by simp; omega), ref_sum hb hl]
  simp only [Option.bind_some]
  rw [ref_bytes _ (sum_lt l hb)]
  simp only [Option.bind_some]
  rw [if_pos (by rw [p4_len]; omega)]
/-- What both say of a text. -/
def fitB (l : List Int) : Bool := if l.length < 4 then false else decide (num (l.drop (l.length - 4)) 4 = sum [l.take (l.length - 4)])
theorem fits_q (w : World) (hg : Tab w) (A : Option Addr) (c : Nat) (l : List Int) (hT : Txt w (.slice A l.length c) l) : Calls Tryd.prog 15 #[.slice A l.length c] w fun e w' => e = .returned (.bool (fitB l)) ∧ Below w.heap.size w w' := by
  unfold fitB
  by_cases h : l.length < 4
  · rw [if_pos h]; exact fits_short w A c l h
  · rw [if_neg h]; exact fits_calls w hg A c l hT (l.length - 4) (by omega)
theorem rfits_q (w : World) (A : Option Addr) (c : Nat) (l : List Int) (hT : Txt w (.slice A l.length c) l) (hl : l.length ≤ 1000000) : Calls Tryd.prog 16 #[.slice A l.length c] w fun e w' => e = .returned (.bool (fitB l)) ∧ Below w.heap.size w w' := by
  unfold fitB
  by_cases h : l.length < 4
  · rw [if_pos h]; exact rfits_short w A c l h
  · rw [if_neg h]; exact rfits_calls w A c l hT (l.length - 4) (by omega) hl
set_option maxRecDepth 100000 in
set_option maxHeartbeats 4000000 in
theorem crcSums_main (w : World) (hg : Tab w) (A : Option Addr) (c : Nat) (l : List Int) (hT : Txt w (.slice A l.length c) l) (hl : l.length ≤ 20000) :
    Calls Tryd.prog 4 #[.slice A l.length c] w (Yes w) := by
  have l_by : Bytes l := by obtain ⟨_, _, _, _, _, h, _⟩ := hT; exact h
  have HG := Aside0.mk hg
  have HT := Aside0.mk hT
  have n0 : decide ((20000 : Int) < (l.length : Int)) = false := by simp; omega
  have HLA := Aside0.mk (show (([] : List Int).length + l.length) * 1 ≤ 140737488355328 by simp; omega)
  obtain ⟨s, hs⟩ : ∃ s, s = sum [l] := ⟨_, rfl⟩
  have hsl : s < 4294967296 := by rw [hs]; exact sum_lt l l_by
  have HSL := Aside0.mk hsl
  have HS := Aside0.mk hs
  clear hg hT hs
  go_enter Tryd.func4, Tryd.ntmps4
  go_wp2_with fail
  refine (alive_calls w HG.out).mono ?_
  rintro e w1 ⟨rfl, hb⟩
  have HB1 := Aside0.mk hb
  clear hb
  go_wp2_with (first | ((with_reducible refine gate_dst (N := 11) rfl ?_); refine Kd.R_lit (Kd.int .u8) (w0 := w) w.heap.size 5 ?hg (N := 11) ?hd (xs := ([] : List Int)) (inner := []) (ok := fun _ => True) (okp := fun _ => True) ?hr ?hp (fun _ hk => hk) trivial HB1.out HB1.out.size (by simp) ?_; (case hd => rfl); (case hg => rfl); (case hr => first | (go_simp; done) | (go_simp; rfl)); (case hp => exact (Reps.none _ _)); intro v2 w2 ho hb hg hn; have HO2 := Aside0.mk ho; have HB2 := Aside0.mk hb; clear ho hb hg hn; obtain ⟨A2, c2, rfl⟩ := Kd.R_slice HO2.out) | ((with_reducible refine gate_builtin (b := .append) (xs := #[.tmp 11, .tmp 12]) rfl ?_); at_builtin; refine Kd.R_append_rows (Kd.int .u8) (w0 := w) w.heap.size rfl (.tmp 11) (.tmp 12) 22 5 (.int .u8 0) 1 rfl Tryd.underlying22 info5 rfl (by decide) (by omega) (.slice A2 ([] : List Int).length c2) ([] : List Int) l A l.length c (fun _ => True) (fun _ => False) rfl rfl ?aO ?aR (fun _ _ h => h) (fun _ h => h.elim) (fun _ _ => trivial) ?aB ?aS ?aL ?_; (case aO => exact HO2.out); (case aR => exact (txt_C (HT.out.below HB2.out)).1); (case aB => exact HB2.out); (case aS => exact HB2.out.size); (case aL => exact HLA.out); intro v3 w3 ho hb hg hn; rw [List.nil_append] at ho; have HO3 := Aside0.mk ho; have HB3 := Aside0.mk hb; clear ho hb hg hn; obtain ⟨A3, c3, rfl⟩ := Kd.R_slice HO3.out))
  have HX3 := Aside0.mk (Txt.of_RB HO3.out l_by (by omega))
  refine (rsum_q w3 A l.length c l (HT.out.below HB3.out) (by omega)).mono ?_
  rintro e w4 ⟨rfl, hd4⟩
  rw [← HS.out]
  have HB4 := Aside0.mk (HB3.out.trans (hd4.below.mono HB3.out.size))
  have HX4 := Aside0.mk (HX3.out.below hd4.below)
  clear hd4 HO2 HO3 HX3 HB2 HB3
  go_wp2_with fail
  refine (put_calls w4 s hsl).mono ?_
  rintro e w5 ⟨rfl, hb5⟩
  obtain ⟨d, hd⟩ : ∃ d, d = p4 s 4 := ⟨_, rfl⟩
  have hdl : d.length = 4 := by rw [hd]; exact p4_len _ _
  have hdb : Bytes d := by rw [hd]; exact p4_bytes _ _
  rw [← hd]
  have hst := store4 (w5.alloc (.cells #[.int .u8 0, .int .u8 0, .int .u8 0, .int .u8 0] 30)) w5.heap.size d hdl (blk_new w5 _) rfl
  have HST := Aside0.mk hst.1
  have hB9 := hb5.trans ((below_setRow (below_alloc (Below.refl w5.heap.size w5) (.cells #[.int .u8 0, .int .u8 0, .int .u8 0, .int .u8 0] 30)) (Nat.le_refl _) (cellsB d)).mono hb5.size)
  have HB9 := Aside0.mk (HB4.out.trans (hB9.mono HB4.out.size))
  have HX9 := Aside0.mk (HX4.out.below hB9)
  have HD9 := Aside0.mk hst.2
  obtain ⟨W9, hW9⟩ : ∃ x, x = (w5.alloc (.cells #[.int .u8 0, .int .u8 0, .int .u8 0, .int .u8 0] 30)).setRow w5.heap.size (cellsB d) := ⟨_, rfl⟩
  have HW9 := Aside0.mk hW9
  rw [← hW9] at HB9 HX9 HD9
  obtain ⟨D, hD⟩ : ∃ D, D = w5.heap.size := ⟨_, rfl⟩
  have HDe := Aside0.mk hD
  rw [← hD] at HD9
  have HDE := Aside0.mk hd
  have HF := Aside0.mk (show ∀ w', Below W9.heap.size W9 w' → (convert 22 9 (.slice (some ⟨D, 0, none⟩) 4 4)).run Tryd.prog w' = .ok (.string (strOfNums d)) w' ∧ (loadVar 30 ⟨D, 0, none⟩).run Tryd.prog w' = .ok (.agg (cellsB d)) w' ∧ (convert 22 9 (.slice A3 l.length c3)).run Tryd.prog w' = .ok (.string (strOfNums l)) w' ∧ (convert 22 9 (.slice A l.length c)).run Tryd.prog w' = .ok (.string (strOfNums l)) w' from fun w' hB => by
    have hg := (hB.block D (blk_lt HD9.out)).trans HD9.out
    exact ⟨txt_str (txt_pre (l := d) 4 4 hdl.symm (Nat.le_refl _) hg (fun j hj => cellsB_get d j hj) (by omega) hdb), load4 w' D d hdl hg, txt_str (HX9.out.below hB), txt_str (HT.out.below (HB9.out.trans (hB.mono HB9.out.size)))⟩)
  have HFF := Aside0.mk (fun w' (hB : Below W9.heap.size W9 w') => (⟨hB, HF.out w' hB⟩ : Below W9.heap.size W9 w' ∧ (convert 22 9 (.slice (some ⟨D, 0, none⟩) 4 4)).run Tryd.prog w' = .ok (.string (strOfNums d)) w' ∧ (loadVar 30 ⟨D, 0, none⟩).run Tryd.prog w' = .ok (.agg (cellsB d)) w' ∧ (convert 22 9 (.slice A3 l.length c3)).run Tryd.prog w' = .ok (.string (strOfNums l)) w' ∧ (convert 22 9 (.slice A l.length c)).run Tryd.prog w' = .ok (.string (strOfNums l)) w'))
  have hd9 := below_drew1 (Below.refl W9.heap.size W9)
  have HC7 := Aside0.mk (show Calls Tryd.prog 7 #[.slice (some ⟨W9.heap.size, 0, none⟩) 1 1] (W9.alloc (.cells #[.slice A3 l.length c3] 22)).drew (fun e w' => e = .returned (.int .u32 (s : Nat)) ∧ w' = (W9.alloc (.cells #[.slice A3 l.length c3] 22)).drew) from by
    have hA := below_drew1 (below_alloc (Below.refl W9.heap.size W9) (.cells #[.slice A3 l.length c3] 22))
    have h := sum1 (W := (W9.alloc (.cells #[.slice A3 l.length c3] 22)).drew) (tab_below HG.out (HB9.out.trans (hA.mono HB9.out.size))) (blk_drew (blk_new W9 (.cells #[.slice A3 l.length c3] 22))) (HX9.out.below hA)
    rw [← HS.out] at h
    exact h)
  have HGET := Aside0.mk (show ∀ W, Calls Tryd.prog 12 #[.agg (cellsB d)] W (fun e w' => e = .returned (.int .u32 (s : Nat)) ∧ Below W.heap.size W w') from fun W => by
    have h := get_calls W d hdl hdb
    rw [(num_p4 hdb hdl s hsl).2 hd] at h
    exact h)
  obtain ⟨cl, hcl⟩ : ∃ x, x = l ++ p4 s 4 := ⟨_, rfl⟩
  have HCB := Aside0.mk (show Bytes cl by rw [hcl]; exact fun x hx => (List.mem_append.1 hx).elim (l_by x) (p4_bytes _ _ x))
  have HCL := Aside0.mk (show cl.length ≤ 1048576 by rw [hcl, List.length_append, p4_len]; omega)
  have HC13 := Aside0.mk (show ∀ w', Below W9.heap.size W9 w' → Calls Tryd.prog 13 #[.slice A3 l.length c3] w' (fun e w2 => ∃ v, e = .returned v ∧ RB w2 w'.heap.size v cl ∧ Below w'.heap.size w' w2) from fun w' hB => by
    have h := close_calls w' (tab_below HG.out (HB9.out.trans (hB.mono HB9.out.size))) A3 c3 l (HX9.out.below hB) (by omega)
    rw [← HS.out, ← hcl] at h
    exact h)
  have HC14 := Aside0.mk (show ∀ w', Below W9.heap.size W9 w' → Calls Tryd.prog 14 #[.slice A l.length c] w' (fun e w2 => ∃ v, e = .returned v ∧ RB w2 w'.heap.size v cl ∧ Below w'.heap.size w' w2) from fun w' hB => by
    have h := rclose_q w' A c l (HT.out.below (HB9.out.trans (hB.mono HB9.out.size))) (by omega)
    rw [← HS.out, ← hcl] at h
    exact h)
  have HC15 := Aside0.mk (fun w' (hB : Below W9.heap.size W9 w') => fits_q w' (tab_below HG.out (HB9.out.trans (hB.mono HB9.out.size))) A3 c3 l (HX9.out.below hB))
  have HC16 := Aside0.mk (fun w' (hB : Below W9.heap.size W9 w') => rfits_q w' A c l (HT.out.below (HB9.out.trans (hB.mono HB9.out.size))) (by omega))
  clear hst hB9 hb5 hd hW9 hD hdl hdb hcl hd9 hsl
  go_wp2_with (first | (refine store_whole (s := .tmp 5) rfl rfl rfl rfl HST.out ?_))
  rw [← show W9 = (w5.alloc (.cells #[.int .u8 0, .int .u8 0, .int .u8 0, .int .u8 0] 30)).setRow w5.heap.size (cellsB d) from HW9.out, ← show D = w5.heap.size from HDe.out]
  clear HW9 HST HDe
  refine start_ (n := 43) (S := fun w' => Below W9.heap.size W9 w' ∧ (convert 22 9 (.slice (some ⟨D, 0, none⟩) 4 4)).run Tryd.prog w' = .ok (.string (strOfNums d)) w' ∧ (loadVar 30 ⟨D, 0, none⟩).run Tryd.prog w' = .ok (.agg (cellsB d)) w' ∧ (convert 22 9 (.slice A3 l.length c3)).run Tryd.prog w' = .ok (.string (strOfNums l)) w' ∧ (convert 22 9 (.slice A l.length c)).run Tryd.prog w' = .ok (.string (strOfNums l)) w') (ds := []) #[false, false, false, false, false, false, false, false, false, false, false, false, false, false, false, false, false, false, false, false, false, false, false, false, false, false, false, false, false, false, false, false, false, false, false, false, false, false, false, false, false, false, false] (by kernel_rfl) rfl rfl ⟨below_drew1 (Below.refl _ _), (HF.out _ (below_drew1 (Below.refl _ _))).1, (HF.out _ (below_drew1 (Below.refl _ _))).2.1, (HF.out _ (below_drew1 (Below.refl _ _))).2.2.1, (HF.out _ (below_drew1 (Below.refl _ _))).2.2.2⟩ (fun hHeld => ?_)
  refine pure_ (i := 0) (N := some 18) (v := ?_) (a' := ?_) #[true, false, false, false, false, false, false, false, false, false, false, false, false, false, false, false, false, false, false, false, false, false, false, false, false, false, false, false, false, false, false, false, false, false, false, false, false, false, false, false, false, false, false] rfl rfl (by kernel_rfl) (fun _ _ _ h => h) (Or.inl ⟨by rfl, ?_⟩) ?_ ?_
  rotate_left
  · intro w'
    go_simp
    with_reducible rfl
  rotate_left
  · simp only [Act.put, List.setIfInBounds_toArray, List.set_cons_zero, List.set_cons_succ, i64_w, i32_w]
    rfl
  refine pure_ (i := 3) (N := some 21) (v := ?_) (a' := ?_) #[true, false, false, true, false, false, false, false, false, false, false, false, false, false, false, false, false, false, false, false, false, false, false, false, false, false, false, false, false, false, false, false, false, false, false, false, false, false, false, false, false, false, false] rfl rfl (by kernel_rfl) (fun _ _ _ h => h) (Or.inl ⟨by rfl, ?_⟩) ?_ ?_
  rotate_left
  · intro w'
    go_simp
    with_reducible rfl
  rotate_left
  · simp only [Act.put, List.setIfInBounds_toArray, List.set_cons_zero, List.set_cons_succ, i64_w, i32_w]
    rfl
  refine one_ (i := 1) (N := some 19) #[true, true, false, true, false, false, false, false, false, false, false, false, false, false, false, false, false, false, false, false, false, false, false, false, false, false, false, false, false, false, false, false, false, false, false, false, false, false, false, false, false, false, false] rfl rfl (by kernel_rfl) (by decide) (fun K hK => ?_)
  refine value_ (w1 := ?_) (v := ?_) (by rfl) rfl ?_ ?_
  rotate_left 2
  · go_simp
    constructor
    · rfl
    · rfl
  refine hK.out _ _ ⟨below_alloc hHeld.1 _, (HF.out _ (below_alloc hHeld.1 _)).1, (HF.out _ (below_alloc hHeld.1 _)).2.1, (HF.out _ (below_alloc hHeld.1 _)).2.2.1, (HF.out _ (below_alloc hHeld.1 _)).2.2.2⟩ (fun hHeld => ?_)
  clear hK K
  refine norm_ (a' := ?_) ?_ ?_
  rotate_left
  · show Act.put _ (some 19) _ = _
    simp only [Act.put, List.setIfInBounds_toArray, List.set_cons_zero, List.set_cons_succ, i64_w, i32_w]
    rfl
  refine one_ (i := 2) (N := some 20) #[true, true, true, true, false, false, false, false, false, false, false, false, false, false, false, false, false, false, false, false, false, false, false, false, false, false, false, false, false, false, false, false, false, false, false, false, false, false, false, false, false, false, false] rfl rfl (by kernel_rfl) (by decide) (fun K hK => ?_)
  refine goes_ Tryd.func7 (by kernel_rfl) rfl #[.slice (some ⟨W9.heap.size, 0, none⟩) 1 1] (by rfl) rfl rfl (by first | rfl | (simp only [List.map_toArray, List.map_cons, List.map_nil]; rfl)) ?_
  with_reducible refine (HC7.out).mono ?_
  rintro e w10 ⟨rfl, rfl⟩
  refine ⟨_, rfl, ?_⟩
  refine hK.out _ _ ⟨hHeld.1, (HF.out _ (hHeld.1)).1, (HF.out _ (hHeld.1)).2.1, (HF.out _ (hHeld.1)).2.2.1, (HF.out _ (hHeld.1)).2.2.2⟩ (fun hHeld => ?_)
  clear hK K
  refine norm_ (a' := ?_) ?_ ?_
  rotate_left
  · show Act.put _ (some 20) _ = _
    simp only [Act.put, List.setIfInBounds_toArray, List.set_cons_zero, List.set_cons_succ, i64_w, i32_w]
    rfl
  refine pure_ (i := 4) (N := some 22) (v := ?_) (a' := ?_) #[true, true, true, true, true, false, false, false, false, false, false, false, false, false, false, false, false, false, false, false, false, false, false, false, false, false, false, false, false, false, false, false, false, false, false, false, false, false, false, false, false, false, false] rfl rfl (by kernel_rfl) (fun _ _ _ h => h) (Or.inl ⟨by rfl, ?_⟩) ?_ ?_
  rotate_left
  · intro w'
    go_simp
    with_reducible rfl
  rotate_left
  · simp only [Act.put, List.setIfInBounds_toArray, List.set_cons_zero, List.set_cons_succ, i64_w, i32_w]
    rfl
  refine pure_ (i := 5) (N := some 23) (v := ?_) (a' := ?_) #[true, true, true, true, true, true, false, false, false, false, false, false, false, false, false, false, false, false, false, false, false, false, false, false, false, false, false, false, false, false, false, false, false, false, false, false, false, false, false, false, false, false, false] rfl rfl (by kernel_rfl) (fun _ _ _ h => h) (Or.inl ⟨by rfl, ?_⟩) ?_ ?_
  rotate_left
  · intro w'
    go_simp
    with_reducible rfl
  rotate_left
  · simp only [Act.put, List.setIfInBounds_toArray, List.set_cons_zero, List.set_cons_succ, i64_w, i32_w]
    rfl
  refine pure_ (i := 6) (N := some 24) (v := ?_) (a' := ?_) #[true, true, true, true, true, true, true, false, false, false, false, false, false, false, false, false, false, false, false, false, false, false, false, false, false, false, false, false, false, false, false, false, false, false, false, false, false, false, false, false, false, false, false] rfl rfl (by kernel_rfl) (fun _ _ _ h => h) (Or.inl ⟨by rfl, ?_⟩) ?_ ?_
  rotate_left
  · intro w'
    go_simp
    with_reducible rfl
  rotate_left
  · simp only [Act.put, List.setIfInBounds_toArray, List.set_cons_zero, List.set_cons_succ, i64_w, i32_w]
    rfl
  refine pure_ (i := 8) (N := some 26) (v := ?_) (a' := ?_) #[true, true, true, true, true, true, true, false, true, false, false, false, false, false, false, false, false, false, false, false, false, false, false, false, false, false, false, false, false, false, false, false, false, false, false, false, false, false, false, false, false, false, false] rfl rfl (by kernel_rfl) (fun _ _ _ h => h) (Or.inl ⟨by rfl, ?_⟩) ?_ ?_
  rotate_left
  · intro w'
    go_simp
    with_reducible rfl
  rotate_left
  · simp only [Act.put, List.setIfInBounds_toArray, List.set_cons_zero, List.set_cons_succ, i64_w, i32_w]
    rfl
  refine take_ (i := 7) (N := some 25) (v := ?_) (a' := ?_) #[true, true, true, true, true, true, true, true, true, false, false, false, false, false, false, false, false, false, false, false, false, false, false, false, false, false, false, false, false, false, false, false, false, false, false, false, false, false, false, false, false, false, false] rfl rfl (by kernel_rfl) (fun _ _ _ h => h) (Or.inl ⟨by rfl, ?_⟩) hHeld ?_ ?_
  rotate_left
  · rintro w' ⟨s0, s1, s2, s3, s4⟩
    go_simp
    with_reducible rfl
  rotate_left
  · simp only [Act.put, List.setIfInBounds_toArray, List.set_cons_zero, List.set_cons_succ, i64_w, i32_w]
    rfl
  refine one_ (i := 9) (N := some 27) #[true, true, true, true, true, true, true, true, true, true, false, false, false, false, false, false, false, false, false, false, false, false, false, false, false, false, false, false, false, false, false, false, false, false, false, false, false, false, false, false, false, false, false] rfl rfl (by kernel_rfl) (by decide) (fun K hK => ?_)
  refine goes_ Tryd.func11 (by kernel_rfl) rfl #[.int .u32 (s : Nat)] (by rfl) rfl rfl (by first | rfl | (simp only [List.map_toArray, List.map_cons, List.map_nil]; rfl)) ?_
  with_reducible refine ((rbytes_q _ s HSL.out)).mono ?_
  rintro e w11 ⟨v11, rfl, hv11, hb11⟩
  have hB11 : Below W9.heap.size W9 w11 := hHeld.1.trans (hb11.mono hHeld.1.size)
  obtain ⟨A11, c11, rfl⟩ := Kd.R_slice hv11
  have hS11 := txt_str (Txt.of_RB hv11 (p4_bytes _ _) (by rw [p4_len]; decide))
  rw [← HDE.out] at hS11
  refine ⟨_, rfl, ?_⟩
  refine hK.out _ _ ⟨hB11, (HF.out _ (hB11)).1, (HF.out _ (hB11)).2.1, (HF.out _ (hB11)).2.2.1, (HF.out _ (hB11)).2.2.2⟩ (fun hHeld => ?_)
  clear hK K
  refine norm_ (a' := ?_) ?_ ?_
  rotate_left
  · show Act.put _ (some 27) _ = _
    simp only [Act.put, List.setIfInBounds_toArray, List.set_cons_zero, List.set_cons_succ, i64_w, i32_w]
    rfl
  refine one_ (i := 10) (N := some 28) #[true, true, true, true, true, true, true, true, true, true, true, false, false, false, false, false, false, false, false, false, false, false, false, false, false, false, false, false, false, false, false, false, false, false, false, false, false, false, false, false, false, false, false] rfl rfl (by kernel_rfl) (by decide) (fun K hK => ?_)
  refine value_ (v := .string (strOfNums d)) (by rfl) rfl (conv_run rfl rfl (by rw [HDE.out]; rw [HDE.out] at hS11; exact hS11)) ?_
  refine hK.out _ _ ⟨hB11, (HF.out _ (hB11)).1, (HF.out _ (hB11)).2.1, (HF.out _ (hB11)).2.2.1, (HF.out _ (hB11)).2.2.2⟩ (fun hHeld => ?_)
  clear hK K
  refine norm_ (a' := ?_) ?_ ?_
  rotate_left
  · show Act.put _ (some 28) _ = _
    simp only [Act.put, List.setIfInBounds_toArray, List.set_cons_zero, List.set_cons_succ, i64_w, i32_w]
    rfl
  refine pure_ (i := 11) (N := some 29) (v := ?_) (a' := ?_) #[true, true, true, true, true, true, true, true, true, true, true, true, false, false, false, false, false, false, false, false, false, false, false, false, false, false, false, false, false, false, false, false, false, false, false, false, false, false, false, false, false, false, false] rfl rfl (by kernel_rfl) (fun _ _ _ h => h) (Or.inl ⟨by rfl, ?_⟩) ?_ ?_
  rotate_left
  · intro w'
    go_simp
    with_reducible rfl
  rotate_left
  · simp only [Act.put, List.setIfInBounds_toArray, List.set_cons_zero, List.set_cons_succ, i64_w, i32_w]
    rfl
  refine pure_ (i := 12) (N := some 30) (v := ?_) (a' := ?_) #[true, true, true, true, true, true, true, true, true, true, true, true, true, false, false, false, false, false, false, false, false, false, false, false, false, false, false, false, false, false, false, false, false, false, false, false, false, false, false, false, false, false, false] rfl rfl (by kernel_rfl) (fun _ _ _ h => h) (Or.inl ⟨by rfl, ?_⟩) ?_ ?_
  rotate_left
  · intro w'
    go_simp
    with_reducible rfl
  rotate_left
  · simp only [Act.put, List.setIfInBounds_toArray, List.set_cons_zero, List.set_cons_succ, i64_w, i32_w]
    rfl
  refine pure_ (i := 13) (N := some 31) (v := ?_) (a' := ?_) #[true, true, true, true, true, true, true, true, true, true, true, true, true, true, false, false, false, false, false, false, false, false, false, false, false, false, false, false, false, false, false, false, false, false, false, false, false, false, false, false, false, false, false] rfl rfl (by kernel_rfl) (fun _ _ _ h => h) (Or.inl ⟨by rfl, ?_⟩) ?_ ?_
  rotate_left
  · intro w'
    go_simp
    with_reducible rfl
  rotate_left
  · simp only [Act.put, List.setIfInBounds_toArray, List.set_cons_zero, List.set_cons_succ, i64_w, i32_w]
    rfl
  refine pure_ (i := 16) (N := some 34) (v := ?_) (a' := ?_) #[true, true, true, true, true, true, true, true, true, true, true, true, true, true, false, false, true, false, false, false, false, false, false, false, false, false, false, false, false, false, false, false, false, false, false, false, false, false, false, false, false, false, false] rfl rfl (by kernel_rfl) (fun _ _ _ h => h) (Or.inl ⟨by rfl, ?_⟩) ?_ ?_
  rotate_left
  · intro w'
    go_simp
    with_reducible rfl
  rotate_left
  · simp only [Act.put, List.setIfInBounds_toArray, List.set_cons_zero, List.set_cons_succ, i64_w, i32_w]
    rfl
  refine take_ (i := 14) (N := some 32) (v := ?_) (a' := ?_) #[true, true, true, true, true, true, true, true, true, true, true, true, true, true, true, false, true, false, false, false, false, false, false, false, false, false, false, false, false, false, false, false, false, false, false, false, false, false, false, false, false, false, false] rfl rfl (by kernel_rfl) (fun _ _ _ h => h) (Or.inl ⟨by rfl, ?_⟩) hHeld ?_ ?_
  rotate_left
  · rintro w' ⟨s0, s1, s2, s3, s4⟩
    refine (load_run rfl rfl s2).trans ?_
    with_reducible rfl
  rotate_left
  · simp only [Act.put, List.setIfInBounds_toArray, List.set_cons_zero, List.set_cons_succ, i64_w, i32_w]
    rfl
  refine one_ (i := 15) (N := some 33) #[true, true, true, true, true, true, true, true, true, true, true, true, true, true, true, true, true, false, false, false, false, false, false, false, false, false, false, false, false, false, false, false, false, false, false, false, false, false, false, false, false, false, false] rfl rfl (by kernel_rfl) (by decide) (fun K hK => ?_)
  refine goes_ Tryd.func12 (by kernel_rfl) rfl #[.agg (cellsB d)] (by rfl) rfl rfl (by first | rfl | (simp only [List.map_toArray, List.map_cons, List.map_nil]; rfl)) ?_
  with_reducible refine (HGET.out _).mono ?_
  rintro e w12 ⟨rfl, hb12⟩
  have hB12 : Below W9.heap.size W9 w12 := hB11.trans (hb12.mono hB11.size)
  refine ⟨_, rfl, ?_⟩
  refine hK.out _ _ ⟨hB12, (HF.out _ (hB12)).1, (HF.out _ (hB12)).2.1, (HF.out _ (hB12)).2.2.1, (HF.out _ (hB12)).2.2.2⟩ (fun hHeld => ?_)
  clear hK K
  refine norm_ (a' := ?_) ?_ ?_
  rotate_left
  · show Act.put _ (some 33) _ = _
    simp only [Act.put, List.setIfInBounds_toArray, List.set_cons_zero, List.set_cons_succ, i64_w, i32_w]
    rfl
  refine pure_ (i := 17) (N := some 35) (v := ?_) (a' := ?_) #[true, true, true, true, true, true, true, true, true, true, true, true, true, true, true, true, true, true, false, false, false, false, false, false, false, false, false, false, false, false, false, false, false, false, false, false, false, false, false, false, false, false, false] rfl rfl (by kernel_rfl) (fun _ _ _ h => h) (Or.inl ⟨by rfl, ?_⟩) ?_ ?_
  rotate_left
  · intro w'
    go_simp
    with_reducible rfl
  rotate_left
  · simp only [Act.put, List.setIfInBounds_toArray, List.set_cons_zero, List.set_cons_succ, i64_w, i32_w]
    rfl
  refine pure_ (i := 18) (N := some 36) (v := ?_) (a' := ?_) #[true, true, true, true, true, true, true, true, true, true, true, true, true, true, true, true, true, true, true, false, false, false, false, false, false, false, false, false, false, false, false, false, false, false, false, false, false, false, false, false, false, false, false] rfl rfl (by kernel_rfl) (fun _ _ _ h => h) (Or.inl ⟨by rfl, ?_⟩) ?_ ?_
  rotate_left
  · intro w'
    go_simp
    with_reducible rfl
  rotate_left
  · simp only [Act.put, List.setIfInBounds_toArray, List.set_cons_zero, List.set_cons_succ, i64_w, i32_w]
    rfl
  refine pure_ (i := 19) (N := some 37) (v := ?_) (a' := ?_) #[true, true, true, true, true, true, true, true, true, true, true, true, true, true, true, true, true, true, true, true, false, false, false, false, false, false, false, false, false, false, false, false, false, false, false, false, false, false, false, false, false, false, false] rfl rfl (by kernel_rfl) (fun _ _ _ h => h) (Or.inl ⟨by rfl, ?_⟩) ?_ ?_
  rotate_left
  · intro w'
    go_simp
    with_reducible rfl
  rotate_left
  · simp only [Act.put, List.setIfInBounds_toArray, List.set_cons_zero, List.set_cons_succ, i64_w, i32_w]
    rfl
  refine pure_ (i := 20) (N := some 38) (v := ?_) (a' := ?_) #[true, true, true, true, true, true, true, true, true, true, true, true, true, true, true, true, true, true, true, true, true, false, false, false, false, false, false, false, false, false, false, false, false, false, false, false, false, false, false, false, false, false, false] rfl rfl (by kernel_rfl) (fun _ _ _ h => h) (Or.inl ⟨by rfl, ?_⟩) ?_ ?_
  rotate_left
  · intro w'
    go_simp
    with_reducible rfl
  rotate_left
  · simp only [Act.put, List.setIfInBounds_toArray, List.set_cons_zero, List.set_cons_succ, i64_w, i32_w]
    rfl
  refine pure_ (i := 23) (N := some 41) (v := ?_) (a' := ?_) #[true, true, true, true, true, true, true, true, true, true, true, true, true, true, true, true, true, true, true, true, true, false, false, true, false, false, false, false, false, false, false, false, false, false, false, false, false, false, false, false, false, false, false] rfl rfl (by kernel_rfl) (fun _ _ _ h => h) (Or.inl ⟨by rfl, ?_⟩) ?_ ?_
  rotate_left
  · intro w'
    go_simp
    with_reducible rfl
  rotate_left
  · simp only [Act.put, List.setIfInBounds_toArray, List.set_cons_zero, List.set_cons_succ, i64_w, i32_w]
    rfl
  refine one_ (i := 21) (N := some 39) #[true, true, true, true, true, true, true, true, true, true, true, true, true, true, true, true, true, true, true, true, true, true, false, true, false, false, false, false, false, false, false, false, false, false, false, false, false, false, false, false, false, false, false] rfl rfl (by kernel_rfl) (by decide) (fun K hK => ?_)
  refine goes_ Tryd.func13 (by kernel_rfl) rfl #[.slice A3 l.length c3] (by rfl) rfl rfl (by first | rfl | (simp only [List.map_toArray, List.map_cons, List.map_nil]; rfl)) ?_
  with_reducible refine (HC13.out _ hB12).mono ?_
  rintro e w13 ⟨v13, rfl, hv13, hb13⟩
  have hB13 : Below W9.heap.size W9 w13 := hB12.trans (hb13.mono hB12.size)
  obtain ⟨A13, c13, rfl⟩ := Kd.R_slice hv13
  have hX13 := Txt.of_RB hv13 HCB.out HCL.out
  refine ⟨_, rfl, ?_⟩
  refine hK.out _ _ ⟨hB13, (HF.out _ (hB13)).1, (HF.out _ (hB13)).2.1, (HF.out _ (hB13)).2.2.1, (HF.out _ (hB13)).2.2.2⟩ (fun hHeld => ?_)
  clear hK K
  refine norm_ (a' := ?_) ?_ ?_
  rotate_left
  · show Act.put _ (some 39) _ = _
    simp only [Act.put, List.setIfInBounds_toArray, List.set_cons_zero, List.set_cons_succ, i64_w, i32_w]
    rfl
  refine join_ (σ := Value) 17 #[true, true, true, true, true, true, true, true, true, true, true, true, true, true, true, true, true, true, true, true, true, true, true, true, true, true, false, false, false, false, false, false, false, false, false, false, false, false, false, false, false, false, false] (fun s => [(40, .string (strOfNums cl)), (42, s), (43, .string (strOfNums cl))]) (fun s w' => Below W9.heap.size W9 w') ?_ ?_
  rotate_left
  · intro hCont
    refine two_ (i := 22) (j := 24) (Ni := some 40) (Nj := some 42) #[true, true, true, true, true, true, true, true, true, true, true, true, true, true, true, true, true, true, true, true, true, true, true, true, false, false, false, false, false, false, false, false, false, false, false, false, false, false, false, false, false, false, false] #[true, true, true, true, true, true, true, true, true, true, true, true, true, true, true, true, true, true, true, true, true, true, false, true, true, false, false, false, false, false, false, false, false, false, false, false, false, false, false, false, false, false, false] rfl rfl rfl rfl (by kernel_rfl) (by decide) (by decide) (fun K hK => ?_) (fun K hK => ?_)
    · skip
      refine value_ (v := .string (strOfNums cl)) (by rfl) rfl (conv_run rfl rfl (txt_str hX13)) ?_
      refine hK.out _ _ ⟨hB13, (HF.out _ (hB13)).1, (HF.out _ (hB13)).2.1, (HF.out _ (hB13)).2.2.1, (HF.out _ (hB13)).2.2.2⟩ (fun hHeld => ?_)
      clear hK K
      refine norm_ (a' := ?_) ?_ ?_
      rotate_left
      · show Act.put _ (some 40) _ = _
        simp only [Act.put, List.setIfInBounds_toArray, List.set_cons_zero, List.set_cons_succ, i64_w, i32_w]
        rfl
      refine one_ (i := 24) (N := some 42) #[true, true, true, true, true, true, true, true, true, true, true, true, true, true, true, true, true, true, true, true, true, true, true, true, true, false, false, false, false, false, false, false, false, false, false, false, false, false, false, false, false, false, false] rfl rfl (by kernel_rfl) (by decide) (fun K hK => ?_)
      refine goes_ Tryd.func14 (by kernel_rfl) rfl #[.slice A l.length c] (by rfl) rfl rfl (by first | rfl | (simp only [List.map_toArray, List.map_cons, List.map_nil]; rfl)) ?_
      with_reducible refine (HC14.out _ hB13).mono ?_
      rintro e w14 ⟨v14, rfl, hv14, hb14⟩
      have hB14 : Below W9.heap.size W9 w14 := hB13.trans (hb14.mono hB13.size)
      obtain ⟨A14, c14, rfl⟩ := Kd.R_slice hv14
      have hS14 := txt_str (Txt.of_RB hv14 HCB.out HCL.out)
      refine ⟨_, rfl, ?_⟩
      refine hK.out _ _ ⟨hB14, (HF.out _ (hB14)).1, (HF.out _ (hB14)).2.1, (HF.out _ (hB14)).2.2.1, (HF.out _ (hB14)).2.2.2⟩ (fun hHeld => ?_)
      clear hK K
      refine norm_ (a' := ?_) ?_ ?_
      rotate_left
      · show Act.put _ (some 42) _ = _
        simp only [Act.put, List.setIfInBounds_toArray, List.set_cons_zero, List.set_cons_succ, i64_w, i32_w]
        rfl
      refine one_ (i := 25) (N := some 43) #[true, true, true, true, true, true, true, true, true, true, true, true, true, true, true, true, true, true, true, true, true, true, true, true, true, true, false, false, false, false, false, false, false, false, false, false, false, false, false, false, false, false, false] rfl rfl (by kernel_rfl) (by decide) (fun K hK => ?_)
      refine value_ (v := .string (strOfNums cl)) (by rfl) rfl (conv_run rfl rfl hS14) ?_
      refine hK.out _ _ ⟨hB14, (HF.out _ (hB14)).1, (HF.out _ (hB14)).2.1, (HF.out _ (hB14)).2.2.1, (HF.out _ (hB14)).2.2.2⟩ (fun hHeld => ?_)
      clear hK K
      refine norm_ (a' := ?_) ?_ ?_
      rotate_left
      · show Act.put _ (some 43) _ = _
        simp only [Act.put, List.setIfInBounds_toArray, List.set_cons_zero, List.set_cons_succ, i64_w, i32_w]
        rfl
      exact norm_ (by simp only [putAll, Act.put, List.setIfInBounds_toArray, List.set_cons_zero, List.set_cons_succ]) (hCont (.slice A14 cl.length c14) _ hB14)
    · skip
      refine goes_ Tryd.func14 (by kernel_rfl) rfl #[.slice A l.length c] (by rfl) rfl rfl (by first | rfl | (simp only [List.map_toArray, List.map_cons, List.map_nil]; rfl)) ?_
      with_reducible refine (HC14.out _ hB13).mono ?_
      rintro e w14 ⟨v14, rfl, hv14, hb14⟩
      have hB14 : Below W9.heap.size W9 w14 := hB13.trans (hb14.mono hB13.size)
      obtain ⟨A14, c14, rfl⟩ := Kd.R_slice hv14
      have hS14 := txt_str (Txt.of_RB hv14 HCB.out HCL.out)
      refine ⟨_, rfl, ?_⟩
      refine hK.out _ _ ⟨hB14, (HF.out _ (hB14)).1, (HF.out _ (hB14)).2.1, (HF.out _ (hB14)).2.2.1, (HF.out _ (hB14)).2.2.2⟩ (fun hHeld => ?_)
      clear hK K
      refine norm_ (a' := ?_) ?_ ?_
      rotate_left
      · show Act.put _ (some 42) _ = _
        simp only [Act.put, List.setIfInBounds_toArray, List.set_cons_zero, List.set_cons_succ, i64_w, i32_w]
        rfl
      refine two_ (i := 22) (j := 25) (Ni := some 40) (Nj := some 43) #[true, true, true, true, true, true, true, true, true, true, true, true, true, true, true, true, true, true, true, true, true, true, true, true, true, false, false, false, false, false, false, false, false, false, false, false, false, false, false, false, false, false, false] #[true, true, true, true, true, true, true, true, true, true, true, true, true, true, true, true, true, true, true, true, true, true, false, true, true, true, false, false, false, false, false, false, false, false, false, false, false, false, false, false, false, false, false] rfl rfl rfl rfl (by kernel_rfl) (by decide) (by decide) (fun K hK => ?_) (fun K hK => ?_)
      · skip
        refine value_ (v := .string (strOfNums cl)) (by rfl) rfl (conv_run rfl rfl (txt_str (hX13.below hb14))) ?_
        refine hK.out _ _ ⟨hB14, (HF.out _ (hB14)).1, (HF.out _ (hB14)).2.1, (HF.out _ (hB14)).2.2.1, (HF.out _ (hB14)).2.2.2⟩ (fun hHeld => ?_)
        clear hK K
        refine norm_ (a' := ?_) ?_ ?_
        rotate_left
        · show Act.put _ (some 40) _ = _
          simp only [Act.put, List.setIfInBounds_toArray, List.set_cons_zero, List.set_cons_succ, i64_w, i32_w]
          rfl
        refine one_ (i := 25) (N := some 43) #[true, true, true, true, true, true, true, true, true, true, true, true, true, true, true, true, true, true, true, true, true, true, true, true, true, true, false, false, false, false, false, false, false, false, false, false, false, false, false, false, false, false, false] rfl rfl (by kernel_rfl) (by decide) (fun K hK => ?_)
        refine value_ (v := .string (strOfNums cl)) (by rfl) rfl (conv_run rfl rfl hS14) ?_
        refine hK.out _ _ ⟨hB14, (HF.out _ (hB14)).1, (HF.out _ (hB14)).2.1, (HF.out _ (hB14)).2.2.1, (HF.out _ (hB14)).2.2.2⟩ (fun hHeld => ?_)
        clear hK K
        refine norm_ (a' := ?_) ?_ ?_
        rotate_left
        · show Act.put _ (some 43) _ = _
          simp only [Act.put, List.setIfInBounds_toArray, List.set_cons_zero, List.set_cons_succ, i64_w, i32_w]
          rfl
        exact norm_ (by simp only [putAll, Act.put, List.setIfInBounds_toArray, List.set_cons_zero, List.set_cons_succ]) (hCont (.slice A14 cl.length c14) _ hB14)
      · skip
        refine value_ (v := .string (strOfNums cl)) (by rfl) rfl (conv_run rfl rfl hS14) ?_
        refine hK.out _ _ ⟨hB14, (HF.out _ (hB14)).1, (HF.out _ (hB14)).2.1, (HF.out _ (hB14)).2.2.1, (HF.out _ (hB14)).2.2.2⟩ (fun hHeld => ?_)
        clear hK K
        refine norm_ (a' := ?_) ?_ ?_
        rotate_left
        · show Act.put _ (some 43) _ = _
          simp only [Act.put, List.setIfInBounds_toArray, List.set_cons_zero, List.set_cons_succ, i64_w, i32_w]
          rfl
        refine one_ (i := 22) (N := some 40) #[true, true, true, true, true, true, true, true, true, true, true, true, true, true, true, true, true, true, true, true, true, true, true, true, true, true, false, false, false, false, false, false, false, false, false, false, false, false, false, false, false, false, false] rfl rfl (by kernel_rfl) (by decide) (fun K hK => ?_)
        refine value_ (v := .string (strOfNums cl)) (by rfl) rfl (conv_run rfl rfl (txt_str (hX13.below hb14))) ?_
        refine hK.out _ _ ⟨hB14, (HF.out _ (hB14)).1, (HF.out _ (hB14)).2.1, (HF.out _ (hB14)).2.2.1, (HF.out _ (hB14)).2.2.2⟩ (fun hHeld => ?_)
        clear hK K
        refine norm_ (a' := ?_) ?_ ?_
        rotate_left
        · show Act.put _ (some 40) _ = _
          simp only [Act.put, List.setIfInBounds_toArray, List.set_cons_zero, List.set_cons_succ, i64_w, i32_w]
          rfl
        exact norm_ (by simp only [putAll, Act.put, List.setIfInBounds_toArray, List.set_cons_zero, List.set_cons_succ]) (hCont (.slice A14 cl.length c14) _ hB14)
  rintro s14 w15 hB15
  have hHeld := HFF.out w15 hB15
  refine norm_ (a' := ?_) ?_ ?_
  rotate_left
  · simp only [putAll, Act.put, List.setIfInBounds_toArray, List.set_cons_zero, List.set_cons_succ]
    rfl
  refine pure_ (i := 26) (N := some 44) (v := ?_) (a' := ?_) #[true, true, true, true, true, true, true, true, true, true, true, true, true, true, true, true, true, true, true, true, true, true, true, true, true, true, true, false, false, false, false, false, false, false, false, false, false, false, false, false, false, false, false] rfl rfl (by kernel_rfl) (fun _ _ _ h => h) (Or.inl ⟨by rfl, ?_⟩) ?_ ?_
  rotate_left
  · intro w'
    go_simp
    with_reducible rfl
  rotate_left
  · simp only [Act.put, List.setIfInBounds_toArray, List.set_cons_zero, List.set_cons_succ, i64_w, i32_w]
    rfl
  refine pure_ (i := 27) (N := some 45) (v := ?_) (a' := ?_) #[true, true, true, true, true, true, true, true, true, true, true, true, true, true, true, true, true, true, true, true, true, true, true, true, true, true, true, true, false, false, false, false, false, false, false, false, false, false, false, false, false, false, false] rfl rfl (by kernel_rfl) (fun _ _ _ h => h) (Or.inl ⟨by rfl, ?_⟩) ?_ ?_
  rotate_left
  · intro w'
    go_simp
    with_reducible rfl
  rotate_left
  · simp only [Act.put, List.setIfInBounds_toArray, List.set_cons_zero, List.set_cons_succ, i64_w, i32_w]
    rfl
  refine pure_ (i := 28) (N := some 46) (v := ?_) (a' := ?_) #[true, true, true, true, true, true, true, true, true, true, true, true, true, true, true, true, true, true, true, true, true, true, true, true, true, true, true, true, true, false, false, false, false, false, false, false, false, false, false, false, false, false, false] rfl rfl (by kernel_rfl) (fun _ _ _ h => h) (Or.inl ⟨by rfl, ?_⟩) ?_ ?_
  rotate_left
  · intro w'
    go_simp
    with_reducible rfl
  rotate_left
  · simp only [Act.put, List.setIfInBounds_toArray, List.set_cons_zero, List.set_cons_succ, i64_w, i32_w]
    rfl
  refine pure_ (i := 29) (N := some 47) (v := ?_) (a' := ?_) #[true, true, true, true, true, true, true, true, true, true, true, true, true, true, true, true, true, true, true, true, true, true, true, true, true, true, true, true, true, true, false, false, false, false, false, false, false, false, false, false, false, false, false] rfl rfl (by kernel_rfl) (fun _ _ _ h => h) (Or.inl ⟨by rfl, ?_⟩) ?_ ?_
  rotate_left
  · intro w'
    go_simp
    with_reducible rfl
  rotate_left
  · simp only [Act.put, List.setIfInBounds_toArray, List.set_cons_zero, List.set_cons_succ, i64_w, i32_w]
    rfl
  refine pure_ (i := 31) (N := some 49) (v := ?_) (a' := ?_) #[true, true, true, true, true, true, true, true, true, true, true, true, true, true, true, true, true, true, true, true, true, true, true, true, true, true, true, true, true, true, false, true, false, false, false, false, false, false, false, false, false, false, false] rfl rfl (by kernel_rfl) (fun _ _ _ h => h) (Or.inl ⟨by rfl, ?_⟩) ?_ ?_
  rotate_left
  · intro w'
    go_simp
    with_reducible rfl
  rotate_left
  · simp only [Act.put, List.setIfInBounds_toArray, List.set_cons_zero, List.set_cons_succ, i64_w, i32_w]
    rfl
  refine one_ (i := 30) (N := some 48) #[true, true, true, true, true, true, true, true, true, true, true, true, true, true, true, true, true, true, true, true, true, true, true, true, true, true, true, true, true, true, true, true, false, false, false, false, false, false, false, false, false, false, false] rfl rfl (by kernel_rfl) (by decide) (fun K hK => ?_)
  refine goes_ Tryd.func15 (by kernel_rfl) rfl #[.slice A3 l.length c3] (by rfl) rfl rfl (by first | rfl | (simp only [List.map_toArray, List.map_cons, List.map_nil]; rfl)) ?_
  with_reducible refine (HC15.out _ hB15).mono ?_
  rintro e w16 ⟨rfl, hb16⟩
  have hB16 : Below W9.heap.size W9 w16 := hB15.trans (hb16.mono hB15.size)
  refine ⟨_, rfl, ?_⟩
  refine hK.out _ _ ⟨hB16, (HF.out _ (hB16)).1, (HF.out _ (hB16)).2.1, (HF.out _ (hB16)).2.2.1, (HF.out _ (hB16)).2.2.2⟩ (fun hHeld => ?_)
  clear hK K
  refine norm_ (a' := ?_) ?_ ?_
  rotate_left
  · show Act.put _ (some 48) _ = _
    simp only [Act.put, List.setIfInBounds_toArray, List.set_cons_zero, List.set_cons_succ, i64_w, i32_w]
    rfl
  refine one_ (i := 32) (N := some 50) #[true, true, true, true, true, true, true, true, true, true, true, true, true, true, true, true, true, true, true, true, true, true, true, true, true, true, true, true, true, true, true, true, true, false, false, false, false, false, false, false, false, false, false] rfl rfl (by kernel_rfl) (by decide) (fun K hK => ?_)
  refine goes_ Tryd.func16 (by kernel_rfl) rfl #[.slice A l.length c] (by rfl) rfl rfl (by first | rfl | (simp only [List.map_toArray, List.map_cons, List.map_nil]; rfl)) ?_
  with_reducible refine (HC16.out _ hB16).mono ?_
  rintro e w17 ⟨rfl, hb17⟩
  have hB17 : Below W9.heap.size W9 w17 := hB16.trans (hb17.mono hB16.size)
  refine ⟨_, rfl, ?_⟩
  refine hK.out _ _ ⟨hB17, (HF.out _ (hB17)).1, (HF.out _ (hB17)).2.1, (HF.out _ (hB17)).2.2.1, (HF.out _ (hB17)).2.2.2⟩ (fun hHeld => ?_)
  clear hK K
  refine norm_ (a' := ?_) ?_ ?_
  rotate_left
  · show Act.put _ (some 50) _ = _
    simp only [Act.put, List.setIfInBounds_toArray, List.set_cons_zero, List.set_cons_succ, i64_w, i32_w]
    rfl
  refine pure_ (i := 33) (N := some 51) (v := ?_) (a' := ?_) #[true, true, true, true, true, true, true, true, true, true, true, true, true, true, true, true, true, true, true, true, true, true, true, true, true, true, true, true, true, true, true, true, true, true, false, false, false, false, false, false, false, false, false] rfl rfl (by kernel_rfl) (fun _ _ _ h => h) (Or.inl ⟨by rfl, ?_⟩) ?_ ?_
  rotate_left
  · intro w'
    go_simp
    with_reducible rfl
  rotate_left
  · simp only [Act.put, List.setIfInBounds_toArray, List.set_cons_zero, List.set_cons_succ, i64_w, i32_w]
    rfl
  refine pure_ (i := 34) (N := some 52) (v := ?_) (a' := ?_) #[true, true, true, true, true, true, true, true, true, true, true, true, true, true, true, true, true, true, true, true, true, true, true, true, true, true, true, true, true, true, true, true, true, true, true, false, false, false, false, false, false, false, false] rfl rfl (by kernel_rfl) (fun _ _ _ h => h) (Or.inl ⟨by rfl, ?_⟩) ?_ ?_
  rotate_left
  · intro w'
    go_simp
    with_reducible rfl
  rotate_left
  · simp only [Act.put, List.setIfInBounds_toArray, List.set_cons_zero, List.set_cons_succ, i64_w, i32_w]
    rfl
  refine pure_ (i := 35) (N := some 53) (v := ?_) (a' := ?_) #[true, true, true, true, true, true, true, true, true, true, true, true, true, true, true, true, true, true, true, true, true, true, true, true, true, true, true, true, true, true, true, true, true, true, true, true, false, false, false, false, false, false, false] rfl rfl (by kernel_rfl) (fun _ _ _ h => h) (Or.inl ⟨by rfl, ?_⟩) ?_ ?_
  rotate_left
  · intro w'
    go_simp
    with_reducible rfl
  rotate_left
  · simp only [Act.put, List.setIfInBounds_toArray, List.set_cons_zero, List.set_cons_succ, i64_w, i32_w]
    rfl
  refine pure_ (i := 36) (N := some 54) (v := ?_) (a' := ?_) #[true, true, true, true, true, true, true, true, true, true, true, true, true, true, true, true, true, true, true, true, true, true, true, true, true, true, true, true, true, true, true, true, true, true, true, true, true, false, false, false, false, false, false] rfl rfl (by kernel_rfl) (fun _ _ _ h => h) (Or.inl ⟨by rfl, ?_⟩) ?_ ?_
  rotate_left
  · intro w'
    go_simp
    with_reducible rfl
  rotate_left
  · simp only [Act.put, List.setIfInBounds_toArray, List.set_cons_zero, List.set_cons_succ, i64_w, i32_w]
    rfl
  refine pure_ (i := 38) (N := some 56) (v := ?_) (a' := ?_) #[true, true, true, true, true, true, true, true, true, true, true, true, true, true, true, true, true, true, true, true, true, true, true, true, true, true, true, true, true, true, true, true, true, true, true, true, true, false, true, false, false, false, false] rfl rfl (by kernel_rfl) (fun _ _ _ h => h) (Or.inl ⟨by rfl, ?_⟩) ?_ ?_
  rotate_left
  · intro w'
    go_simp
    with_reducible rfl
  rotate_left
  · simp only [Act.put, List.setIfInBounds_toArray, List.set_cons_zero, List.set_cons_succ, i64_w, i32_w]
    rfl
  refine take_ (i := 37) (N := some 55) (v := ?_) (a' := ?_) #[true, true, true, true, true, true, true, true, true, true, true, true, true, true, true, true, true, true, true, true, true, true, true, true, true, true, true, true, true, true, true, true, true, true, true, true, true, true, true, false, false, false, false] rfl rfl (by kernel_rfl) (fun _ _ _ h => h) (Or.inl ⟨by rfl, ?_⟩) hHeld ?_ ?_
  rotate_left
  · rintro w' ⟨s0, s1, s2, s3, s4⟩
    go_simp
    with_reducible rfl
  rotate_left
  · simp only [Act.put, List.setIfInBounds_toArray, List.set_cons_zero, List.set_cons_succ, i64_w, i32_w]
    rfl
  refine take_ (i := 39) (N := some 57) (v := ?_) (a' := ?_) #[true, true, true, true, true, true, true, true, true, true, true, true, true, true, true, true, true, true, true, true, true, true, true, true, true, true, true, true, true, true, true, true, true, true, true, true, true, true, true, true, false, false, false] rfl rfl (by kernel_rfl) (fun _ _ _ h => h) (Or.inl ⟨by rfl, ?_⟩) hHeld ?_ ?_
  rotate_left
  · rintro w' ⟨s0, s1, s2, s3, s4⟩
    go_simp
    with_reducible rfl
  rotate_left
  · simp only [Act.put, List.setIfInBounds_toArray, List.set_cons_zero, List.set_cons_succ, i64_w, i32_w]
    rfl
  refine pure_ (i := 40) (N := some 58) (v := ?_) (a' := ?_) #[true, true, true, true, true, true, true, true, true, true, true, true, true, true, true, true, true, true, true, true, true, true, true, true, true, true, true, true, true, true, true, true, true, true, true, true, true, true, true, true, true, false, false] rfl rfl (by kernel_rfl) (fun _ _ _ h => h) (Or.inl ⟨by rfl, ?_⟩) ?_ ?_
  rotate_left
  · intro w'
    go_simp
    with_reducible rfl
  rotate_left
  · simp only [Act.put, List.setIfInBounds_toArray, List.set_cons_zero, List.set_cons_succ, i64_w, i32_w]
    rfl
  refine pure_ (i := 41) (N := some 59) (v := ?_) (a' := ?_) #[true, true, true, true, true, true, true, true, true, true, true, true, true, true, true, true, true, true, true, true, true, true, true, true, true, true, true, true, true, true, true, true, true, true, true, true, true, true, true, true, true, true, false] rfl rfl (by kernel_rfl) (fun _ _ _ h => h) (Or.inl ⟨by rfl, ?_⟩) ?_ ?_
  rotate_left
  · intro w'
    go_simp
    with_reducible rfl
  rotate_left
  · simp only [Act.put, List.setIfInBounds_toArray, List.set_cons_zero, List.set_cons_succ, i64_w, i32_w]
    rfl
  refine pure_ (i := 42) (N := some 2) (v := ?_) (a' := ?_) #[true, true, true, true, true, true, true, true, true, true, true, true, true, true, true, true, true, true, true, true, true, true, true, true, true, true, true, true, true, true, true, true, true, true, true, true, true, true, true, true, true, true, true] rfl rfl (by kernel_rfl) (fun _ _ _ h => h) (Or.inl ⟨by rfl, ?_⟩) ?_ ?_
  rotate_left
  · intro w'
    go_simp
    with_reducible rfl
  rotate_left
  · simp only [Act.put, List.setIfInBounds_toArray, List.set_cons_zero, List.set_cons_succ, i64_w, i32_w]
    rfl
  refine done_ (by kernel_rfl) ?_
  go_wp2_with fail
  go_ret
  exact ⟨rfl, HB9.out.trans (hHeld.1.mono HB9.out.size)⟩
theorem crcSums_long (w : World) (hg : Tab w) (A : Option Addr) (c : Nat) (l : List Int) (h : 20000 < l.length) : Calls Tryd.prog 4 #[.slice A l.length c] w (Yes w) := by
  have HA := Aside0.mk (alive_calls w hg)
  have n0 : decide ((20000 : Int) < (l.length : Int)) = true := by simp; omega
  clear hg
  go_enter Tryd.func4, Tryd.ntmps4
  go_wp2_with fail
  refine HA.out.mono ?_
  rintro e w1 ⟨rfl, hb⟩
  have HB := Aside0.mk hb
  clear hb
  go_wp2_with fail
  go_ret
  exact ⟨rfl, HB.out⟩
theorem crcSums_walk (W : World) (A0 : Option Addr) (c0 : Nat) (l0 : (List Int)) (hc0 : l0.length ≤ c0) (hr0 : Kd.C (Kd.int .u8) W A0 l0.length l0) (w0 : (∀ zl0 ∈ l0, (Lit.int .u8 zl0).wf = true)) (hL : laidMetH Tryd.prog [("weftline/crc.halves", Rows.laid_weftline_crc_halves)] W) :
    Calls Tryd.prog 4 #[.slice A0 l0.length c0] W fun e w' => e = .returned (.bool true) ∧ Below W.heap.size W w' := by
  have hg := tab_of_laid hL
  by_cases h : 20000 < l0.length
  · exact crcSums_long W hg A0 c0 l0 h
  · exact crcSums_main W hg A0 c0 l0 ⟨A0, c0, rfl, hc0, hr0, bytes_of_wf w0, by omega⟩ (by omega)
end Go.Proofs.YthflkloghbhhgaaDoor.Cr
