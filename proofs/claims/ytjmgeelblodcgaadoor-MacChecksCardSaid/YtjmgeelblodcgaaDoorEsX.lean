import Derived.Test.YtjmgeelblodcgaaDoorEsV
/- The walk of MacKeys. (Printed by tools/genEsX.py.) -/
namespace Go.Proofs.YtjmgeelblodcgaaDoor.Sx
open Go.RowKit Go.Proofs.YtjmgeelblodcgaaDoorW.PrintWords Go.Proofs.YtjmgeelblodcgaaDoorW.PrintLast Go.Proofs.YtjmgeelblodcgaaDoorW.PrintMore Go.Proofs.YtjmgeelblodcgaaDoor.Sh
set_option linter.unusedVariables false
set_option linter.unusedSimpArgs false
set_option maxRecDepth 100000 in
set_option maxHeartbeats 4000000 in
theorem macKeys_main (w : World) (hr : Roots w) (hcu : Cubes w) (A0 : Option Addr) (c0 : Nat) (l0 : List Int) (t0 : Txt w (.slice A0 l0.length c0) l0) (A1 : Option Addr) (c1 : Nat) (l1 : List Int) (t1 : Txt w (.slice A1 l1.length c1) l1) (h0 : l0.length ≤ 300) (h1 : l1.length ≤ 500) (a2 : Int) :
    Calls Tryd.prog 6 #[.slice A0 l0.length c0, .slice A1 l1.length c1, .int .i64 a2] w (Yes w) := by
  have E := Aside0.mk (⟨fun t ht => by
    simp only [List.mem_cons, List.not_mem_nil, or_false] at ht
    rcases ht with rfl | rfl
    · exact t0
    · exact t1, hr, hcu, Below.refl _ _⟩ : Env w w [(.slice A0 l0.length c0, l0), (.slice A1 l1.length c1, l1)])
  have n0 : decide ((300 : Int) < (l0.length : Int)) = false := by simp; omega
  have n1 : decide ((500 : Int) < (l1.length : Int)) = false := by simp; omega
  clear hr hcu t0 t1
  go_enter Tryd.func6, Tryd.ntmps6
  go_wp2_with fail
  refine (alive5_calls w E.out.roots E.out.cubes).mono ?_
  rintro e w1 ⟨rfl, hb⟩
  have E1 := Aside0.mk (E.out.below hb)
  clear hb E
  go_wp2_with fail
  refine (mac1 (l1 := l1) E1.out.roots E1.out.cubes (E1.out.txt (.slice A0 l0.length c0, l0) (by simp)) (by omega) (E1.out.txt (.slice A1 l1.length c1, l1) (by simp)) (by omega) _ rfl).mono ?_
  rintro e W4 ⟨rfl, hb4⟩
  have E4 := E1.out.below hb4
  obtain ⟨d, hd⟩ : ∃ d, d = mac l0 l1 := ⟨_, rfl⟩
  have hdl : d.length = 32 := by rw [hd]; exact mac_len _ _
  have hdb : Bytes d := by rw [hd]; exact mac_bytes _ _
  have q1 := eqMac l0 l1
  dsimp only
  rw [← hd] at q1 ⊢
  have hst := store32 (W4.alloc (.cells zero32 25)) W4.heap.size d hdl (old := List.replicate 32 0) (blk_new W4 _) rfl
  have HST := Aside0.mk hst.1
  have hB5 := below_setRow (below_alloc (Below.refl W4.heap.size W4) (.cells zero32 25)) (Nat.le_refl _) (cellsB d)
  have E6 := Aside0.mk (E4.below hB5)
  have HD6 := Aside0.mk hst.2
  obtain ⟨W6, hW6⟩ : ∃ x, x = (W4.alloc (.cells zero32 25)).setRow W4.heap.size (cellsB d) := ⟨_, rfl⟩
  have HW6 := Aside0.mk hW6
  rw [← hW6] at E6 HD6
  obtain ⟨D, hD⟩ : ∃ D, D = W4.heap.size := ⟨_, rfl⟩
  have HDe := Aside0.mk hD
  rw [← hD] at HD6
  have HDL := Aside0.mk hdl
  have HDB := Aside0.mk hdb
  have HDD := Aside0.mk hd
  clear hst hd hW6 hD hb4 E4 E1 hdl hdb hB5
  by_cases h64 : 64 < l0.length
  · have n2 : decide ((64 : Int) < (l0.length : Int)) = true := by simp; omega
    go_wp2_with (first | (refine store_whole (s := .tmp 7) rfl rfl rfl rfl HST.out ?_))
    rw [← show W6 = (W4.alloc (.cells zero32 25)).setRow W4.heap.size (cellsB d) from HW6.out]
    clear HST
    refine (psum1 (l1 := l0) E6.out.roots E6.out.cubes (E6.out.txt (.slice A0 l0.length c0, l0) (by simp)) (by omega) _ (by rw [HW6.out]; simp [World.setRow])).mono ?_
    rintro e W7 ⟨rfl, hb7⟩
    have E7 := E6.out.below hb7
    obtain ⟨s, hs⟩ : ∃ s, s = hash l0 := ⟨_, rfl⟩
    have hsl : s.length = 32 := by rw [hs]; exact hash_len _
    have hsb : Bytes s := by rw [hs]; exact hash_bytes _
    have hms : mac s l1 = d := by rw [hs, mac_hash l0 l1 h64, HDD.out]
    dsimp only
    rw [← hs]
    have hst := store32 (W7.alloc (.cells zero32 25)) W7.heap.size s hsl (old := List.replicate 32 0) (blk_new W7 _) rfl
    have HST := Aside0.mk hst.1
    have hB8 := below_setRow (below_alloc (Below.refl W7.heap.size W7) (.cells zero32 25)) (Nat.le_refl _) (cellsB s)
    have E8 := Aside0.mk (E7.below hB8)
    have hD8 := ((hb7.trans (hB8.mono hb7.size)).block D (blk_lt HD6.out)).trans HD6.out
    have HD8 := Aside0.mk hD8
    have HS8 := Aside0.mk hst.2
    obtain ⟨W8, hW8⟩ : ∃ x, x = (W7.alloc (.cells zero32 25)).setRow W7.heap.size (cellsB s) := ⟨_, rfl⟩
    have HW8 := Aside0.mk hW8
    rw [← hW8] at E8 HD8 HS8
    obtain ⟨E, hE⟩ : ∃ E, E = W7.heap.size := ⟨_, rfl⟩
    have HEe := Aside0.mk hE
    rw [← hE] at HS8
    have HLD := Aside0.mk (fun (W' : World) (hB : Below W8.heap.size W8 W') => (dig_at HDL.out HDB.out HD8.out hB).1)
    have E8d := E8.out.below (below_drew1 (Below.refl W8.heap.size W8))
    have hm8 := mac1 (l1 := l1) (W := W8.drew) (A := some ⟨E, 0, none⟩) (c := 32) (key := s) E8d.roots E8d.cubes (by rw [hsl]; exact (dig_at hsl hsb HS8.out (below_drew1 (Below.refl W8.heap.size W8))).2) (by omega) (E8d.txt (.slice A1 l1.length c1, l1) (by simp)) (by omega) W8.heap.size rfl
    rw [hsl, hms] at hm8
    have HM8 := Aside0.mk (show Calls Tryd.prog 19 #[.slice (some ⟨E, 0, none⟩) 32 32, .slice (some ⟨W8.heap.size, 0, none⟩) 1 1] (W8.alloc (.cells #[.slice A1 l1.length c1] 22)).drew (fun e w' => e = .returned (.agg (cellsB d)) ∧ Below W8.heap.size W8.drew w') from hm8)
    clear hst hW8 hE hb7 E7 hD8 hB8 E8d hm8 hs hms hsl hsb
    go_wp2_with (first | (refine store_whole (s := .tmp 8) rfl rfl rfl rfl HST.out ?_))
    rw [← show W8 = (W7.alloc (.cells zero32 25)).setRow W7.heap.size (cellsB s) from HW8.out, ← show E = W7.heap.size from HEe.out, ← show D = W4.heap.size from HDe.out]
    clear HW8 HST HEe HW6 HDe
    refine start_ (n := 7) (S := fun w' => Below W8.heap.size W8 w' ∧ (loadVar 25 ⟨D, 0, none⟩).run Tryd.prog w' = .ok (.agg (cellsB d)) w') (ds := []) #[false, false, false, false, false, false, false] (by kernel_rfl) rfl rfl ⟨below_drew1 (Below.refl _ _), HLD.out _ (below_drew1 (Below.refl _ _))⟩ (fun hHeld => ?_)
    refine pure_ (i := 0) (N := some 30) (v := ?_) (a' := ?_) #[true, false, false, false, false, false, false] rfl rfl (by kernel_rfl) (fun _ _ _ h => h) (Or.inl ⟨by rfl, ?_⟩) ?_ ?_
    rotate_left
    · intro w'
      go_simp
      with_reducible rfl
    rotate_left
    · simp only [Act.put, List.setIfInBounds_toArray, List.set_cons_zero, List.set_cons_succ, i64_w, i32_w]
      rfl
    refine pure_ (i := 1) (N := some 31) (v := ?_) (a' := ?_) #[true, true, false, false, false, false, false] rfl rfl (by kernel_rfl) (fun _ _ _ h => h) (Or.inl ⟨by rfl, ?_⟩) ?_ ?_
    rotate_left
    · intro w'
      go_simp
      with_reducible rfl
    rotate_left
    · simp only [Act.put, List.setIfInBounds_toArray, List.set_cons_zero, List.set_cons_succ, i64_w, i32_w]
      rfl
    refine take_ (i := 4) (N := some 34) (v := ?_) (a' := ?_) #[true, true, false, false, true, false, false] rfl rfl (by kernel_rfl) (fun _ _ _ h => h) (Or.inl ⟨by rfl, ?_⟩) hHeld ?_ ?_
    rotate_left
    · rintro w' ⟨s0, s1⟩
      refine (load_run rfl rfl s1).trans ?_
      with_reducible rfl
    rotate_left
    · simp only [Act.put, List.setIfInBounds_toArray, List.set_cons_zero, List.set_cons_succ, i64_w, i32_w]
      rfl
    refine one_ (i := 2) (N := some 32) #[true, true, true, false, true, false, false] rfl rfl (by kernel_rfl) (by decide) (fun K hK => ?_)
    refine value_ (w1 := ?_) (v := ?_) (by rfl) rfl ?_ ?_
    rotate_left 2
    · go_simp
      constructor
      · rfl
      · rfl
    refine hK.out _ _ ⟨below_alloc hHeld.1 _, HLD.out _ (below_alloc hHeld.1 _)⟩ (fun hHeld => ?_)
    clear hK K
    refine norm_ (a' := ?_) ?_ ?_
    rotate_left
    · show Act.put _ (some 32) _ = _
      simp only [Act.put, List.setIfInBounds_toArray, List.set_cons_zero, List.set_cons_succ, i64_w, i32_w]
      rfl
    refine one_ (i := 3) (N := some 33) #[true, true, true, true, true, false, false] rfl rfl (by kernel_rfl) (by decide) (fun K hK => ?_)
    refine goes_ Tryd.func19 (by kernel_rfl) rfl #[.slice (some ⟨E, 0, none⟩) 32 32, .slice (some ⟨W8.heap.size, 0, none⟩) 1 1] (by rfl) rfl rfl (by first | rfl | (simp only [List.map_toArray, List.map_cons, List.map_nil]; rfl)) ?_
    with_reducible refine (HM8.out).mono ?_
    rintro e w7 ⟨rfl, hb7⟩
    have hb7 := (below_drew1 (Below.refl W8.heap.size W8)).trans hb7
    refine ⟨_, rfl, ?_⟩
    refine hK.out _ _ ⟨hb7, HLD.out _ hb7⟩ (fun hHeld => ?_)
    clear hK K
    refine norm_ (a' := ?_) ?_ ?_
    rotate_left
    · show Act.put _ (some 33) _ = _
      simp only [Act.put, List.setIfInBounds_toArray, List.set_cons_zero, List.set_cons_succ, i64_w, i32_w]
      rfl
    refine pure_ (i := 5) (N := some 35) (v := ?_) (a' := ?_) #[true, true, true, true, true, true, false] rfl rfl (by kernel_rfl) (fun _ _ _ h => h) (Or.inl ⟨by rfl, ?_⟩) ?_ ?_
    rotate_left
    · intro w'
      go_simp
      with_reducible rfl
    rotate_left
    · simp only [Act.put, List.setIfInBounds_toArray, List.set_cons_zero, List.set_cons_succ, i64_w, i32_w]
      rfl
    refine pure_ (i := 6) (N := some 6) (v := ?_) (a' := ?_) #[true, true, true, true, true, true, true] rfl rfl (by kernel_rfl) (fun _ _ _ h => h) (Or.inl ⟨by rfl, ?_⟩) ?_ ?_
    rotate_left
    · intro w'
      go_simp
      with_reducible rfl
    rotate_left
    · simp only [Act.put, List.setIfInBounds_toArray, List.set_cons_zero, List.set_cons_succ, i64_w, i32_w]
      rfl
    refine done_ (by kernel_rfl) ?_
    go_wp2_with fail
    go_ret
    exact ⟨rfl, E8.out.bel.trans (hHeld.1.mono E8.out.bel.size)⟩
  · have n2 : decide ((64 : Int) < (l0.length : Int)) = false := by simp; omega
    obtain ⟨n, hn, hnl⟩ := u64_rem a2 (65 - l0.length) (by omega) (by omega)
    have hn64 : l0.length + n ≤ 64 := by omega
    have hc65 : ((65 - l0.length : Nat) : Int) = 65 - (l0.length : Int) := by omega
    rw [hc65] at hn
    clear hc65 hnl
    have HLD := Aside0.mk (fun (W' : World) (hB : Below W6.heap.size W6 W') => (dig_at HDL.out HDB.out HD6.out hB).1)
    have HKC := Aside0.mk (show Kd.C (Kd.int .u8) W6 A0 l0.length l0 from by
      obtain ⟨A9, c9, he, _, h9, _⟩ := E6.out.txt (.slice A0 l0.length c0, l0) (by simp)
      simp only [Value.slice.injEq, true_and] at he
      rw [he.1]
      exact h9)
    have hb0 : Bytes l0 := (E6.out.txt (.slice A0 l0.length c0, l0) (by simp)).choose_spec.choose_spec.2.2.2.1
    have HL1 := Aside0.mk (show (([] : List Int).length + l0.length) * 1 ≤ 140737488355328 by simp; omega)
    have HL2 := Aside0.mk (show (l0.length + (n : Int).toNat) * 1 ≤ 140737488355328 by omega)
    have hlz : (l0 ++ List.replicate n 0).length ≤ 64 := by rw [List.length_append, List.length_replicate]; exact hn64
    have HM := Aside0.mk (fun (W' : World) (hB : Below W6.heap.size W6 W') (A7 : Option Addr) (c7 b : Nat) (hrow : RB W' W6.heap.size (.slice A7 (l0 ++ List.replicate n 0).length c7) (l0 ++ List.replicate n 0)) (hblk : W'.heap[b]? = some (.cells #[.slice A1 l1.length c1] 22 (0, 0))) => (show Calls Tryd.prog 19 #[.slice A7 (l0 ++ List.replicate n 0).length c7, .slice (some ⟨b, 0, none⟩) 1 1] W' (fun e w' => e = .returned (.agg (cellsB d)) ∧ Below W'.heap.size W' w') from by
      have Ew := E6.out.below hB
      have h := mac1b (l1 := l1) (key := l0 ++ List.replicate n 0) Ew.roots Ew.cubes (Txt.of_RB hrow (zeros_bytes hb0 n) (by omega)) (by omega) (Ew.txt (.slice A1 l1.length c1, l1) (by simp)) (by omega) hblk
      rw [mac_zeros l0 l1 n hn64, ← HDD.out] at h
      exact h))
    clear hb0 hlz hn64
    go_wp2_with (first | (refine store_whole (s := .tmp 7) rfl rfl rfl rfl HST.out ?_))
    try rw [hn]
    rw [← show W6 = (W4.alloc (.cells zero32 25)).setRow W4.heap.size (cellsB d) from HW6.out, ← show D = W4.heap.size from HDe.out]
    clear HW6 HST HDe hn
    refine start_ (n := 11) (S := fun w' => Below W6.heap.size W6 w' ∧ (loadVar 25 ⟨D, 0, none⟩).run Tryd.prog w' = .ok (.agg (cellsB d)) w') (ds := []) #[false, false, false, false, false, false, false, false, false, false, false] (by kernel_rfl) rfl rfl ⟨below_drew1 (Below.refl _ _), HLD.out _ (below_drew1 (Below.refl _ _))⟩ (fun hHeld => ?_)
    refine pure_ (i := 1) (N := some 45) (v := ?_) (a' := ?_) #[false, true, false, false, false, false, false, false, false, false, false] rfl rfl (by kernel_rfl) (fun _ _ _ h => h) (Or.inl ⟨by rfl, ?_⟩) ?_ ?_
    rotate_left
    · intro w'
      go_simp
      with_reducible rfl
    rotate_left
    · simp only [Act.put, List.setIfInBounds_toArray, List.set_cons_zero, List.set_cons_succ, i64_w, i32_w]
      rfl
    refine pure_ (i := 3) (N := some 47) (v := ?_) (a' := ?_) #[false, true, false, true, false, false, false, false, false, false, false] rfl rfl (by kernel_rfl) (fun _ _ _ h => h) (Or.inl ⟨by rfl, ?_⟩) ?_ ?_
    rotate_left
    · intro w'
      go_simp
      with_reducible rfl
    rotate_left
    · simp only [Act.put, List.setIfInBounds_toArray, List.set_cons_zero, List.set_cons_succ, i64_w, i32_w]
      rfl
    refine pure_ (i := 5) (N := some 49) (v := ?_) (a' := ?_) #[false, true, false, true, false, true, false, false, false, false, false] rfl rfl (by kernel_rfl) (fun _ _ _ h => h) (Or.inl ⟨by rfl, ?_⟩) ?_ ?_
    rotate_left
    · intro w'
      go_simp
      with_reducible rfl
    rotate_left
    · simp only [Act.put, List.setIfInBounds_toArray, List.set_cons_zero, List.set_cons_succ, i64_w, i32_w]
      rfl
    refine take_ (i := 8) (N := some 52) (v := ?_) (a' := ?_) #[false, true, false, true, false, true, false, false, true, false, false] rfl rfl (by kernel_rfl) (fun _ _ _ h => h) (Or.inl ⟨by rfl, ?_⟩) hHeld ?_ ?_
    rotate_left
    · rintro w' ⟨s0, s1⟩
      refine (load_run rfl rfl s1).trans ?_
      with_reducible rfl
    rotate_left
    · simp only [Act.put, List.setIfInBounds_toArray, List.set_cons_zero, List.set_cons_succ, i64_w, i32_w]
      rfl
    refine join_ (σ := Value × Value × Value × Nat) 3 #[true, true, true, true, true, true, true, false, true, false, false] (fun s => [(44, s.1), (46, s.2.1), (48, s.2.2.1), (50, .slice (some ⟨s.2.2.2, 0, none⟩) 1 1)]) (fun s w' => Below W6.heap.size W6 w' ∧ RB w' W6.heap.size s.2.2.1 (l0 ++ List.replicate n 0) ∧ w'.heap[s.2.2.2]? = some (.cells #[.slice A1 l1.length c1] 22 (0, 0))) ?_ ?_
    rotate_left
    · intro hCont
      refine two_ (i := 0) (j := 6) (Ni := some 44) (Nj := some 50) #[true, true, false, true, false, true, false, false, true, false, false] #[false, true, false, true, false, true, true, false, true, false, false] rfl rfl rfl rfl (by kernel_rfl) (by decide) (by decide) (fun K hK => ?_) (fun K hK => ?_)
      · skip
        refine Kd.R_lit_step (Kd.int .u8) (w0 := W6) W6.heap.size 5 (by rfl) (N := 44) rfl (xs := ([] : List Int)) (inner := []) (ok := fun _ => True) (okp := fun _ => True) ?hr (Reps.none _ _) (fun _ h => h) trivial hHeld.1 hHeld.1.size (by simp) ?_
        (case hr => first | (go_simp; done) | (go_simp; rfl))
        intro v5 w5 hrow hb5 hg5 _
        refine hK.out _ _ ⟨hb5, HLD.out _ (hb5)⟩ (fun hHeld => ?_)
        clear hK K
        refine norm_ (a' := ?_) ?_ ?_
        rotate_left
        · show Act.put _ (some 44) _ = _
          simp only [Act.put, List.setIfInBounds_toArray, List.set_cons_zero, List.set_cons_succ, i64_w, i32_w]
          rfl
        refine two_ (i := 2) (j := 6) (Ni := some 46) (Nj := some 50) #[true, true, true, true, false, true, false, false, true, false, false] #[true, true, false, true, false, true, true, false, true, false, false] rfl rfl rfl rfl (by kernel_rfl) (by decide) (by decide) (fun K hK => ?_) (fun K hK => ?_)
        · skip
          refine Kd.R_append_rows_step (Kd.int .u8) (w0 := W6) W6.heap.size (by rfl) (.tmp 44) (.tmp 45) 22 5 (.int .u8 0) 1 rfl Tryd.underlying22 info5 rfl (by decide) (by omega) v5 [] l0 A0 l0.length c0 (fun _ => True) (fun _ => False) rfl rfl hrow (Kd.C_below HKC.out hHeld.1) (fun _ _ h => h) (fun _ h => h.elim) (fun _ _ => trivial) hHeld.1 hHeld.1.size HL1.out ?_
          intro v6 w6 hrow hb6 hg6 _
          rw [List.nil_append] at hrow
          refine hK.out _ _ ⟨hb6, HLD.out _ (hb6)⟩ (fun hHeld => ?_)
          clear hK K
          refine norm_ (a' := ?_) ?_ ?_
          rotate_left
          · show Act.put _ (some 46) _ = _
            simp only [Act.put, List.setIfInBounds_toArray, List.set_cons_zero, List.set_cons_succ, i64_w, i32_w]
            rfl
          refine two_ (i := 4) (j := 6) (Ni := some 48) (Nj := some 50) #[true, true, true, true, true, true, false, false, true, false, false] #[true, true, true, true, false, true, true, false, true, false, false] rfl rfl rfl rfl (by kernel_rfl) (by decide) (by decide) (fun K hK => ?_) (fun K hK => ?_)
          · skip
            refine Kd.R_append_zeros_step (Kd.int .u8) (w0 := W6) W6.heap.size (by rfl) (.tmp 46) (.tmp 47) 22 3 5 (.int .u8 0) 1 rfl Tryd.underlying22 (k := .i64) Tryd.underlying3 info5 rfl (by decide) (by omega) v6 l0 0 (kx := .i64) (n : Int) (fun _ => True) rfl rfl rfl (fun _ _ => trivial) hrow (by omega) hHeld.1 hHeld.1.size HL2.out ?_
            intro v7 w7 hrow hb7 hg7 _
            rw [Int.toNat_natCast] at hrow
            refine hK.out _ _ ⟨hb7, HLD.out _ (hb7)⟩ (fun hHeld => ?_)
            clear hK K
            refine norm_ (a' := ?_) ?_ ?_
            rotate_left
            · show Act.put _ (some 48) _ = _
              simp only [Act.put, List.setIfInBounds_toArray, List.set_cons_zero, List.set_cons_succ, i64_w, i32_w]
              rfl
            refine one_ (i := 6) (N := some 50) #[true, true, true, true, true, true, true, false, true, false, false] rfl rfl (by kernel_rfl) (by decide) (fun K hK => ?_)
            refine value_ (w1 := ?_) (v := ?_) (by rfl) rfl ?_ ?_
            rotate_left 2
            · go_simp
              constructor
              · rfl
              · rfl
            have hblk := blk_new w7 (.cells #[.slice A1 l1.length c1] 22)
            have hrow := Kd.R_below hrow (below_alloc (Below.refl _ _) (.cells #[.slice A1 l1.length c1] 22))
            refine hK.out _ _ ⟨below_alloc hHeld.1 _, HLD.out _ (below_alloc hHeld.1 _)⟩ (fun hHeld => ?_)
            clear hK K
            refine norm_ (a' := ?_) ?_ ?_
            rotate_left
            · show Act.put _ (some 50) _ = _
              simp only [Act.put, List.setIfInBounds_toArray, List.set_cons_zero, List.set_cons_succ, i64_w, i32_w]
              rfl
            exact norm_ (by simp only [putAll, Act.put, List.setIfInBounds_toArray, List.set_cons_zero, List.set_cons_succ]) (hCont (v5, v6, v7, w7.heap.size) _ ⟨hHeld.1, hrow, hblk⟩)
          · skip
            refine value_ (w1 := ?_) (v := ?_) (by rfl) rfl ?_ ?_
            rotate_left 2
            · go_simp
              constructor
              · rfl
              · rfl
            have hblk := blk_new w6 (.cells #[.slice A1 l1.length c1] 22)
            have hrow := Kd.R_below hrow (below_alloc (Below.refl _ _) (.cells #[.slice A1 l1.length c1] 22))
            refine hK.out _ _ ⟨below_alloc hHeld.1 _, HLD.out _ (below_alloc hHeld.1 _)⟩ (fun hHeld => ?_)
            clear hK K
            refine norm_ (a' := ?_) ?_ ?_
            rotate_left
            · show Act.put _ (some 50) _ = _
              simp only [Act.put, List.setIfInBounds_toArray, List.set_cons_zero, List.set_cons_succ, i64_w, i32_w]
              rfl
            refine one_ (i := 4) (N := some 48) #[true, true, true, true, true, true, true, false, true, false, false] rfl rfl (by kernel_rfl) (by decide) (fun K hK => ?_)
            refine Kd.R_append_zeros_step (Kd.int .u8) (w0 := W6) W6.heap.size (by rfl) (.tmp 46) (.tmp 47) 22 3 5 (.int .u8 0) 1 rfl Tryd.underlying22 (k := .i64) Tryd.underlying3 info5 rfl (by decide) (by omega) v6 l0 0 (kx := .i64) (n : Int) (fun _ => True) rfl rfl rfl (fun _ _ => trivial) hrow (by omega) hHeld.1 hHeld.1.size HL2.out ?_
            have hne := Kd.R_ne hrow hblk (by decide)
            intro v7 w7 hrow hb7 hg7 _
            rw [Int.toNat_natCast] at hrow
            have hblk := gb_blk hg7 hblk hne
            refine hK.out _ _ ⟨hb7, HLD.out _ (hb7)⟩ (fun hHeld => ?_)
            clear hK K
            refine norm_ (a' := ?_) ?_ ?_
            rotate_left
            · show Act.put _ (some 48) _ = _
              simp only [Act.put, List.setIfInBounds_toArray, List.set_cons_zero, List.set_cons_succ, i64_w, i32_w]
              rfl
            exact norm_ (by simp only [putAll, Act.put, List.setIfInBounds_toArray, List.set_cons_zero, List.set_cons_succ]) (hCont (v5, v6, v7, w6.heap.size) _ ⟨hHeld.1, hrow, hblk⟩)
        · skip
          refine value_ (w1 := ?_) (v := ?_) (by rfl) rfl ?_ ?_
          rotate_left 2
          · go_simp
            constructor
            · rfl
            · rfl
          have hblk := blk_new w5 (.cells #[.slice A1 l1.length c1] 22)
          have hrow := Kd.R_below hrow (below_alloc (Below.refl _ _) (.cells #[.slice A1 l1.length c1] 22))
          refine hK.out _ _ ⟨below_alloc hHeld.1 _, HLD.out _ (below_alloc hHeld.1 _)⟩ (fun hHeld => ?_)
          clear hK K
          refine norm_ (a' := ?_) ?_ ?_
          rotate_left
          · show Act.put _ (some 50) _ = _
            simp only [Act.put, List.setIfInBounds_toArray, List.set_cons_zero, List.set_cons_succ, i64_w, i32_w]
            rfl
          refine one_ (i := 2) (N := some 46) #[true, true, true, true, false, true, true, false, true, false, false] rfl rfl (by kernel_rfl) (by decide) (fun K hK => ?_)
          refine Kd.R_append_rows_step (Kd.int .u8) (w0 := W6) W6.heap.size (by rfl) (.tmp 44) (.tmp 45) 22 5 (.int .u8 0) 1 rfl Tryd.underlying22 info5 rfl (by decide) (by omega) v5 [] l0 A0 l0.length c0 (fun _ => True) (fun _ => False) rfl rfl hrow (Kd.C_below HKC.out hHeld.1) (fun _ _ h => h) (fun _ h => h.elim) (fun _ _ => trivial) hHeld.1 hHeld.1.size HL1.out ?_
          have hne := Kd.R_ne hrow hblk (by decide)
          intro v6 w6 hrow hb6 hg6 _
          rw [List.nil_append] at hrow
          have hblk := gb_blk hg6 hblk hne
          refine hK.out _ _ ⟨hb6, HLD.out _ (hb6)⟩ (fun hHeld => ?_)
          clear hK K
          refine norm_ (a' := ?_) ?_ ?_
          rotate_left
          · show Act.put _ (some 46) _ = _
            simp only [Act.put, List.setIfInBounds_toArray, List.set_cons_zero, List.set_cons_succ, i64_w, i32_w]
            rfl
          refine one_ (i := 4) (N := some 48) #[true, true, true, true, true, true, true, false, true, false, false] rfl rfl (by kernel_rfl) (by decide) (fun K hK => ?_)
          refine Kd.R_append_zeros_step (Kd.int .u8) (w0 := W6) W6.heap.size (by rfl) (.tmp 46) (.tmp 47) 22 3 5 (.int .u8 0) 1 rfl Tryd.underlying22 (k := .i64) Tryd.underlying3 info5 rfl (by decide) (by omega) v6 l0 0 (kx := .i64) (n : Int) (fun _ => True) rfl rfl rfl (fun _ _ => trivial) hrow (by omega) hHeld.1 hHeld.1.size HL2.out ?_
          have hne := Kd.R_ne hrow hblk (by decide)
          intro v7 w7 hrow hb7 hg7 _
          rw [Int.toNat_natCast] at hrow
          have hblk := gb_blk hg7 hblk hne
          refine hK.out _ _ ⟨hb7, HLD.out _ (hb7)⟩ (fun hHeld => ?_)
          clear hK K
          refine norm_ (a' := ?_) ?_ ?_
          rotate_left
          · show Act.put _ (some 48) _ = _
            simp only [Act.put, List.setIfInBounds_toArray, List.set_cons_zero, List.set_cons_succ, i64_w, i32_w]
            rfl
          exact norm_ (by simp only [putAll, Act.put, List.setIfInBounds_toArray, List.set_cons_zero, List.set_cons_succ]) (hCont (v5, v6, v7, w5.heap.size) _ ⟨hHeld.1, hrow, hblk⟩)
      · skip
        refine value_ (w1 := ?_) (v := ?_) (by rfl) rfl ?_ ?_
        rotate_left 2
        · go_simp
          constructor
          · rfl
          · rfl
        have hblk := blk_new W6.drew (.cells #[.slice A1 l1.length c1] 22)
        refine hK.out _ _ ⟨below_alloc hHeld.1 _, HLD.out _ (below_alloc hHeld.1 _)⟩ (fun hHeld => ?_)
        clear hK K
        refine norm_ (a' := ?_) ?_ ?_
        rotate_left
        · show Act.put _ (some 50) _ = _
          simp only [Act.put, List.setIfInBounds_toArray, List.set_cons_zero, List.set_cons_succ, i64_w, i32_w]
          rfl
        refine one_ (i := 0) (N := some 44) #[true, true, false, true, false, true, true, false, true, false, false] rfl rfl (by kernel_rfl) (by decide) (fun K hK => ?_)
        refine Kd.R_lit_step (Kd.int .u8) (w0 := W6) W6.heap.size 5 (by rfl) (N := 44) rfl (xs := ([] : List Int)) (inner := []) (ok := fun _ => True) (okp := fun _ => True) ?hr (Reps.none _ _) (fun _ h => h) trivial hHeld.1 hHeld.1.size (by simp) ?_
        (case hr => first | (go_simp; done) | (go_simp; rfl))
        intro v5 w5 hrow hb5 hg5 _
        have hblk := gb_blk hg5 hblk (by intro e; cases e)
        refine hK.out _ _ ⟨hb5, HLD.out _ (hb5)⟩ (fun hHeld => ?_)
        clear hK K
        refine norm_ (a' := ?_) ?_ ?_
        rotate_left
        · show Act.put _ (some 44) _ = _
          simp only [Act.put, List.setIfInBounds_toArray, List.set_cons_zero, List.set_cons_succ, i64_w, i32_w]
          rfl
        refine one_ (i := 2) (N := some 46) #[true, true, true, true, false, true, true, false, true, false, false] rfl rfl (by kernel_rfl) (by decide) (fun K hK => ?_)
        refine Kd.R_append_rows_step (Kd.int .u8) (w0 := W6) W6.heap.size (by rfl) (.tmp 44) (.tmp 45) 22 5 (.int .u8 0) 1 rfl Tryd.underlying22 info5 rfl (by decide) (by omega) v5 [] l0 A0 l0.length c0 (fun _ => True) (fun _ => False) rfl rfl hrow (Kd.C_below HKC.out hHeld.1) (fun _ _ h => h) (fun _ h => h.elim) (fun _ _ => trivial) hHeld.1 hHeld.1.size HL1.out ?_
        have hne := Kd.R_ne hrow hblk (by decide)
        intro v6 w6 hrow hb6 hg6 _
        rw [List.nil_append] at hrow
        have hblk := gb_blk hg6 hblk hne
        refine hK.out _ _ ⟨hb6, HLD.out _ (hb6)⟩ (fun hHeld => ?_)
        clear hK K
        refine norm_ (a' := ?_) ?_ ?_
        rotate_left
        · show Act.put _ (some 46) _ = _
          simp only [Act.put, List.setIfInBounds_toArray, List.set_cons_zero, List.set_cons_succ, i64_w, i32_w]
          rfl
        refine one_ (i := 4) (N := some 48) #[true, true, true, true, true, true, true, false, true, false, false] rfl rfl (by kernel_rfl) (by decide) (fun K hK => ?_)
        refine Kd.R_append_zeros_step (Kd.int .u8) (w0 := W6) W6.heap.size (by rfl) (.tmp 46) (.tmp 47) 22 3 5 (.int .u8 0) 1 rfl Tryd.underlying22 (k := .i64) Tryd.underlying3 info5 rfl (by decide) (by omega) v6 l0 0 (kx := .i64) (n : Int) (fun _ => True) rfl rfl rfl (fun _ _ => trivial) hrow (by omega) hHeld.1 hHeld.1.size HL2.out ?_
        have hne := Kd.R_ne hrow hblk (by decide)
        intro v7 w7 hrow hb7 hg7 _
        rw [Int.toNat_natCast] at hrow
        have hblk := gb_blk hg7 hblk hne
        refine hK.out _ _ ⟨hb7, HLD.out _ (hb7)⟩ (fun hHeld => ?_)
        clear hK K
        refine norm_ (a' := ?_) ?_ ?_
        rotate_left
        · show Act.put _ (some 48) _ = _
          simp only [Act.put, List.setIfInBounds_toArray, List.set_cons_zero, List.set_cons_succ, i64_w, i32_w]
          rfl
        exact norm_ (by simp only [putAll, Act.put, List.setIfInBounds_toArray, List.set_cons_zero, List.set_cons_succ]) (hCont (v5, v6, v7, W6.heap.size) _ ⟨hHeld.1, hrow, hblk⟩)
    rintro ⟨v5, v6, v7, b⟩ w7 ⟨hB7, hrow, hblk⟩
    dsimp only at hrow hblk
    obtain ⟨A7, c7, rfl⟩ := Kd.R_slice hrow
    have hHeld : Below W6.heap.size W6 w7 ∧ (loadVar 25 ⟨D, 0, none⟩).run Tryd.prog w7 = .ok (.agg (cellsB d)) w7 := ⟨hB7, HLD.out _ hB7⟩
    have HM10 := Aside0.mk (HM.out w7 hB7 A7 c7 b hrow hblk)
    refine norm_ (a' := ?_) ?_ ?_
    rotate_left
    · simp only [putAll, Act.put, List.setIfInBounds_toArray, List.set_cons_zero, List.set_cons_succ]
      rfl
    refine one_ (i := 7) (N := some 51) #[true, true, true, true, true, true, true, true, true, false, false] rfl rfl (by kernel_rfl) (by decide) (fun K hK => ?_)
    refine goes_ Tryd.func19 (by kernel_rfl) rfl #[.slice A7 (l0 ++ List.replicate n 0).length c7, .slice (some ⟨b, 0, none⟩) 1 1] (by rfl) rfl rfl (by first | rfl | (simp only [List.map_toArray, List.map_cons, List.map_nil]; rfl)) ?_
    with_reducible refine (HM10.out).mono ?_
    rintro e w8 ⟨rfl, hb8⟩
    refine ⟨_, rfl, ?_⟩
    refine hK.out _ _ ⟨hB7.trans (hb8.mono hB7.size), HLD.out _ (hB7.trans (hb8.mono hB7.size))⟩ (fun hHeld => ?_)
    clear hK K
    refine norm_ (a' := ?_) ?_ ?_
    rotate_left
    · show Act.put _ (some 51) _ = _
      simp only [Act.put, List.setIfInBounds_toArray, List.set_cons_zero, List.set_cons_succ, i64_w, i32_w]
      rfl
    refine pure_ (i := 9) (N := some 53) (v := ?_) (a' := ?_) #[true, true, true, true, true, true, true, true, true, true, false] rfl rfl (by kernel_rfl) (fun _ _ _ h => h) (Or.inl ⟨by rfl, ?_⟩) ?_ ?_
    rotate_left
    · intro w'
      go_simp
      with_reducible rfl
    rotate_left
    · simp only [Act.put, List.setIfInBounds_toArray, List.set_cons_zero, List.set_cons_succ, i64_w, i32_w]
      rfl
    refine pure_ (i := 10) (N := some 6) (v := ?_) (a' := ?_) #[true, true, true, true, true, true, true, true, true, true, true] rfl rfl (by kernel_rfl) (fun _ _ _ h => h) (Or.inl ⟨by rfl, ?_⟩) ?_ ?_
    rotate_left
    · intro w'
      go_simp
      with_reducible rfl
    rotate_left
    · simp only [Act.put, List.setIfInBounds_toArray, List.set_cons_zero, List.set_cons_succ, i64_w, i32_w]
      rfl
    refine done_ (by kernel_rfl) ?_
    go_wp2_with fail
    go_ret
    exact ⟨rfl, E6.out.bel.trans (hHeld.1.mono E6.out.bel.size)⟩
end Go.Proofs.YtjmgeelblodcgaaDoor.Sx
