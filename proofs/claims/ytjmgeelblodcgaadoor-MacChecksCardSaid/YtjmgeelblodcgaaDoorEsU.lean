import Derived.Test.YtjmgeelblodcgaaDoorEsT
/- The walk of MacParts. (Printed by tools/genEsU.py.) -/
namespace Go.Proofs.YtjmgeelblodcgaaDoor.Sx
open Go.RowKit Go.Proofs.YtjmgeelblodcgaaDoorW.PrintWords Go.Proofs.YtjmgeelblodcgaaDoorW.PrintLast Go.Proofs.YtjmgeelblodcgaaDoorW.PrintMore Go.Proofs.YtjmgeelblodcgaaDoor.Sh
set_option linter.unusedVariables false
set_option linter.unusedSimpArgs false
theorem load_run {P : Program} {o : Oper} {a : Act} {W : World} {t : TypeId} {s : Operand} {g : Nat} {v : Value} (ho : o.op = .load t s) (hs : a.eval s = .pointer (some ⟨g, 0, none⟩)) (hl : (loadVar t ⟨g, 0, none⟩).run P W = .ok v W) : (execOp a.eval o).run P W = .ok (.value v) W := by
  unfold execOp
  simp only [ho, hs, Instr.loadAt, Instr.sureAddr, Sem.run_bind, Sem.run_pure, Result.andThen_ok, hl]
structure Mtd (w : World) (ps : List (List Int)) (m : Nat) (k : Nat) (v : Value) (wr : World) : Prop where
  row : RB wr w.heap.size v (flat ps k)
  bel : Below w.heap.size w wr
  len : ∀ j, j < k → (prt ps j).length ≤ m
theorem Mtd.lenle {w : World} {m k : Nat} {ps : List (List Int)} {v : Value} {wr : World} (h : Mtd w ps m k v wr) (hk : k ≤ 21) (hm : m ≤ 300) : (flat ps k).length ≤ 6300 := by
  have := flat_len ps m k h.len
  have : m * k ≤ 300 * 21 := Nat.mul_le_mul hm hk
  omega
/-- Of a digest that lies in a block: its load, its text. -/
theorem dig_at {W W' : World} {D : Nat} {d : List Int} (hdl : d.length = 32) (hdb : Bytes d) (h : W.heap[D]? = some (.cells (cellsB d) 25 (0, 0))) (hB : Below W.heap.size W W') :
    (loadVar 25 ⟨D, 0, none⟩).run Tryd.prog W' = .ok (.agg (cellsB d)) W' ∧ Txt W' (.slice (some ⟨D, 0, none⟩) 32 32) d := by
  have h2 := (hB.block D (blk_lt h)).trans h
  exact ⟨run_loadVar_row W' D 25 25 _ (0, 0) _ h2 Tryd.underlying25 rfl (by rw [info25, cellsB_size, hdl]), txt_pre (l := d) 32 32 (by rw [hdl]) (Nat.le_refl _) h2 (fun j hj => by rw [cellsB_get d j hj]) (by omega) hdb⟩
theorem mac1 {W : World} {A : Option Addr} {c : Nat} {key : List Int} {v1 : Value} {l1 : List Int} (hr : Roots W) (hcu : Cubes W) (hT : Txt W (.slice A key.length c) key) (hkl : key.length ≤ 900000) (h1 : Txt W v1 l1) (hl : l1.length ≤ 800000) (b : Nat) (hb : b = W.heap.size) :
    Calls Tryd.prog 19 #[.slice A key.length c, .slice (some ⟨b, 0, none⟩) 1 1] (W.alloc (.cells #[v1] 22)) fun e w' => e = .returned (.agg (cellsB (mac key l1))) ∧ Below W.heap.size W w' := by
  subst hb
  have hB := below_alloc (Below.refl W.heap.size W) (.cells #[v1] 22)
  have hp := PartsOf.blk (vs := [v1]) (ps := [l1]) rfl (blk_new W (.cells #[v1] 22)) (fun k hk => by
    have : k = 0 := by simp at hk; omega
    subst this
    exact h1.below hB)
  have hf : flat [l1] [l1].length = l1 := rfl
  refine (mac_calls _ (hr.below hB) (hcu.below hB) A c key (hT.below hB) hkl _ [l1] 1 1 rfl (by simp) hp (by rw [hf]; exact hl)).mono ?_
  rintro e w' ⟨rfl, h⟩
  exact ⟨by rw [hf], hB.trans (h.mono hB.size)⟩
set_option maxRecDepth 100000 in
set_option maxHeartbeats 2000000 in
theorem macParts_main (w : World) (hr : Roots w) (hcu : Cubes w) (A : Option Addr) (c : Nat) (key : List Int) (hkc : key.length ≤ c) (hKC : Kd.C (Kd.int .u8) w A key.length key) (hkb : Bytes key) (B : Option Addr) (cp : Nat) (ps : List (List Int)) (hC : Kd.C (Kd.slice 5 (Kd.int .u8)) w B ps.length ps) (hby : ∀ k, Bytes (prt ps k)) :
    Calls Tryd.prog 8 #[.slice A key.length c, .slice B ps.length cp] w (Yes w) := by
  have h2w : 2 < w.heap.size := cell_lt (hcu 0 (by decide))
  have HR := Aside0.mk hr
  have HCU := Aside0.mk hcu
  have HC := Aside0.mk hC
  have HBY := Aside0.mk hby
  have HKC := Aside0.mk hKC
  have HKB := Aside0.mk hkb
  have HKL := Aside0.mk hkc
  have hps : ps.length ≤ 9223372036854775807 := hC.2.1
  clear hr hcu hC hby hKC hkb hkc
  go_enter Tryd.func8, Tryd.ntmps8
  go_wp2_with fail
  refine (alive5_calls w HR.out HCU.out).mono ?_
  rintro e w1 ⟨rfl, hb⟩
  have HB1 := Aside0.mk hb
  clear hb
  go_wp2_with (first | ((with_reducible refine gate_dst (N := 11) rfl ?_); refine Kd.R_lit (Kd.int .u8) (w0 := w) w.heap.size 5 ?hg (N := 11) ?hd (xs := ([] : List Int)) (inner := []) (ok := fun _ => True) (okp := fun _ => True) ?hr ?hp (fun _ hk => hk) trivial HB1.out HB1.out.size (by simp) ?_; (case hd => rfl); (case hg => rfl); (case hr => first | (go_simp; done) | (go_simp; rfl)); (case hp => exact (Reps.none _ _)); intro v1 w2 ho hb hg hn; have HO2 := Aside0.mk ho; have HB2 := Aside0.mk hb; clear ho hb hg hn; obtain ⟨A2, c2, rfl⟩ := Kd.R_slice HO2.out))
  have HS0 := Aside0.mk (⟨HO2.out, HB2.out, fun j hj => by omega⟩ : Mtd w ps 200 0 (.slice A2 ([] : List Int).length c2) w2)
  clear HB2 HO2 HB1
  go_loopw [5, 14] (fun v i wr => ∃ (k : Nat) (A : Option Addr) (c : Nat), k ≤ ps.length ∧ k ≤ 21 ∧ i = .int .i64 k ∧ v = .slice A (flat ps k).length c ∧ Aside0 (Mtd w ps 200 k v wr)) (fun _ i _ => ps.length - (intOf i).toNat)
  case atStart => exact ⟨0, A2, c2, Nat.zero_le _, by decide, rfl, rfl, HS0⟩
  case round =>
    obtain ⟨k, A1, c1, hk, hk21, rfl, rfl, HS⟩ := hrel
    by_cases hlt : k < ps.length
    · obtain ⟨ad, A', c2, hA, hcell, hc2, hCp⟩ := part_at HC.out k hlt
      subst hA
      have hcell2 := pw_cell_below HS.out.bel hcell
      have HCP := Aside0.mk hCp
      clear hcell hCp
      by_cases h20 : 20 < k
      · have n1 : decide ((20 : Int) < (k : Int)) = true := by simp; omega
        go_wp2_with fail
        go_ret
        exact ⟨rfl, HS.out.bel⟩
      · have n1 : decide ((20 : Int) < (k : Int)) = false := by simp; omega
        by_cases h300 : 200 < (prt ps k).length
        · have n2 : decide ((200 : Int) < ((prt ps k).length : Int)) = true := by simp; omega
          go_wp2_with fail
          go_ret
          exact ⟨rfl, HS.out.bel⟩
        · have n2 : decide ((200 : Int) < ((prt ps k).length : Int)) = false := by simp; omega
          have hfl := HS.out.lenle hk21 (by decide)
          have HL1 := Aside0.mk (show ((flat ps k).length + (prt ps k).length) * 1 ≤ 140737488355328 by omega)
          clear hfl
          go_wp2_with (first | (at_builtin; refine Kd.R_append_rows (Kd.int .u8) (w0 := w) w.heap.size rfl (.tmp 26) (.tmp 27) 22 5 (.int .u8 0) 1 rfl Tryd.underlying22 info5 rfl (by decide) (by omega) (.slice A1 (flat ps k).length c1) (flat ps k) (prt ps k) A' (prt ps k).length c2 (fun _ => True) (fun _ => False) rfl rfl ?aO ?aR (fun _ _ h => h) (fun _ h => h.elim) (fun _ _ => trivial) ?aB ?aS ?aL ?_; (case aO => exact HS.out.row); (case aR => exact Kd.C_below HCP.out HS.out.bel); (case aB => exact HS.out.bel); (case aS => exact HS.out.bel.size); (case aL => exact HL1.out); intro v4 w4 ho hb hg hn; have HO4 := Aside0.mk ho; have HB4 := Aside0.mk hb; clear ho hb hg hn; obtain ⟨A4, c4, rfl⟩ := Kd.R_slice HO4.out))
          have HS4 := Aside0.mk (⟨HO4.out, HB4.out, fun j hj => by
            by_cases h : j < k
            · exact HS.out.len j h
            · have : j = k := by omega
              subst this
              omega⟩ : Mtd w ps 200 (k + 1) (.slice A4 (flat ps k ++ prt ps k).length c4) w4)
          go_roundw
          case rel => exact ⟨k + 1, A4, c4, by omega, by omega, by go_num, by show _ = Value.slice A4 (flat ps k ++ prt ps k).length c4; rw [List.length_append], by rw [List.length_append] at HS4; exact HS4⟩
          case measure => simp [intOf]; omega
    · obtain rfl : k = ps.length := by omega
      have hlen := HS.out.lenle hk21 (by decide)
      have HL := Aside0.mk hlen
      clear hlen
      by_cases h3 : 300 < key.length
      · have n3 : decide ((300 : Int) < (key.length : Int)) = true := by simp; omega
        go_wp2_with fail
        go_ret
        exact ⟨rfl, HS.out.bel⟩
      · have n3 : decide ((300 : Int) < (key.length : Int)) = false := by simp; omega
        have HK := Aside0.mk (show Txt w (.slice A key.length c) key from ⟨A, c, rfl, HKL.out, HKC.out, HKB.out, by omega⟩)
        have HT1 := Aside0.mk (show Txt wr (.slice A1 (flat ps ps.length).length c1) (flat ps ps.length) from Txt.of_RB HS.out.row (flat_bytes ps HBY.out _) (by have := HL.out; omega))
        have HM1 := Aside0.mk (mac1 (HR.out.below HS.out.bel) (HCU.out.below HS.out.bel) (HK.out.below HS.out.bel) (by omega) HT1.out (by have := HL.out; omega) wr.heap.size rfl)
        go_wp2_with fail
        refine HM1.out.mono ?_
        rintro e W4 ⟨rfl, hb4⟩
        obtain ⟨d, hd⟩ : ∃ d, d = mac key (flat ps ps.length) := ⟨_, rfl⟩
        have hdl : d.length = 32 := by rw [hd]; exact mac_len _ _
        have hdb : Bytes d := by rw [hd]; exact mac_bytes _ _
        have q1 := eqMac key (flat ps ps.length)
        rw [← hd] at q1 ⊢
        have hst := store32 (W4.alloc (.cells zero32 25)) W4.heap.size d hdl (old := List.replicate 32 0) (blk_new W4 _) rfl
        have HST := Aside0.mk hst.1
        have hB4 := HS.out.bel.trans (hb4.mono HS.out.bel.size)
        have HB6 := Aside0.mk (below_setRow (below_alloc hB4 (.cells zero32 25)) hB4.size (cellsB d))
        have HD6 := Aside0.mk hst.2
        obtain ⟨W6, hW6⟩ : ∃ x, x = (W4.alloc (.cells zero32 25)).setRow W4.heap.size (cellsB d) := ⟨_, rfl⟩
        have HW6 := Aside0.mk hW6
        rw [← hW6] at HB6 HD6
        obtain ⟨D, hD⟩ : ∃ D, D = W4.heap.size := ⟨_, rfl⟩
        have HDe := Aside0.mk hD
        rw [← hD] at HD6
        have HPT := Aside0.mk (parts_of HC.out HBY.out HS.out.len (by decide) (Below.refl w.heap.size w))
        have hps21 : ps.length ≤ 1000 := by omega
        have HM := Aside0.mk (fun (W' : World) (hB : Below W6.heap.size W6 W') => (show Calls Tryd.prog 19 #[.slice A key.length c, .slice B ps.length cp] W' (fun e w' => e = .returned (.agg (cellsB d)) ∧ Below W'.heap.size W' w') from by
          have hw := HB6.out.trans (hB.mono HB6.out.size)
          rw [hd]
          exact mac_calls W' (HR.out.below hw) (HCU.out.below hw) A c key (HK.out.below hw) (by omega) B ps ps.length cp rfl hps21 (HPT.out.below hw) (by have := HL.out; omega)))
        have HLD := Aside0.mk (fun (W' : World) (hB : Below W6.heap.size W6 W') => (dig_at hdl hdb HD6.out hB).1)
        have HCK := Aside0.mk (fun (W' : World) (hB : Below W6.heap.size W6 W') => (show Calls Tryd.prog 20 #[.slice (some ⟨D, 0, none⟩) 32 32, .slice A key.length c, .slice B ps.length cp] W' (fun e w' => e = .returned (.bool true) ∧ Below W'.heap.size W' w') from by
          have hw := HB6.out.trans (hB.mono HB6.out.size)
          have htx := (dig_at hdl hdb HD6.out hB).2
          have h := check_calls W' (HR.out.below hw) (HCU.out.below hw) (some ⟨D, 0, none⟩) 32 d (by rw [hdl]; exact htx) A c key (HK.out.below hw) (by omega) B ps ps.length cp rfl hps21 (HPT.out.below hw) (by have := HL.out; omega)
          rw [hdl, ← hd, beq_self_eq_true] at h
          exact h))
        clear hst hd hW6 hD hb4 hB4 HM1 HT1 hps21
        go_wp2_with (first | (refine store_whole (s := .tmp 8) rfl rfl rfl rfl HST.out ?_))
        rw [← show W6 = (W4.alloc (.cells zero32 25)).setRow W4.heap.size (cellsB d) from HW6.out, ← show D = W4.heap.size from HDe.out]
        clear HW6 HST HDe
        refine start_ (n := 12) (S := fun w' => Below W6.heap.size W6 w') (ds := []) #[false, false, false, false, false, false, false, false, false, false, false, false] (by kernel_rfl) rfl rfl (below_drew1 (Below.refl _ _)) (fun hHeld => ?_)
        refine pure_ (i := 0) (N := some 37) (v := ?_) (a' := ?_) #[true, false, false, false, false, false, false, false, false, false, false, false] rfl rfl (by kernel_rfl) (fun _ _ _ h => h) (Or.inl ⟨by rfl, ?_⟩) ?_ ?_
        rotate_left
        · intro w'
          go_simp
          with_reducible rfl
        rotate_left
        · simp only [Act.put, List.setIfInBounds_toArray, List.set_cons_zero, List.set_cons_succ, i64_w, i32_w]
          rfl
        refine pure_ (i := 1) (N := some 38) (v := ?_) (a' := ?_) #[true, true, false, false, false, false, false, false, false, false, false, false] rfl rfl (by kernel_rfl) (fun _ _ _ h => h) (Or.inl ⟨by rfl, ?_⟩) ?_ ?_
        rotate_left
        · intro w'
          go_simp
          with_reducible rfl
        rotate_left
        · simp only [Act.put, List.setIfInBounds_toArray, List.set_cons_zero, List.set_cons_succ, i64_w, i32_w]
          rfl
        refine join_ (σ := Unit) 8 #[true, true, true, true, false, false, false, false, false, false, false, false] (fun _ => [(39, .agg (cellsB d)), (40, .agg (cellsB d))]) (fun _ w' => Below W6.heap.size W6 w') ?_ ?_
        rotate_left
        · intro hCont
          refine two_ (i := 2) (j := 3) (Ni := some 39) (Nj := some 40) #[true, true, true, false, false, false, false, false, false, false, false, false] #[true, true, false, true, false, false, false, false, false, false, false, false] rfl rfl rfl rfl (by kernel_rfl) (by decide) (by decide) (fun K hK => ?_) (fun K hK => ?_)
          · skip
            refine goes_ Tryd.func19 (by kernel_rfl) rfl #[.slice A key.length c, .slice B ps.length cp] (by rfl) rfl rfl (by first | rfl | (simp only [List.map_toArray, List.map_cons, List.map_nil]; rfl)) ?_
            with_reducible refine (HM.out _ hHeld).mono ?_
            rintro e w7 ⟨rfl, hb7⟩
            refine ⟨_, rfl, ?_⟩
            refine hK.out _ _ (hHeld.trans (hb7.mono hHeld.size)) (fun hHeld => ?_)
            clear hK K
            refine norm_ (a' := ?_) ?_ ?_
            rotate_left
            · show Act.put _ (some 39) _ = _
              simp only [Act.put, List.setIfInBounds_toArray, List.set_cons_zero, List.set_cons_succ, i64_w, i32_w]
              rfl
            refine one_ (i := 3) (N := some 40) #[true, true, true, true, false, false, false, false, false, false, false, false] rfl rfl (by kernel_rfl) (by decide) (fun K hK => ?_)
            refine value_ (v := .agg (cellsB d)) (by rfl) rfl (load_run rfl rfl (HLD.out _ hHeld)) ?_
            refine hK.out _ _ (hHeld) (fun hHeld => ?_)
            clear hK K
            refine norm_ (a' := ?_) ?_ ?_
            rotate_left
            · show Act.put _ (some 40) _ = _
              simp only [Act.put, List.setIfInBounds_toArray, List.set_cons_zero, List.set_cons_succ, i64_w, i32_w]
              rfl
            exact norm_ (by simp only [putAll, Act.put, List.setIfInBounds_toArray, List.set_cons_zero, List.set_cons_succ]) (hCont () _ hHeld)
          · skip
            refine value_ (v := .agg (cellsB d)) (by rfl) rfl (load_run rfl rfl (HLD.out _ hHeld)) ?_
            refine hK.out _ _ (hHeld) (fun hHeld => ?_)
            clear hK K
            refine norm_ (a' := ?_) ?_ ?_
            rotate_left
            · show Act.put _ (some 40) _ = _
              simp only [Act.put, List.setIfInBounds_toArray, List.set_cons_zero, List.set_cons_succ, i64_w, i32_w]
              rfl
            refine one_ (i := 2) (N := some 39) #[true, true, true, true, false, false, false, false, false, false, false, false] rfl rfl (by kernel_rfl) (by decide) (fun K hK => ?_)
            refine goes_ Tryd.func19 (by kernel_rfl) rfl #[.slice A key.length c, .slice B ps.length cp] (by rfl) rfl rfl (by first | rfl | (simp only [List.map_toArray, List.map_cons, List.map_nil]; rfl)) ?_
            with_reducible refine (HM.out _ hHeld).mono ?_
            rintro e w7 ⟨rfl, hb7⟩
            refine ⟨_, rfl, ?_⟩
            refine hK.out _ _ (hHeld.trans (hb7.mono hHeld.size)) (fun hHeld => ?_)
            clear hK K
            refine norm_ (a' := ?_) ?_ ?_
            rotate_left
            · show Act.put _ (some 39) _ = _
              simp only [Act.put, List.setIfInBounds_toArray, List.set_cons_zero, List.set_cons_succ, i64_w, i32_w]
              rfl
            exact norm_ (by simp only [putAll, Act.put, List.setIfInBounds_toArray, List.set_cons_zero, List.set_cons_succ]) (hCont () _ hHeld)
        rintro _ w7 hHeld
        refine norm_ (a' := ?_) ?_ ?_
        rotate_left
        · simp only [putAll, Act.put, List.setIfInBounds_toArray, List.set_cons_zero, List.set_cons_succ]
          rfl
        refine pure_ (i := 4) (N := some 41) (v := ?_) (a' := ?_) #[true, true, true, true, true, false, false, false, false, false, false, false] rfl rfl (by kernel_rfl) (fun _ _ _ h => h) (Or.inl ⟨by rfl, ?_⟩) ?_ ?_
        rotate_left
        · intro w'
          go_simp
          with_reducible rfl
        rotate_left
        · simp only [Act.put, List.setIfInBounds_toArray, List.set_cons_zero, List.set_cons_succ, i64_w, i32_w]
          rfl
        refine pure_ (i := 5) (N := some 42) (v := ?_) (a' := ?_) #[true, true, true, true, true, true, false, false, false, false, false, false] rfl rfl (by kernel_rfl) (fun _ _ _ h => h) (Or.inl ⟨by rfl, ?_⟩) ?_ ?_
        rotate_left
        · intro w'
          go_simp
          with_reducible rfl
        rotate_left
        · simp only [Act.put, List.setIfInBounds_toArray, List.set_cons_zero, List.set_cons_succ, i64_w, i32_w]
          rfl
        refine pure_ (i := 6) (N := some 43) (v := ?_) (a' := ?_) #[true, true, true, true, true, true, true, false, false, false, false, false] rfl rfl (by kernel_rfl) (fun _ _ _ h => h) (Or.inl ⟨by rfl, ?_⟩) ?_ ?_
        rotate_left
        · intro w'
          go_simp
          with_reducible rfl
        rotate_left
        · simp only [Act.put, List.setIfInBounds_toArray, List.set_cons_zero, List.set_cons_succ, i64_w, i32_w]
          rfl
        refine pure_ (i := 7) (N := some 44) (v := ?_) (a' := ?_) #[true, true, true, true, true, true, true, true, false, false, false, false] rfl rfl (by kernel_rfl) (fun _ _ _ h => h) (Or.inl ⟨by rfl, ?_⟩) ?_ ?_
        rotate_left
        · intro w'
          go_simp
          with_reducible rfl
        rotate_left
        · simp only [Act.put, List.setIfInBounds_toArray, List.set_cons_zero, List.set_cons_succ, i64_w, i32_w]
          rfl
        refine pure_ (i := 8) (N := some 45) (v := ?_) (a' := ?_) #[true, true, true, true, true, true, true, true, true, false, false, false] rfl rfl (by kernel_rfl) (fun _ _ _ h => h) (Or.inl ⟨by rfl, ?_⟩) ?_ ?_
        rotate_left
        · intro w'
          go_simp
          with_reducible rfl
        rotate_left
        · simp only [Act.put, List.setIfInBounds_toArray, List.set_cons_zero, List.set_cons_succ, i64_w, i32_w]
          rfl
        refine one_ (i := 9) (N := some 46) #[true, true, true, true, true, true, true, true, true, true, false, false] rfl rfl (by kernel_rfl) (by decide) (fun K hK => ?_)
        refine goes_ Tryd.func20 (by kernel_rfl) rfl #[.slice (some ⟨D, 0, none⟩) 32 32, .slice A key.length c, .slice B ps.length cp] (by rfl) rfl rfl (by first | rfl | (simp only [List.map_toArray, List.map_cons, List.map_nil]; rfl)) ?_
        with_reducible refine (HCK.out _ hHeld).mono ?_
        rintro e w8 ⟨rfl, hb8⟩
        refine ⟨_, rfl, ?_⟩
        refine hK.out _ _ (hHeld.trans (hb8.mono hHeld.size)) (fun hHeld => ?_)
        clear hK K
        refine norm_ (a' := ?_) ?_ ?_
        rotate_left
        · show Act.put _ (some 46) _ = _
          simp only [Act.put, List.setIfInBounds_toArray, List.set_cons_zero, List.set_cons_succ, i64_w, i32_w]
          rfl
        refine pure_ (i := 10) (N := some 47) (v := ?_) (a' := ?_) #[true, true, true, true, true, true, true, true, true, true, true, false] rfl rfl (by kernel_rfl) (fun _ _ _ h => h) (Or.inl ⟨by rfl, ?_⟩) ?_ ?_
        rotate_left
        · intro w'
          go_simp
          with_reducible rfl
        rotate_left
        · simp only [Act.put, List.setIfInBounds_toArray, List.set_cons_zero, List.set_cons_succ, i64_w, i32_w]
          rfl
        refine pure_ (i := 11) (N := some 4) (v := ?_) (a' := ?_) #[true, true, true, true, true, true, true, true, true, true, true, true] rfl rfl (by kernel_rfl) (fun _ _ _ h => h) (Or.inl ⟨by rfl, ?_⟩) ?_ ?_
        rotate_left
        · intro w'
          go_simp
          with_reducible rfl
        rotate_left
        · simp only [Act.put, List.setIfInBounds_toArray, List.set_cons_zero, List.set_cons_succ, i64_w, i32_w]
          rfl
        refine done_ (by kernel_rfl) ?_
        go_wp2_with fail
        go_ret
        exact ⟨rfl, HB6.out.trans (hHeld.mono HB6.out.size)⟩
theorem macParts_walk (W : World) (A0 : Option Addr) (c0 : Nat) (l0 : (List Int)) (A1 : Option Addr) (c1 : Nat) (l1 : (List (List Int))) (hc0 : l0.length ≤ c0) (hr0 : Kd.C (Kd.int .u8) W A0 l0.length l0) (w0 : (∀ zl0 ∈ l0, (Lit.int .u8 zl0).wf = true)) (hc1 : l1.length ≤ c1) (hr1 : Kd.C (Kd.slice 5 (Kd.int .u8)) W A1 l1.length l1) (w1 : (∀ zl1 ∈ l1, (∀ zzl1 ∈ zl1, (Lit.int .u8 zzl1).wf = true))) (hL : laidMetH Tryd.prog [("weftline/sha.roots", Rows.laid_weftline_sha_roots), ("weftline/sha.cubes", Rows.laid_weftline_sha_cubes)] W) :
    Calls Tryd.prog 8 #[.slice A0 l0.length c0, .slice A1 l1.length c1] W fun e w' => e = .returned (.bool true) ∧ Below W.heap.size W w' := by
  obtain ⟨hr, hcu⟩ := tabs_of hL
  exact macParts_main W hr hcu A0 c0 l0 hc0 hr0 (bytes_of_wf w0) A1 c1 l1 hr1 (prt_bytes (fun p hp => bytes_of_wf (w1 p hp)))
end Go.Proofs.YtjmgeelblodcgaaDoor.Sx
