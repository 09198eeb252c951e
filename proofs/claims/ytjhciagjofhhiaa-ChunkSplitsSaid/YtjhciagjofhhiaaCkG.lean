import Derived.Test.YtjhciagjofhhiaaCkD
import Derived.Test.YtjhciagjofhhiaaCkE
import Derived.Test.YtjhciagjofhhiaaPCkx20
import Derived.Deep.MidRow
/- chunk: Read of the example's bytes; alive. -/
namespace Go.Proofs.Ytjhciagjofhhiaa.Ck
open Go.RowKit Go.Proofs.YtjhciagjofhhiaaW.PrintWords Go.Proofs.YtjhciagjofhhiaaW.PrintLast Go.Proofs.YtjhciagjofhhiaaW.PrintMore Go.Proofs.Ytjhciagjofhhiaa.Sh Go.Proofs.Ytjhciagjofhhiaa.Tl Go.Proofs.Ytjhciagjofhhiaa.PCk
set_option linter.unusedVariables false
set_option linter.unusedSimpArgs false
/-- The reader's box. -/
abbrev RO (p : Nat) : Obj := .cells #[.pointer (some ⟨p, 0, none⟩), .int .i64 11, .int .u32 0, .int .u16 0, .int .u16 0, .bool false, .bool false, .bool false, nilS, .int .u32 0, .int .i64 0, .int .i64 0, .int .i64 0, .int .u32 0, nilS, nilS, nilS, nilS, nilS, .int .i64 0, .int .u32 0, nilS, .bool false] 133 (0, 0)
theorem ro_two {w : World} {g p : Nat} (h : w.heap[g]? = some (RO p)) : w.cell? ⟨g, 0, none⟩ = some (.pointer (some ⟨p, 0, none⟩)) ∧ w.cell? ⟨g, 1, none⟩ = some (.int .i64 11) := ⟨(blk_cell h 0).trans rfl, (blk_cell h 1).trans rfl⟩
theorem ro_range {w : World} {g p : Nat} (h : w.heap[g]? = some (RO p)) : w.rangeAt g 1 [.int .i64 11, .int .u32 0, .int .u16 0, .int .u16 0, .bool false, .bool false, .bool false, nilS, .int .u32 0, .int .i64 0, .int .i64 0, .int .i64 0, .int .u32 0, nilS, nilS, nilS, nilS, nilS, .int .i64 0, .int .u32 0, nilS, .bool false] := by
  intro j v hv
  refine (blk_cell h (1 + j)).trans ?_
  rw [Nat.add_comm 1 j, List.getElem?_toArray, List.getElem?_cons_succ]
  exact hv
theorem ro_load {w : World} {g p : Nat} (h : w.heap[g]? = some (RO p)) : (loadVar 89 ⟨g, 1, none⟩).run Try.prog w = .ok (KC 11) w :=
  run_loadVar_mid w g 1 89 [.int .i64 11, .int .u32 0, .int .u16 0, .int .u16 0, .bool false, .bool false, .bool false, nilS, .int .u32 0, .int .i64 0, .int .i64 0, .int .i64 0, .int .u32 0, nilS, nilS, nilS, nilS, nilS, .int .i64 0, .int .u32 0, nilS, .bool false] _ (ro_range h) Try.underlying89 rfl info89
theorem load_off {P : Program} {ops : Array Oper} {rest : List Oper} {o : Oper} {a : Act} {Q : Exit → Act → World → Prop} {W : World} {t : TypeId} {s : Operand} {g k : Nat} {v : Value} (hgd : o.guard = none) (ho : o.op = .load t s) (hs : a.eval s = .pointer (some ⟨g, k, none⟩)) (hl : (loadVar t ⟨g, k, none⟩).run P W = .ok v W) (h : wpList P ops Q rest (a.put o.dst v) W) : wpList P ops Q (o :: rest) a W := by
  refine Kd.event_run hgd ?_ h
  unfold execOp
  simp only [ho, hs, Instr.loadAt, Instr.sureAddr, Sem.run_bind, Sem.run_pure, Result.andThen_ok, hl]
set_option maxRecDepth 100000 in
theorem value_11 (w : World) (g p : Nat) (f : Int) (h : w.heap[g]? = some (RO p)) : Calls Try.prog 75 #[.pointer (some ⟨g, 0, none⟩), .int .i64 f] w fun e w' => (∃ u, e = .returned u) ∧ w = w' := by
  have hx := ro_two h
  clear h
  go_enter Try.func75, Try.ntmps75
  go_wp2_with fail
  go_end0
  exact ⟨⟨_, rfl⟩, rfl⟩
theorem eq_self (w : World) (A : Option Addr) (c : Nat) (A2 : Option Addr) (c2 : Nat) (hC : Kd.C (Kd.int .u8) w A 4 [11, 0, 0, 4]) (hc : 4 ≤ c) (hC2 : Kd.C (Kd.int .u8) w A2 4 [11, 0, 0, 4]) (hc2 : 4 ≤ c2) : Calls Try.prog 77 #[.slice A 4 c, .slice A2 4 c2] w fun e w' => e = .returned (.bool true) ∧ Drawn0 w w' :=
  slices_Equal_byte_byte.calls 10 A c [11, 0, 0, 4] A2 c2 [11, 0, 0, 4] true w hC hc hC2 hc2 (by simp [slices_Equal_byte_byte.f, slices_Equal_byte_byte.l0, rd, wrap64])
abbrev B4 : List Int := [11, 0, 0, 4]
theorem ok4 : okS B4 := ⟨by decide, by decide, by decide, by unfold zeros; decide⟩
theorem all4 : allOf B4 = 4 := by decide
theorem nums4 : nmV B4 ⟨0, false⟩ 1 = 11 ∧ nmS B4 ⟨0, false⟩ 1 = ⟨1, false⟩ ∧ nmV B4 ⟨1, false⟩ 1 = 0 ∧ nmS B4 ⟨1, false⟩ 1 = ⟨2, false⟩ ∧ nmV B4 ⟨2, false⟩ 2 = 4 := by
  refine ⟨?_, (nm_one_yes (b := B4) (a := 0) (by decide)).1, ?_, (nm_one_yes (b := B4) (a := 1) (by decide)).1, ?_⟩
  · rw [(nm_one_yes (b := B4) (a := 0) (by decide)).2]; rfl
  · rw [(nm_one_yes (b := B4) (a := 1) (by decide)).2]; rfl
  · rw [(nm_two_yes (b := B4) (a := 2) (by decide)).2]; rfl
theorem bytes4 : Bytes B4 := by
  intro x hx
  simp at hx
  omega
set_option maxRecDepth 100000 in
set_option maxHeartbeats 4000000 in
theorem read_11 (w : World) (A : Option Addr) (c : Nat) (hc : 4 ≤ c) (hC : Kd.C (Kd.int .u8) w A 4 B4) : Calls Try.prog 48 #[.slice A 4 c] w fun e w' => e = .returned (.tuple #[KC 11, .nilIface]) ∧ Below w.heap.size w w' := by
  have HC := Aside0.mk (And.intro hc hC)
  have HX1 := Aside0.mk (blk_new w (KO 0))
  have HB1 := Aside0.mk ((Below.refl w.heap.size w).alloc (Nat.le_refl _) (KO 0))
  clear hc hC
  go_enter Try.func48, Try.ntmps48
  go_wp2_with fail
  refine (split_calls _ A c B4 HC.out.1 (Kd.C_below HC.out.2 HB1.out) (by decide) bytes4).mono ?_
  rintro e w2 ⟨hb2, h2⟩
  have HX2 := Aside0.mk (blk_below HX1.out hb2)
  have HB2 := Aside0.mk (below_step HB1.out hb2)
  rcases h2 with ⟨h, _⟩ | ⟨_, h, _⟩ | ⟨_, A3, c3, A4, c4, rfl, hR3, hR4, _⟩
  · exact absurd h (by decide)
  · exact absurd ok4 h
  · simp only [all4, show B4.take 4 = B4 from rfl, show B4.drop 4 = [] from rfl, show B4.getD 0 0 = (11 : Int) from rfl, show B4.length = 4 from rfl, List.length_nil] at hR3 hR4 ⊢
    have HR3 := Aside0.mk (show 4 ≤ c3 ∧ Kd.C (Kd.int .u8) w2 A3 4 B4 from (Kd.R_reads' hR3).2)
    clear hR3 hR4 hb2
    go_wp2_with fail
    refine (known_11 _).mono ?_
    rintro e w3 ⟨rfl, hb3⟩
    have HX3 := Aside0.mk (blk_below HX2.out hb3)
    have HB3 := Aside0.mk (below_step HB2.out hb3)
    have HC3 := Aside0.mk (Kd.C_below HR3.out.2 hb3)
    clear hb3
    go_wp2_with fail
    refine (read_calls w3 A3 c3 B4 HR3.out.1 HC3.out (by decide) bytes4).mono ?_
    rintro e w4 ⟨p, v, rfl, hI4, hb4⟩
    have HW4 := Aside0.mk hb4
    have HI4 := Aside0.mk hI4
    clear hI4 hb4
    go_wp2_with fail
    refine (inum_calls HI4.out 1).mono ?_
    rintro e w5 ⟨rfl, hI5⟩
    rw [nums4.2.1] at hI5
    rw [nums4.1]
    have HI5 := Aside0.mk hI5.1
    have HW5 := Aside0.mk (HW4.out.trans (hI5.2.below HI4.out.1 HW4.out.size))
    clear hI5
    go_wp2_with fail
    refine (inum_calls HI5.out 1).mono ?_
    rintro e w6 ⟨rfl, hI6⟩
    rw [nums4.2.2.2.1] at hI6
    rw [nums4.2.2.1]
    have HI6 := Aside0.mk hI6.1
    have HW6 := Aside0.mk (HW5.out.trans (hI6.2.below HI5.out.1 HW5.out.size))
    clear hI6
    go_wp2_with fail
    refine (inum_calls HI6.out 2).mono ?_
    rintro e w7 ⟨rfl, hI7⟩
    rw [nums4.2.2.2.2]
    have HW7 := Aside0.mk (HW6.out.trans (hI7.2.below HI6.out.1 HW6.out.size))
    clear hI7 HI4 HI5 HI6 HW4 HW5 HW6
    obtain ⟨i0, hi0, _, hsz, _⟩ := info_parts info5
    obtain ⟨A6, hrun, _, _⟩ := print_mid_int (P := Try.prog) (k := .u8) 26 5 Try.underlying26 hi0 hsz A3 c3 B4 4 4 (by decide) (by decide) (by decide) HR3.out.1
    have hrun2 : ∀ W : World, (Instr.slice 26 (.slice A3 4 c3) (some (.int .i64 4)) (some (.int .i64 4)) none).run Try.prog W = .ok (.slice A6 0 (c3 - 4)) W := hrun
    clear hrun hi0 hsz
    go_wp2_with fail
    refine (read_calls w7 A6 (c3 - 4) [] (Nat.zero_le _) (c_none _ _) (by decide) (fun x hx => by simp at hx)).mono ?_
    rintro e w8 ⟨p2, v2, rfl, hI8, hb8⟩
    have HW8 := Aside0.mk (below_step HW7.out hb8)
    have HW9 := Aside0.mk (HW8.out.alloc HW8.out.size (RO p2))
    have HI9 := Aside0.mk (hI8.below ((Below.refl w8.heap.size w8).alloc (Nat.le_refl _) (RO p2)))
    have HR9 := Aside0.mk (blk_new w8 (RO p2))
    have HP9 := Aside0.mk (show w8.heap.size ≠ p2 from by have := hI8.lt; omega)
    have HV8 := Aside0.mk (value_11 (w8.alloc (RO p2)) w8.heap.size p2 0 (blk_new w8 (RO p2)))
    clear hI8 hb8 hrun2
    go_wp2_with fail
    refine HV8.out.mono ?_
    rintro e wx ⟨⟨u9, rfl⟩, rfl⟩
    generalize w8.alloc (RO p2) = w9 at HW9 HI9 HR9 ⊢
    obtain ⟨g, hg⟩ : ∃ g, g = w8.heap.size := ⟨_, rfl⟩
    rw [← hg] at HR9 HP9 ⊢
    clear hg HV8
    have hbd := pw_below_drewN (Below.refl w9.heap.size w9) 1
    have HId := Aside0.mk (show InAt w9.drew w7.heap.size p2 v2 [] ⟨0, false⟩ from HI9.out.below hbd)
    have HRd := Aside0.mk (show w9.drew.heap[g]? = some (RO p2) from blk_below HR9.out hbd)
    have HWd := Aside0.mk (show Below w3.heap.size w3 w9.drew from below_drew1 HW9.out)
    clear hbd
    have HLf : Aside0 (Calls Try.prog 26 #[.pointer (some ⟨p2, 0, none⟩)] w9.drew fun e w' => e = .returned (.int .i64 0) ∧ ∃ m, w' = w9.drew.drewN m) := ⟨left_calls HId.out⟩
    have HTk : Aside0 (∀ m, Calls Try.prog 23 #[.pointer (some ⟨p2, 0, none⟩), .int .i64 0] (w9.drew.drewN m) fun e w' => ∃ A c, e = .returned (.slice A 0 c) ∧ Only (w9.drew.drewN m) w' p2) := ⟨fun m => (take_calls (HId.out.drewN m) 0).mono (fun e w' ⟨A, c, he, hR, hI⟩ => by
      have h0 : (tkL [] ⟨0, false⟩ 0).length = 0 := by unfold tkL; split <;> simp
      rw [h0] at he
      exact ⟨A, c, he, hI.2⟩)⟩
    have HPr : Aside0 (∀ (wy : World) (A : Option Addr) (c : Nat), Calls Try.prog 31 #[.slice A 0 c] wy fun e w' => (∃ A5 c5, e = .returned (.tuple #[.slice A5 0 c5, .nilIface])) ∧ Below wy.heap.size wy w') := ⟨fun wy A c => (params_calls wy A c [] (Nat.zero_le _) (c_none _ _) (by decide) (fun x hx => by simp at hx)).mono (fun e w' ⟨hB, h⟩ => by
      rcases h with ⟨ps, v, hps, he, hP⟩ | ⟨hps, _⟩
      · have h1 : ps = [] := by
          have h2 := prs_nil 0
          rw [show ([] : List Int).length + 1 = 0 + 1 from rfl, h2] at hps
          injection hps with hps
          exact hps.symm
        subst h1
        obtain ⟨A5, c5, rfl⟩ := Kd.R_slice hP
        exact ⟨⟨A5, c5, he⟩, hB⟩
      · rw [show ([] : List Int).length + 1 = 0 + 1 from rfl, prs_nil 0] at hps
        cases hps)⟩
    have hxd := (ro_two HRd.out).1
    go_wp2_with fail
    refine start_ (n := 16) (S := fun w' => w'.cell? ⟨g, 0, none⟩ = some (.pointer (some ⟨p2, 0, none⟩))) (ds := [9, 10]) #[false, false, false, false, false, false, false, false, false, false, false, false, false, false, false, false] (by kernel_rfl) rfl rfl (hxd) (fun hHeld => ?_)
    refine pure_ (i := 0) (N := some 60) (v := ?_) (a' := ?_) #[true, false, false, false, false, false, false, false, false, false, false, false, false, false, false, false] rfl rfl (by kernel_rfl) (fun _ _ _ h => h) (Or.inl ⟨by rfl, ?_⟩) ?_ ?_
    rotate_left
    · intro w'
      go_simp
      with_reducible rfl
    rotate_left
    · simp only [Act.put, List.setIfInBounds_toArray, List.set_cons_zero, List.set_cons_succ, i64_w, i32_w]
      rfl
    refine pure_ (i := 1) (N := some 61) (v := ?_) (a' := ?_) #[true, true, false, false, false, false, false, false, false, false, false, false, false, false, false, false] rfl rfl (by kernel_rfl) (fun _ _ _ h => h) (Or.inl ⟨by rfl, ?_⟩) ?_ ?_
    rotate_left
    · intro w'
      go_simp
      with_reducible rfl
    rotate_left
    · simp only [Act.put, List.setIfInBounds_toArray, List.set_cons_zero, List.set_cons_succ, i64_w, i32_w]
      rfl
    refine pure_ (i := 2) (N := some 62) (v := ?_) (a' := ?_) #[true, true, true, false, false, false, false, false, false, false, false, false, false, false, false, false] rfl rfl (by kernel_rfl) (fun _ _ _ h => h) (Or.inl ⟨by rfl, ?_⟩) ?_ ?_
    rotate_left
    · intro w'
      go_simp
      with_reducible rfl
    rotate_left
    · simp only [Act.put, List.setIfInBounds_toArray, List.set_cons_zero, List.set_cons_succ, i64_w, i32_w]
      rfl
    refine pure_ (i := 4) (N := some 64) (v := ?_) (a' := ?_) #[true, true, true, false, true, false, false, false, false, false, false, false, false, false, false, false] rfl rfl (by kernel_rfl) (fun _ _ _ h => h) (Or.inl ⟨by rfl, ?_⟩) ?_ ?_
    rotate_left
    · intro w'
      go_simp
      with_reducible rfl
    rotate_left
    · simp only [Act.put, List.setIfInBounds_toArray, List.set_cons_zero, List.set_cons_succ, i64_w, i32_w]
      rfl
    refine pure_ (i := 5) (N := some 65) (v := ?_) (a' := ?_) #[true, true, true, false, true, true, false, false, false, false, false, false, false, false, false, false] rfl rfl (by kernel_rfl) (fun _ _ _ h => h) (Or.inl ⟨by rfl, ?_⟩) ?_ ?_
    rotate_left
    · intro w'
      go_simp
      with_reducible rfl
    rotate_left
    · simp only [Act.put, List.setIfInBounds_toArray, List.set_cons_zero, List.set_cons_succ, i64_w, i32_w]
      rfl
    refine pure_ (i := 6) (N := some 66) (v := ?_) (a' := ?_) #[true, true, true, false, true, true, true, false, false, false, false, false, false, false, false, false] rfl rfl (by kernel_rfl) (fun _ _ _ h => h) (Or.inl ⟨by rfl, ?_⟩) ?_ ?_
    rotate_left
    · intro w'
      go_simp
      with_reducible rfl
    rotate_left
    · simp only [Act.put, List.setIfInBounds_toArray, List.set_cons_zero, List.set_cons_succ, i64_w, i32_w]
      rfl
    refine take_ (i := 3) (N := some 63) (v := ?_) (a' := ?_) #[true, true, true, true, true, true, true, false, false, false, false, false, false, false, false, false] rfl rfl (by kernel_rfl) (fun _ _ _ h => h) (Or.inl ⟨by rfl, ?_⟩) hHeld ?_ ?_
    rotate_left
    · intro w' s0
      go_simp
      with_reducible rfl
    rotate_left
    · simp only [Act.put, List.setIfInBounds_toArray, List.set_cons_zero, List.set_cons_succ, i64_w, i32_w]
      rfl
    refine take_ (i := 7) (N := some 67) (v := ?_) (a' := ?_) #[true, true, true, true, true, true, true, true, false, false, false, false, false, false, false, false] rfl rfl (by kernel_rfl) (fun _ _ _ h => h) (Or.inl ⟨by rfl, ?_⟩) hHeld ?_ ?_
    rotate_left
    · intro w' s0
      go_simp
      with_reducible rfl
    rotate_left
    · simp only [Act.put, List.setIfInBounds_toArray, List.set_cons_zero, List.set_cons_succ, i64_w, i32_w]
      rfl
    refine one_ (i := 8) (N := some 68) #[true, true, true, true, true, true, true, true, true, false, false, false, false, false, false, false] rfl rfl (by kernel_rfl) (by decide) (fun K hK => ?_)
    refine goes_ Try.func26 (by kernel_rfl) rfl #[.pointer (some ⟨p2, 0, none⟩)] (by rfl) rfl rfl (by first | rfl | (simp only [List.map_toArray, List.map_cons, List.map_nil]; rfl)) ?_
    with_reducible refine (HLf.out).mono ?_
    rintro e wy ⟨rfl, m1, rfl⟩
    refine ⟨_, rfl, ?_⟩
    refine hK.out _ _ (hHeld) (fun hHeld => ?_)
    clear hK K
    refine norm_ (a' := ?_) ?_ ?_
    rotate_left
    · show Act.put _ (some 68) _ = _
      simp only [Act.put, List.setIfInBounds_toArray, List.set_cons_zero, List.set_cons_succ, i64_w, i32_w]
      rfl
    refine last_ (i := 9) (N := some 69) #[true, true, true, true, true, true, true, true, true, true, false, false, false, false, false, false] rfl rfl (by kernel_rfl) (by decide) (fun K hK => ?_)
    refine goes_ Try.func23 (by kernel_rfl) rfl #[.pointer (some ⟨p2, 0, none⟩), .int .i64 0] (by rfl) rfl rfl (by first | rfl | (simp only [List.map_toArray, List.map_cons, List.map_nil]; rfl)) ?_
    with_reducible refine (HTk.out m1).mono ?_
    rintro e wt ⟨A10, c10, rfl, hOt⟩
    have HOt := Aside0.mk hOt
    clear hOt
    refine ⟨_, rfl, ?_⟩
    refine hK.out _ _ ?_
    clear hK K
    refine norm_ (a' := ?_) ?_ ?_
    rotate_left
    · show Act.put _ (some 69) _ = _
      simp only [Act.put, List.setIfInBounds_toArray, List.set_cons_zero, List.set_cons_succ, i64_w, i32_w]
      rfl
    refine last_ (i := 10) (N := some 70) #[true, true, true, true, true, true, true, true, true, true, true, false, false, false, false, false] rfl rfl (by kernel_rfl) (by decide) (fun K hK => ?_)
    refine goes_ Try.func31 (by kernel_rfl) rfl #[.slice A10 0 c10] (by rfl) rfl rfl (by first | rfl | (simp only [List.map_toArray, List.map_cons, List.map_nil]; rfl)) ?_
    with_reducible refine (HPr.out _ A10 c10).mono ?_
    rintro e wp ⟨⟨A11, c11, rfl⟩, hbp⟩
    have HBp := Aside0.mk hbp
    clear hbp
    refine ⟨_, rfl, ?_⟩
    refine hK.out _ _ ?_
    clear hK K
    refine norm_ (a' := ?_) ?_ ?_
    rotate_left
    · show Act.put _ (some 70) _ = _
      simp only [Act.put, List.setIfInBounds_toArray, List.set_cons_zero, List.set_cons_succ, i64_w, i32_w]
      rfl
    refine pure_ (i := 11) (N := some 59) (v := ?_) (a' := ?_) #[true, true, true, true, true, true, true, true, true, true, true, true, false, false, false, false] rfl rfl (by kernel_rfl) (fun _ _ _ h => h) (Or.inl ⟨by rfl, ?_⟩) ?_ ?_
    rotate_left
    · intro w'
      go_simp
      with_reducible rfl
    rotate_left
    · simp only [Act.put, List.setIfInBounds_toArray, List.set_cons_zero, List.set_cons_succ, i64_w, i32_w]
      rfl
    refine pure_ (i := 12) (N := some 71) (v := ?_) (a' := ?_) #[true, true, true, true, true, true, true, true, true, true, true, true, true, false, false, false] rfl rfl (by kernel_rfl) (fun _ _ _ h => h) (Or.inl ⟨by rfl, ?_⟩) ?_ ?_
    rotate_left
    · intro w'
      go_simp
      with_reducible rfl
    rotate_left
    · simp only [Act.put, List.setIfInBounds_toArray, List.set_cons_zero, List.set_cons_succ, i64_w, i32_w]
      rfl
    refine pure_ (i := 13) (N := some 72) (v := ?_) (a' := ?_) #[true, true, true, true, true, true, true, true, true, true, true, true, true, true, false, false] rfl rfl (by kernel_rfl) (fun _ _ _ h => h) (Or.inl ⟨by rfl, ?_⟩) ?_ ?_
    rotate_left
    · intro w'
      go_simp
      with_reducible rfl
    rotate_left
    · simp only [Act.put, List.setIfInBounds_toArray, List.set_cons_zero, List.set_cons_succ, i64_w, i32_w]
      rfl
    refine pure_ (i := 14) (N := some 12) (v := ?_) (a' := ?_) #[true, true, true, true, true, true, true, true, true, true, true, true, true, true, true, false] rfl rfl (by kernel_rfl) (fun _ _ _ h => h) (Or.inl ⟨by rfl, ?_⟩) ?_ ?_
    rotate_left
    · intro w'
      go_simp
      with_reducible rfl
    rotate_left
    · simp only [Act.put, List.setIfInBounds_toArray, List.set_cons_zero, List.set_cons_succ, i64_w, i32_w]
      rfl
    refine pure_ (i := 15) (N := some 7) (v := ?_) (a' := ?_) #[true, true, true, true, true, true, true, true, true, true, true, true, true, true, true, true] rfl rfl (by kernel_rfl) (fun _ _ _ h => h) (Or.inl ⟨by rfl, ?_⟩) ?_ ?_
    rotate_left
    · intro w'
      go_simp
      with_reducible rfl
    rotate_left
    · simp only [Act.put, List.setIfInBounds_toArray, List.set_cons_zero, List.set_cons_succ, i64_w, i32_w]
      rfl
    refine done_ (by kernel_rfl) ?_
    have HRp := Aside0.mk (blk_below ((HOt.out.block g (blk_lt HRd.out) HP9.out).trans HRd.out) HBp.out)
    have HWp := Aside0.mk (below_step ((HWd.out.trans (pw_below_drewN (Below.refl w3.heap.size w9.drew) m1)).trans (HOt.out.below (Nat.le_trans HW7.out.size HId.out.1) HWd.out.size)) HBp.out)
    have HLp := Aside0.mk (ro_load HRp.out)
    clear HLf HTk HPr hxd HOt HBp
    go_wp2_with fail
    go_loopw [79] (fun i wr => i = .int .i64 0 ∧ wr = wp) (fun _ _ => 0)
    case atStart => exact ⟨rfl, rfl⟩
    case round =>
      obtain ⟨rfl, rfl⟩ := hrel
      go_wp2_with (first | ((with_reducible refine gate_dst (N := 91) rfl ?_); refine load_off rfl rfl rfl HLp.out ?_))
      refine (bytes_11 _).mono ?_
      rintro e wq ⟨Aq, cq, rfl, hRq, hbq⟩
      have HWq := Aside0.mk (below_step HWp.out hbq)
      have HRq := Aside0.mk (Kd.R_reads' hRq)
      have HROq := Aside0.mk (blk_below HRp.out hbq)
      clear hRq hbq
      go_wp2_with fail
      refine (eq_self _ Aq cq A c HRq.out.2.2 HRq.out.2.1 (Kd.C_below (Kd.C_below HC.out.2 HB3.out) HWq.out) HC.out.1).mono ?_
      rintro e wz ⟨rfl, hdz⟩
      have HWz := Aside0.mk (HWq.out.trans (hdz.below.mono HWq.out.size))
      have HLz := Aside0.mk (ro_load (blk_below HROq.out hdz.below))
      have HXz := Aside0.mk (blk_below HX3.out HWz.out)
      have HSz := Aside0.mk (store89 11 HXz.out)
      clear hdz
      go_wp2_with (first | ((with_reducible refine gate_dst (N := 108) rfl ?_); refine load_off rfl rfl rfl HLz.out ?_) | (with_reducible refine store_whole (s := .tmp 2) rfl rfl rfl rfl HSz.out.1 ?_))
      refine bodyPost_ret (results_ct rfl _ _ w.heap.size 89 (KL 11) (0, 0) _ rfl HSz.out.2 Try.underlying89 rfl info89) rfl ?_
      exact ⟨rfl, setRow_below _ (HB3.out.trans (HWz.out.mono HB3.out.size)) (Nat.le_refl _)⟩
end Go.Proofs.Ytjhciagjofhhiaa.Ck
