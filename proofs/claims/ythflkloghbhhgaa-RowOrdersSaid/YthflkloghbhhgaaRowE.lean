import Derived.Test.YthflkloghbhhgaaRowD
namespace Go.Proofs.Ythflkloghbhhgaa.Rw
open Go.RowKit Go.Proofs.YthflkloghbhhgaaW.PrintWords Go.Proofs.Ythflkloghbhhgaa.Sh Go.Proofs.Ythflkloghbhhgaa.PAll
set_option linter.unusedVariables false
set_option linter.unusedSimpArgs false
variable {p : Nat} {fr mo : Int} {v : Value} {xs : List Int} {w : World} {B : Nat}
theorem RowAt.two {v1 : Value} {ys : List Int} {fr' : Int} (h : RowAt w B p fr mo v xs) (hQ : (Kd.int .i64).Q 3 w B (fun _ => True) v1 ys) (m : Nat) :
    RowAt (((w.setCell ⟨p, 2, none⟩ v1).setCell ⟨p, 0, none⟩ (.int .u32 fr')).drewN m) B p fr' mo v1 ys ∧ RowAt (((w.setCell ⟨p, 0, none⟩ (.int .u32 fr')).setCell ⟨p, 2, none⟩ v1).drewN m) B p fr' mo v1 ys := by
  have hb := h.2.1
  have e1 := blk_put hb 2 v1 rfl
  have e2 := blk_put e1 0 (.int .u32 fr') rfl
  have e3 := blk_put hb 0 (.int .u32 fr') rfl
  have e4 := blk_put e3 2 v1 rfl
  exact ⟨⟨h.1, e2, Kd.Q_drewN (Kd.Q_set (Kd.Q_set hQ hb (by decide) 2 v1) e1 (by decide) 0 _) m⟩, ⟨h.1, e4, Kd.Q_drewN (Kd.Q_set (Kd.Q_set hQ hb (by decide) 0 _) e3 (by decide) 2 v1) m⟩⟩
theorem Chg.two (w : World) (p : Nat) (v u1 u2 : Value) (i j m : Nat) : Chg w (((w.setCell ⟨p, i, none⟩ u1).setCell ⟨p, j, none⟩ u2).drewN m) p v :=
  ⟨rfl, rfl, rfl, by simp, fun k hk hp hv => (Below.heap_setCell _ _ u2 k hp).trans (Below.heap_setCell w _ u1 k hp)⟩
set_option maxRecDepth 100000 in
theorem pop_row (h : RowAt w B p fr mo v xs) (hl : 0 < xs.length) (y : Int) (hy : xs.getD 0 0 = y) :
    Calls Try.prog 15 #[.pointer (some ⟨p, 0, none⟩)] w fun e w' => e = .returned (.tuple #[.int .i64 y, .nilIface]) ∧ ∃ v', RowAt w' B p ((fr + 1) % 4294967296) mo v' (xs.drop 1) ∧ Chg w w' p v ∧ (v'.ownBlock = v.ownBlock ∨ v'.ownBlock = none) := by
  obtain ⟨g, o, c, rfl, hgB, hglt, _⟩ := Kd.Q_form h.2.2 hl
  obtain ⟨hcell, _⟩ := Kd.Q_cell (d := (0 : Int)) h.2.2 0 (by omega) (by omega)
  have e1 : rdOf 0 xs 0 = y := hy
  rw [e1, show o + Int.toNat 0 = o from rfl] at hcell
  have H := Aside0.mk h
  have hb := cc3 h.2.1
  obtain ⟨i0, hi, _, hsz, _⟩ := info_parts info3
  have hcut := cut_from 25 3 .i64 Try.underlying25 hi 1 hsz (some ⟨g, o, none⟩) xs.length c 1 (by decide) (by omega)
  have hQ := Kd.Q_drop (k := 1) h.2.2 (by omega)
  obtain ⟨v', hv'⟩ : ∃ v', v' = Value.slice (if c = 1 then some ⟨g, o, none⟩ else (some (⟨g, o, none⟩ : Addr)).map (·.add (1 * 1))) (xs.length - 1) (c - 1) := ⟨_, rfl⟩
  have hown : v'.ownBlock = some g := by
    rw [hv']
    split <;> simp [Value.ownBlock, Addr.add]
  have hQ' : (Kd.int .i64).Q 3 w B (fun _ => True) v' (xs.drop 1) := by rw [hv']; exact hQ
  obtain ⟨A1, n1, c1, hform⟩ := q_form hQ'
  have hcut' : ∀ W : World, (Instr.slice 25 (.slice (some ⟨g, o, none⟩) xs.length c) (some (.int .i64 1)) none none).run Try.prog W = .ok (.slice A1 n1 c1) W := by
    intro W
    rw [← hform, hv']
    exact hcut W
  rw [hform] at hown hQ'
  have HQ := Aside0.mk hQ'
  have HO := Aside0.mk hown
  have H1 := Aside0.mk (len_row h)
  have hn : (((xs.length : Nat) : Int) == 0) = false := by rw [beq_eq_false_iff_ne]; omega
  have hl' : (0 : Int) < (xs.length : Int) := by omega
  clear h hcut hQ hv' hform hQ' hown hi hsz e1 hy
  go_enter Try.func15, Try.ntmps15
  go_wp2_with (first | (go_at_call 11; refine H1.out.mono ?_; rintro e w' ⟨rfl, rfl⟩))
  go_region_with (first | (go_at_call 31; refine (serial_Step_uint32.calls _ _ _ _ rfl).mono ?_; rintro e w' ⟨rfl, ⟨nd, rfl⟩⟩))
  all_goals go_wp2
  all_goals go_ret2
  all_goals refine ⟨rfl, .slice A1 n1 c1, ?_, ?_, Or.inl (HO.out.trans (by simp [Value.ownBlock]))⟩
  all_goals first | exact (H.out.two HQ.out _).1 | exact (H.out.two HQ.out _).2 | exact Chg.two w p _ _ _ _ _ _ | skip
end Go.Proofs.Ythflkloghbhhgaa.Rw
