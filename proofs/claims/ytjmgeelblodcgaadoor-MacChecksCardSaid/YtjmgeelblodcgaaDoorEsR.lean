import Derived.Test.YtjmgeelblodcgaaDoorEsQ
/- The walk of mac.Sum. -/
namespace Go.Proofs.YtjmgeelblodcgaaDoor.Sx
open Go.RowKit Go.Proofs.YtjmgeelblodcgaaDoorW.PrintWords Go.Proofs.YtjmgeelblodcgaaDoorW.PrintLast Go.Proofs.YtjmgeelblodcgaaDoorW.PrintMore Go.Proofs.YtjmgeelblodcgaaDoor.Sh
set_option linter.unusedVariables false
set_option linter.unusedSimpArgs false
/-- The tag of a text by a key. -/
def mac (key t : List Int) : List Int := hash (padT key 92 ++ hash (padT key 54 ++ t))
theorem mac_len (key t : List Int) : (mac key t).length = 32 := hash_len _
theorem mac_bytes (key t : List Int) : Bytes (mac key t) := hash_bytes _
theorem eqMac (key t : List Int) (w : World) : (Op.equalIn 10000 25 (.agg (cellsB (mac key t))) (.agg (cellsB (mac key t)))).run Tryd.prog w = .ok true w := eqHash _ w
theorem store_run {P : Program} {o : Oper} {a : Act} {W W1 : World} {t : TypeId} {s x : Operand} {g : Nat} {v : Value} (ho : o.op = .store t s x) (hs : a.eval s = .pointer (some ⟨g, 0, none⟩)) (hx : a.eval x = v) (hl : (storeVar t ⟨g, 0, none⟩ v).run P W = .ok () W1) : (execOp a.eval o).run P W = .ok .skip W1 := by
  unfold execOp
  simp only [ho, hs, hx, Instr.storeAt, Instr.sureAddr, Sem.run_bind, Sem.run_pure, Result.andThen_ok, hl]
set_option maxRecDepth 100000 in
set_option maxHeartbeats 2000000 in
theorem mac_calls (w : World) (hr : Roots w) (hcu : Cubes w) (A : Option Addr) (c : Nat) (key : List Int) (hT : Txt w (.slice A key.length c) key) (hkl : key.length ≤ 900000) (B : Option Addr) (ps : List (List Int)) (n cp : Nat) (hn : n = ps.length) (hs : ps.length ≤ 1000) (hp : PartsOf w B ps) (ht : (flat ps ps.length).length ≤ 800000) :
    Calls Tryd.prog 19 #[.slice A key.length c, .slice B n cp] w fun e w' => e = .returned (.agg (cellsB (mac key (flat ps ps.length)))) ∧ Below w.heap.size w w' := by
  subst hn
  have HR := Aside0.mk hr
  have HCU := Aside0.mk hcu
  have HP := Aside0.mk hp
  have HT := Aside0.mk ht
  have HK := Aside0.mk hT
  have h2w : 2 < w.heap.size := cell_lt (HCU.out 0 (by decide))
  clear hr hcu hp ht hT
  go_enter Tryd.func19, Tryd.ntmps19
  go_wp2_with fail
  rw [zero32_eq]
  have hR : (w.alloc (.cells zero32 25)).heap[w.heap.size]? = some (.cells (cellsB (List.replicate 32 0)) 25 (0, 0)) := blk_new w _
  have hB1 := below_alloc (Below.refl w.heap.size w) (.cells zero32 25)
  have hsz1 : (w.alloc (.cells zero32 25)).heap.size = w.heap.size + 1 := by simp
  obtain ⟨W1, hW1⟩ : ∃ x, x = w.alloc (.cells zero32 25) := ⟨_, rfl⟩
  rw [← hW1] at hR hB1 hsz1 ⊢
  clear hW1
  refine (fed_begin W1 (HR.out.below hB1)).mono ?_
  rintro e W2 ⟨rfl, hf2, hb2⟩
  have hR2 := Aside0.mk ((hb2.block _ (blk_lt hR)).trans hR)
  have hB2 := Aside0.mk (hB1.trans (hb2.mono (by omega)))
  have HF2 := Aside0.mk hf2
  obtain ⟨g, hge⟩ : ∃ g, g = W1.heap.size := ⟨_, rfl⟩
  rw [← hge] at HF2 ⊢
  have hgw : w.heap.size < g := by omega
  clear hR hB1 hf2 hb2 hge hsz1
  go_wp2_with fail
  refine (padded_calls W2 (HR.out.below hB2.out) (HCU.out.below hB2.out) A c key 54 (by decide) (HK.out.below hB2.out) hkl).mono ?_
  rintro e W3 ⟨A3, c3, rfl, hx3, hb3⟩
  have hB3 := Aside0.mk (hB2.out.trans (hb3.mono hB2.out.size))
  have HF3 := Aside0.mk (HF2.out.below hb3)
  have hR3 := Aside0.mk ((hb3.block _ (blk_lt hR2.out)).trans hR2.out)
  have HX3 := Aside0.mk hx3
  have hpl := padT_len key 54
  have HAD := Aside0.mk (fed_add W3 g [] HF3.out (HCU.out.below hB3.out) (by omega) A3 c3 (padT key 54) (by rw [hpl]; exact hx3) (by rw [hpl]; decide))
  rw [hpl] at HAD
  clear hx3 hb3 HF2 hR2 hB2
  go_wp2_with fail
  refine HAD.out.mono ?_
  rintro e W4 ⟨⟨u4, rfl⟩, hg4, hf4, _⟩
  rw [List.nil_append] at hf4
  have HF4 := Aside0.mk (show Fed W4 g (padT key 54 ++ flat ps 0) by show Fed W4 g (padT key 54 ++ []); rw [List.append_nil]; exact hf4)
  have HB4 := Aside0.mk (hB3.out.trans (gb_to hg4 hB3.out.size (fun j e => by cases e; omega)))
  have HR4 := Aside0.mk (gb_blk hg4 hR3.out (by intro e; cases e; omega))
  clear hg4 hf4 HAD HX3 hR3 HF3 hB3
  go_wp2_with fail
  go_loopw [16] (fun i wr => ∃ k : Nat, k ≤ ps.length ∧ i = .int .i64 k ∧ Aside0 (Fed wr g (padT key 54 ++ flat ps k)) ∧ Aside0 (Below w.heap.size w wr) ∧ Aside0 (wr.heap[w.heap.size]? = some (.cells (cellsB (List.replicate 32 0)) 25 (0, 0)))) (fun i _ => ps.length - (intOf i).toNat)
  case atStart => exact ⟨0, Nat.zero_le _, rfl, HF4, HB4, HR4⟩
  case round =>
    obtain ⟨k, hk, rfl, HF, HB, HRr⟩ := hrel
    by_cases hlt : k < ps.length
    · obtain ⟨ad, A', c2, hA, hcell, htx⟩ := HP.out k hlt
      subst hA
      have hcell2 := pw_cell_below HB.out hcell
      have h1 := Nat.le_trans (flat_mono ps (k + 1) ps.length hlt) HT.out
      have h2 : (flat ps (k + 1)).length = (flat ps k).length + (prt ps k).length := by show (flat ps k ++ prt ps k).length = _; simp
      have HAD := Aside0.mk (fed_add wr g (padT key 54 ++ flat ps k) HF.out (HCU.out.below HB.out) (by omega) A' c2 (prt ps k) (htx.below HB.out) (by rw [List.length_append]; omega))
      clear hcell htx h1 h2
      go_wp2_with (first | (go_at_call 15; refine HAD.out.mono ?_; rintro e w4 ⟨⟨u, rfl⟩, hg, hf, _⟩; have HG4 := Aside0.mk hg; have HF4 := Aside0.mk hf; clear hg hf))
      go_roundw
      case rel => exact ⟨k + 1, by omega, by go_num, ⟨by have h := HF4.out; rw [List.append_assoc] at h; exact h⟩, ⟨HB.out.trans (gb_to HG4.out HB.out.size (fun j e => by cases e; omega))⟩, ⟨gb_blk HG4.out HRr.out (by intro e; cases e; omega)⟩⟩
      case measure => simp [intOf]; omega
    · obtain rfl : k = ps.length := by omega
      have HSM := Aside0.mk (fed_sum wr g _ HF.out (HCU.out.below HB.out) (by rw [List.length_append]; have := HT.out; omega))
      go_wp2_with fail
      refine HSM.out.mono ?_
      rintro e w5 ⟨rfl, hb⟩
      obtain ⟨d, hd⟩ : ∃ d, d = hash (padT key 54 ++ flat ps ps.length) := ⟨_, rfl⟩
      have hdl : d.length = 32 := by rw [hd]; exact hash_len _
      have hdb : Bytes d := by rw [hd]; exact hash_bytes _
      have HD := Aside0.mk hd
      rw [← hd]
      have HB5 := HB.out.trans (hb.mono HB.out.size)
      have HR5 := (hb.block _ (blk_lt HRr.out)).trans HRr.out
      have hst := store32 (w5.alloc (.cells zero32 25)) w5.heap.size d hdl (old := List.replicate 32 0) (blk_new w5 _) rfl
      have HST := Aside0.mk hst.1
      have HB6 := Aside0.mk (below_setRow (below_alloc HB5 (.cells zero32 25)) HB5.size (cellsB d))
      have HR6 := Aside0.mk ((setRow_other (w5.alloc (.cells zero32 25)) w5.heap.size w.heap.size (cellsB d) (by have := blk_lt HR5; omega)).trans (blk_alloc HR5 (.cells zero32 25)))
      have HT6 := Aside0.mk (txt_pre (l := d) 32 32 (by rw [hdl]) (Nat.le_refl _) hst.2 (fun j hj => by rw [cellsB_get d j hj]) (by omega) hdb)
      clear hst HB5 HR5 hb hd HSM hdb
      obtain ⟨W6, hW6⟩ : ∃ x, x = (w5.alloc (.cells zero32 25)).setRow w5.heap.size (cellsB d) := ⟨_, rfl⟩
      have HW6 := Aside0.mk hW6
      rw [← hW6] at HB6 HR6 HT6
      clear hW6
      have hll : (padT key 92).length + d.length ≤ 900000 := by rw [padT_len, hdl]; decide
      have HPD := Aside0.mk (fun (W' : World) (hB : Below W6.heap.size W6 W') => padded_calls W' (HR.out.below (HB6.out.trans (hB.mono HB6.out.size))) (HCU.out.below (HB6.out.trans (hB.mono HB6.out.size))) A c key 92 (by decide) (HK.out.below (HB6.out.trans (hB.mono HB6.out.size))) hkl)
      go_wp2_with (first | (refine store_whole (s := .tmp 8) rfl rfl rfl rfl HST.out ?_))
      rw [← show W6 = (w5.alloc (.cells zero32 25)).setRow w5.heap.size (cellsB d) from HW6.out]
      clear HW6 HST
      refine start_ (n := 6) (S := fun w' => Below W6.heap.size W6 w') (ds := [5]) #[false, false, false, false, false, false] (by kernel_rfl) rfl rfl (below_drew1 (Below.refl _ _)) (fun hHeld => ?_)
      refine pure_ (i := 0) (N := some 26) (v := ?_) (a' := ?_) #[true, false, false, false, false, false] rfl rfl (by kernel_rfl) (fun _ _ _ h => h) (Or.inl ⟨by rfl, ?_⟩) ?_ ?_
      rotate_left
      · intro w'
        go_simp
        with_reducible rfl
      rotate_left
      · simp only [Act.put, List.setIfInBounds_toArray, List.set_cons_zero, List.set_cons_succ, i64_w, i32_w]
        rfl
      refine pure_ (i := 2) (N := some 28) (v := ?_) (a' := ?_) #[true, false, true, false, false, false] rfl rfl (by kernel_rfl) (fun _ _ _ h => h) (Or.inl ⟨by rfl, ?_⟩) ?_ ?_
      rotate_left
      · intro w'
        go_simp
        with_reducible rfl
      rotate_left
      · simp only [Act.put, List.setIfInBounds_toArray, List.set_cons_zero, List.set_cons_succ, i64_w, i32_w]
        rfl
      refine one_ (i := 1) (N := some 27) #[true, true, true, false, false, false] rfl rfl (by kernel_rfl) (by decide) (fun K hK => ?_)
      refine goes_ Tryd.func33 (by kernel_rfl) rfl #[.slice A key.length c, .int .u8 92] (by rfl) rfl rfl (by first | rfl | (simp only [List.map_toArray, List.map_cons, List.map_nil]; rfl)) ?_
      with_reducible refine (HPD.out _ hHeld).mono ?_
      rintro e w7 ⟨A7, c7, rfl, hx7, hb7⟩
      have HB7 := Aside0.mk (hHeld.trans (hb7.mono hHeld.size))
      have HP7 := Aside0.mk (psum2 (HR.out.below (HB6.out.trans (HB7.out.mono HB6.out.size))) (HCU.out.below (HB6.out.trans (HB7.out.mono HB6.out.size))) hx7 (HT6.out.below HB7.out) hll w7.heap.size rfl)
      refine ⟨_, rfl, ?_⟩
      refine hK.out _ _ (HB7.out) (fun hHeld => ?_)
      clear hK K
      refine norm_ (a' := ?_) ?_ ?_
      rotate_left
      · show Act.put _ (some 27) _ = _
        simp only [Act.put, List.setIfInBounds_toArray, List.set_cons_zero, List.set_cons_succ, i64_w, i32_w]
        rfl
      refine one_ (i := 3) (N := some 29) #[true, true, true, true, false, false] rfl rfl (by kernel_rfl) (by decide) (fun K hK => ?_)
      refine value_ (w1 := ?_) (v := ?_) (by rfl) rfl ?_ ?_
      rotate_left 2
      · go_simp
        constructor
        · rfl
        · rfl
      refine hK.out _ _ (below_alloc hHeld _) (fun hHeld => ?_)
      clear hK K
      refine norm_ (a' := ?_) ?_ ?_
      rotate_left
      · show Act.put _ (some 29) _ = _
        simp only [Act.put, List.setIfInBounds_toArray, List.set_cons_zero, List.set_cons_succ, i64_w, i32_w]
        rfl
      refine one_ (i := 4) (N := some 30) #[true, true, true, true, true, false] rfl rfl (by kernel_rfl) (by decide) (fun K hK => ?_)
      refine goes_ Tryd.func12 (by kernel_rfl) rfl #[.slice (some ⟨w7.heap.size, 0, none⟩) 2 2] (by rfl) rfl rfl (by first | rfl | (simp only [List.map_toArray, List.map_cons, List.map_nil]; rfl)) ?_
      with_reducible refine (HP7.out).mono ?_
      rintro e w8 ⟨rfl, hb8⟩
      have HST8 := Aside0.mk (store32 w8 w.heap.size (hash (padT key 92 ++ d)) (hash_len _) (((HB7.out.trans (hb8.mono HB7.out.size)).block _ (blk_lt HR6.out)).trans HR6.out))
      refine ⟨_, rfl, ?_⟩
      refine hK.out _ _ (HB7.out.trans (hb8.mono HB7.out.size)) (fun hHeld => ?_)
      clear hK K
      refine norm_ (a' := ?_) ?_ ?_
      rotate_left
      · show Act.put _ (some 30) _ = _
        simp only [Act.put, List.setIfInBounds_toArray, List.set_cons_zero, List.set_cons_succ, i64_w, i32_w]
        rfl
      refine last_ (i := 5) (N := none) #[true, true, true, true, true, true] rfl rfl (by kernel_rfl) (by decide) (fun K hK => ?_)
      refine skip_ (w1 := w8.setRow w.heap.size (cellsB (hash (padT key 92 ++ d)))) (by rfl) rfl (store_run rfl rfl rfl HST8.out.1) ?_
      refine hK.out _ _ ?_
      clear hK K
      refine done_ (by kernel_rfl) ?_
      go_wp2_with fail
      refine bodyPost_ret (results_cell_row rfl _ _ w.heap.size 25 (cellsB (hash (padT key 92 ++ d))) (0, 0) _ rfl HST8.out.2 Tryd.underlying25 rfl (by rw [info25, cellsB_size, hash_len])) rfl ?_
      exact ⟨by rw [HD.out]; rfl, below_setRow (HB6.out.trans (hHeld.mono HB6.out.size)) (Nat.le_refl _) _⟩
end Go.Proofs.YtjmgeelblodcgaaDoor.Sx
