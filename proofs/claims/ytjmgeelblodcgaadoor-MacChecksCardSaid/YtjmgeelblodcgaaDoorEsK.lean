import Derived.Test.YtjmgeelblodcgaaDoorEsJ
/- The walks of Sum over parts and of alive. -/
namespace Go.Proofs.YtjmgeelblodcgaaDoor.Sx
open Go.RowKit Go.Proofs.YtjmgeelblodcgaaDoorW.PrintWords Go.Proofs.YtjmgeelblodcgaaDoorW.PrintMore Go.Proofs.YtjmgeelblodcgaaDoor.Sh
set_option linter.unusedVariables false
set_option linter.unusedSimpArgs false
/-- Texts in a slice. -/
def PartsOf (w : World) (A : Option Addr) (ps : List (List Int)) : Prop :=
  ∀ k, k < ps.length → ∃ ad A' cp, A = some ad ∧ w.cell? (ad.add k) = some (.slice A' (prt ps k).length cp) ∧ Txt w (.slice A' (prt ps k).length cp) (prt ps k)
theorem PartsOf.below {w W : World} {A : Option Addr} {ps : List (List Int)} (h : PartsOf w A ps) (hb : Below w.heap.size w W) : PartsOf W A ps := fun k hk => by
  obtain ⟨ad, A', cp, h1, h2, h3⟩ := h k hk
  exact ⟨ad, A', cp, h1, pw_cell_below hb h2, h3.below hb⟩
theorem PartsOf.blk {W : World} {b t : Nat} {vs : List Value} {ps : List (List Int)} (hl : vs.length = ps.length) (h : W.heap[b]? = some (.cells vs.toArray t (0, 0))) (ht : ∀ k, k < ps.length → Txt W (vs.getD k .nilIface) (prt ps k)) : PartsOf W (some ⟨b, 0, none⟩) ps := by
  intro k hk
  obtain ⟨A, c, h1, h2⟩ := ht k hk
  refine ⟨_, A, c, rfl, ?_, ⟨A, c, rfl, h2⟩⟩
  rw [add_row, blk_cell h k, ← h1]
  have hk2 : k < vs.length := by omega
  simp [List.getElem?_eq_getElem hk2]
theorem Roots.below {w W : World} (h : Roots w) (hb : Below w.heap.size w W) : Roots W := fun k hk => pw_cell_below hb (h k hk)
theorem Cubes.below {w W : World} (h : Cubes w) (hb : Below w.heap.size w W) : Cubes W := fun k hk => pw_cell_below hb (h k hk)
theorem Fed.below {w W : World} {b : Nat} {l : List Int} (h : Fed w b l) (hb : Below w.heap.size w W) : Fed W b l := by
  obtain ⟨v, h1, h2, h3, h4⟩ := h
  exact ⟨v, (hb.block b (blk_lt h1)).trans h1, h2, h3, h4.below hb⟩
theorem Fed.lt {w : World} {b : Nat} {l : List Int} (h : Fed w b l) : b < w.heap.size := by
  obtain ⟨v, h1, _⟩ := h
  exact blk_lt h1
theorem Txt.fed {w W : World} {v : Value} {l l2 : List Int} {b : Nat} (h : Txt w v l) (hf : Fed w b l2) (hg : w.grownBy W (some b)) : Txt W v l := by
  obtain ⟨u, h1, h2, h3, h4⟩ := hf
  exact h.gb h1 (state_noU8 _ _ _ h4.notU8) hg
theorem store32 (w : World) (g : Nat) (d : List Int) (hl : d.length = 32) {old : List Int} (hg : w.heap[g]? = some (.cells (cellsB old) 25 (0, 0))) (ho : old.length = 32 := by rfl) :
    (storeVar 25 ⟨g, 0, none⟩ (.agg (cellsB d))).run Tryd.prog w = .ok () (w.setRow g (cellsB d)) ∧ (w.setRow g (cellsB d)).heap[g]? = some (.cells (cellsB d) 25 (0, 0)) :=
  ⟨run_storeVar_row w g 25 25 _ _ hg (by rw [info25, cellsB_size, hl]) (by rw [cellsB_size, cellsB_size, hl, ho]) (cellsB_one _), setRow_heap w g _ _ 25 (0, 0) hg⟩
set_option maxRecDepth 100000 in
set_option maxHeartbeats 1000000 in
theorem psum_calls (w : World) (hr : Roots w) (hcu : Cubes w) (A : Option Addr) (ps : List (List Int)) (n cp : Nat) (hn : n = ps.length) (hs : ps.length ≤ 1000) (hp : PartsOf w A ps) (ht : (flat ps ps.length).length ≤ 900000) :
    Calls Tryd.prog 12 #[.slice A n cp] w fun e w' => e = .returned (.agg (cellsB (hash (flat ps ps.length)))) ∧ Below w.heap.size w w' := by
  subst hn
  have HR := Aside0.mk hr
  have HCU := Aside0.mk hcu
  have HP := Aside0.mk hp
  have HT := Aside0.mk ht
  have h2w : 2 < w.heap.size := cell_lt (HCU.out 0 (by decide))
  clear hr hcu hp ht
  go_enter Tryd.func12, Tryd.ntmps12
  go_wp2_with fail
  rw [zero32_eq]
  have hR : (w.alloc (.cells zero32 25)).heap[w.heap.size]? = some (.cells (cellsB (List.replicate 32 0)) 25 (0, 0)) := blk_new w _
  have hB1 := below_alloc (Below.refl w.heap.size w) (.cells zero32 25)
  have hsz1 : (w.alloc (.cells zero32 25)).heap.size = w.heap.size + 1 := by simp
  obtain ⟨W1, hW1⟩ : ∃ x, x = w.alloc (.cells zero32 25) := ⟨_, rfl⟩
  rw [← hW1] at hR hB1 hsz1 ⊢
  clear hW1
  refine (fed_begin W1 (HR.out.below hB1)).mono ?_
  rintro e W2 ⟨rfl, hf2, hb2⟩
  have hR2 := Aside0.mk ((hb2.block _ (blk_lt hR)).trans hR)
  have hB2 := Aside0.mk (hB1.trans (hb2.mono (by omega)))
  have HF2 := Aside0.mk hf2
  obtain ⟨g, hge⟩ : ∃ g, g = W1.heap.size := ⟨_, rfl⟩
  rw [← hge] at HF2 ⊢
  have hgw : w.heap.size < g := by omega
  clear hR hB1 hf2 hb2 hge hsz1
  go_wp2_with fail
  go_loopw [9] (fun i wr => ∃ k : Nat, k ≤ ps.length ∧ i = .int .i64 k ∧ Aside0 (Fed wr g (flat ps k)) ∧ Aside0 (Below w.heap.size w wr) ∧ Aside0 (wr.heap[w.heap.size]? = some (.cells (cellsB (List.replicate 32 0)) 25 (0, 0)))) (fun i _ => ps.length - (intOf i).toNat)
  case atStart => exact ⟨0, Nat.zero_le _, rfl, HF2, hB2, hR2⟩
  case round =>
    obtain ⟨k, hk, rfl, HF, HB, HRr⟩ := hrel
    by_cases hlt : k < ps.length
    · obtain ⟨ad, A', c2, hA, hcell, htx⟩ := HP.out k hlt
      subst hA
      have hcell2 := pw_cell_below HB.out hcell
      have h1 := Nat.le_trans (flat_mono ps (k + 1) ps.length hlt) HT.out
      have h2 : (flat ps (k + 1)).length = (flat ps k).length + (prt ps k).length := by show (flat ps k ++ prt ps k).length = _; simp
      have HAD := Aside0.mk (fed_add wr g (flat ps k) HF.out (HCU.out.below HB.out) (by omega) A' c2 (prt ps k) (htx.below HB.out) (by omega))
      clear hcell htx h1 h2
      go_wp2_with (first | (go_at_call 15; refine HAD.out.mono ?_; rintro e w4 ⟨⟨u, rfl⟩, hg, hf, _⟩; have HG4 := Aside0.mk hg; have HF4 := Aside0.mk hf; clear hg hf))
      go_roundw
      case rel => exact ⟨k + 1, by omega, by go_num, HF4, ⟨HB.out.trans (gb_to HG4.out HB.out.size (fun j e => by cases e; omega))⟩, ⟨gb_blk HG4.out HRr.out (by intro e; cases e; omega)⟩⟩
      case measure => simp [intOf]; omega
    · obtain rfl : k = ps.length := by omega
      have HSM := Aside0.mk (fed_sum wr g _ HF.out (HCU.out.below HB.out) HT.out)
      go_wp2_with (first | (go_at_call 16; refine HSM.out.mono ?_; rintro e w5 ⟨rfl, hb⟩; have HB5 := Aside0.mk hb; have HST := Aside0.mk (store32 w5 w.heap.size (hash (flat ps ps.length)) (hash_len _) ((hb.block _ (blk_lt HRr.out)).trans HRr.out)); clear hb) | (with_reducible refine store_whole (s := .tmp 2) rfl rfl rfl rfl HST.out.1 ?_))
      refine bodyPost_ret (results_cell_row rfl _ _ w.heap.size 25 (cellsB (hash (flat ps ps.length))) (0, 0) _ rfl HST.out.2 Tryd.underlying25 rfl (by rw [info25, cellsB_size, hash_len])) rfl ?_
      exact ⟨rfl, below_setRow (HB.out.trans (HB5.out.mono HB.out.size)) (Nat.le_refl _) _⟩
end Go.Proofs.YtjmgeelblodcgaaDoor.Sx
