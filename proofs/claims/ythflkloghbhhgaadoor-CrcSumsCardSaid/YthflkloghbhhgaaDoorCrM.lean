import Derived.Test.YthflkloghbhhgaaDoorCrL
/- The walk of Close. -/
namespace Go.Proofs.YthflkloghbhhgaaDoor.Cr
open Go.RowKit Go.Proofs.YthflkloghbhhgaaDoorW.PrintWords Go.Proofs.YthflkloghbhhgaaDoorW.PrintLast Go.Proofs.YthflkloghbhhgaaDoorW.PrintMore Go.Proofs.YthflkloghbhhgaaDoor.Sh
set_option linter.unusedVariables false
set_option linter.unusedSimpArgs false
theorem gb_setRow (w : World) (g : Nat) (cs : Array Value) : w.grownBy (w.setRow g cs) (some g) :=
  ⟨rfl, rfl, rfl, by simp [World.setRow], fun i _ hi => setRow_other w g i cs (fun e => hi (by rw [e]))⟩
set_option maxRecDepth 100000 in
set_option maxHeartbeats 2000000 in
theorem close_calls (w : World) (hg : Tab w) (A : Option Addr) (c : Nat) (l : List Int) (hT : Txt w (.slice A l.length c) l) (hl : l.length ≤ 1000000) :
    Calls Tryd.prog 13 #[.slice A l.length c] w fun e w' => ∃ v, e = .returned v ∧ RB w' w.heap.size v (l ++ p4 (sum [l]) 4) ∧ Below w.heap.size w w' := by
  have l_by : Bytes l := by obtain ⟨_, _, _, _, _, h, _⟩ := hT; exact h
  have hB1 := below_alloc (Below.refl w.heap.size w) (.cells #[.slice A l.length c] 22)
  have HG := Aside0.mk hg
  have HT := Aside0.mk hT
  have HB1 := Aside0.mk hB1
  have HS := Aside0.mk (sum1 (tab_below hg hB1) (blk_new w (.cells #[.slice A l.length c] 22)) (hT.below hB1))
  obtain ⟨s, hs⟩ : ∃ s, s = sum [l] := ⟨_, rfl⟩
  have hsl : s < 4294967296 := by rw [hs]; exact sum_lt l l_by
  rw [← hs] at HS ⊢
  clear hg hT hB1 hs
  go_enter Tryd.func13, Tryd.ntmps13
  go_wp2_with fail
  refine HS.out.mono ?_
  rintro e w2 ⟨rfl, rfl⟩
  go_wp2_with fail
  refine (put_calls _ s hsl).mono ?_
  rintro e w3 ⟨rfl, hb3⟩
  have hB3 := HB1.out.trans (hb3.mono HB1.out.size)
  obtain ⟨d, hd⟩ : ∃ d, d = p4 s 4 := ⟨_, rfl⟩
  have hdl : d.length = 4 := by rw [hd]; exact p4_len _ _
  have hdb : Bytes d := by rw [hd]; exact p4_bytes _ _
  rw [← hd]
  have HDE := Aside0.mk hd
  have hst := store4 (w3.alloc (.cells #[.int .u8 0, .int .u8 0, .int .u8 0, .int .u8 0] 30)) w3.heap.size d hdl (blk_new w3 _) rfl
  have HST := Aside0.mk hst.1
  have hB4 := below_setRow (below_alloc hB3 (.cells #[.int .u8 0, .int .u8 0, .int .u8 0, .int .u8 0] 30)) hB3.size (cellsB d)
  have HB4 := Aside0.mk hB4
  have HX4 := Aside0.mk (txt_pre (l := d) 4 4 hdl.symm (Nat.le_refl _) hst.2 (fun j hj => cellsB_get d j hj) (by omega) hdb)
  have HT4 := Aside0.mk (HT.out.below hB4)
  obtain ⟨W4, hW4⟩ : ∃ x, x = (w3.alloc (.cells #[.int .u8 0, .int .u8 0, .int .u8 0, .int .u8 0] 30)).setRow w3.heap.size (cellsB d) := ⟨_, rfl⟩
  have HW4 := Aside0.mk hW4
  rw [← hW4] at HB4 HX4 HT4
  obtain ⟨D, hD⟩ : ∃ D, D = w3.heap.size := ⟨_, rfl⟩
  have HDe := Aside0.mk hD
  rw [← hD] at HX4
  have hsz : D + 1 = W4.heap.size := by rw [hW4, hD, setRow_size, World.size_alloc]
  have hB5 := below_alloc (Below.refl W4.heap.size W4) (.cells #[.slice A l.length c, .slice (some ⟨D, 0, none⟩) 4 4] 22)
  have hp := parts_blk (vs := [.slice A l.length c, .slice (some ⟨D, 0, none⟩) 4 4]) (ps := [l, d]) rfl (blk_new_at W4 (.cells #[.slice A l.length c, .slice (some ⟨D, 0, none⟩) 4 4] 22) (D + 1) hsz) (fun k hk => by
    have : k = 0 ∨ k = 1 := by simp at hk; omega
    rcases this with rfl | rfl
    · exact HT4.out.below hB5
    · exact HX4.out.below hB5)
  have HC := Aside0.mk (concat_calls (W4.alloc (.cells #[.slice A l.length c, .slice (some ⟨D, 0, none⟩) 4 4] 22)) (D + 1) [l, d] 2 2 rfl (by simp) hp (by show (flat [l, d] 2).length ≤ _; rw [flat_two, List.length_append]; omega))
  have HB5 := Aside0.mk (HB4.out.trans (hB5.mono HB4.out.size))
  clear hst hB3 hB4 hb3 hd hW4 hD hB5 hp hdl hdb hsz
  go_wp2_with (first | (refine store_whole (s := .tmp 3) rfl rfl rfl rfl HST.out ?_))
  rw [← show W4 = (w3.alloc (.cells #[.int .u8 0, .int .u8 0, .int .u8 0, .int .u8 0] 30)).setRow w3.heap.size (cellsB d) from HW4.out, ← show D = w3.heap.size from HDe.out]
  with_reducible refine HC.out.mono ?_
  rintro e w6 ⟨v6, rfl, hv, hb⟩
  have HO6 := Aside0.mk (Kd.R_lower hv HB5.out.size)
  have HB6 := Aside0.mk (HB5.out.trans (hb.mono HB5.out.size))
  clear hv hb HW4 HDe HST
  go_wp2_with fail
  go_ret
  exact ⟨_, rfl, by have h := HO6.out; rw [show flat [l, d] [l, d].length = l ++ d from flat_two l d, HDE.out] at h; exact h, HB6.out⟩
end Go.Proofs.YthflkloghbhhgaaDoor.Cr
