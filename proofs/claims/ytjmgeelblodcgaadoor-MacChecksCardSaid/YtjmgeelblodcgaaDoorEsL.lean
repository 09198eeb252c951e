import Derived.Test.YtjmgeelblodcgaaDoorEsK
/- The walk of alive. -/
namespace Go.Proofs.YtjmgeelblodcgaaDoor.Sx
open Go.RowKit Go.Proofs.YtjmgeelblodcgaaDoorW.PrintWords Go.Proofs.YtjmgeelblodcgaaDoorW.PrintMore Go.Proofs.YtjmgeelblodcgaaDoor.Sh
set_option linter.unusedVariables false
set_option linter.unusedSimpArgs false
set_option maxRecDepth 100000 in
theorem abc : (hash [97, 98, 99]).getD 0 0 = 186 ∧ (hash [97, 98, 99]).getD 1 0 = 120 ∧ (hash [97, 98, 99]).getD 2 0 = 22 ∧ (hash [97, 98, 99]).getD 3 0 = 191 := by decide +kernel
def Yes (w : World) (e : Ending) (w' : World) : Prop := e = .returned (.bool true) ∧ Below w.heap.size w w'
set_option maxRecDepth 100000 in
set_option maxHeartbeats 2000000 in
theorem alive_calls (w : World) (hr : Roots w) (hcu : Cubes w) : Calls Tryd.prog 11 #[] w (Yes w) := by
  have HR := Aside0.mk hr
  have HCU := Aside0.mk hcu
  clear hr hcu
  have hc1 : (convert 22 22 (.slice (some ⟨w.heap.size, 0, none⟩) 1 1)).run Tryd.prog (w.alloc (.cells #[.int .u8 97] 5)) = .ok (.slice (some ⟨w.heap.size, 0, none⟩) 1 1) (w.alloc (.cells #[.int .u8 97] 5 (1, 2))) :=
    Joins.run_convert_bytes_const_at w 22 5 _ 1 1 _ rfl Tryd.underlying22 Tryd.underlying5
  have hc2 : (convert 22 22 (.slice (some ⟨w.heap.size + 1, 0, none⟩) 2 2)).run Tryd.prog ((w.alloc (.cells #[.int .u8 97] 5 (1, 2))).alloc (.cells #[.int .u8 98, .int .u8 99] 5)) = .ok (.slice (some ⟨w.heap.size + 1, 0, none⟩) 2 2) ((w.alloc (.cells #[.int .u8 97] 5 (1, 2))).alloc (.cells #[.int .u8 98, .int .u8 99] 5 (2, 3))) :=
    Joins.run_convert_bytes_const_at _ 22 5 _ 2 2 _ (by simp) Tryd.underlying22 Tryd.underlying5
  go_enter Tryd.func11, Tryd.ntmps11
  go_wp2_with fail
  clear hc1 hc2
  have hb : Below w.heap.size w (((w.alloc (.cells #[.int .u8 97] 5 (1, 2))).alloc (.cells #[.int .u8 98, .int .u8 99] 5 (2, 3))).alloc (.cells #[.slice (some ⟨w.heap.size, 0, none⟩) 1 1, .slice (some ⟨w.heap.size + 1, 0, none⟩) 2 2] 22)) := below_alloc (below_alloc (below_alloc (Below.refl _ _) _) _) _
  have k1 := blk_alloc (blk_alloc (blk_new w (.cells #[.int .u8 97] 5 (1, 2))) (.cells #[.int .u8 98, .int .u8 99] 5 (2, 3))) (.cells #[.slice (some ⟨w.heap.size, 0, none⟩) 1 1, .slice (some ⟨w.heap.size + 1, 0, none⟩) 2 2] 22)
  have k2 := blk_alloc (blk_new (w.alloc (.cells #[.int .u8 97] 5 (1, 2))) (.cells #[.int .u8 98, .int .u8 99] 5 (2, 3))) (.cells #[.slice (some ⟨w.heap.size, 0, none⟩) 1 1, .slice (some ⟨w.heap.size + 1, 0, none⟩) 2 2] 22)
  have k3 := blk_new ((w.alloc (.cells #[.int .u8 97] 5 (1, 2))).alloc (.cells #[.int .u8 98, .int .u8 99] 5 (2, 3))) (.cells #[.slice (some ⟨w.heap.size, 0, none⟩) 1 1, .slice (some ⟨w.heap.size + 1, 0, none⟩) 2 2] 22)
  rw [World.size_alloc] at k2
  rw [World.size_alloc, World.size_alloc] at k3
  have t1 := txt_blk (l := [97]) k1 (by decide) (by unfold Bytes; decide)
  have t2 := txt_blk (l := [98, 99]) k2 (by decide) (by unfold Bytes; decide)
  have hp := PartsOf.blk (vs := [.slice (some ⟨w.heap.size, 0, none⟩) 1 1, .slice (some ⟨w.heap.size + 1, 0, none⟩) 2 2]) (ps := [[97], [98, 99]]) rfl k3 (fun k hk => by
    have : k = 0 ∨ k = 1 := by simp at hk; omega
    rcases this with rfl | rfl
    · exact t1
    · exact t2)
  obtain ⟨W3, hW3⟩ : ∃ x, x = ((w.alloc (.cells #[.int .u8 97] 5 (1, 2))).alloc (.cells #[.int .u8 98, .int .u8 99] 5 (2, 3))).alloc (.cells #[.slice (some ⟨w.heap.size, 0, none⟩) 1 1, .slice (some ⟨w.heap.size + 1, 0, none⟩) 2 2] 22) := ⟨_, rfl⟩
  rw [← hW3] at hb hp ⊢
  have HS := Aside0.mk (show Calls Tryd.prog 12 #[.slice (some ⟨w.heap.size + 1 + 1, 0, none⟩) 2 2] W3 (fun e w' => e = .returned (.agg (cellsB (hash [97, 98, 99]))) ∧ Below W3.heap.size W3 w') from psum_calls W3 (HR.out.below hb) (HCU.out.below hb) _ [[97], [98, 99]] 2 2 rfl (by decide) hp (by decide))
  have HB := Aside0.mk hb
  clear hW3 k1 k2 k3 t1 t2 hp hb
  refine HS.out.mono ?_
  rintro e W4 ⟨rfl, hb4⟩
  have h0 := abc
  obtain ⟨d, hd⟩ : ∃ d, d = hash [97, 98, 99] := ⟨_, rfl⟩
  have hdl : d.length = 32 := by rw [hd]; exact hash_len _
  rw [← hd] at h0
  rw [← hd]
  have hB4 := HB.out.trans (hb4.mono HB.out.size)
  have hst := store32 (W4.alloc (.cells #[.int .u8 0, .int .u8 0, .int .u8 0, .int .u8 0, .int .u8 0, .int .u8 0, .int .u8 0, .int .u8 0, .int .u8 0, .int .u8 0, .int .u8 0, .int .u8 0, .int .u8 0, .int .u8 0, .int .u8 0, .int .u8 0, .int .u8 0, .int .u8 0, .int .u8 0, .int .u8 0, .int .u8 0, .int .u8 0, .int .u8 0, .int .u8 0, .int .u8 0, .int .u8 0, .int .u8 0, .int .u8 0, .int .u8 0, .int .u8 0, .int .u8 0, .int .u8 0] 25)) W4.heap.size d hdl (old := List.replicate 32 0) (blk_new W4 _) rfl
  have HST := Aside0.mk hst.1
  have HR5 := hst.2
  have c0 := (blk_cell HR5 0).trans (cellsB_get d 0 (by omega))
  have c1 := (blk_cell HR5 1).trans (cellsB_get d 1 (by omega))
  have c2 := (blk_cell HR5 2).trans (cellsB_get d 2 (by omega))
  have c3 := (blk_cell HR5 3).trans (cellsB_get d 3 (by omega))
  rw [h0.1] at c0
  rw [h0.2.1] at c1
  rw [h0.2.2.1] at c2
  rw [h0.2.2.2] at c3
  have HBF := Aside0.mk (below_setRow (below_alloc hB4 (.cells #[.int .u8 0, .int .u8 0, .int .u8 0, .int .u8 0, .int .u8 0, .int .u8 0, .int .u8 0, .int .u8 0, .int .u8 0, .int .u8 0, .int .u8 0, .int .u8 0, .int .u8 0, .int .u8 0, .int .u8 0, .int .u8 0, .int .u8 0, .int .u8 0, .int .u8 0, .int .u8 0, .int .u8 0, .int .u8 0, .int .u8 0, .int .u8 0, .int .u8 0, .int .u8 0, .int .u8 0, .int .u8 0, .int .u8 0, .int .u8 0, .int .u8 0, .int .u8 0] 25)) hB4.size (cellsB d))
  clear hst HR5 h0 hd hdl hb4 hB4
  go_wp2_with (first | (refine store_whole (s := .tmp 1) rfl rfl rfl rfl HST.out ?_))
  go_ret
  exact ⟨rfl, HBF.out⟩
end Go.Proofs.YtjmgeelblodcgaaDoor.Sx
