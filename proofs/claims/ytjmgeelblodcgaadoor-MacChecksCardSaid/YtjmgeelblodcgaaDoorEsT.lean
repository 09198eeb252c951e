import Derived.Test.YtjmgeelblodcgaaDoorEsR
import Derived.Test.YtjmgeelblodcgaaDoorPAllx1
/- alive of weftlinelaw05, Check. (Printed by tools/genEsT.py.) -/
namespace Go.Proofs.YtjmgeelblodcgaaDoor.Sx
open Go.RowKit Go.Proofs.YtjmgeelblodcgaaDoorW.PrintWords Go.Proofs.YtjmgeelblodcgaaDoorW.PrintMore Go.Proofs.YtjmgeelblodcgaaDoor.Sh Go.Proofs.YtjmgeelblodcgaaDoor.PAll
set_option linter.unusedVariables false
set_option linter.unusedSimpArgs false
set_option maxRecDepth 100000 in
theorem jefe : (mac [74, 101, 102, 101] [119, 104, 97, 116, 32, 100, 111, 32, 121, 97, 32, 119, 97, 110, 116, 32, 102, 111, 114, 32, 110, 111, 116, 104, 105, 110, 103, 63]).getD 0 0 = 91 ∧ (mac [74, 101, 102, 101] [119, 104, 97, 116, 32, 100, 111, 32, 121, 97, 32, 119, 97, 110, 116, 32, 102, 111, 114, 32, 110, 111, 116, 104, 105, 110, 103, 63]).getD 1 0 = 220 ∧ (mac [74, 101, 102, 101] [119, 104, 97, 116, 32, 100, 111, 32, 121, 97, 32, 119, 97, 110, 116, 32, 102, 111, 114, 32, 110, 111, 116, 104, 105, 110, 103, 63]).getD 2 0 = 193 ∧ (mac [74, 101, 102, 101] [119, 104, 97, 116, 32, 100, 111, 32, 121, 97, 32, 119, 97, 110, 116, 32, 102, 111, 114, 32, 110, 111, 116, 104, 105, 110, 103, 63]).getD 3 0 = 70 := by decide +kernel
set_option maxRecDepth 100000 in
set_option maxHeartbeats 2000000 in
theorem alive5_calls (w : World) (hr : Roots w) (hcu : Cubes w) : Calls Tryd.prog 18 #[] w (Yes w) := by
  have HR := Aside0.mk hr
  have HCU := Aside0.mk hcu
  clear hr hcu
  have hc1 : (convert 22 22 (.slice (some ⟨w.heap.size, 0, none⟩) 4 4)).run Tryd.prog (w.alloc (.cells #[.int .u8 74, .int .u8 101, .int .u8 102, .int .u8 101] 5)) = .ok (.slice (some ⟨w.heap.size, 0, none⟩) 4 4) (w.alloc (.cells #[.int .u8 74, .int .u8 101, .int .u8 102, .int .u8 101] 5 (4, 5))) :=
    Joins.run_convert_bytes_const_at w 22 5 _ 4 4 _ (by simp) Tryd.underlying22 Tryd.underlying5
  have hc2 : (convert 22 22 (.slice (some ⟨w.heap.size + 1, 0, none⟩) 16 16)).run Tryd.prog ((w.alloc (.cells #[.int .u8 74, .int .u8 101, .int .u8 102, .int .u8 101] 5 (4, 5))).alloc (.cells #[.int .u8 119, .int .u8 104, .int .u8 97, .int .u8 116, .int .u8 32, .int .u8 100, .int .u8 111, .int .u8 32, .int .u8 121, .int .u8 97, .int .u8 32, .int .u8 119, .int .u8 97, .int .u8 110, .int .u8 116, .int .u8 32] 5)) = .ok (.slice (some ⟨w.heap.size + 1, 0, none⟩) 16 16) ((w.alloc (.cells #[.int .u8 74, .int .u8 101, .int .u8 102, .int .u8 101] 5 (4, 5))).alloc (.cells #[.int .u8 119, .int .u8 104, .int .u8 97, .int .u8 116, .int .u8 32, .int .u8 100, .int .u8 111, .int .u8 32, .int .u8 121, .int .u8 97, .int .u8 32, .int .u8 119, .int .u8 97, .int .u8 110, .int .u8 116, .int .u8 32] 5 (16, 17))) :=
    Joins.run_convert_bytes_const_at (w.alloc (.cells #[.int .u8 74, .int .u8 101, .int .u8 102, .int .u8 101] 5 (4, 5))) 22 5 _ 16 16 _ (by simp) Tryd.underlying22 Tryd.underlying5
  have hc3 : (convert 22 22 (.slice (some ⟨w.heap.size + 1 + 1, 0, none⟩) 12 12)).run Tryd.prog (((w.alloc (.cells #[.int .u8 74, .int .u8 101, .int .u8 102, .int .u8 101] 5 (4, 5))).alloc (.cells #[.int .u8 119, .int .u8 104, .int .u8 97, .int .u8 116, .int .u8 32, .int .u8 100, .int .u8 111, .int .u8 32, .int .u8 121, .int .u8 97, .int .u8 32, .int .u8 119, .int .u8 97, .int .u8 110, .int .u8 116, .int .u8 32] 5 (16, 17))).alloc (.cells #[.int .u8 102, .int .u8 111, .int .u8 114, .int .u8 32, .int .u8 110, .int .u8 111, .int .u8 116, .int .u8 104, .int .u8 105, .int .u8 110, .int .u8 103, .int .u8 63] 5)) = .ok (.slice (some ⟨w.heap.size + 1 + 1, 0, none⟩) 12 12) (((w.alloc (.cells #[.int .u8 74, .int .u8 101, .int .u8 102, .int .u8 101] 5 (4, 5))).alloc (.cells #[.int .u8 119, .int .u8 104, .int .u8 97, .int .u8 116, .int .u8 32, .int .u8 100, .int .u8 111, .int .u8 32, .int .u8 121, .int .u8 97, .int .u8 32, .int .u8 119, .int .u8 97, .int .u8 110, .int .u8 116, .int .u8 32] 5 (16, 17))).alloc (.cells #[.int .u8 102, .int .u8 111, .int .u8 114, .int .u8 32, .int .u8 110, .int .u8 111, .int .u8 116, .int .u8 104, .int .u8 105, .int .u8 110, .int .u8 103, .int .u8 63] 5 (12, 13))) :=
    Joins.run_convert_bytes_const_at ((w.alloc (.cells #[.int .u8 74, .int .u8 101, .int .u8 102, .int .u8 101] 5 (4, 5))).alloc (.cells #[.int .u8 119, .int .u8 104, .int .u8 97, .int .u8 116, .int .u8 32, .int .u8 100, .int .u8 111, .int .u8 32, .int .u8 121, .int .u8 97, .int .u8 32, .int .u8 119, .int .u8 97, .int .u8 110, .int .u8 116, .int .u8 32] 5 (16, 17))) 22 5 _ 12 12 _ (by simp) Tryd.underlying22 Tryd.underlying5
  go_enter Tryd.func18, Tryd.ntmps18
  go_wp2_with fail
  clear hc1 hc2 hc3
  have hb : Below w.heap.size w ((((w.alloc (.cells #[.int .u8 74, .int .u8 101, .int .u8 102, .int .u8 101] 5 (4, 5))).alloc (.cells #[.int .u8 119, .int .u8 104, .int .u8 97, .int .u8 116, .int .u8 32, .int .u8 100, .int .u8 111, .int .u8 32, .int .u8 121, .int .u8 97, .int .u8 32, .int .u8 119, .int .u8 97, .int .u8 110, .int .u8 116, .int .u8 32] 5 (16, 17))).alloc (.cells #[.int .u8 102, .int .u8 111, .int .u8 114, .int .u8 32, .int .u8 110, .int .u8 111, .int .u8 116, .int .u8 104, .int .u8 105, .int .u8 110, .int .u8 103, .int .u8 63] 5 (12, 13))).alloc (.cells #[.slice (some ⟨w.heap.size + 1, 0, none⟩) 16 16, .slice (some ⟨w.heap.size + 1 + 1, 0, none⟩) 12 12] 22)) := below_alloc (below_alloc (below_alloc (below_alloc (Below.refl _ _) _) _) _) _
  have k1 := blk_alloc (blk_alloc (blk_alloc (blk_new w (.cells #[.int .u8 74, .int .u8 101, .int .u8 102, .int .u8 101] 5 (4, 5))) (.cells #[.int .u8 119, .int .u8 104, .int .u8 97, .int .u8 116, .int .u8 32, .int .u8 100, .int .u8 111, .int .u8 32, .int .u8 121, .int .u8 97, .int .u8 32, .int .u8 119, .int .u8 97, .int .u8 110, .int .u8 116, .int .u8 32] 5 (16, 17))) (.cells #[.int .u8 102, .int .u8 111, .int .u8 114, .int .u8 32, .int .u8 110, .int .u8 111, .int .u8 116, .int .u8 104, .int .u8 105, .int .u8 110, .int .u8 103, .int .u8 63] 5 (12, 13))) (.cells #[.slice (some ⟨w.heap.size + 1, 0, none⟩) 16 16, .slice (some ⟨w.heap.size + 1 + 1, 0, none⟩) 12 12] 22)
  have k2 := blk_alloc (blk_alloc (blk_new (w.alloc (.cells #[.int .u8 74, .int .u8 101, .int .u8 102, .int .u8 101] 5 (4, 5))) (.cells #[.int .u8 119, .int .u8 104, .int .u8 97, .int .u8 116, .int .u8 32, .int .u8 100, .int .u8 111, .int .u8 32, .int .u8 121, .int .u8 97, .int .u8 32, .int .u8 119, .int .u8 97, .int .u8 110, .int .u8 116, .int .u8 32] 5 (16, 17))) (.cells #[.int .u8 102, .int .u8 111, .int .u8 114, .int .u8 32, .int .u8 110, .int .u8 111, .int .u8 116, .int .u8 104, .int .u8 105, .int .u8 110, .int .u8 103, .int .u8 63] 5 (12, 13))) (.cells #[.slice (some ⟨w.heap.size + 1, 0, none⟩) 16 16, .slice (some ⟨w.heap.size + 1 + 1, 0, none⟩) 12 12] 22)
  have k3 := blk_alloc (blk_new ((w.alloc (.cells #[.int .u8 74, .int .u8 101, .int .u8 102, .int .u8 101] 5 (4, 5))).alloc (.cells #[.int .u8 119, .int .u8 104, .int .u8 97, .int .u8 116, .int .u8 32, .int .u8 100, .int .u8 111, .int .u8 32, .int .u8 121, .int .u8 97, .int .u8 32, .int .u8 119, .int .u8 97, .int .u8 110, .int .u8 116, .int .u8 32] 5 (16, 17))) (.cells #[.int .u8 102, .int .u8 111, .int .u8 114, .int .u8 32, .int .u8 110, .int .u8 111, .int .u8 116, .int .u8 104, .int .u8 105, .int .u8 110, .int .u8 103, .int .u8 63] 5 (12, 13))) (.cells #[.slice (some ⟨w.heap.size + 1, 0, none⟩) 16 16, .slice (some ⟨w.heap.size + 1 + 1, 0, none⟩) 12 12] 22)
  have k4 := blk_new (((w.alloc (.cells #[.int .u8 74, .int .u8 101, .int .u8 102, .int .u8 101] 5 (4, 5))).alloc (.cells #[.int .u8 119, .int .u8 104, .int .u8 97, .int .u8 116, .int .u8 32, .int .u8 100, .int .u8 111, .int .u8 32, .int .u8 121, .int .u8 97, .int .u8 32, .int .u8 119, .int .u8 97, .int .u8 110, .int .u8 116, .int .u8 32] 5 (16, 17))).alloc (.cells #[.int .u8 102, .int .u8 111, .int .u8 114, .int .u8 32, .int .u8 110, .int .u8 111, .int .u8 116, .int .u8 104, .int .u8 105, .int .u8 110, .int .u8 103, .int .u8 63] 5 (12, 13))) (.cells #[.slice (some ⟨w.heap.size + 1, 0, none⟩) 16 16, .slice (some ⟨w.heap.size + 1 + 1, 0, none⟩) 12 12] 22)
  rw [World.size_alloc] at k2
  rw [World.size_alloc, World.size_alloc] at k3
  rw [World.size_alloc, World.size_alloc, World.size_alloc] at k4
  have t0 := txt_blk (l := [74, 101, 102, 101]) k1 (by decide) (by unfold Bytes; decide)
  have t1 := txt_blk (l := [119, 104, 97, 116, 32, 100, 111, 32, 121, 97, 32, 119, 97, 110, 116, 32]) k2 (by decide) (by unfold Bytes; decide)
  have t2 := txt_blk (l := [102, 111, 114, 32, 110, 111, 116, 104, 105, 110, 103, 63]) k3 (by decide) (by unfold Bytes; decide)
  have hp := PartsOf.blk (vs := [.slice (some ⟨w.heap.size + 1, 0, none⟩) 16 16, .slice (some ⟨w.heap.size + 1 + 1, 0, none⟩) 12 12]) (ps := [[119, 104, 97, 116, 32, 100, 111, 32, 121, 97, 32, 119, 97, 110, 116, 32], [102, 111, 114, 32, 110, 111, 116, 104, 105, 110, 103, 63]]) rfl k4 (fun k hk => by
    have : k = 0 ∨ k = 1 := by simp at hk; omega
    rcases this with rfl | rfl
    · exact t1
    · exact t2)
  obtain ⟨W3, hW3⟩ : ∃ x, x = (((w.alloc (.cells #[.int .u8 74, .int .u8 101, .int .u8 102, .int .u8 101] 5 (4, 5))).alloc (.cells #[.int .u8 119, .int .u8 104, .int .u8 97, .int .u8 116, .int .u8 32, .int .u8 100, .int .u8 111, .int .u8 32, .int .u8 121, .int .u8 97, .int .u8 32, .int .u8 119, .int .u8 97, .int .u8 110, .int .u8 116, .int .u8 32] 5 (16, 17))).alloc (.cells #[.int .u8 102, .int .u8 111, .int .u8 114, .int .u8 32, .int .u8 110, .int .u8 111, .int .u8 116, .int .u8 104, .int .u8 105, .int .u8 110, .int .u8 103, .int .u8 63] 5 (12, 13))).alloc (.cells #[.slice (some ⟨w.heap.size + 1, 0, none⟩) 16 16, .slice (some ⟨w.heap.size + 1 + 1, 0, none⟩) 12 12] 22) := ⟨_, rfl⟩
  rw [← hW3] at hb hp t0 ⊢
  have HS := Aside0.mk (show Calls Tryd.prog 19 #[.slice (some ⟨w.heap.size, 0, none⟩) 4 4, .slice (some ⟨w.heap.size + 1 + 1 + 1, 0, none⟩) 2 2] W3 (fun e w' => e = .returned (.agg (cellsB (mac [74, 101, 102, 101] [119, 104, 97, 116, 32, 100, 111, 32, 121, 97, 32, 119, 97, 110, 116, 32, 102, 111, 114, 32, 110, 111, 116, 104, 105, 110, 103, 63]))) ∧ Below W3.heap.size W3 w') from mac_calls W3 (HR.out.below hb) (HCU.out.below hb) _ 4 [74, 101, 102, 101] t0 (by decide) _ [[119, 104, 97, 116, 32, 100, 111, 32, 121, 97, 32, 119, 97, 110, 116, 32], [102, 111, 114, 32, 110, 111, 116, 104, 105, 110, 103, 63]] 2 2 rfl (by decide) hp (by decide))
  have HB := Aside0.mk hb
  clear hW3 k1 k2 k3 k4 t0 t1 t2 hp hb
  refine HS.out.mono ?_
  rintro e W4 ⟨rfl, hb4⟩
  have h0 := jefe
  obtain ⟨d, hd⟩ : ∃ d, d = mac [74, 101, 102, 101] [119, 104, 97, 116, 32, 100, 111, 32, 121, 97, 32, 119, 97, 110, 116, 32, 102, 111, 114, 32, 110, 111, 116, 104, 105, 110, 103, 63] := ⟨_, rfl⟩
  have hdl : d.length = 32 := by rw [hd]; exact mac_len _ _
  rw [← hd] at h0
  rw [← hd]
  have hB4 := HB.out.trans (hb4.mono HB.out.size)
  have hst := store32 (W4.alloc (.cells #[.int .u8 0, .int .u8 0, .int .u8 0, .int .u8 0, .int .u8 0, .int .u8 0, .int .u8 0, .int .u8 0, .int .u8 0, .int .u8 0, .int .u8 0, .int .u8 0, .int .u8 0, .int .u8 0, .int .u8 0, .int .u8 0, .int .u8 0, .int .u8 0, .int .u8 0, .int .u8 0, .int .u8 0, .int .u8 0, .int .u8 0, .int .u8 0, .int .u8 0, .int .u8 0, .int .u8 0, .int .u8 0, .int .u8 0, .int .u8 0, .int .u8 0, .int .u8 0] 25)) W4.heap.size d hdl (old := List.replicate 32 0) (blk_new W4 _) rfl
  have HST := Aside0.mk hst.1
  have HR5 := hst.2
  have c0 := (blk_cell HR5 0).trans (cellsB_get d 0 (by omega))
  have c1 := (blk_cell HR5 1).trans (cellsB_get d 1 (by omega))
  have c2 := (blk_cell HR5 2).trans (cellsB_get d 2 (by omega))
  have c3 := (blk_cell HR5 3).trans (cellsB_get d 3 (by omega))
  rw [h0.1] at c0
  rw [h0.2.1] at c1
  rw [h0.2.2.1] at c2
  rw [h0.2.2.2] at c3
  have HBF := Aside0.mk (below_setRow (below_alloc hB4 (.cells #[.int .u8 0, .int .u8 0, .int .u8 0, .int .u8 0, .int .u8 0, .int .u8 0, .int .u8 0, .int .u8 0, .int .u8 0, .int .u8 0, .int .u8 0, .int .u8 0, .int .u8 0, .int .u8 0, .int .u8 0, .int .u8 0, .int .u8 0, .int .u8 0, .int .u8 0, .int .u8 0, .int .u8 0, .int .u8 0, .int .u8 0, .int .u8 0, .int .u8 0, .int .u8 0, .int .u8 0, .int .u8 0, .int .u8 0, .int .u8 0, .int .u8 0, .int .u8 0] 25)) hB4.size (cellsB d))
  clear hst HR5 h0 hd hdl hb4 hB4
  go_wp2_with (first | (refine store_whole (s := .tmp 1) rfl rfl rfl rfl HST.out ?_))
  go_ret
  exact ⟨rfl, HBF.out⟩
set_option maxRecDepth 100000 in
set_option maxHeartbeats 2000000 in
theorem check_calls (w : World) (hr : Roots w) (hcu : Cubes w) (A0 : Option Addr) (c0 : Nat) (tag : List Int) (hG : Txt w (.slice A0 tag.length c0) tag) (A : Option Addr) (c : Nat) (key : List Int) (hT : Txt w (.slice A key.length c) key) (hkl : key.length ≤ 900000) (B : Option Addr) (ps : List (List Int)) (n cp : Nat) (hn : n = ps.length) (hs : ps.length ≤ 1000) (hp : PartsOf w B ps) (ht : (flat ps ps.length).length ≤ 800000) :
    Calls Tryd.prog 20 #[.slice A0 tag.length c0, .slice A key.length c, .slice B n cp] w fun e w' => e = .returned (.bool ((strOfNums tag).toList == (strOfNums (mac key (flat ps ps.length))).toList)) ∧ Below w.heap.size w w' := by
  subst hn
  have HM := Aside0.mk (mac_calls w hr hcu A c key hT hkl B ps ps.length cp rfl hs hp ht)
  have HG := Aside0.mk hG
  clear hr hcu hT hp ht hG hkl hs
  go_enter Tryd.func20, Tryd.ntmps20
  go_wp2_with fail
  refine HM.out.mono ?_
  rintro e W4 ⟨rfl, hb4⟩
  obtain ⟨d, hd⟩ : ∃ d, d = mac key (flat ps ps.length) := ⟨_, rfl⟩
  have hdl : d.length = 32 := by rw [hd]; exact mac_len _ _
  have hdb : Bytes d := by rw [hd]; exact mac_bytes _ _
  rw [← hd]
  have hst := store32 (W4.alloc (.cells zero32 25)) W4.heap.size d hdl (old := List.replicate 32 0) (blk_new W4 _) rfl
  have HST := Aside0.mk hst.1
  have HB5 := Aside0.mk (below_setRow (below_alloc hb4 (.cells zero32 25)) hb4.size (cellsB d))
  have ht5 := txt_pre (l := d) 32 32 (by rw [hdl]) (Nat.le_refl _) hst.2 (fun j hj => by rw [cellsB_get d j hj]) (by omega) hdb
  have hg5 := HG.out.below HB5.out
  obtain ⟨_, _, e1, g1, g2, _⟩ := hg5
  obtain ⟨_, _, e2, g3, g4, _⟩ := ht5
  simp only [Value.slice.injEq, true_and] at e1 e2
  obtain ⟨rfl, rfl⟩ := e1
  obtain ⟨rfl, e3, rfl⟩ := e2
  clear e3
  have HE := Aside0.mk (bytes_Equal.calls _ _ tag _ _ d ((strOfNums tag).toList == (strOfNums d).toList) _ g2 g1 g4 g3 (by unfold bytes_Equal.f; exact rfl))
  rw [hdl] at HE
  obtain ⟨r, hr⟩ : ∃ r, r = ((strOfNums tag).toList == (strOfNums d).toList) := ⟨_, rfl⟩
  rw [← hr] at HE
  have HR1 := Aside0.mk hr
  have HD := Aside0.mk hd
  clear hst hd hr hdl hdb hb4 g1 g2 g3 g4 HM
  go_wp2_with (first | (refine store_whole (s := .tmp 7) rfl rfl rfl rfl HST.out ?_))
  refine HE.out.mono ?_
  rintro e W6 ⟨rfl, hd6⟩
  go_wp2_with fail
  go_ret
  exact ⟨by show Ending.returned (.bool r) = _; rw [HR1.out, HD.out], HB5.out.trans (hd6.below.mono HB5.out.size)⟩
end Go.Proofs.YtjmgeelblodcgaaDoor.Sx
