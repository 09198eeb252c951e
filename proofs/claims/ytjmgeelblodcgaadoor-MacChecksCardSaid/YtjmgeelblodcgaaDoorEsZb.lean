import Derived.Test.YtjmgeelblodcgaaDoorEsZ
/- MacChecks: the inputs that are too long; the walk. -/
namespace Go.Proofs.YtjmgeelblodcgaaDoor.Sx
open Go.RowKit Go.Proofs.YtjmgeelblodcgaaDoorW.PrintWords Go.Proofs.YtjmgeelblodcgaaDoorW.PrintMore Go.Proofs.YtjmgeelblodcgaaDoor.Sh
set_option linter.unusedVariables false
set_option linter.unusedSimpArgs false
set_option maxRecDepth 100000 in
theorem macChecks_long (w : World) (hr : Roots w) (hcu : Cubes w) (A0 : Option Addr) (c0 : Nat) (l0 : List Int) (A1 : Option Addr) (c1 : Nat) (l1 : List Int) (A2 : Option Addr) (c2 : Nat) (l2 : List Int) (a3 : Int) (h : 300 < l0.length ∨ 500 < l1.length ∨ 100 < l2.length) :
    Calls Tryd.prog 7 #[.agg #[.slice A0 l0.length c0, .slice A1 l1.length c1, .slice A2 l2.length c2, .int .i64 a3]] w (Yes w) := by
  have HB0 := Aside0.mk (below_alloc (Below.refl w.heap.size w) (.cells #[.slice A0 l0.length c0, .slice A1 l1.length c1, .slice A2 l2.length c2, .int .i64 a3] 40))
  have HG0 := Aside0.mk (blk_new w (.cells #[.slice A0 l0.length c0, .slice A1 l1.length c1, .slice A2 l2.length c2, .int .i64 a3] 40))
  have HA := Aside0.mk (alive5_calls (w.alloc (.cells #[.slice A0 l0.length c0, .slice A1 l1.length c1, .slice A2 l2.length c2, .int .i64 a3] 40)) (hr.below HB0.out) (hcu.below HB0.out))
  clear hr hcu
  by_cases h0 : 300 < l0.length
  · have n0 : decide ((300 : Int) < (l0.length : Int)) = true := by simp; omega
    clear h
    go_enter Tryd.func7, Tryd.ntmps7
    go_wp2_with fail
    refine HA.out.mono ?_
    rintro e w1 ⟨rfl, hb⟩
    have HG1 := Aside0.mk ((hb.block w.heap.size (blk_lt HG0.out)).trans HG0.out)
    have g0 := blk_cell HG1.out 0
    have g1 := blk_cell HG1.out 1
    have g2 := blk_cell HG1.out 2
    have HB := Aside0.mk (HB0.out.trans (hb.mono HB0.out.size))
    clear hb
    go_wp2_with fail
    go_ret
    exact ⟨rfl, HB.out⟩
  · have n0 : decide ((300 : Int) < (l0.length : Int)) = false := by simp; omega
    by_cases h1 : 500 < l1.length
    · have n1 : decide ((500 : Int) < (l1.length : Int)) = true := by simp; omega
      clear h
      go_enter Tryd.func7, Tryd.ntmps7
      go_wp2_with fail
      refine HA.out.mono ?_
      rintro e w1 ⟨rfl, hb⟩
      have HG1 := Aside0.mk ((hb.block w.heap.size (blk_lt HG0.out)).trans HG0.out)
      have g0 := blk_cell HG1.out 0
      have g1 := blk_cell HG1.out 1
      have g2 := blk_cell HG1.out 2
      have HB := Aside0.mk (HB0.out.trans (hb.mono HB0.out.size))
      clear hb
      go_wp2_with fail
      go_ret
      exact ⟨rfl, HB.out⟩
    · have n1 : decide ((500 : Int) < (l1.length : Int)) = false := by simp; omega
      have n2 : decide ((100 : Int) < (l2.length : Int)) = true := by simp; omega
      clear h
      go_enter Tryd.func7, Tryd.ntmps7
      go_wp2_with fail
      refine HA.out.mono ?_
      rintro e w1 ⟨rfl, hb⟩
      have HG1 := Aside0.mk ((hb.block w.heap.size (blk_lt HG0.out)).trans HG0.out)
      have g0 := blk_cell HG1.out 0
      have g1 := blk_cell HG1.out 1
      have g2 := blk_cell HG1.out 2
      have HB := Aside0.mk (HB0.out.trans (hb.mono HB0.out.size))
      clear hb
      go_wp2_with fail
      go_ret
      exact ⟨rfl, HB.out⟩
theorem macChecks_walk (W : World) (A0_0 : Option Addr) (c0_0 : Nat) (l0_0 : (List Int)) (A0_1 : Option Addr) (c0_1 : Nat) (l0_1 : (List Int)) (A0_2 : Option Addr) (c0_2 : Nat) (l0_2 : (List Int)) (a0_3 : Int) (hc0_0 : l0_0.length ≤ c0_0) (hr0_0 : Kd.C (Kd.int .u8) W A0_0 l0_0.length l0_0) (w0_0 : (∀ z0_0 ∈ l0_0, (Lit.int .u8 z0_0).wf = true)) (hc0_1 : l0_1.length ≤ c0_1) (hr0_1 : Kd.C (Kd.int .u8) W A0_1 l0_1.length l0_1) (w0_1 : (∀ z0_1 ∈ l0_1, (Lit.int .u8 z0_1).wf = true)) (hc0_2 : l0_2.length ≤ c0_2) (hr0_2 : Kd.C (Kd.int .u8) W A0_2 l0_2.length l0_2) (w0_2 : (∀ z0_2 ∈ l0_2, (Lit.int .u8 z0_2).wf = true)) (w0_3 : (Lit.int .i64 a0_3).wf = true) (hL : laidMetH Tryd.prog [("weftline/sha.roots", Rows.laid_weftline_sha_roots), ("weftline/sha.cubes", Rows.laid_weftline_sha_cubes)] W) :
    Calls Tryd.prog 7 #[.agg #[.slice A0_0 l0_0.length c0_0, .slice A0_1 l0_1.length c0_1, .slice A0_2 l0_2.length c0_2, .int .i64 a0_3]] W fun e w' => e = .returned (.bool true) ∧ Below W.heap.size W w' := by
  obtain ⟨hr, hcu⟩ := tabs_of hL
  by_cases h : 300 < l0_0.length ∨ 500 < l0_1.length ∨ 100 < l0_2.length
  · exact macChecks_long W hr hcu A0_0 c0_0 l0_0 A0_1 c0_1 l0_1 A0_2 c0_2 l0_2 a0_3 h
  · exact macChecks_main W hr hcu A0_0 c0_0 l0_0 ⟨A0_0, c0_0, rfl, hc0_0, hr0_0, bytes_of_wf w0_0, by omega⟩ A0_1 c0_1 l0_1 ⟨A0_1, c0_1, rfl, hc0_1, hr0_1, bytes_of_wf w0_1, by omega⟩ A0_2 c0_2 l0_2 ⟨A0_2, c0_2, rfl, hc0_2, hr0_2, bytes_of_wf w0_2, by omega⟩ (by omega) (by omega) (by omega) a0_3
end Go.Proofs.YtjmgeelblodcgaaDoor.Sx
