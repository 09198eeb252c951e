import Derived.Test.YtjmgeelblodcgaaDoorEsX
/- MacKeys: the inputs that are too long; the walk. -/
namespace Go.Proofs.YtjmgeelblodcgaaDoor.Sx
open Go.RowKit Go.Proofs.YtjmgeelblodcgaaDoorW.PrintWords Go.Proofs.YtjmgeelblodcgaaDoorW.PrintMore Go.Proofs.YtjmgeelblodcgaaDoor.Sh
set_option linter.unusedVariables false
set_option linter.unusedSimpArgs false
set_option maxRecDepth 100000 in
theorem macKeys_long (w : World) (hr : Roots w) (hcu : Cubes w) (A0 : Option Addr) (c0 : Nat) (l0 : List Int) (A1 : Option Addr) (c1 : Nat) (l1 : List Int) (a2 : Int) (h : 300 < l0.length ∨ 500 < l1.length) :
    Calls Tryd.prog 6 #[.slice A0 l0.length c0, .slice A1 l1.length c1, .int .i64 a2] w (Yes w) := by
  have HA := Aside0.mk (alive5_calls w hr hcu)
  clear hr hcu
  by_cases h0 : 300 < l0.length
  · have n0 : decide ((300 : Int) < (l0.length : Int)) = true := by simp; omega
    clear h
    go_enter Tryd.func6, Tryd.ntmps6
    go_wp2_with fail
    refine HA.out.mono ?_
    rintro e w1 ⟨rfl, hb⟩
    have HB := Aside0.mk hb
    clear hb
    go_wp2_with fail
    go_ret
    exact ⟨rfl, HB.out⟩
  · have n0 : decide ((300 : Int) < (l0.length : Int)) = false := by simp; omega
    have n1 : decide ((500 : Int) < (l1.length : Int)) = true := by simp; omega
    clear h
    go_enter Tryd.func6, Tryd.ntmps6
    go_wp2_with fail
    refine HA.out.mono ?_
    rintro e w1 ⟨rfl, hb⟩
    have HB := Aside0.mk hb
    clear hb
    go_wp2_with fail
    go_ret
    exact ⟨rfl, HB.out⟩
theorem macKeys_walk (W : World) (A0 : Option Addr) (c0 : Nat) (l0 : (List Int)) (A1 : Option Addr) (c1 : Nat) (l1 : (List Int)) (a2 : Int) (hc0 : l0.length ≤ c0) (hr0 : Kd.C (Kd.int .u8) W A0 l0.length l0) (w0 : (∀ zl0 ∈ l0, (Lit.int .u8 zl0).wf = true)) (hc1 : l1.length ≤ c1) (hr1 : Kd.C (Kd.int .u8) W A1 l1.length l1) (w1 : (∀ zl1 ∈ l1, (Lit.int .u8 zl1).wf = true)) (w2 : (Lit.int .i64 a2).wf = true) (hL : laidMetH Tryd.prog [("weftline/sha.roots", Rows.laid_weftline_sha_roots), ("weftline/sha.cubes", Rows.laid_weftline_sha_cubes)] W) :
    Calls Tryd.prog 6 #[.slice A0 l0.length c0, .slice A1 l1.length c1, .int .i64 a2] W fun e w' => e = .returned (.bool true) ∧ Below W.heap.size W w' := by
  obtain ⟨hr, hcu⟩ := tabs_of hL
  by_cases h : 300 < l0.length ∨ 500 < l1.length
  · exact macKeys_long W hr hcu A0 c0 l0 A1 c1 l1 a2 h
  · exact macKeys_main W hr hcu A0 c0 l0 ⟨A0, c0, rfl, hc0, hr0, bytes_of_wf w0, by omega⟩ A1 c1 l1 ⟨A1, c1, rfl, hc1, hr1, bytes_of_wf w1, by omega⟩ (by omega) (by omega) a2
end Go.Proofs.YtjmgeelblodcgaaDoor.Sx
