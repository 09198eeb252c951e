import Derived.Test.YthflkloghbhhgaaRowI
namespace Go.Proofs.Ythflkloghbhhgaa.Rw
open Go.RowKit Go.Proofs.YthflkloghbhhgaaW.PrintWords Go.Proofs.YthflkloghbhhgaaW.PrintMore Go.Proofs.Ythflkloghbhhgaa.Sh Go.Proofs.Ythflkloghbhhgaa.PAll
open Go.Proofs.Ythflkloghbhhgaa.Rs (chg_below alive_row Yes)
set_option linter.unusedVariables false
set_option linter.unusedSimpArgs false
theorem u32_wf {a : Int} (h : (Lit.int .u32 a).wf = true) : 0 ≤ a ∧ a < 4294967296 := by
  simp [Lit.wf, IntKind.min, IntKind.max, IntKind.signed, IntKind.bits] at h
  omega
/-- What the laws begin with: the box of the scene and the check that the package answers. -/
theorem start_below (W w1 : World) (f0 mo : Int) (hB1 : Below (W.alloc (.cells #[.int .u32 f0, .int .i64 mo] 24 (0, 0))).heap.size (W.alloc (.cells #[.int .u32 f0, .int .i64 mo] 24 (0, 0))) w1) :
    Below W.heap.size W w1 := ((Below.refl W.heap.size W).alloc (Nat.le_refl _) _).trans (hB1.mono (by simp))
set_option maxRecDepth 100000 in
theorem rowSets_bad (W : World) (f0 mo : Int) (A1 : Option Addr) (c1 : Nat) (l1 : List Int) (a2 : Int) (h : mo < 1 ∨ 1024 < mo) :
    Calls Try.prog 3 #[.agg #[.int .u32 f0, .int .i64 mo], .slice A1 l1.length c1, .int .i64 a2] W (Yes W) := by
  have HH := Aside0.mk h
  clear h
  go_enter Try.func3, Try.ntmps3
  go_wp2_with fail
  refine alive_row.mono ?_
  rintro e w1 ⟨rfl, hB1⟩
  have HX := Aside0.mk ((hB1.block W.heap.size (by simp)).trans (blk_new W (.cells #[.int .u32 f0, .int .i64 mo] 24 (0, 0))))
  have HB1 := Aside0.mk (start_below W w1 f0 mo hB1)
  clear hB1
  have hx := cc2 HX.out
  go_wp2_with fail
  refine (new_bad HH.out).mono ?_
  rintro e w2 ⟨rfl, rfl⟩
  go_wp2_with fail
  go_ret
  exact ⟨rfl, HB1.out⟩
set_option maxRecDepth 100000 in
theorem rowSets_out (W : World) (f0 mo : Int) (A1 : Option Addr) (c1 : Nat) (l1 : List Int) (a2 : Int) (h1 : 1 ≤ mo) (h2 : mo ≤ 1024) (h : l1.length = 0 ∨ 60 < l1.length)
    (hC0 : Kd.C (Kd.int .i64) W A1 l1.length l1) :
    Calls Try.prog 3 #[.agg #[.int .u32 f0, .int .i64 mo], .slice A1 l1.length c1, .int .i64 a2] W (Yes W) := by
  have HC := Aside0.mk hC0
  obtain ⟨n, hn⟩ : ∃ n, n = l1.length := ⟨_, rfl⟩
  have hd : (((l1.length : Nat) : Int) == 0) = true ∨ (((l1.length : Nat) : Int) == 0) = false ∧ decide ((60 : Int) < (l1.length : Int)) = true := by
    rcases h with h | h
    · left; simp [h]
    · right
      refine ⟨by rw [beq_eq_false_iff_ne]; omega, by simp; omega⟩
  clear hC0 h hn
  go_enter Try.func3, Try.ntmps3
  go_wp2_with fail
  refine alive_row.mono ?_
  rintro e w1 ⟨rfl, hB1⟩
  have HX := Aside0.mk ((hB1.block W.heap.size (by simp)).trans (blk_new W (.cells #[.int .u32 f0, .int .i64 mo] 24 (0, 0))))
  have HB1 := Aside0.mk (start_below W w1 f0 mo hB1)
  clear hB1
  have hx := cc2 HX.out
  go_wp2_with fail
  refine (inv_new h1 h2 HX.out HC.out HB1.out).mono ?_
  rintro e w2 ⟨p, rfl, hI⟩
  have HI := Aside0.mk hI
  clear hI hx
  rcases hd with hd | ⟨hd, hd2⟩
  · go_wp2_with fail
    go_ret
    exact ⟨rfl, inv_below HI.out⟩
  · go_wp2_with fail
    go_ret
    exact ⟨rfl, inv_below HI.out⟩
theorem rowSets_walk (W : World) (a0_0 : Int) (a0_1 : Int) (A1 : Option Addr) (c1 : Nat) (l1 : (List Int)) (a2 : Int) (w0_0 : (Lit.int .u32 a0_0).wf = true) (w0_1 : (Lit.int .i64 a0_1).wf = true) (hc1 : l1.length ≤ c1) (hr1 : Kd.C (Kd.int .i64) W A1 l1.length l1) (w1 : (∀ zl1 ∈ l1, (Lit.int .i64 zl1).wf = true)) (w2 : (Lit.int .i64 a2).wf = true) :
    Calls Try.prog 3 #[.agg #[.int .u32 a0_0, .int .i64 a0_1], .slice A1 l1.length c1, .int .i64 a2] W fun e w' => e = .returned (.bool true) ∧ Below W.heap.size W w' := by
  have hf := u32_wf w0_0
  by_cases hm : a0_1 < 1 ∨ 1024 < a0_1
  · exact rowSets_bad W a0_0 a0_1 A1 c1 l1 a2 hm
  · by_cases hl : l1.length = 0 ∨ 60 < l1.length
    · exact rowSets_out W a0_0 a0_1 A1 c1 l1 a2 (by omega) (by omega) hl hr1
    · exact rowSets_main W a0_0 a0_1 A1 c1 l1 a2 hf.1 hf.2 (by omega) (by omega) (by omega) (by omega) hc1 hr1
end Go.Proofs.Ythflkloghbhhgaa.Rw
