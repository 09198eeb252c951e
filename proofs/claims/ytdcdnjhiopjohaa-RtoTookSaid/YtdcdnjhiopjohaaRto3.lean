import Derived.Test.YtdcdnjhiopjohaaPAllx3
import Derived.Test.YtdcdnjhiopjohaaPAllx8
import Derived.Test.YtdcdnjhiopjohaaPAllx13
import Derived.Test.YtdcdnjhiopjohaaPAllx14
import Derived.Test.YtdcdnjhiopjohaaPAllx15
import Derived.Test.YtdcdnjhiopjohaaPAllx16
import Derived.Test.YtdcdnjhiopjohaaRto2
import Derived.Test.YtdcdnjhiopjohaaTookA
/- Plain laws of the estimate (layer 11), third part: RtoTook; its walk. -/
namespace Go.Proofs.Ytdcdnjhiopjohaa.Pl
open Go.RowKit Go.Proofs.Ytdcdnjhiopjohaa.PAll Go.Proofs.YtdcdnjhiopjohaaW.PrintWords Go.Proofs.YtdcdnjhiopjohaaW.PrintLast Go.Proofs.YtdcdnjhiopjohaaW.PrintMore
set_option linter.unusedVariables false

theorem reftook_j1 (k : Nat) {s d : Int} (h0 : 0 ≤ s) (h1 : s ≤ 524280) (h2 : 0 ≤ d) (h3 : d ≤ 262140) :
    weftlineref11_Took.j1 (k + 1) s d 0 true = some (s, d, clampW (s / 8 + d), true, true) := by
  simp only [weftlineref11_Took.j1]
  rw [td s h0, w64 (x := s / 8) (by omega) (by omega), w64 (by omega) (by omega)]
  unfold clampW mn mx
  by_cases h4 : s / 8 + d < 10
  · rw [if_pos h4, if_neg (by decide), if_pos h4, if_neg (by decide)]
  · rw [if_neg h4, if_neg h4]
    by_cases h5 : s / 8 + d > 600
    · rw [if_pos h5, if_pos h5]
    · rw [if_neg h5, if_neg h5]

theorem reftook_yes {s d w r : Int} {m : Bool} (k : Nat) (h : goodP s d w m) (h0 : 0 ≤ r) (h1 : r ≤ 65535) :
    weftlineref11_Took.f (k + 2) s d w m r = some (tookS s d r m, tookD s d r m, clampW (tookS s d r m / 8 + tookD s d r m), true, true) := by
  have hb := took_bounds h h0 h1
  have hg := h
  obtain ⟨_, _, h3, h4, h5, h6⟩ := h
  unfold weftlineref11_Took.f
  rw [refgood, decide_eq_true hg]
  simp only [Option.bind_some, if_true]
  rw [if_neg (by omega), decide_eq_false (by omega)]
  simp only [weftlineref11_Took.j0, Bool.false_eq_true, if_false]
  cases m with
  | true =>
    obtain ⟨a, b⟩ := h5 rfl
    simp only [if_true]
    have e1 : wrap64 (s.tdiv 8) = s / 8 := by rw [td s h3]; exact w64 (by omega) (by omega)
    have e2 : wrap64 (d.tdiv 4) = d / 4 := by rw [td d h4]; exact w64 (by omega) (by omega)
    have e3 : wrap64 (r - s / 8) = r - s / 8 := w64 (by omega) (by omega)
    rw [e1, e2, e3, w64 (x := s + (r - s / 8)) (by omega) (by omega), w64 (x := -(r - s / 8)) (by omega) (by omega)]
    have t1 : tookS s d r true = s + (r - s / 8) := by simp [tookS]
    rw [t1] at hb ⊢
    by_cases hc : r - s / 8 < 0
    · have t2 : tookD s d r true = d + -(r - s / 8) - d / 4 := by simp only [tookD, if_true]; rw [if_pos hc]; omega
      rw [t2] at hb ⊢
      rw [if_pos hc, w64 (x := d + -(r - s / 8)) (by omega) (by omega), w64 (x := d + -(r - s / 8) - d / 4) (by omega) (by omega)]
      exact reftook_j1 k hb.1 hb.2.1 hb.2.2.1 hb.2.2.2
    · have t2 : tookD s d r true = d + (r - s / 8) - d / 4 := by simp only [tookD, if_true]; rw [if_neg hc]; omega
      rw [t2] at hb ⊢
      rw [if_neg hc, w64 (x := d + (r - s / 8)) (by omega) (by omega), w64 (x := d + (r - s / 8) - d / 4) (by omega) (by omega)]
      exact reftook_j1 k hb.1 hb.2.1 hb.2.2.1 hb.2.2.2
  | false =>
    have t1 : tookS s d r false = 8 * r := by simp [tookS]
    have t2 : tookD s d r false = 2 * r := by simp [tookD]
    rw [t1, t2] at hb ⊢
    simp only [Bool.false_eq_true, if_false]
    rw [w64 (x := 8 * r) (by omega) (by omega), w64 (x := 2 * r) (by omega) (by omega)]
    exact reftook_j1 k hb.1 hb.2.1 hb.2.2.1 hb.2.2.2

theorem reftook_no {s d w r : Int} {m : Bool} (k : Nat) (h : ¬ goodP s d w m ∨ r < 0 ∨ 65535 < r) :
    weftlineref11_Took.f (k + 1) s d w m r = some (0, 0, 0, false, false) := by
  unfold weftlineref11_Took.f
  rw [refgood]
  by_cases hg : goodP s d w m
  · rw [decide_eq_true hg]
    simp only [Option.bind_some, if_true]
    by_cases h1 : r < 0
    · rw [if_pos h1]; simp [weftlineref11_Took.j0]
    · rw [if_neg h1, decide_eq_true (by rcases h with h | h | h; exact absurd hg h; exact absurd h h1; exact h)]; simp [weftlineref11_Took.j0]
  · rw [decide_eq_false hg]; simp [weftlineref11_Took.j0]

theorem took_tail (k : Nat) (s d w : Int) (m : Bool) :
    weftlinelaw11_RtoTook.j0 (k + 2) (if goodP s d w m then s / 8 else 0) (if goodP s d w m then d / 4 else 0) false s d w m s d w m = some true := by
  simp only [weftlinelaw11_RtoTook.j0, Bool.false_eq_true, if_false]
  rw [good_eq]
  simp only [Option.bind_some]
  by_cases hg : goodP s d w m
  · rw [decide_eq_true hg, if_pos hg, if_pos hg]
    have h5 : s ≤ 524280 ∧ d ≤ 262140 := by
      cases m with
      | true => exact hg.2.2.2.2.1 rfl
      | false => have := hg.2.2.2.2.2 rfl; omega
    have h3 := hg.2.2.1
    have h4 := hg.2.2.2.1
    simp only [if_true]
    rw [td s h3, td d h4, w64 (x := s / 8) (by omega) (by omega), w64 (x := d / 4) (by omega) (by omega), if_pos rfl, if_pos rfl, twice_yes k hg, reftwice_yes hg]
    simp
  · rw [decide_eq_false hg, if_neg hg, if_neg hg]
    simp only [Bool.false_eq_true, if_false, if_true]
    rw [twice_no k hg]
    simp [rto_First.f]

theorem times_eq (k : Nat) (s d w : Int) (m : Bool) : rto_Estimate_Times.f (k + 1) s d w m = some (if goodP s d w m then s / 8 else 0, if goodP s d w m then d / 4 else 0) := by
  by_cases h : goodP s d w m
  · rw [times_yes k h, if_pos h, if_pos h]
  · rw [times_no k h, if_neg h, if_neg h]

theorem took (s d w : Int) (m : Bool) (r : Int) : weftlinelaw11_RtoTook.f 2 s d w m r = some true := by
  unfold weftlinelaw11_RtoTook.f
  rw [alive11 1]
  simp only [Option.bind_some, if_true]
  rw [times_eq 1, good_eq, refgood]
  have ht := took_tail 0 s d w m
  by_cases h : goodP s d w m ∧ 0 ≤ r ∧ r ≤ 65535
  · obtain ⟨hg, h0, h1⟩ := h
    rw [took_yes 1 hg h0 h1, reftook_yes 0 hg h0 h1]
    simp only [Option.bind_some, bne_self_eq_false, Bool.false_eq_true, if_false, beq_self_eq_true, Bool.not_true, Bool.or_self, Option.isNone_none, if_true, rto_First.f, weftlineref11_First.f]
    exact ht
  · have h' : ¬ goodP s d w m ∨ r < 0 ∨ 65535 < r := by
      by_cases hg : goodP s d w m
      · right
        by_cases h0 : 0 ≤ r
        · right
          have : ¬ r ≤ 65535 := fun h1 => h ⟨hg, h0, h1⟩
          omega
        · left; omega
      · exact Or.inl hg
    rw [took_no 1 h', reftook_no 1 h']
    simp only [Option.bind_some, bne_self_eq_false, Bool.false_eq_true, if_false, beq_self_eq_true, Bool.not_true, Bool.or_self, Option.isNone_some, rto_First.f, weftlineref11_First.f, weftlinenum_Is.f, weftlinenum_Num.f, Option.getD_some]
    exact ht
end Go.Proofs.Ytdcdnjhiopjohaa.Pl
namespace Go.Proofs.Ytdcdnjhiopjohaa.Wk
open Go.RowKit Go.Proofs.YtdcdnjhiopjohaaW.PrintWords Go.Proofs.Ytdcdnjhiopjohaa.PAll
set_option linter.unusedVariables false
theorem rtoTook_walk (W : World) (a0_0 : Int) (a0_1 : Int) (a0_2 : Int) (a0_3 : Bool) (a1 : Int) (w0_0 : (Lit.int .i64 a0_0).wf = true) (w0_1 : (Lit.int .i64 a0_1).wf = true) (w0_2 : (Lit.int .i64 a0_2).wf = true) (w1 : (Lit.int .i64 a1).wf = true) :
    Calls Try.prog 5 #[.agg #[.int .i64 a0_0, .int .i64 a0_1, .int .i64 a0_2, .bool a0_3], .int .i64 a1] W fun e w' => e = .returned (.bool true) ∧ Below W.heap.size W w' :=
  weftlinelaw11_RtoTook.calls_t 2 a0_0 a0_1 a0_2 a0_3 a1 true W (Aside0.mk rfl) (Pl.took _ _ _ _ _)
end Go.Proofs.Ytdcdnjhiopjohaa.Wk
