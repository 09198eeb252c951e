import Derived.Test.YtdcdnjhiopjohaaPAllx12
import Derived.Test.YtdcdnjhiopjohaaPAllx17
import Derived.Test.YtdcdnjhiopjohaaRto
/- The document's Good and Twice (layer 11). -/
namespace Go.Proofs.Ytdcdnjhiopjohaa.Pl
open Go.RowKit Go.Proofs.Ytdcdnjhiopjohaa.PAll Go.Proofs.YtdcdnjhiopjohaaW.PrintWords Go.Proofs.YtdcdnjhiopjohaaW.PrintLast Go.Proofs.YtdcdnjhiopjohaaW.PrintMore
theorem refgood (s d w : Int) (m : Bool) : weftlineref11_Good.f s d w m = some (decide (goodP s d w m)) := by
  unfold weftlineref11_Good.f
  by_cases h : goodP s d w m
  · rw [decide_eq_true h]
    obtain ⟨h1, h2, h3, h4, h5, h6⟩ := h
    cases m with
    | true =>
      obtain ⟨a, b⟩ := h5 rfl
      rw [if_pos rfl, if_pos h1, if_pos h2, if_pos h3, if_pos a, if_pos h4, decide_eq_true b]
    | false =>
      obtain ⟨a, b⟩ := h6 rfl
      rw [if_neg (by simp), if_pos a, if_pos b, if_pos h1, if_pos h2, if_pos h3, if_pos (by omega), if_pos h4, decide_eq_true (by omega)]
  · rw [decide_eq_false h]
    unfold goodP at h
    cases m with
    | true =>
      simp only [true_implies, reduceCtorEq, false_implies, and_true] at h
      rw [if_pos rfl]
      repeat' (first | (refine ite_some_false ?_ ; intro _))
      simp only [Option.some.injEq, decide_eq_false_iff_not]; omega
    | false =>
      simp only [true_implies, reduceCtorEq, false_implies, true_and] at h
      rw [if_neg (by simp)]
      repeat' (first | (refine ite_some_false ?_ ; intro _))
      simp only [Option.some.injEq, decide_eq_false_iff_not]; omega

theorem reftwice_yes {s d w : Int} {m : Bool} (h : goodP s d w m) : weftlineref11_Twice.f s d w m = some (s, d, twiceW w, m) := by
  unfold weftlineref11_Twice.f
  rw [refgood]
  have h1 := h.1
  have h2 := h.2.1
  simp only [Option.bind_some]
  rw [if_pos (by simp [h]), w64 (by omega) (by omega)]
  unfold twiceW mn
  rw [show 2 * w = w + w from by omega]
  by_cases h3 : w + w > 600
  · rw [if_pos h3, if_pos (by omega)]
  · rw [if_neg h3, if_neg (by omega)]
theorem reftwice_no {s d w : Int} {m : Bool} (h : ¬ goodP s d w m) : weftlineref11_Twice.f s d w m = some (0, 0, 30, false) := by
  unfold weftlineref11_Twice.f
  rw [refgood]
  simp only [Option.bind_some]
  rw [if_neg (by simp [h])]; rfl

end Go.Proofs.Ytdcdnjhiopjohaa.Pl
