-- printed by the kit's print.py, called for several laws at once (pj.sh)
import Derived.Test.YtjhciagjofhhiaaPCkx0
import Derived.Test.YtjhciagjofhhiaaAid
namespace Go.Proofs.Ytjhciagjofhhiaa.PCk
open Go.RowKit Go.Proofs.YtjhciagjofhhiaaW.PrintWords Go.Proofs.YtjhciagjofhhiaaW.PrintLast Go.Proofs.YtjhciagjofhhiaaW.PrintMore
attribute [local go_sem] max2_int min2_int max_two min_two max_three min_three max_four min_four   -- for this text's walks alone
attribute [local go_sem] Go.Proofs.Ytjhciagjofhhiaa.Aid.isSome_setCell
set_option linter.unusedVariables false
set_option linter.unusedSimpArgs false

/-! ### weftlineref07_Known: function 54 -/
def weftlineref07_Known.f (a0 : Int) : Option (Bool) := if a0 ≥ 0 then (if a0 ≤ 11 then (some true) else (if a0 = 14 then (some true) else (if a0 = 15 then (some true) else (if a0 = 128 then (some true) else (some (a0 == 193)))))) else (if a0 = 14 then (some true) else (if a0 = 15 then (some true) else (if a0 = 128 then (some true) else (some (a0 == 193)))))
set_option maxHeartbeats 8000000 in
set_option maxRecDepth 100000 in
theorem weftlineref07_Known.calls (a0 : Int) (r : Bool) (w : World) (h : weftlineref07_Known.f a0 = some r) :
    Calls Try.prog 54 #[.int .i64 a0] w fun e w' => e = .returned (.bool r) ∧ Drawn0 w w' := by
  have H : (if a0 ≥ 0 then (if a0 ≤ 11 then (some true) else (if a0 = 14 then (some true) else (if a0 = 15 then (some true) else (if a0 = 128 then (some true) else (some (a0 == 193)))))) else (if a0 = 14 then (some true) else (if a0 = 15 then (some true) else (if a0 = 128 then (some true) else (some (a0 == 193)))))) = some r := h
  clear h
  by_cases c2 : a0 ≥ 0
  · rw [if_pos c2] at H
    have c2b0 : decide (0 ≤ a0) = true := decide_eq_true c2
    clear c2
    by_cases c3 : a0 ≤ 11
    · rw [if_pos c3] at H
      have c3b0 : decide (a0 ≤ 11) = true := decide_eq_true c3
      clear c3
      obtain rfl := Option.some.inj H
      go_enter Try.func54, Try.ntmps54
      go_wp2
      go_ret
      exact ⟨by first | rfl | (simp; done) | (simp [*]; done), by repeat (first | exact Drawn0.refl _ | apply Drawn0.step)⟩
    · rw [if_neg c3] at H
      have c3b0 : decide (a0 ≤ 11) = false := decide_eq_false c3
      clear c3
      by_cases c4 : a0 = 14
      · rw [if_pos c4] at H
        have c4b0 : (a0 == 14) = true := beq_iff_eq.mpr c4
        have c4b1 : (a0 != 14) = false := bne_eq_false_iff_eq.mpr c4
        clear c4
        obtain rfl := Option.some.inj H
        go_enter Try.func54, Try.ntmps54
        go_wp2
        go_ret
        exact ⟨by first | rfl | (simp; done) | (simp [*]; done), by repeat (first | exact Drawn0.refl _ | apply Drawn0.step)⟩
      · rw [if_neg c4] at H
        have c4b0 : (a0 == 14) = false := beq_eq_false_iff_ne.mpr c4
        have c4b1 : (a0 != 14) = true := bne_iff_ne.mpr c4
        by_cases c5 : a0 = 15
        · rw [if_pos c5] at H
          have c5b0 : (a0 == 15) = true := beq_iff_eq.mpr c5
          have c5b1 : (a0 != 15) = false := bne_eq_false_iff_eq.mpr c5
          clear c5
          obtain rfl := Option.some.inj H
          go_enter Try.func54, Try.ntmps54
          go_wp2
          go_ret
          exact ⟨by first | rfl | (simp; done) | (simp [*]; done), by repeat (first | exact Drawn0.refl _ | apply Drawn0.step)⟩
        · rw [if_neg c5] at H
          have c5b0 : (a0 == 15) = false := beq_eq_false_iff_ne.mpr c5
          have c5b1 : (a0 != 15) = true := bne_iff_ne.mpr c5
          by_cases c6 : a0 = 128
          · rw [if_pos c6] at H
            have c6b0 : (a0 == 128) = true := beq_iff_eq.mpr c6
            have c6b1 : (a0 != 128) = false := bne_eq_false_iff_eq.mpr c6
            clear c6
            obtain rfl := Option.some.inj H
            go_enter Try.func54, Try.ntmps54
            go_wp2
            go_ret
            exact ⟨by first | rfl | (simp; done) | (simp [*]; done), by repeat (first | exact Drawn0.refl _ | apply Drawn0.step)⟩
          · rw [if_neg c6] at H
            have c6b0 : (a0 == 128) = false := beq_eq_false_iff_ne.mpr c6
            have c6b1 : (a0 != 128) = true := bne_iff_ne.mpr c6
            obtain rfl := Option.some.inj H
            go_enter Try.func54, Try.ntmps54
            go_wp2
            go_ret
            exact ⟨by first | rfl | (simp; done) | (simp [*]; done), by repeat (first | exact Drawn0.refl _ | apply Drawn0.step)⟩
  · rw [if_neg c2] at H
    have c2b0 : decide (0 ≤ a0) = false := decide_eq_false c2
    clear c2
    by_cases c7 : a0 = 14
    · rw [if_pos c7] at H
      have c7b0 : (a0 == 14) = true := beq_iff_eq.mpr c7
      have c7b1 : (a0 != 14) = false := bne_eq_false_iff_eq.mpr c7
      clear c7
      obtain rfl := Option.some.inj H
      go_enter Try.func54, Try.ntmps54
      go_wp2
      go_ret
      exact ⟨by first | rfl | (simp; done) | (simp [*]; done), by repeat (first | exact Drawn0.refl _ | apply Drawn0.step)⟩
    · rw [if_neg c7] at H
      have c7b0 : (a0 == 14) = false := beq_eq_false_iff_ne.mpr c7
      have c7b1 : (a0 != 14) = true := bne_iff_ne.mpr c7
      by_cases c8 : a0 = 15
      · rw [if_pos c8] at H
        have c8b0 : (a0 == 15) = true := beq_iff_eq.mpr c8
        have c8b1 : (a0 != 15) = false := bne_eq_false_iff_eq.mpr c8
        clear c8
        obtain rfl := Option.some.inj H
        go_enter Try.func54, Try.ntmps54
        go_wp2
        go_ret
        exact ⟨by first | rfl | (simp; done) | (simp [*]; done), by repeat (first | exact Drawn0.refl _ | apply Drawn0.step)⟩
      · rw [if_neg c8] at H
        have c8b0 : (a0 == 15) = false := beq_eq_false_iff_ne.mpr c8
        have c8b1 : (a0 != 15) = true := bne_iff_ne.mpr c8
        by_cases c9 : a0 = 128
        · rw [if_pos c9] at H
          have c9b0 : (a0 == 128) = true := beq_iff_eq.mpr c9
          have c9b1 : (a0 != 128) = false := bne_eq_false_iff_eq.mpr c9
          clear c9
          obtain rfl := Option.some.inj H
          go_enter Try.func54, Try.ntmps54
          go_wp2
          go_ret
          exact ⟨by first | rfl | (simp; done) | (simp [*]; done), by repeat (first | exact Drawn0.refl _ | apply Drawn0.step)⟩
        · rw [if_neg c9] at H
          have c9b0 : (a0 == 128) = false := beq_eq_false_iff_ne.mpr c9
          have c9b1 : (a0 != 128) = true := bne_iff_ne.mpr c9
          obtain rfl := Option.some.inj H
          go_enter Try.func54, Try.ntmps54
          go_wp2
          go_ret
          exact ⟨by first | rfl | (simp; done) | (simp [*]; done), by repeat (first | exact Drawn0.refl _ | apply Drawn0.step)⟩

/-- THE ONE PURE STATEMENT of weftlineref07_Known: yours. -/
def weftlineref07_Known.Pure : Prop := ∀ (a0 : Int), (Lit.int .i64 a0).wf = true → weftlineref07_Known.f a0 = some true
theorem weftlineref07_Known.walk (P : weftlineref07_Known.Pure) (a0 : Int) (w : World) (w0 : (Lit.int .i64 a0).wf = true) :
    Calls Try.prog 54 #[.int .i64 a0] w fun e w' => e = .returned (.bool true) ∧ Below w.heap.size w w' := by
  have h := P a0 w0
  refine (weftlineref07_Known.calls a0 true w h).mono ?_
  rintro e w' ⟨rfl, hd⟩
  exact ⟨rfl, hd.below⟩

end Go.Proofs.Ytjhciagjofhhiaa.PCk
