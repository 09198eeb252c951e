import Derived.Test.YtdcdnjhiopjohaaPAllx3
import Derived.Test.YtdcdnjhiopjohaaPAllx4
import Derived.Test.YtdcdnjhiopjohaaPAllx5
import Derived.Test.YtdcdnjhiopjohaaPAllx6
import Derived.Test.YtdcdnjhiopjohaaPAllx7
import Derived.Test.YtdcdnjhiopjohaaPAllx8
import Derived.Test.YtdcdnjhiopjohaaPAllx10
import Derived.Test.YtdcdnjhiopjohaaNum
/- Plain laws of the estimate (layer 11): what Good, Took, Twice, Times come to, as plain functions. -/
namespace Go.Proofs.Ytdcdnjhiopjohaa.Pl
open Go.RowKit Go.Proofs.Ytdcdnjhiopjohaa.PAll Go.Proofs.YtdcdnjhiopjohaaW.PrintWords Go.Proofs.YtdcdnjhiopjohaaW.PrintLast Go.Proofs.YtdcdnjhiopjohaaW.PrintMore
def goodP (s d w : Int) (m : Bool) : Prop := 10 ≤ w ∧ w ≤ 600 ∧ 0 ≤ s ∧ 0 ≤ d ∧ (m = true → s ≤ 524280 ∧ d ≤ 262140) ∧ (m = false → s = 0 ∧ d = 0)
instance (s d w : Int) (m : Bool) : Decidable (goodP s d w m) := by unfold goodP; infer_instance

theorem good_yes {s d w : Int} {m : Bool} (k : Nat) (h : goodP s d w m) : rto_Good.f (k + 1) s d w m = some true := by
  obtain ⟨h1, h2, h3, h4, h5, h6⟩ := h
  unfold rto_Good.f
  rw [if_neg (by omega), if_neg (by omega), if_neg (by omega)]
  simp only [rto_Good.j0]
  have : decide (d < 0) = false := by simp; omega
  rw [this, if_neg (by simp)]
  cases m with
  | true => obtain ⟨a, b⟩ := h5 rfl; rw [if_pos rfl, if_pos a]; simp [b]
  | false => obtain ⟨a, b⟩ := h6 rfl; rw [if_neg (by simp), if_pos a]; simp [b]

theorem good_no {s d w : Int} {m : Bool} (k : Nat) (h : ¬ goodP s d w m) : rto_Good.f (k + 1) s d w m = some false := by
  unfold goodP at h
  unfold rto_Good.f
  by_cases h1 : w < 10
  · rw [if_pos h1]; simp [rto_Good.j0]
  rw [if_neg h1]
  by_cases h2 : w > 600
  · rw [if_pos h2]; simp [rto_Good.j0]
  rw [if_neg h2]
  by_cases h3 : s < 0
  · rw [if_pos h3]; simp [rto_Good.j0]
  rw [if_neg h3]
  by_cases h4 : d < 0
  · simp [rto_Good.j0, h4]
  have : decide (d < 0) = false := by simp; omega
  rw [this]
  simp only [rto_Good.j0]
  rw [if_neg (by simp)]
  cases m with
  | true =>
    rw [if_pos rfl]
    by_cases h5 : s ≤ 524280
    · rw [if_pos h5]; simp only [Option.some.injEq, decide_eq_false_iff_not]
      intro h6
      exact h ⟨by omega, by omega, by omega, by omega, fun _ => ⟨h5, h6⟩, fun h => by cases h⟩
    · rw [if_neg h5]
  | false =>
    rw [if_neg (by simp)]
    by_cases h5 : s = 0
    · rw [if_pos h5]; simp only [Option.some.injEq, beq_eq_false_iff_ne]
      intro h6
      exact h ⟨by omega, by omega, by omega, by omega, fun h => by (cases h), fun _ => ⟨h5, h6⟩⟩
    · rw [if_neg h5]

theorem good_eq (s d w : Int) (m : Bool) (k : Nat) : rto_Good.f (k + 1) s d w m = some (decide (goodP s d w m)) := by
  by_cases h : goodP s d w m
  · rw [good_yes k h]; simp [h]
  · rw [good_no k h]; simp [h]

def clampW (x : Int) : Int := mn (mx x 10) 600
theorem clamp_lo (x : Int) : 10 ≤ clampW x := by unfold clampW mn mx; split <;> split <;> omega
theorem clamp_hi (x : Int) : clampW x ≤ 600 := by unfold clampW mn mx; split <;> split <;> omega
theorem clamp_mono {x y : Int} (h : x ≤ y) : clampW x ≤ clampW y := by unfold clampW mn mx; (repeat' split) <;> omega

/-- The estimate behind an answer. -/
def tookS (s _d r : Int) (m : Bool) : Int := if m = true then s + (r - s / 8) else 8 * r
def tookD (s d r : Int) (m : Bool) : Int := if m = true then d + ((if r - s / 8 < 0 then -(r - s / 8) else r - s / 8) - d / 4) else 2 * r

theorem took_bounds {s d w r : Int} {m : Bool} (h : goodP s d w m) (h0 : 0 ≤ r) (h1 : r ≤ 65535) :
    0 ≤ tookS s d r m ∧ tookS s d r m ≤ 524280 ∧ 0 ≤ tookD s d r m ∧ tookD s d r m ≤ 262140 := by
  obtain ⟨_, _, h3, h4, h5, h6⟩ := h
  unfold tookS tookD
  cases m with
  | true => obtain ⟨a, b⟩ := h5 rfl; simp only [if_true]; split <;> omega
  | false => simp; omega

theorem took_yes {s d w r : Int} {m : Bool} (k : Nat) (h : goodP s d w m) (h0 : 0 ≤ r) (h1 : r ≤ 65535) :
    rto_Estimate_Took.f (k + 1) s d w m r = some (tookS s d r m, tookD s d r m, clampW (tookS s d r m / 8 + tookD s d r m), true, none) := by
  have hb := took_bounds h h0 h1
  have hg := h
  obtain ⟨_, _, h3, h4, h5, h6⟩ := h
  unfold rto_Estimate_Took.f
  rw [good_yes k hg]
  simp only [Option.bind_some, if_true]
  rw [if_neg (by omega)]
  have : decide (r > 65535) = false := by simp; omega
  rw [this]
  simp only [rto_Estimate_Took.j0]
  rw [if_neg (by simp)]
  cases m with
  | true =>
    obtain ⟨a, b⟩ := h5 rfl
    rw [if_pos rfl]
    have e1 : wrap64 (s.tdiv 8) = s / 8 := by rw [td s h3]; exact w64 (by omega) (by omega)
    have e2 : wrap64 (d.tdiv 4) = d / 4 := by rw [td d h4]; exact w64 (by omega) (by omega)
    have e3 : wrap64 (r - s / 8) = r - s / 8 := w64 (by omega) (by omega)
    rw [e1, e2, e3]
    have e4 : rto_off.f (r - s / 8) = some (if r - s / 8 < 0 then -(r - s / 8) else r - s / 8) := by
      unfold rto_off.f mx
      rw [w64 (by omega) (by omega)]
      congr 1
      split <;> split <;> omega
    rw [e4]
    simp only [Option.bind_some]
    have t1 : tookS s d r true = s + (r - s / 8) := by simp [tookS]
    have t2 : tookD s d r true = d + ((if r - s / 8 < 0 then -(r - s / 8) else r - s / 8) - d / 4) := by simp [tookD]
    rw [t1, t2] at hb ⊢
    generalize (if r - s / 8 < 0 then -(r - s / 8) else r - s / 8) = o at hb ⊢
    obtain ⟨b1, b2, b3, b4⟩ := hb
    rw [w64 (x := s + (r - s / 8)) (by omega) (by omega), w64 (x := o - d / 4) (by omega) (by omega), w64 (x := d + (o - d / 4)) (by omega) (by omega)]
    rw [td _ b1, w64 (x := (s + (r - s / 8)) / 8) (by omega) (by omega), w64 (by omega) (by omega)]
    rfl
  | false =>
    rw [if_neg (by simp)]
    have t1 : tookS s d r false = 8 * r := by simp [tookS]
    have t2 : tookD s d r false = 2 * r := by simp [tookD]
    rw [t1, t2]
    rw [w64 (x := 8 * r) (by omega) (by omega), w64 (x := 4 * r) (by omega) (by omega), td _ (by omega), td _ (by omega)]
    rw [w64 (x := 8 * r / 8) (by omega) (by omega), w64 (x := 4 * r / 2) (by omega) (by omega), show 4 * r / 2 = 2 * r from by omega, w64 (by omega) (by omega)]
    rfl

theorem took_no {s d w r : Int} {m : Bool} (k : Nat) (h : ¬ goodP s d w m ∨ r < 0 ∨ 65535 < r) :
    rto_Estimate_Took.f (k + 1) s d w m r = some (0, 0, 0, false, some 1) := by
  unfold rto_Estimate_Took.f
  by_cases hg : goodP s d w m
  · rw [good_yes k hg]
    simp only [Option.bind_some, if_true]
    by_cases h1 : r < 0
    · rw [if_pos h1]; simp [rto_Estimate_Took.j0]
    · rw [if_neg h1]
      have : decide (r > 65535) = true := by
        simp
        rcases h with h | h | h
        · exact absurd hg h
        · omega
        · exact h
      rw [this]; simp [rto_Estimate_Took.j0]
  · rw [good_no k hg]
    simp [rto_Estimate_Took.j0]

theorem took_good {s d w r : Int} {m : Bool} (h : goodP s d w m) (h0 : 0 ≤ r) (h1 : r ≤ 65535) :
    goodP (tookS s d r m) (tookD s d r m) (clampW (tookS s d r m / 8 + tookD s d r m)) true := by
  have hb := took_bounds h h0 h1
  exact ⟨clamp_lo _, clamp_hi _, hb.1, hb.2.2.1, fun _ => ⟨hb.2.1, hb.2.2.2⟩, fun h => by cases h⟩

theorem times_yes {s d w : Int} {m : Bool} (k : Nat) (h : goodP s d w m) : rto_Estimate_Times.f (k + 1) s d w m = some (s / 8, d / 4) := by
  have hg := h
  obtain ⟨_, _, h3, h4, h5, h6⟩ := h
  unfold rto_Estimate_Times.f
  rw [good_yes k hg]
  simp only [Option.bind_some, if_true]
  have : s ≤ 524280 ∧ d ≤ 262140 := by cases m with
    | true => exact h5 rfl
    | false => have := h6 rfl; omega
  rw [td s h3, td d h4, w64 (by omega) (by omega), w64 (by omega) (by omega)]
theorem times_no {s d w : Int} {m : Bool} (k : Nat) (h : ¬ goodP s d w m) : rto_Estimate_Times.f (k + 1) s d w m = some (0, 0) := by
  unfold rto_Estimate_Times.f
  rw [good_no k h]; simp

def twiceW (w : Int) : Int := mn (2 * w) 600
theorem twice_yes {s d w : Int} {m : Bool} (k : Nat) (h : goodP s d w m) : rto_Estimate_Twice.f (k + 1) s d w m = some (s, d, twiceW w, m) := by
  have hg := h
  obtain ⟨h1, h2, _⟩ := h
  unfold rto_Estimate_Twice.f
  rw [good_yes k hg]
  simp only [Option.bind_some, if_true]
  rw [w64 (by omega) (by omega)]; rfl
theorem twice_no {s d w : Int} {m : Bool} (k : Nat) (h : ¬ goodP s d w m) : rto_Estimate_Twice.f (k + 1) s d w m = some (0, 0, 30, false) := by
  unfold rto_Estimate_Twice.f
  rw [good_no k h]; simp [rto_First.f]
theorem twice_good {s d w : Int} {m : Bool} (h : goodP s d w m) : goodP s d (twiceW w) m := by
  obtain ⟨h1, h2, h3⟩ := h
  refine ⟨?_, ?_, h3⟩ <;> (unfold twiceW mn; split <;> omega)

theorem alive11 (k : Nat) : weftlinelaw11_alive.f (k + 1) = some true := by
  unfold weftlinelaw11_alive.f rto_First.f
  simp only [Option.bind_some]
  have g0 : goodP 0 0 30 false := by decide
  rw [took_yes k g0 (by decide) (by decide)]
  simp only [Option.bind_some]
  have g1 := took_good (r := 8) g0 (by decide) (by decide)
  rw [took_yes k g1 (by decide) (by decide)]
  rfl

end Go.Proofs.Ytdcdnjhiopjohaa.Pl
