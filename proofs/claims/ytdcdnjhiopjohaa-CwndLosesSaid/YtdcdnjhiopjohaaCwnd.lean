import Derived.Test.YtdcdnjhiopjohaaPAllx22
import Derived.Test.YtdcdnjhiopjohaaPAllx23
import Derived.Test.YtdcdnjhiopjohaaPAllx24
import Derived.Test.YtdcdnjhiopjohaaPAllx25
import Derived.Test.YtdcdnjhiopjohaaPAllx26
import Derived.Test.YtdcdnjhiopjohaaPAllx27
import Derived.Test.YtdcdnjhiopjohaaPAllx28
import Derived.Test.YtdcdnjhiopjohaaPAllx29
import Derived.Test.YtdcdnjhiopjohaaPAllx30
import Derived.Test.YtdcdnjhiopjohaaPAllx31
import Derived.Test.YtdcdnjhiopjohaaPAllx32
import Derived.Test.YtdcdnjhiopjohaaPAllx33
import Derived.Test.YtdcdnjhiopjohaaPAllx34
import Derived.Test.YtdcdnjhiopjohaaPAllx36
import Derived.Test.YtdcdnjhiopjohaaPAllx37
import Derived.Test.YtdcdnjhiopjohaaPAllx38
import Derived.Test.YtdcdnjhiopjohaaPAllx39
import Derived.Test.YtdcdnjhiopjohaaPAllx40
import Derived.Test.YtdcdnjhiopjohaaNum
/- Plain laws of the window (layer 12): CwndGrows, CwndLoses. -/
namespace Go.Proofs.Ytdcdnjhiopjohaa.Pl
open Go.RowKit Go.Proofs.Ytdcdnjhiopjohaa.PAll Go.Proofs.YtdcdnjhiopjohaaW.PrintWords Go.Proofs.YtdcdnjhiopjohaaW.PrintLast Go.Proofs.YtdcdnjhiopjohaaW.PrintMore

def goodW (s t c : Int) : Prop := 128 ≤ s ∧ s ≤ 8192 ∧ 128 ≤ t ∧ t ≤ 8192 ∧ 0 ≤ c ∧ c ≤ 2147483648
instance (s t c : Int) : Decidable (goodW s t c) := by unfold goodW; infer_instance

theorem wgood (s t c : Int) : cwnd_Good.f s t c = some (decide (goodW s t c)) := by
  unfold cwnd_Good.f cwnd_sized.f
  by_cases h : goodW s t c
  · rw [decide_eq_true h]
    obtain ⟨h1, h2, h3, h4, h5, h6⟩ := h
    rw [if_pos h1, if_pos h3, if_pos h5, decide_eq_true h2, decide_eq_true h4, decide_eq_true h6]; rfl
  · rw [decide_eq_false h]
    unfold goodW at h
    by_cases h1 : s ≥ 128
    · rw [if_pos h1]
      by_cases h2 : s ≤ 8192
      · rw [decide_eq_true h2]
        by_cases h3 : t ≥ 128
        · rw [if_pos h3]
          by_cases h4 : t ≤ 8192
          · rw [decide_eq_true h4]
            by_cases h5 : c ≥ 0
            · rw [if_pos h5, decide_eq_false (by omega)]; rfl
            · rw [if_neg h5]; rfl
          · rw [decide_eq_false h4]; rfl
        · rw [if_neg h3]; rfl
      · rw [decide_eq_false h2]; rfl
    · rw [if_neg h1]; rfl

theorem wrefgood (s t c : Int) : weftlineref12_Good.f s t c = some (decide (goodW s t c)) := by
  unfold weftlineref12_Good.f
  by_cases h : goodW s t c
  · rw [decide_eq_true h]
    obtain ⟨h1, h2, h3, h4, h5, h6⟩ := h
    rw [if_pos h1, if_pos h2, if_pos h3, if_pos h4, if_pos h5, decide_eq_true h6]
  · rw [decide_eq_false h]
    unfold goodW at h
    by_cases h1 : s ≥ 128
    · rw [if_pos h1]
      by_cases h2 : s ≤ 8192
      · rw [if_pos h2]
        by_cases h3 : t ≥ 128
        · rw [if_pos h3]
          by_cases h4 : t ≤ 8192
          · rw [if_pos h4]
            by_cases h5 : c ≥ 0
            · rw [if_pos h5]; congr 1; rw [decide_eq_false_iff_not]; omega
            · rw [if_neg h5]
          · rw [if_neg h4]
        · rw [if_neg h3]
      · rw [if_neg h2]
    · rw [if_neg h1]

theorem wown_yes {s t c : Int} (h : goodW s t c) : cwnd_Window_own.f s t c = some (s, t, c) := by
  unfold cwnd_Window_own.f; rw [wgood]; simp [h]
theorem wown_no {s t c : Int} (h : ¬ goodW s t c) : cwnd_Window_own.f s t c = some (512, 2000, 0) := by
  unfold cwnd_Window_own.f; rw [wgood]; simp [h, cwnd_First.f]
theorem wslow_yes {s t c : Int} (h : goodW s t c) : cwnd_Window_Slow.f s t c = some (decide (s ≤ t)) := by
  unfold cwnd_Window_Slow.f; rw [wown_yes h]; rfl

theorem alive12 : weftlinelaw12_alive.f = some true := by decide +kernel

/-- A good window that isn't slow and is used whole. -/
theorem acked_full {s t c n : Int} (h : goodW s t c) (hs : ¬ s ≤ t) (hn : 0 ≤ n) (hn1 : n ≤ 8192) :
    cwnd_Window_Acked.f s t c n s = some (if s ≤ (if 2147483648 < c + n then 2147483648 else c + n) then (if 8192 < s + 128 then 8192 else s + 128, t, (if 2147483648 < c + n then 2147483648 else c + n) - s) else (s, t, if 2147483648 < c + n then 2147483648 else c + n)) := by
  have hg := h
  obtain ⟨h1, h2, h3, h4, h5, h6⟩ := h
  unfold cwnd_Window_Acked.f
  rw [wown_yes hg]
  simp only [Option.bind_some, cwnd_cut.f]
  have e1 : mn (mx n 0) 1048576 = n := by unfold mn mx; (repeat' split) <;> omega
  have e2 : mn (mx s 0) 1048576 = s := by unfold mn mx; (repeat' split) <;> omega
  rw [e1, e2, if_neg (by omega), wslow_yes hg, decide_eq_false hs]
  simp only [Option.bind_some, Bool.false_eq_true, if_false]
  rw [w64 (x := c + n) (by omega) (by omega), w64 (x := s + 128) (by omega) (by omega)]
  have e3 : mn (c + n) 2147483648 = if 2147483648 < c + n then 2147483648 else c + n := rfl
  rw [e3]
  have e4 : 0 ≤ (if 2147483648 < c + n then 2147483648 else c + n) ∧ (if 2147483648 < c + n then 2147483648 else c + n) ≤ 2147483648 := by split <;> omega
  generalize (if 2147483648 < c + n then 2147483648 else c + n) = d at e4 ⊢
  by_cases hd : s ≤ d
  · rw [if_pos hd, if_pos hd, w64 (by omega) (by omega)]; rfl
  · rw [if_neg hd, if_neg hd]
theorem acked_part {s t c n fl : Int} (h : goodW s t c) (h0 : 0 ≤ fl) (hf : fl < s) : cwnd_Window_Acked.f s t c n fl = some (s, t, c) := by
  have hg := h
  obtain ⟨h1, h2, h3, h4, h5, h6⟩ := h
  unfold cwnd_Window_Acked.f
  rw [wown_yes hg]
  simp only [Option.bind_some, cwnd_cut.f]
  have e2 : mn (mx fl 0) 1048576 = fl := by unfold mn mx; (repeat' split) <;> omega
  rw [e2, if_pos hf]

theorem grows (s t c : Int) (k : Nat) : weftlinelaw12_CwndGrows.f (k + 1) s t c = some true := by
  unfold weftlinelaw12_CwndGrows.f
  rw [alive12, wgood]
  simp only [Option.bind_some, if_true]
  by_cases hg : goodW s t c
  · rw [decide_eq_true hg]
    simp only [if_true]
    rw [wslow_yes hg]
    simp only [Option.bind_some]
    by_cases hs : s ≤ t
    · rw [decide_eq_true hs]; simp [weftlinelaw12_CwndGrows.j0]
    · rw [decide_eq_false hs]
      simp only [Bool.false_eq_true, if_false]
      by_cases hb : s > 8064
      · rw [decide_eq_true hb]; simp [weftlinelaw12_CwndGrows.j0]
      · rw [decide_eq_false hb]
        simp only [weftlinelaw12_CwndGrows.j0, Bool.false_eq_true, if_false]
        obtain ⟨h1, h2, h3, h4, h5, h6⟩ := hg
        have g0 : goodW s t 0 := ⟨h1, h2, h3, h4, by omega, by omega⟩
        have eE : cwnd_Window_Empty.f s t c = some (s, t, 0) := by
          unfold cwnd_Window_Empty.f; rw [wown_yes ⟨h1, h2, h3, h4, h5, h6⟩]; rfl
        rw [eE]
        simp only [Option.bind_some]
        rw [w64 (x := s - 1) (by omega) (by omega), w64 (x := s + 128) (by omega) (by omega)]
        have eY : cwnd_Window_Acked.f s t 0 (s - 1) s = some (s, t, s - 1) := by
          rw [acked_full g0 hs (by omega) (by omega), if_neg (by rw [if_neg (by omega)]; omega), if_neg (by omega)]
          simp
        rw [eY]
        simp only [Option.bind_some]
        have g1 : goodW s t (s - 1) := ⟨h1, h2, h3, h4, by omega, by omega⟩
        have eZ : cwnd_Window_Acked.f s t (s - 1) 1 s = some (s + 128, t, 0) := by
          rw [acked_full g1 hs (by omega) (by omega), if_pos (by rw [if_neg (by omega)]; omega), if_neg (by omega), if_neg (by omega)]
          congr 3; omega
        rw [eZ]
        simp only [Option.bind_some, if_true]
        rw [acked_part g0 (by omega) (by omega)]
        simp
  · rw [decide_eq_false hg]
    simp [weftlinelaw12_CwndGrows.j0]

/-! CwndLoses -/
def halfW (s : Int) : Int := if s / 2 < 512 then 512 else s / 2
theorem half_mx {s : Int} (h0 : 0 ≤ s) (h1 : s ≤ 8192) : mx (wrap64 (Int.tdiv s 2)) 512 = halfW s := by
  rw [td s h0, w64 (by omega) (by omega)]; rfl
theorem lost_yes {s t c : Int} (h : goodW s t c) : cwnd_Window_Lost.f s t c = some (halfW s, halfW s, 0) := by
  unfold cwnd_Window_Lost.f cwnd_Window_halved.f
  rw [wown_yes h]; simp only [Option.bind_some]; rw [half_mx (by have := h.1; omega) h.2.1]
theorem late_yes {s t c : Int} (h : goodW s t c) : cwnd_Window_Late.f s t c = some (128, halfW s, 0) := by
  unfold cwnd_Window_Late.f cwnd_Window_halved.f
  rw [wown_yes h]; simp only [Option.bind_some]; rw [half_mx (by have := h.1; omega) h.2.1]
theorem idle_yes {s t c : Int} (h : goodW s t c) : cwnd_Window_Idle.f s t c = some (if s > 512 then halfW s else s, t, 0) := by
  unfold cwnd_Window_Idle.f
  rw [wown_yes h]; simp only [Option.bind_some]; rw [half_mx (by have := h.1; omega) h.2.1]
  split <;> rfl
theorem empty_yes {s t c : Int} (h : goodW s t c) : cwnd_Window_Empty.f s t c = some (s, t, 0) := by
  unfold cwnd_Window_Empty.f
  rw [wown_yes h]; rfl
theorem reflost_yes {s t c : Int} (h : goodW s t c) (k : Nat) (b : Bool) : weftlineref12_Lost.f (k + 1) s t c b = some (if b = true then 128 else halfW s, halfW s, 0) := by
  unfold weftlineref12_Lost.f
  rw [wrefgood, decide_eq_true h]
  simp only [Option.bind_some, if_true, weftlineref12_Lost.j0]
  have h1 := h.1
  have h2 := h.2.1
  rw [td s (by omega), w64 (by omega) (by omega)]
  unfold halfW
  by_cases h3 : s / 2 < 512
  · simp only [if_pos h3]; cases b <;> rfl
  · simp only [if_neg h3]; cases b <;> rfl
theorem refrest_yes {s t c : Int} (h : goodW s t c) (k : Nat) (b : Bool) : weftlineref12_Rest.f (k + 2) s t c b = some (if b = true then (if s > 512 then halfW s else s) else s, t, 0) := by
  unfold weftlineref12_Rest.f
  rw [wrefgood, decide_eq_true h]
  simp only [Option.bind_some, if_true, weftlineref12_Rest.j0]
  have h1 := h.1
  have h2 := h.2.1
  unfold halfW
  cases b with
  | false => simp [weftlineref12_Rest.j1]
  | true =>
    simp only [if_true]
    by_cases h3 : s ≥ 1024
    · rw [decide_eq_true h3]
      simp only [weftlineref12_Rest.j1, if_true]
      rw [td s (by omega), w64 (by omega) (by omega), if_pos (by omega), if_neg (by omega)]
    · rw [decide_eq_false h3]
      simp only [weftlineref12_Rest.j1, if_true, Bool.false_eq_true, if_false]
      by_cases h4 : s > 512
      · rw [if_pos h4, if_pos h4, if_pos (by omega)]
      · rw [if_neg h4, if_neg h4]
theorem loses_good {s t c : Int} (h : goodW s t c) (k : Nat) : weftlinelaw12_CwndLoses.f (k + 2) s t c = some true := by
  unfold weftlinelaw12_CwndLoses.f
  rw [alive12]
  simp only [Option.bind_some, if_true]
  rw [lost_yes h, reflost_yes h (k + 1), late_yes h, reflost_yes h (k + 1), idle_yes h, refrest_yes h k, empty_yes h, refrest_yes h k]
  simp
theorem loses_bad {s t c : Int} (h : ¬ goodW s t c) (k : Nat) : weftlinelaw12_CwndLoses.f k s t c = weftlinelaw12_CwndLoses.f k 512 2000 0 := by
  have g : goodW 512 2000 0 := by decide
  unfold weftlinelaw12_CwndLoses.f
  have eo : cwnd_Window_own.f s t c = cwnd_Window_own.f 512 2000 0 := by rw [wown_no h, wown_yes g]
  have el : cwnd_Window_Lost.f s t c = cwnd_Window_Lost.f 512 2000 0 := by unfold cwnd_Window_Lost.f cwnd_Window_halved.f; rw [eo]
  have ea : cwnd_Window_Late.f s t c = cwnd_Window_Late.f 512 2000 0 := by unfold cwnd_Window_Late.f cwnd_Window_halved.f; rw [eo]
  have ei : cwnd_Window_Idle.f s t c = cwnd_Window_Idle.f 512 2000 0 := by unfold cwnd_Window_Idle.f; rw [eo]
  have ee : cwnd_Window_Empty.f s t c = cwnd_Window_Empty.f 512 2000 0 := by unfold cwnd_Window_Empty.f; rw [eo]
  have rl : ∀ b, weftlineref12_Lost.f k s t c b = weftlineref12_Lost.f k 512 2000 0 b := fun b => by
    unfold weftlineref12_Lost.f; rw [wrefgood, wrefgood, decide_eq_true g, decide_eq_false h]; rfl
  have rr : ∀ b, weftlineref12_Rest.f k s t c b = weftlineref12_Rest.f k 512 2000 0 b := fun b => by
    unfold weftlineref12_Rest.f; rw [wrefgood, wrefgood, decide_eq_true g, decide_eq_false h]; rfl
  rw [el, ea, ei, ee, rl, rl, rr, rr]
theorem loses (s t c : Int) : weftlinelaw12_CwndLoses.f 2 s t c = some true := by
  by_cases h : goodW s t c
  · exact loses_good h 0
  · rw [loses_bad h]; exact loses_good (by decide) 0
end Go.Proofs.Ytdcdnjhiopjohaa.Pl
