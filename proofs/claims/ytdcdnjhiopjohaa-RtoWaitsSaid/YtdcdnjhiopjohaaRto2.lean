import Derived.Test.YtdcdnjhiopjohaaRto
import Derived.Test.YtdcdnjhiopjohaaPAllx5
import Derived.Test.YtdcdnjhiopjohaaPAllx7
/- Plain laws of the estimate (layer 11), second part: RtoKeeps, RtoWaits, the document's functions. -/
namespace Go.Proofs.Ytdcdnjhiopjohaa.Pl
open Go.RowKit Go.Proofs.Ytdcdnjhiopjohaa.PAll Go.Proofs.YtdcdnjhiopjohaaW.PrintWords Go.Proofs.YtdcdnjhiopjohaaW.PrintLast Go.Proofs.YtdcdnjhiopjohaaW.PrintMore

theorem keeps_loop (l : List Int) (hl : l.length ≤ 100) : ∀ (n k : Nat) (i s d w : Int) (m : Bool), 0 ≤ i → (l.length : Int) - i ≤ n → n + 1 < k → goodP s d w m →
    weftlinelaw11_RtoKeeps.l0 k l (l.length : Int) i s d w m = some true := by
  intro n
  induction n with
  | zero =>
    intro k i s d w m hi hn hk _
    obtain ⟨k, rfl⟩ : ∃ j, k = j + 1 := ⟨k - 1, by omega⟩
    simp only [weftlinelaw11_RtoKeeps.l0]
    rw [if_neg (by omega)]
  | succ n ih =>
    intro k i s d w m hi hn hk hg
    obtain ⟨k, rfl⟩ : ∃ j, k = j + 1 := ⟨k - 1, by omega⟩
    simp only [weftlinelaw11_RtoKeeps.l0]
    obtain ⟨k, rfl⟩ : ∃ j, k = j + 1 := ⟨k - 1, by omega⟩
    by_cases hlt : i < (l.length : Int)
    · rw [if_pos hlt, if_pos hi, if_pos hlt, w64 (by omega) (by omega)]
      generalize rd l i = r
      by_cases h0 : r < 0
      · rw [if_pos h0, twice_yes k hg]
        simp only [Option.bind_some]
        have g := twice_good hg
        rw [good_yes k g]
        simp only [Option.bind_some, if_true]
        rw [if_neg (by have := g.1; omega), if_neg (by have := g.2.1; omega)]
        exact ih (k + 1) (i + 1) _ _ _ _ (by omega) (by omega) (by omega) g
      · rw [if_neg h0]
        by_cases h1 : r ≤ 65535
        · rw [took_yes k hg (by omega) h1]
          simp only [Option.bind_some, Option.isNone_none, if_true]
          have g := took_good hg (show 0 ≤ r by omega) h1
          rw [good_yes k g]
          simp only [Option.bind_some, if_true]
          rw [if_neg (by have := g.1; omega), if_neg (by have := g.2.1; omega)]
          exact ih (k + 1) (i + 1) _ _ _ _ (by omega) (by omega) (by omega) g
        · rw [took_no k (Or.inr (Or.inr (by omega)))]
          simp only [Option.bind_some, Option.isNone_some]
          rw [if_neg (by simp), if_neg h1, good_yes k hg]
          simp only [Option.bind_some, if_true]
          rw [if_neg (by have := hg.1; omega), if_neg (by have := hg.2.1; omega)]
          exact ih (k + 1) (i + 1) _ _ _ _ (by omega) (by omega) (by omega) hg
    · rw [if_neg hlt]

theorem keeps (s d w : Int) (m : Bool) (l : List Int) (k : Nat) (hk : 110 ≤ k) : weftlinelaw11_RtoKeeps.f k s d w m l = some true := by
  obtain ⟨k, rfl⟩ : ∃ j, k = j + 1 := ⟨k - 1, by omega⟩
  unfold weftlinelaw11_RtoKeeps.f
  rw [alive11 k]
  simp only [Option.bind_some, if_true]
  rw [good_eq]
  simp only [Option.bind_some]
  by_cases hg : goodP s d w m
  · rw [if_pos (by simp [hg])]
    simp only [weftlinelaw11_RtoKeeps.j0]
    by_cases hl : (l.length : Int) > 100
    · rw [if_pos (by simpa using hl)]
    · rw [if_neg (by simpa using hl)]
      exact keeps_loop l (by omega) 100 k 0 s d w m (by omega) (by omega) (by omega) hg
  · rw [if_neg (by simp [hg])]
    simp [weftlinelaw11_RtoKeeps.j0]

theorem ite_some_false {c : Prop} [Decidable c] {a : Option Bool} (h : c → a = some false) : (if c then a else some false) = some false := by
  by_cases hc : c
  · rw [if_pos hc, h hc]
  · rw [if_neg hc]

theorem refgood (s d w : Int) (m : Bool) : weftlineref11_Good.f s d w m = some (decide (goodP s d w m)) := by
  unfold weftlineref11_Good.f
  by_cases h : goodP s d w m
  · rw [decide_eq_true h]
    obtain ⟨h1, h2, h3, h4, h5, h6⟩ := h
    cases m with
    | true =>
      obtain ⟨a, b⟩ := h5 rfl
      rw [if_pos rfl, if_pos h1, if_pos h2, if_pos h3, if_pos a, if_pos h4, decide_eq_true b]
    | false =>
      obtain ⟨a, b⟩ := h6 rfl
      rw [if_neg (by simp), if_pos a, if_pos b, if_pos h1, if_pos h2, if_pos h3, if_pos (by omega), if_pos h4, decide_eq_true (by omega)]
  · rw [decide_eq_false h]
    unfold goodP at h
    cases m with
    | true =>
      simp only [true_implies, reduceCtorEq, false_implies, and_true] at h
      rw [if_pos rfl]
      repeat' (first | (refine ite_some_false ?_ ; intro _))
      simp only [Option.some.injEq, decide_eq_false_iff_not]; omega
    | false =>
      simp only [true_implies, reduceCtorEq, false_implies, true_and] at h
      rw [if_neg (by simp)]
      repeat' (first | (refine ite_some_false ?_ ; intro _))
      simp only [Option.some.injEq, decide_eq_false_iff_not]; omega

theorem reftwice_yes {s d w : Int} {m : Bool} (h : goodP s d w m) : weftlineref11_Twice.f s d w m = some (s, d, twiceW w, m) := by
  unfold weftlineref11_Twice.f
  rw [refgood]
  have h1 := h.1
  have h2 := h.2.1
  simp only [Option.bind_some]
  rw [if_pos (by simp [h]), w64 (by omega) (by omega)]
  unfold twiceW mn
  rw [show 2 * w = w + w from by omega]
  by_cases h3 : w + w > 600
  · rw [if_pos h3, if_pos (by omega)]
  · rw [if_neg h3, if_neg (by omega)]
theorem reftwice_no {s d w : Int} {m : Bool} (h : ¬ goodP s d w m) : weftlineref11_Twice.f s d w m = some (0, 0, 30, false) := by
  unfold weftlineref11_Twice.f
  rw [refgood]
  simp only [Option.bind_some]
  rw [if_neg (by simp [h])]; rfl

def wsum : Nat → Int → Int → Int
  | 0, acc, _ => acc
  | n + 1, acc, w => wsum n (acc + w) (twiceW w)

theorem waits_loop (N : Int) (hN : N ≤ 1000) (s d : Int) (m : Bool) : ∀ (n k : Nat) (acc i w : Int), goodP s d w m → 0 ≤ i → N - i = n → 0 ≤ acc → acc ≤ 600 * i → n + 1 < k →
    rto_Waits.l0 k acc N i s d w m = some (wsum n acc w) := by
  intro n
  induction n with
  | zero =>
    intro k acc i w hg hi hn _ _ hk
    obtain ⟨k, rfl⟩ : ∃ j, k = j + 1 := ⟨k - 1, by omega⟩
    simp only [rto_Waits.l0, wsum]
    rw [if_neg (by omega)]
  | succ n ih =>
    intro k acc i w hg hi hn h0 h1 hk
    obtain ⟨k, rfl⟩ : ∃ j, k = j + 1 := ⟨k - 1, by omega⟩
    simp only [rto_Waits.l0, wsum]
    obtain ⟨k, rfl⟩ : ∃ j, k = j + 1 := ⟨k - 1, by omega⟩
    have w0 := hg.1
    have w1 := hg.2.1
    rw [if_pos (by omega), twice_yes k hg]
    simp only [Option.bind_some]
    rw [w64 (x := acc + w) (by omega) (by omega), w64 (x := i + 1) (by omega) (by omega)]
    exact ih (k + 1) (acc + w) (i + 1) (twiceW w) (twice_good hg) (by omega) (by omega) (by omega) (by omega) (by omega)

theorem refwaits_loop (many N : Int) (hN : N = mn (mx many 0) 1000) (s d : Int) (m : Bool) : ∀ (n k : Nat) (acc i w : Int), goodP s d w m → 0 ≤ i → N - i = n → 0 ≤ acc → acc ≤ 600 * i → n + 1 < k →
    weftlineref11_Waits.l0 k many acc i s d w m = some (wsum n acc w) := by
  have hb : N ≤ 1000 ∧ (∀ i, 0 ≤ i → (i < N ↔ (i < many ∧ i < 1000))) := by
    subst hN
    unfold mn mx
    constructor
    · split <;> split <;> omega
    · intro i hi; split <;> split <;> omega
  obtain ⟨hb0, hb1⟩ := hb
  clear hN
  intro n
  induction n with
  | zero =>
    intro k acc i w hg hi hn _ _ hk
    obtain ⟨k, rfl⟩ : ∃ j, k = j + 1 := ⟨k - 1, by omega⟩
    simp only [weftlineref11_Waits.l0, wsum]
    have := (hb1 i hi)
    by_cases h : i < many
    · rw [if_pos h, if_neg (by omega)]
    · rw [if_neg h]
  | succ n ih =>
    intro k acc i w hg hi hn h0 h1 hk
    obtain ⟨k, rfl⟩ : ∃ j, k = j + 1 := ⟨k - 1, by omega⟩
    simp only [weftlineref11_Waits.l0, wsum]
    obtain ⟨k, rfl⟩ : ∃ j, k = j + 1 := ⟨k - 1, by omega⟩
    have w0 := hg.1
    have w1 := hg.2.1
    have hh := (hb1 i hi).mp (by omega)
    rw [if_pos hh.1, if_pos hh.2, refgood]
    simp only [Option.bind_some]
    rw [if_pos (by simp [hg]), reftwice_yes hg]
    simp only [Option.bind_some]
    rw [w64 (x := acc + w) (by omega) (by omega), w64 (x := i + 1) (by omega) (by omega)]
    exact ih (k + 1) (acc + w) (i + 1) (twiceW w) (twice_good hg) (by omega) (by omega) (by omega) (by omega) (by omega)

theorem waits (s d w : Int) (m : Bool) (many : Int) (k : Nat) (hk : 1010 ≤ k) : weftlinelaw11_RtoWaits.f k s d w m many = some true := by
  obtain ⟨k, rfl⟩ : ∃ j, k = j + 1 := ⟨k - 1, by omega⟩
  unfold weftlinelaw11_RtoWaits.f
  rw [alive11 k]
  simp only [Option.bind_some, if_true]
  unfold rto_Waits.f weftlineref11_Waits.f
  rw [good_eq]
  simp only [Option.bind_some]
  by_cases hg : goodP s d w m
  · rw [if_pos (by simp [hg])]
    have hb : 0 ≤ mn (mx many 0) 1000 ∧ mn (mx many 0) 1000 ≤ 1000 := by
      unfold mn mx; split <;> split <;> omega
    rw [waits_loop _ hb.2 s d m (mn (mx many 0) 1000).toNat (k + 1) 0 0 w hg (by omega) (by omega) (by omega) (by omega) (by omega)]
    rw [refwaits_loop many _ rfl s d m (mn (mx many 0) 1000).toNat (k + 1) 0 0 w hg (by omega) (by omega) (by omega) (by omega) (by omega)]
    simp
  · rw [if_neg (by simp [hg])]
    simp only [Option.bind_some, weftlineref11_Waits.l0]
    have : (if (0 : Int) < many then (if (0 : Int) < 1000 then ((weftlineref11_Good.f s d w m).bind fun t148 => (if t148 = true then ((weftlineref11_Twice.f s d w m).bind fun bt149 => (weftlineref11_Waits.l0 k many (wrap64 (0 + w)) (wrap64 (0 + 1)) bt149.1 bt149.2.1 bt149.2.2.1 bt149.2.2.2)) else (some 0))) else (some 0)) else (some 0)) = some 0 := by
      rw [refgood]
      simp [hg]
    rw [this]
    rfl
end Go.Proofs.Ytdcdnjhiopjohaa.Pl
