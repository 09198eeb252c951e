import Derived.Test.YtkginabioolmiaaGpN
/- The plain law of GapsCover: the runs are just what stands beyond. -/
namespace Go.Proofs.Ytkginabioolmiaa.Gp
open Go.RowKit
set_option linter.unusedVariables false
set_option linter.unusedSimpArgs false
theorem runN_spec (x : Int) : ∀ (l : List Int) (n : Nat), (∀ j, j < runN x n l - n → l.getD j 0 = (x + ((n + j : Nat) : Int)) % 4294967296) ∧ (runN x n l - n < l.length → l.getD (runN x n l - n) 0 ≠ (x + ((runN x n l : Nat) : Int)) % 4294967296)
  | [], n => ⟨fun j hj => by simp [runN] at hj, fun h => by simp at h⟩
  | y :: r, n => by
    unfold runN
    split
    · rename_i hy
      obtain ⟨h1, h2⟩ := runN_spec x r (n + 1)
      have hge := runN_ge x (n + 1) r
      refine ⟨fun j hj => ?_, fun h => ?_⟩
      · cases j with
        | zero => simpa using hy
        | succ j =>
          have := h1 j (by omega)
          rw [List.getD_cons_succ, this, show n + 1 + j = n + (j + 1) by omega]
      · have e : runN x (n + 1) r - n = (runN x (n + 1) r - (n + 1)) + 1 := by omega
        rw [e, List.getD_cons_succ]
        rw [e] at h
        exact h2 (by simp at h; omega)
    · rename_i hy
      exact ⟨fun j hj => absurd hj (by omega), fun h => by rw [Nat.sub_self]; simpa using hy⟩
/-- The next run. -/
theorem runs_split {xs : List Int} {k : Nat} (hk : k < xs.length) : ∃ m, 1 ≤ m ∧ k + m ≤ xs.length ∧ runs (xs.drop k) = (xs.getD k 0, m) :: runs (xs.drop (k + m)) ∧ (∀ j, j < m → xs.getD (k + j) 0 = (xs.getD k 0 + (j : Int)) % 4294967296 ∨ j = 0) ∧ (k + m < xs.length → xs.getD (k + m) 0 ≠ (xs.getD k 0 + (m : Int)) % 4294967296) := by
  have hd : xs.drop k = xs.getD k 0 :: xs.drop (k + 1) := by
    rw [List.drop_eq_getElem_cons hk]
    simp [List.getD_eq_getElem?_getD, List.getElem?_eq_getElem hk]
  obtain ⟨x, hx⟩ : ∃ x, x = xs.getD k 0 := ⟨_, rfl⟩
  rw [← hx] at hd ⊢
  obtain ⟨h1, h2⟩ := runN_spec x (xs.drop (k + 1)) 1
  have hge := runN_ge x 1 (xs.drop (k + 1))
  have hle := runN_le x 1 (xs.drop (k + 1))
  rw [List.length_drop] at hle h2
  obtain ⟨m, hm⟩ : ∃ m, m = runN x 1 (xs.drop (k + 1)) := ⟨_, rfl⟩
  rw [← hm] at h1 h2 hge hle
  have hgd : ∀ j, (xs.drop (k + 1)).getD j 0 = xs.getD (k + 1 + j) 0 := fun j => by simp [List.getD_eq_getElem?_getD, List.getElem?_drop]
  refine ⟨m, hge, by omega, ?_, fun j hj => ?_, fun h => ?_⟩
  · rw [hd, runs_cons, ← hm, List.drop_drop, show k + 1 + (m - 1) = k + m by omega]
  · cases j with
    | zero => exact .inr rfl
    | succ j =>
      left
      have := h1 j (by omega)
      rw [hgd] at this
      rw [show k + (j + 1) = k + 1 + j by omega, this, show 1 + j = j + 1 by omega]
  · have := h2 (by omega)
    rw [hgd, show k + 1 + (m - 1) = k + m by omega] at this
    exact this
/-- How far the last one of the first k is. -/
def lastF (c : Int) (xs : List Int) (k : Nat) : Int := if k = 0 then 0 else far c (xs.getD (k - 1) 0)
/-- Between two runs. -/
def Bd (xs : List Int) (k : Nat) : Prop := k = 0 ∨ xs.length ≤ k ∨ xs.getD k 0 ≠ (xs.getD (k - 1) 0 + 1) % 4294967296
theorem mem_getD {xs : List Int} {k : Nat} (hk : k < xs.length) : xs.getD k 0 ∈ xs := by
  rw [List.getD_eq_getElem?_getD, List.getElem?_eq_getElem hk]
  exact List.getElem_mem hk
/-- A run's gap. -/
theorem run_gap {c : Int} {xs : List Int} (h : Gd c xs) {k : Nat} (hk : k < xs.length) (hb : Bd xs k) : ∃ (m : Nat) (f : Int), 1 ≤ m ∧ k + m ≤ xs.length ∧ runs (xs.drop k) = (xs.getD k 0, m) :: runs (xs.drop (k + m)) ∧ f = far c (xs.getD k 0) ∧ gapOf c (xs.getD k 0, m) = (f, f + (m : Int) - 1) ∧ lastF c xs k + 2 ≤ f ∧ 2 ≤ f ∧ f + (m : Int) ≤ 513 ∧ (∀ j, j < m → xs.getD (k + j) 0 = (c + (f + (j : Int))) % 4294967296) ∧ lastF c xs (k + m) = f + (m : Int) - 1 ∧ Bd xs (k + m) := by
  obtain ⟨m, hm1, hm2, hr, hj, hn⟩ := runs_split hk
  obtain ⟨x, hx⟩ : ∃ x, x = xs.getD k 0 := ⟨_, rfl⟩
  have hxm : x ∈ xs := by rw [hx]; exact mem_getD hk
  rw [← hx] at hr hj hn
  have hx32 := h.u32 x hxm
  have hxr := h.rng x hxm
  have hall : ∀ j, j < m → xs.getD (k + j) 0 = (c + (far c x + (j : Int))) % 4294967296 := fun j hjm => by
    rcases hj j hjm with h1 | h1
    · rw [h1]; unfold far; omega
    · subst h1
      rw [Nat.add_zero, ← hx]
      have := h.c32
      unfold far U32 at *
      omega
  have hlast : far c (xs.getD (k + (m - 1)) 0) = far c x + (m : Int) - 1 ∧ far c x + (m : Int) ≤ 513 := by
    have h2 := h.rng _ (mem_getD (show k + (m - 1) < xs.length by omega))
    have h3 := hall (m - 1) (by omega)
    have hml : m ≤ 512 ∨ 512 < m := by omega
    rcases hml with hml | hml
    · have h4 : far c (xs.getD (k + (m - 1)) 0) = far c x + (m : Int) - 1 := by
        rw [h3]
        have := h.c32
        unfold far U32 at *
        omega
      exact ⟨h4, by omega⟩
    · exfalso
      have h5 := h.rng _ (mem_getD (show k + 511 < xs.length by omega))
      rw [hall 511 (by omega)] at h5
      have := h.c32
      clear hall hj hn h2 h3
      unfold far U32 at *
      omega
  refine ⟨m, far c x, hm1, hm2, by rw [← hx]; exact hr, by rw [← hx], ?_, ?_, hxr.1, hlast.2, hall, ?_, ?_⟩
  · rw [← hx]
    unfold gapOf
    have h1 : wrap64 (far c x + (m : Int)) = far c x + (m : Int) := by unfold wrap64; omega
    have h2 : wrap64 (far c x + (m : Int) - 1) = far c x + (m : Int) - 1 := by unfold wrap64; omega
    rw [show ((x, m) : Int × Nat).1 = x from rfl, show ((x, m) : Int × Nat).2 = m from rfl, h1, h2]
  · unfold lastF
    split
    · omega
    · rename_i hk0
      rcases hb with h1 | h1 | h1
      · exact absurd h1 hk0
      · omega
      · rw [← hx] at h1
        have h2 := srt_lt h.srt (show k - 1 < k by omega) hk
        rw [← hx] at h2
        have h3 := h.rng _ (mem_getD (show k - 1 < xs.length by omega))
        have h4 := h.u32 _ (mem_getD (show k - 1 < xs.length by omega))
        have := h.c32
        generalize xs.getD (k - 1) 0 = y at h1 h2 h3 h4 ⊢
        clear hall hj hn hlast
        unfold far U32 at *
        omega
  · unfold lastF
    rw [if_neg (by omega), show k + m - 1 = k + (m - 1) by omega]
    exact hlast.1
  · by_cases hkm : k + m < xs.length
    · right; right
      rw [show k + m - 1 = k + (m - 1) by omega, hall (m - 1) (by omega)]
      intro he
      refine hn hkm ?_
      rw [he]
      have := h.c32
      unfold far U32 at *
      omega
    · right; left; omega
theorem holes_last {c : Int} {xs : List Int} : holes c xs = lastF c xs xs.length - xs.length := by
  unfold holes lastF
  split
  · rename_i h; rw [h]; rfl
  · rfl
end Go.Proofs.Ytkginabioolmiaa.Gp
