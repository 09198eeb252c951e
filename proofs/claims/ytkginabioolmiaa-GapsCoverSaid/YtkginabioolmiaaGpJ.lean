import Derived.Test.YtkginabioolmiaaGpI
/- The plain laws of a tracker: what Take keeps. -/
namespace Go.Proofs.Ytkginabioolmiaa.Gp
open Go.RowKit
set_option linter.unusedVariables false
set_option linter.unusedSimpArgs false
/-- A tracker as it stands between two calls. -/
structure Gd (c : Int) (xs : List Int) : Prop where
  c32 : U32 c
  u32 : ∀ y ∈ xs, U32 y
  srt : Srt c xs
  rng : ∀ y ∈ xs, 2 ≤ far c y ∧ far c y ≤ 512
/-- .. and ahead of advance. -/
structure Ga (c : Int) (xs : List Int) : Prop where
  c32 : U32 c
  u32 : ∀ y ∈ xs, U32 y
  srt : Srt c xs
  rng : ∀ y ∈ xs, 1 ≤ far c y ∧ far c y ≤ 512
theorem gd_new {c : Int} (h : U32 c) : Gd c [] := ⟨h, fun y hy => absurd hy (by simp), List.Pairwise.nil, fun y hy => absurd hy (by simp)⟩
theorem far_step {c y z : Int} (hy : y = (c + 1) % 4294967296) (hz : 2 ≤ far c z) : far y z = far c z - 1 := by
  unfold far at *
  omega
theorem adv_gd : ∀ (l : List Int) (c : Int), Ga c l → Gd (adv c l).1 (adv c l).2
  | [], c, h => gd_new h.c32
  | y :: r, c, h => by
    by_cases hy : y = (c + 1) % 4294967296
    · rw [adv_pos hy]
      have hsr := List.pairwise_cons.1 h.srt
      have hy1 : far c y = 1 := by
        have h1 := h.c32
        unfold far U32 at *
        omega
      have h2 : ∀ z ∈ r, 2 ≤ far c z ∧ far c z ≤ 512 := fun z hz => by
        have h3 := hsr.1 z hz
        have h4 := (h.rng z (List.mem_cons_of_mem _ hz)).2
        omega
      refine adv_gd r y ⟨h.u32 y List.mem_cons_self, fun z hz => h.u32 z (List.mem_cons_of_mem _ hz), ?_, fun z hz => ?_⟩
      · refine List.Pairwise.imp_of_mem (fun {a b} ha hb hab => ?_) hsr.2
        rw [far_step hy (h2 a ha).1, far_step hy (h2 b hb).1]
        omega
      · rw [far_step hy (h2 z hz).1]
        have := h2 z hz
        omega
    · rw [adv_neg hy]
      refine ⟨h.c32, h.u32, h.srt, fun z hz => ?_⟩
      have hsr := List.pairwise_cons.1 h.srt
      have h1 : 2 ≤ far c y := by
        have h2 := (h.rng y List.mem_cons_self).1
        have h3 := h.u32 y List.mem_cons_self
        have h4 := h.c32
        unfold far U32 at *
        omega
      refine ⟨?_, (h.rng z hz).2⟩
      rcases List.mem_cons.1 hz with rfl | hz'
      · exact h1
      · have := hsr.1 z hz'
        show 2 ≤ far c z
        omega
theorem ins_mem {c x z : Int} : ∀ {l : List Int}, z ∈ ins c x l ↔ z = x ∨ z ∈ l
  | [] => by simp [ins]
  | y :: r => by
    unfold ins
    split
    · rw [List.mem_cons, ins_mem, List.mem_cons]
      constructor
      · rintro (h | h | h)
        · exact .inr (.inl h)
        · exact .inl h
        · exact .inr (.inr h)
      · rintro (h | h | h)
        · exact .inr (.inl h)
        · exact .inl h
        · exact .inr (.inr h)
    · rw [List.mem_cons]
theorem ins_srt {c x : Int} : ∀ {l : List Int}, Srt c l → (∀ y ∈ l, far c y ≠ far c x) → Srt c (ins c x l)
  | [], _, _ => List.pairwise_singleton _ _
  | y :: r, hs, hn => by
    have hsr := List.pairwise_cons.1 hs
    unfold ins
    split
    · rename_i h
      refine List.pairwise_cons.2 ⟨fun z hz => ?_, ins_srt hsr.2 (fun z hz => hn z (List.mem_cons_of_mem _ hz))⟩
      rcases ins_mem.1 hz with rfl | hz
      · exact h
      · exact hsr.1 z hz
    · rename_i h
      have h2 : far c x < far c y := by have := hn y List.mem_cons_self; omega
      refine List.pairwise_cons.2 ⟨fun z hz => ?_, hs⟩
      rcases List.mem_cons.1 hz with rfl | hz
      · exact h2
      · have := hsr.1 z hz
        omega
theorem ins_len {c x : Int} : ∀ l : List Int, (ins c x l).length = l.length + 1
  | [] => rfl
  | y :: r => by
    unfold ins
    split
    · simp [ins_len r]
    · simp
theorem adv_len : ∀ (l : List Int) (c : Int), (adv c l).2.length ≤ l.length
  | [], c => Nat.le_refl _
  | y :: r, c => by
    by_cases hy : y = (c + 1) % 4294967296
    · rw [adv_pos hy]
      have := adv_len r y
      simp
      omega
    · rw [adv_neg hy]
      exact Nat.le_refl _
theorem has_of {c x : Int} {xs : List Int} : hasB c xs x = true ↔ x ∈ xs ∨ far c x = 0 ∨ 2147483648 ≤ far c x := by
  unfold hasB ahead
  by_cases hm : x ∈ xs
  · simp [hm]
  · by_cases h0 : far c x = 0
    · simp [hm, h0]
    · simp [hm, h0]
/-- A new TSN that isn't too far. -/
theorem ins_ga {c x : Int} {xs : List Int} (h : Gd c xs) (hx : U32 x) (hh : ¬ hasB c xs x = true) (hf : ¬ 512 < far c x) : Ga c (ins c x xs) := by
  rw [has_of] at hh
  simp only [not_or] at hh
  have h0 := far_nn c x
  refine ⟨h.c32, fun y hy => ?_, ins_srt h.srt (fun y hy he => hh.1 ?_), fun y hy => ?_⟩
  · rcases ins_mem.1 hy with rfl | hy
    · exact hx
    · exact h.u32 y hy
  · rw [← far_inj (h.u32 y hy) hx he]
    exact hy
  · rcases ins_mem.1 hy with rfl | hy
    · have := hh.2.1
      omega
    · have := h.rng y hy
      omega
theorem take_gd {c x : Int} {xs ds : List Int} (h : Gd c xs) (hx : U32 x) : Gd (take c xs ds x).c (take c xs ds x).xs := by
  by_cases hh : hasB c xs x = true
  · rw [take_has hh]; exact h
  · by_cases hf : 512 < far c x
    · rw [take_far hh hf]; exact h
    · rw [take_new hh hf]
      exact adv_gd _ _ (ins_ga h hx hh hf)
theorem take_len (c x : Int) (xs ds : List Int) : (take c xs ds x).xs.length ≤ xs.length + 1 := by
  by_cases hh : hasB c xs x = true
  · rw [take_has hh]; exact Nat.le_succ _
  · by_cases hf : 512 < far c x
    · rw [take_far hh hf]; exact Nat.le_succ _
    · rw [take_new hh hf]
      have := adv_len (ins c x xs) c
      rw [ins_len] at this
      exact this
/-- What is behind stays behind, what was beyond stands there or is behind. -/
theorem adv_has : ∀ (l : List Int) (c : Int) (k : Nat), k + l.length ≤ 1000000 → (∀ z, far z c ≤ k → far z (adv c l).1 ≤ k + l.length) ∧ (∀ z ∈ l, z ∈ (adv c l).2 ∨ far z (adv c l).1 ≤ l.length)
  | [], c, k, _ => ⟨fun z h => by simpa [adv] using h, fun z hz => absurd hz (by simp)⟩
  | y :: r, c, k, hk => by
    have hkr : k + 1 + r.length ≤ 1000000 := by simp at hk; omega
    by_cases hy : y = (c + 1) % 4294967296
    · rw [adv_pos hy]
      have ih := adv_has r y (k + 1) hkr
      have ih0 := adv_has r y 0 (by omega)
      refine ⟨fun z hz => ?_, fun z hz => ?_⟩
      · have h1 : far z y ≤ ((k + 1 : Nat) : Int) := by
          unfold far at *
          omega
        have := ih.1 z h1
        simp
        omega
      · rcases List.mem_cons.1 hz with rfl | hz
        · right
          have h1 : far z z ≤ ((0 : Nat) : Int) := by unfold far; omega
          have := ih0.1 z h1
          simp
          omega
        · rcases ih0.2 z hz with h | h
          · exact .inl h
          · right
            simp
            omega
    · rw [adv_neg hy]
      exact ⟨fun z hz => by simp; omega, fun z hz => .inl hz⟩
theorem behind {c z : Int} (h : far z c ≤ 1000000) : far c z = 0 ∨ 2147483648 ≤ far c z := by
  have h1 := far_nn z c
  unfold far at *
  omega
/-- What has been taken is there. -/
theorem take_now {c x : Int} {xs ds : List Int} (hl : xs.length ≤ 100000) (he : (take c xs ds x).err = .nilIface) : hasB (take c xs ds x).c (take c xs ds x).xs x = true := by
  by_cases hh : hasB c xs x = true
  · rw [take_has hh]; exact hh
  · by_cases hf : 512 < far c x
    · rw [take_far hh hf] at he
      cases he
    · rw [take_new hh hf]
      have h1 := ins_len (c := c) (x := x) xs
      rcases (adv_has (ins c x xs) c 0 (by omega)).2 x (ins_mem.2 (.inl rfl)) with h | h
      · exact has_of.2 (.inl h)
      · exact has_of.2 (.inr (behind (c := (adv c (ins c x xs)).1) (by omega)))
/-- What is refused is not there. -/
theorem take_bad {c x : Int} {xs ds : List Int} (he : ¬ (take c xs ds x).err = .nilIface) : (take c xs ds x).fresh = false ∧ hasB (take c xs ds x).c (take c xs ds x).xs x = false := by
  by_cases hh : hasB c xs x = true
  · rw [take_has hh] at he
    exact absurd rfl he
  · by_cases hf : 512 < far c x
    · rw [take_far hh hf]
      exact ⟨rfl, by simpa using hh⟩
    · rw [take_new hh hf] at he
      exact absurd rfl he
end Go.Proofs.Ytkginabioolmiaa.Gp
