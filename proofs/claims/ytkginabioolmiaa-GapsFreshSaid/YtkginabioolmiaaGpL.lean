import Derived.Test.YtkginabioolmiaaGpJ
import Derived.Maps.Own
import Derived.Maps.OwnOps
import Derived.Maps.Keyed
import Derived.Maps.Views
/- The plain law of GapsFresh: which numbers have come. -/
namespace Go.Proofs.Ytkginabioolmiaa.Gp
open Go.RowKit Go.Maps
set_option linter.unusedVariables false
set_option linter.unusedSimpArgs false
/-- The number n behind the first one. -/
def nth (c0 : Int) (n : Nat) : Int := (c0 + (n : Int)) % 4294967296
theorem nth_u32 (c0 : Int) (n : Nat) : U32 (nth c0 n) := by unfold U32 nth; omega
theorem nth_inj {c0 : Int} {a b : Nat} (ha : a ≤ 1000) (hb : b ≤ 1000) (h : nth c0 a = nth c0 b) : a = b := by unfold nth at h; omega
/-- What has come is what is not beyond the cumulative one, or stands there. -/
structure FrA (c0 : Int) (K : Nat → Prop) (c : Int) (xs : List Int) (L : Nat) : Prop where
  cum : c = nth c0 L
  le : L ≤ 60
  mem : ∀ m, 1 ≤ m → m ≤ 60 → (K m ↔ m ≤ L ∨ nth c0 m ∈ xs)
  elems : ∀ y ∈ xs, ∃ m, L < m ∧ m ≤ 60 ∧ y = nth c0 m
theorem adv_fr {c0 : Int} {K : Nat → Prop} : ∀ (l : List Int) (c : Int) (L : Nat), Srt c l → FrA c0 K c l L → ∃ L', FrA c0 K (adv c l).1 (adv c l).2 L'
  | [], c, L, _, h => ⟨L, h⟩
  | y :: r, c, L, hs, h => by
    by_cases hy : y = (c + 1) % 4294967296
    · rw [adv_pos hy]
      obtain ⟨m, h1, h2, h3⟩ := h.elems y List.mem_cons_self
      have hm : m = L + 1 := by
        have hc := h.cum
        have hl := h.le
        unfold nth at hc h3
        omega
      subst hm
      have hsr := List.pairwise_cons.1 hs
      refine adv_fr r y (L + 1) (List.Pairwise.imp_of_mem (fun {a b} ha hb hab => ?_) hsr.2) ⟨h3, h2, fun k hk1 hk2 => ?_, fun z hz => ?_⟩
      · obtain ⟨a1, p1, p2, rfl⟩ := h.elems a (List.mem_cons_of_mem _ ha)
        obtain ⟨b1, q1, q2, rfl⟩ := h.elems b (List.mem_cons_of_mem _ hb)
        have hca := hsr.1 _ ha
        have hcb := hsr.1 _ hb
        have hc := h.cum
        unfold far nth at *
        omega
      · rw [h.mem k hk1 hk2, List.mem_cons]
        constructor
        · rintro (h4 | h4 | h4)
          · exact .inl (by omega)
          · rw [h3] at h4
            exact .inl (by have := nth_inj (by omega) (by omega) h4; omega)
          · exact .inr h4
        · rintro (h4 | h4)
          · by_cases h5 : k ≤ L
            · exact .inl h5
            · exact .inr (.inl (by rw [h3, show k = L + 1 by omega]))
          · exact .inr (.inr h4)
      · obtain ⟨m, p1, p2, rfl⟩ := h.elems z (List.mem_cons_of_mem _ hz)
        refine ⟨m, ?_, p2, rfl⟩
        have h5 := hsr.1 _ hz
        have hc := h.cum
        rcases Nat.lt_or_eq_of_le p1 with h6 | h6
        · exact h6
        · exfalso
          rw [h3, ← h6] at h5
          exact absurd h5 (Int.lt_irrefl _)
    · rw [adv_neg hy]
      exact ⟨L, h⟩
structure Fr (c0 : Int) (ks : List Nat) (c : Int) (xs : List Int) (L : Nat) : Prop where
  gd : Gd c xs
  fr : FrA c0 (fun m => m ∈ ks) c xs L
theorem fr_new {c0 : Int} (h : U32 c0) : Fr c0 [] c0 [] 0 := ⟨gd_new h, ⟨by unfold nth U32 at *; omega, by decide, fun m h1 h2 => by simp; omega, fun y hy => absurd hy (by simp)⟩⟩
theorem fr_has {c0 c : Int} {ks : List Nat} {xs : List Int} {L n : Nat} (h : Fr c0 ks c xs L) (h1 : 1 ≤ n) (h2 : n ≤ 60) : hasB c xs (nth c0 n) = true ↔ n ∈ ks := by
  rw [has_of, h.fr.mem n h1 h2]
  have hc := h.fr.cum
  have hl := h.fr.le
  constructor
  · rintro (h3 | h3 | h3)
    · exact .inr h3
    · left
      unfold far nth at *
      omega
    · left
      unfold far nth at *
      omega
  · rintro (h3 | h3)
    · right
      unfold far nth at *
      omega
    · exact .inl h3
/-- Each number is fresh just once. -/
theorem fr_take {c0 c : Int} {ks : List Nat} {xs ds : List Int} {L n : Nat} (h : Fr c0 ks c xs L) (h1 : 1 ≤ n) (h2 : n ≤ 60) :
    (take c xs ds (nth c0 n)).err = .nilIface ∧ (take c xs ds (nth c0 n)).fresh = !(decide (n ∈ ks)) ∧ ∃ L', Fr c0 (n :: ks) (take c xs ds (nth c0 n)).c (take c xs ds (nth c0 n)).xs L' := by
  have hg := take_gd (ds := ds) h.gd (nth_u32 c0 n)
  by_cases hm : n ∈ ks
  · have hh := (fr_has h h1 h2).2 hm
    rw [take_has hh] at hg ⊢
    refine ⟨rfl, by simp [hm], L, hg, h.fr.cum, h.fr.le, fun m hm1 hm2 => ?_, h.fr.elems⟩
    rw [← h.fr.mem m hm1 hm2, List.mem_cons]
    constructor
    · rintro (rfl | h3)
      · exact hm
      · exact h3
    · exact .inr
  · have hh : ¬ hasB c xs (nth c0 n) = true := fun h3 => hm ((fr_has h h1 h2).1 h3)
    have hf : ¬ 512 < far c (nth c0 n) := by
      have hc := h.fr.cum
      have hl := h.fr.le
      have h3 : ¬ (n ≤ L ∨ nth c0 n ∈ xs) := fun h3 => hm ((h.fr.mem n h1 h2).2 h3)
      simp only [not_or] at h3
      have h4 := h3.1
      clear h3 hh hg
      unfold far nth at *
      omega
    rw [take_new hh hf] at hg ⊢
    refine ⟨rfl, by simp [hm], ?_⟩
    have hga := ins_ga h.gd (nth_u32 c0 n) hh hf
    obtain ⟨L', hL'⟩ := adv_fr (c0 := c0) (K := fun m => m ∈ n :: ks) (ins c (nth c0 n) xs) c L hga.srt ⟨h.fr.cum, h.fr.le, fun m hm1 hm2 => by
      show m ∈ n :: ks ↔ _
      rw [List.mem_cons, h.fr.mem m hm1 hm2, ins_mem]
      constructor
      · rintro (rfl | h3 | h3)
        · exact .inr (.inl rfl)
        · exact .inl h3
        · exact .inr (.inr h3)
      · rintro (h3 | h3 | h3)
        · exact .inr (.inl h3)
        · exact .inl (nth_inj (by omega) (by omega) h3)
        · exact .inr (.inr h3), fun y hy => by
      rcases ins_mem.1 hy with rfl | hy
      · refine ⟨n, ?_, h2, rfl⟩
        rcases Nat.lt_or_ge L n with h3 | h3
        · exact h3
        · exact absurd ((h.fr.mem n h1 h2).2 (.inl h3)) hm
      · exact h.fr.elems y hy⟩
    exact ⟨L', hg, hL'⟩
/-- The last one of those that have come without a hole. -/
theorem fr_last {c0 c : Int} {ks : List Nat} {xs : List Int} {L : Nat} (h : Fr c0 ks c xs L) (hk : ∀ m ∈ ks, 1 ≤ m ∧ m ≤ 60) : (∀ m, 1 ≤ m → m ≤ L → m ∈ ks) ∧ L + 1 ∉ ks := by
  refine ⟨fun m h1 h2 => (h.fr.mem m h1 (by have := h.fr.le; omega)).2 (.inl h2), fun h3 => ?_⟩
  have h4 := (hk _ h3).2
  rcases (h.fr.mem (L + 1) (by omega) h4).1 h3 with h5 | h5
  · omega
  · have h6 := (h.gd.rng _ h5).1
    have hc := h.fr.cum
    unfold far nth at *
    omega
/-! ### the map -/
/-- How often each number has come. -/
def Cnt (D : DataW Unit) (ks : List Nat) : Prop := IsMap D ∧ ∀ n : Nat, D.atKey (.int .i64 (n : Int)) (.lit (.int .i64 0)) = .lit (.int .i64 ((ks.count n : Nat) : Int))
theorem cnt_new : Cnt (.map []) [] := ⟨⟨[], rfl⟩, fun n => rfl⟩
theorem cnt_put {D : DataW Unit} {ks : List Nat} (h : Cnt D ks) (n : Nat) : Cnt (D.put (.int .i64 (n : Int)) (.lit (.int .i64 ((ks.count n : Nat) + 1 : Int)))) (n :: ks) := by
  refine ⟨h.1.put _ _, fun m => ?_⟩
  by_cases hm : m = n
  · subst hm
    rw [atKey_put_same h.1 (by simp [WideAt.IsKeyLit]), List.count_cons_self]
    rfl
  · have hne : Lit.int .i64 (m : Int) ≠ Lit.int .i64 (n : Int) := by intro he; injection he with _ he; omega
    rw [atKey_put_other hne, h.2 m, List.count_cons_of_ne (Ne.symm hm)]
end Go.Proofs.Ytkginabioolmiaa.Gp
