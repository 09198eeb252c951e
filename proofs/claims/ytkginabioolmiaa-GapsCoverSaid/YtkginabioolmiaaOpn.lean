import Derived.Test.YtkginabioolmiaaWWords
import Derived.Test.YtkginabioolmiaaWArr
import Derived.ProofKit
import Derived.OpenShut
import Derived.Deep.Slices
import Derived.ChangeArms
/- What the form's reading of an argument says in the words of the kinds: integers, bools, strings, slices, arrays, structs, one in the other. -/
namespace Go.Proofs.Ytkginabioolmiaa.Opn
open Go.RowKit Go.Deep Go.WideShapes Go.ChangeShapes Go.Proofs.YtkginabioolmiaaW.PrintWords
set_option linter.unusedVariables false

/-- What reads at type T is told by the kind d, and fits wf. -/
def Opn (P : Program) (w : World) (T : TypeId) {α : Type} (d : Kd α) (wf : α → Prop) : Prop :=
  ∀ {H : Type} {enc : TypeId × Value → H} {base : Nat} {spare : Nat → Bool} {held : Bool} {fuel : Nat} {cs : List Value} {y : DataW H × List MemPlace},
    DataW.trod enc P w base spare held fuel T cs = some y → ∃ x, d.K w x cs ∧ wf x

section
variable {P : Program} {w : World} {T e : TypeId} {α β : Type}

theorem int {k : IntKind} (hu : P.underlying T = some (.int k)) : Opn P w T (Kd.int k) (fun x => (Lit.int k x).wf = true) := by
  intro H enc base spare held fuel cs y h
  obtain ⟨n, rfl, _, wn⟩ := DataW.trod_int hu h
  exact ⟨n, rfl, wn⟩
theorem bool (hu : P.underlying T = some .bool) : Opn P w T Kd.bool (fun _ => True) := by
  intro H enc base spare held fuel cs y h
  obtain ⟨n, rfl, _⟩ := DataW.trod_bool hu h
  exact ⟨n, rfl, trivial⟩
theorem string (hu : P.underlying T = some .string) : Opn P w T Kd.string (fun s => s.size ≤ maxLen) := by
  intro H enc base spare held fuel cs y h
  obtain ⟨n, rfl, _, hs⟩ := DataW.trod_string hu h
  exact ⟨n, rfl, hs⟩

theorem list_of {p : Nat → α → Prop} : ∀ (n : Nat), (∀ i, i < n → ∃ x, p i x) → ∃ xs : List α, xs.length = n ∧ ∀ i x, xs[i]? = some x → p i x
  | 0, _ => ⟨[], rfl, fun i x h => by simp at h⟩
  | n + 1, h => by
    obtain ⟨xs, hl, hp⟩ := list_of n (fun i hi => h i (by omega))
    obtain ⟨x, hx⟩ := h n (by omega)
    refine ⟨xs ++ [x], by simp [hl], fun i y hy => ?_⟩
    by_cases hi : i < xs.length
    · rw [List.getElem?_append_left hi] at hy; exact hp i y hy
    · rw [List.getElem?_append_right (by omega)] at hy
      have h0 : i - xs.length = 0 := by
        rcases Nat.eq_zero_or_pos (i - xs.length) with h' | h'
        · exact h'
        · rw [List.getElem?_eq_none (by simp; omega)] at hy; cases hy
      rw [h0] at hy
      simp at hy
      subst hy
      obtain rfl : i = n := by omega
      exact hx

theorem slice {q : Nat} {d : Kd α} {wf : α → Prop} (hu : P.underlying T = some (.slice e)) (hs : P.cellsOf e = d.sz) (he : Opn P w e d wf) :
    Opn P w T (Kd.slice q d) (fun xs => ∀ x ∈ xs, wf x) := by
  intro H enc base spare held fuel cs y h
  rcases open_slice hu h with ⟨rfl, rfl⟩ | ⟨a, len, cap, m, n, D, Pl, rfl, hb, hl, hm, hmm, rfl, hx⟩
  · exact ⟨[], ⟨none, 0, rfl, Nat.le_refl _, rfl, by simp, fun h => absurd h (Nat.lt_irrefl 0)⟩, by simp⟩
  · have hlm : len ≤ m := by rw [hmm]; split <;> omega
    obtain ⟨xs, hlen, hp⟩ := list_of (p := fun i x => (∃ cs', w.cells? base (a.add (i * P.cellsOf e)) (P.cellsOf e) = some cs' ∧ d.K w x cs') ∧ wf x) len (fun i hi => by
      obtain ⟨cs', h1, h2⟩ := hx i (by omega)
      obtain ⟨x, hk, hw⟩ := he h2
      exact ⟨x, ⟨cs', h1, hk⟩, hw⟩)
    refine ⟨xs, ⟨some a, cap, by rw [hlen], by omega, rfl, by unfold maxLen at hm; omega, fun _ => ⟨a, rfl, fun j x hj => ?_⟩⟩, fun x hx' => ?_⟩
    · obtain ⟨⟨cs', h1, hk⟩, _⟩ := hp j x hj
      refine ⟨cs', d.K_len hk, hk, fun i u hu' => ?_⟩
      obtain ⟨_, hl2, hc⟩ := World.cells?_some h1
      have hi : i < cs'.length := by
        rcases Nat.lt_or_ge i cs'.length with h' | h'
        · exact h'
        · rw [List.getElem?_eq_none h'] at hu'; cases hu'
      have := hc i (by omega)
      rw [Deep.add_add, hs] at this
      rw [this]; exact hu'
    · obtain ⟨i, hi⟩ := List.getElem?_of_mem hx'
      exact (hp i x hi).2

/-- A part of cells. -/
def At (w : World) (d : Kd α) (wf : α → Prop) (cs : List Value) : Prop := ∃ x, d.K w x cs ∧ wf x
theorem at_field {d : Kd α} {wf : α → Prop} {H : Type} {enc : TypeId × Value → H} {base : Nat} {spare : Nat → Bool} {held : Bool} {n i o s : Nat} {f : Field} {cs : List Value} {xs : List (DataW H × List MemPlace)}
    (h : DataW.trod enc P w base spare held n f.type ((cs.drop f.offset).take (P.cellsOf f.type)) = xs[i]?) (ho : f.offset = o) (ht : f.type = T) (hs : P.cellsOf T = s) (hi : i < xs.length) (he : Opn P w T d wf) : At w d wf ((cs.drop o).take s) := by
  subst ho; subst ht; subst hs
  rw [List.getElem?_eq_getElem hi] at h
  exact he h
theorem at_pair {a : Kd α} {b : Kd β} {wa : α → Prop} {wb : β → Prop} {cs : List Value} {o s t : Nat} (ha : At w a wa ((cs.drop o).take s)) (hb : At w b wb ((cs.drop (o + s)).take t)) :
    At w (Kd.pair a b) (fun x => wa x.1 ∧ wb x.2) ((cs.drop o).take (s + t)) := by
  obtain ⟨x, hx, w1⟩ := ha
  obtain ⟨y, hy, w2⟩ := hb
  refine ⟨(x, y), ⟨_, _, ?_, hx, hy⟩, w1, w2⟩
  rw [List.take_add, List.drop_drop]
theorem of_at {d : Kd α} {wf : α → Prop} {cs : List Value} {n : Nat} (h : At w d wf ((cs.drop 0).take n)) (hl : cs.length = n) : ∃ x, d.K w x cs ∧ wf x := by
  rw [List.drop_zero, List.take_of_length_le (by omega)] at h
  exact h
theorem array {n : Nat} {d : Kd α} {wf : α → Prop} (hp : 0 < d.sz) (hu : P.underlying T = some (.array n e)) (hs : P.cellsOf e = d.sz) (hT : P.cellsOf T = n * d.sz) (he : Opn P w e d wf) :
    Opn P w T (Kd.arr n d hp) (fun xs => ∀ x ∈ xs, wf x) := by
  intro H enc base spare held fuel cs y h
  obtain ⟨xs, m, rfl, rfl, hl, hlen, hf⟩ := DataW.trod_array hu h
  obtain ⟨zs, hz, hp⟩ := list_of (p := fun i x => d.K w x ((cs.drop (i * d.sz)).take d.sz) ∧ wf x) n (fun i hi => by
    have h0 := hf i hi
    rw [List.getElem?_eq_getElem (by omega), hs] at h0
    exact he h0)
  refine ⟨zs, ⟨hz, by rw [hl, hT, hz], fun m p hm => (hp m p hm).1⟩, fun x hx => ?_⟩
  obtain ⟨i, hi⟩ := List.getElem?_of_mem hx
  exact (hp i x hi).2
theorem okWide_array {r : Reach} {base n : Nat} {v : Value} (ht : P.underlying T = some (.array n e)) (h : Value.okWide P w r base T v) : ∃ cs, v = .agg cs ∧ cs.size = P.cellsOf T := by
  simp only [Value.okWide, ht] at h
  obtain ⟨cs, h1, h2, _⟩ := h
  exact ⟨cs, h1, h2⟩
theorem list2 {xs : List α} (h : xs.length = 2) : ∃ a b, xs = [a, b] := by
  match xs, h with
  | [a, b], _ => exact ⟨a, b, rfl⟩
theorem list3 {xs : List α} (h : xs.length = 3) : ∃ a b c, xs = [a, b, c] := by
  match xs, h with
  | [a, b, c], _ => exact ⟨a, b, c, rfl⟩
theorem list4 {xs : List α} (h : xs.length = 4) : ∃ a b c d, xs = [a, b, c, d] := by
  match xs, h with
  | [a, b, c, d], _ => exact ⟨a, b, c, d, rfl⟩
end
end Go.Proofs.Ytkginabioolmiaa.Opn
