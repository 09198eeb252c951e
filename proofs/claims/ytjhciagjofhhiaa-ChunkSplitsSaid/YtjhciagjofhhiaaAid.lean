import Derived.WalkKit
/- Small lemmas that the walks of this seat use as rewrite rules. -/
namespace Go.Proofs.Ytjhciagjofhhiaa.Aid
open Go.RowKit

/-- A store turns no cell into none, and none into one. -/
theorem isSome_setCell (w : World) (p q : Addr) (u : Value) : ((w.setCell p u).cell? q).isSome = (w.cell? q).isSome := by
  by_cases h : p = q
  · subst h
    cases hc : w.cell? p with
    | some v => rw [World.cell?_setCell_same w p u hc]; rfl
    | none =>
      unfold World.cell? at hc
      simp only [World.setCell, World.cell?, Array.getElem?_modify, if_true]
      cases hh : w.heap[p.block]? with
      | none => simp
      | some x =>
        rw [hh] at hc
        cases x with
        | cells c t f =>
          simp only at hc
          cases hs : p.spot with
          | some _ => simp
          | none =>
            simp only [hs, Option.isSome_none, Bool.false_eq_true, if_false] at hc
            have hz : c.size ≤ p.off := by
              rcases Nat.lt_or_ge p.off c.size with h' | h'
              · rw [Array.getElem?_eq_getElem h'] at hc; cases hc
              · exact h'
            simp [hz]
        | _ => simp
  · rw [World.cell?_setCell_other w p q u h]
end Go.Proofs.Ytjhciagjofhhiaa.Aid
