import Derived.WalkKit
/- Whole numbers that wrap nothing. -/
namespace Go.Proofs.Ytdcdnjhiopjohaa.Pl
open Go.RowKit
theorem w64 {x : Int} (h : -9223372036854775808 ≤ x) (h' : x ≤ 9223372036854775807) : wrap64 x = x := by
  unfold wrap64; omega
theorem td (x : Int) (h : 0 ≤ x) (n : Int) : Int.tdiv x n = x / n := Int.tdiv_eq_ediv_of_nonneg h
theorem ite_some_false {c : Prop} [Decidable c] {a : Option Bool} (h : c → a = some false) : (if c then a else some false) = some false := by
  by_cases hc : c
  · rw [if_pos hc, h hc]
  · rw [if_neg hc]
end Go.Proofs.Ytdcdnjhiopjohaa.Pl
