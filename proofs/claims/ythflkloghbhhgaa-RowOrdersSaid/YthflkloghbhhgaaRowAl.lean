import Derived.Test.YthflkloghbhhgaaRowS
namespace Go.Proofs.Ythflkloghbhhgaa.Rs
open Go.RowKit Go.Proofs.YthflkloghbhhgaaW.PrintWords Go.Proofs.Ythflkloghbhhgaa.Sh Go.Proofs.Ythflkloghbhhgaa.PAll
open Go.Proofs.Ythflkloghbhhgaa.Rw (Chg)
set_option linter.unusedVariables false
set_option linter.unusedSimpArgs false
variable {w : World}
theorem chg_below {w w' : World} {B p : Nat} {v : Value} (h : Chg w w' p v) (hp : B ≤ p) (hv : ∀ k, v.ownBlock = some k → B ≤ k) (hB : B ≤ w.heap.size) : Below B w w' :=
  ⟨h.os, h.tape, h.output, h.size, fun k hk => h.block k (by omega) (by omega) (fun he => by have := hv k he; omega)⟩
/-- It answers true, and old memory stays. -/
def Yes (w : World) (e : Ending) (w' : World) : Prop := e = .returned (.bool true) ∧ Below w.heap.size w w'
set_option maxRecDepth 100000 in
theorem alive_row : Calls Try.prog 8 #[] w (Yes w) := by
  have H0 := Aside0.mk (row_new (fr := 4294967295) (mo := 2) (w := w) (B := w.heap.size) (Nat.le_refl _))
  go_enter Try.func8, Try.ntmps8
  go_wp2_with fail
  refine (new_row (by decide) (by decide)).mono ?_
  rintro e w1 ⟨rfl, rfl⟩
  go_wp2_with fail
  refine (push_row H0.out ⟨#[97]⟩ (by decide) (by decide)).mono ?_
  rintro e w1 ⟨rfl, v1, hR1, hC1, ha1⟩
  have HR1 := Aside0.mk hR1
  have HC1 := Aside0.mk hC1
  clear hR1 hC1
  go_wp2_with fail
  refine (push_row HR1.out ⟨#[98]⟩ (by decide) (by decide)).mono ?_
  rintro e w2 ⟨rfl, v2, hR2, hC2, ha2⟩
  have HR2 := Aside0.mk hR2
  have HC2 := Aside0.mk hC2
  clear hR2 hC2
  go_wp2_with (first | (go_at_call 28; refine (len_row HR2.out).mono ?_; rintro e w3 ⟨rfl, rfl⟩))
  go_ret
  have b0 : Below w.heap.size w (w.alloc (.cells #[.int .u32 4294967295, .int .i64 2, .slice none 0 0] 85)) := (Below.refl _ _).alloc (Nat.le_refl _) _
  have b1 := chg_below HC1.out (B := w.heap.size) (Nat.le_refl _) (fun k hk => by simp [Value.ownBlock] at hk) (by simp)
  have b2 := chg_below HC2.out (B := w.heap.size) (Nat.le_refl _) (fun k hk => Kd.Q_base HR1.out.2.2 k hk) (by have := HC1.out.size; simp at this; omega)
  exact ⟨rfl, (b0.trans b1).trans b2⟩
end Go.Proofs.Ythflkloghbhhgaa.Rs
