import Derived.Test.YthflkloghbhhgaaRowE
namespace Go.Proofs.Ythflkloghbhhgaa.Rw
open Go.RowKit Go.Proofs.YthflkloghbhhgaaW.PrintWords Go.Proofs.YthflkloghbhhgaaW.PrintMore Go.Proofs.Ythflkloghbhhgaa.Sh Go.Proofs.Ythflkloghbhhgaa.PAll
set_option linter.unusedVariables false
set_option linter.unusedSimpArgs false
variable {p : Nat} {fr mo : Int} {v : Value} {xs : List Int} {w : World} {B : Nat}
/-- A slice of its own, of these numbers. -/
def Made (w : World) (xs : List Int) (e : Ending) (w' : World) : Prop := ∃ A c, e = .returned (.slice A xs.length c) ∧ (Kd.int .i64).R 3 w' w.heap.size (fun _ => True) (.slice A xs.length c) xs ∧ Below w.heap.size w w'
set_option maxRecDepth 100000 in
theorem clone_row {A : Option Addr} {n c : Nat} (hC : (Kd.int .i64).C w A n xs) (hl : n ≤ 1024) : Calls Try.prog 33 #[.slice A n c] w (Made w xs) := by
  have hlen := hC.1
  cases A with
  | none =>
    have h0 : xs = [] := by
      cases xs with
      | nil => rfl
      | cons x r => exact absurd (hC.2.2 (by rw [← hlen]; simp)) (by rintro ⟨ad, h, _⟩; cases h)
    subst h0
    have hnil := fun W : World => Lib.run_eql_slice_nil (P := Try.prog) W 25 3 none n c 0 0 Try.underlying25
    simp only [Option.isNone_none] at hnil
    clear hlen hC hl
    go_enter Try.func33, Try.ntmps33
    go_wp2
    go_ret
    exact ⟨none, 0, rfl, Kd.R_nil _ _ _ _ _, Below.refl _ _⟩
  | some ad =>
    have hnil := fun W : World => Lib.run_eql_slice_nil (P := Try.prog) W 25 3 (some ad) n c 0 0 Try.underlying25
    simp only [Option.isNone_some] at hnil
    have HC := Aside0.mk hC
    have HL := Aside0.mk (show (([] : List Int).length + n) * 8 ≤ 140737488355328 by simp; omega)
    have HN := Aside0.mk hlen
    clear hlen hC hl
    go_enter Try.func33, Try.ntmps33
    go_wp2_with (first | ((with_reducible refine gate_dst (N := 5) rfl ?_); refine Kd.R_lit (Kd.int .i64) _ 3 ?hg (N := 5) ?hd (xs := ([] : List Int)) (inner := []) (ok := fun _ => True) (okp := fun _ => True) ?hr ?hp (fun _ hk => hk) trivial (Below.refl _ _) (Nat.le_refl _) (by simp) ?_; (case hd => rfl); (case hg => rfl); (case hr => first | (go_simp; done) | (go_simp; rfl)); (case hp => exact (Reps.none _ _)); intro v1 w1 ho hb hg hn; have HO1 := Aside0.mk ho; have HB1 := Aside0.mk hb; clear ho hb hg hn; obtain ⟨A1, c1, rfl⟩ := Kd.R_slice HO1.out) | (at_builtin; refine Kd.R_append_rows (Kd.int .i64) (w0 := w) w.heap.size rfl (.tmp 5) (.tmp 6) 25 3 (.int .i64 0) 8 rfl Try.underlying25 info3 rfl (by decide) (by omega) (.slice A1 ([] : List Int).length c1) [] xs _ _ _ (fun _ => True) (fun _ => False) rfl rfl ?aO ?aR (fun _ _ h => h) (fun _ h => h.elim) (fun _ _ => trivial) ?aB ?aS ?aL ?_; (case aO => exact HO1.out); (case aR => exact Kd.C_below HC.out HB1.out); (case aB => exact HB1.out); (case aS => exact HB1.out.size); (case aL => exact HL.out); intro v2 w2 hR2 hB2 hg2 ha2; have HR2 := Aside0.mk hR2; have HB2 := Aside0.mk hB2; clear hR2 hB2 hg2 ha2; obtain ⟨A2, c2, rfl⟩ := Kd.R_slice HR2.out))
    go_ret
    exact ⟨A2, c2, rfl, HR2.out, HB2.out⟩
end Go.Proofs.Ythflkloghbhhgaa.Rw
