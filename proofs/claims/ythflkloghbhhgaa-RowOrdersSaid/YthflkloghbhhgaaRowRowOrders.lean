/- RowOrders: for every input the law returns true, and its arguments read as before: the row, out of the walk; no condition. -/
import Derived.Test.YthflkloghbhhgaaRows
import Derived.Test.YthflkloghbhhgaaRowM
import Derived.Test.YthflkloghbhhgaaOpn
import Derived.WalkKit
import Derived.ProofKit
import Derived.OpenShut
import Derived.ShutString
import Derived.ChangeOld
import Derived.Below
import Derived.SizedLaws
import Derived.Carry
namespace Go.Proofs.Ythflkloghbhhgaa.rowOrders
open Go.ChangeShapes Go.WideShapes Go.ChangeAt Go.RowKit Go.Proofs.YthflkloghbhhgaaW.PrintWords
open Go.ChangeMaps (open_string shut_string)
set_option linter.unusedVariables false
theorem own : ownKnob Try.prog.godebug = none := by kernel_rfl
theorem laidOut : laidOutB Try.prog = true := by kernel_rfl
theorem cells3 : Try.prog.cellsOf 3 = 1 := by kernel_rfl
theorem cells22 : Try.prog.cellsOf 22 = 1 := by kernel_rfl
theorem opn24 {W : World} : Opn.Opn Try.prog W 24 (Kd.pair (Kd.int .u32) (Kd.int .i64)) (fun x => ((Lit.int .u32 x.1).wf = true ∧ (Lit.int .i64 x.2).wf = true)) := by
  intro H enc base spare held fuel cs y h
  obtain ⟨xs, n, _, rfl, hl, hlen, hf⟩ := DataW.trod_struct Try.underlying24 h
  have g0 : Opn.At W (Kd.int .u32) (fun x => (Lit.int .u32 x).wf = true) ((cs.drop 0).take 1) := Opn.at_field (hf 0 _ rfl) rfl rfl cells22 (by rw [hlen]; decide) (Opn.int Try.underlying22)
  have g1 : Opn.At W (Kd.int .i64) (fun x => (Lit.int .i64 x).wf = true) ((cs.drop 1).take 1) := Opn.at_field (hf 1 _ rfl) rfl rfl cells3 (by rw [hlen]; decide) (Opn.int Try.underlying3)
  obtain ⟨x, hk, hw⟩ := Opn.of_at (Opn.at_pair g0 g1) (hl.trans (by kernel_rfl))
  exact ⟨x, hk, hw⟩
theorem opn25 {W : World} : Opn.Opn Try.prog W 25 (Kd.slice 3 (Kd.int .i64)) (fun x => (∀ zx ∈ x, (Lit.int .i64 zx).wf = true)) := Opn.slice Try.underlying25 (by kernel_rfl) (Opn.int Try.underlying3)
set_option maxRecDepth 100000 in
theorem lifted (os : Os) (started : os.Started) (H : Type) (enc : TypeId × Value → H) :
    ReturnsInHanded {} Try.checked os 4 .any (Rows.rowOrdersSpec.pre6 enc Try.prog Try.f4 Rows.rowOrdersRow.domain false) (Rows.rowOrdersSpec.post enc Try.prog Try.f4 false true false false) := by
  refine returnsInHanded_of_change_sized (C := Try.checked) own started (by kernel_rfl) Try.func4
    (ChangeSpec.witness6 (enc := enc) (C := Try.checked) false ⟨#[], #[.agg #[.int .u32 0, .int .i64 0], .slice none 0 0, .int .i64 0], []⟩ 8 (by kernel_rfl) (by kernel_rfl) (by kernel_rfl) (by kernel_rfl)) ?_
  intro W base args ds gs before hval0 hW hcnd hsz0 _
  have hval : ∀ (j : Nat) t v, Try.f4.params[j]? = some t → args[j]? = some v → Value.okWide Try.prog W .any base t v := hval0
  have hW' := hW
  obtain ⟨p, q, hA0, hV, rfl, hfz, hnd⟩ := hW
  have hA : DataW.TrodAll enc Try.prog W 0 (fun _ => true) true Try.f4.params.toList args.toList ds p := hA0
  rw [Try.params4] at hA hval
  obtain ⟨v0, vs0, d0, ds0, p0, q0, hargs, rfl, rfl, h0, r0⟩ := trodAll_cons hA
  obtain ⟨v1, vs1, d1, ds1, p1, q1, rfl, rfl, rfl, h1, r1⟩ := trodAll_cons r0
  obtain ⟨v2, vs2, d2, ds2, p2, q2, rfl, rfl, rfl, h2, r2⟩ := trodAll_cons r1
  obtain ⟨rfl, rfl, rfl⟩ := trodAll_nil r2
  obtain rfl : args = #[v0, v1, v2] := by cases args; simp_all
  obtain ⟨rfl, rfl⟩ := trodVars_none hV
  have kk0 := h0
  have lt0 : ∀ x ∈ p0, x.block < W.heap.size := by obtain ⟨m, hm⟩ := kk0; exact DataW.trod_lt m _ _ _ hm
  obtain ⟨fu0, hf0⟩ := h0
  obtain ⟨cs0, rfl, _⟩ := okWide_struct Try.underlying24 (hval 0 24 v0 rfl rfl)
  obtain ⟨xx0, hk0, ww0⟩ := opn24 hf0
  obtain ⟨a0_0, a0_1⟩ := xx0
  obtain ⟨z0, hz0⟩ : ∃ z, z = (Value.agg cs0).cells.toList := ⟨_, rfl⟩
  rw [← hz0] at hk0
  obtain ⟨_, _, rfl, rfl, rfl⟩ := hk0
  simp only [Value.cells, List.cons_append, List.nil_append] at hz0
  obtain rfl : cs0 = #[.int .u32 a0_0, .int .i64 a0_1] := by rw [← Array.toArray_toList (xs := cs0), ← hz0]
  obtain ⟨w0_0, w0_1⟩ := ww0
  have kk1 := h1
  have lt1 : ∀ x ∈ p1, x.block < W.heap.size := by obtain ⟨m, hm⟩ := kk1; exact DataW.trod_lt m _ _ _ hm
  obtain ⟨a1, len1, cap1, rfl⟩ := okWide_slice Try.underlying25 (hval 1 25 v1 rfl rfl)
  obtain ⟨fu1, hf1⟩ := h1
  obtain ⟨l1, ⟨A1, c1, he1, hc1, hr1⟩, w1⟩ := opn25 hf1
  simp only [Value.cells, List.cons.injEq, and_true, Value.slice.injEq] at he1
  obtain ⟨rfl, rfl, rfl⟩ := he1
  have kk2 := h2
  have lt2 : ∀ x ∈ p2, x.block < W.heap.size := by obtain ⟨m, hm⟩ := kk2; exact DataW.trod_lt m _ _ _ hm
  obtain ⟨a2, rfl, rfl, rfl, w2⟩ := open_int Try.underlying3 (hval 2 3 v2 rfl rfl) h2
  clear hA0 hval0 hsz0
  refine (Rw.rowOrders_walk W _ _ _ _ l1 a2 w0_0 w0_1 hc1 hr1 w1 w2).mono fun e W' ⟨he, bel⟩ => ?_
  subst he
  exact ⟨_, rfl, _, _, _, [], _, [], hW', trodAll_mk1 (shut_bool Try.underlying4 _), (trodAll_cons_mk (Below.trod laidOut (by kernel_rfl) (of_decide_eq_true (by kernel_rfl)) kk0 bel lt0) (trodAll_cons_mk (Below.trod laidOut (by kernel_rfl) (of_decide_eq_true (by kernel_rfl)) kk1 bel lt1) (trodAll_cons_mk (Below.trod laidOut (by kernel_rfl) (of_decide_eq_true (by kernel_rfl)) kk2 bel lt2) trodAll_mk0))), rfl, bel.frame _, fun h => by cases h⟩
theorem over : Rows.rowOrdersRow.holds Try.pinned (OpenSpec.ofChange Rows.rowOrdersSpec) :=
  OpenClaim.holds_of_wide 4 Try.f4 rfl rfl rfl rfl rfl rfl rfl ⟨rfl, rfl, rfl, rfl, rfl⟩ rfl rfl rfl rfl rfl (by kernel_rfl) Try.func4 (by kernel_rfl)
    (of_decide_eq_true (by kernel_rfl)) (by unfold Func.isWrapper; first | (rw [if_pos (by decide +kernel)]; kernel_rfl) | (rw [if_neg (by decide +kernel)]; exact ⟨rfl, rfl⟩))
    (fun os started H enc _ => lifted os started H enc)
end Go.Proofs.Ythflkloghbhhgaa.rowOrders
namespace Go.Proofs.Ythflkloghbhhgaa
/-- The row, under a short name, for the claim. -/
theorem rowOrders_holds : Rows.RowOrdersSaid := rowOrders.over
#print axioms rowOrders_holds
end Go.Proofs.Ythflkloghbhhgaa
