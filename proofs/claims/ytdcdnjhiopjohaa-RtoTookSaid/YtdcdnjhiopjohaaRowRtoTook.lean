/- RtoTook: for every input the law returns true, and its arguments read as before: the row, out of the walk; no condition. -/
import Derived.Test.YtdcdnjhiopjohaaRows
import Derived.Test.YtdcdnjhiopjohaaRto3
import Derived.Test.YtdcdnjhiopjohaaOpn
import Derived.WalkKit
import Derived.ProofKit
import Derived.OpenShut
import Derived.ShutString
import Derived.ChangeOld
import Derived.Below
import Derived.SizedLaws
import Derived.Carry
namespace Go.Proofs.Ytdcdnjhiopjohaa.rtoTook
open Go.ChangeShapes Go.WideShapes Go.ChangeAt Go.RowKit Go.Proofs.YtdcdnjhiopjohaaW.PrintWords
open Go.ChangeMaps (open_string shut_string)
set_option linter.unusedVariables false
theorem own : ownKnob Try.prog.godebug = none := by kernel_rfl
theorem laidOut : laidOutB Try.prog = true := by kernel_rfl
theorem opn34 {W : World} : Opn.Opn Try.prog W 34 (Kd.pair (Kd.int .i64) (Kd.pair (Kd.int .i64) (Kd.pair (Kd.int .i64) Kd.bool))) (fun x => ((Lit.int .i64 x.1).wf = true ∧ (Lit.int .i64 x.2.1).wf = true ∧ (Lit.int .i64 x.2.2.1).wf = true ∧ True)) := by
  intro H enc base spare held fuel cs y h
  obtain ⟨xs, n, _, rfl, hl, hlen, hf⟩ := DataW.trod_struct Try.underlying34 h
  have g0 : Opn.At W (Kd.int .i64) (fun x => (Lit.int .i64 x).wf = true) ((cs.drop 0).take 1) := Opn.at_field (hf 0 _ rfl) (by rw [hlen]; decide) (Opn.int Try.underlying3)
  have g1 : Opn.At W (Kd.int .i64) (fun x => (Lit.int .i64 x).wf = true) ((cs.drop 1).take 1) := Opn.at_field (hf 1 _ rfl) (by rw [hlen]; decide) (Opn.int Try.underlying3)
  have g2 : Opn.At W (Kd.int .i64) (fun x => (Lit.int .i64 x).wf = true) ((cs.drop 2).take 1) := Opn.at_field (hf 2 _ rfl) (by rw [hlen]; decide) (Opn.int Try.underlying3)
  have g3 : Opn.At W Kd.bool (fun x => True) ((cs.drop 3).take 1) := Opn.at_field (hf 3 _ rfl) (by rw [hlen]; decide) (Opn.bool Try.underlying4)
  obtain ⟨x, hk, hw⟩ := Opn.of_at (Opn.at_pair g0 (Opn.at_pair g1 (Opn.at_pair g2 g3))) (hl.trans (by kernel_rfl))
  exact ⟨x, hk, hw⟩
set_option maxRecDepth 100000 in
theorem lifted (os : Os) (started : os.Started) (H : Type) (enc : TypeId × Value → H) :
    ReturnsInHanded {} Try.checked os 5 .any (Rows.rtoTookSpec.pre6 enc Try.prog Try.f5 Rows.rtoTookRow.domain false) (Rows.rtoTookSpec.post enc Try.prog Try.f5 false true false false) := by
  refine returnsInHanded_of_change_sized (C := Try.checked) own started (by kernel_rfl) Try.func5
    (ChangeSpec.witness6 (enc := enc) (C := Try.checked) false ⟨#[], #[.agg #[.int .i64 0, .int .i64 0, .int .i64 0, .bool false], .int .i64 0], []⟩ 8 (by kernel_rfl) (by kernel_rfl) (by kernel_rfl) (by kernel_rfl)) ?_
  intro W base args ds gs before hval0 hW hcnd hsz0 _
  have hval : ∀ (j : Nat) t v, Try.f5.params[j]? = some t → args[j]? = some v → Value.okWide Try.prog W .any base t v := hval0
  have hW' := hW
  obtain ⟨p, q, hA0, hV, rfl, hfz, hnd⟩ := hW
  have hA : DataW.TrodAll enc Try.prog W 0 (fun _ => true) true Try.f5.params.toList args.toList ds p := hA0
  rw [Try.params5] at hA hval
  obtain ⟨v0, vs0, d0, ds0, p0, q0, hargs, rfl, rfl, h0, r0⟩ := trodAll_cons hA
  obtain ⟨v1, vs1, d1, ds1, p1, q1, rfl, rfl, rfl, h1, r1⟩ := trodAll_cons r0
  obtain ⟨rfl, rfl, rfl⟩ := trodAll_nil r1
  obtain rfl : args = #[v0, v1] := by cases args; simp_all
  obtain ⟨rfl, rfl⟩ := trodVars_none hV
  have kk0 := h0
  have lt0 : ∀ x ∈ p0, x.block < W.heap.size := by obtain ⟨m, hm⟩ := kk0; exact DataW.trod_lt m _ _ _ hm
  obtain ⟨fu0, hf0⟩ := h0
  obtain ⟨cs0, rfl, _⟩ := okWide_struct Try.underlying34 (hval 0 34 v0 rfl rfl)
  obtain ⟨xx0, hk0, ww0⟩ := opn34 hf0
  obtain ⟨a0_0, a0_1, a0_2, a0_3⟩ := xx0
  obtain ⟨z0, hz0⟩ : ∃ z, z = (Value.agg cs0).cells.toList := ⟨_, rfl⟩
  rw [← hz0] at hk0
  obtain ⟨_, _, rfl, rfl, ⟨_, _, rfl, rfl, ⟨_, _, rfl, rfl, rfl⟩⟩⟩ := hk0
  simp only [Value.cells, List.cons_append, List.nil_append] at hz0
  obtain rfl : cs0 = #[.int .i64 a0_0, .int .i64 a0_1, .int .i64 a0_2, .bool a0_3] := by rw [← Array.toArray_toList (xs := cs0), ← hz0]
  obtain ⟨w0_0, w0_1, w0_2, _⟩ := ww0
  have kk1 := h1
  have lt1 : ∀ x ∈ p1, x.block < W.heap.size := by obtain ⟨m, hm⟩ := kk1; exact DataW.trod_lt m _ _ _ hm
  obtain ⟨a1, rfl, rfl, rfl, w1⟩ := open_int Try.underlying3 (hval 1 3 v1 rfl rfl) h1
  clear hA0 hval0 hsz0
  refine (Wk.rtoTook_walk W _ _ _ _ a1 w0_0 w0_1 w0_2 w1).mono fun e W' ⟨he, bel⟩ => ?_
  subst he
  exact ⟨_, rfl, _, _, _, [], _, [], hW', trodAll_mk1 (shut_bool Try.underlying4 _), (trodAll_cons_mk (Below.trod laidOut (by kernel_rfl) (of_decide_eq_true (by kernel_rfl)) kk0 bel lt0) (trodAll_cons_mk (Below.trod laidOut (by kernel_rfl) (of_decide_eq_true (by kernel_rfl)) kk1 bel lt1) trodAll_mk0)), rfl, bel.frame _, fun h => by cases h⟩
theorem over : Rows.rtoTookRow.holds Try.pinned (OpenSpec.ofChange Rows.rtoTookSpec) :=
  OpenClaim.holds_of_wide 5 Try.f5 rfl rfl rfl rfl rfl rfl rfl ⟨rfl, rfl, rfl, rfl, rfl⟩ rfl rfl rfl rfl rfl (by kernel_rfl) Try.func5 (by kernel_rfl)
    (of_decide_eq_true (by kernel_rfl)) (by unfold Func.isWrapper; first | (rw [if_pos (by decide +kernel)]; kernel_rfl) | (rw [if_neg (by decide +kernel)]; exact ⟨rfl, rfl⟩))
    (fun os started H enc _ => lifted os started H enc)
end Go.Proofs.Ytdcdnjhiopjohaa.rtoTook
namespace Go.Proofs.Ytdcdnjhiopjohaa
/-- The row, under a short name, for the claim. -/
theorem rtoTook_holds : Rows.RtoTookSaid := rtoTook.over
#print axioms rtoTook_holds
end Go.Proofs.Ytdcdnjhiopjohaa
