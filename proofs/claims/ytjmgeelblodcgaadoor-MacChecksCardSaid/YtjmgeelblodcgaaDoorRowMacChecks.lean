/- MacChecks: for every input the law returns true, and its arguments read as before: the row, out of the walk; no condition. -/
import Derived.Test.YtjmgeelblodcgaaDoorRows
import Derived.Test.YtjmgeelblodcgaaDoorEsZb
import Derived.Test.YtjmgeelblodcgaaDoorOpn
import Derived.WalkKit
import Derived.ProofKit
import Derived.OpenShut
import Derived.ShutString
import Derived.ChangeOld
import Derived.Below
import Derived.SizedLaws
import Derived.Carry
import Derived.LaidMore
import Derived.Stop.Joined
import Derived.SevenTiedAt
import Derived.Test.YtjmgeelblodcgaaDoorTie
import Derived.Test.YtjmgeelblodcgaaDoorCards
namespace Go.Proofs.YtjmgeelblodcgaaDoor.macChecks
open Go.ChangeShapes Go.WideShapes Go.ChangeAt Go.RowKit Go.Proofs.YtjmgeelblodcgaaDoorW.PrintWords
open Go.ChangeMaps (open_string shut_string)
set_option linter.unusedVariables false
theorem own : ownKnob Tryd.prog.godebug = none := by kernel_rfl
theorem laidOut : laidOutB Tryd.prog = true := by kernel_rfl
theorem cells3 : Tryd.prog.cellsOf 3 = 1 := by kernel_rfl
theorem cells22 : Tryd.prog.cellsOf 22 = 1 := by kernel_rfl
theorem opn22 {W : World} : Opn.Opn Tryd.prog W 22 (Kd.slice 5 (Kd.int .u8)) (fun x => (∀ zx ∈ x, (Lit.int .u8 zx).wf = true)) := Opn.slice Tryd.underlying22 (by kernel_rfl) (Opn.int Tryd.underlying5)
theorem opn40 {W : World} : Opn.Opn Tryd.prog W 40 (Kd.pair (Kd.slice 5 (Kd.int .u8)) (Kd.pair (Kd.slice 5 (Kd.int .u8)) (Kd.pair (Kd.slice 5 (Kd.int .u8)) (Kd.int .i64)))) (fun x => ((∀ zx1 ∈ x.1, (Lit.int .u8 zx1).wf = true) ∧ (∀ zx21 ∈ x.2.1, (Lit.int .u8 zx21).wf = true) ∧ (∀ z221 ∈ x.2.2.1, (Lit.int .u8 z221).wf = true) ∧ (Lit.int .i64 x.2.2.2).wf = true)) := by
  intro H enc base spare held fuel cs y h
  obtain ⟨xs, n, _, rfl, hl, hlen, hf⟩ := DataW.trod_struct Tryd.underlying40 h
  have g0 : Opn.At W (Kd.slice 5 (Kd.int .u8)) (fun x => (∀ zx ∈ x, (Lit.int .u8 zx).wf = true)) ((cs.drop 0).take 1) := Opn.at_field (hf 0 _ rfl) rfl rfl cells22 (by rw [hlen]; decide) opn22
  have g1 : Opn.At W (Kd.slice 5 (Kd.int .u8)) (fun x => (∀ zx ∈ x, (Lit.int .u8 zx).wf = true)) ((cs.drop 1).take 1) := Opn.at_field (hf 1 _ rfl) rfl rfl cells22 (by rw [hlen]; decide) opn22
  have g2 : Opn.At W (Kd.slice 5 (Kd.int .u8)) (fun x => (∀ zx ∈ x, (Lit.int .u8 zx).wf = true)) ((cs.drop 2).take 1) := Opn.at_field (hf 2 _ rfl) rfl rfl cells22 (by rw [hlen]; decide) opn22
  have g3 : Opn.At W (Kd.int .i64) (fun x => (Lit.int .i64 x).wf = true) ((cs.drop 3).take 1) := Opn.at_field (hf 3 _ rfl) rfl rfl cells3 (by rw [hlen]; decide) (Opn.int Tryd.underlying3)
  obtain ⟨x, hk, hw⟩ := Opn.of_at (Opn.at_pair g0 (Opn.at_pair g1 (Opn.at_pair g2 g3))) (hl.trans (by kernel_rfl))
  exact ⟨x, hk, hw⟩
theorem door_met (os : Os) (args : Array Value) : laidMetH Tryd.prog [("weftline/sha.roots", Rows.laid_weftline_sha_roots), ("weftline/sha.cubes", Rows.laid_weftline_sha_cubes)] ((World.doorLaid Tryd.prog 24 os).forCall (fun _ _ => 0) ⟨#[], args, []⟩).memory := laidMetH_of_parts3 (fuel := 8) (laidMet_of_run' 8 (by kernel_rfl) (by kernel_rfl)) (by kernel_rfl) (by kernel_rfl)
set_option maxRecDepth 100000 in
theorem lifted (os : Os) (started : os.Started) (H : Type) (enc : TypeId × Value → H) :
    ReturnsInHanded {} Tryd.checked os 7 .any (fun w args => (Rows.macChecksSpec.pre enc Tryd.prog Tryd.f7 [] false w args ∧ laidMetH Tryd.prog [("weftline/sha.roots", Rows.laid_weftline_sha_roots), ("weftline/sha.cubes", Rows.laid_weftline_sha_cubes)] w) ∧ sizedMet enc Tryd.prog Tryd.f7 (OpenSpec.ofChange Rows.macChecksSpec) false w args) (Rows.macChecksSpec.post enc Tryd.prog Tryd.f7 false true false false) := by
  refine returnsInHanded_of_change_and (C := Tryd.checked) (X := fun w _ => laidMetH Tryd.prog [("weftline/sha.roots", Rows.laid_weftline_sha_roots), ("weftline/sha.cubes", Rows.laid_weftline_sha_cubes)] w) (fun _ _ _ hh h => h.of_heap hh) own started (by kernel_rfl) Tryd.func7
    (ChangeSpec.witness_shaped (enc := enc) (C := Tryd.checked) (os := os) (X := fun w _ => laidMetH Tryd.prog [("weftline/sha.roots", Rows.laid_weftline_sha_roots), ("weftline/sha.cubes", Rows.laid_weftline_sha_cubes)] w) false (World.doorLaid Tryd.prog 24 os) #[.agg #[.slice none 0 0, .slice none 0 0, .slice none 0 0, .int .i64 0]] 8 rfl (World.shaped_of_RefB (by kernel_rfl) (by kernel_rfl)) (by kernel_rfl) (by kernel_rfl) (by kernel_rfl) (door_met os _)) ?_
  intro W base args ds gs before hval0 hW _ _ hL _
  have hval : ∀ (j : Nat) t v, Tryd.f7.params[j]? = some t → args[j]? = some v → Value.okWide Tryd.prog W .any base t v := hval0
  have hW' := hW
  obtain ⟨p, q, hA0, hV, rfl, hfz, hnd⟩ := hW
  have hA : DataW.TrodAll enc Tryd.prog W 0 (fun _ => true) true Tryd.f7.params.toList args.toList ds p := hA0
  rw [Tryd.params7] at hA hval
  obtain ⟨v0, vs0, d0, ds0, p0, q0, hargs, rfl, rfl, h0, r0⟩ := trodAll_cons hA
  obtain ⟨rfl, rfl, rfl⟩ := trodAll_nil r0
  obtain rfl : args = #[v0] := by cases args; simp_all
  obtain ⟨rfl, rfl⟩ := trodVars_none hV
  have kk0 := h0
  have lt0 : ∀ x ∈ p0, x.block < W.heap.size := by obtain ⟨m, hm⟩ := kk0; exact DataW.trod_lt m _ _ _ hm
  obtain ⟨fu0, hf0⟩ := h0
  obtain ⟨cs0, rfl, _⟩ := okWide_struct Tryd.underlying40 (hval 0 40 v0 rfl rfl)
  obtain ⟨xx0, hk0, ww0⟩ := opn40 hf0
  obtain ⟨l0_0, l0_1, l0_2, a0_3⟩ := xx0
  obtain ⟨z0, hz0⟩ : ∃ z, z = (Value.agg cs0).cells.toList := ⟨_, rfl⟩
  rw [← hz0] at hk0
  obtain ⟨_, _, rfl, ⟨A0_0, c0_0, rfl, hc0_0, hr0_0⟩, ⟨_, _, rfl, ⟨A0_1, c0_1, rfl, hc0_1, hr0_1⟩, ⟨_, _, rfl, ⟨A0_2, c0_2, rfl, hc0_2, hr0_2⟩, rfl⟩⟩⟩ := hk0
  simp only [Value.cells, List.cons_append, List.nil_append] at hz0
  obtain rfl : cs0 = #[.slice A0_0 l0_0.length c0_0, .slice A0_1 l0_1.length c0_1, .slice A0_2 l0_2.length c0_2, .int .i64 a0_3] := by rw [← Array.toArray_toList (xs := cs0), ← hz0]
  obtain ⟨w0_0, w0_1, w0_2, w0_3⟩ := ww0
  clear hA0 hval0
  refine (Sx.macChecks_walk W _ _ _ _ _ _ _ _ _ _ hc0_0 hr0_0 w0_0 hc0_1 hr0_1 w0_1 hc0_2 hr0_2 w0_2 w0_3 hL).mono fun e W' ⟨he, bel⟩ => ?_
  subst he
  exact ⟨_, rfl, _, _, _, [], _, [], hW', trodAll_mk1 (shut_bool Tryd.underlying4 _), (trodAll_cons_mk (Below.trod laidOut (by kernel_rfl) (of_decide_eq_true (by kernel_rfl)) kk0 bel lt0) trodAll_mk0), rfl, bel.frame _, fun h => by cases h⟩
theorem over : Rows.macChecksRow.holds Tryd.pinned (OpenSpec.ofChange Rows.macChecksSpec) :=
  OpenClaim.holds_of_wide 7 Tryd.f7 rfl rfl rfl rfl rfl rfl rfl ⟨rfl, rfl, rfl, rfl, rfl⟩ rfl rfl rfl rfl rfl (by kernel_rfl) Tryd.func7 (by kernel_rfl)
    (of_decide_eq_true (by kernel_rfl)) (by unfold Func.isWrapper; first | (rw [if_pos (by decide +kernel)]; kernel_rfl) | (rw [if_neg (by decide +kernel)]; exact ⟨rfl, rfl⟩))
    (fun os started H enc _ => lifted os started H enc)
end Go.Proofs.YtjmgeelblodcgaaDoor.macChecks
namespace Go.Proofs.YtjmgeelblodcgaaDoor
/-- The row, under a short name, for the claim. -/
theorem macChecks_holds : Rows.MacChecksCardSaid :=
  Claim7.holds_tied_plain_at .later [] [.data, .data] true (true, "e984c2e111ca315e242c5a7b081d4bccd60b12e7da62a2ce15b2eb5998a492cd") false
    macChecks.over (fun _ h => by cases h) (by kernel_rfl) (fun _ h => by cases h) macChecks_row_tie rfl ⟨rfl, rfl⟩ (by kernel_rfl) rfl
    (fun f fn hf hfn => by
      obtain rfl : f = 7 := Option.some.inj ((show Tryd.prog.funcNamed "weftline/weftlinelaw05.MacChecks" = some 7 by kernel_rfl).symm.trans hf) |>.symm
      obtain rfl : fn = Tryd.f7 := (Option.some.inj (Tryd.func7.symm.trans hfn)).symm
      exact ⟨by kernel_rfl, fun j t ht => by
        rw [Tryd.params7] at ht
        have hm : t ∈ [40] := by simpa using Array.mem_of_getElem? ht
        have hall : ([40].all fun u => !Tryd.prog.wantsStandIn u) = true := by kernel_rfl
        exact (show Tryd.prog.wantsStandIn t = false by simpa using List.all_eq_true.1 hall t hm)⟩)
    (by kernel_rfl)
#print axioms macChecks_holds
end Go.Proofs.YtjmgeelblodcgaaDoor
