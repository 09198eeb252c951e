/- PathsKeep: for every input the law returns true, and its arguments read as before: the row, out of the walk; no condition. -/
import Derived.Test.YtblooffiggciiaaZPathsKeepSaid2
import Derived.Lib.QuietBelow
import Derived.Lib.QuietBelowIn
import Derived.Sort.QuietTacIn
import Derived.Laws.CopyOwn
import Derived.Deep.CutRange
import Derived.Deep.DeepCutAuto
import Derived.Deep.CutBlock
import Derived.ProofKit
import Derived.OpenShut
import Derived.Deep.Slices
import Derived.ChangeArms
import Derived.Test.YtblooffiggciiaaRows
import Derived.WalkKit
import Derived.ShutString
import Derived.ChangeOld
import Derived.Below
import Derived.SizedLaws
import Derived.Carry
set_option linter.unusedVariables false
set_option linter.unusedSimpArgs false
/- PsAg -/
namespace Go.Proofs.Ytblooffiggciiaa.Ps
open Go.RowKit Go.Shelf Go.Proofs.Ytblooffiggciiaa.PPs Go.Proofs.YtblooffiggciiaaW.PrintWords Go.Proofs.YtblooffiggciiaaW.PrintLast Go.Proofs.YtblooffiggciiaaW.PrintMore Go.Proofs.Ytblooffiggciiaa.Sh
attribute [local go_sem] Oper.semAt_some wide_fn
def cnt (l : List S34) : Nat := (l.filter fun x => decide (Ac x)).length
theorem cnt_le (l : List S34) : cnt l ≤ l.length := List.length_filter_le ..
theorem cnt_app (l : List S34) (x : S34) : cnt (l ++ [x]) = cnt l + (if Ac x then 1 else 0) := by
  unfold cnt
  rw [List.filter_append, List.length_append]
  by_cases h : Ac x
  · rw [if_pos h]; simp [h]
  · rw [if_neg h]; simp [h]
set_option maxRecDepth 100000 in
set_option maxHeartbeats 4000000 in
theorem setactive_calls {w : World} {A : Option Addr} {c : Nat} {l : List S34} (hC : Kd.C k34 w A l.length l) (hcc : l.length ≤ c) (hl : l.length ≤ 1000) (p : Int) :
    Calls Try.prog 54 #[.agg #[.slice A l.length c, .int .i64 p]] w fun e w' => e = .returned (.int .i64 (cnt (allL l p) : Nat)) ∧ Below w.heap.size w w' := by
  have hB := b1 (b1 (Below.refl w.heap.size w) (.cells #[.slice A l.length c, .int .i64 p] 70)) (.cells #[.int .i64 0] 3)
  have h1 := q3 (blk_new w (.cells #[.slice A l.length c, .int .i64 p] 70)) (.cells #[.int .i64 0] 3)
  have h2 := blk_new (w.alloc (.cells #[.slice A l.length c, .int .i64 p] 70)) (.cells #[.int .i64 0] 3)
  have hsz : ((w.alloc (.cells #[.slice A l.length c, .int .i64 p] 70)).alloc (.cells #[.int .i64 0] 3)).heap.size = w.heap.size + 2 := by simp only [sz1]
  rw [sz1] at h2
  have hz := ck2 h1
  have HAll := Aside0.mk (all_calls (c := c) (Kd.C_alloc (Kd.C_alloc hC (.cells #[.slice A l.length c, .int .i64 p] 70)) (.cells #[.int .i64 0] 3)) hcc hl p)
  have HX := Aside0.mk (And.intro hB (And.intro h1 (And.intro h2 hsz)))
  obtain ⟨xs, hxs⟩ : ∃ xs, xs = allL l p := ⟨_, rfl⟩
  have hxl : xs.length ≤ 1000 := by rw [hxs]; unfold allL; split; exact hl; simp
  rw [← hxs] at HAll ⊢
  clear hB h1 h2 hsz hC hxs
  refine (callsIn_wide (n := 10)).1 ?_
  refine callsIn_of_wp_marks Try.func54 rfl (by trivial) ?_ rfl
  refine wpIn_wide.2 ?_
  simp only [Try.ntmps54, List.size_toArray, List.length_cons, List.length_nil, Nat.reduceAdd, Nat.reduceSub, Array.replicate_succ, Array.replicate_zero, List.push_toArray, List.append_toArray, List.nil_append, List.cons_append]
  go_wp2_with (first | (go_at_call 51; refine HAll.out.mono ?_; rintro e w1 ⟨Bs, gb, A1, c1, rfl, hbx⟩; have HBX := Aside0.mk hbx; clear hbx))
  obtain ⟨w0, hw0⟩ : ∃ w0, w0 = (w.alloc (.cells #[.slice A l.length c, .int .i64 p] 70)).alloc (.cells #[.int .i64 0] 3) := ⟨_, rfl⟩
  rw [← hw0] at HX HBX
  clear hz HAll hw0
  obtain ⟨g, hg⟩ : ∃ g, g = w.heap.size := ⟨_, rfl⟩
  have HG := Aside0.mk hg
  rw [← hg] at HX ⊢
  obtain ⟨hB0, hX1, hX2, hsz0⟩ := HX.out
  have hBs := HBX.out.hBs
  have hgb := HBX.out.hgb
  have hBl := blk_lt HBX.out.box
  have hgl : gb < w1.heap.size := by obtain ⟨cs, t, h⟩ := HBX.out.gcell; exact blk_lt h
  have hw1 : w0.heap.size ≤ w1.heap.size := HBX.out.bel.size
  have hg1 : g ≤ w1.heap.size := by omega
  have hbw : Below g w w1 := hB0.trans (HBX.out.bel.mono (by omega))
  have hy1 := blk_below hX1 HBX.out.bel
  have hy2 := blk_below hX2 HBX.out.bel
  clear hg hB0 hX1 hX2 HX
  refine (wpIn_wide (n := 10)).1 ?_
  refine wpIn_rangeFunc_ownH (n := 10) rfl (by decide) (gf := 100) (lb := #[.pointer (some ⟨Bs, 0, none⟩)]) rfl (by trivial) (enters_of Try.func100 (by kernel_rfl) rfl)
    (values_stops 9 (by decide) (n₀ := g) HBX.out.box HBX.out.held hg1 hxl)
    (fun h h' => Kp2.trans h h') (fun W l o o' hle ho hc hw => ⟨belowK_b (w := w1) hg1 W l o o' hle ho hc hw, World.putObj_heap_other (by omega), World.putObj_heap_other (by omega)⟩) (Below.refl _ _) (fun _ => rfl)
    (fun pre W => ((W.heap[g]? = some (.cells #[.slice A l.length c, .int .i64 p] 70 (0, 0)) ∧ W.heap[g + 1]? = some (.cells #[.int .i64 (cnt pre : Nat)] 3 (0, 0))) ∧ w1.heap.size ≤ W.heap.size) ∧ Below g w W)
    (fun e pre W => False)
    (OwnFrom.and (fun s A B row hs hg hr => ⟨⟨gb_blk hg hs.1.1 (fun e => by have := (hr _ e.symm).1; omega), gb_blk hg hs.1.2 (fun e => by have := (hr _ e.symm).1; omega)⟩, Nat.le_trans hs.2 hg.size⟩) (ownFrom_below (Nat.le_of_eq HG.out) (by omega)))
    (fun e => fun s A B row hs hg hr => hs)
    ⟨⟨⟨hy1, hy2⟩, Nat.le_refl _⟩, hbw⟩
    (fun x a' W => ∃ B, w1.heap.size ≤ B ∧ a' = ({ tmps := #[.agg #[.slice A l.length c, .int .i64 p], .pointer (some ⟨g, 0, none⟩), .int .i64 0, .pointer (some ⟨g + 1, 0, none⟩), .pointer (some ⟨B, 0, none⟩), .agg #[.slice A l.length c, .int .i64 p], .func (.func 100) #[] #[.pointer (some ⟨Bs, 0, none⟩)], .agg (cs34 x).toArray, undef, undef, undef, undef, undef], defers := [] } : Act) ∧ W.heap[B]? = some (.cells (cs34 x).toArray 34 (0, 0)))
    (fun x a' => fun s A B row hs hg hr => by obtain ⟨D, h1, h2, h3⟩ := hs; exact ⟨D, h1, h2, gb_blk hg h3 (fun e => by obtain ⟨_, o, ho, hc⟩ := hr _ e.symm; rw [h3] at ho; injection ho with ho; subst ho; exact Bool.noConfusion (show true = false from hc))⟩)
    ?assign ?body ?done ?stop
  case assign =>
    intro l2 pre x W K hI hK
    have hs := hI.1.2
    have hgs : g ≤ W.heap.size := by omega
    have ha : Below W.heap.size W (W.alloc (.cells (cs34 x).toArray 34)) := b1 (Below.refl _ _) _
    unfold cs34 at hK ha ⊢
    gi_wp2
    exact hK _ _ (KeepsFrom.of_grownBy (World.grownBy_alloc W _ none) (fun _ e => by cases e)) ⟨ha.mono hgs, Below.heap_alloc W _ Bs (by omega), Below.heap_alloc W _ gb (by omega)⟩ ⟨⟨⟨blk_alloc hI.1.1.1 _, blk_alloc hI.1.1.2 _⟩, by rw [sz1]; omega⟩, hI.2.trans (ha.mono hgs)⟩ ⟨W.heap.size, hs, rfl, blk_new W _⟩
  case body =>
    rintro l2 pre x a' W hl2 ⟨r, hr⟩ hI ⟨D, hD, rfl, hP⟩ hpl
    have hp := ck11 hP
    have hc1 := cc1 hI.1.1.2
    have HA := Aside0.mk (active_calls x W)
    have hs := hI.1.2
    have hgs : g ≤ W.heap.size := by omega
    have hcl : cnt pre ≤ 1000 := Nat.le_trans (cnt_le pre) (by omega)
    have HCA := Aside0.mk (cnt_app pre x)
    have hne : D ≠ g + 1 := by omega
    by_cases hax : Ac x
    · rw [decide_eq_true hax] at HA
      rw [if_pos hax] at HCA
      have HAX := Aside0.mk hax
      clear hax
      unfold cs34 at HA ⊢
      gi_wp2_with (first | (gi_at_call 21; refine (callsIn_wide.2 HA.out).mono ?_; rintro e w7 ⟨rfl, hb⟩; have BS := Aside0.mk (blk_below hI.1.1.1 hb); have BR := Aside0.mk (blk_below hI.1.1.2 hb); have HB7 := Aside0.mk hb; have hx7 := cc1 BR.out; clear hb))
      have hz := HB7.out.size
      have hst : ∀ k, k ≠ g + 1 → ((w7.setCell ⟨g + 1, 0, none⟩ (.int .i64 ((cnt pre : Nat) + 1))).heap[k]? = w7.heap[k]?) := fun k hk => Below.heap_setCell _ _ _ k hk
      refine ⟨kf_set (kf_below _ HB7.out) (by show g + 1 < _; omega) _, ⟨(HB7.out.mono hgs).setCell (Nat.le_succ g) _, (hst Bs (by omega)).trans (HB7.out.block Bs (by omega)), (hst gb (by omega)).trans (HB7.out.block gb (by omega))⟩, ⟨⟨(hst g (by omega)).trans BS.out, ?_⟩, ?_⟩, (hI.2.trans (HB7.out.mono hgs)).setCell (Nat.le_succ g) _⟩
      · refine (blk_put BR.out 0 _ rfl).trans ?_
        rw [HCA.out, Int.natCast_add]
        rfl
      · simpa [World.setCell] using Nat.le_trans hs hz
    · rw [decide_eq_false hax] at HA
      rw [if_neg hax] at HCA
      clear hax
      unfold cs34 at HA ⊢
      gi_wp2_with (first | (gi_at_call 21; refine (callsIn_wide.2 HA.out).mono ?_; rintro e w7 ⟨rfl, hb⟩; have BS := Aside0.mk (blk_below hI.1.1.1 hb); have BR := Aside0.mk (blk_below hI.1.1.2 hb); have HB7 := Aside0.mk hb; have hx7 := cc1 BR.out; clear hb))
      have hz := HB7.out.size
      exact ⟨kf_below _ HB7.out, ⟨HB7.out.mono hgs, HB7.out.block Bs (by omega), HB7.out.block gb (by omega)⟩, ⟨⟨BS.out, by rw [HCA.out]; exact BR.out⟩, by omega⟩, hI.2.trans (HB7.out.mono hgs)⟩
  case done =>
    rintro D ys W hD rfl hI hK
    have hc1 := cc1 hI.1.1.2
    have HK := Aside0.mk hK
    have HB := Aside0.mk hI.2
    clear hK
    go_wp2_with fail
    refine ⟨by simp, .inl ⟨_, _, rfl, run_takeDeferred HK.out, ?_⟩⟩
    refine ⟨.int .i64 (cnt ys : Nat), (results_tmp rfl _ _ _).trans rfl, rfl, ?_⟩
    rw [← HG.out]
    exact HB.out.trans (belowK_b (w := w1) hg1 _ D _ _ hD HK.out rfl rfl)
  case stop =>
    rintro D c2 pre W hD _ h hK
    exact h.elim
end Go.Proofs.Ytblooffiggciiaa.Ps
/- PPsx61 -/
namespace Go.Proofs.Ytblooffiggciiaa.PPs
open Go.RowKit Go.Proofs.YtblooffiggciiaaW.PrintWords Go.Proofs.YtblooffiggciiaaW.PrintLast Go.Proofs.YtblooffiggciiaaW.PrintMore
attribute [local go_sem] max2_int min2_int max_two min_two max_three min_three max_four min_four   -- for this text's walks alone
attribute [local go_sem] Go.Proofs.Ytblooffiggciiaa.Aid.isSome_setCell
mutual
def weftlineref14_behind.l0 : Nat → Int → Int → List (S29) → Int → Option (Int × Int × Int × Bool × Int × Int × Int × Int × Int × Int × Int)
  | 0, _, _, _, _ => none
  | k + 1, x1, x5, x351000, x351001 => if x5 < (x351000.length : Int) then (if 0 ≤ x5 then ((weftlineref13_Active.f k ((rd_T29 x351000 x5).f0.f0) ((rd_T29 x351000 x5).f0.f1) ((rd_T29 x351000 x5).f0.f2) ((rd_T29 x351000 x5).f0.f3) ((rd_T29 x351000 x5).f1.f0) ((rd_T29 x351000 x5).f1.f1) ((rd_T29 x351000 x5).f1.f2) ((rd_T29 x351000 x5).f2) ((rd_T29 x351000 x5).f3) ((rd_T29 x351000 x5).f4) ((rd_T29 x351000 x5).f5)).bind fun t353 => (if t353 = true then (some ((rd_T29 x351000 x5).f0.f0, (rd_T29 x351000 x5).f0.f1, (rd_T29 x351000 x5).f0.f2, (rd_T29 x351000 x5).f0.f3, (rd_T29 x351000 x5).f1.f0, (rd_T29 x351000 x5).f1.f1, (rd_T29 x351000 x5).f1.f2, (rd_T29 x351000 x5).f2, (rd_T29 x351000 x5).f3, (rd_T29 x351000 x5).f4, (rd_T29 x351000 x5).f5)) else (weftlineref14_behind.l0 k x1 (wrap64 (x5 + 1)) x351000 x351001))) else (none)) else (weftlineref14_behind.l1 k x1 0 x351000 x351001)
def weftlineref14_behind.l1 : Nat → Int → Int → List (S29) → Int → Option (Int × Int × Int × Bool × Int × Int × Int × Int × Int × Int × Int)
  | 0, _, _, _, _ => none
  | k + 1, x1, x6, x351000, x351001 => if x6 < x1 then (if 0 ≤ x6 then (if x6 < (x351000.length : Int) then ((weftlineref13_Active.f k ((rd_T29 x351000 x6).f0.f0) ((rd_T29 x351000 x6).f0.f1) ((rd_T29 x351000 x6).f0.f2) ((rd_T29 x351000 x6).f0.f3) ((rd_T29 x351000 x6).f1.f0) ((rd_T29 x351000 x6).f1.f1) ((rd_T29 x351000 x6).f1.f2) ((rd_T29 x351000 x6).f2) ((rd_T29 x351000 x6).f3) ((rd_T29 x351000 x6).f4) ((rd_T29 x351000 x6).f5)).bind fun t356 => (if t356 = true then (some ((rd_T29 x351000 x6).f0.f0, (rd_T29 x351000 x6).f0.f1, (rd_T29 x351000 x6).f0.f2, (rd_T29 x351000 x6).f0.f3, (rd_T29 x351000 x6).f1.f0, (rd_T29 x351000 x6).f1.f1, (rd_T29 x351000 x6).f1.f2, (rd_T29 x351000 x6).f2, (rd_T29 x351000 x6).f3, (rd_T29 x351000 x6).f4, (rd_T29 x351000 x6).f5)) else (weftlineref14_behind.l1 k x1 (wrap64 (x6 + 1)) x351000 x351001))) else (none)) else (none)) else (if 0 ≤ x1 then (if x1 < (x351000.length : Int) then (some ((rd_T29 x351000 x1).f0.f0, (rd_T29 x351000 x1).f0.f1, (rd_T29 x351000 x1).f0.f2, (rd_T29 x351000 x1).f0.f3, (rd_T29 x351000 x1).f1.f0, (rd_T29 x351000 x1).f1.f1, (rd_T29 x351000 x1).f1.f2, (rd_T29 x351000 x1).f2, (rd_T29 x351000 x1).f3, (rd_T29 x351000 x1).f4, (rd_T29 x351000 x1).f5)) else (none)) else (none))
end
def weftlineref14_behind.f (k : Nat) (l0_0 : List (S29)) (a0_1 : Int) (a1 : Int) : Option (Int × Int × Int × Bool × Int × Int × Int × Int × Int × Int × Int) := weftlineref14_behind.l0 k a1 (wrap64 (a1 + 1)) l0_0 a0_1
end Go.Proofs.Ytblooffiggciiaa.PPs
/- PPsx62 -/
namespace Go.Proofs.Ytblooffiggciiaa.PPs
open Go.RowKit Go.Proofs.YtblooffiggciiaaW.PrintWords Go.Proofs.YtblooffiggciiaaW.PrintLast Go.Proofs.YtblooffiggciiaaW.PrintMore
attribute [local go_sem] max2_int min2_int max_two min_two max_three min_three max_four min_four   -- for this text's walks alone
attribute [local go_sem] Go.Proofs.Ytblooffiggciiaa.Aid.isSome_setCell
def weftlineref14_Use.f (k : Nat) (l0_0 : List (S29)) (a0_1 : Int) : Option (Int × Int × Int × Bool × Int × Int × Int × Int × Int × Int × Int × Bool) := (weftlineref14_Good.f k l0_0 a0_1).bind fun t361 => (if t361 = true then (if 0 ≤ a0_1 then (if a0_1 < (l0_0.length : Int) then ((weftlineref13_Active.f k ((rd_T29 l0_0 a0_1).f0.f0) ((rd_T29 l0_0 a0_1).f0.f1) ((rd_T29 l0_0 a0_1).f0.f2) ((rd_T29 l0_0 a0_1).f0.f3) ((rd_T29 l0_0 a0_1).f1.f0) ((rd_T29 l0_0 a0_1).f1.f1) ((rd_T29 l0_0 a0_1).f1.f2) ((rd_T29 l0_0 a0_1).f2) ((rd_T29 l0_0 a0_1).f3) ((rd_T29 l0_0 a0_1).f4) ((rd_T29 l0_0 a0_1).f5)).bind fun t363 => (if t363 = true then (some ((rd_T29 l0_0 a0_1).f0.f0, (rd_T29 l0_0 a0_1).f0.f1, (rd_T29 l0_0 a0_1).f0.f2, (rd_T29 l0_0 a0_1).f0.f3, (rd_T29 l0_0 a0_1).f1.f0, (rd_T29 l0_0 a0_1).f1.f1, (rd_T29 l0_0 a0_1).f1.f2, (rd_T29 l0_0 a0_1).f2, (rd_T29 l0_0 a0_1).f3, (rd_T29 l0_0 a0_1).f4, (rd_T29 l0_0 a0_1).f5, true)) else ((weftlineref14_behind.f k l0_0 a0_1 a0_1).bind fun bt365 => (some (bt365.1, bt365.2.1, bt365.2.2.1, bt365.2.2.2.1, bt365.2.2.2.2.1, bt365.2.2.2.2.2.1, bt365.2.2.2.2.2.2.1, bt365.2.2.2.2.2.2.2.1, bt365.2.2.2.2.2.2.2.2.1, bt365.2.2.2.2.2.2.2.2.2.1, bt365.2.2.2.2.2.2.2.2.2.2, true))))) else (none)) else (none)) else (some (0, 0, 0, false, 0, 0, 0, 0, 0, 0, 0, false)))
end Go.Proofs.Ytblooffiggciiaa.PPs
/- PPsx63 -/
namespace Go.Proofs.Ytblooffiggciiaa.PPs
open Go.RowKit Go.Proofs.YtblooffiggciiaaW.PrintWords Go.Proofs.YtblooffiggciiaaW.PrintLast Go.Proofs.YtblooffiggciiaaW.PrintMore
attribute [local go_sem] max2_int min2_int max_two min_two max_three min_three max_four min_four   -- for this text's walks alone
attribute [local go_sem] Go.Proofs.Ytblooffiggciiaa.Aid.isSome_setCell
def weftlineref14_Again.j0 : Nat → Int → Bool → List (S29) → Int → Option (Int × Int × Int × Bool × Int × Int × Int × Int × Int × Int × Int × Bool)
  | 0, _, _, _, _ => none
  | k + 1, x6, x16, x377000, x377001 => if x16 = true then ((weftlineref14_Use.f k x377000 x377001).bind fun bt380 => (some (bt380.1, bt380.2.1, bt380.2.2.1, bt380.2.2.2.1, bt380.2.2.2.2.1, bt380.2.2.2.2.2.1, bt380.2.2.2.2.2.2.1, bt380.2.2.2.2.2.2.2.1, bt380.2.2.2.2.2.2.2.2.1, bt380.2.2.2.2.2.2.2.2.2.1, bt380.2.2.2.2.2.2.2.2.2.2.1, bt380.2.2.2.2.2.2.2.2.2.2.2))) else ((weftlineref14_behind.f k x377000 x377001 x6).bind fun bt392 => (some (bt392.1, bt392.2.1, bt392.2.2.1, bt392.2.2.2.1, bt392.2.2.2.2.1, bt392.2.2.2.2.2.1, bt392.2.2.2.2.2.2.1, bt392.2.2.2.2.2.2.2.1, bt392.2.2.2.2.2.2.2.2.1, bt392.2.2.2.2.2.2.2.2.2.1, bt392.2.2.2.2.2.2.2.2.2.2, true)))
end Go.Proofs.Ytblooffiggciiaa.PPs
/- PsAh -/
namespace Go.Proofs.Ytblooffiggciiaa.Ps
open Go.RowKit Go.Proofs.Ytblooffiggciiaa.PPs Go.Proofs.YtblooffiggciiaaW.PrintWords Go.Proofs.YtblooffiggciiaaW.PrintLast Go.Proofs.YtblooffiggciiaaW.PrintMore Go.Proofs.Ytblooffiggciiaa.Sh
theorem seqF_eq (xs : List S34) (i : Nat) (hi : i < xs.length) : seqF xs i = xs.drop (i + 1) ++ xs.take i := by
  refine List.ext_getElem (by rw [seqF_len, List.length_append, List.length_drop, List.length_take]; omega) fun k h1 h2 => ?_
  have hk : k < xs.length - 1 := by rw [seqF_len] at h1; exact h1
  have e1 : (seqF xs i)[k] = xs.getD ((i + (1 + k)) % xs.length) z34 := by
    simp only [seqF, List.getElem_map, List.getElem_range', Nat.one_mul]
  rw [e1]
  by_cases hlt : i + 1 + k < xs.length
  · rw [List.getElem_append_left (by rw [List.length_drop]; omega), List.getElem_drop, Nat.mod_eq_of_lt (by omega), List.getD_eq_getElem?_getD, List.getElem?_eq_getElem (by omega)]
    simp [Nat.add_assoc]
  · rw [List.getElem_append_right (by rw [List.length_drop]; omega), List.getElem_take]
    have e2 : (i + (1 + k)) % xs.length = i + (1 + k) - xs.length := by
      rw [Nat.mod_eq_sub_mod (by omega), Nat.mod_eq_of_lt (by omega)]
    rw [e2, List.getD_eq_getElem?_getD, List.getElem?_eq_getElem (by omega)]
    simp only [List.length_drop, Option.getD_some]
    congr 1
    omega
theorem gdb_in {l : List S34} {p : Int} (h : gdb l p = true) : 0 ≤ p ∧ p < l.length := by
  unfold gdb at h
  simp only [Bool.and_eq_true, decide_eq_true_eq] at h
  exact ⟨h.1.1.2.1, h.1.1.2.2⟩
section
variable {w : World} {A : Option Addr} {c : Nat}
end
end Go.Proofs.Ytblooffiggciiaa.Ps
/- PsAi -/
namespace Go.Proofs.Ytblooffiggciiaa.Ps
open Go.RowKit Go.Shelf Go.Sort Go.Proofs.Ytblooffiggciiaa.PPs Go.Proofs.YtblooffiggciiaaW.PrintWords Go.Proofs.YtblooffiggciiaaW.PrintLast Go.Proofs.YtblooffiggciiaaW.PrintMore Go.Proofs.Ytblooffiggciiaa.Sh
attribute [local go_sem] Go.Proofs.Ytblooffiggciiaa.Aid.isSome_setCell
attribute [local go_sem] Oper.semAt_some wide_fn
def BL (L : List (Nat × Obj)) (W : World) : Prop := ∀ q ∈ L, W.heap[q.1]? = some q.2
theorem BL.get {L : List (Nat × Obj)} {W : World} (h : BL L W) (n : Nat) {g : Nat} {o : Obj} (hq : L[n]? = some (g, o)) : W.heap[g]? = some o := h (g, o) (List.mem_of_getElem? hq)
theorem BL.below {L : List (Nat × Obj)} {W W' : World} (h : BL L W) (hb : Below W.heap.size W W') : BL L W' := fun q hq => blk_below (h q hq) hb
theorem BL.nil (W : World) : BL [] W := fun q hq => absurd hq (by simp)
theorem BL.new {L : List (Nat × Obj)} {W : World} (h : BL L W) (o : Obj) : BL (L ++ [(W.heap.size, o)]) (W.alloc o) := fun q hq => by
  rcases List.mem_append.1 hq with hq | hq
  · exact blk_alloc (h q hq) o
  · rw [List.mem_singleton] at hq; subst hq; exact blk_new W o
def eqb (x y : S34) : Bool := !(df34 x y)
theorem eqC29 (d : Nat) (w : World) (x y : S34) :
    (Op.equalIn (d + 3) 29 (.agg #[.int .i64 x.f0.f0, .int .i64 x.f0.f1, .int .i64 x.f0.f2, .bool x.f0.f3, .int .i64 x.f1.f0, .int .i64 x.f1.f1, .int .i64 x.f1.f2, .int .i64 x.f2, .int .i64 x.f3, .int .u32 x.f4, .int .i64 x.f5]) (.agg #[.int .i64 y.f0.f0, .int .i64 y.f0.f1, .int .i64 y.f0.f2, .bool y.f0.f3, .int .i64 y.f1.f0, .int .i64 y.f1.f1, .int .i64 y.f1.f2, .int .i64 y.f2, .int .i64 y.f3, .int .u32 y.f4, .int .i64 y.f5])).run Try.prog w = .ok (eqb x y) w := by
  rw [eqA29]
  congr 1
  unfold eqb df34
  simp only [Bool.not_or, Bool.not_not]
attribute [local go_sem high] eqC29
theorem use_true {l : List S34} {p : Int} (h : gdb l p = true) : (useL l p).2 = none := by
  unfold useL; rw [if_pos h]; split <;> rfl
theorem again_true {l : List S34} {p : Int} (a : Int) (h : gdb l p = true) : (againL l p a).2 = none := by
  unfold againL
  split
  · rfl
  · exact use_true h
theorem blk_regrown {w : World} {g : Nat} {o : Obj} (h : w.heap[g]? = some o) (d : Nat) (os : Array Obj) : (grow (redrawn w d) os).heap[g]? = some o := ((below_regrown w d os).block g (blk_lt h)).trans h
end Go.Proofs.Ytblooffiggciiaa.Ps
/- PsAl -/
namespace Go.Proofs.Ytblooffiggciiaa.Ps
open Go.RowKit Go.Proofs.Ytblooffiggciiaa.PPs Go.Proofs.YtblooffiggciiaaW.PrintWords Go.Proofs.YtblooffiggciiaaW.PrintLast Go.Proofs.YtblooffiggciiaaW.PrintMore Go.Proofs.Ytblooffiggciiaa.Sh
attribute [local go_sem] Go.Proofs.Ytblooffiggciiaa.Aid.isSome_setCell
def addL (l : List S34) (p a : Int) : List S34 × Int × Option Int :=
  if addrP a ∧ gdb l p = true then (if 0 ≤ plc l a then ([], 0, some 12) else if 4 ≤ l.length then ([], 0, some 3) else (l ++ [newS a], p, none)) else ([], 0, some 1)
theorem one_row {W : World} {k : Nat} {y : S34} (h : W.heap[k]? = some (.cells (cs34 y).toArray 34 (0, 0))) : ReadsRow (fun (x : S34) (cs : List Value) => cs = cs34 x) 11 W (some ⟨k, 0, none⟩) 1 [y] := by
  refine ⟨rfl, by decide, fun _ => ⟨_, rfl, fun j p hp => ?_⟩⟩
  cases j with
  | zero =>
    obtain rfl := Option.some.inj hp
    refine ⟨cs34 y, rfl, rfl, fun i u hu => ?_⟩
    have e : (⟨k, 0, none⟩ : Addr).add (0 * 11 + i) = ⟨k, i, none⟩ := by
      unfold Addr.add
      split
      · rename_i h0
        have : i = 0 := by omega
        subst this; rfl
      · simp
    rw [e, blk_cell h]
    simpa using hu
  | succ j => simp at hp
theorem rr1 {W : World} {B g : Nat} {l : List S34} {x y u v : Value} (hR : Kd.R k34 34 W B (fun _ => True) u l) (h : W.heap[g]? = some (.cells #[x, y] 70 (0, 0))) : Kd.R k34 34 (W.setCell ⟨g, 0, none⟩ v) B (fun _ => True) u l :=
  Kd.R_mono (Kd.R_far (p := ⟨g, 0, none⟩) (Kd.R_types hR h (by decide)) (fun _ hk => hk.2) v) (fun _ _ => trivial)
set_option maxHeartbeats 4000000 in
set_option maxRecDepth 100000 in
theorem add_bad {w : World} {A : Option Addr} {c : Nat} {l : List S34} (p a : Int) (ha : ¬ addrP a) :
    Calls Try.prog 56 #[.agg #[.slice A l.length c, .int .i64 p], .int .i64 a] w (SetR w [] 0 (some 1)) := by
  have hB := b1 (b1 (Below.refl w.heap.size w) (.cells #[.slice A l.length c, .int .i64 p] 70)) (.cells #[.slice none 0 0, .int .i64 0] 70)
  have hL := ((BL.nil w).new (.cells #[.slice A l.length c, .int .i64 p] 70)).new (.cells #[.slice none 0 0, .int .i64 0] 70)
  rw [sz1] at hL
  have HN := Aside0.mk (new_bad a ha ((w.alloc (.cells #[.slice A l.length c, .int .i64 p] 70)).alloc (.cells #[.slice none 0 0, .int .i64 0] 70)))
  have HB := Aside0.mk hB
  have HL := Aside0.mk hL
  clear hB hL ha
  go_enter Try.func56, Try.ntmps56
  go_wp2_with fail
  refine HN.out.mono ?_
  rintro e w1 ⟨rfl, hb⟩
  have HL1 := Aside0.mk ((HL.out.below hb).new (.cells (cs34 z34).toArray 34))
  have HB1 := Aside0.mk (b1 (below_step HB.out hb) (.cells (cs34 z34).toArray 34))
  clear hb
  have hz := cc2 (HL1.out.get 1 rfl)
  unfold cs34 z34 at hz
  unfold cs34 z34
  have he : errW (some 1) = Value.iface 42 (.int .i64 1) := rfl
  simp only [he]
  clear he
  go_wp2_with fail
  have hs : w.heap.size ≤ w.heap.size + 1 := by omega
  refine bodyPost_ret (results_ct rfl _ _ (w.heap.size + 1) 70 #[.slice none 0 0, .int .i64 0] (0, 0) _ rfl (put2 (HL1.out.get 1 rfl)) Try.underlying70 rfl (by kernel_rfl)) rfl ?_
  exact ⟨_, rfl, Kd.R_nil _ _ _ _ _, bel2 HB1.out hs⟩
set_option maxHeartbeats 8000000 in
set_option maxRecDepth 100000 in
theorem add_good {w : World} {A : Option Addr} {c : Nat} {l : List S34} (hC : Kd.C k34 w A l.length l) (hcc : l.length ≤ c) (hl : l.length ≤ 1000) (p a : Int) (ha : addrP a) :
    Calls Try.prog 56 #[.agg #[.slice A l.length c, .int .i64 p], .int .i64 a] w (SetR w (addL l p a).1 (addL l p a).2.1 (addL l p a).2.2) := by
  have hB := b1 (b1 (Below.refl w.heap.size w) (.cells #[.slice A l.length c, .int .i64 p] 70)) (.cells #[.slice none 0 0, .int .i64 0] 70)
  have hL := ((BL.nil w).new (.cells #[.slice A l.length c, .int .i64 p] 70)).new (.cells #[.slice none 0 0, .int .i64 0] 70)
  rw [sz1] at hL
  have HN := Aside0.mk (new_calls a ha ((w.alloc (.cells #[.slice A l.length c, .int .i64 p] 70)).alloc (.cells #[.slice none 0 0, .int .i64 0] 70)))
  have HB := Aside0.mk hB
  have HL := Aside0.mk hL
  have HC := Aside0.mk hC
  have HAL := Aside0.mk (show addL l p a = if gdb l p = true then (if 0 ≤ plc l a then ([], 0, some 12) else if 4 ≤ l.length then ([], 0, some 3) else (l ++ [newS a], p, none)) else ([], 0, some 1) by
    unfold addL
    by_cases h : gdb l p = true
    · rw [if_pos ⟨ha, h⟩, if_pos h]
    · rw [if_neg (fun h2 => h h2.2), if_neg h])
  obtain ⟨y, hy⟩ : ∃ y, y = newS a := ⟨_, rfl⟩
  rw [← hy] at HN HAL
  obtain ⟨r, hr⟩ : ∃ r, r = addL l p a := ⟨_, rfl⟩
  rw [← hr] at HAL ⊢
  clear hB hL ha hC hr hy
  go_enter Try.func56, Try.ntmps56
  go_wp2_with fail
  refine HN.out.mono ?_
  rintro e w1 ⟨rfl, hb⟩
  have HL1 := Aside0.mk ((HL.out.below hb).new (.cells (cs34 y).toArray 34))
  have HB1 := Aside0.mk (b1 (below_step HB.out hb) (.cells (cs34 y).toArray 34))
  clear hb
  have HG := Aside0.mk (setgood_calls (c := c) (Kd.C_below HC.out HB1.out) p)
  have hx := ck2 (HL1.out.get 0 rfl)
  unfold cs34 at hx HG
  unfold cs34
  have he : errW none = Value.nilIface := rfl
  simp only [he]
  clear he
  have hs : w.heap.size ≤ w.heap.size + 1 := by omega
  go_wp2_with fail
  refine HG.out.mono ?_
  rintro e w2 ⟨rfl, hb⟩
  have HL2 := Aside0.mk (HL1.out.below hb)
  have HB2 := Aside0.mk (below_step HB1.out hb)
  clear hb hx HG
  have hz := cc2 (HL2.out.get 1 rfl)
  have hx := ck2 (HL2.out.get 0 rfl)
  cases hg : gdb l p with
  | false =>
    rw [hg, if_neg (by simp)] at HAL
    clear hg
    go_wp2_with fail
    refine bodyPost_ret (results_ct rfl _ _ (w.heap.size + 1) 70 #[.slice none 0 0, .int .i64 0] (0, 0) _ rfl (put2 (HL2.out.get 1 rfl)) Try.underlying70 rfl (by kernel_rfl)) rfl ?_
    rw [HAL.out]
    exact ⟨_, rfl, Kd.R_nil _ _ _ _ _, bel2 HB2.out hs⟩
  | true =>
    rw [hg, if_pos rfl] at HAL
    clear hg
    have HP := Aside0.mk (place_calls (c := c) (Kd.C_below HC.out HB2.out) p a)
    go_wp2_with fail
    refine HP.out.mono ?_
    rintro e w3 ⟨rfl, hb⟩
    have HL3 := Aside0.mk (HL2.out.below hb)
    have HB3 := Aside0.mk (below_step HB2.out hb)
    clear hb hx hz HP
    have hz := cc2 (HL3.out.get 1 rfl)
    have hx := cc2 (HL3.out.get 0 rfl)
    obtain ⟨q, hq⟩ : ∃ q, q = plc l a := ⟨_, rfl⟩
    rw [← hq] at HAL ⊢
    clear hq
    by_cases h0 : 0 ≤ q
    · rw [if_pos h0] at HAL
      go_wp2_with fail
      refine bodyPost_ret (results_ct rfl _ _ (w.heap.size + 1) 70 #[.slice none 0 0, .int .i64 0] (0, 0) _ rfl (put2 (HL3.out.get 1 rfl)) Try.underlying70 rfl (by kernel_rfl)) rfl ?_
      rw [HAL.out]
      exact ⟨_, rfl, Kd.R_nil _ _ _ _ _, bel2 HB3.out hs⟩
    · rw [if_neg h0] at HAL
      by_cases h4 : 4 ≤ l.length
      · rw [if_pos h4] at HAL
        have h4' : (4 : Int) ≤ (l.length : Int) := by omega
        go_wp2_with fail
        refine bodyPost_ret (results_ct rfl _ _ (w.heap.size + 1) 70 #[.slice none 0 0, .int .i64 0] (0, 0) _ rfl (put2 (HL3.out.get 1 rfl)) Try.underlying70 rfl (by kernel_rfl)) rfl ?_
        rw [HAL.out]
        exact ⟨_, rfl, Kd.R_nil _ _ _ _ _, bel2 HB3.out hs⟩
      · rw [if_neg h4] at HAL
        have h4' : ¬ ((4 : Int) ≤ (l.length : Int)) := by omega
        go_wp2_with fail
        have HC3 := Aside0.mk (Kd.C_below HC.out HB3.out)
        have hne : w.heap.size + 1 ≠ w.heap.size := by omega
        have hls : (l.length + 1) * 88 ≤ 140737488355328 := by omega
        have hg3 := blk_lt (HL3.out.get 0 rfl)
        clear hx hz
        refine start_ (n := 8) (S := fun w' => Below w3.heap.size w3 w' ∧ (w'.cell? ⟨w.heap.size, 0, none⟩ = some (.slice A l.length c) ∧ w'.cell? ⟨w.heap.size, 1, none⟩ = some (.int .i64 p) ∧ w'.frozen? ⟨w.heap.size, 0, none⟩ = false ∧ w'.frozen? ⟨w.heap.size, 1, none⟩ = false) ∧ (w'.cell? ⟨w1.heap.size, 0, none⟩ = some (.int .i64 y.f0.f0) ∧ w'.cell? ⟨w1.heap.size, 1, none⟩ = some (.int .i64 y.f0.f1) ∧ w'.cell? ⟨w1.heap.size, 2, none⟩ = some (.int .i64 y.f0.f2) ∧ w'.cell? ⟨w1.heap.size, 3, none⟩ = some (.bool y.f0.f3) ∧ w'.cell? ⟨w1.heap.size, 4, none⟩ = some (.int .i64 y.f1.f0) ∧ w'.cell? ⟨w1.heap.size, 5, none⟩ = some (.int .i64 y.f1.f1) ∧ w'.cell? ⟨w1.heap.size, 6, none⟩ = some (.int .i64 y.f1.f2) ∧ w'.cell? ⟨w1.heap.size, 7, none⟩ = some (.int .i64 y.f2) ∧ w'.cell? ⟨w1.heap.size, 8, none⟩ = some (.int .i64 y.f3) ∧ w'.cell? ⟨w1.heap.size, 9, none⟩ = some (.int .u32 y.f4) ∧ w'.cell? ⟨w1.heap.size, 10, none⟩ = some (.int .i64 y.f5))) (ds := [7]) #[false, false, false, false, false, false, false, false] (by kernel_rfl) rfl rfl ⟨below_drew1 (Below.refl _ _), cc2 (blk_below (HL3.out.get 0 rfl) (below_drew1 (Below.refl _ _))), ck11 (blk_below (HL3.out.get 2 rfl) (below_drew1 (Below.refl _ _)))⟩ (fun hHeld => ?_)
        generalize w3.drew = wd at hHeld ⊢
        refine pure_ (i := 0) (N := some 37) (v := ?_) (a' := ?_) #[true, false, false, false, false, false, false, false] rfl rfl (by kernel_rfl) (fun _ _ _ h => h) (Or.inl ⟨by rfl, ?_⟩) ?_ ?_
        rotate_left
        · intro w'
          go_simp
          with_reducible rfl
        rotate_left
        · simp only [Act.put, List.setIfInBounds_toArray, List.set_cons_zero, List.set_cons_succ, i64_w, i32_w]
          rfl
        refine take_ (i := 1) (N := some 38) (v := ?_) (a' := ?_) #[true, true, false, false, false, false, false, false] rfl rfl (by kernel_rfl) (fun _ _ _ h => h) (Or.inl ⟨by rfl, ?_⟩) hHeld ?_ ?_
        rotate_left
        · rintro w' ⟨s0, s1, s2⟩
          go_simp
          with_reducible rfl
        rotate_left
        · simp only [Act.put, List.setIfInBounds_toArray, List.set_cons_zero, List.set_cons_succ, i64_w, i32_w]
          rfl
        refine take_ (i := 3) (N := some 40) (v := ?_) (a' := ?_) #[true, true, false, true, false, false, false, false] rfl rfl (by kernel_rfl) (fun _ _ _ h => h) (Or.inl ⟨by rfl, ?_⟩) hHeld ?_ ?_
        rotate_left
        · rintro w' ⟨s0, s1, s2⟩
          go_simp
          with_reducible rfl
        rotate_left
        · simp only [Act.put, List.setIfInBounds_toArray, List.set_cons_zero, List.set_cons_succ, i64_w, i32_w]
          rfl
        refine join_ (σ := Nat × Option Addr × Nat) 3 #[true, true, true, true, true, false, false, false] (fun s => [(39, .slice s.2.1 l.length s.2.2), (41, .slice (some ⟨s.1, 0, none⟩) 1 1)]) (fun s w' => Below w3.heap.size w3 w' ∧ w'.heap[s.1]? = some (.cells #[.int .i64 y.f0.f0, .int .i64 y.f0.f1, .int .i64 y.f0.f2, .bool y.f0.f3, .int .i64 y.f1.f0, .int .i64 y.f1.f1, .int .i64 y.f1.f2, .int .i64 y.f2, .int .i64 y.f3, .int .u32 y.f4, .int .i64 y.f5] 34 (0, 0)) ∧ w3.heap.size ≤ s.1 ∧ Kd.R k34 34 w' w3.heap.size (fun _ => True) (.slice s.2.1 l.length s.2.2) l) ?_ ?_
        rotate_left
        · intro hCont
          refine two_ (i := 2) (j := 4) (Ni := some 39) (Nj := some 41) #[true, true, true, true, false, false, false, false] #[true, true, false, true, true, false, false, false] rfl rfl rfl rfl (by kernel_rfl) (by decide) (by decide) (fun K hK => ?_) (fun K hK => ?_)
          · skip
            refine goes_ Try.func90 (by kernel_rfl) rfl #[.slice A l.length c] (by rfl) rfl rfl (by simp only [List.map_toArray, List.map_cons, List.map_nil]; rfl) ?_
            with_reducible refine (clone_calls _ A c l hcc (Kd.C_below HC3.out hHeld.1) (by omega)).mono ?_
            rintro e w5 ⟨A3, c3, rfl, hR, hb⟩
            have hR2 := Kd.R_lower hR (below_size hHeld.1)
            refine ⟨_, rfl, ?_⟩
            refine hK.out _ _ ⟨below_step hHeld.1 hb, cc2 (blk_below (HL3.out.get 0 rfl) (below_step hHeld.1 hb)), ck11 (blk_below (HL3.out.get 2 rfl) (below_step hHeld.1 hb))⟩ (fun hHeld => ?_)
            clear hK K
            refine norm_ (a' := ?_) ?_ ?_
            rotate_left
            · show Act.put _ (some 39) _ = _
              simp only [Act.put, List.setIfInBounds_toArray, List.set_cons_zero, List.set_cons_succ, i64_w, i32_w]
              rfl
            refine one_ (i := 4) (N := some 41) #[true, true, true, true, true, false, false, false] rfl rfl (by kernel_rfl) (by decide) (fun K hK => ?_)
            refine value_ (w1 := ?_) (v := ?_) (by rfl) rfl ?_ ?_
            rotate_left 2
            · go_simp
              constructor
              · rfl
              · rfl
            have hk := blk_new w5 (.cells #[.int .i64 y.f0.f0, .int .i64 y.f0.f1, .int .i64 y.f0.f2, .bool y.f0.f3, .int .i64 y.f1.f0, .int .i64 y.f1.f1, .int .i64 y.f1.f2, .int .i64 y.f2, .int .i64 y.f3, .int .u32 y.f4, .int .i64 y.f5] 34)
            have hkg := below_size hHeld.1
            have hR2 := Kd.R_below hR2 (b1 (Below.refl _ _) (.cells #[.int .i64 y.f0.f0, .int .i64 y.f0.f1, .int .i64 y.f0.f2, .bool y.f0.f3, .int .i64 y.f1.f0, .int .i64 y.f1.f1, .int .i64 y.f1.f2, .int .i64 y.f2, .int .i64 y.f3, .int .u32 y.f4, .int .i64 y.f5] 34))
            refine hK.out _ _ ⟨b1 hHeld.1 (.cells #[.int .i64 y.f0.f0, .int .i64 y.f0.f1, .int .i64 y.f0.f2, .bool y.f0.f3, .int .i64 y.f1.f0, .int .i64 y.f1.f1, .int .i64 y.f1.f2, .int .i64 y.f2, .int .i64 y.f3, .int .u32 y.f4, .int .i64 y.f5] 34), cc2 (blk_below (HL3.out.get 0 rfl) (b1 hHeld.1 (.cells #[.int .i64 y.f0.f0, .int .i64 y.f0.f1, .int .i64 y.f0.f2, .bool y.f0.f3, .int .i64 y.f1.f0, .int .i64 y.f1.f1, .int .i64 y.f1.f2, .int .i64 y.f2, .int .i64 y.f3, .int .u32 y.f4, .int .i64 y.f5] 34))), ck11 (blk_below (HL3.out.get 2 rfl) (b1 hHeld.1 (.cells #[.int .i64 y.f0.f0, .int .i64 y.f0.f1, .int .i64 y.f0.f2, .bool y.f0.f3, .int .i64 y.f1.f0, .int .i64 y.f1.f1, .int .i64 y.f1.f2, .int .i64 y.f2, .int .i64 y.f3, .int .u32 y.f4, .int .i64 y.f5] 34)))⟩ (fun hHeld => ?_)
            clear hK K
            refine norm_ (a' := ?_) ?_ ?_
            rotate_left
            · show Act.put _ (some 41) _ = _
              simp only [Act.put, List.setIfInBounds_toArray, List.set_cons_zero, List.set_cons_succ, i64_w, i32_w]
              rfl
            exact norm_ (by simp only [putAll, Act.put, List.setIfInBounds_toArray, List.set_cons_zero, List.set_cons_succ]) (hCont (w5.heap.size, A3, c3) _ ⟨hHeld.1, hk, hkg, hR2⟩)
          · skip
            refine value_ (w1 := ?_) (v := ?_) (by rfl) rfl ?_ ?_
            rotate_left 2
            · go_simp
              constructor
              · rfl
              · rfl
            have hk := blk_new wd (.cells #[.int .i64 y.f0.f0, .int .i64 y.f0.f1, .int .i64 y.f0.f2, .bool y.f0.f3, .int .i64 y.f1.f0, .int .i64 y.f1.f1, .int .i64 y.f1.f2, .int .i64 y.f2, .int .i64 y.f3, .int .u32 y.f4, .int .i64 y.f5] 34)
            have hkg := below_size hHeld.1
            refine hK.out _ _ ⟨b1 hHeld.1 (.cells #[.int .i64 y.f0.f0, .int .i64 y.f0.f1, .int .i64 y.f0.f2, .bool y.f0.f3, .int .i64 y.f1.f0, .int .i64 y.f1.f1, .int .i64 y.f1.f2, .int .i64 y.f2, .int .i64 y.f3, .int .u32 y.f4, .int .i64 y.f5] 34), cc2 (blk_below (HL3.out.get 0 rfl) (b1 hHeld.1 (.cells #[.int .i64 y.f0.f0, .int .i64 y.f0.f1, .int .i64 y.f0.f2, .bool y.f0.f3, .int .i64 y.f1.f0, .int .i64 y.f1.f1, .int .i64 y.f1.f2, .int .i64 y.f2, .int .i64 y.f3, .int .u32 y.f4, .int .i64 y.f5] 34))), ck11 (blk_below (HL3.out.get 2 rfl) (b1 hHeld.1 (.cells #[.int .i64 y.f0.f0, .int .i64 y.f0.f1, .int .i64 y.f0.f2, .bool y.f0.f3, .int .i64 y.f1.f0, .int .i64 y.f1.f1, .int .i64 y.f1.f2, .int .i64 y.f2, .int .i64 y.f3, .int .u32 y.f4, .int .i64 y.f5] 34)))⟩ (fun hHeld => ?_)
            clear hK K
            refine norm_ (a' := ?_) ?_ ?_
            rotate_left
            · show Act.put _ (some 41) _ = _
              simp only [Act.put, List.setIfInBounds_toArray, List.set_cons_zero, List.set_cons_succ, i64_w, i32_w]
              rfl
            refine one_ (i := 2) (N := some 39) #[true, true, true, true, true, false, false, false] rfl rfl (by kernel_rfl) (by decide) (fun K hK => ?_)
            refine goes_ Try.func90 (by kernel_rfl) rfl #[.slice A l.length c] (by rfl) rfl rfl (by simp only [List.map_toArray, List.map_cons, List.map_nil]; rfl) ?_
            with_reducible refine (clone_calls _ A c l hcc (Kd.C_below HC3.out hHeld.1) (by omega)).mono ?_
            rintro e w5 ⟨A3, c3, rfl, hR, hb⟩
            have hR2 := Kd.R_lower hR (below_size hHeld.1)
            have hk := blk_below hk hb
            refine ⟨_, rfl, ?_⟩
            refine hK.out _ _ ⟨below_step hHeld.1 hb, cc2 (blk_below (HL3.out.get 0 rfl) (below_step hHeld.1 hb)), ck11 (blk_below (HL3.out.get 2 rfl) (below_step hHeld.1 hb))⟩ (fun hHeld => ?_)
            clear hK K
            refine norm_ (a' := ?_) ?_ ?_
            rotate_left
            · show Act.put _ (some 39) _ = _
              simp only [Act.put, List.setIfInBounds_toArray, List.set_cons_zero, List.set_cons_succ, i64_w, i32_w]
              rfl
            exact norm_ (by simp only [putAll, Act.put, List.setIfInBounds_toArray, List.set_cons_zero, List.set_cons_succ]) (hCont (wd.heap.size, A3, c3) _ ⟨hHeld.1, hk, hkg, hR2⟩)
        rintro ⟨k, A3, c3⟩ w9 ⟨hq, hk, hkg, hR⟩
        have hHeld : Below w3.heap.size w3 w9 ∧ (w9.cell? ⟨w.heap.size, 0, none⟩ = some (.slice A l.length c) ∧ w9.cell? ⟨w.heap.size, 1, none⟩ = some (.int .i64 p) ∧ w9.frozen? ⟨w.heap.size, 0, none⟩ = false ∧ w9.frozen? ⟨w.heap.size, 1, none⟩ = false) ∧ (w9.cell? ⟨w1.heap.size, 0, none⟩ = some (.int .i64 y.f0.f0) ∧ w9.cell? ⟨w1.heap.size, 1, none⟩ = some (.int .i64 y.f0.f1) ∧ w9.cell? ⟨w1.heap.size, 2, none⟩ = some (.int .i64 y.f0.f2) ∧ w9.cell? ⟨w1.heap.size, 3, none⟩ = some (.bool y.f0.f3) ∧ w9.cell? ⟨w1.heap.size, 4, none⟩ = some (.int .i64 y.f1.f0) ∧ w9.cell? ⟨w1.heap.size, 5, none⟩ = some (.int .i64 y.f1.f1) ∧ w9.cell? ⟨w1.heap.size, 6, none⟩ = some (.int .i64 y.f1.f2) ∧ w9.cell? ⟨w1.heap.size, 7, none⟩ = some (.int .i64 y.f2) ∧ w9.cell? ⟨w1.heap.size, 8, none⟩ = some (.int .i64 y.f3) ∧ w9.cell? ⟨w1.heap.size, 9, none⟩ = some (.int .u32 y.f4) ∧ w9.cell? ⟨w1.heap.size, 10, none⟩ = some (.int .i64 y.f5)) := ⟨hq, cc2 (blk_below (HL3.out.get 0 rfl) (hq)), ck11 (blk_below (HL3.out.get 2 rfl) (hq))⟩
        refine norm_ (a' := ?_) ?_ ?_
        rotate_left
        · simp only [putAll, Act.put, List.setIfInBounds_toArray, List.set_cons_zero, List.set_cons_succ]
          rfl
        refine one_ (i := 5) (N := some 42) #[true, true, true, true, true, true, false, false] rfl rfl (by kernel_rfl) (by decide) (fun K hK => ?_)
        refine Kd.R_append_rows_step k34 (Rr := fun (x : S34) (cs : List Value) => cs = cs34 x) (w0 := w3) (W := w9) w3.heap.size ?hw (.tmp 39) (.tmp 41) 68 34 (.agg (cs34 z34).toArray) 88 ?ho Try.underlying68 info34 rfl (by decide) (by decide) (.slice A3 l.length c3) l [y] (some ⟨k, 0, none⟩) 1 1 (fun _ => True) (fun _ => False) ?aC ?aD hR (one_row hk) ?aK (fun _ h => h.elim) (fun _ _ => trivial) hq hq.size hls ?_
        case hw => rfl
        case ho => rfl
        case aC => rfl
        case aD => rfl
        case aK => rintro x cs rfl; exact k34_mkM _ _ _ x
        intro v1 w10 hR1 hb1 hg1 hat1
        obtain ⟨A4, c4, rfl⟩ := Kd.R_slice hR1
        rw [show (l ++ [y]).length = l.length + 1 by simp] at hR1
        refine hK.out _ _ ⟨hb1, cc2 (blk_below (HL3.out.get 0 rfl) (hb1)), ck11 (blk_below (HL3.out.get 2 rfl) (hb1))⟩ (fun hHeld => ?_)
        clear hK K
        refine norm_ (a' := ?_) ?_ ?_
        rotate_left
        · show Act.put _ (some 42) _ = _
          simp only [Act.put, List.setIfInBounds_toArray, List.set_cons_zero, List.set_cons_succ, i64_w, i32_w]
          rfl
        refine pure_ (i := 6) (N := some 43) (v := ?_) (a' := ?_) #[true, true, true, true, true, true, true, false] rfl rfl (by kernel_rfl) (fun _ _ _ h => h) (Or.inl ⟨by rfl, ?_⟩) ?_ ?_
        rotate_left
        · intro w'
          go_simp
          with_reducible rfl
        rotate_left
        · simp only [Act.put, List.setIfInBounds_toArray, List.set_cons_zero, List.set_cons_succ, i64_w, i32_w]
          rfl
        refine last_ (i := 7) (N := none) #[true, true, true, true, true, true, true, true] rfl rfl (by kernel_rfl) (by decide) (fun K hK => ?_)
        refine skip_ (w1 := ?_) (by rfl) rfl ?_ ?_
        rotate_left
        · go_simp
          rfl
        refine hK.out _ _ ?_
        clear hK K
        refine done_ (by kernel_rfl) ?_
        have hL0 := blk_put (blk_below (HL3.out.get 0 rfl) hb1) 0 (.slice A4 (l.length + 1) c4) rfl
        have hL1 := (Below.heap_setCell w10 ⟨w.heap.size, 0, none⟩ (.slice A4 (l.length + 1) c4) (w.heap.size + 1) hne).trans (blk_below (HL3.out.get 1 rfl) hb1)
        have hR2 := rr1 (v := .slice A4 (l.length + 1) c4) hR1 (blk_below (HL3.out.get 0 rfl) hb1)
        have hB2 : Below w.heap.size w (w10.setCell ⟨w.heap.size, 0, none⟩ (.slice A4 (l.length + 1) c4)) := below_set (below_step HB3.out hb1) (Nat.le_refl _)
        obtain ⟨w11, hw11⟩ : ∃ w11, w11 = w10.setCell ⟨w.heap.size, 0, none⟩ (.slice A4 (l.length + 1) c4) := ⟨_, rfl⟩
        rw [← hw11] at hL0 hL1 hR2 hB2 ⊢
        have hx := ck2 hL0
        have hz := cc2 hL1
        have HR2 := Aside0.mk hR2
        have HL10 := Aside0.mk hL1
        have HB10 := Aside0.mk hB2
        have hlb := below_size HB3.out
        clear hw11 hL0 hL1 hR2 hR1 hB2 hHeld hk hkg hR hg1 hat1 hb1 hq
        go_wp2_with fail
        refine bodyPost_ret (results_ct rfl _ _ (w.heap.size + 1) 70 #[.slice A4 (l.length + 1) c4, .int .i64 p] (0, 0) _ rfl (put2 HL10.out) Try.underlying70 rfl (by kernel_rfl)) rfl ?_
        rw [HAL.out]
        exact ⟨_, rfl, Kd.R_lower (rr2 HR2.out HL10.out) hlb, bel2 HB10.out hs⟩
theorem add_calls {w : World} {A : Option Addr} {c : Nat} {l : List S34} (hC : Kd.C k34 w A l.length l) (hcc : l.length ≤ c) (hl : l.length ≤ 1000) (p a : Int) :
    Calls Try.prog 56 #[.agg #[.slice A l.length c, .int .i64 p], .int .i64 a] w (SetR w (addL l p a).1 (addL l p a).2.1 (addL l p a).2.2) := by
  by_cases ha : addrP a
  · exact add_good hC hcc hl p a ha
  · have e : addL l p a = ([], 0, some 1) := by unfold addL; rw [if_neg (fun h => ha h.1)]
    rw [e]
    exact add_bad p a ha
end Go.Proofs.Ytblooffiggciiaa.Ps
/- PsAm -/
namespace Go.Proofs.Ytblooffiggciiaa.Ps
open Go.RowKit Go.Proofs.Ytblooffiggciiaa.PPs Go.Proofs.YtblooffiggciiaaW.PrintWords Go.Proofs.YtblooffiggciiaaW.PrintLast Go.Proofs.YtblooffiggciiaaW.PrintMore Go.Proofs.Ytblooffiggciiaa.Sh
attribute [local go_sem] Go.Proofs.Ytblooffiggciiaa.Aid.isSome_setCell
def fl34 (l : List S34) : List Value := l.flatMap cs34
theorem fl_cons (x : S34) (l : List S34) : fl34 (x :: l) = cs34 x ++ fl34 l := rfl
theorem fl_len : ∀ l : List S34, (fl34 l).length = l.length * 11
  | [] => rfl
  | x :: l => by rw [fl_cons, List.length_append, fl_len l, List.length_cons]; show 11 + _ = _; omega
theorem fl_app (l m : List S34) : fl34 (l ++ m) = fl34 l ++ fl34 m := by unfold fl34; rw [List.flatMap_append]
theorem fl_take (l : List S34) (i : Nat) (h : i ≤ l.length) : (fl34 l).take (i * 11) = fl34 (l.take i) := by
  conv => lhs; rw [← List.take_append_drop i l, fl_app]
  rw [List.take_append_of_le_length (by rw [fl_len, List.length_take]; omega), List.take_of_length_le (by rw [fl_len, List.length_take]; omega)]
theorem fl_drop (l : List S34) (i : Nat) (h : i ≤ l.length) : (fl34 l).drop (i * 11) = fl34 (l.drop i) := by
  conv => lhs; rw [← List.take_append_drop i l, fl_app]
  rw [List.drop_append_of_le_length (by rw [fl_len, List.length_take]; omega), List.drop_eq_nil_of_le (by rw [fl_len, List.length_take]; omega), List.nil_append]
theorem fl_at (l : List S34) (j : Nat) (p : S34) (h : l[j]? = some p) : ((fl34 l).drop (j * 11)).take 11 = cs34 p := by
  have hj : j < l.length := (List.getElem?_eq_some_iff.1 h).1
  have e : l.drop j = p :: l.drop (j + 1) := by
    rw [List.drop_eq_getElem_cons hj, (List.getElem?_eq_some_iff.1 h).2]
  rw [fl_drop l j (by omega), e, fl_cons, List.take_append_of_le_length (Nat.le_refl 11), List.take_of_length_le (Nat.le_refl 11)]
theorem fl_one {l : List S34} {v : Value} (h : v ∈ fl34 l) : v.oneCell' = true := by
  unfold fl34 at h
  obtain ⟨x, _, hx⟩ := List.mem_flatMap.1 h
  unfold cs34 at hx
  simp only [List.mem_cons, List.not_mem_nil, or_false] at hx
  rcases hx with rfl | rfl | rfl | rfl | rfl | rfl | rfl | rfl | rfl | rfl | rfl <;> rfl
theorem flat_eq : ∀ (l : List S34) (cs : List Value), cs.length = l.length * 11 → (∀ j p, l[j]? = some p → (cs.drop (j * 11)).take 11 = cs34 p) → cs = fl34 l
  | [], cs, h, _ => List.eq_nil_of_length_eq_zero (by simpa using h)
  | x :: l, cs, h, hp => by
    have h0 := hp 0 x rfl
    rw [Nat.zero_mul, List.drop_zero] at h0
    have h1 := flat_eq l (cs.drop 11) (by rw [List.length_drop, h, List.length_cons]; omega) (fun j p hj => by
      have := hp (j + 1) p hj
      rw [List.drop_drop, show 11 + j * 11 = (j + 1) * 11 by omega]
      exact this)
    rw [fl_cons, ← h0, ← h1, List.take_append_drop]
structure RowP (W : World) (g n cap : Nat) (l : List S34) (cur : Array Value) : Prop where
  blk : W.heap[g]? = some (.cells cur 34 (0, 0))
  len : n = l.length
  le : n ≤ cap
  max : cap ≤ maxLen
  size : cur.size = cap * 11
  cells : cur.toList.take (n * 11) = fl34 l
theorem rowp_of {W : World} {B n c : Nat} {A : Option Addr} {l : List S34} (h : Kd.R k34 34 W B (fun _ => True) (.slice A n c) l) (hn : 0 < n) : ∃ g cur, A = some ⟨g, 0, none⟩ ∧ B ≤ g ∧ RowP W g n c l cur := by
  have hl := (Kd.R_reads' h).1
  obtain ⟨_, inner, ho, hr⟩ := h
  rcases ho.2 with ⟨he, h0⟩ | ⟨g, cap, cur, he, hB, hh, h1, h2, h3, h4⟩
  · omega
  · injection he with e1 e2 e3
    subst e1 e2 e3
    refine ⟨g, cur, rfl, hB, hh, hl, h1, h2, h3, h4.trans (flat_eq l inner hr.1 fun j p hj => ?_)⟩
    exact k34_openM (hr.2 j p hj)
theorem rowp_R {W : World} {B g n cap : Nat} {l : List S34} {cur : Array Value} (h : RowP W g n cap l cur) (hB : B ≤ g) : Kd.R k34 34 W B (fun _ => True) (.slice (some ⟨g, 0, none⟩) n cap) l := by
  obtain ⟨h1, h2, h3, h4, h5, h6⟩ := h
  subst h2
  refine ⟨fun _ _ => trivial, fl34 l, ⟨fl_len l, .inr ⟨g, cap, cur, rfl, hB, h1, h3, h4, h5, h6⟩⟩, fl_len l, fun j p hj => ?_⟩
  show k34.M _ _ _ _ (((fl34 l).drop (j * 11)).take 11)
  rw [fl_at l j p hj]
  exact k34_mkM _ _ _ p
theorem zero34 : ∀ w : World, (zeroValue 34).run Try.prog w = .ok (.agg (cs34 z34).toArray) w := by
  intro w
  obtain ⟨i, hi, he⟩ := Option.map_eq_some_iff.1 info34
  simp only [Prod.mk.injEq] at he
  simp [zeroValue, typeInfo, hi, he.1]
theorem step_app {P : Program} {ops : Array Oper} {o : Oper} {a : Act} {w w1 : World} {K : Act → World → Prop} {Q : Exit → Act → World → Prop} {E : Prop} {v vs vx : Value} (hg : o.guard = none) (s x : Operand) (t : TypeId) (hop : o.op = Op.call { callee := Callee.builtin Builtin.append, args := #[s, x], argTypes := #[t, t] })
    (hs : a.eval s = vs) (hx : a.eval x = vx) (hrun : (Builtin.append_ #[t, t] o.type #[vs, vx]).run P w = .ok v w1) (hK : K (a.put o.dst v) w1) : if Region.wanted o (yielded ops a.tmps) = true then Oper.wp P o a w K Q else E := by
  have hw : Region.wanted o (yielded ops a.tmps) = true := by simp [Region.wanted, hg]
  rw [if_pos hw]
  unfold Oper.wp
  simp [execOp, hop, resolve, invoke, builtin, hs, hx, hrun, Result.andThen]
  exact hK
theorem zc34 : Builtin.zeroCells (cs34 z34).toArray (0 + 1) = (cs34 z34).toArray := by kernel_rfl
theorem run_clear34 (w : World) (ty : TypeId) (g o c : Nat) (cur : Array Value) (hg : w.heap[g]? = some (.cells cur 34 (0, 0))) (hfit : o + 11 ≤ cur.size) :
    (Builtin.clear_ #[68] ty #[.slice (some ⟨g, o, none⟩) (0 + 1) c]).run Try.prog w = .ok (.tuple #[]) (w.setRow g (cur.toList.take o ++ cs34 z34 ++ cur.toList.drop (o + 11)).toArray) := by
  have hst := run_storeCells_at Try.prog g o 34 (cs34 z34) 0 cur w hg (by show o + 0 + 11 ≤ _; omega) (fun v hv => fl_one (l := [z34]) (by simpa [fl34] using hv))
  have e11 : (cs34 z34).length = 11 := rfl
  simp only [Nat.add_zero, e11] at hst
  have hz : (Value.agg (cs34 z34).toArray).cells = (cs34 z34).toArray := rfl
  simp [Builtin.clear_, run_underlying Try.underlying68, zero34, hz, zc34, hst]
  have h2 : ∀ L : List Value, L = cs34 z34 → ((Sem.run Try.prog (storeCells { block := g, off := o } L) w).andThen fun a w' => Result.ok (Value.tuple #[]) w') = Result.ok (Value.tuple #[]) (w.setRow g (List.take o cur.toList ++ (cs34 z34 ++ List.drop (o + 11) cur.toList)).toArray) := by
    intro L hL
    rw [hL, hst, List.append_assoc]
    rfl
  exact h2 _ (by kernel_rfl)
set_option maxHeartbeats 4000000 in
set_option maxRecDepth 100000 in
theorem sdelete_row {W : World} {g cap : Nat} {l : List S34} {cur : Array Value} (hr : RowP W g l.length cap l cur) (i : Nat) (hi : i < l.length) (hl : l.length ≤ 1000) :
    Calls Try.prog 94 #[.slice (some ⟨g, 0, none⟩) l.length cap, .int .i64 i, .int .i64 ((i : Int) + 1)] W fun e w' => e = .returned (.slice (some ⟨g, 0, none⟩) (l.length - 1) cap) ∧ (∃ cur', RowP w' g (l.length - 1) cap (l.eraseIdx i) cur') ∧ ∀ B, B ≤ g → B ≤ W.heap.size → Below B W w' := by
  obtain ⟨n, hn⟩ : ∃ n, n = l.length := ⟨_, rfl⟩
  rw [← hn] at hr hi hl ⊢
  obtain ⟨m, hm⟩ : ∃ m, m = n - (i + 1) := ⟨_, rfl⟩
  have hc := hr.le
  have hmx := hr.max
  have hcs := hr.size
  have hnews : (fl34 (l.drop (i + 1))).length = m * 11 := by rw [fl_len, List.length_drop]; omega
  have hg1 : W.drew.heap[g]? = some (.cells cur 34 (0, 0)) := blk_drew hr.blk
  obtain ⟨row1, hrow1⟩ : ∃ r : Array Value, r = (cur.toList.take (i * 11) ++ fl34 (l.drop (i + 1)) ++ cur.toList.drop (i * 11 + (fl34 (l.drop (i + 1))).length)).toArray := ⟨_, rfl⟩
  have hap0 : ∀ (ad : Addr), (0 < m → ad = ⟨g, (i + 1) * 11, none⟩) → ∀ ty, (Builtin.append_ #[68, 68] ty #[.slice (some ⟨g, 0, none⟩) i cap, .slice (some ad) m (cap - (i + 1))]).run Try.prog W.drew = .ok (.slice (some ⟨g, 0, none⟩) (i + m) cap) (W.drew.setRow g row1) := by
    intro ad had ty
    obtain ⟨ti, hti, he⟩ := Option.map_eq_some_iff.1 info34
    simp only [Prod.mk.injEq] at he
    have := run_append_room (P := Try.prog) W.drew 68 ty 34 ti Try.underlying68 hti g i cap cur hg1 ad m (cap - (i + 1)) (fl34 (l.drop (i + 1))) (by rw [he.2.1]; exact hnews) (fun j u hu => ?_) (fun u hu => fl_one hu) (by omega) (by rw [he.2.1, hnews]; omega)
    · rw [this, he.2.1, hrow1]
    · have hju : j < (fl34 (l.drop (i + 1))).length := (List.getElem?_eq_some_iff.1 hu).1
      rw [hnews] at hju
      rw [had (by omega), Addr.add_lit]
      refine (blk_cell hg1 _).trans ?_
      have h5 : (cur.toList.take (n * 11))[(i + 1) * 11 + j]? = some u := by
        rw [hr.cells, ← hu, ← fl_drop l (i + 1) (by omega), List.getElem?_drop]
      rw [List.getElem?_take_of_lt (by omega)] at h5
      simpa using h5
  have hap : ∀ ty, (Builtin.append_ #[68, 68] ty #[.slice (some ⟨g, 0, none⟩) i cap, .slice (if cap = i + 1 then some ⟨g, 0, none⟩ else some ⟨g, (i + 1) * 11, none⟩) m (cap - (i + 1))]).run Try.prog W.drew = .ok (.slice (some ⟨g, 0, none⟩) (i + m) cap) (W.drew.setRow g row1) := by
    intro ty
    split
    · exact hap0 _ (fun h => by omega) ty
    · exact hap0 _ (fun _ => rfl) ty
  clear hap0
  obtain ⟨k, rfl⟩ : ∃ k, n = k + 1 := ⟨n - 1, by omega⟩
  have hik : i + m = k := by omega
  rw [hik] at hap
  have hr1s : row1.size = cur.size := by
    rw [hrow1]
    simp only [List.size_toArray, List.length_append, List.length_take, List.length_drop, Array.length_toList, hnews]
    omega
  have hg2 : (W.drew.setRow g row1).heap[g]? = some (.cells row1 34 (0, 0)) := setRow_heap _ _ _ _ _ _ hg1
  obtain ⟨W1, hW1⟩ : ∃ W1, W1 = W.drew.setRow g row1 := ⟨_, rfl⟩
  have hB1 : ∀ B, B ≤ g → Below B W W1 := fun B hB => by rw [hW1]; exact below_setRow (b3 (Below.refl B W)) hB row1
  rw [← hW1] at hap hg2
  clear hW1
  obtain ⟨row2, hrow2⟩ : ∃ r : Array Value, r = (row1.toList.take (k * 11) ++ cs34 z34 ++ row1.toList.drop (k * 11 + 11)).toArray := ⟨_, rfl⟩
  have hcl : ∀ ty, (Builtin.clear_ #[68] ty #[.slice (some ⟨g, k * 11, none⟩) 1 (cap - k)]).run Try.prog W1 = .ok (.tuple #[]) (W1.setRow g row2) := fun ty => by
    rw [hrow2]
    exact run_clear34 W1 ty g (k * 11) (cap - k) row1 hg2 (by omega)
  have hr2s : row2.size = cur.size := by
    rw [hrow2]
    simp only [List.size_toArray, List.length_append, List.length_take, List.length_drop, Array.length_toList]
    show min (k * 11) row1.size + 11 + (row1.size - (k * 11 + 11)) = cur.size
    omega
  have hP2 : RowP (W1.setRow g row2) g k cap (l.eraseIdx i) row2 := by
    refine ⟨setRow_heap _ _ _ _ _ _ hg2, by rw [List.length_eraseIdx_of_lt (by omega)]; omega, by omega, hmx, by rw [hr2s, hcs], ?_⟩
    have e1 : (cur.toList.take (i * 11)).length = i * 11 := by rw [List.length_take, Array.length_toList]; omega
    have e2 : cur.toList.take (i * 11) = fl34 (l.take i) := by
      rw [← fl_take l i (by omega), ← hr.cells, List.take_take, Nat.min_eq_left (by omega)]
    have e3 : row1.toList.take (k * 11) = fl34 (l.eraseIdx i) := by
      rw [hrow1, List.toList_toArray, List.take_append_of_le_length (by rw [List.length_append, e1, hnews]; omega), List.take_of_length_le (by rw [List.length_append, e1, hnews]; omega), e2, List.eraseIdx_eq_take_drop_succ, fl_app]
    have e4 : (row1.toList.take (k * 11)).length = k * 11 := by rw [List.length_take, Array.length_toList]; omega
    rw [hrow2, List.toList_toArray, List.append_assoc, List.take_append_of_le_length (Nat.le_of_eq e4.symm), List.take_of_length_le (Nat.le_of_eq e4), e3]
  have HP2 := Aside0.mk hP2
  have HB2 := Aside0.mk (fun (B : Nat) (hB : B ≤ g) => below_setRow (hB1 B hB) hB row2)
  have hkn : k + 1 - 1 = k := rfl
  rw [hkn]
  have i0 : (0 : Int) ≤ (i : Int) := by omega
  have i1 : (i : Int) + 1 ≤ ((k + 1 : Nat) : Int) := by omega
  have i2 : ((i : Int) == (i : Int) + 1) = false := beq_eq_false_iff_ne.mpr (by omega)
  have i3 : i ≤ cap := by omega
  have i4 : k ≤ cap := by omega
  have i5 : i ≤ i + 1 := by omega
  have i6 : i + 1 ≤ k + 1 := by omega
  have i7 : k + 1 ≤ cap := hc
  have hm2 : k + 1 - (i + 1) = m := hm.symm
  have hm3 : k - i = m := by omega
  have i8 : i ≤ k := by omega
  have i9 : (i : Int) ≤ (k : Int) := by omega
  have i10 : ((i : Int) + 1).toNat = i + 1 := by omega
  have i12 : ¬ cap = k := by omega
  have i13 : (0 : Int) ≤ (i : Int) + 1 := by omega
  have i11 : (k : Int) + 1 ≤ (cap : Int) := by omega
  clear hr hg1 hg2 hrow1 hrow2 hr1s hr2s hP2 hB1 hnews hn hi hl hm hik hmx hcs hc hkn
  go_enter Try.func94, Try.ntmps94
  go_wp2_with fail
  refine start_ (n := 8) (S := fun w' => True) (ds := []) #[false, false, false, false, false, false, false, false] (by kernel_rfl) rfl rfl trivial (fun hHeld => ?_)
  refine pure_ (i := 0) (N := some 20) (v := ?_) (a' := ?_) #[true, false, false, false, false, false, false, false] rfl rfl (by kernel_rfl) (fun _ _ _ h => h) (Or.inl ⟨by rfl, ?_⟩) ?_ ?_
  rotate_left
  · intro w'
    go_simp
    with_reducible rfl
  rotate_left
  · simp only [Act.put, List.setIfInBounds_toArray, List.set_cons_zero, List.set_cons_succ, i64_w, i32_w]
    rfl
  refine pure_ (i := 1) (N := some 21) (v := ?_) (a' := ?_) #[true, true, false, false, false, false, false, false] rfl rfl (by kernel_rfl) (fun _ _ _ h => h) (Or.inl ⟨by rfl, ?_⟩) ?_ ?_
  rotate_left
  · intro w'
    go_simp
    with_reducible rfl
  rotate_left
  · simp only [Act.put, List.setIfInBounds_toArray, List.set_cons_zero, List.set_cons_succ, i64_w, i32_w]
    rfl
  refine pure_ (i := 2) (N := some 22) (v := ?_) (a' := ?_) #[true, true, true, false, false, false, false, false] rfl rfl (by kernel_rfl) (fun _ _ _ h => h) (Or.inl ⟨by rfl, ?_⟩) ?_ ?_
  rotate_left
  · intro w'
    go_simp
    with_reducible rfl
  rotate_left
  · simp only [Act.put, List.setIfInBounds_toArray, List.set_cons_zero, List.set_cons_succ, i64_w, i32_w]
    rfl
  refine pure_ (i := 3) (N := some 23) (v := ?_) (a' := ?_) #[true, true, true, true, false, false, false, false] rfl rfl (by kernel_rfl) (fun _ _ _ h => h) (Or.inl ⟨by rfl, ?_⟩) ?_ ?_
  rotate_left
  · intro w'
    go_simp
    with_reducible rfl
  rotate_left
  · simp only [Act.put, List.setIfInBounds_toArray, List.set_cons_zero, List.set_cons_succ, i64_w, i32_w]
    rfl
  refine pure_ (i := 4) (N := some 24) (v := ?_) (a' := ?_) #[true, true, true, true, true, false, false, false] rfl rfl (by kernel_rfl) (fun _ _ _ h => h) (Or.inl ⟨by rfl, ?_⟩) ?_ ?_
  rotate_left
  · intro w'
    go_simp
    with_reducible rfl
  rotate_left
  · simp only [Act.put, List.setIfInBounds_toArray, List.set_cons_zero, List.set_cons_succ, i64_w, i32_w]
    rfl
  refine pure_ (i := 5) (N := some 25) (v := ?_) (a' := ?_) #[true, true, true, true, true, true, false, false] rfl rfl (by kernel_rfl) (fun _ _ _ h => h) (Or.inl ⟨by rfl, ?_⟩) ?_ ?_
  rotate_left
  · intro w'
    go_simp
    with_reducible rfl
  rotate_left
  · simp only [Act.put, List.setIfInBounds_toArray, List.set_cons_zero, List.set_cons_succ, i64_w, i32_w]
    rfl
  refine one_ (i := 6) (N := some 26) #[true, true, true, true, true, true, true, false] rfl rfl (by kernel_rfl) (by decide) (fun K hK => ?_)
  refine step_app rfl (.tmp 22) (.tmp 25) 68 rfl ?hs ?hx (hap _) ?_
  case hs => rfl
  case hx => rfl
  refine hK.out _ _ trivial (fun hHeld => ?_)
  clear hK K
  refine norm_ (a' := ?_) ?_ ?_
  rotate_left
  · show Act.put _ (some 26) _ = _
    simp only [Act.put, List.setIfInBounds_toArray, List.set_cons_zero, List.set_cons_succ, i64_w, i32_w]
    rfl
  refine pure_ (i := 7) (N := some 0) (v := ?_) (a' := ?_) #[true, true, true, true, true, true, true, true] rfl rfl (by kernel_rfl) (fun _ _ _ h => h) (Or.inl ⟨by rfl, ?_⟩) ?_ ?_
  rotate_left
  · intro w'
    go_simp
    with_reducible rfl
  rotate_left
  · simp only [Act.put, List.setIfInBounds_toArray, List.set_cons_zero, List.set_cons_succ, i64_w, i32_w]
    rfl
  refine done_ (by kernel_rfl) ?_
  clear hap
  generalize (if cap = i + 1 then (some (⟨g, 0, none⟩ : Addr)) else some ⟨g, (i + 1) * 11, none⟩) = ad25
  go_wp2_with fail
  go_ret
  exact ⟨rfl, ⟨_, HP2.out⟩, fun B h1 _ => HB2.out B h1⟩
end Go.Proofs.Ytblooffiggciiaa.Ps
/- PsAn -/
namespace Go.Proofs.Ytblooffiggciiaa.Ps
open Go.RowKit Go.Proofs.Ytblooffiggciiaa.PPs Go.Proofs.YtblooffiggciiaaW.PrintWords Go.Proofs.YtblooffiggciiaaW.PrintLast Go.Proofs.YtblooffiggciiaaW.PrintMore Go.Proofs.Ytblooffiggciiaa.Sh
attribute [local go_sem] Go.Proofs.Ytblooffiggciiaa.Aid.isSome_setCell
set_option maxHeartbeats 4000000 in
set_option maxRecDepth 100000 in
theorem del_err {w : World} {A : Option Addr} {c : Nat} {l : List S34} (hC : Kd.C k34 w A l.length l) (hcc : l.length ≤ c) (hl : l.length ≤ 1000) (p a : Int) (er : Int) (hf : fnd l p a = (0, some er)) :
    Calls Try.prog 58 #[.agg #[.slice A l.length c, .int .i64 p], .int .i64 a] w (SetR w [] 0 (some er)) := by
  have hB := b1 (b1 (Below.refl w.heap.size w) (.cells #[.slice A l.length c, .int .i64 p] 70)) (.cells #[.slice none 0 0, .int .i64 0] 70)
  have hL := ((BL.nil w).new (.cells #[.slice A l.length c, .int .i64 p] 70)).new (.cells #[.slice none 0 0, .int .i64 0] 70)
  rw [sz1] at hL
  have HC := Aside0.mk (Kd.C_alloc (Kd.C_alloc hC (.cells #[.slice A l.length c, .int .i64 p] 70)) (.cells #[.slice none 0 0, .int .i64 0] 70))
  have HF := Aside0.mk (find_calls (c := c) HC.out p a)
  rw [hf] at HF
  have HB := Aside0.mk hB
  have HL := Aside0.mk hL
  have hz := ck2 (HL.out.get 0 rfl)
  have hs : w.heap.size ≤ w.heap.size + 1 := by omega
  clear hB hL hC hf
  go_enter Try.func58, Try.ntmps58
  go_wp2_with fail
  refine HF.out.mono ?_
  rintro e w5 ⟨rfl, hb⟩
  have HL5 := Aside0.mk (HL.out.below hb)
  have HB5 := Aside0.mk (below_step HB.out hb)
  have HC5 := Aside0.mk (Kd.C_below HC.out hb)
  clear hb hz
  have hz := cc2 (HL5.out.get 1 rfl)
  have he : errW (some er) = Value.iface 42 (.int .i64 er) := rfl
  simp only [he]
  clear he
  go_wp2_with fail
  refine bodyPost_ret (results_ct rfl _ _ (w.heap.size + 1) 70 #[.slice none 0 0, .int .i64 0] (0, 0) _ rfl (put2 (HL5.out.get 1 rfl)) Try.underlying70 rfl (by kernel_rfl)) rfl ?_
  exact ⟨_, rfl, Kd.R_nil _ _ _ _ _, bel2 HB5.out hs⟩
set_option maxHeartbeats 4000000 in
set_option maxRecDepth 100000 in
theorem del_one {w : World} {A : Option Addr} {c : Nat} {l : List S34} (hC : Kd.C k34 w A l.length l) (hcc : l.length ≤ c) (hl : l.length ≤ 1000) (p a : Int) (i : Nat) (hf : fnd l p a = ((i : Int), none)) (h1 : l.length = 1) :
    Calls Try.prog 58 #[.agg #[.slice A l.length c, .int .i64 p], .int .i64 a] w (SetR w [] 0 (some 5)) := by
  have H1 := Aside0.mk h1
  clear h1
  have hB := b1 (b1 (Below.refl w.heap.size w) (.cells #[.slice A l.length c, .int .i64 p] 70)) (.cells #[.slice none 0 0, .int .i64 0] 70)
  have hL := ((BL.nil w).new (.cells #[.slice A l.length c, .int .i64 p] 70)).new (.cells #[.slice none 0 0, .int .i64 0] 70)
  rw [sz1] at hL
  have HC := Aside0.mk (Kd.C_alloc (Kd.C_alloc hC (.cells #[.slice A l.length c, .int .i64 p] 70)) (.cells #[.slice none 0 0, .int .i64 0] 70))
  have HF := Aside0.mk (find_calls (c := c) HC.out p a)
  rw [hf] at HF
  have HB := Aside0.mk hB
  have HL := Aside0.mk hL
  have hz := ck2 (HL.out.get 0 rfl)
  have hs : w.heap.size ≤ w.heap.size + 1 := by omega
  clear hB hL hC hf
  go_enter Try.func58, Try.ntmps58
  go_wp2_with fail
  refine HF.out.mono ?_
  rintro e w5 ⟨rfl, hb⟩
  have HL5 := Aside0.mk (HL.out.below hb)
  have HB5 := Aside0.mk (below_step HB.out hb)
  have HC5 := Aside0.mk (Kd.C_below HC.out hb)
  clear hb hz
  have hz := cc2 (HL5.out.get 1 rfl)
  have hx := ck2 (HL5.out.get 0 rfl)
  have h1' : ((l.length : Int) == 1) = true := by rw [beq_iff_eq]; have := H1.out; omega
  have he : errW (none) = Value.nilIface := rfl
  simp only [he]
  clear he
  go_wp2_with fail
  refine bodyPost_ret (results_ct rfl _ _ (w.heap.size + 1) 70 #[.slice none 0 0, .int .i64 0] (0, 0) _ rfl (put2 (HL5.out.get 1 rfl)) Try.underlying70 rfl (by kernel_rfl)) rfl ?_
  exact ⟨_, rfl, Kd.R_nil _ _ _ _ _, bel2 HB5.out hs⟩
set_option maxHeartbeats 4000000 in
set_option maxRecDepth 100000 in
theorem del_eq {w : World} {A : Option Addr} {c : Nat} {l : List S34} (hC : Kd.C k34 w A l.length l) (hcc : l.length ≤ c) (hl : l.length ≤ 1000) (a : Int) (i : Nat) (hi : i < l.length) (hf : fnd l (i : Int) a = ((i : Int), none)) (h1 : l.length ≠ 1) :
    Calls Try.prog 58 #[.agg #[.slice A l.length c, .int .i64 (i : Int)], .int .i64 a] w (SetR w (l.eraseIdx i) 0 none) := by
  have hB := b1 (b1 (Below.refl w.heap.size w) (.cells #[.slice A l.length c, .int .i64 (i : Int)] 70)) (.cells #[.slice none 0 0, .int .i64 0] 70)
  have hL := ((BL.nil w).new (.cells #[.slice A l.length c, .int .i64 (i : Int)] 70)).new (.cells #[.slice none 0 0, .int .i64 0] 70)
  rw [sz1] at hL
  have HC := Aside0.mk (Kd.C_alloc (Kd.C_alloc hC (.cells #[.slice A l.length c, .int .i64 (i : Int)] 70)) (.cells #[.slice none 0 0, .int .i64 0] 70))
  have HF := Aside0.mk (find_calls (c := c) HC.out (i : Int) a)
  rw [hf] at HF
  have HB := Aside0.mk hB
  have HL := Aside0.mk hL
  have hz := ck2 (HL.out.get 0 rfl)
  have hs : w.heap.size ≤ w.heap.size + 1 := by omega
  clear hB hL hC hf
  go_enter Try.func58, Try.ntmps58
  go_wp2_with fail
  refine HF.out.mono ?_
  rintro e w5 ⟨rfl, hb⟩
  have HL5 := Aside0.mk (HL.out.below hb)
  have HB5 := Aside0.mk (below_step HB.out hb)
  have HC5 := Aside0.mk (Kd.C_below HC.out hb)
  clear hb hz
  have hx := cc2 (HL5.out.get 0 rfl)
  have h1' : ¬ ((l.length : Int) = 1) := by omega
  have h2' : ((l.length : Int) == 1) = false := beq_eq_false_iff_ne.mpr h1'
  have HK := Aside0.mk (clone_calls w5 A c l hcc HC5.out (by omega))
  have hi1 : wrap64 ((i : Int) + 1) = (i : Int) + 1 := w64 (by omega) (by omega)
  have hi2 : IntKind.i64.wrap ((i : Int) + 1) = (i : Int) + 1 := by rw [IntKind.wrap_i64]; omega
  have he : errW (none) = Value.nilIface := rfl
  simp only [he]
  clear he
  go_wp2_with fail
  refine HK.out.mono ?_
  rintro e w6 ⟨A3, c3, rfl, hR, hb⟩
  obtain ⟨g3, cur, rfl, hg3, hrow⟩ := rowp_of hR (by omega)
  have HL6 := Aside0.mk (HL5.out.below hb)
  have HB6 := Aside0.mk (below_step HB5.out hb)
  have HD := Aside0.mk (sdelete_row hrow i hi hl)
  have HZ := Aside0.mk (below_size hb)
  have HZ5 := Aside0.mk (below_size HB5.out)
  have HG0 := Aside0.mk (blk_lt (HL5.out.get 0 rfl))
  have HG1 := Aside0.mk (blk_lt (HL5.out.get 1 rfl))
  have HG3 := Aside0.mk hg3
  clear hb hR hrow hx hg3
  have hx := cc2 (HL6.out.get 0 rfl)
  go_wp2_with fail
  refine HD.out.mono ?_
  rintro e w7 ⟨rfl, ⟨cur', hrow⟩, hbd⟩
  have hb5 := hbd w5.heap.size HG3.out HZ.out
  have HB7 := Aside0.mk (HB6.out.trans (hbd w.heap.size (Nat.le_trans HZ5.out HG3.out) (Nat.le_trans HZ5.out HZ.out)))
  have X0 := Aside0.mk ((hb5.block _ HG0.out).trans (HL6.out.get 0 rfl))
  have X1 := Aside0.mk ((hb5.block _ HG1.out).trans (HL6.out.get 1 rfl))
  have HR7 := Aside0.mk (rowp_R hrow (Nat.le_trans HZ5.out HG3.out))
  obtain ⟨n1, hn1⟩ : ∃ n1, n1 = l.length - 1 := ⟨_, rfl⟩
  rw [← hn1] at HR7 ⊢
  clear hbd hb5 hrow hx hn1
  have hne : w.heap.size + 1 ≠ w.heap.size := by omega
  have hx := cc2 X0.out
  have hY := Aside0.mk (far2 (v := .slice (some ⟨g3, 0, none⟩) n1 c3) (q := .int .i64 0) X1.out hne)
  have hY1 := Aside0.mk ((Below.heap_setCell w7 ⟨w.heap.size, 0, none⟩ (.slice (some ⟨g3, 0, none⟩) n1 c3) (w.heap.size + 1) hne).trans X1.out)
  have hz := cc2 X1.out
  go_wp2_with fail
  refine bodyPost_ret (results_ct rfl _ _ (w.heap.size + 1) 70 #[.slice (some ⟨g3, 0, none⟩) n1 c3, .int .i64 0] (0, 0) _ rfl (put2 hY.out) Try.underlying70 rfl (by kernel_rfl)) rfl ?_
  exact ⟨_, rfl, rr2 (rr2 HR7.out X0.out) hY.out, bel2 (bel2 HB7.out (Nat.le_refl _)) hs⟩
set_option maxHeartbeats 4000000 in
set_option maxRecDepth 100000 in
theorem del_lt {w : World} {A : Option Addr} {c : Nat} {l : List S34} (hC : Kd.C k34 w A l.length l) (hcc : l.length ≤ c) (hl : l.length ≤ 1000) (p a : Int) (i : Nat) (hi : i < l.length) (hf : fnd l p a = ((i : Int), none)) (h1 : l.length ≠ 1) (hp : (i : Int) < p) (hp1 : p < l.length) :
    Calls Try.prog 58 #[.agg #[.slice A l.length c, .int .i64 p], .int .i64 a] w (SetR w (l.eraseIdx i) (p - 1) none) := by
  have hB := b1 (b1 (Below.refl w.heap.size w) (.cells #[.slice A l.length c, .int .i64 p] 70)) (.cells #[.slice none 0 0, .int .i64 0] 70)
  have hL := ((BL.nil w).new (.cells #[.slice A l.length c, .int .i64 p] 70)).new (.cells #[.slice none 0 0, .int .i64 0] 70)
  rw [sz1] at hL
  have HC := Aside0.mk (Kd.C_alloc (Kd.C_alloc hC (.cells #[.slice A l.length c, .int .i64 p] 70)) (.cells #[.slice none 0 0, .int .i64 0] 70))
  have HF := Aside0.mk (find_calls (c := c) HC.out p a)
  rw [hf] at HF
  have HB := Aside0.mk hB
  have HL := Aside0.mk hL
  have hz := ck2 (HL.out.get 0 rfl)
  have hs : w.heap.size ≤ w.heap.size + 1 := by omega
  clear hB hL hC hf
  go_enter Try.func58, Try.ntmps58
  go_wp2_with fail
  refine HF.out.mono ?_
  rintro e w5 ⟨rfl, hb⟩
  have HL5 := Aside0.mk (HL.out.below hb)
  have HB5 := Aside0.mk (below_step HB.out hb)
  have HC5 := Aside0.mk (Kd.C_below HC.out hb)
  clear hb hz
  have q1 : ((i : Int) == p) = false := beq_eq_false_iff_ne.mpr (by omega)
  have q2 : ¬ ((i : Int) = p) := by omega
  have q3 : wrap64 (p - 1) = p - 1 := w64 (by omega) (by omega)
  have q4 : IntKind.i64.wrap (p - 1) = p - 1 := by rw [IntKind.wrap_i64]; omega
  have hx := cc2 (HL5.out.get 0 rfl)
  have h1' : ¬ ((l.length : Int) = 1) := by omega
  have h2' : ((l.length : Int) == 1) = false := beq_eq_false_iff_ne.mpr h1'
  have HK := Aside0.mk (clone_calls w5 A c l hcc HC5.out (by omega))
  have hi1 : wrap64 ((i : Int) + 1) = (i : Int) + 1 := w64 (by omega) (by omega)
  have hi2 : IntKind.i64.wrap ((i : Int) + 1) = (i : Int) + 1 := by rw [IntKind.wrap_i64]; omega
  have he : errW (none) = Value.nilIface := rfl
  simp only [he]
  clear he
  go_wp2_with fail
  refine HK.out.mono ?_
  rintro e w6 ⟨A3, c3, rfl, hR, hb⟩
  obtain ⟨g3, cur, rfl, hg3, hrow⟩ := rowp_of hR (by omega)
  have HL6 := Aside0.mk (HL5.out.below hb)
  have HB6 := Aside0.mk (below_step HB5.out hb)
  have HD := Aside0.mk (sdelete_row hrow i hi hl)
  have HZ := Aside0.mk (below_size hb)
  have HZ5 := Aside0.mk (below_size HB5.out)
  have HG0 := Aside0.mk (blk_lt (HL5.out.get 0 rfl))
  have HG1 := Aside0.mk (blk_lt (HL5.out.get 1 rfl))
  have HG3 := Aside0.mk hg3
  clear hb hR hrow hx hg3
  have hx := cc2 (HL6.out.get 0 rfl)
  go_wp2_with fail
  refine HD.out.mono ?_
  rintro e w7 ⟨rfl, ⟨cur', hrow⟩, hbd⟩
  have hb5 := hbd w5.heap.size HG3.out HZ.out
  have HB7 := Aside0.mk (HB6.out.trans (hbd w.heap.size (Nat.le_trans HZ5.out HG3.out) (Nat.le_trans HZ5.out HZ.out)))
  have X0 := Aside0.mk ((hb5.block _ HG0.out).trans (HL6.out.get 0 rfl))
  have X1 := Aside0.mk ((hb5.block _ HG1.out).trans (HL6.out.get 1 rfl))
  have HR7 := Aside0.mk (rowp_R hrow (Nat.le_trans HZ5.out HG3.out))
  obtain ⟨n1, hn1⟩ : ∃ n1, n1 = l.length - 1 := ⟨_, rfl⟩
  rw [← hn1] at HR7 ⊢
  clear hbd hb5 hrow hx hn1
  have hne : w.heap.size + 1 ≠ w.heap.size := by omega
  have hx := cc2 X0.out
  have hY := Aside0.mk (far2 (v := .slice (some ⟨g3, 0, none⟩) n1 c3) (q := .int .i64 (p - 1)) X1.out hne)
  have hY1 := Aside0.mk ((Below.heap_setCell w7 ⟨w.heap.size, 0, none⟩ (.slice (some ⟨g3, 0, none⟩) n1 c3) (w.heap.size + 1) hne).trans X1.out)
  have hz := cc2 X1.out
  go_wp2_with fail
  refine bodyPost_ret (results_ct rfl _ _ (w.heap.size + 1) 70 #[.slice (some ⟨g3, 0, none⟩) n1 c3, .int .i64 (p - 1)] (0, 0) _ rfl (put2 hY.out) Try.underlying70 rfl (by kernel_rfl)) rfl ?_
  exact ⟨_, rfl, rr2 (rr2 HR7.out X0.out) hY.out, bel2 (bel2 HB7.out (Nat.le_refl _)) hs⟩
set_option maxHeartbeats 4000000 in
set_option maxRecDepth 100000 in
theorem del_gt {w : World} {A : Option Addr} {c : Nat} {l : List S34} (hC : Kd.C k34 w A l.length l) (hcc : l.length ≤ c) (hl : l.length ≤ 1000) (p a : Int) (i : Nat) (hi : i < l.length) (hf : fnd l p a = ((i : Int), none)) (h1 : l.length ≠ 1) (hp : p < i) :
    Calls Try.prog 58 #[.agg #[.slice A l.length c, .int .i64 p], .int .i64 a] w (SetR w (l.eraseIdx i) p none) := by
  have hB := b1 (b1 (Below.refl w.heap.size w) (.cells #[.slice A l.length c, .int .i64 p] 70)) (.cells #[.slice none 0 0, .int .i64 0] 70)
  have hL := ((BL.nil w).new (.cells #[.slice A l.length c, .int .i64 p] 70)).new (.cells #[.slice none 0 0, .int .i64 0] 70)
  rw [sz1] at hL
  have HC := Aside0.mk (Kd.C_alloc (Kd.C_alloc hC (.cells #[.slice A l.length c, .int .i64 p] 70)) (.cells #[.slice none 0 0, .int .i64 0] 70))
  have HF := Aside0.mk (find_calls (c := c) HC.out p a)
  rw [hf] at HF
  have HB := Aside0.mk hB
  have HL := Aside0.mk hL
  have hz := ck2 (HL.out.get 0 rfl)
  have hs : w.heap.size ≤ w.heap.size + 1 := by omega
  clear hB hL hC hf
  go_enter Try.func58, Try.ntmps58
  go_wp2_with fail
  refine HF.out.mono ?_
  rintro e w5 ⟨rfl, hb⟩
  have HL5 := Aside0.mk (HL.out.below hb)
  have HB5 := Aside0.mk (below_step HB.out hb)
  have HC5 := Aside0.mk (Kd.C_below HC.out hb)
  clear hb hz
  have q1 : ((i : Int) == p) = false := beq_eq_false_iff_ne.mpr (by omega)
  have q2 : ¬ ((i : Int) = p) := by omega
  have q3 : ¬ ((i : Int) < p) := by omega
  have hx := cc2 (HL5.out.get 0 rfl)
  have h1' : ¬ ((l.length : Int) = 1) := by omega
  have h2' : ((l.length : Int) == 1) = false := beq_eq_false_iff_ne.mpr h1'
  have HK := Aside0.mk (clone_calls w5 A c l hcc HC5.out (by omega))
  have hi1 : wrap64 ((i : Int) + 1) = (i : Int) + 1 := w64 (by omega) (by omega)
  have hi2 : IntKind.i64.wrap ((i : Int) + 1) = (i : Int) + 1 := by rw [IntKind.wrap_i64]; omega
  have he : errW (none) = Value.nilIface := rfl
  simp only [he]
  clear he
  go_wp2_with fail
  refine HK.out.mono ?_
  rintro e w6 ⟨A3, c3, rfl, hR, hb⟩
  obtain ⟨g3, cur, rfl, hg3, hrow⟩ := rowp_of hR (by omega)
  have HL6 := Aside0.mk (HL5.out.below hb)
  have HB6 := Aside0.mk (below_step HB5.out hb)
  have HD := Aside0.mk (sdelete_row hrow i hi hl)
  have HZ := Aside0.mk (below_size hb)
  have HZ5 := Aside0.mk (below_size HB5.out)
  have HG0 := Aside0.mk (blk_lt (HL5.out.get 0 rfl))
  have HG1 := Aside0.mk (blk_lt (HL5.out.get 1 rfl))
  have HG3 := Aside0.mk hg3
  clear hb hR hrow hx hg3
  have hx := cc2 (HL6.out.get 0 rfl)
  go_wp2_with fail
  refine HD.out.mono ?_
  rintro e w7 ⟨rfl, ⟨cur', hrow⟩, hbd⟩
  have hb5 := hbd w5.heap.size HG3.out HZ.out
  have HB7 := Aside0.mk (HB6.out.trans (hbd w.heap.size (Nat.le_trans HZ5.out HG3.out) (Nat.le_trans HZ5.out HZ.out)))
  have X0 := Aside0.mk ((hb5.block _ HG0.out).trans (HL6.out.get 0 rfl))
  have X1 := Aside0.mk ((hb5.block _ HG1.out).trans (HL6.out.get 1 rfl))
  have HR7 := Aside0.mk (rowp_R hrow (Nat.le_trans HZ5.out HG3.out))
  obtain ⟨n1, hn1⟩ : ∃ n1, n1 = l.length - 1 := ⟨_, rfl⟩
  rw [← hn1] at HR7 ⊢
  clear hbd hb5 hrow hx hn1
  have hne : w.heap.size + 1 ≠ w.heap.size := by omega
  have hx := cc2 X0.out
  have hY := Aside0.mk (far2 (v := .slice (some ⟨g3, 0, none⟩) n1 c3) (q := .int .i64 p) X1.out hne)
  have hY1 := Aside0.mk ((Below.heap_setCell w7 ⟨w.heap.size, 0, none⟩ (.slice (some ⟨g3, 0, none⟩) n1 c3) (w.heap.size + 1) hne).trans X1.out)
  have hz := cc2 X1.out
  go_wp2_with fail
  refine bodyPost_ret (results_ct rfl _ _ (w.heap.size + 1) 70 #[.slice (some ⟨g3, 0, none⟩) n1 c3, .int .i64 p] (0, 0) _ rfl (put2 hY1.out) Try.underlying70 rfl (by kernel_rfl)) rfl ?_
  exact ⟨_, rfl, rr2 (rr1 HR7.out X0.out) hY1.out, bel2 (below_set HB7.out (Nat.le_refl _)) hs⟩
def delL (l : List S34) (p a : Int) : List S34 × Int × Option Int :=
  match fnd l p a with
  | (q, none) => if l.length = 1 then ([], 0, some 5) else (l.eraseIdx q.toNat, (if q = p then 0 else if q < p then p - 1 else p), none)
  | (_, some e) => ([], 0, some e)
theorem del_calls {w : World} {A : Option Addr} {c : Nat} {l : List S34} (hC : Kd.C k34 w A l.length l) (hcc : l.length ≤ c) (hl : l.length ≤ 1000) (p a : Int) :
    Calls Try.prog 58 #[.agg #[.slice A l.length c, .int .i64 p], .int .i64 a] w (SetR w (delL l p a).1 (delL l p a).2.1 (delL l p a).2.2) := by
  unfold delL
  rcases fnd_at l p a with ⟨e, he⟩ | ⟨i, hi, he, hg, _⟩
  · rw [he]; exact del_err hC hcc hl p a e he
  · have hp := gdb_in hg
    rw [he]
    by_cases h1 : l.length = 1
    · simp only [h1, ↓reduceIte]
      have := del_one hC hcc hl p a i he h1
      rw [h1] at this
      exact this
    · simp only [h1, ↓reduceIte, Int.toNat_natCast]
      by_cases h2 : (i : Int) = p
      · subst h2
        rw [if_pos rfl]
        exact del_eq hC hcc hl a i hi he h1
      · rw [if_neg h2]
        by_cases h3 : (i : Int) < p
        · rw [if_pos h3]; exact del_lt hC hcc hl p a i hi he h1 h3 hp.2
        · rw [if_neg h3]; exact del_gt hC hcc hl p a i hi he h1 (by omega)
end Go.Proofs.Ytblooffiggciiaa.Ps
/- PsK -/
namespace Go.Proofs.Ytblooffiggciiaa.Ps
open Go.RowKit Go.Proofs.Ytblooffiggciiaa.PPs Go.Proofs.YtblooffiggciiaaW.PrintWords Go.Proofs.YtblooffiggciiaaW.PrintLast Go.Proofs.YtblooffiggciiaaW.PrintMore Go.Proofs.Ytblooffiggciiaa.Sh
attribute [local go_sem] Go.Proofs.Ytblooffiggciiaa.Aid.isSome_setCell
set_option maxHeartbeats 2000000 in
set_option maxRecDepth 100000 in
theorem move_err {w : World} {A : Option Addr} {c : Nat} {l : List S34} (hC : Kd.C k34 w A l.length l) (p a b : Int) (er : Int) (hf : fnd l p a = (0, some er)) :
    Calls Try.prog 62 #[.agg #[.slice A l.length c, .int .i64 p], .int .i64 a, .int .i64 b] w (SetR w [] 0 (some er)) := by
  have hB := b1 (b1 (Below.refl w.heap.size w) (.cells #[.slice A l.length c, .int .i64 p] 70)) (.cells #[.slice none 0 0, .int .i64 0] 70)
  have h1 := blk_new (w.alloc (.cells #[.slice A l.length c, .int .i64 p] 70)) (.cells #[.slice none 0 0, .int .i64 0] 70)
  rw [sz1] at h1
  have hS := q3 (blk_new w (.cells #[.slice A l.length c, .int .i64 p] 70)) (.cells #[.slice none 0 0, .int .i64 0] 70)
  have HC := Aside0.mk (Kd.C_alloc (Kd.C_alloc hC (.cells #[.slice A l.length c, .int .i64 p] 70)) (.cells #[.slice none 0 0, .int .i64 0] 70))
  have HF := Aside0.mk (find_calls (c := c) HC.out p a)
  rw [hf] at HF
  have hz := ck2 hS
  have HB := Aside0.mk hB
  have H1 := Aside0.mk h1
  have HS := Aside0.mk hS
  clear hB h1 hS hC hf
  go_enter Try.func62, Try.ntmps62
  go_wp2_with fail
  refine HF.out.mono ?_
  rintro e w5 ⟨rfl, hb⟩
  have BR5 := Aside0.mk (blk_below H1.out hb)
  have HB5 := Aside0.mk (below_step HB.out hb)
  clear hb hz
  have hz := cc2 BR5.out
  have he : errW (some er) = Value.iface 42 (.int .i64 er) := rfl
  simp only [he]
  clear he
  go_wp2_with fail
  have hs : w.heap.size ≤ w.heap.size + 1 := by omega
  refine bodyPost_ret (results_ct rfl _ _ (w.heap.size + 1) 70 #[.slice none 0 0, .int .i64 0] (0, 0) _ rfl (put2 BR5.out) Try.underlying70 rfl (by kernel_rfl)) rfl ?_
  exact ⟨_, rfl, Kd.R_nil _ _ _ _ _, bel2 HB5.out hs⟩
set_option maxHeartbeats 2000000 in
set_option maxRecDepth 100000 in
theorem move_bad {w : World} {A : Option Addr} {c : Nat} {l : List S34} (hC : Kd.C k34 w A l.length l) (p a b : Int) (i : Nat) (hi : i < l.length) (hf : fnd l p a = ((i : Int), none)) (HG : Aside0 (¬ (G (l.getD i z34) ∧ addrP b))) :
    Calls Try.prog 62 #[.agg #[.slice A l.length c, .int .i64 p], .int .i64 a, .int .i64 b] w (SetR w [] 0 (some 1)) := by
  have hB := b1 (b1 (Below.refl w.heap.size w) (.cells #[.slice A l.length c, .int .i64 p] 70)) (.cells #[.slice none 0 0, .int .i64 0] 70)
  have h1 := blk_new (w.alloc (.cells #[.slice A l.length c, .int .i64 p] 70)) (.cells #[.slice none 0 0, .int .i64 0] 70)
  rw [sz1] at h1
  have hS := q3 (blk_new w (.cells #[.slice A l.length c, .int .i64 p] 70)) (.cells #[.slice none 0 0, .int .i64 0] 70)
  have HC := Aside0.mk (Kd.C_alloc (Kd.C_alloc hC (.cells #[.slice A l.length c, .int .i64 p] 70)) (.cells #[.slice none 0 0, .int .i64 0] 70))
  have HF := Aside0.mk (find_calls (c := c) HC.out p a)
  rw [hf] at HF
  have hz := ck2 hS
  have HB := Aside0.mk hB
  have H1 := Aside0.mk h1
  have HS := Aside0.mk hS
  clear hB h1 hS hC hf
  go_enter Try.func62, Try.ntmps62
  go_wp2_with fail
  refine HF.out.mono ?_
  rintro e w5 ⟨rfl, hb⟩
  have BR5 := Aside0.mk (blk_below H1.out hb)
  have BS5 := Aside0.mk (blk_below HS.out hb)
  have HB5 := Aside0.mk (below_step HB.out hb)
  have HC5 := Aside0.mk (Kd.C_below HC.out hb)
  obtain ⟨ad, rfl, h0, h1, h2, h3, h4, h5, h6, h7, h8, h9, h10⟩ := at_T34 HC5.out (i : Int) (by omega) (by omega)
  obtain ⟨y, hy⟩ : ∃ y, y = rd_T34 l (i : Int) := ⟨_, rfl⟩
  rw [← hy] at h0 h1 h2 h3 h4 h5 h6 h7 h8 h9 h10
  have hy2 : l.getD i z34 = y := by rw [hy]; unfold rd_T34; rw [Int.toNat_natCast]
  rw [hy2] at HG
  have HY := Aside0.mk hy2
  rw [Int.toNat_natCast] at h0 h1 h2 h3 h4 h5 h6 h7 h8 h9 h10
  have hji : (i : Int) < (l.length : Int) := by omega
  clear hb hz hy hy2
  have hz := ck2 BS5.out
  have he : errW none = Value.nilIface := rfl
  simp only [he]
  clear he
  go_wp2_with fail
  refine (to_bad y b HG.out _).mono ?_
  rintro e w6 ⟨rfl, hb⟩
  have BR6 := Aside0.mk (q3 (blk_below BR5.out hb) (.cells (cs34 z34).toArray 34))
  have HB6 := Aside0.mk (b1 (below_step HB5.out hb) (.cells (cs34 z34).toArray 34))
  clear hb hz h0 h1 h2 h3 h4 h5 h6 h7 h8 h9 h10
  have hz := cc2 BR6.out
  unfold cs34 z34 at hz
  unfold cs34 z34
  have he : errW (some 1) = Value.iface 42 (.int .i64 1) := rfl
  simp only [he]
  clear he
  go_wp2_with fail
  have hs : w.heap.size ≤ w.heap.size + 1 := by omega
  refine bodyPost_ret (results_ct rfl _ _ (w.heap.size + 1) 70 #[.slice none 0 0, .int .i64 0] (0, 0) _ rfl (put2 BR6.out) Try.underlying70 rfl (by kernel_rfl)) rfl ?_
  exact ⟨_, rfl, Kd.R_nil _ _ _ _ _, bel2 HB6.out hs⟩
set_option maxHeartbeats 2000000 in
set_option maxRecDepth 100000 in
theorem move_dup {w : World} {A : Option Addr} {c : Nat} {l : List S34} (hC : Kd.C k34 w A l.length l) (p a b : Int) (i : Nat) (hi : i < l.length) (hf : fnd l p a = ((i : Int), none)) (HG : Aside0 (G (l.getD i z34) ∧ addrP b)) (q : Int) (hk : plc l b = q) (hq : 0 ≤ q) (hn : q ≠ i) :
    Calls Try.prog 62 #[.agg #[.slice A l.length c, .int .i64 p], .int .i64 a, .int .i64 b] w (SetR w [] 0 (some 12)) := by
  have hB := b1 (b1 (Below.refl w.heap.size w) (.cells #[.slice A l.length c, .int .i64 p] 70)) (.cells #[.slice none 0 0, .int .i64 0] 70)
  have h1 := blk_new (w.alloc (.cells #[.slice A l.length c, .int .i64 p] 70)) (.cells #[.slice none 0 0, .int .i64 0] 70)
  rw [sz1] at h1
  have hS := q3 (blk_new w (.cells #[.slice A l.length c, .int .i64 p] 70)) (.cells #[.slice none 0 0, .int .i64 0] 70)
  have HC := Aside0.mk (Kd.C_alloc (Kd.C_alloc hC (.cells #[.slice A l.length c, .int .i64 p] 70)) (.cells #[.slice none 0 0, .int .i64 0] 70))
  have HF := Aside0.mk (find_calls (c := c) HC.out p a)
  rw [hf] at HF
  have hz := ck2 hS
  have HB := Aside0.mk hB
  have H1 := Aside0.mk h1
  have HS := Aside0.mk hS
  clear hB h1 hS hC hf
  go_enter Try.func62, Try.ntmps62
  go_wp2_with fail
  refine HF.out.mono ?_
  rintro e w5 ⟨rfl, hb⟩
  have BR5 := Aside0.mk (blk_below H1.out hb)
  have BS5 := Aside0.mk (blk_below HS.out hb)
  have HB5 := Aside0.mk (below_step HB.out hb)
  have HC5 := Aside0.mk (Kd.C_below HC.out hb)
  obtain ⟨ad, rfl, h0, h1, h2, h3, h4, h5, h6, h7, h8, h9, h10⟩ := at_T34 HC5.out (i : Int) (by omega) (by omega)
  obtain ⟨y, hy⟩ : ∃ y, y = rd_T34 l (i : Int) := ⟨_, rfl⟩
  rw [← hy] at h0 h1 h2 h3 h4 h5 h6 h7 h8 h9 h10
  have hy2 : l.getD i z34 = y := by rw [hy]; unfold rd_T34; rw [Int.toNat_natCast]
  rw [hy2] at HG
  have HY := Aside0.mk hy2
  rw [Int.toNat_natCast] at h0 h1 h2 h3 h4 h5 h6 h7 h8 h9 h10
  have hji : (i : Int) < (l.length : Int) := by omega
  clear hb hz hy hy2
  have hz := ck2 BS5.out
  have he : errW none = Value.nilIface := rfl
  simp only [he]
  clear he
  go_wp2_with fail
  refine (to_calls y b HG.out.1 HG.out.2 _).mono ?_
  rintro e w6 ⟨rfl, hb⟩
  have BR6 := Aside0.mk (q3 (blk_below BR5.out hb) (.cells (cs34 (toS y b)).toArray 34))
  have BS6 := Aside0.mk (q3 (blk_below BS5.out hb) (.cells (cs34 (toS y b)).toArray 34))
  have BP6 := Aside0.mk (blk_new w6 (.cells (cs34 (toS y b)).toArray 34))
  have HB6 := Aside0.mk (b1 (below_step HB5.out hb) (.cells (cs34 (toS y b)).toArray 34))
  have HC6 := Aside0.mk (Kd.C_alloc (Kd.C_below HC5.out hb) (.cells (cs34 (toS y b)).toArray 34))
  have HPl := Aside0.mk (place_calls (c := c) HC6.out p b)
  rw [hk] at HPl
  clear hb hz h0 h1 h2 h3 h4 h5 h6 h7 h8 h9 h10 hk
  have hz := ck2 BS6.out
  unfold cs34 toS at hz
  unfold cs34 toS
  have he : errW none = Value.nilIface := rfl
  simp only [he]
  clear he
  go_wp2_with fail
  refine HPl.out.mono ?_
  rintro e w7 ⟨rfl, hb⟩
  have BR7 := Aside0.mk (blk_below BR6.out hb)
  have BS7 := Aside0.mk (blk_below BS6.out hb)
  have BP7 := Aside0.mk (blk_below BP6.out hb)
  have HB7 := Aside0.mk (below_step HB6.out hb)
  have HC7 := Aside0.mk (Kd.C_below HC6.out hb)
  clear hb hz
  have hz := cc2 BR7.out
  go_wp2_with fail
  have hs : w.heap.size ≤ w.heap.size + 1 := by omega
  refine bodyPost_ret (results_ct rfl _ _ (w.heap.size + 1) 70 #[.slice none 0 0, .int .i64 0] (0, 0) _ rfl (put2 BR7.out) Try.underlying70 rfl (by kernel_rfl)) rfl ?_
  exact ⟨_, rfl, Kd.R_nil _ _ _ _ _, bel2 HB7.out hs⟩
set_option maxHeartbeats 2000000 in
set_option maxRecDepth 100000 in
theorem move_ok {w : World} {A : Option Addr} {c : Nat} {l : List S34} (hC : Kd.C k34 w A l.length l) (p a b : Int) (i : Nat) (hi : i < l.length) (hf : fnd l p a = ((i : Int), none)) (hcc : l.length ≤ c) (hl : l.length ≤ 1048576) (HG : Aside0 (G (l.getD i z34) ∧ addrP b)) (q : Int) (hk : plc l b = q) (hn : q < 0 ∨ q = i) :
    Calls Try.prog 62 #[.agg #[.slice A l.length c, .int .i64 p], .int .i64 a, .int .i64 b] w (SetR w (l.set i (toS (l.getD i z34) b)) p none) := by
  have hB := b1 (b1 (Below.refl w.heap.size w) (.cells #[.slice A l.length c, .int .i64 p] 70)) (.cells #[.slice none 0 0, .int .i64 0] 70)
  have h1 := blk_new (w.alloc (.cells #[.slice A l.length c, .int .i64 p] 70)) (.cells #[.slice none 0 0, .int .i64 0] 70)
  rw [sz1] at h1
  have hS := q3 (blk_new w (.cells #[.slice A l.length c, .int .i64 p] 70)) (.cells #[.slice none 0 0, .int .i64 0] 70)
  have HC := Aside0.mk (Kd.C_alloc (Kd.C_alloc hC (.cells #[.slice A l.length c, .int .i64 p] 70)) (.cells #[.slice none 0 0, .int .i64 0] 70))
  have HF := Aside0.mk (find_calls (c := c) HC.out p a)
  rw [hf] at HF
  have hz := ck2 hS
  have HB := Aside0.mk hB
  have H1 := Aside0.mk h1
  have HS := Aside0.mk hS
  clear hB h1 hS hC hf
  go_enter Try.func62, Try.ntmps62
  go_wp2_with fail
  refine HF.out.mono ?_
  rintro e w5 ⟨rfl, hb⟩
  have BR5 := Aside0.mk (blk_below H1.out hb)
  have BS5 := Aside0.mk (blk_below HS.out hb)
  have HB5 := Aside0.mk (below_step HB.out hb)
  have HC5 := Aside0.mk (Kd.C_below HC.out hb)
  obtain ⟨ad, rfl, h0, h1, h2, h3, h4, h5, h6, h7, h8, h9, h10⟩ := at_T34 HC5.out (i : Int) (by omega) (by omega)
  obtain ⟨y, hy⟩ : ∃ y, y = rd_T34 l (i : Int) := ⟨_, rfl⟩
  rw [← hy] at h0 h1 h2 h3 h4 h5 h6 h7 h8 h9 h10
  have hy2 : l.getD i z34 = y := by rw [hy]; unfold rd_T34; rw [Int.toNat_natCast]
  rw [hy2] at HG
  have HY := Aside0.mk hy2
  rw [Int.toNat_natCast] at h0 h1 h2 h3 h4 h5 h6 h7 h8 h9 h10
  have hji : (i : Int) < (l.length : Int) := by omega
  clear hb hz hy hy2
  have hz := ck2 BS5.out
  have he : errW none = Value.nilIface := rfl
  simp only [he]
  clear he
  go_wp2_with fail
  refine (to_calls y b HG.out.1 HG.out.2 _).mono ?_
  rintro e w6 ⟨rfl, hb⟩
  have BR6 := Aside0.mk (q3 (blk_below BR5.out hb) (.cells (cs34 (toS y b)).toArray 34))
  have BS6 := Aside0.mk (q3 (blk_below BS5.out hb) (.cells (cs34 (toS y b)).toArray 34))
  have BP6 := Aside0.mk (blk_new w6 (.cells (cs34 (toS y b)).toArray 34))
  have HB6 := Aside0.mk (b1 (below_step HB5.out hb) (.cells (cs34 (toS y b)).toArray 34))
  have HC6 := Aside0.mk (Kd.C_alloc (Kd.C_below HC5.out hb) (.cells (cs34 (toS y b)).toArray 34))
  have HPl := Aside0.mk (place_calls (c := c) HC6.out p b)
  rw [hk] at HPl
  clear hb hz h0 h1 h2 h3 h4 h5 h6 h7 h8 h9 h10 hk
  have hz := ck2 BS6.out
  unfold cs34 toS at hz
  unfold cs34 toS
  have he : errW none = Value.nilIface := rfl
  simp only [he]
  clear he
  go_wp2_with fail
  refine HPl.out.mono ?_
  rintro e w7 ⟨rfl, hb⟩
  have BR7 := Aside0.mk (blk_below BR6.out hb)
  have BS7 := Aside0.mk (blk_below BS6.out hb)
  have BP7 := Aside0.mk (blk_below BP6.out hb)
  have HB7 := Aside0.mk (below_step HB6.out hb)
  have HC7 := Aside0.mk (Kd.C_below HC6.out hb)
  clear hb hz
  have HW := Aside0.mk (with_calls HC7.out hcc hl p i hi (toS y b))
  have hz := ck2 BS7.out
  have hy := ck11 BP7.out
  rcases hn with hn | rfl
  · go_wp2_with fail
    refine HW.out.mono ?_
    rintro e w8 ⟨v, rfl, hR, hb⟩
    obtain ⟨A2, c2, rfl⟩ := Kd.R_slice hR
    rw [List.length_set] at hR
    have BR8 := Aside0.mk (blk_below BR7.out hb)
    have HB8 := Aside0.mk (below_step HB7.out hb)
    have HR := Aside0.mk (Kd.R_lower hR (below_size HB7.out))
    clear hb hz hy hR
    have hz := cc2 BR8.out
    go_wp2_with fail
    have hs : w.heap.size ≤ w.heap.size + 1 := by omega
    refine bodyPost_ret (results_ct rfl _ _ (w.heap.size + 1) 70 #[.slice A2 l.length c2, .int .i64 p] (0, 0) _ rfl (put2 BR8.out) Try.underlying70 rfl (by kernel_rfl)) rfl ?_
    rw [HY.out]
    exact ⟨_, rfl, rr2 HR.out BR8.out, bel2 HB8.out hs⟩
  · have hi0 : (0 : Int) ≤ (i : Int) := by omega
    go_wp2_with fail
    refine HW.out.mono ?_
    rintro e w8 ⟨v, rfl, hR, hb⟩
    obtain ⟨A2, c2, rfl⟩ := Kd.R_slice hR
    rw [List.length_set] at hR
    have BR8 := Aside0.mk (blk_below BR7.out hb)
    have HB8 := Aside0.mk (below_step HB7.out hb)
    have HR := Aside0.mk (Kd.R_lower hR (below_size HB7.out))
    clear hb hz hy hR
    have hz := cc2 BR8.out
    go_wp2_with fail
    have hs : w.heap.size ≤ w.heap.size + 1 := by omega
    refine bodyPost_ret (results_ct rfl _ _ (w.heap.size + 1) 70 #[.slice A2 l.length c2, .int .i64 p] (0, 0) _ rfl (put2 BR8.out) Try.underlying70 rfl (by kernel_rfl)) rfl ?_
    rw [HY.out]
    exact ⟨_, rfl, rr2 HR.out BR8.out, bel2 HB8.out hs⟩
def moveL (l : List S34) (p a b : Int) : List S34 × Int × Option Int :=
  match fnd l p a with
  | (_, some e) => ([], 0, some e)
  | (q, none) => if G (l.getD q.toNat z34) ∧ addrP b then (if 0 ≤ plc l b ∧ plc l b ≠ q then ([], 0, some 12) else (l.set q.toNat (toS (l.getD q.toNat z34) b), p, none)) else ([], 0, some 1)
theorem move_calls {w : World} {A : Option Addr} {c : Nat} {l : List S34} (hC : Kd.C k34 w A l.length l) (hcc : l.length ≤ c) (hl : l.length ≤ 1048576) (p a b : Int) :
    Calls Try.prog 62 #[.agg #[.slice A l.length c, .int .i64 p], .int .i64 a, .int .i64 b] w (SetR w (moveL l p a b).1 (moveL l p a b).2.1 (moveL l p a b).2.2) := by
  unfold moveL
  rcases fnd_at l p a with ⟨e, he⟩ | ⟨i, hi, he, _⟩
  · rw [he]; exact move_err hC p a b e he
  · rw [he]
    dsimp only
    rw [Int.toNat_natCast]
    by_cases hg : G (l.getD i z34) ∧ addrP b
    · rw [if_pos hg]
      by_cases hd : 0 ≤ plc l b ∧ plc l b ≠ i
      · rw [if_pos hd]; exact move_dup hC p a b i hi he ⟨hg⟩ _ rfl hd.1 hd.2
      · rw [if_neg hd]; exact move_ok hC p a b i hi he hcc hl ⟨hg⟩ _ rfl (by omega)
    · rw [if_neg hg]; exact move_bad hC p a b i hi he ⟨hg⟩
end Go.Proofs.Ytblooffiggciiaa.Ps
/- PPsx71 -/
namespace Go.Proofs.Ytblooffiggciiaa.PPs
open Go.RowKit Go.Proofs.YtblooffiggciiaaW.PrintWords Go.Proofs.YtblooffiggciiaaW.PrintLast Go.Proofs.YtblooffiggciiaaW.PrintMore
attribute [local go_sem] max2_int min2_int max_two min_two max_three min_three max_four min_four   -- for this text's walks alone
attribute [local go_sem] Go.Proofs.Ytblooffiggciiaa.Aid.isSome_setCell
def weftlineref14_Add.j0 : Nat → Int → Bool → List (S29) → Int → Option ((List (S29)) × Int × Int)
  | 0, _, _, _, _ => none
  | k + 1, x1, x13, x431000, x431001 => if x13 = true then (some (([] : List (S29)), 0, 1)) else ((weftlineref14_find.f k x431000 x431001 x1).bind fun t434 => (if t434 ≥ 0 then (some (([] : List (S29)), 0, 12)) else (if (x431000.length : Int) = 4 then (some (([] : List (S29)), 0, 3)) else ((some (([] : List (S29)) : List (S29))).bind fun y435 => (if y435.length + x431000.length < 1599289640401 then ((some (y435 ++ x431000 : List (S29))).bind fun y438 => ((weftlineref13_New.f x1).bind fun bt441 => (if y438.length < 1599289640401 then (some ((y438 ++ [(⟨(⟨bt441.1, bt441.2.1, bt441.2.2.1, bt441.2.2.2.1⟩ : S23), (⟨bt441.2.2.2.2.1, bt441.2.2.2.2.2.1, bt441.2.2.2.2.2.2.1⟩ : S25), bt441.2.2.2.2.2.2.2.1, bt441.2.2.2.2.2.2.2.2.1, bt441.2.2.2.2.2.2.2.2.2.1, bt441.2.2.2.2.2.2.2.2.2.2⟩ : S29)]), x431001, 0)) else (none)))) else (none))))))
end Go.Proofs.Ytblooffiggciiaa.PPs
/- PsAo -/
namespace Go.Proofs.Ytblooffiggciiaa.Ps
open Go.RowKit Go.Proofs.Ytblooffiggciiaa.PPs Go.Proofs.YtblooffiggciiaaW.PrintWords Go.Proofs.YtblooffiggciiaaW.PrintLast Go.Proofs.YtblooffiggciiaaW.PrintMore Go.Proofs.Ytblooffiggciiaa.Sh
theorem gdb_len {l : List S34} {p : Int} (h : gdb l p = true) : l.length ≤ 4 := by
  unfold gdb at h
  simp only [Bool.and_eq_true, decide_eq_true_eq] at h
  exact h.1.1.1
section
variable {w : World} {A : Option Addr} {c : Nat}
end
end Go.Proofs.Ytblooffiggciiaa.Ps
/- PsAq -/
namespace Go.Proofs.Ytblooffiggciiaa.Ps
open Go.RowKit Go.Proofs.Ytblooffiggciiaa.PPs Go.Proofs.YtblooffiggciiaaW.PrintWords Go.Proofs.YtblooffiggciiaaW.PrintLast Go.Proofs.YtblooffiggciiaaW.PrintMore Go.Proofs.Ytblooffiggciiaa.Sh
attribute [local go_sem] Go.Proofs.Ytblooffiggciiaa.Aid.isSome_setCell
def Row29 (w0 W : World) (A : Option Addr) (n c : Nat) (m : List S29) : Prop := (n = m.length ∧ n ≤ c) ∧ (Kd.R k29 29 W 0 (fun _ => True) (.slice A n c) m ∨ Kd.C k29 w0 A n m)
theorem Row29.below {w0 W W' : World} {A : Option Addr} {n c : Nat} {m : List S29} (h : Row29 w0 W A n c m) (hb : Below W.heap.size W W') : Row29 w0 W' A n c m :=
  ⟨h.1, h.2.imp (fun h => Kd.R_below h hb) (fun h => h)⟩
theorem Row29.reads {w0 W : World} {A : Option Addr} {n c : Nat} {m : List S29} (h : Row29 w0 W A n c m) (hb : Below w0.heap.size w0 W) : Kd.C k29 W A n m := by
  rcases h.2 with h2 | h2
  · have := (Kd.R_reads' h2).2.2
    rw [← h.1.1] at this
    exact this
  · exact Kd.C_below h2 hb
theorem bel2b {w W : World} {B g : Nat} {v q : Value} (h : Below B w W) (hg : B ≤ g) : Below B w ((W.setCell ⟨g, 0, none⟩ v).setCell ⟨g, 1, none⟩ q) := (h.setCell hg v).setCell hg q
end Go.Proofs.Ytblooffiggciiaa.Ps
/- PsAt -/
namespace Go.Proofs.Ytblooffiggciiaa.Ps
open Go.RowKit Go.Proofs.Ytblooffiggciiaa.PPs Go.Proofs.YtblooffiggciiaaW.PrintWords Go.Proofs.YtblooffiggciiaaW.PrintLast Go.Proofs.YtblooffiggciiaaW.PrintMore Go.Proofs.Ytblooffiggciiaa.Sh
def adr (l : List S34) : List Int := l.map fun x => x.f2
theorem plc_some {l : List S34} {a : Int} (h : a ∈ adr l) : ∃ i : Nat, i < l.length ∧ plc l a = i ∧ (l.getD i z34).f2 = a := by
  rcases plc_at l a with e | h2
  · exfalso
    obtain ⟨x, hx, hxa⟩ := List.mem_map.1 h
    have hn : ¬ (0 ≤ plc l a) := by omega
    unfold plc at hn
    rw [ixF_nn _ l 0 (Int.le_refl 0)] at hn
    exact hn (List.any_eq_true.2 ⟨x, hx, by simpa using hxa⟩)
  · exact h2
theorem tw_iff (l : List S34) : tw l = false ↔ (adr l).Nodup := by
  constructor
  · intro h
    have hj : ∀ j, j < l.length → plc l (l.getD j z34).f2 = j := fun j hj => by
      by_cases e : plc l (l.getD j z34).f2 = j
      · exact e
      · rw [tw_yes hj e] at h; exact Bool.noConfusion h
    refine List.pairwise_iff_getElem.2 fun i j hi hjl hij => ?_
    unfold adr at hi hjl ⊢
    rw [List.length_map] at hi hjl
    rw [List.getElem_map, List.getElem_map]
    intro e2
    have h1 := hj i hi
    have h2 := hj j hjl
    rw [List.getD_eq_getElem?_getD, List.getElem?_eq_getElem hi] at h1
    rw [List.getD_eq_getElem?_getD, List.getElem?_eq_getElem hjl] at h2
    simp only [Option.getD_some] at h1 h2
    rw [e2] at h1
    omega
  · intro h
    refine tw_no fun j hj => ?_
    have hm : (l.getD j z34).f2 ∈ adr l := by
      rw [List.getD_eq_getElem?_getD, List.getElem?_eq_getElem hj]
      exact List.mem_map.2 ⟨l[j], List.getElem_mem hj, rfl⟩
    obtain ⟨i, hi, e, ha⟩ := plc_some hm
    rw [e]
    by_cases hij : i = j
    · rw [hij]
    · exfalso
      have h' := List.pairwise_iff_getElem.1 h
      have hl : (adr l).length = l.length := List.length_map ..
      have hg : (adr l)[i]'(by omega) = (adr l)[j]'(by omega) := by
        unfold adr
        rw [List.getElem_map, List.getElem_map]
        rw [List.getD_eq_getElem?_getD, List.getElem?_eq_getElem hi, List.getD_eq_getElem?_getD, List.getElem?_eq_getElem hj] at ha
        exact ha
      rcases Nat.lt_or_gt_of_ne hij with h1 | h1
      · exact h' i j (by omega) (by omega) h1 hg
      · exact h' j i (by omega) (by omega) h1 hg.symm
theorem gdb_iff (l : List S34) (p : Int) : gdb l p = true ↔ (l.length ≤ 4 ∧ 0 ≤ p ∧ p < l.length) ∧ (adr l).Nodup ∧ ∀ x ∈ l, G x := by
  unfold gdb
  rw [Bool.and_eq_true, Bool.and_eq_true, decide_eq_true_eq, Bool.not_eq_true', Bool.not_eq_true', tw_iff, List.any_eq_false]
  constructor
  · rintro ⟨⟨h1, h2⟩, h3⟩
    exact ⟨h1, h2, fun x hx => by simpa using h3 x hx⟩
  · rintro ⟨h1, h2, h3⟩
    exact ⟨⟨h1, h2⟩, fun x hx => by simpa using h3 x hx⟩
theorem gdb_new {l : List Int} (h : (newL l).2.2 = none) : gdb (newL l).1 (newL l).2.1 = true := by
  unfold newL at h ⊢
  by_cases h1 : l.length < 1 ∨ 4 < l.length
  · rw [if_pos h1] at h; simp at h
  · rw [if_neg h1] at h ⊢
    by_cases h2 : ∀ a ∈ l, addrP a
    · rw [if_pos h2] at h ⊢
      cases ht : tw (l.map newS) with
      | true => rw [ht, if_pos rfl] at h; simp at h
      | false =>
        rw [if_neg (by simp)]
        refine (gdb_iff _ _).2 ⟨⟨by rw [List.length_map]; omega, by show (0 : Int) ≤ 0; omega, by rw [List.length_map]; show (0 : Int) < _; omega⟩, (tw_iff _).1 ht, fun x hx => ?_⟩
        obtain ⟨a, ha, rfl⟩ := List.mem_map.1 hx
        exact newS_good (h2 a ha)
    · rw [if_neg h2] at h; simp at h
theorem gdb_add {l : List S34} {p a : Int} (hg : gdb l p = true) (h : (addL l p a).2.2 = none) : gdb (addL l p a).1 (addL l p a).2.1 = true := by
  unfold addL at h ⊢
  by_cases h1 : addrP a ∧ gdb l p = true
  · rw [if_pos h1] at h ⊢
    by_cases h2 : 0 ≤ plc l a
    · rw [if_pos h2] at h; simp at h
    · rw [if_neg h2] at h ⊢
      by_cases h3 : 4 ≤ l.length
      · rw [if_pos h3] at h; simp at h
      · rw [if_neg h3]
        obtain ⟨⟨g1, g2, g3⟩, g4, g5⟩ := (gdb_iff l p).1 hg
        refine (gdb_iff _ _).2 ⟨⟨by simp; omega, g2, by simp; omega⟩, ?_, fun x hx => ?_⟩
        · unfold adr
          rw [List.map_append]
          refine List.nodup_append.2 ⟨g4, by simp, fun x hx y hy => ?_⟩
          rw [List.map_singleton, List.mem_singleton] at hy
          rw [hy]
          intro e2
          rw [e2] at hx
          obtain ⟨i, hi, e, _⟩ := plc_some hx
          have e' : plc l a = (i : Int) := e
          omega
        · rcases List.mem_append.1 hx with hx | hx
          · exact g5 x hx
          · rw [List.mem_singleton] at hx; rw [hx]; exact newS_good h1.1
  · rw [if_neg h1] at h; simp at h
theorem gdb_del {l : List S34} {p a : Int} (hg : gdb l p = true) (h : (delL l p a).2.2 = none) : gdb (delL l p a).1 (delL l p a).2.1 = true := by
  obtain ⟨⟨g1, g2, g3⟩, g4, g5⟩ := (gdb_iff l p).1 hg
  unfold delL at h ⊢
  rcases fnd_at l p a with ⟨e, he⟩ | ⟨i, hi, he, _⟩
  · rw [he] at h; simp at h
  · rw [he] at h ⊢
    by_cases h1 : l.length = 1
    · simp only [h1, ↓reduceIte] at h; simp at h
    · simp only [h1, ↓reduceIte, Int.toNat_natCast]
      have hle : (l.eraseIdx i).length = l.length - 1 := List.length_eraseIdx_of_lt hi
      refine (gdb_iff _ _).2 ⟨⟨by omega, ?_, ?_⟩, ?_, fun x hx => g5 x (List.mem_of_mem_eraseIdx hx)⟩
      · split
        · omega
        · split <;> omega
      · rw [hle]
        split
        · omega
        · split <;> omega
      · exact g4.sublist ((List.eraseIdx_sublist l i).map _)
theorem gdb_prime {l : List S34} {p a : Int} (hg : gdb l p = true) (h : (primeL l p a).2.2 = none) : gdb (primeL l p a).1 (primeL l p a).2.1 = true := by
  obtain ⟨⟨g1, g2, g3⟩, g4, g5⟩ := (gdb_iff l p).1 hg
  unfold primeL at h ⊢
  rcases fnd_at l p a with ⟨e, he⟩ | ⟨i, hi, he, _⟩
  · rw [he] at h; simp at h
  · rw [he]
    exact (gdb_iff _ _).2 ⟨⟨g1, by show (0 : Int) ≤ (i : Int); omega, by show (i : Int) < (l.length : Int); omega⟩, g4, g5⟩
theorem adr_set (l : List S34) (i : Nat) (x : S34) : adr (l.set i x) = (adr l).set i x.f2 := by unfold adr; rw [List.map_set]
theorem nodup_set {l : List Int} {i : Nat} {b : Int} (h : l.Nodup) (hb : ∀ j (hj : j < l.length), l[j] = b → j = i) : (l.set i b).Nodup := by
  refine List.pairwise_iff_getElem.2 fun j k hj hk hjk => ?_
  have h' := List.pairwise_iff_getElem.1 h
  rw [List.length_set] at hj hk
  rw [List.getElem_set, List.getElem_set]
  by_cases e1 : i = j
  · rw [if_pos e1, if_neg (by omega)]
    intro e
    have := hb k hk e.symm
    omega
  · rw [if_neg e1]
    by_cases e2 : i = k
    · rw [if_pos e2]
      intro e
      have := hb j hj e
      omega
    · rw [if_neg e2]; exact h' j k hj hk hjk
theorem adr_uniq {l : List S34} (h : (adr l).Nodup) {j i : Nat} (hj : j < l.length) (hi : i < l.length) (e : (l.getD j z34).f2 = (l.getD i z34).f2) : j = i := by
  have h' := List.pairwise_iff_getElem.1 h
  have hl : (adr l).length = l.length := List.length_map ..
  have key : ∀ (k : Nat) (hk : k < l.length), (adr l)[k]'(by omega) = (l.getD k z34).f2 := fun k hk => by
    unfold adr
    rw [List.getElem_map, List.getD_eq_getElem?_getD, List.getElem?_eq_getElem hk]
    rfl
  rcases Nat.lt_trichotomy j i with h1 | h1 | h1
  · exact absurd ((key j hj).trans (e.trans (key i hi).symm)) (h' j i (by omega) (by omega) h1)
  · exact h1
  · exact absurd ((key i hi).trans (e.symm.trans (key j hj).symm)) (h' i j (by omega) (by omega) h1)
theorem adr_at {l : List S34} {j : Nat} (hj : j < (adr l).length) : (adr l)[j] = (l.getD j z34).f2 := by
  have hl : (adr l).length = l.length := List.length_map ..
  simp only [adr, List.getElem_map, List.getD_eq_getElem?_getD]
  rw [List.getElem?_eq_getElem (by omega)]
  rfl
theorem gdb_put {l : List S34} {p : Int} {x : S34} (hg : gdb l p = true) (h : (putL l p x).2.2 = none) : gdb (putL l p x).1 (putL l p x).2.1 = true := by
  obtain ⟨⟨g1, g2, g3⟩, g4, g5⟩ := (gdb_iff l p).1 hg
  have hl : (adr l).length = l.length := List.length_map ..
  unfold putL at h ⊢
  by_cases hx : G x
  · rw [if_pos hx] at h ⊢
    rcases fnd_at l p x.f2 with ⟨e, he⟩ | ⟨i, hi, he, _, _, ha⟩
    · rw [he] at h; simp at h
    · rw [he]
      simp only [Int.toNat_natCast]
      refine (gdb_iff _ _).2 ⟨⟨by rw [List.length_set]; exact g1, g2, by rw [List.length_set]; exact g3⟩, ?_, fun y hy => ?_⟩
      · rw [adr_set]
        refine nodup_set g4 fun j hj e => ?_
        rw [adr_at hj] at e
        exact adr_uniq g4 (by omega) hi (e.trans ha.symm)
      · rcases List.mem_or_eq_of_mem_set hy with hy | hy
        · exact g5 y hy
        · rw [hy]; exact hx
  · rw [if_neg hx] at h; simp at h
theorem toS_good {x : S34} {b : Int} (h : G x) (hb : addrP b) : G (toS x b) := ⟨h.1, h.2.1, hb, h.2.2.2⟩
theorem gdb_move {l : List S34} {p a b : Int} (hg : gdb l p = true) (h : (moveL l p a b).2.2 = none) : gdb (moveL l p a b).1 (moveL l p a b).2.1 = true := by
  obtain ⟨⟨g1, g2, g3⟩, g4, g5⟩ := (gdb_iff l p).1 hg
  have hl : (adr l).length = l.length := List.length_map ..
  unfold moveL at h ⊢
  rcases fnd_at l p a with ⟨e, he⟩ | ⟨i, hi, he, _, _, ha⟩
  · rw [he] at h; simp at h
  · rw [he] at h ⊢
    simp only [Int.toNat_natCast] at h ⊢
    by_cases h1 : G (l.getD i z34) ∧ addrP b
    · rw [if_pos h1] at h ⊢
      by_cases h2 : 0 ≤ plc l b ∧ plc l b ≠ (i : Int)
      · rw [if_pos h2] at h; simp at h
      · rw [if_neg h2]
        refine (gdb_iff _ _).2 ⟨⟨by rw [List.length_set]; exact g1, g2, by rw [List.length_set]; exact g3⟩, ?_, fun y hy => ?_⟩
        · rw [adr_set]
          refine nodup_set g4 fun j hj e => ?_
          have e' : (adr l)[j] = b := e
          have hm : b ∈ adr l := by rw [← e']; exact List.getElem_mem hj
          obtain ⟨k, hk, ek, eb⟩ := plc_some hm
          rw [adr_at hj] at e'
          have hjk := adr_uniq g4 (by omega) hk (e'.trans eb.symm)
          have : plc l b = (i : Int) := by
            by_cases e3 : plc l b = (i : Int)
            · exact e3
            · exact absurd ⟨by omega, e3⟩ h2
          omega
        · rcases List.mem_or_eq_of_mem_set hy with hy | hy
          · exact g5 y hy
          · rw [hy]; exact toS_good h1.1 h1.2
    · rw [if_neg h1] at h; simp at h
theorem cnt_pos (l : List S34) : 0 < cnt l ↔ ∃ x ∈ l, Ac x := by
  unfold cnt
  rw [List.length_pos_iff_exists_mem]
  constructor
  · rintro ⟨x, hx⟩
    have := List.mem_filter.1 hx
    exact ⟨x, this.1, by simpa using this.2⟩
  · rintro ⟨x, hx, ha⟩
    exact ⟨x, List.mem_filter.2 ⟨hx, by simpa using ha⟩⟩
theorem cnt_app2 (l m : List S34) : cnt (l ++ m) = cnt l + cnt m := by unfold cnt; rw [List.filter_append, List.length_append]
theorem cnt_seq {l : List S34} {i : Nat} (hi : i < l.length) : cnt l = cnt (seqF l i) + (if Ac (l.getD i z34) then 1 else 0) := by
  have e : l = l.take i ++ [l.getD i z34] ++ l.drop (i + 1) := by
    rw [List.getD_eq_getElem?_getD, List.getElem?_eq_getElem hi]
    conv => lhs; rw [← List.take_append_drop i l, List.drop_eq_getElem_cons hi]
    simp
  rw [seqF_eq l i hi]
  conv => lhs; rw [e]
  rw [cnt_app2, cnt_app2, cnt_app2]
  have e1 : ∀ z : S34, cnt [z] = if Ac z then 1 else 0 := fun z => by
    unfold cnt
    by_cases h : Ac z <;> simp [h]
  rw [e1]
  omega
theorem other_cases {l : List S34} {i : Nat} : (0 < cnt (seqF l i) ∧ Ac (otherL l i) ∧ otherL l i ∈ seqF l i) ∨ (cnt (seqF l i) = 0 ∧ otherL l i = l.getD i z34) := by
  unfold otherL
  cases h : (seqF l i).find? fun x => decide (Ac x) with
  | some x =>
    left
    have h1 := List.find?_some h
    have h2 := List.mem_of_find?_eq_some h
    have h3 : Ac x := by simpa using h1
    exact ⟨(cnt_pos _).2 ⟨x, h2, h3⟩, h3, h2⟩
  | none =>
    right
    refine ⟨?_, rfl⟩
    by_cases h0 : 0 < cnt (seqF l i)
    · obtain ⟨x, hx, ha⟩ := (cnt_pos _).1 h0
      have := List.find?_eq_none.1 h x hx
      exact absurd ha (by simpa using this)
    · omega
theorem seq_at {l : List S34} {i : Nat} (hi : i < l.length) {x : S34} (hx : x ∈ seqF l i) : ∃ j, j < l.length ∧ j ≠ i ∧ x = l.getD j z34 := by
  rw [seqF_eq l i hi] at hx
  rcases List.mem_append.1 hx with hx | hx
  · obtain ⟨k, hk, e⟩ := List.getElem_of_mem hx
    rw [List.length_drop] at hk
    refine ⟨i + 1 + k, by omega, by omega, ?_⟩
    rw [List.getElem_drop] at e
    rw [← e, List.getD_eq_getElem?_getD, List.getElem?_eq_getElem (by omega)]
    rfl
  · obtain ⟨k, hk, e⟩ := List.getElem_of_mem hx
    rw [List.length_take] at hk
    refine ⟨k, by omega, by omega, ?_⟩
    rw [List.getElem_take] at e
    rw [← e, List.getD_eq_getElem?_getD, List.getElem?_eq_getElem (by omega)]
    rfl
theorem use_law {l : List S34} {p : Int} (hg : gdb l p = true) : Ac (useL l p).1 ↔ 0 < cnt l := by
  obtain ⟨h0, h1⟩ := gdb_in hg
  obtain ⟨i, rfl⟩ : ∃ i : Nat, p = i := ⟨p.toNat, by omega⟩
  have hi : i < l.length := by omega
  have hc := cnt_seq hi
  unfold useL
  rw [if_pos hg, Int.toNat_natCast]
  by_cases ha : Ac (l.getD i z34)
  · rw [if_pos ha]
    rw [if_pos ha] at hc
    exact ⟨fun _ => by omega, fun _ => ha⟩
  · rw [if_neg ha]
    rw [if_neg ha] at hc
    rcases other_cases (l := l) (i := i) with ⟨h2, h3, _⟩ | ⟨h2, h3⟩
    · exact ⟨fun _ => by omega, fun _ => h3⟩
    · exact ⟨fun h => by have h' : Ac (otherL l i) := h; rw [h3] at h'; exact absurd h' ha, fun h => by omega⟩
theorem again_law {l : List S34} {p a : Int} {i : Nat} (hg : gdb l p = true) (hi : i < l.length) (hf : fnd l p a = ((i : Int), none)) (ha : (l.getD i z34).f2 = a) :
    ((againL l p a).1.f2 ≠ a ↔ 0 < (cnt l : Int) - (if Ac (l.getD i z34) then 1 else 0)) ∧ ((againL l p a).1.f2 ≠ a → Ac (againL l p a).1) := by
  obtain ⟨_, g4, _⟩ := (gdb_iff l p).1 hg
  have hc := cnt_seq hi
  have e : (againL l p a).1 = otherL l i := by unfold againL; rw [hf]; simp only [Int.toNat_natCast]
  rw [e]
  have hc2 : (cnt l : Int) - (if Ac (l.getD i z34) then 1 else 0) = (cnt (seqF l i) : Int) := by
    rw [hc]; split <;> simp
  rw [hc2]
  rcases other_cases (l := l) (i := i) with ⟨h2, h3, h4⟩ | ⟨h2, h3⟩
  · obtain ⟨j, hj, hji, ej⟩ := seq_at hi h4
    have hne : (otherL l i).f2 ≠ a := by
      rw [ej, ← ha]
      intro h
      exact hji (adr_uniq g4 hj hi h)
    exact ⟨⟨fun _ => by omega, fun _ => hne⟩, fun _ => h3⟩
  · have heq : (otherL l i).f2 = a := by rw [h3]; exact ha
    exact ⟨⟨fun h => absurd heq h, fun h => by omega⟩, fun h => absurd heq h⟩
end Go.Proofs.Ytblooffiggciiaa.Ps
/- PsAu -/
namespace Go.Proofs.Ytblooffiggciiaa.Ps
open Go.RowKit Go.Sort Go.Proofs.Ytblooffiggciiaa.PPs Go.Proofs.YtblooffiggciiaaW.PrintWords Go.Proofs.YtblooffiggciiaaW.PrintLast Go.Proofs.YtblooffiggciiaaW.PrintMore Go.Proofs.Ytblooffiggciiaa.Sh
attribute [local go_sem] Go.Proofs.Ytblooffiggciiaa.Aid.isSome_setCell
abbrev AK : Kd (List Int) := Kd.arr 2 (Kd.int .i64) (by decide)
theorem k_arr {W : World} {A : Option Addr} {n : Nat} {l : List (List Int)} (h : Kd.C AK W A n l) (k : Nat) (hk : k < n) :
    ∃ ad x0 x1, A = some ad ∧ W.cell? (ad.add (k * 2)) = some (.int .i64 x0) ∧ W.cell? { block := (ad.add (k * 2)).block, off := (ad.add (k * 2)).off + 1 } = some (.int .i64 x1) := by
  obtain ⟨ad, cs, hA, hl, hK, hc⟩ := Kd.C_get h [] k (by omega) (by omega)
  obtain ⟨h2, rfl⟩ := Kd.arr_cells hK
  rw [Int.toNat_natCast] at h2 hc
  obtain ⟨x0, x1, hx⟩ : ∃ x0 x1, l.getD k [] = [x0, x1] := by
    match hh : l.getD k [], h2 with
    | [x0, x1], _ => exact ⟨x0, x1, rfl⟩
  rw [hx] at hc
  refine ⟨ad, x0, x1, hA, hc 0 _ rfl, ?_⟩
  have hx1 : W.cell? (ad.add (k * 2 + 1)) = some (.int .i64 x1) := hc 1 _ rfl
  rw [← hx1]
  by_cases hk0 : k = 0
  · subst hk0; rfl
  · have e1 : k * 2 ≠ 0 := by omega
    simp [Addr.add, e1, Nat.add_assoc]
theorem rem6 (x : Int) : wrap64 ((IntKind.u64.wrap x).tmod 6) = 0 ∨ wrap64 ((IntKind.u64.wrap x).tmod 6) = 1 ∨ wrap64 ((IntKind.u64.wrap x).tmod 6) = 2 ∨ wrap64 ((IntKind.u64.wrap x).tmod 6) = 3 ∨ wrap64 ((IntKind.u64.wrap x).tmod 6) = 4 ∨ wrap64 ((IntKind.u64.wrap x).tmod 6) = 5 := by
  have h : IntKind.u64.wrap x = x % 18446744073709551616 := by rfl
  rw [h, Int.tmod_eq_emod_of_nonneg (by omega), w64 (by omega) (by omega)]
  omega
set_option maxHeartbeats 8000000 in
set_option maxRecDepth 100000 in
theorem keep_in {w : World} {A B : Option Addr} {c d : Nat} {l0 : List Int} {l1 : List (List Int)} (hC : Kd.C (Kd.int .i64) w A l0.length l0) (hD : Kd.C AK w B l1.length l1) (hn : (newL l0).2.2 = none) (hl : l1.length ≤ 60) :
    Calls Try.prog 10 #[.slice A l0.length c, .slice B l1.length d] w fun e w' => e = .returned (.bool true) ∧ Below w.heap.size w w' := by
  have HC := Aside0.mk hC
  have HD := Aside0.mk hD
  have HGN := Aside0.mk (gdb_new hn)
  have hl2 : (l1.length : Int) ≤ 60 := by omega
  have HA := Aside0.mk (alive_calls w)
  obtain ⟨r0, hr0⟩ : ∃ r, r = newL l0 := ⟨_, rfl⟩
  have HN := Aside0.mk (fun (W : World) (hb : Below w.heap.size w W) => (by
    have h := setnew_calls (w := W) (c := c) (Kd.C_below hC hb)
    rw [← hr0] at h
    exact h : Calls Try.prog 39 #[.slice A l0.length c] W (SetR W r0.1 r0.2.1 r0.2.2)))
  rw [← hr0] at HGN hn
  have HE := Aside0.mk hn
  clear hC hD hr0 hn
  go_enter Try.func10, Try.ntmps10
  go_wp2_with fail
  refine HA.out.mono ?_
  rintro e w1 ⟨rfl, hb⟩
  have HB1 := Aside0.mk hb
  clear hb HA
  go_wp2_with fail
  refine (HN.out _ HB1.out).mono ?_
  rintro e w2 ⟨v, rfl, hR, hb⟩
  obtain ⟨A2, c2, rfl⟩ := Kd.R_slice hR
  have he : errW r0.2.2 = Value.nilIface := by rw [HE.out]; rfl
  simp only [he]
  clear he
  have HB2 := Aside0.mk (b1 (below_step HB1.out hb) (.cells #[.slice A2 r0.1.length c2, .int .i64 r0.2.1] 70))
  have SB := Aside0.mk (blk_new w2 (.cells #[.slice A2 r0.1.length c2, .int .i64 r0.2.1] 70))
  have SR := Aside0.mk (Kd.R_lower (Kd.R_below hR (b1 (Below.refl w2.heap.size w2) (.cells #[.slice A2 r0.1.length c2, .int .i64 r0.2.1] 70))) (Nat.zero_le _))
  have HZ := Aside0.mk (below_size (below_step HB1.out hb))
  clear hb hR HN HE
  go_wp2_with fail
  obtain ⟨g, hg⟩ : ∃ g, g = w2.heap.size := ⟨_, rfl⟩
  rw [← hg] at SB HZ ⊢
  clear hg
  go_loopw [38] (fun i wr => ∃ (j : Nat) (l : List S34) (p : Int) (A3 : Option Addr) (c3 : Nat), j ≤ l1.length ∧ i = .int .i64 (j : Nat) ∧ Aside0 (gdb l p = true) ∧ Aside0 (Below w.heap.size w wr) ∧ Aside0 (wr.heap[g]? = some (.cells #[.slice A3 l.length c3, .int .i64 p] 70 (0, 0))) ∧ Aside0 (Kd.R k34 34 wr 0 (fun _ => True) (.slice A3 l.length c3) l)) (fun i _ => l1.length - (intOf i).toNat)
  case atStart => exact ⟨0, _, _, _, _, Nat.zero_le _, rfl, HGN, HB2, SB, SR⟩
  case round =>
    clear HB2 SB SR HGN
    obtain ⟨j, l, p, A3, c3, hj, rfl, GD, BM, SB, SR⟩ := hrel
    by_cases hlt : j < l1.length
    · obtain ⟨ad, x0, x1, rfl, hx0, hx1⟩ := k_arr (Kd.C_below HD.out BM.out) j hlt
      have hji : (j : Int) < (l1.length : Int) := by omega
      have hz := cc2 (q3 SB.out (.cells #[.int .i64 x0, .int .i64 x1] 56))
      go_upto_block 2 with fail
      have hgt := blk_lt SB.out
      obtain ⟨a, ha⟩ : ∃ a, a = wrap64 (1 + wrap64 ((IntKind.u64.wrap x1).tmod 6)) := ⟨_, rfl⟩
      rw [← ha]
      clear ha hz
      have BX := Aside0.mk (q3 (blk_new wr (.cells #[.int .i64 x0, .int .i64 x1] 56)) (.cells #[.slice A3 l.length c3, .int .i64 p] 70))
      have TB := Aside0.mk (blk_new (wr.alloc (.cells #[.int .i64 x0, .int .i64 x1] 56)) (.cells #[.slice A3 l.length c3, .int .i64 p] 70))
      have SB0 := Aside0.mk (q3 (q3 SB.out (.cells #[.int .i64 x0, .int .i64 x1] 56)) (.cells #[.slice A3 l.length c3, .int .i64 p] 70))
      have BM0 := Aside0.mk (b1 (b1 BM.out (.cells #[.int .i64 x0, .int .i64 x1] 56)) (.cells #[.slice A3 l.length c3, .int .i64 p] 70))
      have SR0 := Aside0.mk (Kd.R_below SR.out (b1 (b1 (Below.refl wr.heap.size wr) (.cells #[.int .i64 x0, .int .i64 x1] 56)) (.cells #[.slice A3 l.length c3, .int .i64 p] 70)))
      rw [sz1] at TB
      have HWS := Aside0.mk (below_size BM.out)
      obtain ⟨W0, hW0⟩ : ∃ W0, W0 = (wr.alloc (.cells #[.int .i64 x0, .int .i64 x1] 56)).alloc (.cells #[.slice A3 l.length c3, .int .i64 p] 70) := ⟨_, rfl⟩
      rw [← hW0] at BX TB SB0 BM0 SR0 ⊢
      obtain ⟨bx, hbx⟩ : ∃ bx, bx = wr.heap.size := ⟨_, rfl⟩
      rw [← hbx] at BX TB hgt HWS ⊢
      clear hW0 hbx hx0 hx1 SB SR BM
      have h4 : l.length ≤ 4 := gdb_len GD.out
      have HCl := Aside0.mk (Kd.R_reads' SR0.out).2.2
      have Hcc := Aside0.mk (Kd.R_reads' SR0.out).2.1
      go_cut [11, 53] (fun f f53 wx => ∃ (r : List S34 × Int × Option Int) (A5 : Option Addr) (c5 : Nat), f = errW r.2.2 ∧ Aside0 (r.2.2 = none → gdb r.1 r.2.1 = true) ∧ Aside0 (wx.heap[bx + 1]? = some (.cells #[.slice A5 r.1.length c5, .int .i64 r.2.1] 70 (0, 0))) ∧ Aside0 (Kd.R k34 34 wx 0 (fun _ => True) (.slice A5 r.1.length c5) r.1) ∧ Aside0 (wx.heap[g]? = some (.cells #[.slice A3 l.length c3, .int .i64 p] 70 (0, 0))) ∧ Aside0 (Kd.R k34 34 wx 0 (fun _ => True) (.slice A3 l.length c3) l) ∧ Aside0 (Below w.heap.size w wx))
      case first =>
        have hx := cc2 BX.out
        have hs := cc2 SB0.out
        have ht := cc2 TB.out
        have n1 : bx + 1 ≠ g := by omega
        have n2 : g ≠ bx + 1 := by omega
        rcases rem6 x0 with hr | hr | hr | hr | hr | hr
        · as_aux_lemma =>
            have K := Aside0.mk (add_calls HCl.out Hcc.out (by omega) p a)
            have KG := Aside0.mk (fun h => gdb_add GD.out (a := a) h)
            obtain ⟨r, hr2⟩ : ∃ r, r = addL l p a := ⟨_, rfl⟩
            rw [← hr2] at K KG
            clear hr2
            go_wp2_with fail
            refine K.out.mono ?_
            rintro e w5 ⟨v, rfl, hR, hb⟩
            obtain ⟨A5, c5, rfl⟩ := Kd.R_slice hR
            have TB5 := Aside0.mk (blk_below TB.out hb)
            have SB5 := Aside0.mk (blk_below SB0.out hb)
            have BM5 := Aside0.mk (below_step BM0.out hb)
            have SR5 := Aside0.mk (Kd.R_below SR0.out hb)
            have RR5 := Aside0.mk (Kd.R_lower hR (Nat.zero_le _))
            clear hb hR hx hs ht
            have ht := cc2 TB5.out
            go_wp2_with fail
            go_meet
            exact ⟨r, A5, c5, rfl, KG, ⟨put2 TB5.out⟩, ⟨rr2 RR5.out TB5.out⟩, ⟨far2 SB5.out n2⟩, ⟨rr2 SR5.out TB5.out⟩, ⟨bel2b BM5.out (Nat.le_trans HWS.out (Nat.le_succ _))⟩⟩
        · as_aux_lemma =>
            have K := Aside0.mk (del_calls HCl.out Hcc.out (by omega) p a)
            have KG := Aside0.mk (fun h => gdb_del GD.out (a := a) h)
            obtain ⟨r, hr2⟩ : ∃ r, r = delL l p a := ⟨_, rfl⟩
            rw [← hr2] at K KG
            clear hr2
            go_wp2_with fail
            refine K.out.mono ?_
            rintro e w5 ⟨v, rfl, hR, hb⟩
            obtain ⟨A5, c5, rfl⟩ := Kd.R_slice hR
            have TB5 := Aside0.mk (blk_below TB.out hb)
            have SB5 := Aside0.mk (blk_below SB0.out hb)
            have BM5 := Aside0.mk (below_step BM0.out hb)
            have SR5 := Aside0.mk (Kd.R_below SR0.out hb)
            have RR5 := Aside0.mk (Kd.R_lower hR (Nat.zero_le _))
            clear hb hR hx hs ht
            have ht := cc2 TB5.out
            go_wp2_with fail
            go_meet
            exact ⟨r, A5, c5, rfl, KG, ⟨put2 TB5.out⟩, ⟨rr2 RR5.out TB5.out⟩, ⟨far2 SB5.out n2⟩, ⟨rr2 SR5.out TB5.out⟩, ⟨bel2b BM5.out (Nat.le_trans HWS.out (Nat.le_succ _))⟩⟩
        · as_aux_lemma =>
            have K := Aside0.mk (prime_calls HCl.out Hcc.out (by omega) p a)
            have KG := Aside0.mk (fun h => gdb_prime GD.out (a := a) h)
            obtain ⟨r, hr2⟩ : ∃ r, r = primeL l p a := ⟨_, rfl⟩
            rw [← hr2] at K KG
            clear hr2
            go_wp2_with fail
            refine K.out.mono ?_
            rintro e w5 ⟨v, rfl, hR, hb⟩
            obtain ⟨A5, c5, rfl⟩ := Kd.R_slice hR
            have TB5 := Aside0.mk (blk_below TB.out hb)
            have SB5 := Aside0.mk (blk_below SB0.out hb)
            have BM5 := Aside0.mk (below_step BM0.out hb)
            have SR5 := Aside0.mk (Kd.R_below SR0.out hb)
            have RR5 := Aside0.mk (Kd.R_lower hR (Nat.zero_le _))
            clear hb hR hx hs ht
            have ht := cc2 TB5.out
            go_wp2_with fail
            go_meet
            exact ⟨r, A5, c5, rfl, KG, ⟨put2 TB5.out⟩, ⟨rr2 RR5.out TB5.out⟩, ⟨far2 SB5.out n2⟩, ⟨rr2 SR5.out TB5.out⟩, ⟨bel2b BM5.out (Nat.le_trans HWS.out (Nat.le_succ _))⟩⟩
        · as_aux_lemma =>
            go_wp2_with fail
            refine (move_calls HCl.out Hcc.out (by omega) p a _).mono ?_
            rintro e w5 ⟨v, rfl, hR, hb⟩
            have KG := Aside0.mk (fun (b : Int) (h : (moveL l p a b).2.2 = none) => gdb_move GD.out h)
            obtain ⟨r, hr2, KG2⟩ : ∃ r, r = moveL l p a _ ∧ Aside0 (r.2.2 = none → gdb r.1 r.2.1 = true) := ⟨_, rfl, ⟨KG.out _⟩⟩
            rw [← hr2] at hR ⊢
            clear hr2 KG
            obtain ⟨A5, c5, rfl⟩ := Kd.R_slice hR
            have TB5 := Aside0.mk (blk_below TB.out hb)
            have SB5 := Aside0.mk (blk_below SB0.out hb)
            have BM5 := Aside0.mk (below_step BM0.out hb)
            have SR5 := Aside0.mk (Kd.R_below SR0.out hb)
            have RR5 := Aside0.mk (Kd.R_lower hR (Nat.zero_le _))
            clear hb hR hx hs ht
            have ht := cc2 TB5.out
            go_wp2_with fail
            go_meet
            exact ⟨r, A5, c5, rfl, KG2, ⟨put2 TB5.out⟩, ⟨rr2 RR5.out TB5.out⟩, ⟨far2 SB5.out n2⟩, ⟨rr2 SR5.out TB5.out⟩, ⟨bel2b BM5.out (Nat.le_trans HWS.out (Nat.le_succ _))⟩⟩
        · as_aux_lemma =>
            have KGt := Aside0.mk (get_calls (c := c3) HCl.out p a)
            obtain ⟨y, hy⟩ : ∃ y, y = (getL l p a).1 := ⟨_, rfl⟩
            rw [← hy] at KGt
            clear hy
            obtain ⟨z, hz⟩ : ∃ z, z = failedS y := ⟨_, rfl⟩
            have KF := Aside0.mk (fun W => failed_calls y W)
            rw [← hz] at KF
            obtain ⟨r, hr2⟩ : ∃ r, r = putL l p z := ⟨_, rfl⟩
            have KP := Aside0.mk (fun (W : World) (hC : Kd.C k34 W A3 l.length l) => put_calls (w := W) (c := c3) hC Hcc.out (by omega) p z)
            rw [← hr2] at KP
            have KG := Aside0.mk (show r.2.2 = none → gdb r.1 r.2.1 = true from fun h => by rw [hr2] at h ⊢; exact gdb_put GD.out h)
            clear hr2 hz
            unfold cs34 at KF KP
            go_wp2_with fail
            refine KGt.out.mono ?_
            rintro e w5 ⟨rfl, hb⟩
            have TB5 := Aside0.mk (q3 (blk_below TB.out hb) (.cells #[.int .i64 y.f0.f0, .int .i64 y.f0.f1, .int .i64 y.f0.f2, .bool y.f0.f3, .int .i64 y.f1.f0, .int .i64 y.f1.f1, .int .i64 y.f1.f2, .int .i64 y.f2, .int .i64 y.f3, .int .u32 y.f4, .int .i64 y.f5] 34))
            have SB5 := Aside0.mk (q3 (blk_below SB0.out hb) (.cells #[.int .i64 y.f0.f0, .int .i64 y.f0.f1, .int .i64 y.f0.f2, .bool y.f0.f3, .int .i64 y.f1.f0, .int .i64 y.f1.f1, .int .i64 y.f1.f2, .int .i64 y.f2, .int .i64 y.f3, .int .u32 y.f4, .int .i64 y.f5] 34))
            have BM5 := Aside0.mk (b1 (below_step BM0.out hb) (.cells #[.int .i64 y.f0.f0, .int .i64 y.f0.f1, .int .i64 y.f0.f2, .bool y.f0.f3, .int .i64 y.f1.f0, .int .i64 y.f1.f1, .int .i64 y.f1.f2, .int .i64 y.f2, .int .i64 y.f3, .int .u32 y.f4, .int .i64 y.f5] 34))
            have SR5 := Aside0.mk (Kd.R_below SR0.out (b1 hb (.cells #[.int .i64 y.f0.f0, .int .i64 y.f0.f1, .int .i64 y.f0.f2, .bool y.f0.f3, .int .i64 y.f1.f0, .int .i64 y.f1.f1, .int .i64 y.f1.f2, .int .i64 y.f2, .int .i64 y.f3, .int .u32 y.f4, .int .i64 y.f5] 34)))
            have YB5 := Aside0.mk (blk_new w5 (.cells #[.int .i64 y.f0.f0, .int .i64 y.f0.f1, .int .i64 y.f0.f2, .bool y.f0.f3, .int .i64 y.f1.f0, .int .i64 y.f1.f1, .int .i64 y.f1.f2, .int .i64 y.f2, .int .i64 y.f3, .int .u32 y.f4, .int .i64 y.f5] 34))
            have HC5 := Aside0.mk (Kd.C_below HCl.out (b1 hb (.cells #[.int .i64 y.f0.f0, .int .i64 y.f0.f1, .int .i64 y.f0.f2, .bool y.f0.f3, .int .i64 y.f1.f0, .int .i64 y.f1.f1, .int .i64 y.f1.f2, .int .i64 y.f2, .int .i64 y.f3, .int .u32 y.f4, .int .i64 y.f5] 34)))
            unfold cs34
            clear hb hx hs ht
            go_wp2_with fail
            obtain ⟨W5, hW5⟩ : ∃ W5, W5 = w5.alloc (.cells #[.int .i64 y.f0.f0, .int .i64 y.f0.f1, .int .i64 y.f0.f2, .bool y.f0.f3, .int .i64 y.f1.f0, .int .i64 y.f1.f1, .int .i64 y.f1.f2, .int .i64 y.f2, .int .i64 y.f3, .int .u32 y.f4, .int .i64 y.f5] 34) := ⟨_, rfl⟩
            rw [← hW5] at TB5 SB5 BM5 SR5 YB5 HC5 ⊢
            clear hW5
            refine start_ (n := 9) (S := fun w' => Below W5.heap.size W5 w' ∧ (w'.cell? ⟨g, 0, none⟩ = some (.slice A3 l.length c3) ∧ w'.cell? ⟨g, 1, none⟩ = some (.int .i64 p)) ∧ (w'.cell? ⟨w5.heap.size, 0, none⟩ = some (.int .i64 y.f0.f0) ∧ w'.cell? ⟨w5.heap.size, 1, none⟩ = some (.int .i64 y.f0.f1) ∧ w'.cell? ⟨w5.heap.size, 2, none⟩ = some (.int .i64 y.f0.f2) ∧ w'.cell? ⟨w5.heap.size, 3, none⟩ = some (.bool y.f0.f3) ∧ w'.cell? ⟨w5.heap.size, 4, none⟩ = some (.int .i64 y.f1.f0) ∧ w'.cell? ⟨w5.heap.size, 5, none⟩ = some (.int .i64 y.f1.f1) ∧ w'.cell? ⟨w5.heap.size, 6, none⟩ = some (.int .i64 y.f1.f2) ∧ w'.cell? ⟨w5.heap.size, 7, none⟩ = some (.int .i64 y.f2) ∧ w'.cell? ⟨w5.heap.size, 8, none⟩ = some (.int .i64 y.f3) ∧ w'.cell? ⟨w5.heap.size, 9, none⟩ = some (.int .u32 y.f4) ∧ w'.cell? ⟨w5.heap.size, 10, none⟩ = some (.int .i64 y.f5)) ∧ (w'.cell? ⟨bx + 1, 0, none⟩ = some (.slice A3 l.length c3) ∧ w'.cell? ⟨bx + 1, 1, none⟩ = some (.int .i64 p) ∧ w'.frozen? ⟨bx + 1, 0, none⟩ = false ∧ w'.frozen? ⟨bx + 1, 1, none⟩ = false)) (ds := [7]) #[false, false, false, false, false, false, false, false, false] (by kernel_rfl) rfl rfl ⟨below_drew1 (Below.refl _ _), ck2 (blk_below SB5.out (below_drew1 (Below.refl _ _))), ck11 (blk_below YB5.out (below_drew1 (Below.refl _ _))), cc2 (blk_below TB5.out (below_drew1 (Below.refl _ _)))⟩ (fun hHeld => ?_)
            refine take_ (i := 0) (N := some 115) (v := ?_) (a' := ?_) #[true, false, false, false, false, false, false, false, false] rfl rfl (by kernel_rfl) (fun _ _ _ h => h) (Or.inl ⟨by rfl, ?_⟩) hHeld ?_ ?_
            rotate_left
            · rintro w' ⟨s0, s1, s2, s3⟩
              go_simp
              with_reducible rfl
            rotate_left
            · simp only [Act.put, List.setIfInBounds_toArray, List.set_cons_zero, List.set_cons_succ, i64_w, i32_w]
              rfl
            refine take_ (i := 1) (N := some 116) (v := ?_) (a' := ?_) #[true, true, false, false, false, false, false, false, false] rfl rfl (by kernel_rfl) (fun _ _ _ h => h) (Or.inl ⟨by rfl, ?_⟩) hHeld ?_ ?_
            rotate_left
            · rintro w' ⟨s0, s1, s2, s3⟩
              go_simp
              with_reducible rfl
            rotate_left
            · simp only [Act.put, List.setIfInBounds_toArray, List.set_cons_zero, List.set_cons_succ, i64_w, i32_w]
              rfl
            refine one_ (i := 2) (N := some 117) #[true, true, true, false, false, false, false, false, false] rfl rfl (by kernel_rfl) (by decide) (fun K hK => ?_)
            refine goes_ Try.func23 (by kernel_rfl) rfl #[.agg #[.int .i64 y.f0.f0, .int .i64 y.f0.f1, .int .i64 y.f0.f2, .bool y.f0.f3, .int .i64 y.f1.f0, .int .i64 y.f1.f1, .int .i64 y.f1.f2, .int .i64 y.f2, .int .i64 y.f3, .int .u32 y.f4, .int .i64 y.f5]] (by rfl) rfl rfl (by simp only [List.map_toArray, List.map_cons, List.map_nil]; rfl) ?_
            with_reducible refine (KF.out _).mono ?_
            rintro e w7 ⟨rfl, hb⟩
            refine ⟨_, rfl, ?_⟩
            refine hK.out _ _ ⟨below_step hHeld.1 hb, ck2 (blk_below SB5.out (below_step hHeld.1 hb)), ck11 (blk_below YB5.out (below_step hHeld.1 hb)), cc2 (blk_below TB5.out (below_step hHeld.1 hb))⟩ (fun hHeld => ?_)
            clear hK K
            refine norm_ (a' := ?_) ?_ ?_
            rotate_left
            · show Act.put _ (some 117) _ = _
              simp only [Act.put, List.setIfInBounds_toArray, List.set_cons_zero, List.set_cons_succ, i64_w, i32_w]
              rfl
            refine one_ (i := 3) (N := some 118) #[true, true, true, true, false, false, false, false, false] rfl rfl (by kernel_rfl) (by decide) (fun K hK => ?_)
            refine goes_ Try.func37 (by kernel_rfl) rfl #[.agg #[.slice A3 l.length c3, .int .i64 p], .agg #[.int .i64 z.f0.f0, .int .i64 z.f0.f1, .int .i64 z.f0.f2, .bool z.f0.f3, .int .i64 z.f1.f0, .int .i64 z.f1.f1, .int .i64 z.f1.f2, .int .i64 z.f2, .int .i64 z.f3, .int .u32 z.f4, .int .i64 z.f5]] (by rfl) rfl rfl (by simp only [List.map_toArray, List.map_cons, List.map_nil]; rfl) ?_
            with_reducible refine (KP.out _ (Kd.C_below HC5.out hHeld.1)).mono ?_
            rintro e w8 ⟨v, rfl, hR, hb⟩
            obtain ⟨A5, c5, rfl⟩ := Kd.R_slice hR
            have HB8 := Aside0.mk (below_step hHeld.1 hb)
            have RR8 := Aside0.mk (Kd.R_lower hR (Nat.zero_le _))
            refine ⟨_, rfl, ?_⟩
            refine hK.out _ _ ⟨below_step hHeld.1 hb, ck2 (blk_below SB5.out (below_step hHeld.1 hb)), ck11 (blk_below YB5.out (below_step hHeld.1 hb)), cc2 (blk_below TB5.out (below_step hHeld.1 hb))⟩ (fun hHeld => ?_)
            clear hK K
            refine norm_ (a' := ?_) ?_ ?_
            rotate_left
            · show Act.put _ (some 118) _ = _
              simp only [Act.put, List.setIfInBounds_toArray, List.set_cons_zero, List.set_cons_succ, i64_w, i32_w]
              rfl
            refine pure_ (i := 4) (N := some 114) (v := ?_) (a' := ?_) #[true, true, true, true, true, false, false, false, false] rfl rfl (by kernel_rfl) (fun _ _ _ h => h) (Or.inl ⟨by rfl, ?_⟩) ?_ ?_
            rotate_left
            · intro w'
              go_simp
              with_reducible rfl
            rotate_left
            · simp only [Act.put, List.setIfInBounds_toArray, List.set_cons_zero, List.set_cons_succ, i64_w, i32_w]
              rfl
            refine pure_ (i := 5) (N := some 119) (v := ?_) (a' := ?_) #[true, true, true, true, true, true, false, false, false] rfl rfl (by kernel_rfl) (fun _ _ _ h => h) (Or.inl ⟨by rfl, ?_⟩) ?_ ?_
            rotate_left
            · intro w'
              go_simp
              with_reducible rfl
            rotate_left
            · simp only [Act.put, List.setIfInBounds_toArray, List.set_cons_zero, List.set_cons_succ, i64_w, i32_w]
              rfl
            refine pure_ (i := 6) (N := some 120) (v := ?_) (a' := ?_) #[true, true, true, true, true, true, true, false, false] rfl rfl (by kernel_rfl) (fun _ _ _ h => h) (Or.inl ⟨by rfl, ?_⟩) ?_ ?_
            rotate_left
            · intro w'
              go_simp
              with_reducible rfl
            rotate_left
            · simp only [Act.put, List.setIfInBounds_toArray, List.set_cons_zero, List.set_cons_succ, i64_w, i32_w]
              rfl
            refine last_ (i := 7) (N := none) #[true, true, true, true, true, true, true, true, false] rfl rfl (by kernel_rfl) (by decide) (fun K hK => ?_)
            refine skip_ (w1 := ?_) (by rfl) rfl ?_ ?_
            rotate_left
            · go_simp
              rfl
            refine hK.out _ _ ?_
            clear hK K
            refine pure_ (i := 8) (N := some 11) (v := ?_) (a' := ?_) #[true, true, true, true, true, true, true, true, true] rfl rfl (by kernel_rfl) (fun _ _ _ h => h) (Or.inl ⟨by rfl, ?_⟩) ?_ ?_
            rotate_left
            · intro w'
              go_simp
              with_reducible rfl
            rotate_left
            · simp only [Act.put, List.setIfInBounds_toArray, List.set_cons_zero, List.set_cons_succ, i64_w, i32_w]
              rfl
            refine done_ (by kernel_rfl) ?_
            have TB8 := Aside0.mk (blk_below TB5.out HB8.out)
            have SB8 := Aside0.mk (blk_below SB5.out HB8.out)
            have BM8 := Aside0.mk (BM5.out.trans (HB8.out.mono BM5.out.size))
            have SR8 := Aside0.mk (Kd.R_below SR5.out HB8.out)
            go_wp2_with fail
            go_meet
            exact ⟨r, A5, c5, rfl, KG, ⟨put2 TB8.out⟩, ⟨rr2 RR8.out TB8.out⟩, ⟨far2 SB8.out n2⟩, ⟨rr2 SR8.out TB8.out⟩, ⟨bel2b BM8.out (Nat.le_trans HWS.out (Nat.le_succ _))⟩⟩
        · as_aux_lemma =>
            have KGt := Aside0.mk (get_calls (c := c3) HCl.out p a)
            obtain ⟨y, hy⟩ : ∃ y, y = (getL l p a).1 := ⟨_, rfl⟩
            rw [← hy] at KGt
            clear hy
            obtain ⟨z, hz⟩ : ∃ z, z = heardS y := ⟨_, rfl⟩
            have KF := Aside0.mk (fun W => heard_calls y W)
            rw [← hz] at KF
            obtain ⟨r, hr2⟩ : ∃ r, r = putL l p z := ⟨_, rfl⟩
            have KP := Aside0.mk (fun (W : World) (hC : Kd.C k34 W A3 l.length l) => put_calls (w := W) (c := c3) hC Hcc.out (by omega) p z)
            rw [← hr2] at KP
            have KG := Aside0.mk (show r.2.2 = none → gdb r.1 r.2.1 = true from fun h => by rw [hr2] at h ⊢; exact gdb_put GD.out h)
            clear hr2 hz
            unfold cs34 at KF KP
            go_wp2_with fail
            refine KGt.out.mono ?_
            rintro e w5 ⟨rfl, hb⟩
            have TB5 := Aside0.mk (q3 (blk_below TB.out hb) (.cells #[.int .i64 y.f0.f0, .int .i64 y.f0.f1, .int .i64 y.f0.f2, .bool y.f0.f3, .int .i64 y.f1.f0, .int .i64 y.f1.f1, .int .i64 y.f1.f2, .int .i64 y.f2, .int .i64 y.f3, .int .u32 y.f4, .int .i64 y.f5] 34))
            have SB5 := Aside0.mk (q3 (blk_below SB0.out hb) (.cells #[.int .i64 y.f0.f0, .int .i64 y.f0.f1, .int .i64 y.f0.f2, .bool y.f0.f3, .int .i64 y.f1.f0, .int .i64 y.f1.f1, .int .i64 y.f1.f2, .int .i64 y.f2, .int .i64 y.f3, .int .u32 y.f4, .int .i64 y.f5] 34))
            have BM5 := Aside0.mk (b1 (below_step BM0.out hb) (.cells #[.int .i64 y.f0.f0, .int .i64 y.f0.f1, .int .i64 y.f0.f2, .bool y.f0.f3, .int .i64 y.f1.f0, .int .i64 y.f1.f1, .int .i64 y.f1.f2, .int .i64 y.f2, .int .i64 y.f3, .int .u32 y.f4, .int .i64 y.f5] 34))
            have SR5 := Aside0.mk (Kd.R_below SR0.out (b1 hb (.cells #[.int .i64 y.f0.f0, .int .i64 y.f0.f1, .int .i64 y.f0.f2, .bool y.f0.f3, .int .i64 y.f1.f0, .int .i64 y.f1.f1, .int .i64 y.f1.f2, .int .i64 y.f2, .int .i64 y.f3, .int .u32 y.f4, .int .i64 y.f5] 34)))
            have YB5 := Aside0.mk (blk_new w5 (.cells #[.int .i64 y.f0.f0, .int .i64 y.f0.f1, .int .i64 y.f0.f2, .bool y.f0.f3, .int .i64 y.f1.f0, .int .i64 y.f1.f1, .int .i64 y.f1.f2, .int .i64 y.f2, .int .i64 y.f3, .int .u32 y.f4, .int .i64 y.f5] 34))
            have HC5 := Aside0.mk (Kd.C_below HCl.out (b1 hb (.cells #[.int .i64 y.f0.f0, .int .i64 y.f0.f1, .int .i64 y.f0.f2, .bool y.f0.f3, .int .i64 y.f1.f0, .int .i64 y.f1.f1, .int .i64 y.f1.f2, .int .i64 y.f2, .int .i64 y.f3, .int .u32 y.f4, .int .i64 y.f5] 34)))
            unfold cs34
            clear hb hx hs ht
            go_wp2_with fail
            obtain ⟨W5, hW5⟩ : ∃ W5, W5 = w5.alloc (.cells #[.int .i64 y.f0.f0, .int .i64 y.f0.f1, .int .i64 y.f0.f2, .bool y.f0.f3, .int .i64 y.f1.f0, .int .i64 y.f1.f1, .int .i64 y.f1.f2, .int .i64 y.f2, .int .i64 y.f3, .int .u32 y.f4, .int .i64 y.f5] 34) := ⟨_, rfl⟩
            rw [← hW5] at TB5 SB5 BM5 SR5 YB5 HC5 ⊢
            clear hW5
            refine start_ (n := 9) (S := fun w' => Below W5.heap.size W5 w' ∧ (w'.cell? ⟨g, 0, none⟩ = some (.slice A3 l.length c3) ∧ w'.cell? ⟨g, 1, none⟩ = some (.int .i64 p)) ∧ (w'.cell? ⟨w5.heap.size, 0, none⟩ = some (.int .i64 y.f0.f0) ∧ w'.cell? ⟨w5.heap.size, 1, none⟩ = some (.int .i64 y.f0.f1) ∧ w'.cell? ⟨w5.heap.size, 2, none⟩ = some (.int .i64 y.f0.f2) ∧ w'.cell? ⟨w5.heap.size, 3, none⟩ = some (.bool y.f0.f3) ∧ w'.cell? ⟨w5.heap.size, 4, none⟩ = some (.int .i64 y.f1.f0) ∧ w'.cell? ⟨w5.heap.size, 5, none⟩ = some (.int .i64 y.f1.f1) ∧ w'.cell? ⟨w5.heap.size, 6, none⟩ = some (.int .i64 y.f1.f2) ∧ w'.cell? ⟨w5.heap.size, 7, none⟩ = some (.int .i64 y.f2) ∧ w'.cell? ⟨w5.heap.size, 8, none⟩ = some (.int .i64 y.f3) ∧ w'.cell? ⟨w5.heap.size, 9, none⟩ = some (.int .u32 y.f4) ∧ w'.cell? ⟨w5.heap.size, 10, none⟩ = some (.int .i64 y.f5)) ∧ (w'.cell? ⟨bx + 1, 0, none⟩ = some (.slice A3 l.length c3) ∧ w'.cell? ⟨bx + 1, 1, none⟩ = some (.int .i64 p) ∧ w'.frozen? ⟨bx + 1, 0, none⟩ = false ∧ w'.frozen? ⟨bx + 1, 1, none⟩ = false)) (ds := [7]) #[false, false, false, false, false, false, false, false, false] (by kernel_rfl) rfl rfl ⟨below_drew1 (Below.refl _ _), ck2 (blk_below SB5.out (below_drew1 (Below.refl _ _))), ck11 (blk_below YB5.out (below_drew1 (Below.refl _ _))), cc2 (blk_below TB5.out (below_drew1 (Below.refl _ _)))⟩ (fun hHeld => ?_)
            refine take_ (i := 0) (N := some 61) (v := ?_) (a' := ?_) #[true, false, false, false, false, false, false, false, false] rfl rfl (by kernel_rfl) (fun _ _ _ h => h) (Or.inl ⟨by rfl, ?_⟩) hHeld ?_ ?_
            rotate_left
            · rintro w' ⟨s0, s1, s2, s3⟩
              go_simp
              with_reducible rfl
            rotate_left
            · simp only [Act.put, List.setIfInBounds_toArray, List.set_cons_zero, List.set_cons_succ, i64_w, i32_w]
              rfl
            refine take_ (i := 1) (N := some 62) (v := ?_) (a' := ?_) #[true, true, false, false, false, false, false, false, false] rfl rfl (by kernel_rfl) (fun _ _ _ h => h) (Or.inl ⟨by rfl, ?_⟩) hHeld ?_ ?_
            rotate_left
            · rintro w' ⟨s0, s1, s2, s3⟩
              go_simp
              with_reducible rfl
            rotate_left
            · simp only [Act.put, List.setIfInBounds_toArray, List.set_cons_zero, List.set_cons_succ, i64_w, i32_w]
              rfl
            refine one_ (i := 2) (N := some 63) #[true, true, true, false, false, false, false, false, false] rfl rfl (by kernel_rfl) (by decide) (fun K hK => ?_)
            refine goes_ Try.func25 (by kernel_rfl) rfl #[.agg #[.int .i64 y.f0.f0, .int .i64 y.f0.f1, .int .i64 y.f0.f2, .bool y.f0.f3, .int .i64 y.f1.f0, .int .i64 y.f1.f1, .int .i64 y.f1.f2, .int .i64 y.f2, .int .i64 y.f3, .int .u32 y.f4, .int .i64 y.f5]] (by rfl) rfl rfl (by simp only [List.map_toArray, List.map_cons, List.map_nil]; rfl) ?_
            with_reducible refine (KF.out _).mono ?_
            rintro e w7 ⟨rfl, hb⟩
            refine ⟨_, rfl, ?_⟩
            refine hK.out _ _ ⟨below_step hHeld.1 hb, ck2 (blk_below SB5.out (below_step hHeld.1 hb)), ck11 (blk_below YB5.out (below_step hHeld.1 hb)), cc2 (blk_below TB5.out (below_step hHeld.1 hb))⟩ (fun hHeld => ?_)
            clear hK K
            refine norm_ (a' := ?_) ?_ ?_
            rotate_left
            · show Act.put _ (some 63) _ = _
              simp only [Act.put, List.setIfInBounds_toArray, List.set_cons_zero, List.set_cons_succ, i64_w, i32_w]
              rfl
            refine one_ (i := 3) (N := some 64) #[true, true, true, true, false, false, false, false, false] rfl rfl (by kernel_rfl) (by decide) (fun K hK => ?_)
            refine goes_ Try.func37 (by kernel_rfl) rfl #[.agg #[.slice A3 l.length c3, .int .i64 p], .agg #[.int .i64 z.f0.f0, .int .i64 z.f0.f1, .int .i64 z.f0.f2, .bool z.f0.f3, .int .i64 z.f1.f0, .int .i64 z.f1.f1, .int .i64 z.f1.f2, .int .i64 z.f2, .int .i64 z.f3, .int .u32 z.f4, .int .i64 z.f5]] (by rfl) rfl rfl (by simp only [List.map_toArray, List.map_cons, List.map_nil]; rfl) ?_
            with_reducible refine (KP.out _ (Kd.C_below HC5.out hHeld.1)).mono ?_
            rintro e w8 ⟨v, rfl, hR, hb⟩
            obtain ⟨A5, c5, rfl⟩ := Kd.R_slice hR
            have HB8 := Aside0.mk (below_step hHeld.1 hb)
            have RR8 := Aside0.mk (Kd.R_lower hR (Nat.zero_le _))
            refine ⟨_, rfl, ?_⟩
            refine hK.out _ _ ⟨below_step hHeld.1 hb, ck2 (blk_below SB5.out (below_step hHeld.1 hb)), ck11 (blk_below YB5.out (below_step hHeld.1 hb)), cc2 (blk_below TB5.out (below_step hHeld.1 hb))⟩ (fun hHeld => ?_)
            clear hK K
            refine norm_ (a' := ?_) ?_ ?_
            rotate_left
            · show Act.put _ (some 64) _ = _
              simp only [Act.put, List.setIfInBounds_toArray, List.set_cons_zero, List.set_cons_succ, i64_w, i32_w]
              rfl
            refine pure_ (i := 4) (N := some 60) (v := ?_) (a' := ?_) #[true, true, true, true, true, false, false, false, false] rfl rfl (by kernel_rfl) (fun _ _ _ h => h) (Or.inl ⟨by rfl, ?_⟩) ?_ ?_
            rotate_left
            · intro w'
              go_simp
              with_reducible rfl
            rotate_left
            · simp only [Act.put, List.setIfInBounds_toArray, List.set_cons_zero, List.set_cons_succ, i64_w, i32_w]
              rfl
            refine pure_ (i := 5) (N := some 65) (v := ?_) (a' := ?_) #[true, true, true, true, true, true, false, false, false] rfl rfl (by kernel_rfl) (fun _ _ _ h => h) (Or.inl ⟨by rfl, ?_⟩) ?_ ?_
            rotate_left
            · intro w'
              go_simp
              with_reducible rfl
            rotate_left
            · simp only [Act.put, List.setIfInBounds_toArray, List.set_cons_zero, List.set_cons_succ, i64_w, i32_w]
              rfl
            refine pure_ (i := 6) (N := some 66) (v := ?_) (a' := ?_) #[true, true, true, true, true, true, true, false, false] rfl rfl (by kernel_rfl) (fun _ _ _ h => h) (Or.inl ⟨by rfl, ?_⟩) ?_ ?_
            rotate_left
            · intro w'
              go_simp
              with_reducible rfl
            rotate_left
            · simp only [Act.put, List.setIfInBounds_toArray, List.set_cons_zero, List.set_cons_succ, i64_w, i32_w]
              rfl
            refine last_ (i := 7) (N := none) #[true, true, true, true, true, true, true, true, false] rfl rfl (by kernel_rfl) (by decide) (fun K hK => ?_)
            refine skip_ (w1 := ?_) (by rfl) rfl ?_ ?_
            rotate_left
            · go_simp
              rfl
            refine hK.out _ _ ?_
            clear hK K
            refine pure_ (i := 8) (N := some 11) (v := ?_) (a' := ?_) #[true, true, true, true, true, true, true, true, true] rfl rfl (by kernel_rfl) (fun _ _ _ h => h) (Or.inl ⟨by rfl, ?_⟩) ?_ ?_
            rotate_left
            · intro w'
              go_simp
              with_reducible rfl
            rotate_left
            · simp only [Act.put, List.setIfInBounds_toArray, List.set_cons_zero, List.set_cons_succ, i64_w, i32_w]
              rfl
            refine done_ (by kernel_rfl) ?_
            have TB8 := Aside0.mk (blk_below TB5.out HB8.out)
            have SB8 := Aside0.mk (blk_below SB5.out HB8.out)
            have BM8 := Aside0.mk (BM5.out.trans (HB8.out.mono BM5.out.size))
            have SR8 := Aside0.mk (Kd.R_below SR5.out HB8.out)
            go_wp2_with fail
            go_meet
            exact ⟨r, A5, c5, rfl, KG, ⟨put2 TB8.out⟩, ⟨rr2 RR8.out TB8.out⟩, ⟨far2 SB8.out n2⟩, ⟨rr2 SR8.out TB8.out⟩, ⟨bel2b BM8.out (Nat.le_trans HWS.out (Nat.le_succ _))⟩⟩
      case rest =>
        as_aux_lemma =>
          obtain ⟨r, A5, c5, he, KG, TB5, RR5, SB5, SR5, BM5⟩ := hcut
          subst he
          have hs := cc2 SB5.out
          have ht := cc2 TB5.out
          have n1 : bx + 1 ≠ g := by omega
          have n2 : g ≠ bx + 1 := by omega
          go_step
          refine wp_seq_k fun K25 hK25 => ?_
          go_cut [11, 122] (fun f11 f wx => ∃ (m : List S34) (q : Int) (A6 : Option Addr) (c6 : Nat), Aside0 (gdb m q = true) ∧ Aside0 (Below w.heap.size w wx) ∧ Aside0 (wx.heap[g]? = some (.cells #[.slice A6 m.length c6, .int .i64 q] 70 (0, 0))) ∧ Aside0 (Kd.R k34 34 wx 0 (fun _ => True) (.slice A6 m.length c6) m))
          case first =>
            cases hE : r.2.2 with
            | none =>
              have he : errW (none : Option Int) = Value.nilIface := rfl
              simp only [he]
              clear he
              have HE := Aside0.mk hE
              clear hE
              go_wp2_with fail
              go_meet
              exact ⟨r.1, r.2.1, A5, c5, ⟨KG.out HE.out⟩, ⟨bel2b BM5.out HZ.out⟩, ⟨put2 SB5.out⟩, ⟨rr2 RR5.out SB5.out⟩⟩
            | some er =>
              have he : errW (some er) = Value.iface 42 (.int .i64 er) := rfl
              simp only [he]
              clear he hE
              go_wp2_with fail
              go_meet
              exact ⟨l, p, A3, c3, GD, BM5, SB5, SR5⟩
          case rest =>
            obtain ⟨m, q, A6, c6, GDm, BM6, SB6, SR6⟩ := hcut
            clear KG TB5 RR5 SB5 SR5 BM5 hs ht n1 n2 BX TB SB0 BM0 SR0 HCl Hcc GD h4 HWS
            have h4m : m.length ≤ 4 := gdb_len GDm.out
            have HCm := Aside0.mk (Kd.R_reads' SR6.out).2.2
            have Hcm := Aside0.mk (Kd.R_reads' SR6.out).2.1
            obtain ⟨u, hu⟩ : ∃ u, u = (useL m q).1 := ⟨_, rfl⟩
            obtain ⟨v, hv⟩ : ∃ v, v = (againL m q a).1 := ⟨_, rfl⟩
            have HU := Aside0.mk hu
            have HV := Aside0.mk hv
            have KU := use_calls (c := c6) HCm.out q (by omega)
            rw [← hu, use_true GDm.out] at KU
            have KU := Aside0.mk KU
            clear hu hv
            have hs := ck2 SB6.out
            go_wp2_with fail
            refine KU.out.mono ?_
            rintro e w7 ⟨rfl, hb⟩
            have SB7 := Aside0.mk (q3 (blk_below SB6.out hb) (.cells #[.int .i64 u.f0.f0, .int .i64 u.f0.f1, .int .i64 u.f0.f2, .bool u.f0.f3, .int .i64 u.f1.f0, .int .i64 u.f1.f1, .int .i64 u.f1.f2, .int .i64 u.f2, .int .i64 u.f3, .int .u32 u.f4, .int .i64 u.f5] 34))
            have BM7 := Aside0.mk (b1 (below_step BM6.out hb) (.cells #[.int .i64 u.f0.f0, .int .i64 u.f0.f1, .int .i64 u.f0.f2, .bool u.f0.f3, .int .i64 u.f1.f0, .int .i64 u.f1.f1, .int .i64 u.f1.f2, .int .i64 u.f2, .int .i64 u.f3, .int .u32 u.f4, .int .i64 u.f5] 34))
            have SR7 := Aside0.mk (Kd.R_below SR6.out (b1 hb (.cells #[.int .i64 u.f0.f0, .int .i64 u.f0.f1, .int .i64 u.f0.f2, .bool u.f0.f3, .int .i64 u.f1.f0, .int .i64 u.f1.f1, .int .i64 u.f1.f2, .int .i64 u.f2, .int .i64 u.f3, .int .u32 u.f4, .int .i64 u.f5] 34)))
            have HC7 := Aside0.mk (Kd.C_below HCm.out (b1 hb (.cells #[.int .i64 u.f0.f0, .int .i64 u.f0.f1, .int .i64 u.f0.f2, .bool u.f0.f3, .int .i64 u.f1.f0, .int .i64 u.f1.f1, .int .i64 u.f1.f2, .int .i64 u.f2, .int .i64 u.f3, .int .u32 u.f4, .int .i64 u.f5] 34)))
            have UB7 := Aside0.mk (blk_new w7 (.cells #[.int .i64 u.f0.f0, .int .i64 u.f0.f1, .int .i64 u.f0.f2, .bool u.f0.f3, .int .i64 u.f1.f0, .int .i64 u.f1.f1, .int .i64 u.f1.f2, .int .i64 u.f2, .int .i64 u.f3, .int .u32 u.f4, .int .i64 u.f5] 34))
            have KV := again_calls (c := c6) HC7.out q a (by omega)
            rw [← HV.out, again_true a GDm.out] at KV
            have KV := Aside0.mk KV
            unfold cs34
            have he : errW (none : Option Int) = Value.nilIface := rfl
            simp only [he]
            clear he hb hs KU
            have hs := ck2 SB7.out
            go_wp2_with fail
            refine KV.out.mono ?_
            rintro e w8 ⟨rfl, hb⟩
            have SB8 := Aside0.mk (q3 (blk_below SB7.out hb) (.cells #[.int .i64 v.f0.f0, .int .i64 v.f0.f1, .int .i64 v.f0.f2, .bool v.f0.f3, .int .i64 v.f1.f0, .int .i64 v.f1.f1, .int .i64 v.f1.f2, .int .i64 v.f2, .int .i64 v.f3, .int .u32 v.f4, .int .i64 v.f5] 34))
            have BM8 := Aside0.mk (b1 (below_step BM7.out hb) (.cells #[.int .i64 v.f0.f0, .int .i64 v.f0.f1, .int .i64 v.f0.f2, .bool v.f0.f3, .int .i64 v.f1.f0, .int .i64 v.f1.f1, .int .i64 v.f1.f2, .int .i64 v.f2, .int .i64 v.f3, .int .u32 v.f4, .int .i64 v.f5] 34))
            have SR8 := Aside0.mk (Kd.R_below SR7.out (b1 hb (.cells #[.int .i64 v.f0.f0, .int .i64 v.f0.f1, .int .i64 v.f0.f2, .bool v.f0.f3, .int .i64 v.f1.f0, .int .i64 v.f1.f1, .int .i64 v.f1.f2, .int .i64 v.f2, .int .i64 v.f3, .int .u32 v.f4, .int .i64 v.f5] 34)))
            have HC8 := Aside0.mk (Kd.C_below HC7.out (b1 hb (.cells #[.int .i64 v.f0.f0, .int .i64 v.f0.f1, .int .i64 v.f0.f2, .bool v.f0.f3, .int .i64 v.f1.f0, .int .i64 v.f1.f1, .int .i64 v.f1.f2, .int .i64 v.f2, .int .i64 v.f3, .int .u32 v.f4, .int .i64 v.f5] 34)))
            have UB8 := Aside0.mk (q3 (blk_below UB7.out hb) (.cells #[.int .i64 v.f0.f0, .int .i64 v.f0.f1, .int .i64 v.f0.f2, .bool v.f0.f3, .int .i64 v.f1.f0, .int .i64 v.f1.f1, .int .i64 v.f1.f2, .int .i64 v.f2, .int .i64 v.f3, .int .u32 v.f4, .int .i64 v.f5] 34))
            have VB8 := Aside0.mk (blk_new w8 (.cells #[.int .i64 v.f0.f0, .int .i64 v.f0.f1, .int .i64 v.f0.f2, .bool v.f0.f3, .int .i64 v.f1.f0, .int .i64 v.f1.f1, .int .i64 v.f1.f2, .int .i64 v.f2, .int .i64 v.f3, .int .u32 v.f4, .int .i64 v.f5] 34))
            unfold cs34
            have he : errW (none : Option Int) = Value.nilIface := rfl
            simp only [he]
            clear he hb hs KV SB7 BM7 SR7 HC7 UB7
            obtain ⟨W8, hW8⟩ : ∃ W8, W8 = w8.alloc (.cells #[.int .i64 v.f0.f0, .int .i64 v.f0.f1, .int .i64 v.f0.f2, .bool v.f0.f3, .int .i64 v.f1.f0, .int .i64 v.f1.f1, .int .i64 v.f1.f2, .int .i64 v.f2, .int .i64 v.f3, .int .u32 v.f4, .int .i64 v.f5] 34) := ⟨_, rfl⟩
            have HW8 := Aside0.mk hW8
            have hs := ck2 SB8.out
            have hu8 := ck11 UB8.out
            rw [← hW8] at SB8 BM8 SR8 HC8 UB8 VB8 hs hu8
            clear hW8
            obtain ⟨nm, hnm⟩ : ∃ nm, nm = cnt m := ⟨_, rfl⟩
            have HNM := Aside0.mk hnm
            have hnl : nm ≤ 4 := by rw [hnm]; exact Nat.le_trans (cnt_le m) h4m
            obtain ⟨b, hb⟩ : ∃ b, b = decide (Ac u) := ⟨_, rfl⟩
            have hcb : decide (0 < (nm : Int)) = b := by
              have h := use_law GDm.out
              rw [← HU.out] at h
              rw [hb, hnm]
              refine decide_eq_decide.2 ⟨fun h2 => h.2 (by omega), fun h2 => ?_⟩
              have := h.1 h2
              omega
            have hcb2 : decide (0 < nm) = b := by rw [← hcb]; exact decide_eq_decide.2 (by omega)
            have hcb3 : (!b == b) = false := by cases b <;> rfl
            have hcb4 : (!b == decide (0 < nm)) = false := by rw [hcb2]; exact hcb3
            have KA := Aside0.mk (fun (W : World) => active_calls u W)
            rw [← hb] at KA
            unfold cs34 at KA
            have KG := Aside0.mk (fun (W : World) (h : Below W8.heap.size W8 W) => setgood_calls (c := c6) (Kd.C_below HC8.out h) q)
            rw [GDm.out] at KG
            have KC := Aside0.mk (fun (W : World) (h : Below W8.heap.size W8 W) => setactive_calls (c := c6) (Kd.C_below HC8.out h) Hcm.out (by omega) q)
            rw [show allL m q = m from by unfold allL; rw [if_pos GDm.out], ← hnm] at KC
            clear hb hnm
            go_upto_region 29 with fail
            rw [← HW8.out]
            have k1 := fun d os => ck2 (blk_regrown SB8.out d os)
            have k2 := fun d os => ck11 (blk_regrown UB8.out d os)
            clear hs hu8
            refine wp_region_quiet_below (by kernel_rfl) (by kernel_rfl) ?_
            repeat (quiet_step (first | exact Calls.regrown_of (KG.out _ (below_regrown W8 _ _)) | exact Calls.regrown_of (KA.out _) | exact Calls.regrown_of (KC.out _ (below_regrown W8 _ _))))
            refine wpQuiet_nil ?_
            intro _ hw'
            obtain ⟨⟨dq, osq⟩, hw''⟩ := hw'
            subst hw''
            have hgr := below_regrown W8 dq osq
            obtain ⟨W9, hW9⟩ : ∃ W9, W9 = grow (redrawn W8 dq) osq := ⟨_, rfl⟩
            rw [← hW9] at hgr ⊢
            have SB9 := Aside0.mk (blk_below SB8.out hgr)
            have BM9 := Aside0.mk (below_step BM8.out hgr)
            have SR9 := Aside0.mk (Kd.R_below SR8.out hgr)
            have HC9 := Aside0.mk (Kd.C_below HC8.out hgr)
            have VB9 := Aside0.mk (blk_below VB8.out hgr)
            clear hW9 hgr k1 k2 KG KA KC HW8 SB8 BM8 SR8 HC8 UB8 VB8
            have KY := get_calls (c := c6) HC9.out q a
            obtain ⟨y, hy⟩ : ∃ y, y = (getL m q a).1 := ⟨_, rfl⟩
            obtain ⟨ok, hok⟩ : ∃ ok, ok = (getL m q a).2 := ⟨_, rfl⟩
            rw [← hy, ← hok] at KY
            have KY := Aside0.mk KY
            have HY := Aside0.mk hy
            have HOK := Aside0.mk hok
            clear hy hok
            have hs := ck2 SB9.out
            go_wp2_with fail
            refine KY.out.mono ?_
            rintro e w10 ⟨rfl, hb⟩
            have SB10 := Aside0.mk (q3 (blk_below SB9.out hb) (.cells #[.int .i64 y.f0.f0, .int .i64 y.f0.f1, .int .i64 y.f0.f2, .bool y.f0.f3, .int .i64 y.f1.f0, .int .i64 y.f1.f1, .int .i64 y.f1.f2, .int .i64 y.f2, .int .i64 y.f3, .int .u32 y.f4, .int .i64 y.f5] 34))
            have BM10 := Aside0.mk (b1 (below_step BM9.out hb) (.cells #[.int .i64 y.f0.f0, .int .i64 y.f0.f1, .int .i64 y.f0.f2, .bool y.f0.f3, .int .i64 y.f1.f0, .int .i64 y.f1.f1, .int .i64 y.f1.f2, .int .i64 y.f2, .int .i64 y.f3, .int .u32 y.f4, .int .i64 y.f5] 34))
            have SR10 := Aside0.mk (Kd.R_below SR9.out (b1 hb (.cells #[.int .i64 y.f0.f0, .int .i64 y.f0.f1, .int .i64 y.f0.f2, .bool y.f0.f3, .int .i64 y.f1.f0, .int .i64 y.f1.f1, .int .i64 y.f1.f2, .int .i64 y.f2, .int .i64 y.f3, .int .u32 y.f4, .int .i64 y.f5] 34)))
            have HC10 := Aside0.mk (Kd.C_below HC9.out (b1 hb (.cells #[.int .i64 y.f0.f0, .int .i64 y.f0.f1, .int .i64 y.f0.f2, .bool y.f0.f3, .int .i64 y.f1.f0, .int .i64 y.f1.f1, .int .i64 y.f1.f2, .int .i64 y.f2, .int .i64 y.f3, .int .u32 y.f4, .int .i64 y.f5] 34)))
            have VB10 := Aside0.mk (q3 (blk_below VB9.out hb) (.cells #[.int .i64 y.f0.f0, .int .i64 y.f0.f1, .int .i64 y.f0.f2, .bool y.f0.f3, .int .i64 y.f1.f0, .int .i64 y.f1.f1, .int .i64 y.f1.f2, .int .i64 y.f2, .int .i64 y.f3, .int .u32 y.f4, .int .i64 y.f5] 34))
            have YB10 := Aside0.mk (blk_new w10 (.cells #[.int .i64 y.f0.f0, .int .i64 y.f0.f1, .int .i64 y.f0.f2, .bool y.f0.f3, .int .i64 y.f1.f0, .int .i64 y.f1.f1, .int .i64 y.f1.f2, .int .i64 y.f2, .int .i64 y.f3, .int .u32 y.f4, .int .i64 y.f5] 34))
            unfold cs34
            have KC := setactive_calls (c := c6) HC10.out Hcm.out (by omega) q
            rw [show allL m q = m from by unfold allL; rw [if_pos GDm.out], ← HNM.out] at KC
            have KC := Aside0.mk KC
            clear hb hs KY SB9 BM9 SR9 HC9 VB9
            have hs := ck2 SB10.out
            go_wp2_with fail
            refine KC.out.mono ?_
            rintro e w11 ⟨rfl, hb⟩
            have SB11 := Aside0.mk (blk_below SB10.out hb)
            have BM11 := Aside0.mk (below_step BM10.out hb)
            have SR11 := Aside0.mk (Kd.R_below SR10.out hb)
            have VB11 := Aside0.mk (blk_below VB10.out hb)
            have YB11 := Aside0.mk (blk_below YB10.out hb)
            clear hb hs KC SB10 BM10 SR10 HC10 VB10 YB10
            have hv11 := ck11 VB11.out
            have hy11 := ck11 YB11.out
            have KAy := Aside0.mk (active_calls y w11)
            unfold cs34 at KAy
            rcases fnd_at m q a with ⟨er, hf⟩ | ⟨i, hi, hf, _, _, hai⟩
            · have e1 : ok = false := by rw [HOK.out]; unfold getL; rw [hf]
              subst e1
              clear hf
              by_cases hva : v.f2 = a
              · have v1 : (v.f2 == a) = true := by rw [hva]; exact beq_self_eq_true a
                have v2 : (v.f2 != a) = false := by unfold bne; rw [v1]; rfl
                clear hva
                go_wp2_with fail
                go_roundw
                case rel => exact ⟨j + 1, m, q, A6, c6, by omega, by go_num, GDm, BM11, SB11, SR11⟩
                case measure => simp [intOf]; omega
              · have v1 : (v.f2 == a) = false := beq_eq_false_iff_ne.mpr hva
                have v2 : (v.f2 != a) = true := by unfold bne; rw [v1]; rfl
                clear hva
                go_wp2_with fail
                go_roundw
                case rel => exact ⟨j + 1, m, q, A6, c6, by omega, by go_num, GDm, BM11, SB11, SR11⟩
                case measure => simp [intOf]; omega
            · have e1 : ok = true := by rw [HOK.out]; unfold getL; rw [hf]
              have ey : y = m.getD i z34 := by rw [HY.out]; unfold getL; rw [hf]; rfl
              subst e1
              have HLaw := Aside0.mk (again_law GDm.out hi hf hai)
              rw [← ey, ← HV.out, ← HNM.out] at HLaw
              clear hf ey hai
              by_cases hay : Ac y
              · rw [decide_eq_true hay] at KAy
                rw [if_pos hay] at HLaw
                clear hay
                have hw1 : wrap64 ((nm : Int) - 1) = (nm : Int) - 1 := w64 (by omega) (by omega)
                have hw2 : IntKind.i64.wrap ((nm : Int) - 1) = (nm : Int) - 1 := by rw [IntKind.wrap_i64]; omega
                go_wp2_with fail
                refine KAy.out.mono ?_
                rintro e w12 ⟨rfl, hb⟩
                have SB12 := Aside0.mk (blk_below SB11.out hb)
                have BM12 := Aside0.mk (below_step BM11.out hb)
                have SR12 := Aside0.mk (Kd.R_below SR11.out hb)
                have VB12 := Aside0.mk (blk_below VB11.out hb)
                clear hb hv11 hy11
                have hv12 := ck11 VB12.out
                by_cases hva : v.f2 = a
                · have v1 : (v.f2 == a) = true := by rw [hva]; exact beq_self_eq_true a
                  have v2 : (v.f2 != a) = false := by unfold bne; rw [v1]; rfl
                  have v3 : ¬ (0 < (nm : Int) - 1) := fun h => HLaw.out.1.2 h hva
                  have v4 : ¬ (1 < (nm : Int)) := by omega
                  have v5 : decide (0 < (nm : Int) - 1) = false := decide_eq_false v3
                  clear hva
                  go_wp2_with fail
                  go_roundw
                  case rel => exact ⟨j + 1, m, q, A6, c6, by omega, by go_num, GDm, BM12, SB12, SR12⟩
                  case measure => simp [intOf]; omega
                · have v1 : (v.f2 == a) = false := beq_eq_false_iff_ne.mpr hva
                  have v2 : (v.f2 != a) = true := by unfold bne; rw [v1]; rfl
                  have v3 : 0 < (nm : Int) - 1 := HLaw.out.1.1 hva
                  have v4 : 1 < (nm : Int) := by omega
                  have v5 : decide (0 < (nm : Int) - 1) = true := decide_eq_true v3
                  have KAv := Aside0.mk (active_calls v w12)
                  rw [decide_eq_true (HLaw.out.2 hva)] at KAv
                  unfold cs34 at KAv
                  clear hva
                  go_wp2_with fail
                  refine KAv.out.mono ?_
                  rintro e w13 ⟨rfl, hb⟩
                  have SB13 := Aside0.mk (blk_below SB12.out hb)
                  have BM13 := Aside0.mk (below_step BM12.out hb)
                  have SR13 := Aside0.mk (Kd.R_below SR12.out hb)
                  clear hb
                  go_wp2_with fail
                  go_roundw
                  case rel => exact ⟨j + 1, m, q, A6, c6, by omega, by go_num, GDm, BM13, SB13, SR13⟩
                  case measure => simp [intOf]; omega
              · rw [decide_eq_false hay] at KAy
                rw [if_neg hay] at HLaw
                clear hay
                go_wp2_with fail
                refine KAy.out.mono ?_
                rintro e w12 ⟨rfl, hb⟩
                have SB12 := Aside0.mk (blk_below SB11.out hb)
                have BM12 := Aside0.mk (below_step BM11.out hb)
                have SR12 := Aside0.mk (Kd.R_below SR11.out hb)
                have VB12 := Aside0.mk (blk_below VB11.out hb)
                clear hb hv11 hy11
                have hv12 := ck11 VB12.out
                by_cases hva : v.f2 = a
                · have v1 : (v.f2 == a) = true := by rw [hva]; exact beq_self_eq_true a
                  have v2 : (v.f2 != a) = false := by unfold bne; rw [v1]; rfl
                  have v3 : ¬ (0 < (nm : Int) - 0) := fun h => HLaw.out.1.2 h hva
                  have v4 : ¬ (0 < (nm : Int)) := by omega
                  have v5 : decide (0 < (nm : Int) - 0) = false := decide_eq_false v3
                  obtain rfl : b = false := by rw [← hcb2]; exact decide_eq_false (by omega)
                  clear hva
                  go_wp2_with fail
                  go_roundw
                  case rel => exact ⟨j + 1, m, q, A6, c6, by omega, by go_num, GDm, BM12, SB12, SR12⟩
                  case measure => simp [intOf]; omega
                · have v1 : (v.f2 == a) = false := beq_eq_false_iff_ne.mpr hva
                  have v2 : (v.f2 != a) = true := by unfold bne; rw [v1]; rfl
                  have v3 : 0 < (nm : Int) - 0 := HLaw.out.1.1 hva
                  have v4 : 0 < (nm : Int) := by omega
                  have v5 : decide (0 < (nm : Int) - 0) = true := decide_eq_true v3
                  obtain rfl : b = true := by rw [← hcb2]; exact decide_eq_true (by omega)
                  have KAv := Aside0.mk (active_calls v w12)
                  rw [decide_eq_true (HLaw.out.2 hva)] at KAv
                  unfold cs34 at KAv
                  clear hva
                  go_wp2_with fail
                  refine KAv.out.mono ?_
                  rintro e w13 ⟨rfl, hb⟩
                  have SB13 := Aside0.mk (blk_below SB12.out hb)
                  have BM13 := Aside0.mk (below_step BM12.out hb)
                  have SR13 := Aside0.mk (Kd.R_below SR12.out hb)
                  clear hb
                  go_wp2_with fail
                  go_roundw
                  case rel => exact ⟨j + 1, m, q, A6, c6, by omega, by go_num, GDm, BM13, SB13, SR13⟩
                  case measure => simp [intOf]; omega
    · have hji : ¬ ((j : Int) < (l1.length : Int)) := by omega
      go_wp2_with fail
      go_ret
      exact ⟨rfl, BM.out⟩
end Go.Proofs.Ytblooffiggciiaa.Ps
/- PsAv -/
namespace Go.Proofs.Ytblooffiggciiaa.Ps
open Go.RowKit Go.Proofs.Ytblooffiggciiaa.PPs Go.Proofs.YtblooffiggciiaaW.PrintWords Go.Proofs.YtblooffiggciiaaW.PrintLast Go.Proofs.YtblooffiggciiaaW.PrintMore Go.Proofs.Ytblooffiggciiaa.Sh
set_option maxRecDepth 100000
attribute [local go_sem] Go.Proofs.Ytblooffiggciiaa.Aid.isSome_setCell
set_option maxHeartbeats 4000000 in
theorem keep_out {w : World} {A B : Option Addr} {c d : Nat} {l0 : List Int} {l1 : List (List Int)} (hC : Kd.C (Kd.int .i64) w A l0.length l0) (hh : (newL l0).2.2 ≠ none ∨ 60 < l1.length) :
    Calls Try.prog 10 #[.slice A l0.length c, .slice B l1.length d] w fun e w' => e = .returned (.bool true) ∧ Below w.heap.size w w' := by
  have HA := Aside0.mk (alive_calls w)
  obtain ⟨r0, hr0⟩ : ∃ r, r = newL l0 := ⟨_, rfl⟩
  have HN := Aside0.mk (fun (W : World) (hb : Below w.heap.size w W) => (by
    have h := setnew_calls (w := W) (c := c) (Kd.C_below hC hb)
    rw [← hr0] at h
    exact h : Calls Try.prog 39 #[.slice A l0.length c] W (SetR W r0.1 r0.2.1 r0.2.2)))
  have HH := Aside0.mk (show r0.2.2 ≠ none ∨ 60 < l1.length by rw [hr0]; exact hh)
  clear hC hr0 hh
  go_enter Try.func10, Try.ntmps10
  go_wp2_with fail
  refine HA.out.mono ?_
  rintro e w1 ⟨rfl, hb⟩
  have HB1 := Aside0.mk hb
  clear hb HA
  go_wp2_with fail
  refine (HN.out _ HB1.out).mono ?_
  rintro e w2 ⟨v, rfl, hR, hb⟩
  obtain ⟨A2, c2, rfl⟩ := Kd.R_slice hR
  have HB2 := Aside0.mk (b1 (below_step HB1.out hb) (.cells #[.slice A2 r0.1.length c2, .int .i64 r0.2.1] 70))
  clear hb hR HN
  cases hE : r0.2.2 with
  | none =>
    have hl2 : 60 < (l1.length : Int) := by
      rcases HH.out with h | h
      · exact absurd hE h
      · omega
    have he : errW (none : Option Int) = Value.nilIface := rfl
    simp only [he]
    clear he hE
    go_wp2_with fail
    go_ret
    exact ⟨rfl, HB2.out⟩
  | some er =>
    have he : errW (some er) = Value.iface 42 (.int .i64 er) := rfl
    simp only [he]
    clear he hE
    go_wp2_with fail
    go_ret
    exact ⟨rfl, HB2.out⟩
theorem pathsKeep_walk (W : World) (A0 : Option Addr) (c0 : Nat) (l0 : (List Int)) (A1 : Option Addr) (c1 : Nat) (l1 : (List (List Int))) (hc0 : l0.length ≤ c0) (hr0 : Kd.C (Kd.int .i64) W A0 l0.length l0) (w0 : (∀ zl0 ∈ l0, (Lit.int .i64 zl0).wf = true)) (hc1 : l1.length ≤ c1) (hr1 : Kd.C (Kd.arr 2 (Kd.int .i64) (by decide)) W A1 l1.length l1) (w1 : (∀ zl1 ∈ l1, (∀ zzl1 ∈ zl1, (Lit.int .i64 zzl1).wf = true))) :
    Calls Try.prog 10 #[.slice A0 l0.length c0, .slice A1 l1.length c1] W fun e w' => e = .returned (.bool true) ∧ Below W.heap.size W w' := by
  by_cases h : (newL l0).2.2 = none ∧ l1.length ≤ 60
  · exact keep_in hr0 hr1 h.1 h.2
  · exact keep_out hr0 (by
      by_cases h1 : (newL l0).2.2 = none
      · right; exact Nat.lt_of_not_le (fun h2 => h ⟨h1, h2⟩)
      · left; exact h1)
end Go.Proofs.Ytblooffiggciiaa.Ps
/- Opn -/
namespace Go.Proofs.Ytblooffiggciiaa.Opn
open Go.RowKit Go.Deep Go.WideShapes Go.ChangeShapes Go.Proofs.YtblooffiggciiaaW.PrintWords
def Opn (P : Program) (w : World) (T : TypeId) {α : Type} (d : Kd α) (wf : α → Prop) : Prop :=
  ∀ {H : Type} {enc : TypeId × Value → H} {base : Nat} {spare : Nat → Bool} {held : Bool} {fuel : Nat} {cs : List Value} {y : DataW H × List MemPlace},
    DataW.trod enc P w base spare held fuel T cs = some y → ∃ x, d.K w x cs ∧ wf x

section
variable {P : Program} {w : World} {T e : TypeId} {α β : Type}
theorem int {k : IntKind} (hu : P.underlying T = some (.int k)) : Opn P w T (Kd.int k) (fun x => (Lit.int k x).wf = true) := by
  intro H enc base spare held fuel cs y h
  obtain ⟨n, rfl, _, wn⟩ := DataW.trod_int hu h
  exact ⟨n, rfl, wn⟩
theorem bool (hu : P.underlying T = some .bool) : Opn P w T Kd.bool (fun _ => True) := by
  intro H enc base spare held fuel cs y h
  obtain ⟨n, rfl, _⟩ := DataW.trod_bool hu h
  exact ⟨n, rfl, trivial⟩
theorem list_of {p : Nat → α → Prop} : ∀ (n : Nat), (∀ i, i < n → ∃ x, p i x) → ∃ xs : List α, xs.length = n ∧ ∀ i x, xs[i]? = some x → p i x
  | 0, _ => ⟨[], rfl, fun i x h => by simp at h⟩
  | n + 1, h => by
    obtain ⟨xs, hl, hp⟩ := list_of n (fun i hi => h i (by omega))
    obtain ⟨x, hx⟩ := h n (by omega)
    refine ⟨xs ++ [x], by simp [hl], fun i y hy => ?_⟩
    by_cases hi : i < xs.length
    · rw [List.getElem?_append_left hi] at hy; exact hp i y hy
    · rw [List.getElem?_append_right (by omega)] at hy
      have h0 : i - xs.length = 0 := by
        rcases Nat.eq_zero_or_pos (i - xs.length) with h' | h'
        · exact h'
        · rw [List.getElem?_eq_none (by simp; omega)] at hy; cases hy
      rw [h0] at hy
      simp at hy
      subst hy
      obtain rfl : i = n := by omega
      exact hx

theorem slice {q : Nat} {d : Kd α} {wf : α → Prop} (hu : P.underlying T = some (.slice e)) (hs : P.cellsOf e = d.sz) (he : Opn P w e d wf) :
    Opn P w T (Kd.slice q d) (fun xs => ∀ x ∈ xs, wf x) := by
  intro H enc base spare held fuel cs y h
  rcases open_slice hu h with ⟨rfl, rfl⟩ | ⟨a, len, cap, m, n, D, Pl, rfl, hb, hl, hm, hmm, rfl, hx⟩
  · exact ⟨[], ⟨none, 0, rfl, Nat.le_refl _, rfl, by simp, fun h => absurd h (Nat.lt_irrefl 0)⟩, by simp⟩
  · have hlm : len ≤ m := by rw [hmm]; split <;> omega
    obtain ⟨xs, hlen, hp⟩ := list_of (p := fun i x => (∃ cs', w.cells? base (a.add (i * P.cellsOf e)) (P.cellsOf e) = some cs' ∧ d.K w x cs') ∧ wf x) len (fun i hi => by
      obtain ⟨cs', h1, h2⟩ := hx i (by omega)
      obtain ⟨x, hk, hw⟩ := he h2
      exact ⟨x, ⟨cs', h1, hk⟩, hw⟩)
    refine ⟨xs, ⟨some a, cap, by rw [hlen], by omega, rfl, by unfold maxLen at hm; omega, fun _ => ⟨a, rfl, fun j x hj => ?_⟩⟩, fun x hx' => ?_⟩
    · obtain ⟨⟨cs', h1, hk⟩, _⟩ := hp j x hj
      refine ⟨cs', d.K_len hk, hk, fun i u hu' => ?_⟩
      obtain ⟨_, hl2, hc⟩ := World.cells?_some h1
      have hi : i < cs'.length := by
        rcases Nat.lt_or_ge i cs'.length with h' | h'
        · exact h'
        · rw [List.getElem?_eq_none h'] at hu'; cases hu'
      have := hc i (by omega)
      rw [Deep.add_add, hs] at this
      rw [this]; exact hu'
    · obtain ⟨i, hi⟩ := List.getElem?_of_mem hx'
      exact (hp i x hi).2

theorem array {n : Nat} {d : Kd α} {wf : α → Prop} (hp : 0 < d.sz) (hu : P.underlying T = some (.array n e)) (hs : P.cellsOf e = d.sz) (hT : P.cellsOf T = n * d.sz) (he : Opn P w e d wf) :
    Opn P w T (Kd.arr n d hp) (fun xs => ∀ x ∈ xs, wf x) := by
  intro H enc base spare held fuel cs y h
  obtain ⟨xs, m, rfl, rfl, hl, hlen, hf⟩ := DataW.trod_array hu h
  obtain ⟨zs, hz, hp⟩ := list_of (p := fun i x => d.K w x ((cs.drop (i * d.sz)).take d.sz) ∧ wf x) n (fun i hi => by
    have h0 := hf i hi
    rw [List.getElem?_eq_getElem (by omega), hs] at h0
    exact he h0)
  refine ⟨zs, ⟨hz, by rw [hl, hT, hz], fun m p hm => (hp m p hm).1⟩, fun x hx => ?_⟩
  obtain ⟨i, hi⟩ := List.getElem?_of_mem hx
  exact (hp i x hi).2
end
end Go.Proofs.Ytblooffiggciiaa.Opn
/- RowPathsKeep -/
namespace Go.Proofs.Ytblooffiggciiaa.pathsKeep
open Go.ChangeShapes Go.WideShapes Go.ChangeAt Go.RowKit Go.Proofs.YtblooffiggciiaaW.PrintWords
open Go.ChangeMaps (open_string shut_string)
theorem own : ownKnob Try.prog.godebug = none := by kernel_rfl
theorem laidOut : laidOutB Try.prog = true := by kernel_rfl
theorem opn67 {W : World} : Opn.Opn Try.prog W 67 (Kd.slice 26 (Kd.int .i64)) (fun x => (∀ zx ∈ x, (Lit.int .i64 zx).wf = true)) := Opn.slice Try.underlying67 (by kernel_rfl) (Opn.int Try.underlying26)
theorem opn56 {W : World} : Opn.Opn Try.prog W 56 (Kd.arr 2 (Kd.int .i64) (by decide)) (fun x => (∀ zx ∈ x, (Lit.int .i64 zx).wf = true)) := Opn.array (by decide) Try.underlying56 (by kernel_rfl) (by kernel_rfl) (Opn.int Try.underlying3)
theorem opn55 {W : World} : Opn.Opn Try.prog W 55 (Kd.slice 56 (Kd.arr 2 (Kd.int .i64) (by decide))) (fun x => (∀ zx ∈ x, (∀ zzx ∈ zx, (Lit.int .i64 zzx).wf = true))) := Opn.slice Try.underlying55 (by kernel_rfl) opn56
set_option maxRecDepth 100000 in
theorem lifted (os : Os) (started : os.Started) (H : Type) (enc : TypeId × Value → H) :
    ReturnsInHanded {} Try.checked os 10 .any (Rows.pathsKeepSpec.pre6 enc Try.prog Try.f10 Rows.pathsKeepRow.domain false) (Rows.pathsKeepSpec.post enc Try.prog Try.f10 false true false false) := by
  refine returnsInHanded_of_change_sized (C := Try.checked) own started (by kernel_rfl) Try.func10
    (ChangeSpec.witness6 (enc := enc) (C := Try.checked) false ⟨#[], #[.slice none 0 0, .slice none 0 0], []⟩ 8 (by kernel_rfl) (by kernel_rfl) (by kernel_rfl) (by kernel_rfl)) ?_
  intro W base args ds gs before hval0 hW hcnd hsz0 _
  have hval : ∀ (j : Nat) t v, Try.f10.params[j]? = some t → args[j]? = some v → Value.okWide Try.prog W .any base t v := hval0
  have hW' := hW
  obtain ⟨p, q, hA0, hV, rfl, hfz, hnd⟩ := hW
  have hA : DataW.TrodAll enc Try.prog W 0 (fun _ => true) true Try.f10.params.toList args.toList ds p := hA0
  rw [Try.params10] at hA hval
  obtain ⟨v0, vs0, d0, ds0, p0, q0, hargs, rfl, rfl, h0, r0⟩ := trodAll_cons hA
  obtain ⟨v1, vs1, d1, ds1, p1, q1, rfl, rfl, rfl, h1, r1⟩ := trodAll_cons r0
  obtain ⟨rfl, rfl, rfl⟩ := trodAll_nil r1
  obtain rfl : args = #[v0, v1] := by cases args; simp_all
  obtain ⟨rfl, rfl⟩ := trodVars_none hV
  have kk0 := h0
  have lt0 : ∀ x ∈ p0, x.block < W.heap.size := by obtain ⟨m, hm⟩ := kk0; exact DataW.trod_lt m _ _ _ hm
  obtain ⟨a0, len0, cap0, rfl⟩ := okWide_slice Try.underlying67 (hval 0 67 v0 rfl rfl)
  obtain ⟨fu0, hf0⟩ := h0
  obtain ⟨l0, ⟨A0, c0, he0, hc0, hr0⟩, w0⟩ := opn67 hf0
  simp only [Value.cells, List.cons.injEq, and_true, Value.slice.injEq] at he0
  obtain ⟨rfl, rfl, rfl⟩ := he0
  have kk1 := h1
  have lt1 : ∀ x ∈ p1, x.block < W.heap.size := by obtain ⟨m, hm⟩ := kk1; exact DataW.trod_lt m _ _ _ hm
  obtain ⟨a1, len1, cap1, rfl⟩ := okWide_slice Try.underlying55 (hval 1 55 v1 rfl rfl)
  obtain ⟨fu1, hf1⟩ := h1
  obtain ⟨l1, ⟨A1, c1, he1, hc1, hr1⟩, w1⟩ := opn55 hf1
  simp only [Value.cells, List.cons.injEq, and_true, Value.slice.injEq] at he1
  obtain ⟨rfl, rfl, rfl⟩ := he1
  clear hA0 hval0 hsz0
  refine (Ps.pathsKeep_walk W _ _ l0 _ _ l1 hc0 hr0 w0 hc1 hr1 w1).mono fun e W' ⟨he, bel⟩ => ?_
  subst he
  exact ⟨_, rfl, _, _, _, [], _, [], hW', trodAll_mk1 (shut_bool Try.underlying4 _), (trodAll_cons_mk (Below.trod laidOut (by kernel_rfl) (of_decide_eq_true (by kernel_rfl)) kk0 bel lt0) (trodAll_cons_mk (Below.trod laidOut (by kernel_rfl) (of_decide_eq_true (by kernel_rfl)) kk1 bel lt1) trodAll_mk0)), rfl, bel.frame _, fun h => by cases h⟩
theorem over : Rows.pathsKeepRow.holds Try.pinned (OpenSpec.ofChange Rows.pathsKeepSpec) :=
  OpenClaim.holds_of_wide 10 Try.f10 rfl rfl rfl rfl rfl rfl rfl ⟨rfl, rfl, rfl, rfl, rfl⟩ rfl rfl rfl rfl rfl (by kernel_rfl) Try.func10 (by kernel_rfl)
    (of_decide_eq_true (by kernel_rfl)) (by unfold Func.isWrapper; first | (rw [if_pos (by decide +kernel)]; kernel_rfl) | (rw [if_neg (by decide +kernel)]; exact ⟨rfl, rfl⟩))
    (fun os started H enc _ => lifted os started H enc)
end Go.Proofs.Ytblooffiggciiaa.pathsKeep
namespace Go.Proofs.Ytblooffiggciiaa
theorem pathsKeep_holds : Rows.PathsKeepSaid := pathsKeep.over
#print axioms pathsKeep_holds
end Go.Proofs.Ytblooffiggciiaa
