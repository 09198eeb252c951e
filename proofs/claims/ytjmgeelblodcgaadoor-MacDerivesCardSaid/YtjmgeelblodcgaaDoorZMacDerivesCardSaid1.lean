/- MacDerivesCardSaid: part 1 of its proof: printed functions and their contracts, plain laws. -/
import Derived.Test.YtjmgeelblodcgaaDoorZMacDerivesCardSaid0
import Derived.BigQuiet
import Derived.Deep.QuietTactic
import Derived.Test.YtjmgeelblodcgaaDoorRows
import Derived.Lib.LaidTab
import Derived.LaidMore
import Derived.Stop.LaidErr
import Derived.Lib.MakeNoZero
import Derived.Laws.CopyOwn
import Derived.Deep.RegionLaw
import Derived.Laws.Externs
import Derived.Laws.BitsAllLaws
import Derived.Test.YtjmgeelblodcgaaDoorProg
import Derived.Below
import Derived.Deep.Draws
import Derived.Deep.AppendLies
import Derived.Maps.AppendAt
import Derived.OwnWalk
import Derived.Laws.BytesArg
import Derived.Laws.MakeOwn
import Derived.Laws.OwnMore
import Derived.Deep.OwnRows
import Derived.Tactics
import Derived.Lib.ConvBytes
import Derived.Laws.Slices
import Derived.WalkKit
import Derived.KernelRfl
import Derived.RowKit3
import Derived.Deep.LoopGhost
import Derived.WideLaws
import Derived.Deep.DeepCutAuto
import Derived.Deep.CutBlock
import Derived.Deep.RegionHeld3
import Derived.Laws.Rows
import Derived.Lib.AppendStr
import Derived.ArgAppend
import Derived.Laws.IdiomCopy
import Derived.OrdersHeld
import Derived.Laws.BitsLemmas
import Derived.RowKit
import Derived.Test.YtjmgeelblodcgaaDoorWWords
import Derived.Test.YtjmgeelblodcgaaDoorWLast
import Derived.Test.YtjmgeelblodcgaaDoorWTab
import Derived.Test.YtjmgeelblodcgaaDoorWFour
import Derived.Test.YtjmgeelblodcgaaDoorWQPut
import Derived.Test.YtjmgeelblodcgaaDoorWApart
import Derived.Test.YtjmgeelblodcgaaDoorWArr
import Derived.Test.YtjmgeelblodcgaaDoorWZeros
import Derived.Test.YtjmgeelblodcgaaDoorWFoot
import Derived.Test.YtjmgeelblodcgaaDoorWKept
import Derived.Test.YtjmgeelblodcgaaDoorWShare
import Derived.Test.YtjmgeelblodcgaaDoorWN
import Derived.Test.YtjmgeelblodcgaaDoorWFootNe
import Derived.Test.YtjmgeelblodcgaaDoorWAt
import Derived.Test.YtjmgeelblodcgaaDoorWEqStruct
import Derived.Test.YtjmgeelblodcgaaDoorWRepsOne
import Derived.Test.YtjmgeelblodcgaaDoorWInv
import Derived.Test.YtjmgeelblodcgaaDoorWInvWords
import Derived.Test.YtjmgeelblodcgaaDoorWGuard
import Derived.Test.YtjmgeelblodcgaaDoorWNEv
import Derived.Test.YtjmgeelblodcgaaDoorWMore
import Derived.Lib.BytesEntry
/- PAllx2 -/
namespace Go.Proofs.YtjmgeelblodcgaaDoor.PAll
open Go.RowKit Go.Proofs.YtjmgeelblodcgaaDoorW.PrintWords Go.Proofs.YtjmgeelblodcgaaDoorW.PrintLast Go.Proofs.YtjmgeelblodcgaaDoorW.PrintMore
attribute [local go_sem] max2_int min2_int max_two min_two max_three min_three max_four min_four   -- for this text's walks alone
attribute [local go_sem] Go.Proofs.YtjmgeelblodcgaaDoor.Aid.isSome_setCell
set_option linter.unusedVariables false
set_option linter.unusedSimpArgs false
mutual
def weftlineref04_words.l0 : Nat → List Int → List Int → Int → Option (List Int)
  | 0, _, _, _ => none
  | k + 1, x0, x3, x4 => if x4 < 16 then (if 0 ≤ (wrap64 (4 * x4)) then (if (wrap64 (4 * x4)) < (x0.length : Int) then (if 0 ≤ (wrap64 ((wrap64 (4 * x4)) + 1)) then (if (wrap64 ((wrap64 (4 * x4)) + 1)) < (x0.length : Int) then (if 0 ≤ (wrap64 ((wrap64 (4 * x4)) + 2)) then (if (wrap64 ((wrap64 (4 * x4)) + 2)) < (x0.length : Int) then (if 0 ≤ (wrap64 ((wrap64 (4 * x4)) + 3)) then (if (wrap64 ((wrap64 (4 * x4)) + 3)) < (x0.length : Int) then (if x3.length < 35184372088832 then (weftlineref04_words.l0 k x0 (x3 ++ [(((((((((((((rd x0 (wrap64 (4 * x4))) % 4294967296) * 256) % 4294967296) + ((rd x0 (wrap64 ((wrap64 (4 * x4)) + 1))) % 4294967296)) % 4294967296) * 256) % 4294967296) + ((rd x0 (wrap64 ((wrap64 (4 * x4)) + 2))) % 4294967296)) % 4294967296) * 256) % 4294967296) + ((rd x0 (wrap64 ((wrap64 (4 * x4)) + 3))) % 4294967296)) % 4294967296]) (wrap64 (x4 + 1))) else (none)) else (none)) else (none)) else (none)) else (none)) else (none)) else (none)) else (none)) else (none)) else (weftlineref04_words.l1 k x3 16)
def weftlineref04_words.l1 : Nat → List Int → Int → Option (List Int)
  | 0, _, _ => none
  | k + 1, x3, x5 => if x5 < 64 then (if 0 ≤ (wrap64 (x5 - 15)) then (if (wrap64 (x5 - 15)) < (x3.length : Int) then (if 0 ≤ (wrap64 (x5 - 2)) then (if (wrap64 (x5 - 2)) < (x3.length : Int) then ((weftlineref04_turn.f (rd x3 (wrap64 (x5 - 15))) 7).bind fun t149 => ((weftlineref04_turn.f (rd x3 (wrap64 (x5 - 15))) 18).bind fun t150 => ((weftlineref04_turn.f (rd x3 (wrap64 (x5 - 2))) 17).bind fun t151 => ((weftlineref04_turn.f (rd x3 (wrap64 (x5 - 2))) 19).bind fun t152 => (if 0 ≤ (wrap64 (x5 - 16)) then (if (wrap64 (x5 - 16)) < (x3.length : Int) then (if 0 ≤ (wrap64 (x5 - 7)) then (if (wrap64 (x5 - 7)) < (x3.length : Int) then (if x3.length < 35184372088832 then (weftlineref04_words.l1 k (x3 ++ [((((((rd x3 (wrap64 (x5 - 16))) + (Go.bits .xor .u32 (Go.bits .xor .u32 t149 t150) ((Int.tdiv (rd x3 (wrap64 (x5 - 15))) 8) % 4294967296))) % 4294967296) + (rd x3 (wrap64 (x5 - 7)))) % 4294967296) + (Go.bits .xor .u32 (Go.bits .xor .u32 t151 t152) ((Int.tdiv (rd x3 (wrap64 (x5 - 2))) 1024) % 4294967296))) % 4294967296]) (wrap64 (x5 + 1))) else (none)) else (none)) else (none)) else (none)) else (none)))))) else (none)) else (none)) else (none)) else (none)) else (some x3)
end
def weftlineref04_words.f (k : Nat) (l0 : List Int) : Option (List Int) := weftlineref04_words.l0 k l0 ([] : List Int) 0
def weftlineref04_words.T5 : Bool × List (List Nat × List Nat) := (true, [([], []), ([], []), ([], []), ([2], [2]), ([1, 3], [1, 3]), ([4], [4]), ([5], [5]), ([6], [6]), ([], []), ([], []), ([9], [9]), ([10], [10]), ([8, 11], [8, 11]), ([12], [12]), ([13], [13]), ([7, 14], [7, 14]), ([15], [15]), ([], []), ([], []), ([18], [18]), ([19], [19]), ([17, 20], [17, 20]), ([21], [21]), ([22], [22]), ([16, 23], [16, 23]), ([24], [24]), ([], []), ([], []), ([27], [27]), ([28], [28]), ([26, 29], [26, 29]), ([30], [30]), ([31], [31]), ([25, 32], [25, 32]), ([33], [33]), ([0, 34], [0, 34]), ([35, 35, 0, 1, 2, 3, 4, 5, 6, 7, 8, 9, 10, 11, 12, 13, 14, 15, 16, 17, 18, 19, 20, 21, 22, 23, 24, 25, 26, 27, 28, 29, 30, 31, 32, 33, 34, 35], [0, 35])])
def weftlineref04_words.B5 : List Nat := [0, 0, 0, 4, 14, 30, 62, 126, 0, 0, 512, 1536, 3840, 7936, 16128, 32766, 65534, 0, 0, 262144, 786432, 1966080, 4063232, 8257536, 16777214, 33554430, 0, 0, 134217728, 402653184, 1006632960, 2080374784, 4227858432, 8589934590, 17179869182, 34359738367, 68719476735]
theorem weftlineref04_words.tab5 : rtab .any (opsOf Tryd.f27 5) = weftlineref04_words.T5 := by kernel_rfl
theorem weftlineref04_words.bits5 : waitsOk weftlineref04_words.T5.2 weftlineref04_words.B5 = true := by kernel_rfl
def weftlineref04_words.T9 : Bool × List (List Nat × List Nat) := (true, [([], []), ([], []), ([1], [1]), ([0, 2], [0, 2]), ([3], [3]), ([], []), ([], []), ([6], [6]), ([5, 7], [5, 7]), ([8], [8]), ([4, 0, 1, 2, 3, 4], [4]), ([9, 10, 0, 1, 2, 3, 4, 5, 6, 7, 8, 9, 10], [9])])
def weftlineref04_words.B9 : List Nat := [0, 0, 2, 7, 15, 0, 0, 64, 224, 480, 31, 2047]
theorem weftlineref04_words.tab9 : rtab .any (opsOf Tryd.f27 9) = weftlineref04_words.T9 := by kernel_rfl
theorem weftlineref04_words.bits9 : waitsOk weftlineref04_words.T9.2 weftlineref04_words.B9 = true := by kernel_rfl
def weftlineref04_words.T12 : Bool × List (List Nat × List Nat) := (true, [([], []), ([], []), ([], []), ([2], [2]), ([1, 3], [1, 3]), ([4], [4]), ([], []), ([5, 6], [5, 6]), ([], []), ([], []), ([9], [9]), ([8, 10], [8, 10]), ([11], [11]), ([7, 12], [7, 12]), ([], []), ([13, 14], [13, 14]), ([15], [15]), ([0, 16], [0, 16]), ([17, 17, 0, 1, 2, 3, 4, 5, 6, 7, 8, 9, 10, 11, 12, 13, 14, 15, 16, 17], [0, 1, 8, 17])])
def weftlineref04_words.B12 : List Nat := [0, 0, 0, 4, 14, 30, 0, 126, 0, 0, 512, 1792, 3840, 8190, 0, 32766, 65534, 131071, 262143]
theorem weftlineref04_words.tab12 : rtab .any (opsOf Tryd.f27 12) = weftlineref04_words.T12 := by kernel_rfl
theorem weftlineref04_words.bits12 : waitsOk weftlineref04_words.T12.2 weftlineref04_words.B12 = true := by kernel_rfl
set_option maxHeartbeats 8000000 in
set_option maxRecDepth 100000 in
theorem weftlineref04_words.calls (k : Nat) (A0 : Option Addr) (c0 : Nat) (l0 : List Int) (r : List Int) (w : World) (hr0 : Kd.C (Kd.int .u8) w A0 l0.length l0) (hc0 : l0.length ≤ c0) (h : weftlineref04_words.f k l0 = some r) :
    Calls Tryd.prog 27 #[.slice A0 l0.length c0] w fun e w' => ∃ v0_ : Value, e = .returned (v0_) ∧ Kd.R (Kd.int .u32) 45 w' w.heap.size (fun _ => True) v0_ r ∧ Below w.heap.size w w' := by
  have HR0 := Aside0.mk hr0
  have HC0 := Aside0.mk hc0
  clear hr0 hc0
  have HB := Aside0.mk (Below.refl w.heap.size w)
  have H : (weftlineref04_words.l0 k l0 ([] : List Int) 0) = some r := h
  clear h
  have H' := Aside0.mk H
  clear H
  go_enter Tryd.func27, Tryd.ntmps27
  go_wp2
  go_loopg [3, 4] k (fun kq v3 v4 w' => ∃ (x3_1 : List Int) (x4_1 : Int), v4 = .int .i64 x4_1 ∧ Aside0 (weftlineref04_words.l0 kq l0 x3_1 x4_1 = some r) ∧ Aside0 (kq ≤ k) ∧ Aside0 (Kd.R (Kd.int .u32) 45 w' w.heap.size (fun _ => True) v3 x3_1) ∧ Aside0 (Below w.heap.size w w'))
  case atStart => exact ⟨(([] : List Int)), (0), (by first | rfl | (simp; done) | (simp [*]; done)), H', ⟨Nat.le_refl _⟩, ⟨by first | exact Kd.R_nil _ _ _ _ _ | exact Kd.N_nil _ _ _ _ _ | exact Kd.V_nil _ _ _ _ _ | exact Kd.Q_nil _ _ _ _ _ | exact Kd.S_nil _ _ _ _ _⟩, ⟨by repeat (first | (with_reducible first | exact HB.out | apply below_alloc | apply pw_below_drewN | apply below_drew1) | exact HB.out)⟩⟩
  case round =>
    clear H'
    obtain ⟨x3_1, x4_1, rfl, HA, HK1, HO_3, HB⟩ := hrel
    cases gk with
    | zero => exact absurd HA.out (by simp [weftlineref04_words.l0])
    | succ k1 =>
      have H := HA.out
      clear HA
      simp only [weftlineref04_words.l0] at H
      by_cases c2 : x4_1 < 16
      · rw [if_pos c2] at H
        have c2b0 : decide (x4_1 < 16) = true := decide_eq_true c2
        clear c2
        obtain ⟨ji3, hji3⟩ : ∃ j_ : Int, (wrap64 (4 * x4_1)) = j_ := ⟨_, rfl⟩
        replace H : (if 0 ≤ (ji3) then (if (ji3) < (l0.length : Int) then (if 0 ≤ (wrap64 ((ji3) + 1)) then (if (wrap64 ((ji3) + 1)) < (l0.length : Int) then (if 0 ≤ (wrap64 ((ji3) + 2)) then (if (wrap64 ((ji3) + 2)) < (l0.length : Int) then (if 0 ≤ (wrap64 ((ji3) + 3)) then (if (wrap64 ((ji3) + 3)) < (l0.length : Int) then (if x3_1.length < 35184372088832 then (weftlineref04_words.l0 k1 l0 (x3_1 ++ [(((((((((((((rd l0 (ji3)) % 4294967296) * 256) % 4294967296) + ((rd l0 (wrap64 ((ji3) + 1))) % 4294967296)) % 4294967296) * 256) % 4294967296) + ((rd l0 (wrap64 ((ji3) + 2))) % 4294967296)) % 4294967296) * 256) % 4294967296) + ((rd l0 (wrap64 ((ji3) + 3))) % 4294967296)) % 4294967296]) (wrap64 (x4_1 + 1))) else (none)) else (none)) else (none)) else (none)) else (none)) else (none)) else (none)) else (none)) else (none)) = some r := by first | (rw [hji3] at H; exact H) | (simp only [hji3] at H ⊢; exact H)
        have hji3w : (IntKind.i64.wrap (4 * x4_1)) = ji3 := (i64_w _).trans hji3
        by_cases c4 : 0 ≤ (ji3)
        · rw [if_pos c4] at H
          have c4b0 : decide (0 ≤ (ji3)) = true := decide_eq_true c4
          clear c4
          by_cases c5 : (ji3) < (l0.length : Int)
          · rw [if_pos c5] at H
            have c5b0 : decide ((ji3) < (l0.length : Int)) = true := decide_eq_true c5
            clear c5
            obtain ⟨ji6, hji6⟩ : ∃ j_ : Int, (wrap64 ((ji3) + 1)) = j_ := ⟨_, rfl⟩
            replace H : (if 0 ≤ (ji6) then (if (ji6) < (l0.length : Int) then (if 0 ≤ (wrap64 ((ji3) + 2)) then (if (wrap64 ((ji3) + 2)) < (l0.length : Int) then (if 0 ≤ (wrap64 ((ji3) + 3)) then (if (wrap64 ((ji3) + 3)) < (l0.length : Int) then (if x3_1.length < 35184372088832 then (weftlineref04_words.l0 k1 l0 (x3_1 ++ [(((((((((((((rd l0 (ji3)) % 4294967296) * 256) % 4294967296) + ((rd l0 (ji6)) % 4294967296)) % 4294967296) * 256) % 4294967296) + ((rd l0 (wrap64 ((ji3) + 2))) % 4294967296)) % 4294967296) * 256) % 4294967296) + ((rd l0 (wrap64 ((ji3) + 3))) % 4294967296)) % 4294967296]) (wrap64 (x4_1 + 1))) else (none)) else (none)) else (none)) else (none)) else (none)) else (none)) else (none)) = some r := by first | (rw [hji6] at H; exact H) | (simp only [hji6] at H ⊢; exact H)
            have hji6w : (IntKind.i64.wrap ((ji3) + 1)) = ji6 := (i64_w _).trans hji6
            by_cases c7 : 0 ≤ (ji6)
            · rw [if_pos c7] at H
              have c7b0 : decide (0 ≤ (ji6)) = true := decide_eq_true c7
              clear c7
              by_cases c8 : (ji6) < (l0.length : Int)
              · rw [if_pos c8] at H
                have c8b0 : decide ((ji6) < (l0.length : Int)) = true := decide_eq_true c8
                clear c8
                obtain ⟨ji9, hji9⟩ : ∃ j_ : Int, (wrap64 ((ji3) + 2)) = j_ := ⟨_, rfl⟩
                replace H : (if 0 ≤ (ji9) then (if (ji9) < (l0.length : Int) then (if 0 ≤ (wrap64 ((ji3) + 3)) then (if (wrap64 ((ji3) + 3)) < (l0.length : Int) then (if x3_1.length < 35184372088832 then (weftlineref04_words.l0 k1 l0 (x3_1 ++ [(((((((((((((rd l0 (ji3)) % 4294967296) * 256) % 4294967296) + ((rd l0 (ji6)) % 4294967296)) % 4294967296) * 256) % 4294967296) + ((rd l0 (ji9)) % 4294967296)) % 4294967296) * 256) % 4294967296) + ((rd l0 (wrap64 ((ji3) + 3))) % 4294967296)) % 4294967296]) (wrap64 (x4_1 + 1))) else (none)) else (none)) else (none)) else (none)) else (none)) = some r := by first | (rw [hji9] at H; exact H) | (simp only [hji9] at H ⊢; exact H)
                have hji9w : (IntKind.i64.wrap ((ji3) + 2)) = ji9 := (i64_w _).trans hji9
                by_cases c10 : 0 ≤ (ji9)
                · rw [if_pos c10] at H
                  have c10b0 : decide (0 ≤ (ji9)) = true := decide_eq_true c10
                  clear c10
                  by_cases c11 : (ji9) < (l0.length : Int)
                  · rw [if_pos c11] at H
                    have c11b0 : decide ((ji9) < (l0.length : Int)) = true := decide_eq_true c11
                    clear c11
                    obtain ⟨ji12, hji12⟩ : ∃ j_ : Int, (wrap64 ((ji3) + 3)) = j_ := ⟨_, rfl⟩
                    replace H : (if 0 ≤ (ji12) then (if (ji12) < (l0.length : Int) then (if x3_1.length < 35184372088832 then (weftlineref04_words.l0 k1 l0 (x3_1 ++ [(((((((((((((rd l0 (ji3)) % 4294967296) * 256) % 4294967296) + ((rd l0 (ji6)) % 4294967296)) % 4294967296) * 256) % 4294967296) + ((rd l0 (ji9)) % 4294967296)) % 4294967296) * 256) % 4294967296) + ((rd l0 (ji12)) % 4294967296)) % 4294967296]) (wrap64 (x4_1 + 1))) else (none)) else (none)) else (none)) = some r := by first | (rw [hji12] at H; exact H) | (simp only [hji12] at H ⊢; exact H)
                    have hji12w : (IntKind.i64.wrap ((ji3) + 3)) = ji12 := (i64_w _).trans hji12
                    by_cases c13 : 0 ≤ (ji12)
                    · rw [if_pos c13] at H
                      have c13b0 : decide (0 ≤ (ji12)) = true := decide_eq_true c13
                      clear c13
                      by_cases c14 : (ji12) < (l0.length : Int)
                      · rw [if_pos c14] at H
                        have c14b0 : decide ((ji12) < (l0.length : Int)) = true := decide_eq_true c14
                        clear c14
                        by_cases c15 : x3_1.length < 35184372088832
                        · rw [if_pos c15] at H
                          have LMc15 := Aside0.mk c15
                          clear c15
                          obtain ⟨y144, hy144⟩ : ∃ y_ : List Int, y_ = (x3_1 ++ [(((((((((((((rd l0 (ji3)) % 4294967296) * 256) % 4294967296) + ((rd l0 (ji6)) % 4294967296)) % 4294967296) * 256) % 4294967296) + ((rd l0 (ji9)) % 4294967296)) % 4294967296) * 256) % 4294967296) + ((rd l0 (ji12)) % 4294967296)) % 4294967296]) := ⟨_, rfl⟩
                          replace H : (weftlineref04_words.l0 k1 l0 y144 (wrap64 (x4_1 + 1))) = some r := by first | (rw [hy144]; with_reducible exact H) | (have H2_ := (Option.bind_some _ _).symm.trans H; rw [hy144]; with_reducible exact H2_) | (have H2_ := (Option.bind_some _ _).symm.trans H; with_reducible exact H2_) | with_reducible exact H | (rw [hy144]; exact H) | exact H
                          have Ny144 := Aside0.mk hy144
                          clear hy144
                          have H' := Aside0.mk H
                          clear H
                          try go_wp2
                          have n0_ := Aside0.mk (Kd.R_drew HO_3.out)
                          have n1_ := Aside0.mk (below_drew1 HB.out)
                          clear HO_3
                          clear HB
                          have HO_3 := n0_
                          have HB := n1_
                          clear n0_ n1_
                          have p140 : 0 ≤ ((ji3) : Int) := of_decide_eq_true (by first | (with_reducible assumption) | assumption)
                          have q140 : (ji3) < (l0.length : Int) := of_decide_eq_true (by first | (with_reducible assumption) | assumption)
                          obtain ⟨ad140, e140, hx140_0⟩ := Kd.at_int HR0.out (ji3) p140 q140
                          have hw140_0 := hx140_0
                          cases e140
                          replace hx140_0 := (HB.out.cell (World.block_lt_of_cell? w _ hx140_0)).trans hx140_0
                          replace p140 := eq_true p140
                          replace q140 := eq_true q140
                          have p141 : 0 ≤ ((ji6) : Int) := of_decide_eq_true (by first | (with_reducible assumption) | assumption)
                          have q141 : (ji6) < (l0.length : Int) := of_decide_eq_true (by first | (with_reducible assumption) | assumption)
                          obtain ⟨ad141, e141, hx141_0⟩ := Kd.at_int HR0.out (ji6) p141 q141
                          have hw141_0 := hx141_0
                          obtain rfl : ad140 = ad141 := (by injection e141)
                          replace hx141_0 := (HB.out.cell (World.block_lt_of_cell? w _ hx141_0)).trans hx141_0
                          replace p141 := eq_true p141
                          replace q141 := eq_true q141
                          have p142 : 0 ≤ ((ji9) : Int) := of_decide_eq_true (by first | (with_reducible assumption) | assumption)
                          have q142 : (ji9) < (l0.length : Int) := of_decide_eq_true (by first | (with_reducible assumption) | assumption)
                          obtain ⟨ad142, e142, hx142_0⟩ := Kd.at_int HR0.out (ji9) p142 q142
                          have hw142_0 := hx142_0
                          obtain rfl : ad140 = ad142 := (by injection e142)
                          replace hx142_0 := (HB.out.cell (World.block_lt_of_cell? w _ hx142_0)).trans hx142_0
                          replace p142 := eq_true p142
                          replace q142 := eq_true q142
                          have p143 : 0 ≤ ((ji12) : Int) := of_decide_eq_true (by first | (with_reducible assumption) | assumption)
                          have q143 : (ji12) < (l0.length : Int) := of_decide_eq_true (by first | (with_reducible assumption) | assumption)
                          obtain ⟨ad143, e143, hx143_0⟩ := Kd.at_int HR0.out (ji12) p143 q143
                          have hw143_0 := hx143_0
                          obtain rfl : ad140 = ad143 := (by injection e143)
                          replace hx143_0 := (HB.out.cell (World.block_lt_of_cell? w _ hx143_0)).trans hx143_0
                          replace p143 := eq_true p143
                          replace q143 := eq_true q143
                          refine start_ (n := 37) (S := fun w' => w'.cell? (ad140.add ((ji3)).toNat) = some (.int .u8 (rd l0 (ji3))) ∧ w'.cell? (ad140.add ((ji6)).toNat) = some (.int .u8 (rd l0 (ji6))) ∧ w'.cell? (ad140.add ((ji9)).toNat) = some (.int .u8 (rd l0 (ji9))) ∧ w'.cell? (ad140.add ((ji12)).toNat) = some (.int .u8 (rd l0 (ji12)))) (ds := []) #[false, false, false, false, false, false, false, false, false, false, false, false, false, false, false, false, false, false, false, false, false, false, false, false, false, false, false, false, false, false, false, false, false, false, false, false, false] (by kernel_rfl) rfl rfl ⟨((HB.out.cell (World.block_lt_of_cell? w _ hw140_0)).trans hw140_0), ((HB.out.cell (World.block_lt_of_cell? w _ hw141_0)).trans hw141_0), ((HB.out.cell (World.block_lt_of_cell? w _ hw142_0)).trans hw142_0), ((HB.out.cell (World.block_lt_of_cell? w _ hw143_0)).trans hw143_0)⟩ (fun hHeld => ?_); refine with_tabW weftlineref04_words.tab5 weftlineref04_words.bits5 (fun HT_ HW_ => ?_)
                          generalize wr.drew = w16 at HO_3 HB hx140_0 hx141_0 hx142_0 hx143_0 hHeld ⊢
                          refine pure_ (i := 0) (N := some 14) (v := ?_) (a' := ?_) #[true, false, false, false, false, false, false, false, false, false, false, false, false, false, false, false, false, false, false, false, false, false, false, false, false, false, false, false, false, false, false, false, false, false, false, false, false] rfl rfl (any_of HT_.out (by kernel_rfl)) (fun _ _ _ h => h) (Or.inl ⟨by rfl, ?_⟩) ?_ ?_
                          rotate_left
                          · intro w'
                            go_simp
                            with_reducible rfl
                          rotate_left
                          · simp only [Act.put, List.setIfInBounds_toArray, List.set_cons_zero, List.set_cons_succ, i64_w, i32_w]
                            rfl
                          refine pure_ (i := 1) (N := some 15) (v := ?_) (a' := ?_) #[true, true, false, false, false, false, false, false, false, false, false, false, false, false, false, false, false, false, false, false, false, false, false, false, false, false, false, false, false, false, false, false, false, false, false, false, false] rfl rfl (any_of HT_.out (by kernel_rfl)) (fun _ _ _ h => h) (Or.inl ⟨by rfl, ?_⟩) ?_ ?_
                          rotate_left
                          · intro w'
                            go_simp
                            with_reducible rfl
                          rotate_left
                          · simp only [Act.put, List.setIfInBounds_toArray, List.set_cons_zero, List.set_cons_succ, i64_w, i32_w]
                            rfl
                          refine pure_ (i := 2) (N := some 16) (v := ?_) (a' := ?_) #[true, true, true, false, false, false, false, false, false, false, false, false, false, false, false, false, false, false, false, false, false, false, false, false, false, false, false, false, false, false, false, false, false, false, false, false, false] rfl rfl (any_of HT_.out (by kernel_rfl)) (fun _ _ _ h => h) (Or.inl ⟨by rfl, ?_⟩) ?_ ?_
                          rotate_left
                          · intro w'
                            go_simp
                            with_reducible rfl
                          rotate_left
                          · simp only [Act.put, List.setIfInBounds_toArray, List.set_cons_zero, List.set_cons_succ, i64_w, i32_w]
                            rfl
                          refine pure_ (i := 3) (N := some 17) (v := ?_) (a' := ?_) #[true, true, true, true, false, false, false, false, false, false, false, false, false, false, false, false, false, false, false, false, false, false, false, false, false, false, false, false, false, false, false, false, false, false, false, false, false] rfl rfl (any_of HT_.out (by kernel_rfl)) (fun _ _ _ h => h) (Or.inl ⟨by rfl, ?_⟩) ?_ ?_
                          rotate_left
                          · intro w'
                            go_simp
                            with_reducible rfl
                          rotate_left
                          · simp only [Act.put, List.setIfInBounds_toArray, List.set_cons_zero, List.set_cons_succ, i64_w, i32_w]
                            rfl
                          refine pure_ (i := 4) (N := some 18) (v := ?_) (a' := ?_) #[true, true, true, true, true, false, false, false, false, false, false, false, false, false, false, false, false, false, false, false, false, false, false, false, false, false, false, false, false, false, false, false, false, false, false, false, false] rfl rfl (any_of HT_.out (by kernel_rfl)) (fun _ _ _ h => h) (Or.inl ⟨by rfl, ?_⟩) ?_ ?_
                          rotate_left
                          · intro w'
                            go_simp
                            with_reducible rfl
                          rotate_left
                          · simp only [Act.put, List.setIfInBounds_toArray, List.set_cons_zero, List.set_cons_succ, i64_w, i32_w]
                            rfl
                          refine pure_ (i := 8) (N := some 22) (v := ?_) (a' := ?_) #[true, true, true, true, true, false, false, false, true, false, false, false, false, false, false, false, false, false, false, false, false, false, false, false, false, false, false, false, false, false, false, false, false, false, false, false, false] rfl rfl (any_of HT_.out (by kernel_rfl)) (fun _ _ _ h => h) (Or.inl ⟨by rfl, ?_⟩) ?_ ?_
                          rotate_left
                          · intro w'
                            go_simp
                            with_reducible rfl
                          rotate_left
                          · simp only [Act.put, List.setIfInBounds_toArray, List.set_cons_zero, List.set_cons_succ, i64_w, i32_w]
                            rfl
                          refine pure_ (i := 9) (N := some 23) (v := ?_) (a' := ?_) #[true, true, true, true, true, false, false, false, true, true, false, false, false, false, false, false, false, false, false, false, false, false, false, false, false, false, false, false, false, false, false, false, false, false, false, false, false] rfl rfl (any_of HT_.out (by kernel_rfl)) (fun _ _ _ h => h) (Or.inl ⟨by rfl, ?_⟩) ?_ ?_
                          rotate_left
                          · intro w'
                            go_simp
                            with_reducible rfl
                          rotate_left
                          · simp only [Act.put, List.setIfInBounds_toArray, List.set_cons_zero, List.set_cons_succ, i64_w, i32_w]
                            rfl
                          refine pure_ (i := 10) (N := some 24) (v := ?_) (a' := ?_) #[true, true, true, true, true, false, false, false, true, true, true, false, false, false, false, false, false, false, false, false, false, false, false, false, false, false, false, false, false, false, false, false, false, false, false, false, false] rfl rfl (any_of HT_.out (by kernel_rfl)) (fun _ _ _ h => h) (Or.inl ⟨by rfl, ?_⟩) ?_ ?_
                          rotate_left
                          · intro w'
                            go_simp
                            with_reducible rfl
                          rotate_left
                          · simp only [Act.put, List.setIfInBounds_toArray, List.set_cons_zero, List.set_cons_succ, i64_w, i32_w]
                            rfl
                          refine pure_ (i := 11) (N := some 25) (v := ?_) (a' := ?_) #[true, true, true, true, true, false, false, false, true, true, true, true, false, false, false, false, false, false, false, false, false, false, false, false, false, false, false, false, false, false, false, false, false, false, false, false, false] rfl rfl (any_of HT_.out (by kernel_rfl)) (fun _ _ _ h => h) (Or.inl ⟨by rfl, ?_⟩) ?_ ?_
                          rotate_left
                          · intro w'
                            go_simp
                            with_reducible rfl
                          rotate_left
                          · simp only [Act.put, List.setIfInBounds_toArray, List.set_cons_zero, List.set_cons_succ, i64_w, i32_w]
                            rfl
                          refine pure_ (i := 12) (N := some 26) (v := ?_) (a' := ?_) #[true, true, true, true, true, false, false, false, true, true, true, true, true, false, false, false, false, false, false, false, false, false, false, false, false, false, false, false, false, false, false, false, false, false, false, false, false] rfl rfl (any_of HT_.out (by kernel_rfl)) (fun _ _ _ h => h) (Or.inl ⟨by rfl, ?_⟩) ?_ ?_
                          rotate_left
                          · intro w'
                            go_simp
                            with_reducible rfl
                          rotate_left
                          · simp only [Act.put, List.setIfInBounds_toArray, List.set_cons_zero, List.set_cons_succ, i64_w, i32_w]
                            rfl
                          refine pure_ (i := 17) (N := some 31) (v := ?_) (a' := ?_) #[true, true, true, true, true, false, false, false, true, true, true, true, true, false, false, false, false, true, false, false, false, false, false, false, false, false, false, false, false, false, false, false, false, false, false, false, false] rfl rfl (any_of HT_.out (by kernel_rfl)) (fun _ _ _ h => h) (Or.inl ⟨by rfl, ?_⟩) ?_ ?_
                          rotate_left
                          · intro w'
                            go_simp
                            with_reducible rfl
                          rotate_left
                          · simp only [Act.put, List.setIfInBounds_toArray, List.set_cons_zero, List.set_cons_succ, i64_w, i32_w]
                            rfl
                          refine pure_ (i := 18) (N := some 32) (v := ?_) (a' := ?_) #[true, true, true, true, true, false, false, false, true, true, true, true, true, false, false, false, false, true, true, false, false, false, false, false, false, false, false, false, false, false, false, false, false, false, false, false, false] rfl rfl (any_of HT_.out (by kernel_rfl)) (fun _ _ _ h => h) (Or.inl ⟨by rfl, ?_⟩) ?_ ?_
                          rotate_left
                          · intro w'
                            go_simp
                            with_reducible rfl
                          rotate_left
                          · simp only [Act.put, List.setIfInBounds_toArray, List.set_cons_zero, List.set_cons_succ, i64_w, i32_w]
                            rfl
                          refine pure_ (i := 19) (N := some 33) (v := ?_) (a' := ?_) #[true, true, true, true, true, false, false, false, true, true, true, true, true, false, false, false, false, true, true, true, false, false, false, false, false, false, false, false, false, false, false, false, false, false, false, false, false] rfl rfl (any_of HT_.out (by kernel_rfl)) (fun _ _ _ h => h) (Or.inl ⟨by rfl, ?_⟩) ?_ ?_
                          rotate_left
                          · intro w'
                            go_simp
                            with_reducible rfl
                          rotate_left
                          · simp only [Act.put, List.setIfInBounds_toArray, List.set_cons_zero, List.set_cons_succ, i64_w, i32_w]
                            rfl
                          refine pure_ (i := 20) (N := some 34) (v := ?_) (a' := ?_) #[true, true, true, true, true, false, false, false, true, true, true, true, true, false, false, false, false, true, true, true, true, false, false, false, false, false, false, false, false, false, false, false, false, false, false, false, false] rfl rfl (any_of HT_.out (by kernel_rfl)) (fun _ _ _ h => h) (Or.inl ⟨by rfl, ?_⟩) ?_ ?_
                          rotate_left
                          · intro w'
                            go_simp
                            with_reducible rfl
                          rotate_left
                          · simp only [Act.put, List.setIfInBounds_toArray, List.set_cons_zero, List.set_cons_succ, i64_w, i32_w]
                            rfl
                          refine pure_ (i := 21) (N := some 35) (v := ?_) (a' := ?_) #[true, true, true, true, true, false, false, false, true, true, true, true, true, false, false, false, false, true, true, true, true, true, false, false, false, false, false, false, false, false, false, false, false, false, false, false, false] rfl rfl (any_of HT_.out (by kernel_rfl)) (fun _ _ _ h => h) (Or.inl ⟨by rfl, ?_⟩) ?_ ?_
                          rotate_left
                          · intro w'
                            go_simp
                            with_reducible rfl
                          rotate_left
                          · simp only [Act.put, List.setIfInBounds_toArray, List.set_cons_zero, List.set_cons_succ, i64_w, i32_w]
                            rfl
                          refine pure_ (i := 26) (N := some 40) (v := ?_) (a' := ?_) #[true, true, true, true, true, false, false, false, true, true, true, true, true, false, false, false, false, true, true, true, true, true, false, false, false, false, true, false, false, false, false, false, false, false, false, false, false] rfl rfl (any_of HT_.out (by kernel_rfl)) (fun _ _ _ h => h) (Or.inl ⟨by rfl, ?_⟩) ?_ ?_
                          rotate_left
                          · intro w'
                            go_simp
                            with_reducible rfl
                          rotate_left
                          · simp only [Act.put, List.setIfInBounds_toArray, List.set_cons_zero, List.set_cons_succ, i64_w, i32_w]
                            rfl
                          refine pure_ (i := 27) (N := some 41) (v := ?_) (a' := ?_) #[true, true, true, true, true, false, false, false, true, true, true, true, true, false, false, false, false, true, true, true, true, true, false, false, false, false, true, true, false, false, false, false, false, false, false, false, false] rfl rfl (any_of HT_.out (by kernel_rfl)) (fun _ _ _ h => h) (Or.inl ⟨by rfl, ?_⟩) ?_ ?_
                          rotate_left
                          · intro w'
                            go_simp
                            with_reducible rfl
                          rotate_left
                          · simp only [Act.put, List.setIfInBounds_toArray, List.set_cons_zero, List.set_cons_succ, i64_w, i32_w]
                            rfl
                          refine pure_ (i := 28) (N := some 42) (v := ?_) (a' := ?_) #[true, true, true, true, true, false, false, false, true, true, true, true, true, false, false, false, false, true, true, true, true, true, false, false, false, false, true, true, true, false, false, false, false, false, false, false, false] rfl rfl (any_of HT_.out (by kernel_rfl)) (fun _ _ _ h => h) (Or.inl ⟨by rfl, ?_⟩) ?_ ?_
                          rotate_left
                          · intro w'
                            go_simp
                            with_reducible rfl
                          rotate_left
                          · simp only [Act.put, List.setIfInBounds_toArray, List.set_cons_zero, List.set_cons_succ, i64_w, i32_w]
                            rfl
                          refine pure_ (i := 29) (N := some 43) (v := ?_) (a' := ?_) #[true, true, true, true, true, false, false, false, true, true, true, true, true, false, false, false, false, true, true, true, true, true, false, false, false, false, true, true, true, true, false, false, false, false, false, false, false] rfl rfl (any_of HT_.out (by kernel_rfl)) (fun _ _ _ h => h) (Or.inl ⟨by rfl, ?_⟩) ?_ ?_
                          rotate_left
                          · intro w'
                            go_simp
                            with_reducible rfl
                          rotate_left
                          · simp only [Act.put, List.setIfInBounds_toArray, List.set_cons_zero, List.set_cons_succ, i64_w, i32_w]
                            rfl
                          refine pure_ (i := 30) (N := some 44) (v := ?_) (a' := ?_) #[true, true, true, true, true, false, false, false, true, true, true, true, true, false, false, false, false, true, true, true, true, true, false, false, false, false, true, true, true, true, true, false, false, false, false, false, false] rfl rfl (any_of HT_.out (by kernel_rfl)) (fun _ _ _ h => h) (Or.inl ⟨by rfl, ?_⟩) ?_ ?_
                          rotate_left
                          · intro w'
                            go_simp
                            with_reducible rfl
                          rotate_left
                          · simp only [Act.put, List.setIfInBounds_toArray, List.set_cons_zero, List.set_cons_succ, i64_w, i32_w]
                            rfl
                          refine take_ (i := 5) (N := some 19) (v := ?_) (a' := ?_) #[true, true, true, true, true, true, false, false, true, true, true, true, true, false, false, false, false, true, true, true, true, true, false, false, false, false, true, true, true, true, true, false, false, false, false, false, false] rfl rfl (take_ofW HT_.out HW_.out (by kernel_rfl)) (fun _ _ _ h => h) (Or.inl ⟨by rfl, ?_⟩) hHeld ?_ ?_
                          rotate_left
                          · rintro w' ⟨s0, s1, s2, s3⟩
                            go_simp
                            with_reducible rfl
                          rotate_left
                          · simp only [Act.put, List.setIfInBounds_toArray, List.set_cons_zero, List.set_cons_succ, i64_w, i32_w]
                            rfl
                          refine pure_ (i := 6) (N := some 20) (v := ?_) (a' := ?_) #[true, true, true, true, true, true, true, false, true, true, true, true, true, false, false, false, false, true, true, true, true, true, false, false, false, false, true, true, true, true, true, false, false, false, false, false, false] rfl rfl (any_of HT_.out (by kernel_rfl)) (fun _ _ _ h => h) (Or.inl ⟨by rfl, ?_⟩) ?_ ?_
                          rotate_left
                          · intro w'
                            go_simp
                            with_reducible rfl
                          rotate_left
                          · simp only [Act.put, List.setIfInBounds_toArray, List.set_cons_zero, List.set_cons_succ, i64_w, i32_w]
                            rfl
                          refine pure_ (i := 7) (N := some 21) (v := ?_) (a' := ?_) #[true, true, true, true, true, true, true, true, true, true, true, true, true, false, false, false, false, true, true, true, true, true, false, false, false, false, true, true, true, true, true, false, false, false, false, false, false] rfl rfl (any_of HT_.out (by kernel_rfl)) (fun _ _ _ h => h) (Or.inl ⟨by rfl, ?_⟩) ?_ ?_
                          rotate_left
                          · intro w'
                            go_simp
                            with_reducible rfl
                          rotate_left
                          · simp only [Act.put, List.setIfInBounds_toArray, List.set_cons_zero, List.set_cons_succ, i64_w, i32_w]
                            rfl
                          refine take_ (i := 13) (N := some 27) (v := ?_) (a' := ?_) #[true, true, true, true, true, true, true, true, true, true, true, true, true, true, false, false, false, true, true, true, true, true, false, false, false, false, true, true, true, true, true, false, false, false, false, false, false] rfl rfl (take_ofW HT_.out HW_.out (by kernel_rfl)) (fun _ _ _ h => h) (Or.inl ⟨by rfl, ?_⟩) hHeld ?_ ?_
                          rotate_left
                          · rintro w' ⟨s0, s1, s2, s3⟩
                            go_simp
                            with_reducible rfl
                          rotate_left
                          · simp only [Act.put, List.setIfInBounds_toArray, List.set_cons_zero, List.set_cons_succ, i64_w, i32_w]
                            rfl
                          refine pure_ (i := 14) (N := some 28) (v := ?_) (a' := ?_) #[true, true, true, true, true, true, true, true, true, true, true, true, true, true, true, false, false, true, true, true, true, true, false, false, false, false, true, true, true, true, true, false, false, false, false, false, false] rfl rfl (any_of HT_.out (by kernel_rfl)) (fun _ _ _ h => h) (Or.inl ⟨by rfl, ?_⟩) ?_ ?_
                          rotate_left
                          · intro w'
                            go_simp
                            with_reducible rfl
                          rotate_left
                          · simp only [Act.put, List.setIfInBounds_toArray, List.set_cons_zero, List.set_cons_succ, i64_w, i32_w]
                            rfl
                          refine pure_ (i := 15) (N := some 29) (v := ?_) (a' := ?_) #[true, true, true, true, true, true, true, true, true, true, true, true, true, true, true, true, false, true, true, true, true, true, false, false, false, false, true, true, true, true, true, false, false, false, false, false, false] rfl rfl (any_of HT_.out (by kernel_rfl)) (fun _ _ _ h => h) (Or.inl ⟨by rfl, ?_⟩) ?_ ?_
                          rotate_left
                          · intro w'
                            go_simp
                            with_reducible rfl
                          rotate_left
                          · simp only [Act.put, List.setIfInBounds_toArray, List.set_cons_zero, List.set_cons_succ, i64_w, i32_w]
                            rfl
                          refine pure_ (i := 16) (N := some 30) (v := ?_) (a' := ?_) #[true, true, true, true, true, true, true, true, true, true, true, true, true, true, true, true, true, true, true, true, true, true, false, false, false, false, true, true, true, true, true, false, false, false, false, false, false] rfl rfl (any_of HT_.out (by kernel_rfl)) (fun _ _ _ h => h) (Or.inl ⟨by rfl, ?_⟩) ?_ ?_
                          rotate_left
                          · intro w'
                            go_simp
                            with_reducible rfl
                          rotate_left
                          · simp only [Act.put, List.setIfInBounds_toArray, List.set_cons_zero, List.set_cons_succ, i64_w, i32_w]
                            rfl
                          refine take_ (i := 22) (N := some 36) (v := ?_) (a' := ?_) #[true, true, true, true, true, true, true, true, true, true, true, true, true, true, true, true, true, true, true, true, true, true, true, false, false, false, true, true, true, true, true, false, false, false, false, false, false] rfl rfl (take_ofW HT_.out HW_.out (by kernel_rfl)) (fun _ _ _ h => h) (Or.inl ⟨by rfl, ?_⟩) hHeld ?_ ?_
                          rotate_left
                          · rintro w' ⟨s0, s1, s2, s3⟩
                            go_simp
                            with_reducible rfl
                          rotate_left
                          · simp only [Act.put, List.setIfInBounds_toArray, List.set_cons_zero, List.set_cons_succ, i64_w, i32_w]
                            rfl
                          refine pure_ (i := 23) (N := some 37) (v := ?_) (a' := ?_) #[true, true, true, true, true, true, true, true, true, true, true, true, true, true, true, true, true, true, true, true, true, true, true, true, false, false, true, true, true, true, true, false, false, false, false, false, false] rfl rfl (any_of HT_.out (by kernel_rfl)) (fun _ _ _ h => h) (Or.inl ⟨by rfl, ?_⟩) ?_ ?_
                          rotate_left
                          · intro w'
                            go_simp
                            with_reducible rfl
                          rotate_left
                          · simp only [Act.put, List.setIfInBounds_toArray, List.set_cons_zero, List.set_cons_succ, i64_w, i32_w]
                            rfl
                          refine pure_ (i := 24) (N := some 38) (v := ?_) (a' := ?_) #[true, true, true, true, true, true, true, true, true, true, true, true, true, true, true, true, true, true, true, true, true, true, true, true, true, false, true, true, true, true, true, false, false, false, false, false, false] rfl rfl (any_of HT_.out (by kernel_rfl)) (fun _ _ _ h => h) (Or.inl ⟨by rfl, ?_⟩) ?_ ?_
                          rotate_left
                          · intro w'
                            go_simp
                            with_reducible rfl
                          rotate_left
                          · simp only [Act.put, List.setIfInBounds_toArray, List.set_cons_zero, List.set_cons_succ, i64_w, i32_w]
                            rfl
                          refine pure_ (i := 25) (N := some 39) (v := ?_) (a' := ?_) #[true, true, true, true, true, true, true, true, true, true, true, true, true, true, true, true, true, true, true, true, true, true, true, true, true, true, true, true, true, true, true, false, false, false, false, false, false] rfl rfl (any_of HT_.out (by kernel_rfl)) (fun _ _ _ h => h) (Or.inl ⟨by rfl, ?_⟩) ?_ ?_
                          rotate_left
                          · intro w'
                            go_simp
                            with_reducible rfl
                          rotate_left
                          · simp only [Act.put, List.setIfInBounds_toArray, List.set_cons_zero, List.set_cons_succ, i64_w, i32_w]
                            rfl
                          refine take_ (i := 31) (N := some 45) (v := ?_) (a' := ?_) #[true, true, true, true, true, true, true, true, true, true, true, true, true, true, true, true, true, true, true, true, true, true, true, true, true, true, true, true, true, true, true, true, false, false, false, false, false] rfl rfl (take_ofW HT_.out HW_.out (by kernel_rfl)) (fun _ _ _ h => h) (Or.inl ⟨by rfl, ?_⟩) hHeld ?_ ?_
                          rotate_left
                          · rintro w' ⟨s0, s1, s2, s3⟩
                            go_simp
                            with_reducible rfl
                          rotate_left
                          · simp only [Act.put, List.setIfInBounds_toArray, List.set_cons_zero, List.set_cons_succ, i64_w, i32_w]
                            rfl
                          refine pure_ (i := 32) (N := some 46) (v := ?_) (a' := ?_) #[true, true, true, true, true, true, true, true, true, true, true, true, true, true, true, true, true, true, true, true, true, true, true, true, true, true, true, true, true, true, true, true, true, false, false, false, false] rfl rfl (any_of HT_.out (by kernel_rfl)) (fun _ _ _ h => h) (Or.inl ⟨by rfl, ?_⟩) ?_ ?_
                          rotate_left
                          · intro w'
                            go_simp
                            with_reducible rfl
                          rotate_left
                          · simp only [Act.put, List.setIfInBounds_toArray, List.set_cons_zero, List.set_cons_succ, i64_w, i32_w]
                            rfl
                          refine pure_ (i := 33) (N := some 47) (v := ?_) (a' := ?_) #[true, true, true, true, true, true, true, true, true, true, true, true, true, true, true, true, true, true, true, true, true, true, true, true, true, true, true, true, true, true, true, true, true, true, false, false, false] rfl rfl (any_of HT_.out (by kernel_rfl)) (fun _ _ _ h => h) (Or.inl ⟨by rfl, ?_⟩) ?_ ?_
                          rotate_left
                          · intro w'
                            go_simp
                            with_reducible rfl
                          rotate_left
                          · simp only [Act.put, List.setIfInBounds_toArray, List.set_cons_zero, List.set_cons_succ, i64_w, i32_w]
                            rfl
                          refine one_ (i := 34) (N := some 48) #[true, true, true, true, true, true, true, true, true, true, true, true, true, true, true, true, true, true, true, true, true, true, true, true, true, true, true, true, true, true, true, true, true, true, true, false, false] rfl rfl (one_of HT_.out (by kernel_rfl)) (by decide) (fun K hK => ?_)
                          refine value_ (w1 := ?_) (v := ?_) (by rfl) rfl ?_ ?_
                          rotate_left 2
                          · go_simp
                            constructor
                            · rfl
                            · rfl
                          refine hK.out _ _ ⟨(World.cell?_alloc_lt _ _ _ (World.block_lt_of_cell? _ _ (((HB.out.cell (World.block_lt_of_cell? w _ hw140_0)).trans hw140_0)))).trans (((HB.out.cell (World.block_lt_of_cell? w _ hw140_0)).trans hw140_0)), (World.cell?_alloc_lt _ _ _ (World.block_lt_of_cell? _ _ (((HB.out.cell (World.block_lt_of_cell? w _ hw141_0)).trans hw141_0)))).trans (((HB.out.cell (World.block_lt_of_cell? w _ hw141_0)).trans hw141_0)), (World.cell?_alloc_lt _ _ _ (World.block_lt_of_cell? _ _ (((HB.out.cell (World.block_lt_of_cell? w _ hw142_0)).trans hw142_0)))).trans (((HB.out.cell (World.block_lt_of_cell? w _ hw142_0)).trans hw142_0)), (World.cell?_alloc_lt _ _ _ (World.block_lt_of_cell? _ _ (((HB.out.cell (World.block_lt_of_cell? w _ hw143_0)).trans hw143_0)))).trans (((HB.out.cell (World.block_lt_of_cell? w _ hw143_0)).trans hw143_0))⟩ (fun hHeld => ?_)
                          clear hK K
                          refine norm_ (a' := ?_) ?_ ?_
                          rotate_left
                          · show Act.put _ (some 48) _ = _
                            simp only [Act.put, List.setIfInBounds_toArray, List.set_cons_zero, List.set_cons_succ, i64_w, i32_w]
                            rfl
                          refine one_ (i := 35) (N := some 49) #[true, true, true, true, true, true, true, true, true, true, true, true, true, true, true, true, true, true, true, true, true, true, true, true, true, true, true, true, true, true, true, true, true, true, true, true, false] rfl rfl (one_of HT_.out (by kernel_rfl)) (by decide) (fun K hK => ?_)
                          refine Kd.R_append_step (Kd.int .u32) (w0 := w) w.heap.size (by rfl) (.tmp 14) (.tmp 48) 53 45 (.int .u32 0) 4 rfl Tryd.underlying53 info45 rfl (by decide) (by omega) u3 x3_1 ((((((((((((((rd l0 (ji3)) % 4294967296) * 256) % 4294967296) + ((rd l0 (ji6)) % 4294967296)) % 4294967296) * 256) % 4294967296) + ((rd l0 (ji9)) % 4294967296)) % 4294967296) * 256) % 4294967296) + ((rd l0 (ji12)) % 4294967296)) % 4294967296) [.int .u32 ((((((((((((((rd l0 (ji3)) % 4294967296) * 256) % 4294967296) + ((rd l0 (ji6)) % 4294967296)) % 4294967296) * 256) % 4294967296) + ((rd l0 (ji9)) % 4294967296)) % 4294967296) * 256) % 4294967296) + ((rd l0 (ji12)) % 4294967296)) % 4294967296)] (fun _ => True) (fun _ => False) rfl rfl ?aP (fun _ hk => hk.elim) ?aF ?aO ?aB ?aS ?aL ?_
                          (case aP => exact rfl)
                          (case aB => exact (by repeat (first | (with_reducible first | exact HB.out | apply below_alloc | apply pw_below_drewN | apply below_drew1) | exact HB.out)))
                          (case aF => exact (fun _ _ => trivial))
                          (case aO => exact (by (with_reducible repeat (first | apply Kd.R_alloc | apply Kd.R_drewN | apply Kd.R_drew)); exact HO_3.out))
                          (case aS => exact (below_size (by repeat (first | (with_reducible first | exact HB.out | apply below_alloc | apply pw_below_drewN | apply below_drew1) | exact HB.out))))
                          (case aL => have := LMc15.out; omega)
                          intro v145 w17 ho hb hg hat
                          rw [← Ny144.out] at ho
                          have n0_ := Aside0.mk (hb)
                          have n1_ := Aside0.mk (ho)
                          clear HB
                          clear HO_3
                          have HB := n0_
                          have HO146 := n1_
                          clear n0_ n1_
                          clear ho hb hg hat
                          refine hK.out _ _ ⟨((HB.out.cell (World.block_lt_of_cell? w _ hw140_0)).trans hw140_0), ((HB.out.cell (World.block_lt_of_cell? w _ hw141_0)).trans hw141_0), ((HB.out.cell (World.block_lt_of_cell? w _ hw142_0)).trans hw142_0), ((HB.out.cell (World.block_lt_of_cell? w _ hw143_0)).trans hw143_0)⟩ (fun hHeld => ?_)
                          clear hK K
                          refine norm_ (a' := ?_) ?_ ?_
                          rotate_left
                          · show Act.put _ (some 49) _ = _
                            simp only [Act.put, List.setIfInBounds_toArray, List.set_cons_zero, List.set_cons_succ, i64_w, i32_w]
                            rfl
                          refine pure_ (i := 36) (N := some 3) (v := ?_) (a' := ?_) #[true, true, true, true, true, true, true, true, true, true, true, true, true, true, true, true, true, true, true, true, true, true, true, true, true, true, true, true, true, true, true, true, true, true, true, true, true] rfl rfl (any_of HT_.out (by kernel_rfl)) (fun _ _ _ h => h) (Or.inl ⟨by rfl, ?_⟩) ?_ ?_
                          rotate_left
                          · intro w'
                            go_simp
                            with_reducible rfl
                          rotate_left
                          · simp only [Act.put, List.setIfInBounds_toArray, List.set_cons_zero, List.set_cons_succ, i64_w, i32_w]
                            rfl
                          refine done_ (done_of HT_.out (by kernel_rfl)) ?_
                          try go_wp2
                          go_roundg k1
                          case measure => have := HK1.out; omega
                          case rel => exact ⟨(y144), (wrap64 (x4_1 + 1)), (by first | rfl | (simp; done) | (simp [*]; done)), H', ⟨by have := HK1.out; omega⟩, ⟨by (with_reducible repeat (first | apply Kd.R_alloc | apply Kd.R_drewN | apply Kd.R_drew)); exact HO146.out⟩, ⟨by repeat (first | (with_reducible first | exact HB.out | apply below_alloc | apply pw_below_drewN | apply below_drew1) | exact HB.out)⟩⟩
                        · rw [if_neg c15] at H
                          exact absurd H (by simp)
                      · rw [if_neg c14] at H
                        exact absurd H (by simp)
                    · rw [if_neg c13] at H
                      exact absurd H (by simp)
                  · rw [if_neg c11] at H
                    exact absurd H (by simp)
                · rw [if_neg c10] at H
                  exact absurd H (by simp)
              · rw [if_neg c8] at H
                exact absurd H (by simp)
            · rw [if_neg c7] at H
              exact absurd H (by simp)
          · rw [if_neg c5] at H
            exact absurd H (by simp)
        · rw [if_neg c4] at H
          exact absurd H (by simp)
      · rw [if_neg c2] at H
        have c2b0 : decide (x4_1 < 16) = false := decide_eq_false c2
        clear c2
        have H' := Aside0.mk H
        clear H
        go_wp2
        go_loopg [3, 5] k1 (fun kq v3 v5 w' => ∃ (x3_2 : List Int) (x5_2 : Int), v5 = .int .i64 x5_2 ∧ Aside0 (weftlineref04_words.l1 kq x3_2 x5_2 = some r) ∧ Aside0 (kq ≤ k1) ∧ Aside0 (Kd.R (Kd.int .u32) 45 w' w.heap.size (fun _ => True) v3 x3_2) ∧ Aside0 (Below w.heap.size w w'))
        case atStart => exact ⟨(x3_1), (16), (by first | rfl | (simp; done) | (simp [*]; done)), H', ⟨Nat.le_refl _⟩, ⟨by (with_reducible repeat (first | apply Kd.R_alloc | apply Kd.R_drewN | apply Kd.R_drew)); exact HO_3.out⟩, ⟨by repeat (first | (with_reducible first | exact HB.out | apply below_alloc | apply pw_below_drewN | apply below_drew1) | exact HB.out)⟩⟩
        case round =>
          clear H'
          try clear c1
          try clear p1
          try clear q1
          try clear hx1
          try clear c2
          try clear c2b0
          try clear p2
          try clear c4
          try clear c4b0
          try clear c5
          try clear c5b0
          try clear p6
          try clear c7
          try clear c7b0
          try clear c8
          try clear c8b0
          try clear c10
          try clear c10b0
          try clear c11
          try clear c11b0
          try clear c13
          try clear c13b0
          try clear c14
          try clear c14b0
          try clear p14
          try clear q14
          try clear hx14
          try clear c15
          try clear hx140_0
          try clear hx141_0
          try clear hx142_0
          try clear hx143_0
          try clear p140
          try clear p141
          try clear p142
          try clear p143
          try clear q140
          try clear q141
          try clear q142
          try clear q143
          obtain ⟨x3_2, x5_2, rfl, HA, HK2, HO_3, HB⟩ := hrel
          cases gk with
          | zero => exact absurd HA.out (by simp [weftlineref04_words.l1])
          | succ k2 =>
            have H := HA.out
            clear HA
            simp only [weftlineref04_words.l1] at H
            by_cases c18 : x5_2 < 64
            · rw [if_pos c18] at H
              have c18b0 : decide (x5_2 < 64) = true := decide_eq_true c18
              clear c18
              obtain ⟨ji19, hji19⟩ : ∃ j_ : Int, (wrap64 (x5_2 - 15)) = j_ := ⟨_, rfl⟩
              replace H : (if 0 ≤ (ji19) then (if (ji19) < (x3_2.length : Int) then (if 0 ≤ (wrap64 (x5_2 - 2)) then (if (wrap64 (x5_2 - 2)) < (x3_2.length : Int) then ((weftlineref04_turn.f (rd x3_2 (ji19)) 7).bind fun t149 => ((weftlineref04_turn.f (rd x3_2 (ji19)) 18).bind fun t150 => ((weftlineref04_turn.f (rd x3_2 (wrap64 (x5_2 - 2))) 17).bind fun t151 => ((weftlineref04_turn.f (rd x3_2 (wrap64 (x5_2 - 2))) 19).bind fun t152 => (if 0 ≤ (wrap64 (x5_2 - 16)) then (if (wrap64 (x5_2 - 16)) < (x3_2.length : Int) then (if 0 ≤ (wrap64 (x5_2 - 7)) then (if (wrap64 (x5_2 - 7)) < (x3_2.length : Int) then (if x3_2.length < 35184372088832 then (weftlineref04_words.l1 k2 (x3_2 ++ [((((((rd x3_2 (wrap64 (x5_2 - 16))) + (Go.bits .xor .u32 (Go.bits .xor .u32 t149 t150) ((Int.tdiv (rd x3_2 (ji19)) 8) % 4294967296))) % 4294967296) + (rd x3_2 (wrap64 (x5_2 - 7)))) % 4294967296) + (Go.bits .xor .u32 (Go.bits .xor .u32 t151 t152) ((Int.tdiv (rd x3_2 (wrap64 (x5_2 - 2))) 1024) % 4294967296))) % 4294967296]) (wrap64 (x5_2 + 1))) else (none)) else (none)) else (none)) else (none)) else (none)))))) else (none)) else (none)) else (none)) else (none)) = some r := by first | (rw [hji19] at H; exact H) | (simp only [hji19] at H ⊢; exact H)
              have hji19w : (IntKind.i64.wrap (x5_2 - 15)) = ji19 := (i64_w _).trans hji19
              by_cases c20 : 0 ≤ (ji19)
              · rw [if_pos c20] at H
                have c20b0 : decide (0 ≤ (ji19)) = true := decide_eq_true c20
                clear c20
                by_cases c21 : (ji19) < (x3_2.length : Int)
                · rw [if_pos c21] at H
                  have c21b0 : decide ((ji19) < (x3_2.length : Int)) = true := decide_eq_true c21
                  clear c21
                  obtain ⟨ji22, hji22⟩ : ∃ j_ : Int, (wrap64 (x5_2 - 2)) = j_ := ⟨_, rfl⟩
                  replace H : (if 0 ≤ (ji22) then (if (ji22) < (x3_2.length : Int) then ((weftlineref04_turn.f (rd x3_2 (ji19)) 7).bind fun t149 => ((weftlineref04_turn.f (rd x3_2 (ji19)) 18).bind fun t150 => ((weftlineref04_turn.f (rd x3_2 (ji22)) 17).bind fun t151 => ((weftlineref04_turn.f (rd x3_2 (ji22)) 19).bind fun t152 => (if 0 ≤ (wrap64 (x5_2 - 16)) then (if (wrap64 (x5_2 - 16)) < (x3_2.length : Int) then (if 0 ≤ (wrap64 (x5_2 - 7)) then (if (wrap64 (x5_2 - 7)) < (x3_2.length : Int) then (if x3_2.length < 35184372088832 then (weftlineref04_words.l1 k2 (x3_2 ++ [((((((rd x3_2 (wrap64 (x5_2 - 16))) + (Go.bits .xor .u32 (Go.bits .xor .u32 t149 t150) ((Int.tdiv (rd x3_2 (ji19)) 8) % 4294967296))) % 4294967296) + (rd x3_2 (wrap64 (x5_2 - 7)))) % 4294967296) + (Go.bits .xor .u32 (Go.bits .xor .u32 t151 t152) ((Int.tdiv (rd x3_2 (ji22)) 1024) % 4294967296))) % 4294967296]) (wrap64 (x5_2 + 1))) else (none)) else (none)) else (none)) else (none)) else (none)))))) else (none)) else (none)) = some r := by first | (rw [hji22] at H; exact H) | (simp only [hji22] at H ⊢; exact H)
                  have hji22w : (IntKind.i64.wrap (x5_2 - 2)) = ji22 := (i64_w _).trans hji22
                  by_cases c23 : 0 ≤ (ji22)
                  · rw [if_pos c23] at H
                    have c23b0 : decide (0 ≤ (ji22)) = true := decide_eq_true c23
                    clear c23
                    by_cases c24 : (ji22) < (x3_2.length : Int)
                    · rw [if_pos c24] at H
                      have c24b0 : decide ((ji22) < (x3_2.length : Int)) = true := decide_eq_true c24
                      clear c24
                      replace H := Option.bind_eq_some_iff.mp H
                      obtain ⟨t149, A250, H⟩ := H
                      replace H : ((weftlineref04_turn.f (rd x3_2 (ji19)) 18).bind fun t150 => ((weftlineref04_turn.f (rd x3_2 (ji22)) 17).bind fun t151 => ((weftlineref04_turn.f (rd x3_2 (ji22)) 19).bind fun t152 => (if 0 ≤ (wrap64 (x5_2 - 16)) then (if (wrap64 (x5_2 - 16)) < (x3_2.length : Int) then (if 0 ≤ (wrap64 (x5_2 - 7)) then (if (wrap64 (x5_2 - 7)) < (x3_2.length : Int) then (if x3_2.length < 35184372088832 then (weftlineref04_words.l1 k2 (x3_2 ++ [((((((rd x3_2 (wrap64 (x5_2 - 16))) + (Go.bits .xor .u32 (Go.bits .xor .u32 t149 t150) ((Int.tdiv (rd x3_2 (ji19)) 8) % 4294967296))) % 4294967296) + (rd x3_2 (wrap64 (x5_2 - 7)))) % 4294967296) + (Go.bits .xor .u32 (Go.bits .xor .u32 t151 t152) ((Int.tdiv (rd x3_2 (ji22)) 1024) % 4294967296))) % 4294967296]) (wrap64 (x5_2 + 1))) else (none)) else (none)) else (none)) else (none)) else (none))))) = some r := H
                      have A25 := Aside0.mk A250
                      clear A250
                      replace H := Option.bind_eq_some_iff.mp H
                      obtain ⟨t150, A260, H⟩ := H
                      replace H : ((weftlineref04_turn.f (rd x3_2 (ji22)) 17).bind fun t151 => ((weftlineref04_turn.f (rd x3_2 (ji22)) 19).bind fun t152 => (if 0 ≤ (wrap64 (x5_2 - 16)) then (if (wrap64 (x5_2 - 16)) < (x3_2.length : Int) then (if 0 ≤ (wrap64 (x5_2 - 7)) then (if (wrap64 (x5_2 - 7)) < (x3_2.length : Int) then (if x3_2.length < 35184372088832 then (weftlineref04_words.l1 k2 (x3_2 ++ [((((((rd x3_2 (wrap64 (x5_2 - 16))) + (Go.bits .xor .u32 (Go.bits .xor .u32 t149 t150) ((Int.tdiv (rd x3_2 (ji19)) 8) % 4294967296))) % 4294967296) + (rd x3_2 (wrap64 (x5_2 - 7)))) % 4294967296) + (Go.bits .xor .u32 (Go.bits .xor .u32 t151 t152) ((Int.tdiv (rd x3_2 (ji22)) 1024) % 4294967296))) % 4294967296]) (wrap64 (x5_2 + 1))) else (none)) else (none)) else (none)) else (none)) else (none)))) = some r := H
                      have A26 := Aside0.mk A260
                      clear A260
                      replace H := Option.bind_eq_some_iff.mp H
                      obtain ⟨t151, A270, H⟩ := H
                      replace H : ((weftlineref04_turn.f (rd x3_2 (ji22)) 19).bind fun t152 => (if 0 ≤ (wrap64 (x5_2 - 16)) then (if (wrap64 (x5_2 - 16)) < (x3_2.length : Int) then (if 0 ≤ (wrap64 (x5_2 - 7)) then (if (wrap64 (x5_2 - 7)) < (x3_2.length : Int) then (if x3_2.length < 35184372088832 then (weftlineref04_words.l1 k2 (x3_2 ++ [((((((rd x3_2 (wrap64 (x5_2 - 16))) + (Go.bits .xor .u32 (Go.bits .xor .u32 t149 t150) ((Int.tdiv (rd x3_2 (ji19)) 8) % 4294967296))) % 4294967296) + (rd x3_2 (wrap64 (x5_2 - 7)))) % 4294967296) + (Go.bits .xor .u32 (Go.bits .xor .u32 t151 t152) ((Int.tdiv (rd x3_2 (ji22)) 1024) % 4294967296))) % 4294967296]) (wrap64 (x5_2 + 1))) else (none)) else (none)) else (none)) else (none)) else (none))) = some r := H
                      have A27 := Aside0.mk A270
                      clear A270
                      replace H := Option.bind_eq_some_iff.mp H
                      obtain ⟨t152, A280, H⟩ := H
                      replace H : (if 0 ≤ (wrap64 (x5_2 - 16)) then (if (wrap64 (x5_2 - 16)) < (x3_2.length : Int) then (if 0 ≤ (wrap64 (x5_2 - 7)) then (if (wrap64 (x5_2 - 7)) < (x3_2.length : Int) then (if x3_2.length < 35184372088832 then (weftlineref04_words.l1 k2 (x3_2 ++ [((((((rd x3_2 (wrap64 (x5_2 - 16))) + (Go.bits .xor .u32 (Go.bits .xor .u32 t149 t150) ((Int.tdiv (rd x3_2 (ji19)) 8) % 4294967296))) % 4294967296) + (rd x3_2 (wrap64 (x5_2 - 7)))) % 4294967296) + (Go.bits .xor .u32 (Go.bits .xor .u32 t151 t152) ((Int.tdiv (rd x3_2 (ji22)) 1024) % 4294967296))) % 4294967296]) (wrap64 (x5_2 + 1))) else (none)) else (none)) else (none)) else (none)) else (none)) = some r := H
                      have A28 := Aside0.mk A280
                      clear A280
                      obtain ⟨ji29, hji29⟩ : ∃ j_ : Int, (wrap64 (x5_2 - 16)) = j_ := ⟨_, rfl⟩
                      replace H : (if 0 ≤ (ji29) then (if (ji29) < (x3_2.length : Int) then (if 0 ≤ (wrap64 (x5_2 - 7)) then (if (wrap64 (x5_2 - 7)) < (x3_2.length : Int) then (if x3_2.length < 35184372088832 then (weftlineref04_words.l1 k2 (x3_2 ++ [((((((rd x3_2 (ji29)) + (Go.bits .xor .u32 (Go.bits .xor .u32 t149 t150) ((Int.tdiv (rd x3_2 (ji19)) 8) % 4294967296))) % 4294967296) + (rd x3_2 (wrap64 (x5_2 - 7)))) % 4294967296) + (Go.bits .xor .u32 (Go.bits .xor .u32 t151 t152) ((Int.tdiv (rd x3_2 (ji22)) 1024) % 4294967296))) % 4294967296]) (wrap64 (x5_2 + 1))) else (none)) else (none)) else (none)) else (none)) else (none)) = some r := by first | (rw [hji29] at H; exact H) | (simp only [hji29] at H ⊢; exact H)
                      (try rw [hji29] at A25)
                      (try rw [hji29] at A26)
                      (try rw [hji29] at A27)
                      (try rw [hji29] at A28)
                      have hji29w : (IntKind.i64.wrap (x5_2 - 16)) = ji29 := (i64_w _).trans hji29
                      by_cases c30 : 0 ≤ (ji29)
                      · rw [if_pos c30] at H
                        have c30b0 : decide (0 ≤ (ji29)) = true := decide_eq_true c30
                        clear c30
                        by_cases c31 : (ji29) < (x3_2.length : Int)
                        · rw [if_pos c31] at H
                          have c31b0 : decide ((ji29) < (x3_2.length : Int)) = true := decide_eq_true c31
                          clear c31
                          obtain ⟨ji32, hji32⟩ : ∃ j_ : Int, (wrap64 (x5_2 - 7)) = j_ := ⟨_, rfl⟩
                          replace H : (if 0 ≤ (ji32) then (if (ji32) < (x3_2.length : Int) then (if x3_2.length < 35184372088832 then (weftlineref04_words.l1 k2 (x3_2 ++ [((((((rd x3_2 (ji29)) + (Go.bits .xor .u32 (Go.bits .xor .u32 t149 t150) ((Int.tdiv (rd x3_2 (ji19)) 8) % 4294967296))) % 4294967296) + (rd x3_2 (ji32))) % 4294967296) + (Go.bits .xor .u32 (Go.bits .xor .u32 t151 t152) ((Int.tdiv (rd x3_2 (ji22)) 1024) % 4294967296))) % 4294967296]) (wrap64 (x5_2 + 1))) else (none)) else (none)) else (none)) = some r := by first | (rw [hji32] at H; exact H) | (simp only [hji32] at H ⊢; exact H)
                          (try rw [hji32] at A25)
                          (try rw [hji32] at A26)
                          (try rw [hji32] at A27)
                          (try rw [hji32] at A28)
                          have hji32w : (IntKind.i64.wrap (x5_2 - 7)) = ji32 := (i64_w _).trans hji32
                          by_cases c33 : 0 ≤ (ji32)
                          · rw [if_pos c33] at H
                            have c33b0 : decide (0 ≤ (ji32)) = true := decide_eq_true c33
                            clear c33
                            by_cases c34 : (ji32) < (x3_2.length : Int)
                            · rw [if_pos c34] at H
                              have c34b0 : decide ((ji32) < (x3_2.length : Int)) = true := decide_eq_true c34
                              clear c34
                              by_cases c35 : x3_2.length < 35184372088832
                              · rw [if_pos c35] at H
                                have LMc35 := Aside0.mk c35
                                clear c35
                                obtain ⟨y155, hy155⟩ : ∃ y_ : List Int, y_ = (x3_2 ++ [((((((rd x3_2 (ji29)) + (Go.bits .xor .u32 (Go.bits .xor .u32 t149 t150) ((Int.tdiv (rd x3_2 (ji19)) 8) % 4294967296))) % 4294967296) + (rd x3_2 (ji32))) % 4294967296) + (Go.bits .xor .u32 (Go.bits .xor .u32 t151 t152) ((Int.tdiv (rd x3_2 (ji22)) 1024) % 4294967296))) % 4294967296]) := ⟨_, rfl⟩
                                replace H : (weftlineref04_words.l1 k2 y155 (wrap64 (x5_2 + 1))) = some r := by first | (rw [hy155]; with_reducible exact H) | (have H2_ := (Option.bind_some _ _).symm.trans H; rw [hy155]; with_reducible exact H2_) | (have H2_ := (Option.bind_some _ _).symm.trans H; with_reducible exact H2_) | with_reducible exact H | (rw [hy155]; exact H) | exact H
                                have Ny155 := Aside0.mk hy155
                                clear hy155
                                have H' := Aside0.mk H
                                clear H
                                try go_wp2
                                have n0_ := Aside0.mk (Kd.R_drew HO_3.out)
                                have n1_ := Aside0.mk (below_drew1 HB.out)
                                clear HO_3
                                clear HB
                                have HO_3 := n0_
                                have HB := n1_
                                clear n0_ n1_
                                obtain ⟨Ao37, co37, eo37⟩ := Kd.R_slice HO_3.out
                                (first | subst eo37 | (injection eo37 with f1_ f2_ f3_; have f4_ := f1_.symm; have f5_ := f3_.symm; clear f1_ f2_ f3_; subst f4_; subst f5_))
                                have p147 : 0 ≤ ((ji19) : Int) := of_decide_eq_true (by first | (with_reducible assumption) | assumption)
                                have q147 : (ji19) < (x3_2.length : Int) := of_decide_eq_true (by first | (with_reducible assumption) | assumption)
                                obtain ⟨ad147, e147, hx147_0⟩ := Kd.at_int (Kd.R_reads' HO_3.out).2.2 (ji19) p147 q147
                                cases e147
                                replace p147 := eq_true p147
                                replace q147 := eq_true q147
                                have p148 : 0 ≤ ((ji22) : Int) := of_decide_eq_true (by first | (with_reducible assumption) | assumption)
                                have q148 : (ji22) < (x3_2.length : Int) := of_decide_eq_true (by first | (with_reducible assumption) | assumption)
                                obtain ⟨ad148, e148, hx148_0⟩ := Kd.at_int (Kd.R_reads' HO_3.out).2.2 (ji22) p148 q148
                                obtain rfl : ad147 = ad148 := (by injection e148)
                                replace p148 := eq_true p148
                                replace q148 := eq_true q148
                                refine start_ (n := 12) (S := fun w' => w'.cell? (ad147.add ((ji19)).toNat) = some (.int .u32 (rd x3_2 (ji19))) ∧ w'.cell? (ad147.add ((ji22)).toNat) = some (.int .u32 (rd x3_2 (ji22)))) (ds := []) #[false, false, false, false, false, false, false, false, false, false, false, false] (by kernel_rfl) rfl rfl ⟨hx147_0, hx148_0⟩ (fun hHeld => ?_); refine with_tabW weftlineref04_words.tab9 weftlineref04_words.bits9 (fun HT_ HW_ => ?_)
                                generalize wr.drew = w36 at HO_3 HB hx147_0 hx148_0 hHeld ⊢
                                refine pure_ (i := 0) (N := some 54) (v := ?_) (a' := ?_) #[true, false, false, false, false, false, false, false, false, false, false, false] rfl rfl (any_of HT_.out (by kernel_rfl)) (fun _ _ _ h => h) (Or.inl ⟨by rfl, ?_⟩) ?_ ?_
                                rotate_left
                                · intro w'
                                  go_simp
                                  with_reducible rfl
                                rotate_left
                                · simp only [Act.put, List.setIfInBounds_toArray, List.set_cons_zero, List.set_cons_succ, i64_w, i32_w]
                                  rfl
                                refine pure_ (i := 1) (N := some 55) (v := ?_) (a' := ?_) #[true, true, false, false, false, false, false, false, false, false, false, false] rfl rfl (any_of HT_.out (by kernel_rfl)) (fun _ _ _ h => h) (Or.inl ⟨by rfl, ?_⟩) ?_ ?_
                                rotate_left
                                · intro w'
                                  go_simp
                                  with_reducible rfl
                                rotate_left
                                · simp only [Act.put, List.setIfInBounds_toArray, List.set_cons_zero, List.set_cons_succ, i64_w, i32_w]
                                  rfl
                                refine pure_ (i := 2) (N := some 56) (v := ?_) (a' := ?_) #[true, true, true, false, false, false, false, false, false, false, false, false] rfl rfl (any_of HT_.out (by kernel_rfl)) (fun _ _ _ h => h) (Or.inl ⟨by rfl, ?_⟩) ?_ ?_
                                rotate_left
                                · intro w'
                                  go_simp
                                  with_reducible rfl
                                rotate_left
                                · simp only [Act.put, List.setIfInBounds_toArray, List.set_cons_zero, List.set_cons_succ, i64_w, i32_w]
                                  rfl
                                refine pure_ (i := 3) (N := some 57) (v := ?_) (a' := ?_) #[true, true, true, true, false, false, false, false, false, false, false, false] rfl rfl (any_of HT_.out (by kernel_rfl)) (fun _ _ _ h => h) (Or.inl ⟨by rfl, ?_⟩) ?_ ?_
                                rotate_left
                                · intro w'
                                  go_simp
                                  with_reducible rfl
                                rotate_left
                                · simp only [Act.put, List.setIfInBounds_toArray, List.set_cons_zero, List.set_cons_succ, i64_w, i32_w]
                                  rfl
                                refine pure_ (i := 5) (N := some 59) (v := ?_) (a' := ?_) #[true, true, true, true, false, true, false, false, false, false, false, false] rfl rfl (any_of HT_.out (by kernel_rfl)) (fun _ _ _ h => h) (Or.inl ⟨by rfl, ?_⟩) ?_ ?_
                                rotate_left
                                · intro w'
                                  go_simp
                                  with_reducible rfl
                                rotate_left
                                · simp only [Act.put, List.setIfInBounds_toArray, List.set_cons_zero, List.set_cons_succ, i64_w, i32_w]
                                  rfl
                                refine pure_ (i := 6) (N := some 60) (v := ?_) (a' := ?_) #[true, true, true, true, false, true, true, false, false, false, false, false] rfl rfl (any_of HT_.out (by kernel_rfl)) (fun _ _ _ h => h) (Or.inl ⟨by rfl, ?_⟩) ?_ ?_
                                rotate_left
                                · intro w'
                                  go_simp
                                  with_reducible rfl
                                rotate_left
                                · simp only [Act.put, List.setIfInBounds_toArray, List.set_cons_zero, List.set_cons_succ, i64_w, i32_w]
                                  rfl
                                refine pure_ (i := 7) (N := some 61) (v := ?_) (a' := ?_) #[true, true, true, true, false, true, true, true, false, false, false, false] rfl rfl (any_of HT_.out (by kernel_rfl)) (fun _ _ _ h => h) (Or.inl ⟨by rfl, ?_⟩) ?_ ?_
                                rotate_left
                                · intro w'
                                  go_simp
                                  with_reducible rfl
                                rotate_left
                                · simp only [Act.put, List.setIfInBounds_toArray, List.set_cons_zero, List.set_cons_succ, i64_w, i32_w]
                                  rfl
                                refine pure_ (i := 8) (N := some 62) (v := ?_) (a' := ?_) #[true, true, true, true, false, true, true, true, true, false, false, false] rfl rfl (any_of HT_.out (by kernel_rfl)) (fun _ _ _ h => h) (Or.inl ⟨by rfl, ?_⟩) ?_ ?_
                                rotate_left
                                · intro w'
                                  go_simp
                                  with_reducible rfl
                                rotate_left
                                · simp only [Act.put, List.setIfInBounds_toArray, List.set_cons_zero, List.set_cons_succ, i64_w, i32_w]
                                  rfl
                                refine take_ (i := 4) (N := some 58) (v := ?_) (a' := ?_) #[true, true, true, true, true, true, true, true, true, false, false, false] rfl rfl (take_ofW HT_.out HW_.out (by kernel_rfl)) (fun _ _ _ h => h) (Or.inl ⟨by rfl, ?_⟩) hHeld ?_ ?_
                                rotate_left
                                · rintro w' ⟨s0, s1⟩
                                  go_simp
                                  with_reducible rfl
                                rotate_left
                                · simp only [Act.put, List.setIfInBounds_toArray, List.set_cons_zero, List.set_cons_succ, i64_w, i32_w]
                                  rfl
                                refine pure_ (i := 10) (N := some 6) (v := ?_) (a' := ?_) #[true, true, true, true, true, true, true, true, true, false, true, false] rfl rfl (any_of HT_.out (by kernel_rfl)) (fun _ _ _ h => h) (Or.inl ⟨by rfl, ?_⟩) ?_ ?_
                                rotate_left
                                · intro w'
                                  go_simp
                                  with_reducible rfl
                                rotate_left
                                · simp only [Act.put, List.setIfInBounds_toArray, List.set_cons_zero, List.set_cons_succ, i64_w, i32_w]
                                  rfl
                                refine take_ (i := 9) (N := some 63) (v := ?_) (a' := ?_) #[true, true, true, true, true, true, true, true, true, true, true, false] rfl rfl (take_ofW HT_.out HW_.out (by kernel_rfl)) (fun _ _ _ h => h) (Or.inl ⟨by rfl, ?_⟩) hHeld ?_ ?_
                                rotate_left
                                · rintro w' ⟨s0, s1⟩
                                  go_simp
                                  with_reducible rfl
                                rotate_left
                                · simp only [Act.put, List.setIfInBounds_toArray, List.set_cons_zero, List.set_cons_succ, i64_w, i32_w]
                                  rfl
                                refine pure_ (i := 11) (N := some 7) (v := ?_) (a' := ?_) #[true, true, true, true, true, true, true, true, true, true, true, true] rfl rfl (any_of HT_.out (by kernel_rfl)) (fun _ _ _ h => h) (Or.inl ⟨by rfl, ?_⟩) ?_ ?_
                                rotate_left
                                · intro w'
                                  go_simp
                                  with_reducible rfl
                                rotate_left
                                · simp only [Act.put, List.setIfInBounds_toArray, List.set_cons_zero, List.set_cons_succ, i64_w, i32_w]
                                  rfl
                                refine done_ (done_of HT_.out (by kernel_rfl)) ?_
                                try go_wp2_with (first | ((with_reducible refine gate_callee (f := 39) rfl ?_); refine goesL_ (some 65) rfl rfl Tryd.func39 (by kernel_rfl) rfl #[.int .u32 (rd x3_2 (ji19)), .int .u64 7] rfl (by (try simp only [List.map_toArray, List.map_cons, List.map_nil]); first | done | (simp only [hji19]; rfl) | rfl | (simp only [List.length_drop, List.length_take]; rfl)) ?_; (with_reducible refine (weftlineref04_turn.calls (rd x3_2 (ji19)) 7 t149 _ A25.out).mono ?_); rintro e w' ⟨rfl, ⟨nd, rfl⟩⟩; refine ⟨_, rfl, ?_⟩) | ((with_reducible refine gate_callee (f := 39) rfl ?_); refine goesL_ (some 67) rfl rfl Tryd.func39 (by kernel_rfl) rfl #[.int .u32 (rd x3_2 (ji19)), .int .u64 18] rfl (by (try simp only [List.map_toArray, List.map_cons, List.map_nil]); first | done | (simp only [hji19]; rfl) | rfl | (simp only [List.length_drop, List.length_take]; rfl)) ?_; (with_reducible refine (weftlineref04_turn.calls (rd x3_2 (ji19)) 18 t150 _ A26.out).mono ?_); rintro e w' ⟨rfl, ⟨nd, rfl⟩⟩; refine ⟨_, rfl, ?_⟩) | ((with_reducible refine gate_callee (f := 39) rfl ?_); refine goesL_ (some 73) rfl rfl Tryd.func39 (by kernel_rfl) rfl #[.int .u32 (rd x3_2 (ji22)), .int .u64 17] rfl (by (try simp only [List.map_toArray, List.map_cons, List.map_nil]); first | done | (simp only [hji22]; rfl) | rfl | (simp only [List.length_drop, List.length_take]; rfl)) ?_; (with_reducible refine (weftlineref04_turn.calls (rd x3_2 (ji22)) 17 t151 _ A27.out).mono ?_); rintro e w' ⟨rfl, ⟨nd, rfl⟩⟩; refine ⟨_, rfl, ?_⟩) | ((with_reducible refine gate_callee (f := 39) rfl ?_); refine goesL_ (some 75) rfl rfl Tryd.func39 (by kernel_rfl) rfl #[.int .u32 (rd x3_2 (ji22)), .int .u64 19] rfl (by (try simp only [List.map_toArray, List.map_cons, List.map_nil]); first | done | (simp only [hji22]; rfl) | rfl | (simp only [List.length_drop, List.length_take]; rfl)) ?_; (with_reducible refine (weftlineref04_turn.calls (rd x3_2 (ji22)) 19 t152 _ A28.out).mono ?_); rintro e w' ⟨rfl, ⟨nd, rfl⟩⟩; refine ⟨_, rfl, ?_⟩))
                                (try (rw [drewN_self w36]; generalize hq_ : World.drewN w36 _ = w36; have n0_ : Aside0 (Kd.R (Kd.int .u32) 45 w36 w.heap.size (fun _ => True) (.slice (some ad147) x3_2.length co37) x3_2) := ⟨by rw [← hq_]; exact (by (with_reducible repeat (first | apply Kd.R_alloc | apply Kd.R_drewN | apply Kd.R_drew)); exact HO_3.out)⟩; have n1_ : Aside0 (Below w.heap.size w w36) := ⟨by rw [← hq_]; exact (by repeat (first | (with_reducible first | exact HB.out | apply below_alloc | apply pw_below_drewN | apply below_drew1) | exact HB.out))⟩; clear HO_3 HB hq_; have HO_3 := n0_; have HB := n1_; clear n0_ n1_))
                                have n0_ := Aside0.mk (Kd.R_drew HO_3.out)
                                have n1_ := Aside0.mk (below_drew1 HB.out)
                                clear HO_3
                                clear HB
                                have HO_3 := n0_
                                have HB := n1_
                                clear n0_ n1_
                                have p153 : 0 ≤ ((ji29) : Int) := of_decide_eq_true (by first | (with_reducible assumption) | assumption)
                                have q153 : (ji29) < (x3_2.length : Int) := of_decide_eq_true (by first | (with_reducible assumption) | assumption)
                                obtain ⟨ad153, e153, hx153_0⟩ := Kd.at_int (Kd.R_reads' HO_3.out).2.2 (ji29) p153 q153
                                obtain rfl : ad147 = ad153 := (by injection e153)
                                replace p153 := eq_true p153
                                replace q153 := eq_true q153
                                have p154 : 0 ≤ ((ji32) : Int) := of_decide_eq_true (by first | (with_reducible assumption) | assumption)
                                have q154 : (ji32) < (x3_2.length : Int) := of_decide_eq_true (by first | (with_reducible assumption) | assumption)
                                obtain ⟨ad154, e154, hx154_0⟩ := Kd.at_int (Kd.R_reads' HO_3.out).2.2 (ji32) p154 q154
                                obtain rfl : ad147 = ad154 := (by injection e154)
                                replace p154 := eq_true p154
                                replace q154 := eq_true q154
                                refine start_ (n := 19) (S := fun w' => w'.cell? (ad147.add ((ji29)).toNat) = some (.int .u32 (rd x3_2 (ji29))) ∧ w'.cell? (ad147.add ((ji32)).toNat) = some (.int .u32 (rd x3_2 (ji32)))) (ds := [16, 17]) #[false, false, false, false, false, false, false, false, false, false, false, false, false, false, false, false, false, false, false] (by kernel_rfl) rfl rfl ⟨hx153_0, hx154_0⟩ (fun hHeld => ?_); refine with_tabW weftlineref04_words.tab12 weftlineref04_words.bits12 (fun HT_ HW_ => ?_)
                                generalize w36.drew = w38 at HO_3 HB hx153_0 hx154_0 hHeld ⊢
                                refine pure_ (i := 0) (N := some 80) (v := ?_) (a' := ?_) #[true, false, false, false, false, false, false, false, false, false, false, false, false, false, false, false, false, false, false] rfl rfl (any_of HT_.out (by kernel_rfl)) (fun _ _ _ h => h) (Or.inl ⟨by rfl, ?_⟩) ?_ ?_
                                rotate_left
                                · intro w'
                                  go_simp
                                  with_reducible rfl
                                rotate_left
                                · simp only [Act.put, List.setIfInBounds_toArray, List.set_cons_zero, List.set_cons_succ, i64_w, i32_w]
                                  rfl
                                refine pure_ (i := 1) (N := some 81) (v := ?_) (a' := ?_) #[true, true, false, false, false, false, false, false, false, false, false, false, false, false, false, false, false, false, false] rfl rfl (any_of HT_.out (by kernel_rfl)) (fun _ _ _ h => h) (Or.inl ⟨by rfl, ?_⟩) ?_ ?_
                                rotate_left
                                · intro w'
                                  go_simp
                                  with_reducible rfl
                                rotate_left
                                · simp only [Act.put, List.setIfInBounds_toArray, List.set_cons_zero, List.set_cons_succ, i64_w, i32_w]
                                  rfl
                                refine pure_ (i := 2) (N := some 82) (v := ?_) (a' := ?_) #[true, true, true, false, false, false, false, false, false, false, false, false, false, false, false, false, false, false, false] rfl rfl (any_of HT_.out (by kernel_rfl)) (fun _ _ _ h => h) (Or.inl ⟨by rfl, ?_⟩) ?_ ?_
                                rotate_left
                                · intro w'
                                  go_simp
                                  with_reducible rfl
                                rotate_left
                                · simp only [Act.put, List.setIfInBounds_toArray, List.set_cons_zero, List.set_cons_succ, i64_w, i32_w]
                                  rfl
                                refine pure_ (i := 3) (N := some 83) (v := ?_) (a' := ?_) #[true, true, true, true, false, false, false, false, false, false, false, false, false, false, false, false, false, false, false] rfl rfl (any_of HT_.out (by kernel_rfl)) (fun _ _ _ h => h) (Or.inl ⟨by rfl, ?_⟩) ?_ ?_
                                rotate_left
                                · intro w'
                                  go_simp
                                  with_reducible rfl
                                rotate_left
                                · simp only [Act.put, List.setIfInBounds_toArray, List.set_cons_zero, List.set_cons_succ, i64_w, i32_w]
                                  rfl
                                refine pure_ (i := 4) (N := some 84) (v := ?_) (a' := ?_) #[true, true, true, true, true, false, false, false, false, false, false, false, false, false, false, false, false, false, false] rfl rfl (any_of HT_.out (by kernel_rfl)) (fun _ _ _ h => h) (Or.inl ⟨by rfl, ?_⟩) ?_ ?_
                                rotate_left
                                · intro w'
                                  go_simp
                                  with_reducible rfl
                                rotate_left
                                · simp only [Act.put, List.setIfInBounds_toArray, List.set_cons_zero, List.set_cons_succ, i64_w, i32_w]
                                  rfl
                                refine pure_ (i := 6) (N := some 86) (v := ?_) (a' := ?_) #[true, true, true, true, true, false, true, false, false, false, false, false, false, false, false, false, false, false, false] rfl rfl (any_of HT_.out (by kernel_rfl)) (fun _ _ _ h => h) (Or.inl ⟨by rfl, ?_⟩) ?_ ?_
                                rotate_left
                                · intro w'
                                  go_simp
                                  with_reducible rfl
                                rotate_left
                                · simp only [Act.put, List.setIfInBounds_toArray, List.set_cons_zero, List.set_cons_succ, i64_w, i32_w]
                                  rfl
                                refine pure_ (i := 8) (N := some 88) (v := ?_) (a' := ?_) #[true, true, true, true, true, false, true, false, true, false, false, false, false, false, false, false, false, false, false] rfl rfl (any_of HT_.out (by kernel_rfl)) (fun _ _ _ h => h) (Or.inl ⟨by rfl, ?_⟩) ?_ ?_
                                rotate_left
                                · intro w'
                                  go_simp
                                  with_reducible rfl
                                rotate_left
                                · simp only [Act.put, List.setIfInBounds_toArray, List.set_cons_zero, List.set_cons_succ, i64_w, i32_w]
                                  rfl
                                refine pure_ (i := 9) (N := some 89) (v := ?_) (a' := ?_) #[true, true, true, true, true, false, true, false, true, true, false, false, false, false, false, false, false, false, false] rfl rfl (any_of HT_.out (by kernel_rfl)) (fun _ _ _ h => h) (Or.inl ⟨by rfl, ?_⟩) ?_ ?_
                                rotate_left
                                · intro w'
                                  go_simp
                                  with_reducible rfl
                                rotate_left
                                · simp only [Act.put, List.setIfInBounds_toArray, List.set_cons_zero, List.set_cons_succ, i64_w, i32_w]
                                  rfl
                                refine pure_ (i := 10) (N := some 90) (v := ?_) (a' := ?_) #[true, true, true, true, true, false, true, false, true, true, true, false, false, false, false, false, false, false, false] rfl rfl (any_of HT_.out (by kernel_rfl)) (fun _ _ _ h => h) (Or.inl ⟨by rfl, ?_⟩) ?_ ?_
                                rotate_left
                                · intro w'
                                  go_simp
                                  with_reducible rfl
                                rotate_left
                                · simp only [Act.put, List.setIfInBounds_toArray, List.set_cons_zero, List.set_cons_succ, i64_w, i32_w]
                                  rfl
                                refine pure_ (i := 11) (N := some 91) (v := ?_) (a' := ?_) #[true, true, true, true, true, false, true, false, true, true, true, true, false, false, false, false, false, false, false] rfl rfl (any_of HT_.out (by kernel_rfl)) (fun _ _ _ h => h) (Or.inl ⟨by rfl, ?_⟩) ?_ ?_
                                rotate_left
                                · intro w'
                                  go_simp
                                  with_reducible rfl
                                rotate_left
                                · simp only [Act.put, List.setIfInBounds_toArray, List.set_cons_zero, List.set_cons_succ, i64_w, i32_w]
                                  rfl
                                refine pure_ (i := 14) (N := some 94) (v := ?_) (a' := ?_) #[true, true, true, true, true, false, true, false, true, true, true, true, false, false, true, false, false, false, false] rfl rfl (any_of HT_.out (by kernel_rfl)) (fun _ _ _ h => h) (Or.inl ⟨by rfl, ?_⟩) ?_ ?_
                                rotate_left
                                · intro w'
                                  go_simp
                                  with_reducible rfl
                                rotate_left
                                · simp only [Act.put, List.setIfInBounds_toArray, List.set_cons_zero, List.set_cons_succ, i64_w, i32_w]
                                  rfl
                                refine take_ (i := 5) (N := some 85) (v := ?_) (a' := ?_) #[true, true, true, true, true, true, true, false, true, true, true, true, false, false, true, false, false, false, false] rfl rfl (take_ofW HT_.out HW_.out (by kernel_rfl)) (fun _ _ _ h => h) (Or.inl ⟨by rfl, ?_⟩) hHeld ?_ ?_
                                rotate_left
                                · rintro w' ⟨s0, s1⟩
                                  go_simp
                                  with_reducible rfl
                                rotate_left
                                · simp only [Act.put, List.setIfInBounds_toArray, List.set_cons_zero, List.set_cons_succ, i64_w, i32_w]
                                  rfl
                                refine pure_ (i := 7) (N := some 87) (v := ?_) (a' := ?_) #[true, true, true, true, true, true, true, true, true, true, true, true, false, false, true, false, false, false, false] rfl rfl (any_of HT_.out (by kernel_rfl)) (fun _ _ _ h => h) (Or.inl ⟨by rfl, ?_⟩) ?_ ?_
                                rotate_left
                                · intro w'
                                  go_simp
                                  with_reducible rfl
                                rotate_left
                                · simp only [Act.put, List.setIfInBounds_toArray, List.set_cons_zero, List.set_cons_succ, i64_w, i32_w]
                                  rfl
                                refine take_ (i := 12) (N := some 92) (v := ?_) (a' := ?_) #[true, true, true, true, true, true, true, true, true, true, true, true, true, false, true, false, false, false, false] rfl rfl (take_ofW HT_.out HW_.out (by kernel_rfl)) (fun _ _ _ h => h) (Or.inl ⟨by rfl, ?_⟩) hHeld ?_ ?_
                                rotate_left
                                · rintro w' ⟨s0, s1⟩
                                  go_simp
                                  with_reducible rfl
                                rotate_left
                                · simp only [Act.put, List.setIfInBounds_toArray, List.set_cons_zero, List.set_cons_succ, i64_w, i32_w]
                                  rfl
                                refine pure_ (i := 13) (N := some 93) (v := ?_) (a' := ?_) #[true, true, true, true, true, true, true, true, true, true, true, true, true, true, true, false, false, false, false] rfl rfl (any_of HT_.out (by kernel_rfl)) (fun _ _ _ h => h) (Or.inl ⟨by rfl, ?_⟩) ?_ ?_
                                rotate_left
                                · intro w'
                                  go_simp
                                  with_reducible rfl
                                rotate_left
                                · simp only [Act.put, List.setIfInBounds_toArray, List.set_cons_zero, List.set_cons_succ, i64_w, i32_w]
                                  rfl
                                refine pure_ (i := 15) (N := some 95) (v := ?_) (a' := ?_) #[true, true, true, true, true, true, true, true, true, true, true, true, true, true, true, true, false, false, false] rfl rfl (any_of HT_.out (by kernel_rfl)) (fun _ _ _ h => h) (Or.inl ⟨by rfl, ?_⟩) ?_ ?_
                                rotate_left
                                · intro w'
                                  go_simp
                                  with_reducible rfl
                                rotate_left
                                · simp only [Act.put, List.setIfInBounds_toArray, List.set_cons_zero, List.set_cons_succ, i64_w, i32_w]
                                  rfl
                                refine last_ (i := 16) (N := some 96) #[true, true, true, true, true, true, true, true, true, true, true, true, true, true, true, true, true, false, false] rfl rfl (one_of HT_.out (by kernel_rfl)) (by decide) (fun K hK => ?_)
                                refine value_ (w1 := ?_) (v := ?_) (by rfl) rfl ?_ ?_
                                rotate_left 2
                                · go_simp
                                  constructor
                                  · rfl
                                  · rfl
                                refine hK.out _ _ ?_
                                clear hK K
                                refine norm_ (a' := ?_) ?_ ?_
                                rotate_left
                                · show Act.put _ (some 96) _ = _
                                  simp only [Act.put, List.setIfInBounds_toArray, List.set_cons_zero, List.set_cons_succ, i64_w, i32_w]
                                  rfl
                                refine last_ (i := 17) (N := some 97) #[true, true, true, true, true, true, true, true, true, true, true, true, true, true, true, true, true, true, false] rfl rfl (one_of HT_.out (by kernel_rfl)) (by decide) (fun K hK => ?_)
                                refine Kd.R_append_step (Kd.int .u32) (w0 := w) w.heap.size (by rfl) (.tmp 80) (.tmp 96) 53 45 (.int .u32 0) 4 rfl Tryd.underlying53 info45 rfl (by decide) (by omega) (.slice (some ad147) x3_2.length co37) x3_2 (((((((rd x3_2 (ji29)) + (Go.bits .xor .u32 (Go.bits .xor .u32 t149 t150) ((Int.tdiv (rd x3_2 (ji19)) 8) % 4294967296))) % 4294967296) + (rd x3_2 (ji32))) % 4294967296) + (Go.bits .xor .u32 (Go.bits .xor .u32 t151 t152) ((Int.tdiv (rd x3_2 (ji22)) 1024) % 4294967296))) % 4294967296) [.int .u32 (((((((rd x3_2 (ji29)) + (Go.bits .xor .u32 (Go.bits .xor .u32 t149 t150) ((Int.tdiv (rd x3_2 (ji19)) 8) % 4294967296))) % 4294967296) + (rd x3_2 (ji32))) % 4294967296) + (Go.bits .xor .u32 (Go.bits .xor .u32 t151 t152) ((Int.tdiv (rd x3_2 (ji22)) 1024) % 4294967296))) % 4294967296)] (fun _ => True) (fun _ => False) rfl rfl ?aP (fun _ hk => hk.elim) ?aF ?aO ?aB ?aS ?aL ?_
                                (case aP => exact rfl)
                                (case aB => exact (by repeat (first | (with_reducible first | exact HB.out | apply below_alloc | apply pw_below_drewN | apply below_drew1) | exact HB.out)))
                                (case aF => exact (fun _ _ => trivial))
                                (case aO => exact (by (with_reducible repeat (first | apply Kd.R_alloc | apply Kd.R_drewN | apply Kd.R_drew)); exact HO_3.out))
                                (case aS => exact (below_size (by repeat (first | (with_reducible first | exact HB.out | apply below_alloc | apply pw_below_drewN | apply below_drew1) | exact HB.out))))
                                (case aL => have := LMc35.out; omega)
                                intro v156 w39 ho hb hg hat
                                rw [← Ny155.out] at ho
                                have n0_ := Aside0.mk (hb)
                                have n1_ := Aside0.mk (ho)
                                clear HB
                                clear HO_3
                                have HB := n0_
                                have HO157 := n1_
                                clear n0_ n1_
                                clear ho hb hg hat
                                refine hK.out _ _ ?_
                                clear hK K
                                refine norm_ (a' := ?_) ?_ ?_
                                rotate_left
                                · show Act.put _ (some 97) _ = _
                                  simp only [Act.put, List.setIfInBounds_toArray, List.set_cons_zero, List.set_cons_succ, i64_w, i32_w]
                                  rfl
                                refine pure_ (i := 18) (N := some 3) (v := ?_) (a' := ?_) #[true, true, true, true, true, true, true, true, true, true, true, true, true, true, true, true, true, true, true] rfl rfl (any_of HT_.out (by kernel_rfl)) (fun _ _ _ h => h) (Or.inl ⟨by rfl, ?_⟩) ?_ ?_
                                rotate_left
                                · intro w'
                                  go_simp
                                  with_reducible rfl
                                rotate_left
                                · simp only [Act.put, List.setIfInBounds_toArray, List.set_cons_zero, List.set_cons_succ, i64_w, i32_w]
                                  rfl
                                refine done_ (done_of HT_.out (by kernel_rfl)) ?_
                                try go_wp2
                                go_roundg k2
                                case measure => have := HK1.out; have := HK2.out; omega
                                case rel => exact ⟨(y155), (wrap64 (x5_2 + 1)), (by first | rfl | (simp; done) | (simp [*]; done)), H', ⟨by have := HK1.out; have := HK2.out; omega⟩, ⟨by (with_reducible repeat (first | apply Kd.R_alloc | apply Kd.R_drewN | apply Kd.R_drew)); exact HO157.out⟩, ⟨by repeat (first | (with_reducible first | exact HB.out | apply below_alloc | apply pw_below_drewN | apply below_drew1) | exact HB.out)⟩⟩
                              · rw [if_neg c35] at H
                                exact absurd H (by simp)
                            · rw [if_neg c34] at H
                              exact absurd H (by simp)
                          · rw [if_neg c33] at H
                            exact absurd H (by simp)
                        · rw [if_neg c31] at H
                          exact absurd H (by simp)
                      · rw [if_neg c30] at H
                        exact absurd H (by simp)
                    · rw [if_neg c24] at H
                      exact absurd H (by simp)
                  · rw [if_neg c23] at H
                    exact absurd H (by simp)
                · rw [if_neg c21] at H
                  exact absurd H (by simp)
              · rw [if_neg c20] at H
                exact absurd H (by simp)
            · rw [if_neg c18] at H
              have c18b0 : decide (x5_2 < 64) = false := decide_eq_false c18
              clear c18
              obtain rfl := Option.some.inj H
              go_wp2
              go_ret
              exact ⟨_, by first | rfl | (simp [errW_none, errW_some] <;> rfl) | (simp [*, errW_none, errW_some] <;> rfl), by (with_reducible repeat (first | apply Kd.R_alloc | apply Kd.R_drewN | apply Kd.R_drew)); exact HO_3.out, by repeat (first | (with_reducible first | exact HB.out | apply below_alloc | apply pw_below_drewN | apply below_drew1) | exact HB.out)⟩

end Go.Proofs.YtjmgeelblodcgaaDoor.PAll
/- EsPa -/
namespace Go.Proofs.YtjmgeelblodcgaaDoor.Sx
open Go.RowKit Go.Proofs.YtjmgeelblodcgaaDoorW.PrintWords Go.Proofs.YtjmgeelblodcgaaDoorW.PrintMore Go.Proofs.YtjmgeelblodcgaaDoor.Sh Go.Proofs.YtjmgeelblodcgaaDoor.PAll
set_option linter.unusedVariables false
set_option linter.unusedSimpArgs false
theorem mr_set (l : List Nat) (a b x : Nat) : mr (l.set a x) b = if a = b ∧ a < l.length then x else mr l b := by
  unfold mr
  rw [List.getD_eq_getElem?_getD, List.getD_eq_getElem?_getD, List.getElem?_set]
  by_cases h : a = b
  · subst h
    by_cases h2 : a < l.length
    · rw [if_pos rfl, if_pos h2, if_pos ⟨rfl, h2⟩]; rfl
    · rw [if_pos rfl, if_neg h2, if_neg (fun c => h2 c.2), List.getElem?_eq_none (by omega)]
  · rw [if_neg h, if_neg (fun c => h c.1)]
theorem mr_app_lt (l m : List Nat) (i : Nat) (h : i < l.length) : mr (l ++ m) i = mr l i := by
  unfold mr
  rw [List.getD_eq_getElem?_getD, List.getD_eq_getElem?_getD, List.getElem?_append_left h]
theorem mr_app_eq (l : List Nat) (x i : Nat) (h : i = l.length) : mr (l ++ [x]) i = x := by
  subst h
  unfold mr
  rw [List.getD_eq_getElem?_getD, List.getElem?_append_right (Nat.le_refl _), Nat.sub_self]
  rfl
/-- The next word of a message. -/
def nxt (m : List Nat) (i : Nat) : Nat := (((mr m (i - 16) + sg0 (mr m (i - 15))) % 4294967296 + mr m (i - 7)) % 4294967296 + sg1 (mr m (i - 2))) % 4294967296
def ext (m : List Nat) : Nat → List Nat
  | 0 => m
  | n + 1 => ext m n ++ [nxt (ext m n) (16 + n)]
/-- The 64 words of a block. -/
def sched (bs : List Int) : List Nat := ext (upto (wrd bs) 16) 48
theorem ext_len (m : List Nat) (n : Nat) : (ext m n).length = m.length + n := by
  induction n with
  | zero => rfl
  | succ n ih => unfold ext; rw [List.length_append, ih]; rfl
theorem ext_keep (m : List Nat) (n k i : Nat) (h : i < m.length + n) : mr (ext m (n + k)) i = mr (ext m n) i := by
  induction k with
  | zero => rfl
  | succ k ih =>
    show mr (ext m (n + k) ++ [_]) i = _
    rw [mr_app_lt _ _ _ (by rw [ext_len]; omega), ih]
theorem sched_len (bs : List Int) : (sched bs).length = 64 := by unfold sched; rw [ext_len, upto_length]
theorem upto_at {α : Type} (f : Nat → α) (k i : Nat) (h : i < k) : (upto f k)[i]? = some (f i) := by
  unfold upto
  rw [List.getElem?_map, List.getElem?_range h]
  rfl
theorem upto_mr (f : Nat → Nat) (k i : Nat) (h : i < k) : mr (upto f k) i = f i := by
  unfold mr
  rw [List.getD_eq_getElem?_getD, upto_at _ _ _ h, Option.getD_some]
theorem sched_small (bs : List Int) (i : Nat) (h : i < 16) : mr (sched bs) i = wrd bs i := by
  have := ext_keep (upto (wrd bs) 16) 0 48 i (by rw [upto_length]; exact h)
  rw [Nat.zero_add] at this
  unfold sched
  rw [this]
  exact upto_mr _ _ _ h
theorem sched_next (bs : List Int) (i : Nat) (h0 : 16 ≤ i) (h1 : i < 64) : mr (sched bs) i = nxt (sched bs) i := by
  obtain ⟨n, rfl⟩ : ∃ n, i = 16 + n := ⟨i - 16, by omega⟩
  obtain ⟨r, hr⟩ : ∃ r, 48 = n + 1 + r := ⟨47 - n, by omega⟩
  have hl : (upto (wrd bs) 16).length = 16 := upto_length _ _
  have h2 : mr (sched bs) (16 + n) = nxt (ext (upto (wrd bs) 16) n) (16 + n) := by
    unfold sched
    rw [hr, ext_keep _ (n + 1) r _ (by rw [hl]; omega)]
    exact mr_app_eq _ _ _ (by rw [ext_len, hl])
  have h3 : ∀ j, j < 16 + n → mr (sched bs) j = mr (ext (upto (wrd bs) 16) n) j := fun j hj => by
    unfold sched
    rw [show 48 = n + (1 + r) by omega]
    exact ext_keep _ n (1 + r) j (by rw [hl]; exact hj)
  rw [h2]
  unfold nxt
  rw [h3 _ (by omega), h3 _ (by omega), h3 _ (by omega), h3 _ (by omega)]
theorem wrd_lt {bs : List Int} (hb : Bytes bs) (k : Nat) : wrd bs k < 4294967296 := w4_lt (bt8_lt hb _) (bt8_lt hb _) (bt8_lt hb _) (bt8_lt hb _)
theorem laid_at (f : Nat → NW) (hf : ∀ k, k < 16 → (f k).1.1 = k) (j : Nat) (hj : j < 16) : ∀ k, k ≤ 16 → mr (laid16 (upto f k)) j = if j < k then (f j).1.2 else 0
  | 0, _ => by
    rw [if_neg (by omega)]
    show mr (List.replicate 16 0) j = 0
    unfold mr
    rw [List.getD_eq_getElem?_getD, List.getElem?_replicate, if_pos hj, Option.getD_some]
  | k + 1, hk => by
    rw [upto_succ, laid_snoc, mr_set, laid_len, hf k (by omega), laid_at f hf j hj k (by omega)]
    by_cases h : k = j
    · subst h
      rw [if_pos ⟨rfl, hj⟩, if_pos (by omega)]
    · rw [if_neg (fun c => h c.1)]
      by_cases h2 : j < k
      · rw [if_pos h2, if_pos (by omega)]
      · rw [if_neg h2, if_neg (by omega)]
theorem msg_at {bs : List Int} (hb : Bytes bs) (j : Nat) (h : j < 16) : mr (msg bs) j = wrd bs j := by
  unfold msg
  rw [laid_at (nth bs) (fun k hk => Nat.mod_eq_of_lt hk) j h 16 (Nat.le_refl _), if_pos h]
  exact Nat.mod_eq_of_lt (wrd_lt hb j)
theorem newW_next {bs : List Int} (ms : List Nat) (k : Nat) (h0 : 16 ≤ k) (h1 : k < 64) (h : ∀ i, i < k → k ≤ i + 16 → mr ms (i % 16) = mr (sched bs) i) : newW ms k = mr (sched bs) k := by
  rw [sched_next bs k h0 h1]
  unfold newW nxt
  rw [show k % 16 = (k - 16) % 16 by omega, h (k - 16) (by omega) (by omega), h (k - 15) (by omega) (by omega), h (k - 7) (by omega) (by omega), h (k - 2) (by omega) (by omega)]
  omega
theorem atV_sched {bs : List Int} (ms : List Nat) (k : Nat) (h1 : k < 64) (h : ∀ i, i < max k 16 → max k 16 ≤ i + 16 → mr ms (i % 16) = mr (sched bs) i) : (if k < 16 then mr ms k else newW ms k) = mr (sched bs) k := by
  by_cases hk : k < 16
  · rw [if_pos hk]
    have := h k (by omega) (by omega)
    rwa [Nat.mod_eq_of_lt hk] at this
  · rw [if_neg hk]
    rw [Nat.max_eq_left (by omega)] at h
    exact newW_next ms k (by omega) h1 h
theorem ring_inv {bs : List Int} (hb : Bytes bs) (v : List Nat) : ∀ k, k ≤ 64 → ∀ i, i < max k 16 → max k 16 ≤ i + 16 → mr (sts v (msg bs) k).2 (i % 16) = mr (sched bs) i
  | 0, _, i, h1, h2 => by
    show mr (msg bs) (i % 16) = _
    rw [Nat.mod_eq_of_lt (by omega), msg_at hb i (by omega), sched_small bs i (by omega)]
  | k + 1, hk, i, h1, h2 => by
    have ih := ring_inv hb v k (by omega)
    show mr (atM (sts v (msg bs) k).2 k) (i % 16) = _
    unfold atM
    by_cases hk2 : k < 16
    · rw [if_pos hk2]
      exact ih i (by omega) (by omega)
    · rw [if_neg hk2]
      have hv := atV_sched (sts v (msg bs) k).2 k (by omega) ih
      rw [if_neg hk2] at hv
      rw [mr_set, (sts_len v (msg bs) k).2, show (msg bs).length = 16 from laid_len _, hv]
      by_cases hi : i = k
      · subst hi
        rw [if_pos ⟨rfl, Nat.mod_lt _ (by decide)⟩]
      · rw [if_neg (fun c => by have := c.1; omega)]
        exact ih i (by omega) (by omega)
theorem mr8_0 (a0 a1 a2 a3 a4 a5 a6 a7 : Nat) : mr [a0, a1, a2, a3, a4, a5, a6, a7] 0 = a0 := rfl
theorem mr8_1 (a0 a1 a2 a3 a4 a5 a6 a7 : Nat) : mr [a0, a1, a2, a3, a4, a5, a6, a7] 1 = a1 := rfl
theorem mr8_2 (a0 a1 a2 a3 a4 a5 a6 a7 : Nat) : mr [a0, a1, a2, a3, a4, a5, a6, a7] 2 = a2 := rfl
theorem mr8_3 (a0 a1 a2 a3 a4 a5 a6 a7 : Nat) : mr [a0, a1, a2, a3, a4, a5, a6, a7] 3 = a3 := rfl
theorem mr8_4 (a0 a1 a2 a3 a4 a5 a6 a7 : Nat) : mr [a0, a1, a2, a3, a4, a5, a6, a7] 4 = a4 := rfl
theorem mr8_5 (a0 a1 a2 a3 a4 a5 a6 a7 : Nat) : mr [a0, a1, a2, a3, a4, a5, a6, a7] 5 = a5 := rfl
theorem mr8_6 (a0 a1 a2 a3 a4 a5 a6 a7 : Nat) : mr [a0, a1, a2, a3, a4, a5, a6, a7] 6 = a6 := rfl
theorem mr8_7 (a0 a1 a2 a3 a4 a5 a6 a7 : Nat) : mr [a0, a1, a2, a3, a4, a5, a6, a7] 7 = a7 := rfl
/-- A step of the reference. -/
def stepR (r : List Nat) (c m : Nat) : List Nat :=
  [stH (mr r 0) (mr r 1) (mr r 2) (stX (mr r 4) (mr r 5) (mr r 6) (mr r 7) c m), mr r 0, mr r 1, mr r 2, (mr r 3 + stX (mr r 4) (mr r 5) (mr r 6) (mr r 7) c m) % 4294967296, mr r 4, mr r 5, mr r 6]
def runR (r M : List Nat) : Nat → List Nat
  | 0 => r
  | k + 1 => stepR (runR r M k) (kub k) (mr M k)
theorem lt8 {P : Nat → Prop} (h0 : P 0) (h1 : P 1) (h2 : P 2) (h3 : P 3) (h4 : P 4) (h5 : P 5) (h6 : P 6) (h7 : P 7) (j : Nat) (hj : j < 8) : P j := by
  match j, hj with
  | 0, _ => exact h0
  | 1, _ => exact h1
  | 2, _ => exact h2
  | 3, _ => exact h3
  | 4, _ => exact h4
  | 5, _ => exact h5
  | 6, _ => exact h6
  | 7, _ => exact h7
theorem ix_next (k j : Nat) (hk : k < 64) (h0 : 0 < j) (h1 : j < 8) : ix (k + 1) j = ix k (j - 1) := by unfold ix; omega
theorem ix_zero (k : Nat) (hk : k < 64) : ix (k + 1) 0 = ix k 7 := by unfold ix; omega
theorem ix_ne (k i j : Nat) (hk : k < 64) (hi : i < 8) (hj : j < 8) (h : i ≠ j) : ix k i ≠ ix k j := by unfold ix; omega
theorem step_inv (v ms r : List Nat) (k c m : Nat) (hk : k < 64) (hl : v.length = 8) (ih : ∀ j, j < 8 → mr v (ix k j) = mr r j) (X : Nat) (hX : stepX v ms k = X) (hX2 : X = stX (mr r 4) (mr r 5) (mr r 6) (mr r 7) c m) (j : Nat) (hj : j < 8) : mr (stepV v ms k) (ix (k + 1) j) = mr (stepR r c m) j := by
  unfold stepV stepR
  rw [hX, ← hX2, ih 0 (by decide), ih 1 (by decide), ih 2 (by decide), ih 3 (by decide)]
  generalize stH (mr r 0) (mr r 1) (mr r 2) X = H
  generalize (mr r 3 + X) % 4294967296 = Y
  have h8 := ix_lt
  have n0 : ∀ i, i < 8 → i ≠ 7 → ¬ (ix k 7 = ix k i ∧ ix k 7 < (v.set (ix k 3) Y).length) := fun i hi h7 c => ix_ne k 7 i hk (by decide) hi (fun e => h7 e.symm) c.1
  have n3 : ∀ i, i < 8 → i ≠ 3 → ¬ (ix k 3 = ix k i ∧ ix k 3 < v.length) := fun i hi h3 c => ix_ne k 3 i hk (by decide) hi (fun e => h3 e.symm) c.1
  revert hj
  refine lt8 (P := fun j => mr _ (ix (k + 1) j) = mr _ j) ?_ ?_ ?_ ?_ ?_ ?_ ?_ ?_ j
  · rw [ix_zero k hk, mr_set, if_pos ⟨rfl, by rw [List.length_set, hl]; exact h8 _ _⟩]; exact (mr8_0 _ _ _ _ _ _ _ _).symm
  · rw [ix_next k 1 hk (by decide) (by decide), mr_set, if_neg (n0 0 (by decide) (by decide)), mr_set, if_neg (n3 0 (by decide) (by decide)), ih 0 (by decide)]; exact (mr8_1 _ _ _ _ _ _ _ _).symm
  · rw [ix_next k 2 hk (by decide) (by decide), mr_set, if_neg (n0 1 (by decide) (by decide)), mr_set, if_neg (n3 1 (by decide) (by decide)), ih 1 (by decide)]; exact (mr8_2 _ _ _ _ _ _ _ _).symm
  · rw [ix_next k 3 hk (by decide) (by decide), mr_set, if_neg (n0 2 (by decide) (by decide)), mr_set, if_neg (n3 2 (by decide) (by decide)), ih 2 (by decide)]; exact (mr8_3 _ _ _ _ _ _ _ _).symm
  · rw [ix_next k 4 hk (by decide) (by decide), mr_set, if_neg (n0 3 (by decide) (by decide)), mr_set, if_pos ⟨rfl, by rw [hl]; exact h8 _ _⟩]; exact (mr8_4 _ _ _ _ _ _ _ _).symm
  · rw [ix_next k 5 hk (by decide) (by decide), mr_set, if_neg (n0 4 (by decide) (by decide)), mr_set, if_neg (n3 4 (by decide) (by decide)), ih 4 (by decide)]; exact (mr8_5 _ _ _ _ _ _ _ _).symm
  · rw [ix_next k 6 hk (by decide) (by decide), mr_set, if_neg (n0 5 (by decide) (by decide)), mr_set, if_neg (n3 5 (by decide) (by decide)), ih 5 (by decide)]; exact (mr8_6 _ _ _ _ _ _ _ _).symm
  · rw [ix_next k 7 hk (by decide) (by decide), mr_set, if_neg (n0 6 (by decide) (by decide)), mr_set, if_neg (n3 6 (by decide) (by decide)), ih 6 (by decide)]; exact (mr8_7 _ _ _ _ _ _ _ _).symm
theorem reg_inv {bs : List Int} (hb : Bytes bs) (v : List Nat) (hv : v.length = 8) (k : Nat) : k ≤ 64 → ∀ j, j < 8 → mr (sts v (msg bs) k).1 (ix k j) = mr (runR v (sched bs) k) j := by
  induction k with
  | zero =>
    intro _ j hj
    show mr v (ix 0 j) = mr v j
    rw [show ix 0 j = j by unfold ix; omega]
  | succ k ih =>
    intro hk j hj
    have ih := ih (by omega)
    have hm := atV_sched (sts v (msg bs) k).2 k (by omega) (ring_inv hb v k (by omega))
    have hl : (sts v (msg bs) k).1.length = 8 := by rw [(sts_len v (msg bs) k).1, hv]
    have h1 : (sts v (msg bs) (k + 1)).1 = stepV (sts v (msg bs) k).1 (sts v (msg bs) k).2 k := by rw [sts]
    have h2 : runR v (sched bs) (k + 1) = stepR (runR v (sched bs) k) (kub k) (mr (sched bs) k) := by rw [runR]
    rw [h1, h2]
    refine step_inv _ _ _ k _ _ (by omega) hl ih _ rfl ?_ j hj
    unfold stepX
    rw [hm, ih 4 (by decide), ih 5 (by decide), ih 6 (by decide), ih 7 (by decide)]
/-- The registers behind a block. -/
def addR (h r : List Nat) : List Nat := (List.range 8).map (fun j => (mr h j + mr r j) % 4294967296)
theorem addN_at (now v : List Nat) : ∀ n, n ≤ now.length → ∀ i, mr (addN now v n) i = if i < n then (mr now i + mr v i) % 4294967296 else mr now i
  | 0, _, i => by rw [if_neg (by omega)]; rfl
  | n + 1, hn, i => by
    have ih := addN_at now v n (by omega)
    unfold addN
    rw [mr_set, addN_len, ih n, if_neg (Nat.lt_irrefl n), ih i]
    by_cases h : n = i
    · subst h
      rw [if_pos ⟨rfl, by omega⟩, if_pos (by omega)]
    · rw [if_neg (fun c => h c.1)]
      by_cases h2 : i < n
      · rw [if_pos h2, if_pos (by omega)]
      · rw [if_neg h2, if_neg (by omega)]
theorem list8_ext {a b : List Nat} (ha : a.length = 8) (hb : b.length = 8) (h : ∀ j, j < 8 → mr a j = mr b j) : a = b := by
  apply List.ext_getElem (by omega)
  intro j h1 h2
  have := h j (by omega)
  unfold mr at this
  rw [List.getD_eq_getElem?_getD, List.getD_eq_getElem?_getD, List.getElem?_eq_getElem h1, List.getElem?_eq_getElem h2] at this
  exact this
theorem addR_at (h r : List Nat) (j : Nat) (hj : j < 8) : mr (addR h r) j = (mr h j + mr r j) % 4294967296 := by
  unfold addR
  show List.getD _ _ _ = _
  rw [List.getD_eq_getElem?_getD, List.getElem?_map, List.getElem?_range hj]
  rfl
theorem workF_ref {bs : List Int} (hb : Bytes bs) (now : List Nat) (hn : now.length = 8) : workF now bs = addR now (runR now (sched bs) 64) := by
  refine list8_ext (by rw [workF_len, hn]) (by simp [addR]) (fun j hj => ?_)
  unfold workF
  rw [addN_at _ _ 8 (by omega), if_pos hj, addR_at _ _ _ hj]
  have := reg_inv hb now hn 64 (Nat.le_refl _) j hj
  rw [show ix 64 j = j by unfold ix; omega] at this
  rw [this]
/-- A block of a text. -/
def blkT (b : List Int) (k : Nat) : List Int := (b.drop (64 * k)).take 64
def hR (now : List Nat) (b : List Int) : Nat → List Nat
  | 0 => now
  | k + 1 => addR (hR now b k) (runR (hR now b k) (sched (blkT b k)) 64)
theorem hR_shift (now : List Nat) (b : List Int) : ∀ k, hR now b (k + 1) = hR (addR now (runR now (sched (b.take 64)) 64)) (b.drop 64) k
  | 0 => by
    show addR now (runR now (sched (blkT b 0)) 64) = _
    rfl
  | k + 1 => by
    show addR (hR now b (k + 1)) (runR (hR now b (k + 1)) (sched (blkT b (k + 1))) 64) = _
    rw [hR_shift now b k]
    have : blkT b (k + 1) = blkT (b.drop 64) k := by
      unfold blkT
      rw [List.drop_drop, show 64 + 64 * k = 64 * (k + 1) by omega]
    rw [this]
    rfl
theorem eat_ref : ∀ (q f : Nat) (now : List Nat) (b : List Int), now.length = 8 → Bytes b → b.length = 64 * q → q ≤ f → (eat f now b).1 = hR now b q
  | 0, 0, now, b, _, _, _, _ => rfl
  | 0, f + 1, now, b, _, _, hl, _ => by unfold eat; rw [if_pos (by omega)]; rfl
  | q + 1, 0, _, _, _, _, _, hf => by omega
  | q + 1, f + 1, now, b, hn, hb, hl, hf => by
    unfold eat
    rw [if_neg (by omega), hR_shift, workF_ref (fun x hx => hb x (List.mem_of_mem_take hx)) now hn]
    exact eat_ref q f _ _ (by simp [addR]) (fun x hx => hb x (List.mem_of_mem_drop hx)) (by rw [List.length_drop]; omega) (by omega)
theorem absorb_ref (now : List Nat) (b : List Int) (q : Nat) (hn : now.length = 8) (hb : Bytes b) (hl : b.length = 64 * q) : (absorb now b).1 = hR now b q := eat_ref q _ now b hn hb hl (by omega)
end Go.Proofs.YtjmgeelblodcgaaDoor.Sx
/- EsPb -/
namespace Go.Proofs.YtjmgeelblodcgaaDoor.Sx
open Go.RowKit Go.Proofs.YtjmgeelblodcgaaDoorW.PrintWords Go.Proofs.YtjmgeelblodcgaaDoorW.PrintMore Go.Proofs.YtjmgeelblodcgaaDoor.Sh Go.Proofs.YtjmgeelblodcgaaDoor.PAll
set_option linter.unusedVariables false
set_option linter.unusedSimpArgs false
theorem rot_sum (x n : Nat) (hx : x < 4294967296) (h0 : 1 ≤ n) (h1 : n ≤ 31) : (x / 2 ^ n + x * 2 ^ (32 - n) % 4294967296) = rot x n ∧ rot x n < 4294967296 := by
  refine ⟨?_, rot_lt hx⟩
  have hp : 2 ^ n * 2 ^ (32 - n) = 4294967296 := by
    rw [← Nat.pow_add, show n + (32 - n) = 32 by omega]
  have hd : x / 2 ^ n < 2 ^ (32 - n) := by
    rw [Nat.div_lt_iff_lt_mul (Nat.two_pow_pos n), Nat.mul_comm, hp]; exact hx
  unfold rot
  rw [← hp, Nat.mul_mod_mul_right, Nat.add_comm, ← Nat.shiftLeft_eq, Nat.shiftLeft_add_eq_or_of_lt hd]
theorem u32_wrap (a : Nat) : IntKind.u32.wrap (a : Int) = ((a % 4294967296 : Nat) : Int) := by
  show (a : Int) % 4294967296 = _
  rw [Int.natCast_emod]; rfl
theorem shl32 (a n : Nat) (h : n ≤ 31) : shl .u32 (a : Int) (n : Int) = ((a * 2 ^ n % 4294967296 : Nat) : Int) := by
  have hm : min ((n : Int).toNat) IntKind.u32.bits = n := by
    show min ((n : Int).toNat) 32 = n
    rw [Int.toNat_natCast]; omega
  unfold shl
  rw [hm, ← u32_wrap, Int.natCast_mul, Int.natCast_pow]
  rfl
theorem turn_f (x n : Nat) (hx : x < 4294967296) (h0 : 1 ≤ n) (h1 : n ≤ 31) : weftlineref04_turn.f (x : Int) (n : Int) = some ((rot x n : Nat) : Int) := by
  have h2 : 2 ^ n < 4294967296 := by
    have := Nat.pow_lt_pow_right (a := 2) (by decide) (show n < 32 by omega)
    simpa using this
  have hs1 : shl .u32 1 (n : Int) = ((2 ^ n : Nat) : Int) := by
    have := shl32 1 n h1
    rw [Nat.one_mul, Nat.mod_eq_of_lt h2] at this
    exact this
  have hw : IntKind.u64.wrap (32 - (n : Int)) = ((32 - n : Nat) : Int) := by
    show (32 - (n : Int)) % 18446744073709551616 = _
    omega
  obtain ⟨hr, hr2⟩ := rot_sum x n hx h0 h1
  unfold weftlineref04_turn.f
  rw [if_pos (by omega), hs1, if_neg (by have := Nat.two_pow_pos n; omega), hw, if_pos (by omega), shl32 x (32 - n) (by omega), Int.tdiv_eq_ediv_of_nonneg (by omega)]
  have hdl : x / 2 ^ n < 4294967296 := Nat.lt_of_le_of_lt (Nat.div_le_self _ _) hx
  have e1 : (x : Int) / ((2 ^ n : Nat) : Int) % 4294967296 = ((x / 2 ^ n : Nat) : Int) := by
    rw [← Int.natCast_ediv]
    generalize x / 2 ^ n = y at hdl
    omega
  rw [e1, ← Int.natCast_add, hr]
  generalize rot x n = y at hr2
  congr 1
  omega
theorem or_add (a b n : Nat) (h : b < 2 ^ n) : (a * 2 ^ n) ||| b = a * 2 ^ n + b := by
  rw [← Nat.shiftLeft_eq, Nat.shiftLeft_add_eq_or_of_lt h]
theorem w4_sum (z0 z1 z2 z3 : Nat) (h0 : z0 < 256) (h1 : z1 < 256) (h2 : z2 < 256) (h3 : z3 < 256) : w4 z0 z1 z2 z3 = ((z0 * 256 + z1) * 256 + z2) * 256 + z3 := by
  unfold w4
  rw [Nat.mod_eq_of_lt (by omega), Nat.mod_eq_of_lt (by omega), Nat.mod_eq_of_lt (by omega)]
  rw [show z0 * 16777216 = z0 * 2 ^ 24 from rfl, or_add z0 (z1 * 65536) 24 (by omega)]
  rw [show z0 * 2 ^ 24 + z1 * 65536 = (z0 * 256 + z1) * 2 ^ 16 by omega, or_add _ (z2 * 256) 16 (by omega)]
  rw [show (z0 * 256 + z1) * 2 ^ 16 + z2 * 256 = ((z0 * 256 + z1) * 256 + z2) * 2 ^ 8 by omega, or_add _ z3 8 (by omega)]
theorem w64 (a : Int) (h0 : 0 ≤ a) (h1 : a < 4611686018427387904) : wrap64 a = a := by unfold wrap64; omega
def ints (m : List Nat) : List Int := m.map (fun (n : Nat) => (n : Int))
theorem ints_len (m : List Nat) : (ints m).length = m.length := by simp [ints]
theorem ints_app (m : List Nat) (x : Nat) : ints (m ++ [x]) = ints m ++ [(x : Int)] := by simp [ints]
theorem ints_rd (m : List Nat) (k : Nat) : rd (ints m) (k : Int) = (mr m k : Nat) := by
  unfold rd mr ints
  rw [List.getD_eq_getElem?_getD, List.getD_eq_getElem?_getD, Int.toNat_natCast, List.getElem?_map]
  cases m[k]? <;> rfl
theorem words_l0 {bs : List Int} (hb : Bytes bs) (hl : bs.length = 64) (f : Nat) : ∀ n j, j + n = 16 → weftlineref04_words.l0 (n + 1 + f) bs (ints (upto (wrd bs) j)) (j : Int) = weftlineref04_words.l1 f (ints (upto (wrd bs) 16)) 16
  | 0, j, h => by
    obtain rfl : j = 16 := by omega
    rw [show 0 + 1 + f = f + 1 by omega, weftlineref04_words.l0, if_neg (by omega)]
  | n + 1, j, h => by
    have ih := words_l0 hb hl f n (j + 1) (by omega)
    rw [show n + 1 + 1 + f = (n + 1 + f) + 1 by omega, weftlineref04_words.l0]
    have e0 : wrap64 (4 * (j : Int)) = ((4 * j : Nat) : Int) := by rw [w64 _ (by omega) (by omega)]; omega
    have e1 : wrap64 (((4 * j : Nat) : Int) + 1) = ((4 * j + 1 : Nat) : Int) := by rw [w64 _ (by omega) (by omega)]; omega
    have e2 : wrap64 (((4 * j : Nat) : Int) + 2) = ((4 * j + 2 : Nat) : Int) := by rw [w64 _ (by omega) (by omega)]; omega
    have e3 : wrap64 (((4 * j : Nat) : Int) + 3) = ((4 * j + 3 : Nat) : Int) := by rw [w64 _ (by omega) (by omega)]; omega
    have e4 : wrap64 ((j : Int) + 1) = ((j + 1 : Nat) : Int) := by rw [w64 _ (by omega) (by omega)]; omega
    rw [e0, e1, e2, e3, e4, hl, if_pos (by omega), if_pos (by omega), if_pos (by omega), if_pos (by omega), if_pos (by omega), if_pos (by omega), if_pos (by omega), if_pos (by omega), if_pos (by omega), if_pos (by rw [ints_len, upto_length]; omega)]
    rw [bt8_rd hb _ (by omega), bt8_rd hb _ (by omega), bt8_rd hb _ (by omega), bt8_rd hb _ (by omega)]
    rw [← ih, upto_succ, ints_app]
    congr 3
    have hw : wrd bs j = ((bt8 bs (4 * j) * 256 + bt8 bs (4 * j + 1)) * 256 + bt8 bs (4 * j + 2)) * 256 + bt8 bs (4 * j + 3) := w4_sum _ _ _ _ (bt8_lt hb _) (bt8_lt hb _) (bt8_lt hb _) (bt8_lt hb _)
    have b0 := bt8_lt hb (4 * j)
    have b1 := bt8_lt hb (4 * j + 1)
    have b2 := bt8_lt hb (4 * j + 2)
    have b3 := bt8_lt hb (4 * j + 3)
    rw [hw]
    generalize bt8 bs (4 * j) = z0 at *
    generalize bt8 bs (4 * j + 1) = z1 at *
    generalize bt8 bs (4 * j + 2) = z2 at *
    generalize bt8 bs (4 * j + 3) = z3 at *
    clear ih hw e0 e1 e2 e3 e4
    omega
end Go.Proofs.YtjmgeelblodcgaaDoor.Sx
/- EsPc -/
namespace Go.Proofs.YtjmgeelblodcgaaDoor.Sx
open Go.RowKit Go.Proofs.YtjmgeelblodcgaaDoorW.PrintWords Go.Proofs.YtjmgeelblodcgaaDoorW.PrintMore Go.Proofs.YtjmgeelblodcgaaDoor.Sh Go.Proofs.YtjmgeelblodcgaaDoor.PAll
set_option linter.unusedVariables false
set_option linter.unusedSimpArgs false
theorem mr_lt {m : List Nat} (h : ∀ x ∈ m, x < 4294967296) (k : Nat) : mr m k < 4294967296 := by
  unfold mr
  rw [List.getD_eq_getElem?_getD]
  by_cases hk : k < m.length
  · rw [List.getElem?_eq_getElem hk, Option.getD_some]; exact h _ (List.getElem_mem hk)
  · rw [List.getElem?_eq_none (by omega), Option.getD_none]; decide
theorem ext_lt {m : List Nat} (h : ∀ x ∈ m, x < 4294967296) (n : Nat) : ∀ x ∈ ext m n, x < 4294967296 := by
  induction n with
  | zero => exact h
  | succ n ih =>
    intro x hx
    rw [ext, List.mem_append] at hx
    rcases hx with hx | hx
    · exact ih x hx
    · rw [List.mem_singleton.1 hx]; exact mod32_lt _
theorem upto_lt {bs : List Int} (hb : Bytes bs) (k : Nat) : ∀ x ∈ upto (wrd bs) k, x < 4294967296 := by
  intro x hx
  unfold upto at hx
  rw [List.mem_map] at hx
  obtain ⟨j, _, rfl⟩ := hx
  exact wrd_lt hb j
theorem trn2 (x a b : Nat) : trn x [a, b] 2 = rot x a ^^^ rot x b := by
  show (0 ^^^ rot x a) ^^^ rot x b = _
  rw [Nat.zero_xor]
theorem trn3 (x a b c : Nat) : trn x [a, b, c] 3 = (rot x a ^^^ rot x b) ^^^ rot x c := by
  show ((0 ^^^ rot x a) ^^^ rot x b) ^^^ rot x c = _
  rw [Nat.zero_xor]
theorem sg_int (x a b d : Nat) (hx : x < 4294967296) (hd : 0 < d) : bits .xor .u32 (bits .xor .u32 ((rot x a : Nat) : Int) ((rot x b : Nat) : Int)) ((Int.tdiv (x : Int) (d : Int)) % 4294967296) = (((rot x a ^^^ rot x b) ^^^ (x / d) : Nat) : Int) := by
  have hdl : x / d < 4294967296 := Nat.lt_of_le_of_lt (Nat.div_le_self _ _) hx
  have e : (Int.tdiv (x : Int) (d : Int)) % 4294967296 = ((x / d : Nat) : Int) := by
    rw [Int.tdiv_eq_ediv_of_nonneg (by omega), ← Int.natCast_ediv]
    generalize x / d = y at hdl
    omega
  rw [e, xor32 _ _ (rot_lt hx) (rot_lt hx), xor32 _ _ (xor_lt32 (rot_lt hx) (rot_lt hx)) hdl]
theorem nxt_int (a b c d : Nat) : ((((a : Int) + (b : Int)) % 4294967296 + (c : Int)) % 4294967296 + (d : Int)) % 4294967296 = (((((a + b) % 4294967296 + c) % 4294967296 + d) % 4294967296 : Nat) : Int) := by omega
theorem turn_i (x n : Nat) (i : Int) (hi : i = (n : Int)) (hx : x < 4294967296) (h0 : 1 ≤ n) (h1 : n ≤ 31) : weftlineref04_turn.f (x : Int) i = some ((rot x n : Nat) : Int) := by
  subst hi
  exact turn_f x n hx h0 h1
theorem words_l1 {bs : List Int} (hb : Bytes bs) (f : Nat) : ∀ n q, n + q = 48 → weftlineref04_words.l1 (n + 1 + f) (ints (ext (upto (wrd bs) 16) q)) ((16 + q : Nat) : Int) = some (ints (sched bs))
  | 0, q, h => by
    obtain rfl : q = 48 := by omega
    rw [show 0 + 1 + f = f + 1 by omega, weftlineref04_words.l1, if_neg (by omega)]
    rfl
  | n + 1, q, h => by
    have ih := words_l1 hb f n (q + 1) (by omega)
    rw [show n + 1 + 1 + f = (n + 1 + f) + 1 by omega, weftlineref04_words.l1]
    have d1 : ((16 + q : Nat) : Int) < 64 := by omega
    have d2 : (0 : Int) ≤ ((q + 1 : Nat) : Int) := by omega
    have d3 : ((q + 1 : Nat) : Int) < ((16 + q : Nat) : Int) := by omega
    have d4 : (0 : Int) ≤ ((q + 14 : Nat) : Int) := by omega
    have d5 : ((q + 14 : Nat) : Int) < ((16 + q : Nat) : Int) := by omega
    have c1 : (0 : Int) ≤ ((q : Nat) : Int) := by omega
    have c2 : ((q : Nat) : Int) < ((16 + q : Nat) : Int) := by omega
    have c3 : (0 : Int) ≤ ((q + 9 : Nat) : Int) := by omega
    have c4 : ((q + 9 : Nat) : Int) < ((16 + q : Nat) : Int) := by omega
    have c5 : 16 + q < 35184372088832 := by omega
    have e15 : wrap64 (((16 + q : Nat) : Int) - 15) = ((q + 1 : Nat) : Int) := by rw [w64 _ (by omega) (by omega)]; omega
    have e2 : wrap64 (((16 + q : Nat) : Int) - 2) = ((q + 14 : Nat) : Int) := by rw [w64 _ (by omega) (by omega)]; omega
    have e16 : wrap64 (((16 + q : Nat) : Int) - 16) = ((q : Nat) : Int) := by rw [w64 _ (by omega) (by omega)]; omega
    have e7 : wrap64 (((16 + q : Nat) : Int) - 7) = ((q + 9 : Nat) : Int) := by rw [w64 _ (by omega) (by omega)]; omega
    have e1 : wrap64 (((16 + q : Nat) : Int) + 1) = ((16 + (q + 1) : Nat) : Int) := by rw [w64 _ (by omega) (by omega)]; omega
    obtain ⟨M, hM⟩ : ∃ M, M = ext (upto (wrd bs) 16) q := ⟨_, rfl⟩
    have hMl : (ints M).length = 16 + q := by rw [ints_len, hM, ext_len, upto_length]
    have hlt : ∀ k, mr M k < 4294967296 := fun k => by rw [hM]; exact mr_lt (ext_lt (upto_lt hb 16) q) k
    have hE : ext (upto (wrd bs) 16) (q + 1) = M ++ [nxt M (16 + q)] := by rw [ext, ← hM]
    have hN : nxt M (16 + q) = (((mr M q + sg0 (mr M (q + 1))) % 4294967296 + mr M (q + 9)) % 4294967296 + sg1 (mr M (q + 14))) % 4294967296 := by
      unfold nxt
      rw [show 16 + q - 16 = q by omega, show 16 + q - 15 = q + 1 by omega, show 16 + q - 7 = q + 9 by omega, show 16 + q - 2 = q + 14 by omega]
    rw [← hM]
    clear hM
    rw [e15, e2, e16, e7, e1, hMl, if_pos d1, if_pos d2, if_pos d3, if_pos d4, if_pos d5]
    rw [ints_rd, ints_rd, ints_rd, ints_rd]
    have t1 : weftlineref04_turn.f ((mr M (q + 1) : Nat) : Int) 7 = some ((rot (mr M (q + 1)) 7 : Nat) : Int) := turn_i _ 7 7 rfl (hlt _) (by decide) (by decide)
    have t2 : weftlineref04_turn.f ((mr M (q + 1) : Nat) : Int) 18 = some ((rot (mr M (q + 1)) 18 : Nat) : Int) := turn_i _ 18 18 rfl (hlt _) (by decide) (by decide)
    have t3 : weftlineref04_turn.f ((mr M (q + 14) : Nat) : Int) 17 = some ((rot (mr M (q + 14)) 17 : Nat) : Int) := turn_i _ 17 17 rfl (hlt _) (by decide) (by decide)
    have t4 : weftlineref04_turn.f ((mr M (q + 14) : Nat) : Int) 19 = some ((rot (mr M (q + 14)) 19 : Nat) : Int) := turn_i _ 19 19 rfl (hlt _) (by decide) (by decide)
    rw [t1, t2, t3, t4]
    simp only [Option.bind_some]
    have s0 := sg_int (mr M (q + 1)) 7 18 8 (hlt _) (by decide)
    have s1 := sg_int (mr M (q + 14)) 17 19 1024 (hlt _) (by decide)
    rw [show ((8 : Nat) : Int) = 8 from rfl] at s0
    rw [show ((1024 : Nat) : Int) = 1024 from rfl] at s1
    rw [s0, s1, if_pos c1, if_pos c2, if_pos c3, if_pos c4, if_pos c5, nxt_int]
    rw [← ih, hE, ints_app]
    rw [hN]
    unfold sg0 sg1
    rw [trn2, trn2]
theorem words_f {bs : List Int} (hb : Bytes bs) (hl : bs.length = 64) : weftlineref04_words.f 66 bs = some (ints (sched bs)) := by
  unfold weftlineref04_words.f
  have h1 := words_l0 hb hl 49 16 0 rfl
  have h2 := words_l1 hb 0 48 0 rfl
  rw [show (66 : Nat) = 16 + 1 + 49 from rfl]
  exact h1.trans h2
theorem not32 (t : Nat) (h : t < 4294967296) : 4294967295 ^^^ t = 4294967295 - t := by
  have h1 := BitVec.toNat_not (x := BitVec.ofNat 32 t)
  have h2 : (BitVec.allOnes 32 ^^^ BitVec.ofNat 32 t) = ~~~ (BitVec.ofNat 32 t) := by rw [BitVec.allOnes_xor]
  rw [← h2, BitVec.toNat_xor, BitVec.toNat_allOnes, BitVec.toNat_ofNat, Nat.mod_eq_of_lt (by omega)] at h1
  simpa using h1
end Go.Proofs.YtjmgeelblodcgaaDoor.Sx
/- EsPd -/
namespace Go.Proofs.YtjmgeelblodcgaaDoor.Sx
open Go.RowKit Go.Proofs.YtjmgeelblodcgaaDoorW.PrintWords Go.Proofs.YtjmgeelblodcgaaDoorW.PrintMore Go.Proofs.YtjmgeelblodcgaaDoor.Sh Go.Proofs.YtjmgeelblodcgaaDoor.PAll
set_option linter.unusedVariables false
set_option linter.unusedSimpArgs false
/-- A number's last m bytes, the greatest first. -/
def be (v : Nat) : Nat → List Int
  | 0 => []
  | m + 1 => ((v / 2 ^ (8 * m) % 256 : Nat) : Int) :: be v m
theorem be_len (v m : Nat) : (be v m).length = m := by
  induction m with
  | zero => rfl
  | succ m ih => rw [be, List.length_cons, ih]
theorem be_snoc (v : Nat) : ∀ m, be v (m + 1) = be (v / 256) m ++ [((v % 256 : Nat) : Int)]
  | 0 => by rw [be, be, be, Nat.mul_zero, Nat.pow_zero, Nat.div_one]; rfl
  | m + 1 => by
    rw [be, be_snoc v m, be, List.cons_append, Nat.div_div_eq_div_mul, show (256 : Nat) = 2 ^ 8 from rfl, ← Nat.pow_add, show 8 + 8 * m = 8 * (m + 1) by omega]
theorem be_zero : ∀ m, be 0 m = List.replicate m 0
  | 0 => rfl
  | m + 1 => by rw [be, be_zero m, Nat.zero_div]; rfl
theorem fill_l0_eq : ∀ (m : Nat) (p s : List Int) (v : Nat), v < 256 ^ m → p.length ≤ 100 → m ≤ 20 → sha_filling.l0 (m + 1) (p ++ List.replicate m 0 ++ s) (((p.length + m : Nat) : Int) - 1) (v : Int) = some (p ++ be v m ++ s)
  | 0, p, s, v, h, _, _ => by
    have hv : v = 0 := by simpa using h
    subst hv
    rw [sha_filling.l0, if_neg (by omega)]
    rfl
  | m + 1, p, s, v, h, hp, hm => by
    rw [sha_filling.l0]
    by_cases hv : v = 0
    · subst hv
      rw [if_neg (by omega), be_zero]
    · have h2 : v / 256 < 256 ^ m := by
        rw [Nat.div_lt_iff_lt_mul (by decide)]
        rwa [Nat.pow_succ] at h
      have ih := fill_l0_eq m p (((v % 256 : Nat) : Int) :: s) (v / 256) h2 hp (by omega)
      clear h h2
      have e1 : (((p.length + (m + 1) : Nat) : Int) - 1) = ((p.length + m : Nat) : Int) := by omega
      have hl : (p ++ List.replicate (m + 1) (0 : Int) ++ s).length = p.length + m + 1 + s.length := by simp; omega
      have e3 : ((v : Int) % 256) = ((v % 256 : Nat) : Int) := by omega
      have e4 : ((v : Int) / 256) = ((v / 256 : Nat) : Int) := by omega
      have e5 : wrap64 (((p.length + m : Nat) : Int) - 1) = ((p.length + m : Nat) : Int) - 1 := by unfold wrap64; omega
      have e6 : (p ++ List.replicate (m + 1) (0 : Int) ++ s).set (p.length + m) ((v % 256 : Nat) : Int) = p ++ List.replicate m 0 ++ (((v % 256 : Nat) : Int) :: s) := by
        rw [List.replicate_succ', ← List.append_assoc, List.append_assoc _ [0] s, List.set_append_right _ _ (by simp)]
        simp
      rw [if_pos (by omega), e1, if_pos (by omega), hl, if_pos (by omega), Int.toNat_natCast, e3, e4, e5, e6, ih, be_snoc]
      simp
theorem fillB_eq (n : Nat) (hn : n ≤ 1000000000) : fillB n = [128] ++ List.replicate ((119 - n % 64) % 64) 0 ++ be (8 * n) 8 := by
  have hm : Int.tmod (n : Int) 64 = ((n % 64 : Nat) : Int) := by rw [Int.tmod_eq_emod_of_nonneg (by omega)]; omega
  have hw : wrap64 (119 - ((n % 64 : Nat) : Int)) = ((119 - n % 64 : Nat) : Int) := by unfold wrap64; omega
  have hm2 : Int.tmod ((119 - n % 64 : Nat) : Int) 64 = (((119 - n % 64) % 64 : Nat) : Int) := by rw [Int.tmod_eq_emod_of_nonneg (by omega)]; rfl
  obtain ⟨z, hz⟩ : ∃ z, z = (119 - n % 64) % 64 := ⟨_, rfl⟩
  have hz2 : z < 64 := by omega
  have hw2 : wrap64 (((z : Nat) : Int) + 8) = ((z + 8 : Nat) : Int) := by unfold wrap64; omega
  have hlen : (([128] : List Int) ++ List.replicate (z + 8) 0).length = z + 9 := by simp
  have hw3 : wrap64 (((z + 9 : Nat) : Int) - 1) = ((z + 8 : Nat) : Int) := by unfold wrap64; omega
  have hu : IntKind.u64.wrap (IntKind.u64.wrap (n : Int) * 8) = ((8 * n : Nat) : Int) := by
    show ((n : Int) % 18446744073709551616 * 8) % 18446744073709551616 = _
    omega
  have hlt : 8 * n < 256 ^ 7 := by
    have : 256 ^ 7 = 72057594037927936 := by decide
    omega
  have h := fill_l0_eq 7 ([128] ++ List.replicate (z + 1) 0) [] (8 * n) hlt (by simp; omega) (by omega)
  have e1 : ([128] ++ List.replicate (z + 1) (0 : Int) ++ List.replicate 7 0 ++ [] : List Int) = [128] ++ List.replicate (z + 8) 0 := by
    rw [List.append_nil, List.append_assoc, List.replicate_append_replicate]
  have e2 : (((([128] ++ List.replicate (z + 1) (0 : Int) : List Int).length + 7 : Nat) : Int) - 1) = ((z + 8 : Nat) : Int) := by simp; omega
  rw [e1, e2] at h
  have hf : sha_filling.f 8 n = some ([128] ++ List.replicate (z + 1) 0 ++ be (8 * n) 7 ++ []) := by
    unfold sha_filling.f
    rw [hm, hw, hm2, ← hz, hw2]
    simp only [Option.bind_some]
    rw [if_pos (by omega), Int.toNat_natCast, if_pos (by simp; omega), hlen, hw3, hu]
    exact h
  have hb : be (8 * n) 8 = 0 :: be (8 * n) 7 := by
    rw [be]
    have : 8 * n / 2 ^ (8 * 7) = 0 := Nat.div_eq_of_lt (by rw [show 2 ^ (8 * 7) = 72057594037927936 from by decide]; omega)
    rw [this]
    rfl
  unfold fillB
  rw [hf, hb, ← hz, Option.getD_some, List.append_nil, List.replicate_succ']
  simp
theorem filled_l1 (v : Nat) (hv : v < 18446744073709551616) (f : Nat) : ∀ j (x : List Int), j ≤ 8 → x.length + j ≤ 1000000 → weftlineref04_filled.l1 (j + 1 + f) x (v : Int) (8 * (j : Int) - 8) = some (x ++ be v j)
  | 0, x, _, _ => by
    rw [show 0 + 1 + f = f + 1 by omega, weftlineref04_filled.l1, if_neg (by omega), be, List.append_nil]
  | j + 1, x, hj, hx => by
    have ih := filled_l1 v hv f j (x ++ [((v / 2 ^ (8 * j) % 256 : Nat) : Int)]) (by omega) (by rw [List.length_append, List.length_singleton]; omega)
    have c1 : ((8 * j : Nat) : Int) ≥ 0 := by omega
    have c2 : (0 : Int) ≤ ((8 * j : Nat) : Int) := by omega
    have c3 : x.length < 140737488355328 := by omega
    have e0 : (8 * ((j + 1 : Nat) : Int) - 8) = ((8 * j : Nat) : Int) := by omega
    have e1 : IntKind.u64.wrap ((8 * j : Nat) : Int) = ((8 * j : Nat) : Int) := by
      show ((8 * j : Nat) : Int) % 18446744073709551616 = _
      omega
    have e2 : wrap64 (((8 * j : Nat) : Int) - 8) = 8 * (j : Int) - 8 := by unfold wrap64; omega
    have e3 : shr .u64 (v : Int) ((8 * j : Nat) : Int) % 256 = ((v / 2 ^ (8 * j) % 256 : Nat) : Int) := by
      have hm : min (((8 * j : Nat) : Int).toNat) IntKind.u64.bits = 8 * j := by
        show min (((8 * j : Nat) : Int).toNat) 64 = _
        rw [Int.toNat_natCast]; omega
      unfold shr
      rw [hm, show ((2 : Int) ^ (8 * j)) = ((2 ^ (8 * j) : Nat) : Int) by rw [Int.natCast_pow]; rfl, Int.natCast_emod, Int.natCast_ediv]
      rfl
    rw [show j + 1 + 1 + f = (j + 1 + f) + 1 by omega, weftlineref04_filled.l1, e0, if_pos c1, e1, if_pos c2, if_pos c3, e2, e3, ih, List.append_assoc, be]
    rfl
theorem filled_l0 (x0 : List Int) (f : Nat) : ∀ z (x : List Int), (x.length + z) % 64 = 56 → z < 64 → x.length + z ≤ 1000000 → weftlineref04_filled.l0 (z + 1 + f) x0 x = weftlineref04_filled.l1 f (x ++ List.replicate z 0) (IntKind.u64.wrap (wrap64 (8 * (x0.length : Int)))) 56
  | 0, x, h, _, _ => by
    rw [show 0 + 1 + f = f + 1 by omega, weftlineref04_filled.l0, if_pos (by omega)]
    simp
  | z + 1, x, h, h2, h3 => by
    rw [show z + 1 + 1 + f = (z + 1 + f) + 1 by omega, weftlineref04_filled.l0, if_neg (by omega), if_pos (by omega), filled_l0 x0 f z (x ++ [0]) (by rw [List.length_append, List.length_singleton]; omega) (by omega) (by rw [List.length_append, List.length_singleton]; omega), List.append_assoc]
    rfl
/-- What the reference fills is what is filled. -/
theorem filled_f (l : List Int) (hn : l.length ≤ 900000) : weftlineref04_filled.f 74 l = some (l ++ fillB l.length) := by
  obtain ⟨z, hz⟩ : ∃ z, z = (119 - l.length % 64) % 64 := ⟨_, rfl⟩
  obtain ⟨f, hf⟩ : ∃ f, 74 = z + 1 + (8 + 1 + f) := ⟨64 - z, by omega⟩
  have hw : IntKind.u64.wrap (wrap64 (8 * (l.length : Int))) = ((8 * l.length : Nat) : Int) := by
    rw [w64 _ (by omega) (by omega)]
    show (8 * (l.length : Int)) % 18446744073709551616 = _
    omega
  have h1 := filled_l0 l (8 + 1 + f) z (l ++ [128]) (by rw [List.length_append, List.length_singleton]; omega) (by omega) (by rw [List.length_append, List.length_singleton]; omega)
  have h2 := filled_l1 (8 * l.length) (by omega) f 8 (l ++ [128] ++ List.replicate z 0) (by omega) (by rw [List.length_append, List.length_append, List.length_replicate, List.length_singleton]; omega)
  rw [hw] at h1
  unfold weftlineref04_filled.f
  simp only [Option.bind_some, List.nil_append]
  rw [if_pos (by simp; omega), if_pos (by omega), hf, h1]
  refine h2.trans ?_
  rw [fillB_eq _ (by omega), ← hz]
  simp
theorem fill_len (n : Nat) (hn : n ≤ 1000000000) : (fillB n).length = (119 - n % 64) % 64 + 9 := by
  rw [fillB_eq n hn, List.length_append, List.length_append, List.length_replicate, be_len, List.length_singleton]
  omega
theorem fill_mod (l : List Int) (hn : l.length ≤ 900000) : ∃ q, (l ++ fillB l.length).length = 64 * q ∧ q ≤ 20000 := by
  rw [List.length_append, fill_len _ (by omega)]
  exact ⟨(l.length + ((119 - l.length % 64) % 64 + 9)) / 64, by omega, by omega⟩
/-- The digest, by blocks. -/
theorem hash_ref (l : List Int) (hb : Bytes l) (hn : l.length ≤ 900000) (q : Nat) (hq : (l ++ fillB l.length).length = 64 * q) : hash l = dgN (hR rts (l ++ fillB l.length) q) 32 := by
  unfold hash
  rw [absorb_ref rts _ q rfl (fun x hx => (List.mem_append.1 hx).elim (hb x) ((fill_f l.length (by omega)).2.1 x)) hq]
end Go.Proofs.YtjmgeelblodcgaaDoor.Sx
/- EsPe -/
namespace Go.Proofs.YtjmgeelblodcgaaDoor.Sx
open Go.RowKit Go.Proofs.YtjmgeelblodcgaaDoorW.PrintWords Go.Proofs.YtjmgeelblodcgaaDoorW.PrintMore Go.Proofs.YtjmgeelblodcgaaDoor.Sh Go.Proofs.YtjmgeelblodcgaaDoor.PAll
set_option linter.unusedVariables false
set_option linter.unusedSimpArgs false
theorem turn_q (x n : Nat) (i : Int) (hi : i = (n : Int)) (hx : x < 4294967296) (h0 : 1 ≤ n) (h1 : n ≤ 31) (W : World) : Calls Tryd.prog 39 #[.int .u32 (x : Nat), .int .u64 i] W fun e w' => e = .returned (.int .u32 (rot x n : Nat)) ∧ ∃ m, w' = W.drewN m := by
  subst hi
  refine (weftlineref04_turn.calls (x : Int) (n : Int) _ W (turn_f x n hx h0 h1)).mono ?_
  rintro e w' ⟨rfl, ⟨⟨m, hm⟩⟩⟩
  exact ⟨rfl, m, hm⟩
theorem nt_int (t : Nat) (ht : t < 4294967296) : IntKind.u32.wrap (4294967295 - (t : Int)) = ((4294967295 ^^^ t : Nat) : Int) := by
  rw [not32 t ht]
  show (4294967295 - (t : Int)) % 4294967296 = _
  omega
theorem step_nums (r0 r1 r2 r3 r4 r5 r6 r7 c m : Nat) (h0 : r0 < 4294967296) (h1 : r1 < 4294967296) (h2 : r2 < 4294967296) (h4 : r4 < 4294967296) (h5 : r5 < 4294967296) (h6 : r6 < 4294967296) :
    ∃ a1 nt a2 ch q1 q2 y1 y2 y3 X m1 m2 m3 m4 m5 u1 u2 Y H E : Nat,
    bits .and .u32 (r4 : Int) (r5 : Int) = (a1 : Int) ∧ IntKind.u32.wrap (4294967295 - (r4 : Int)) = (nt : Int) ∧ bits .and .u32 (nt : Int) (r6 : Int) = (a2 : Int) ∧ bits .xor .u32 (a1 : Int) (a2 : Int) = (ch : Int) ∧
    bits .xor .u32 ((rot r4 6 : Nat) : Int) ((rot r4 11 : Nat) : Int) = (q1 : Int) ∧ bits .xor .u32 (q1 : Int) ((rot r4 25 : Nat) : Int) = (q2 : Int) ∧
    IntKind.u32.wrap ((r7 : Int) + (q2 : Int)) = (y1 : Int) ∧ IntKind.u32.wrap ((y1 : Int) + (ch : Int)) = (y2 : Int) ∧ IntKind.u32.wrap ((y2 : Int) + (c : Int)) = (y3 : Int) ∧ IntKind.u32.wrap ((y3 : Int) + (m : Int)) = (X : Int) ∧
    bits .and .u32 (r0 : Int) (r1 : Int) = (m1 : Int) ∧ bits .and .u32 (r0 : Int) (r2 : Int) = (m2 : Int) ∧ bits .xor .u32 (m1 : Int) (m2 : Int) = (m3 : Int) ∧ bits .and .u32 (r1 : Int) (r2 : Int) = (m4 : Int) ∧ bits .xor .u32 (m3 : Int) (m4 : Int) = (m5 : Int) ∧
    bits .xor .u32 ((rot r0 2 : Nat) : Int) ((rot r0 13 : Nat) : Int) = (u1 : Int) ∧ bits .xor .u32 (u1 : Int) ((rot r0 22 : Nat) : Int) = (u2 : Int) ∧ IntKind.u32.wrap ((u2 : Int) + (m5 : Int)) = (Y : Int) ∧
    IntKind.u32.wrap ((X : Int) + (Y : Int)) = (H : Int) ∧ IntKind.u32.wrap ((r3 : Int) + (X : Int)) = (E : Int) ∧ H = stH r0 r1 r2 (stX r4 r5 r6 r7 c m) ∧ E = (r3 + stX r4 r5 r6 r7 c m) % 4294967296 := by
  have hn : 4294967295 ^^^ r4 < 4294967296 := xor_lt32 (by decide) h4
  have l1 := xor_lt32 (rot_lt (n := 6) h4) (rot_lt (n := 11) h4)
  have l2 := xor_lt32 (rot_lt (n := 2) h0) (rot_lt (n := 13) h0)
  refine ⟨_, _, _, _, _, _, _, _, _, _, _, _, _, _, _, _, _, _, _, _, and32 _ _ h4 h5, nt_int r4 h4, and32 _ _ hn h6, xor32 _ _ (and_lt32 h4 h5) (and_lt32 hn h6), xor32 _ _ (rot_lt h4) (rot_lt h4), xor32 _ _ l1 (rot_lt h4), wadd _ _, wadd _ _, wadd _ _, wadd _ _, and32 _ _ h0 h1, and32 _ _ h0 h2, xor32 _ _ (and_lt32 h0 h1) (and_lt32 h0 h2), and32 _ _ h1 h2, xor32 _ _ (xor_lt32 (and_lt32 h0 h1) (and_lt32 h0 h2)) (and_lt32 h1 h2), xor32 _ _ (rot_lt h0) (rot_lt h0), xor32 _ _ l2 (rot_lt h0), wadd _ _, wadd _ _, wadd _ _, ?_, ?_⟩
  · unfold stH stX
    rw [trn3, trn3]
    unfold chs maj
    generalize rot r4 6 ^^^ rot r4 11 ^^^ rot r4 25 = q
    generalize rot r0 2 ^^^ rot r0 13 ^^^ rot r0 22 = u
    generalize r4 &&& r5 ^^^ (4294967295 ^^^ r4) &&& r6 = ch
    generalize r0 &&& r1 ^^^ r0 &&& r2 ^^^ r1 &&& r2 = mj
    omega
  · unfold stX
    rw [trn3]
    rfl
theorem info51 : (Tryd.prog.info? 51).map (·.size) = some 8 := by kernel_rfl
theorem vals8_one (a0 a1 a2 a3 a4 a5 a6 a7 : Int) : (#[.int .u32 a0, .int .u32 a1, .int .u32 a2, .int .u32 a3, .int .u32 a4, .int .u32 a5, .int .u32 a6, .int .u32 a7] : Array Value).all (·.oneCell') = true := by simp [Value.oneCell']
theorem store8 (w : World) (g : Nat) (old cs : Array Value) (hg : w.heap[g]? = some (.cells old 51 (0, 0))) (ho : old.size = 8) (hs : cs.size = 8) (h1 : cs.all (·.oneCell') = true) :
    (storeVar 51 ⟨g, 0, none⟩ (.agg cs)).run Tryd.prog w = .ok () (w.setRow g cs) ∧ (w.setRow g cs).heap[g]? = some (.cells cs 51 (0, 0)) :=
  ⟨run_storeVar_row w g 51 51 _ _ hg (by rw [info51, hs]) (by rw [ho, hs]) h1, setRow_heap w g _ _ 51 (0, 0) hg⟩
set_option maxRecDepth 100000 in
set_option maxHeartbeats 4000000 in
theorem step_calls (w : World) (r0 r1 r2 r3 r4 r5 r6 r7 c m : Nat) (h0 : r0 < 4294967296) (h1 : r1 < 4294967296) (h2 : r2 < 4294967296) (h4 : r4 < 4294967296) (h5 : r5 < 4294967296) (h6 : r6 < 4294967296) :
    Calls Tryd.prog 28 #[.agg #[.int .u32 (r0 : Nat), .int .u32 (r1 : Nat), .int .u32 (r2 : Nat), .int .u32 (r3 : Nat), .int .u32 (r4 : Nat), .int .u32 (r5 : Nat), .int .u32 (r6 : Nat), .int .u32 (r7 : Nat)], .int .u32 (c : Nat), .int .u32 (m : Nat)] w
      fun e w' => e = .returned (.agg #[.int .u32 (stH r0 r1 r2 (stX r4 r5 r6 r7 c m) : Nat), .int .u32 (r0 : Nat), .int .u32 (r1 : Nat), .int .u32 (r2 : Nat), .int .u32 ((r3 + stX r4 r5 r6 r7 c m) % 4294967296 : Nat), .int .u32 (r4 : Nat), .int .u32 (r5 : Nat), .int .u32 (r6 : Nat)]) ∧ Below w.heap.size w w' := by
  obtain ⟨a1, nt, a2, ch, q1, q2, y1, y2, y3, X, m1, m2, m3, m4, m5, u1, u2, Y, H, E, f1, f2, f3, f4, f5, f6, f7, f8, f9, f10, f11, f12, f13, f14, f15, f16, f17, f18, f19, f20, hH, hE⟩ := step_nums r0 r1 r2 r3 r4 r5 r6 r7 c m h0 h1 h2 h4 h5 h6
  rw [← hH, ← hE]
  have T6 := Aside0.mk (turn_q r4 6 6 rfl h4 (by decide) (by decide))
  have T11 := Aside0.mk (turn_q r4 11 11 rfl h4 (by decide) (by decide))
  have T25 := Aside0.mk (turn_q r4 25 25 rfl h4 (by decide) (by decide))
  have T2 := Aside0.mk (turn_q r0 2 2 rfl h0 (by decide) (by decide))
  have T13 := Aside0.mk (turn_q r0 13 13 rfl h0 (by decide) (by decide))
  have T22 := Aside0.mk (turn_q r0 22 22 rfl h0 (by decide) (by decide))
  have HB := Aside0.mk (below_alloc (below_alloc (Below.refl w.heap.size w) (.cells #[.int .u32 (r0 : Nat), .int .u32 (r1 : Nat), .int .u32 (r2 : Nat), .int .u32 (r3 : Nat), .int .u32 (r4 : Nat), .int .u32 (r5 : Nat), .int .u32 (r6 : Nat), .int .u32 (r7 : Nat)] 51)) (.cells #[.int .u32 0, .int .u32 0, .int .u32 0, .int .u32 0, .int .u32 0, .int .u32 0, .int .u32 0, .int .u32 0] 51))
  clear hH hE h0 h1 h2 h4 h5 h6
  go_enter Tryd.func28, Tryd.ntmps28
  go_wp2_with fail
  have H0 := Aside0.mk (blk_alloc (blk_new w (.cells #[.int .u32 (r0 : Nat), .int .u32 (r1 : Nat), .int .u32 (r2 : Nat), .int .u32 (r3 : Nat), .int .u32 (r4 : Nat), .int .u32 (r5 : Nat), .int .u32 (r6 : Nat), .int .u32 (r7 : Nat)] 51)) (.cells #[.int .u32 0, .int .u32 0, .int .u32 0, .int .u32 0, .int .u32 0, .int .u32 0, .int .u32 0, .int .u32 0] 51))
  have H1 := Aside0.mk (blk_new_at (w.alloc (.cells #[.int .u32 (r0 : Nat), .int .u32 (r1 : Nat), .int .u32 (r2 : Nat), .int .u32 (r3 : Nat), .int .u32 (r4 : Nat), .int .u32 (r5 : Nat), .int .u32 (r6 : Nat), .int .u32 (r7 : Nat)] 51)) (.cells #[.int .u32 0, .int .u32 0, .int .u32 0, .int .u32 0, .int .u32 0, .int .u32 0, .int .u32 0, .int .u32 0] 51) (w.heap.size + 1) (by rw [World.size_alloc]))
  obtain ⟨W1, hW1⟩ : ∃ x, x = ((w.alloc (.cells #[.int .u32 (r0 : Nat), .int .u32 (r1 : Nat), .int .u32 (r2 : Nat), .int .u32 (r3 : Nat), .int .u32 (r4 : Nat), .int .u32 (r5 : Nat), .int .u32 (r6 : Nat), .int .u32 (r7 : Nat)] 51)).alloc (.cells #[.int .u32 0, .int .u32 0, .int .u32 0, .int .u32 0, .int .u32 0, .int .u32 0, .int .u32 0, .int .u32 0] 51)) := ⟨_, rfl⟩
  rw [← hW1] at HB H0 H1 ⊢
  clear hW1
  have H1s := Aside0.mk (show w.heap.size ≤ w.heap.size + 1 by omega)
  obtain ⟨b1, hb1⟩ : ∃ b1, b1 = w.heap.size + 1 := ⟨_, rfl⟩
  have HBE := Aside0.mk hb1
  rw [← hb1] at H1 H1s ⊢
  clear hb1
  have k0 := blk_cell H0.out 0
  have k1 := blk_cell H0.out 1
  have k2 := blk_cell H0.out 2
  have k3 := blk_cell H0.out 3
  have k4 := blk_cell H0.out 4
  have k5 := blk_cell H0.out 5
  have k6 := blk_cell H0.out 6
  have k7 := blk_cell H0.out 7
  go_quiet (first | (go_at_call 39; with_reducible refine Calls.quiet_of (T6.out _)) | (go_at_call 39; with_reducible refine Calls.quiet_of (T11.out _)) | (go_at_call 39; with_reducible refine Calls.quiet_of (T25.out _)))
  rename_i nq
  clear k0 k1 k2 k3 k4 k5 k6 k7
  have HB2 := Aside0.mk (pw_below_drewN HB.out nq)
  have H02 := Aside0.mk (blk_drewN H0.out nq)
  have H12 := Aside0.mk (blk_drewN H1.out nq)
  obtain ⟨W2, hW2⟩ : ∃ x, x = W1.drewN nq := ⟨_, rfl⟩
  rw [← hW2] at HB2 H02 H12 ⊢
  clear hW2 HB H0 H1
  have k0 := blk_cell H02.out 0
  have k1 := blk_cell H02.out 1
  have k2 := blk_cell H02.out 2
  have k3 := blk_cell H02.out 3
  have k4 := blk_cell H02.out 4
  have k5 := blk_cell H02.out 5
  have k6 := blk_cell H02.out 6
  have k7 := blk_cell H02.out 7
  go_wp2_with fail
  go_quiet (first | (go_at_call 39; with_reducible refine Calls.quiet_of (T2.out _)) | (go_at_call 39; with_reducible refine Calls.quiet_of (T13.out _)) | (go_at_call 39; with_reducible refine Calls.quiet_of (T22.out _)))
  clear k0 k1 k2 k3 k4 k5 k6 k7
  have HB3 := Aside0.mk (pw_below_drewN HB2.out nq)
  have H03 := Aside0.mk (blk_drewN H02.out nq)
  have H13 := Aside0.mk (blk_drewN H12.out nq)
  obtain ⟨W3, hW3⟩ : ∃ x, x = W2.drewN nq := ⟨_, rfl⟩
  rw [← hW3] at HB3 H03 H13 ⊢
  clear hW3 HB2 H02 H12
  have k0 := blk_cell H03.out 0
  have k1 := blk_cell H03.out 1
  have k2 := blk_cell H03.out 2
  have k3 := blk_cell H03.out 3
  have k4 := blk_cell H03.out 4
  have k5 := blk_cell H03.out 5
  have k6 := blk_cell H03.out 6
  have k7 := blk_cell H03.out 7
  have hst := store8 W3 b1 _ #[.int .u32 (H : Nat), .int .u32 (r0 : Nat), .int .u32 (r1 : Nat), .int .u32 (r2 : Nat), .int .u32 (E : Nat), .int .u32 (r4 : Nat), .int .u32 (r5 : Nat), .int .u32 (r6 : Nat)] H13.out rfl rfl (vals8_one _ _ _ _ _ _ _ _)
  have HST := Aside0.mk hst
  clear hst
  go_wp2_with (first | (refine store_whole (s := .tmp 6) rfl rfl rfl rfl HST.out.1 ?_))
  refine bodyPost_ret (results_cell_row rfl _ _ b1 51 _ (0, 0) _ rfl HST.out.2 Tryd.underlying51 rfl info51) rfl ?_
  exact ⟨rfl, below_setRow HB3.out H1s.out _⟩
end Go.Proofs.YtjmgeelblodcgaaDoor.Sx
/- EsK -/
namespace Go.Proofs.YtjmgeelblodcgaaDoor.Sx
open Go.RowKit Go.Proofs.YtjmgeelblodcgaaDoorW.PrintWords Go.Proofs.YtjmgeelblodcgaaDoorW.PrintMore Go.Proofs.YtjmgeelblodcgaaDoor.Sh
set_option linter.unusedVariables false
set_option linter.unusedSimpArgs false
/-- Texts in a slice. -/
def PartsOf (w : World) (A : Option Addr) (ps : List (List Int)) : Prop :=
  ∀ k, k < ps.length → ∃ ad A' cp, A = some ad ∧ w.cell? (ad.add k) = some (.slice A' (prt ps k).length cp) ∧ Txt w (.slice A' (prt ps k).length cp) (prt ps k)
theorem PartsOf.below {w W : World} {A : Option Addr} {ps : List (List Int)} (h : PartsOf w A ps) (hb : Below w.heap.size w W) : PartsOf W A ps := fun k hk => by
  obtain ⟨ad, A', cp, h1, h2, h3⟩ := h k hk
  exact ⟨ad, A', cp, h1, pw_cell_below hb h2, h3.below hb⟩
theorem PartsOf.blk {W : World} {b t : Nat} {vs : List Value} {ps : List (List Int)} (hl : vs.length = ps.length) (h : W.heap[b]? = some (.cells vs.toArray t (0, 0))) (ht : ∀ k, k < ps.length → Txt W (vs.getD k .nilIface) (prt ps k)) : PartsOf W (some ⟨b, 0, none⟩) ps := by
  intro k hk
  obtain ⟨A, c, h1, h2⟩ := ht k hk
  refine ⟨_, A, c, rfl, ?_, ⟨A, c, rfl, h2⟩⟩
  rw [add_row, blk_cell h k, ← h1]
  have hk2 : k < vs.length := by omega
  simp [List.getElem?_eq_getElem hk2]
theorem Roots.below {w W : World} (h : Roots w) (hb : Below w.heap.size w W) : Roots W := fun k hk => pw_cell_below hb (h k hk)
theorem Cubes.below {w W : World} (h : Cubes w) (hb : Below w.heap.size w W) : Cubes W := fun k hk => pw_cell_below hb (h k hk)
theorem Fed.below {w W : World} {b : Nat} {l : List Int} (h : Fed w b l) (hb : Below w.heap.size w W) : Fed W b l := by
  obtain ⟨v, h1, h2, h3, h4⟩ := h
  exact ⟨v, (hb.block b (blk_lt h1)).trans h1, h2, h3, h4.below hb⟩
theorem Txt.fed {w W : World} {v : Value} {l l2 : List Int} {b : Nat} (h : Txt w v l) (hf : Fed w b l2) (hg : w.grownBy W (some b)) : Txt W v l := by
  obtain ⟨u, h1, h2, h3, h4⟩ := hf
  exact h.gb h1 (state_noU8 _ _ _ h4.notU8) hg
theorem store32 (w : World) (g : Nat) (d : List Int) (hl : d.length = 32) {old : List Int} (hg : w.heap[g]? = some (.cells (cellsB old) 25 (0, 0))) (ho : old.length = 32 := by rfl) :
    (storeVar 25 ⟨g, 0, none⟩ (.agg (cellsB d))).run Tryd.prog w = .ok () (w.setRow g (cellsB d)) ∧ (w.setRow g (cellsB d)).heap[g]? = some (.cells (cellsB d) 25 (0, 0)) :=
  ⟨run_storeVar_row w g 25 25 _ _ hg (by rw [info25, cellsB_size, hl]) (by rw [cellsB_size, cellsB_size, hl, ho]) (cellsB_one _), setRow_heap w g _ _ 25 (0, 0) hg⟩
set_option maxRecDepth 100000 in
set_option maxHeartbeats 1000000 in
theorem psum_calls (w : World) (hr : Roots w) (hcu : Cubes w) (A : Option Addr) (ps : List (List Int)) (n cp : Nat) (hn : n = ps.length) (hs : ps.length ≤ 1000) (hp : PartsOf w A ps) (ht : (flat ps ps.length).length ≤ 900000) :
    Calls Tryd.prog 12 #[.slice A n cp] w fun e w' => e = .returned (.agg (cellsB (hash (flat ps ps.length)))) ∧ Below w.heap.size w w' := by
  subst hn
  have HR := Aside0.mk hr
  have HCU := Aside0.mk hcu
  have HP := Aside0.mk hp
  have HT := Aside0.mk ht
  have h2w : 2 < w.heap.size := cell_lt (HCU.out 0 (by decide))
  clear hr hcu hp ht
  go_enter Tryd.func12, Tryd.ntmps12
  go_wp2_with fail
  rw [zero32_eq]
  have hR : (w.alloc (.cells zero32 25)).heap[w.heap.size]? = some (.cells (cellsB (List.replicate 32 0)) 25 (0, 0)) := blk_new w _
  have hB1 := below_alloc (Below.refl w.heap.size w) (.cells zero32 25)
  have hsz1 : (w.alloc (.cells zero32 25)).heap.size = w.heap.size + 1 := by simp
  obtain ⟨W1, hW1⟩ : ∃ x, x = w.alloc (.cells zero32 25) := ⟨_, rfl⟩
  rw [← hW1] at hR hB1 hsz1 ⊢
  clear hW1
  refine (fed_begin W1 (HR.out.below hB1)).mono ?_
  rintro e W2 ⟨rfl, hf2, hb2⟩
  have hR2 := Aside0.mk ((hb2.block _ (blk_lt hR)).trans hR)
  have hB2 := Aside0.mk (hB1.trans (hb2.mono (by omega)))
  have HF2 := Aside0.mk hf2
  obtain ⟨g, hge⟩ : ∃ g, g = W1.heap.size := ⟨_, rfl⟩
  rw [← hge] at HF2 ⊢
  have hgw : w.heap.size < g := by omega
  clear hR hB1 hf2 hb2 hge hsz1
  go_wp2_with fail
  go_loopw [9] (fun i wr => ∃ k : Nat, k ≤ ps.length ∧ i = .int .i64 k ∧ Aside0 (Fed wr g (flat ps k)) ∧ Aside0 (Below w.heap.size w wr) ∧ Aside0 (wr.heap[w.heap.size]? = some (.cells (cellsB (List.replicate 32 0)) 25 (0, 0)))) (fun i _ => ps.length - (intOf i).toNat)
  case atStart => exact ⟨0, Nat.zero_le _, rfl, HF2, hB2, hR2⟩
  case round =>
    obtain ⟨k, hk, rfl, HF, HB, HRr⟩ := hrel
    by_cases hlt : k < ps.length
    · obtain ⟨ad, A', c2, hA, hcell, htx⟩ := HP.out k hlt
      subst hA
      have hcell2 := pw_cell_below HB.out hcell
      have h1 := Nat.le_trans (flat_mono ps (k + 1) ps.length hlt) HT.out
      have h2 : (flat ps (k + 1)).length = (flat ps k).length + (prt ps k).length := by show (flat ps k ++ prt ps k).length = _; simp
      have HAD := Aside0.mk (fed_add wr g (flat ps k) HF.out (HCU.out.below HB.out) (by omega) A' c2 (prt ps k) (htx.below HB.out) (by omega))
      clear hcell htx h1 h2
      go_wp2_with (first | (go_at_call 15; refine HAD.out.mono ?_; rintro e w4 ⟨⟨u, rfl⟩, hg, hf, _⟩; have HG4 := Aside0.mk hg; have HF4 := Aside0.mk hf; clear hg hf))
      go_roundw
      case rel => exact ⟨k + 1, by omega, by go_num, HF4, ⟨HB.out.trans (gb_to HG4.out HB.out.size (fun j e => by cases e; omega))⟩, ⟨gb_blk HG4.out HRr.out (by intro e; cases e; omega)⟩⟩
      case measure => simp [intOf]; omega
    · obtain rfl : k = ps.length := by omega
      have HSM := Aside0.mk (fed_sum wr g _ HF.out (HCU.out.below HB.out) HT.out)
      go_wp2_with (first | (go_at_call 16; refine HSM.out.mono ?_; rintro e w5 ⟨rfl, hb⟩; have HB5 := Aside0.mk hb; have HST := Aside0.mk (store32 w5 w.heap.size (hash (flat ps ps.length)) (hash_len _) ((hb.block _ (blk_lt HRr.out)).trans HRr.out)); clear hb) | (with_reducible refine store_whole (s := .tmp 2) rfl rfl rfl rfl HST.out.1 ?_))
      refine bodyPost_ret (results_cell_row rfl _ _ w.heap.size 25 (cellsB (hash (flat ps ps.length))) (0, 0) _ rfl HST.out.2 Tryd.underlying25 rfl (by rw [info25, cellsB_size, hash_len])) rfl ?_
      exact ⟨rfl, below_setRow (HB.out.trans (HB5.out.mono HB.out.size)) (Nat.le_refl _) _⟩
end Go.Proofs.YtjmgeelblodcgaaDoor.Sx
/- EsL -/
namespace Go.Proofs.YtjmgeelblodcgaaDoor.Sx
open Go.RowKit Go.Proofs.YtjmgeelblodcgaaDoorW.PrintWords Go.Proofs.YtjmgeelblodcgaaDoorW.PrintMore Go.Proofs.YtjmgeelblodcgaaDoor.Sh
set_option linter.unusedVariables false
set_option linter.unusedSimpArgs false
def Yes (w : World) (e : Ending) (w' : World) : Prop := e = .returned (.bool true) ∧ Below w.heap.size w w'
end Go.Proofs.YtjmgeelblodcgaaDoor.Sx
/- EsN -/
namespace Go.Proofs.YtjmgeelblodcgaaDoor.Sx
open Go.RowKit Go.Proofs.YtjmgeelblodcgaaDoorW.PrintWords Go.Proofs.YtjmgeelblodcgaaDoorW.PrintMore Go.Proofs.YtjmgeelblodcgaaDoor.Sh
set_option linter.unusedVariables false
set_option linter.unusedSimpArgs false
/-- What a law's walk leaves as it was: texts, the tables, all that lay. -/
structure Env (w W : World) (ts : List (Value × List Int)) : Prop where
  txt : ∀ t ∈ ts, Txt W t.1 t.2
  roots : Roots W
  cubes : Cubes W
  bel : Below w.heap.size w W
theorem Env.below {w W W' : World} {ts : List (Value × List Int)} (h : Env w W ts) (hb : Below W.heap.size W W') : Env w W' ts :=
  ⟨fun t ht => (h.txt t ht).below hb, h.roots.below hb, h.cubes.below hb, h.bel.trans (hb.mono h.bel.size)⟩
theorem Roots.gb {w W : World} {b : Nat} (h : Roots w) (hg : w.grownBy W (some b)) (hb : 1 ≠ b) : Roots W := fun k hk => gb_cell hg (h k hk) (by intro e; cases e; exact hb rfl)
theorem Env.gb {w W W' : World} {ts : List (Value × List Int)} {g : Nat} {l : List Int} (h : Env w W ts) (hf : Fed W g l) (hg : W.grownBy W' (some g)) (hge : w.heap.size ≤ g) (h2 : 2 < w.heap.size) : Env w W' ts :=
  ⟨fun t ht => (h.txt t ht).fed hf hg, h.roots.gb hg (by omega), h.cubes.gb hg (by omega), h.bel.trans (gb_to hg h.bel.size (fun k e => by cases e; exact hge))⟩
theorem psum2 {W : World} {v1 v2 : Value} {l1 l2 : List Int} (hr : Roots W) (hcu : Cubes W) (h1 : Txt W v1 l1) (h2 : Txt W v2 l2) (hl : l1.length + l2.length ≤ 900000) (b : Nat) (hb : b = W.heap.size) :
    Calls Tryd.prog 12 #[.slice (some ⟨b, 0, none⟩) 2 2] (W.alloc (.cells #[v1, v2] 22)) fun e w' => e = .returned (.agg (cellsB (hash (l1 ++ l2)))) ∧ Below W.heap.size W w' := by
  subst hb
  have hB := below_alloc (Below.refl W.heap.size W) (.cells #[v1, v2] 22)
  have hp := PartsOf.blk (vs := [v1, v2]) (ps := [l1, l2]) rfl (blk_new W (.cells #[v1, v2] 22)) (fun k hk => by
    have : k = 0 ∨ k = 1 := by simp at hk; omega
    rcases this with rfl | rfl
    · exact h1.below hB
    · exact h2.below hB)
  have hf : flat [l1, l2] [l1, l2].length = l1 ++ l2 := rfl
  refine (psum_calls _ (hr.below hB) (hcu.below hB) _ [l1, l2] 2 2 rfl (by simp) hp (by rw [hf, List.length_append]; exact hl)).mono ?_
  rintro e w' ⟨rfl, h⟩
  exact ⟨by rw [hf], hB.trans (h.mono hB.size)⟩
theorem psum1 {W : World} {v1 : Value} {l1 : List Int} (hr : Roots W) (hcu : Cubes W) (h1 : Txt W v1 l1) (hl : l1.length ≤ 900000) (b : Nat) (hb : b = W.heap.size) :
    Calls Tryd.prog 12 #[.slice (some ⟨b, 0, none⟩) 1 1] (W.alloc (.cells #[v1] 22)) fun e w' => e = .returned (.agg (cellsB (hash l1))) ∧ Below W.heap.size W w' := by
  subst hb
  have hB := below_alloc (Below.refl W.heap.size W) (.cells #[v1] 22)
  have hp := PartsOf.blk (vs := [v1]) (ps := [l1]) rfl (blk_new W (.cells #[v1] 22)) (fun k hk => by
    have : k = 0 := by simp at hk; omega
    subst this
    exact h1.below hB)
  have hf : flat [l1] [l1].length = l1 := rfl
  refine (psum_calls _ (hr.below hB) (hcu.below hB) _ [l1] 1 1 rfl (by simp) hp (by rw [hf]; exact hl)).mono ?_
  rintro e w' ⟨rfl, h⟩
  exact ⟨by rw [hf], hB.trans (h.mono hB.size)⟩
theorem glob_roots : Tryd.prog.globalNamed "weftline/sha.roots" = some 1 := by kernel_rfl
theorem glob_cubes : Tryd.prog.globalNamed "weftline/sha.cubes" = some 2 := by kernel_rfl
theorem roots_of {W : World} {rest : List (String × DataW Unit)} (h : laidMet Tryd.prog (("weftline/sha.roots", Rows.laid_weftline_sha_roots) :: rest) W) : Roots W := by
  have ht : Lib.TabIs Tryd.prog W "weftline/sha.roots" .u32 (rts.map Int.ofNat) :=
    Lib.tabIs_of_head (P := Tryd.prog) (t := 57) (e := 45) (n := 8) (rest := rest) glob_roots (by kernel_rfl) Tryd.underlying57 Tryd.underlying45 (by kernel_rfl) (by kernel_rfl) h
  intro k hk
  rw [ht.cell glob_roots k (by rw [List.length_map]; exact hk)]
  have : ∀ j : Fin 8, (rts.map Int.ofNat).getD j.1 0 = (mr rts j.1 : Int) := by decide
  rw [this ⟨k, hk⟩]
theorem cubes_of {W : World} {rest : List (String × DataW Unit)} (h : laidMet Tryd.prog (("weftline/sha.cubes", Rows.laid_weftline_sha_cubes) :: rest) W) : Cubes W := by
  have ht : Lib.TabIs Tryd.prog W "weftline/sha.cubes" .u32 (cub.map Int.ofNat) :=
    Lib.tabIs_of_head (P := Tryd.prog) (t := 56) (e := 45) (n := 64) (rest := rest) glob_cubes (by kernel_rfl) Tryd.underlying56 Tryd.underlying45 (by kernel_rfl) (by kernel_rfl) h
  intro k hk
  rw [ht.cell glob_cubes k (by rw [List.length_map]; exact hk)]
  have : ∀ j : Fin 64, (cub.map Int.ofNat).getD j.1 0 = (kub j.1 : Int) := by decide
  rw [this ⟨k, hk⟩]
theorem bytes_of_wf {l : List Int} (h : ∀ z ∈ l, (Lit.int .u8 z).wf = true) : Bytes l := fun z hz => by
  have := h z hz
  simp [Lit.wf, IntKind.min, IntKind.max] at this
  simp [IntKind.signed, IntKind.bits] at this
  omega
end Go.Proofs.YtjmgeelblodcgaaDoor.Sx
/- EsO -/
namespace Go.Proofs.YtjmgeelblodcgaaDoor.Sx
open Go.RowKit Go.Proofs.YtjmgeelblodcgaaDoorW.PrintWords Go.Proofs.YtjmgeelblodcgaaDoorW.PrintMore Go.Proofs.YtjmgeelblodcgaaDoor.Sh
set_option linter.unusedVariables false
set_option linter.unusedSimpArgs false
/-- What is open lies apart from a row. -/
def Apart (w : World) (g : Nat) (row : Option Nat) : Prop := ∀ (A : Addr) (n c : Nat), w.cell? ⟨g, 8, none⟩ = some (.slice (some A) n c) → 0 < n → row ≠ some A.block
theorem cell_of_heap {w W : World} {g i : Nat} (h : W.heap[g]? = w.heap[g]?) : W.cell? ⟨g, i, none⟩ = w.cell? ⟨g, i, none⟩ := by unfold World.cell?; rw [h]
theorem Apart.step {w W : World} {g : Nat} {row : Option Nat} (h : Apart w g row) (hh : W.heap[g]? = w.heap[g]?) : Apart W g row := fun A n c hc => h A n c (by rw [← cell_of_heap hh]; exact hc)
theorem Fed.heap {w : World} {g : Nat} {l : List Int} (h : Fed w g l) : ∃ cs, w.heap[g]? = some (.cells cs 59 (0, 0)) := by
  obtain ⟨v, h1, _⟩ := h
  exact ⟨_, h1⟩
theorem part_at {w : World} {A0 : Option Addr} {ps : List (List Int)} (h : Kd.C (Kd.slice 5 (Kd.int .u8)) w A0 ps.length ps) (k : Nat) (hk : k < ps.length) :
    ∃ ad A c, A0 = some ad ∧ w.cell? (ad.add k) = some (.slice A (prt ps k).length c) ∧ (prt ps k).length ≤ c ∧ Kd.C (Kd.int .u8) w A (prt ps k).length (prt ps k) := by
  obtain ⟨ad, cs, h1, h2, ⟨A, c, rfl, h3, h4⟩, h5⟩ := Kd.C_get h [] (k : Int) (by omega) (by omega)
  have h6 := h5 0 _ rfl
  refine ⟨ad, A, c, h1, ?_, h3, h4⟩
  have e : (k : Int).toNat * (Kd.slice 5 (Kd.int .u8)).sz + 0 = k := by show (k : Int).toNat * 1 + 0 = k; simp
  rw [e] at h6
  exact h6
theorem flat_len (ps : List (List Int)) (m : Nat) : ∀ k, (∀ j, j < k → (prt ps j).length ≤ m) → (flat ps k).length ≤ m * k
  | 0, _ => by simp [flat]
  | k + 1, h => by
    have h1 := flat_len ps m k (fun j hj => h j (by omega))
    have h2 := h k (by omega)
    show (flat ps k ++ prt ps k).length ≤ _
    rw [List.length_append, Nat.mul_succ]
    omega
theorem flat_bytes (ps : List (List Int)) (h : ∀ k, Bytes (prt ps k)) : ∀ k, Bytes (flat ps k)
  | 0 => fun x hx => by simp [flat] at hx
  | k + 1 => fun x hx => (List.mem_append.1 (show x ∈ flat ps k ++ prt ps k from hx)).elim (flat_bytes ps h k x) (h k x)
theorem prt_bytes {ps : List (List Int)} (h : ∀ p ∈ ps, Bytes p) (k : Nat) : Bytes (prt ps k) := by
  unfold prt
  rw [List.getD_eq_getElem?_getD]
  by_cases hk : k < ps.length
  · rw [List.getElem?_eq_getElem hk]
    exact h _ (List.getElem_mem hk)
  · rw [List.getElem?_eq_none (by omega)]
    exact fun x hx => by simp at hx
/-- Where ShaParts stands after k parts. -/
structure Std (w : World) (g : Nat) (ps : List (List Int)) (m : Nat) (k : Nat) (v : Value) (wr : World) : Prop where
  row : RB wr w.heap.size v (flat ps k)
  bel : Below w.heap.size w wr
  fed : Fed wr g (flat ps k)
  ap : Apart wr g v.ownBlock
  len : ∀ j, j < k → (prt ps j).length ≤ m
theorem Std.lenle {w : World} {g m k : Nat} {ps : List (List Int)} {v : Value} {wr : World} (h : Std w g ps m k v wr) (hk : k ≤ 21) (hm : m ≤ 300) : (flat ps k).length ≤ 6300 := by
  have := flat_len ps m k h.len
  have : m * k ≤ 300 * 21 := Nat.mul_le_mul hm hk
  omega
/-- The parts, where all are short. -/
theorem parts_of {w W : World} {A0 : Option Addr} {ps : List (List Int)} {m : Nat} (hC : Kd.C (Kd.slice 5 (Kd.int .u8)) w A0 ps.length ps) (hb : ∀ k, Bytes (prt ps k)) (hl : ∀ j, j < ps.length → (prt ps j).length ≤ m) (hm : m ≤ 300) (hB : Below w.heap.size w W) : PartsOf W A0 ps := by
  intro k hk
  obtain ⟨ad, A, c, h1, h2, h3, h4⟩ := part_at hC k hk
  have := hl k hk
  exact ⟨ad, A, c, h1, pw_cell_below hB h2, ⟨A, c, rfl, h3, Kd.C_below h4 hB, hb k, by omega⟩⟩
end Go.Proofs.YtjmgeelblodcgaaDoor.Sx
/- EsP -/
namespace Go.Proofs.YtjmgeelblodcgaaDoor.Sx
open Go.RowKit Go.Proofs.YtjmgeelblodcgaaDoorW.PrintWords Go.Proofs.YtjmgeelblodcgaaDoorW.PrintMore Go.Proofs.YtjmgeelblodcgaaDoor.Sh Go.Proofs.YtjmgeelblodcgaaDoor.PAll
set_option linter.unusedVariables false
set_option linter.unusedSimpArgs false
theorem mul64 : bits_Mul.f 1 64 = some (0, 64) := by decide +kernel
theorem splice_rep (cur : List Value) (y : Int) (k d : Nat) (hl : k + d ≤ cur.length) (hw : ∀ j, j < k → cur[j]? = some (Value.int .u8 y)) (j : Nat) (hj : j < k + d) : (splice cur k (List.replicate d (Value.int .u8 y)))[j]? = some (.int .u8 y) := by
  unfold splice
  by_cases h : j < k
  · rw [List.getElem?_append_left (by simp; omega), List.getElem?_take, if_pos h]
    exact hw j h
  · have hk : (cur.take k).length = k := by simp; omega
    rw [List.getElem?_append_right (by omega), hk, List.getElem?_append_left (by simp; omega), List.getElem?_replicate, if_pos (by omega)]
set_option maxRecDepth 100000 in
set_option maxHeartbeats 1000000 in
theorem repeat_calls (w : World) (A : Addr) (c : Nat) (y : Int) (hA : w.cell? A = some (.int .u8 y)) :
    Calls Tryd.prog 45 #[.slice (some A) 1 c, .int .i64 64] w fun e w' => ∃ (g : Nat) (cs : List Value), e = .returned (.slice (some ⟨g, 0, none⟩) 64 64) ∧ w.heap.size ≤ g ∧ w'.heap[g]? = some (.cells cs.toArray 5 (0, 0)) ∧ 64 ≤ cs.length ∧ (∀ j, j < 64 → cs[j]? = some (.int .u8 y)) ∧ Below w.heap.size w w' := by
  have hm0 : decide ((64 : Int) = 0) = false := by decide
  go_enter Tryd.func45, Tryd.ntmps45
  go_wp2_with fail
  refine (bits_Mul.calls 1 64 0 64 _ mul64).mono ?_
  rintro e W1 ⟨rfl, hd⟩
  have HB1 := Aside0.mk hd.below
  clear hd
  obtain ⟨cs, hrunM, hle, _⟩ := Lib.run_makeNoZero (P := Tryd.prog) W1 #[3] 22 5 Tryd.underlying22 64 (by decide)
  have hcall : (callFunc 50 #[.int .i64 64]).run Tryd.prog W1 = .ok (.value (.slice (some ⟨W1.heap.size, 0, none⟩) 64 cs.size)) ((W1.alloc (.cells cs 5)).drewN 2) := by
    rw [run_callFunc_extern Tryd.func50 (by kernel_rfl) (by kernel_rfl) (by kernel_rfl) (e := Extern.BytealgMakeNoZero.makeNoZero #[3] #[22]) (by kernel_rfl)]
    show Result.andThen ((Extern.BytealgMakeNoZero.makeNoZero #[3] #[22] #[.int .i64 ((64 : Nat) : Int)]).run Tryd.prog W1) _ = _
    rw [hrunM]
    rfl
  clear hrunM
  have i1 : (64 : Int) ≤ (cs.size : Int) := by omega
  have hG := blk_new W1 (.cells cs 5)
  have hcA := pw_cell_below (below_alloc HB1.out (.cells cs 5)) hA
  obtain ⟨G, hGe⟩ : ∃ G, G = W1.heap.size := ⟨_, rfl⟩
  have hgw : w.heap.size ≤ G := by rw [hGe]; exact HB1.out.size
  have HB2 := below_alloc HB1.out (.cells cs 5)
  obtain ⟨Wa, hWa⟩ : ∃ x, x = W1.alloc (.cells cs 5) := ⟨_, rfl⟩
  have hcp : (Builtin.copy_ #[22, 22] 3 #[.slice (some ⟨G, 0, none⟩) 64 64, .slice (some A) 1 c]).run Tryd.prog (Wa.drewN 2) = .ok (.int .i64 1) ((Wa.drewN 2).setRow G (cs.toList.take 0 ++ [Value.int .u8 y] ++ cs.toList.drop (0 + [Value.int .u8 y].length)).toArray) := by
    have h := run_copy_row Tryd.prog (Wa.drewN 2) 22 22 3 5 G 0 64 64 A 1 c cs 5 [Value.int .u8 y] Tryd.underlying22 (by
      obtain ⟨i, h1, h2⟩ := tprog5
      rw [h1]; exact congrArg some h2) (by rw [hGe, hWa]; exact hG) rfl (fun j v hj => by
        cases j with
        | zero =>
          have hv : Value.int .u8 y = v := by simpa using hj
          subst hv
          have : A.add 0 = A := by unfold Addr.add; simp
          rw [this, hWa]
          exact hcA
        | succ j => simp at hj) (by simp; omega) (fun v hv => by
          have : v = .int .u8 y := by simpa using hv
          subst this; rfl)
    exact h
  rw [← hGe, ← hWa] at hcall
  have HB3 := below_setRow (show Below w.heap.size w ((W1.alloc (.cells cs 5)).drewN 2) from HB2.drew.drew) hgw (cs.toList.take 0 ++ [Value.int .u8 y] ++ cs.toList.drop (0 + [Value.int .u8 y].length)).toArray
  rw [← hWa] at HB3
  have hG3 : ((Wa.drewN 2).setRow G (cs.toList.take 0 ++ [Value.int .u8 y] ++ cs.toList.drop (0 + [Value.int .u8 y].length)).toArray).heap[G]? = some (.cells (cs.toList.take 0 ++ [Value.int .u8 y] ++ cs.toList.drop (0 + [Value.int .u8 y].length)).toArray 5 (0, 0)) := setRow_heap (Wa.drewN 2) G _ _ 5 (0, 0) (by rw [hGe, hWa]; exact hG)
  obtain ⟨W3, hW3⟩ : ∃ x, x = (Wa.drewN 2).setRow G (cs.toList.take 0 ++ [Value.int .u8 y] ++ cs.toList.drop (0 + [Value.int .u8 y].length)).toArray := ⟨_, rfl⟩
  rw [← hW3] at hcp HB3 hG3
  have HB3 := Aside0.mk HB3
  have HG3 := Aside0.mk hG3
  have HLE := Aside0.mk hle
  have HS := Aside0.mk (show 64 ≤ (cs.toList.take 0 ++ [Value.int .u8 y] ++ cs.toList.drop (0 + [Value.int .u8 y].length)).length by simp; omega)
  have HV := Aside0.mk (fun (j : Nat) (hj : j < 1) => (show (cs.toList.take 0 ++ [Value.int .u8 y] ++ cs.toList.drop (0 + [Value.int .u8 y].length))[j]? = some (.int .u8 y) by
    obtain rfl : j = 0 := by omega
    simp))
  clear hW3 hWa hcA hG HB2 hG3
  clear hGe
  have hcs : (cs.toList.take 0 ++ [Value.int .u8 y] ++ cs.toList.drop (0 + [Value.int .u8 y].length)).toArray.toList = cs.toList.take 0 ++ [Value.int .u8 y] ++ cs.toList.drop (0 + [Value.int .u8 y].length) := rfl
  obtain ⟨C0, hC0⟩ : ∃ x, x = cs.toList.take 0 ++ [Value.int .u8 y] ++ cs.toList.drop (0 + [Value.int .u8 y].length) := ⟨_, rfl⟩
  rw [← hC0] at HG3 HS HV
  clear hcs hC0
  go_wp2_with fail
  clear hcp hcall hle
  go_loopw [10] (fun b wr => ∃ (k : Nat) (cur : List Value), 1 ≤ k ∧ k ≤ 64 ∧ b = .int .i64 k ∧ Aside0 (wr.heap[G]? = some (.cells cur.toArray 5 (0, 0))) ∧ Aside0 (64 ≤ cur.length) ∧ Aside0 (∀ j, j < k → cur[j]? = some (.int .u8 y)) ∧ Aside0 (Below w.heap.size w wr)) (fun b _ => 64 - (intOf b).toNat)
  case atStart => exact ⟨1, C0, Nat.le_refl _, by decide, rfl, HG3, HS, HV, HB3⟩
  case round =>
    obtain ⟨k, cur, hk1, hk, rfl, HC, HL, HW, HB⟩ := hrel
    by_cases hlt : k < 64
    · have hki : (k : Int) < 64 := by omega
      have hmin : min (k : Int) 64 = k := by omega
      obtain ⟨i0, hi0, hsz0⟩ := tprog5
      have hs1 : ∀ W, (Instr.slice 22 (.slice (some ⟨G, 0, none⟩) 64 64) (some (.int .i64 k)) none none).run Tryd.prog W = .ok (.slice (some ⟨G, k, none⟩) (64 - k) (64 - k)) W := by
        intro W
        have h := cut_from (P := Tryd.prog) 22 5 .i64 Tryd.underlying22 hi0 1 hsz0 (some ⟨G, 0, none⟩) 64 64 (k : Int) (by omega) (by omega) W
        rw [Int.toNat_natCast, if_neg (by omega)] at h
        rw [h]
        show Result.ok (Value.slice (some ((⟨G, 0, none⟩ : Addr).add (k * 1))) _ _) W = _
        rw [Nat.mul_one, add_row]
      have hs2 : ∀ W, (Instr.slice 22 (.slice (some ⟨G, 0, none⟩) 64 64) none (some (.int .i64 k)) none).run Tryd.prog W = .ok (.slice (some ⟨G, 0, none⟩) k 64) W := by
        intro W
        have h := cut_to (P := Tryd.prog) 22 5 .i64 Tryd.underlying22 hi0 (some ⟨G, 0, none⟩) 64 64 (k : Int) (by omega) (by omega) (by omega) W
        rw [Int.toNat_natCast] at h
        exact h
      have hsz5 : (Tryd.prog.info? 5).map (·.size) = some 1 := by rw [hi0]; exact congrArg some hsz0
      clear hi0 hsz0
      obtain ⟨d, hd⟩ : ∃ d, d = min k (64 - k) := ⟨_, rfl⟩
      have hd1 : 1 ≤ d := by omega
      have hd2 : k + d ≤ 64 := by omega
      have hdk : d ≤ k := by omega
      have hX := Aside0.mk (show (List.replicate d (Value.int .u8 y)).length = Nat.min k (64 - k) by rw [List.length_replicate]; exact hd)
      have hCd := Aside0.mk (show wr.drew.heap[G]? = some (.cells cur.toArray 5 (0, 0)) from HC.out)
      have hBd := Aside0.mk (show Below w.heap.size w wr.drew from HB.out.drew)
      have hpos := Aside0.mk (show ∀ j v, (List.replicate d (Value.int .u8 y))[j]? = some v → wr.drew.cell? ((⟨G, 0, none⟩ : Addr).add j) = some v from fun j v hj => by
        have hjd : j < d := by
          rcases Nat.lt_or_ge j d with h | h
          · exact h
          · rw [List.getElem?_eq_none (by rw [List.length_replicate]; exact h)] at hj; cases hj
        rw [List.getElem?_replicate, if_pos hjd] at hj
        rw [add_row, blk_cell hCd.out j, ← hj]
        have := HW.out j (by omega)
        simpa using this)
      have hfit := Aside0.mk (show k + (List.replicate d (Value.int .u8 y)).length ≤ cur.length by rw [List.length_replicate]; have := HL.out; omega)
      have h1c := Aside0.mk (show ∀ v ∈ List.replicate d (Value.int .u8 y), v.oneCell' = true from fun v hv => by
        obtain rfl := List.eq_of_mem_replicate hv
        rfl)
      have hwr : IntKind.i64.wrap ((k : Int) + (d : Int)) = (k : Int) + (d : Int) := by rw [IntKind.wrap_i64]; omega
      have HD := Aside0.mk hd
      clear hd
      go_wp2_with fail
      go_region_law (refine step_copy_splice rfl (.tmp 70) (.tmp 73) 22 22 rfl 5 Tryd.underlying22 hsz5 (some ⟨G, k, none⟩) (some ⟨G, 0, none⟩) (64 - k) (64 - k) k 64 (by simp [Act.eval, Act.put]) (by simp [Act.eval, Act.put]) G k cur 5 hCd.out (List.replicate d (.int .u8 y)) hX.out (fun _ => ⟨rfl, _, rfl, hpos.out⟩) hfit.out h1c.out w.heap.size w hBd.out hgw ?_; intro w4 hg4 hb4)
      have HG4 := Aside0.mk (show w4.heap[G]? = some (.cells (splice cur k (List.replicate d (.int .u8 y))).toArray 5 (0, 0)) from hg4)
      have HB4 := Aside0.mk hb4
      clear hg4 hb4
      go_wp2_with fail
      go_roundw
      case rel =>
        repeat apply Exists.intro
        refine ⟨⟨k + d, splice cur k (List.replicate d (Value.int .u8 y)), by omega, hd2, ?e, HG4, ⟨?f⟩, ⟨?g⟩, HB4⟩, ?h⟩
        case h => rfl
        case e => go_num
        case f => rw [length_splice _ _ _ hfit.out]; exact HL.out
        case g =>
          intro j hj
          exact splice_rep cur y k d (by have := HL.out; omega) HW.out j hj
      case measure =>
        show 64 - (intOf (.int .i64 ((k : Int) + (d : Int)))).toNat < _
        simp [intOf]; omega
    · obtain rfl : k = 64 := by omega
      go_wp2_with fail
      go_ret
      exact ⟨G, cur, rfl, hgw, HC.out, HL.out, HW.out, HB.out⟩
end Go.Proofs.YtjmgeelblodcgaaDoor.Sx
/- EsQ -/
namespace Go.Proofs.YtjmgeelblodcgaaDoor.Sx
open Go.RowKit Go.Proofs.YtjmgeelblodcgaaDoorW.PrintWords Go.Proofs.YtjmgeelblodcgaaDoorW.PrintMore Go.Proofs.YtjmgeelblodcgaaDoor.Sh Go.Proofs.YtjmgeelblodcgaaDoor.PAll
set_option linter.unusedVariables false
set_option linter.unusedSimpArgs false
/-- A key, or its digest. -/
def keyB (key : List Int) : List Int := if key.length ≤ 64 then key else hash key
def xo (k : List Int) (y : Int) (n j : Nat) : Int := if j < n then bits .xor .u8 y (rd k (j : Int)) else y
/-- A padded key. -/
def padT (key : List Int) (y : Int) : List Int := (List.range 64).map (xo (keyB key) y (keyB key).length)
theorem padT_len (key : List Int) (y : Int) : (padT key y).length = 64 := by simp [padT]
theorem xor_byte (a b : Int) (ha : 0 ≤ a ∧ a < 256) (hb : 0 ≤ b ∧ b < 256) : 0 ≤ bits .xor .u8 a b ∧ bits .xor .u8 a b < 256 := by
  rw [u8_xor a b ha.1 ha.2 hb.1 hb.2]
  have := Nat.xor_lt_two_pow (n := 8) (x := a.toNat) (y := b.toNat) (by omega) (by omega)
  omega
theorem xo_byte {k : List Int} (hk : Bytes k) (y : Int) (hy : 0 ≤ y ∧ y < 256) (j : Nat) : 0 ≤ xo k y k.length j ∧ xo k y k.length j < 256 := by
  unfold xo
  split
  · rename_i h
    refine xor_byte y _ hy ?_
    have h2 := bt8_rd hk j h
    have := bt8_lt hk j
    omega
  · exact hy
theorem keyB_bytes {key : List Int} (h : Bytes key) : Bytes (keyB key) := by
  unfold keyB
  split
  · exact h
  · exact hash_bytes key
theorem padT_bytes {key : List Int} (h : Bytes key) (y : Int) (hy : 0 ≤ y ∧ y < 256) : Bytes (padT key y) := by
  intro x hx
  simp only [padT, List.mem_map] at hx
  obtain ⟨j, _, rfl⟩ := hx
  exact xo_byte (keyB_bytes h) y hy j
/-- A text at a block's head. -/
theorem txt_pre {w : World} {b t : Nat} {fr : Nat × Nat} {l : List Int} {cs : Array Value} (n c : Nat) (hn : n = l.length) (hc : n ≤ c) (h : w.heap[b]? = some (.cells cs t fr)) (hv : ∀ j, j < l.length → cs[j]? = some (.int .u8 (l.getD j 0))) (hl : l.length ≤ 1048576) (hb : Bytes l) : Txt w (.slice (some ⟨b, 0, none⟩) n c) l := by
  subst hn
  refine ⟨_, _, rfl, hc, ⟨rfl, by omega, fun _ => ⟨_, rfl, fun j p hj => ⟨[.int .u8 p], rfl, rfl, fun i u hu => ?_⟩⟩⟩, hb, hl⟩
  have hi : i = 0 := by
    cases i with
    | zero => rfl
    | succ n => simp at hu
  subst hi
  have hu' : Value.int .u8 p = u := by simpa using hu
  subst hu'
  have hjl : j < l.length := by
    rcases Nat.lt_or_ge j l.length with h | h
    · exact h
    · rw [List.getElem?_eq_none h] at hj; cases hj
  rw [add_row, show j * (Kd.int .u8).sz + 0 = j from Nat.mul_one j, Joins.cell_of_block h j, hv j hjl, List.getD_eq_getElem?_getD, hj]
  rfl
theorem Txt.cells {w : World} {A : Option Addr} {c n : Nat} {l : List Int} (h : Txt w (.slice A n c) l) (j : Nat) (hj : j < l.length) : ∃ ad, A = some ad ∧ w.cell? (ad.add j) = some (.int .u8 (rd l (j : Int))) := by
  obtain ⟨A1, c1, he, h2, h3, h4⟩ := h
  simp only [Value.slice.injEq] at he
  obtain ⟨rfl, _⟩ := he
  obtain ⟨ad, h5, h6⟩ := Kd.at_int h3 (j : Int) (by omega) (by omega)
  rw [Int.toNat_natCast] at h6
  exact ⟨ad, h5, h6⟩
set_option maxRecDepth 100000 in
set_option maxHeartbeats 1000000 in
theorem padded_short (w : World) (hr : Roots w) (hcu : Cubes w) (A : Option Addr) (c : Nat) (key : List Int) (y : Int) (hy : 0 ≤ y ∧ y < 256) (hT : Txt w (.slice A key.length c) key) (hl : key.length ≤ 900000) (h64 : key.length ≤ 64) :
    Calls Tryd.prog 33 #[.slice A key.length c, .int .u8 y] w fun e w' => ∃ A' c', e = .returned (.slice A' 64 c') ∧ Txt w' (.slice A' 64 c') (padT key y) ∧ Below w.heap.size w w' := by
  have hby : Bytes key := hT.choose_spec.choose_spec.2.2.2.1
  have HBY := Aside0.mk hby
  obtain ⟨P, hP⟩ : ∃ P, P = padT key y := ⟨_, rfl⟩
  have HP0 := Aside0.mk hP
  rw [← hP]
  clear hP
  have HT2 := Aside0.mk hT
  have HB2 := Aside0.mk (Below.refl w.heap.size w)
  obtain ⟨k, hk⟩ : ∃ k, k = key := ⟨_, rfl⟩
  have HK := Aside0.mk (show k = keyB key by rw [hk]; unfold keyB; rw [if_pos h64])
  have n0 : decide ((64 : Int) < (k.length : Int)) = false := by rw [hk]; simp; omega
  have hk64 : k.length ≤ 64 := by rw [hk]; exact h64
  rw [← hk] at HT2 ⊢
  obtain ⟨AK, hAK⟩ : ∃ x, x = A := ⟨_, rfl⟩
  obtain ⟨W2, hW2⟩ : ∃ x, x = w := ⟨_, rfl⟩
  rw [← hAK] at HT2 ⊢
  clear hby hT hk hAK hr hcu hl
  have HT2 : Aside0 (Txt W2 (.slice AK k.length c) k) := by rw [hW2]; exact HT2
  have HB2 : Aside0 (Below w.heap.size w W2) := by rw [hW2]; exact HB2
  rw [show Calls Tryd.prog 33 #[.slice AK k.length c, .int .u8 y] w = Calls Tryd.prog 33 #[.slice AK k.length c, .int .u8 y] W2 by rw [hW2]]
  clear hW2
  go_enter Tryd.func33, Tryd.ntmps33
  go_wp2_with fail
  obtain ⟨B, hBe⟩ : ∃ B, B = W2.heap.size := ⟨_, rfl⟩
  rw [← hBe]
  have hcell : (W2.alloc (.cells #[.int .u8 y] 5)).cell? ⟨B, 0, none⟩ = some (.int .u8 y) := by rw [hBe]; exact (blk_cell (blk_new W2 (.cells #[.int .u8 y] 5)) 0)
  have hB3 := HB2.out.trans (below_alloc (Below.refl _ W2) (.cells #[.int .u8 y] 5) |>.mono HB2.out.size)
  have hT3 := HT2.out.below (below_alloc (Below.refl _ W2) (.cells #[.int .u8 y] 5))
  obtain ⟨W3, hW3⟩ : ∃ x, x = W2.alloc (.cells #[.int .u8 y] 5) := ⟨_, rfl⟩
  rw [← hW3] at hcell hB3 hT3 ⊢
  have HB3 := Aside0.mk hB3
  have HT3 := Aside0.mk hT3
  refine (repeat_calls W3 ⟨B, 0, none⟩ 1 y hcell).mono ?_
  rintro e W4 ⟨G, cs, rfl, hG, hGc, hGl, hGv, hb4⟩
  have HB4 := Aside0.mk (HB3.out.trans (hb4.mono HB3.out.size))
  have HT4 := Aside0.mk (HT3.out.below hb4)
  have HGc := Aside0.mk hGc
  have HGl := Aside0.mk hGl
  have HGv := Aside0.mk hGv
  have HOld := Aside0.mk (fun (j : Nat) (hj : j < k.length) => (show ∃ ad : Addr, AK = some ad ∧ W4.cell? (ad.add j) = some (.int .u8 (rd k (j : Int))) ∧ ad.block ≠ G from by
    obtain ⟨ad, h1, h2⟩ := HT3.out.cells j hj
    have h3 := cell_lt h2
    rw [add_block] at h3
    exact ⟨ad, h1, pw_cell_below hb4 h2, by omega⟩))
  have hgw : w.heap.size ≤ G := Nat.le_trans HB3.out.size hG
  clear hBe hW3 hcell hB3 hT3 hG hGc hGl hGv hb4 HT3 HB3 HT2 HB2
  go_wp2_with fail
  go_loopw [21] (fun i wr => ∃ (n : Nat) (cur : List Value), n ≤ k.length ∧ i = .int .i64 n ∧ Aside0 (wr.heap[G]? = some (.cells cur.toArray 5 (0, 0))) ∧ Aside0 (64 ≤ cur.length) ∧ Aside0 (∀ j, j < 64 → cur[j]? = some (.int .u8 (xo k y n j))) ∧ Aside0 (W4.grownBy wr (some G))) (fun i _ => k.length - (intOf i).toNat)
  case atStart => exact ⟨0, cs, Nat.zero_le _, rfl, HGc, HGl, ⟨fun j hj => by rw [HGv.out j hj]; simp [xo]⟩, ⟨World.grownBy.refl _ _⟩⟩
  case round =>
    obtain ⟨n, cur, hn, rfl, HC, HL, HV, HG⟩ := hrel
    by_cases hlt : n < k.length
    · have hn64 : n < 64 := by omega
      have hni : (n : Int) < 64 := by omega
      have hnl : (n : Int) < (k.length : Int) := by omega
      obtain ⟨ad, rfl, hc1, hne⟩ := HOld.out n hlt
      have hc2 := gb_cell HG.out hc1 (by rw [add_block]; intro e; cases e; exact hne rfl)
      have hcG := (blk_cell HC.out n)
      have hx : (cur.toArray)[n]? = some (.int .u8 y) := by
        have h := HV.out n hn64
        rw [show xo k y n n = y by simp [xo]] at h
        simpa using h
      rw [hx] at hcG
      have hfz := blk_frozen HC.out n
      clear hc1 hx
      go_wp2_with fail
      go_roundw
      case rel =>
        refine ⟨n + 1, cur.set n (.int .u8 (bits BinOp.xor .u8 y (rd k (n : Int)))), by omega, by go_num, ⟨?_⟩, ⟨by rw [List.length_set]; exact HL.out⟩, ⟨fun j hj => ?_⟩, ⟨gb_trans HG.out (gb_set wr G n _) (fun j e => .inl e)⟩⟩
        · exact blk_put HC.out n _ (by simp)
        · rw [List.getElem?_set]
          have hLL := HL.out
          by_cases e : n = j
          · subst e
            rw [if_pos rfl, if_pos (by omega)]
            simp [xo]
          · rw [if_neg e, HV.out j hj]
            have : xo k y n j = xo k y (n + 1) j := by
              unfold xo
              by_cases h : j < n
              · rw [if_pos h, if_pos (by omega)]
              · rw [if_neg h, if_neg (by omega)]
            rw [this]
      case measure => simp [intOf]; omega
    · obtain rfl : n = k.length := by omega
      go_wp2_with fail
      go_ret
      refine ⟨_, 64, rfl, ?_, HB4.out.trans (gb_to HG.out HB4.out.size (fun j e => by cases e; exact hgw))⟩
      rw [HK.out] at HV
      rw [HP0.out]
      refine txt_pre 64 64 (padT_len _ _).symm (Nat.le_refl _) HC.out (fun j hj => ?_) (by rw [padT_len]; decide) (padT_bytes HBY.out y hy)
      rw [padT_len] at hj
      have := HV.out j hj
      rw [show (padT key y).getD j 0 = xo (keyB key) y (keyB key).length j by simp [padT, List.getD_eq_getElem?_getD, hj]]
      simpa using this
set_option maxRecDepth 100000 in
set_option maxHeartbeats 1000000 in
theorem padded_long (w : World) (hr : Roots w) (hcu : Cubes w) (A : Option Addr) (c : Nat) (key : List Int) (y : Int) (hy : 0 ≤ y ∧ y < 256) (hT : Txt w (.slice A key.length c) key) (hl : key.length ≤ 900000) (h64 : 64 < key.length) :
    Calls Tryd.prog 33 #[.slice A key.length c, .int .u8 y] w fun e w' => ∃ A' c', e = .returned (.slice A' 64 c') ∧ Txt w' (.slice A' 64 c') (padT key y) ∧ Below w.heap.size w w' := by
  have hby : Bytes key := hT.choose_spec.choose_spec.2.2.2.1
  have HBY := Aside0.mk hby
  obtain ⟨P, hP⟩ : ∃ P, P = padT key y := ⟨_, rfl⟩
  have HP0 := Aside0.mk hP
  rw [← hP]
  clear hP
  have n0 : decide ((64 : Int) < (key.length : Int)) = true := by simp; omega
  have HP := Aside0.mk (psum1 hr hcu hT hl w.heap.size rfl)
  clear hT hr hcu hby
  go_enter Tryd.func33, Tryd.ntmps33
  go_wp2_with fail
  refine HP.out.mono ?_
  rintro e W1 ⟨rfl, hb1⟩
  obtain ⟨k, hd⟩ : ∃ k, k = hash key := ⟨_, rfl⟩
  have hdl : k.length = 32 := by rw [hd]; exact hash_len _
  have hdb : Bytes k := by rw [hd]; exact hash_bytes _
  have HK := Aside0.mk (show k = keyB key by rw [hd]; unfold keyB; rw [if_neg (by omega)])
  rw [← hd]
  have hst := store32 (W1.alloc (.cells zero32 25)) W1.heap.size k hdl (old := List.replicate 32 0) (blk_new W1 _) rfl
  have HST := Aside0.mk hst.1
  have hBa := below_alloc hb1 (.cells zero32 25)
  have HB2 := Aside0.mk (below_setRow hBa hb1.size (cellsB k))
  have HT2 := Aside0.mk (txt_pre (l := k) 32 32 (by rw [hdl]) (Nat.le_refl _) hst.2 (fun j hj => by rw [cellsB_get k j hj]) (by omega) hdb)
  clear hst hBa hb1 HP hd
  go_wp2_with (first | (refine store_whole (s := .tmp 5) rfl rfl rfl rfl HST.out ?_))
  have hk64 : k.length ≤ 64 := by omega
  obtain ⟨W2, hW2⟩ : ∃ x, x = (W1.alloc (.cells zero32 25)).setRow W1.heap.size (cellsB k) := ⟨_, rfl⟩
  have hBe : W1.heap.size + 1 = W2.heap.size := by rw [hW2]; simp [World.setRow]
  obtain ⟨B, hB⟩ : ∃ B, B = W1.heap.size + 1 := ⟨_, rfl⟩
  obtain ⟨AK, hAK⟩ : ∃ x, x = some (⟨W1.heap.size, 0, none⟩ : Addr) := ⟨_, rfl⟩
  rw [← hB] at hBe
  rw [← hdl, ← hAK, ← hW2] at HT2
  rw [← hW2] at HB2
  rw [← hB, ← hW2, ← hAK]
  clear hW2 hB hAK HST hdb
  have hcell : (W2.alloc (.cells #[.int .u8 y] 5)).cell? ⟨B, 0, none⟩ = some (.int .u8 y) := by rw [hBe]; exact (blk_cell (blk_new W2 (.cells #[.int .u8 y] 5)) 0)
  have hB3 := HB2.out.trans (below_alloc (Below.refl _ W2) (.cells #[.int .u8 y] 5) |>.mono HB2.out.size)
  have hT3 := HT2.out.below (below_alloc (Below.refl _ W2) (.cells #[.int .u8 y] 5))
  obtain ⟨W3, hW3⟩ : ∃ x, x = W2.alloc (.cells #[.int .u8 y] 5) := ⟨_, rfl⟩
  rw [← hW3] at hcell hB3 hT3 ⊢
  have HB3 := Aside0.mk hB3
  have HT3 := Aside0.mk hT3
  refine (repeat_calls W3 ⟨B, 0, none⟩ 1 y hcell).mono ?_
  rintro e W4 ⟨G, cs, rfl, hG, hGc, hGl, hGv, hb4⟩
  have HB4 := Aside0.mk (HB3.out.trans (hb4.mono HB3.out.size))
  have HT4 := Aside0.mk (HT3.out.below hb4)
  have HGc := Aside0.mk hGc
  have HGl := Aside0.mk hGl
  have HGv := Aside0.mk hGv
  have HOld := Aside0.mk (fun (j : Nat) (hj : j < k.length) => (show ∃ ad : Addr, AK = some ad ∧ W4.cell? (ad.add j) = some (.int .u8 (rd k (j : Int))) ∧ ad.block ≠ G from by
    obtain ⟨ad, h1, h2⟩ := HT3.out.cells j hj
    have h3 := cell_lt h2
    rw [add_block] at h3
    exact ⟨ad, h1, pw_cell_below hb4 h2, by omega⟩))
  have hgw : w.heap.size ≤ G := Nat.le_trans HB3.out.size hG
  clear hBe hW3 hcell hB3 hT3 hG hGc hGl hGv hb4 HT3 HB3 HT2 HB2
  go_wp2_with fail
  go_loopw [21] (fun i wr => ∃ (n : Nat) (cur : List Value), n ≤ k.length ∧ i = .int .i64 n ∧ Aside0 (wr.heap[G]? = some (.cells cur.toArray 5 (0, 0))) ∧ Aside0 (64 ≤ cur.length) ∧ Aside0 (∀ j, j < 64 → cur[j]? = some (.int .u8 (xo k y n j))) ∧ Aside0 (W4.grownBy wr (some G))) (fun i _ => k.length - (intOf i).toNat)
  case atStart => exact ⟨0, cs, Nat.zero_le _, rfl, HGc, HGl, ⟨fun j hj => by rw [HGv.out j hj]; simp [xo]⟩, ⟨World.grownBy.refl _ _⟩⟩
  case round =>
    obtain ⟨n, cur, hn, rfl, HC, HL, HV, HG⟩ := hrel
    by_cases hlt : n < k.length
    · have hn64 : n < 64 := by omega
      have hni : (n : Int) < 64 := by omega
      have hnl : (n : Int) < (k.length : Int) := by omega
      obtain ⟨ad, rfl, hc1, hne⟩ := HOld.out n hlt
      have hc2 := gb_cell HG.out hc1 (by rw [add_block]; intro e; cases e; exact hne rfl)
      have hcG := (blk_cell HC.out n)
      have hx : (cur.toArray)[n]? = some (.int .u8 y) := by
        have h := HV.out n hn64
        rw [show xo k y n n = y by simp [xo]] at h
        simpa using h
      rw [hx] at hcG
      have hfz := blk_frozen HC.out n
      clear hc1 hx
      go_wp2_with fail
      go_roundw
      case rel =>
        refine ⟨n + 1, cur.set n (.int .u8 (bits BinOp.xor .u8 y (rd k (n : Int)))), by omega, by go_num, ⟨?_⟩, ⟨by rw [List.length_set]; exact HL.out⟩, ⟨fun j hj => ?_⟩, ⟨gb_trans HG.out (gb_set wr G n _) (fun j e => .inl e)⟩⟩
        · exact blk_put HC.out n _ (by simp)
        · rw [List.getElem?_set]
          have hLL := HL.out
          by_cases e : n = j
          · subst e
            rw [if_pos rfl, if_pos (by omega)]
            simp [xo]
          · rw [if_neg e, HV.out j hj]
            have : xo k y n j = xo k y (n + 1) j := by
              unfold xo
              by_cases h : j < n
              · rw [if_pos h, if_pos (by omega)]
              · rw [if_neg h, if_neg (by omega)]
            rw [this]
      case measure => simp [intOf]; omega
    · obtain rfl : n = k.length := by omega
      go_wp2_with fail
      go_ret
      refine ⟨_, 64, rfl, ?_, HB4.out.trans (gb_to HG.out HB4.out.size (fun j e => by cases e; exact hgw))⟩
      rw [HK.out] at HV
      rw [HP0.out]
      refine txt_pre 64 64 (padT_len _ _).symm (Nat.le_refl _) HC.out (fun j hj => ?_) (by rw [padT_len]; decide) (padT_bytes HBY.out y hy)
      rw [padT_len] at hj
      have := HV.out j hj
      rw [show (padT key y).getD j 0 = xo (keyB key) y (keyB key).length j by simp [padT, List.getD_eq_getElem?_getD, hj]]
      simpa using this
theorem padded_calls (w : World) (hr : Roots w) (hcu : Cubes w) (A : Option Addr) (c : Nat) (key : List Int) (y : Int) (hy : 0 ≤ y ∧ y < 256) (hT : Txt w (.slice A key.length c) key) (hl : key.length ≤ 900000) :
    Calls Tryd.prog 33 #[.slice A key.length c, .int .u8 y] w fun e w' => ∃ A' c', e = .returned (.slice A' 64 c') ∧ Txt w' (.slice A' 64 c') (padT key y) ∧ Below w.heap.size w w' := by
  by_cases h : key.length ≤ 64
  · exact padded_short w hr hcu A c key y hy hT hl h
  · exact padded_long w hr hcu A c key y hy hT hl (by omega)
end Go.Proofs.YtjmgeelblodcgaaDoor.Sx
/- EsR -/
namespace Go.Proofs.YtjmgeelblodcgaaDoor.Sx
open Go.RowKit Go.Proofs.YtjmgeelblodcgaaDoorW.PrintWords Go.Proofs.YtjmgeelblodcgaaDoorW.PrintLast Go.Proofs.YtjmgeelblodcgaaDoorW.PrintMore Go.Proofs.YtjmgeelblodcgaaDoor.Sh
set_option linter.unusedVariables false
set_option linter.unusedSimpArgs false
/-- The tag of a text by a key. -/
def mac (key t : List Int) : List Int := hash (padT key 92 ++ hash (padT key 54 ++ t))
theorem mac_len (key t : List Int) : (mac key t).length = 32 := hash_len _
theorem store_run {P : Program} {o : Oper} {a : Act} {W W1 : World} {t : TypeId} {s x : Operand} {g : Nat} {v : Value} (ho : o.op = .store t s x) (hs : a.eval s = .pointer (some ⟨g, 0, none⟩)) (hx : a.eval x = v) (hl : (storeVar t ⟨g, 0, none⟩ v).run P W = .ok () W1) : (execOp a.eval o).run P W = .ok .skip W1 := by
  unfold execOp
  simp only [ho, hs, hx, Instr.storeAt, Instr.sureAddr, Sem.run_bind, Sem.run_pure, Result.andThen_ok, hl]
set_option maxRecDepth 100000 in
set_option maxHeartbeats 2000000 in
theorem mac_calls (w : World) (hr : Roots w) (hcu : Cubes w) (A : Option Addr) (c : Nat) (key : List Int) (hT : Txt w (.slice A key.length c) key) (hkl : key.length ≤ 900000) (B : Option Addr) (ps : List (List Int)) (n cp : Nat) (hn : n = ps.length) (hs : ps.length ≤ 1000) (hp : PartsOf w B ps) (ht : (flat ps ps.length).length ≤ 800000) :
    Calls Tryd.prog 19 #[.slice A key.length c, .slice B n cp] w fun e w' => e = .returned (.agg (cellsB (mac key (flat ps ps.length)))) ∧ Below w.heap.size w w' := by
  subst hn
  have HR := Aside0.mk hr
  have HCU := Aside0.mk hcu
  have HP := Aside0.mk hp
  have HT := Aside0.mk ht
  have HK := Aside0.mk hT
  have h2w : 2 < w.heap.size := cell_lt (HCU.out 0 (by decide))
  clear hr hcu hp ht hT
  go_enter Tryd.func19, Tryd.ntmps19
  go_wp2_with fail
  rw [zero32_eq]
  have hR : (w.alloc (.cells zero32 25)).heap[w.heap.size]? = some (.cells (cellsB (List.replicate 32 0)) 25 (0, 0)) := blk_new w _
  have hB1 := below_alloc (Below.refl w.heap.size w) (.cells zero32 25)
  have hsz1 : (w.alloc (.cells zero32 25)).heap.size = w.heap.size + 1 := by simp
  obtain ⟨W1, hW1⟩ : ∃ x, x = w.alloc (.cells zero32 25) := ⟨_, rfl⟩
  rw [← hW1] at hR hB1 hsz1 ⊢
  clear hW1
  refine (fed_begin W1 (HR.out.below hB1)).mono ?_
  rintro e W2 ⟨rfl, hf2, hb2⟩
  have hR2 := Aside0.mk ((hb2.block _ (blk_lt hR)).trans hR)
  have hB2 := Aside0.mk (hB1.trans (hb2.mono (by omega)))
  have HF2 := Aside0.mk hf2
  obtain ⟨g, hge⟩ : ∃ g, g = W1.heap.size := ⟨_, rfl⟩
  rw [← hge] at HF2 ⊢
  have hgw : w.heap.size < g := by omega
  clear hR hB1 hf2 hb2 hge hsz1
  go_wp2_with fail
  refine (padded_calls W2 (HR.out.below hB2.out) (HCU.out.below hB2.out) A c key 54 (by decide) (HK.out.below hB2.out) hkl).mono ?_
  rintro e W3 ⟨A3, c3, rfl, hx3, hb3⟩
  have hB3 := Aside0.mk (hB2.out.trans (hb3.mono hB2.out.size))
  have HF3 := Aside0.mk (HF2.out.below hb3)
  have hR3 := Aside0.mk ((hb3.block _ (blk_lt hR2.out)).trans hR2.out)
  have HX3 := Aside0.mk hx3
  have hpl := padT_len key 54
  have HAD := Aside0.mk (fed_add W3 g [] HF3.out (HCU.out.below hB3.out) (by omega) A3 c3 (padT key 54) (by rw [hpl]; exact hx3) (by rw [hpl]; decide))
  rw [hpl] at HAD
  clear hx3 hb3 HF2 hR2 hB2
  go_wp2_with fail
  refine HAD.out.mono ?_
  rintro e W4 ⟨⟨u4, rfl⟩, hg4, hf4, _⟩
  rw [List.nil_append] at hf4
  have HF4 := Aside0.mk (show Fed W4 g (padT key 54 ++ flat ps 0) by show Fed W4 g (padT key 54 ++ []); rw [List.append_nil]; exact hf4)
  have HB4 := Aside0.mk (hB3.out.trans (gb_to hg4 hB3.out.size (fun j e => by cases e; omega)))
  have HR4 := Aside0.mk (gb_blk hg4 hR3.out (by intro e; cases e; omega))
  clear hg4 hf4 HAD HX3 hR3 HF3 hB3
  go_wp2_with fail
  go_loopw [16] (fun i wr => ∃ k : Nat, k ≤ ps.length ∧ i = .int .i64 k ∧ Aside0 (Fed wr g (padT key 54 ++ flat ps k)) ∧ Aside0 (Below w.heap.size w wr) ∧ Aside0 (wr.heap[w.heap.size]? = some (.cells (cellsB (List.replicate 32 0)) 25 (0, 0)))) (fun i _ => ps.length - (intOf i).toNat)
  case atStart => exact ⟨0, Nat.zero_le _, rfl, HF4, HB4, HR4⟩
  case round =>
    obtain ⟨k, hk, rfl, HF, HB, HRr⟩ := hrel
    by_cases hlt : k < ps.length
    · obtain ⟨ad, A', c2, hA, hcell, htx⟩ := HP.out k hlt
      subst hA
      have hcell2 := pw_cell_below HB.out hcell
      have h1 := Nat.le_trans (flat_mono ps (k + 1) ps.length hlt) HT.out
      have h2 : (flat ps (k + 1)).length = (flat ps k).length + (prt ps k).length := by show (flat ps k ++ prt ps k).length = _; simp
      have HAD := Aside0.mk (fed_add wr g (padT key 54 ++ flat ps k) HF.out (HCU.out.below HB.out) (by omega) A' c2 (prt ps k) (htx.below HB.out) (by rw [List.length_append]; omega))
      clear hcell htx h1 h2
      go_wp2_with (first | (go_at_call 15; refine HAD.out.mono ?_; rintro e w4 ⟨⟨u, rfl⟩, hg, hf, _⟩; have HG4 := Aside0.mk hg; have HF4 := Aside0.mk hf; clear hg hf))
      go_roundw
      case rel => exact ⟨k + 1, by omega, by go_num, ⟨by have h := HF4.out; rw [List.append_assoc] at h; exact h⟩, ⟨HB.out.trans (gb_to HG4.out HB.out.size (fun j e => by cases e; omega))⟩, ⟨gb_blk HG4.out HRr.out (by intro e; cases e; omega)⟩⟩
      case measure => simp [intOf]; omega
    · obtain rfl : k = ps.length := by omega
      have HSM := Aside0.mk (fed_sum wr g _ HF.out (HCU.out.below HB.out) (by rw [List.length_append]; have := HT.out; omega))
      go_wp2_with fail
      refine HSM.out.mono ?_
      rintro e w5 ⟨rfl, hb⟩
      obtain ⟨d, hd⟩ : ∃ d, d = hash (padT key 54 ++ flat ps ps.length) := ⟨_, rfl⟩
      have hdl : d.length = 32 := by rw [hd]; exact hash_len _
      have hdb : Bytes d := by rw [hd]; exact hash_bytes _
      have HD := Aside0.mk hd
      rw [← hd]
      have HB5 := HB.out.trans (hb.mono HB.out.size)
      have HR5 := (hb.block _ (blk_lt HRr.out)).trans HRr.out
      have hst := store32 (w5.alloc (.cells zero32 25)) w5.heap.size d hdl (old := List.replicate 32 0) (blk_new w5 _) rfl
      have HST := Aside0.mk hst.1
      have HB6 := Aside0.mk (below_setRow (below_alloc HB5 (.cells zero32 25)) HB5.size (cellsB d))
      have HR6 := Aside0.mk ((setRow_other (w5.alloc (.cells zero32 25)) w5.heap.size w.heap.size (cellsB d) (by have := blk_lt HR5; omega)).trans (blk_alloc HR5 (.cells zero32 25)))
      have HT6 := Aside0.mk (txt_pre (l := d) 32 32 (by rw [hdl]) (Nat.le_refl _) hst.2 (fun j hj => by rw [cellsB_get d j hj]) (by omega) hdb)
      clear hst HB5 HR5 hb hd HSM hdb
      obtain ⟨W6, hW6⟩ : ∃ x, x = (w5.alloc (.cells zero32 25)).setRow w5.heap.size (cellsB d) := ⟨_, rfl⟩
      have HW6 := Aside0.mk hW6
      rw [← hW6] at HB6 HR6 HT6
      clear hW6
      have hll : (padT key 92).length + d.length ≤ 900000 := by rw [padT_len, hdl]; decide
      have HPD := Aside0.mk (fun (W' : World) (hB : Below W6.heap.size W6 W') => padded_calls W' (HR.out.below (HB6.out.trans (hB.mono HB6.out.size))) (HCU.out.below (HB6.out.trans (hB.mono HB6.out.size))) A c key 92 (by decide) (HK.out.below (HB6.out.trans (hB.mono HB6.out.size))) hkl)
      go_wp2_with (first | (refine store_whole (s := .tmp 8) rfl rfl rfl rfl HST.out ?_))
      rw [← show W6 = (w5.alloc (.cells zero32 25)).setRow w5.heap.size (cellsB d) from HW6.out]
      clear HW6 HST
      refine start_ (n := 6) (S := fun w' => Below W6.heap.size W6 w') (ds := [5]) #[false, false, false, false, false, false] (by kernel_rfl) rfl rfl (below_drew1 (Below.refl _ _)) (fun hHeld => ?_)
      refine pure_ (i := 0) (N := some 26) (v := ?_) (a' := ?_) #[true, false, false, false, false, false] rfl rfl (by kernel_rfl) (fun _ _ _ h => h) (Or.inl ⟨by rfl, ?_⟩) ?_ ?_
      rotate_left
      · intro w'
        go_simp
        with_reducible rfl
      rotate_left
      · simp only [Act.put, List.setIfInBounds_toArray, List.set_cons_zero, List.set_cons_succ, i64_w, i32_w]
        rfl
      refine pure_ (i := 2) (N := some 28) (v := ?_) (a' := ?_) #[true, false, true, false, false, false] rfl rfl (by kernel_rfl) (fun _ _ _ h => h) (Or.inl ⟨by rfl, ?_⟩) ?_ ?_
      rotate_left
      · intro w'
        go_simp
        with_reducible rfl
      rotate_left
      · simp only [Act.put, List.setIfInBounds_toArray, List.set_cons_zero, List.set_cons_succ, i64_w, i32_w]
        rfl
      refine one_ (i := 1) (N := some 27) #[true, true, true, false, false, false] rfl rfl (by kernel_rfl) (by decide) (fun K hK => ?_)
      refine goes_ Tryd.func33 (by kernel_rfl) rfl #[.slice A key.length c, .int .u8 92] (by rfl) rfl rfl (by first | rfl | (simp only [List.map_toArray, List.map_cons, List.map_nil]; rfl)) ?_
      with_reducible refine (HPD.out _ hHeld).mono ?_
      rintro e w7 ⟨A7, c7, rfl, hx7, hb7⟩
      have HB7 := Aside0.mk (hHeld.trans (hb7.mono hHeld.size))
      have HP7 := Aside0.mk (psum2 (HR.out.below (HB6.out.trans (HB7.out.mono HB6.out.size))) (HCU.out.below (HB6.out.trans (HB7.out.mono HB6.out.size))) hx7 (HT6.out.below HB7.out) hll w7.heap.size rfl)
      refine ⟨_, rfl, ?_⟩
      refine hK.out _ _ (HB7.out) (fun hHeld => ?_)
      clear hK K
      refine norm_ (a' := ?_) ?_ ?_
      rotate_left
      · show Act.put _ (some 27) _ = _
        simp only [Act.put, List.setIfInBounds_toArray, List.set_cons_zero, List.set_cons_succ, i64_w, i32_w]
        rfl
      refine one_ (i := 3) (N := some 29) #[true, true, true, true, false, false] rfl rfl (by kernel_rfl) (by decide) (fun K hK => ?_)
      refine value_ (w1 := ?_) (v := ?_) (by rfl) rfl ?_ ?_
      rotate_left 2
      · go_simp
        constructor
        · rfl
        · rfl
      refine hK.out _ _ (below_alloc hHeld _) (fun hHeld => ?_)
      clear hK K
      refine norm_ (a' := ?_) ?_ ?_
      rotate_left
      · show Act.put _ (some 29) _ = _
        simp only [Act.put, List.setIfInBounds_toArray, List.set_cons_zero, List.set_cons_succ, i64_w, i32_w]
        rfl
      refine one_ (i := 4) (N := some 30) #[true, true, true, true, true, false] rfl rfl (by kernel_rfl) (by decide) (fun K hK => ?_)
      refine goes_ Tryd.func12 (by kernel_rfl) rfl #[.slice (some ⟨w7.heap.size, 0, none⟩) 2 2] (by rfl) rfl rfl (by first | rfl | (simp only [List.map_toArray, List.map_cons, List.map_nil]; rfl)) ?_
      with_reducible refine (HP7.out).mono ?_
      rintro e w8 ⟨rfl, hb8⟩
      have HST8 := Aside0.mk (store32 w8 w.heap.size (hash (padT key 92 ++ d)) (hash_len _) (((HB7.out.trans (hb8.mono HB7.out.size)).block _ (blk_lt HR6.out)).trans HR6.out))
      refine ⟨_, rfl, ?_⟩
      refine hK.out _ _ (HB7.out.trans (hb8.mono HB7.out.size)) (fun hHeld => ?_)
      clear hK K
      refine norm_ (a' := ?_) ?_ ?_
      rotate_left
      · show Act.put _ (some 30) _ = _
        simp only [Act.put, List.setIfInBounds_toArray, List.set_cons_zero, List.set_cons_succ, i64_w, i32_w]
        rfl
      refine last_ (i := 5) (N := none) #[true, true, true, true, true, true] rfl rfl (by kernel_rfl) (by decide) (fun K hK => ?_)
      refine skip_ (w1 := w8.setRow w.heap.size (cellsB (hash (padT key 92 ++ d)))) (by rfl) rfl (store_run rfl rfl rfl HST8.out.1) ?_
      refine hK.out _ _ ?_
      clear hK K
      refine done_ (by kernel_rfl) ?_
      go_wp2_with fail
      refine bodyPost_ret (results_cell_row rfl _ _ w.heap.size 25 (cellsB (hash (padT key 92 ++ d))) (0, 0) _ rfl HST8.out.2 Tryd.underlying25 rfl (by rw [info25, cellsB_size, hash_len])) rfl ?_
      exact ⟨by rw [HD.out]; rfl, below_setRow (HB6.out.trans (hHeld.mono HB6.out.size)) (Nat.le_refl _) _⟩
end Go.Proofs.YtjmgeelblodcgaaDoor.Sx
/- EsT -/
namespace Go.Proofs.YtjmgeelblodcgaaDoor.Sx
open Go.RowKit Go.Proofs.YtjmgeelblodcgaaDoorW.PrintWords Go.Proofs.YtjmgeelblodcgaaDoorW.PrintMore Go.Proofs.YtjmgeelblodcgaaDoor.Sh Go.Proofs.YtjmgeelblodcgaaDoor.PAll
set_option linter.unusedVariables false
set_option linter.unusedSimpArgs false
set_option maxRecDepth 100000 in
theorem jefe : (mac [74, 101, 102, 101] [119, 104, 97, 116, 32, 100, 111, 32, 121, 97, 32, 119, 97, 110, 116, 32, 102, 111, 114, 32, 110, 111, 116, 104, 105, 110, 103, 63]).getD 0 0 = 91 ∧ (mac [74, 101, 102, 101] [119, 104, 97, 116, 32, 100, 111, 32, 121, 97, 32, 119, 97, 110, 116, 32, 102, 111, 114, 32, 110, 111, 116, 104, 105, 110, 103, 63]).getD 1 0 = 220 ∧ (mac [74, 101, 102, 101] [119, 104, 97, 116, 32, 100, 111, 32, 121, 97, 32, 119, 97, 110, 116, 32, 102, 111, 114, 32, 110, 111, 116, 104, 105, 110, 103, 63]).getD 2 0 = 193 ∧ (mac [74, 101, 102, 101] [119, 104, 97, 116, 32, 100, 111, 32, 121, 97, 32, 119, 97, 110, 116, 32, 102, 111, 114, 32, 110, 111, 116, 104, 105, 110, 103, 63]).getD 3 0 = 70 := by decide +kernel
set_option maxRecDepth 100000 in
set_option maxHeartbeats 2000000 in
theorem alive5_calls (w : World) (hr : Roots w) (hcu : Cubes w) : Calls Tryd.prog 18 #[] w (Yes w) := by
  have HR := Aside0.mk hr
  have HCU := Aside0.mk hcu
  clear hr hcu
  have hc1 : (convert 22 22 (.slice (some ⟨w.heap.size, 0, none⟩) 4 4)).run Tryd.prog (w.alloc (.cells #[.int .u8 74, .int .u8 101, .int .u8 102, .int .u8 101] 5)) = .ok (.slice (some ⟨w.heap.size, 0, none⟩) 4 4) (w.alloc (.cells #[.int .u8 74, .int .u8 101, .int .u8 102, .int .u8 101] 5 (4, 5))) :=
    Joins.run_convert_bytes_const_at w 22 5 _ 4 4 _ (by simp) Tryd.underlying22 Tryd.underlying5
  have hc2 : (convert 22 22 (.slice (some ⟨w.heap.size + 1, 0, none⟩) 16 16)).run Tryd.prog ((w.alloc (.cells #[.int .u8 74, .int .u8 101, .int .u8 102, .int .u8 101] 5 (4, 5))).alloc (.cells #[.int .u8 119, .int .u8 104, .int .u8 97, .int .u8 116, .int .u8 32, .int .u8 100, .int .u8 111, .int .u8 32, .int .u8 121, .int .u8 97, .int .u8 32, .int .u8 119, .int .u8 97, .int .u8 110, .int .u8 116, .int .u8 32] 5)) = .ok (.slice (some ⟨w.heap.size + 1, 0, none⟩) 16 16) ((w.alloc (.cells #[.int .u8 74, .int .u8 101, .int .u8 102, .int .u8 101] 5 (4, 5))).alloc (.cells #[.int .u8 119, .int .u8 104, .int .u8 97, .int .u8 116, .int .u8 32, .int .u8 100, .int .u8 111, .int .u8 32, .int .u8 121, .int .u8 97, .int .u8 32, .int .u8 119, .int .u8 97, .int .u8 110, .int .u8 116, .int .u8 32] 5 (16, 17))) :=
    Joins.run_convert_bytes_const_at (w.alloc (.cells #[.int .u8 74, .int .u8 101, .int .u8 102, .int .u8 101] 5 (4, 5))) 22 5 _ 16 16 _ (by simp) Tryd.underlying22 Tryd.underlying5
  have hc3 : (convert 22 22 (.slice (some ⟨w.heap.size + 1 + 1, 0, none⟩) 12 12)).run Tryd.prog (((w.alloc (.cells #[.int .u8 74, .int .u8 101, .int .u8 102, .int .u8 101] 5 (4, 5))).alloc (.cells #[.int .u8 119, .int .u8 104, .int .u8 97, .int .u8 116, .int .u8 32, .int .u8 100, .int .u8 111, .int .u8 32, .int .u8 121, .int .u8 97, .int .u8 32, .int .u8 119, .int .u8 97, .int .u8 110, .int .u8 116, .int .u8 32] 5 (16, 17))).alloc (.cells #[.int .u8 102, .int .u8 111, .int .u8 114, .int .u8 32, .int .u8 110, .int .u8 111, .int .u8 116, .int .u8 104, .int .u8 105, .int .u8 110, .int .u8 103, .int .u8 63] 5)) = .ok (.slice (some ⟨w.heap.size + 1 + 1, 0, none⟩) 12 12) (((w.alloc (.cells #[.int .u8 74, .int .u8 101, .int .u8 102, .int .u8 101] 5 (4, 5))).alloc (.cells #[.int .u8 119, .int .u8 104, .int .u8 97, .int .u8 116, .int .u8 32, .int .u8 100, .int .u8 111, .int .u8 32, .int .u8 121, .int .u8 97, .int .u8 32, .int .u8 119, .int .u8 97, .int .u8 110, .int .u8 116, .int .u8 32] 5 (16, 17))).alloc (.cells #[.int .u8 102, .int .u8 111, .int .u8 114, .int .u8 32, .int .u8 110, .int .u8 111, .int .u8 116, .int .u8 104, .int .u8 105, .int .u8 110, .int .u8 103, .int .u8 63] 5 (12, 13))) :=
    Joins.run_convert_bytes_const_at ((w.alloc (.cells #[.int .u8 74, .int .u8 101, .int .u8 102, .int .u8 101] 5 (4, 5))).alloc (.cells #[.int .u8 119, .int .u8 104, .int .u8 97, .int .u8 116, .int .u8 32, .int .u8 100, .int .u8 111, .int .u8 32, .int .u8 121, .int .u8 97, .int .u8 32, .int .u8 119, .int .u8 97, .int .u8 110, .int .u8 116, .int .u8 32] 5 (16, 17))) 22 5 _ 12 12 _ (by simp) Tryd.underlying22 Tryd.underlying5
  go_enter Tryd.func18, Tryd.ntmps18
  go_wp2_with fail
  clear hc1 hc2 hc3
  have hb : Below w.heap.size w ((((w.alloc (.cells #[.int .u8 74, .int .u8 101, .int .u8 102, .int .u8 101] 5 (4, 5))).alloc (.cells #[.int .u8 119, .int .u8 104, .int .u8 97, .int .u8 116, .int .u8 32, .int .u8 100, .int .u8 111, .int .u8 32, .int .u8 121, .int .u8 97, .int .u8 32, .int .u8 119, .int .u8 97, .int .u8 110, .int .u8 116, .int .u8 32] 5 (16, 17))).alloc (.cells #[.int .u8 102, .int .u8 111, .int .u8 114, .int .u8 32, .int .u8 110, .int .u8 111, .int .u8 116, .int .u8 104, .int .u8 105, .int .u8 110, .int .u8 103, .int .u8 63] 5 (12, 13))).alloc (.cells #[.slice (some ⟨w.heap.size + 1, 0, none⟩) 16 16, .slice (some ⟨w.heap.size + 1 + 1, 0, none⟩) 12 12] 22)) := below_alloc (below_alloc (below_alloc (below_alloc (Below.refl _ _) _) _) _) _
  have k1 := blk_alloc (blk_alloc (blk_alloc (blk_new w (.cells #[.int .u8 74, .int .u8 101, .int .u8 102, .int .u8 101] 5 (4, 5))) (.cells #[.int .u8 119, .int .u8 104, .int .u8 97, .int .u8 116, .int .u8 32, .int .u8 100, .int .u8 111, .int .u8 32, .int .u8 121, .int .u8 97, .int .u8 32, .int .u8 119, .int .u8 97, .int .u8 110, .int .u8 116, .int .u8 32] 5 (16, 17))) (.cells #[.int .u8 102, .int .u8 111, .int .u8 114, .int .u8 32, .int .u8 110, .int .u8 111, .int .u8 116, .int .u8 104, .int .u8 105, .int .u8 110, .int .u8 103, .int .u8 63] 5 (12, 13))) (.cells #[.slice (some ⟨w.heap.size + 1, 0, none⟩) 16 16, .slice (some ⟨w.heap.size + 1 + 1, 0, none⟩) 12 12] 22)
  have k2 := blk_alloc (blk_alloc (blk_new (w.alloc (.cells #[.int .u8 74, .int .u8 101, .int .u8 102, .int .u8 101] 5 (4, 5))) (.cells #[.int .u8 119, .int .u8 104, .int .u8 97, .int .u8 116, .int .u8 32, .int .u8 100, .int .u8 111, .int .u8 32, .int .u8 121, .int .u8 97, .int .u8 32, .int .u8 119, .int .u8 97, .int .u8 110, .int .u8 116, .int .u8 32] 5 (16, 17))) (.cells #[.int .u8 102, .int .u8 111, .int .u8 114, .int .u8 32, .int .u8 110, .int .u8 111, .int .u8 116, .int .u8 104, .int .u8 105, .int .u8 110, .int .u8 103, .int .u8 63] 5 (12, 13))) (.cells #[.slice (some ⟨w.heap.size + 1, 0, none⟩) 16 16, .slice (some ⟨w.heap.size + 1 + 1, 0, none⟩) 12 12] 22)
  have k3 := blk_alloc (blk_new ((w.alloc (.cells #[.int .u8 74, .int .u8 101, .int .u8 102, .int .u8 101] 5 (4, 5))).alloc (.cells #[.int .u8 119, .int .u8 104, .int .u8 97, .int .u8 116, .int .u8 32, .int .u8 100, .int .u8 111, .int .u8 32, .int .u8 121, .int .u8 97, .int .u8 32, .int .u8 119, .int .u8 97, .int .u8 110, .int .u8 116, .int .u8 32] 5 (16, 17))) (.cells #[.int .u8 102, .int .u8 111, .int .u8 114, .int .u8 32, .int .u8 110, .int .u8 111, .int .u8 116, .int .u8 104, .int .u8 105, .int .u8 110, .int .u8 103, .int .u8 63] 5 (12, 13))) (.cells #[.slice (some ⟨w.heap.size + 1, 0, none⟩) 16 16, .slice (some ⟨w.heap.size + 1 + 1, 0, none⟩) 12 12] 22)
  have k4 := blk_new (((w.alloc (.cells #[.int .u8 74, .int .u8 101, .int .u8 102, .int .u8 101] 5 (4, 5))).alloc (.cells #[.int .u8 119, .int .u8 104, .int .u8 97, .int .u8 116, .int .u8 32, .int .u8 100, .int .u8 111, .int .u8 32, .int .u8 121, .int .u8 97, .int .u8 32, .int .u8 119, .int .u8 97, .int .u8 110, .int .u8 116, .int .u8 32] 5 (16, 17))).alloc (.cells #[.int .u8 102, .int .u8 111, .int .u8 114, .int .u8 32, .int .u8 110, .int .u8 111, .int .u8 116, .int .u8 104, .int .u8 105, .int .u8 110, .int .u8 103, .int .u8 63] 5 (12, 13))) (.cells #[.slice (some ⟨w.heap.size + 1, 0, none⟩) 16 16, .slice (some ⟨w.heap.size + 1 + 1, 0, none⟩) 12 12] 22)
  rw [World.size_alloc] at k2
  rw [World.size_alloc, World.size_alloc] at k3
  rw [World.size_alloc, World.size_alloc, World.size_alloc] at k4
  have t0 := txt_blk (l := [74, 101, 102, 101]) k1 (by decide) (by unfold Bytes; decide)
  have t1 := txt_blk (l := [119, 104, 97, 116, 32, 100, 111, 32, 121, 97, 32, 119, 97, 110, 116, 32]) k2 (by decide) (by unfold Bytes; decide)
  have t2 := txt_blk (l := [102, 111, 114, 32, 110, 111, 116, 104, 105, 110, 103, 63]) k3 (by decide) (by unfold Bytes; decide)
  have hp := PartsOf.blk (vs := [.slice (some ⟨w.heap.size + 1, 0, none⟩) 16 16, .slice (some ⟨w.heap.size + 1 + 1, 0, none⟩) 12 12]) (ps := [[119, 104, 97, 116, 32, 100, 111, 32, 121, 97, 32, 119, 97, 110, 116, 32], [102, 111, 114, 32, 110, 111, 116, 104, 105, 110, 103, 63]]) rfl k4 (fun k hk => by
    have : k = 0 ∨ k = 1 := by simp at hk; omega
    rcases this with rfl | rfl
    · exact t1
    · exact t2)
  obtain ⟨W3, hW3⟩ : ∃ x, x = (((w.alloc (.cells #[.int .u8 74, .int .u8 101, .int .u8 102, .int .u8 101] 5 (4, 5))).alloc (.cells #[.int .u8 119, .int .u8 104, .int .u8 97, .int .u8 116, .int .u8 32, .int .u8 100, .int .u8 111, .int .u8 32, .int .u8 121, .int .u8 97, .int .u8 32, .int .u8 119, .int .u8 97, .int .u8 110, .int .u8 116, .int .u8 32] 5 (16, 17))).alloc (.cells #[.int .u8 102, .int .u8 111, .int .u8 114, .int .u8 32, .int .u8 110, .int .u8 111, .int .u8 116, .int .u8 104, .int .u8 105, .int .u8 110, .int .u8 103, .int .u8 63] 5 (12, 13))).alloc (.cells #[.slice (some ⟨w.heap.size + 1, 0, none⟩) 16 16, .slice (some ⟨w.heap.size + 1 + 1, 0, none⟩) 12 12] 22) := ⟨_, rfl⟩
  rw [← hW3] at hb hp t0 ⊢
  have HS := Aside0.mk (show Calls Tryd.prog 19 #[.slice (some ⟨w.heap.size, 0, none⟩) 4 4, .slice (some ⟨w.heap.size + 1 + 1 + 1, 0, none⟩) 2 2] W3 (fun e w' => e = .returned (.agg (cellsB (mac [74, 101, 102, 101] [119, 104, 97, 116, 32, 100, 111, 32, 121, 97, 32, 119, 97, 110, 116, 32, 102, 111, 114, 32, 110, 111, 116, 104, 105, 110, 103, 63]))) ∧ Below W3.heap.size W3 w') from mac_calls W3 (HR.out.below hb) (HCU.out.below hb) _ 4 [74, 101, 102, 101] t0 (by decide) _ [[119, 104, 97, 116, 32, 100, 111, 32, 121, 97, 32, 119, 97, 110, 116, 32], [102, 111, 114, 32, 110, 111, 116, 104, 105, 110, 103, 63]] 2 2 rfl (by decide) hp (by decide))
  have HB := Aside0.mk hb
  clear hW3 k1 k2 k3 k4 t0 t1 t2 hp hb
  refine HS.out.mono ?_
  rintro e W4 ⟨rfl, hb4⟩
  have h0 := jefe
  obtain ⟨d, hd⟩ : ∃ d, d = mac [74, 101, 102, 101] [119, 104, 97, 116, 32, 100, 111, 32, 121, 97, 32, 119, 97, 110, 116, 32, 102, 111, 114, 32, 110, 111, 116, 104, 105, 110, 103, 63] := ⟨_, rfl⟩
  have hdl : d.length = 32 := by rw [hd]; exact mac_len _ _
  rw [← hd] at h0
  rw [← hd]
  have hB4 := HB.out.trans (hb4.mono HB.out.size)
  have hst := store32 (W4.alloc (.cells #[.int .u8 0, .int .u8 0, .int .u8 0, .int .u8 0, .int .u8 0, .int .u8 0, .int .u8 0, .int .u8 0, .int .u8 0, .int .u8 0, .int .u8 0, .int .u8 0, .int .u8 0, .int .u8 0, .int .u8 0, .int .u8 0, .int .u8 0, .int .u8 0, .int .u8 0, .int .u8 0, .int .u8 0, .int .u8 0, .int .u8 0, .int .u8 0, .int .u8 0, .int .u8 0, .int .u8 0, .int .u8 0, .int .u8 0, .int .u8 0, .int .u8 0, .int .u8 0] 25)) W4.heap.size d hdl (old := List.replicate 32 0) (blk_new W4 _) rfl
  have HST := Aside0.mk hst.1
  have HR5 := hst.2
  have c0 := (blk_cell HR5 0).trans (cellsB_get d 0 (by omega))
  have c1 := (blk_cell HR5 1).trans (cellsB_get d 1 (by omega))
  have c2 := (blk_cell HR5 2).trans (cellsB_get d 2 (by omega))
  have c3 := (blk_cell HR5 3).trans (cellsB_get d 3 (by omega))
  rw [h0.1] at c0
  rw [h0.2.1] at c1
  rw [h0.2.2.1] at c2
  rw [h0.2.2.2] at c3
  have HBF := Aside0.mk (below_setRow (below_alloc hB4 (.cells #[.int .u8 0, .int .u8 0, .int .u8 0, .int .u8 0, .int .u8 0, .int .u8 0, .int .u8 0, .int .u8 0, .int .u8 0, .int .u8 0, .int .u8 0, .int .u8 0, .int .u8 0, .int .u8 0, .int .u8 0, .int .u8 0, .int .u8 0, .int .u8 0, .int .u8 0, .int .u8 0, .int .u8 0, .int .u8 0, .int .u8 0, .int .u8 0, .int .u8 0, .int .u8 0, .int .u8 0, .int .u8 0, .int .u8 0, .int .u8 0, .int .u8 0, .int .u8 0] 25)) hB4.size (cellsB d))
  clear hst HR5 h0 hd hdl hb4 hB4
  go_wp2_with (first | (refine store_whole (s := .tmp 1) rfl rfl rfl rfl HST.out ?_))
  go_ret
  exact ⟨rfl, HBF.out⟩
end Go.Proofs.YtjmgeelblodcgaaDoor.Sx
/- EsU -/
namespace Go.Proofs.YtjmgeelblodcgaaDoor.Sx
open Go.RowKit Go.Proofs.YtjmgeelblodcgaaDoorW.PrintWords Go.Proofs.YtjmgeelblodcgaaDoorW.PrintLast Go.Proofs.YtjmgeelblodcgaaDoorW.PrintMore Go.Proofs.YtjmgeelblodcgaaDoor.Sh
set_option linter.unusedVariables false
set_option linter.unusedSimpArgs false
theorem load_run {P : Program} {o : Oper} {a : Act} {W : World} {t : TypeId} {s : Operand} {g : Nat} {v : Value} (ho : o.op = .load t s) (hs : a.eval s = .pointer (some ⟨g, 0, none⟩)) (hl : (loadVar t ⟨g, 0, none⟩).run P W = .ok v W) : (execOp a.eval o).run P W = .ok (.value v) W := by
  unfold execOp
  simp only [ho, hs, Instr.loadAt, Instr.sureAddr, Sem.run_bind, Sem.run_pure, Result.andThen_ok, hl]
structure Mtd (w : World) (ps : List (List Int)) (m : Nat) (k : Nat) (v : Value) (wr : World) : Prop where
  row : RB wr w.heap.size v (flat ps k)
  bel : Below w.heap.size w wr
  len : ∀ j, j < k → (prt ps j).length ≤ m
theorem Mtd.lenle {w : World} {m k : Nat} {ps : List (List Int)} {v : Value} {wr : World} (h : Mtd w ps m k v wr) (hk : k ≤ 21) (hm : m ≤ 300) : (flat ps k).length ≤ 6300 := by
  have := flat_len ps m k h.len
  have : m * k ≤ 300 * 21 := Nat.mul_le_mul hm hk
  omega
end Go.Proofs.YtjmgeelblodcgaaDoor.Sx
/- EsPf -/
namespace Go.Proofs.YtjmgeelblodcgaaDoor.Sx
open Go.RowKit Go.Proofs.YtjmgeelblodcgaaDoorW.PrintWords Go.Proofs.YtjmgeelblodcgaaDoorW.PrintMore Go.Proofs.YtjmgeelblodcgaaDoor.Sh Go.Proofs.YtjmgeelblodcgaaDoor.PAll
set_option linter.unusedVariables false
set_option linter.unusedSimpArgs false
theorem take_snoc (d : List Int) (k : Nat) (h : k < d.length) : d.take (k + 1) = d.take k ++ [d.getD k 0] := by
  rw [List.take_add_one, List.getElem?_eq_getElem h, List.getD_eq_getElem?_getD, List.getElem?_eq_getElem h]
  rfl
set_option maxRecDepth 100000 in
set_option maxHeartbeats 1000000 in
theorem rbytes_calls (w : World) (d : List Int) (hd : d.length = 32) : Calls Tryd.prog 35 #[.agg (cellsB d)] w fun e w' => ∃ v, e = .returned v ∧ RB w' w.heap.size v d ∧ Below w.heap.size w w' := by
  have HD := Aside0.mk hd
  have HG := Aside0.mk (blk_new w (.cells (cellsB d) 24))
  have HB0 := Aside0.mk (below_alloc (Below.refl w.heap.size w) (.cells (cellsB d) 24))
  clear hd
  go_enter Tryd.func35, Tryd.ntmps35
  go_wp2_with fail
  go_loopw [3, 4] (fun v i wr => ∃ k : Nat, k ≤ 32 ∧ i = .int .i64 k ∧ Aside0 (RB wr w.heap.size v (d.take k)) ∧ Aside0 (Below w.heap.size w wr) ∧ Aside0 (wr.heap[w.heap.size]? = some (.cells (cellsB d) 24 (0, 0)))) (fun _ i _ => 32 - (intOf i).toNat)
  case atStart => exact ⟨0, Nat.zero_le _, rfl, ⟨Kd.R_nil _ _ _ _ _⟩, HB0, HG⟩
  case round =>
    obtain ⟨k, hk, rfl, HR, HB, HGr⟩ := hrel
    obtain ⟨A1, c1, rfl⟩ := Kd.R_slice HR.out
    have hln : (d.take k).length = k := by rw [List.length_take, HD.out]; omega
    rw [hln] at HR ⊢
    by_cases hlt : k < 32
    · have hcell := (blk_cell HGr.out k).trans (cellsB_get d k (by rw [HD.out]; exact hlt))
      obtain ⟨y, hy⟩ : ∃ y, y = d.getD k 0 := ⟨_, rfl⟩
      rw [← hy] at hcell
      have hki : (k : Int) < 32 := by omega
      have HY := Aside0.mk hy
      have HL := Aside0.mk (show ((d.take k).length + 1) * 1 ≤ 140737488355328 by rw [hln]; omega)
      have HLN := Aside0.mk hln
      clear hy hln
      have HNE := Aside0.mk (Kd.R_ne HR.out HGr.out (by decide))
      go_wp2_with (first | ((with_reducible refine gate_builtin (b := .append) (xs := #[.tmp 9, .tmp 13]) rfl ?_); at_builtin; refine Kd.R_append (Kd.int .u8) (w0 := w) w.heap.size rfl (.tmp 9) (.tmp 13) 22 5 (.int .u8 0) 1 rfl Tryd.underlying22 info5 rfl (by decide) (by omega) (.slice A1 k c1) (d.take k) y [.int .u8 y] (fun _ => True) (fun _ => False) rfl rfl ?aP (fun _ hk => hk.elim) ?aF ?aO ?aB ?aS ?aL ?_; (case aP => exact rfl); (case aF => exact (fun _ _ => trivial)); (case aO => exact HR.out); (case aB => exact HB.out); (case aS => exact HB.out.size); (case aL => exact HL.out); intro v2 w2 ho hb hg hat; have HO2 := Aside0.mk ho; have HB2 := Aside0.mk hb; have HG2 := Aside0.mk (gb_blk hg HGr.out HNE.out); clear ho hb hg hat))
      go_roundw
      case rel => exact ⟨k + 1, by omega, by go_num, ⟨by rw [take_snoc d k (by rw [HD.out]; exact hlt), ← HY.out]; exact HO2.out⟩, HB2, HG2⟩
      case measure => simp [intOf]; omega
    · obtain rfl : k = 32 := by omega
      go_wp2_with fail
      go_ret
      exact ⟨_, rfl, by have h := HR.out; rwa [List.take_of_length_le (show d.length ≤ 32 by rw [HD.out]; exact Nat.le_refl _)] at h, HB.out⟩
end Go.Proofs.YtjmgeelblodcgaaDoor.Sx
/- EsPg -/
namespace Go.Proofs.YtjmgeelblodcgaaDoor.Sx
open Go.RowKit Go.Proofs.YtjmgeelblodcgaaDoorW.PrintWords Go.Proofs.YtjmgeelblodcgaaDoorW.PrintLast Go.Proofs.YtjmgeelblodcgaaDoorW.PrintMore Go.Proofs.YtjmgeelblodcgaaDoor.Sh Go.Proofs.YtjmgeelblodcgaaDoor.PAll
set_option linter.unusedVariables false
set_option linter.unusedSimpArgs false
def RCubes (w : World) : Prop := ∀ k, k < 64 → w.cell? ⟨0, k, none⟩ = some (.int .u32 (kub k : Nat))
theorem RCubes.below {w W : World} (h : RCubes w) (hb : Below w.heap.size w W) : RCubes W := fun k hk => pw_cell_below hb (h k hk)
theorem gb_setRow (w : World) (g : Nat) (cs : Array Value) : w.grownBy (w.setRow g cs) (some g) :=
  ⟨rfl, rfl, rfl, by simp [World.setRow], fun i _ hi => setRow_other w g i cs (fun e => hi (by rw [e]))⟩
theorem rw_block {w : World} {base g n c : Nat} {l : List Int} (h : Kd.R (Kd.int .u32) 45 w base (fun _ => True) (.slice (some ⟨g, 0, none⟩) n c) l) : ∃ cur, w.heap[g]? = some (.cells cur 45 (0, 0)) ∧ base ≤ g ∧ ∀ j, j < l.length → cur[j]? = some (.int .u32 (l.getD j 0)) := by
  obtain ⟨cur, hc⟩ := Kd.R_typed h g rfl
  obtain ⟨h1, h2, _⟩ := Kd.R_reads' h
  obtain ⟨inner, ho⟩ := Kd.R_own h
  refine ⟨cur, hc, own_base ho g rfl, fun j hj => ?_⟩
  obtain ⟨cs, _, hM, hcell, _⟩ := Kd.R_elem h (0 : Int) (j : Int) (by omega) (by omega)
  have h5 : cs = [.int .u32 (l.getD (j : Int).toNat 0)] := hM
  subst h5
  have h6 := hcell 0 _ rfl
  rw [Joins.cell_of_block hc, show (j : Int).toNat * (Kd.int .u32).sz + 0 = j from by show (j : Int).toNat * 1 + 0 = j; omega] at h6
  rw [h6, Int.toNat_natCast]
theorem rw_form {w : World} {base n c : Nat} {A : Option Addr} {l : List Int} (h : Kd.R (Kd.int .u32) 45 w base (fun _ => True) (.slice A n c) l) (hl : l ≠ []) : ∃ g, A = some ⟨g, 0, none⟩ := by
  obtain ⟨inner, ho⟩ := Kd.R_own h
  rcases ho.2 with ⟨he, hn⟩ | ⟨g, cap, cur, he, _⟩
  · injection he with _ h2
    have h3 := (Kd.R_reads' h).1
    exact absurd (List.eq_nil_of_length_eq_zero (by omega)) hl
  · injection he with h1
    exact ⟨g, h1⟩
theorem mid_txt {w : World} {A : Option Addr} {c : Nat} {l : List Int} (lo hi : Nat) (h1 : lo ≤ hi) (h2 : hi ≤ l.length) (h : Txt w (.slice A l.length c) l) :
    ∃ A' c', (∀ W, (Instr.slice 22 (.slice A l.length c) (some (.int .i64 lo)) (some (.int .i64 hi)) none).run Tryd.prog W = .ok (.slice A' (hi - lo) c') W) ∧ Txt w (.slice A' (hi - lo) c') ((l.take hi).drop lo) := by
  obtain ⟨A1, c1, he, h3, h4, h5, h6⟩ := h
  simp only [Value.slice.injEq, true_and] at he
  obtain ⟨rfl, rfl⟩ := he
  obtain ⟨i, hi', hsz⟩ := tprog5
  have r1 := cut_mid (P := Tryd.prog) 22 5 .i64 .i64 Tryd.underlying22 hi' 1 hsz A l.length c (lo : Int) (hi : Int) (by omega) (by omega) (by omega) h3
  simp only [Int.toNat_natCast] at r1
  have e1 : ((l.take hi).drop lo).length = hi - lo := by rw [List.length_drop, List.length_take]; omega
  refine ⟨_, _, r1, ⟨(if c = lo then A else A.map (·.add (lo * 1))), c - lo, by rw [e1], by rw [e1]; omega, Kd.C_mid h4 h1 h2 h3, fun x hx => h5 x (List.mem_of_mem_take (List.mem_of_mem_drop hx)), by rw [e1]; omega⟩⟩
theorem blkT_mid (b : List Int) (k : Nat) : (b.take (64 * k + 64)).drop (64 * k) = blkT b k := by
  unfold blkT
  rw [List.drop_take, show 64 * k + 64 - 64 * k = 64 by omega]
theorem hR_len (now : List Nat) (b : List Int) (h : now.length = 8) (k : Nat) : (hR now b k).length = 8 := by
  cases k with
  | zero => exact h
  | succ k => rw [hR]; simp [addR]
theorem hR_good (now : List Nat) (b : List Int) (h : Good now) (k : Nat) : Good (hR now b k) := by
  cases k with
  | zero => exact h
  | succ k =>
    rw [hR]
    intro j
    unfold addR
    refine mr_lt (fun x hx => ?_) j
    rw [List.mem_map] at hx
    obtain ⟨i, _, rfl⟩ := hx
    exact mod32_lt _
theorem runR_len (r M : List Nat) (h : r.length = 8) (k : Nat) : (runR r M k).length = 8 := by
  cases k with
  | zero => exact h
  | succ k => rw [runR]; rfl
theorem stH_lt (a b c d : Nat) : stH a b c d < 4294967296 := mod32_lt _
theorem good8 {a0 a1 a2 a3 a4 a5 a6 a7 : Nat} (h0 : a0 < 4294967296) (h1 : a1 < 4294967296) (h2 : a2 < 4294967296) (h3 : a3 < 4294967296) (h4 : a4 < 4294967296) (h5 : a5 < 4294967296) (h6 : a6 < 4294967296) (h7 : a7 < 4294967296) : Good [a0, a1, a2, a3, a4, a5, a6, a7] := mr_lt (fun x hx => by
  simp only [List.mem_cons, List.not_mem_nil, or_false] at hx
  rcases hx with rfl | rfl | rfl | rfl | rfl | rfl | rfl | rfl <;> assumption)
theorem runR_good (r M : List Nat) (h : Good r) (k : Nat) : Good (runR r M k) := by
  induction k with
  | zero => exact h
  | succ k ih =>
    rw [runR]
    unfold stepR
    exact good8 (stH_lt _ _ _ _) (ih 0) (ih 1) (ih 2) (mod32_lt _) (ih 4) (ih 5) (ih 6)
theorem vals_size8 (m : List Nat) (h : m.length = 8) : (vals m).size = 8 := by rw [vals_size, h]
theorem vals_one (m : List Nat) : (vals m).all (·.oneCell') = true := by
  rw [Array.all_eq_true_iff_forall_mem]
  intro v hv
  simp only [vals, List.mem_toArray, List.mem_map] at hv
  obtain ⟨n, _, rfl⟩ := hv
  rfl
theorem vals_noU8 (m : List Nat) : NoU8 (vals m) := fun j x h => by
  unfold vals at h
  rw [List.getElem?_toArray, List.getElem?_map] at h
  cases hm : m[j]? with
  | none => rw [hm] at h; cases h
  | some n => rw [hm] at h; cases h
theorem vals_8 (m : List Nat) (h : m.length = 8) : vals m = #[.int .u32 (mr m 0 : Nat), .int .u32 (mr m 1 : Nat), .int .u32 (mr m 2 : Nat), .int .u32 (mr m 3 : Nat), .int .u32 (mr m 4 : Nat), .int .u32 (mr m 5 : Nat), .int .u32 (mr m 6 : Nat), .int .u32 (mr m 7 : Nat)] := (vals8 m h).symm
theorem step_vals (w : World) (r : List Nat) (hl : r.length = 8) (hg : Good r) (c m : Nat) : Calls Tryd.prog 28 #[.agg (vals r), .int .u32 (c : Nat), .int .u32 (m : Nat)] w fun e w' => e = .returned (.agg (vals (stepR r c m))) ∧ Below w.heap.size w w' := by
  rw [vals_8 r hl]
  exact step_calls w _ _ _ _ _ _ _ _ c m (hg 0) (hg 1) (hg 2) (hg 4) (hg 5) (hg 6)
theorem load8 (w : World) (g : Nat) (cs : Array Value) (hg : w.heap[g]? = some (.cells cs 51 (0, 0))) (hs : cs.size = 8) : (loadVar 51 ⟨g, 0, none⟩).run Tryd.prog w = .ok (.agg cs) w := run_loadVar_row w g 51 51 _ (0, 0) _ hg Tryd.underlying51 rfl (by rw [info51, hs])
theorem store_at {P : Program} {ops : Array Oper} {rest : List Oper} {o : Oper} {a : Act} {Q : Exit → Act → World → Prop} {W W1 : World} {t : TypeId} {s x : Operand} {g i : Nat} {v : Value} (hgd : o.guard = none) (ho : o.op = .store t s x) (hs : a.eval s = .pointer (some ⟨g, i, none⟩)) (hx : a.eval x = v) (hl : (storeVar t ⟨g, i, none⟩ v).run P W = .ok () W1) (h : wpList P ops Q rest (a.put o.dst undef) W1) : wpList P ops Q (o :: rest) a W := by
  refine wpList_plain hgd fun K hK => ?_
  unfold Oper.wp execOp
  simp only [ho, hs, hx, Instr.storeAt, Instr.sureAddr, Sem.run_bind, Sem.run_pure, Result.andThen_ok, hl]
  exact hK _ _ h
theorem store_byte (w : World) (o i : Nat) (d : List Int) (hl : d.length = 32) (hg : w.heap[o]? = some (.cells (cellsB d) 24 (0, 0))) (hi : i < 32) (v : Int) :
    (storeVar 5 ⟨o, i, none⟩ (.int .u8 v)).run Tryd.prog w = .ok () (w.setCell ⟨o, i, none⟩ (.int .u8 v)) ∧ (w.setCell ⟨o, i, none⟩ (.int .u8 v)).heap[o]? = some (.cells (cellsB (d.set i v)) 24 (0, 0)) := by
  have c := (blk_cell hg i).trans (cellsB_get d i (by rw [hl]; exact hi))
  have f := blk_frozen hg i
  refine ⟨?_, blk_put hg i _ (cellsB_set d i v)⟩
  go_simp
theorem out_byte (nw : List Nat) (j q x : Nat) (hx : x = mr nw j) (hq : q < 4) : ((x : Int) / ((2 ^ (24 - 8 * q) : Nat) : Int) % 256) = ((outB nw (4 * j + q) : Nat) : Int) := by
  unfold outB
  rw [show (4 * j + q) / 4 = j by omega, show (4 * j + q) % 4 = q by omega, ← hx, Int.natCast_emod, Int.natCast_ediv]
  rfl
/-- A byte of a digest is written: what stays as it was. -/
structure Ob (w : World) (o g8 : Nat) (nw : List Nat) (i : Nat) (wr : World) : Prop where
  bel : Below w.heap.size w wr
  res : wr.heap[w.heap.size]? = some (.cells zero32 24 (0, 0))
  out : wr.heap[o]? = some (.cells (cellsB (dgN nw i)) 24 (0, 0))
  wds : wr.heap[g8]? = some (.cells (vals nw) 45 (0, 0))
theorem Ob.put {w : World} {o g8 : Nat} {nw : List Nat} {i : Nat} {wr : World} (h : Ob w o g8 nw i wr) (hi : i < 32) (hw : w.heap.size < o) (hg : o ≠ g8) (v : Int) (hv : v = ((outB nw i : Nat) : Int)) :
    ∃ W1, (storeVar 5 ⟨o, i, none⟩ (.int .u8 v)).run Tryd.prog wr = .ok () W1 ∧ Ob w o g8 nw (i + 1) W1 := by
  obtain ⟨h1, h2⟩ := store_byte wr o i (dgN nw i) (dgN_len _ _) h.out hi v
  refine ⟨_, h1, below_set h.bel (by omega), ?_, ?_, ?_⟩
  · exact (Below.heap_setCell wr ⟨o, i, none⟩ _ _ (by show w.heap.size ≠ o; omega)).trans h.res
  · rw [← dgN_succ nw i hi, ← hv]; exact h2
  · exact (Below.heap_setCell wr ⟨o, i, none⟩ _ _ (fun e => hg e.symm)).trans h.wds
theorem info24 : (Tryd.prog.info? 24).map (·.size) = some 32 := by kernel_rfl
theorem store24 (w : World) (g : Nat) (d : List Int) (hl : d.length = 32) {old : Array Value} (hg : w.heap[g]? = some (.cells old 24 (0, 0))) (ho : old.size = 32) :
    (storeVar 24 ⟨g, 0, none⟩ (.agg (cellsB d))).run Tryd.prog w = .ok () (w.setRow g (cellsB d)) ∧ (w.setRow g (cellsB d)).heap[g]? = some (.cells (cellsB d) 24 (0, 0)) :=
  ⟨run_storeVar_row w g 24 24 _ _ hg (by rw [info24, cellsB_size, hl]) (by rw [ho, cellsB_size, hl]) (cellsB_one _), setRow_heap w g _ _ 24 (0, 0) hg⟩
/-- What a round of the blocks keeps: the registers, the text, what lay before. -/
structure Bs (w : World) (h : Nat) (A : Option Addr) (c : Nat) (b : List Int) (now : List Nat) (wr : World) : Prop where
  reg : wr.heap[h]? = some (.cells (vals now) 51 (0, 0))
  res : wr.heap[w.heap.size]? = some (.cells zero32 24 (0, 0))
  txt : Txt wr (.slice A b.length c) b
  bel : Below w.heap.size w wr
  hh : h = w.heap.size + 1
theorem Bs.below {w : World} {h : Nat} {A : Option Addr} {c : Nat} {b : List Int} {now : List Nat} {wr W : World} (s : Bs w h A c b now wr) (hb : Below wr.heap.size wr W) : Bs w h A c b now W :=
  ⟨(hb.block h (blk_lt s.reg)).trans s.reg, (hb.block _ (blk_lt s.res)).trans s.res, s.txt.below hb, s.bel.trans (hb.mono s.bel.size), s.hh⟩
/-- A register block is written. -/
theorem Bs.put {w : World} {h : Nat} {A : Option Addr} {c : Nat} {b : List Int} {now : List Nat} {wr : World} (s : Bs w h A c b now wr) (r : Nat) (old : List Nat) (hr : wr.heap[r]? = some (.cells (vals old) 51 (0, 0))) (hne : r ≠ h) (hw : w.heap.size < r) (cs : Array Value) : Bs w h A c b now (wr.setRow r cs) :=
  ⟨(setRow_other wr r h cs (fun e => hne e.symm)).trans s.reg, (setRow_other wr r _ cs (by omega)).trans s.res, s.txt.gb hr (vals_noU8 _) (gb_setRow wr r cs), below_setRow s.bel (by omega) cs, s.hh⟩
theorem Bs.own {w : World} {h : Nat} {A : Option Addr} {c : Nat} {b : List Int} {now : List Nat} {wr : World} (s : Bs w h A c b now wr) (nw : List Nat) : Bs w h A c b nw (wr.setRow h (vals nw)) :=
  ⟨setRow_heap wr h _ _ 51 (0, 0) s.reg, (setRow_other wr h _ _ (by have := s.hh; omega)).trans s.res, s.txt.gb s.reg (vals_noU8 _) (gb_setRow wr h _), below_setRow s.bel (by have := s.hh; omega) _, s.hh⟩
set_option maxRecDepth 100000 in
set_option maxHeartbeats 4000000 in
theorem rsum_calls (w : World) (hrc : RCubes w) (A : Option Addr) (c : Nat) (l : List Int) (hT : Txt w (.slice A l.length c) l) (hln : l.length ≤ 900000) :
    Calls Tryd.prog 13 #[.slice A l.length c] w fun e w' => e = .returned (.agg (cellsB (hash l))) ∧ Below w.heap.size w w' := by
  have hby : Bytes l := by obtain ⟨_, _, _, _, _, h, _⟩ := hT; exact h
  obtain ⟨q, hq, hq2⟩ := fill_mod l hln
  have hq3 : q ≤ 15000 := by
    have := hq
    rw [List.length_append, fill_len _ (by omega)] at this
    omega
  have HASH := Aside0.mk (hash_ref l hby hln q hq)
  have HBY := Aside0.mk (show Bytes (l ++ fillB l.length) from fun x hx => (List.mem_append.1 hx).elim (hby x) ((fill_f l.length (by omega)).2.1 x))
  have HF := Aside0.mk (filled_f l hln)
  have HT := Aside0.mk hT
  have HRC := Aside0.mk hrc
  have h0w : 0 < w.heap.size := cell_lt (hrc 0 (by decide))
  obtain ⟨b, hb⟩ : ∃ b, b = l ++ fillB l.length := ⟨_, rfl⟩
  rw [← hb] at HASH HF HBY hq
  have HQ := Aside0.mk hq
  clear hT hrc hby hb hq
  go_enter Tryd.func13, Tryd.ntmps13
  go_wp2_with fail
  have hw1 := blk_new w (.cells zero32 24)
  have hw2 : ((w.alloc (.cells zero32 24)).alloc (.cells (vals rts) 51)).heap[w.heap.size + 1]? = some (.cells (vals rts) 51 (0, 0)) := blk_new_at _ _ _ (by rw [World.size_alloc])
  have hb2 := below_alloc (below_alloc (Below.refl w.heap.size w) (.cells zero32 24)) (.cells (vals rts) 51)
  have HB2 := Aside0.mk hb2
  have hw3 := blk_alloc hw1 (.cells (vals rts) 51)
  have HREG := Aside0.mk hw2
  have HRES := Aside0.mk hw3
  have HT2 := Aside0.mk (HT.out.below hb2)
  obtain ⟨W2, hW2⟩ : ∃ x, x = (w.alloc (.cells zero32 24)).alloc (.cells (vals rts) 51) := ⟨_, rfl⟩
  have hW3 : ((w.alloc (.cells #[.int .u8 0, .int .u8 0, .int .u8 0, .int .u8 0, .int .u8 0, .int .u8 0, .int .u8 0, .int .u8 0, .int .u8 0, .int .u8 0, .int .u8 0, .int .u8 0, .int .u8 0, .int .u8 0, .int .u8 0, .int .u8 0, .int .u8 0, .int .u8 0, .int .u8 0, .int .u8 0, .int .u8 0, .int .u8 0, .int .u8 0, .int .u8 0, .int .u8 0, .int .u8 0, .int .u8 0, .int .u8 0, .int .u8 0, .int .u8 0, .int .u8 0, .int .u8 0] 24)).alloc (.cells #[.int .u32 1779033703, .int .u32 3144134277, .int .u32 1013904242, .int .u32 2773480762, .int .u32 1359893119, .int .u32 2600822924, .int .u32 528734635, .int .u32 1541459225] 51)) = W2 := hW2.symm
  rw [hW3]
  rw [← hW2] at HB2 HREG HRES HT2
  clear hw1 hw2 hw3 hb2 hW2 hW3
  obtain ⟨A1, c1, he1, hr1, hr2, _, _⟩ := HT2.out
  simp only [Value.slice.injEq, true_and] at he1
  obtain ⟨rfl, rfl⟩ := he1
  refine (weftlineref04_filled.calls 74 A c l b W2 hr2 hr1 HF.out).mono ?_
  rintro e w3 ⟨v3, rfl, hv3, hb3⟩
  obtain ⟨A3, c3, rfl⟩ := Kd.R_slice hv3
  have HS3 := Aside0.mk (⟨(hb3.block _ (blk_lt HREG.out)).trans HREG.out, (hb3.block _ (blk_lt HRES.out)).trans HRES.out, Txt.of_RB hv3 HBY.out (by rw [HQ.out]; omega), HB2.out.trans (hb3.mono HB2.out.size), rfl⟩ : Bs w (w.heap.size + 1) A3 c3 b (hR rts b 0) w3)
  have HH := Aside0.mk (show ∃ h, h = w.heap.size + 1 from ⟨_, rfl⟩)
  obtain ⟨h, hh⟩ := HH.out
  rw [← hh] at HS3 ⊢
  have HHE := Aside0.mk hh
  clear HH hr1 hr2 hv3 hb3 HREG HRES HB2 HT2 HF HT hh
  go_wp2_with fail
  go_loopw [5] (fun i wr => ∃ k t : Nat, k ≤ q ∧ i = .int .i64 (t : Nat) ∧ Aside0 (t = 64 * k) ∧ Aside0 (Bs w h A3 c3 b (hR rts b k) wr)) (fun i _ => 64 * q - (intOf i).toNat)
  case atStart => exact ⟨0, 0, Nat.zero_le _, rfl, ⟨rfl⟩, HS3⟩
  case round =>
    obtain ⟨k, t, hk, rfl, HTK, HS⟩ := hrel
    by_cases hlt : k < q
    · have n1 : decide ((t : Int) < (b.length : Int)) = true := by simp; rw [HQ.out, HTK.out]; omega
      have n1' : decide (t < b.length) = true := by simp; rw [HQ.out, HTK.out]; omega
      obtain ⟨t2, ht2⟩ : ∃ t2, t2 = t + 64 := ⟨_, rfl⟩
      have n2 : wrap64 ((t : Int) + 64) = (t2 : Int) := by have := HTK.out; unfold wrap64; omega
      obtain ⟨A4, c4, hsl, ht4⟩ := mid_txt t t2 (by omega) (by rw [HQ.out, ht2, HTK.out]; omega) HS.out.txt
      rw [ht2, HTK.out, blkT_mid, ← HTK.out] at ht4
      rw [show t2 - t = 64 by omega] at hsl
      rw [show t + 64 - t = 64 by omega] at ht4
      have hbl : (blkT b k).length = 64 := by unfold blkT; rw [List.length_take, List.length_drop, HQ.out]; omega
      have HT4 := Aside0.mk ht4
      have HBL := Aside0.mk hbl
      have HT2 := Aside0.mk ht2
      have HWD := Aside0.mk (show Calls Tryd.prog 27 #[.slice A4 64 c4] wr (fun e w' => ∃ v, e = .returned v ∧ Kd.R (Kd.int .u32) 45 w' wr.heap.size (fun _ => True) v (ints (sched (blkT b k))) ∧ Below wr.heap.size wr w') from by
        obtain ⟨A9, c9, he, h1, h2, h3, h4⟩ := HT4.out
        simp only [Value.slice.injEq] at he
        obtain ⟨rfl, he2, rfl⟩ := he
        rw [he2]
        exact weftlineref04_words.calls 66 _ _ _ _ wr h2 h1 (words_f h3 HBL.out))
      clear ht4 hbl ht2
      go_wp2_with fail
      refine HWD.out.mono ?_
      rintro e w5 ⟨v5, rfl, hv5, hb5⟩
      obtain ⟨M, hM⟩ : ∃ M, M = sched (blkT b k) := ⟨_, rfl⟩
      rw [← hM] at hv5
      have hMl : (ints M).length = 64 := by rw [ints_len, hM, sched_len]
      obtain ⟨A5, c5, rfl⟩ := Kd.R_slice hv5
      obtain ⟨g5, rfl⟩ := rw_form hv5 (by intro e; rw [e] at hMl; cases hMl)
      obtain ⟨cur, hcur, hbase, hcells⟩ := rw_block hv5
      rw [hMl] at hcells ⊢
      have HM5 := Aside0.mk hcur
      have HMC := Aside0.mk (show ∀ j, j < 64 → cur[j]? = some (.int .u32 (mr M j : Nat)) from fun j hj => by
        have h9 := hcells j hj
        have h8 := ints_rd M j
        unfold rd at h8
        rw [Int.toNat_natCast] at h8
        rw [h9, h8])
      have HS5 := Aside0.mk (HS.out.below hb5)
      have hgh : h < g5 := by have := blk_lt HS.out.reg; omega
      obtain ⟨hk, hhk⟩ : ∃ hk, hk = hR rts b k := ⟨_, rfl⟩
      have HHK := Aside0.mk hhk
      have hkl : hk.length = 8 := by rw [hhk]; exact hR_len _ _ rfl k
      have hkg : Good hk := by rw [hhk]; exact hR_good _ _ good_rts k
      rw [← hhk] at HS5
      have HLD := Aside0.mk (load8 w5 h (vals hk) HS5.out.reg (vals_size8 _ hkl))
      have hra := blk_new w5 (.cells #[.int .u32 0, .int .u32 0, .int .u32 0, .int .u32 0, .int .u32 0, .int .u32 0, .int .u32 0, .int .u32 0] 51)
      have hst := store8 (w5.alloc (.cells #[.int .u32 0, .int .u32 0, .int .u32 0, .int .u32 0, .int .u32 0, .int .u32 0, .int .u32 0, .int .u32 0] 51)) w5.heap.size _ (vals hk) hra rfl (vals_size8 _ hkl) (vals_one _)
      have HST := Aside0.mk hst.1
      have HSA := Aside0.mk ((HS5.out.below (below_alloc (Below.refl _ _) (.cells #[.int .u32 0, .int .u32 0, .int .u32 0, .int .u32 0, .int .u32 0, .int .u32 0, .int .u32 0, .int .u32 0] 51))).put w5.heap.size [0, 0, 0, 0, 0, 0, 0, 0] hra (by have := blk_lt HS5.out.reg; omega) (by have := blk_lt HS5.out.reg; have := HHE.out; omega) (vals hk))
      have HR6 := Aside0.mk hst.2
      have HM6 := Aside0.mk ((setRow_other _ w5.heap.size g5 (vals hk) (by have := blk_lt hcur; omega)).trans (blk_alloc hcur (.cells #[.int .u32 0, .int .u32 0, .int .u32 0, .int .u32 0, .int .u32 0, .int .u32 0, .int .u32 0, .int .u32 0] 51)))
      have HKL := Aside0.mk hkl
      have HKG := Aside0.mk hkg
      have HMM := Aside0.mk hM
      have hgr : g5 < w5.heap.size := blk_lt hcur
      have hhr : h < w5.heap.size := blk_lt HS5.out.reg
      clear hv5 hb5 hcur hbase hcells hM hMl hhk hkl hkg hra hst HWD HM5 hsl n1 n1'
      go_wp2_with (first | ((with_reducible refine gate_dst (N := 27) rfl ?_); refine load_whole rfl rfl rfl HLD.out ?_) | (refine store_whole (s := .tmp 7) rfl rfl rfl rfl HST.out ?_))
      obtain ⟨r, hr⟩ : ∃ r, r = w5.heap.size := ⟨_, rfl⟩
      obtain ⟨W6, hW6⟩ : ∃ x, x = (w5.alloc (.cells #[.int .u32 0, .int .u32 0, .int .u32 0, .int .u32 0, .int .u32 0, .int .u32 0, .int .u32 0, .int .u32 0] 51)).setRow w5.heap.size (vals hk) := ⟨_, rfl⟩
      rw [← hW6] at HSA HR6 HM6 ⊢
      rw [← hr] at HR6 hgr hhr ⊢
      clear hW6 hr HLD HST HS5
      go_loopw [8] (fun i wr => ∃ j : Nat, j ≤ 64 ∧ i = .int .i64 (j : Nat) ∧ Aside0 (Bs w h A3 c3 b hk wr) ∧ Aside0 (wr.heap[r]? = some (.cells (vals (runR hk M j)) 51 (0, 0))) ∧ Aside0 (wr.heap[g5]? = some (.cells cur 45 (0, 0)))) (fun i _ => 64 - (intOf i).toNat)
      case atStart => exact ⟨0, Nat.zero_le _, rfl, HSA, HR6, HM6⟩
      case round =>
        obtain ⟨j, hj, rfl, HSJ, HRJ, HMJ⟩ := hrel
        by_cases hlj : j < 64
        · have m1 : decide ((j : Int) < 64) = true := by simp; omega
          have hji : (j : Int) < 64 := by omega
          obtain ⟨xs, hxs⟩ : ∃ xs, xs = runR hk M j := ⟨_, rfl⟩
          have hxl : xs.length = 8 := by rw [hxs]; exact runR_len _ _ HKL.out j
          have hxg : Good xs := by rw [hxs]; exact runR_good _ _ HKG.out j
          rw [← hxs] at HRJ
          have HXS := Aside0.mk hxs
          have HXL := Aside0.mk hxl
          have HF := Aside0.mk (show ∀ w', Below wr.heap.size wr w' → (loadVar 51 ⟨r, 0, none⟩).run Tryd.prog w' = .ok (.agg (vals xs)) w' ∧ w'.cell? ⟨0, j, none⟩ = some (.int .u32 (kub j : Nat)) ∧ w'.cell? ⟨g5, j, none⟩ = some (.int .u32 (mr M j : Nat)) from fun w' hB =>
            ⟨load8 w' r _ ((hB.block r (blk_lt HRJ.out)).trans HRJ.out) (vals_size8 _ hxl), pw_cell_below hB ((HRC.out.below HSJ.out.bel) j hlj), (blk_cell ((hB.block g5 (blk_lt HMJ.out)).trans HMJ.out) j).trans (HMC.out j hlj)⟩)
          have HSTEP := Aside0.mk (fun W => step_vals W xs hxl hxg (kub j) (mr M j))
          clear hxs hxl hxg
          go_wp2_with fail
          refine start_ (n := 10) (S := fun w' => Below wr.heap.size wr w' ∧ (loadVar 51 ⟨r, 0, none⟩).run Tryd.prog w' = .ok (.agg (vals xs)) w' ∧ w'.cell? ⟨0, j, none⟩ = some (.int .u32 (kub j : Nat)) ∧ w'.cell? ⟨g5, j, none⟩ = some (.int .u32 (mr M j : Nat))) (ds := [9]) #[false, false, false, false, false, false, false, false, false, false] (by kernel_rfl) rfl rfl ⟨below_drew1 (Below.refl _ _), (HF.out _ (below_drew1 (Below.refl _ _))).1, (HF.out _ (below_drew1 (Below.refl _ _))).2.1, (HF.out _ (below_drew1 (Below.refl _ _))).2.2⟩ (fun hHeld => ?_)
          refine pure_ (i := 1) (N := some 33) (v := ?_) (a' := ?_) #[false, true, false, false, false, false, false, false, false, false] rfl rfl (by kernel_rfl) (fun _ _ _ h => h) (Or.inl ⟨by rfl, ?_⟩) ?_ ?_
          rotate_left
          · intro w'
            go_simp
            with_reducible rfl
          rotate_left
          · simp only [Act.put, List.setIfInBounds_toArray, List.set_cons_zero, List.set_cons_succ, i64_w, i32_w]
            rfl
          refine pure_ (i := 2) (N := some 34) (v := ?_) (a' := ?_) #[false, true, true, false, false, false, false, false, false, false] rfl rfl (by kernel_rfl) (fun _ _ _ h => h) (Or.inl ⟨by rfl, ?_⟩) ?_ ?_
          rotate_left
          · intro w'
            go_simp
            with_reducible rfl
          rotate_left
          · simp only [Act.put, List.setIfInBounds_toArray, List.set_cons_zero, List.set_cons_succ, i64_w, i32_w]
            rfl
          refine pure_ (i := 4) (N := some 36) (v := ?_) (a' := ?_) #[false, true, true, false, true, false, false, false, false, false] rfl rfl (by kernel_rfl) (fun _ _ _ h => h) (Or.inl ⟨by rfl, ?_⟩) ?_ ?_
          rotate_left
          · intro w'
            go_simp
            with_reducible rfl
          rotate_left
          · simp only [Act.put, List.setIfInBounds_toArray, List.set_cons_zero, List.set_cons_succ, i64_w, i32_w]
            rfl
          refine pure_ (i := 5) (N := some 37) (v := ?_) (a' := ?_) #[false, true, true, false, true, true, false, false, false, false] rfl rfl (by kernel_rfl) (fun _ _ _ h => h) (Or.inl ⟨by rfl, ?_⟩) ?_ ?_
          rotate_left
          · intro w'
            go_simp
            with_reducible rfl
          rotate_left
          · simp only [Act.put, List.setIfInBounds_toArray, List.set_cons_zero, List.set_cons_succ, i64_w, i32_w]
            rfl
          refine pure_ (i := 6) (N := some 38) (v := ?_) (a' := ?_) #[false, true, true, false, true, true, true, false, false, false] rfl rfl (by kernel_rfl) (fun _ _ _ h => h) (Or.inl ⟨by rfl, ?_⟩) ?_ ?_
          rotate_left
          · intro w'
            go_simp
            with_reducible rfl
          rotate_left
          · simp only [Act.put, List.setIfInBounds_toArray, List.set_cons_zero, List.set_cons_succ, i64_w, i32_w]
            rfl
          refine take_ (i := 0) (N := some 32) (v := ?_) (a' := ?_) #[true, true, true, false, true, true, true, false, false, false] rfl rfl (by kernel_rfl) (fun _ _ _ h => h) (Or.inl ⟨by rfl, ?_⟩) hHeld ?_ ?_
          rotate_left
          · rintro w' ⟨s0, s1, s2, s3⟩
            refine (load_run rfl rfl s1).trans ?_
            with_reducible rfl
          rotate_left
          · simp only [Act.put, List.setIfInBounds_toArray, List.set_cons_zero, List.set_cons_succ, i64_w, i32_w]
            rfl
          refine take_ (i := 3) (N := some 35) (v := ?_) (a' := ?_) #[true, true, true, true, true, true, true, false, false, false] rfl rfl (by kernel_rfl) (fun _ _ _ h => h) (Or.inl ⟨by rfl, ?_⟩) hHeld ?_ ?_
          rotate_left
          · rintro w' ⟨s0, s1, s2, s3⟩
            go_simp
            with_reducible rfl
          rotate_left
          · simp only [Act.put, List.setIfInBounds_toArray, List.set_cons_zero, List.set_cons_succ, i64_w, i32_w]
            rfl
          refine take_ (i := 7) (N := some 39) (v := ?_) (a' := ?_) #[true, true, true, true, true, true, true, true, false, false] rfl rfl (by kernel_rfl) (fun _ _ _ h => h) (Or.inl ⟨by rfl, ?_⟩) hHeld ?_ ?_
          rotate_left
          · rintro w' ⟨s0, s1, s2, s3⟩
            go_simp
            with_reducible rfl
          rotate_left
          · simp only [Act.put, List.setIfInBounds_toArray, List.set_cons_zero, List.set_cons_succ, i64_w, i32_w]
            rfl
          refine one_ (i := 8) (N := some 40) #[true, true, true, true, true, true, true, true, true, false] rfl rfl (by kernel_rfl) (by decide) (fun K hK => ?_)
          refine goes_ Tryd.func28 (by kernel_rfl) rfl #[.agg (vals xs), .int .u32 (kub j : Nat), .int .u32 (mr M j : Nat)] (by rfl) rfl rfl (by first | rfl | (simp only [List.map_toArray, List.map_cons, List.map_nil]; rfl)) ?_
          with_reducible refine (HSTEP.out _).mono ?_
          rintro e w7 ⟨rfl, hb7⟩
          have hB7 : Below wr.heap.size wr w7 := hHeld.1.trans (hb7.mono hHeld.1.size)
          have hsw := store8 w7 r _ (vals (stepR xs (kub j) (mr M j))) ((hB7.block r (blk_lt HRJ.out)).trans HRJ.out) (vals_size8 _ HXL.out) rfl (vals_one _)
          refine ⟨_, rfl, ?_⟩
          refine hK.out _ _ ⟨hB7, (HF.out _ (hB7)).1, (HF.out _ (hB7)).2.1, (HF.out _ (hB7)).2.2⟩ (fun hHeld => ?_)
          clear hK K
          refine norm_ (a' := ?_) ?_ ?_
          rotate_left
          · show Act.put _ (some 40) _ = _
            simp only [Act.put, List.setIfInBounds_toArray, List.set_cons_zero, List.set_cons_succ, i64_w, i32_w]
            rfl
          refine last_ (i := 9) (N := none) #[true, true, true, true, true, true, true, true, true, true] rfl rfl (by kernel_rfl) (by decide) (fun K hK => ?_)
          refine skip_ (w1 := w7.setRow r (vals (stepR xs (kub j) (mr M j)))) (by rfl) rfl (store_run rfl rfl rfl hsw.1) ?_
          refine hK.out _ _ ?_
          clear hK K
          refine done_ (by kernel_rfl) ?_
          go_wp2_with fail
          go_roundw
          case rel =>
            refine ⟨j + 1, by omega, by go_num, ⟨(HSJ.out.below hB7).put r xs ((hB7.block r (blk_lt HRJ.out)).trans HRJ.out) (by omega) (by have := HHE.out; omega) _⟩, ⟨?_⟩, ⟨(setRow_other _ r g5 _ (by omega)).trans ((hB7.block g5 (blk_lt HMJ.out)).trans HMJ.out)⟩⟩
            rw [runR, ← HXS.out]
            exact hsw.2
          case measure => simp [intOf]; omega
        · obtain rfl : j = 64 := by omega
          obtain ⟨xs, hxs⟩ : ∃ xs, xs = runR hk M 64 := ⟨_, rfl⟩
          have hxl : xs.length = 8 := by rw [hxs]; exact runR_len _ _ HKL.out 64
          rw [← hxs] at HRJ
          have cp : ∀ i, i < 8 → wr.cell? ⟨h, i, none⟩ = some (.int .u32 (mr hk i : Nat)) := fun i hi => (blk_cell HSJ.out.reg i).trans (vals_at hk i (by rw [HKL.out]; exact hi))
          have cx : ∀ i, i < 8 → wr.cell? ⟨r, i, none⟩ = some (.int .u32 (mr xs i : Nat)) := fun i hi => (blk_cell HRJ.out i).trans (vals_at xs i (by rw [hxl]; exact hi))
          have cf : ∀ i, i < 8 → IntKind.u32.wrap (((mr hk i : Nat) : Int) + ((mr xs i : Nat) : Int)) = ((mr (addR hk xs) i : Nat) : Int) := fun i hi => by rw [wadd, addR_at _ _ _ hi]
          have p0 := cp 0 (by decide)
          have p1 := cp 1 (by decide)
          have p2 := cp 2 (by decide)
          have p3 := cp 3 (by decide)
          have p4 := cp 4 (by decide)
          have p5 := cp 5 (by decide)
          have p6 := cp 6 (by decide)
          have p7 := cp 7 (by decide)
          have x0 := cx 0 (by decide)
          have x1 := cx 1 (by decide)
          have x2 := cx 2 (by decide)
          have x3 := cx 3 (by decide)
          have x4 := cx 4 (by decide)
          have x5 := cx 5 (by decide)
          have x6 := cx 6 (by decide)
          have x7 := cx 7 (by decide)
          have f0 := cf 0 (by decide)
          have f1 := cf 1 (by decide)
          have f2 := cf 2 (by decide)
          have f3 := cf 3 (by decide)
          have f4 := cf 4 (by decide)
          have f5 := cf 5 (by decide)
          have f6 := cf 6 (by decide)
          have f7 := cf 7 (by decide)
          have hal : (addR hk xs).length = 8 := by simp [addR]
          have hst := store8 wr h _ (vals (addR hk xs)) HSJ.out.reg (vals_size8 _ HKL.out) (vals_size8 _ hal) (vals_one _)
          rw [vals_8 _ hal] at hst
          have HST := Aside0.mk hst.1
          have HOW := Aside0.mk (HSJ.out.own (addR hk xs))
          have hNX : hR rts b (k + 1) = addR hk xs := by rw [hR, hxs, HHK.out, HMM.out]
          have HNX := Aside0.mk hNX
          rw [vals_8 _ hal] at HOW
          clear cp cx cf hst hNX hxs hal
          go_wp2_with (first | (refine store_whole (s := .tmp 3) rfl rfl rfl rfl HST.out ?_))
          go_roundw
          case rel => exact ⟨k + 1, t2, by omega, by rw [n2], ⟨by have h1 := HT2.out; have h2 := HTK.out; clear n2; omega⟩, ⟨by rw [HNX.out]; exact HOW.out⟩⟩
          case measure =>
            rw [n2]
            have h1 := HT2.out
            have h2 := HTK.out
            clear n2 f0 f1 f2 f3 f4 f5 f6 f7
            show 64 * q - ((t2 : Int)).toNat < 64 * q - ((t : Int)).toNat
            rw [Int.toNat_natCast, Int.toNat_natCast]
            omega
    · obtain rfl : k = q := by omega
      have n1 : decide ((t : Int) < (b.length : Int)) = false := by simp; rw [HQ.out, HTK.out]; omega
      have n1' : decide (t < b.length) = false := by simp; rw [HQ.out, HTK.out]; omega
      obtain ⟨nw, hnw⟩ : ∃ nw, nw = hR rts b k := ⟨_, rfl⟩
      have hnl : nw.length = 8 := by rw [hnw]; exact hR_len _ _ rfl k
      have hng : Good nw := by rw [hnw]; exact hR_good _ _ good_rts k
      rw [← hnw] at HS
      rw [← hnw] at HASH
      have HNL := Aside0.mk hnl
      have HNG := Aside0.mk hng
      have hb7 := below_alloc (Below.refl wr.heap.size wr) (.cells zero32 24)
      have HSB := Aside0.mk (HS.out.below hb7)
      have HOB := Aside0.mk (blk_new wr (.cells zero32 24))
      obtain ⟨W7, hW7⟩ : ∃ x, x = wr.alloc (.cells zero32 24) := ⟨_, rfl⟩
      have HW7 := Aside0.mk (show wr.alloc (.cells #[.int .u8 0, .int .u8 0, .int .u8 0, .int .u8 0, .int .u8 0, .int .u8 0, .int .u8 0, .int .u8 0, .int .u8 0, .int .u8 0, .int .u8 0, .int .u8 0, .int .u8 0, .int .u8 0, .int .u8 0, .int .u8 0, .int .u8 0, .int .u8 0, .int .u8 0, .int .u8 0, .int .u8 0, .int .u8 0, .int .u8 0, .int .u8 0, .int .u8 0, .int .u8 0, .int .u8 0, .int .u8 0, .int .u8 0, .int .u8 0, .int .u8 0, .int .u8 0] 24) = W7 from hW7.symm)
      have hsz : W7.heap.size = wr.heap.size + 1 := by rw [hW7, World.size_alloc]
      rw [← hW7] at HSB HOB hb7
      have cp : ∀ i, i < 8 → wr.cell? ⟨h, i, none⟩ = some (.int .u32 (mr nw i : Nat)) := fun i hi => (blk_cell HS.out.reg i).trans (vals_at nw i (by rw [hnl]; exact hi))
      have p0 := cp 0 (by decide)
      have p1 := cp 1 (by decide)
      have p2 := cp 2 (by decide)
      have p3 := cp 3 (by decide)
      have p4 := cp 4 (by decide)
      have p5 := cp 5 (by decide)
      have p6 := cp 6 (by decide)
      have p7 := cp 7 (by decide)
      have hhw := blk_lt HS.out.reg
      have hVC := (vals_8 nw hnl).symm
      have hG8 := blk_new_at W7 (.cells (vals nw) 45) (wr.heap.size + 1) hsz.symm
      have hb8 := below_alloc (Below.refl W7.heap.size W7) (.cells (vals nw) 45)
      have HBW := Aside0.mk (HSB.out.bel.trans (hb8.mono HSB.out.bel.size))
      have HRS := Aside0.mk ((hb8.block _ (blk_lt HSB.out.res)).trans HSB.out.res)
      have HO8 := Aside0.mk ((hb8.block _ (blk_lt HOB.out)).trans HOB.out)
      have HG8 := Aside0.mk hG8
      obtain ⟨W8, hW8⟩ : ∃ x, x = W7.alloc (.cells (vals nw) 45) := ⟨_, rfl⟩
      rw [← hW8] at HBW HRS HO8 HG8
      rw [← hVC] at hW8
      have HW8 := Aside0.mk hW8.symm
      obtain ⟨o, hoe⟩ : ∃ o, o = wr.heap.size := ⟨_, rfl⟩
      have HOE := Aside0.mk hoe
      have how : w.heap.size < o := by have := HHE.out; omega
      rw [← hoe] at HO8 HG8
      obtain ⟨g8, hg8⟩ : ∃ g, g = o + 1 := ⟨_, rfl⟩
      have HGE := Aside0.mk hg8
      rw [← hg8] at HG8
      have hog : o ≠ g8 := by omega
      clear hW7 hnw hnl hng cp hVC hG8 hb8 hb7 hW8 hsz HSB HOB hoe hg8
      go_wp2_with fail
      rw [HW7.out, HW8.out, ← HOE.out, ← HGE.out]
      have HOBS := Aside0.mk (⟨HBW.out, HRS.out, HO8.out, HG8.out⟩ : Ob w o g8 nw 0 W8)
      clear HBW HRS HO8 HG8
      go_loopw [100] (fun i wr' => ∃ j : Nat, j ≤ 8 ∧ i = .int .i64 (j : Nat) ∧ Aside0 (Ob w o g8 nw (4 * j) wr')) (fun i _ => 8 - (intOf i).toNat)
      case atStart => exact ⟨0, Nat.zero_le _, rfl, HOBS⟩
      case round =>
        obtain ⟨j, hj, rfl, HO⟩ := hrel
        by_cases hlj : j < 8
        · have m1 : decide ((j : Int) < 8) = true := by simp; omega
          have hji : (j : Int) < 8 := by omega
          have cx := (blk_cell HO.out.wds j).trans (vals_at nw j (by rw [HNL.out]; exact hlj))
          obtain ⟨x, hx⟩ : ∃ x, x = mr nw j := ⟨_, rfl⟩
          have hxl : x < 4294967296 := by rw [hx]; exact HNG.out j
          rw [← hx] at cx
          have v0 : ((x : Int) / 16777216) = ((outB nw (4 * j) : Nat) : Int) := by
            have h := out_byte nw j 0 x hx (by decide)
            rw [← show 4 * j + 0 = 4 * j from rfl, ← h]
            show (x : Int) / 16777216 = (x : Int) / 16777216 % 256
            omega
          have v1 : ((x : Int) / 65536 % 256) = ((outB nw (4 * j + 1) : Nat) : Int) := out_byte nw j 1 x hx (by decide)
          have v2 : ((x : Int) / 256 % 256) = ((outB nw (4 * j + 2) : Nat) : Int) := out_byte nw j 2 x hx (by decide)
          have v3 : ((x : Int) % 256) = ((outB nw (4 * j + 3) : Nat) : Int) := by
            have h := out_byte nw j 3 x hx (by decide)
            rw [← h]
            show (x : Int) % 256 = (x : Int) / 1 % 256
            rw [Int.ediv_one]
          obtain ⟨W1, hs1, ho1⟩ := HO.out.put (by omega) how hog _ v0
          obtain ⟨W2, hs2, ho2⟩ := ho1.put (by omega) how hog _ v1
          obtain ⟨W3, hs3, ho3⟩ := ho2.put (by omega) how hog _ v2
          obtain ⟨W4, hs4, ho4⟩ := ho3.put (by omega) how hog _ v3
          have HS1 := Aside0.mk hs1
          have HS2 := Aside0.mk hs2
          have HS3 := Aside0.mk hs3
          have HS4 := Aside0.mk hs4
          have HO4 := Aside0.mk ho4
          clear hs1 hs2 hs3 hs4 ho1 ho2 ho3 ho4 v0 v1 v2 v3 hx
          go_wp2_with (first | (refine store_at (s := .tmp 110) rfl rfl rfl rfl HS1.out ?_) | (refine store_at (s := .tmp 118) rfl rfl rfl rfl HS2.out ?_) | (refine store_at (s := .tmp 126) rfl rfl rfl rfl HS3.out ?_) | (refine store_at (s := .tmp 133) rfl rfl rfl rfl HS4.out ?_))
          go_roundw
          case rel => exact ⟨j + 1, by omega, by go_num, ⟨by have h := HO4.out; rwa [show 4 * j + 3 + 1 = 4 * (j + 1) by omega] at h⟩⟩
          case measure => simp [intOf]; omega
        · obtain rfl : j = 8 := by omega
          have hst := store24 wr w.heap.size (dgN nw 32) (dgN_len _ _) HO.out.res rfl
          have HST := Aside0.mk hst
          have HLD := Aside0.mk (show (loadVar 24 ⟨o, 0, none⟩).run Tryd.prog wr = .ok (.agg (cellsB (dgN nw 32))) wr from run_loadVar_row wr o 24 24 _ (0, 0) _ HO.out.out Tryd.underlying24 rfl (by rw [info24, cellsB_size, dgN_len]))
          clear hst
          go_wp2_with (first | ((with_reducible refine gate_dst (N := 135) rfl ?_); refine load_whole rfl rfl rfl HLD.out ?_) | (refine store_whole (s := .tmp 2) rfl rfl rfl rfl HST.out.1 ?_))
          refine bodyPost_ret (results_cell_row rfl _ _ w.heap.size 24 (cellsB (dgN nw 32)) (0, 0) _ rfl HST.out.2 Tryd.underlying24 rfl (by rw [info24, cellsB_size, dgN_len])) rfl ?_
          exact ⟨by rw [HASH.out], below_setRow HO.out.bel (Nat.le_refl _) _⟩
end Go.Proofs.YtjmgeelblodcgaaDoor.Sx
/- EsPh -/
namespace Go.Proofs.YtjmgeelblodcgaaDoor.Sx
open Go.RowKit Go.Proofs.YtjmgeelblodcgaaDoorW.PrintWords Go.Proofs.YtjmgeelblodcgaaDoorW.PrintLast Go.Proofs.YtjmgeelblodcgaaDoorW.PrintMore Go.Proofs.YtjmgeelblodcgaaDoor.Sh Go.Proofs.YtjmgeelblodcgaaDoor.PAll
set_option linter.unusedVariables false
set_option linter.unusedSimpArgs false
theorem glob_cube0 : Tryd.prog.globalNamed "weftline/weftlineref04.cube" = some 0 := by kernel_rfl
theorem rcubes_of {W : World} {rest : List (String × DataW Unit)} (h : laidMet Tryd.prog (("weftline/weftlineref04.cube", Rows.laid_weftline_weftlineref04_cube) :: rest) W) : RCubes W := by
  have ht : Lib.TabIs Tryd.prog W "weftline/weftlineref04.cube" .u32 (cub.map Int.ofNat) :=
    Lib.tabIs_of_head (P := Tryd.prog) (t := 56) (e := 45) (n := 64) (rest := rest) glob_cube0 (by kernel_rfl) Tryd.underlying56 Tryd.underlying45 (by kernel_rfl) (by kernel_rfl) h
  intro k hk
  rw [ht.cell glob_cube0 k (by rw [List.length_map]; exact hk)]
  have : ∀ j : Fin 64, (cub.map Int.ofNat).getD j.1 0 = (kub j.1 : Int) := by decide
  rw [this ⟨k, hk⟩]
theorem tabs3_of {W : World} (h : laidMetH Tryd.prog [("weftline/weftlineref04.cube", Rows.laid_weftline_weftlineref04_cube), ("weftline/sha.roots", Rows.laid_weftline_sha_roots), ("weftline/sha.cubes", Rows.laid_weftline_sha_cubes)] W) : RCubes W ∧ Roots W ∧ Cubes W := by
  rw [MakeChecks.laidMetH_plain _ _ _ (by kernel_rfl)] at h
  exact ⟨rcubes_of h, roots_of h.tail, cubes_of h.tail.tail⟩
theorem txt_str {W : World} {A : Option Addr} {n c : Nat} {l : List Int} (h : Txt W (.slice A n c) l) : (convert 22 9 (.slice A n c)).run Tryd.prog W = .ok (.string (strOfNums l)) W := by
  obtain ⟨A9, c9, he, _, h9, _⟩ := h
  simp only [Value.slice.injEq] at he
  obtain ⟨rfl, rfl, rfl⟩ := he
  exact Kd.C_string Tryd.underlying22 Tryd.underlying5 Tryd.underlying9 h9
theorem txt_C {W : World} {A : Option Addr} {n c : Nat} {l : List Int} (h : Txt W (.slice A n c) l) : Kd.C (Kd.int .u8) W A n l ∧ n = l.length ∧ n ≤ c := by
  obtain ⟨A9, c9, he, h8, h9, _⟩ := h
  simp only [Value.slice.injEq] at he
  obtain ⟨rfl, rfl, rfl⟩ := he
  exact ⟨h9, rfl, h8⟩
end Go.Proofs.YtjmgeelblodcgaaDoor.Sx
/- EsPl -/
namespace Go.Proofs.YtjmgeelblodcgaaDoor.Sx
open Go.RowKit Go.Proofs.YtjmgeelblodcgaaDoorW.PrintWords Go.Proofs.YtjmgeelblodcgaaDoorW.PrintLast Go.Proofs.YtjmgeelblodcgaaDoorW.PrintMore Go.Proofs.YtjmgeelblodcgaaDoor.Sh
set_option linter.unusedVariables false
set_option linter.unusedSimpArgs false
theorem conv_run {P : Program} {o : Oper} {a : Act} {W : World} {t u : TypeId} {s : Operand} {v r : Value} (ho : o.op = .convert t u s) (hs : a.eval s = v) (hl : (convert t u v).run P W = .ok r W) : (execOp a.eval o).run P W = .ok (.value r) W := by
  unfold execOp
  simp only [ho, hs, Sem.run_bind, Sem.run_pure, Result.andThen_ok, hl]
end Go.Proofs.YtjmgeelblodcgaaDoor.Sx
/- PLesx0 -/
namespace Go.Proofs.YtjmgeelblodcgaaDoor.PLes
open Go.RowKit Go.Proofs.YtjmgeelblodcgaaDoorW.PrintWords Go.Proofs.YtjmgeelblodcgaaDoorW.PrintLast Go.Proofs.YtjmgeelblodcgaaDoorW.PrintMore
attribute [local go_sem] max2_int min2_int max_two min_two max_three min_three max_four min_four   -- for this text's walks alone
attribute [local go_sem] Go.Proofs.YtjmgeelblodcgaaDoor.Aid.isSome_setCell
set_option linter.unusedVariables false
set_option linter.unusedSimpArgs false
def errW : Option Int → Value
  | none => .nilIface
  | some c => .iface 0 (.int .i64 c)
theorem errW_none : errW none = .nilIface := rfl
theorem errW_some (c : Int) : errW (some c) = .iface 0 (.int .i64 c) := rfl


end Go.Proofs.YtjmgeelblodcgaaDoor.PLes
/- PLesx1 -/
namespace Go.Proofs.YtjmgeelblodcgaaDoor.PLes
open Go.RowKit Go.Proofs.YtjmgeelblodcgaaDoorW.PrintWords Go.Proofs.YtjmgeelblodcgaaDoorW.PrintLast Go.Proofs.YtjmgeelblodcgaaDoorW.PrintMore
attribute [local go_sem] max2_int min2_int max_two min_two max_three min_three max_four min_four   -- for this text's walks alone
attribute [local go_sem] Go.Proofs.YtjmgeelblodcgaaDoor.Aid.isSome_setCell
set_option linter.unusedVariables false
set_option linter.unusedSimpArgs false
mutual
def weftlineref05_Less.l0 : Nat → List Int → List Int → Int → Option (Bool)
  | 0, _, _, _ => none
  | k + 1, x0, x1, x5 => if x5 < (x0.length : Int) then (weftlineref05_Less.j1 k x0 x1 x5 (decide (x5 < (x1.length : Int)))) else (weftlineref05_Less.j1 k x0 x1 x5 false)
def weftlineref05_Less.j1 : Nat → List Int → List Int → Int → Bool → Option (Bool)
  | 0, _, _, _, _ => none
  | k + 1, x0, x1, x5, x15 => if x15 = true then (if 0 ≤ x5 then (if x5 < (x0.length : Int) then (if x5 < (x1.length : Int) then (if (rd x0 x5) = (rd x1 x5) then (weftlineref05_Less.l0 k x0 x1 (wrap64 (x5 + 1))) else (some (decide ((rd x0 x5) < (rd x1 x5))))) else (none)) else (none)) else (none)) else (some (decide ((x0.length : Int) < (x1.length : Int))))
end
def weftlineref05_Less.f (k : Nat) (l0 : List Int) (l1 : List Int) : Option (Bool) := weftlineref05_Less.l0 k l0 l1 0
set_option maxHeartbeats 8000000 in
set_option maxRecDepth 100000 in
theorem weftlineref05_Less.calls (k : Nat) (A0 : Option Addr) (c0 : Nat) (l0 : List Int) (A1 : Option Addr) (c1 : Nat) (l1 : List Int) (r : Bool) (w : World) (hr0 : Kd.C (Kd.int .u8) w A0 l0.length l0) (hc0 : l0.length ≤ c0) (hr1 : Kd.C (Kd.int .u8) w A1 l1.length l1) (hc1 : l1.length ≤ c1) (h : weftlineref05_Less.f k l0 l1 = some r) :
    Calls Tryd.prog 38 #[.slice A0 l0.length c0, .slice A1 l1.length c1] w fun e w' => e = .returned (.bool r) ∧ Drawn0 w w' := by
  have HR0 := Aside0.mk hr0
  have HC0 := Aside0.mk hc0
  clear hr0 hc0
  have HR1 := Aside0.mk hr1
  have HC1 := Aside0.mk hc1
  clear hr1 hc1
  have H : (weftlineref05_Less.l0 k l0 l1 0) = some r := h
  clear h
  have H' := Aside0.mk H
  clear H
  go_enter Tryd.func38, Tryd.ntmps38
  go_wp2
  repeat (go_quiet (fail); try go_wp2)
  go_loopg [5] k (fun kq v5 w' => ∃ (x5_1 : Int), v5 = .int .i64 x5_1 ∧ Aside0 (weftlineref05_Less.l0 kq l0 l1 x5_1 = some r) ∧ Aside0 (kq ≤ k) ∧ Drawn0 w w')
  case atStart => exact ⟨(0), (by first | rfl | (simp; done) | (simp [*]; done)), H', ⟨Nat.le_refl _⟩, by repeat (first | exact Drawn0.refl _ | apply Drawn0.step)⟩
  case round =>
    clear H'
    try clear c1
    try clear p2
    obtain ⟨x5_1, rfl, HA, HK1, ⟨m1, rfl⟩⟩ := hrel
    cases gk with
    | zero => exact absurd HA.out (by simp [weftlineref05_Less.l0])
    | succ k1 =>
      have H := HA.out
      clear HA
      simp only [weftlineref05_Less.l0] at H
      have HC3 := Aside0.mk H
      clear H
      go_upto_region 2 with (fail)
      repeat (go_quiet (fail); go_upto_region 2 with (fail))
      go_cut [15] (fun v15 wc => ∃ (kq : Nat) (x15_2 : Bool), v15 = .bool x15_2 ∧ Aside0 (weftlineref05_Less.j1 kq l0 l1 x5_1 x15_2 = some r) ∧ Aside0 (kq ≤ k1) ∧ Drawn0 w wc)
      case first =>
        have H := HC3.out
        clear HC3
        by_cases c4 : x5_1 < (l0.length : Int)
        · rw [if_pos c4] at H
          have c4b0 : decide (x5_1 < (l0.length : Int)) = true := decide_eq_true c4
          clear c4
          (first | rw [c4b0] | (simp only [i64_w, i32_w]; rw [c4b0]) | skip)
          have H' := Aside0.mk H
          clear H
          go_wp2
          repeat (go_quiet (fail); try go_wp2)
          go_meet
          case rel => exact ⟨_, (decide (x5_1 < (l1.length : Int))), (by first | rfl | (simp; done) | (simp [*]; done)), H', ⟨by have := HK1.out; first | omega | exact Nat.le_refl _⟩, by repeat (first | exact Drawn0.refl _ | apply Drawn0.step)⟩
        · rw [if_neg c4] at H
          have c4b0 : decide (x5_1 < (l0.length : Int)) = false := decide_eq_false c4
          clear c4
          (first | rw [c4b0] | (simp only [i64_w, i32_w]; rw [c4b0]) | skip)
          have H' := Aside0.mk H
          clear H
          go_wp2
          repeat (go_quiet (fail); try go_wp2)
          go_meet
          case rel => exact ⟨_, (false), (by first | rfl | (simp; done) | (simp [*]; done)), H', ⟨by have := HK1.out; first | omega | exact Nat.le_refl _⟩, by repeat (first | exact Drawn0.refl _ | apply Drawn0.step)⟩
      case rest =>
        clear HC3
        try clear c1
        try clear p2
        try clear c3
        try clear c4
        try clear c4b0
        try clear p2
        obtain ⟨kq, x15_2, rfl, HA, HJ2, ⟨mc2, rfl⟩⟩ := hcut
        cases kq with
        | zero => exact absurd HA.out (by simp [weftlineref05_Less.j1])
        | succ kj2 =>
          have H := HA.out
          clear HA
          simp only [weftlineref05_Less.j1] at H
          by_cases c5 : x15_2 = true
          · subst c5
            have H1 : (if 0 ≤ x5_1 then (if x5_1 < (l0.length : Int) then (if x5_1 < (l1.length : Int) then (if (rd l0 x5_1) = (rd l1 x5_1) then (weftlineref05_Less.l0 kj2 l0 l1 (wrap64 (x5_1 + 1))) else (some (decide ((rd l0 x5_1) < (rd l1 x5_1))))) else (none)) else (none)) else (none)) = some r := by rw [if_pos rfl] at H; exact H
            clear H
            have H := H1
            clear H1
            by_cases c6 : 0 ≤ x5_1
            · rw [if_pos c6] at H
              have c6b0 : decide (0 ≤ x5_1) = true := decide_eq_true c6
              clear c6
              by_cases c7 : x5_1 < (l0.length : Int)
              · rw [if_pos c7] at H
                have c7b0 : decide (x5_1 < (l0.length : Int)) = true := decide_eq_true c7
                clear c7
                by_cases c8 : x5_1 < (l1.length : Int)
                · rw [if_pos c8] at H
                  have c8b0 : decide (x5_1 < (l1.length : Int)) = true := decide_eq_true c8
                  clear c8
                  by_cases c9 : (rd l0 x5_1) = (rd l1 x5_1)
                  · rw [if_pos c9] at H
                    have c9b0 : ((rd l0 x5_1) == (rd l1 x5_1)) = true := beq_iff_eq.mpr c9
                    have c9b1 : ((rd l0 x5_1) != (rd l1 x5_1)) = false := bne_eq_false_iff_eq.mpr c9
                    clear c9
                    have H' := Aside0.mk H
                    clear H
                    have p101 : 0 ≤ (x5_1 : Int) := of_decide_eq_true (by first | (with_reducible assumption) | assumption)
                    have q101 : x5_1 < (l0.length : Int) := of_decide_eq_true (by first | (with_reducible assumption) | assumption)
                    obtain ⟨ad101, e101, hx101_0⟩ := Kd.at_int HR0.out x5_1 p101 q101
                    cases e101
                    replace p101 := eq_true p101
                    replace q101 := eq_true q101
                    have p102 : 0 ≤ (x5_1 : Int) := of_decide_eq_true (by first | (with_reducible assumption) | assumption)
                    have q102 : x5_1 < (l1.length : Int) := of_decide_eq_true (by first | (with_reducible assumption) | assumption)
                    obtain ⟨ad102, e102, hx102_0⟩ := Kd.at_int HR1.out x5_1 p102 q102
                    cases e102
                    replace p102 := eq_true p102
                    replace q102 := eq_true q102
                    go_wp2
                    repeat (go_quiet (fail); try go_wp2)
                    go_roundg kj2
                    case measure => have := HK1.out; have := HJ2.out; omega
                    case rel => exact ⟨(wrap64 (x5_1 + 1)), (by first | rfl | (simp; done) | (simp [*]; done)), H', ⟨by have := HK1.out; have := HJ2.out; omega⟩, by repeat (first | exact Drawn0.refl _ | apply Drawn0.step)⟩
                  · rw [if_neg c9] at H
                    have c9b0 : ((rd l0 x5_1) == (rd l1 x5_1)) = false := beq_eq_false_iff_ne.mpr c9
                    have c9b1 : ((rd l0 x5_1) != (rd l1 x5_1)) = true := bne_iff_ne.mpr c9
                    obtain rfl := Option.some.inj H
                    have p101 : 0 ≤ (x5_1 : Int) := of_decide_eq_true (by first | (with_reducible assumption) | assumption)
                    have q101 : x5_1 < (l0.length : Int) := of_decide_eq_true (by first | (with_reducible assumption) | assumption)
                    obtain ⟨ad101, e101, hx101_0⟩ := Kd.at_int HR0.out x5_1 p101 q101
                    cases e101
                    replace p101 := eq_true p101
                    replace q101 := eq_true q101
                    have p102 : 0 ≤ (x5_1 : Int) := of_decide_eq_true (by first | (with_reducible assumption) | assumption)
                    have q102 : x5_1 < (l1.length : Int) := of_decide_eq_true (by first | (with_reducible assumption) | assumption)
                    obtain ⟨ad102, e102, hx102_0⟩ := Kd.at_int HR1.out x5_1 p102 q102
                    cases e102
                    replace p102 := eq_true p102
                    replace q102 := eq_true q102
                    have p103 : 0 ≤ (x5_1 : Int) := of_decide_eq_true (by first | (with_reducible assumption) | assumption)
                    have q103 : x5_1 < (l0.length : Int) := of_decide_eq_true (by first | (with_reducible assumption) | assumption)
                    obtain ⟨ad103, e103, hx103_0⟩ := Kd.at_int HR0.out x5_1 p103 q103
                    obtain rfl : ad101 = ad103 := (by injection e103)
                    replace p103 := eq_true p103
                    replace q103 := eq_true q103
                    have p104 : 0 ≤ (x5_1 : Int) := of_decide_eq_true (by first | (with_reducible assumption) | assumption)
                    have q104 : x5_1 < (l1.length : Int) := of_decide_eq_true (by first | (with_reducible assumption) | assumption)
                    obtain ⟨ad104, e104, hx104_0⟩ := Kd.at_int HR1.out x5_1 p104 q104
                    obtain rfl : ad102 = ad104 := (by injection e104)
                    replace p104 := eq_true p104
                    replace q104 := eq_true q104
                    go_wp2
                    repeat (go_quiet (fail); try go_wp2)
                    go_ret
                    exact ⟨by first | rfl | (simp; done) | (simp [*]; done), by repeat (first | exact Drawn0.refl _ | apply Drawn0.step)⟩
                · rw [if_neg c8] at H
                  exact absurd H (by simp)
              · rw [if_neg c7] at H
                exact absurd H (by simp)
            · rw [if_neg c6] at H
              exact absurd H (by simp)
          · replace c5 := Bool.eq_false_iff.mpr c5
            subst c5
            have H1 : (some (decide ((l0.length : Int) < (l1.length : Int)))) = some r := by rw [if_neg (show ¬ (false = true) by decide)] at H; exact H
            clear H
            have H := H1
            clear H1
            obtain rfl := Option.some.inj H
            go_wp2
            repeat (go_quiet (fail); try go_wp2)
            go_ret
            exact ⟨by first | rfl | (simp; done) | (simp [*]; done), by repeat (first | exact Drawn0.refl _ | apply Drawn0.step)⟩

end Go.Proofs.YtjmgeelblodcgaaDoor.PLes
/- EsPm -/
namespace Go.Proofs.YtjmgeelblodcgaaDoor.Sx
open Go.RowKit Go.Proofs.YtjmgeelblodcgaaDoorW.PrintWords Go.Proofs.YtjmgeelblodcgaaDoorW.PrintLast Go.Proofs.YtjmgeelblodcgaaDoorW.PrintMore Go.Proofs.YtjmgeelblodcgaaDoor.Sh Go.Proofs.YtjmgeelblodcgaaDoor.PLes
set_option linter.unusedVariables false
set_option linter.unusedSimpArgs false
/-- Texts compared. -/
def lexI : List Int → List Int → Int
  | [], [] => 0
  | [], _ :: _ => -1
  | _ :: _, [] => 1
  | x :: a, y :: b => if x < y then -1 else if y < x then 1 else lexI a b
theorem lexI_eq : ∀ a b, lexI a b = 0 → a = b
  | [], [], _ => rfl
  | [], _ :: _, h => by simp [lexI] at h
  | _ :: _, [], h => by simp [lexI] at h
  | x :: a, y :: b, h => by
    rw [lexI] at h
    by_cases h1 : x < y
    · rw [if_pos h1] at h; omega
    · rw [if_neg h1] at h
      by_cases h2 : y < x
      · rw [if_pos h2] at h; omega
      · rw [if_neg h2] at h
        rw [lexI_eq a b h, show x = y by omega]
theorem lexI_swap : ∀ a b, lexI b a = - lexI a b
  | [], [] => rfl
  | [], _ :: _ => rfl
  | _ :: _, [] => rfl
  | x :: a, y :: b => by
    rw [lexI, lexI]
    by_cases h1 : x < y
    · rw [if_pos h1, if_neg (by omega), if_pos h1]; omega
    · by_cases h2 : y < x
      · rw [if_pos h2, if_neg h1, if_pos h2]
      · rw [if_neg h2, if_neg h1, if_neg h1, if_neg h2, lexI_swap a b]
theorem u8_lt (x y : Int) (hx : 0 ≤ x ∧ x < 256) (hy : 0 ≤ y ∧ y < 256) : (x.toNat.toUInt8 < y.toNat.toUInt8) ↔ x < y := by
  rw [UInt8.lt_iff_toNat_lt]
  show (UInt8.ofNat x.toNat).toNat < (UInt8.ofNat y.toNat).toNat ↔ _
  rw [UInt8.toNat_ofNat', UInt8.toNat_ofNat']
  omega
theorem cmp_lex : ∀ {a b : List Int}, Bytes a → Bytes b → Lib.compareBytes (Lib.bytesOf a) (Lib.bytesOf b) = lexI a b
  | [], [], _, _ => rfl
  | [], _ :: _, _, _ => rfl
  | _ :: _, [], _, _ => rfl
  | x :: a, y :: b, ha, hb => by
    have ih := cmp_lex (a := a) (b := b) (fun z hz => ha z (by simp [hz])) (fun z hz => hb z (by simp [hz]))
    have hx := ha x (by simp)
    have hy := hb y (by simp)
    show (if x.toNat.toUInt8 < y.toNat.toUInt8 then (-1 : Int) else if y.toNat.toUInt8 < x.toNat.toUInt8 then 1 else Lib.compareBytes (Lib.bytesOf a) (Lib.bytesOf b)) = lexI (x :: a) (y :: b)
    rw [ih, lexI]
    simp only [u8_lt x y hx hy, u8_lt y x hy hx]
theorem less_l0 {a b : List Int} (ha : a.length ≤ 1000000) : ∀ n i, a.length ≤ i + n → i ≤ a.length → i ≤ b.length → weftlineref05_Less.l0 (2 * n + 2) a b (i : Int) = some (decide (lexI (a.drop i) (b.drop i) < 0))
  | n, i, h, h1, h2 => by
    rw [show 2 * n + 2 = (2 * n + 1) + 1 by omega, weftlineref05_Less.l0]
    by_cases c1 : i < a.length
    · rw [if_pos (show (i : Int) < (a.length : Int) by omega), weftlineref05_Less.j1]
      by_cases c2 : i < b.length
      · have d2 : decide ((i : Int) < (b.length : Int)) = true := by simp; omega
        rw [if_pos d2, if_pos (show (0 : Int) ≤ (i : Int) by omega), if_pos (show (i : Int) < (a.length : Int) by omega), if_pos (show (i : Int) < (b.length : Int) by omega)]
        rw [List.drop_eq_getElem_cons c1, List.drop_eq_getElem_cons c2, lexI]
        have ra : rd a (i : Int) = a[i] := by unfold rd; rw [Int.toNat_natCast, List.getD_eq_getElem?_getD, List.getElem?_eq_getElem c1, Option.getD_some]
        have rb : rd b (i : Int) = b[i] := by unfold rd; rw [Int.toNat_natCast, List.getD_eq_getElem?_getD, List.getElem?_eq_getElem c2, Option.getD_some]
        rw [ra, rb]
        by_cases e : a[i] = b[i]
        · rw [if_pos e, if_neg (by omega), if_neg (by omega), w64 _ (by omega) (by omega)]
          cases n with
          | zero => omega
          | succ n =>
            have ih := less_l0 (a := a) (b := b) ha n (i + 1) (by omega) (by omega) (by omega)
            rw [show 2 * (n + 1) = 2 * n + 2 by omega]
            exact ih
        · rw [if_neg e]
          by_cases h3 : a[i] < b[i]
          · rw [if_pos h3, decide_eq_true h3]; rfl
          · rw [if_neg h3, if_pos (by omega), decide_eq_false h3]; rfl
      · have d2 : decide ((i : Int) < (b.length : Int)) = false := by simp; omega
        rw [if_neg (by rw [d2]; decide), List.drop_eq_getElem_cons c1, List.drop_eq_nil_of_le (show b.length ≤ i by omega), lexI, decide_eq_false (by omega)]
        rfl
    · rw [if_neg (show ¬ (i : Int) < (a.length : Int) by omega), weftlineref05_Less.j1, if_neg (by decide), List.drop_eq_nil_of_le (show a.length ≤ i by omega)]
      by_cases c2 : i < b.length
      · rw [List.drop_eq_getElem_cons c2, lexI, decide_eq_true (by omega)]
        rfl
      · rw [List.drop_eq_nil_of_le (show b.length ≤ i by omega), lexI, decide_eq_false (by omega)]
        rfl
theorem less_f {a b : List Int} (ha : a.length ≤ 1000000) : weftlineref05_Less.f (2 * a.length + 2) a b = some (decide (lexI a b < 0)) := by
  unfold weftlineref05_Less.f
  exact less_l0 ha a.length 0 (by omega) (by omega) (by omega)
theorem bytes_run {W : World} {A : Option Addr} {n c : Nat} {l : List Int} (h : Txt W (.slice A n c) l) : (Extern.Bytes.bytesOf (.slice A n c)).run Tryd.prog W = .ok ⟨(Lib.bytesOf l).toArray⟩ W := by
  obtain ⟨hC, hn, _⟩ := txt_C h
  subst hn
  cases A with
  | none =>
    have : l = [] := by
      rcases Nat.eq_zero_or_pos l.length with h0 | h0
      · exact List.eq_nil_of_length_eq_zero h0
      · obtain ⟨ad, he, _⟩ := h.cells 0 h0
        cases he
    subst this
    rfl
  | some ad =>
    have hl := Lib.run_loadBytesX (P := Tryd.prog) W l ad .empty (fun j x hj => by
      have hjl : j < l.length := (List.getElem?_eq_some_iff.1 hj).1
      obtain ⟨ad', he, hc⟩ := h.cells j hjl
      cases he
      rw [hc]
      unfold rd
      rw [Int.toNat_natCast, List.getD_eq_getElem?_getD, hj]
      rfl)
    show (Extern.Bytes.loadBytes ad l.length .empty).run Tryd.prog W = _
    rw [hl]
    congr 1
    apply ByteArray.ext
    show (#[] : Array UInt8) ++ (Lib.bytesOf l).toArray = (Lib.bytesOf l).toArray
    simp
set_option maxRecDepth 100000 in
theorem compare_calls (W : World) (A : Option Addr) (c : Nat) (a : List Int) (ha : Txt W (.slice A a.length c) a) (B : Option Addr) (d : Nat) (b : List Int) (hb : Txt W (.slice B b.length d) b) :
    Calls Tryd.prog 37 #[.slice A a.length c, .slice B b.length d] W fun e w' => e = .returned (.int .i64 (lexI a b)) ∧ w' = W := by
  have a_by : Bytes a := by obtain ⟨_, _, _, _, _, h, _⟩ := ha; exact h
  have b_by : Bytes b := by obtain ⟨_, _, _, _, _, h, _⟩ := hb; exact h
  have hcall : (callFunc 46 #[.slice A a.length c, .slice B b.length d]).run Tryd.prog W = .ok (.value (.int .i64 (lexI a b))) W := by
    rw [run_callFunc_extern Tryd.func46 (by kernel_rfl) (by kernel_rfl) (by kernel_rfl) (e := Extern.BytealgCompare.compare) (by kernel_rfl)]
    show Result.andThen (Sem.run Tryd.prog (do pure (goInt (Extern.BytealgCompare.cmp (← Extern.Bytes.bytesOf (.slice A a.length c)) (← Extern.Bytes.bytesOf (.slice B b.length d))))) W) _ = _
    simp only [Sem.run_bind, Sem.run_pure, bytes_run ha, bytes_run hb, Result.andThen]
    rw [Lib.cmp_eq, cmp_lex a_by b_by]
    rfl
  clear ha hb
  go_enter Tryd.func37, Tryd.ntmps37
  go_wp2_with fail
  go_ret
  exact ⟨rfl, rfl⟩
end Go.Proofs.YtjmgeelblodcgaaDoor.Sx
