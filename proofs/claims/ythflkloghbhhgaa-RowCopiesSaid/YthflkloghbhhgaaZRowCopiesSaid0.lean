/- RowCopiesSaid: part 0 of its proof: printed functions and their contracts, plain laws. -/
import Derived.WalkKit
import Derived.Test.YthflkloghbhhgaaProg
import Derived.Below
import Derived.Deep.Draws
import Derived.Deep.AppendLies
import Derived.Maps.AppendAt
import Derived.OwnWalk
import Derived.Laws.BytesArg
import Derived.Laws.MakeOwn
import Derived.Laws.OwnMore
import Derived.Deep.OwnRows
import Derived.Tactics
import Derived.Lib.ConvBytes
import Derived.Laws.Slices
import Derived.KernelRfl
import Derived.RowKit3
import Derived.Deep.LoopGhost
import Derived.Deep.QuietTactic
import Derived.BigQuiet
import Derived.WideLaws
import Derived.Deep.DeepCutAuto
import Derived.Deep.CutBlock
import Derived.Deep.RegionHeld3
import Derived.Laws.Rows
import Derived.Lib.AppendStr
import Derived.ArgAppend
import Derived.Laws.IdiomCopy
import Derived.OrdersHeld
import Derived.Laws.BitsLemmas
import Derived.RowKit
import Derived.Test.YthflkloghbhhgaaWWords
import Derived.Test.YthflkloghbhhgaaWLast
import Derived.Test.YthflkloghbhhgaaWTab
import Derived.Test.YthflkloghbhhgaaWFour
import Derived.Test.YthflkloghbhhgaaWQPut
import Derived.Test.YthflkloghbhhgaaWApart
import Derived.Test.YthflkloghbhhgaaWArr
import Derived.Test.YthflkloghbhhgaaWZeros
import Derived.Test.YthflkloghbhhgaaWFoot
import Derived.Test.YthflkloghbhhgaaWKept
import Derived.Test.YthflkloghbhhgaaWShare
import Derived.Test.YthflkloghbhhgaaWN
import Derived.Test.YthflkloghbhhgaaWFootNe
import Derived.Test.YthflkloghbhhgaaWAt
import Derived.Test.YthflkloghbhhgaaWEqStruct
import Derived.Test.YthflkloghbhhgaaWRepsOne
import Derived.Test.YthflkloghbhhgaaWInv
import Derived.Test.YthflkloghbhhgaaWInvWords
import Derived.Test.YthflkloghbhhgaaWGuard
import Derived.Test.YthflkloghbhhgaaWNEv
import Derived.Test.YthflkloghbhhgaaWMore
import Derived.WalkSpells
import Derived.WalkLawsBesides
import Derived.Outline
import Derived.StillTailTactics
import Derived.Deep.RegionWith
import Derived.RegionTactic
import Derived.LoopTactic
import Derived.RangeFuncNested
import Derived.RangeFuncBound
import Derived.RangeFuncCalls
import Derived.RangeFuncLeaves
import Derived.RangeFuncBox
import Derived.Shelf.Abstract
import Derived.OwnWalkIn
import Derived.TacticsInMore
import Derived.LoopNIn
import Derived.LoopIn
import Derived.Sort.QuietIn
/- Aid -/
namespace Go.Proofs.Ythflkloghbhhgaa.Aid
open Go.RowKit
/-- A store turns no cell into none, and none into one. -/
theorem isSome_setCell (w : World) (p q : Addr) (u : Value) : ((w.setCell p u).cell? q).isSome = (w.cell? q).isSome := by
  by_cases h : p = q
  · subst h
    cases hc : w.cell? p with
    | some v => rw [World.cell?_setCell_same w p u hc]; rfl
    | none =>
      unfold World.cell? at hc
      simp only [World.setCell, World.cell?, Array.getElem?_modify, if_true]
      cases hh : w.heap[p.block]? with
      | none => simp
      | some x =>
        rw [hh] at hc
        cases x with
        | cells c t f =>
          simp only at hc
          cases hs : p.spot with
          | some _ => simp
          | none =>
            simp only [hs, Option.isSome_none, Bool.false_eq_true, if_false] at hc
            have hz : c.size ≤ p.off := by
              rcases Nat.lt_or_ge p.off c.size with h' | h'
              · rw [Array.getElem?_eq_getElem h'] at hc; cases hc
              · exact h'
            simp [hz]
        | _ => simp
  · rw [World.cell?_setCell_other w p q u h]
end Go.Proofs.Ythflkloghbhhgaa.Aid
/- PAllx0 -/
namespace Go.Proofs.Ythflkloghbhhgaa.PAll
open Go.RowKit Go.Proofs.YthflkloghbhhgaaW.PrintWords Go.Proofs.YthflkloghbhhgaaW.PrintLast Go.Proofs.YthflkloghbhhgaaW.PrintMore
attribute [local go_sem] max2_int min2_int max_two min_two max_three min_three max_four min_four   -- for this text's walks alone
attribute [local go_sem] Go.Proofs.Ythflkloghbhhgaa.Aid.isSome_setCell
set_option linter.unusedVariables false
set_option linter.unusedSimpArgs false
def errW : Option Int → Value
  | none => .nilIface
  | some c => .iface 0 (.int .i64 c)
theorem errW_none : errW none = .nilIface := rfl
theorem errW_some (c : Int) : errW (some c) = .iface 0 (.int .i64 c) := rfl

theorem info3 : (Try.prog.info? 3).map (fun i => (i.zero, i.size, i.bytes)) = some (some (.int .i64 0), 1, 8) := by kernel_rfl
end Go.Proofs.Ythflkloghbhhgaa.PAll
/- Sh -/
namespace Go.Proofs.Ythflkloghbhhgaa.Sh
open Go.RowKit Go.Proofs.YthflkloghbhhgaaW.PrintWords Go.Proofs.YthflkloghbhhgaaW.PrintLast Go.Proofs.YthflkloghbhhgaaW.PrintMore
theorem q1 {w : World} {g : Nat} {o : Obj} (h : w.heap[g]? = some o) (n : Nat) : (w.drewN n).heap[g]? = some o := blk_drewN h n
theorem q2 {w : World} {g : Nat} {o : Obj} (h : w.heap[g]? = some o) : w.drew.heap[g]? = some o := blk_drew h
theorem q3 {w : World} {g : Nat} {o : Obj} (h : w.heap[g]? = some o) (o' : Obj) : (w.alloc o').heap[g]? = some o := blk_alloc h o'
theorem b1 {w W : World} (h : Below w.heap.size w W) (o : Obj) : Below w.heap.size w (W.alloc o) := below_alloc h o
theorem b2 {B : Nat} {w W : World} (h : Below B w W) (n : Nat) : Below B w (W.drewN n) := pw_below_drewN h n
theorem b3 {B : Nat} {w W : World} (h : Below B w W) : Below B w W.drew := below_drew1 h
theorem A0 {p : Prop} (h : p) : Aside0 p := Aside0.mk h
theorem cc2 {w : World} {g : Nat} {t : TypeId} {x0 x1 : Value} (h : w.heap[g]? = some (.cells #[x0, x1] t (0, 0))) : w.cell? ⟨g, 0, none⟩ = some x0 ∧ w.cell? ⟨g, 1, none⟩ = some x1 ∧ w.frozen? ⟨g, 0, none⟩ = false ∧ w.frozen? ⟨g, 1, none⟩ = false :=
  ⟨(blk_cell h 0).trans rfl, (blk_cell h 1).trans rfl, blk_frozen h 0, blk_frozen h 1⟩
theorem cc3 {w : World} {g : Nat} {t : TypeId} {x0 x1 x2 : Value} (h : w.heap[g]? = some (.cells #[x0, x1, x2] t (0, 0))) : w.cell? ⟨g, 0, none⟩ = some x0 ∧ w.cell? ⟨g, 1, none⟩ = some x1 ∧ w.cell? ⟨g, 2, none⟩ = some x2 ∧ w.frozen? ⟨g, 0, none⟩ = false ∧ w.frozen? ⟨g, 1, none⟩ = false ∧ w.frozen? ⟨g, 2, none⟩ = false :=
  ⟨(blk_cell h 0).trans rfl, (blk_cell h 1).trans rfl, (blk_cell h 2).trans rfl, blk_frozen h 0, blk_frozen h 1, blk_frozen h 2⟩
end Go.Proofs.Ythflkloghbhhgaa.Sh
/- PAllx4 -/
namespace Go.Proofs.Ythflkloghbhhgaa.PAll
open Go.RowKit Go.Proofs.YthflkloghbhhgaaW.PrintWords Go.Proofs.YthflkloghbhhgaaW.PrintLast Go.Proofs.YthflkloghbhhgaaW.PrintMore Go.Proofs.Ythflkloghbhhgaa.Sh
attribute [local go_sem] max2_int min2_int max_two min_two max_three min_three max_four min_four   -- for this text's walks alone
attribute [local go_sem] Go.Proofs.Ythflkloghbhhgaa.Aid.isSome_setCell
set_option linter.unusedVariables false
set_option linter.unusedSimpArgs false
def serial_Step_uint32.f (a0 : Int) (a1 : Int) : Option (Int) := some ((a0 + ((a1) % 4294967296)) % 4294967296)
set_option maxHeartbeats 8000000 in
set_option maxRecDepth 100000 in
theorem serial_Step_uint32.calls (a0 : Int) (a1 : Int) (r : Int) (w : World) (h : serial_Step_uint32.f a0 a1 = some r) :
    Calls Try.prog 31 #[.int .u32 a0, .int .i64 a1] w fun e w' => e = .returned (.int .u32 r) ∧ Drawn0 w w' := by
  have H : (some ((a0 + ((a1) % 4294967296)) % 4294967296)) = some r := h
  clear h
  obtain rfl := Option.some.inj H
  go_enter Try.func31, Try.ntmps31
  go_wp2
  go_ret
  exact ⟨by first | rfl | (simp; done) | (simp [*]; done), by repeat (first | exact Drawn0.refl _ | apply Drawn0.step)⟩

end Go.Proofs.Ythflkloghbhhgaa.PAll
/- PAllx15 -/
namespace Go.Proofs.Ythflkloghbhhgaa.PAll
open Go.RowKit Go.Proofs.YthflkloghbhhgaaW.PrintWords Go.Proofs.YthflkloghbhhgaaW.PrintLast Go.Proofs.YthflkloghbhhgaaW.PrintMore Go.Proofs.Ythflkloghbhhgaa.Sh
attribute [local go_sem] max2_int min2_int max_two min_two max_three min_three max_four min_four   -- for this text's walks alone
attribute [local go_sem] Go.Proofs.Ythflkloghbhhgaa.Aid.isSome_setCell
set_option linter.unusedVariables false
set_option linter.unusedSimpArgs false
def serial_Far_uint32.f (a0 : Int) (a1 : Int) : Option (Int) := some ((a1 - a0) % 4294967296)
set_option maxHeartbeats 8000000 in
set_option maxRecDepth 100000 in
theorem serial_Far_uint32.calls (a0 : Int) (a1 : Int) (r : Int) (w : World) (h : serial_Far_uint32.f a0 a1 = some r) :
    Calls Try.prog 32 #[.int .u32 a0, .int .u32 a1] w fun e w' => e = .returned (.int .i64 r) ∧ Drawn0 w w' := by
  have H : (some ((a1 - a0) % 4294967296)) = some r := h
  clear h
  obtain rfl := Option.some.inj H
  go_enter Try.func32, Try.ntmps32
  go_wp2
  go_ret
  exact ⟨by first | rfl | (simp; done) | (simp [*]; done), by repeat (first | exact Drawn0.refl _ | apply Drawn0.step)⟩

end Go.Proofs.Ythflkloghbhhgaa.PAll
/- PAllx16 -/
namespace Go.Proofs.Ythflkloghbhhgaa.PAll
open Go.RowKit Go.Proofs.YthflkloghbhhgaaW.PrintWords Go.Proofs.YthflkloghbhhgaaW.PrintLast Go.Proofs.YthflkloghbhhgaaW.PrintMore Go.Proofs.Ythflkloghbhhgaa.Sh
attribute [local go_sem] max2_int min2_int max_two min_two max_three min_three max_four min_four   -- for this text's walks alone
attribute [local go_sem] Go.Proofs.Ythflkloghbhhgaa.Aid.isSome_setCell
set_option linter.unusedVariables false
set_option linter.unusedSimpArgs false
def serial_Within_uint32.f (a0 : Int) (a1 : Int) (a2 : Int) : Option (Bool) := (serial_Far_uint32.f a1 a0).bind fun t101 => (some (decide (t101 < a2)))
set_option maxHeartbeats 8000000 in
set_option maxRecDepth 100000 in
theorem serial_Within_uint32.calls (a0 : Int) (a1 : Int) (a2 : Int) (r : Bool) (w : World) (h : serial_Within_uint32.f a0 a1 a2 = some r) :
    Calls Try.prog 42 #[.int .u32 a0, .int .u32 a1, .int .i64 a2] w fun e w' => e = .returned (.bool r) ∧ Drawn0 w w' := by
  have H : ((serial_Far_uint32.f a1 a0).bind fun t101 => (some (decide (t101 < a2)))) = some r := h
  clear h
  replace H := Option.bind_eq_some_iff.mp H
  obtain ⟨t101, A40, H⟩ := H
  replace H : (some (decide (t101 < a2))) = some r := H
  have A4 := Aside0.mk A40
  clear A40
  obtain rfl := Option.some.inj H
  go_enter Try.func42, Try.ntmps42
  go_wp2_with (first | ((with_reducible refine gate_callee (f := 32) rfl ?_); refine goesL_ (some 9) rfl rfl Try.func32 (by kernel_rfl) rfl #[.int .u32 a1, .int .u32 a0] rfl (by (try simp only [List.map_toArray, List.map_cons, List.map_nil]); first | done | rfl | (simp only [List.length_drop, List.length_take]; rfl)) ?_; (with_reducible refine (serial_Far_uint32.calls a1 a0 t101 _ A4.out).mono ?_); rintro e w' ⟨rfl, ⟨nd, rfl⟩⟩; refine ⟨_, rfl, ?_⟩))
  go_ret
  exact ⟨by first | rfl | (simp; done) | (simp [*]; done), by repeat (first | exact Drawn0.refl _ | apply Drawn0.step)⟩

end Go.Proofs.Ythflkloghbhhgaa.PAll
/- RowA -/
namespace Go.Proofs.Ythflkloghbhhgaa.Rw
open Go.RowKit Go.Proofs.YthflkloghbhhgaaW.PrintWords Go.Proofs.Ythflkloghbhhgaa.Sh
set_option linter.unusedVariables false
set_option linter.unusedSimpArgs false
variable {p n c : Nat} {A : Option Addr} {fr mo : Int} {w : World}
theorem len_any (hb : w.heap[p]? = some (.cells #[.int .u32 fr, .int .i64 mo, .slice A n c] 65 (0, 0))) :
    Calls Try.prog 11 #[.pointer (some ⟨p, 0, none⟩)] w fun e w' => e = .returned (.int .i64 n) ∧ w = w' := by
  have hc := cc3 hb
  clear hb
  go_enter Try.func11, Try.ntmps11
  go_wp2
  go_ret
  exact ⟨rfl, rfl⟩
theorem from_any (hb : w.heap[p]? = some (.cells #[.int .u32 fr, .int .i64 mo, .slice A n c] 65 (0, 0))) :
    Calls Try.prog 16 #[.pointer (some ⟨p, 0, none⟩)] w fun e w' => e = .returned (.int .u32 fr) ∧ w = w' := by
  have hc := cc3 hb
  clear hb
  go_enter Try.func16, Try.ntmps16
  go_wp2
  go_ret
  exact ⟨rfl, rfl⟩
theorem free_any (hb : w.heap[p]? = some (.cells #[.int .u32 fr, .int .i64 mo, .slice A n c] 65 (0, 0))) :
    Calls Try.prog 25 #[.pointer (some ⟨p, 0, none⟩)] w fun e w' => e = .returned (.int .i64 (wrap64 (mo - n))) ∧ ∃ m, w' = w.drewN m := by
  have hc := cc3 hb
  clear hb
  go_enter Try.func25, Try.ntmps25
  go_wp2
  go_quiet (fail)
  go_wp2
  go_ret
  exact ⟨rfl, _, rfl⟩
end Go.Proofs.Ythflkloghbhhgaa.Rw
/- RowB -/
namespace Go.Proofs.Ythflkloghbhhgaa.Rw
open Go.RowKit Go.Proofs.YthflkloghbhhgaaW.PrintWords Go.Proofs.Ythflkloghbhhgaa.Sh Go.Proofs.Ythflkloghbhhgaa.PAll
set_option linter.unusedVariables false
set_option linter.unusedSimpArgs false
/-- A row of whole numbers at block p: its beginning, its bound, the slice's value, the things. -/
def RowAt (w : World) (B p : Nat) (fr mo : Int) (v : Value) (xs : List Int) : Prop :=
  B ≤ p ∧ w.heap[p]? = some (.cells #[.int .u32 fr, .int .i64 mo, v] 65 (0, 0)) ∧ (Kd.int .i64).Q 3 w B (fun _ => True) v xs
/-- What a method of the row may have turned. -/
structure Chg (w w' : World) (p : Nat) (v : Value) : Prop where
  os : w'.os = w.os
  tape : w'.tape = w.tape
  output : w'.output = w.output
  size : w.heap.size ≤ w'.heap.size
  block : ∀ k, k < w.heap.size → k ≠ p → v.ownBlock ≠ some k → w'.heap[k]? = w.heap[k]?
theorem Chg.refl (w : World) (p : Nat) (v : Value) : Chg w w p v := ⟨rfl, rfl, rfl, Nat.le_refl _, fun _ _ _ _ => rfl⟩
theorem Chg.drewN (w : World) (p m : Nat) (v : Value) : Chg w (w.drewN m) p v := ⟨rfl, rfl, rfl, Nat.le_refl _, fun _ _ _ _ => rfl⟩

section
variable {w w' : World} {B p : Nat} {fr mo : Int} {v : Value} {xs : List Int}
theorem RowAt.drewN (h : RowAt w B p fr mo v xs) (m : Nat) : RowAt (w.drewN m) B p fr mo v xs := ⟨h.1, h.2.1, Kd.Q_drewN h.2.2 m⟩
theorem RowAt.ne (h : RowAt w B p fr mo v xs) : v.ownBlock ≠ some p := fun he => Kd.Q_ne h.2.2 h.2.1 (by decide) he.symm
theorem RowAt.lt (h : RowAt w B p fr mo v xs) : p < w.heap.size := blk_lt h.2.1
theorem RowAt.slice (h : RowAt w B p fr mo v xs) : ∃ A c, v = .slice A xs.length c ∧ xs.length ≤ c ∧ (Kd.int .i64).C w A xs.length xs := Kd.Q_reads h.2.2
/-- Elsewhere may have turned what likes. -/
theorem RowAt.keep (h : RowAt w B p fr mo v xs) (hp : w'.heap[p]? = w.heap[p]?) (hv : ∀ k, v.ownBlock = some k → w'.heap[k]? = w.heap[k]?) : RowAt w' B p fr mo v xs := by
  obtain ⟨h1, h2, h3⟩ := h
  refine ⟨h1, hp.trans h2, ?_⟩
  obtain ⟨a, inner, hq, hr⟩ := h3
  exact ⟨a, inner, q_move hq hv, hr.1, fun m x hm => hr.2 m x hm⟩
end
variable {p : Nat} {fr mo : Int} {v : Value} {xs : List Int} {w : World} {B : Nat}
theorem len_row (h : RowAt w B p fr mo v xs) : Calls Try.prog 11 #[.pointer (some ⟨p, 0, none⟩)] w fun e w' => e = .returned (.int .i64 xs.length) ∧ w = w' := by
  obtain ⟨A, c, rfl, _⟩ := h.slice
  exact len_any h.2.1
theorem from_row (h : RowAt w B p fr mo v xs) : Calls Try.prog 16 #[.pointer (some ⟨p, 0, none⟩)] w fun e w' => e = .returned (.int .u32 fr) ∧ w = w' := by
  obtain ⟨A, c, rfl, _⟩ := h.slice
  exact from_any h.2.1
theorem free_row (h : RowAt w B p fr mo v xs) : Calls Try.prog 25 #[.pointer (some ⟨p, 0, none⟩)] w fun e w' => e = .returned (.int .i64 (wrap64 (mo - xs.length))) ∧ ∃ m, w' = w.drewN m := by
  obtain ⟨A, c, rfl, _⟩ := h.slice
  exact free_any h.2.1
theorem next_row (h : RowAt w B p fr mo v xs) : Calls Try.prog 18 #[.pointer (some ⟨p, 0, none⟩)] w fun e w' => e = .returned (.int .u32 ((fr + (xs.length : Int)) % 4294967296)) ∧ ∃ m, w' = w.drewN m := by
  have H := Aside0.mk h
  clear h
  go_enter Try.func18, Try.ntmps18
  go_wp2_with (first | (go_at_call 16; refine (from_row (B := B) (by first | exact H.out | exact H.out.drewN _)).mono ?_; rintro e w' ⟨rfl, rfl⟩) | (go_at_call 11; refine (len_row (B := B) (by first | exact H.out | exact H.out.drewN _)).mono ?_; rintro e w' ⟨rfl, rfl⟩) | (go_at_call 31; refine (serial_Step_uint32.calls _ _ _ _ rfl).mono ?_; rintro e w' ⟨rfl, ⟨nd, rfl⟩⟩))
  go_ret
  exact ⟨rfl, _, rfl⟩
theorem place_yes (h : RowAt w B p fr mo v xs) (n : Int) (hi : (n - fr) % 4294967296 < xs.length) : Calls Try.prog 29 #[.pointer (some ⟨p, 0, none⟩), .int .u32 n] w fun e w' => e = .returned (.int .i64 ((n - fr) % 4294967296)) ∧ ∃ m, w' = w.drewN m := by
  have H := Aside0.mk h
  clear h
  have H1 := Aside0.mk (show serial_Within_uint32.f n fr xs.length = some true by unfold serial_Within_uint32.f serial_Far_uint32.f; simp [hi])
  clear hi
  go_enter Try.func29, Try.ntmps29
  go_wp2_with (first | (go_at_call 16; refine (from_row (B := B) (by first | exact H.out | exact H.out.drewN _)).mono ?_; rintro e w' ⟨rfl, rfl⟩) | (go_at_call 11; refine (len_row (B := B) (by first | exact H.out | exact H.out.drewN _)).mono ?_; rintro e w' ⟨rfl, rfl⟩) | (go_at_call 42; refine (serial_Within_uint32.calls _ _ _ _ _ H1.out).mono ?_; rintro e w' ⟨rfl, ⟨nd, rfl⟩⟩) | (go_at_call 32; refine (serial_Far_uint32.calls _ _ _ _ rfl).mono ?_; rintro e w' ⟨rfl, ⟨nd, rfl⟩⟩))
  go_ret
  exact ⟨rfl, _, rfl⟩
theorem place_no (h : RowAt w B p fr mo v xs) (n : Int) (hi : ¬ (n - fr) % 4294967296 < xs.length) : Calls Try.prog 29 #[.pointer (some ⟨p, 0, none⟩), .int .u32 n] w fun e w' => e = .returned (.int .i64 (-1)) ∧ ∃ m, w' = w.drewN m := by
  have H := Aside0.mk h
  clear h
  have H1 := Aside0.mk (show serial_Within_uint32.f n fr xs.length = some false by unfold serial_Within_uint32.f serial_Far_uint32.f; simp; omega)
  clear hi
  go_enter Try.func29, Try.ntmps29
  go_wp2_with (first | (go_at_call 16; refine (from_row (B := B) (by first | exact H.out | exact H.out.drewN _)).mono ?_; rintro e w' ⟨rfl, rfl⟩) | (go_at_call 11; refine (len_row (B := B) (by first | exact H.out | exact H.out.drewN _)).mono ?_; rintro e w' ⟨rfl, rfl⟩) | (go_at_call 42; refine (serial_Within_uint32.calls _ _ _ _ _ H1.out).mono ?_; rintro e w' ⟨rfl, ⟨nd, rfl⟩⟩))
  go_ret
  exact ⟨rfl, _, rfl⟩
end Go.Proofs.Ythflkloghbhhgaa.Rw
/- RowC -/
namespace Go.Proofs.Ythflkloghbhhgaa.Rw
open Go.RowKit Go.Proofs.YthflkloghbhhgaaW.PrintWords Go.Proofs.Ythflkloghbhhgaa.Sh Go.Proofs.Ythflkloghbhhgaa.PAll
set_option linter.unusedVariables false
set_option linter.unusedSimpArgs false
variable {p : Nat} {fr mo : Int} {v : Value} {xs : List Int} {w : World} {B : Nat}
theorem info3 : (Try.prog.info? 3).map (fun i => (i.zero, i.size, i.bytes)) = some (some (.int .i64 0), 1, 8) := by kernel_rfl

theorem at_yes (h : RowAt w B p fr mo v xs) (n : Int) (i : Nat) (hi : (n - fr) % 4294967296 = i) (hl : i < xs.length) (y : Int) (hy : xs.getD i 0 = y) :
    Calls Try.prog 14 #[.pointer (some ⟨p, 0, none⟩), .int .u32 n] w fun e w' => e = .returned (.tuple #[.int .i64 y, .bool true]) ∧ ∃ m, w' = w.drewN m := by
  obtain ⟨A, c, rfl, hc, hC⟩ := h.slice
  have H := Aside0.mk h
  have hb := cc3 h.2.1
  obtain ⟨ad, rfl, hcell⟩ := Kd.at_int hC i (by omega) (by omega)
  have e1 : rd xs (i : Int) = y := by unfold rd; rw [Int.toNat_natCast, hy]
  rw [e1, Int.toNat_natCast] at hcell
  clear h hC e1 hy
  have H1 := Aside0.mk (show Calls Try.prog 29 #[.pointer (some ⟨p, 0, none⟩), .int .u32 n] w fun e w' => e = .returned (.int .i64 i) ∧ ∃ m, w' = w.drewN m by
    have := place_yes H.out n (by omega)
    rwa [hi] at this)
  have hn : ((i : Int) < 0) = False := by simp
  have hl' : (i : Int) < (xs.length : Int) := by omega
  clear hi
  go_enter Try.func14, Try.ntmps14
  go_wp2_with (first | (go_at_call 29; refine H1.out.mono ?_; rintro e w' ⟨rfl, nd, rfl⟩))
  go_ret2
  exact ⟨rfl, _, rfl⟩
theorem at_no (h : RowAt w B p fr mo v xs) (n : Int) (hi : ¬ (n - fr) % 4294967296 < xs.length) :
    Calls Try.prog 14 #[.pointer (some ⟨p, 0, none⟩), .int .u32 n] w fun e w' => e = .returned (.tuple #[.int .i64 0, .bool false]) ∧ ∃ m, w' = w.drewN m := by
  have H1 := Aside0.mk (place_no h n hi)
  clear h hi
  go_enter Try.func14, Try.ntmps14
  go_wp2_with (first | (go_at_call 29; refine H1.out.mono ?_; rintro e w' ⟨rfl, nd, rfl⟩))
  go_ret2
  exact ⟨rfl, _, rfl⟩
theorem push_full (h : RowAt w B p fr mo v xs) (x : Int) (hl : (xs.length : Int) = mo) :
    Calls Try.prog 10 #[.pointer (some ⟨p, 0, none⟩), .int .i64 x] w fun e w' => e = .returned (.tuple #[.int .u32 0, .iface 38 (.int .i64 3)]) ∧ ∃ m, w' = w.drewN m := by
  have H1 := Aside0.mk (show Calls Try.prog 25 #[.pointer (some ⟨p, 0, none⟩)] w fun e w' => e = .returned (.int .i64 0) ∧ ∃ m, w' = w.drewN m by
    have := free_row h
    rwa [show wrap64 (mo - xs.length) = 0 by rw [← hl]; unfold wrap64; omega] at this)
  clear h hl
  go_enter Try.func10, Try.ntmps10
  go_wp2_with (first | (go_at_call 25; refine H1.out.mono ?_; rintro e w' ⟨rfl, nd, rfl⟩))
  go_ret2
  exact ⟨rfl, _, rfl⟩
/-- What a store of the slice's new value leaves. -/
theorem row_put {w1 : World} {v1 : Value} {ys : List Int} {fr' : Int} (hb1 : w1.heap[p]? = some (.cells #[.int .u32 fr', .int .i64 mo, v] 65 (0, 0))) (hB : B ≤ p) (hQ : (Kd.int .i64).Q 3 w1 B (fun _ => True) v1 ys) :
    RowAt (w1.setCell ⟨p, 2, none⟩ v1) B p fr' mo v1 ys :=
  ⟨hB, blk_put hb1 2 v1 rfl, Kd.Q_set hQ hb1 (by decide) 2 v1⟩
theorem chg_put {w1 : World} {u : Value} {j : Nat} (hg : w.grownBy w1 v.ownBlock) : Chg w (w1.setCell ⟨p, j, none⟩ u) p v :=
  ⟨hg.os, hg.tape, hg.output, by simpa using hg.size, fun k hk hp hv => (Below.heap_setCell w1 _ u k hp).trans (hg.block k hk (fun he => hv he.symm))⟩

theorem q_form {w1 : World} {v1 : Value} {ys : List Int} {ok : Nat → Prop} (h : (Kd.int .i64).Q 3 w1 B ok v1 ys) : ∃ A n c, v1 = .slice A n c := by
  obtain ⟨A, c, hv, _⟩ := Kd.Q_slice h
  exact ⟨A, _, c, hv⟩
theorem grown_drewN {w1 : World} {m : Nat} {r : Option Nat} (h : (w.drewN m).grownBy w1 r) : w.grownBy w1 r := ⟨h.os, h.tape, h.output, h.size, h.block⟩
set_option maxRecDepth 100000 in
theorem push_row (h : RowAt w B p fr mo v xs) (x : Int) (hl : (xs.length : Int) < mo) (hm : mo ≤ 1024) :
    Calls Try.prog 10 #[.pointer (some ⟨p, 0, none⟩), .int .i64 x] w fun e w' => e = .returned (.tuple #[.int .u32 ((fr + (xs.length : Int)) % 4294967296), .nilIface]) ∧
      ∃ v', RowAt w' B p fr mo v' (xs ++ [x]) ∧ Chg w w' p v ∧ (v'.ownBlock = v.ownBlock ∨ ∃ b, v'.ownBlock = some b ∧ w.heap.size ≤ b) := by
  obtain ⟨f, hf⟩ : ∃ f, f = wrap64 (mo - xs.length) := ⟨_, rfl⟩
  have hf0 : (f == 0) = false := by rw [beq_eq_false_iff_ne, hf]; unfold wrap64; omega
  have H1 := Aside0.mk (show Calls Try.prog 25 #[.pointer (some ⟨p, 0, none⟩)] w fun e w' => e = .returned (.int .i64 f) ∧ ∃ m, w' = w.drewN m by
    have := free_row h
    rwa [← hf] at this)
  clear hf
  have H := Aside0.mk h
  have hb := cc3 h.2.1
  have HL := Aside0.mk (show (xs.length + 1) * 8 ≤ 140737488355328 by omega)
  clear h hl hm
  go_enter Try.func10, Try.ntmps10
  go_wp2_with (first | (go_at_call 25; refine H1.out.mono ?_; rintro e w' ⟨rfl, nd, rfl⟩) | (go_at_call 18; refine (next_row (B := B) (by first | exact H.out | exact H.out.drewN _)).mono ?_; rintro e w' ⟨rfl, nd2, rfl⟩) | (at_builtin; refine Kd.Q_append (Kd.int .i64) B rfl (.tmp 17) (.tmp 19) 25 3 (.int .i64 0) 8 rfl Try.underlying25 info3 rfl (by decide) (by decide) v xs x [.int .i64 x] (fun _ => True) (fun _ => False) rfl rfl rfl (fun _ h => h.elim) (fun _ _ => trivial) (Kd.Q_drewN H.out.2.2 _) (Below.refl _ _) (Nat.le_of_lt (Nat.lt_of_le_of_lt H.out.1 H.out.lt)) HL.out ?_; intro v1 w1 hQ0 hBel hgrow0 hat0; have HQ := Aside0.mk hQ0; have HG := Aside0.mk hgrow0; have HA := Aside0.mk hat0; clear hQ0 hBel hgrow0 hat0; obtain ⟨A1, n1, c1, rfl⟩ := q_form HQ.out; have HB1 := Aside0.mk ((HG.out.block p H.out.lt (fun he => H.out.ne he.symm)).trans H.out.2.1); have hb1 := cc3 HB1.out))
  go_ret2
  exact ⟨rfl, _, row_put HB1.out H.out.1 HQ.out, chg_put (grown_drewN HG.out), HA.out⟩
end Go.Proofs.Ythflkloghbhhgaa.Rw
/- RowD -/
namespace Go.Proofs.Ythflkloghbhhgaa.Rw
open Go.RowKit Go.Proofs.YthflkloghbhhgaaW.PrintWords Go.Proofs.Ythflkloghbhhgaa.Sh Go.Proofs.Ythflkloghbhhgaa.PAll
set_option linter.unusedVariables false
set_option linter.unusedSimpArgs false
variable {p : Nat} {fr mo : Int} {v : Value} {xs : List Int} {w : World} {B : Nat}
theorem new_bad (h : mo < 1 ∨ 1024 < mo) : Calls Try.prog 9 #[.int .u32 fr, .int .i64 mo] w fun e w' => e = .returned (.tuple #[.pointer none, .iface 38 (.int .i64 1)]) ∧ w = w' := by
  by_cases h1 : mo < 1
  · clear h
    go_enter Try.func9, Try.ntmps9
    go_wp2
    go_ret2
    exact ⟨rfl, rfl⟩
  · have h2 : 1024 < mo := by omega
    clear h
    go_enter Try.func9, Try.ntmps9
    go_wp2
    go_ret2
    exact ⟨rfl, rfl⟩
theorem new_row (h1 : 1 ≤ mo) (h2 : mo ≤ 1024) : Calls Try.prog 9 #[.int .u32 fr, .int .i64 mo] w fun e w' => e = .returned (.tuple #[.pointer (some ⟨w.heap.size, 0, none⟩), .nilIface]) ∧ w' = w.alloc (.cells #[.int .u32 fr, .int .i64 mo, .slice none 0 0] 65) := by
  go_enter Try.func9, Try.ntmps9
  go_wp2
  go_ret2
  exact ⟨rfl, rfl⟩
theorem row_new (hB : B ≤ w.heap.size) : RowAt (w.alloc (.cells #[.int .u32 fr, .int .i64 mo, .slice none 0 0] 65)) B w.heap.size fr mo (.slice none 0 0) [] :=
  ⟨hB, blk_new w _, Kd.Q_nil _ _ _ _ _⟩
theorem set_no (h : RowAt w B p fr mo v xs) (n x : Int) (hi : ¬ (n - fr) % 4294967296 < xs.length) :
    Calls Try.prog 12 #[.pointer (some ⟨p, 0, none⟩), .int .u32 n, .int .i64 x] w fun e w' => e = .returned (.iface 38 (.int .i64 4)) ∧ ∃ m, w' = w.drewN m := by
  have H1 := Aside0.mk (place_no h n hi)
  clear h hi
  go_enter Try.func12, Try.ntmps12
  go_wp2_with (first | (go_at_call 29; refine H1.out.mono ?_; rintro e w' ⟨rfl, nd, rfl⟩))
  go_ret
  exact ⟨rfl, _, rfl⟩
theorem set_yes (h : RowAt w B p fr mo v xs) (n x : Int) (i : Nat) (hi : (n - fr) % 4294967296 = i) (hl : i < xs.length) :
    Calls Try.prog 12 #[.pointer (some ⟨p, 0, none⟩), .int .u32 n, .int .i64 x] w fun e w' => e = .returned .nilIface ∧ RowAt w' B p fr mo v (xs.set i x) ∧ Chg w w' p v := by
  obtain ⟨g, o, c, rfl, hgB, hglt, _⟩ := Kd.Q_form h.2.2 (by omega)
  obtain ⟨hcell, hfro⟩ := Kd.Q_cell (d := (0 : Int)) h.2.2 i (by omega) (by omega)
  have hput := Kd.Q_putg h.2.2 i (by omega) (by omega) x
  rw [Int.toNat_natCast] at hcell hfro hput
  have H := Aside0.mk h
  have HP := Aside0.mk hput
  have hb := cc3 h.2.1
  have H1 := Aside0.mk (show Calls Try.prog 29 #[.pointer (some ⟨p, 0, none⟩), .int .u32 n] w fun e w' => e = .returned (.int .i64 i) ∧ ∃ m, w' = w.drewN m by
    have := place_yes H.out n (by omega)
    rwa [hi] at this)
  generalize rdOf 0 xs (i : Int) = y at hcell
  have hn : ((i : Int) < 0) = False := by simp
  have hl' : (i : Int) < (xs.length : Int) := by omega
  clear hi h hput
  go_enter Try.func12, Try.ntmps12
  go_wp2_with (first | (go_at_call 29; refine H1.out.mono ?_; rintro e w' ⟨rfl, nd, rfl⟩))
  go_ret
  refine ⟨rfl, ?_, ?_⟩
  · have hne : g ≠ p := fun he => H.out.ne (by rw [← he]; simp [Value.ownBlock])
    exact ⟨H.out.1, (Below.heap_setCell _ _ _ p (fun he => hne he.symm)).trans H.out.2.1, Kd.Q_drewN HP.out.1 nd⟩
  · exact ⟨rfl, rfl, rfl, by simp, fun k hk hkp hkv => Below.heap_setCell _ _ _ k (fun he => hkv (by rw [he]; simp [Value.ownBlock]))⟩
theorem pop_none (h : RowAt w B p fr mo v []) : Calls Try.prog 15 #[.pointer (some ⟨p, 0, none⟩)] w fun e w' => e = .returned (.tuple #[.int .i64 0, .iface 38 (.int .i64 4)]) ∧ w = w' := by
  have H1 := Aside0.mk (len_row h)
  simp only [List.length_nil] at H1
  clear h
  go_enter Try.func15, Try.ntmps15
  go_wp2_with (first | (go_at_call 11; refine H1.out.mono ?_; rintro e w' ⟨rfl, rfl⟩))
  go_ret2
  exact ⟨rfl, rfl⟩
end Go.Proofs.Ythflkloghbhhgaa.Rw
/- RowE -/
namespace Go.Proofs.Ythflkloghbhhgaa.Rw
open Go.RowKit Go.Proofs.YthflkloghbhhgaaW.PrintWords Go.Proofs.Ythflkloghbhhgaa.Sh Go.Proofs.Ythflkloghbhhgaa.PAll
set_option linter.unusedVariables false
set_option linter.unusedSimpArgs false
variable {p : Nat} {fr mo : Int} {v : Value} {xs : List Int} {w : World} {B : Nat}
theorem RowAt.two {v1 : Value} {ys : List Int} {fr' : Int} (h : RowAt w B p fr mo v xs) (hQ : (Kd.int .i64).Q 3 w B (fun _ => True) v1 ys) (m : Nat) :
    RowAt (((w.setCell ⟨p, 2, none⟩ v1).setCell ⟨p, 0, none⟩ (.int .u32 fr')).drewN m) B p fr' mo v1 ys ∧ RowAt (((w.setCell ⟨p, 0, none⟩ (.int .u32 fr')).setCell ⟨p, 2, none⟩ v1).drewN m) B p fr' mo v1 ys := by
  have hb := h.2.1
  have e1 := blk_put hb 2 v1 rfl
  have e2 := blk_put e1 0 (.int .u32 fr') rfl
  have e3 := blk_put hb 0 (.int .u32 fr') rfl
  have e4 := blk_put e3 2 v1 rfl
  exact ⟨⟨h.1, e2, Kd.Q_drewN (Kd.Q_set (Kd.Q_set hQ hb (by decide) 2 v1) e1 (by decide) 0 _) m⟩, ⟨h.1, e4, Kd.Q_drewN (Kd.Q_set (Kd.Q_set hQ hb (by decide) 0 _) e3 (by decide) 2 v1) m⟩⟩
theorem Chg.two (w : World) (p : Nat) (v u1 u2 : Value) (i j m : Nat) : Chg w (((w.setCell ⟨p, i, none⟩ u1).setCell ⟨p, j, none⟩ u2).drewN m) p v :=
  ⟨rfl, rfl, rfl, by simp, fun k hk hp hv => (Below.heap_setCell _ _ u2 k hp).trans (Below.heap_setCell w _ u1 k hp)⟩
set_option maxRecDepth 100000 in
theorem pop_row (h : RowAt w B p fr mo v xs) (hl : 0 < xs.length) (y : Int) (hy : xs.getD 0 0 = y) :
    Calls Try.prog 15 #[.pointer (some ⟨p, 0, none⟩)] w fun e w' => e = .returned (.tuple #[.int .i64 y, .nilIface]) ∧ ∃ v', RowAt w' B p ((fr + 1) % 4294967296) mo v' (xs.drop 1) ∧ Chg w w' p v ∧ (v'.ownBlock = v.ownBlock ∨ v'.ownBlock = none) := by
  obtain ⟨g, o, c, rfl, hgB, hglt, _⟩ := Kd.Q_form h.2.2 hl
  obtain ⟨hcell, _⟩ := Kd.Q_cell (d := (0 : Int)) h.2.2 0 (by omega) (by omega)
  have e1 : rdOf 0 xs 0 = y := hy
  rw [e1, show o + Int.toNat 0 = o from rfl] at hcell
  have H := Aside0.mk h
  have hb := cc3 h.2.1
  obtain ⟨i0, hi, _, hsz, _⟩ := info_parts info3
  have hcut := cut_from 25 3 .i64 Try.underlying25 hi 1 hsz (some ⟨g, o, none⟩) xs.length c 1 (by decide) (by omega)
  have hQ := Kd.Q_drop (k := 1) h.2.2 (by omega)
  obtain ⟨v', hv'⟩ : ∃ v', v' = Value.slice (if c = 1 then some ⟨g, o, none⟩ else (some (⟨g, o, none⟩ : Addr)).map (·.add (1 * 1))) (xs.length - 1) (c - 1) := ⟨_, rfl⟩
  have hown : v'.ownBlock = some g := by
    rw [hv']
    split <;> simp [Value.ownBlock, Addr.add]
  have hQ' : (Kd.int .i64).Q 3 w B (fun _ => True) v' (xs.drop 1) := by rw [hv']; exact hQ
  obtain ⟨A1, n1, c1, hform⟩ := q_form hQ'
  have hcut' : ∀ W : World, (Instr.slice 25 (.slice (some ⟨g, o, none⟩) xs.length c) (some (.int .i64 1)) none none).run Try.prog W = .ok (.slice A1 n1 c1) W := by
    intro W
    rw [← hform, hv']
    exact hcut W
  rw [hform] at hown hQ'
  have HQ := Aside0.mk hQ'
  have HO := Aside0.mk hown
  have H1 := Aside0.mk (len_row h)
  have hn : (((xs.length : Nat) : Int) == 0) = false := by rw [beq_eq_false_iff_ne]; omega
  have hl' : (0 : Int) < (xs.length : Int) := by omega
  clear h hcut hQ hv' hform hQ' hown hi hsz e1 hy
  go_enter Try.func15, Try.ntmps15
  go_wp2_with (first | (go_at_call 11; refine H1.out.mono ?_; rintro e w' ⟨rfl, rfl⟩))
  go_region_with (first | (go_at_call 31; refine (serial_Step_uint32.calls _ _ _ _ rfl).mono ?_; rintro e w' ⟨rfl, ⟨nd, rfl⟩⟩))
  all_goals go_wp2
  all_goals go_ret2
  all_goals refine ⟨rfl, .slice A1 n1 c1, ?_, ?_, Or.inl (HO.out.trans (by simp [Value.ownBlock]))⟩
  all_goals first | exact (H.out.two HQ.out _).1 | exact (H.out.two HQ.out _).2 | exact Chg.two w p _ _ _ _ _ _ | skip
end Go.Proofs.Ythflkloghbhhgaa.Rw
/- RowF -/
namespace Go.Proofs.Ythflkloghbhhgaa.Rw
open Go.RowKit Go.Proofs.YthflkloghbhhgaaW.PrintWords Go.Proofs.YthflkloghbhhgaaW.PrintMore Go.Proofs.Ythflkloghbhhgaa.Sh Go.Proofs.Ythflkloghbhhgaa.PAll
set_option linter.unusedVariables false
set_option linter.unusedSimpArgs false
variable {p : Nat} {fr mo : Int} {v : Value} {xs : List Int} {w : World} {B : Nat}
/-- A slice of its own, of these numbers. -/
def Made (w : World) (xs : List Int) (e : Ending) (w' : World) : Prop := ∃ A c, e = .returned (.slice A xs.length c) ∧ (Kd.int .i64).R 3 w' w.heap.size (fun _ => True) (.slice A xs.length c) xs ∧ Below w.heap.size w w'
set_option maxRecDepth 100000 in
theorem clone_row {A : Option Addr} {n c : Nat} (hC : (Kd.int .i64).C w A n xs) (hl : n ≤ 1024) : Calls Try.prog 33 #[.slice A n c] w (Made w xs) := by
  have hlen := hC.1
  cases A with
  | none =>
    have h0 : xs = [] := by
      cases xs with
      | nil => rfl
      | cons x r => exact absurd (hC.2.2 (by rw [← hlen]; simp)) (by rintro ⟨ad, h, _⟩; cases h)
    subst h0
    have hnil := fun W : World => Lib.run_eql_slice_nil (P := Try.prog) W 25 3 none n c 0 0 Try.underlying25
    simp only [Option.isNone_none] at hnil
    clear hlen hC hl
    go_enter Try.func33, Try.ntmps33
    go_wp2
    go_ret
    exact ⟨none, 0, rfl, Kd.R_nil _ _ _ _ _, Below.refl _ _⟩
  | some ad =>
    have hnil := fun W : World => Lib.run_eql_slice_nil (P := Try.prog) W 25 3 (some ad) n c 0 0 Try.underlying25
    simp only [Option.isNone_some] at hnil
    have HC := Aside0.mk hC
    have HL := Aside0.mk (show (([] : List Int).length + n) * 8 ≤ 140737488355328 by simp; omega)
    have HN := Aside0.mk hlen
    clear hlen hC hl
    go_enter Try.func33, Try.ntmps33
    go_wp2_with (first | ((with_reducible refine gate_dst (N := 5) rfl ?_); refine Kd.R_lit (Kd.int .i64) _ 3 ?hg (N := 5) ?hd (xs := ([] : List Int)) (inner := []) (ok := fun _ => True) (okp := fun _ => True) ?hr ?hp (fun _ hk => hk) trivial (Below.refl _ _) (Nat.le_refl _) (by simp) ?_; (case hd => rfl); (case hg => rfl); (case hr => first | (go_simp; done) | (go_simp; rfl)); (case hp => exact (Reps.none _ _)); intro v1 w1 ho hb hg hn; have HO1 := Aside0.mk ho; have HB1 := Aside0.mk hb; clear ho hb hg hn; obtain ⟨A1, c1, rfl⟩ := Kd.R_slice HO1.out) | (at_builtin; refine Kd.R_append_rows (Kd.int .i64) (w0 := w) w.heap.size rfl (.tmp 5) (.tmp 6) 25 3 (.int .i64 0) 8 rfl Try.underlying25 info3 rfl (by decide) (by omega) (.slice A1 ([] : List Int).length c1) [] xs _ _ _ (fun _ => True) (fun _ => False) rfl rfl ?aO ?aR (fun _ _ h => h) (fun _ h => h.elim) (fun _ _ => trivial) ?aB ?aS ?aL ?_; (case aO => exact HO1.out); (case aR => exact Kd.C_below HC.out HB1.out); (case aB => exact HB1.out); (case aS => exact HB1.out.size); (case aL => exact HL.out); intro v2 w2 hR2 hB2 hg2 ha2; have HR2 := Aside0.mk hR2; have HB2 := Aside0.mk hB2; clear hR2 hB2 hg2 ha2; obtain ⟨A2, c2, rfl⟩ := Kd.R_slice HR2.out))
    go_ret
    exact ⟨A2, c2, rfl, HR2.out, HB2.out⟩
end Go.Proofs.Ythflkloghbhhgaa.Rw
/- RowG -/
namespace Go.Proofs.Ythflkloghbhhgaa.Rw
open Go.RowKit Go.Proofs.YthflkloghbhhgaaW.PrintWords Go.Proofs.YthflkloghbhhgaaW.PrintMore Go.Proofs.Ythflkloghbhhgaa.Sh Go.Proofs.Ythflkloghbhhgaa.PAll
set_option linter.unusedVariables false
set_option linter.unusedSimpArgs false
variable {p : Nat} {fr mo : Int} {v : Value} {xs : List Int} {w : World} {B : Nat}
theorem cut_no (h : RowAt w B p fr mo v xs) (n : Int) (hi : (xs.length : Int) < (n - fr) % 4294967296) :
    Calls Try.prog 17 #[.pointer (some ⟨p, 0, none⟩), .int .u32 n] w fun e w' => e = .returned (.tuple #[.slice none 0 0, .iface 38 (.int .i64 1)]) ∧ ∃ m, w' = w.drewN m := by
  obtain ⟨A, c, rfl, _⟩ := h.slice
  have hb := cc3 h.2.1
  obtain ⟨k, hk⟩ : ∃ k, k = (n - fr) % 4294967296 := ⟨_, rfl⟩
  have H1 := Aside0.mk (show serial_Far_uint32.f fr n = some k by rw [hk]; rfl)
  have hk2 : (xs.length : Int) < k := by omega
  clear h hi hk
  go_enter Try.func17, Try.ntmps17
  go_wp2_with (first | (go_at_call 32; refine (serial_Far_uint32.calls _ _ _ _ H1.out).mono ?_; rintro e w' ⟨rfl, ⟨nd, rfl⟩⟩))
  go_ret2
  exact ⟨rfl, _, rfl⟩
/-- What Cut hands out, and leaves. -/
def Cuts (w : World) (B p : Nat) (mo : Int) (v : Value) (xs : List Int) (k : Nat) (n : Int) (e : Ending) (w' : World) : Prop :=
  ∃ A c v', e = .returned (.tuple #[.slice A k c, .nilIface]) ∧ (Kd.int .i64).R 3 w' w.heap.size (fun _ => True) (.slice A k c) (xs.take k) ∧
    RowAt w' B p n mo v' (xs.drop k) ∧ Chg w w' p v ∧ (v'.ownBlock = v.ownBlock ∨ v'.ownBlock = none)
set_option maxRecDepth 100000 in
theorem cut_yes (h : RowAt w B p fr mo v xs) (n : Int) (k : Nat) (hi : (n - fr) % 4294967296 = k) (hl : k ≤ xs.length) (hm : xs.length ≤ 1024) :
    Calls Try.prog 17 #[.pointer (some ⟨p, 0, none⟩), .int .u32 n] w (Cuts w B p mo v xs k n) := by
  obtain ⟨A, c, rfl, hc, hC⟩ := h.slice
  have H := Aside0.mk h
  have hb := cc3 h.2.1
  have hlt := h.lt
  have H1 := Aside0.mk (show serial_Far_uint32.f fr n = some (k : Int) by rw [← hi]; rfl)
  obtain ⟨i0, hi0, _, hsz, _⟩ := info_parts info3
  have hto := cut_to 25 3 .i64 Try.underlying25 hi0 A xs.length c (k : Int) (by omega) (by omega) (by omega)
  have hfrom := cut_from 25 3 .i64 Try.underlying25 hi0 1 hsz A xs.length c (k : Int) (by omega) (by omega)
  have hQ := Kd.Q_drop (k := k) h.2.2 (by omega)
  have hT := (Kd.Q_reads' (Kd.Q_take (m := k) h.2.2 hl)).2.2
  have htl : (xs.take k).length = k := by simp; omega
  have HTL := Aside0.mk htl
  have HT := Aside0.mk (show (Kd.int .i64).C w A k (xs.take k) by rw [htl] at hT; exact hT)
  rw [Int.toNat_natCast] at hto hfrom
  obtain ⟨v', hv'⟩ : ∃ v', v' = Value.slice (if c = k then A else A.map (·.add (k * 1))) (xs.length - k) (c - k) := ⟨_, rfl⟩
  have hown : v'.ownBlock = (Value.slice A xs.length c).ownBlock := by
    rw [hv']
    split
    · cases A <;> rfl
    · cases A with
      | none => rfl
      | some ad => simp [Value.ownBlock, Addr.add]; split <;> rfl
  have hQ' : (Kd.int .i64).Q 3 w B (fun _ => True) v' (xs.drop k) := by rw [hv']; exact hQ
  obtain ⟨A1, n1, c1, hform⟩ := q_form hQ'
  have hcut' : ∀ W : World, (Instr.slice 25 (.slice A xs.length c) (some (.int .i64 k)) none none).run Try.prog W = .ok (.slice A1 n1 c1) W := by
    intro W
    rw [← hform, hv']
    exact hfrom W
  rw [hform] at hown hQ'
  have HQ := Aside0.mk hQ'
  have HO := Aside0.mk hown
  have hl' : (k : Int) ≤ (xs.length : Int) := by omega
  have HM := Aside0.mk (show k ≤ 1024 by omega)
  clear h hfrom hQ hv' hform hQ' hown hi0 hsz hi hT htl hC
  go_enter Try.func17, Try.ntmps17
  go_wp2_with (first | (go_at_call 32; refine (serial_Far_uint32.calls _ _ _ _ H1.out).mono ?_; rintro e w' ⟨rfl, ⟨nd, rfl⟩⟩) | (go_at_call 33; refine (clone_row (Kd.C_drewN HT.out _) HM.out).mono ?_; rintro e w1 ⟨A2, c2, rfl, hR, hBl⟩; rw [HTL.out] at hR; have HR := Aside0.mk hR; have HBl := Aside0.mk hBl; clear hR hBl; have HR1 := Aside0.mk (H.out.keep (w' := w1) (HBl.out.block p H.out.lt) (fun k hk => HBl.out.block k (Kd.Q_lt H.out.2.2 k hk))); have hb1 := cc3 HR1.out.2.1))
  go_ret2
  refine ⟨A2, c2, .slice A1 n1 c1, rfl, ?_, ?_, ?_, Or.inl HO.out⟩
  · have e1 := blk_put HR1.out.2.1 2 (.slice A1 n1 c1) rfl
    exact Kd.R_set (Kd.R_set HR.out HR1.out.2.1 (by decide) 2 _) e1 (by decide) 0 _
  · exact (HR1.out.two (Kd.Q_step HQ.out (fun k _ hk => HBl.out.block k hk)) 0).1
  · exact ⟨HBl.out.os, HBl.out.tape, HBl.out.output, by simpa using HBl.out.size, fun k hk hp hv => (Below.heap_setCell _ _ _ k hp).trans ((Below.heap_setCell _ _ _ k hp).trans (HBl.out.block k hk))⟩
end Go.Proofs.Ythflkloghbhhgaa.Rw
/- RowS -/
namespace Go.Proofs.Ythflkloghbhhgaa.Rs
open Go.RowKit Go.Proofs.YthflkloghbhhgaaW.PrintWords Go.Proofs.Ythflkloghbhhgaa.Sh Go.Proofs.Ythflkloghbhhgaa.PAll
open Go.Proofs.Ythflkloghbhhgaa.Rw (Chg chg_put grown_drewN)
set_option linter.unusedVariables false
set_option linter.unusedSimpArgs false
variable {p n c : Nat} {A : Option Addr} {fr mo : Int} {w : World}
theorem len_any (hb : w.heap[p]? = some (.cells #[.int .u32 fr, .int .i64 mo, .slice A n c] 85 (0, 0))) :
    Calls Try.prog 28 #[.pointer (some ⟨p, 0, none⟩)] w fun e w' => e = .returned (.int .i64 n) ∧ w = w' := by
  have hc := cc3 hb
  clear hb
  go_enter Try.func28, Try.ntmps28
  go_wp2
  go_ret
  exact ⟨rfl, rfl⟩
theorem from_any (hb : w.heap[p]? = some (.cells #[.int .u32 fr, .int .i64 mo, .slice A n c] 85 (0, 0))) :
    Calls Try.prog 44 #[.pointer (some ⟨p, 0, none⟩)] w fun e w' => e = .returned (.int .u32 fr) ∧ w = w' := by
  have hc := cc3 hb
  clear hb
  go_enter Try.func44, Try.ntmps44
  go_wp2
  go_ret
  exact ⟨rfl, rfl⟩
theorem free_any (hb : w.heap[p]? = some (.cells #[.int .u32 fr, .int .i64 mo, .slice A n c] 85 (0, 0))) :
    Calls Try.prog 40 #[.pointer (some ⟨p, 0, none⟩)] w fun e w' => e = .returned (.int .i64 (wrap64 (mo - n))) ∧ ∃ m, w' = w.drewN m := by
  have hc := cc3 hb
  clear hb
  go_enter Try.func40, Try.ntmps40
  go_wp2
  go_quiet (fail)
  go_wp2
  go_ret
  exact ⟨rfl, _, rfl⟩

/-- A row of whole numbers at block p: its beginning, its bound, the slice's value, the things. -/
def RowAt (w : World) (B p : Nat) (fr mo : Int) (v : Value) (xs : List ByteArray) : Prop :=
  B ≤ p ∧ w.heap[p]? = some (.cells #[.int .u32 fr, .int .i64 mo, v] 85 (0, 0)) ∧ Kd.string.Q 9 w B (fun _ => True) v xs
section
variable {w w' : World} {B p : Nat} {fr mo : Int} {v : Value} {xs : List ByteArray}
theorem RowAt.drewN (h : RowAt w B p fr mo v xs) (m : Nat) : RowAt (w.drewN m) B p fr mo v xs := ⟨h.1, h.2.1, Kd.Q_drewN h.2.2 m⟩
theorem RowAt.ne (h : RowAt w B p fr mo v xs) : v.ownBlock ≠ some p := fun he => Kd.Q_ne h.2.2 h.2.1 (by decide) he.symm
theorem RowAt.lt (h : RowAt w B p fr mo v xs) : p < w.heap.size := blk_lt h.2.1
theorem RowAt.slice (h : RowAt w B p fr mo v xs) : ∃ A c, v = .slice A xs.length c ∧ xs.length ≤ c ∧ Kd.string.C w A xs.length xs := Kd.Q_reads h.2.2
/-- Elsewhere may have turned what likes. -/
theorem RowAt.keep (h : RowAt w B p fr mo v xs) (hp : w'.heap[p]? = w.heap[p]?) (hv : ∀ k, v.ownBlock = some k → w'.heap[k]? = w.heap[k]?) : RowAt w' B p fr mo v xs := by
  obtain ⟨h1, h2, h3⟩ := h
  refine ⟨h1, hp.trans h2, ?_⟩
  obtain ⟨a, inner, hq, hr⟩ := h3
  exact ⟨a, inner, q_move hq hv, hr.1, fun m x hm => hr.2 m x hm⟩
end
variable {v : Value} {xs : List ByteArray} {B : Nat}
theorem len_row (h : RowAt w B p fr mo v xs) : Calls Try.prog 28 #[.pointer (some ⟨p, 0, none⟩)] w fun e w' => e = .returned (.int .i64 xs.length) ∧ w = w' := by
  obtain ⟨A, c, rfl, _⟩ := h.slice
  exact len_any h.2.1
theorem from_row (h : RowAt w B p fr mo v xs) : Calls Try.prog 44 #[.pointer (some ⟨p, 0, none⟩)] w fun e w' => e = .returned (.int .u32 fr) ∧ w = w' := by
  obtain ⟨A, c, rfl, _⟩ := h.slice
  exact from_any h.2.1
theorem free_row (h : RowAt w B p fr mo v xs) : Calls Try.prog 40 #[.pointer (some ⟨p, 0, none⟩)] w fun e w' => e = .returned (.int .i64 (wrap64 (mo - xs.length))) ∧ ∃ m, w' = w.drewN m := by
  obtain ⟨A, c, rfl, _⟩ := h.slice
  exact free_any h.2.1
theorem next_row (h : RowAt w B p fr mo v xs) : Calls Try.prog 41 #[.pointer (some ⟨p, 0, none⟩)] w fun e w' => e = .returned (.int .u32 ((fr + (xs.length : Int)) % 4294967296)) ∧ ∃ m, w' = w.drewN m := by
  have H := Aside0.mk h
  clear h
  go_enter Try.func41, Try.ntmps41
  go_wp2_with (first | (go_at_call 44; refine (from_row (B := B) (by first | exact H.out | exact H.out.drewN _)).mono ?_; rintro e w' ⟨rfl, rfl⟩) | (go_at_call 28; refine (len_row (B := B) (by first | exact H.out | exact H.out.drewN _)).mono ?_; rintro e w' ⟨rfl, rfl⟩) | (go_at_call 31; refine (serial_Step_uint32.calls _ _ _ _ rfl).mono ?_; rintro e w' ⟨rfl, ⟨nd, rfl⟩⟩))
  go_ret
  exact ⟨rfl, _, rfl⟩
theorem info9 : (Try.prog.info? 9).map (fun i => (i.zero, i.size, i.bytes)) = some (some (.string ByteArray.empty), 1, 16) := by kernel_rfl
/-- What a store of the slice's new value leaves. -/
theorem row_put {w1 : World} {v1 : Value} {ys : List ByteArray} {fr' : Int} (hb1 : w1.heap[p]? = some (.cells #[.int .u32 fr', .int .i64 mo, v] 85 (0, 0))) (hB : B ≤ p) (hQ : Kd.string.Q 9 w1 B (fun _ => True) v1 ys) :
    RowAt (w1.setCell ⟨p, 2, none⟩ v1) B p fr' mo v1 ys :=
  ⟨hB, blk_put hb1 2 v1 rfl, Kd.Q_set hQ hb1 (by decide) 2 v1⟩
theorem q_form {w1 : World} {v1 : Value} {ys : List ByteArray} {ok : Nat → Prop} (h : Kd.string.Q 9 w1 B ok v1 ys) : ∃ A n c, v1 = .slice A n c := by
  obtain ⟨A, c, hv, _⟩ := Kd.Q_slice h
  exact ⟨A, _, c, hv⟩
set_option maxRecDepth 100000 in
theorem push_row (h : RowAt w B p fr mo v xs) (x : ByteArray) (hl : (xs.length : Int) < mo) (hm : mo ≤ 1024) :
    Calls Try.prog 27 #[.pointer (some ⟨p, 0, none⟩), .string x] w fun e w' => e = .returned (.tuple #[.int .u32 ((fr + (xs.length : Int)) % 4294967296), .nilIface]) ∧
      ∃ v', RowAt w' B p fr mo v' (xs ++ [x]) ∧ Chg w w' p v ∧ (v'.ownBlock = v.ownBlock ∨ ∃ b, v'.ownBlock = some b ∧ w.heap.size ≤ b) := by
  obtain ⟨f, hf⟩ : ∃ f, f = wrap64 (mo - xs.length) := ⟨_, rfl⟩
  have hf0 : (f == 0) = false := by rw [beq_eq_false_iff_ne, hf]; unfold wrap64; omega
  have H1 := Aside0.mk (show Calls Try.prog 40 #[.pointer (some ⟨p, 0, none⟩)] w fun e w' => e = .returned (.int .i64 f) ∧ ∃ m, w' = w.drewN m by
    have := free_row h
    rwa [← hf] at this)
  clear hf
  have H := Aside0.mk h
  have hb := cc3 h.2.1
  have HL := Aside0.mk (show (xs.length + 1) * 16 ≤ 140737488355328 by omega)
  clear h hl hm
  go_enter Try.func27, Try.ntmps27
  go_wp2_with (first | (go_at_call 40; refine H1.out.mono ?_; rintro e w' ⟨rfl, nd, rfl⟩) | (go_at_call 41; refine (next_row (B := B) (by first | exact H.out | exact H.out.drewN _)).mono ?_; rintro e w' ⟨rfl, nd2, rfl⟩) | (at_builtin; refine Kd.Q_append Kd.string B rfl (.tmp 17) (.tmp 19) 83 9 (.string ByteArray.empty) 16 rfl Try.underlying83 info9 rfl (by decide) (by decide) v xs x [.string x] (fun _ => True) (fun _ => False) rfl rfl rfl (fun _ h => h.elim) (fun _ _ => trivial) (Kd.Q_drewN H.out.2.2 _) (Below.refl _ _) (Nat.le_of_lt (Nat.lt_of_le_of_lt H.out.1 H.out.lt)) HL.out ?_; intro v1 w1 hQ0 hBel hgrow0 hat0; have HQ := Aside0.mk hQ0; have HG := Aside0.mk hgrow0; have HA := Aside0.mk hat0; clear hQ0 hBel hgrow0 hat0; obtain ⟨A1, n1, c1, rfl⟩ := q_form HQ.out; have HB1 := Aside0.mk ((HG.out.block p H.out.lt (fun he => H.out.ne he.symm)).trans H.out.2.1); have hb1 := cc3 HB1.out))
  go_ret2
  exact ⟨rfl, _, row_put HB1.out H.out.1 HQ.out, chg_put (grown_drewN HG.out), HA.out⟩
theorem new_row (h1 : 1 ≤ mo) (h2 : mo ≤ 1024) : Calls Try.prog 26 #[.int .u32 fr, .int .i64 mo] w fun e w' => e = .returned (.tuple #[.pointer (some ⟨w.heap.size, 0, none⟩), .nilIface]) ∧ w' = w.alloc (.cells #[.int .u32 fr, .int .i64 mo, .slice none 0 0] 85) := by
  go_enter Try.func26, Try.ntmps26
  go_wp2
  go_ret2
  exact ⟨rfl, rfl⟩
theorem row_new (hB : B ≤ w.heap.size) : RowAt (w.alloc (.cells #[.int .u32 fr, .int .i64 mo, .slice none 0 0] 85)) B w.heap.size fr mo (.slice none 0 0) [] :=
  ⟨hB, blk_new w _, Kd.Q_nil _ _ _ _ _⟩
end Go.Proofs.Ythflkloghbhhgaa.Rs
/- RowAl -/
namespace Go.Proofs.Ythflkloghbhhgaa.Rs
open Go.RowKit Go.Proofs.YthflkloghbhhgaaW.PrintWords Go.Proofs.Ythflkloghbhhgaa.Sh Go.Proofs.Ythflkloghbhhgaa.PAll
open Go.Proofs.Ythflkloghbhhgaa.Rw (Chg)
set_option linter.unusedVariables false
set_option linter.unusedSimpArgs false
variable {w : World}
theorem chg_below {w w' : World} {B p : Nat} {v : Value} (h : Chg w w' p v) (hp : B ≤ p) (hv : ∀ k, v.ownBlock = some k → B ≤ k) (hB : B ≤ w.heap.size) : Below B w w' :=
  ⟨h.os, h.tape, h.output, h.size, fun k hk => h.block k (by omega) (by omega) (fun he => by have := hv k he; omega)⟩
/-- It answers true, and old memory stays. -/
def Yes (w : World) (e : Ending) (w' : World) : Prop := e = .returned (.bool true) ∧ Below w.heap.size w w'
set_option maxRecDepth 100000 in
theorem alive_row : Calls Try.prog 8 #[] w (Yes w) := by
  have H0 := Aside0.mk (row_new (fr := 4294967295) (mo := 2) (w := w) (B := w.heap.size) (Nat.le_refl _))
  go_enter Try.func8, Try.ntmps8
  go_wp2_with fail
  refine (new_row (by decide) (by decide)).mono ?_
  rintro e w1 ⟨rfl, rfl⟩
  go_wp2_with fail
  refine (push_row H0.out ⟨#[97]⟩ (by decide) (by decide)).mono ?_
  rintro e w1 ⟨rfl, v1, hR1, hC1, ha1⟩
  have HR1 := Aside0.mk hR1
  have HC1 := Aside0.mk hC1
  clear hR1 hC1
  go_wp2_with fail
  refine (push_row HR1.out ⟨#[98]⟩ (by decide) (by decide)).mono ?_
  rintro e w2 ⟨rfl, v2, hR2, hC2, ha2⟩
  have HR2 := Aside0.mk hR2
  have HC2 := Aside0.mk hC2
  clear hR2 hC2
  go_wp2_with (first | (go_at_call 28; refine (len_row HR2.out).mono ?_; rintro e w3 ⟨rfl, rfl⟩))
  go_ret
  have b0 : Below w.heap.size w (w.alloc (.cells #[.int .u32 4294967295, .int .i64 2, .slice none 0 0] 85)) := (Below.refl _ _).alloc (Nat.le_refl _) _
  have b1 := chg_below HC1.out (B := w.heap.size) (Nat.le_refl _) (fun k hk => by simp [Value.ownBlock] at hk) (by simp)
  have b2 := chg_below HC2.out (B := w.heap.size) (Nat.le_refl _) (fun k hk => Kd.Q_base HR1.out.2.2 k hk) (by have := HC1.out.size; simp at this; omega)
  exact ⟨rfl, (b0.trans b1).trans b2⟩
end Go.Proofs.Ythflkloghbhhgaa.Rs
/- RowH -/
namespace Go.Proofs.Ythflkloghbhhgaa.Rw
open Go.RowKit Go.Proofs.YthflkloghbhhgaaW.PrintWords Go.Proofs.YthflkloghbhhgaaW.PrintMore Go.Proofs.Ythflkloghbhhgaa.Sh Go.Proofs.Ythflkloghbhhgaa.PAll
open Go.Proofs.Ythflkloghbhhgaa.Rs (chg_below alive_row Yes)
set_option linter.unusedVariables false
set_option linter.unusedSimpArgs false
/-- The laws' state: the box of the scene, the list that came in, the row. -/
def Inv (W : World) (A1 : Option Addr) (l1 : List Int) (p : Nat) (f0 fr mo : Int) (xs : List Int) (wr : World) : Prop :=
  ∃ v, RowAt wr W.heap.size p fr mo v xs ∧ W.heap.size < p ∧ wr.heap[W.heap.size]? = some (.cells #[.int .u32 f0, .int .i64 mo] 24 (0, 0)) ∧ Kd.C (Kd.int .i64) wr A1 l1.length l1 ∧ Below W.heap.size W wr
section
variable {W wr w' : World} {A1 : Option Addr} {l1 : List Int} {p : Nat} {f0 fr fr' mo : Int} {xs ys : List Int} {v v' : Value}
theorem Inv.drewN (h : Inv W A1 l1 p f0 fr mo xs wr) (m : Nat) : Inv W A1 l1 p f0 fr mo xs (wr.drewN m) := by
  obtain ⟨v, h1, h2, h3, h4, h5⟩ := h
  exact ⟨v, h1.drewN m, h2, h3, Kd.C_drewN h4 m, pw_below_drewN h5 m⟩
/-- A method of the row has been called; its beginning may have turned (fr'). -/
theorem Inv.step (h1 : RowAt wr W.heap.size p fr mo v xs) (h2 : W.heap.size < p) (h3 : wr.heap[W.heap.size]? = some (.cells #[.int .u32 f0, .int .i64 mo] 24 (0, 0))) (hC0 : Kd.C (Kd.int .i64) W A1 l1.length l1) (h5 : Below W.heap.size W wr)
    (hr : RowAt w' W.heap.size p fr' mo v' ys) (hc : Chg wr w' p v) : Inv W A1 l1 p f0 fr' mo ys w' := by
  have hb := chg_below hc h1.1 (fun k hk => Kd.Q_base h1.2.2 k hk) h5.size
  have hB := h5.trans hb
  refine ⟨v', hr, h2, ?_, Kd.C_below hC0 hB, hB⟩
  exact (hc.block _ (blk_lt h3) (by omega) (fun he => Kd.Q_ne h1.2.2 h3 (by decide) he.symm)).trans h3
end
end Go.Proofs.Ythflkloghbhhgaa.Rw
/- RowN -/
namespace Go.Proofs.Ythflkloghbhhgaa.Rw
open Go.RowKit Go.Proofs.YthflkloghbhhgaaW.PrintWords
set_option linter.unusedVariables false
set_option linter.unusedSimpArgs false
theorem num_err (c : Int) (hc : (c == 0) = false) (w : World) : Calls Try.prog 30 #[.iface 38 (.int .i64 c)] w fun e w' => e = .returned (.int .i64 c) ∧ w = w' := by
  have hta : ∀ (v : Value) (W : World), (Instr.typeAssert (.iface 38 v) 29 38 true).run Try.prog W = .ok (.tuple #[v, .bool true]) W := fun v W => by rfl
  have hc2 : (c != 0) = true := by rw [bne_iff_ne]; rw [beq_eq_false_iff_ne] at hc; exact hc
  go_enter Try.func30, Try.ntmps30
  go_wp2
  go_ret
  exact ⟨rfl, rfl⟩
theorem num_nil (w : World) : Calls Try.prog 30 #[.nilIface] w fun e w' => e = .returned (.int .i64 0) ∧ w = w' := by
  go_enter Try.func30, Try.ntmps30
  go_wp2
  go_ret
  exact ⟨rfl, rfl⟩
theorem is_err (c d : Int) (hc : (c == 0) = false) (w : World) : Calls Try.prog 13 #[.iface 38 (.int .i64 c), .int .i64 d] w fun e w' => e = .returned (.bool (c == d)) ∧ w = w' := by
  go_enter Try.func13, Try.ntmps13
  go_wp2_with (first | (go_at_call 30; refine (num_err c hc _).mono ?_; rintro e w' ⟨rfl, rfl⟩))
  go_ret
  exact ⟨rfl, rfl⟩
theorem is_no (c : Int) (hc : (c == 0) = false) (w : World) : Calls Try.prog 13 #[.iface 38 (.int .i64 c), .int .i64 c] w fun e w' => e = .returned (.bool true) ∧ w = w' := by
  have h := is_err c c hc w
  rwa [beq_self_eq_true] at h
end Go.Proofs.Ythflkloghbhhgaa.Rw
/- RowJ -/
namespace Go.Proofs.Ythflkloghbhhgaa.Rw
open Go.RowKit Go.Proofs.YthflkloghbhhgaaW.PrintWords Go.Proofs.YthflkloghbhhgaaW.PrintMore Go.Proofs.Ythflkloghbhhgaa.Sh Go.Proofs.Ythflkloghbhhgaa.PAll
open Go.Proofs.Ythflkloghbhhgaa.Rs (chg_below alive_row Yes)
set_option linter.unusedVariables false
set_option linter.unusedSimpArgs false
theorem u32_wf {a : Int} (h : (Lit.int .u32 a).wf = true) : 0 ≤ a ∧ a < 4294967296 := by
  simp [Lit.wf, IntKind.min, IntKind.max, IntKind.signed, IntKind.bits] at h
  omega
end Go.Proofs.Ythflkloghbhhgaa.Rw
/- PAllx26 -/
namespace Go.Proofs.Ythflkloghbhhgaa.PAll
open Go.RowKit Go.Proofs.YthflkloghbhhgaaW.PrintWords Go.Proofs.YthflkloghbhhgaaW.PrintLast Go.Proofs.YthflkloghbhhgaaW.PrintMore Go.Proofs.Ythflkloghbhhgaa.Sh
attribute [local go_sem] max2_int min2_int max_two min_two max_three min_three max_four min_four   -- for this text's walks alone
attribute [local go_sem] Go.Proofs.Ythflkloghbhhgaa.Aid.isSome_setCell
set_option linter.unusedVariables false
set_option linter.unusedSimpArgs false
def weftlinenum_Ints.l0 : Nat → List Int → List Int → Int → Int → Option (Bool)
  | 0, _, _, _, _ => none
  | k + 1, x0, x1, x12, x13 => if x13 < x12 then (if 0 ≤ x13 then (if x13 < (x0.length : Int) then (if x13 < (x1.length : Int) then (if (rd x0 x13) = (rd x1 x13) then (weftlinenum_Ints.l0 k x0 x1 x12 (wrap64 (x13 + 1))) else (some false)) else (none)) else (none)) else (none)) else (some true)
def weftlinenum_Ints.f (k : Nat) (l0 : List Int) (l1 : List Int) : Option (Bool) := if (l0.length : Int) = (l1.length : Int) then (weftlinenum_Ints.l0 k l0 l1 (l0.length : Int) 0) else (some false)
set_option maxHeartbeats 8000000 in
set_option maxRecDepth 100000 in
theorem weftlinenum_Ints.calls (k : Nat) (A0 : Option Addr) (c0 : Nat) (l0 : List Int) (A1 : Option Addr) (c1 : Nat) (l1 : List Int) (r : Bool) (w : World) (hr0 : Kd.C (Kd.int .i64) w A0 l0.length l0) (hc0 : l0.length ≤ c0) (hr1 : Kd.C (Kd.int .i64) w A1 l1.length l1) (hc1 : l1.length ≤ c1) (h : weftlinenum_Ints.f k l0 l1 = some r) :
    Calls Try.prog 19 #[.slice A0 l0.length c0, .slice A1 l1.length c1] w fun e w' => e = .returned (.bool r) ∧ Drawn0 w w' := by
  have HR0 := Aside0.mk hr0
  have HC0 := Aside0.mk hc0
  clear hr0 hc0
  have HR1 := Aside0.mk hr1
  have HC1 := Aside0.mk hc1
  clear hr1 hc1
  have H : (if (l0.length : Int) = (l1.length : Int) then (weftlinenum_Ints.l0 k l0 l1 (l0.length : Int) 0) else (some false)) = some r := h
  clear h
  by_cases c3 : (l0.length : Int) = (l1.length : Int)
  · rw [if_pos c3] at H
    have c3b0 : ((l0.length : Int) == (l1.length : Int)) = true := beq_iff_eq.mpr c3
    have c3b1 : ((l0.length : Int) != (l1.length : Int)) = false := bne_eq_false_iff_eq.mpr c3
    have c3b2 : (l0.length == l1.length) = true := by first | simpa using c3 | (simp at c3 ⊢; omega)
    clear c3
    have H' := Aside0.mk H
    clear H
    go_enter Try.func19, Try.ntmps19
    go_wp2
    repeat (go_quiet (fail); try go_wp2)
    go_loopg [13] k (fun kq v13 w' => ∃ (x13_1 : Int), v13 = .int .i64 x13_1 ∧ Aside0 (weftlinenum_Ints.l0 kq l0 l1 (l0.length : Int) x13_1 = some r) ∧ Aside0 (kq ≤ k) ∧ Drawn0 w w')
    case atStart => exact ⟨(0), (by first | rfl | (simp; done) | (simp [*]; done)), H', ⟨Nat.le_refl _⟩, by repeat (first | exact Drawn0.refl _ | apply Drawn0.step)⟩
    case round =>
      clear H'
      try clear c1
      try clear p2
      try clear c3
      try clear c3b0
      try clear c3b1
      try clear c3b2
      obtain ⟨x13_1, rfl, HA, HK1, ⟨m1, rfl⟩⟩ := hrel
      cases gk with
      | zero => exact absurd HA.out (by simp [weftlinenum_Ints.l0])
      | succ k1 =>
        have H := HA.out
        clear HA
        simp only [weftlinenum_Ints.l0] at H
        by_cases c4 : x13_1 < (l0.length : Int)
        · rw [if_pos c4] at H
          have c4b0 : decide (x13_1 < (l0.length : Int)) = true := decide_eq_true c4
          clear c4
          by_cases c5 : 0 ≤ x13_1
          · rw [if_pos c5] at H
            have c5b0 : decide (0 ≤ x13_1) = true := decide_eq_true c5
            clear c5
            by_cases c6 : x13_1 < (l0.length : Int)
            · rw [if_pos c6] at H
              have c6b0 : decide (x13_1 < (l0.length : Int)) = true := decide_eq_true c6
              clear c6
              by_cases c7 : x13_1 < (l1.length : Int)
              · rw [if_pos c7] at H
                have c7b0 : decide (x13_1 < (l1.length : Int)) = true := decide_eq_true c7
                clear c7
                by_cases c8 : (rd l0 x13_1) = (rd l1 x13_1)
                · rw [if_pos c8] at H
                  have c8b0 : ((rd l0 x13_1) == (rd l1 x13_1)) = true := beq_iff_eq.mpr c8
                  have c8b1 : ((rd l0 x13_1) != (rd l1 x13_1)) = false := bne_eq_false_iff_eq.mpr c8
                  clear c8
                  have H' := Aside0.mk H
                  clear H
                  have p105 : 0 ≤ (x13_1 : Int) := of_decide_eq_true (by first | (with_reducible assumption) | assumption)
                  have q105 : x13_1 < (l0.length : Int) := of_decide_eq_true (by first | (with_reducible assumption) | assumption)
                  obtain ⟨ad105, e105, hx105_0⟩ := Kd.at_int HR0.out x13_1 p105 q105
                  cases e105
                  replace p105 := eq_true p105
                  replace q105 := eq_true q105
                  have p106 : 0 ≤ (x13_1 : Int) := of_decide_eq_true (by first | (with_reducible assumption) | assumption)
                  have q106 : x13_1 < (l1.length : Int) := of_decide_eq_true (by first | (with_reducible assumption) | assumption)
                  obtain ⟨ad106, e106, hx106_0⟩ := Kd.at_int HR1.out x13_1 p106 q106
                  cases e106
                  replace p106 := eq_true p106
                  replace q106 := eq_true q106
                  go_wp2
                  repeat (go_quiet (fail); try go_wp2)
                  go_roundg k1
                  case measure => have := HK1.out; omega
                  case rel => exact ⟨(wrap64 (x13_1 + 1)), (by first | rfl | (simp; done) | (simp [*]; done)), H', ⟨by have := HK1.out; omega⟩, by repeat (first | exact Drawn0.refl _ | apply Drawn0.step)⟩
                · rw [if_neg c8] at H
                  have c8b0 : ((rd l0 x13_1) == (rd l1 x13_1)) = false := beq_eq_false_iff_ne.mpr c8
                  have c8b1 : ((rd l0 x13_1) != (rd l1 x13_1)) = true := bne_iff_ne.mpr c8
                  obtain rfl := Option.some.inj H
                  have p105 : 0 ≤ (x13_1 : Int) := of_decide_eq_true (by first | (with_reducible assumption) | assumption)
                  have q105 : x13_1 < (l0.length : Int) := of_decide_eq_true (by first | (with_reducible assumption) | assumption)
                  obtain ⟨ad105, e105, hx105_0⟩ := Kd.at_int HR0.out x13_1 p105 q105
                  cases e105
                  replace p105 := eq_true p105
                  replace q105 := eq_true q105
                  have p106 : 0 ≤ (x13_1 : Int) := of_decide_eq_true (by first | (with_reducible assumption) | assumption)
                  have q106 : x13_1 < (l1.length : Int) := of_decide_eq_true (by first | (with_reducible assumption) | assumption)
                  obtain ⟨ad106, e106, hx106_0⟩ := Kd.at_int HR1.out x13_1 p106 q106
                  cases e106
                  replace p106 := eq_true p106
                  replace q106 := eq_true q106
                  go_wp2
                  repeat (go_quiet (fail); try go_wp2)
                  go_ret
                  exact ⟨by first | rfl | (simp; done) | (simp [*]; done), by repeat (first | exact Drawn0.refl _ | apply Drawn0.step)⟩
              · rw [if_neg c7] at H
                exact absurd H (by simp)
            · rw [if_neg c6] at H
              exact absurd H (by simp)
          · rw [if_neg c5] at H
            exact absurd H (by simp)
        · rw [if_neg c4] at H
          have c4b0 : decide (x13_1 < (l0.length : Int)) = false := decide_eq_false c4
          clear c4
          obtain rfl := Option.some.inj H
          go_wp2
          repeat (go_quiet (fail); try go_wp2)
          go_ret
          exact ⟨by first | rfl | (simp; done) | (simp [*]; done), by repeat (first | exact Drawn0.refl _ | apply Drawn0.step)⟩
  · rw [if_neg c3] at H
    have c3b0 : ((l0.length : Int) == (l1.length : Int)) = false := beq_eq_false_iff_ne.mpr c3
    have c3b1 : ((l0.length : Int) != (l1.length : Int)) = true := bne_iff_ne.mpr c3
    have c3b2 : (l0.length == l1.length) = false := by first | simpa using c3 | (simp at c3 ⊢; omega)
    obtain rfl := Option.some.inj H
    go_enter Try.func19, Try.ntmps19
    go_wp2
    repeat (go_quiet (fail); try go_wp2)
    go_ret
    exact ⟨by first | rfl | (simp; done) | (simp [*]; done), by repeat (first | exact Drawn0.refl _ | apply Drawn0.step)⟩

end Go.Proofs.Ythflkloghbhhgaa.PAll
/- RowL -/
namespace Go.Proofs.Ythflkloghbhhgaa.Rw
open Go.RowKit Go.Proofs.YthflkloghbhhgaaW.PrintWords Go.Proofs.YthflkloghbhhgaaW.PrintMore Go.Proofs.Ythflkloghbhhgaa.Sh Go.Proofs.Ythflkloghbhhgaa.PAll
open Go.Proofs.Ythflkloghbhhgaa.Rs (chg_below alive_row Yes)
set_option linter.unusedVariables false
set_option linter.unusedSimpArgs false
/-- The state with a second list, of the law's own making. -/
def OInv (W : World) (A1 : Option Addr) (l1 : List Int) (p : Nat) (f0 fr mo : Int) (xs : List Int) (v9 : Value) (ts : List Int) (wr : World) : Prop :=
  ∃ v, RowAt wr W.heap.size p fr mo v xs ∧ W.heap.size < p ∧ wr.heap[W.heap.size]? = some (.cells #[.int .u32 f0, .int .i64 mo] 24 (0, 0)) ∧ Kd.C (Kd.int .i64) wr A1 l1.length l1 ∧ Below W.heap.size W wr ∧
    (Kd.int .i64).Q 3 wr W.heap.size (fun _ => True) v9 ts ∧ ∀ k, v.ownBlock = some k → v9.ownBlock ≠ some k
theorem q_keep {w w' : World} {B : Nat} {v : Value} {xs : List Int} (h : (Kd.int .i64).Q 3 w B (fun _ => True) v xs) (hv : ∀ k, v.ownBlock = some k → w'.heap[k]? = w.heap[k]?) : (Kd.int .i64).Q 3 w' B (fun _ => True) v xs := by
  obtain ⟨a, inner, hq, hr⟩ := h
  exact ⟨a, inner, q_move hq hv, hr.1, fun m x hm => hr.2 m x hm⟩
section
variable {W wr w' : World} {A1 : Option Addr} {l1 : List Int} {p : Nat} {f0 fr fr' mo : Int} {xs ys ts : List Int} {v v' v9 v1 : Value}
theorem OInv.drewN (h : OInv W A1 l1 p f0 fr mo xs v9 ts wr) (m : Nat) : OInv W A1 l1 p f0 fr mo xs v9 ts (wr.drewN m) := by
  obtain ⟨v, h1, h2, h3, h4, h5, h6, h7⟩ := h
  exact ⟨v, h1.drewN m, h2, h3, Kd.C_drewN h4 m, pw_below_drewN h5 m, Kd.Q_drewN h6 m, h7⟩
theorem OInv.step (h1 : RowAt wr W.heap.size p fr mo v xs) (h2 : W.heap.size < p) (h3 : wr.heap[W.heap.size]? = some (.cells #[.int .u32 f0, .int .i64 mo] 24 (0, 0))) (hC0 : Kd.C (Kd.int .i64) W A1 l1.length l1) (h5 : Below W.heap.size W wr)
    (h6 : (Kd.int .i64).Q 3 wr W.heap.size (fun _ => True) v9 ts) (h7 : ∀ k, v.ownBlock = some k → v9.ownBlock ≠ some k)
    (hr : RowAt w' W.heap.size p fr' mo v' ys) (hc : Chg wr w' p v) (ho : v'.ownBlock = v.ownBlock ∨ v'.ownBlock = none ∨ ∃ b, v'.ownBlock = some b ∧ wr.heap.size ≤ b) : OInv W A1 l1 p f0 fr' mo ys v9 ts w' := by
  have hb := chg_below hc h1.1 (fun k hk => Kd.Q_base h1.2.2 k hk) h5.size
  have hB := h5.trans hb
  refine ⟨v', hr, h2, ?_, Kd.C_below hC0 hB, hB, q_keep h6 (fun k hk => ?_), fun k hk he => ?_⟩
  · exact (hc.block _ (blk_lt h3) (by omega) (fun he => Kd.Q_ne h1.2.2 h3 (by decide) he.symm)).trans h3
  · exact hc.block k (Kd.Q_lt h6 k hk) (fun he => Kd.Q_ne h6 h1.2.1 (by decide) (by rw [← he]; exact hk.symm)) (fun he => h7 k he hk)
  · rcases ho with ho | ho | ⟨b, ho, hb⟩
    · exact h7 k (ho ▸ hk) he
    · rw [ho] at hk; cases hk
    · rw [ho] at hk
      injection hk with hk
      have := Kd.Q_lt h6 k he
      omega
theorem OInv.own (h : OInv W A1 l1 p f0 fr mo xs v9 ts wr) : ∃ A c, v9 = .slice A ts.length c ∧ ts.length ≤ c ∧ (Kd.int .i64).C wr A ts.length ts := Kd.Q_reads h.choose_spec.2.2.2.2.2.1
theorem OInv.q (h : OInv W A1 l1 p f0 fr mo xs v9 ts wr) : (Kd.int .i64).Q 3 wr W.heap.size (fun _ => True) v9 ts := h.choose_spec.2.2.2.2.2.1
theorem OInv.box (h : OInv W A1 l1 p f0 fr mo xs v9 ts wr) : wr.heap[W.heap.size]? = some (.cells #[.int .u32 f0, .int .i64 mo] 24 (0, 0)) := h.choose_spec.2.2.1
theorem OInv.below (h : OInv W A1 l1 p f0 fr mo xs v9 ts wr) : Below W.heap.size W wr := h.choose_spec.2.2.2.2.1
end
end Go.Proofs.Ythflkloghbhhgaa.Rw
/- RowO -/
namespace Go.Proofs.Ythflkloghbhhgaa.Rw
open Go.RowKit Go.Proofs.YthflkloghbhhgaaW.PrintWords Go.Proofs.YthflkloghbhhgaaW.PrintMore Go.Proofs.Ythflkloghbhhgaa.Sh Go.Proofs.Ythflkloghbhhgaa.PAll
open Go.Proofs.Ythflkloghbhhgaa.Rs (chg_below alive_row Yes)
set_option linter.unusedVariables false
set_option linter.unusedSimpArgs false
section
variable {p : Nat} {fr mo : Int} {v : Value} {xs : List Int} {w : World} {B : Nat}
theorem len_q (h : RowAt w B p fr mo v xs) (m : Nat) : Calls Try.prog 11 #[.pointer (some ⟨p, 0, none⟩)] (w.drewN m) fun e w' => e = .returned (.int .i64 xs.length) ∧ ∃ n, w' = w.drewN n :=
  (len_row (h.drewN m)).mono fun _ _ hh => ⟨hh.1, m, hh.2.symm⟩
theorem from_q (h : RowAt w B p fr mo v xs) (m : Nat) : Calls Try.prog 16 #[.pointer (some ⟨p, 0, none⟩)] (w.drewN m) fun e w' => e = .returned (.int .u32 fr) ∧ ∃ n, w' = w.drewN n :=
  (from_row (h.drewN m)).mono fun _ _ hh => ⟨hh.1, m, hh.2.symm⟩
theorem next_q (h : RowAt w B p fr mo v xs) (m : Nat) : Calls Try.prog 18 #[.pointer (some ⟨p, 0, none⟩)] (w.drewN m) fun e w' => e = .returned (.int .u32 ((fr + (xs.length : Int)) % 4294967296)) ∧ ∃ n, w' = w.drewN n :=
  (next_row (h.drewN m)).mono fun _ _ ⟨he, n, hw⟩ => ⟨he, m + n, by rw [hw, World.drewN_drewN]⟩
theorem free_q (h : RowAt w B p fr mo v xs) (m : Nat) : Calls Try.prog 25 #[.pointer (some ⟨p, 0, none⟩)] (w.drewN m) fun e w' => e = .returned (.int .i64 (wrap64 (mo - xs.length))) ∧ ∃ n, w' = w.drewN n :=
  (free_row (h.drewN m)).mono fun _ _ ⟨he, n, hw⟩ => ⟨he, m + n, by rw [hw, World.drewN_drewN]⟩
end
/-- The row stands as the reference's. -/
def Stands (w : World) (e : Ending) (w' : World) : Prop := e = .returned (.bool true) ∧ Below w.heap.size w w'
set_option maxRecDepth 100000 in
set_option maxHeartbeats 4000000 in
theorem stands_true {p : Nat} {fr mo : Int} {v : Value} {xs : List Int} {w : World} {B : Nat} (h : RowAt w B p fr mo v xs) (A : Option Addr) (c : Nat) (hC : Kd.C (Kd.int .i64) w A xs.length xs) (hf0 : 0 ≤ fr) (hf1 : fr < 4294967296) (hm0 : 0 ≤ mo) (hm : mo ≤ 1024) (hl : (xs.length : Int) ≤ mo) :
    Calls Try.prog 23 #[.pointer (some ⟨p, 0, none⟩), .agg #[.int .u32 fr, .int .i64 mo, .slice A xs.length c]] w (Stands w) := by
  have hB0 := (Below.refl w.heap.size w).alloc (Nat.le_refl _) (.cells #[.int .u32 fr, .int .i64 mo, .slice A xs.length c] 50 (0, 0))
  have H := Aside0.mk (h.keep (w' := w.alloc (.cells #[.int .u32 fr, .int .i64 mo, .slice A xs.length c] 50 (0, 0))) (Below.heap_alloc w _ p h.lt) (fun k hk => Below.heap_alloc w _ k (Kd.Q_lt h.2.2 k hk)))
  have HC := Aside0.mk (Kd.C_below hC hB0)
  have HB := Aside0.mk hB0
  have HX := Aside0.mk (blk_new w (.cells #[.int .u32 fr, .int .i64 mo, .slice A xs.length c] 50 (0, 0)))
  clear h hC hB0
  have hfree : wrap64 (mo - xs.length) = mo - xs.length := by unfold wrap64; omega
  have HF := Aside0.mk (free_q H.out)
  rw [hfree] at HF
  clear hfree
  have hl1 : xs.length ≤ 1024 := by omega
  go_enter Try.func23, Try.ntmps23
  go_wp2_with fail
  have hx := cc3 HX.out
  go_quiet (first | (go_at_call 16; exact from_q H.out _) | (go_at_call 11; exact len_q H.out _) | (go_at_call 18; exact next_q H.out _) | (go_at_call 25; exact HF.out _))
  go_wp2_with fail
  have HH := Aside0.mk ((HB.out).trans (pw_below_drewN (Below.refl w.heap.size _) nq))
  clear hx
  go_loopw [48] (fun i wr => ∃ j : Nat, j ≤ xs.length ∧ i = .int .i64 j ∧ Aside0 (RowAt wr B p fr mo v xs) ∧ Aside0 (Kd.C (Kd.int .i64) wr A xs.length xs) ∧ Aside0 (wr.heap[w.heap.size]? = some (.cells #[.int .u32 fr, .int .i64 mo, .slice A xs.length c] 50 (0, 0))) ∧ Aside0 (Below w.heap.size w wr)) (fun i _ => xs.length - (intOf i).toNat)
  case atStart => exact ⟨0, Nat.zero_le _, rfl, ⟨H.out.drewN _⟩, ⟨Kd.C_drewN HC.out _⟩, HX, ⟨pw_below_drewN HB.out _⟩⟩
  case round =>
    obtain ⟨j, hj, rfl, H6, HC6, HX6, HB6⟩ := hrel
    have hx := cc3 HX6.out
    by_cases hlt : j < xs.length
    · obtain ⟨ad, hA, hcell⟩ := Kd.at_int HC6.out j (by omega) (by omega)
      obtain rfl : A = some ad := hA
      obtain ⟨y, hy⟩ : ∃ y, rd xs j = y := ⟨_, rfl⟩
      rw [hy, Int.toNat_natCast] at hcell
      have HY := Aside0.mk (show xs.getD j 0 = y by rw [← hy]; unfold rd; simp)
      clear hy
      go_wp2_with (first | (go_at_call 14; refine (at_yes H6.out _ j (by omega) hlt y HY.out).mono ?_; rintro e w7 ⟨rfl, nd, rfl⟩))
      go_roundw
      case rel => exact ⟨j + 1, by omega, by go_num, ⟨H6.out.drewN _⟩, ⟨Kd.C_drewN HC6.out _⟩, HX6, ⟨pw_below_drewN HB6.out _⟩⟩
      case measure => simp [intOf]; omega
    · obtain rfl : j = xs.length := by omega
      go_wp2_with fail
      go_ret
      exact ⟨rfl, HB6.out⟩
end Go.Proofs.Ythflkloghbhhgaa.Rw
/- PAllx32 -/
namespace Go.Proofs.Ythflkloghbhhgaa.PAll
open Go.RowKit Go.Proofs.YthflkloghbhhgaaW.PrintWords Go.Proofs.YthflkloghbhhgaaW.PrintLast Go.Proofs.YthflkloghbhhgaaW.PrintMore Go.Proofs.Ythflkloghbhhgaa.Sh
attribute [local go_sem] max2_int min2_int max_two min_two max_three min_three max_four min_four   -- for this text's walks alone
attribute [local go_sem] Go.Proofs.Ythflkloghbhhgaa.Aid.isSome_setCell
set_option linter.unusedVariables false
set_option linter.unusedSimpArgs false
def weftlineref03_find.l0 : Nat → Int → Int → Int → Int → List Int → Option (Int)
  | 0, _, _, _, _, _ => none
  | k + 1, x1, x5, x128000, x128001, x128002 => if x5 < (x128002.length : Int) then (if ((x128000 + ((x5) % 4294967296)) % 4294967296) = x1 then (some x5) else (weftlineref03_find.l0 k x1 (wrap64 (x5 + 1)) x128000 x128001 x128002)) else (some (-1))
def weftlineref03_find.f (k : Nat) (a0_0 : Int) (a0_1 : Int) (l0_2 : List Int) (a1 : Int) : Option (Int) := weftlineref03_find.l0 k a1 0 a0_0 a0_1 l0_2
set_option maxHeartbeats 8000000 in
set_option maxRecDepth 100000 in
theorem weftlineref03_find.calls (k : Nat) (a0_0 : Int) (a0_1 : Int) (A0_2 : Option Addr) (c0_2 : Nat) (l0_2 : List Int) (a1 : Int) (r : Int) (w : World) (hr0_2 : Kd.C (Kd.int .i64) w A0_2 l0_2.length l0_2) (hc0_2 : l0_2.length ≤ c0_2) (h : weftlineref03_find.f k a0_0 a0_1 l0_2 a1 = some r) :
    Calls Try.prog 43 #[.agg #[.int .u32 a0_0, .int .i64 a0_1, .slice A0_2 l0_2.length c0_2], .int .u32 a1] w fun e w' => e = .returned (.int .i64 r) ∧ Below w.heap.size w w' := by
  have hu50 := Try.underlying50
  have HR0_2 := Aside0.mk hr0_2
  have HC0_2 := Aside0.mk hc0_2
  clear hr0_2 hc0_2
  have HB := A0 (Below.refl w.heap.size w)
  have H : (weftlineref03_find.l0 k a1 0 a0_0 a0_1 l0_2) = some r := h
  clear h
  have H' := Aside0.mk H
  clear H
  go_enter Try.func43, Try.ntmps43
  go_wp2_with (first | ((with_reducible refine gate_dst (N := 2) rfl ?_); refine box_event ?hg (N := 2) ?hd (cs := #[.int .u32 a0_0, .int .i64 a0_1, .slice A0_2 l0_2.length c0_2]) (t := 50) ?hr ?_; (case hd => rfl); (case hg => rfl); (case hr => first | (go_simp; done) | (go_simp; rfl)); intro gb127 hg w3 hbox hb; have n0_ := A0 (below_step (by repeat (first | (with_reducible first | exact HB.out | apply b1 | apply b2 | apply b3) | exact HB.out)) hb); have n1_ := A0 (hbox); have n2_ := A0 ((by rw [hg]; exact (below_size (by repeat (first | (with_reducible first | exact HB.out | apply b1 | apply b2 | apply b3) | exact HB.out))) : w.heap.size ≤ gb127)); have n3_ := n2_; clear HB; have HB := n0_; have BK127 := n1_; have GW127 := n2_; have GE127 := n3_; clear n0_ n1_ n2_ n3_; clear hb hbox hg))
  go_loopg [5] k (fun kq v5 w' => ∃ (x5_1 : Int), v5 = .int .i64 x5_1 ∧ Aside0 (weftlineref03_find.l0 kq a1 x5_1 a0_0 a0_1 l0_2 = some r) ∧ Aside0 (kq ≤ k) ∧ Aside0 (w'.heap[gb127]? = some (.cells #[.int .u32 a0_0, .int .i64 a0_1, (.slice A0_2 l0_2.length c0_2)] 50 (0, 0))) ∧ Aside0 (Below w.heap.size w w'))
  case atStart => exact ⟨(0), (by first | rfl | (simp; done) | (simp [*]; done)), H', ⟨Nat.le_refl _⟩, ⟨by (with_reducible repeat (first | refine q1 ?_ _ | refine q2 ?_ | refine q3 ?_ _)); exact BK127.out⟩, ⟨by repeat (first | (with_reducible first | exact HB.out | apply b1 | apply b2 | apply b3 | refine below_set ?_ GE127.out) | exact HB.out)⟩⟩
  case round =>
    clear H'
    try clear p2
    obtain ⟨x5_1, rfl, HA, HK1, BK127, HB⟩ := hrel
    cases gk with
    | zero => exact absurd HA.out (by simp [weftlineref03_find.l0])
    | succ k1 =>
      have H := HA.out
      clear HA
      simp only [weftlineref03_find.l0] at H
      by_cases c4 : x5_1 < (l0_2.length : Int)
      · rw [if_pos c4] at H
        have c4b0 : decide (x5_1 < (l0_2.length : Int)) = true := decide_eq_true c4
        clear c4
        by_cases c5 : ((a0_0 + ((x5_1) % 4294967296)) % 4294967296) = a1
        · rw [if_pos c5] at H
          have c5b0 : (((a0_0 + ((x5_1) % 4294967296)) % 4294967296) == a1) = true := beq_iff_eq.mpr c5
          have c5b1 : (((a0_0 + ((x5_1) % 4294967296)) % 4294967296) != a1) = false := bne_eq_false_iff_eq.mpr c5
          clear c5
          obtain rfl := Option.some.inj H
          have hcz6 := cc3 BK127.out
          go_wp2
          go_ret
          exact ⟨by first | rfl | (simp [errW_none, errW_some] <;> rfl) | (simp [*, errW_none, errW_some] <;> rfl), by repeat (first | (with_reducible first | exact HB.out | apply b1 | apply b2 | apply b3 | refine below_set ?_ GE127.out) | exact HB.out)⟩
        · rw [if_neg c5] at H
          have c5b0 : (((a0_0 + ((x5_1) % 4294967296)) % 4294967296) == a1) = false := beq_eq_false_iff_ne.mpr c5
          have c5b1 : (((a0_0 + ((x5_1) % 4294967296)) % 4294967296) != a1) = true := bne_iff_ne.mpr c5
          have H' := Aside0.mk H
          clear H
          have hcz7 := cc3 BK127.out
          go_wp2
          go_roundg k1
          case measure => have := HK1.out; omega
          case rel => exact ⟨(wrap64 (x5_1 + 1)), (by first | rfl | (simp; done) | (simp [*]; done)), H', ⟨by have := HK1.out; omega⟩, ⟨by (with_reducible repeat (first | refine q1 ?_ _ | refine q2 ?_ | refine q3 ?_ _)); exact BK127.out⟩, ⟨by repeat (first | (with_reducible first | exact HB.out | apply b1 | apply b2 | apply b3 | refine below_set ?_ GE127.out) | exact HB.out)⟩⟩
      · rw [if_neg c4] at H
        have c4b0 : decide (x5_1 < (l0_2.length : Int)) = false := decide_eq_false c4
        clear c4
        obtain rfl := Option.some.inj H
        have hcz8 := cc3 BK127.out
        go_wp2
        go_ret
        exact ⟨by first | rfl | (simp [errW_none, errW_some] <;> rfl) | (simp [*, errW_none, errW_some] <;> rfl), by repeat (first | (with_reducible first | exact HB.out | apply b1 | apply b2 | apply b3 | refine below_set ?_ GE127.out) | exact HB.out)⟩

end Go.Proofs.Ythflkloghbhhgaa.PAll
/- PAllx35 -/
namespace Go.Proofs.Ythflkloghbhhgaa.PAll
open Go.RowKit Go.Proofs.YthflkloghbhhgaaW.PrintWords Go.Proofs.YthflkloghbhhgaaW.PrintLast Go.Proofs.YthflkloghbhhgaaW.PrintMore Go.Proofs.Ythflkloghbhhgaa.Sh
attribute [local go_sem] max2_int min2_int max_two min_two max_three min_three max_four min_four   -- for this text's walks alone
attribute [local go_sem] Go.Proofs.Ythflkloghbhhgaa.Aid.isSome_setCell
set_option linter.unusedVariables false
set_option linter.unusedSimpArgs false
def weftlineref03_At.f (k : Nat) (a0_0 : Int) (a0_1 : Int) (l0_2 : List Int) (a1 : Int) : Option (Int × Bool) := (weftlineref03_find.f k a0_0 a0_1 l0_2 a1).bind fun t156 => (if t156 < 0 then (some (0, false)) else (if 0 ≤ t156 then (if t156 < (l0_2.length : Int) then (some (rd l0_2 t156, true)) else (none)) else (none)))
set_option maxHeartbeats 8000000 in
set_option maxRecDepth 100000 in
theorem weftlineref03_At.calls (k : Nat) (a0_0 : Int) (a0_1 : Int) (A0_2 : Option Addr) (c0_2 : Nat) (l0_2 : List Int) (a1 : Int) (r1 : Int) (r2 : Bool) (w : World) (hr0_2 : Kd.C (Kd.int .i64) w A0_2 l0_2.length l0_2) (hc0_2 : l0_2.length ≤ c0_2) (h : weftlineref03_At.f k a0_0 a0_1 l0_2 a1 = some (r1, r2)) :
    Calls Try.prog 38 #[.agg #[.int .u32 a0_0, .int .i64 a0_1, .slice A0_2 l0_2.length c0_2], .int .u32 a1] w fun e w' => e = .returned (.tuple #[.int .i64 r1, .bool r2]) ∧ Below w.heap.size w w' := by
  have hu50 := Try.underlying50
  have HR0_2 := Aside0.mk hr0_2
  have HC0_2 := Aside0.mk hc0_2
  clear hr0_2 hc0_2
  have HB := A0 (Below.refl w.heap.size w)
  have H : ((weftlineref03_find.f k a0_0 a0_1 l0_2 a1).bind fun t156 => (if t156 < 0 then (some (0, false)) else (if 0 ≤ t156 then (if t156 < (l0_2.length : Int) then (some (rd l0_2 t156, true)) else (none)) else (none)))) = some (r1, r2) := h
  clear h
  replace H := Option.bind_eq_some_iff.mp H
  obtain ⟨t156, A30, H⟩ := H
  replace H : (if t156 < 0 then (some (0, false)) else (if 0 ≤ t156 then (if t156 < (l0_2.length : Int) then (some (rd l0_2 t156, true)) else (none)) else (none))) = some (r1, r2) := H
  have A3 := Aside0.mk A30
  clear A30
  by_cases c4 : t156 < 0
  · rw [if_pos c4] at H
    have c4b0 : decide (t156 < 0) = true := decide_eq_true c4
    clear c4
    simp only [Option.some.injEq, Prod.mk.injEq] at H
    obtain ⟨rfl, rfl⟩ := H
    go_enter Try.func38, Try.ntmps38
    go_wp2_with (first | ((with_reducible refine gate_dst (N := 2) rfl ?_); refine box_event ?hg (N := 2) ?hd (cs := #[.int .u32 a0_0, .int .i64 a0_1, .slice A0_2 l0_2.length c0_2]) (t := 50) ?hr ?_; (case hd => rfl); (case hg => rfl); (case hr => first | (go_simp; done) | (go_simp; rfl)); intro gb155 hg w5 hbox hb; have n0_ := A0 (below_step (by repeat (first | (with_reducible first | exact HB.out | apply b1 | apply b2 | apply b3) | exact HB.out)) hb); have n1_ := A0 (hbox); have n2_ := A0 ((by rw [hg]; exact (below_size (by repeat (first | (with_reducible first | exact HB.out | apply b1 | apply b2 | apply b3) | exact HB.out))) : w.heap.size ≤ gb155)); have n3_ := n2_; clear HB; have HB := n0_; have BK155 := n1_; have GW155 := n2_; have GE155 := n3_; clear n0_ n1_ n2_ n3_; clear hb hbox hg; have hcz6 := cc3 BK155.out) | ((with_reducible refine gate_callee (f := 43) rfl ?_); refine goesL_ (some 9) rfl rfl Try.func43 (by kernel_rfl) rfl #[.agg #[.int .u32 a0_0, .int .i64 a0_1, .slice A0_2 l0_2.length c0_2], .int .u32 a1] rfl (by (try simp only [List.map_toArray, List.map_cons, List.map_nil]); first | done | rfl | (simp only [List.length_drop, List.length_take]; rfl)) ?_; (with_reducible refine (weftlineref03_find.calls k a0_0 a0_1 _ _ l0_2 a1 t156 _ ?side1 ?side2 A3.out).mono ?_); (case side1 => repeat (first | exact (Kd.C_below HR0_2.out HB.out) | (with_reducible refine Kd.C_alloc ?_ _) | (with_reducible refine Kd.C_drewN ?_ _) | (with_reducible refine Kd.C_drew ?_))); (case side2 => exact HC0_2.out); rintro e w7 ⟨rfl, hb⟩; refine ⟨_, rfl, ?_⟩; have n0_ := A0 (blk_below (by (with_reducible repeat (first | refine q1 ?_ _ | refine q2 ?_ | refine q3 ?_ _)); exact BK155.out) hb); have n1_ := A0 (below_step (by repeat (first | (with_reducible first | exact HB.out | apply b1 | apply b2 | apply b3 | refine below_set ?_ GE155.out) | exact HB.out)) hb); clear BK155; clear HB; have BK155 := n0_; have HB := n1_; clear n0_ n1_; (try clear hb); (try clear hb2); (try clear hk); (try clear hi)))
    go_ret2
    exact ⟨by first | rfl | (simp [errW_none, errW_some] <;> rfl) | (simp [*, errW_none, errW_some] <;> rfl), by repeat (first | (with_reducible first | exact HB.out | apply b1 | apply b2 | apply b3 | refine below_set ?_ GE155.out) | exact HB.out)⟩
  · rw [if_neg c4] at H
    have c4b0 : decide (t156 < 0) = false := decide_eq_false c4
    clear c4
    by_cases c8 : 0 ≤ t156
    · rw [if_pos c8] at H
      have c8b0 : decide (0 ≤ t156) = true := decide_eq_true c8
      clear c8
      by_cases c9 : t156 < (l0_2.length : Int)
      · rw [if_pos c9] at H
        have c9b0 : decide (t156 < (l0_2.length : Int)) = true := decide_eq_true c9
        clear c9
        simp only [Option.some.injEq, Prod.mk.injEq] at H
        obtain ⟨rfl, rfl⟩ := H
        go_enter Try.func38, Try.ntmps38
        go_wp2_with (first | ((with_reducible refine gate_dst (N := 2) rfl ?_); refine box_event ?hg (N := 2) ?hd (cs := #[.int .u32 a0_0, .int .i64 a0_1, .slice A0_2 l0_2.length c0_2]) (t := 50) ?hr ?_; (case hd => rfl); (case hg => rfl); (case hr => first | (go_simp; done) | (go_simp; rfl)); intro gb155 hg w10 hbox hb; have n0_ := A0 (below_step (by repeat (first | (with_reducible first | exact HB.out | apply b1 | apply b2 | apply b3) | exact HB.out)) hb); have n1_ := A0 (hbox); have n2_ := A0 ((by rw [hg]; exact (below_size (by repeat (first | (with_reducible first | exact HB.out | apply b1 | apply b2 | apply b3) | exact HB.out))) : w.heap.size ≤ gb155)); have n3_ := n2_; clear HB; have HB := n0_; have BK155 := n1_; have GW155 := n2_; have GE155 := n3_; clear n0_ n1_ n2_ n3_; clear hb hbox hg; have hcz11 := cc3 BK155.out) | ((with_reducible refine gate_callee (f := 43) rfl ?_); refine goesL_ (some 9) rfl rfl Try.func43 (by kernel_rfl) rfl #[.agg #[.int .u32 a0_0, .int .i64 a0_1, .slice A0_2 l0_2.length c0_2], .int .u32 a1] rfl (by (try simp only [List.map_toArray, List.map_cons, List.map_nil]); first | done | rfl | (simp only [List.length_drop, List.length_take]; rfl)) ?_; (with_reducible refine (weftlineref03_find.calls k a0_0 a0_1 _ _ l0_2 a1 t156 _ ?side1 ?side2 A3.out).mono ?_); (case side1 => repeat (first | exact (Kd.C_below HR0_2.out HB.out) | (with_reducible refine Kd.C_alloc ?_ _) | (with_reducible refine Kd.C_drewN ?_ _) | (with_reducible refine Kd.C_drew ?_))); (case side2 => exact HC0_2.out); rintro e w12 ⟨rfl, hb⟩; refine ⟨_, rfl, ?_⟩; have n0_ := A0 (blk_below (by (with_reducible repeat (first | refine q1 ?_ _ | refine q2 ?_ | refine q3 ?_ _)); exact BK155.out) hb); have n1_ := A0 (below_step (by repeat (first | (with_reducible first | exact HB.out | apply b1 | apply b2 | apply b3 | refine below_set ?_ GE155.out) | exact HB.out)) hb); clear BK155; clear HB; have BK155 := n0_; have HB := n1_; clear n0_ n1_; (try clear hb); (try clear hb2); (try clear hk); (try clear hi); have hcz13 := cc3 BK155.out; have p157 : 0 ≤ (t156 : Int) := of_decide_eq_true (by first | (with_reducible assumption) | assumption); have q157 : t156 < (l0_2.length : Int) := of_decide_eq_true (by first | (with_reducible assumption) | assumption); obtain ⟨ad157, e157, hx157_0⟩ := Kd.at_int HR0_2.out t156 p157 q157; cases e157; replace hx157_0 := (HB.out.cell (World.block_lt_of_cell? w _ hx157_0)).trans hx157_0; replace p157 := eq_true p157; replace q157 := eq_true q157))
        go_ret2
        exact ⟨by first | rfl | (simp [errW_none, errW_some] <;> rfl) | (simp [*, errW_none, errW_some] <;> rfl), by repeat (first | (with_reducible first | exact HB.out | apply b1 | apply b2 | apply b3 | refine below_set ?_ GE155.out) | exact HB.out)⟩
      · rw [if_neg c9] at H
        exact absurd H (by simp)
    · rw [if_neg c8] at H
      exact absurd H (by simp)

end Go.Proofs.Ythflkloghbhhgaa.PAll
/- RowP -/
namespace Go.Proofs.Ythflkloghbhhgaa.Rw
open Go.RowKit Go.Proofs.YthflkloghbhhgaaW.PrintWords Go.Proofs.YthflkloghbhhgaaW.PrintMore Go.Proofs.Ythflkloghbhhgaa.Sh Go.Proofs.Ythflkloghbhhgaa.PAll
set_option linter.unusedVariables false
set_option linter.unusedSimpArgs false
/-- Where the reference finds a number. -/
theorem ref_find (fr mo n : Int) (xs : List Int) (hl : xs.length ≤ 1024) (h0 : 0 ≤ fr) (h1 : fr < 4294967296) (h2 : 0 ≤ n) (h3 : n < 4294967296) :
    weftlineref03_find.f (xs.length + 1) fr mo xs n = some (if (n - fr) % 4294967296 < xs.length then (n - fr) % 4294967296 else -1) := by
  have key : ∀ d i : Nat, i + d = xs.length → (i : Int) ≤ (n - fr) % 4294967296 → weftlineref03_find.l0 (d + 1) n i fr mo xs = some (if (n - fr) % 4294967296 < xs.length then (n - fr) % 4294967296 else -1) := by
    intro d
    induction d with
    | zero =>
      intro i hi hle
      unfold weftlineref03_find.l0
      rw [if_neg (by omega), if_neg (by omega)]
    | succ d ih =>
      intro i hi hle
      unfold weftlineref03_find.l0
      rw [if_pos (by omega)]
      by_cases he : (fr + (i : Int) % 4294967296) % 4294967296 = n
      · rw [if_pos he, show (n - fr) % 4294967296 = (i : Int) by omega, if_pos (by omega)]
      · rw [if_neg he, show wrap64 ((i : Int) + 1) = ((i + 1 : Nat) : Int) by unfold wrap64; omega]
        exact ih (i + 1) (by omega) (by omega)
  exact key xs.length 0 (by omega) (by omega)
theorem ref_at_yes {A : Option Addr} {c : Nat} {fr mo n : Int} {xs : List Int} {w : World} (hC : Kd.C (Kd.int .i64) w A xs.length xs) (hc : xs.length ≤ c) (hl : xs.length ≤ 1024) (h0 : 0 ≤ fr) (h1 : fr < 4294967296) (h2 : 0 ≤ n) (h3 : n < 4294967296) (i : Nat) (hi : (n - fr) % 4294967296 = i) (hlt : i < xs.length) :
    Calls Try.prog 38 #[.agg #[.int .u32 fr, .int .i64 mo, .slice A xs.length c], .int .u32 n] w fun e w' => e = .returned (.tuple #[.int .i64 (xs.getD i 0), .bool true]) ∧ Below w.heap.size w w' := by
  refine weftlineref03_At.calls (xs.length + 1) fr mo A c xs n _ true w hC hc ?_
  unfold weftlineref03_At.f
  rw [ref_find fr mo n xs hl h0 h1 h2 h3, hi, if_pos (by omega)]
  simp only [Option.bind_some]
  rw [if_neg (by omega), if_pos (by omega), if_pos (by omega)]
  simp [rd]
theorem ref_at_no {A : Option Addr} {c : Nat} {fr mo n : Int} {xs : List Int} {w : World} (hC : Kd.C (Kd.int .i64) w A xs.length xs) (hc : xs.length ≤ c) (hl : xs.length ≤ 1024) (h0 : 0 ≤ fr) (h1 : fr < 4294967296) (h2 : 0 ≤ n) (h3 : n < 4294967296) (hi : ¬ (n - fr) % 4294967296 < xs.length) :
    Calls Try.prog 38 #[.agg #[.int .u32 fr, .int .i64 mo, .slice A xs.length c], .int .u32 n] w fun e w' => e = .returned (.tuple #[.int .i64 0, .bool false]) ∧ Below w.heap.size w w' := by
  refine weftlineref03_At.calls (xs.length + 1) fr mo A c xs n _ false w hC hc ?_
  unfold weftlineref03_At.f
  rw [ref_find fr mo n xs hl h0 h1 h2 h3, if_neg hi]
  simp only [Option.bind_some]
  rw [if_pos (by omega)]
end Go.Proofs.Ythflkloghbhhgaa.Rw
/- RowQ -/
namespace Go.Proofs.Ythflkloghbhhgaa.Rw
open Go.RowKit Go.Proofs.YthflkloghbhhgaaW.PrintWords Go.Proofs.YthflkloghbhhgaaW.PrintMore Go.Proofs.Ythflkloghbhhgaa.Sh Go.Proofs.Ythflkloghbhhgaa.PAll
set_option linter.unusedVariables false
set_option linter.unusedSimpArgs false
/-- What a function of the reference leaves: it writes no old memory. -/
def RefTo (w : World) (B : Nat) (v : Value) (ys : List Int) (v' : Value) (w' : World) : Prop :=
  (Kd.int .i64).Q 3 w' B (fun _ => True) v' ys ∧ Below w.heap.size w w' ∧ (v'.ownBlock = v.ownBlock ∨ v'.ownBlock = none ∨ ∃ b, v'.ownBlock = some b ∧ w.heap.size ≤ b)
def RefCut (w : World) (B : Nat) (v : Value) (mo : Int) (xs : List Int) (k : Nat) (n : Int) (e : Ending) (w' : World) : Prop :=
  ∃ v' A c, e = .returned (.tuple #[.agg #[.int .u32 n, .int .i64 mo, v'], .slice A k c, .int .i64 0]) ∧ k ≤ c ∧ Kd.C (Kd.int .i64) w' A k (xs.take k) ∧ RefTo w B v (xs.drop k) v' w'
set_option maxRecDepth 100000 in
set_option maxHeartbeats 1000000 in
theorem ref_cut_yes {A : Option Addr} {c B : Nat} {fr mo n : Int} {xs : List Int} {w : World} (hQ : (Kd.int .i64).Q 3 w B (fun _ => True) (.slice A xs.length c) xs) (hl : xs.length ≤ 1024) (h0 : 0 ≤ fr) (h1 : fr < 4294967296) (h2 : 0 ≤ n) (h3 : n < 4294967296)
    (k : Nat) (hi : (n - fr) % 4294967296 = k) (hk : k ≤ xs.length) : Calls Try.prog 37 #[.agg #[.int .u32 fr, .int .i64 mo, .slice A xs.length c], .int .u32 n] w (RefCut w B (.slice A xs.length c) mo xs k n) := by
  obtain ⟨_, hc, hC⟩ := Kd.Q_reads' hQ
  have HQ := Aside0.mk hQ
  have HC := Aside0.mk hC
  have hcc : xs.length ≤ c := hc
  obtain ⟨r, hr⟩ : ∃ r, weftlineref03_find.f (xs.length + 1) fr mo xs n = some r := ⟨_, ref_find fr mo n xs hl h0 h1 h2 h3⟩
  have hrk : (k < xs.length → r = k) ∧ (k = xs.length → r = -1) := by
    rw [ref_find fr mo n xs hl h0 h1 h2 h3, hi] at hr
    injection hr with hr
    constructor
    · intro h; rw [if_pos (by omega)] at hr; exact hr.symm
    · intro h; rw [if_neg (by omega)] at hr; exact hr.symm
  have HF := Aside0.mk (fun W (h : Below w.heap.size w W) => weftlineref03_find.calls (xs.length + 1) fr mo A c xs n r W (Kd.C_below HC.out h) hcc hr)
  obtain ⟨i0, hi0, _, hsz, _⟩ := info_parts info3
  have hto := cut_to 25 3 .i64 Try.underlying25 hi0 A xs.length c (k : Int) (by omega) (by omega) (by omega)
  have hfrom := cut_from 25 3 .i64 Try.underlying25 hi0 1 hsz A xs.length c (k : Int) (by omega) (by omega)
  rw [Int.toNat_natCast] at hto hfrom
  have hQd := Kd.Q_drop (k := k) hQ (by omega)
  have hT := (Kd.Q_reads' (Kd.Q_take (m := k) hQ hk)).2.2
  have htl : (xs.take k).length = k := by simp; omega
  rw [htl] at hT
  obtain ⟨v', hv'⟩ : ∃ v', v' = Value.slice (if c = k then A else A.map (·.add (k * 1))) (xs.length - k) (c - k) := ⟨_, rfl⟩
  have hown : v'.ownBlock = (Value.slice A xs.length c).ownBlock := by
    rw [hv']
    split
    · cases A <;> rfl
    · cases A with
      | none => rfl
      | some ad => simp only [Option.map_some, Value.ownBlock, Addr.add]; split <;> rfl
  have hQ' : (Kd.int .i64).Q 3 w B (fun _ => True) v' (xs.drop k) := by rw [hv']; exact hQd
  obtain ⟨A1, n1, c1, hform⟩ := q_form hQ'
  rw [← hv', hform] at hfrom
  rw [hform] at hown hQ'
  have HQ' := Aside0.mk hQ'
  have HO := Aside0.mk hown
  have HT := Aside0.mk hT
  have HR := Aside0.mk hrk
  have HI := Aside0.mk hi
  have HB1 := Aside0.mk (((Below.refl w.heap.size w).alloc (Nat.le_refl _) (.cells #[.int .u32 fr, .int .i64 mo, .slice A xs.length c] 50 (0, 0))))
  have HX1 := Aside0.mk (blk_new w (.cells #[.int .u32 fr, .int .i64 mo, .slice A xs.length c] 50 (0, 0)))
  clear hQ hC hr hrk hQd hT hQ' hown hv' hform htl hsz hi0 hc hi
  have HB2 := Aside0.mk (HB1.out.alloc (by simp) (.cells #[.int .u32 0, .int .i64 0, .slice none 0 0] 50 (0, 0)))
  have HX2 := Aside0.mk (blk_alloc HX1.out (.cells #[.int .u32 0, .int .i64 0, .slice none 0 0] 50 (0, 0)))
  have HY2 := Aside0.mk (blk_new (w.alloc (.cells #[.int .u32 fr, .int .i64 mo, .slice A xs.length c] 50 (0, 0))) (.cells #[.int .u32 0, .int .i64 0, .slice none 0 0] 50 (0, 0)))
  simp only [World.size_alloc] at HY2
  have hg0 : w.heap.size ≤ w.heap.size := Nat.le_refl _
  have hg1 : w.heap.size ≤ w.heap.size + 1 := Nat.le_succ _
  go_enter Try.func37, Try.ntmps37
  go_wp2_with fail
  refine (HF.out _ HB2.out).mono ?_
  rintro e w1 ⟨rfl, hb⟩
  have HX := Aside0.mk (blk_below HX2.out hb)
  have HY := Aside0.mk (blk_below HY2.out hb)
  have HB := Aside0.mk (below_step HB2.out hb)
  clear hb HX1 HX2 HY2 HB1 HB2
  have hx := cc3 HX.out
  have hy := cc3 HY.out
  obtain ⟨g, hg⟩ : ∃ g, g = w.heap.size := ⟨_, rfl⟩
  by_cases hlt : k < xs.length
  · obtain rfl := HR.out.1 hlt
    have hne : (n == (fr + (xs.length : Int)) % 4294967296) = false := by rw [beq_eq_false_iff_ne]; have := HI.out; omega
    have hpos : decide ((k : Int) < 0) = false := by simp
    go_wp2_with fail
    (try simp only [Exit.inBlock, Exit.then])
    refine bodyPost_ret (results_ctt rfl _ _ (w.heap.size + 1) 50 #[.int .u32 n, .int .i64 mo, .slice A1 n1 c1] (0, 0) _ rfl ?hblk Try.underlying50 rfl (by kernel_rfl)) rfl ?_
    case hblk =>
      (try with_reducible apply q1)
      refine blk_put (cs := #[.int .u32 n, .int .i64 mo, .slice none 0 0]) ?_ 2 _ rfl
      refine blk_put (cs := #[.int .u32 n, .int .i64 0, .slice none 0 0]) ?_ 1 _ rfl
      refine blk_put (cs := #[.int .u32 0, .int .i64 0, .slice none 0 0]) ?_ 0 _ rfl
      repeat (first | (with_reducible exact HY.out) | (with_reducible refine blk_far ?_ ?hne _; case hne => simp) | (with_reducible apply q1))
    have hbl : ∀ {W : World}, Below w.heap.size w W → Kd.C (Kd.int .i64) W A k (xs.take k) ∧ RefTo w B (.slice A xs.length c) (xs.drop k) (.slice A1 n1 c1) W := fun h => ⟨Kd.C_below HT.out h, Kd.Q_below HQ'.out h, h, Or.inl HO.out⟩
    refine ⟨.slice A1 n1 c1, A, c, rfl, by omega, hbl ?_⟩
    repeat (first | (with_reducible exact HB.out) | (with_reducible refine below_set ?_ hg0) | (with_reducible refine below_set ?_ hg1) | (with_reducible apply b2))
  · obtain rfl : k = xs.length := by omega
    obtain rfl := HR.out.2 rfl
    have hne : (n == (fr + (xs.length : Int)) % 4294967296) = true := by rw [beq_iff_eq]; have := HI.out; omega
    go_wp2_with fail
    (try simp only [Exit.inBlock, Exit.then])
    refine bodyPost_ret (results_ctt rfl _ _ (w.heap.size + 1) 50 #[.int .u32 n, .int .i64 mo, .slice A1 n1 c1] (0, 0) _ rfl ?hblk Try.underlying50 rfl (by kernel_rfl)) rfl ?_
    case hblk =>
      (try with_reducible apply q1)
      refine blk_put (cs := #[.int .u32 n, .int .i64 mo, .slice none 0 0]) ?_ 2 _ rfl
      refine blk_put (cs := #[.int .u32 n, .int .i64 0, .slice none 0 0]) ?_ 1 _ rfl
      refine blk_put (cs := #[.int .u32 0, .int .i64 0, .slice none 0 0]) ?_ 0 _ rfl
      repeat (first | (with_reducible exact HY.out) | (with_reducible refine blk_far ?_ ?hne _; case hne => simp) | (with_reducible apply q1))
    have hbl : ∀ {W : World}, Below w.heap.size w W → Kd.C (Kd.int .i64) W A xs.length (xs.take xs.length) ∧ RefTo w B (.slice A xs.length c) (xs.drop xs.length) (.slice A1 n1 c1) W := fun h => ⟨Kd.C_below HT.out h, Kd.Q_below HQ'.out h, h, Or.inl HO.out⟩
    refine ⟨.slice A1 n1 c1, A, c, rfl, by omega, hbl ?_⟩
    repeat (first | (with_reducible exact HB.out) | (with_reducible refine below_set ?_ hg0) | (with_reducible refine below_set ?_ hg1) | (with_reducible apply b2))
end Go.Proofs.Ythflkloghbhhgaa.Rw
/- RowR -/
namespace Go.Proofs.Ythflkloghbhhgaa.Rw
open Go.RowKit Go.Proofs.YthflkloghbhhgaaW.PrintWords Go.Proofs.YthflkloghbhhgaaW.PrintMore Go.Proofs.Ythflkloghbhhgaa.Sh Go.Proofs.Ythflkloghbhhgaa.PAll
set_option linter.unusedVariables false
set_option linter.unusedSimpArgs false
def RefCutNo (w : World) (A : Option Addr) (c : Nat) (fr mo : Int) (xs : List Int) (e : Ending) (w' : World) : Prop :=
  e = .returned (.tuple #[.agg #[.int .u32 fr, .int .i64 mo, .slice A xs.length c], .slice none 0 0, .int .i64 1]) ∧ Below w.heap.size w w'
set_option maxRecDepth 100000 in
set_option maxHeartbeats 1000000 in
theorem ref_cut_no {A : Option Addr} {c : Nat} {fr mo n : Int} {xs : List Int} {w : World} (hC : Kd.C (Kd.int .i64) w A xs.length xs) (hc : xs.length ≤ c) (hl : xs.length ≤ 1024) (h0 : 0 ≤ fr) (h1 : fr < 4294967296) (h2 : 0 ≤ n) (h3 : n < 4294967296)
    (hi : (xs.length : Int) < (n - fr) % 4294967296) : Calls Try.prog 37 #[.agg #[.int .u32 fr, .int .i64 mo, .slice A xs.length c], .int .u32 n] w (RefCutNo w A c fr mo xs) := by
  have HC := Aside0.mk hC
  have hr : weftlineref03_find.f (xs.length + 1) fr mo xs n = some (-1) := by rw [ref_find fr mo n xs hl h0 h1 h2 h3, if_neg (by omega)]
  have HF := Aside0.mk (fun W (h : Below w.heap.size w W) => weftlineref03_find.calls (xs.length + 1) fr mo A c xs n (-1) W (Kd.C_below HC.out h) hc hr)
  have HB1 := Aside0.mk (((Below.refl w.heap.size w).alloc (Nat.le_refl _) (.cells #[.int .u32 fr, .int .i64 mo, .slice A xs.length c] 50 (0, 0))))
  have HX1 := Aside0.mk (blk_new w (.cells #[.int .u32 fr, .int .i64 mo, .slice A xs.length c] 50 (0, 0)))
  have HB2 := Aside0.mk (HB1.out.alloc (by simp) (.cells #[.int .u32 0, .int .i64 0, .slice none 0 0] 50 (0, 0)))
  have HX2 := Aside0.mk (blk_alloc HX1.out (.cells #[.int .u32 0, .int .i64 0, .slice none 0 0] 50 (0, 0)))
  have HY2 := Aside0.mk (blk_new (w.alloc (.cells #[.int .u32 fr, .int .i64 mo, .slice A xs.length c] 50 (0, 0))) (.cells #[.int .u32 0, .int .i64 0, .slice none 0 0] 50 (0, 0)))
  simp only [World.size_alloc] at HY2
  have hg0 : w.heap.size ≤ w.heap.size := Nat.le_refl _
  have hg1 : w.heap.size ≤ w.heap.size + 1 := Nat.le_succ _
  have hne : (n == (fr + (xs.length : Int)) % 4294967296) = false := by rw [beq_eq_false_iff_ne]; omega
  clear hC hr hi
  go_enter Try.func37, Try.ntmps37
  go_wp2_with fail
  refine (HF.out _ HB2.out).mono ?_
  rintro e w1 ⟨rfl, hb⟩
  have HX := Aside0.mk (blk_below HX2.out hb)
  have HY := Aside0.mk (blk_below HY2.out hb)
  have HB := Aside0.mk (below_step HB2.out hb)
  clear hb HX1 HX2 HY2 HB1 HB2
  have hx := cc3 HX.out
  have hy := cc3 HY.out
  go_wp2_with fail
  (try simp only [Exit.inBlock, Exit.then])
  refine bodyPost_ret (results_ctt rfl _ _ (w.heap.size + 1) 50 #[.int .u32 fr, .int .i64 mo, .slice A xs.length c] (0, 0) _ rfl ?hblk Try.underlying50 rfl (by kernel_rfl)) rfl ?_
  case hblk =>
    (try with_reducible apply q1)
    refine blk_put (cs := #[.int .u32 fr, .int .i64 mo, .slice none 0 0]) ?_ 2 _ rfl
    refine blk_put (cs := #[.int .u32 fr, .int .i64 0, .slice none 0 0]) ?_ 1 _ rfl
    refine blk_put (cs := #[.int .u32 0, .int .i64 0, .slice none 0 0]) ?_ 0 _ rfl
    repeat (first | (with_reducible exact HY.out) | (with_reducible refine blk_far ?_ ?hne _; case hne => simp) | (with_reducible apply q1))
  refine ⟨rfl, ?_⟩
  repeat (first | (with_reducible exact HB.out) | (with_reducible refine below_set ?_ hg0) | (with_reducible refine below_set ?_ hg1) | (with_reducible apply b2))
def RefPopNo (w : World) (A : Option Addr) (c : Nat) (fr mo : Int) (e : Ending) (w' : World) : Prop :=
  e = .returned (.tuple #[.agg #[.int .u32 fr, .int .i64 mo, .slice A 0 c], .int .i64 0, .int .i64 4]) ∧ Below w.heap.size w w'
set_option maxRecDepth 100000 in
set_option maxHeartbeats 1000000 in
theorem ref_pop_no {A : Option Addr} {c : Nat} {fr mo : Int} {w : World} : Calls Try.prog 35 #[.agg #[.int .u32 fr, .int .i64 mo, .slice A 0 c]] w (RefPopNo w A c fr mo) := by
  have HB1 := Aside0.mk (((Below.refl w.heap.size w).alloc (Nat.le_refl _) (.cells #[.int .u32 fr, .int .i64 mo, .slice A 0 c] 50 (0, 0))))
  have HX1 := Aside0.mk (blk_new w (.cells #[.int .u32 fr, .int .i64 mo, .slice A 0 c] 50 (0, 0)))
  have HB := Aside0.mk (HB1.out.alloc (by simp) (.cells #[.int .u32 0, .int .i64 0, .slice none 0 0] 50 (0, 0)))
  have HX := Aside0.mk (blk_alloc HX1.out (.cells #[.int .u32 0, .int .i64 0, .slice none 0 0] 50 (0, 0)))
  have HY := Aside0.mk (blk_new (w.alloc (.cells #[.int .u32 fr, .int .i64 mo, .slice A 0 c] 50 (0, 0))) (.cells #[.int .u32 0, .int .i64 0, .slice none 0 0] 50 (0, 0)))
  simp only [World.size_alloc] at HY
  have hg0 : w.heap.size ≤ w.heap.size := Nat.le_refl _
  have hg1 : w.heap.size ≤ w.heap.size + 1 := Nat.le_succ _
  have hx := cc3 HX.out
  have hy := cc3 HY.out
  go_enter Try.func35, Try.ntmps35
  go_wp2_with fail
  (try simp only [Exit.inBlock, Exit.then])
  refine bodyPost_ret (results_ctt rfl _ _ (w.heap.size + 1) 50 #[.int .u32 fr, .int .i64 mo, .slice A 0 c] (0, 0) _ rfl ?hblk Try.underlying50 rfl (by kernel_rfl)) rfl ?_
  case hblk =>
    have h := blk_new (w.alloc (.cells #[.int .u32 fr, .int .i64 mo, .slice A 0 c] 50 (0, 0))) (.cells #[.int .u32 fr, .int .i64 mo, .slice A 0 c] 50 (0, 0))
    rw [World.size_alloc] at h
    exact h
  refine ⟨rfl, ?_⟩
  exact ((Below.refl w.heap.size w).alloc (Nat.le_refl _) _).alloc (by simp) _
def RefPop (w : World) (B : Nat) (v : Value) (fr mo : Int) (xs : List Int) (y : Int) (e : Ending) (w' : World) : Prop :=
  ∃ v', e = .returned (.tuple #[.agg #[.int .u32 ((fr + 1) % 4294967296), .int .i64 mo, v'], .int .i64 y, .int .i64 0]) ∧ RefTo w B v (xs.drop 1) v' w'
set_option maxRecDepth 100000 in
set_option maxHeartbeats 1000000 in
theorem ref_pop_yes {v : Value} {B : Nat} {fr mo : Int} {xs : List Int} {w : World} (hQ : (Kd.int .i64).Q 3 w B (fun _ => True) v xs) (hl : 0 < xs.length) (y : Int) (hy : xs.getD 0 0 = y) :
    Calls Try.prog 35 #[.agg #[.int .u32 fr, .int .i64 mo, v]] w (RefPop w B v fr mo xs y) := by
  obtain ⟨g, o, c, rfl, hgB, hglt, _⟩ := Kd.Q_form hQ hl
  obtain ⟨i0, hi0, _, hsz, _⟩ := info_parts info3
  have hfrom := cut_from 25 3 .i64 Try.underlying25 hi0 1 hsz (some ⟨g, o, none⟩) xs.length c 1 (by decide) (by omega)
  have hQd := Kd.Q_drop (k := 1) hQ (by omega)
  obtain ⟨v', hv'⟩ : ∃ v', v' = Value.slice (if c = 1 then some ⟨g, o, none⟩ else (some (⟨g, o, none⟩ : Addr)).map (·.add (1 * 1))) (xs.length - 1) (c - 1) := ⟨_, rfl⟩
  have hown : v'.ownBlock = some g := by
    rw [hv']
    split <;> simp [Value.ownBlock, Addr.add]
  have hQ' : (Kd.int .i64).Q 3 w B (fun _ => True) v' (xs.drop 1) := by rw [hv']; exact hQd
  obtain ⟨A1, n1, c1, hform⟩ := q_form hQ'
  have hfrom' : ∀ W : World, (Instr.slice 25 (.slice (some ⟨g, o, none⟩) xs.length c) (some (.int .i64 1)) none none).run Try.prog W = .ok (.slice A1 n1 c1) W := by
    intro W
    rw [← hform, hv']
    exact hfrom W
  rw [hform] at hown hQ'
  have HQ' := Aside0.mk hQ'
  have HO := Aside0.mk hown
  have hn : (((xs.length : Nat) : Int) == 0) = false := by rw [beq_eq_false_iff_ne]; omega
  have hl' : (0 : Int) < (xs.length : Int) := by omega
  have HB1 := Aside0.mk (((Below.refl w.heap.size w).alloc (Nat.le_refl _) (.cells #[.int .u32 fr, .int .i64 mo, .slice (some ⟨g, o, none⟩) xs.length c] 50 (0, 0))))
  have HX1 := Aside0.mk (blk_new w (.cells #[.int .u32 fr, .int .i64 mo, .slice (some ⟨g, o, none⟩) xs.length c] 50 (0, 0)))
  have HB := Aside0.mk (HB1.out.alloc (by simp) (.cells #[.int .u32 0, .int .i64 0, .slice none 0 0] 50 (0, 0)))
  have HX := Aside0.mk (blk_alloc HX1.out (.cells #[.int .u32 0, .int .i64 0, .slice none 0 0] 50 (0, 0)))
  have HY := Aside0.mk (blk_new (w.alloc (.cells #[.int .u32 fr, .int .i64 mo, .slice (some ⟨g, o, none⟩) xs.length c] 50 (0, 0))) (.cells #[.int .u32 0, .int .i64 0, .slice none 0 0] 50 (0, 0)))
  simp only [World.size_alloc] at HY
  have hg0 : w.heap.size ≤ w.heap.size := Nat.le_refl _
  have hg1 : w.heap.size ≤ w.heap.size + 1 := Nat.le_succ _
  obtain ⟨hcell, _⟩ := Kd.Q_cell (d := (0 : Int)) (Kd.Q_below hQ HB.out) 0 (by omega) (by omega)
  rw [show rdOf 0 xs 0 = y from hy, show o + Int.toNat 0 = o from rfl] at hcell
  clear hQ hfrom hQd hv' hform hQ' hown hsz hi0 hy
  have hx := cc3 HX.out
  have hy2 := cc3 HY.out
  go_enter Try.func35, Try.ntmps35
  go_wp2_with fail
  (try simp only [Exit.inBlock, Exit.then])
  refine bodyPost_ret (results_ctt rfl _ _ (w.heap.size + 1) 50 #[.int .u32 ((fr + 1) % 4294967296), .int .i64 mo, .slice A1 n1 c1] (0, 0) _ rfl ?hblk Try.underlying50 rfl (by kernel_rfl)) rfl ?_
  case hblk =>
    have h := blk_new (w.alloc (.cells #[.int .u32 ((fr + 1) % 4294967296), .int .i64 mo, .slice A1 n1 c1] 50 (0, 0))) (.cells #[.int .u32 ((fr + 1) % 4294967296), .int .i64 mo, .slice A1 n1 c1] 50 (0, 0))
    rw [World.size_alloc] at h
    exact h
  have hbl : ∀ {W : World}, Below w.heap.size w W → RefTo w B (.slice (some ⟨g, o, none⟩) xs.length c) (xs.drop 1) (.slice A1 n1 c1) W := fun h => ⟨Kd.Q_below HQ'.out h, h, Or.inl (HO.out.trans (by simp [Value.ownBlock]))⟩
  refine ⟨.slice A1 n1 c1, rfl, hbl ?_⟩
  exact ((Below.refl w.heap.size w).alloc (Nat.le_refl _) _).alloc (by simp) _
end Go.Proofs.Ythflkloghbhhgaa.Rw
/- RowT -/
namespace Go.Proofs.Ythflkloghbhhgaa.Rw
open Go.RowKit Go.Proofs.YthflkloghbhhgaaW.PrintWords Go.Proofs.YthflkloghbhhgaaW.PrintMore Go.Proofs.Ythflkloghbhhgaa.Sh Go.Proofs.Ythflkloghbhhgaa.PAll
set_option linter.unusedVariables false
set_option linter.unusedSimpArgs false
def RefPushNo (w : World) (A : Option Addr) (n c : Nat) (fr mo : Int) (e : Ending) (w' : World) : Prop :=
  e = .returned (.tuple #[.agg #[.int .u32 fr, .int .i64 mo, .slice A n c], .int .u32 0, .int .i64 3]) ∧ Below w.heap.size w w'
set_option maxRecDepth 100000 in
set_option maxHeartbeats 1000000 in
theorem ref_push_no {A : Option Addr} {n c : Nat} {fr mo x : Int} {w : World} (h : mo ≤ (n : Int)) : Calls Try.prog 34 #[.agg #[.int .u32 fr, .int .i64 mo, .slice A n c], .int .i64 x] w (RefPushNo w A n c fr mo) := by
  have HX1 := Aside0.mk (blk_new w (.cells #[.int .u32 fr, .int .i64 mo, .slice A n c] 50 (0, 0)))
  have HX := Aside0.mk (blk_alloc HX1.out (.cells #[.int .u32 0, .int .i64 0, .slice none 0 0] 50 (0, 0)))
  have HY := Aside0.mk (blk_new (w.alloc (.cells #[.int .u32 fr, .int .i64 mo, .slice A n c] 50 (0, 0))) (.cells #[.int .u32 0, .int .i64 0, .slice none 0 0] 50 (0, 0)))
  simp only [World.size_alloc] at HY
  have hd : decide (mo ≤ (n : Int)) = true := by simpa using h
  have hx := cc3 HX.out
  have hy := cc3 HY.out
  go_enter Try.func34, Try.ntmps34
  go_wp2_with fail
  (try simp only [Exit.inBlock, Exit.then])
  refine bodyPost_ret (results_ctt rfl _ _ (w.heap.size + 1) 50 #[.int .u32 fr, .int .i64 mo, .slice A n c] (0, 0) _ rfl ?hblk Try.underlying50 rfl (by kernel_rfl)) rfl ?_
  case hblk =>
    have h := blk_new (w.alloc (.cells #[.int .u32 fr, .int .i64 mo, .slice A n c] 50 (0, 0))) (.cells #[.int .u32 fr, .int .i64 mo, .slice A n c] 50 (0, 0))
    rw [World.size_alloc] at h
    exact h
  exact ⟨rfl, ((Below.refl w.heap.size w).alloc (Nat.le_refl _) _).alloc (by simp) _⟩
end Go.Proofs.Ythflkloghbhhgaa.Rw
/- RowU -/
namespace Go.Proofs.Ythflkloghbhhgaa.Rw
open Go.RowKit Go.Proofs.YthflkloghbhhgaaW.PrintWords Go.Proofs.YthflkloghbhhgaaW.PrintMore Go.Proofs.Ythflkloghbhhgaa.Sh Go.Proofs.Ythflkloghbhhgaa.PAll
set_option linter.unusedVariables false
set_option linter.unusedSimpArgs false
/-- A row's block lies beyond s. -/
def Far (s : Nat) (v : Value) : Prop := ∃ b, v.ownBlock = some b ∧ s ≤ b
theorem Far.ne {s k : Nat} {v : Value} (h : Far s v) (hk : k < s) : some k ≠ v.ownBlock := by
  obtain ⟨b, hb, hs⟩ := h
  intro he
  rw [hb] at he
  injection he with he
  omega
theorem Far.next {s : Nat} {v v1 : Value} {W : World} (h : Far s v) (hs : s ≤ W.heap.size) (ha : v1.ownBlock = v.ownBlock ∨ ∃ b, v1.ownBlock = some b ∧ W.heap.size ≤ b) : Far s v1 := by
  rcases ha with ha | ⟨b, hb, hl⟩
  · obtain ⟨b, hb, hs⟩ := h
    exact ⟨b, ha.trans hb, hs⟩
  · exact ⟨b, hb, by omega⟩
def RefPush (w : World) (B : Nat) (v : Value) (fr mo : Int) (xs : List Int) (x : Int) (e : Ending) (w' : World) : Prop :=
  ∃ v', e = .returned (.tuple #[.agg #[.int .u32 fr, .int .i64 mo, v'], .int .u32 ((fr + (xs.length : Int)) % 4294967296), .int .i64 0]) ∧ RefTo w B v (xs ++ [x]) v' w'
set_option maxRecDepth 100000 in
set_option maxHeartbeats 2000000 in
theorem ref_push_yes {A : Option Addr} {c B : Nat} {fr mo x : Int} {xs : List Int} {w : World} (hC : Kd.C (Kd.int .i64) w A xs.length xs) (hB0 : B ≤ w.heap.size) (hl : (xs.length : Int) < mo) (hm : mo ≤ 1024) :
    Calls Try.prog 34 #[.agg #[.int .u32 fr, .int .i64 mo, .slice A xs.length c], .int .i64 x] w (RefPush w B (.slice A xs.length c) fr mo xs x) := by
  have HC := Aside0.mk hC
  have HX1 := Aside0.mk (blk_new w (.cells #[.int .u32 fr, .int .i64 mo, .slice A xs.length c] 50 (0, 0)))
  have HX := Aside0.mk (blk_alloc HX1.out (.cells #[.int .u32 0, .int .i64 0, .slice none 0 0] 50 (0, 0)))
  have HY := Aside0.mk (blk_new (w.alloc (.cells #[.int .u32 fr, .int .i64 mo, .slice A xs.length c] 50 (0, 0))) (.cells #[.int .u32 0, .int .i64 0, .slice none 0 0] 50 (0, 0)))
  simp only [World.size_alloc] at HY
  have HB := Aside0.mk (((Below.refl w.heap.size w).alloc (Nat.le_refl _) (.cells #[.int .u32 fr, .int .i64 mo, .slice A xs.length c] 50 (0, 0))).alloc (by simp) (.cells #[.int .u32 0, .int .i64 0, .slice none 0 0] 50 (0, 0)))
  have hd : decide (mo ≤ (xs.length : Int)) = false := by simp; omega
  have HL := Aside0.mk (show (([] : List Int).length + xs.length) * 8 ≤ 140737488355328 by simp; omega)
  have HL2 := Aside0.mk (show ((([] : List Int) ++ xs).length + 1) * 8 ≤ 140737488355328 by simp; omega)
  have hg0 : w.heap.size ≤ w.heap.size := Nat.le_refl _
  have hg1 : w.heap.size ≤ w.heap.size + 1 := Nat.le_succ _
  have hx := cc3 HX.out
  have hy := cc3 HY.out
  clear hC HX1
  go_enter Try.func34, Try.ntmps34
  go_wp2_with (first | ((with_reducible refine gate_dst (N := 22) rfl ?_); refine Kd.R_lit (Kd.int .i64) (w0 := w) w.heap.size 3 ?hg (N := 22) ?hd (xs := ([] : List Int)) (inner := []) (ok := fun _ => True) (okp := fun _ => True) ?hr ?hp (fun _ hk => hk) trivial HB.out HB.out.size (by simp) ?_; (case hd => rfl); (case hg => rfl); (case hr => first | (go_simp; done) | (go_simp; rfl)); (case hp => exact (Reps.none _ _)); intro v1 w1 ho hb hg hn; have HO1 := Aside0.mk ho; have HB1 := Aside0.mk hb; have HX1 := Aside0.mk ((hg.block _ (blk_lt HX.out) (by simp)).trans HX.out); have HY1 := Aside0.mk ((hg.block _ (blk_lt HY.out) (by simp)).trans HY.out); have HF1 := Aside0.mk (show Far (w.heap.size + 2) v1 from hn.imp fun b hb => ⟨hb.1, by have := hb.2; simp at this; omega⟩); have HS1 := Aside0.mk (show w.heap.size + 2 ≤ w1.heap.size by have := hg.size; simp at this; omega); clear ho hb hg hn hx hy; obtain ⟨A1, c1, rfl⟩ := Kd.R_slice HO1.out; have hx := cc3 HX1.out; have hy := cc3 HY1.out) | (at_builtin; refine Kd.R_append_rows (Kd.int .i64) (w0 := w) w.heap.size rfl (.tmp 22) (.tmp 24) 25 3 (.int .i64 0) 8 rfl Try.underlying25 info3 rfl (by decide) (by omega) (.slice A1 ([] : List Int).length c1) [] xs _ _ _ (fun _ => True) (fun _ => False) rfl rfl ?aO ?aR (fun _ _ h => h) (fun _ h => h.elim) (fun _ _ => trivial) ?aB ?aS ?aL ?_; (case aO => exact HO1.out); (case aR => exact Kd.C_below HC.out HB1.out); (case aB => exact HB1.out); (case aS => exact HB1.out.size); (case aL => exact HL.out); intro v2 w2 hR2 hB2 hg2 ha2; have HR2 := Aside0.mk hR2; have HB2 := Aside0.mk hB2; have HX2 := Aside0.mk ((hg2.block _ (blk_lt HX1.out) (HF1.out.ne (by omega))).trans HX1.out); have HY2 := Aside0.mk ((hg2.block _ (blk_lt HY1.out) (HF1.out.ne (by omega))).trans HY1.out); have HF2 := Aside0.mk (HF1.out.next HS1.out ha2); have HS2 := Aside0.mk (Nat.le_trans HS1.out hg2.size); clear hR2 hB2 hg2 ha2 hx hy; obtain ⟨A2, c2, rfl⟩ := Kd.R_slice HR2.out; have hx := cc3 HX2.out; have hy := cc3 HY2.out) | (at_builtin; refine Kd.R_append (Kd.int .i64) (w0 := w) w.heap.size rfl (.tmp 25) (.tmp 27) 25 3 (.int .i64 0) 8 rfl Try.underlying25 info3 rfl (by decide) (by decide) (.slice A2 (([] : List Int) ++ xs).length c2) (([] : List Int) ++ xs) x [.int .i64 x] (fun _ => True) (fun _ => False) rfl rfl rfl (fun _ h => h.elim) (fun _ _ => trivial) HR2.out HB2.out HB2.out.size HL2.out ?_; intro v3 w3 hR3 hB3 hg3 ha3; have HR3 := Aside0.mk hR3; have HB3 := Aside0.mk hB3; have HX3 := Aside0.mk ((hg3.block _ (blk_lt HX2.out) (HF2.out.ne (by omega))).trans HX2.out); have HY3 := Aside0.mk ((hg3.block _ (blk_lt HY2.out) (HF2.out.ne (by omega))).trans HY2.out); have HF3 := Aside0.mk (HF2.out.next HS2.out ha3); clear hR3 hB3 hg3 ha3 hx hy; obtain ⟨A3, c3, rfl⟩ := Kd.R_slice HR3.out; have hx := cc3 HX3.out; have hy := cc3 HY3.out))
  (try simp only [Exit.inBlock, Exit.then])
  refine bodyPost_ret (results_ctt rfl _ _ (w.heap.size + 1) 50 #[.int .u32 fr, .int .i64 mo, .slice A3 (xs.length + 1) c3] (0, 0) _ rfl ?hblk Try.underlying50 rfl (by kernel_rfl)) rfl ?_
  case hblk =>
    refine blk_put (cs := #[.int .u32 fr, .int .i64 mo, .slice none 0 0]) ?_ 2 _ rfl
    refine blk_put (cs := #[.int .u32 fr, .int .i64 0, .slice none 0 0]) ?_ 1 _ rfl
    refine blk_put (cs := #[.int .u32 0, .int .i64 0, .slice none 0 0]) ?_ 0 _ rfl
    exact blk_far HY3.out (by simp) _
  have hlen : ((([] : List Int) ++ xs) ++ [x]).length = xs.length + 1 := by simp
  have hR := HR3.out
  have hF := HF3.out
  rw [hlen] at hR hF
  have hQ : (Kd.int .i64).Q 3 w3 B (fun _ => True) (.slice A3 (xs.length + 1) c3) (xs ++ [x]) := Kd.Q_lower (Kd.Q_of_R hR) hB0
  have h0 := Kd.Q_ne hQ HX3.out (by decide)
  have h1 := Kd.Q_ne hQ HY3.out (by decide)
  refine ⟨_, rfl, q_keep hQ (fun k hk => ?_), below_set (below_set (below_set (below_set HB3.out hg0) hg1) hg1) hg1, Or.inr (Or.inr ?_)⟩
  · have k0 : k ≠ w.heap.size := fun he => h0 (by rw [← he]; exact hk.symm)
    have k1 : k ≠ w.heap.size + 1 := fun he => h1 (by rw [← he]; exact hk.symm)
    exact (Below.heap_setCell _ _ _ k k1).trans ((Below.heap_setCell _ _ _ k k1).trans ((Below.heap_setCell _ _ _ k k1).trans (Below.heap_setCell _ _ _ k k0)))
  · obtain ⟨b, hb, hs⟩ := hF
    exact ⟨b, hb, by omega⟩
end Go.Proofs.Ythflkloghbhhgaa.Rw
/- RowV -/
namespace Go.Proofs.Ythflkloghbhhgaa.Rw
open Go.RowKit Go.Proofs.YthflkloghbhhgaaW.PrintWords Go.Proofs.YthflkloghbhhgaaW.PrintMore Go.Proofs.Ythflkloghbhhgaa.Sh Go.Proofs.Ythflkloghbhhgaa.PAll
set_option linter.unusedVariables false
set_option linter.unusedSimpArgs false
def RefSetNo (w : World) (A : Option Addr) (c : Nat) (fr mo : Int) (xs : List Int) (e : Ending) (w' : World) : Prop :=
  e = .returned (.tuple #[.agg #[.int .u32 fr, .int .i64 mo, .slice A xs.length c], .int .i64 4]) ∧ Below w.heap.size w w'
set_option maxRecDepth 100000 in
set_option maxHeartbeats 1000000 in
theorem ref_set_no {A : Option Addr} {c : Nat} {fr mo n x : Int} {xs : List Int} {w : World} (hC : Kd.C (Kd.int .i64) w A xs.length xs) (hc : xs.length ≤ c) (hl : xs.length ≤ 1024) (h0 : 0 ≤ fr) (h1 : fr < 4294967296) (h2 : 0 ≤ n) (h3 : n < 4294967296)
    (hi : ¬ (n - fr) % 4294967296 < xs.length) : Calls Try.prog 36 #[.agg #[.int .u32 fr, .int .i64 mo, .slice A xs.length c], .int .u32 n, .int .i64 x] w (RefSetNo w A c fr mo xs) := by
  have HC := Aside0.mk hC
  have hr : weftlineref03_find.f (xs.length + 1) fr mo xs n = some (-1) := by rw [ref_find fr mo n xs hl h0 h1 h2 h3, if_neg hi]
  have HF := Aside0.mk (fun W (h : Below w.heap.size w W) => weftlineref03_find.calls (xs.length + 1) fr mo A c xs n (-1) W (Kd.C_below HC.out h) hc hr)
  have HB1 := Aside0.mk (((Below.refl w.heap.size w).alloc (Nat.le_refl _) (.cells #[.int .u32 fr, .int .i64 mo, .slice A xs.length c] 50 (0, 0))))
  have HX1 := Aside0.mk (blk_new w (.cells #[.int .u32 fr, .int .i64 mo, .slice A xs.length c] 50 (0, 0)))
  have HB2 := Aside0.mk (HB1.out.alloc (by simp) (.cells #[.int .u32 0, .int .i64 0, .slice none 0 0] 50 (0, 0)))
  have HX2 := Aside0.mk (blk_alloc HX1.out (.cells #[.int .u32 0, .int .i64 0, .slice none 0 0] 50 (0, 0)))
  have HY2 := Aside0.mk (blk_new (w.alloc (.cells #[.int .u32 fr, .int .i64 mo, .slice A xs.length c] 50 (0, 0))) (.cells #[.int .u32 0, .int .i64 0, .slice none 0 0] 50 (0, 0)))
  simp only [World.size_alloc] at HY2
  have hg0 : w.heap.size ≤ w.heap.size := Nat.le_refl _
  have hg1 : w.heap.size ≤ w.heap.size + 1 := Nat.le_succ _
  clear hC hr hi
  go_enter Try.func36, Try.ntmps36
  go_wp2_with fail
  refine (HF.out _ HB2.out).mono ?_
  rintro e w1 ⟨rfl, hb⟩
  have HX := Aside0.mk (blk_below HX2.out hb)
  have HY := Aside0.mk (blk_below HY2.out hb)
  have HB := Aside0.mk (below_step HB2.out hb)
  clear hb HX1 HX2 HY2 HB1 HB2
  have hx := cc3 HX.out
  have hy := cc3 HY.out
  go_wp2_with fail
  (try simp only [Exit.inBlock, Exit.then])
  refine bodyPost_ret (results_ct rfl _ _ (w.heap.size + 1) 50 #[.int .u32 fr, .int .i64 mo, .slice A xs.length c] (0, 0) _ rfl ?hblk Try.underlying50 rfl (by kernel_rfl)) rfl ?_
  case hblk =>
    refine blk_put (cs := #[.int .u32 fr, .int .i64 mo, .slice none 0 0]) ?_ 2 _ rfl
    refine blk_put (cs := #[.int .u32 fr, .int .i64 0, .slice none 0 0]) ?_ 1 _ rfl
    refine blk_put (cs := #[.int .u32 0, .int .i64 0, .slice none 0 0]) ?_ 0 _ rfl
    exact HY.out
  exact ⟨rfl, below_set (below_set (below_set HB.out hg1) hg1) hg1⟩
end Go.Proofs.Ythflkloghbhhgaa.Rw
/- RowX -/
namespace Go.Proofs.Ythflkloghbhhgaa.Rw
open Go.RowKit Go.Proofs.YthflkloghbhhgaaW.PrintWords Go.Proofs.YthflkloghbhhgaaW.PrintMore Go.Proofs.Ythflkloghbhhgaa.Sh Go.Proofs.Ythflkloghbhhgaa.PAll
set_option linter.unusedVariables false
set_option linter.unusedSimpArgs false
theorem far_slice {s b o n c : Nat} (h : Far s (.slice (some ⟨b, o, none⟩) n c)) : s ≤ b := by
  obtain ⟨b', hb', hs'⟩ := h
  have he : some b = some b' := hb'
  injection he with he
  omega
def RefSet (w : World) (B : Nat) (v : Value) (fr mo : Int) (ys : List Int) (e : Ending) (w' : World) : Prop :=
  ∃ v', e = .returned (.tuple #[.agg #[.int .u32 fr, .int .i64 mo, v'], .int .i64 0]) ∧ RefTo w B v ys v' w'
set_option maxRecDepth 100000 in
set_option maxHeartbeats 2000000 in
theorem ref_set_yes {A : Option Addr} {c B : Nat} {fr mo n x : Int} {xs : List Int} {w : World} (hC : Kd.C (Kd.int .i64) w A xs.length xs) (hc : xs.length ≤ c) (hB0 : B ≤ w.heap.size) (hl : xs.length ≤ 1024) (h0 : 0 ≤ fr) (h1 : fr < 4294967296) (h2 : 0 ≤ n) (h3 : n < 4294967296)
    (i : Nat) (hi : (n - fr) % 4294967296 = i) (hlt : i < xs.length) : Calls Try.prog 36 #[.agg #[.int .u32 fr, .int .i64 mo, .slice A xs.length c], .int .u32 n, .int .i64 x] w (RefSet w B (.slice A xs.length c) fr mo (xs.set i x)) := by
  have HC := Aside0.mk hC
  have hr : weftlineref03_find.f (xs.length + 1) fr mo xs n = some (i : Int) := by rw [ref_find fr mo n xs hl h0 h1 h2 h3, hi, if_pos (by omega)]
  have HF := Aside0.mk (fun W (h : Below w.heap.size w W) => weftlineref03_find.calls (xs.length + 1) fr mo A c xs n (i : Int) W (Kd.C_below HC.out h) hc hr)
  have HB1 := Aside0.mk (((Below.refl w.heap.size w).alloc (Nat.le_refl _) (.cells #[.int .u32 fr, .int .i64 mo, .slice A xs.length c] 50 (0, 0))))
  have HX1 := Aside0.mk (blk_new w (.cells #[.int .u32 fr, .int .i64 mo, .slice A xs.length c] 50 (0, 0)))
  have HB2 := Aside0.mk (HB1.out.alloc (by simp) (.cells #[.int .u32 0, .int .i64 0, .slice none 0 0] 50 (0, 0)))
  have HX2 := Aside0.mk (blk_alloc HX1.out (.cells #[.int .u32 0, .int .i64 0, .slice none 0 0] 50 (0, 0)))
  have HY2 := Aside0.mk (blk_new (w.alloc (.cells #[.int .u32 fr, .int .i64 mo, .slice A xs.length c] 50 (0, 0))) (.cells #[.int .u32 0, .int .i64 0, .slice none 0 0] 50 (0, 0)))
  simp only [World.size_alloc] at HY2
  have HL := Aside0.mk (show (([] : List Int).length + xs.length) * 8 ≤ 140737488355328 by simp; omega)
  have hg0 : w.heap.size ≤ w.heap.size := Nat.le_refl _
  have hg1 : w.heap.size ≤ w.heap.size + 1 := Nat.le_succ _
  have hn : decide ((i : Int) < 0) = false := by simp
  have hil : (i : Int) < (xs.length : Int) := by omega
  clear hC hr hi
  go_enter Try.func36, Try.ntmps36
  go_wp2_with fail
  refine (HF.out _ HB2.out).mono ?_
  rintro e w0 ⟨rfl, hb⟩
  have HX := Aside0.mk (blk_below HX2.out hb)
  have HY := Aside0.mk (blk_below HY2.out hb)
  have HB := Aside0.mk (below_step HB2.out hb)
  have HS := Aside0.mk (show w.heap.size + 2 ≤ w0.heap.size by have := hb.size; simp at this; omega)
  clear hb HX1 HX2 HY2 HB1 HB2
  have hx := cc3 HX.out
  have hy := cc3 HY.out
  go_wp2_with (first | ((with_reducible refine gate_dst (N := 15) rfl ?_); refine Kd.R_lit (Kd.int .i64) (w0 := w) w.heap.size 3 ?hg (N := 15) ?hd (xs := ([] : List Int)) (inner := []) (ok := fun _ => True) (okp := fun _ => True) ?hr ?hp (fun _ hk => hk) trivial HB.out HB.out.size (by simp) ?_; (case hd => rfl); (case hg => rfl); (case hr => first | (go_simp; done) | (go_simp; rfl)); (case hp => exact (Reps.none _ _)); intro v1 w1 ho hb hg hn; have HO1 := Aside0.mk ho; have HB1 := Aside0.mk hb; have HX1 := Aside0.mk ((hg.block _ (blk_lt HX.out) (by simp)).trans HX.out); have HY1 := Aside0.mk ((hg.block _ (blk_lt HY.out) (by simp)).trans HY.out); have HF1 := Aside0.mk (show Far (w.heap.size + 2) v1 from hn.imp fun b hb => ⟨hb.1, Nat.le_trans HS.out hb.2⟩); have HS1 := Aside0.mk (Nat.le_trans HS.out hg.size); clear ho hb hg hn hx hy; obtain ⟨A1, c1, rfl⟩ := Kd.R_slice HO1.out; have hx := cc3 HX1.out; have hy := cc3 HY1.out) | (at_builtin; refine Kd.R_append_rows (Kd.int .i64) (w0 := w) w.heap.size rfl (.tmp 15) (.tmp 17) 25 3 (.int .i64 0) 8 rfl Try.underlying25 info3 rfl (by decide) (by omega) (.slice A1 ([] : List Int).length c1) [] xs _ _ _ (fun _ => True) (fun _ => False) rfl rfl ?aO ?aR (fun _ _ h => h) (fun _ h => h.elim) (fun _ _ => trivial) ?aB ?aS ?aL ?_; (case aO => exact HO1.out); (case aR => exact Kd.C_below HC.out HB1.out); (case aB => exact HB1.out); (case aS => exact HB1.out.size); (case aL => exact HL.out); intro v2 w2 hR2 hB2 hg2 ha2; have hQ2 : (Kd.int .i64).Q 3 w2 w.heap.size (fun _ => True) v2 xs := Kd.Q_of_R hR2; have HB2 := Aside0.mk hB2; have HX2 := Aside0.mk ((hg2.block _ (blk_lt HX1.out) (HF1.out.ne (by omega))).trans HX1.out); have HY2 := Aside0.mk ((hg2.block _ (blk_lt HY1.out) (HF1.out.ne (by omega))).trans HY1.out); have hF2 := (HF1.out.next HS1.out ha2); clear hR2 hB2 hg2 ha2 hx hy; obtain ⟨b, o, c2, rfl, _, _, _⟩ := Kd.Q_form hQ2 (by omega); have hb2 : w.heap.size + 2 ≤ b := far_slice hF2; obtain ⟨hcell, hfro⟩ := Kd.Q_cell (d := (0 : Int)) hQ2 i (by omega) (by omega); (try simp only [Int.toNat_natCast] at hcell hfro); obtain ⟨y0, hy0⟩ : ∃ y0, rdOf (0 : Int) xs (i : Int) = y0 := ⟨_, rfl⟩; rw [hy0] at hcell; clear hy0; have HQ2 := Aside0.mk hQ2; clear hQ2 hF2; have hn1 : ¬ b = w.heap.size := (by omega); have hn2 : ¬ w.heap.size = b := (by omega); have hx := cc3 HX2.out; have hy := cc3 HY2.out))
  (try simp only [Exit.inBlock, Exit.then])
  have hY3 := blk_far (p := ⟨b, o + i, none⟩) (blk_far (p := ⟨w.heap.size, 2, none⟩) HY2.out (by simp) (.slice (some ⟨b, o, none⟩) xs.length c2)) (show w.heap.size + 1 ≠ b by omega) (.int .i64 x)
  refine bodyPost_ret (results_ct rfl _ _ (w.heap.size + 1) 50 #[.int .u32 fr, .int .i64 mo, .slice (some ⟨b, o, none⟩) xs.length c2] (0, 0) _ rfl ?hblk Try.underlying50 rfl (by kernel_rfl)) rfl ?_
  case hblk =>
    refine blk_put (cs := #[.int .u32 fr, .int .i64 mo, .slice none 0 0]) ?_ 2 _ rfl
    refine blk_put (cs := #[.int .u32 fr, .int .i64 0, .slice none 0 0]) ?_ 1 _ rfl
    refine blk_put (cs := #[.int .u32 0, .int .i64 0, .slice none 0 0]) ?_ 0 _ rfl
    exact hY3
  have hQa : (Kd.int .i64).Q 3 (w2.setCell ⟨w.heap.size, 2, none⟩ (.slice (some ⟨b, o, none⟩) xs.length c2)) w.heap.size (fun _ => True) (.slice (some ⟨b, o, none⟩) xs.length c2) xs :=
    q_keep HQ2.out (fun k hk => Below.heap_setCell _ _ _ k (fun he => hn1 (by
      have h : some b = some k := hk
      injection h with h
      rw [h]; exact he)))
  have hQb := (Kd.Q_putg hQa (i : Int) (by omega) (by omega) x).1
  rw [Int.toNat_natCast] at hQb
  have hQc : (Kd.int .i64).Q 3 ((w2.setCell ⟨w.heap.size, 2, none⟩ (.slice (some ⟨b, o, none⟩) xs.length c2)).setCell ⟨b, o + i, none⟩ (.int .i64 x)) B (fun _ => True) (.slice (some ⟨b, o, none⟩) xs.length c2) (xs.set i x) := Kd.Q_lower hQb hB0
  have hbb : w.heap.size ≤ b := Nat.le_trans (Nat.le_add_right _ 2) hb2
  have hb1 : b ≠ w.heap.size + 1 := fun he => absurd hb2 (by rw [he]; simp)
  have key : ∀ W' : World, W'.heap[b]? = ((w2.setCell ⟨w.heap.size, 2, none⟩ (.slice (some ⟨b, o, none⟩) xs.length c2)).setCell ⟨b, o + i, none⟩ (.int .i64 x)).heap[b]? → (Kd.int .i64).Q 3 W' B (fun _ => True) (.slice (some ⟨b, o, none⟩) xs.length c2) (xs.set i x) := by
    intro W' hw
    refine q_keep hQc ?_
    intro k hk
    have h : some b = some k := hk
    cases h
    exact hw
  refine ⟨.slice (some ⟨b, o, none⟩) xs.length c2, rfl, ?_, ?_, Or.inr (Or.inr ⟨b, rfl, hbb⟩)⟩
  · refine key _ ?_
    exact (Below.heap_setCell _ _ _ b hb1).trans ((Below.heap_setCell _ _ _ b hb1).trans (Below.heap_setCell _ _ _ b hb1))
  · exact below_set (below_set (below_set (below_set (below_set HB2.out hg0) hbb) hg1) hg1) hg1
end Go.Proofs.Ythflkloghbhhgaa.Rw
/- RowY -/
namespace Go.Proofs.Ythflkloghbhhgaa.Rw
open Go.RowKit Go.Proofs.YthflkloghbhhgaaW.PrintWords Go.Proofs.YthflkloghbhhgaaW.PrintMore Go.Proofs.Ythflkloghbhhgaa.Sh Go.Proofs.Ythflkloghbhhgaa.PAll
set_option linter.unusedVariables false
set_option linter.unusedSimpArgs false
/-- A row of its own, at a new block. -/
def Copied (w : World) (fr mo : Int) (xs : List Int) (e : Ending) (w' : World) : Prop :=
  ∃ p v, e = .returned (.pointer (some ⟨p, 0, none⟩)) ∧ RowAt w' w.heap.size p fr mo v xs ∧ Below w.heap.size w w'
theorem copied_fin {w w1 : World} {fr mo : Int} {xs : List Int} {A2 : Option Addr} {c2 : Nat} (hR : (Kd.int .i64).R 3 w1 w.heap.size (fun _ => True) (.slice A2 xs.length c2) xs) (hB : Below w.heap.size w w1) :
    Copied w fr mo xs (.returned (.pointer (some ⟨w1.heap.size, 0, none⟩))) (w1.alloc (.cells #[.int .u32 fr, .int .i64 mo, .slice A2 xs.length c2] 65 (0, 0))) :=
  ⟨_, _, rfl, ⟨hB.size, blk_new _ _, Kd.Q_of_R (Kd.R_alloc hR _)⟩, hB.alloc hB.size _⟩
set_option maxRecDepth 100000 in
set_option maxHeartbeats 2000000 in
theorem copy_row {p : Nat} {fr mo : Int} {v : Value} {xs : List Int} {w : World} {B : Nat} (h : RowAt w B p fr mo v xs) (hl : xs.length ≤ 1024) : Calls Try.prog 22 #[.pointer (some ⟨p, 0, none⟩)] w (Copied w fr mo xs) := by
  obtain ⟨A, c, rfl, hc, hC⟩ := h.slice
  have HC := Aside0.mk hC
  have HX := Aside0.mk h.2.1
  have hx := cc3 HX.out
  clear h hC
  go_enter Try.func22, Try.ntmps22
  go_wp2_with fail
  go_region_with (first | (go_at_call 33; refine (clone_row (Kd.C_drewN HC.out _) hl).mono ?_; rintro e w1 ⟨A2, c2, rfl, hR, hBl⟩; have HR := Aside0.mk hR; have HBl := Aside0.mk hBl; have HX1 := Aside0.mk (blk_below (q1 HX.out _) hBl); clear hR hBl; have hx1 := cc3 HX1.out))
  all_goals go_wp2_with fail
  all_goals go_ret
  all_goals first | exact copied_fin HR.out HBl.out | exact copied_fin HR.out ((pw_below_drewN (Below.refl w.heap.size w) _).trans HBl.out)
end Go.Proofs.Ythflkloghbhhgaa.Rw
/- RowZa -/
namespace Go.Proofs.Ythflkloghbhhgaa.Rw
open Go.RowKit Go.Proofs.YthflkloghbhhgaaW.PrintWords Go.Proofs.YthflkloghbhhgaaW.PrintMore Go.Proofs.Ythflkloghbhhgaa.Sh Go.Proofs.Ythflkloghbhhgaa.PAll
open Go.Proofs.Ythflkloghbhhgaa.Rs (chg_below)
set_option linter.unusedVariables false
set_option linter.unusedSimpArgs false
abbrev ACT : Kd (Int × Int × Int) := Kd.pair (Kd.int .i64) (Kd.pair (Kd.int .u32) (Kd.int .i64))
theorem add_off (ad : Addr) (n k : Nat) : ad.add (n + (k + 1)) = ⟨(ad.add n).block, (ad.add n).off + (k + 1), none⟩ := by
  unfold Addr.add
  rw [if_neg (by omega)]
  split
  · rename_i h; subst h; simp
  · simp; omega
theorem act_cells {W : World} {A : Option Addr} {n : Nat} {l : List (Int × Int × Int)} (h : Kd.C ACT W A n l) (k : Nat) (hk : k < n) :
    ∃ ad, A = some ad ∧ W.cell? (ad.add (k * 3)) = some (.int .i64 (l.getD k (0, 0, 0)).1) ∧ W.cell? ⟨(ad.add (k * 3)).block, (ad.add (k * 3)).off + 1, none⟩ = some (.int .u32 (l.getD k (0, 0, 0)).2.1) ∧ W.cell? ⟨(ad.add (k * 3)).block, (ad.add (k * 3)).off + 2, none⟩ = some (.int .i64 (l.getD k (0, 0, 0)).2.2) := by
  obtain ⟨ad, cs, hA, hl, hK, hc⟩ := Kd.C_get h (0, 0, 0) k (by omega) (by omega)
  rw [Int.toNat_natCast] at hK hc
  obtain ⟨c0, c1, rfl, h0, c2, c3, rfl, h1, h2⟩ := hK
  have e0 : c0 = [.int .i64 (l.getD k (0, 0, 0)).1] := h0
  have e1 : c2 = [.int .u32 (l.getD k (0, 0, 0)).2.1] := h1
  have e2 : c3 = [.int .i64 (l.getD k (0, 0, 0)).2.2] := h2
  subst e0 e1 e2
  refine ⟨ad, hA, hc 0 _ rfl, ?_, ?_⟩
  · have h := hc 1 _ rfl
    rw [show k * ACT.sz + 1 = k * 3 + (0 + 1) from rfl, add_off] at h
    exact h
  · have h := hc 2 _ rfl
    rw [show k * ACT.sz + 2 = k * 3 + (1 + 1) from rfl, add_off] at h
    exact h
/-- The state of play: the row, the reference's value in the box g4 (its cells c0 c1 c2) or on its way (v9). -/
structure PP (w : World) (B p g4 g6 : Nat) (v0 : Value) (mo : Int) (wr : World) (fr : Int) (v : Value) (xs : List Int) (c0 c1 c2 v9 : Value) (ys : List Int) : Prop where
  row : RowAt wr B p fr mo v xs
  box : wr.heap[g4]? = some (.cells #[c0, c1, c2] 50 (0, 0))
  q : (Kd.int .i64).Q 3 wr B (fun _ => True) v9 ys
  apart : ∀ k, v.ownBlock = some k → v9.ownBlock ≠ some k
  own : v.ownBlock = v0.ownBlock ∨ v.ownBlock = none ∨ ∃ b, v.ownBlock = some b ∧ w.heap.size ≤ b
  res : wr.heap[g6]? = some (.cells #[.int .u32 0, .int .i64 0, .slice none 0 0] 50 (0, 0))
  g46 : w.heap.size ≤ g4 ∧ w.heap.size ≤ g6 ∧ g4 ≠ g6
  chg : Chg w wr p v0
section
variable {w wr w' : World} {B p g4 g6 : Nat} {v0 v v' v9 v9' : Value} {mo fr fr' : Int} {xs xs' ys ys' : List Int} {c0 c1 c2 d0 d1 d2 : Value}
/-- The world has turned elsewhere. -/
theorem PP.keep (h : PP w B p g4 g6 v0 mo wr fr v xs c0 c1 c2 v9 ys) (hc : Chg w w' p v0) (hm : ∀ k, k < wr.heap.size → w'.heap[k]? = wr.heap[k]?) : PP w B p g4 g6 v0 mo w' fr v xs c0 c1 c2 v9 ys :=
  ⟨h.row.keep (hm p h.row.lt) (fun k hk => hm k (Kd.Q_lt h.row.2.2 k hk)), (hm _ (blk_lt h.box)).trans h.box, q_keep h.q (fun k hk => hm k (Kd.Q_lt h.q k hk)), h.apart, h.own, (hm _ (blk_lt h.res)).trans h.res, h.g46, hc⟩
theorem Chg.below (h : Chg w wr p v) (hb : Below wr.heap.size wr w') : Chg w w' p v :=
  ⟨hb.os.trans h.os, hb.tape.trans h.tape, hb.output.trans h.output, Nat.le_trans h.size hb.size, fun k hk hp hv => (hb.block k (Nat.lt_of_lt_of_le hk h.size)).trans (h.block k hk hp hv)⟩
theorem PP.below (h : PP w B p g4 g6 v0 mo wr fr v xs c0 c1 c2 v9 ys) (hb : Below wr.heap.size wr w') : PP w B p g4 g6 v0 mo w' fr v xs c0 c1 c2 v9 ys := h.keep (h.chg.below hb) hb.block
theorem PP.alloc (h : PP w B p g4 g6 v0 mo wr fr v xs c0 c1 c2 v9 ys) (o : Obj) : PP w B p g4 g6 v0 mo (wr.alloc o) fr v xs c0 c1 c2 v9 ys := h.below ((Below.refl wr.heap.size wr).alloc (Nat.le_refl _) o)
theorem PP.drewN (h : PP w B p g4 g6 v0 mo wr fr v xs c0 c1 c2 v9 ys) (m : Nat) : PP w B p g4 g6 v0 mo (wr.drewN m) fr v xs c0 c1 c2 v9 ys := h.below (pw_below_drewN (Below.refl wr.heap.size wr) m)
theorem PP.drew (h : PP w B p g4 g6 v0 mo wr fr v xs c0 c1 c2 v9 ys) : PP w B p g4 g6 v0 mo wr.drew fr v xs c0 c1 c2 v9 ys := h.drewN 1
theorem PP.size (h : PP w B p g4 g6 v0 mo wr fr v xs c0 c1 c2 v9 ys) : w.heap.size ≤ wr.heap.size := h.chg.size
/-- A function of the reference has answered. -/
theorem PP.ref (h : PP w B p g4 g6 v0 mo wr fr v xs c0 c1 c2 v9 ys) (hr : RefTo wr B v9 ys' v9' w') : PP w B p g4 g6 v0 mo w' fr v xs c0 c1 c2 v9' ys' := by
  obtain ⟨hq, hb, ho⟩ := hr
  have h2 := h.below hb
  refine ⟨h2.row, h2.box, hq, fun k hk he => ?_, h2.own, h2.res, h2.g46, h2.chg⟩
  rcases ho with ho | ho | ⟨b, ho, hb⟩
  · exact h.apart k hk (ho ▸ he)
  · rw [ho] at he; cases he
  · rw [ho] at he
    injection he with he
    have := Kd.Q_lt h.row.2.2 k hk
    omega
/-- The row has turned. -/
theorem PP.step (h : PP w B p g4 g6 v0 mo wr fr v xs c0 c1 c2 v9 ys) (hp : p < w.heap.size) (hr : RowAt w' B p fr' mo v' xs') (hc : Chg wr w' p v) (ho : v'.ownBlock = v.ownBlock ∨ v'.ownBlock = none ∨ ∃ b, v'.ownBlock = some b ∧ wr.heap.size ≤ b) : PP w B p g4 g6 v0 mo w' fr' v' xs' c0 c1 c2 v9 ys := by
  have hs := h.size
  have hg := h.g46
  have hchg : Chg w w' p v0 := ⟨hc.os.trans h.chg.os, hc.tape.trans h.chg.tape, hc.output.trans h.chg.output, Nat.le_trans hs hc.size, fun k hk hkp hv => (hc.block k (Nat.lt_of_lt_of_le hk hs) hkp (fun he => by
    rcases h.own with e | e | ⟨b, e, hb⟩
    · exact hv (e ▸ he)
    · rw [e] at he; cases he
    · rw [e] at he; injection he with he; omega)).trans (h.chg.block k hk hkp hv)⟩
  have hbx : ∀ {g : Nat} {cs : Array Value}, wr.heap[g]? = some (.cells cs 50 (0, 0)) → w.heap.size ≤ g → w'.heap[g]? = some (.cells cs 50 (0, 0)) := fun {g cs} hgx hgs =>
    (hc.block g (blk_lt hgx) (by omega) (fun he => Kd.Q_ne h.row.2.2 hgx (by decide) he.symm)).trans hgx
  refine ⟨hr, hbx h.box hg.1, q_keep h.q (fun k hk => ?_), fun k hk he => ?_, ?_, hbx h.res hg.2.1, hg, hchg⟩
  · exact hc.block k (Kd.Q_lt h.q k hk) (fun he => Kd.Q_ne h.q h.row.2.1 (by decide) (by rw [← he]; exact hk.symm)) (fun he => h.apart k he hk)
  · rcases ho with ho | ho | ⟨b, ho, hb⟩
    · exact h.apart k (ho ▸ hk) he
    · rw [ho] at hk; cases hk
    · rw [ho] at hk
      injection hk with hk
      have := Kd.Q_lt h.q k he
      omega
  · rcases ho with ho | ho | ⟨b, ho, hb⟩
    · rw [ho]; exact h.own
    · exact .inr (.inl ho)
    · exact .inr (.inr ⟨b, ho, Nat.le_trans hs hb⟩)
/-- A store into a block that is new since play began. -/
theorem PP.far (h : PP w B p g4 g6 v0 mo wr fr v xs c0 c1 c2 v9 ys) (hp : p < w.heap.size) (g j : Nat) (u : Value) (hg : w.heap.size ≤ g) (h4 : g ≠ g4) (h6 : g ≠ g6) (hv : v.ownBlock ≠ some g) (hv9 : v9.ownBlock ≠ some g) : PP w B p g4 g6 v0 mo (wr.setCell ⟨g, j, none⟩ u) fr v xs c0 c1 c2 v9 ys := by
  have key : ∀ k, k ≠ g → (wr.setCell ⟨g, j, none⟩ u).heap[k]? = wr.heap[k]? := fun k hk => Below.heap_setCell wr ⟨g, j, none⟩ u k hk
  exact ⟨h.row.keep (key p (by omega)) (fun k hk => key k (fun e => hv (e ▸ hk))), (key _ (fun e => h4 e.symm)).trans h.box, q_keep h.q (fun k hk => key k (fun e => hv9 (e ▸ hk))), h.apart, h.own, (key _ (fun e => h6 e.symm)).trans h.res, h.g46,
    ⟨h.chg.os, h.chg.tape, h.chg.output, by simpa using h.chg.size, fun k hk hkp hkv => (key k (by omega)).trans (h.chg.block k hk hkp hkv)⟩⟩
/-- The reference's row is laid into its box. -/
theorem PP.set (h : PP w B p g4 g6 v0 mo wr fr v xs c0 c1 c2 v9 ys) (hp : p < w.heap.size) (j : Nat) (u : Value) (hj : #[c0, c1, c2].setIfInBounds j u = #[d0, d1, d2]) : PP w B p g4 g6 v0 mo (wr.setCell ⟨g4, j, none⟩ u) fr v xs d0 d1 d2 v9 ys := by
  have hg := h.g46
  have key : ∀ k, k ≠ g4 → (wr.setCell ⟨g4, j, none⟩ u).heap[k]? = wr.heap[k]? := fun k hk => Below.heap_setCell wr ⟨g4, j, none⟩ u k hk
  have n1 : v.ownBlock ≠ some g4 := fun e => Kd.Q_ne h.row.2.2 h.box (by decide) e.symm
  have n2 : v9.ownBlock ≠ some g4 := fun e => Kd.Q_ne h.q h.box (by decide) e.symm
  exact ⟨h.row.keep (key p (by omega)) (fun k hk => key k (fun e => n1 (e ▸ hk))), blk_put h.box j u hj, q_keep h.q (fun k hk => key k (fun e => n2 (e ▸ hk))), h.apart, h.own, (key _ (fun e => hg.2.2 e.symm)).trans h.res, hg,
    ⟨h.chg.os, h.chg.tape, h.chg.output, by simpa using h.chg.size, fun k hk hkp hkv => (key k (by omega)).trans (h.chg.block k hk hkp hkv)⟩⟩
theorem PP.sets (h : PP w B p g4 g6 v0 mo wr fr v xs c0 c1 c2 v9 ys) (hp : p < w.heap.size) : PP w B p g4 g6 v0 mo (((wr.setCell ⟨g4, 0, none⟩ d0).setCell ⟨g4, 1, none⟩ d1).setCell ⟨g4, 2, none⟩ d2) fr v xs d0 d1 d2 v9 ys :=
  ((h.set (d0 := d0) (d1 := c1) (d2 := c2) hp 0 d0 rfl).set (d0 := d0) (d1 := d1) (d2 := c2) hp 1 d1 rfl).set (d0 := d0) (d1 := d1) (d2 := d2) hp 2 d2 rfl
end
end Go.Proofs.Ythflkloghbhhgaa.Rw
/- RowZp -/
namespace Go.Proofs.Ythflkloghbhhgaa.Rw
open Go.RowKit Go.Proofs.YthflkloghbhhgaaW.PrintWords Go.Proofs.YthflkloghbhhgaaW.PrintMore Go.Proofs.Ythflkloghbhhgaa.Sh Go.Proofs.Ythflkloghbhhgaa.PAll
set_option linter.unusedVariables false
set_option linter.unusedSimpArgs false
theorem act_step {w wr w' : World} {B p g4 g6 g9 : Nat} {v0 v v9 : Value} {mo fr : Int} {xs ys : List Int} {c0 c1 c2 : Value} {cs : Array Value} (h : PP w B p g4 g6 v0 mo wr fr v xs c0 c1 c2 v9 ys) (hc : Chg wr w' p v) (ha : wr.heap[g9]? = some (.cells cs 72 (0, 0))) (hne : g9 ≠ p) : w'.heap[g9]? = some (.cells cs 72 (0, 0)) :=
  (hc.block g9 (blk_lt ha) hne (fun he => Kd.Q_ne h.row.2.2 ha (by decide) he.symm)).trans ha
/-- Bounds that both keep. -/
def Bd (mo fr : Int) (xs : List Int) : Prop := 0 ≤ fr ∧ fr < 4294967296 ∧ (xs.length : Int) ≤ mo ∧ 1 ≤ mo ∧ mo ≤ 1024
/-- An error's number. -/
def NumOf (E : Value) (C : Int) : Prop := ∀ W' : World, Calls Try.prog 30 #[E] W' fun e w' => e = .returned (.int .i64 C) ∧ W' = w'
theorem numOf_nil : NumOf .nilIface 0 := fun W' => num_nil W'
theorem numOf_err (c : Int) (hc : (c == 0) = false) : NumOf (.iface 38 (.int .i64 c)) c := fun W' => num_err c hc W'
section
variable {w w1 : World} {B p g4 g6 g9 : Nat} {v0 v : Value} {mo fr : Int} {ys : List Int} {A : Option Addr} {c : Nat} {c0 c1 c2 : Value} {cs : Array Value}
/-- What the row's method leaves. -/
def RowTo (w : World) (B p g4 g6 : Nat) (v0 : Value) (mo fr : Int) (X : List Int) (c0 c1 c2 v9 : Value) (ys : List Int) (g9 : Nat) (cs : Array Value) (w2 : World) : Prop :=
  ∃ v2, PP w B p g4 g6 v0 mo w2 fr v2 X c0 c1 c2 v9 ys ∧ w2.heap[g9]? = some (.cells cs 72 (0, 0))
/-- What the reference's function answers and leaves. -/
def RefBy (w : World) (B p g4 g6 : Nat) (v0 : Value) (mo fr : Int) (X : List Int) (c0 c1 c2 : Value) (f : Nat) (args : Array Value) (rest : Array Value) (v9 : Value) (ys : List Int) : Prop :=
  ∀ w2 v2, PP w B p g4 g6 v0 mo w2 fr v2 X c0 c1 c2 v9 ys → Calls Try.prog f args w2 fun e w3 => ∃ A' n' c', e = .returned (.tuple (#[.agg #[.int .u32 fr, .int .i64 mo, .slice A' n' c']] ++ rest)) ∧ PP w B p g4 g6 v0 mo w3 fr v2 X c0 c1 c2 (.slice A' n' c') X ∧ Below w2.heap.size w2 w3
theorem ref_fin {w2 w3 : World} {v2 v9 v9' : Value} {X : List Int} {xs9 : List Int} (h : PP w B p g4 g6 v0 mo w2 fr v2 X c0 c1 c2 v9 xs9) (hto : RefTo w2 B v9 X v9' w3) : ∃ A' n' c', v9' = .slice A' n' c' ∧ PP w B p g4 g6 v0 mo w3 fr v2 X c0 c1 c2 (.slice A' n' c') X ∧ Below w2.heap.size w2 w3 := by
  have h3 := h.ref hto
  obtain ⟨A', n', c', rfl⟩ := q_form h3.q
  exact ⟨A', n', c', rfl, h3, hto.2.1⟩
theorem push_pair (h : PP w B p g4 g6 v0 mo w1 fr v ys c0 c1 c2 (.slice A ys.length c) ys) (ha : w1.heap[g9]? = some (.cells cs 72 (0, 0))) (hd : p ≠ g9) (hp : p < w.heap.size) (hB : B ≤ w.heap.size) (hb : Bd mo fr ys) (x : Int) :
    ∃ (N : Int) (E : Value) (C : Int) (X : List Int), Bd mo fr X ∧ NumOf E C ∧
      (Calls Try.prog 10 #[.pointer (some ⟨p, 0, none⟩), .int .i64 x] w1 fun e w2 => e = .returned (.tuple #[.int .u32 N, E]) ∧ RowTo w B p g4 g6 v0 mo fr X c0 c1 c2 (.slice A ys.length c) ys g9 cs w2) ∧
      RefBy w B p g4 g6 v0 mo fr X c0 c1 c2 34 #[.agg #[.int .u32 fr, .int .i64 mo, .slice A ys.length c], .int .i64 x] #[.int .u32 N, .int .i64 C] (.slice A ys.length c) ys := by
  by_cases hf : (ys.length : Int) < mo
  · refine ⟨(fr + (ys.length : Int)) % 4294967296, .nilIface, 0, ys ++ [x], ⟨hb.1, hb.2.1, by rw [List.length_append, List.length_singleton]; omega, hb.2.2.2⟩, numOf_nil, (push_row h.row x hf hb.2.2.2.2).mono ?_, fun w2 v2 h2 => (ref_push_yes (B := B) (Kd.Q_reads' h2.q).2.2 (Nat.le_trans hB h2.size) hf hb.2.2.2.2).mono ?_⟩
    · rintro e w2 ⟨rfl, v2, hr2, hc2, ho2⟩
      exact ⟨rfl, v2, h.step hp hr2 hc2 (by rcases ho2 with h | h; exact .inl h; exact .inr (.inr h)), act_step h hc2 ha (fun e => hd e.symm)⟩
    · rintro e w3 ⟨v93, rfl, hto⟩
      obtain ⟨A', n', c', rfl, h3, h4⟩ := ref_fin h2 hto
      exact ⟨A', n', c', rfl, h3, h4⟩
  · have hmo : (ys.length : Int) = mo := by have := hb.2.2.1; omega
    refine ⟨0, .iface 38 (.int .i64 3), 3, ys, hb, numOf_err 3 rfl, (push_full h.row x hmo).mono ?_, fun w2 v2 h2 => (ref_push_no (by omega)).mono ?_⟩
    · rintro e w2 ⟨rfl, m2, rfl⟩
      exact ⟨rfl, v, h.drewN m2, ha⟩
    · rintro e w3 ⟨rfl, hto⟩
      exact ⟨_, _, _, rfl, h2.below hto, hto⟩
theorem pop_pair (h : PP w B p g4 g6 v0 mo w1 fr v ys c0 c1 c2 (.slice A ys.length c) ys) (ha : w1.heap[g9]? = some (.cells cs 72 (0, 0))) (hd : p ≠ g9) (hp : p < w.heap.size) (hB : B ≤ w.heap.size) (hb : Bd mo fr ys) :
    ∃ (Y : Int) (E : Value) (C F : Int) (X : List Int), Bd mo F X ∧ NumOf E C ∧
      (Calls Try.prog 15 #[.pointer (some ⟨p, 0, none⟩)] w1 fun e w2 => e = .returned (.tuple #[.int .i64 Y, E]) ∧ RowTo w B p g4 g6 v0 mo F X c0 c1 c2 (.slice A ys.length c) ys g9 cs w2) ∧
      RefBy w B p g4 g6 v0 mo F X c0 c1 c2 35 #[.agg #[.int .u32 fr, .int .i64 mo, .slice A ys.length c]] #[.int .i64 Y, .int .i64 C] (.slice A ys.length c) ys := by
  by_cases hpos : 0 < ys.length
  · refine ⟨ys.getD 0 0, .nilIface, 0, (fr + 1) % 4294967296, ys.drop 1, ⟨by omega, by omega, by have := hb.2.2.1; rw [List.length_drop]; omega, hb.2.2.2⟩, numOf_nil, (pop_row h.row hpos _ rfl).mono ?_, fun w2 v2 h2 => (ref_pop_yes h2.q hpos _ rfl).mono ?_⟩
    · rintro e w2 ⟨rfl, v2, hr2, hc2, ho2⟩
      exact ⟨rfl, v2, h.step hp hr2 hc2 (by rcases ho2 with h | h; exact .inl h; exact .inr (.inl h)), act_step h hc2 ha (fun e => hd e.symm)⟩
    · rintro e w3 ⟨v93, rfl, hto⟩
      obtain ⟨A', n', c', rfl, h3, h4⟩ := ref_fin h2 hto
      exact ⟨A', n', c', rfl, h3, h4⟩
  · obtain rfl : ys = [] := List.eq_nil_of_length_eq_zero (by omega)
    refine ⟨0, .iface 38 (.int .i64 4), 4, fr, [], hb, numOf_err 4 rfl, (pop_none h.row).mono ?_, fun w2 v2 h2 => ref_pop_no.mono ?_⟩
    · rintro e w2 ⟨rfl, rfl⟩
      exact ⟨rfl, v, h, ha⟩
    · rintro e w3 ⟨rfl, hto⟩
      exact ⟨_, _, _, rfl, h2.below hto, hto⟩
theorem set_pair (h : PP w B p g4 g6 v0 mo w1 fr v ys c0 c1 c2 (.slice A ys.length c) ys) (ha : w1.heap[g9]? = some (.cells cs 72 (0, 0))) (hd : p ≠ g9) (hp : p < w.heap.size) (hB : B ≤ w.heap.size) (hb : Bd mo fr ys) (n x : Int) (hn0 : 0 ≤ n) (hn1 : n < 4294967296) :
    ∃ (E : Value) (C : Int) (X : List Int), Bd mo fr X ∧ NumOf E C ∧
      (Calls Try.prog 12 #[.pointer (some ⟨p, 0, none⟩), .int .u32 n, .int .i64 x] w1 fun e w2 => e = .returned E ∧ RowTo w B p g4 g6 v0 mo fr X c0 c1 c2 (.slice A ys.length c) ys g9 cs w2) ∧
      RefBy w B p g4 g6 v0 mo fr X c0 c1 c2 36 #[.agg #[.int .u32 fr, .int .i64 mo, .slice A ys.length c], .int .u32 n, .int .i64 x] #[.int .i64 C] (.slice A ys.length c) ys := by
  have h1024 : ys.length ≤ 1024 := by have := hb.2.2; omega
  obtain ⟨i, hi⟩ : ∃ i : Nat, (i : Int) = (n - fr) % 4294967296 := ⟨((n - fr) % 4294967296).toNat, by omega⟩
  have hcc := (Kd.Q_reads' h.q).2.1
  by_cases hil : i < ys.length
  · refine ⟨.nilIface, 0, ys.set i x, ⟨hb.1, hb.2.1, by rw [List.length_set]; exact hb.2.2.1, hb.2.2.2⟩, numOf_nil, (set_yes h.row n x i hi.symm hil).mono ?_, fun w2 v2 h2 => (ref_set_yes (B := B) (Kd.Q_reads' h2.q).2.2 hcc (Nat.le_trans hB h2.size) h1024 hb.1 hb.2.1 hn0 hn1 i hi.symm hil).mono ?_⟩
    · rintro e w2 ⟨rfl, hr2, hc2⟩
      exact ⟨rfl, v, h.step hp hr2 hc2 (.inl rfl), act_step h hc2 ha (fun e => hd e.symm)⟩
    · rintro e w3 ⟨v93, rfl, hto⟩
      obtain ⟨A', n', c', rfl, h3, h4⟩ := ref_fin h2 hto
      exact ⟨A', n', c', rfl, h3, h4⟩
  · refine ⟨.iface 38 (.int .i64 4), 4, ys, hb, numOf_err 4 rfl, (set_no h.row n x (by rw [← hi]; omega)).mono ?_, fun w2 v2 h2 => (ref_set_no (Kd.Q_reads' h2.q).2.2 hcc h1024 hb.1 hb.2.1 hn0 hn1 (by rw [← hi]; omega)).mono ?_⟩
    · rintro e w2 ⟨rfl, m2, rfl⟩
      exact ⟨rfl, v, h.drewN m2, ha⟩
    · rintro e w3 ⟨rfl, hto⟩
      exact ⟨_, _, _, rfl, h2.below hto, hto⟩
/-- The row's cut: what is out is a row of its own, apart from all. -/
theorem cut_pair (h : PP w B p g4 g6 v0 mo w1 fr v ys c0 c1 c2 (.slice A ys.length c) ys) (ha : w1.heap[g9]? = some (.cells cs 72 (0, 0))) (hd : p ≠ g9) (hp : p < w.heap.size) (hB : B ≤ w.heap.size) (hb : Bd mo fr ys) (n : Int) (hn0 : 0 ≤ n) (hn1 : n < 4294967296) :
    ∃ (E : Value) (C F : Int) (X L : List Int), Bd mo F X ∧ NumOf E C ∧ L.length ≤ 1024 ∧
      (Calls Try.prog 17 #[.pointer (some ⟨p, 0, none⟩), .int .u32 n] w1 fun e w2 => ∃ Al cl v2, e = .returned (.tuple #[.slice Al L.length cl, E]) ∧ PP w B p g4 g6 v0 mo w2 F v2 X c0 c1 c2 (.slice A ys.length c) ys ∧ w2.heap[g9]? = some (.cells cs 72 (0, 0)) ∧
        (Kd.int .i64).Q 3 w2 w1.heap.size (fun _ => True) (.slice Al L.length cl) L ∧ (∀ k, (Value.slice Al L.length cl).ownBlock = some k → w.heap.size ≤ k ∧ v2.ownBlock ≠ some k ∧ ∀ w3 v9', RefTo w2 B (.slice A ys.length c) X v9' w3 → v9'.ownBlock ≠ some k) ∧ (∀ k, (Value.slice Al L.length cl).ownBlock = some k → (Value.slice A ys.length c).ownBlock ≠ some k)) ∧
      (∀ w2 v2, PP w B p g4 g6 v0 mo w2 F v2 X c0 c1 c2 (.slice A ys.length c) ys → Calls Try.prog 37 #[.agg #[.int .u32 fr, .int .i64 mo, .slice A ys.length c], .int .u32 n] w2 fun e w3 => ∃ A' n' c' A3 c3, e = .returned (.tuple #[.agg #[.int .u32 F, .int .i64 mo, .slice A' n' c'], .slice A3 L.length c3, .int .i64 C]) ∧
        L.length ≤ c3 ∧ Kd.C (Kd.int .i64) w3 A3 L.length L ∧ PP w B p g4 g6 v0 mo w3 F v2 X c0 c1 c2 (.slice A' n' c') X ∧ Below w2.heap.size w2 w3 ∧ ((Value.slice A' n' c').ownBlock = (Value.slice A ys.length c).ownBlock ∨ RefTo w2 B (.slice A ys.length c) X (.slice A' n' c') w3)) := by
  have h1024 : ys.length ≤ 1024 := by have := hb.2.2; omega
  obtain ⟨i, hi⟩ : ∃ i : Nat, (i : Int) = (n - fr) % 4294967296 := ⟨((n - fr) % 4294967296).toNat, by omega⟩
  have hcc := (Kd.Q_reads' h.q).2.1
  by_cases hil : i ≤ ys.length
  · have hLl : (ys.take i).length = i := by rw [List.length_take]; omega
    refine ⟨.nilIface, 0, n, ys.drop i, ys.take i, ⟨hn0, hn1, by have := hb.2.2.1; rw [List.length_drop]; omega, hb.2.2.2⟩, numOf_nil, by omega, (cut_yes h.row n i hi.symm hil h1024).mono ?_, fun w2 v2 h2 => (ref_cut_yes h2.q h1024 hb.1 hb.2.1 hn0 hn1 i hi.symm hil).mono ?_⟩
    · rintro e w2 ⟨Al, cl, v2, rfl, hRl, hr2, hc2, ho2⟩
      have h2 := h.step hp hr2 hc2 (by rcases ho2 with h | h; exact .inl h; exact .inr (.inl h))
      have hQl := Kd.Q_of_R hRl
      rw [hLl]
      refine ⟨Al, cl, v2, rfl, h2, act_step h hc2 ha (fun e => hd e.symm), hQl, fun k hk => ?_, fun k hk he => ?_⟩
      · have h1 := Kd.Q_base hQl k hk
        refine ⟨Nat.le_trans h.size h1, fun he => ?_, fun w3 v9' hto he => ?_⟩
        · rcases ho2 with h' | h'
          · have := Kd.Q_lt h.row.2.2 k (h' ▸ he)
            omega
          · rw [h'] at he; cases he
        · rcases hto.2.2 with h' | h' | ⟨b, h', hb'⟩
          · have := Kd.Q_lt h.q k (h' ▸ he)
            omega
          · rw [h'] at he; cases he
          · rw [h'] at he
            injection he with he
            have := Kd.Q_lt hQl k hk
            omega
      · have := Kd.Q_lt h.q k he
        have h1 := Kd.Q_base hQl k hk
        omega
    · rintro e w3 ⟨v93, A3, c3, rfl, hk3, hC3, hto⟩
      obtain ⟨A', n', c', rfl, h3, h4⟩ := ref_fin h2 hto
      rw [hLl]
      exact ⟨A', n', c', A3, c3, rfl, hk3, hC3, h3, h4, .inr hto⟩
  · have hgt : (ys.length : Int) < (n - fr) % 4294967296 := by rw [← hi]; omega
    refine ⟨.iface 38 (.int .i64 1), 1, fr, ys, [], hb, numOf_err 1 rfl, by decide, (cut_no h.row n hgt).mono ?_, fun w2 v2 h2 => (ref_cut_no (Kd.Q_reads' h2.q).2.2 hcc h1024 hb.1 hb.2.1 hn0 hn1 hgt).mono ?_⟩
    · rintro e w2 ⟨rfl, m2, rfl⟩
      exact ⟨none, 0, v, rfl, h.drewN m2, ha, Kd.Q_nil _ _ _ _ _, fun k hk => (by simp [Value.ownBlock] at hk), fun k hk => (by simp [Value.ownBlock] at hk)⟩
    · rintro e w3 ⟨rfl, hto⟩
      exact ⟨_, _, _, none, 0, rfl, Nat.le_refl _, ⟨rfl, by decide, fun h => absurd h (by decide)⟩, h2.below hto, hto, .inl rfl⟩
end
end Go.Proofs.Ythflkloghbhhgaa.Rw
/- RowZb -/
namespace Go.Proofs.Ythflkloghbhhgaa.Rw
open Go.RowKit Go.Proofs.YthflkloghbhhgaaW.PrintWords Go.Proofs.YthflkloghbhhgaaW.PrintMore Go.Proofs.Ythflkloghbhhgaa.Sh Go.Proofs.Ythflkloghbhhgaa.PAll
open Go.Proofs.Ythflkloghbhhgaa.Rs (chg_below)
set_option linter.unusedVariables false
set_option linter.unusedSimpArgs false
theorem ints_same2 (l : List Int) (hl : l.length ≤ 2000) : ∃ k, weftlinenum_Ints.f k l l = some true := by
  have key : ∀ n i : Nat, i + n = l.length → weftlinenum_Ints.l0 (n + 1) l l (l.length : Int) (i : Int) = some true := by
    intro n
    induction n with
    | zero =>
      intro i hi
      unfold weftlinenum_Ints.l0
      rw [if_neg (by omega)]
    | succ n ih =>
      intro i hi
      unfold weftlinenum_Ints.l0
      rw [if_pos (by omega), if_pos (by omega), if_pos (by omega), if_pos (by omega), if_pos rfl, show wrap64 ((i : Int) + 1) = ((i + 1 : Nat) : Int) by unfold wrap64; omega]
      exact ih (i + 1) (by omega)
  refine ⟨l.length + 1, ?_⟩
  unfold weftlinenum_Ints.f
  rw [if_pos rfl]
  exact key l.length 0 (by omega)
theorem ints_call2 (k : Nat) (l : List Int) (hk : weftlinenum_Ints.f k l l = some true) {n : Nat} (hn : n = l.length) {A B : Option Addr} {c d : Nat} {w : World} (hA : n = l.length ∧ n ≤ c ∧ Kd.C (Kd.int .i64) w A l.length l) (hd : n ≤ d) (hB : Kd.C (Kd.int .i64) w B n l) :
    Calls Try.prog 19 #[.slice A n c, .slice B n d] w fun e w' => e = .returned (.bool true) ∧ ∃ m, w' = w.drewN m := by
  subst hn
  refine (weftlinenum_Ints.calls k A c l B d l true w hA.2.2 hA.2.1 hB hd hk).mono ?_
  rintro e w' ⟨rfl, ⟨nd, rfl⟩⟩
  exact ⟨rfl, nd, rfl⟩
theorem q_drew1 {w : World} {B : Nat} {v : Value} {l : List Int} (h : (Kd.int .i64).Q 3 w B (fun _ => True) v l) : (Kd.int .i64).Q 3 w.drew B (fun _ => True) v l := Kd.Q_drewN h 1
theorem c_drew1 {w : World} {A : Option Addr} {n : Nat} {l : List Int} (h : Kd.C (Kd.int .i64) w A n l) : Kd.C (Kd.int .i64) w.drew A n l := Kd.C_drewN h 1
/-- Both stand alike. -/
def PS (w : World) (B p g4 g6 : Nat) (v0 : Value) (mo : Int) (wr : World) : Prop :=
  ∃ fr v v9 xs, PP w B p g4 g6 v0 mo wr fr v xs (.int .u32 fr) (.int .i64 mo) v9 v9 xs ∧ Bd mo fr xs
def Played (w : World) (B p : Nat) (v0 : Value) (mo : Int) (e : Ending) (w' : World) : Prop :=
  ∃ fr v v9 xs, e = .returned (.tuple #[.agg #[.int .u32 fr, .int .i64 mo, v9], .bool true]) ∧ RowAt w' B p fr mo v xs ∧ (Kd.int .i64).Q 3 w' B (fun _ => True) v9 xs ∧ (∀ k, v.ownBlock = some k → v9.ownBlock ≠ some k) ∧
    (v.ownBlock = v0.ownBlock ∨ v.ownBlock = none ∨ ∃ b, v.ownBlock = some b ∧ w.heap.size ≤ b) ∧ Chg w w' p v0 ∧ Bd mo fr xs
theorem stands_q {w wr : World} {B p g4 g6 : Nat} {v0 v : Value} {mo fr : Int} {xs : List Int} {A : Option Addr} {c : Nat} {c0 c1 c2 : Value} (h : PP w B p g4 g6 v0 mo wr fr v xs c0 c1 c2 (.slice A xs.length c) xs) (hb : Bd mo fr xs) (W' : World) (hB : Below wr.heap.size wr W') :
    Calls Try.prog 23 #[.pointer (some ⟨p, 0, none⟩), .agg #[.int .u32 fr, .int .i64 mo, .slice A xs.length c]] W' (Stands W') :=
  stands_true (h.below hB).row A c (Kd.Q_reads' (h.below hB).q).2.2 hb.1 hb.2.1 (by have := hb.2.2; omega) (by have := hb.2.2; omega) hb.2.2.1
theorem played_fin {w wr : World} {B p : Nat} {v0 v v9 : Value} {mo fr : Int} {xs : List Int} {d0 d1 d2 : Value} (h : PP w B p w.heap.size (w.heap.size + 1) v0 mo wr fr v xs (.int .u32 fr) (.int .i64 mo) v9 v9 xs) (hp : p < w.heap.size) (hb : Bd mo fr xs) :
    Played w B p v0 mo (.returned (.tuple #[.agg #[.int .u32 fr, .int .i64 mo, v9], .bool true])) (((wr.setCell ⟨w.heap.size + 1, 0, none⟩ d0).setCell ⟨w.heap.size + 1, 1, none⟩ d1).setCell ⟨w.heap.size + 1, 2, none⟩ d2) := by
  have n1 : v.ownBlock ≠ some (w.heap.size + 1) := fun e => Kd.Q_ne h.row.2.2 h.res (by decide) e.symm
  have n2 : v9.ownBlock ≠ some (w.heap.size + 1) := fun e => Kd.Q_ne h.q h.res (by decide) e.symm
  have key : ∀ k, k ≠ w.heap.size + 1 → (((wr.setCell ⟨w.heap.size + 1, 0, none⟩ d0).setCell ⟨w.heap.size + 1, 1, none⟩ d1).setCell ⟨w.heap.size + 1, 2, none⟩ d2).heap[k]? = wr.heap[k]? := fun k hk =>
    (Below.heap_setCell _ ⟨w.heap.size + 1, 2, none⟩ _ k hk).trans ((Below.heap_setCell _ ⟨w.heap.size + 1, 1, none⟩ _ k hk).trans (Below.heap_setCell _ ⟨w.heap.size + 1, 0, none⟩ _ k hk))
  refine ⟨fr, v, v9, xs, rfl, h.row.keep (key p (by omega)) (fun k hk => key k (fun e => n1 (e ▸ hk))), q_keep h.q (fun k hk => key k (fun e => n2 (e ▸ hk))), h.apart, h.own,
    ⟨h.chg.os, h.chg.tape, h.chg.output, by simpa using h.chg.size, fun k hk hkp hkv => (key k (by omega)).trans (h.chg.block k hk hkp hkv)⟩, hb⟩
theorem play_leaf {w w5 : World} {B p g4 g6 g9 : Nat} {v0 v v9 : Value} {mo fr : Int} {xs : List Int} {c0 c1 c2 : Value} {cs : Array Value} (h : PP w B p g4 g6 v0 mo w5 fr v xs c0 c1 c2 v9 xs) (ha : w5.heap[g9]? = some (.cells cs 72 (0, 0))) (hp : p < w.heap.size) (hb : Bd mo fr xs) :
    Value.bool true = Value.bool true ∧ Aside0 (PS w B p g4 g6 v0 mo (((w5.setCell ⟨g4, 0, none⟩ (.int .u32 fr)).setCell ⟨g4, 1, none⟩ (.int .i64 mo)).setCell ⟨g4, 2, none⟩ v9).drew) ∧
      Aside0 ((((w5.setCell ⟨g4, 0, none⟩ (.int .u32 fr)).setCell ⟨g4, 1, none⟩ (.int .i64 mo)).setCell ⟨g4, 2, none⟩ v9).drew.heap[g9]? = some (.cells cs 72 (0, 0))) := by
  have hne : g9 ≠ g4 := by
    rintro rfl
    have := h.box
    rw [ha] at this
    injection this with this
    injection this with _ this
    cases this
  refine ⟨rfl, ⟨⟨_, _, _, _, (h.sets hp).drew, hb⟩⟩, ⟨?_⟩⟩
  exact (Below.heap_setCell _ ⟨g4, 2, none⟩ _ g9 hne).trans ((Below.heap_setCell _ ⟨g4, 1, none⟩ _ g9 hne).trans ((Below.heap_setCell _ ⟨g4, 0, none⟩ _ g9 hne).trans ha))
/-- Behind a cut: the row, the reference's, what was cut off. -/
theorem cut_leaf {w w5 : World} {B p g4 g6 g9 Bl : Nat} {v0 v v9 vl : Value} {mo fr : Int} {xs L : List Int} {c0 c1 c2 : Value} {cs : Array Value} (h : PP w B p g4 g6 v0 mo w5 fr v xs c0 c1 c2 v9 xs) (ha : w5.heap[g9]? = some (.cells cs 72 (0, 0))) (hp : p < w.heap.size) (hl : (Kd.int .i64).Q 3 w5 Bl (fun _ => True) vl L) :
    Value.bool true = Value.bool true ∧ Aside0 (PP w B p g4 g6 v0 mo (((w5.setCell ⟨g4, 0, none⟩ (.int .u32 fr)).setCell ⟨g4, 1, none⟩ (.int .i64 mo)).setCell ⟨g4, 2, none⟩ v9) fr v xs (.int .u32 fr) (.int .i64 mo) v9 v9 xs) ∧
      Aside0 ((((w5.setCell ⟨g4, 0, none⟩ (.int .u32 fr)).setCell ⟨g4, 1, none⟩ (.int .i64 mo)).setCell ⟨g4, 2, none⟩ v9).heap[g9]? = some (.cells cs 72 (0, 0))) ∧
      Aside0 ((Kd.int .i64).Q 3 (((w5.setCell ⟨g4, 0, none⟩ (.int .u32 fr)).setCell ⟨g4, 1, none⟩ (.int .i64 mo)).setCell ⟨g4, 2, none⟩ v9) Bl (fun _ => True) vl L) := by
  have hne : g9 ≠ g4 := by
    rintro rfl
    have := h.box
    rw [ha] at this
    injection this with this
    injection this with _ this
    cases this
  have key : ∀ k, k ≠ g4 → (((w5.setCell ⟨g4, 0, none⟩ (.int .u32 fr)).setCell ⟨g4, 1, none⟩ (.int .i64 mo)).setCell ⟨g4, 2, none⟩ v9).heap[k]? = w5.heap[k]? := fun k hk =>
    (Below.heap_setCell _ ⟨g4, 2, none⟩ _ k hk).trans ((Below.heap_setCell _ ⟨g4, 1, none⟩ _ k hk).trans (Below.heap_setCell _ ⟨g4, 0, none⟩ _ k hk))
  exact ⟨rfl, ⟨h.sets hp⟩, ⟨(key g9 hne).trans ha⟩, ⟨q_keep hl (fun k hk => key k (fun e => Kd.Q_ne hl h.box (by decide) (by rw [← e]; exact hk.symm)))⟩⟩
/-- One of what was cut off is turned. -/
theorem cut_put {w wr : World} {B p g4 g6 g9 Bl b o c n : Nat} {v0 v v9 : Value} {mo fr : Int} {xs L : List Int} {c0 c1 c2 : Value} {cs : Array Value} (h : PP w B p g4 g6 v0 mo wr fr v xs c0 c1 c2 v9 xs) (ha : wr.heap[g9]? = some (.cells cs 72 (0, 0))) (hp : p < w.heap.size)
    (hl : (Kd.int .i64).Q 3 wr Bl (fun _ => True) (.slice (some ⟨b, o, none⟩) n c) L) (hv : w.heap.size ≤ b ∧ v.ownBlock ≠ some b ∧ v9.ownBlock ≠ some b) (q : Nat) (hq : q < L.length) (u : Int) :
    Aside0 (PP w B p g4 g6 v0 mo (wr.setCell ⟨b, o + q, none⟩ (.int .i64 u)) fr v xs c0 c1 c2 v9 xs) ∧ Aside0 ((wr.setCell ⟨b, o + q, none⟩ (.int .i64 u)).heap[g9]? = some (.cells cs 72 (0, 0))) ∧
      Aside0 ((Kd.int .i64).Q 3 (wr.setCell ⟨b, o + q, none⟩ (.int .i64 u)) Bl (fun _ => True) (.slice (some ⟨b, o, none⟩) n c) (L.set q u)) := by
  have n1 : b ≠ g4 := fun e => Kd.Q_ne hl h.box (by decide) (by rw [← e]; rfl)
  have n2 : b ≠ g6 := fun e => Kd.Q_ne hl h.res (by decide) (by rw [← e]; rfl)
  have n3 : g9 ≠ b := fun e => Kd.Q_ne hl ha (by decide) (by rw [e]; rfl)
  have hnl := (Kd.Q_reads' hl).1
  have hw := (Kd.Q_putg hl (q : Int) (by omega) (by omega) u).1
  rw [Int.toNat_natCast] at hw
  exact ⟨⟨h.far hp b _ _ hv.1 n1 n2 hv.2.1 hv.2.2⟩, ⟨(Below.heap_setCell _ ⟨b, o + q, none⟩ _ g9 n3).trans ha⟩, ⟨hw⟩⟩
set_option maxRecDepth 100000 in
set_option maxHeartbeats 40000000 in
theorem play_calls {W w : World} {p : Nat} {fr mo : Int} {v v9 : Value} {xs : List Int} (hR : RowAt w W.heap.size p fr mo v xs) (hQ : (Kd.int .i64).Q 3 w W.heap.size (fun _ => True) v9 xs) (hap : ∀ k, v.ownBlock = some k → v9.ownBlock ≠ some k) (hbd : Bd mo fr xs)
    (A : Option Addr) (c : Nat) (l : List (Int × Int × Int)) (hC : Kd.C ACT W A l.length l) (hlc : l.length ≤ c) (hll : l.length ≤ 60) (hw : ∀ z ∈ l, 0 ≤ z.2.1 ∧ z.2.1 < 4294967296) (hB : Below W.heap.size W w) :
    Calls Try.prog 20 #[.pointer (some ⟨p, 0, none⟩), .agg #[.int .u32 fr, .int .i64 mo, v9], .slice A l.length c] w (Played w W.heap.size p v mo) := by
  have HPL := Aside0.mk hR.lt
  obtain ⟨A9, c9, rfl, hc9, _⟩ := Kd.Q_reads hQ
  have hpp0 : PP w W.heap.size p w.heap.size (w.heap.size + 1) v mo ((w.alloc (.cells #[.int .u32 fr, .int .i64 mo, .slice A9 xs.length c9] 50)).alloc (.cells #[.int .u32 0, .int .i64 0, .slice none 0 0] 50)) fr v xs (.int .u32 fr) (.int .i64 mo) (.slice A9 xs.length c9) (.slice A9 xs.length c9) xs := by
    have b1 := (Below.refl w.heap.size w).alloc (Nat.le_refl _) (.cells #[.int .u32 fr, .int .i64 mo, .slice A9 xs.length c9] 50)
    have b2 := b1.alloc (by simp) (.cells #[.int .u32 0, .int .i64 0, .slice none 0 0] 50)
    exact ⟨hR.keep (b2.block p hR.lt) (fun k hk => b2.block k (Kd.Q_lt hR.2.2 k hk)), blk_alloc (blk_new w _) _, q_keep hQ (fun k hk => b2.block k (Kd.Q_lt hQ k hk)), hap, .inl rfl,
      (by have := blk_new (w.alloc (.cells #[.int .u32 fr, .int .i64 mo, .slice A9 xs.length c9] 50)) (.cells #[.int .u32 0, .int .i64 0, .slice none 0 0] 50); simpa using this), ⟨Nat.le_refl _, Nat.le_succ _, by omega⟩, (Chg.refl w p v).below b2⟩
  have HS0 := Aside0.mk (show PS w W.heap.size p w.heap.size (w.heap.size + 1) v mo _ from ⟨_, _, _, _, hpp0, hbd⟩)
  have HC := Aside0.mk hC
  have HW := Aside0.mk hw
  have HBW := Aside0.mk hB
  have HRV := Aside0.mk (show ∀ k, v.ownBlock = some k → W.heap.size ≤ k from fun k hk => Kd.Q_base hR.2.2 k hk)
  have HRP := Aside0.mk hR.1
  have hxl := hc9
  clear hR hQ hap hbd hC hw hB hpp0 hc9 hxl
  go_enter Try.func20, Try.ntmps20
  go_wp2_with fail
  go_loopw [36] (fun i wr => ∃ j : Nat, j ≤ l.length ∧ i = .int .i64 j ∧ Aside0 (PS w W.heap.size p w.heap.size (w.heap.size + 1) v mo wr)) (fun i _ => l.length - (intOf i).toNat)
  case atStart => exact ⟨0, Nat.zero_le _, rfl, HS0⟩
  case round =>
    obtain ⟨j, hj, rfl, HS⟩ := hrel
    by_cases hlt : j < l.length
    · have hbel : Below W.heap.size W wr := by
        obtain ⟨_, _, _, _, hp, _⟩ := HS.out
        exact HBW.out.trans (chg_below hp.chg HRP.out HRV.out HBW.out.size)
      obtain ⟨ad, rfl, h0, h1, h2⟩ := act_cells (Kd.C_below HC.out hbel) j hlt
      have hmem : l.getD j (0, 0, 0) ∈ l := by
        rw [List.getD_eq_getElem?_getD, List.getElem?_eq_getElem hlt]
        exact List.getElem_mem hlt
      have HN := Aside0.mk (HW.out _ hmem)
      obtain ⟨z, hz⟩ : ∃ z, z = l.getD j (0, 0, 0) := ⟨_, rfl⟩
      rw [← hz] at h0 h1 h2 HN
      clear hz hmem
      obtain ⟨kk, n, x⟩ := z
      simp only at h0 h1 h2 HN
      obtain ⟨fr1, v1, v91, ys, hp0, hbd⟩ := HS.out
      obtain ⟨A91, c91, rfl, hc91, _⟩ := Kd.Q_reads hp0.q
      have HC91 := Aside0.mk hc91
      clear hc91
      have HP1 := Aside0.mk (hp0.alloc (.cells #[.int .i64 kk, .int .u32 n, .int .i64 x] 72 (0, 0)))
      have HA1 := Aside0.mk (blk_new wr (.cells #[.int .i64 kk, .int .u32 n, .int .i64 x] 72 (0, 0)))
      have HBD := Aside0.mk hbd
      have HD := Aside0.mk (show w.heap.size ≤ wr.heap.size ∧ p ≠ wr.heap.size from ⟨hp0.size, by have := hp0.row.lt; omega⟩)
      clear hp0 hbd
      go_upto_block 2 with fail
      generalize hW1 : wr.alloc (Obj.cells #[Value.int IntKind.i64 kk, Value.int IntKind.u32 n, Value.int IntKind.i64 x] 72) = w1 at HP1 HA1 ⊢
      clear hW1
      obtain ⟨g9, hg9⟩ : ∃ g, g = wr.heap.size := ⟨_, rfl⟩
      rw [← hg9] at HA1 HD ⊢
      clear hg9 h0 h1 h2 HS
      have ha := cc3 HA1.out
      go_cut [10] (fun s wx => s = .bool true ∧ Aside0 (PS w W.heap.size p w.heap.size (w.heap.size + 1) v mo wx) ∧ Aside0 (wx.heap[g9]? = some (.cells #[.int .i64 kk, .int .u32 n, .int .i64 x] 72 (0, 0))))
      case first =>
        have hx := cc3 HP1.out.box
        by_cases hk0 : kk = 0
        · subst hk0
          obtain ⟨N5, E5, C5, X5, hbd5, hnum, hrow, href⟩ := push_pair HP1.out HA1.out HD.out.2 HPL.out HBW.out.size HBD.out x
          have BD5 := Aside0.mk hbd5
          have HNUM := Aside0.mk hnum
          have HROW := Aside0.mk hrow
          have HREF := Aside0.mk href
          clear hbd5 hnum hrow href
          go_wp2_with fail
          refine HROW.out.mono ?_
          rintro e w2 ⟨rfl, v2, hp2, ha2⟩
          have HA2 := Aside0.mk ha2
          have HP2 := Aside0.mk hp2
          clear ha2 hp2 ha hx
          have ha := cc3 HA2.out
          have hx := cc3 HP2.out.box
          go_wp2_with fail
          refine (HREF.out _ _ HP2.out).mono ?_
          rintro e w3 ⟨A93, n93, c93, rfl, hp3, hb3⟩
          have HA3 := Aside0.mk (blk_below HA2.out hb3)
          have HP3 := Aside0.mk hp3
          clear hp3 hb3 ha hx
          have HA5 := Aside0.mk (blk_alloc HA3.out (.cells #[.int .u32 fr1, .int .i64 mo, .slice A93 n93 c93] 50 (0, 0)))
          have HP5 := Aside0.mk (HP3.out.alloc (.cells #[.int .u32 fr1, .int .i64 mo, .slice A93 n93 c93] 50 (0, 0)))
          have HB5 := Aside0.mk (blk_new w3 (.cells #[.int .u32 fr1, .int .i64 mo, .slice A93 n93 c93] 50 (0, 0)))
          have HG5 := Aside0.mk (show w3.heap.size ≠ w.heap.size from by have := HP3.out.box; have := blk_lt this; omega)
          go_upto_region 17 with fail
          generalize hW5 : w3.alloc (Obj.cells #[Value.int IntKind.u32 fr1, Value.int IntKind.i64 mo, Value.slice A93 n93 c93] 50) = w5 at HA5 HP5 HB5 ⊢
          obtain ⟨g5, hg5⟩ : ∃ g, g = w3.heap.size := ⟨_, rfl⟩
          rw [← hg5] at HB5 HG5 ⊢
          clear hW5 hg5
          have ha := cc3 HA5.out
          have hx := cc3 HP5.out.box
          have hy := cc3 HB5.out
          go_region_with (first | (go_at_call 30; refine (HNUM.out _).mono ?_; rintro e w4 ⟨rfl, rfl⟩))
          all_goals go_wp2_with fail
          all_goals go_meet
          all_goals exact play_leaf HP5.out HA5.out HPL.out BD5.out
        · by_cases hk1 : kk = 1
          · subst hk1
            obtain ⟨Y5, E5, C5, F5, X5, hbd5, hnum, hrow, href⟩ := pop_pair HP1.out HA1.out HD.out.2 HPL.out HBW.out.size HBD.out
            have BD5 := Aside0.mk hbd5
            have HNUM := Aside0.mk hnum
            have HROW := Aside0.mk hrow
            have HREF := Aside0.mk href
            clear hbd5 hnum hrow href
            go_wp2_with fail
            refine HROW.out.mono ?_
            rintro e w2 ⟨rfl, v2, hp2, ha2⟩
            have HA2 := Aside0.mk ha2
            have HP2 := Aside0.mk hp2
            clear ha2 hp2 ha hx
            have ha := cc3 HA2.out
            have hx := cc3 HP2.out.box
            go_wp2_with fail
            refine (HREF.out _ _ HP2.out).mono ?_
            rintro e w3 ⟨A93, n93, c93, rfl, hp3, hb3⟩
            have HA3 := Aside0.mk (blk_below HA2.out hb3)
            have HP3 := Aside0.mk hp3
            clear hp3 hb3 ha hx
            have HA5 := Aside0.mk (blk_alloc HA3.out (.cells #[.int .u32 F5, .int .i64 mo, .slice A93 n93 c93] 50 (0, 0)))
            have HP5 := Aside0.mk (HP3.out.alloc (.cells #[.int .u32 F5, .int .i64 mo, .slice A93 n93 c93] 50 (0, 0)))
            have HB5 := Aside0.mk (blk_new w3 (.cells #[.int .u32 F5, .int .i64 mo, .slice A93 n93 c93] 50 (0, 0)))
            have HG5 := Aside0.mk (show w3.heap.size ≠ w.heap.size from by have := HP3.out.box; have := blk_lt this; omega)
            go_upto_region 21 with fail
            generalize hW5 : w3.alloc (Obj.cells #[Value.int IntKind.u32 F5, Value.int IntKind.i64 mo, Value.slice A93 n93 c93] 50) = w5 at HA5 HP5 HB5 ⊢
            obtain ⟨g5, hg5⟩ : ∃ g, g = w3.heap.size := ⟨_, rfl⟩
            rw [← hg5] at HB5 HG5 ⊢
            clear hW5 hg5
            have ha := cc3 HA5.out
            have hx := cc3 HP5.out.box
            have hy := cc3 HB5.out
            go_region_with (first | (go_at_call 30; refine (HNUM.out _).mono ?_; rintro e w4 ⟨rfl, rfl⟩))
            all_goals go_wp2_with fail
            all_goals go_meet
            all_goals exact play_leaf HP5.out HA5.out HPL.out BD5.out
          · by_cases hk2 : kk = 2
            · subst hk2
              obtain ⟨E5, C5, X5, hbd5, hnum, hrow, href⟩ := set_pair HP1.out HA1.out HD.out.2 HPL.out HBW.out.size HBD.out n x HN.out.1 HN.out.2
              have BD5 := Aside0.mk hbd5
              have HNUM := Aside0.mk hnum
              have HROW := Aside0.mk hrow
              have HREF := Aside0.mk href
              clear hbd5 hnum hrow href
              go_wp2_with fail
              refine HROW.out.mono ?_
              rintro e w2 ⟨rfl, v2, hp2, ha2⟩
              have HA2 := Aside0.mk ha2
              have HP2 := Aside0.mk hp2
              clear ha2 hp2 ha hx
              have ha := cc3 HA2.out
              have hx := cc3 HP2.out.box
              go_wp2_with fail
              refine (HREF.out _ _ HP2.out).mono ?_
              rintro e w3 ⟨A93, n93, c93, rfl, hp3, hb3⟩
              have HA3 := Aside0.mk (blk_below HA2.out hb3)
              have HP3 := Aside0.mk hp3
              clear hp3 hb3 ha hx
              have HA5 := Aside0.mk (blk_alloc HA3.out (.cells #[.int .u32 fr1, .int .i64 mo, .slice A93 n93 c93] 50 (0, 0)))
              have HP5 := Aside0.mk (HP3.out.alloc (.cells #[.int .u32 fr1, .int .i64 mo, .slice A93 n93 c93] 50 (0, 0)))
              have HB5 := Aside0.mk (blk_new w3 (.cells #[.int .u32 fr1, .int .i64 mo, .slice A93 n93 c93] 50 (0, 0)))
              have HG5 := Aside0.mk (show w3.heap.size ≠ w.heap.size from by have := HP3.out.box; have := blk_lt this; omega)
              go_upto_region 25 with fail
              generalize hW5 : w3.alloc (Obj.cells #[Value.int IntKind.u32 fr1, Value.int IntKind.i64 mo, Value.slice A93 n93 c93] 50) = w5 at HA5 HP5 HB5 ⊢
              obtain ⟨g5, hg5⟩ : ∃ g, g = w3.heap.size := ⟨_, rfl⟩
              rw [← hg5] at HB5 HG5 ⊢
              clear hW5 hg5
              have ha := cc3 HA5.out
              have hx := cc3 HP5.out.box
              have hy := cc3 HB5.out
              go_region_with (first | (go_at_call 30; refine (HNUM.out _).mono ?_; rintro e w4 ⟨rfl, rfl⟩))
              all_goals go_wp2_with fail
              all_goals go_meet
              all_goals exact play_leaf HP5.out HA5.out HPL.out BD5.out
            · skip
              obtain ⟨E5, C5, F5, X5, L, hbd5, hnum, hl1024, hrow, href⟩ := cut_pair HP1.out HA1.out HD.out.2 HPL.out HBW.out.size HBD.out n HN.out.1 HN.out.2
              obtain ⟨KK, hKK⟩ := ints_same2 L (by omega)
              have HI := Aside0.mk hKK
              have HL1024 := Aside0.mk hl1024
              have BD5 := Aside0.mk hbd5
              have HNUM := Aside0.mk hnum
              have HROW := Aside0.mk hrow
              have HREF := Aside0.mk href
              clear hKK hl1024 hbd5 hnum hrow href
              go_wp2_with fail
              refine HROW.out.mono ?_
              rintro e w2 ⟨Al, cl, v2, rfl, hp2, ha2, hL2, hV2, hV2b⟩
              have HA2 := Aside0.mk ha2
              have HP2 := Aside0.mk hp2
              have HL2 := Aside0.mk hL2
              have HV2 := Aside0.mk (And.intro hV2 hV2b)
              clear ha2 hp2 hL2 hV2 hV2b ha hx
              have ha := cc3 HA2.out
              have hx := cc3 HP2.out.box
              go_wp2_with fail
              refine (HREF.out _ _ HP2.out).mono ?_
              rintro e w3 ⟨A93, n93, c93, A3, c3, rfl, hk3, hC3, hp3, hb3, ho3⟩
              have HL3 := Aside0.mk (q_keep HL2.out (fun k hk => hb3.block k (Kd.Q_lt HL2.out k hk)))
              have HC3 := Aside0.mk (And.intro hk3 hC3)
              have HV3 := Aside0.mk (show ∀ k, (Value.slice Al L.length cl).ownBlock = some k → w.heap.size ≤ k ∧ v2.ownBlock ≠ some k ∧ (Value.slice A93 n93 c93).ownBlock ≠ some k from fun k hk => by
                obtain ⟨h1, h2, h3⟩ := HV2.out.1 k hk
                refine ⟨h1, h2, ?_⟩
                rcases ho3 with h | h
                · rw [h]; exact HV2.out.2 k hk
                · exact h3 _ _ h)
              have HA3 := Aside0.mk (blk_below HA2.out hb3)
              have HP3 := Aside0.mk hp3
              clear hp3 hb3 ha hx hk3 hC3 ho3
              have hbe3 := (Below.refl w3.heap.size w3).alloc (Nat.le_refl _) (.cells #[.int .u32 F5, .int .i64 mo, .slice A93 n93 c93] 50 (0, 0))
              have HA5 := Aside0.mk (blk_alloc HA3.out (.cells #[.int .u32 F5, .int .i64 mo, .slice A93 n93 c93] 50 (0, 0)))
              have HP5 := Aside0.mk (HP3.out.alloc (.cells #[.int .u32 F5, .int .i64 mo, .slice A93 n93 c93] 50 (0, 0)))
              have HB5 := Aside0.mk (blk_new w3 (.cells #[.int .u32 F5, .int .i64 mo, .slice A93 n93 c93] 50 (0, 0)))
              have HG5 := Aside0.mk (show w3.heap.size ≠ w.heap.size from by have := HP3.out.box; have := blk_lt this; omega)
              have HL5 := Aside0.mk (q_keep HL3.out (fun k hk => hbe3.block k (Kd.Q_lt HL3.out k hk)))
              have HC5 := Aside0.mk (Kd.C_below HC3.out.2 hbe3)
              clear hbe3
              go_upto_region 8 with fail
              generalize hW5 : w3.alloc (Obj.cells #[Value.int IntKind.u32 F5, Value.int IntKind.i64 mo, Value.slice A93 n93 c93] 50) = w5 at HA5 HP5 HB5 HL5 HC5 ⊢
              obtain ⟨g5, hg5⟩ : ∃ g, g = w3.heap.size := ⟨_, rfl⟩
              rw [← hg5] at HB5 HG5 ⊢
              clear hW5 hg5
              have ha := cc3 HA5.out
              have hx := cc3 HP5.out.box
              have hy := cc3 HB5.out
              go_cut [10] (fun s wx => s = .bool true ∧ Aside0 (PP w W.heap.size p w.heap.size (w.heap.size + 1) v mo wx F5 v2 X5 (.int .u32 F5) (.int .i64 mo) (.slice A93 n93 c93) (.slice A93 n93 c93) X5) ∧ Aside0 (wx.heap[g9]? = some (.cells #[.int .i64 kk, .int .u32 n, .int .i64 x] 72 (0, 0))) ∧ Aside0 ((Kd.int .i64).Q 3 wx w1.heap.size (fun _ => True) (.slice Al L.length cl) L))
              case first =>
                have HI1 := Aside0.mk (ints_call2 (w := w5.drew) KK L HI.out rfl (Kd.Q_reads' (q_drew1 HL5.out)) HC3.out.1 (c_drew1 HC5.out))
                go_region_with (first | (go_at_call 30; refine (HNUM.out _).mono ?_; rintro e w4 ⟨rfl, rfl⟩) | (go_at_call 19; refine HI1.out.mono ?_; rintro e w4 ⟨rfl, nd, rfl⟩))
                all_goals go_wp2_with fail
                all_goals go_meet
                all_goals exact cut_leaf (HP5.out.drewN _) (show (w5.drewN _).heap[g9]? = _ from HA5.out) HPL.out (Kd.Q_drewN HL5.out _)
              case rest =>
                obtain ⟨rfl, HP6, HA6, HL6⟩ := hcut
                have hib := HL1024.out
                go_wp2_with fail
                go_loopw [69] (fun q wx => ∃ (j2 : Nat) (L2 : List Int), j2 ≤ L.length ∧ q = .int .i64 j2 ∧ Aside0 (L2.length = L.length) ∧ Aside0 (PP w W.heap.size p w.heap.size (w.heap.size + 1) v mo wx F5 v2 X5 (.int .u32 F5) (.int .i64 mo) (.slice A93 n93 c93) (.slice A93 n93 c93) X5) ∧ Aside0 (wx.heap[g9]? = some (.cells #[.int .i64 kk, .int .u32 n, .int .i64 x] 72 (0, 0))) ∧ Aside0 ((Kd.int .i64).Q 3 wx w1.heap.size (fun _ => True) (.slice Al L.length cl) L2)) (fun q _ => L.length - (intOf q).toNat)
                case atStart => exact ⟨0, L, Nat.zero_le _, rfl, ⟨rfl⟩, HP6, HA6, HL6⟩
                case round =>
                  obtain ⟨j2, L2, hj2, rfl, HLL, HP7, HA7, HL7⟩ := hrel
                  by_cases hlt2 : j2 < L.length
                  · obtain ⟨b, o, c2, hform, _, _, _⟩ := Kd.Q_form HL7.out (by have := HLL.out; omega)
                    simp only [Value.slice.injEq] at hform
                    obtain ⟨rfl, _, rfl⟩ := hform
                    obtain ⟨hcell, hfro⟩ := Kd.Q_cell (d := (0 : Int)) HL7.out j2 (by omega) (by have := HLL.out; omega)
                    (try simp only [Int.toNat_natCast] at hcell hfro)
                    obtain ⟨y0, hy0⟩ : ∃ y0, rdOf (0 : Int) L2 (j2 : Int) = y0 := ⟨_, rfl⟩
                    rw [hy0] at hcell
                    clear hy0
                    have hi2 : (j2 : Int) < (L.length : Int) := by omega
                    go_wp2_with fail
                    have hput := cut_put HP7.out HA7.out HPL.out HL7.out (HV3.out b rfl) j2 (by have := HLL.out; omega) (wrap64 (y0 + 1))
                    go_roundw
                    case rel => exact ⟨j2 + 1, _, by omega, by go_num, ⟨by rw [List.length_set]; exact HLL.out⟩, hput⟩
                    case measure => simp [intOf]; omega
                  · obtain rfl : j2 = L.length := by omega
                    go_wp2_with fail
                    go_meet
                    exact ⟨rfl, ⟨⟨_, _, _, _, HP7.out, BD5.out⟩⟩, HA7⟩
      case rest =>
        obtain ⟨rfl, HS2, HA2⟩ := hcut
        obtain ⟨fr2, v2, v92, zs, hp2, hbd2⟩ := HS2.out
        obtain ⟨A92, c92, rfl, hc92, _⟩ := Kd.Q_reads hp2.q
        have HC92 := Aside0.mk hc92
        have HP2 := Aside0.mk hp2
        have HBD2 := Aside0.mk hbd2
        clear hp2 hbd2 hc92 HS2 HP1 HA1 ha
        have ha := cc3 HA2.out
        have hx := cc3 HP2.out.box
        obtain ⟨i, hi⟩ : ∃ i : Nat, (i : Int) = (n - fr2) % 4294967296 := ⟨((n - fr2) % 4294967296).toNat, by omega⟩
        have HI := Aside0.mk hi
        have HS := Aside0.mk (fun W1 hB1 => stands_q HP2.out HBD2.out W1 hB1)
        clear hi
        by_cases hil : i < zs.length
        · go_wp2_with (first | (go_at_call 14; refine (at_yes HP2.out.row n i HI.out.symm hil _ rfl).mono ?_; rintro e w3 ⟨rfl, m3, rfl⟩) | (go_at_call 23; refine (HS.out _ HB4.out).mono ?_; rintro e w5 ⟨rfl, hb5⟩; have HB5 := Aside0.mk hb5; clear hb5) | (go_at_call 38; refine (ref_at_yes (Kd.C_drewN (Kd.Q_reads' HP2.out.q).2.2 _) HC92.out (by have := HBD2.out.2.2; omega) HBD2.out.1 HBD2.out.2.1 HN.out.1 HN.out.2 i HI.out.symm hil).mono ?_; rintro e w4 ⟨rfl, hb4⟩; have HB4 := Aside0.mk (show Below wc.heap.size wc w4 from (pw_below_drewN (Below.refl wc.heap.size wc) _).trans hb4); clear hb4; have hx4 := cc3 (blk_below HP2.out.box HB4.out)))
          exact ⟨⟨j + 1, by omega, by go_num, ⟨⟨_, _, _, _, HP2.out.below (below_step HB4.out HB5.out), HBD2.out⟩⟩⟩, by simp [intOf]; omega⟩
        · go_wp2_with (first | (go_at_call 14; refine (at_no HP2.out.row n (by rw [← HI.out]; omega)).mono ?_; rintro e w3 ⟨rfl, m3, rfl⟩) | (go_at_call 23; refine (HS.out _ HB4.out).mono ?_; rintro e w5 ⟨rfl, hb5⟩; have HB5 := Aside0.mk hb5; clear hb5) | (go_at_call 38; refine (ref_at_no (Kd.C_drewN (Kd.Q_reads' HP2.out.q).2.2 _) HC92.out (by have := HBD2.out.2.2; omega) HBD2.out.1 HBD2.out.2.1 HN.out.1 HN.out.2 (by rw [← HI.out]; omega)).mono ?_; rintro e w4 ⟨rfl, hb4⟩; have HB4 := Aside0.mk (show Below wc.heap.size wc w4 from (pw_below_drewN (Below.refl wc.heap.size wc) _).trans hb4); clear hb4; have hx4 := cc3 (blk_below HP2.out.box HB4.out)))
          exact ⟨⟨j + 1, by omega, by go_num, ⟨⟨_, _, _, _, HP2.out.below (below_step HB4.out HB5.out), HBD2.out⟩⟩⟩, by simp [intOf]; omega⟩
    · obtain rfl : j = l.length := by omega
      obtain ⟨fr1, v1, v91, ys, hp, hbd⟩ := HS.out
      obtain ⟨A91, n91, c91, rfl⟩ := q_form hp.q
      have HP := Aside0.mk hp
      have HBD := Aside0.mk hbd
      have hx := cc3 hp.box
      have hy := cc3 hp.res
      clear hp hbd
      go_wp2_with fail
      (try simp only [Exit.inBlock, Exit.then])
      refine bodyPost_ret (results_ct rfl _ _ (w.heap.size + 1) 50 #[.int .u32 fr1, .int .i64 mo, .slice A91 n91 c91] (0, 0) _ rfl ?hblk Try.underlying50 rfl (by kernel_rfl)) rfl ?_
      case hblk =>
        refine blk_put (cs := #[.int .u32 fr1, .int .i64 mo, .slice none 0 0]) ?_ 2 _ rfl
        refine blk_put (cs := #[.int .u32 fr1, .int .i64 0, .slice none 0 0]) ?_ 1 _ rfl
        refine blk_put (cs := #[.int .u32 0, .int .i64 0, .slice none 0 0]) ?_ 0 _ rfl
        exact HP.out.res
      exact played_fin HP.out HPL.out HBD.out
end Go.Proofs.Ythflkloghbhhgaa.Rw
/- RowZc -/
namespace Go.Proofs.Ythflkloghbhhgaa.Rw
open Go.RowKit Go.Shelf Go.Proofs.YthflkloghbhhgaaW.PrintWords Go.Proofs.YthflkloghbhhgaaW.PrintMore Go.Proofs.Ythflkloghbhhgaa.Sh Go.Proofs.Ythflkloghbhhgaa.PAll
set_option linter.unusedVariables false
set_option linter.unusedSimpArgs false
attribute [local go_sem] Oper.semAt_some
/-- What comes: a number, a thing. -/
abbrev NX := Int × Int
def nthR (fr : Int) (xs : List Int) (k : Nat) : NX := ((fr + (k : Int)) % 4294967296, xs.getD k 0)
def upto {α : Type} (f : Nat → α) (k : Nat) : List α := (List.range k).map f
theorem upto_succ {α : Type} (f : Nat → α) (k : Nat) : upto f (k + 1) = upto f k ++ [f k] := by simp [upto, List.range_succ]
theorem upto_length {α : Type} (f : Nat → α) (k : Nat) : (upto f k).length = k := by simp [upto]
def Kp (n₀ Bs : Nat) (W W' : World) : Prop := Below n₀ W W' ∧ W'.heap[Bs]? = W.heap[Bs]?
theorem Kp.trans {n₀ Bs : Nat} {A B C : World} (h : Kp n₀ Bs A B) (h' : Kp n₀ Bs B C) : Kp n₀ Bs A C := ⟨h.1.trans h'.1, h'.2.trans h.2⟩
theorem cell_heap {W W' : World} {b : Nat} (h : W'.heap[b]? = W.heap[b]?) (k : Nat) : W'.cell? ⟨b, k, none⟩ = W.cell? ⟨b, k, none⟩ := by unfold World.cell?; rw [h]
theorem RowAt.under {w w' : World} {B p n₀ : Nat} {fr mo : Int} {v : Value} {xs : List Int} (h : RowAt w B p fr mo v xs) (hp : p < n₀) (hv : ∀ k, v.ownBlock = some k → k < n₀) (hb : Below n₀ w w') : RowAt w' B p fr mo v xs := h.keep (hb.block p hp) (fun k hk => hb.block k (hv k hk))
set_option maxRecDepth 100000 in
set_option maxHeartbeats 4000000 in
theorem all1_in (n : Nat) (hn : 1 ≤ n) (l Bs n₀ B p : Nat) (fr mo : Int) (v : Value) (xs : List Int) (hl : xs.length ≤ 1024) (hp : p < n₀) (hv : ∀ k, v.ownBlock = some k → k < n₀) (J Jx : List NX → World → Prop)
    (hY : ∀ pre x W, J pre W → pre.length < xs.length → YieldAt Fence.wide (n - 1) Try.prog l #[.int .u32 x.1, .int .i64 x.2] W fun e W' =>
      (e = .returned (.bool true) ∧ J (pre ++ [x]) W' ∧ Kp n₀ Bs W W') ∨ (e = .returned (.bool false) ∧ Jx (pre ++ [x]) W'))
    (W : World) (hBs : W.heap[Bs]? = some (.cells #[.pointer (some ⟨p, 0, none⟩)] 27 (0, 0))) (hR : RowAt W B p fr mo v xs) (h0 : J [] W)
    (hJd : ∀ pre W m, J pre W → J pre (W.drewN m)) :
    CallsIn Fence.wide n Try.prog 39 #[.func (.yield l) #[] #[], .pointer (some ⟨Bs, 0, none⟩)] W fun e W' => (∃ v, e = .returned v) ∧
      ((∃ ys, ys = upto (nthR fr xs) xs.length ∧ J ys W') ∨ (∃ pre, (∃ k, k ≤ xs.length ∧ pre = upto (nthR fr xs) k) ∧ Jx pre W')) := by
  have HY := Aside0.mk hY
  have HJD := Aside0.mk hJd
  have HBS := Aside0.mk hBs
  have HR := Aside0.mk hR
  have HPV := Aside0.mk (And.intro hp hv)
  have H0 := Aside0.mk h0
  have hb0 : W.cell? ⟨Bs, 0, none⟩ = some (.pointer (some ⟨p, 0, none⟩)) := (blk_cell hBs 0).trans rfl
  clear hY hJd hBs hR hp hv h0
  refine callsIn_of_wp Try.func39 rfl (by trivial) ?_ rfl
  simp only [Try.ntmps39, List.size_toArray, List.length_cons, List.length_nil, Nat.reduceAdd, Nat.reduceSub, Array.replicate_succ, Array.replicate_zero, List.push_toArray, List.append_toArray, List.nil_append, List.cons_append]
  gi_wp2_with (first | (refine ⟨trivial, ?_⟩; gi_at_call 16; refine (callsIn_wide.2 (from_row HR.out)).mono ?_; rintro e w7 ⟨rfl, rfl⟩))
  gi_loopw [4] (fun i wr => ∃ k : Nat, k ≤ xs.length ∧ i = .int .i64 (k : Nat) ∧ Aside0 (J (upto (nthR fr xs) k) wr) ∧ Aside0 (Kp n₀ Bs W wr))
    (fun i _ => xs.length - (intOf i).toNat)
  case atStart => exact ⟨0, Nat.zero_le _, rfl, H0, ⟨⟨Below.refl _ _, rfl⟩⟩⟩
  case round =>
    obtain ⟨k, hk, rfl, HJ, HN⟩ := hrel
    have HRr := Aside0.mk (HR.out.under HPV.out.1 HPV.out.2 HN.out.1)
    have hcb := (cell_heap HN.out.2 0).trans hb0
    by_cases hlt : k < xs.length
    · gi_wp2_with (first | (refine ⟨trivial, ?_⟩; gi_at_call 11; refine (callsIn_wide.2 (len_row HRr.out)).mono ?_; rintro e w7 ⟨rfl, rfl⟩))
      obtain ⟨A, c, rfl, hc, hC⟩ := HRr.out.slice
      obtain ⟨ad, rfl, hcell⟩ := Kd.at_int hC (k : Int) (by omega) (by omega)
      rw [Int.toNat_natCast] at hcell
      have hx := cc3 HRr.out.2.1
      have hlt2 : (k : Int) < (xs.length : Int) := by omega
      have HST := Aside0.mk (fun W' => serial_Step_uint32.calls fr (k : Int) _ W' rfl)
      clear hC
      obtain ⟨y, hyy⟩ : ∃ y, y = rd xs (k : Int) := ⟨_, rfl⟩
      rw [← hyy] at hcell
      obtain ⟨nn, hnn⟩ : ∃ y, y = (fr + (k : Int)) % 4294967296 := ⟨_, rfl⟩
      have HST := Aside0.mk (fun W' => serial_Step_uint32.calls fr (k : Int) nn W' (by rw [hnn]; unfold serial_Step_uint32.f; simp))
      have HNT := Aside0.mk (show nthR fr xs k = (nn, y) from by rw [hnn, hyy]; unfold nthR rd; simp)
      clear hyy hnn
      have HYK := Aside0.mk (fun m : Nat => HY.out (upto (nthR fr xs) k) (nn, y) (wr.drewN m) (HJD.out _ _ _ HJ.out) (by rw [upto_length]; exact hlt))
      gi_region_with (first | (refine ⟨trivial, ?_⟩; gi_at_call 31; refine (callsIn_wide.2 (HST.out _)).mono ?_; rintro e w8 ⟨rfl, ⟨nd, rfl⟩⟩; obtain ⟨fn, tmps, assign, body, hy, hR⟩ := HYK.out (1 + nd); dsimp only at hy; have hR2 := Aside0.mk (hR.mono (fun e W' h => (show ∃ b : Bool, e = .returned (.bool b) ∧ Aside0 ((b = true ∧ J (upto (nthR fr xs) k ++ [(nn, y)]) W' ∧ Kp n₀ Bs (wr.drewN (1 + nd)) W') ∨ (b = false ∧ Jx (upto (nthR fr xs) k ++ [(nn, y)]) W')) from by rcases h with ⟨rfl, h1, h2⟩ | ⟨rfl, h⟩; exact ⟨true, rfl, ⟨.inl ⟨rfl, h1, h2⟩⟩⟩; exact ⟨false, rfl, ⟨.inr ⟨rfl, h⟩⟩⟩))); clear hR) | (refine hR2.out.mono ?_; rintro e W3 ⟨b, rfl, HB3⟩))
      all_goals (rcases HB3.out with ⟨rfl, hJ3, hk3⟩ | ⟨rfl, hJx3⟩)
      all_goals gi_wp2
      all_goals first
        | exact ⟨⟨k + 1, by omega, by go_num, ⟨by rw [upto_succ, HNT.out]; exact hJ3⟩, ⟨Kp.trans (Kp.trans HN.out ⟨pw_below_drewN (Below.refl _ _) _, rfl⟩) hk3⟩⟩, by simp [intOf]; omega⟩
        | (refine bodyPost_ret (results_none rfl _ _ _) rfl ?_; exact ⟨⟨_, rfl⟩, .inr ⟨_, ⟨k + 1, by omega, by rw [upto_succ, HNT.out]⟩, hJx3⟩⟩)
    · obtain rfl : k = xs.length := by omega
      gi_wp2_with (first | (refine ⟨trivial, ?_⟩; gi_at_call 11; refine (callsIn_wide.2 (len_row HRr.out)).mono ?_; rintro e w7 ⟨rfl, rfl⟩))
      go_end0
      exact ⟨⟨_, rfl⟩, .inl ⟨_, rfl, HJ.out⟩⟩
theorem gb_drewN (W : World) (m : Nat) : W.grownBy (W.drewN m) none := ⟨rfl, rfl, rfl, Nat.le_refl _, fun _ _ _ => rfl⟩
theorem all_stops (n : Nat) (hn : 1 ≤ n) (Bs n₀ B p : Nat) (fr mo : Int) (v : Value) (xs : List Int) (hl : xs.length ≤ 1024) (hp : p < n₀) (hv : ∀ k, v.ownBlock = some k → k < n₀) (w : World) (hB : Bs < w.heap.size) (hn₀ : n₀ ≤ w.heap.size)
    (hcell : w.heap[Bs]? = some (.cells #[.pointer (some ⟨p, 0, none⟩)] 27 (0, 0))) (hR : RowAt w B p fr mo v xs) :
    SeqStopsK Fence.wide n Try.prog 39 #[.pointer (some ⟨Bs, 0, none⟩)] (fun x : NX => #[Value.int .u32 x.1, Value.int .i64 x.2]) (Kp n₀ Bs) (fun ys => ys = upto (nthR fr xs) xs.length) (fun pre => ∃ k, k ≤ xs.length ∧ pre = upto (nthR fr xs) k) xs.length w :=
  fun l J Jx W hW hJ _ hY h0 => all1_in n hn l Bs n₀ B p fr mo v xs hl hp hv J Jx hY W ((hW.block Bs hB).trans hcell) (hR.under hp hv (hW.mono hn₀)) h0
    (fun pre W m h => hJ pre W _ none h (gb_drewN W m) (fun r e => by cases e))
set_option maxRecDepth 100000 in
theorem all_calls (w : World) (a : Option Addr) : Calls Try.prog 24 #[.pointer a] w fun e w' => e = .returned (.func (.func 39) #[] #[.pointer (some ⟨w.heap.size, 0, none⟩)]) ∧ w' = w.alloc (.cells #[.pointer a] 27) := by
  go_enter Try.func24, Try.ntmps24
  go_wp2_with fail
  go_ret
  exact ⟨rfl, rfl⟩
end Go.Proofs.Ythflkloghbhhgaa.Rw
/- RowZd -/
namespace Go.Proofs.Ythflkloghbhhgaa.Rw
open Go.RowKit Go.Shelf Go.Proofs.YthflkloghbhhgaaW.PrintWords Go.Proofs.YthflkloghbhhgaaW.PrintMore Go.Proofs.Ythflkloghbhhgaa.Sh Go.Proofs.Ythflkloghbhhgaa.PAll
set_option linter.unusedVariables false
set_option linter.unusedSimpArgs false
attribute [local go_sem] Oper.semAt_some
theorem gb_blk {a b : World} {r : Option Nat} (h : a.grownBy b r) {k : Nat} {o : Obj} (hk : a.heap[k]? = some o) (hn : some k ≠ r) : b.heap[k]? = some o := (h.block k (blk_lt hk) hn).trans hk
theorem results_c1 {P : Program} {fn : Func} {p : Tmp} {ty : TypeId} (h : fn.results = #[.cell p ty]) (tmps : Array Value) (w : World) (g : Nat) (v : Value) (hp : tmps.getD p undef = .pointer (some ⟨g, 0, none⟩)) (hl : (loadVar ty ⟨g, 0, none⟩).run P w = .ok v w) : (results fn tmps).run P w = .ok v w := by
  have hp' : tmps[p]?.getD undef = .pointer (some ⟨g, 0, none⟩) := by simpa using hp
  simp [results, h, hp', asAddr, hl]
theorem load_bool (w : World) (g : Nat) (v : Value) (h : w.cell? ⟨g, 0, none⟩ = some v) : (loadVar 4 ⟨g, 0, none⟩).run Try.prog w = .ok v w := by
  go_simp
end Go.Proofs.Ythflkloghbhhgaa.Rw
/- RowZe -/
namespace Go.Proofs.Ythflkloghbhhgaa.Rw
open Go.RowKit Go.Proofs.YthflkloghbhhgaaW.PrintWords Go.Proofs.YthflkloghbhhgaaW.PrintMore Go.Proofs.Ythflkloghbhhgaa.Sh Go.Proofs.Ythflkloghbhhgaa.PAll
open Go.Proofs.Ythflkloghbhhgaa.Rs (chg_below alive_row Yes)
set_option linter.unusedVariables false
set_option linter.unusedSimpArgs false
theorem below_new {W w1 : World} (hB1 : Below W.heap.size W w1) (o : Obj) : Below W.heap.size W (w1.alloc o) := hB1.alloc hB1.size o
/-- What play is called with, behind New. -/
theorem play_new {W w1 : World} {f0 mo : Int} (hB1 : Below W.heap.size W w1) (hf0 : 0 ≤ f0) (hf1 : f0 < 4294967296) (h1 : 1 ≤ mo) (h2 : mo ≤ 1024)
    (A : Option Addr) (c : Nat) (l : List (Int × Int × Int)) (hC : Kd.C ACT W A l.length l) (hlc : l.length ≤ c) (hll : l.length ≤ 60) (hw : ∀ z ∈ l, 0 ≤ z.2.1 ∧ z.2.1 < 4294967296) :
    Calls Try.prog 20 #[.pointer (some ⟨w1.heap.size, 0, none⟩), .agg #[.int .u32 f0, .int .i64 mo, .slice none 0 0], .slice A l.length c] (w1.alloc (.cells #[.int .u32 f0, .int .i64 mo, .slice none 0 0] 65)) (Played (w1.alloc (.cells #[.int .u32 f0, .int .i64 mo, .slice none 0 0] 65)) W.heap.size w1.heap.size (.slice none 0 0) mo) :=
  play_calls (row_new hB1.size) (Kd.Q_nil _ _ _ _ _) (fun k hk => by simp [Value.ownBlock] at hk) ⟨hf0, hf1, by simp; omega, h1, h2⟩ A c l hC hlc hll hw (below_new hB1 _)
end Go.Proofs.Ythflkloghbhhgaa.Rw
/- RowZf -/
namespace Go.Proofs.Ythflkloghbhhgaa.Rw
open Go.RowKit Go.Shelf Go.Proofs.YthflkloghbhhgaaW.PrintWords Go.Proofs.YthflkloghbhhgaaW.PrintMore Go.Proofs.Ythflkloghbhhgaa.Sh Go.Proofs.Ythflkloghbhhgaa.PAll
set_option linter.unusedVariables false
set_option linter.unusedSimpArgs false
theorem len_none (w : World) : Calls Try.prog 11 #[.pointer none] w fun e w' => e = .returned (.int .i64 0) ∧ ∃ m, w' = w.drewN m := by
  go_enter Try.func11, Try.ntmps11
  go_wp2
  go_ret
  exact ⟨rfl, 0, rfl⟩
theorem from_none (w : World) : Calls Try.prog 16 #[.pointer none] w fun e w' => e = .returned (.int .u32 0) ∧ ∃ m, w' = w.drewN m := by
  go_enter Try.func16, Try.ntmps16
  go_wp2
  go_ret
  exact ⟨rfl, 0, rfl⟩
theorem free_none (w : World) : Calls Try.prog 25 #[.pointer none] w fun e w' => e = .returned (.int .i64 0) ∧ ∃ m, w' = w.drewN m := by
  go_enter Try.func25, Try.ntmps25
  go_wp2
  go_ret
  exact ⟨rfl, 0, rfl⟩
theorem copy_none (w : World) : Calls Try.prog 22 #[.pointer none] w fun e w' => e = .returned (.pointer none) ∧ ∃ m, w' = w.drewN m := by
  go_enter Try.func22, Try.ntmps22
  go_wp2
  go_ret
  exact ⟨rfl, 0, rfl⟩
theorem cut_none (w : World) (n : Int) : Calls Try.prog 17 #[.pointer none, .int .u32 n] w fun e w' => e = .returned (.tuple #[.slice none 0 0, .iface 38 (.int .i64 4)]) ∧ ∃ m, w' = w.drewN m := by
  go_enter Try.func17, Try.ntmps17
  go_wp2
  go_ret2
  exact ⟨rfl, 0, rfl⟩
theorem next_none (w : World) : Calls Try.prog 18 #[.pointer none] w fun e w' => e = .returned (.int .u32 0) ∧ ∃ m, w' = w.drewN m := by
  have HS := Aside0.mk (fun W => serial_Step_uint32.calls 0 0 0 W (by unfold serial_Step_uint32.f; simp))
  go_enter Try.func18, Try.ntmps18
  go_wp2_with (first | (go_at_call 16; refine (from_none _).mono ?_; rintro e w' ⟨rfl, n1, rfl⟩) | (go_at_call 11; refine (len_none _).mono ?_; rintro e w' ⟨rfl, n2, rfl⟩) | (go_at_call 31; refine (HS.out _).mono ?_; rintro e w' ⟨rfl, ⟨nd, rfl⟩⟩))
  go_ret
  exact ⟨rfl, _, rfl⟩
theorem place_none (w : World) (n : Int) : Calls Try.prog 29 #[.pointer none, .int .u32 n] w fun e w' => e = .returned (.int .i64 (-1)) ∧ ∃ m, w' = w.drewN m := by
  have HS := Aside0.mk (fun W => serial_Within_uint32.calls n 0 0 false W (by unfold serial_Within_uint32.f serial_Far_uint32.f; simp; omega))
  go_enter Try.func29, Try.ntmps29
  go_wp2_with (first | (go_at_call 16; refine (from_none _).mono ?_; rintro e w' ⟨rfl, n1, rfl⟩) | (go_at_call 11; refine (len_none _).mono ?_; rintro e w' ⟨rfl, n2, rfl⟩) | (go_at_call 42; refine (HS.out _).mono ?_; rintro e w' ⟨rfl, ⟨nd, rfl⟩⟩))
  go_ret
  exact ⟨rfl, _, rfl⟩
theorem at_none (w : World) (n : Int) : Calls Try.prog 14 #[.pointer none, .int .u32 n] w fun e w' => e = .returned (.tuple #[.int .i64 0, .bool false]) ∧ ∃ m, w' = w.drewN m := by
  go_enter Try.func14, Try.ntmps14
  go_wp2_with (first | (go_at_call 29; refine (place_none _ _).mono ?_; rintro e w' ⟨rfl, nd, rfl⟩))
  go_ret2
  exact ⟨rfl, _, rfl⟩
theorem set_none (w : World) (n x : Int) : Calls Try.prog 12 #[.pointer none, .int .u32 n, .int .i64 x] w fun e w' => e = .returned (.iface 38 (.int .i64 4)) ∧ ∃ m, w' = w.drewN m := by
  go_enter Try.func12, Try.ntmps12
  go_wp2_with (first | (go_at_call 29; refine (place_none _ _).mono ?_; rintro e w' ⟨rfl, nd, rfl⟩))
  go_ret
  exact ⟨rfl, _, rfl⟩
theorem push_none (w : World) (x : Int) : Calls Try.prog 10 #[.pointer none, .int .i64 x] w fun e w' => e = .returned (.tuple #[.int .u32 0, .iface 38 (.int .i64 3)]) ∧ ∃ m, w' = w.drewN m := by
  go_enter Try.func10, Try.ntmps10
  go_wp2_with (first | (go_at_call 25; refine (free_none _).mono ?_; rintro e w' ⟨rfl, nd, rfl⟩))
  go_ret2
  exact ⟨rfl, _, rfl⟩
theorem pop_nilrow (w : World) : Calls Try.prog 15 #[.pointer none] w fun e w' => e = .returned (.tuple #[.int .i64 0, .iface 38 (.int .i64 4)]) ∧ ∃ m, w' = w.drewN m := by
  go_enter Try.func15, Try.ntmps15
  go_wp2_with (first | (go_at_call 11; refine (len_none _).mono ?_; rintro e w' ⟨rfl, nd, rfl⟩))
  go_ret2
  exact ⟨rfl, _, rfl⟩
attribute [local go_sem] Oper.semAt_some
set_option maxRecDepth 100000 in
set_option maxHeartbeats 4000000 in
theorem all0_in (n : Nat) (hn : 1 ≤ n) (l Bs n₀ : Nat) (J Jx : List NX → World → Prop)
    (W : World) (hBs : W.heap[Bs]? = some (.cells #[.pointer none] 27 (0, 0))) (h0 : J [] W)
    (hJd : ∀ pre W m, J pre W → J pre (W.drewN m)) :
    CallsIn Fence.wide n Try.prog 39 #[.func (.yield l) #[] #[], .pointer (some ⟨Bs, 0, none⟩)] W fun e W' => (∃ v, e = .returned v) ∧
      ((∃ ys, ys = [] ∧ J ys W') ∨ (∃ pre, False ∧ Jx pre W')) := by
  have HJD := Aside0.mk hJd
  have H0 := Aside0.mk h0
  have hb0 : W.cell? ⟨Bs, 0, none⟩ = some (.pointer none) := (blk_cell hBs 0).trans rfl
  clear hJd hBs h0
  refine callsIn_of_wp Try.func39 rfl (by trivial) ?_ rfl
  simp only [Try.ntmps39, List.size_toArray, List.length_cons, List.length_nil, Nat.reduceAdd, Nat.reduceSub, Array.replicate_succ, Array.replicate_zero, List.push_toArray, List.append_toArray, List.nil_append, List.cons_append]
  gi_wp2_with (first | (refine ⟨trivial, ?_⟩; gi_at_call 16; refine (callsIn_wide.2 (from_none _)).mono ?_; rintro e w7 ⟨rfl, m7, rfl⟩))
  gi_loopw [4] (fun i wr => i = .int .i64 0 ∧ Aside0 (J [] wr) ∧ wr.cell? ⟨Bs, 0, none⟩ = some (.pointer none)) (fun i _ => 0)
  case atStart => exact ⟨rfl, ⟨HJD.out _ _ _ H0.out⟩, hb0⟩
  case round =>
    obtain ⟨rfl, HJ, hcb⟩ := hrel
    gi_wp2_with (first | (refine ⟨trivial, ?_⟩; gi_at_call 11; refine (callsIn_wide.2 (len_none _)).mono ?_; rintro e w7 ⟨rfl, m7, rfl⟩))
    go_end0
    exact ⟨⟨_, rfl⟩, .inl ⟨_, rfl, HJD.out _ _ _ HJ.out⟩⟩
theorem none_stops (n : Nat) (hn : 1 ≤ n) (Bs n₀ : Nat) (w : World) (hB : Bs < w.heap.size) (hcell : w.heap[Bs]? = some (.cells #[.pointer none] 27 (0, 0))) :
    SeqStopsK Fence.wide n Try.prog 39 #[.pointer (some ⟨Bs, 0, none⟩)] (fun x : NX => #[Value.int .u32 x.1, Value.int .i64 x.2]) (Kp n₀ Bs) (fun ys => ys = []) (fun pre => False) 0 w :=
  fun l J Jx W hW hJ _ hY h0 => all0_in n hn l Bs n₀ J Jx W ((hW.block Bs hB).trans hcell) h0
    (fun pre W m h => hJ pre W _ none h (gb_drewN W m) (fun r e => by cases e))
end Go.Proofs.Ythflkloghbhhgaa.Rw
