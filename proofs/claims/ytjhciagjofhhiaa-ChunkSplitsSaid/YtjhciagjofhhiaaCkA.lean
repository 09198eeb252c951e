import Derived.Test.YtjhciagjofhhiaaTlH
import Derived.Deep.DeepCutAuto
/- chunk: the example's chunk. -/
namespace Go.Proofs.Ytjhciagjofhhiaa.Ck
open Go.RowKit Go.Proofs.YtjhciagjofhhiaaW.PrintWords Go.Proofs.YtjhciagjofhhiaaW.PrintLast Go.Proofs.YtjhciagjofhhiaaW.PrintMore Go.Proofs.Ytjhciagjofhhiaa.Sh Go.Proofs.Ytjhciagjofhhiaa.Tl
set_option linter.unusedVariables false
set_option linter.unusedSimpArgs false
abbrev nilS : Value := .slice none 0 0
abbrev P0 : Value := .agg #[.int .u32 0, .int .u16 0, .int .u16 0, .bool false, .bool false, .bool false, nilS]
abbrev PO : Obj := .cells #[.int .u32 0, .int .u16 0, .int .u16 0, .bool false, .bool false, .bool false, nilS] 78 (0, 0)
/-- A chunk that has nothing but its kind. -/
abbrev KC (k : Int) : Value := .agg #[.int .i64 k, .int .u32 0, .int .u16 0, .int .u16 0, .bool false, .bool false, .bool false, nilS, .int .u32 0, .int .i64 0, .int .i64 0, .int .i64 0, .int .u32 0, nilS, nilS, nilS, nilS, nilS, .int .i64 0, .int .u32 0, nilS, .bool false]
abbrev KO (k : Int) : Obj := .cells #[.int .i64 k, .int .u32 0, .int .u16 0, .int .u16 0, .bool false, .bool false, .bool false, nilS, .int .u32 0, .int .i64 0, .int .i64 0, .int .i64 0, .int .u32 0, nilS, nilS, nilS, nilS, nilS, .int .i64 0, .int .u32 0, nilS, .bool false] 89 (0, 0)
theorem kc {w : World} {b : Nat} {k : Int} (h : w.heap[b]? = some (KO k)) : w.cell? ⟨b, 0, none⟩ = some (.int .i64 k) ∧ w.cell? ⟨b, 1, none⟩ = some (.int .u32 0) ∧ w.cell? ⟨b, 2, none⟩ = some (.int .u16 0) ∧ w.cell? ⟨b, 3, none⟩ = some (.int .u16 0) ∧ w.cell? ⟨b, 4, none⟩ = some (.bool false) ∧ w.cell? ⟨b, 5, none⟩ = some (.bool false) ∧ w.cell? ⟨b, 6, none⟩ = some (.bool false) ∧ w.cell? ⟨b, 7, none⟩ = some (nilS) ∧ w.cell? ⟨b, 8, none⟩ = some (.int .u32 0) ∧ w.cell? ⟨b, 9, none⟩ = some (.int .i64 0) ∧ w.cell? ⟨b, 10, none⟩ = some (.int .i64 0) ∧ w.cell? ⟨b, 11, none⟩ = some (.int .i64 0) ∧ w.cell? ⟨b, 12, none⟩ = some (.int .u32 0) ∧ w.cell? ⟨b, 13, none⟩ = some (nilS) ∧ w.cell? ⟨b, 14, none⟩ = some (nilS) ∧ w.cell? ⟨b, 15, none⟩ = some (nilS) ∧ w.cell? ⟨b, 16, none⟩ = some (nilS) ∧ w.cell? ⟨b, 17, none⟩ = some (nilS) ∧ w.cell? ⟨b, 18, none⟩ = some (.int .i64 0) ∧ w.cell? ⟨b, 19, none⟩ = some (.int .u32 0) ∧ w.cell? ⟨b, 20, none⟩ = some (nilS) ∧ w.cell? ⟨b, 21, none⟩ = some (.bool false) :=
  ⟨(blk_cell h 0).trans rfl, (blk_cell h 1).trans rfl, (blk_cell h 2).trans rfl, (blk_cell h 3).trans rfl, (blk_cell h 4).trans rfl, (blk_cell h 5).trans rfl, (blk_cell h 6).trans rfl, (blk_cell h 7).trans rfl, (blk_cell h 8).trans rfl, (blk_cell h 9).trans rfl, (blk_cell h 10).trans rfl, (blk_cell h 11).trans rfl, (blk_cell h 12).trans rfl, (blk_cell h 13).trans rfl, (blk_cell h 14).trans rfl, (blk_cell h 15).trans rfl, (blk_cell h 16).trans rfl, (blk_cell h 17).trans rfl, (blk_cell h 18).trans rfl, (blk_cell h 19).trans rfl, (blk_cell h 20).trans rfl, (blk_cell h 21).trans rfl⟩
theorem pc {w : World} {b : Nat} (h : w.heap[b]? = some PO) : w.cell? ⟨b, 0, none⟩ = some (.int .u32 0) ∧ w.cell? ⟨b, 1, none⟩ = some (.int .u16 0) ∧ w.cell? ⟨b, 2, none⟩ = some (.int .u16 0) ∧ w.cell? ⟨b, 3, none⟩ = some (.bool false) ∧ w.cell? ⟨b, 4, none⟩ = some (.bool false) ∧ w.cell? ⟨b, 5, none⟩ = some (.bool false) ∧ w.cell? ⟨b, 6, none⟩ = some (nilS) :=
  ⟨(blk_cell h 0).trans rfl, (blk_cell h 1).trans rfl, (blk_cell h 2).trans rfl, (blk_cell h 3).trans rfl, (blk_cell h 4).trans rfl, (blk_cell h 5).trans rfl, (blk_cell h 6).trans rfl⟩
set_option maxRecDepth 100000 in
theorem eq77 (w : World) : Calls Try.prog 77 #[nilS, nilS] w fun e w' => e = .returned (.bool true) ∧ w = w' := by
  go_enter Try.func77, Try.ntmps77
  go_wp2
  go_loopw [13] (fun i wr => i = .int .i64 0 ∧ wr = w) (fun _ _ => 0)
  case atStart => exact ⟨rfl, rfl⟩
  case round =>
    obtain ⟨rfl, rfl⟩ := hrel
    go_wp2
    go_ret
    exact ⟨rfl, rfl⟩
set_option maxRecDepth 100000 in
theorem eq90 (w : World) : Calls Try.prog 90 #[nilS, nilS] w fun e w' => e = .returned (.bool true) ∧ w = w' := by
  go_enter Try.func90, Try.ntmps90
  go_wp2
  go_loopw [13] (fun i wr => i = .int .i64 0 ∧ wr = w) (fun _ _ => 0)
  case atStart => exact ⟨rfl, rfl⟩
  case round =>
    obtain ⟨rfl, rfl⟩ := hrel
    go_wp2
    go_ret
    exact ⟨rfl, rfl⟩
set_option maxRecDepth 100000 in
theorem eq91 (w : World) : Calls Try.prog 91 #[nilS, nilS] w fun e w' => e = .returned (.bool true) ∧ w = w' := by
  go_enter Try.func91, Try.ntmps91
  go_wp2
  go_loopw [13] (fun i wr => i = .int .i64 0 ∧ wr = w) (fun _ _ => 0)
  case atStart => exact ⟨rfl, rfl⟩
  case round =>
    obtain ⟨rfl, rfl⟩ := hrel
    go_wp2
    go_ret
    exact ⟨rfl, rfl⟩
set_option maxRecDepth 100000 in
theorem eq92 (w : World) : Calls Try.prog 92 #[nilS, nilS] w fun e w' => e = .returned (.bool true) ∧ w = w' := by
  go_enter Try.func92, Try.ntmps92
  go_wp2
  go_loopw [13] (fun i wr => i = .int .i64 0 ∧ wr = w) (fun _ _ => 0)
  case atStart => exact ⟨rfl, rfl⟩
  case round =>
    obtain ⟨rfl, rfl⟩ := hrel
    go_wp2
    go_ret
    exact ⟨rfl, rfl⟩
set_option maxRecDepth 100000 in
theorem eq93 (w : World) : Calls Try.prog 93 #[nilS, nilS] w fun e w' => e = .returned (.bool true) ∧ w = w' := by
  go_enter Try.func93, Try.ntmps93
  go_wp2
  go_loopw [13] (fun i wr => i = .int .i64 0 ∧ wr = w) (fun _ _ => 0)
  case atStart => exact ⟨rfl, rfl⟩
  case round =>
    obtain ⟨rfl, rfl⟩ := hrel
    go_wp2
    go_ret
    exact ⟨rfl, rfl⟩
set_option maxRecDepth 100000 in
theorem piece_same (w : World) : Calls Try.prog 89 #[P0, P0] w fun e w' => e = .returned (.bool true) ∧ Below w.heap.size w w' := by
  have HB := Aside0.mk (((Below.refl w.heap.size w).alloc (Nat.le_refl _) PO).alloc (by simp) PO)
  go_enter Try.func89, Try.ntmps89
  go_wp2_with (first | (go_at_call 77; refine (eq77 _).mono ?_; rintro e w7 ⟨rfl, rfl⟩))
  go_ret
  exact ⟨rfl, HB.out⟩
set_option maxRecDepth 100000 in
theorem same_k (k : Int) (w : World) : Calls Try.prog 56 #[KC k, KC k] w fun e w' => e = .returned (.bool true) ∧ Below w.heap.size w w' := by
  have HB := Aside0.mk (((Below.refl w.heap.size w).alloc (Nat.le_refl _) (KO k)).alloc (by simp) (KO k))
  have HX := Aside0.mk (blk_alloc (blk_new w (KO k)) (KO k))
  have HY := Aside0.mk (blk_new (w.alloc (KO k)) (KO k))
  go_enter Try.func56, Try.ntmps56
  go_wp2_with (first | (go_at_call 89; refine (piece_same _).mono ?_; rintro e w3 ⟨rfl, hb3⟩; have HB3 := Aside0.mk (below_step HB.out hb3); have hx := kc (blk_below HX.out hb3); have hy := kc (blk_below HY.out hb3); simp only [World.size_alloc] at hy; clear hb3) | (go_at_call 77; refine (eq77 _).mono ?_; rintro e w7 ⟨rfl, rfl⟩) | (go_at_call 90; refine (eq90 _).mono ?_; rintro e w7 ⟨rfl, rfl⟩) | (go_at_call 91; refine (eq91 _).mono ?_; rintro e w7 ⟨rfl, rfl⟩) | (go_at_call 92; refine (eq92 _).mono ?_; rintro e w7 ⟨rfl, rfl⟩) | (go_at_call 93; refine (eq93 _).mono ?_; rintro e w7 ⟨rfl, rfl⟩))
  go_ret
  exact ⟨rfl, HB3.out⟩
end Go.Proofs.Ytjhciagjofhhiaa.Ck
