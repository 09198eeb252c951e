import Derived.Test.YtjhciagjofhhiaaCkA
import Derived.Laws.Rows
import Derived.Laws.Tables
/- chunk: the example's chunk, II. -/
namespace Go.Proofs.Ytjhciagjofhhiaa.Ck
open Go.RowKit Go.Proofs.YtjhciagjofhhiaaW.PrintWords Go.Proofs.YtjhciagjofhhiaaW.PrintLast Go.Proofs.YtjhciagjofhhiaaW.PrintMore Go.Proofs.Ytjhciagjofhhiaa.Sh Go.Proofs.Ytjhciagjofhhiaa.Tl
set_option linter.unusedVariables false
set_option linter.unusedSimpArgs false
theorem within_yes (n a b : Int) (h1 : a ≤ n) (h2 : n ≤ b) (w : World) : Calls Try.prog 69 #[.int .i64 n, .int .i64 a, .int .i64 b] w fun e w' => e = .returned (.bool true) ∧ w = w' := by
  go_enter Try.func69, Try.ntmps69
  go_wp2
  go_ret
  exact ⟨rfl, rfl⟩
theorem begins_no (w : World) : Calls Try.prog 70 #[.int .i64 11] w fun e w' => e = .returned (.bool false) ∧ w = w' := by
  go_enter Try.func70, Try.ntmps70
  go_wp2
  go_ret
  exact ⟨rfl, rfl⟩
theorem gapped_nil (w : World) : Calls Try.prog 73 #[nilS] w fun e w' => e = .returned (.bool true) ∧ w = w' := by
  go_enter Try.func73, Try.ntmps73
  go_wp2
  go_loopw [8] (fun i wr => i = .int .i64 0 ∧ wr = w) (fun _ _ => 0)
  case atStart => exact ⟨rfl, rfl⟩
  case round =>
    obtain ⟨rfl, rfl⟩ := hrel
    go_wp2
    go_ret
    exact ⟨rfl, rfl⟩
theorem told_11 (w : World) : Calls Try.prog 68 #[KC 11] w fun e w' => e = .returned (.bool true) ∧ Below w.heap.size w w' := by
  have HB := Aside0.mk ((Below.refl w.heap.size w).alloc (Nat.le_refl _) (KO 11))
  go_enter Try.func68, Try.ntmps68
  go_wp2
  go_ret
  exact ⟨rfl, HB.out⟩
abbrev KL (k : Int) : Array Value := #[.int .i64 k, .int .u32 0, .int .u16 0, .int .u16 0, .bool false, .bool false, .bool false, nilS, .int .u32 0, .int .i64 0, .int .i64 0, .int .i64 0, .int .u32 0, nilS, nilS, nilS, nilS, nilS, .int .i64 0, .int .u32 0, nilS, .bool false]
theorem info89 : (Try.prog.info? 89).map (·.size) = some 22 := by kernel_rfl
theorem load89 {w : World} {g : Nat} {k : Int} (h : w.heap[g]? = some (KO k)) : (loadVar 89 ⟨g, 0, none⟩).run Try.prog w = .ok (KC k) w :=
  run_loadVar_row w g 89 89 (KL k) (0, 0) _ h Try.underlying89 rfl info89
theorem store89 {w : World} {g : Nat} {k0 : Int} (k : Int) (h : w.heap[g]? = some (KO k0)) : (storeVar 89 ⟨g, 0, none⟩ (KC k)).run Try.prog w = .ok () (w.setRow g (KL k)) ∧ (w.setRow g (KL k)).heap[g]? = some (KO k) :=
  ⟨run_storeVar_row w g 89 89 (KL k0) (KL k) h info89 rfl (by simp [Value.oneCell']), setRow_heap w g (KL k0) (KL k) 89 (0, 0) h⟩
theorem setRow_other (w : World) (g k : Nat) (cs : Array Value) (h : k ≠ g) : (w.setRow g cs).heap[k]? = w.heap[k]? := by
  unfold World.setRow
  rw [Array.getElem?_modify, if_neg (fun e => h e.symm)]
theorem setRow_below {w w' : World} {n g : Nat} (cs : Array Value) (h : Below n w w') (hg : n ≤ g) : Below n w (w'.setRow g cs) :=
  ⟨h.os, h.tape, h.output, by
    have h1 := h.size
    have h2 : (w'.setRow g cs).heap.size = w'.heap.size := by unfold World.setRow; simp
    omega, fun k hk => (setRow_other w' g k cs (by omega)).trans (h.block k hk)⟩
set_option maxRecDepth 100000 in
set_option maxHeartbeats 2000000 in
theorem used_11 (w : World) : Calls Try.prog 67 #[KC 11] w fun e w' => e = .returned (KC 11) ∧ Below w.heap.size w w' := by
  have hB := (((Below.refl w.heap.size w).alloc (Nat.le_refl _) (KO 11)).alloc (by simp) (KO 0)).alloc (by simp; omega) (KO 0)
  have hx1 := blk_alloc (blk_alloc (blk_new w (KO 11)) (KO 0)) (KO 0)
  have hx2 := blk_alloc (blk_new (w.alloc (KO 11)) (KO 0)) (KO 0)
  have hx3 := blk_new ((w.alloc (KO 11)).alloc (KO 0)) (KO 0)
  simp only [World.size_alloc] at hx2 hx3
  have HS1 := Aside0.mk (store89 11 hx3)
  have HX2 := Aside0.mk ((setRow_other _ (w.heap.size + 1 + 1) (w.heap.size + 1) (KL 11) (by omega)).trans hx2)
  have HX1 := Aside0.mk ((setRow_other _ (w.heap.size + 1 + 1) w.heap.size (KL 11) (by omega)).trans hx1)
  have HB := Aside0.mk (setRow_below (g := w.heap.size + 1 + 1) (KL 11) hB (by omega))
  have HLD := Aside0.mk (load89 HS1.out.2)
  have HST := Aside0.mk (store89 11 HX2.out)
  have hc := (kc HX1.out).1
  clear hB hx1 hx2 hx3
  go_enter Try.func67, Try.ntmps67
  go_upto_region 2 with (first | (with_reducible refine store_whole (s := .tmp 3) rfl rfl rfl rfl HS1.out.1 ?_))
  generalize (((w.alloc (KO 11)).alloc (KO 0)).alloc (KO 0)).setRow (w.heap.size + 1 + 1) (KL 11) = w3 at HB HX1 HX2 HLD HST hc ⊢
  go_wp2_with (first | ((with_reducible refine gate_dst (N := 93) rfl ?_); refine load_whole rfl rfl rfl HLD.out ?_) | (with_reducible refine store_whole (s := .tmp 2) rfl rfl rfl rfl HST.out.1 ?_))
  refine bodyPost_ret (results_cell_row rfl _ _ (w.heap.size + 1) 89 (KL 11) (0, 0) _ rfl HST.out.2 Try.underlying89 rfl info89) rfl ?_
  exact ⟨rfl, setRow_below _ HB.out (by omega)⟩
set_option maxRecDepth 100000 in
theorem flags_11 (w : World) : Calls Try.prog 64 #[KC 11] w fun e w' => e = .returned (.int .i64 0) ∧ Below w.heap.size w w' := by
  have HB := Aside0.mk (((Below.refl w.heap.size w).alloc (Nat.le_refl _) (KO 11)).alloc (by simp) (.cells #[.bool false, .bool false, .bool false] 4))
  have hx := blk_new (w.alloc (KO 11)) (.cells #[.bool false, .bool false, .bool false] 4)
  simp only [World.size_alloc] at hx
  have HX := Aside0.mk hx
  clear hx
  go_enter Try.func64, Try.ntmps64
  go_wp2_with fail
  generalize (w.alloc (KO 11)).alloc (.cells #[.bool false, .bool false, .bool false] 4) = w3 at HB HX ⊢
  have hx := ck3 HX.out
  go_loopw [3, 17] (fun n i wr => ∃ j : Nat, j ≤ 3 ∧ i = .int .i64 (j : Nat) ∧ n = .int .i64 0 ∧ wr = w3) (fun _ i _ => 3 - (intOf i).toNat)
  case atStart => exact ⟨0, by omega, rfl, rfl, rfl⟩
  case round =>
    obtain ⟨j, hj, rfl, rfl, rfl⟩ := hrel
    have h4 : j = 0 ∨ j = 1 ∨ j = 2 ∨ j = 3 := by omega
    rcases h4 with rfl | rfl | rfl | rfl
    · go_wp2_with fail
      exact ⟨⟨1, by omega, rfl, rfl, trivial⟩, by simp [intOf]⟩
    · go_wp2_with fail
      exact ⟨⟨2, by omega, rfl, rfl, trivial⟩, by simp [intOf]⟩
    · go_wp2_with fail
      exact ⟨⟨3, by omega, rfl, rfl, trivial⟩, by simp [intOf]⟩
    · go_wp2_with fail
      go_ret
      exact ⟨rfl, HB.out⟩
theorem params_11 (w : World) : Calls Try.prog 63 #[KC 11] w fun e w' => e = .returned nilS ∧ Below w.heap.size w w' := by
  have HB := Aside0.mk ((Below.refl w.heap.size w).alloc (Nat.le_refl _) (KO 11))
  go_enter Try.func63, Try.ntmps63
  go_wp2_with fail
  go_ret
  exact ⟨rfl, HB.out⟩
theorem fixed_11 (w : World) (p : Option Addr) : Calls Try.prog 62 #[.pointer p, KC 11] w fun e w' => (∃ u, e = .returned u) ∧ Below w.heap.size w w' := by
  have HB := Aside0.mk ((Below.refl w.heap.size w).alloc (Nat.le_refl _) (KO 11))
  go_enter Try.func62, Try.ntmps62
  go_wp2_with fail
  go_end0
  exact ⟨⟨_, rfl⟩, HB.out⟩
end Go.Proofs.Ytjhciagjofhhiaa.Ck
