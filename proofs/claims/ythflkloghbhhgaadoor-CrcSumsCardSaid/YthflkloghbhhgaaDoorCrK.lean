import Derived.Test.YthflkloghbhhgaaDoorCrJ
import Derived.Laws.CopyOwn
/- Put and Get: a sum's bytes. -/
namespace Go.Proofs.YthflkloghbhhgaaDoor.Cr
open Go.RowKit Go.Proofs.YthflkloghbhhgaaDoorW.PrintWords Go.Proofs.YthflkloghbhhgaaDoorW.PrintLast Go.Proofs.YthflkloghbhhgaaDoorW.PrintMore Go.Proofs.YthflkloghbhhgaaDoor.Sh
set_option linter.unusedVariables false
set_option linter.unusedSimpArgs false
theorem info30 : (Tryd.prog.info? 30).map (·.size) = some 4 := by kernel_rfl
theorem store4 (w : World) (g : Nat) (d : List Int) (hl : d.length = 4) {old : Array Value} (hg : w.heap[g]? = some (.cells old 30 (0, 0))) (ho : old.size = 4) :
    (storeVar 30 ⟨g, 0, none⟩ (.agg (cellsB d))).run Tryd.prog w = .ok () (w.setRow g (cellsB d)) ∧ (w.setRow g (cellsB d)).heap[g]? = some (.cells (cellsB d) 30 (0, 0)) :=
  ⟨run_storeVar_row w g 30 30 _ _ hg (by rw [info30, cellsB_size, hl]) (by rw [ho, cellsB_size, hl]) (cellsB_one _), setRow_heap w g _ _ 30 (0, 0) hg⟩
theorem load4 (w : World) (g : Nat) (d : List Int) (hl : d.length = 4) (hg : w.heap[g]? = some (.cells (cellsB d) 30 (0, 0))) : (loadVar 30 ⟨g, 0, none⟩).run Tryd.prog w = .ok (.agg (cellsB d)) w :=
  run_loadVar_row w g 30 30 _ (0, 0) _ hg Tryd.underlying30 rfl (by rw [info30, cellsB_size, hl])
/-- The bytes of a sum, the first k of them laid. -/
def p4 (s k : Nat) : List Int := (List.range 4).map (fun i => if i < k then ((s / 2 ^ (8 * i) % 256 : Nat) : Int) else 0)
theorem p4_len (s k : Nat) : (p4 s k).length = 4 := by simp [p4]
theorem p4_succ (s k : Nat) (hk : k < 4) : (p4 s k).set k ((s / 2 ^ (8 * k) % 256 : Nat) : Int) = p4 s (k + 1) := by
  apply List.ext_getElem
  · simp [p4]
  · intro j h1 h2
    rw [List.getElem_set]
    simp only [p4, List.getElem_map, List.getElem_range]
    by_cases h : k = j
    · subst h
      rw [if_pos rfl, if_pos (by omega)]
    · rw [if_neg h]
      by_cases h3 : j < k
      · rw [if_pos h3, if_pos (by omega)]
      · rw [if_neg h3, if_neg (by omega)]
theorem p4_int (s k : Nat) : (s : Int) / 2 ^ (8 * k) % 256 = ((s / 2 ^ (8 * k) % 256 : Nat) : Int) := by
  first | (rw [Int.natCast_emod, Int.natCast_ediv, Int.natCast_pow]; done) | (rw [Int.natCast_emod, Int.natCast_ediv, Int.natCast_pow]; rfl)
theorem p4_bytes (s k : Nat) : Bytes (p4 s k) := by
  intro x hx
  simp only [p4, List.mem_map] at hx
  obtain ⟨i, _, rfl⟩ := hx
  split
  · have := Nat.mod_lt (s / 2 ^ (8 * i)) (show 0 < 256 by decide)
    omega
  · decide
set_option maxRecDepth 100000 in
set_option maxHeartbeats 2000000 in
theorem put_calls (w : World) (s : Nat) (hs : s < 4294967296) : Calls Tryd.prog 10 #[.int .u32 (s : Nat)] w fun e w' => e = .returned (.agg (cellsB (p4 s 4))) ∧ Below w.heap.size w w' := by
  have hz : (#[.int .u8 0, .int .u8 0, .int .u8 0, .int .u8 0] : Array Value) = cellsB (p4 s 0) := rfl
  have HZ := Aside0.mk hz
  have HB0 := Aside0.mk (below_alloc (below_alloc (Below.refl w.heap.size w) (.cells (cellsB (p4 s 0)) 30)) (.cells (cellsB (p4 s 0)) 30))
  have HR0 := Aside0.mk (blk_alloc (blk_new w (.cells (cellsB (p4 s 0)) 30)) (.cells (cellsB (p4 s 0)) 30))
  have HO0 := Aside0.mk (blk_new_at (w.alloc (.cells (cellsB (p4 s 0)) 30)) (.cells (cellsB (p4 s 0)) 30) (w.heap.size + 1) (by rw [World.size_alloc]))
  clear hz
  go_enter Tryd.func10, Tryd.ntmps10
  go_wp2_with fail
  rw [HZ.out]
  obtain ⟨b, hb⟩ : ∃ b, b = w.heap.size + 1 := ⟨_, rfl⟩
  have HBE := Aside0.mk hb
  have hbw : w.heap.size < b := by omega
  rw [← hb] at HO0 ⊢
  clear hb
  go_loopw [5] (fun i wr => ∃ k : Nat, k ≤ 4 ∧ i = .int .i64 (k : Nat) ∧ Aside0 (Below w.heap.size w wr) ∧ Aside0 (wr.heap[w.heap.size]? = some (.cells (cellsB (p4 s 0)) 30 (0, 0))) ∧ Aside0 (wr.heap[b]? = some (.cells (cellsB (p4 s k)) 30 (0, 0)))) (fun i _ => 4 - (intOf i).toNat)
  case atStart => exact ⟨0, Nat.zero_le _, rfl, HB0, HR0, HO0⟩
  case round =>
    obtain ⟨k, hk, rfl, HB, HR, HO⟩ := hrel
    by_cases hlt : k < 4
    · have hki : (k : Int) < 4 := by omega
      obtain ⟨hs1, ho⟩ := store_byteT wr b k 30 (p4 s k) HO.out (by rw [p4_len]; exact hlt) ((s : Int) / 2 ^ (8 * k) % 256)
      have HS := Aside0.mk hs1
      have HO2 := Aside0.mk (show (wr.setCell ⟨b, k, none⟩ (.int .u8 ((s : Int) / 2 ^ (8 * k) % 256))).heap[b]? = some (Obj.cells (cellsB (p4 s (k + 1))) 30 (0, 0)) from by rw [← p4_succ s k hlt, ← p4_int]; exact ho)
      have HB2 := Aside0.mk (below_set (j := k) (v := .int .u8 ((s : Int) / 2 ^ (8 * k) % 256)) HB.out (Nat.le_of_lt hbw))
      have HR2 := Aside0.mk ((Below.heap_setCell wr ⟨b, k, none⟩ (.int .u8 ((s : Int) / 2 ^ (8 * k) % 256)) w.heap.size (by show w.heap.size ≠ b; omega)).trans HR.out)
      clear hs1 ho
      go_wp2_with (first | (refine store_at (s := .tmp 14) rfl rfl rfl rfl HS.out ?_))
      go_roundw
      case rel => exact ⟨k + 1, by omega, by go_num, HB2, HR2, HO2⟩
      case measure => simp [intOf]; omega
    · obtain rfl : k = 4 := by omega
      have hst := store4 wr w.heap.size (p4 s 4) (p4_len _ _) HR.out rfl
      have HST := Aside0.mk hst
      have HLD := Aside0.mk (load4 wr b (p4 s 4) (p4_len _ _) HO.out)
      clear hst
      go_wp2_with (first | ((with_reducible refine gate_dst (N := 16) rfl ?_); refine load_whole rfl rfl rfl HLD.out ?_) | (refine store_whole (s := .tmp 2) rfl rfl rfl rfl HST.out.1 ?_))
      refine bodyPost_ret (results_cell_row rfl _ _ w.heap.size 30 (cellsB (p4 s 4)) (0, 0) _ rfl HST.out.2 Tryd.underlying30 rfl (by rw [info30, cellsB_size, p4_len])) rfl ?_
      exact ⟨rfl, below_setRow HB.out (Nat.le_refl _) _⟩
theorem index4_0 (a b c d : Int) (W : World) : (Instr.index 30 (.agg #[.int .u8 a, .int .u8 b, .int .u8 c, .int .u8 d]) (.int .i64 0)).run Tryd.prog W = .ok (.int .u8 a) W := by kernel_rfl
theorem index4_1 (a b c d : Int) (W : World) : (Instr.index 30 (.agg #[.int .u8 a, .int .u8 b, .int .u8 c, .int .u8 d]) (.int .i64 1)).run Tryd.prog W = .ok (.int .u8 b) W := by kernel_rfl
theorem index4_2 (a b c d : Int) (W : World) : (Instr.index 30 (.agg #[.int .u8 a, .int .u8 b, .int .u8 c, .int .u8 d]) (.int .i64 2)).run Tryd.prog W = .ok (.int .u8 c) W := by kernel_rfl
theorem index4_3 (a b c d : Int) (W : World) : (Instr.index 30 (.agg #[.int .u8 a, .int .u8 b, .int .u8 c, .int .u8 d]) (.int .i64 3)).run Tryd.prog W = .ok (.int .u8 d) W := by kernel_rfl
theorem index4 (l : List Int) (hl : l.length = 4) (j : Nat) (hj : j < 4) (W : World) : (Instr.index 30 (.agg (cellsB l)) (.int .i64 j)).run Tryd.prog W = .ok (.int .u8 (l.getD j 0)) W := by
  match l, hl with
  | [a, b, c, d], _ =>
    have : j = 0 ∨ j = 1 ∨ j = 2 ∨ j = 3 := by omega
    rcases this with rfl | rfl | rfl | rfl
    · exact index4_0 a b c d W
    · exact index4_1 a b c d W
    · exact index4_2 a b c d W
    · exact index4_3 a b c d W
/-- A byte of a text. -/
def bt (l : List Int) (k : Nat) : Nat := (l.getD k 0).toNat
theorem bt_lt {l : List Int} (h : Bytes l) (k : Nat) : bt l k < 256 := by
  unfold bt
  rw [List.getD_eq_getElem?_getD]
  by_cases hk : k < l.length
  · rw [List.getElem?_eq_getElem hk]
    have := h _ (List.getElem_mem hk)
    simp only [Option.getD_some]
    omega
  · rw [List.getElem?_eq_none (by omega)]
    decide
theorem bt_eq {l : List Int} (h : Bytes l) (k : Nat) : l.getD k 0 = (bt l k : Nat) := by
  unfold bt
  rw [List.getD_eq_getElem?_getD]
  by_cases hk : k < l.length
  · rw [List.getElem?_eq_getElem hk]
    have := h _ (List.getElem_mem hk)
    simp only [Option.getD_some]
    omega
  · rw [List.getElem?_eq_none (by omega)]
    rfl
/-- The number of so many bytes, the least first. -/
def num (l : List Int) : Nat → Nat
  | 0 => 0
  | k + 1 => num l k ||| (bt l k * 2 ^ (8 * k) % 4294967296)
theorem or_lt32 {a b : Nat} (ha : a < 4294967296) (hb : b < 4294967296) : a ||| b < 4294967296 := Nat.or_lt_two_pow (n := 32) ha hb
theorem num_lt (l : List Int) (k : Nat) : num l k < 4294967296 := by
  cases k with
  | zero => show 0 < 4294967296; decide
  | succ k =>
    rw [num]
    refine or_lt32 ?_ (Nat.mod_lt _ (by decide))
    induction k with
    | zero => show 0 < 4294967296; decide
    | succ k ih => rw [num]; exact or_lt32 ih (Nat.mod_lt _ (by decide))
theorem or32 (a b : Nat) (ha : a < 4294967296) (hb : b < 4294967296) : bits .or .u32 (a : Int) (b : Int) = ((a ||| b : Nat) : Int) := by
  have e : bits .or .u32 (a : Int) (b : Int) = IntKind.u32.wrap (((BitVec.ofInt 32 (a : Int) ||| BitVec.ofInt 32 (b : Int)).toNat : Nat) : Int) := rfl
  have e2 : (BitVec.ofInt 32 (a : Int) ||| BitVec.ofInt 32 (b : Int)).toNat = a ||| b := by
    rw [BitVec.toNat_or]
    simp [BitVec.toNat_ofInt]
    rw [Nat.mod_eq_of_lt ha, Nat.mod_eq_of_lt hb]
  have h := or_lt32 ha hb
  rw [e, e2]
  show ((a ||| b : Nat) : Int) % 4294967296 = _
  generalize a ||| b = y at h
  omega
set_option maxRecDepth 100000 in
set_option maxHeartbeats 2000000 in
theorem get_calls (w : World) (l : List Int) (hl : l.length = 4) (hb : Bytes l) : Calls Tryd.prog 12 #[.agg (cellsB l)] w fun e w' => e = .returned (.int .u32 (num l 4 : Nat)) ∧ Below w.heap.size w w' := by
  have HL := Aside0.mk hl
  have HBY := Aside0.mk hb
  have HB0 := Aside0.mk (below_alloc (Below.refl w.heap.size w) (.cells (cellsB l) 30))
  have HLD := Aside0.mk (load4 (w.alloc (.cells (cellsB l) 30)) w.heap.size l hl (blk_new w _))
  clear hl hb
  go_enter Tryd.func12, Tryd.ntmps12
  go_wp2_with (first | ((with_reducible refine gate_dst (N := 6) rfl ?_); refine load_whole rfl rfl rfl HLD.out ?_))
  go_loopw [3, 7] (fun v i wr => ∃ k : Nat, k ≤ 4 ∧ i = .int .i64 (k : Nat) ∧ v = .int .u32 (num l k : Nat) ∧ Aside0 (Below w.heap.size w wr)) (fun _ i _ => 4 - (intOf i).toNat)
  case atStart => exact ⟨0, Nat.zero_le _, rfl, rfl, HB0⟩
  case round =>
    obtain ⟨k, hk, rfl, rfl, HB⟩ := hrel
    by_cases hlt : k < 4
    · have hki : (k : Int) < 4 := by omega
      have hix := fun W => index4 l HL.out k hlt W
      rw [bt_eq HBY.out k] at hix
      obtain ⟨y, hy⟩ : ∃ y, y = bt l k := ⟨_, rfl⟩
      have hy8 : y < 256 := by rw [hy]; exact bt_lt HBY.out k
      rw [← hy] at hix
      obtain ⟨x, hx⟩ : ∃ x, x = num l k := ⟨_, rfl⟩
      rw [← hx]
      have HOR := Aside0.mk (show bits .or .u32 (x : Int) ((y : Int) * 2 ^ (8 * k) % 4294967296) = ((num l (k + 1) : Nat) : Int) from by
        have hxl : x < 4294967296 := by rw [hx]; exact num_lt l k
        rw [num, ← hx, ← hy, ← or32 x _ hxl (Nat.mod_lt _ (by decide)), Int.natCast_emod, Int.natCast_mul, Int.natCast_pow]
        rfl)
      clear hx hy
      go_wp2_with fail
      refine ⟨⟨k + 1, by omega, by go_num, by rw [HOR.out], HB⟩, ?_⟩
      simp [intOf]
      omega
    · obtain rfl : k = 4 := by omega
      go_wp2_with fail
      go_ret
      exact ⟨rfl, HB.out⟩
end Go.Proofs.YthflkloghbhhgaaDoor.Cr
