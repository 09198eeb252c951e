import Derived.Test.YtjmgeelblodcgaaDoorEsO
import Derived.Lib.MakeNoZero
import Derived.Laws.CopyOwn
import Derived.Deep.RegionLaw
import Derived.Laws.Externs
/- The walk of bytes.Repeat, one byte 64 times. -/
namespace Go.Proofs.YtjmgeelblodcgaaDoor.Sx
open Go.RowKit Go.Proofs.YtjmgeelblodcgaaDoorW.PrintWords Go.Proofs.YtjmgeelblodcgaaDoorW.PrintMore Go.Proofs.YtjmgeelblodcgaaDoor.Sh Go.Proofs.YtjmgeelblodcgaaDoor.PAll
set_option linter.unusedVariables false
set_option linter.unusedSimpArgs false
theorem mul64 : bits_Mul.f 1 64 = some (0, 64) := by decide +kernel
theorem splice_rep (cur : List Value) (y : Int) (k d : Nat) (hl : k + d ≤ cur.length) (hw : ∀ j, j < k → cur[j]? = some (Value.int .u8 y)) (j : Nat) (hj : j < k + d) : (splice cur k (List.replicate d (Value.int .u8 y)))[j]? = some (.int .u8 y) := by
  unfold splice
  by_cases h : j < k
  · rw [List.getElem?_append_left (by simp; omega), List.getElem?_take, if_pos h]
    exact hw j h
  · have hk : (cur.take k).length = k := by simp; omega
    rw [List.getElem?_append_right (by omega), hk, List.getElem?_append_left (by simp; omega), List.getElem?_replicate, if_pos (by omega)]
set_option maxRecDepth 100000 in
set_option maxHeartbeats 1000000 in
theorem repeat_calls (w : World) (A : Addr) (c : Nat) (y : Int) (hA : w.cell? A = some (.int .u8 y)) :
    Calls Tryd.prog 45 #[.slice (some A) 1 c, .int .i64 64] w fun e w' => ∃ (g : Nat) (cs : List Value), e = .returned (.slice (some ⟨g, 0, none⟩) 64 64) ∧ w.heap.size ≤ g ∧ w'.heap[g]? = some (.cells cs.toArray 5 (0, 0)) ∧ 64 ≤ cs.length ∧ (∀ j, j < 64 → cs[j]? = some (.int .u8 y)) ∧ Below w.heap.size w w' := by
  have hm0 : decide ((64 : Int) = 0) = false := by decide
  go_enter Tryd.func45, Tryd.ntmps45
  go_wp2_with fail
  refine (bits_Mul.calls 1 64 0 64 _ mul64).mono ?_
  rintro e W1 ⟨rfl, hd⟩
  have HB1 := Aside0.mk hd.below
  clear hd
  obtain ⟨cs, hrunM, hle, _⟩ := Lib.run_makeNoZero (P := Tryd.prog) W1 #[3] 22 5 Tryd.underlying22 64 (by decide)
  have hcall : (callFunc 50 #[.int .i64 64]).run Tryd.prog W1 = .ok (.value (.slice (some ⟨W1.heap.size, 0, none⟩) 64 cs.size)) ((W1.alloc (.cells cs 5)).drewN 2) := by
    rw [run_callFunc_extern Tryd.func50 (by kernel_rfl) (by kernel_rfl) (by kernel_rfl) (e := Extern.BytealgMakeNoZero.makeNoZero #[3] #[22]) (by kernel_rfl)]
    show Result.andThen ((Extern.BytealgMakeNoZero.makeNoZero #[3] #[22] #[.int .i64 ((64 : Nat) : Int)]).run Tryd.prog W1) _ = _
    rw [hrunM]
    rfl
  clear hrunM
  have i1 : (64 : Int) ≤ (cs.size : Int) := by omega
  have hG := blk_new W1 (.cells cs 5)
  have hcA := pw_cell_below (below_alloc HB1.out (.cells cs 5)) hA
  obtain ⟨G, hGe⟩ : ∃ G, G = W1.heap.size := ⟨_, rfl⟩
  have hgw : w.heap.size ≤ G := by rw [hGe]; exact HB1.out.size
  have HB2 := below_alloc HB1.out (.cells cs 5)
  obtain ⟨Wa, hWa⟩ : ∃ x, x = W1.alloc (.cells cs 5) := ⟨_, rfl⟩
  have hcp : (Builtin.copy_ #[22, 22] 3 #[.slice (some ⟨G, 0, none⟩) 64 64, .slice (some A) 1 c]).run Tryd.prog (Wa.drewN 2) = .ok (.int .i64 1) ((Wa.drewN 2).setRow G (cs.toList.take 0 ++ [Value.int .u8 y] ++ cs.toList.drop (0 + [Value.int .u8 y].length)).toArray) := by
    have h := run_copy_row Tryd.prog (Wa.drewN 2) 22 22 3 5 G 0 64 64 A 1 c cs 5 [Value.int .u8 y] Tryd.underlying22 (by
      obtain ⟨i, h1, h2⟩ := tprog5
      rw [h1]; exact congrArg some h2) (by rw [hGe, hWa]; exact hG) rfl (fun j v hj => by
        cases j with
        | zero =>
          have hv : Value.int .u8 y = v := by simpa using hj
          subst hv
          have : A.add 0 = A := by unfold Addr.add; simp
          rw [this, hWa]
          exact hcA
        | succ j => simp at hj) (by simp; omega) (fun v hv => by
          have : v = .int .u8 y := by simpa using hv
          subst this; rfl)
    exact h
  rw [← hGe, ← hWa] at hcall
  have HB3 := below_setRow (show Below w.heap.size w ((W1.alloc (.cells cs 5)).drewN 2) from HB2.drew.drew) hgw (cs.toList.take 0 ++ [Value.int .u8 y] ++ cs.toList.drop (0 + [Value.int .u8 y].length)).toArray
  rw [← hWa] at HB3
  have hG3 : ((Wa.drewN 2).setRow G (cs.toList.take 0 ++ [Value.int .u8 y] ++ cs.toList.drop (0 + [Value.int .u8 y].length)).toArray).heap[G]? = some (.cells (cs.toList.take 0 ++ [Value.int .u8 y] ++ cs.toList.drop (0 + [Value.int .u8 y].length)).toArray 5 (0, 0)) := setRow_heap (Wa.drewN 2) G _ _ 5 (0, 0) (by rw [hGe, hWa]; exact hG)
  obtain ⟨W3, hW3⟩ : ∃ x, x = (Wa.drewN 2).setRow G (cs.toList.take 0 ++ [Value.int .u8 y] ++ cs.toList.drop (0 + [Value.int .u8 y].length)).toArray := ⟨_, rfl⟩
  rw [← hW3] at hcp HB3 hG3
  have HB3 := Aside0.mk HB3
  have HG3 := Aside0.mk hG3
  have HLE := Aside0.mk hle
  have HS := Aside0.mk (show 64 ≤ (cs.toList.take 0 ++ [Value.int .u8 y] ++ cs.toList.drop (0 + [Value.int .u8 y].length)).length by simp; omega)
  have HV := Aside0.mk (fun (j : Nat) (hj : j < 1) => (show (cs.toList.take 0 ++ [Value.int .u8 y] ++ cs.toList.drop (0 + [Value.int .u8 y].length))[j]? = some (.int .u8 y) by
    obtain rfl : j = 0 := by omega
    simp))
  clear hW3 hWa hcA hG HB2 hG3
  clear hGe
  have hcs : (cs.toList.take 0 ++ [Value.int .u8 y] ++ cs.toList.drop (0 + [Value.int .u8 y].length)).toArray.toList = cs.toList.take 0 ++ [Value.int .u8 y] ++ cs.toList.drop (0 + [Value.int .u8 y].length) := rfl
  obtain ⟨C0, hC0⟩ : ∃ x, x = cs.toList.take 0 ++ [Value.int .u8 y] ++ cs.toList.drop (0 + [Value.int .u8 y].length) := ⟨_, rfl⟩
  rw [← hC0] at HG3 HS HV
  clear hcs hC0
  go_wp2_with fail
  clear hcp hcall hle
  go_loopw [10] (fun b wr => ∃ (k : Nat) (cur : List Value), 1 ≤ k ∧ k ≤ 64 ∧ b = .int .i64 k ∧ Aside0 (wr.heap[G]? = some (.cells cur.toArray 5 (0, 0))) ∧ Aside0 (64 ≤ cur.length) ∧ Aside0 (∀ j, j < k → cur[j]? = some (.int .u8 y)) ∧ Aside0 (Below w.heap.size w wr)) (fun b _ => 64 - (intOf b).toNat)
  case atStart => exact ⟨1, C0, Nat.le_refl _, by decide, rfl, HG3, HS, HV, HB3⟩
  case round =>
    obtain ⟨k, cur, hk1, hk, rfl, HC, HL, HW, HB⟩ := hrel
    by_cases hlt : k < 64
    · have hki : (k : Int) < 64 := by omega
      have hmin : min (k : Int) 64 = k := by omega
      obtain ⟨i0, hi0, hsz0⟩ := tprog5
      have hs1 : ∀ W, (Instr.slice 22 (.slice (some ⟨G, 0, none⟩) 64 64) (some (.int .i64 k)) none none).run Tryd.prog W = .ok (.slice (some ⟨G, k, none⟩) (64 - k) (64 - k)) W := by
        intro W
        have h := cut_from (P := Tryd.prog) 22 5 .i64 Tryd.underlying22 hi0 1 hsz0 (some ⟨G, 0, none⟩) 64 64 (k : Int) (by omega) (by omega) W
        rw [Int.toNat_natCast, if_neg (by omega)] at h
        rw [h]
        show Result.ok (Value.slice (some ((⟨G, 0, none⟩ : Addr).add (k * 1))) _ _) W = _
        rw [Nat.mul_one, add_row]
      have hs2 : ∀ W, (Instr.slice 22 (.slice (some ⟨G, 0, none⟩) 64 64) none (some (.int .i64 k)) none).run Tryd.prog W = .ok (.slice (some ⟨G, 0, none⟩) k 64) W := by
        intro W
        have h := cut_to (P := Tryd.prog) 22 5 .i64 Tryd.underlying22 hi0 (some ⟨G, 0, none⟩) 64 64 (k : Int) (by omega) (by omega) (by omega) W
        rw [Int.toNat_natCast] at h
        exact h
      have hsz5 : (Tryd.prog.info? 5).map (·.size) = some 1 := by rw [hi0]; exact congrArg some hsz0
      clear hi0 hsz0
      obtain ⟨d, hd⟩ : ∃ d, d = min k (64 - k) := ⟨_, rfl⟩
      have hd1 : 1 ≤ d := by omega
      have hd2 : k + d ≤ 64 := by omega
      have hdk : d ≤ k := by omega
      have hX := Aside0.mk (show (List.replicate d (Value.int .u8 y)).length = Nat.min k (64 - k) by rw [List.length_replicate]; exact hd)
      have hCd := Aside0.mk (show wr.drew.heap[G]? = some (.cells cur.toArray 5 (0, 0)) from HC.out)
      have hBd := Aside0.mk (show Below w.heap.size w wr.drew from HB.out.drew)
      have hpos := Aside0.mk (show ∀ j v, (List.replicate d (Value.int .u8 y))[j]? = some v → wr.drew.cell? ((⟨G, 0, none⟩ : Addr).add j) = some v from fun j v hj => by
        have hjd : j < d := by
          rcases Nat.lt_or_ge j d with h | h
          · exact h
          · rw [List.getElem?_eq_none (by rw [List.length_replicate]; exact h)] at hj; cases hj
        rw [List.getElem?_replicate, if_pos hjd] at hj
        rw [add_row, blk_cell hCd.out j, ← hj]
        have := HW.out j (by omega)
        simpa using this)
      have hfit := Aside0.mk (show k + (List.replicate d (Value.int .u8 y)).length ≤ cur.length by rw [List.length_replicate]; have := HL.out; omega)
      have h1c := Aside0.mk (show ∀ v ∈ List.replicate d (Value.int .u8 y), v.oneCell' = true from fun v hv => by
        obtain rfl := List.eq_of_mem_replicate hv
        rfl)
      have hwr : IntKind.i64.wrap ((k : Int) + (d : Int)) = (k : Int) + (d : Int) := by rw [IntKind.wrap_i64]; omega
      have HD := Aside0.mk hd
      clear hd
      go_wp2_with fail
      go_region_law (refine step_copy_splice rfl (.tmp 70) (.tmp 73) 22 22 rfl 5 Tryd.underlying22 hsz5 (some ⟨G, k, none⟩) (some ⟨G, 0, none⟩) (64 - k) (64 - k) k 64 (by simp [Act.eval, Act.put]) (by simp [Act.eval, Act.put]) G k cur 5 hCd.out (List.replicate d (.int .u8 y)) hX.out (fun _ => ⟨rfl, _, rfl, hpos.out⟩) hfit.out h1c.out w.heap.size w hBd.out hgw ?_; intro w4 hg4 hb4)
      have HG4 := Aside0.mk (show w4.heap[G]? = some (.cells (splice cur k (List.replicate d (.int .u8 y))).toArray 5 (0, 0)) from hg4)
      have HB4 := Aside0.mk hb4
      clear hg4 hb4
      go_wp2_with fail
      go_roundw
      case rel =>
        repeat apply Exists.intro
        refine ⟨⟨k + d, splice cur k (List.replicate d (Value.int .u8 y)), by omega, hd2, ?e, HG4, ⟨?f⟩, ⟨?g⟩, HB4⟩, ?h⟩
        case h => rfl
        case e => go_num
        case f => rw [length_splice _ _ _ hfit.out]; exact HL.out
        case g =>
          intro j hj
          exact splice_rep cur y k d (by have := HL.out; omega) HW.out j hj
      case measure =>
        show 64 - (intOf (.int .i64 ((k : Int) + (d : Int)))).toNat < _
        simp [intOf]; omega
    · obtain rfl : k = 64 := by omega
      go_wp2_with fail
      go_ret
      exact ⟨G, cur, rfl, hgw, HC.out, HL.out, HW.out, HB.out⟩
end Go.Proofs.YtjmgeelblodcgaaDoor.Sx
