import Derived.Test.YtjmgeelblodcgaaDoorEsH
import Derived.Laws.Rows
import Derived.Laws.Tables
import Derived.Laws.CopyOwn
/- The walk of a state's Sum. -/
namespace Go.Proofs.YtjmgeelblodcgaaDoor.Sx
open Go.RowKit Go.Proofs.YtjmgeelblodcgaaDoorW.PrintWords Go.Proofs.YtjmgeelblodcgaaDoorW.PrintMore Go.Proofs.YtjmgeelblodcgaaDoor.Sh
set_option linter.unusedVariables false
set_option linter.unusedSimpArgs false
def outB (now : List Nat) (i : Nat) : Nat := mr now (i / 4) / 2 ^ (24 - 8 * (i % 4)) % 256
/-- A digest's bytes, the first k of them. -/
def dgN (now : List Nat) (k : Nat) : List Int := (List.range 32).map (fun i => if i < k then (outB now i : Int) else 0)
def cellsB (l : List Int) : Array Value := (l.map (Value.int .u8)).toArray
def zero32 : Array Value := cellsB (List.replicate 32 0)
theorem zero32_eq : (#[.int .u8 0, .int .u8 0, .int .u8 0, .int .u8 0, .int .u8 0, .int .u8 0, .int .u8 0, .int .u8 0, .int .u8 0, .int .u8 0, .int .u8 0, .int .u8 0, .int .u8 0, .int .u8 0, .int .u8 0, .int .u8 0, .int .u8 0, .int .u8 0, .int .u8 0, .int .u8 0, .int .u8 0, .int .u8 0, .int .u8 0, .int .u8 0, .int .u8 0, .int .u8 0, .int .u8 0, .int .u8 0, .int .u8 0, .int .u8 0, .int .u8 0, .int .u8 0] : Array Value) = zero32 := rfl
theorem dgN_len (now : List Nat) (k : Nat) : (dgN now k).length = 32 := by simp [dgN]
theorem dgN_succ (now : List Nat) (k : Nat) (hk : k < 32) : (dgN now k).set k (outB now k : Int) = dgN now (k + 1) := by
  apply List.ext_getElem
  · simp [dgN]
  · intro i h1 h2
    simp only [dgN, List.getElem_set, List.getElem_map, List.getElem_range]
    by_cases h : k = i
    · subst h; simp
    · rw [if_neg h]
      by_cases h3 : i < k
      · rw [if_pos h3, if_pos (by omega)]
      · rw [if_neg h3, if_neg (by omega)]
theorem cellsB_size (l : List Int) : (cellsB l).size = l.length := by simp [cellsB]
theorem cellsB_set (l : List Int) (k : Nat) (v : Int) : (cellsB l).setIfInBounds k (.int .u8 v) = cellsB (l.set k v) := by simp [cellsB, List.map_set]
theorem cellsB_get (l : List Int) (k : Nat) (hk : k < l.length) : (cellsB l)[k]? = some (.int .u8 (l.getD k 0)) := by simp [cellsB, List.getElem?_eq_getElem hk]
theorem cellsB_one (l : List Int) : (cellsB l).all (·.oneCell') = true := by
  rw [Array.all_eq_true_iff_forall_mem]
  intro x hx
  simp only [cellsB, List.mem_toArray, List.mem_map] at hx
  obtain ⟨a, _, rfl⟩ := hx
  rfl
theorem out_facts (x j : Nat) (hx : x < 4294967296) : IntKind.u8.wrap ((x : Int) / 2 ^ j) = ((x / 2 ^ j % 256 : Nat) : Int) := by
  have e : ((x : Int) / 2 ^ j) = ((x / 2 ^ j : Nat) : Int) := by rw [Int.natCast_ediv, Int.natCast_pow]; rfl
  rw [e]
  show ((x / 2 ^ j : Nat) : Int) % 256 = _
  omega
section
variable {P : Program} {ops : Array Oper} {rest : List Oper} {o : Oper} {a : Act} {Q : Exit → Act → World → Prop}
/-- A whole row loaded, stored, in a plain region. -/
theorem load_whole {W : World} {t : TypeId} {s : Operand} {g : Nat} {v : Value} (hgd : o.guard = none) (ho : o.op = .load t s) (hs : a.eval s = .pointer (some ⟨g, 0, none⟩)) (hl : (loadVar t ⟨g, 0, none⟩).run P W = .ok v W) (h : wpList P ops Q rest (a.put o.dst v) W) : wpList P ops Q (o :: rest) a W := by
  refine Kd.event_run hgd ?_ h
  unfold execOp
  simp only [ho, hs, Instr.loadAt, Instr.sureAddr, Sem.run_bind, Sem.run_pure, Result.andThen_ok, hl]
theorem store_whole {W W1 : World} {t : TypeId} {s x : Operand} {g : Nat} {v : Value} (hgd : o.guard = none) (ho : o.op = .store t s x) (hs : a.eval s = .pointer (some ⟨g, 0, none⟩)) (hx : a.eval x = v) (hl : (storeVar t ⟨g, 0, none⟩ v).run P W = .ok () W1) (h : wpList P ops Q rest (a.put o.dst undef) W1) : wpList P ops Q (o :: rest) a W := by
  refine wpList_plain hgd fun K hK => ?_
  unfold Oper.wp execOp
  simp only [ho, hs, hx, Instr.storeAt, Instr.sureAddr, Sem.run_bind, Sem.run_pure, Result.andThen_ok, hl]
  exact hK _ _ h
end
theorem info25 : (Tryd.prog.info? 25).map (·.size) = some 32 := by kernel_rfl
/-- The digest of what was added. -/
def digest (now : List Nat) (l : List Int) (n : Nat) : List Int := dgN (absorb now (l ++ fillB n)).1 32
set_option maxRecDepth 100000 in
set_option maxHeartbeats 1000000 in
theorem dsum_calls (w : World) (b : Nat) (now : List Nat) (l : List Int) (n : Nat) (hS : StA w b now l n) (hcu : Cubes w) (hl : l.length ≤ 900000) (hn : n ≤ 900000000) :
    Calls Tryd.prog 16 #[.pointer (some ⟨b, 0, none⟩)] w fun e w' => e = .returned (.agg (cellsB (digest now l n))) ∧ Below w.heap.size w w' := by
  have HS := Aside0.mk hS
  have HCU := Aside0.mk hcu
  clear hS hcu
  have h2w : 2 < w.heap.size := cell_lt (HCU.out 0 (by decide))
  go_enter Tryd.func16, Tryd.ntmps16
  go_wp2_with fail
  have hR : (w.alloc (.cells zero32 25)).heap[w.heap.size]? = some (.cells (cellsB (List.replicate 32 0)) 25 (0, 0)) := blk_new w _
  have hS1 : StA (w.alloc (.cells zero32 25)) b now l n := by
    obtain ⟨v, h1, h2, h3, h4⟩ := HS.out
    exact ⟨v, blk_alloc h1 _, h2, h3, h4.below (below_alloc (Below.refl _ _) _)⟩
  have hB1 := below_alloc (Below.refl w.heap.size w) (.cells zero32 25)
  have hsz1 : (w.alloc (.cells zero32 25)).heap.size = w.heap.size + 1 := by simp
  obtain ⟨W1, hW1⟩ : ∃ x, x = w.alloc (.cells zero32 25) := ⟨_, rfl⟩
  rw [← hW1] at hR hS1 hB1 hsz1
  have HW1 := Aside0.mk hW1
  clear hW1
  rw [zero32_eq, ← show W1 = w.alloc (.cells zero32 25) from HW1.out]
  clear HW1
  refine (copy_calls W1 b now l n hS1).mono ?_
  rintro e W2 ⟨g, rfl, hg, hS2, hB2⟩
  have hR2 := (hB2.block _ (blk_lt hR)).trans hR
  have hBw2 := hB1.trans (hB2.mono (by omega))
  have hcu2 : Cubes W2 := fun k hk => pw_cell_below hBw2 (HCU.out k hk)
  have c9 : W2.cell? ⟨g, 9, none⟩ = some (.int .i64 n) := by
    obtain ⟨v, h1, h2, _⟩ := hS2
    exact (blk_cell h1 9).trans (vals_app9 now h2 _ _)
  have HS2 := Aside0.mk hS2
  have HR2 := Aside0.mk hR2
  have HB2 := Aside0.mk hBw2
  have HCU2 := Aside0.mk hcu2
  have h2g : 2 ≠ g := by omega
  have HF := Aside0.mk (filling_calls W2 n (by omega))
  clear hS2 hR2 hBw2 hcu2 hR hS1 hB1 hB2
  go_wp2_with (first | (go_at_call 31; refine HF.out.mono ?_; rintro e w3 ⟨v3, rfl, ⟨A3, c3, rfl, hx3⟩, hb3⟩; have HX3 := Aside0.mk hx3; have HB3 := Aside0.mk hb3; clear hx3 hb3))
  have hB3 := HB3.out
  have hS3 : StA w3 g now l n := by
    obtain ⟨v, h1, h2, h3, h4⟩ := HS2.out
    exact ⟨v, (hB3.block g (blk_lt h1)).trans h1, h2, h3, h4.below hB3⟩
  have hcu3 : Cubes w3 := fun k hk => pw_cell_below hB3 (HCU2.out k hk)
  have hfl := (fill_f n (by omega)).2.2
  have HADD := Aside0.mk (add_calls w3 g now l n hS3 hcu3 h2g A3 c3 (fillB n) ⟨A3, c3, rfl, HX3.out⟩ (by omega) (by omega))
  clear c9
  refine HADD.out.mono ?_
  rintro e W4 ⟨⟨u4, rfl⟩, hG4, hS4, _⟩
  obtain ⟨v4, hv4, hn4, hgd4, ht4⟩ := hS4
  have hgR : w.heap.size ≠ g := by omega
  have hR4 := gb_blk hG4 ((hB3.block _ (blk_lt HR2.out)).trans HR2.out) (by intro e; cases e; exact hgR rfl)
  have hB4 := (HB2.out.trans (hB3.mono HB2.out.size)).trans (gb_to hG4 (Nat.le_trans HB2.out.size hB3.size) (fun k e => by cases e; omega))
  obtain ⟨nw, hnw⟩ : ∃ x, x = (absorb now (l ++ fillB n)).1 := ⟨_, rfl⟩
  rw [← hnw] at hv4 hn4 hgd4
  have HNW := Aside0.mk hnw
  have HV4 := Aside0.mk hv4
  have HR4 := Aside0.mk hR4
  have HB4 := Aside0.mk hB4
  have HGD := Aside0.mk hgd4
  have hgW : g < W4.heap.size := blk_lt hv4
  have hRW : w.heap.size < W4.heap.size := blk_lt hR4
  clear hv4 hR4 hB4 hgd4 hnw hG4 ht4 hB3 hS3 hcu3 hfl HADD HX3 HB3 HF
  go_wp2_with fail
  rw [zero32_eq]
  have hG5 : (W4.alloc (.cells zero32 25)).heap[W4.heap.size]? = some (.cells (cellsB (dgN nw 0)) 25 (0, 0)) := blk_new W4 _
  obtain ⟨G, hGe⟩ : ∃ x, x = W4.heap.size := ⟨_, rfl⟩
  have HB5 := Aside0.mk (HB4.out.alloc HB4.out.size (.cells zero32 25))
  rw [← hGe] at hG5 hgW hRW ⊢
  have HG5 := Aside0.mk hG5
  have HV5 := Aside0.mk (blk_alloc HV4.out (.cells zero32 25))
  have HR5 := Aside0.mk (blk_alloc HR4.out (.cells zero32 25))
  clear hGe hG5
  obtain ⟨W5, hW5⟩ : ∃ x, x = W4.alloc (.cells zero32 25) := ⟨_, rfl⟩
  rw [← hW5] at HG5 HV5 HR5 HB5 ⊢
  clear hW5
  go_loopw [18] (fun i wr => ∃ k : Nat, k ≤ 32 ∧ i = .int .i64 k ∧ Aside0 (wr.heap[G]? = some (.cells (cellsB (dgN nw k)) 25 (0, 0))) ∧ Aside0 (W5.grownBy wr (some G))) (fun i _ => 32 - (intOf i).toNat)
  case atStart => exact ⟨0, by decide, rfl, HG5, ⟨gb_below (Below.refl _ _) _⟩⟩
  case round =>
    obtain ⟨k, hk, rfl, HGk, HGb⟩ := hrel
    by_cases hlt : k < 32
    · have hkk : (k : Int) < 32 := by omega
      have hq : k / 4 < 8 := by omega
      have hgne : some g ≠ some G := by intro e; cases e; omega
      have hcell := (blk_cell (gb_blk HGb.out HV5.out hgne) (k / 4)).trans (vals_app nw _ (k / 4) (by omega))
      have hst := (blk_cell HGk.out k).trans (cellsB_get (dgN nw k) k (by rw [dgN_len]; exact hlt))
      have hfz := blk_frozen HGk.out k
      have hof := out_facts (mr nw (k / 4)) (24 - 8 * (k % 4)) (HGD.out (k / 4))
      have HO := Aside0.mk (show mr nw (k / 4) / 2 ^ (24 - 8 * (k % 4)) % 256 = outB nw k from rfl)
      rw [HO.out] at hof
      obtain ⟨q, hqe⟩ : ∃ q, q = k / 4 := ⟨_, rfl⟩
      obtain ⟨r, hre⟩ : ∃ r, r = k % 4 := ⟨_, rfl⟩
      have hd : Int.tdiv (k : Int) 4 = q := by rw [Int.tdiv_eq_ediv_of_nonneg (by omega)]; omega
      have hm : Int.tmod (k : Int) 4 = r := by rw [Int.tmod_eq_emod_of_nonneg (by omega)]; omega
      have hr4 : r < 4 := by omega
      rw [← hqe] at hcell hof hq
      rw [← hre] at hof
      obtain ⟨s, hse⟩ : ∃ s, s = 24 - 8 * r := ⟨_, rfl⟩
      have h1 : wrap64 (8 * (r : Int)) = 8 * (r : Int) := by unfold wrap64; omega
      have h2 : wrap64 (24 - 8 * (r : Int)) = (s : Int) := by unfold wrap64; omega
      have h3 : (0 : Int) ≤ (s : Int) := by omega
      have h4 : (s : Int) ≤ 32 := by omega
      have hq8 : (q : Int) < 8 := by omega
      rw [← hse] at hof
      clear hqe hre hse hr4
      go_wp2_with fail
      go_roundw
      case rel =>
        refine ⟨k + 1, by omega, by go_num, ⟨?_⟩, ⟨gb_trans HGb.out (gb_set wr G k _) (fun j e => .inl e)⟩⟩
        rw [← dgN_succ nw k hlt]
        exact blk_put HGk.out k _ (cellsB_set _ _ _)
      case measure => simp [intOf]; omega
    · obtain rfl : k = 32 := by omega
      have hgne : some w.heap.size ≠ some G := by intro e; cases e; omega
      have hRr := gb_blk HGb.out HR5.out hgne
      have hld : (loadVar 25 ⟨G, 0, none⟩).run Tryd.prog wr = .ok (.agg (cellsB (dgN nw 32))) wr := run_loadVar_row wr G 25 25 _ (0, 0) _ HGk.out Tryd.underlying25 rfl (by rw [info25, cellsB_size, dgN_len])
      have hst : (storeVar 25 ⟨w.heap.size, 0, none⟩ (.agg (cellsB (dgN nw 32)))).run Tryd.prog wr = .ok () (wr.setRow w.heap.size (cellsB (dgN nw 32))) := run_storeVar_row wr w.heap.size 25 25 _ _ hRr (by rw [info25, cellsB_size, dgN_len]) (by rw [cellsB_size, cellsB_size, dgN_len]; rfl) (cellsB_one _)
      have HRr := Aside0.mk hRr
      clear hRr
      have HLD := Aside0.mk hld
      have HST := Aside0.mk hst
      clear hld hst
      go_wp2_with (first | ((with_reducible refine gate_dst (N := 37) rfl ?_); refine load_whole rfl rfl rfl HLD.out ?_) | (with_reducible refine store_whole (s := .tmp 2) rfl rfl rfl rfl HST.out ?_))
      refine bodyPost_ret (results_cell_row rfl _ _ w.heap.size 25 (cellsB (dgN nw 32)) (0, 0) _ rfl (setRow_heap wr w.heap.size _ _ 25 (0, 0) HRr.out) Tryd.underlying25 rfl (by rw [info25, cellsB_size, dgN_len])) rfl ?_
      refine ⟨by rw [HNW.out]; rfl, ?_⟩
      have hb := HB5.out.trans (gb_to HGb.out HB5.out.size (fun j e => by cases e; omega))
      exact below_setRow hb (Nat.le_refl _) _
end Go.Proofs.YtjmgeelblodcgaaDoor.Sx
