import Derived.Test.YtjmgeelblodcgaaDoorEsN
/- The walk of ShaParts. -/
namespace Go.Proofs.YtjmgeelblodcgaaDoor.Sx
open Go.RowKit Go.Proofs.YtjmgeelblodcgaaDoorW.PrintWords Go.Proofs.YtjmgeelblodcgaaDoorW.PrintMore Go.Proofs.YtjmgeelblodcgaaDoor.Sh
set_option linter.unusedVariables false
set_option linter.unusedSimpArgs false
/-- What is open lies apart from a row. -/
def Apart (w : World) (g : Nat) (row : Option Nat) : Prop := ∀ (A : Addr) (n c : Nat), w.cell? ⟨g, 8, none⟩ = some (.slice (some A) n c) → 0 < n → row ≠ some A.block
theorem cell_of_heap {w W : World} {g i : Nat} (h : W.heap[g]? = w.heap[g]?) : W.cell? ⟨g, i, none⟩ = w.cell? ⟨g, i, none⟩ := by unfold World.cell?; rw [h]
theorem Apart.step {w W : World} {g : Nat} {row : Option Nat} (h : Apart w g row) (hh : W.heap[g]? = w.heap[g]?) : Apart W g row := fun A n c hc => h A n c (by rw [← cell_of_heap hh]; exact hc)
theorem Apart.of_open {w : World} {g F : Nat} {row : Option Nat} (h : OpenAb w g F) (hr : ∀ k, row = some k → k < F) : Apart w g row := fun A n c hc _ e => by
  have := hr _ e
  have := h A n c hc
  omega
theorem Apart.nil {w : World} {g : Nat} {row : Option Nat} (h : Fed w g []) : Apart w g row := by
  obtain ⟨v, h1, h2, _, A, c, rfl, _⟩ := h
  intro A' n c' hc hn
  rw [(blk_cell h1 8).trans (vals_app8 _ h2 _ _)] at hc
  simp only [Option.some.injEq, Value.slice.injEq] at hc
  have : (absorb rts []).2.length = 0 := rfl
  omega
theorem Txt.grown {w W : World} {v : Value} {l : List Int} {g : Nat} (h : Txt w v l) (hg : w.grownBy W (some g)) (hne : ∀ A n c, v = .slice (some A) n c → 0 < n → A.block ≠ g) : Txt W v l := by
  obtain ⟨A, c, rfl, h2, h3, h4⟩ := h
  exact ⟨A, c, rfl, h2, Kd.C_keep (0 : Int) h3 ⟨hg.size, fun i hi hn _ => hg.block i hi (by intro e; cases e; exact hn rfl)⟩ (fun ad he hl => hne ad _ _ (by rw [he]) hl), h4⟩
theorem Fed.grown {w W : World} {g : Nat} {l : List Int} {row : Option Nat} (h : Fed w g l) (hg : w.grownBy W row) (hne : some g ≠ row) (ha : Apart w g row) : Fed W g l := by
  obtain ⟨v, h1, h2, h3, h4⟩ := h
  have hc := (blk_cell h1 8).trans (vals_app8 _ h2 _ _)
  refine ⟨v, gb_blk hg h1 hne, h2, h3, ?_⟩
  cases row with
  | none => exact h4.below (gb_to hg (Nat.le_refl _) (fun k e => by cases e))
  | some r => exact h4.grown hg (fun A n c hv hn e => ha A n c (by rw [hc, hv]) hn (by rw [e]))
theorem Fed.heap {w : World} {g : Nat} {l : List Int} (h : Fed w g l) : ∃ cs, w.heap[g]? = some (.cells cs 59 (0, 0)) := by
  obtain ⟨v, h1, _⟩ := h
  exact ⟨_, h1⟩
theorem part_at {w : World} {A0 : Option Addr} {ps : List (List Int)} (h : Kd.C (Kd.slice 5 (Kd.int .u8)) w A0 ps.length ps) (k : Nat) (hk : k < ps.length) :
    ∃ ad A c, A0 = some ad ∧ w.cell? (ad.add k) = some (.slice A (prt ps k).length c) ∧ (prt ps k).length ≤ c ∧ Kd.C (Kd.int .u8) w A (prt ps k).length (prt ps k) := by
  obtain ⟨ad, cs, h1, h2, ⟨A, c, rfl, h3, h4⟩, h5⟩ := Kd.C_get h [] (k : Int) (by omega) (by omega)
  have h6 := h5 0 _ rfl
  refine ⟨ad, A, c, h1, ?_, h3, h4⟩
  have e : (k : Int).toNat * (Kd.slice 5 (Kd.int .u8)).sz + 0 = k := by show (k : Int).toNat * 1 + 0 = k; simp
  rw [e] at h6
  exact h6
theorem flat_len (ps : List (List Int)) (m : Nat) : ∀ k, (∀ j, j < k → (prt ps j).length ≤ m) → (flat ps k).length ≤ m * k
  | 0, _ => by simp [flat]
  | k + 1, h => by
    have h1 := flat_len ps m k (fun j hj => h j (by omega))
    have h2 := h k (by omega)
    show (flat ps k ++ prt ps k).length ≤ _
    rw [List.length_append, Nat.mul_succ]
    omega
theorem flat_bytes (ps : List (List Int)) (h : ∀ k, Bytes (prt ps k)) : ∀ k, Bytes (flat ps k)
  | 0 => fun x hx => by simp [flat] at hx
  | k + 1 => fun x hx => (List.mem_append.1 (show x ∈ flat ps k ++ prt ps k from hx)).elim (flat_bytes ps h k x) (h k x)
theorem prt_bytes {ps : List (List Int)} (h : ∀ p ∈ ps, Bytes p) (k : Nat) : Bytes (prt ps k) := by
  unfold prt
  rw [List.getD_eq_getElem?_getD]
  by_cases hk : k < ps.length
  · rw [List.getElem?_eq_getElem hk]
    exact h _ (List.getElem_mem hk)
  · rw [List.getElem?_eq_none (by omega)]
    exact fun x hx => by simp at hx
/-- Where ShaParts stands after k parts. -/
structure Std (w : World) (g : Nat) (ps : List (List Int)) (m : Nat) (k : Nat) (v : Value) (wr : World) : Prop where
  row : RB wr w.heap.size v (flat ps k)
  bel : Below w.heap.size w wr
  fed : Fed wr g (flat ps k)
  ap : Apart wr g v.ownBlock
  len : ∀ j, j < k → (prt ps j).length ≤ m
theorem Std.lenle {w : World} {g m k : Nat} {ps : List (List Int)} {v : Value} {wr : World} (h : Std w g ps m k v wr) (hk : k ≤ 21) (hm : m ≤ 300) : (flat ps k).length ≤ 6300 := by
  have := flat_len ps m k h.len
  have : m * k ≤ 300 * 21 := Nat.mul_le_mul hm hk
  omega
/-- The parts, where all are short. -/
theorem parts_of {w W : World} {A0 : Option Addr} {ps : List (List Int)} {m : Nat} (hC : Kd.C (Kd.slice 5 (Kd.int .u8)) w A0 ps.length ps) (hb : ∀ k, Bytes (prt ps k)) (hl : ∀ j, j < ps.length → (prt ps j).length ≤ m) (hm : m ≤ 300) (hB : Below w.heap.size w W) : PartsOf W A0 ps := by
  intro k hk
  obtain ⟨ad, A, c, h1, h2, h3, h4⟩ := part_at hC k hk
  have := hl k hk
  exact ⟨ad, A, c, h1, pw_cell_below hB h2, ⟨A, c, rfl, h3, Kd.C_below h4 hB, hb k, by omega⟩⟩
theorem own_form {w : World} {base n c : Nat} {A : Option Addr} {l : List Int} (h : RB w base (.slice A n c) l) : l = [] ∨ ∃ g, A = some ⟨g, 0, none⟩ := by
  obtain ⟨inner, ho⟩ := Kd.R_own h
  rcases ho.2 with ⟨he, hn⟩ | ⟨g, cap, cur, he, _⟩
  · left
    injection he with _ h2
    have h3 := (Kd.R_reads' h).1
    exact List.eq_nil_of_length_eq_zero (by omega)
  · right
    injection he with h1
    exact ⟨g, h1⟩
set_option maxRecDepth 100000 in
set_option maxHeartbeats 2000000 in
theorem shaParts_main (w : World) (hr : Roots w) (hcu : Cubes w) (A0 : Option Addr) (c0 : Nat) (ps : List (List Int)) (hC : Kd.C (Kd.slice 5 (Kd.int .u8)) w A0 ps.length ps) (hby : ∀ k, Bytes (prt ps k)) :
    Calls Tryd.prog 4 #[.slice A0 ps.length c0] w (Yes w) := by
  have h2w : 2 < w.heap.size := cell_lt (hcu 0 (by decide))
  have HR := Aside0.mk hr
  have HCU := Aside0.mk hcu
  have HC := Aside0.mk hC
  have HBY := Aside0.mk hby
  have hps : ps.length ≤ 9223372036854775807 := hC.2.1
  clear hr hcu hC hby
  go_enter Tryd.func4, Tryd.ntmps4
  go_wp2_with fail
  refine (alive_calls w HR.out HCU.out).mono ?_
  rintro e w1 ⟨rfl, hb⟩
  have HB1 := Aside0.mk hb
  clear hb
  go_wp2_with (first | ((with_reducible refine gate_dst (N := 11) rfl ?_); refine Kd.R_lit (Kd.int .u8) (w0 := w) w.heap.size 5 ?hg (N := 11) ?hd (xs := ([] : List Int)) (inner := []) (ok := fun _ => True) (okp := fun _ => True) ?hr ?hp (fun _ hk => hk) trivial HB1.out HB1.out.size (by simp) ?_; (case hd => rfl); (case hg => rfl); (case hr => first | (go_simp; done) | (go_simp; rfl)); (case hp => exact (Reps.none _ _)); intro v1 w2 ho hb hg hn; have HO2 := Aside0.mk ho; have HB2 := Aside0.mk hb; clear ho hb hg hn; obtain ⟨A2, c2, rfl⟩ := Kd.R_slice HO2.out))
  refine (fed_begin w2 (HR.out.below HB2.out)).mono ?_
  rintro e w3 ⟨rfl, hf, hb⟩
  obtain ⟨g, hge⟩ : ∃ g, g = w2.heap.size := ⟨_, rfl⟩
  rw [← hge] at hf ⊢
  have hgw : w.heap.size ≤ g := by rw [hge]; exact HB2.out.size
  have HS0 := Aside0.mk (⟨Kd.R_below HO2.out hb, HB2.out.trans (hb.mono HB2.out.size), hf, Apart.nil hf, fun j hj => by omega⟩ : Std w g ps 300 0 (.slice A2 ([] : List Int).length c2) w3)
  clear hf hb hge HB2 HO2 HB1
  go_wp2_with fail
  go_loopw [3, 15] (fun v i wr => ∃ (k : Nat) (A : Option Addr) (c : Nat), k ≤ ps.length ∧ k ≤ 21 ∧ i = .int .i64 k ∧ v = .slice A (flat ps k).length c ∧ Aside0 (Std w g ps 300 k v wr)) (fun _ i _ => ps.length - (intOf i).toNat)
  case atStart => exact ⟨0, A2, c2, Nat.zero_le _, by decide, rfl, rfl, HS0⟩
  case round =>
    obtain ⟨k, A, c, hk, hk21, rfl, rfl, HS⟩ := hrel
    by_cases hlt : k < ps.length
    · obtain ⟨ad, A', c2, hA, hcell, hc2, hCp⟩ := part_at HC.out k hlt
      subst hA
      have hcell2 := pw_cell_below HS.out.bel hcell
      have HCP := Aside0.mk hCp
      clear hcell hCp
      by_cases h20 : 20 < k
      · have n1 : decide ((20 : Int) < (k : Int)) = true := by simp; omega
        go_wp2_with fail
        go_ret
        exact ⟨rfl, HS.out.bel⟩
      · have n1 : decide ((20 : Int) < (k : Int)) = false := by simp; omega
        by_cases h300 : 300 < (prt ps k).length
        · have n2 : decide ((300 : Int) < ((prt ps k).length : Int)) = true := by simp; omega
          go_wp2_with fail
          go_ret
          exact ⟨rfl, HS.out.bel⟩
        · have n2 : decide ((300 : Int) < ((prt ps k).length : Int)) = false := by simp; omega
          have hfl := HS.out.lenle hk21 (Nat.le_refl _)
          have HL1 := Aside0.mk (show ((flat ps k).length + (prt ps k).length) * 1 ≤ 140737488355328 by omega)
          have HL2 := Aside0.mk (show (([] : List Int).length + (prt ps k).length) * 1 ≤ 140737488355328 by simp; omega)
          have HF := Aside0.mk hfl
          clear hfl
          go_wp2_with (first | (at_builtin; refine Kd.R_append_rows (Kd.int .u8) (w0 := w) w.heap.size rfl (.tmp 27) (.tmp 28) 22 5 (.int .u8 0) 1 rfl Tryd.underlying22 info5 rfl (by decide) (by omega) (.slice A (flat ps k).length c) (flat ps k) (prt ps k) A' (prt ps k).length c2 (fun _ => True) (fun _ => False) rfl rfl ?aO ?aR (fun _ _ h => h) (fun _ h => h.elim) (fun _ _ => trivial) ?aB ?aS ?aL ?_; (case aO => exact HS.out.row); (case aR => exact Kd.C_below HCP.out HS.out.bel); (case aB => exact HS.out.bel); (case aS => exact HS.out.bel.size); (case aL => exact HL1.out); intro v4 w4 ho hb hg hn; have HO4 := Aside0.mk ho; have HB4 := Aside0.mk hb; have HG4 := Aside0.mk hg; have HN4 := Aside0.mk hn; clear ho hb hg hn; obtain ⟨A4, c4, rfl⟩ := Kd.R_slice HO4.out; have HZ4 := Aside0.mk (Below.refl w4.heap.size w4)) | ((with_reducible refine gate_dst (N := 30) rfl ?_); refine Kd.R_lit (Kd.int .u8) (w0 := w4) w4.heap.size 5 ?hg (N := 30) ?hd (xs := ([] : List Int)) (inner := []) (ok := fun _ => True) (okp := fun _ => True) ?hr ?hp (fun _ hk => hk) trivial HZ4.out (Nat.le_refl _) (by simp) ?_; (case hd => rfl); (case hg => rfl); (case hr => first | (go_simp; done) | (go_simp; rfl)); (case hp => exact (Reps.none _ _)); intro v5 w5 ho hb hg hn; have HO5 := Aside0.mk ho; have HB5 := Aside0.mk hb; clear ho hb hg hn; obtain ⟨A5, c5, rfl⟩ := Kd.R_slice HO5.out; have HCP5 := Aside0.mk (Kd.C_below HCP.out (HB4.out.trans (HB5.out.mono HB4.out.size)))) | (at_builtin; refine Kd.R_append_rows (Kd.int .u8) (w0 := w4) w4.heap.size rfl (.tmp 30) (.tmp 31) 22 5 (.int .u8 0) 1 rfl Tryd.underlying22 info5 rfl (by decide) (by omega) (.slice A5 ([] : List Int).length c5) [] (prt ps k) A' (prt ps k).length c2 (fun _ => True) (fun _ => False) rfl rfl ?aO ?aR (fun _ _ h => h) (fun _ h => h.elim) (fun _ _ => trivial) ?aB ?aS ?aL ?_; (case aO => exact HO5.out); (case aR => exact HCP5.out); (case aB => exact HB5.out); (case aS => exact HB5.out.size); (case aL => exact HL2.out); intro v6 w6 ho hb hg hn; rw [List.nil_append] at ho; have HO6 := Aside0.mk ho; have HB6 := Aside0.mk hb; clear ho hb hg hn; obtain ⟨A6, c6, rfl⟩ := Kd.R_slice HO6.out))
          have hB4 := HB4.out
          have hF6 : Fed w6 g (flat ps k) := by
            have hne : some g ≠ (Value.slice A (flat ps k).length c).ownBlock := by
              obtain ⟨cs, hcs⟩ := HS.out.fed.heap
              exact Kd.R_ne HS.out.row hcs (by decide)
            have h4 := HS.out.fed.grown HG4.out hne HS.out.ap
            exact h4.below HB6.out
          have hB6 := hB4.trans (HB6.out.mono hB4.size)
          have hT6 : Txt w6 (.slice A6 (prt ps k).length c6) (prt ps k) := Txt.of_RB HO6.out (HBY.out k) (by omega)
          have hfl1 := HF.out
          have hR4 := HO4.out
          have hR6 : RB w6 w.heap.size (.slice A4 (flat ps k ++ prt ps k).length c4) (flat ps k ++ prt ps k) := Kd.R_below hR4 HB6.out
          have hlt4 : ∀ j, (Value.slice A4 (flat ps k ++ prt ps k).length c4).ownBlock = some j → j < w4.heap.size := Kd.R_lt hR4
          have hge6 : ∀ j, (Value.slice A6 (prt ps k).length c6).ownBlock = some j → w4.heap.size ≤ j := Kd.R_base HO6.out
          have hlt6 : ∀ j, (Value.slice A6 (prt ps k).length c6).ownBlock = some j → j < w6.heap.size := Kd.R_lt HO6.out
          have HADD := Aside0.mk (fed_add w6 g (flat ps k) hF6 (HCU.out.below hB6) (by omega) A6 c6 (prt ps k) hT6 (by omega))
          have hform := own_form HO6.out
          refine HADD.out.mono ?_
          rintro e w7 ⟨⟨u7, rfl⟩, hg7, hf7, ho7⟩
          obtain ⟨cs6, hcs6⟩ := hF6.heap
          have hn4 : some g ≠ (Value.slice A4 (flat ps k ++ prt ps k).length c4).ownBlock := Kd.R_ne hR6 hcs6 (by decide)
          have hn6 : some g ≠ (Value.slice A6 (prt ps k).length c6).ownBlock := Kd.R_ne HO6.out hcs6 (by decide)
          have hR7 := Aside0.mk (Kd.R_grown1 hR6 rfl hg7 hn4)
          have hO7 := Aside0.mk (Kd.R_grown1 HO6.out rfl hg7 hn6)
          have hF7 := Aside0.mk (show Fed w7 g (flat ps (k + 1)) from hf7)
          have hAp7 := Aside0.mk (Apart.of_open ho7 (fun j hj => Nat.lt_of_lt_of_le (hlt4 j hj) HB6.out.size) : Apart w7 g (Value.slice A4 (flat ps k ++ prt ps k).length c4).ownBlock)
          have hAq7 := Aside0.mk (Apart.of_open ho7 hlt6 : Apart w7 g (Value.slice A6 (prt ps k).length c6).ownBlock)
          have hB7 := Aside0.mk (hB6.trans (gb_to hg7 hB6.size (fun j e => by cases e; exact hgw)))
          have hN46 := Aside0.mk (fun j (hj : (Value.slice A6 (prt ps k).length c6).ownBlock = some j) => (show some j ≠ (Value.slice A4 (flat ps k ++ prt ps k).length c4).ownBlock from fun e => by
            have := hlt4 j e.symm
            have := hge6 j hj
            omega))
          have hW4 := Nat.le_trans hB4.size (Nat.le_refl w4.heap.size)
          have hGE := Aside0.mk hge6
          have hN6 := Aside0.mk hn6
          have hLen := Aside0.mk (show (flat ps (k + 1)).length = (flat ps k).length + (prt ps k).length by show (flat ps k ++ prt ps k).length = _; simp)
          have hS7 : w6.heap.size ≤ w7.heap.size := hg7.size
          rw [show flat ps k ++ prt ps k = flat ps (k + 1) from rfl] at hR7 hAp7 hN46
          clear hg7 hf7 ho7 hcs6 hn4 hn6 hR6 hR4 hlt4 hge6 hlt6 hT6 hF6 hB6 hB4 hfl1 HADD HO4 HO5 HO6 HB4 HB5 HB6 HG4 HN4 HZ4 HCP5 HL1 HL2
          go_wp2_with fail
          go_loopw [38] (fun j wr2 => ∃ (q : Nat) (ys : List Int), q ≤ (prt ps k).length ∧ j = .int .i64 q ∧ ys.length = (prt ps k).length ∧ Aside0 (RB wr2 w4.heap.size (.slice A6 (prt ps k).length c6) ys) ∧ Aside0 (w7.grownBy wr2 (Value.slice A6 (prt ps k).length c6).ownBlock)) (fun j _ => (prt ps k).length - (intOf j).toNat)
          case atStart => exact ⟨0, prt ps k, Nat.zero_le _, rfl, rfl, hO7, ⟨World.grownBy.refl w7 _⟩⟩
          case round =>
            obtain ⟨q, ys, hq, rfl, hys, HY, HGy⟩ := hrel
            by_cases hql : q < (prt ps k).length
            · rcases hform with he | ⟨g7, rfl⟩
              · rw [he] at hql
                exact absurd hql (by simp)
              · have hcell := Kd.R_cell (0 : Int) (show RB wr w4.heap.size (.slice (some ⟨g7, 0, none⟩) ys.length c6) ys by rw [hys]; exact HY.out) (q : Int) (by omega) (by omega)
                have hc1 := hcell.1
                have hc2' := hcell.2
                rw [Int.toNat_natCast] at hc1 hc2'
                clear hcell
                go_wp2_with fail
                go_roundw
                case rel =>
                  obtain ⟨p1, p2⟩ := Kd.R_putg HY.out (q : Int) (bits BinOp.xor IntKind.u8 (rdOf 0 ys (q : Int)) 1)
                  rw [Int.toNat_natCast] at p1 p2
                  exact ⟨q + 1, ys.set q (bits BinOp.xor IntKind.u8 (rdOf 0 ys (q : Int)) 1), by omega, by go_num, by rw [List.length_set]; exact hys, ⟨p1⟩, ⟨gb_trans HGy.out p2 (fun j e => .inl e)⟩⟩
                case measure => simp [intOf]; omega
            · obtain rfl : q = (prt ps k).length := by omega
              have hF8 := hF7.out.grown HGy.out hN6.out hAq7.out
              have hR8 := Kd.R_grown2 hR7.out rfl HGy.out (fun j hj => hN46.out j hj)
              have hB8 := hB7.out.trans (gb_to HGy.out hB7.out.size (fun j e => Nat.le_trans hW4 (hGE.out j e.symm)))
              have hA8 := hAp7.out.step (W := wr) (by
                obtain ⟨cs, hcs⟩ := hF7.out.heap
                rw [hcs]
                exact gb_blk HGy.out hcs hN6.out)
              have hlen1 : (flat ps (k + 1)).length ≤ 6600 := by have := hLen.out; have := HF.out; omega
              have HF8 := Aside0.mk hF8
              have HR8 := Aside0.mk hR8
              have HB8 := Aside0.mk hB8
              have HA8 := Aside0.mk hA8
              have HCU8 := HCU.out.below hB8
              have HL8 := Aside0.mk hlen1
              have HSum := Aside0.mk (fed_sum wr g (flat ps (k + 1)) hF8 HCU8 (by omega))
              clear hF8 hR8 hB8 hA8 hlen1 HCU8
              go_wp2_with fail
              refine HSum.out.mono ?_
              rintro e w9 ⟨rfl, hb9⟩
              have hB9 := HB8.out.trans (hb9.mono HB8.out.size)
              have HB9 := Aside0.mk hB9
              have HF9 := Aside0.mk (HF8.out.below hb9)
              have HR9 := Aside0.mk (Kd.R_below HR8.out hb9)
              have HA9 := Aside0.mk (HA8.out.step (hb9.block g HF8.out.lt))
              have hT9 : Txt w9 (.slice A4 (flat ps (k + 1)).length c4) (flat ps (k + 1)) := Txt.of_RB HR9.out (flat_bytes ps HBY.out (k + 1)) (by have := HL8.out; omega)
              have HP9 := Aside0.mk (psum1 (HR.out.below hB9) (HCU.out.below hB9) hT9 (by have := HL8.out; omega) w9.heap.size rfl)
              have HLE := Aside0.mk (show (flat ps k).length + (prt ps k).length = (flat ps (k + 1)).length from hLen.out.symm)
              have q1 := eqHash (flat ps (k + 1))
              obtain ⟨d1, hd1⟩ : ∃ x, x = cellsB (hash (flat ps (k + 1))) := ⟨_, rfl⟩
              rw [← hd1] at q1 HP9 ⊢
              clear hd1 hB9 hT9 hb9 HSum
              go_wp2_with fail
              rw [HLE.out]
              refine HP9.out.mono ?_
              rintro e w10 ⟨rfl, hb10⟩
              have HS10 := Aside0.mk (⟨Kd.R_below HR9.out hb10, HB9.out.trans (hb10.mono HB9.out.size), HF9.out.below hb10, HA9.out.step (hb10.block g HF9.out.lt), fun j hj => by
                by_cases h : j < k
                · exact HS.out.len j h
                · have : j = k := by omega
                  subst this
                  omega⟩ : Std w g ps 300 (k + 1) (.slice A4 (flat ps (k + 1)).length c4) w10)
              clear hb10 HP9 HS
              go_wp2_with fail
              go_roundw
              case rel => exact ⟨k + 1, A4, c4, by omega, by omega, by go_num, rfl, HS10⟩
              case measure => simp [intOf]; omega
    · obtain rfl : k = ps.length := by omega
      have hlen := HS.out.lenle hk21 (Nat.le_refl _)
      have HL := Aside0.mk hlen
      have HP := Aside0.mk (psum_calls wr (HR.out.below HS.out.bel) (HCU.out.below HS.out.bel) A0 ps ps.length c0 rfl (by omega) (parts_of HC.out HBY.out HS.out.len (Nat.le_refl _) HS.out.bel) (by omega))
      clear hlen
      have q1 := eqHash (flat ps ps.length)
      go_wp2_with fail
      refine HP.out.mono ?_
      rintro e w9 ⟨rfl, hb9⟩
      have HB9 := Aside0.mk (HS.out.bel.trans (hb9.mono HS.out.bel.size))
      have HF9 := Aside0.mk (HS.out.fed.below hb9)
      have hT9 : Txt w9 (.slice A (flat ps ps.length).length c) (flat ps ps.length) := Txt.of_RB (Kd.R_below HS.out.row hb9) (flat_bytes ps HBY.out _) (by have := HL.out; omega)
      have HP9 := Aside0.mk (psum1 (HR.out.below HB9.out) (HCU.out.below HB9.out) hT9 (by have := HL.out; omega) w9.heap.size rfl)
      clear hb9 hT9
      go_wp2_with fail
      refine HP9.out.mono ?_
      rintro e w10 ⟨rfl, hb10⟩
      have HB10 := Aside0.mk (HB9.out.trans (hb10.mono HB9.out.size))
      have HF10 := Aside0.mk (HF9.out.below hb10)
      have HS1 := Aside0.mk (fed_sum w10 g _ HF10.out (HCU.out.below HB10.out) (by have := HL.out; omega))
      obtain ⟨d1, hd1⟩ : ∃ x, x = cellsB (hash (flat ps ps.length)) := ⟨_, rfl⟩
      have HD1 := Aside0.mk hd1
      rw [← hd1] at q1 HS1 ⊢
      clear hd1 hb10
      go_wp2_with fail
      refine HS1.out.mono ?_
      rintro e w11 ⟨rfl, hb11⟩
      have HB11 := Aside0.mk (HB10.out.trans (hb11.mono HB10.out.size))
      have HF11 := Aside0.mk (HF10.out.below hb11)
      have HS2 := Aside0.mk (fed_sum w11 g _ HF11.out (HCU.out.below HB11.out) (by have := HL.out; omega))
      rw [← HD1.out] at HS2
      clear hb11
      go_wp2_with fail
      refine HS2.out.mono ?_
      rintro e w12 ⟨rfl, hb12⟩
      have HB12 := Aside0.mk (HB11.out.trans (hb12.mono HB11.out.size))
      clear hb12
      go_wp2_with fail
      go_ret
      exact ⟨rfl, HB12.out⟩
theorem shaParts_walk (W : World) (A0 : Option Addr) (c0 : Nat) (l0 : (List (List Int))) (hc0 : l0.length ≤ c0) (hr0 : Kd.C (Kd.slice 5 (Kd.int .u8)) W A0 l0.length l0) (w0 : (∀ zl0 ∈ l0, (∀ zzl0 ∈ zl0, (Lit.int .u8 zzl0).wf = true))) (hL : laidMetH Tryd.prog [("weftline/sha.roots", Rows.laid_weftline_sha_roots), ("weftline/sha.cubes", Rows.laid_weftline_sha_cubes)] W) :
    Calls Tryd.prog 4 #[.slice A0 l0.length c0] W fun e w' => e = .returned (.bool true) ∧ Below W.heap.size W w' := by
  obtain ⟨hr, hcu⟩ := tabs_of hL
  exact shaParts_main W hr hcu A0 c0 l0 hr0 (prt_bytes (fun p hp => bytes_of_wf (w0 p hp)))
end Go.Proofs.YtjmgeelblodcgaaDoor.Sx
