import Derived.Test.YtjmgeelblodcgaaDoorEsE
/- A state in memory; the walk of Add. -/
namespace Go.Proofs.YtjmgeelblodcgaaDoor.Sx
open Go.RowKit Go.Proofs.YtjmgeelblodcgaaDoorW.PrintWords Go.Proofs.YtjmgeelblodcgaaDoorW.PrintMore Go.Proofs.YtjmgeelblodcgaaDoor.Sh
set_option linter.unusedVariables false
set_option linter.unusedSimpArgs false
theorem tprog5 : ∃ i, Tryd.prog.info? 5 = some i ∧ i.size = 1 := by
  obtain ⟨i, h1, h2⟩ := Option.map_eq_some_iff.1 info5
  exact ⟨i, h1, by simpa using congrArg (fun x => x.2.1) h2⟩
/-- A text cut in two. -/
theorem cut_txt {w : World} {A : Option Addr} {c : Nat} {l : List Int} (k : Nat) (hk : k ≤ l.length) (h : Txt w (.slice A l.length c) l) :
    ∃ A' c', (∀ W, (Instr.slice 22 (.slice A l.length c) none (some (.int .i64 k)) none).run Tryd.prog W = .ok (.slice A k c) W) ∧
      (∀ W, (Instr.slice 22 (.slice A l.length c) (some (.int .i64 k)) none none).run Tryd.prog W = .ok (.slice A' (l.length - k) c') W) ∧ Txt w (.slice A k c) (l.take k) ∧ Txt w (.slice A' (l.length - k) c') (l.drop k) ∧ (∀ F, (∀ x, A = some x → F ≤ x.block) → ∀ x, A' = some x → F ≤ x.block) := by
  obtain ⟨A1, c1, he, h1, h2, h3, h4⟩ := h
  simp only [Value.slice.injEq, true_and] at he
  obtain ⟨rfl, rfl⟩ := he
  obtain ⟨i, hi, hsz⟩ := tprog5
  have r1 := cut_to (P := Tryd.prog) 22 5 .i64 Tryd.underlying22 hi A l.length c (k : Int) (by omega) (by omega) h1
  have s1 := cut_from (P := Tryd.prog) 22 5 .i64 Tryd.underlying22 hi 1 hsz A l.length c (k : Int) (by omega) (by omega)
  simp only [Int.toNat_natCast] at r1 s1
  have e1 : (l.take k).length = k := by simp; omega
  have e2 : (l.drop k).length = l.length - k := by simp
  have t1 := Kd.C_take h2 hk
  have t2 := Kd.C_drop h2 hk h1
  refine ⟨_, _, r1, s1, ⟨A, c, by rw [e1], by rw [e1]; omega, t1, fun x hx => h3 x (List.mem_of_mem_take hx), by omega⟩, ⟨(if c = k then A else A.map (·.add (k * 1))), c - k, by rw [e2], by rw [e2]; omega, t2, fun x hx => h3 x (List.mem_of_mem_drop hx), by rw [e2]; omega⟩, fun F hF x hx => ?_⟩
  split at hx
  · exact hF x hx
  · cases A with
    | none => cases hx
    | some a =>
      have : x = a.add (k * 1) := by simpa using hx.symm
      rw [this, add_block]
      exact hF a rfl
/-- Cells of which none is a byte. -/
def NoU8 (cs : Array Value) : Prop := ∀ (j : Nat) (x : Int), cs[j]? ≠ some (Value.int .u8 x)
theorem Txt.gb {w W : World} {v : Value} {l : List Int} {b t : Nat} {cs : Array Value} (h : Txt w v l) (hb : w.heap[b]? = some (.cells cs t (0, 0))) (hn : NoU8 cs) (hg : w.grownBy W (some b)) : Txt W v l := by
  obtain ⟨A, c, h1, h2, h3, h4⟩ := h
  refine ⟨A, c, h1, h2, Kd.C_keep (0 : Int) h3 ⟨hg.size, fun i hi hne _ => hg.block i hi (by intro e; cases e; exact hne rfl)⟩ (fun ad he hl hab => ?_), h4⟩
  obtain ⟨ad', he', hc⟩ := Kd.at_int h3 0 (by omega) (by omega)
  rw [he] at he'
  cases he'
  have hz : ad.add (0 : Int).toNat = ad := by show ad.add 0 = ad; unfold Addr.add; simp
  rw [hz] at hc
  unfold World.cell? at hc
  rw [hab, hb] at hc
  simp only at hc
  split at hc
  · cases hc
  · exact hn _ _ hc
theorem vals_size (m : List Nat) : (vals m).size = m.length := by simp [vals]
theorem state_noU8 (now : List Nat) (v : Value) (n : Int) (hv : ∀ x, v ≠ .int .u8 x) : NoU8 (vals now ++ #[v, .int .i64 n]) := by
  intro j x h
  by_cases hj : j < now.length
  · rw [vals_app now _ j hj] at h
    cases h
  · rw [Array.getElem?_append_right (by rw [vals_size]; omega), vals_size] at h
    have : j - now.length = 0 ∨ j - now.length = 1 ∨ 2 ≤ j - now.length := by omega
    rcases this with e | e | e
    · rw [e] at h; simp at h; exact hv x h
    · rw [e] at h; simp at h
    · rw [Array.getElem?_eq_none (by simpa using e)] at h; cases h
theorem vals_app8 (m : List Nat) (h : m.length = 8) (x y : Value) : (vals m ++ #[x, y])[8]? = some x := by
  rw [Array.getElem?_append_right (by rw [vals_size]; omega), vals_size, h]; rfl
theorem vals_app9 (m : List Nat) (h : m.length = 8) (x y : Value) : (vals m ++ #[x, y])[9]? = some y := by
  rw [Array.getElem?_append_right (by rw [vals_size]; omega), vals_size, h]; rfl
theorem vals_set8 (m : List Nat) (h : m.length = 8) (x y z : Value) : (vals m ++ #[x, y]).setIfInBounds 8 z = vals m ++ #[z, y] := by
  rw [Array.setIfInBounds_append_right (by rw [vals_size]; omega), vals_size, h]; rfl
theorem vals_set9 (m : List Nat) (h : m.length = 8) (x y z : Value) : (vals m ++ #[x, y]).setIfInBounds 9 z = vals m ++ #[x, z] := by
  rw [Array.setIfInBounds_append_right (by rw [vals_size]; omega), vals_size, h]; rfl
/-- A state: its registers, what is open, how many bytes. -/
def StA (w : World) (b : Nat) (now : List Nat) (l : List Int) (n : Int) : Prop :=
  ∃ v, w.heap[b]? = some (.cells (vals now ++ #[v, .int .i64 n]) 59 (0, 0)) ∧ now.length = 8 ∧ Good now ∧ Txt w v l
theorem Txt.notU8 {w : World} {v : Value} {l : List Int} (h : Txt w v l) : ∀ x, v ≠ .int .u8 x := by
  obtain ⟨A, c, rfl, _⟩ := h
  exact fun x h => by cases h
theorem Cubes.gb {w W : World} {b : Nat} (h : Cubes w) (hg : w.grownBy W (some b)) (hb : 2 ≠ b) : Cubes W := fun k hk => gb_cell hg (h k hk) (by intro e; cases e; exact hb rfl)
/-- What so many rounds eat. -/
def eat : Nat → List Nat → List Int → List Nat × List Int
  | 0, now, l => (now, l)
  | f + 1, now, l => if l.length < 64 then (now, l) else eat f (workF now (l.take 64)) (l.drop 64)
def absorb (now : List Nat) (l : List Int) : List Nat × List Int := eat l.length now l
theorem eat_more : ∀ (f g : Nat) (now : List Nat) (l : List Int), l.length < 64 * (f + 1) → l.length < 64 * (g + 1) → eat f now l = eat g now l
  | 0, 0, _, _, _, _ => rfl
  | 0, g + 1, now, l, hf, _ => by unfold eat; rw [if_pos (by omega)]
  | f + 1, 0, now, l, _, hg => by unfold eat; rw [if_pos (by omega)]
  | f + 1, g + 1, now, l, hf, hg => by
    unfold eat
    split
    · rfl
    · exact eat_more f g _ _ (by rw [List.length_drop]; omega) (by rw [List.length_drop]; omega)
theorem workF_len (now : List Nat) (bs : List Int) : (workF now bs).length = now.length := addN_len _ _ _
theorem workF_good (now : List Nat) (bs : List Int) (h : Good now) : Good (workF now bs) := by
  unfold workF
  generalize (sts now (msg bs) 64).1 = v
  have : ∀ j, Good (addN now v j) := by
    intro j
    induction j with
    | zero => exact h
    | succ j ih => exact good_set ih _ _ (Nat.mod_lt _ (by decide))
  exact this 8
theorem bt8_lt {l : List Int} (h : Bytes l) (k : Nat) : bt8 l k < 256 := by
  unfold bt8
  rw [List.getD_eq_getElem?_getD]
  by_cases hk : k < l.length
  · rw [List.getElem?_eq_getElem hk]
    have := h _ (List.getElem_mem hk)
    simp only [Option.getD_some]
    omega
  · rw [List.getElem?_eq_none (by omega)]
    decide
theorem bt8_rd {l : List Int} (h : Bytes l) (k : Nat) (hk : k < l.length) : rd l (k : Int) = (bt8 l k : Nat) := by
  unfold rd bt8
  have := h _ (List.getElem_mem hk)
  rw [List.getD_eq_getElem?_getD, List.getD_eq_getElem?_getD, Int.toNat_natCast, List.getElem?_eq_getElem hk]
  simp only [Option.getD_some]
  omega
/-- work, over a text of 64 bytes. -/
theorem work_txt (w : World) (b : Nat) (now : List Nat) (op by_ : Value) (hS : w.heap[b]? = some (.cells (vals now ++ #[op, by_]) 59 (0, 0))) (hn : now.length = 8) (hgn : Good now) (A : Option Addr) (c : Nat) (bs : List Int) (hl : bs.length = 64) (ht : Txt w (.slice A 64 c) bs) (hcu : Cubes w) :
    Calls Tryd.prog 30 #[.pointer (some ⟨b, 0, none⟩), .slice A 64 c] w fun e w' => (∃ v, e = .returned v) ∧ w.grownBy w' (some b) ∧ w'.heap[b]? = some (.cells (vals (workF now bs) ++ #[op, by_]) 59 (0, 0)) := by
  obtain ⟨A1, c1, he, h1, h2, h3, h4⟩ := ht
  simp only [Value.slice.injEq] at he
  obtain ⟨rfl, _, rfl⟩ := he
  obtain ⟨ad, rfl, hc0⟩ := Kd.at_int h2 0 (by omega) (by omega)
  have hcells : ∀ j, j < 64 → w.cell? (ad.add j) = some (.int .u8 (bt8 bs j : Nat)) := by
    intro j hj
    obtain ⟨ad', he', hc⟩ := Kd.at_int h2 (j : Int) (by omega) (by omega)
    cases he'
    rw [bt8_rd h3 j (by omega), Int.toNat_natCast] at hc
    exact hc
  exact work_calls w b now op by_ hS hn hgn ad c bs hl (fun j _ => bt8_lt h3 j) (by have := cell_lt (hcells 0 (by decide)); rwa [add_block] at this) hcu hcells
theorem Txt.of_RB {w : World} {base : Nat} {A : Option Addr} {n c : Nat} {l : List Int} (h : RB w base (.slice A n c) l) (hb : Bytes l) (hl : l.length ≤ 1048576) : Txt w (.slice A n c) l := by
  obtain ⟨h1, h2, h3⟩ := Kd.R_reads' h
  subst h1
  exact ⟨A, c, rfl, h2, h3, hb, hl⟩
/-- How many bytes are open. -/
def lenOf (w : World) (b : Nat) : Nat := match w.cell? ⟨b, 8, none⟩ with
  | some (.slice _ n _) => n
  | _ => 0
theorem lenOf_eq {w : World} {b n c : Nat} {A : Option Addr} (h : w.cell? ⟨b, 8, none⟩ = some (.slice A n c)) : lenOf w b = n := by unfold lenOf; rw [h]
theorem rb_fresh {w : World} {base n c : Nat} {A : Option Addr} {l : List Int} (h : RB w base (.slice A n c) l) : ∀ x, A = some x → base ≤ x.block := by
  obtain ⟨inner, ho⟩ := Kd.R_own h
  rintro x rfl
  exact own_base ho x.block rfl
/-- Where what is open lies. -/
def OpenAb (w : World) (b F : Nat) : Prop := ∀ A n c, w.cell? ⟨b, 8, none⟩ = some (.slice (some A) n c) → F ≤ A.block
theorem flat_two (a b : List Int) : flat [a, b] 2 = a ++ b := rfl
set_option maxRecDepth 100000 in
set_option maxHeartbeats 1000000 in
theorem add_calls (w : World) (b : Nat) (now : List Nat) (l : List Int) (n : Nat) (hS : StA w b now l n) (hcu : Cubes w) (h2b : 2 ≠ b) (A : Option Addr) (c : Nat) (p : List Int) (hp : Txt w (.slice A p.length c) p) (hl : l.length + p.length ≤ 1000000) (hn : n + p.length ≤ 1000000000) :
    Calls Tryd.prog 15 #[.pointer (some ⟨b, 0, none⟩), .slice A p.length c] w fun e w' => (∃ v, e = .returned v) ∧ w.grownBy w' (some b) ∧ StA w' b (absorb now (l ++ p)).1 (absorb now (l ++ p)).2 (n + p.length : Nat) ∧ OpenAb w' b w.heap.size := by
  obtain ⟨v, hv, hn8, hgn, ht⟩ := hS
  obtain ⟨A0, c0, rfl, hx1, hx2, hx3, hx4⟩ := ht
  have ht : Txt w (.slice A0 l.length c0) l := ⟨A0, c0, rfl, hx1, hx2, hx3, hx4⟩
  have c8 := (blk_cell hv 8).trans (vals_app8 now hn8 _ _)
  have c9 := (blk_cell hv 9).trans (vals_app9 now hn8 _ _)
  have z8 := blk_frozen hv 8
  have z9 := blk_frozen hv 9
  have HV := Aside0.mk hv
  have HT := Aside0.mk ht
  have HP := Aside0.mk hp
  have HCU := Aside0.mk hcu
  have HG := Aside0.mk hgn
  have hw1 : wrap64 ((n : Int) + (p.length : Int)) = (n : Int) + (p.length : Int) := by unfold wrap64; omega
  clear hv ht hp hcu hx1 hx2 hx3 hx4 hgn
  go_enter Tryd.func15, Tryd.ntmps15
  go_wp2_with fail
  have hno := state_noU8 now _ (n : Int) HT.out.notU8
  have G0 := gb_set w b 9 (.int .i64 ((n : Int) + (p.length : Int)))
  have S0 := blk_put (i := 9) HV.out (.int .i64 ((n : Int) + (p.length : Int))) (vals_set9 now hn8 _ _ _)
  have T0 := HT.out.gb HV.out hno G0
  have P0 := HP.out.gb HV.out hno G0
  have hsz : (w.setCell ⟨b, 9, none⟩ (.int .i64 ((n : Int) + (p.length : Int)))).heap.size = w.heap.size := by simp [World.setCell]
  obtain ⟨W0, hW0⟩ : ∃ W0, W0 = w.setCell ⟨b, 9, none⟩ (.int .i64 ((n : Int) + (p.length : Int))) := ⟨_, rfl⟩
  rw [← hW0] at G0 S0 T0 P0 hsz ⊢
  clear hW0 c8 c9 z8 z9 hno
  have hB1 := below_alloc (Below.refl W0.heap.size W0) (.cells #[.slice A0 l.length c0, .slice A p.length c] 22)
  have S1 := blk_alloc S0 (.cells #[.slice A0 l.length c0, .slice A p.length c] 22)
  have N1 := blk_new_at W0 (.cells #[.slice A0 l.length c0, .slice A p.length c] 22) w.heap.size hsz.symm
  have T1 := T0.below hB1
  have P1 := P0.below hB1
  have G1 := gb_trans G0 (gb_below hB1 none) (fun k e => by cases e)
  obtain ⟨W1, hW1⟩ : ∃ W1, W1 = W0.alloc (.cells #[.slice A0 l.length c0, .slice A p.length c] 22) := ⟨_, rfl⟩
  rw [← hW1] at S1 N1 T1 P1 G1 ⊢
  clear hW1 hB1 S0 T0 P0 G0 hsz
  have hb1 := blk_lt S1
  have hfl : (flat [l, p] 2).length ≤ 1048576 := by rw [flat_two, List.length_append]; omega
  have hparts : PartsAt W1 ⟨w.heap.size, 0, none⟩ [l, p] := parts_blk (vs := [.slice A0 l.length c0, .slice A p.length c]) rfl N1 (fun k hk => by
    have : k = 0 ∨ k = 1 := by simp at hk; omega
    rcases this with rfl | rfl
    · exact T1
    · exact P1)
  refine (concat_calls W1 w.heap.size [l, p] 2 2 rfl (by simp) hparts hfl).mono ?_
  rintro e W3 ⟨v3, rfl, hr3, hb3⟩
  obtain ⟨A3, c3, rfl⟩ := Kd.R_slice hr3
  rw [show flat [l, p] [l, p].length = l ++ p from rfl] at hr3 ⊢
  have HFR := Aside0.mk (fun x (hx : A3 = some x) => Nat.le_trans G1.size (rb_fresh hr3 x hx))
  have hby : Bytes (l ++ p) := fun x hx => (List.mem_append.1 hx).elim (fun h => HT.out.choose_spec.choose_spec.2.2.2.1 x h) (fun h => HP.out.choose_spec.choose_spec.2.2.2.1 x h)
  have T3 := Txt.of_RB hr3 hby (by rw [List.length_append]; omega)
  have S3 := (hb3.block b hb1).trans S1
  have G3 := gb_trans G1 (gb_below hb3 none) (fun k e => by cases e)
  have c8 := (blk_cell S3 8).trans (vals_app8 now hn8 _ _)
  have z8 := blk_frozen S3 8
  have S4 := blk_put (i := 8) S3 (.slice A3 (l ++ p).length c3) (vals_set8 now hn8 _ _ _)
  have hno3 := state_noU8 now _ ((n : Int) + (p.length : Int)) T1.notU8
  have G4 := gb_set W3 b 8 (.slice A3 (l ++ p).length c3)
  have T4 := T3.gb S3 hno3 G4
  have G5 := gb_trans G3 G4 (fun k e => .inl e)
  have HS4 := Aside0.mk S4
  have HT4 := Aside0.mk T4
  have HG5 := Aside0.mk G5
  have hlen : (l ++ p).length < 64 * ((l ++ p).length + 1) := by omega
  obtain ⟨R, hR⟩ : ∃ R, R = absorb now (l ++ p) := ⟨_, rfl⟩
  have HR := Aside0.mk hR
  obtain ⟨q, hq⟩ : ∃ q, q = l ++ p := ⟨_, rfl⟩
  rw [← hq] at HS4 HT4 HG5 HR hlen ⊢
  clear hR S4 T4 G4 G5 hno3 S3 T3 G3 hr3 hb3 hby hparts hfl N1 S1 T1 P1 G1 hb1
  have HQ := Aside0.mk hq
  clear hq
  obtain ⟨W4, hW4⟩ : ∃ x, x = W3.setCell ⟨b, 8, none⟩ (.slice A3 q.length c3) := ⟨_, rfl⟩
  rw [← hW4] at HS4 HT4 HG5
  have HW4 := Aside0.mk hW4
  clear hW4
  go_wp2_with fail
  rw [← HW4.out]
  clear c8 z8
  go_loopw [29] (fun _ wr => ∃ (nw : List Nat) (lo : List Int) (A' : Option Addr) (c' f : Nat), Aside0 (wr.heap[b]? = some (.cells (vals nw ++ #[.slice A' lo.length c', .int .i64 ((n : Int) + (p.length : Int))]) 59 (0, 0))) ∧ nw.length = 8 ∧ Aside0 (Good nw) ∧ Aside0 (Txt wr (.slice A' lo.length c') lo) ∧ Aside0 (w.grownBy wr (some b)) ∧ Aside0 (eat f nw lo = R) ∧ lo.length < 64 * (f + 1) ∧ Aside0 (∀ x, A' = some x → w.heap.size ≤ x.block)) (fun _ wr => lenOf wr b)
  case atStart => exact ⟨now, q, A3, c3, q.length, HS4, hn8, HG, HT4, HG5, ⟨HR.out.symm⟩, hlen, HFR⟩
  case round =>
    obtain ⟨nw, lo, A', c', f, HS, hnw, HGd, HTx, HGb, HE, hf, HFr⟩ := hrel
    have c8 := (blk_cell HS.out 8).trans (vals_app8 nw hnw _ _)
    have hlen1 := lenOf_eq c8
    have HL1 := Aside0.mk hlen1
    clear hlen1
    by_cases hlt : 64 ≤ lo.length
    · have hlt2 : (64 : Int) ≤ (lo.length : Int) := by omega
      obtain ⟨f, rfl⟩ : ∃ f', f = f' + 1 := by
        cases f with
        | zero => omega
        | succ f' => exact ⟨f', rfl⟩
      obtain ⟨A2, c2, hs1, hs2, hT1, hT2, hfr2⟩ := cut_txt 64 hlt HTx.out
      have HFR2 := Aside0.mk (hfr2 _ HFr.out)
      clear hfr2
      have hs1' : ∀ W, (Instr.slice 22 (.slice A' lo.length c') none (some (.int .i64 64)) none).run Tryd.prog W = .ok (.slice A' 64 c') W := hs1
      have hs2' : ∀ W, (Instr.slice 22 (.slice A' lo.length c') (some (.int .i64 64)) none none).run Tryd.prog W = .ok (.slice A2 (lo.length - 64) c2) W := hs2
      have hcu4 := HCU.out.gb HGb.out h2b
      have htk : (lo.take 64).length = 64 := by simp; omega
      have HWK := Aside0.mk (work_txt wr b nw _ _ HS.out hnw HGd.out A' c' (lo.take 64) htk hT1 hcu4)
      have HT2 := Aside0.mk hT2
      have hno := state_noU8 nw _ ((n : Int) + (p.length : Int)) HTx.out.notU8
      have HNO := Aside0.mk hno
      have hwl : (workF nw (lo.take 64)).length = 8 := by rw [workF_len]; exact hnw
      clear hs1 hs2 hT1 hT2 hcu4 hno
      go_wp2_with (first | (go_at_call 30; refine HWK.out.mono ?_; rintro e w4 ⟨⟨u, rfl⟩, hg, hb⟩; have HG4 := Aside0.mk hg; have HB4 := Aside0.mk hb; have d8 := (blk_cell hb 8).trans (vals_app8 _ hwl _ _); have z8 := blk_frozen hb 8; clear hg hb))
      go_roundw
      case rel =>
        have hno4 := state_noU8 (workF nw (lo.take 64)) _ ((n : Int) + (p.length : Int)) HTx.out.notU8
        have g2 := gb_set w4 b 8 (.slice A2 (lo.length - 64) c2)
        have t2 := (HT2.out.gb HS.out HNO.out HG4.out).gb HB4.out hno4 g2
        have hdl : (lo.drop 64).length = lo.length - 64 := by simp
        refine ⟨workF nw (lo.take 64), lo.drop 64, A2, c2, f, ⟨?_⟩, hwl, ⟨workF_good _ _ HGd.out⟩, ⟨?_⟩, ⟨gb_trans (gb_trans HGb.out HG4.out (fun k e => .inl e)) g2 (fun k e => .inl e)⟩, ⟨?_⟩, by rw [hdl]; omega, HFR2⟩
        · rw [hdl]
          exact blk_put HB4.out 8 _ (vals_set8 _ hwl _ _ _)
        · rw [hdl]; exact t2
        · have h := HE.out
          unfold eat at h
          rw [if_neg (by omega)] at h
          exact h
      case measure =>
        rw [HL1.out, lenOf_eq (World.cell?_setCell_same' w4 ⟨b, 8, none⟩ (.slice A2 (lo.length - 64) c2) (by rw [d8]; rfl))]
        omega
    · have hlt2 : ¬ (64 : Int) ≤ (lo.length : Int) := by omega
      have hR2 : (nw, lo) = R := by
        have h := HE.out
        cases f with
        | zero => exact h
        | succ f' => unfold eat at h; rw [if_pos (by omega)] at h; exact h
      have HR2 := Aside0.mk hR2
      clear hR2
      go_wp2_with fail
      go_end0
      refine ⟨⟨_, rfl⟩, HGb.out, ?_⟩
      rw [← HQ.out, ← HR.out, ← HR2.out]
      refine ⟨⟨_, HS.out, hnw, HGd.out, HTx.out⟩, fun A0 n0 c0 h0 => ?_⟩
      rw [(blk_cell HS.out 8).trans (vals_app8 nw hnw _ _)] at h0
      simp only [Option.some.injEq, Value.slice.injEq] at h0
      exact HFr.out A0 h0.1
end Go.Proofs.YtjmgeelblodcgaaDoor.Sx
