import Derived.Test.YtjmgeelblodcgaaDoorEsP
import Derived.Laws.BitsAllLaws
/- The walk of padded. (Printed by tools/genEsQ.py.) -/
namespace Go.Proofs.YtjmgeelblodcgaaDoor.Sx
open Go.RowKit Go.Proofs.YtjmgeelblodcgaaDoorW.PrintWords Go.Proofs.YtjmgeelblodcgaaDoorW.PrintMore Go.Proofs.YtjmgeelblodcgaaDoor.Sh Go.Proofs.YtjmgeelblodcgaaDoor.PAll
set_option linter.unusedVariables false
set_option linter.unusedSimpArgs false
/-- A key, or its digest. -/
def keyB (key : List Int) : List Int := if key.length ≤ 64 then key else hash key
def xo (k : List Int) (y : Int) (n j : Nat) : Int := if j < n then bits .xor .u8 y (rd k (j : Int)) else y
/-- A padded key. -/
def padT (key : List Int) (y : Int) : List Int := (List.range 64).map (xo (keyB key) y (keyB key).length)
theorem padT_len (key : List Int) (y : Int) : (padT key y).length = 64 := by simp [padT]
theorem xor_byte (a b : Int) (ha : 0 ≤ a ∧ a < 256) (hb : 0 ≤ b ∧ b < 256) : 0 ≤ bits .xor .u8 a b ∧ bits .xor .u8 a b < 256 := by
  rw [u8_xor a b ha.1 ha.2 hb.1 hb.2]
  have := Nat.xor_lt_two_pow (n := 8) (x := a.toNat) (y := b.toNat) (by omega) (by omega)
  omega
theorem xo_byte {k : List Int} (hk : Bytes k) (y : Int) (hy : 0 ≤ y ∧ y < 256) (j : Nat) : 0 ≤ xo k y k.length j ∧ xo k y k.length j < 256 := by
  unfold xo
  split
  · rename_i h
    refine xor_byte y _ hy ?_
    have h2 := bt8_rd hk j h
    have := bt8_lt hk j
    omega
  · exact hy
theorem keyB_bytes {key : List Int} (h : Bytes key) : Bytes (keyB key) := by
  unfold keyB
  split
  · exact h
  · exact hash_bytes key
theorem padT_bytes {key : List Int} (h : Bytes key) (y : Int) (hy : 0 ≤ y ∧ y < 256) : Bytes (padT key y) := by
  intro x hx
  simp only [padT, List.mem_map] at hx
  obtain ⟨j, _, rfl⟩ := hx
  exact xo_byte (keyB_bytes h) y hy j
/-- A text at a block's head. -/
theorem txt_pre {w : World} {b t : Nat} {fr : Nat × Nat} {l : List Int} {cs : Array Value} (n c : Nat) (hn : n = l.length) (hc : n ≤ c) (h : w.heap[b]? = some (.cells cs t fr)) (hv : ∀ j, j < l.length → cs[j]? = some (.int .u8 (l.getD j 0))) (hl : l.length ≤ 1048576) (hb : Bytes l) : Txt w (.slice (some ⟨b, 0, none⟩) n c) l := by
  subst hn
  refine ⟨_, _, rfl, hc, ⟨rfl, by omega, fun _ => ⟨_, rfl, fun j p hj => ⟨[.int .u8 p], rfl, rfl, fun i u hu => ?_⟩⟩⟩, hb, hl⟩
  have hi : i = 0 := by
    cases i with
    | zero => rfl
    | succ n => simp at hu
  subst hi
  have hu' : Value.int .u8 p = u := by simpa using hu
  subst hu'
  have hjl : j < l.length := by
    rcases Nat.lt_or_ge j l.length with h | h
    · exact h
    · rw [List.getElem?_eq_none h] at hj; cases hj
  rw [add_row, show j * (Kd.int .u8).sz + 0 = j from Nat.mul_one j, Joins.cell_of_block h j, hv j hjl, List.getD_eq_getElem?_getD, hj]
  rfl
theorem Txt.cells {w : World} {A : Option Addr} {c n : Nat} {l : List Int} (h : Txt w (.slice A n c) l) (j : Nat) (hj : j < l.length) : ∃ ad, A = some ad ∧ w.cell? (ad.add j) = some (.int .u8 (rd l (j : Int))) := by
  obtain ⟨A1, c1, he, h2, h3, h4⟩ := h
  simp only [Value.slice.injEq] at he
  obtain ⟨rfl, _⟩ := he
  obtain ⟨ad, h5, h6⟩ := Kd.at_int h3 (j : Int) (by omega) (by omega)
  rw [Int.toNat_natCast] at h6
  exact ⟨ad, h5, h6⟩
set_option maxRecDepth 100000 in
set_option maxHeartbeats 1000000 in
theorem padded_short (w : World) (hr : Roots w) (hcu : Cubes w) (A : Option Addr) (c : Nat) (key : List Int) (y : Int) (hy : 0 ≤ y ∧ y < 256) (hT : Txt w (.slice A key.length c) key) (hl : key.length ≤ 900000) (h64 : key.length ≤ 64) :
    Calls Tryd.prog 33 #[.slice A key.length c, .int .u8 y] w fun e w' => ∃ A' c', e = .returned (.slice A' 64 c') ∧ Txt w' (.slice A' 64 c') (padT key y) ∧ Below w.heap.size w w' := by
  have hby : Bytes key := hT.choose_spec.choose_spec.2.2.2.1
  have HBY := Aside0.mk hby
  obtain ⟨P, hP⟩ : ∃ P, P = padT key y := ⟨_, rfl⟩
  have HP0 := Aside0.mk hP
  rw [← hP]
  clear hP
  have HT2 := Aside0.mk hT
  have HB2 := Aside0.mk (Below.refl w.heap.size w)
  obtain ⟨k, hk⟩ : ∃ k, k = key := ⟨_, rfl⟩
  have HK := Aside0.mk (show k = keyB key by rw [hk]; unfold keyB; rw [if_pos h64])
  have n0 : decide ((64 : Int) < (k.length : Int)) = false := by rw [hk]; simp; omega
  have hk64 : k.length ≤ 64 := by rw [hk]; exact h64
  rw [← hk] at HT2 ⊢
  obtain ⟨AK, hAK⟩ : ∃ x, x = A := ⟨_, rfl⟩
  obtain ⟨W2, hW2⟩ : ∃ x, x = w := ⟨_, rfl⟩
  rw [← hAK] at HT2 ⊢
  clear hby hT hk hAK hr hcu hl
  have HT2 : Aside0 (Txt W2 (.slice AK k.length c) k) := by rw [hW2]; exact HT2
  have HB2 : Aside0 (Below w.heap.size w W2) := by rw [hW2]; exact HB2
  rw [show Calls Tryd.prog 33 #[.slice AK k.length c, .int .u8 y] w = Calls Tryd.prog 33 #[.slice AK k.length c, .int .u8 y] W2 by rw [hW2]]
  clear hW2
  go_enter Tryd.func33, Tryd.ntmps33
  go_wp2_with fail
  obtain ⟨B, hBe⟩ : ∃ B, B = W2.heap.size := ⟨_, rfl⟩
  rw [← hBe]
  have hcell : (W2.alloc (.cells #[.int .u8 y] 5)).cell? ⟨B, 0, none⟩ = some (.int .u8 y) := by rw [hBe]; exact (blk_cell (blk_new W2 (.cells #[.int .u8 y] 5)) 0)
  have hB3 := HB2.out.trans (below_alloc (Below.refl _ W2) (.cells #[.int .u8 y] 5) |>.mono HB2.out.size)
  have hT3 := HT2.out.below (below_alloc (Below.refl _ W2) (.cells #[.int .u8 y] 5))
  obtain ⟨W3, hW3⟩ : ∃ x, x = W2.alloc (.cells #[.int .u8 y] 5) := ⟨_, rfl⟩
  rw [← hW3] at hcell hB3 hT3 ⊢
  have HB3 := Aside0.mk hB3
  have HT3 := Aside0.mk hT3
  refine (repeat_calls W3 ⟨B, 0, none⟩ 1 y hcell).mono ?_
  rintro e W4 ⟨G, cs, rfl, hG, hGc, hGl, hGv, hb4⟩
  have HB4 := Aside0.mk (HB3.out.trans (hb4.mono HB3.out.size))
  have HT4 := Aside0.mk (HT3.out.below hb4)
  have HGc := Aside0.mk hGc
  have HGl := Aside0.mk hGl
  have HGv := Aside0.mk hGv
  have HOld := Aside0.mk (fun (j : Nat) (hj : j < k.length) => (show ∃ ad : Addr, AK = some ad ∧ W4.cell? (ad.add j) = some (.int .u8 (rd k (j : Int))) ∧ ad.block ≠ G from by
    obtain ⟨ad, h1, h2⟩ := HT3.out.cells j hj
    have h3 := cell_lt h2
    rw [add_block] at h3
    exact ⟨ad, h1, pw_cell_below hb4 h2, by omega⟩))
  have hgw : w.heap.size ≤ G := Nat.le_trans HB3.out.size hG
  clear hBe hW3 hcell hB3 hT3 hG hGc hGl hGv hb4 HT3 HB3 HT2 HB2
  go_wp2_with fail
  go_loopw [21] (fun i wr => ∃ (n : Nat) (cur : List Value), n ≤ k.length ∧ i = .int .i64 n ∧ Aside0 (wr.heap[G]? = some (.cells cur.toArray 5 (0, 0))) ∧ Aside0 (64 ≤ cur.length) ∧ Aside0 (∀ j, j < 64 → cur[j]? = some (.int .u8 (xo k y n j))) ∧ Aside0 (W4.grownBy wr (some G))) (fun i _ => k.length - (intOf i).toNat)
  case atStart => exact ⟨0, cs, Nat.zero_le _, rfl, HGc, HGl, ⟨fun j hj => by rw [HGv.out j hj]; simp [xo]⟩, ⟨World.grownBy.refl _ _⟩⟩
  case round =>
    obtain ⟨n, cur, hn, rfl, HC, HL, HV, HG⟩ := hrel
    by_cases hlt : n < k.length
    · have hn64 : n < 64 := by omega
      have hni : (n : Int) < 64 := by omega
      have hnl : (n : Int) < (k.length : Int) := by omega
      obtain ⟨ad, rfl, hc1, hne⟩ := HOld.out n hlt
      have hc2 := gb_cell HG.out hc1 (by rw [add_block]; intro e; cases e; exact hne rfl)
      have hcG := (blk_cell HC.out n)
      have hx : (cur.toArray)[n]? = some (.int .u8 y) := by
        have h := HV.out n hn64
        rw [show xo k y n n = y by simp [xo]] at h
        simpa using h
      rw [hx] at hcG
      have hfz := blk_frozen HC.out n
      clear hc1 hx
      go_wp2_with fail
      go_roundw
      case rel =>
        refine ⟨n + 1, cur.set n (.int .u8 (bits BinOp.xor .u8 y (rd k (n : Int)))), by omega, by go_num, ⟨?_⟩, ⟨by rw [List.length_set]; exact HL.out⟩, ⟨fun j hj => ?_⟩, ⟨gb_trans HG.out (gb_set wr G n _) (fun j e => .inl e)⟩⟩
        · exact blk_put HC.out n _ (by simp)
        · rw [List.getElem?_set]
          have hLL := HL.out
          by_cases e : n = j
          · subst e
            rw [if_pos rfl, if_pos (by omega)]
            simp [xo]
          · rw [if_neg e, HV.out j hj]
            have : xo k y n j = xo k y (n + 1) j := by
              unfold xo
              by_cases h : j < n
              · rw [if_pos h, if_pos (by omega)]
              · rw [if_neg h, if_neg (by omega)]
            rw [this]
      case measure => simp [intOf]; omega
    · obtain rfl : n = k.length := by omega
      go_wp2_with fail
      go_ret
      refine ⟨_, 64, rfl, ?_, HB4.out.trans (gb_to HG.out HB4.out.size (fun j e => by cases e; exact hgw))⟩
      rw [HK.out] at HV
      rw [HP0.out]
      refine txt_pre 64 64 (padT_len _ _).symm (Nat.le_refl _) HC.out (fun j hj => ?_) (by rw [padT_len]; decide) (padT_bytes HBY.out y hy)
      rw [padT_len] at hj
      have := HV.out j hj
      rw [show (padT key y).getD j 0 = xo (keyB key) y (keyB key).length j by simp [padT, List.getD_eq_getElem?_getD, hj]]
      simpa using this
set_option maxRecDepth 100000 in
set_option maxHeartbeats 1000000 in
theorem padded_long (w : World) (hr : Roots w) (hcu : Cubes w) (A : Option Addr) (c : Nat) (key : List Int) (y : Int) (hy : 0 ≤ y ∧ y < 256) (hT : Txt w (.slice A key.length c) key) (hl : key.length ≤ 900000) (h64 : 64 < key.length) :
    Calls Tryd.prog 33 #[.slice A key.length c, .int .u8 y] w fun e w' => ∃ A' c', e = .returned (.slice A' 64 c') ∧ Txt w' (.slice A' 64 c') (padT key y) ∧ Below w.heap.size w w' := by
  have hby : Bytes key := hT.choose_spec.choose_spec.2.2.2.1
  have HBY := Aside0.mk hby
  obtain ⟨P, hP⟩ : ∃ P, P = padT key y := ⟨_, rfl⟩
  have HP0 := Aside0.mk hP
  rw [← hP]
  clear hP
  have n0 : decide ((64 : Int) < (key.length : Int)) = true := by simp; omega
  have HP := Aside0.mk (psum1 hr hcu hT hl w.heap.size rfl)
  clear hT hr hcu hby
  go_enter Tryd.func33, Tryd.ntmps33
  go_wp2_with fail
  refine HP.out.mono ?_
  rintro e W1 ⟨rfl, hb1⟩
  obtain ⟨k, hd⟩ : ∃ k, k = hash key := ⟨_, rfl⟩
  have hdl : k.length = 32 := by rw [hd]; exact hash_len _
  have hdb : Bytes k := by rw [hd]; exact hash_bytes _
  have HK := Aside0.mk (show k = keyB key by rw [hd]; unfold keyB; rw [if_neg (by omega)])
  rw [← hd]
  have hst := store32 (W1.alloc (.cells zero32 25)) W1.heap.size k hdl (old := List.replicate 32 0) (blk_new W1 _) rfl
  have HST := Aside0.mk hst.1
  have hBa := below_alloc hb1 (.cells zero32 25)
  have HB2 := Aside0.mk (below_setRow hBa hb1.size (cellsB k))
  have HT2 := Aside0.mk (txt_pre (l := k) 32 32 (by rw [hdl]) (Nat.le_refl _) hst.2 (fun j hj => by rw [cellsB_get k j hj]) (by omega) hdb)
  clear hst hBa hb1 HP hd
  go_wp2_with (first | (refine store_whole (s := .tmp 5) rfl rfl rfl rfl HST.out ?_))
  have hk64 : k.length ≤ 64 := by omega
  obtain ⟨W2, hW2⟩ : ∃ x, x = (W1.alloc (.cells zero32 25)).setRow W1.heap.size (cellsB k) := ⟨_, rfl⟩
  have hBe : W1.heap.size + 1 = W2.heap.size := by rw [hW2]; simp [World.setRow]
  obtain ⟨B, hB⟩ : ∃ B, B = W1.heap.size + 1 := ⟨_, rfl⟩
  obtain ⟨AK, hAK⟩ : ∃ x, x = some (⟨W1.heap.size, 0, none⟩ : Addr) := ⟨_, rfl⟩
  rw [← hB] at hBe
  rw [← hdl, ← hAK, ← hW2] at HT2
  rw [← hW2] at HB2
  rw [← hB, ← hW2, ← hAK]
  clear hW2 hB hAK HST hdb
  have hcell : (W2.alloc (.cells #[.int .u8 y] 5)).cell? ⟨B, 0, none⟩ = some (.int .u8 y) := by rw [hBe]; exact (blk_cell (blk_new W2 (.cells #[.int .u8 y] 5)) 0)
  have hB3 := HB2.out.trans (below_alloc (Below.refl _ W2) (.cells #[.int .u8 y] 5) |>.mono HB2.out.size)
  have hT3 := HT2.out.below (below_alloc (Below.refl _ W2) (.cells #[.int .u8 y] 5))
  obtain ⟨W3, hW3⟩ : ∃ x, x = W2.alloc (.cells #[.int .u8 y] 5) := ⟨_, rfl⟩
  rw [← hW3] at hcell hB3 hT3 ⊢
  have HB3 := Aside0.mk hB3
  have HT3 := Aside0.mk hT3
  refine (repeat_calls W3 ⟨B, 0, none⟩ 1 y hcell).mono ?_
  rintro e W4 ⟨G, cs, rfl, hG, hGc, hGl, hGv, hb4⟩
  have HB4 := Aside0.mk (HB3.out.trans (hb4.mono HB3.out.size))
  have HT4 := Aside0.mk (HT3.out.below hb4)
  have HGc := Aside0.mk hGc
  have HGl := Aside0.mk hGl
  have HGv := Aside0.mk hGv
  have HOld := Aside0.mk (fun (j : Nat) (hj : j < k.length) => (show ∃ ad : Addr, AK = some ad ∧ W4.cell? (ad.add j) = some (.int .u8 (rd k (j : Int))) ∧ ad.block ≠ G from by
    obtain ⟨ad, h1, h2⟩ := HT3.out.cells j hj
    have h3 := cell_lt h2
    rw [add_block] at h3
    exact ⟨ad, h1, pw_cell_below hb4 h2, by omega⟩))
  have hgw : w.heap.size ≤ G := Nat.le_trans HB3.out.size hG
  clear hBe hW3 hcell hB3 hT3 hG hGc hGl hGv hb4 HT3 HB3 HT2 HB2
  go_wp2_with fail
  go_loopw [21] (fun i wr => ∃ (n : Nat) (cur : List Value), n ≤ k.length ∧ i = .int .i64 n ∧ Aside0 (wr.heap[G]? = some (.cells cur.toArray 5 (0, 0))) ∧ Aside0 (64 ≤ cur.length) ∧ Aside0 (∀ j, j < 64 → cur[j]? = some (.int .u8 (xo k y n j))) ∧ Aside0 (W4.grownBy wr (some G))) (fun i _ => k.length - (intOf i).toNat)
  case atStart => exact ⟨0, cs, Nat.zero_le _, rfl, HGc, HGl, ⟨fun j hj => by rw [HGv.out j hj]; simp [xo]⟩, ⟨World.grownBy.refl _ _⟩⟩
  case round =>
    obtain ⟨n, cur, hn, rfl, HC, HL, HV, HG⟩ := hrel
    by_cases hlt : n < k.length
    · have hn64 : n < 64 := by omega
      have hni : (n : Int) < 64 := by omega
      have hnl : (n : Int) < (k.length : Int) := by omega
      obtain ⟨ad, rfl, hc1, hne⟩ := HOld.out n hlt
      have hc2 := gb_cell HG.out hc1 (by rw [add_block]; intro e; cases e; exact hne rfl)
      have hcG := (blk_cell HC.out n)
      have hx : (cur.toArray)[n]? = some (.int .u8 y) := by
        have h := HV.out n hn64
        rw [show xo k y n n = y by simp [xo]] at h
        simpa using h
      rw [hx] at hcG
      have hfz := blk_frozen HC.out n
      clear hc1 hx
      go_wp2_with fail
      go_roundw
      case rel =>
        refine ⟨n + 1, cur.set n (.int .u8 (bits BinOp.xor .u8 y (rd k (n : Int)))), by omega, by go_num, ⟨?_⟩, ⟨by rw [List.length_set]; exact HL.out⟩, ⟨fun j hj => ?_⟩, ⟨gb_trans HG.out (gb_set wr G n _) (fun j e => .inl e)⟩⟩
        · exact blk_put HC.out n _ (by simp)
        · rw [List.getElem?_set]
          have hLL := HL.out
          by_cases e : n = j
          · subst e
            rw [if_pos rfl, if_pos (by omega)]
            simp [xo]
          · rw [if_neg e, HV.out j hj]
            have : xo k y n j = xo k y (n + 1) j := by
              unfold xo
              by_cases h : j < n
              · rw [if_pos h, if_pos (by omega)]
              · rw [if_neg h, if_neg (by omega)]
            rw [this]
      case measure => simp [intOf]; omega
    · obtain rfl : n = k.length := by omega
      go_wp2_with fail
      go_ret
      refine ⟨_, 64, rfl, ?_, HB4.out.trans (gb_to HG.out HB4.out.size (fun j e => by cases e; exact hgw))⟩
      rw [HK.out] at HV
      rw [HP0.out]
      refine txt_pre 64 64 (padT_len _ _).symm (Nat.le_refl _) HC.out (fun j hj => ?_) (by rw [padT_len]; decide) (padT_bytes HBY.out y hy)
      rw [padT_len] at hj
      have := HV.out j hj
      rw [show (padT key y).getD j 0 = xo (keyB key) y (keyB key).length j by simp [padT, List.getD_eq_getElem?_getD, hj]]
      simpa using this
theorem padded_calls (w : World) (hr : Roots w) (hcu : Cubes w) (A : Option Addr) (c : Nat) (key : List Int) (y : Int) (hy : 0 ≤ y ∧ y < 256) (hT : Txt w (.slice A key.length c) key) (hl : key.length ≤ 900000) :
    Calls Tryd.prog 33 #[.slice A key.length c, .int .u8 y] w fun e w' => ∃ A' c', e = .returned (.slice A' 64 c') ∧ Txt w' (.slice A' 64 c') (padT key y) ∧ Below w.heap.size w w' := by
  by_cases h : key.length ≤ 64
  · exact padded_short w hr hcu A c key y hy hT hl h
  · exact padded_long w hr hcu A c key y hy hT hl (by omega)
end Go.Proofs.YtjmgeelblodcgaaDoor.Sx
