import Derived.Test.YtjhciagjofhhiaaTlN
import Derived.Test.YtjhciagjofhhiaaTlI
import Derived.Deep.LoopGhost
/- The reference's reader, II: ReadNum, ReadPad. -/
namespace Go.Proofs.Ytjhciagjofhhiaa.Tl
open Go.RowKit Go.Proofs.YtjhciagjofhhiaaW.PrintWords Go.Proofs.YtjhciagjofhhiaaW.PrintLast Go.Proofs.YtjhciagjofhhiaaW.PrintMore Go.Proofs.Ytjhciagjofhhiaa.Sh Go.Proofs.Ytjhciagjofhhiaa.POne
set_option linter.unusedVariables false
set_option linter.unusedSimpArgs false
theorem put3 {w : World} {g : Nat} {x0 y0 z0 x y z : Value} (h : w.heap[g]? = some (.cells #[x0, y0, z0] 40 (0, 0))) : (((w.setCell ⟨g, 0, none⟩ x).setCell ⟨g, 1, none⟩ y).setCell ⟨g, 2, none⟩ z).heap[g]? = some (.cells #[x, y, z] 40 (0, 0)) := by
  refine blk_put (cs := #[x, y, z0]) ?_ 2 _ rfl
  refine blk_put (cs := #[x, y0, z0]) ?_ 1 _ rfl
  exact blk_put h 0 _ rfl
theorem far3 {w : World} {g k : Nat} {x y z : Value} {o : Obj} (h : w.heap[k]? = some o) (hk : k ≠ g) : (((w.setCell ⟨g, 0, none⟩ x).setCell ⟨g, 1, none⟩ y).setCell ⟨g, 2, none⟩ z).heap[k]? = some o :=
  (Below.heap_setCell _ ⟨g, 2, none⟩ z k hk).trans ((Below.heap_setCell _ ⟨g, 1, none⟩ y k hk).trans ((Below.heap_setCell _ ⟨g, 0, none⟩ x k hk).trans h))
theorem c_far3 {w : World} {g : Nat} {x y z : Value} {A : Option Addr} {n : Nat} {l : List Int} {cs : Array Value} (h : Kd.C (Kd.int .u8) w A n l) (hd : ∀ ad, A = some ad → 0 < n → ad.block ≠ g) : Kd.C (Kd.int .u8) (((w.setCell ⟨g, 0, none⟩ x).setCell ⟨g, 1, none⟩ y).setCell ⟨g, 2, none⟩ z) A n l := by
  obtain ⟨h1, h2, h3⟩ := h
  refine ⟨h1, h2, fun hp => ?_⟩
  obtain ⟨ad, ha, h4⟩ := h3 hp
  refine ⟨ad, ha, fun j p hj => ?_⟩
  obtain ⟨cs, hK, hl, hc⟩ := h4 j p hj
  refine ⟨cs, hK, hl, fun i u hu => ?_⟩
  have h5 := hc i u hu
  have hb : ∀ k, (ad.add k).block ≠ g := fun k => by
    have := hd ad ha hp
    unfold Addr.add
    split <;> exact this
  rw [World.cell?_of_block (show _ = w.heap[(ad.add (j * (Kd.int .u8).sz + i)).block]? from (Below.heap_setCell _ ⟨g, 2, none⟩ z _ (hb _)).trans ((Below.heap_setCell _ ⟨g, 1, none⟩ y _ (hb _)).trans (Below.heap_setCell _ ⟨g, 0, none⟩ x _ (hb _))))]
  exact h5
def RNums (w : World) (A : Option Addr) (c : Nat) (b : List Int) (s : Rd) (z : Int) (e : Ending) (w' : World) : Prop :=
  e = .returned (.tuple #[rin A c b (nmS b s z), .int .u64 (nmV b s z : Nat)]) ∧ Below w.heap.size w w'
theorem val_mul (x y : Nat) (hx : x < 72057594037927936) (hy : y < 256) : (256 * (x : Int) % 18446744073709551616 + (y : Int)) % 18446744073709551616 = ((x * 256 + y : Nat) : Int) := by omega
set_option maxRecDepth 100000 in
set_option maxHeartbeats 4000000 in
theorem rnum_calls (w : World) (A : Option Addr) (c : Nat) (b : List Int) (s : Rd) (z : Int) (ha : s.a ≤ b.length) (hl : b.length ≤ 1048576) (hc : b.length ≤ c) (hC : Kd.C (Kd.int .u8) w A b.length b) (hby : Bytes b) : Calls Try.prog 20 #[rin A c b s, .int .i64 z] w (RNums w A c b s z) := by
  obtain ⟨a, bad⟩ := s
  have HC := Aside0.mk hC
  have HBY := Aside0.mk hby
  have HB := Aside0.mk (((Below.refl w.heap.size w).alloc (Nat.le_refl _) (rinO A c b ⟨a, bad⟩)).alloc (by simp) (.cells #[.slice none 0 0, .int .i64 0, .bool false] 40))
  have HX := Aside0.mk (blk_alloc (blk_new w (rinO A c b ⟨a, bad⟩)) (.cells #[.slice none 0 0, .int .i64 0, .bool false] 40))
  have HY := Aside0.mk (blk_new (w.alloc (rinO A c b ⟨a, bad⟩)) (.cells #[.slice none 0 0, .int .i64 0, .bool false] 40))
  simp only [World.size_alloc] at HY
  have HN := Aside0.mk (fun W => weftlineref06_Num.calls 20 0 z (nbz 0 z) W (num_f 0 z))
  have hne : w.heap.size + 1 ≠ w.heap.size := by omega
  have hne2 : w.heap.size ≠ w.heap.size + 1 := by omega
  have HT := Aside0.mk (fun W (hB : Below w.heap.size w W) => rtake_calls W A c b ⟨a, bad⟩ z ha hl hc (Kd.C_below hC hB))
  clear hC hby
  by_cases hs : isSz z
  · have hlen : (nbz 0 z).length = z.toNat := by unfold nbz; rw [if_pos hs, nb_len]
    have hz1 : ((z.toNat : Nat) : Int) ≠ 0 := by unfold isSz at hs; omega
    have hzb : (((z.toNat : Nat) : Int) == 0) = false := by rw [beq_eq_false_iff_ne]; exact hz1
    have HV := Aside0.mk (show nmV b ⟨a, bad⟩ z = val (tkL b ⟨a, bad⟩ z) ∧ nmS b ⟨a, bad⟩ z = tkS b ⟨a, bad⟩ z from by unfold nmV nmS; rw [if_pos hs, if_pos hs]; exact ⟨rfl, rfl⟩)
    obtain ⟨l, hll⟩ : ∃ l, l = tkL b ⟨a, bad⟩ z := ⟨_, rfl⟩
    obtain ⟨s2, hs2⟩ : ∃ s2, s2 = tkS b ⟨a, bad⟩ z := ⟨_, rfl⟩
    have HBy := Aside0.mk (show Bytes l from by rw [hll]; exact tkL_bytes HBY.out _ _)
    have hl8 : l.length ≤ 8 := by
      rw [hll]
      unfold tkL
      split
      · simp
      · rw [List.length_take]
        unfold isSz at hs
        omega
    have HNX := Aside0.mk (fun W e w' (hx : RTakes W A c b ⟨a, bad⟩ z e w') => (show ∃ A' c', e = .returned (.tuple #[rin A c b s2, .slice A' l.length c']) ∧ Kd.C (Kd.int .u8) w' A' l.length l ∧ l.length ≤ c' ∧ Below W.heap.size W w' ∧ ∀ ad, A' = some ad → W.heap.size ≤ ad.block from by rw [hll, hs2]; exact hx))
    rw [← hll, ← hs2] at HV
    clear hll hs2 hs hz1
    have HNL := Aside0.mk hlen
    clear hlen
    go_enter Try.func20, Try.ntmps20
    go_wp2_with fail
    refine (HN.out _).mono ?_
    rintro e w2 ⟨v2, rfl, hR2, hb2⟩
    obtain ⟨A2, c2, rfl⟩ := Kd.R_slice hR2
    rw [HNL.out]
    have HX2 := Aside0.mk (blk_below HX.out hb2)
    have HY2 := Aside0.mk (blk_below HY.out hb2)
    have HB2 := Aside0.mk (below_step HB.out hb2)
    have hx := cc3 HX2.out
    clear hR2 hb2
    go_wp2_with fail
    refine (HT.out _ HB2.out).mono ?_
    intro e w3 hxx
    obtain ⟨A3, c3, rfl, hC3, hc3, hb3, hfr3⟩ := HNX.out _ _ _ hxx
    have HX3 := Aside0.mk (blk_below HX2.out hb3)
    have HY3 := Aside0.mk (blk_below HY2.out hb3)
    have HB3 := Aside0.mk (below_step HB2.out hb3)
    have HC3 := Aside0.mk (c_far3 (cs := #[]) (g := w.heap.size) (x := .slice A b.length c) (y := .int .i64 (s2.a : Nat)) (z := .bool s2.bad) hC3 (fun ad h _ => by have h1 := hfr3 ad h; have h2 := blk_lt HX2.out; omega))
    have HX4 := Aside0.mk (put3 (x := .slice A b.length c) (y := .int .i64 (s2.a : Nat)) (z := .bool s2.bad) HX3.out)
    have HY4 := Aside0.mk (far3 (g := w.heap.size) (x := .slice A b.length c) (y := .int .i64 (s2.a : Nat)) (z := .bool s2.bad) HY3.out hne)
    have HB4 := Aside0.mk (below3 (g := w.heap.size) (x := .slice A b.length c) (y := .int .i64 (s2.a : Nat)) (z := .bool s2.bad) HB3.out (Nat.le_refl _))
    clear hxx hC3 hc3 hb3 hfr3 hx
    have hx := cc3 HX3.out
    go_wp2_with fail
    generalize ((w3.setCell ⟨w.heap.size, 0, none⟩ (Value.slice A b.length c)).setCell ⟨w.heap.size, 1, none⟩ (Value.int IntKind.i64 (s2.a : Nat))).setCell ⟨w.heap.size, 2, none⟩ (Value.bool s2.bad) = w4 at HC3 HX4 HY4 HB4 ⊢
    go_loopw [7, 8] (fun o i wr => ∃ k : Nat, k ≤ l.length ∧ i = .int .i64 k ∧ o = .int .u64 (val (l.take k) : Nat) ∧ wr = w4) (fun _ i _ => l.length - (intOf i).toNat)
    case atStart => exact ⟨0, Nat.zero_le _, rfl, by simp [val], rfl⟩
    case round =>
      obtain ⟨k, hk, rfl, rfl, rfl⟩ := hrel
      by_cases hlt : k < l.length
      · obtain ⟨ad, rfl, hcell⟩ := Kd.at_int HC3.out (k : Int) (by omega) (by omega)
        rw [Int.toNat_natCast] at hcell
        obtain ⟨y, hy1, hy2, hy3⟩ := byte_at HBy.out k hlt
        rw [hy1] at hcell
        obtain ⟨x, hx'⟩ : ∃ x, x = val (l.take k) := ⟨_, rfl⟩
        have hxl : x < 72057594037927936 := by
          have h1 := val_lt HBy.out k hk
          rw [← hx'] at h1
          have h2 : 256 ^ k ≤ 256 ^ 7 := Nat.pow_le_pow_right (by decide) (by omega)
          have h3 : (256 : Nat) ^ 7 = 72057594037927936 := by decide
          omega
        have HX' := Aside0.mk (show val (l.take (k + 1)) = x * 256 + y from by
          have e1 : l.take (k + 1) = l.take k ++ [l.getD k 0] := by
            rw [List.take_add_one, List.getD_eq_getElem?_getD, List.getElem?_eq_getElem hlt]
            simp
          rw [e1, val_snoc, ← hx', hy3, Int.toNat_natCast])
        rw [← hx']
        have hlti : (k : Int) < (l.length : Int) := by omega
        clear hx' hy1 hy3 hx
        go_wp2_with fail
        exact ⟨⟨k + 1, by omega, by go_num, by rw [HX'.out]; congr 1; omega, trivial⟩, by simp [intOf]; omega⟩
      · obtain rfl : k = l.length := by omega
        have hx := cc3 HX4.out
        have hy := cc3 HY4.out
        go_wp2_with fail
        rw [List.take_length]
        refine bodyPost_ret (results_ct rfl _ _ (w.heap.size + 1) 40 #[.slice A b.length c, .int .i64 (s2.a : Nat), .bool s2.bad] (0, 0) _ rfl (hblk3 HY4.out) Try.underlying40 rfl (by kernel_rfl)) rfl ?_
        exact ⟨by rw [HV.out.1, HV.out.2]; rfl, below3 HB4.out (Nat.le_succ _)⟩
  · have hlen : (nbz 0 z).length = 0 := by unfold nbz; rw [if_neg hs]; rfl
    have HV := Aside0.mk (show nmV b ⟨a, bad⟩ z = 0 ∧ nmS b ⟨a, bad⟩ z = ⟨a, true⟩ from by unfold nmV nmS; rw [if_neg hs, if_neg hs]; exact ⟨rfl, rfl⟩)
    have HNL := Aside0.mk hlen
    clear hlen hs HT
    go_enter Try.func20, Try.ntmps20
    go_wp2_with fail
    refine (HN.out _).mono ?_
    rintro e w2 ⟨v2, rfl, hR2, hb2⟩
    obtain ⟨A2, c2, rfl⟩ := Kd.R_slice hR2
    rw [HNL.out]
    have HX2 := Aside0.mk (blk_below HX.out hb2)
    have HY2 := Aside0.mk (blk_below HY.out hb2)
    have HB2 := Aside0.mk (below_step HB.out hb2)
    have hx := cc3 HX2.out
    have hy := cc3 HY2.out
    clear hR2 hb2
    go_wp2_with fail
    refine bodyPost_ret (results_ct rfl _ _ (w.heap.size + 1) 40 #[.slice A b.length c, .int .i64 (a : Nat), .bool true] (0, 0) _ rfl (hblk3 ((Below.heap_setCell w2 ⟨w.heap.size, 2, none⟩ (.bool true) (w.heap.size + 1) hne).trans HY2.out)) Try.underlying40 rfl (by kernel_rfl)) rfl ?_
    exact ⟨by rw [HV.out.1, HV.out.2]; rfl, below3 (HB2.out.setCell (p := ⟨w.heap.size, 2, none⟩) (Nat.le_refl _) _) (Nat.le_succ _)⟩
/-- The reader's box and the result's. -/
def RPS (w : World) (A : Option Addr) (c : Nat) (b : List Int) (s : Rd) (wr : World) : Prop :=
  s.a ≤ b.length ∧ wr.heap[w.heap.size]? = some (rinO A c b s) ∧ wr.heap[w.heap.size + 1]? = some (.cells #[.slice none 0 0, .int .i64 0, .bool false] 40 (0, 0)) ∧ Below w.heap.size w wr
theorem rps_step {w w3 : World} {A : Option Addr} {c : Nat} {b : List Int} {a2 : Nat} {bad2 B : Bool} {x0 y0 z0 : Value} (ha : a2 ≤ b.length) (hX : w3.heap[w.heap.size]? = some (.cells #[x0, y0, z0] 40 (0, 0))) (hY : w3.heap[w.heap.size + 1]? = some (.cells #[.slice none 0 0, .int .i64 0, .bool false] 40 (0, 0))) (hB : Below w.heap.size w w3) :
    RPS w A c b ⟨a2, B⟩ ((((w3.setCell ⟨w.heap.size, 0, none⟩ (.slice A b.length c)).setCell ⟨w.heap.size, 1, none⟩ (.int .i64 (a2 : Nat))).setCell ⟨w.heap.size, 2, none⟩ (.bool bad2)).setCell ⟨w.heap.size, 2, none⟩ (.bool B)) :=
  ⟨ha, blk_put (put3 hX) 2 _ rfl, (Below.heap_setCell _ ⟨w.heap.size, 2, none⟩ (.bool B) (w.heap.size + 1) (by show w.heap.size + 1 ≠ w.heap.size; omega)).trans (far3 hY (by omega)), (below3 hB (Nat.le_refl _)).setCell (p := ⟨w.heap.size, 2, none⟩) (Nat.le_refl _) _⟩
set_option maxRecDepth 100000 in
set_option maxHeartbeats 4000000 in
theorem rpad_calls (w : World) (A : Option Addr) (c : Nat) (b : List Int) (s : Rd) (ha : s.a ≤ b.length) (hl : b.length ≤ 1048576) (hc : b.length ≤ c) (hC : Kd.C (Kd.int .u8) w A b.length b) (hby : Bytes b) : Calls Try.prog 25 #[rin A c b s] w fun e w' => e = .returned (rin A c b (pdS b 4 s)) ∧ Below w.heap.size w w' := by
  have HY := blk_new (w.alloc (rinO A c b s)) (.cells #[.slice none 0 0, .int .i64 0, .bool false] 40)
  simp only [World.size_alloc] at HY
  have HS0 := Aside0.mk (show RPS w A c b s _ from ⟨ha, blk_alloc (blk_new w (rinO A c b s)) (.cells #[.slice none 0 0, .int .i64 0, .bool false] 40), HY, ((Below.refl w.heap.size w).alloc (Nat.le_refl _) (rinO A c b s)).alloc (by simp) (.cells #[.slice none 0 0, .int .i64 0, .bool false] 40)⟩)
  have HRN := Aside0.mk (fun W (hB : Below w.heap.size w W) (s' : Rd) (h' : s'.a ≤ b.length) => rnum_calls W A c b s' 1 h' hl hc (Kd.C_below hC hB) hby)
  clear HY hC hby ha
  have hne : w.heap.size + 1 ≠ w.heap.size := by omega
  have hne2 : w.heap.size ≠ w.heap.size + 1 := by omega
  go_enter Try.func25, Try.ntmps25
  go_wp2_with fail
  go_loopg [] 5 (fun kq wr => ∃ (s' : Rd) (f : Nat), kq = f + 1 ∧ Aside0 (pdS b f s' = pdS b 4 s ∧ (s'.bad = true ∨ padn s'.a ≤ f)) ∧ Aside0 (RPS w A c b s' wr))
  case atStart => exact ⟨s, 4, rfl, ⟨rfl, .inr (by unfold padn; omega)⟩, HS0⟩
  case round =>
    obtain ⟨s', f, rfl, HP, HO⟩ := hrel
    obtain ⟨a, bad⟩ := s'
    have HX1 := Aside0.mk HO.out.2.1
    have HY1 := Aside0.mk HO.out.2.2.1
    have hx := cc3 HO.out.2.1
    have hy := cc3 HO.out.2.2.1
    have hal : a ≤ b.length := HO.out.1
    have hlast : ∀ W' : World, W' = W' := fun _ => rfl
    clear hlast
    have hdone : (bad = true ∨ a % 4 = 0) → pdS b 4 s = ⟨a, bad⟩ := fun h => by
      rw [← HP.out.1]
      rcases h with h | h
      · rw [pdS_bad _ _ _ h]
      · rw [pdS_four _ _ _ h]
    by_cases hfin : bad = true ∨ (a : Int) % 4 = 0
    · have HD := Aside0.mk (hdone (hfin.imp id (fun h => by omega)))
      clear hdone
      rcases hfin with rfl | h4
      · go_wp2_with fail
        refine bodyPost_ret (results_cell_row rfl _ _ (w.heap.size + 1) 40 #[.slice A b.length c, .int .i64 (a : Nat), .bool true] (0, 0) _ rfl (hblk3 HY1.out) Try.underlying40 rfl (by kernel_rfl)) rfl ?_
        exact ⟨by rw [HD.out], below3 HO.out.2.2.2 (Nat.le_succ _)⟩
      · cases bad with
        | true =>
          go_wp2_with fail
          refine bodyPost_ret (results_cell_row rfl _ _ (w.heap.size + 1) 40 #[.slice A b.length c, .int .i64 (a : Nat), .bool true] (0, 0) _ rfl (hblk3 HY1.out) Try.underlying40 rfl (by kernel_rfl)) rfl ?_
          exact ⟨by rw [HD.out], below3 HO.out.2.2.2 (Nat.le_succ _)⟩
        | false =>
          go_wp2_with fail
          refine bodyPost_ret (results_cell_row rfl _ _ (w.heap.size + 1) 40 #[.slice A b.length c, .int .i64 (a : Nat), .bool false] (0, 0) _ rfl (hblk3 HY1.out) Try.underlying40 rfl (by kernel_rfl)) rfl ?_
          exact ⟨by rw [HD.out], below3 HO.out.2.2.2 (Nat.le_succ _)⟩
    · have hbf : bad = false := by
        rcases Bool.eq_false_or_eq_true bad with h | h
        · exact absurd (.inl h) hfin
        · exact h
      subst hbf
      have h4 : ¬ (a : Int) % 4 = 0 := fun h => hfin (.inr h)
      have H4 := Aside0.mk (show a % 4 ≠ 0 by omega)
      clear hdone hfin
      cases f with
      | zero =>
        exfalso
        rcases HP.out.2 with h | h
        · cases h
        · unfold padn at h
          have := H4.out
          simp only at h
          omega
      | succ f =>
        have HE := Aside0.mk ((pd_next b f ⟨a, false⟩ rfl H4.out).symm.trans HP.out.1)
        have HPD := Aside0.mk (show (nmS b ⟨a, false⟩ 1).bad = true ∨ padn (nmS b ⟨a, false⟩ 1).a ≤ f from by
          rcases nm1_pad b ⟨a, false⟩ rfl with h | h
          · exact .inl h
          · right
            rw [h]
            rcases HP.out.2 with h' | h'
            · cases h'
            · have := H4.out
              simp only at h' ⊢
              unfold padn at h' ⊢
              omega)
        have HLE := Aside0.mk (nmS_le (b := b) (s := ⟨a, false⟩) hal 1)
        obtain ⟨s2, hs2⟩ : ∃ s2, s2 = nmS b ⟨a, false⟩ 1 := ⟨_, rfl⟩
        obtain ⟨y, hy2⟩ : ∃ y, y = nmV b ⟨a, false⟩ 1 := ⟨_, rfl⟩
        rw [← hs2, ← hy2] at HE
        rw [← hs2] at HPD HLE
        have HR2 := Aside0.mk ((HRN.out wr HO.out.2.2.2 ⟨a, false⟩ hal).mono (fun e w' (hx : RNums wr A c b ⟨a, false⟩ 1 e w') => (show e = .returned (.tuple #[rin A c b s2, .int .u64 (y : Nat)]) ∧ Below wr.heap.size wr w' from by rw [hs2, hy2]; exact hx)))
        clear hs2 hy2 hal
        go_wp2_with fail
        refine HR2.out.mono ?_
        rintro e w2 ⟨rfl, hb2⟩
        obtain ⟨a2, bad2⟩ := s2
        have HX2 := Aside0.mk (blk_alloc (blk_below HX1.out hb2) (rinO A c b ⟨a2, bad2⟩))
        have HY2 := Aside0.mk (blk_alloc (blk_below HY1.out hb2) (rinO A c b ⟨a2, bad2⟩))
        have HZ2 := Aside0.mk (blk_new w2 (rinO A c b ⟨a2, bad2⟩))
        have HB2 := Aside0.mk ((below_step HO.out.2.2.2 hb2).alloc (below_step HO.out.2.2.2 hb2).size (rinO A c b ⟨a2, bad2⟩))
        have HG := Aside0.mk (show w2.heap.size ≠ w.heap.size from by have := blk_lt (blk_below HX1.out hb2); omega)
        clear hb2 hx hy
        go_upto_region 3 with fail
        generalize w2.alloc (Obj.cells #[Value.slice A b.length c, Value.int IntKind.i64 (a2 : Nat), Value.bool bad2] 40) = w3 at HX2 HY2 HZ2 HB2 ⊢
        obtain ⟨g3, hg3⟩ : ∃ g, g = w2.heap.size := ⟨_, rfl⟩
        rw [← hg3] at HZ2 HG ⊢
        clear hg3
        have hx := cc3 HX2.out
        have hz := cc3 HZ2.out
        cases bad2 with
        | true =>
          go_wp2_with fail
          go_roundg (f + 1)
          case measure => omega
          case rel => exact ⟨⟨a2, true⟩, f, rfl, ⟨by have := HE.out; simpa using this, .inl rfl⟩, ⟨rps_step HLE.out HX2.out HY2.out HB2.out⟩⟩
        | false =>
          by_cases h0 : y = 0
          · subst h0
            go_wp2_with fail
            go_roundg (f + 1)
            case measure => omega
            case rel => exact ⟨⟨a2, false⟩, f, rfl, ⟨by have := HE.out; simpa using this, HPD.out⟩, ⟨rps_step HLE.out HX2.out HY2.out HB2.out⟩⟩
          · have h0i : ¬ (y : Int) = 0 := by omega
            go_wp2_with fail
            rw [show ((y : Int) != 0) = true from by simp [bne_iff_ne]; omega]
            go_roundg (f + 1)
            case measure => omega
            case rel => exact ⟨⟨a2, true⟩, f, rfl, ⟨by have := HE.out; rw [if_pos h0] at this; exact this, .inl rfl⟩, ⟨rps_step HLE.out HX2.out HY2.out HB2.out⟩⟩
end Go.Proofs.Ytjhciagjofhhiaa.Tl
