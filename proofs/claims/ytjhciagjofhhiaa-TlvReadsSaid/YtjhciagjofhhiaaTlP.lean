import Derived.Test.YtjhciagjofhhiaaTlO
import Derived.Test.YtjhciagjofhhiaaTlM
/- TlvReads: the walk. -/
namespace Go.Proofs.Ytjhciagjofhhiaa.Tl
open Go.RowKit Go.Proofs.YtjhciagjofhhiaaW.PrintWords Go.Proofs.YtjhciagjofhhiaaW.PrintLast Go.Proofs.YtjhciagjofhhiaaW.PrintMore Go.Proofs.Ytjhciagjofhhiaa.Sh Go.Proofs.Ytjhciagjofhhiaa.POne
set_option linter.unusedVariables false
set_option linter.unusedSimpArgs false
theorem bytes_wfP {l : List Int} (h : ∀ z ∈ l, (Lit.int .u8 z).wf = true) : Bytes l := by
  intro x hx
  have := h x hx
  simp [Lit.wf, IntKind.min, IntKind.max, IntKind.signed, IntKind.bits] at this
  omega
/-- The box turned. -/
abbrev set3 (w : World) (g : Nat) (A : Option Addr) (c : Nat) (b : List Int) (t : Rd) : World := ((w.setCell ⟨g, 0, none⟩ (.slice A b.length c)).setCell ⟨g, 1, none⟩ (.int .i64 (t.a : Nat))).setCell ⟨g, 2, none⟩ (.bool t.bad)
/-- The program's reader holds s, the reference's t. -/
structure JR (W : World) (p g : Nat) (v : Value) (A : Option Addr) (c : Nat) (b : List Int) (s t : Rd) (wr : World) : Prop where
  inn : InAt wr W.heap.size p v b s
  box : wr.heap[g]? = some (rinO A c b t)
  hg : W.heap.size ≤ g
  ta : t.a ≤ b.length
  bel : Below W.heap.size W wr
section
variable {W wr w2 : World} {p g : Nat} {v : Value} {A : Option Addr} {c : Nat} {b : List Int} {s s' t t' : Rd}
theorem JR.size (h : JR W p g v A c b s t wr) : W.heap.size ≤ wr.heap.size := h.bel.size
theorem JR.ne (h : JR W p g v A c b s t wr) : g ≠ p := by
  rintro rfl
  have h1 := h.box
  rw [h.inn.2.1] at h1
  simp at h1
theorem JR.below (h : JR W p g v A c b s t wr) (hb : Below wr.heap.size wr w2) : JR W p g v A c b s t w2 := ⟨h.inn.below hb, blk_below h.box hb, h.hg, h.ta, below_step h.bel hb⟩
theorem JR.step (h : JR W p g v A c b s t wr) (hi : IS wr W.heap.size p v b s' w2) : JR W p g v A c b s' t w2 :=
  ⟨hi.1, (hi.2.block g (blk_lt h.box) h.ne).trans h.box, h.hg, h.ta, h.bel.trans (hi.2.below h.inn.1 h.size)⟩
theorem JR.far (h : JR W p g v A c b s t wr) (k j : Nat) (u : Value) (hk : W.heap.size ≤ k) (hp : k ≠ p) (hv : v.ownBlock ≠ some k) (hgk : k ≠ g) : JR W p g v A c b s t (wr.setCell ⟨k, j, none⟩ u) := by
  have key : ∀ q, q ≠ k → (wr.setCell ⟨k, j, none⟩ u).heap[q]? = wr.heap[q]? := fun q hq => Below.heap_setCell wr ⟨k, j, none⟩ u q hq
  exact ⟨⟨h.inn.1, (key p (fun e => hp e.symm)).trans h.inn.2.1, rb_move h.inn.2.2.1 (fun q hq => key q (fun e => hv (e ▸ hq))), h.inn.2.2.2⟩, (key g (fun e => hgk e.symm)).trans h.box, h.hg, h.ta, h.bel.setCell (p := ⟨k, j, none⟩) hk u⟩
theorem JR.put (h : JR W p g v A c b s t wr) (ht : t'.a ≤ b.length) : JR W p g v A c b s t' (set3 wr g A c b t') := by
  have key : ∀ q, q ≠ g → (set3 wr g A c b t').heap[q]? = wr.heap[q]? := fun q hq => (Below.heap_setCell _ ⟨g, 2, none⟩ _ q hq).trans ((Below.heap_setCell _ ⟨g, 1, none⟩ _ q hq).trans (Below.heap_setCell wr ⟨g, 0, none⟩ _ q hq))
  exact ⟨⟨h.inn.1, (key p h.ne.symm).trans h.inn.2.1, rb_move h.inn.2.2.1 (fun q hq => key q (fun e => Kd.R_ne h.inn.2.2.1 h.box (by decide) (by rw [hq, e]))), h.inn.2.2.2⟩, put3 h.box, h.hg, ht, below3 h.bel h.hg⟩
theorem JR.kept (h : JR W p g v A c b s t wr) (hi : IS wr W.heap.size p v b s' w2) {k : Nat} {o : Obj} (hk : wr.heap[k]? = some o) (hn : k ≠ p) : w2.heap[k]? = some o := (hi.2.block k (blk_lt hk) hn).trans hk
theorem set3_far (t : Rd) {k : Nat} {o : Obj} (hk : wr.heap[k]? = some o) (hn : k ≠ g) : (set3 wr g A c b t).heap[k]? = some o := far3 hk hn
end
theorem xor_own {W wr : World} {p g Bl b0 o c9 n : Nat} {v : Value} {A : Option Addr} {c : Nat} {b : List Int} {s t : Rd} {L9 : List Int} (h : JR W p g v A c b s t wr) (hl : (Kd.int .u8).Q 5 wr Bl (fun _ => True) (.slice (some ⟨b0, o, none⟩) n c9) L9) (hv : W.heap.size ≤ b0 ∧ v.ownBlock ≠ some b0) (q : Nat) (hq : q < L9.length) (u : Int) :
    JR W p g v A c b s t (wr.setCell ⟨b0, o + q, none⟩ (.int .u8 u)) ∧ (Kd.int .u8).Q 5 (wr.setCell ⟨b0, o + q, none⟩ (.int .u8 u)) Bl (fun _ => True) (.slice (some ⟨b0, o, none⟩) n c9) (L9.set q u) := by
  have n1 : b0 ≠ p := fun e => Kd.Q_ne hl h.inn.2.1 (by decide) (by rw [← e]; rfl)
  have n2 : b0 ≠ g := fun e => Kd.Q_ne hl h.box (by decide) (by rw [← e]; rfl)
  have hnl := (Kd.Q_reads' hl).1
  have hw := (Kd.Q_putg hl (q : Int) (by omega) (by omega) u).1
  rw [Int.toNat_natCast] at hw
  exact ⟨h.far b0 _ _ hv.1 n1 hv.2 n2, hw⟩
theorem c_kept {w w2 : World} {p : Nat} {A : Option Addr} {n : Nat} {l : List Int} (h : Kd.C (Kd.int .u8) w A n l) (hk : ∀ k o, w.heap[k]? = some o → k ≠ p → w2.heap[k]? = some o) (hd : ∀ ad, A = some ad → 0 < n → ad.block ≠ p) : Kd.C (Kd.int .u8) w2 A n l := by
  obtain ⟨h1, h2, h3⟩ := h
  refine ⟨h1, h2, fun hp => ?_⟩
  obtain ⟨ad, ha, h4⟩ := h3 hp
  refine ⟨ad, ha, fun j q hj => ?_⟩
  obtain ⟨cs, hK, hl, hc⟩ := h4 j q hj
  have hb : ∀ k, (ad.add k).block ≠ p := fun k => by
    have := hd ad ha hp
    unfold Addr.add
    split <;> exact this
  refine ⟨cs, hK, hl, fun i u hu => ?_⟩
  have h5 := hc i u hu
  cases hx : w.heap[(ad.add (j * (Kd.int .u8).sz + i)).block]? with
  | none => rw [World.cell?, hx] at h5; cases h5
  | some o =>
    rw [World.cell?_of_block ((hk _ o hx (hb _)).trans hx.symm)]
    exact h5
theorem end_two (b : List Int) (s : Rd) : (endV b s = .nilIface ∧ decide (s.bad = false ∧ left b s = 0) = true) ∨ (endV b s = .iface 55 (.int .i64 2) ∧ decide (s.bad = false ∧ left b s = 0) = false) := by
  by_cases h : s.bad = true ∨ 0 < left b s
  · right
    refine ⟨if_pos h, decide_eq_false (fun h2 => ?_)⟩
    rcases h with h | h
    · rw [h2.1] at h; cases h
    · omega
  · left
    refine ⟨if_neg h, decide_eq_true ⟨?_, ?_⟩⟩
    · rcases Bool.eq_false_or_eq_true s.bad with h1 | h1
      · exact absurd (.inl h1) h
      · exact h1
    · exact Nat.eq_zero_of_not_pos (fun h1 => h (.inr h1))
theorem set3_keep (wr : World) (g : Nat) (A : Option Addr) (c : Nat) (b : List Int) (t : Rd) (q : Nat) (hq : q ≠ g) : (set3 wr g A c b t).heap[q]? = wr.heap[q]? :=
  (Below.heap_setCell _ ⟨g, 2, none⟩ _ q hq).trans ((Below.heap_setCell _ ⟨g, 1, none⟩ _ q hq).trans (Below.heap_setCell wr ⟨g, 0, none⟩ _ q hq))
set_option maxRecDepth 100000 in
set_option maxHeartbeats 8000000 in
theorem tlvReads_walk (W : World) (A0 : Option Addr) (c0 : Nat) (l0 : (List Int)) (A1 : Option Addr) (c1 : Nat) (l1 : (List (Int × Int × Int × (List Int)))) (hc0 : l0.length ≤ c0) (hr0 : Kd.C (Kd.int .u8) W A0 l0.length l0) (w0 : (∀ zl0 ∈ l0, (Lit.int .u8 zl0).wf = true)) (hc1 : l1.length ≤ c1) (hr1 : Kd.C (Kd.pair (Kd.int .i64) (Kd.pair (Kd.int .i64) (Kd.pair (Kd.int .u64) (Kd.slice 5 (Kd.int .u8))))) W A1 l1.length l1) (w1 : (∀ zl1 ∈ l1, ((Lit.int .i64 zl1.1).wf = true ∧ (Lit.int .i64 zl1.2.1).wf = true ∧ (Lit.int .u64 zl1.2.2.1).wf = true ∧ (∀ z222 ∈ zl1.2.2.2, (Lit.int .u8 z222).wf = true)))) :
    Calls Try.prog 4 #[.slice A0 l0.length c0, .slice A1 l1.length c1] W fun e w' => e = .returned (.bool true) ∧ Below W.heap.size W w' := by
  have HBY := Aside0.mk (bytes_wfP w0)
  have HC := Aside0.mk (And.intro hc0 hr0)
  have HC1 := Aside0.mk (show Kd.C THG W A1 l1.length l1 from hr1)
  clear w0 hr0 hc0 hr1 w1 hc1
  go_enter Try.func4, Try.ntmps4
  go_wp2_with fail
  refine (alive_calls W).mono ?_
  rintro e w1 ⟨rfl, hB1⟩
  have HB1 := Aside0.mk hB1
  clear hB1
  go_wp2_with fail
  refine (long_calls w1 A1 c1 l1 (Kd.C_below HC1.out HB1.out)).mono ?_
  rintro e w2 ⟨hb2, h2⟩
  have HB2 := Aside0.mk (below_step HB1.out hb2)
  clear hb2
  rcases h2 with rfl | ⟨rfl, hl41, hts⟩
  · go_wp2_with fail
    go_ret
    exact ⟨rfl, HB2.out⟩
  · clear hts
    by_cases hl : 3000 < l0.length
    · have hli : (3000 : Int) < (l0.length : Int) := by omega
      go_wp2_with fail
      go_ret
      exact ⟨rfl, HB2.out⟩
    · have hli : ¬ (3000 : Int) < (l0.length : Int) := by omega
      have HLA := Aside0.mk (show (([] : List Int).length + l0.length) * 1 ≤ 140737488355328 by simp; omega)
      have HL := Aside0.mk hl
      clear hl
      go_wp2_with (first | ((with_reducible refine gate_dst (N := 27) rfl ?_); refine Kd.R_lit (Kd.int .u8) (w0 := W) W.heap.size 5 ?hg (N := 27) ?hd (xs := ([] : List Int)) (inner := []) (ok := fun _ => True) (okp := fun _ => True) ?hr ?hp (fun _ hk => hk) trivial HB2.out HB2.out.size (by simp) ?_; (case hd => rfl); (case hg => rfl); (case hr => first | (go_simp; done) | (go_simp; rfl)); (case hp => exact (Reps.none _ _)); intro v2 w3 ho hb hg hn; have HO2 := Aside0.mk ho; have HB3 := Aside0.mk hb; clear ho hb hg hn; obtain ⟨A2, c2, rfl⟩ := Kd.R_slice HO2.out) | (at_builtin; refine Kd.R_append_rows (Kd.int .u8) (w0 := W) W.heap.size rfl (.tmp 27) (.tmp 28) 26 5 (.int .u8 0) 1 rfl Try.underlying26 info5 rfl (by decide) (by omega) (.slice A2 ([] : List Int).length c2) [] l0 A0 l0.length c0 (fun _ => True) (fun _ => False) rfl rfl ?aO ?aR (fun _ _ h => h) (fun _ h => h.elim) (fun _ _ => trivial) ?aB ?aS ?aL ?_; (case aO => exact HO2.out); (case aR => exact Kd.C_below HC.out.2 HB3.out); (case aB => exact HB3.out); (case aS => exact HB3.out.size); (case aL => exact HLA.out); intro v4 w4 ho hb hg hn; rw [List.nil_append] at ho; have HO4 := Aside0.mk ho; have HB4 := Aside0.mk hb; clear ho hb hg hn; obtain ⟨A4, c4, rfl⟩ := Kd.R_slice HO4.out))
      have HR4 := Aside0.mk (Kd.R_reads' HO4.out)
      refine (read_calls w4 A4 c4 l0 HR4.out.2.1 HR4.out.2.2 (by have := HL.out; omega) HBY.out).mono ?_
      rintro e w5 ⟨p, v, rfl, hI5, hb5⟩
      have HJ0 := Aside0.mk (show JR W p w5.heap.size v A0 c0 l0 ⟨0, false⟩ ⟨0, false⟩ (w5.alloc (rinO A0 c0 l0 ⟨0, false⟩)) from ⟨(InAt.below ⟨Nat.le_trans HB4.out.size hI5.1, hI5.2.1, Kd.R_lower hI5.2.2.1 HB4.out.size, hI5.2.2.2⟩ ((Below.refl _ _).alloc (Nat.le_refl _) _)), blk_new _ _, (below_step HB4.out hb5).size, Nat.zero_le _, (below_step HB4.out hb5).alloc (below_step HB4.out hb5).size _⟩)
      have HO5 := Aside0.mk (show RB (w5.alloc (rinO A0 c0 l0 ⟨0, false⟩)) W.heap.size (.slice A4 l0.length c4) l0 from Kd.R_below HO4.out (hb5.alloc hb5.size _))
      have HVV := Aside0.mk (show ∀ k, (Value.slice A4 l0.length c4).ownBlock = some k → W.heap.size ≤ k ∧ v.ownBlock ≠ some k from fun k hk => ⟨(rb_lt HO4.out k hk).2, fun he => by have h1 := (rb_lt HO4.out k hk).1; have h2 := (rb_lt hI5.2.2.1 k he).2; omega⟩)
      clear hI5 hb5
      obtain ⟨g, hg⟩ : ∃ g, g = w5.heap.size := ⟨_, rfl⟩
      rw [← hg] at HJ0
      go_upto_region 7 with fail
      rw [← hg] at ⊢
      clear hg
      have HS6 := Aside0.mk (show RB (w5.alloc (Obj.cells #[Value.slice A0 l0.length c0, Value.int IntKind.i64 0, Value.bool false] 40)) W.heap.size (.slice A4 l0.length c4) l0 from HO5.out)
      have HT6 := Aside0.mk (show JR W p g v A0 c0 l0 ⟨0, false⟩ ⟨0, false⟩ (w5.alloc (Obj.cells #[Value.slice A0 l0.length c0, Value.int IntKind.i64 0, Value.bool false] 40)) from HJ0.out)
      clear HJ0 HO5
      generalize w5.alloc (Obj.cells #[Value.slice A0 l0.length c0, Value.int IntKind.i64 0, Value.bool false] 40) = w6 at HS6 HT6 ⊢
      go_wp2_with fail
      go_loopw [36] (fun q wx => ∃ (j2 : Nat) (cur : List Int), j2 ≤ l0.length ∧ q = .int .i64 j2 ∧ Aside0 (cur.length = l0.length) ∧ Aside0 (JR W p g v A0 c0 l0 ⟨0, false⟩ ⟨0, false⟩ wx) ∧ Aside0 ((Kd.int .u8).Q 5 wx W.heap.size (fun _ => True) (.slice A4 l0.length c4) cur)) (fun q _ => l0.length - (intOf q).toNat)
      case atStart => exact ⟨0, l0, Nat.zero_le _, rfl, ⟨rfl⟩, HT6, ⟨Kd.Q_of_R HS6.out⟩⟩
      case round =>
        rename World => wx
        obtain ⟨j2, cur, hj2, rfl, HLL, HPx, HQx⟩ := hrel
        by_cases hlt2 : j2 < l0.length
        · obtain ⟨b, o, c9, hform, _, _, _⟩ := Kd.Q_form HQx.out (by have := HLL.out; omega)
          simp only [Value.slice.injEq] at hform
          obtain ⟨rfl, _, rfl⟩ := hform
          obtain ⟨hcell, hfro⟩ := Kd.Q_cell (d := (0 : Int)) HQx.out j2 (by omega) (by have := HLL.out; omega)
          (try simp only [Int.toNat_natCast] at hcell hfro)
          obtain ⟨y0, hy0⟩ : ∃ y0, rdOf (0 : Int) cur (j2 : Int) = y0 := ⟨_, rfl⟩
          rw [hy0] at hcell
          clear hy0
          have hi2 : (j2 : Int) < (l0.length : Int) := by omega
          go_wp2_with fail
          exact ⟨⟨j2 + 1, _, by omega, by go_num, ⟨by rw [List.length_set]; exact HLL.out⟩, ⟨(xor_own HPx.out HQx.out (HVV.out b rfl) j2 (by have := HLL.out; omega) _).1⟩, ⟨(xor_own HPx.out HQx.out (HVV.out b rfl) j2 (by have := HLL.out; omega) _).2⟩⟩, by simp [intOf]; omega⟩
        · obtain rfl : j2 = l0.length := by omega
          have HJ7 := HPx
          clear HPx HQx HLL HVV HT6 HS6
          go_wp2_with fail
          go_loopw [48] (fun i wr => ∃ (j : Nat) (s : Rd), j ≤ l1.length ∧ i = .int .i64 j ∧ Aside0 (JR W p g v A0 c0 l0 s s wr)) (fun i _ => l1.length - (intOf i).toNat)
          case atStart => exact ⟨0, _, Nat.zero_le _, rfl, HJ7⟩
          case round =>
            obtain ⟨j, s, hj, rfl, HJ⟩ := hrel
            clear HJ7
            by_cases hlt : j < l1.length
            · obtain ⟨ad, A5, c5, rfl, h0, h1, h2, h3, _, _⟩ := thing_cells HC1.out j hlt
              replace h0 := pw_cell_below HJ.out.bel h0
              replace h1 := pw_cell_below HJ.out.bel h1
              replace h2 := pw_cell_below HJ.out.bel h2
              replace h3 := pw_cell_below HJ.out.bel h3
              obtain ⟨z, hz⟩ : ∃ z, z = l1.getD j T0 := ⟨_, rfl⟩
              rw [← hz] at h0 h1 h2 h3
              clear hz
              obtain ⟨k, n, u, B⟩ := z
              simp only at h0 h1 h2 h3
              have HJ5 := Aside0.mk (HJ.out.below ((Below.refl wr.heap.size wr).alloc (Nat.le_refl _) (.cells #[.int .i64 k, .int .i64 n, .int .u64 u, .slice A5 B.length c5] 31)))
              have HX5 := Aside0.mk (blk_new wr (.cells #[.int .i64 k, .int .i64 n, .int .u64 u, .slice A5 B.length c5] 31))
              have HN5 := Aside0.mk (show wr.heap.size ≠ p ∧ wr.heap.size ≠ g from ⟨by have := HJ.out.inn.lt; omega, by have := blk_lt HJ.out.box; omega⟩)
              clear HJ
              have hji : (j : Int) < (l1.length : Int) := by omega
              go_upto_block 4 with fail
              generalize wr.alloc (Obj.cells #[Value.int IntKind.i64 k, Value.int IntKind.i64 n, Value.int IntKind.u64 u, Value.slice A5 B.length c5] 31) = w5 at HJ5 HX5 ⊢
              obtain ⟨g5, hg5⟩ : ∃ g, g = wr.heap.size := ⟨_, rfl⟩
              rw [← hg5] at HX5 HN5 ⊢
              clear hg5 h0 h1 h2 h3
              have hx := cc4 HX5.out
              go_cut [11] (fun sm wx => ∃ s2 : Rd, sm = .bool true ∧ Aside0 (JR W p g v A0 c0 l0 s2 s2 wx))
              case first =>
                by_cases hk0 : k = 0
                · subst hk0
                  obtain ⟨s2, hs2⟩ : ∃ s2, s2 = nmS l0 s n := ⟨_, rfl⟩
                  obtain ⟨y, hy⟩ : ∃ y, y = nmV l0 s n := ⟨_, rfl⟩
                  have HN := Aside0.mk (fun wx t (h : JR W p g v A0 c0 l0 s t wx) => ((inum_calls h.inn n).mono (fun e w' hx => (show e = .returned (.int .u64 (y : Nat)) ∧ JR W p g v A0 c0 l0 s2 t w' ∧ ∀ k o, wx.heap[k]? = some o → k ≠ p → w'.heap[k]? = some o from by rw [hs2, hy]; exact ⟨hx.1, h.step hx.2, fun k o hk hn => h.kept hx.2 hk hn⟩))))
                  have HR := Aside0.mk ((rnum_calls w5 A0 c0 l0 s n HJ5.out.ta (by have := HL.out; omega) HC.out.1 (Kd.C_below HC.out.2 HJ5.out.bel) HBY.out).mono (fun e w' hx => (show e = .returned (.tuple #[rin A0 c0 l0 s2, .int .u64 (y : Nat)]) ∧ Below w5.heap.size w5 w' from by rw [hs2, hy]; exact hx)))
                  have HT := Aside0.mk (show s2.a ≤ l0.length from by rw [hs2]; exact nmS_le HJ5.out.ta n)
                  clear hs2 hy
                  have hxg := cc3 HJ5.out.box
                  go_wp2_with fail
                  refine HR.out.mono ?_
                  rintro e w6 ⟨rfl, hb6⟩
                  have HJ6 := Aside0.mk ((HJ5.out.below hb6).below ((Below.refl w6.heap.size w6).alloc (Nat.le_refl _) (rinO A0 c0 l0 s2)))
                  have HX6 := Aside0.mk (blk_alloc (blk_below HX5.out hb6) (rinO A0 c0 l0 s2))
                  have HZ6 := Aside0.mk (blk_new w6 (rinO A0 c0 l0 s2))
                  have HN6 := Aside0.mk (show w6.heap.size ≠ p ∧ w6.heap.size ≠ g from ⟨by have := (HJ5.out.below hb6).inn.lt; omega, by have := blk_lt (HJ5.out.below hb6).box; omega⟩)
                  clear hb6 hx hxg HR
                  go_upto_region 21 with fail
                  generalize w6.alloc (Obj.cells #[Value.slice A0 l0.length c0, Value.int IntKind.i64 (s2.a : Nat), Value.bool s2.bad] 40) = w7 at HJ6 HX6 HZ6 ⊢
                  obtain ⟨g7, hg7⟩ : ∃ g, g = w6.heap.size := ⟨_, rfl⟩
                  rw [← hg7] at HZ6 HN6 ⊢
                  clear hg7
                  have hbd := pw_below_drewN (Below.refl w7.heap.size w7) 1
                  have HJd := Aside0.mk (show JR W p g v A0 c0 l0 s s w7.drew from HJ6.out.below hbd)
                  have HXd := Aside0.mk (show w7.drew.heap[g5]? = some _ from blk_below HX6.out hbd)
                  have HZd := Aside0.mk (show w7.drew.heap[g7]? = some (rinO A0 c0 l0 s2) from blk_below HZ6.out hbd)
                  clear hbd HJ6 HX6 HZ6
                  have HJs := Aside0.mk (HJd.out.put HT.out)
                  have HXs := Aside0.mk (set3_far (g := g) (A := A0) (c := c0) (b := l0) s2 HXd.out HN5.out.2)
                  have HZs := Aside0.mk (set3_far (g := g) (A := A0) (c := c0) (b := l0) s2 HZd.out HN6.out.2)
                  have hxd := cc4 HXd.out
                  have hzd := cc3 HZd.out
                  have hgd := cc3 HJd.out.box
                  have hxs := cc4 HXs.out
                  have hzs := cc3 HZs.out
                  go_wp2_with fail
                  go_region_with (first | (go_at_call 21; first | (refine (HN.out _ _ HJd.out).mono ?_; rintro e w8 ⟨rfl, hj8, hk8⟩; have HJ8 := Aside0.mk hj8; have hz8 := cc3 (hk8 _ _ HZd.out HN6.out.1); have hg8 := cc3 hj8.box; clear hj8 hk8) | (refine (HN.out _ _ HJs.out).mono ?_; rintro e w8 ⟨rfl, hj8, hk8⟩; have HJ8 := Aside0.mk hj8; clear hj8 hk8)))
                  all_goals go_wp2_with fail
                  all_goals go_meet
                  all_goals first | exact ⟨s2, rfl, ⟨HJ8.out.put HT.out⟩⟩ | exact ⟨s2, rfl, HJ8⟩
                · by_cases hk1 : k = 1
                  · subst hk1
                    obtain ⟨s2, hs2⟩ : ∃ s2, s2 = tkS l0 s n := ⟨_, rfl⟩
                    obtain ⟨L, hL⟩ : ∃ L, L = tkL l0 s n := ⟨_, rfl⟩
                    have HN := Aside0.mk (fun wx t (h : JR W p g v A0 c0 l0 s t wx) => ((take_calls h.inn n).mono (fun e w' hx => (show ∃ A c, e = .returned (.slice A L.length c) ∧ RB w' wx.heap.size (.slice A L.length c) L ∧ JR W p g v A0 c0 l0 s2 t w' ∧ ∀ k o, wx.heap[k]? = some o → k ≠ p → w'.heap[k]? = some o from by rw [hs2, hL]; obtain ⟨A, c, he, hR, hI⟩ := hx; exact ⟨A, c, he, hR, h.step hI, fun k o hk hn => h.kept hI hk hn⟩))))
                    have HR := Aside0.mk ((rtake_calls w5 A0 c0 l0 s n HJ5.out.ta (by have := HL.out; omega) HC.out.1 (Kd.C_below HC.out.2 HJ5.out.bel)).mono (fun e w' hx => (show ∃ A' c', e = .returned (.tuple #[rin A0 c0 l0 s2, .slice A' L.length c']) ∧ Kd.C (Kd.int .u8) w' A' L.length L ∧ Below w5.heap.size w5 w' ∧ ∀ ad, A' = some ad → w5.heap.size ≤ ad.block from by rw [hs2, hL]; obtain ⟨A, c, he, hC, _, hB, hf⟩ := hx; exact ⟨A, c, he, hC, hB, hf⟩)))
                    have HT := Aside0.mk (show s2.a ≤ l0.length from by rw [hs2]; exact tkS_le HJ5.out.ta n)
                    clear hs2 hL
                    have hxg := cc3 HJ5.out.box
                    go_wp2_with fail
                    refine HR.out.mono ?_
                    rintro e w6 ⟨A6, c6, rfl, hC6, hb6, hf6⟩
                    have HJ6 := Aside0.mk ((HJ5.out.below hb6).below ((Below.refl w6.heap.size w6).alloc (Nat.le_refl _) (rinO A0 c0 l0 s2)))
                    have HX6 := Aside0.mk (blk_alloc (blk_below HX5.out hb6) (rinO A0 c0 l0 s2))
                    have HZ6 := Aside0.mk (blk_new w6 (rinO A0 c0 l0 s2))
                    have HC6 := Aside0.mk (Kd.C_below hC6 ((Below.refl w6.heap.size w6).alloc (Nat.le_refl _) (rinO A0 c0 l0 s2)))
                    have HF6 := Aside0.mk (show (∀ ad, A6 = some ad → 0 < L.length → ad.block ≠ p) ∧ (∀ ad, A6 = some ad → 0 < L.length → ad.block ≠ g) from ⟨fun ad h _ => by have := hf6 ad h; have := HJ5.out.inn.lt; omega, fun ad h _ => by have := hf6 ad h; have := blk_lt HJ5.out.box; omega⟩)
                    have HN6 := Aside0.mk (show w6.heap.size ≠ p ∧ w6.heap.size ≠ g from ⟨by have := (HJ5.out.below hb6).inn.lt; omega, by have := blk_lt (HJ5.out.below hb6).box; omega⟩)
                    clear hb6 hx hxg HR hC6 hf6
                    go_upto_region 24 with fail
                    generalize w6.alloc (Obj.cells #[Value.slice A0 l0.length c0, Value.int IntKind.i64 (s2.a : Nat), Value.bool s2.bad] 40) = w7 at HJ6 HX6 HZ6 HC6 ⊢
                    obtain ⟨g7, hg7⟩ : ∃ g, g = w6.heap.size := ⟨_, rfl⟩
                    rw [← hg7] at HZ6 HN6 ⊢
                    clear hg7
                    have hbd := pw_below_drewN (Below.refl w7.heap.size w7) 1
                    have HJd := Aside0.mk (show JR W p g v A0 c0 l0 s s w7.drew from HJ6.out.below hbd)
                    have HXd := Aside0.mk (show w7.drew.heap[g5]? = some _ from blk_below HX6.out hbd)
                    have HZd := Aside0.mk (show w7.drew.heap[g7]? = some (rinO A0 c0 l0 s2) from blk_below HZ6.out hbd)
                    have HCd := Aside0.mk (show Kd.C (Kd.int .u8) w7.drew A6 L.length L from Kd.C_below HC6.out hbd)
                    clear hbd HJ6 HX6 HZ6 HC6
                    have HJs := Aside0.mk (HJd.out.put HT.out)
                    have HXs := Aside0.mk (set3_far (g := g) (A := A0) (c := c0) (b := l0) s2 HXd.out HN5.out.2)
                    have HZs := Aside0.mk (set3_far (g := g) (A := A0) (c := c0) (b := l0) s2 HZd.out HN6.out.2)
                    have HCs := Aside0.mk (c_far3 (cs := #[]) (g := g) (x := .slice A0 l0.length c0) (y := .int .i64 (s2.a : Nat)) (z := .bool s2.bad) HCd.out HF6.out.2)
                    have hxd := cc4 HXd.out
                    have hzd := cc3 HZd.out
                    have hgd := cc3 HJd.out.box
                    have hxs := cc4 HXs.out
                    have hzs := cc3 HZs.out
                    have hsd := str_at (c := c6) rfl HCd.out
                    have hss := str_at (c := c6) rfl HCs.out
                    go_wp2_with fail
                    go_region_with (first | (go_at_call 23; first | (refine (HN.out _ _ HJd.out).mono ?_; rintro e w8 ⟨A8, c8, rfl, hR8, hj8, hk8⟩; have HJ8 := Aside0.mk hj8; have hz8 := cc3 (hk8 _ _ HZd.out HN6.out.1); have hg8 := cc3 hj8.box; have hC8 := c_kept HCd.out hk8 HF6.out.1; have hs8 := str_at (c := c6) rfl hC8; have hs9 := str_at (c := c6) rfl (c_far3 (cs := #[]) (g := g) (x := .slice A0 l0.length c0) (y := .int .i64 (s2.a : Nat)) (z := .bool s2.bad) hC8 HF6.out.2); have hR8' := (Kd.R_reads' hR8).2.2; have hs10 := str_at (c := c8) rfl hR8'; have hs11 := str_at (c := c8) rfl (Kd.R_reads' (rb_move (w2 := set3 w8 g A0 c0 l0 s2) hR8 (fun q hq => set3_keep w8 g A0 c0 l0 s2 q (fun e => by have := (rb_lt hR8 q hq).2; have := blk_lt HJd.out.box; omega)))).2.2; clear hj8 hk8 hR8 hR8' hC8) | (refine (HN.out _ _ HJs.out).mono ?_; rintro e w8 ⟨A8, c8, rfl, hR8, hj8, hk8⟩; have HJ8 := Aside0.mk hj8; have hC8 := c_kept HCs.out hk8 HF6.out.1; have hs8 := str_at (c := c6) rfl hC8; have hs10 := str_at (c := c8) rfl (Kd.R_reads' hR8).2.2; clear hj8 hk8 hR8 hC8)))
                    all_goals go_wp2_with fail
                    all_goals go_meet
                    all_goals first | exact ⟨s2, rfl, ⟨HJ8.out.put HT.out⟩⟩ | exact ⟨s2, rfl, HJ8⟩
                  · have hk1' : ¬ k = 1 := hk1
                    obtain ⟨s2, hs2⟩ : ∃ s2, s2 = pdS l0 4 s := ⟨_, rfl⟩
                    have HN := Aside0.mk (show Calls Try.prog 24 #[.pointer (some ⟨p, 0, none⟩)] w5 _ from ((ipad_calls HJ5.out.inn).mono (fun e w' hx => (show (∃ u, e = .returned u) ∧ JR W p g v A0 c0 l0 s2 s w' from by rw [hs2]; exact ⟨hx.1, HJ5.out.step hx.2⟩))))
                    have HT := Aside0.mk (show s2.a ≤ l0.length from by rw [hs2]; exact pdS_le l0 4 s HJ5.out.ta)
                    have HR := Aside0.mk (fun wx (h : JR W p g v A0 c0 l0 s2 s wx) => ((rpad_calls wx A0 c0 l0 s h.ta (by have := HL.out; omega) HC.out.1 (Kd.C_below HC.out.2 h.bel) HBY.out).mono (fun e w' hx => (show e = .returned (rin A0 c0 l0 s2) ∧ Below wx.heap.size wx w' from by rw [hs2]; exact hx))))
                    clear hs2
                    go_wp2_with fail
                    refine HN.out.mono ?_
                    rintro e w6 ⟨⟨u6, rfl⟩, hj6⟩
                    have HJ6 := Aside0.mk hj6
                    have hg6 := cc3 hj6.box
                    clear hj6 hx
                    go_wp2_with fail
                    refine (HR.out _ HJ6.out).mono ?_
                    rintro e w7 ⟨rfl, hb7⟩
                    have HJ7 := Aside0.mk (HJ6.out.below hb7)
                    have hg7 := cc3 (HJ6.out.below hb7).box
                    clear hb7 hg6
                    go_wp2_with fail
                    go_meet
                    exact ⟨s2, rfl, ⟨HJ7.out.put HT.out⟩⟩
              case rest =>
                obtain ⟨s9, rfl, HJ9⟩ := hcut
                have hbd := pw_below_drewN (Below.refl wc.heap.size wc) 1
                have HJd := Aside0.mk (show JR W p g v A0 c0 l0 s9 s9 wc.drew from HJ9.out.below hbd)
                have hgd := cc3 HJd.out.box
                clear hbd hx
                have HLf := Aside0.mk (fun wx (h : JR W p g v A0 c0 l0 s9 s9 wx) => ((left_calls h.inn).mono (fun e w' hx => (show e = .returned (.int .i64 (left l0 s9 : Nat)) ∧ JR W p g v A0 c0 l0 s9 s9 w' from by obtain ⟨he, m, rfl⟩ := hx; exact ⟨he, h.below (pw_below_drewN (Below.refl _ _) m)⟩))))
                have HRl := Aside0.mk (fun wx (h : JR W p g v A0 c0 l0 s9 s9 wx) => ((rleft_calls wx A0 c0 l0 s9 h.ta (by have := HL.out; omega)).mono (fun e w' hx => (show e = .returned (.int .i64 (left l0 s9 : Nat)) ∧ JR W p g v A0 c0 l0 s9 s9 w' from ⟨hx.1, h.below hx.2⟩))))
                obtain ⟨ev, bv, hev⟩ : ∃ ev bv, endV l0 s9 = ev ∧ decide (s9.bad = false ∧ left l0 s9 = 0) = bv ∧ ((ev = .nilIface ∧ bv = true) ∨ (ev = .iface 55 (.int .i64 2) ∧ bv = false)) := ⟨_, _, rfl, rfl, end_two l0 s9⟩
                have HEn := Aside0.mk (fun wx (h : JR W p g v A0 c0 l0 s9 s9 wx) => ((end_calls h.inn).mono (fun e w' hx => (show e = .returned ev ∧ JR W p g v A0 c0 l0 s9 s9 w' from by obtain ⟨he, m, rfl⟩ := hx; exact ⟨by rw [he, hev.1], h.below (pw_below_drewN (Below.refl _ _) m)⟩))))
                have HRe := Aside0.mk (fun wx (h : JR W p g v A0 c0 l0 s9 s9 wx) => ((rend_calls wx A0 c0 l0 s9 h.ta (by have := HL.out; omega)).mono (fun e w' hx => (show e = .returned (.bool bv) ∧ JR W p g v A0 c0 l0 s9 s9 w' from ⟨by rw [hx.1, hev.2.1], h.below hx.2⟩))))
                obtain ⟨L, hL⟩ : ∃ L, L = left l0 s9 := ⟨_, rfl⟩
                rw [← hL] at HLf HRl
                obtain ⟨_, _, hev⟩ := hev
                clear hL
                go_wp2_with fail
                rcases hev with ⟨rfl, rfl⟩ | ⟨rfl, rfl⟩
                all_goals go_region_with (first | (go_at_call 26; refine (HLf.out _ HJd.out).mono ?_; rintro e w6 ⟨rfl, hj6⟩; have HJ6 := Aside0.mk hj6; have hg6 := cc3 hj6.box; clear hj6) | (go_at_call 27; refine (HRl.out _ HJ6.out).mono ?_; rintro e w7 ⟨rfl, hj7⟩; have HJ7 := Aside0.mk hj7; have hg7 := cc3 hj7.box; clear hj7) | (go_at_call 28; refine (HEn.out _ HJ7.out).mono ?_; rintro e w8 ⟨rfl, hj8⟩; have HJ8 := Aside0.mk hj8; have hg8 := cc3 hj8.box; clear hj8) | (go_at_call 29; refine (HRe.out _ HJ8.out).mono ?_; rintro e w9 ⟨rfl, hj9⟩; have HJ9 := Aside0.mk hj9; clear hj9))
                all_goals go_wp2_with fail
                all_goals exact ⟨⟨j + 1, s9, by omega, by go_num, HJ9⟩, by simp [intOf]; omega⟩
            · obtain rfl : j = l1.length := by omega
              have hev := end_two l0 s
              have HEn := Aside0.mk (show Calls Try.prog 28 #[.pointer (some ⟨p, 0, none⟩)] wr _ from ((end_calls HJ.out.inn).mono (fun e w' hx => (show e = .returned (endV l0 s) ∧ Below W.heap.size W w' from by obtain ⟨he, m, rfl⟩ := hx; exact ⟨he, pw_below_drewN HJ.out.bel m⟩))))
              obtain ⟨ev, hE⟩ : ∃ ev, ev = endV l0 s := ⟨_, rfl⟩
              rw [← hE] at hev HEn
              replace hev : ev = .nilIface ∨ ev = .iface 55 (.int .i64 2) := hev.imp And.left And.left
              clear hE HJ
              go_wp2_with fail
              refine HEn.out.mono ?_
              rintro e w6 ⟨rfl, hb6⟩
              have HB6 := Aside0.mk hb6
              clear hb6 HEn
              rcases hev with rfl | rfl
              all_goals go_wp2_with (first | (go_at_call 24; refine (ipad_nil _).mono ?_; rintro e w7 ⟨⟨u7, rfl⟩, rfl⟩) | (go_at_call 30; refine (is_form _).mono ?_; rintro e w7 ⟨rfl, rfl⟩) | (go_at_call 21; refine (inum_nil _).mono ?_; rintro e w7 ⟨rfl, rfl⟩) | (go_at_call 23; refine (take_nil _ _).mono ?_; rintro e w8 ⟨A8, c8, rfl, hb8⟩; have HB8 := Aside0.mk (below_step HB6.out hb8); clear hb8) | (go_at_call 26; refine (left_nil _).mono ?_; rintro e w7 ⟨rfl, rfl⟩) | (go_at_call 28; refine (end_nil _).mono ?_; rintro e w7 ⟨rfl, rfl⟩))
              all_goals go_ret
              all_goals exact ⟨rfl, HB8.out⟩
end Go.Proofs.Ytjhciagjofhhiaa.Tl
