import Derived.Test.YtjhciagjofhhiaaTlL
import Derived.Deep.DeepCutAuto
import Derived.Deep.CutBlock
/- TlvPuts: the walk. -/
namespace Go.Proofs.Ytjhciagjofhhiaa.Tl
open Go.RowKit Go.Proofs.YtjhciagjofhhiaaW.PrintWords Go.Proofs.YtjhciagjofhhiaaW.PrintLast Go.Proofs.YtjhciagjofhhiaaW.PrintMore Go.Proofs.Ytjhciagjofhhiaa.Sh Go.Proofs.Ytjhciagjofhhiaa.POne
set_option linter.unusedVariables false
set_option linter.unusedSimpArgs false
theorem u64_wf {a : Int} (h : (Lit.int .u64 a).wf = true) : 0 ≤ a := by
  simp [Lit.wf, IntKind.min, IntKind.max, IntKind.signed, IntKind.bits] at h
  omega
theorem str_at {W : World} {A : Option Addr} {n c : Nat} {l : List Int} (hn : n = l.length) (h : Kd.C (Kd.int .u8) W A n l) : (convert 26 9 (.slice A n c)).run Try.prog W = .ok (.string (strOfNums l)) W := by
  subst hn
  exact Kd.C_string (P := Try.prog) (A := A) (c := c) Try.underlying26 Try.underlying5 Try.underlying9 h
/-- Between two things. -/
def PJ (W : World) (p : Nat) (l0 : List Thing) (j : Nat) (A : Option Addr) (c : Nat) (L : List Int) (wr : World) : Prop :=
  (∃ v, PT W p L v (.slice A L.length c) L wr) ∧ L.length ≤ 20 * j + tsum l0 j
theorem nbz_le (n : Nat) (s : Int) : (nbz n s).length ≤ 8 := by
  unfold nbz
  split
  · rename_i h
    rw [nb_len]
    unfold isSz at h
    omega
  · simp
theorem q8_keep {w w' : World} {B : Nat} {v : Value} {xs : List Int} (h : (Kd.int .u8).Q 5 w B (fun _ => True) v xs) (hv : ∀ k, v.ownBlock = some k → w'.heap[k]? = w.heap[k]?) : (Kd.int .u8).Q 5 w' B (fun _ => True) v xs := by
  obtain ⟨a, inner, hq, hr⟩ := h
  exact ⟨a, inner, q_move hq hv, hr.1, fun m x hm => hr.2 m x hm⟩
/-- A byte of a text of the law's own is turned. -/
theorem own_put {W wr : World} {p Bl b o c n : Nat} {L1 L2 L9 : List Int} {v vw : Value} (h : PT W p L1 v vw L2 wr) (hl : (Kd.int .u8).Q 5 wr Bl (fun _ => True) (.slice (some ⟨b, o, none⟩) n c) L9) (hv : W.heap.size ≤ b ∧ v.ownBlock ≠ some b ∧ vw.ownBlock ≠ some b) (q : Nat) (hq : q < L9.length) (u : Int) :
    PT W p L1 v vw L2 (wr.setCell ⟨b, o + q, none⟩ (.int .u8 u)) ∧ (Kd.int .u8).Q 5 (wr.setCell ⟨b, o + q, none⟩ (.int .u8 u)) Bl (fun _ => True) (.slice (some ⟨b, o, none⟩) n c) (L9.set q u) := by
  have n1 : b ≠ p := fun e => Kd.Q_ne hl h.out.2.1 (by decide) (by rw [← e]; rfl)
  have hnl := (Kd.Q_reads' hl).1
  have hw := (Kd.Q_putg hl (q : Int) (by omega) (by omega) u).1
  rw [Int.toNat_natCast] at hw
  exact ⟨h.far b _ _ hv.1 n1 hv.2.1 hv.2.2, hw⟩
set_option maxRecDepth 100000 in
set_option maxHeartbeats 8000000 in
theorem tlvPuts_walk (W : World) (A0 : Option Addr) (c0 : Nat) (l0 : (List (Int × Int × Int × (List Int)))) (hc0 : l0.length ≤ c0) (hr0 : Kd.C (Kd.pair (Kd.int .i64) (Kd.pair (Kd.int .i64) (Kd.pair (Kd.int .u64) (Kd.slice 5 (Kd.int .u8))))) W A0 l0.length l0) (w0 : (∀ zl0 ∈ l0, ((Lit.int .i64 zl0.1).wf = true ∧ (Lit.int .i64 zl0.2.1).wf = true ∧ (Lit.int .u64 zl0.2.2.1).wf = true ∧ (∀ z222 ∈ zl0.2.2.2, (Lit.int .u8 z222).wf = true)))) :
    Calls Try.prog 3 #[.slice A0 l0.length c0] W fun e w' => e = .returned (.bool true) ∧ Below W.heap.size W w' := by
  have HC := Aside0.mk (show Kd.C THG W A0 l0.length l0 from hr0)
  have HW := Aside0.mk (fun z (hz : z ∈ l0) => u64_wf (w0 z hz).2.2.1)
  clear hr0 w0 hc0
  go_enter Try.func3, Try.ntmps3
  go_wp2_with fail
  refine (alive_calls W).mono ?_
  rintro e w1 ⟨rfl, hB1⟩
  have HB1 := Aside0.mk hB1
  clear hB1
  go_wp2_with fail
  refine (long_calls w1 A0 c0 l0 (Kd.C_below HC.out HB1.out)).mono ?_
  rintro e w2 ⟨hb2, h2⟩
  have HB2 := Aside0.mk (below_step HB1.out hb2)
  clear hb2
  rcases h2 with rfl | ⟨rfl, hl41, hts⟩
  · go_wp2_with fail
    go_ret
    exact ⟨rfl, HB2.out⟩
  · have HTS := Aside0.mk hts
    have HX3 := Aside0.mk (show OutAt (w2.alloc (.cells #[.slice none 0 0] 28)) W.heap.size w2.heap.size (.slice none 0 0) [] from ⟨HB2.out.size, blk_new _ _, Kd.R_nil _ _ _ _ _⟩)
    have HB3 := Aside0.mk (HB2.out.alloc HB2.out.size (.cells #[.slice none 0 0] 28))
    clear hts
    obtain ⟨p, hp⟩ : ∃ p, p = w2.heap.size := ⟨_, rfl⟩
    go_upto_region 6 with fail
    rw [← hp] at HX3 ⊢
    clear hp
    generalize w2.alloc (Obj.cells #[Value.slice none 0 0] 28) = w3 at HX3 HB3 ⊢
    go_wp2_with (first | ((with_reducible refine gate_dst (N := 18) rfl ?_); refine Kd.R_lit (Kd.int .u8) (w0 := W) W.heap.size 5 ?hg (N := 18) ?hd (xs := ([] : List Int)) (inner := []) (ok := fun _ => True) (okp := fun _ => True) ?hr ?hp (fun _ hk => hk) trivial HB3.out HB3.out.size (by simp) ?_; (case hd => rfl); (case hg => rfl); (case hr => first | (go_simp; done) | (go_simp; rfl)); (case hp => exact (Reps.none _ _)); intro v4 w4 ho hb hg hn; have HO4 := Aside0.mk ho; have HB4 := Aside0.mk hb; have HG4 := Aside0.mk hg; clear ho hb hg hn; obtain ⟨A4, c4, rfl⟩ := Kd.R_slice HO4.out))
    have HJ0 := Aside0.mk (show PJ W p l0 0 A4 c4 [] w4 from ⟨⟨.slice none 0 0, ⟨⟨HX3.out.1, (HG4.out.block p HX3.out.lt (by simp)).trans HX3.out.2.1, Kd.R_nil _ _ _ _ _⟩, HO4.out, fun k hk he => by simp [Value.ownBlock] at he, HB4.out⟩⟩, Nat.zero_le _⟩)
    clear HX3 HB3 HO4 HB4 HG4
    go_loopw [4, 21] (fun vw i wr => ∃ (j : Nat) (A : Option Addr) (c : Nat) (L : List Int), j ≤ l0.length ∧ i = .int .i64 j ∧ vw = .slice A L.length c ∧ Aside0 (PJ W p l0 j A c L wr)) (fun _ i _ => l0.length - (intOf i).toNat)
    case atStart => exact ⟨0, A4, c4, [], Nat.zero_le _, rfl, rfl, HJ0⟩
    case round =>
      obtain ⟨j, A, c, L, hj, rfl, rfl, HJ⟩ := hrel
      obtain ⟨⟨v, hpt⟩, hLl⟩ := HJ.out
      by_cases hlt : j < l0.length
      · obtain ⟨ad, A1, c1, rfl, h0, h1, h2, h3, hc1, hC1⟩ := thing_cells HC.out j hlt
        have hts := HTS.out (j + 1) hlt
        have htj : tsum l0 (j + 1) = tsum l0 j + (l0.getD j T0).2.2.2.length := rfl
        have hmem : l0.getD j T0 ∈ l0 := by
          rw [List.getD_eq_getElem?_getD, List.getElem?_eq_getElem hlt]
          exact List.getElem_mem hlt
        have hn0 := HW.out _ hmem
        obtain ⟨z, hz⟩ : ∃ z, z = l0.getD j T0 := ⟨_, rfl⟩
        rw [← hz] at h0 h1 h2 h3 hc1 hC1 htj hn0
        clear hz hmem
        obtain ⟨k, s, n, B⟩ := z
        simp only at h0 h1 h2 h3 hc1 hC1 htj hn0
        obtain ⟨n, rfl⟩ := Int.eq_ofNat_of_zero_le hn0
        have HC1 := Aside0.mk (And.intro hc1 hC1)
        replace h0 := pw_cell_below hpt.bel h0
        replace h1 := pw_cell_below hpt.bel h1
        replace h2 := pw_cell_below hpt.bel h2
        replace h3 := pw_cell_below hpt.bel h3
        have HN := Aside0.mk (show tsum l0 (j + 1) = tsum l0 j + B.length ∧ tsum l0 (j + 1) ≤ 3000 from ⟨htj, hts⟩)
        have HLl := Aside0.mk hLl
        have HP5 := Aside0.mk (hpt.below ((Below.refl wr.heap.size wr).alloc (Nat.le_refl _) (.cells #[.int .i64 k, .int .i64 s, .int .u64 (n : Nat), .slice A1 B.length c1] 31)))
        have HX5 := Aside0.mk (blk_new wr (.cells #[.int .i64 k, .int .i64 s, .int .u64 (n : Nat), .slice A1 B.length c1] 31))
        clear hpt hLl hts htj hc1 hC1 hn0 HJ
        have hji : (j : Int) < (l0.length : Int) := by omega
        go_upto_block 2 with fail
        generalize wr.alloc (Obj.cells #[Value.int IntKind.i64 k, Value.int IntKind.i64 s, Value.int IntKind.u64 (n : Nat), Value.slice A1 B.length c1] 31) = w5 at HP5 HX5 ⊢
        obtain ⟨g6, hg6⟩ : ∃ g, g = wr.heap.size := ⟨_, rfl⟩
        rw [← hg6] at HX5 ⊢
        clear hg6 h0 h1 h2 h3
        have hx := cc4 HX5.out
        go_cut [4] (fun s4 wx => ∃ (A : Option Addr) (c : Nat) (L : List Int), s4 = .slice A L.length c ∧ Aside0 (PJ W p l0 (j + 1) A c L wx))
        case first =>
          by_cases hk0 : k = 0
          · subst hk0
            go_wp2_with fail
            refine (pt_num HP5.out n s (by have := HLl.out; have := HN.out; omega)).mono ?_
            rintro e w6 ⟨⟨u6, rfl⟩, ⟨v6, hp6⟩, hk6⟩
            have HP6 := Aside0.mk hp6
            have HX6 := Aside0.mk (hk6 _ _ HX5.out)
            clear hp6 hk6 hx
            have hx := cc4 HX6.out
            go_wp2_with fail
            refine (weftlineref06_Num.calls 20 (n : Int) s (nbz n s) w6 (num_f n s)).mono ?_
            rintro e w7 ⟨v7, rfl, hR7, hb7⟩
            obtain ⟨A7, c7, rfl⟩ := Kd.R_slice hR7
            have HP7 := Aside0.mk (HP6.out.below hb7)
            have HR7 := Aside0.mk (Kd.R_reads' hR7)
            have HAL := Aside0.mk (show (L.length + (nbz n s).length) * 1 ≤ 140737488355328 from by have := nbz_le n s; have := HLl.out; have := HN.out; omega)
            clear hR7 hb7 hx
            go_wp2_with (first | (at_builtin; refine Kd.R_append_rows (Kd.int .u8) (w0 := W) W.heap.size rfl (.tmp 39) (.tmp 44) 26 5 (.int .u8 0) 1 rfl Try.underlying26 info5 rfl (by decide) (by omega) (.slice A L.length c) L (nbz n s) A7 (nbz n s).length c7 (fun _ => True) (fun _ => False) rfl rfl ?aO ?aR (fun _ _ h => h) (fun _ h => h.elim) (fun _ _ => trivial) ?aB ?aS ?aL ?_; (case aO => exact HP7.out.want); (case aR => exact HR7.out.2.2); (case aB => exact HP7.out.bel); (case aS => exact HP7.out.size); (case aL => exact HAL.out); intro v8 w8 ho hb hg hn; have HP8 := Aside0.mk (HP7.out.wants ho hb hg hn); clear ho hb hg hn; obtain ⟨A8, c8, rfl⟩ := Kd.R_slice HP8.out.want))
            go_meet
            refine ⟨A8, c8, L ++ nbz n s, by rw [List.length_append], ⟨⟨v6, HP8.out⟩, ?_⟩⟩
            rw [List.length_append]
            have := nbz_le n s; have := HLl.out; have := HN.out; omega
          · by_cases hk1 : k = 1
            · subst hk1
              have HLA := Aside0.mk (show (([] : List Int).length + B.length) * 1 ≤ 140737488355328 from by have := HN.out; simp; omega)
              have HAL := Aside0.mk (show (L.length + B.length) * 1 ≤ 140737488355328 from by have := HLl.out; have := HN.out; omega)
              have HB0 := Aside0.mk (Below.refl w5.heap.size w5)
              go_wp2_with (first | ((with_reducible refine gate_dst (N := 48) rfl ?_); refine Kd.R_lit (Kd.int .u8) (w0 := w5) w5.heap.size 5 ?hg (N := 48) ?hd (xs := ([] : List Int)) (inner := []) (ok := fun _ => True) (okp := fun _ => True) ?hr ?hp (fun _ hk => hk) trivial HB0.out (Nat.le_refl _) (by simp) ?_; (case hd => rfl); (case hg => rfl); (case hr => first | (go_simp; done) | (go_simp; rfl)); (case hp => exact (Reps.none _ _)); intro v6 w6 ho hb hg hn; have HO6 := Aside0.mk ho; have HB6 := Aside0.mk hb; have HX6 := Aside0.mk (blk_below HX5.out hb); clear ho hb hg hn hx; have hx := cc4 HX6.out; obtain ⟨A6, c6, rfl⟩ := Kd.R_slice HO6.out) | (at_builtin; refine Kd.R_append_rows (Kd.int .u8) (w0 := w5) w5.heap.size rfl (.tmp 48) (.tmp 50) 26 5 (.int .u8 0) 1 rfl Try.underlying26 info5 rfl (by decide) (by omega) (.slice A6 ([] : List Int).length c6) [] B A1 B.length c1 (fun _ => True) (fun _ => False) rfl rfl ?aO ?aR (fun _ _ h => h) (fun _ h => h.elim) (fun _ _ => trivial) ?aB ?aS ?aL ?_; (case aO => exact HO6.out); (case aR => exact Kd.C_below HC1.out.2 (HP5.out.below HB6.out).bel); (case aB => exact HB6.out); (case aS => exact HB6.out.size); (case aL => exact HLA.out); intro v7 w7 ho hb hg hn; rw [List.nil_append] at ho; have HO7 := Aside0.mk ho; have HB7 := Aside0.mk hb; have HX7 := Aside0.mk (blk_below HX5.out hb); have HP7 := Aside0.mk (HP5.out.below hb); clear ho hb hg hn hx; have hx := cc4 HX7.out; obtain ⟨A7, c7, rfl⟩ := Kd.R_slice HO7.out))
              have HO7R := Aside0.mk (Kd.R_reads' HO7.out)
              refine (pt_put HP7.out A7 c7 B HO7R.out.2.1 HO7R.out.2.2 (by have := HLl.out; have := HN.out; omega)).mono ?_
              rintro e w8 ⟨⟨u8, rfl⟩, v8, hp8, hk8, hc8, hf8⟩
              have HP8 := Aside0.mk hp8
              have HX8 := Aside0.mk (hk8 _ _ HX7.out)
              have HO8 := Aside0.mk (show RB w8 w5.heap.size (.slice A7 B.length c7) B from rb_move HO7.out (fun k hk => by
                have h1 := rb_lt HO7.out k hk
                exact hc8.block k h1.1 (by have := HP5.out.out.lt; omega) (fun he => by have := (rb_lt HP5.out.out.2.2 k he).1; omega)))
              have HV8 := Aside0.mk (show ∀ k, (Value.slice A7 B.length c7).ownBlock = some k → v8.ownBlock ≠ some k ∧ (Value.slice A L.length c).ownBlock ≠ some k from fun k hk => by
                have h1 := rb_lt HO7.out k hk
                refine ⟨fun he => ?_, fun he => by have := (rb_lt HP5.out.want k he).1; omega⟩
                rcases hf8 with hf | ⟨b, hf, hb⟩
                · have := (rb_lt HP5.out.out.2.2 k (hf ▸ he)).1
                  omega
                · rw [hf] at he
                  injection he with he
                  omega)
              clear hp8 hk8 hc8 hf8 hx
              have hx := cc4 HX8.out
              go_wp2_with (first | (at_builtin; refine Kd.R_append_rows (Kd.int .u8) (w0 := W) W.heap.size rfl (.tmp 55) (.tmp 57) 26 5 (.int .u8 0) 1 rfl Try.underlying26 info5 rfl (by decide) (by omega) (.slice A L.length c) L B A1 B.length c1 (fun _ => True) (fun _ => False) rfl rfl ?aO ?aR (fun _ _ h => h) (fun _ h => h.elim) (fun _ _ => trivial) ?aB ?aS ?aL ?_; (case aO => exact HP8.out.want); (case aR => exact Kd.C_below HC1.out.2 HP8.out.bel); (case aB => exact HP8.out.bel); (case aS => exact HP8.out.size); (case aL => exact HAL.out); intro v9 w9 ho hb hg hn; have HP9 := Aside0.mk (HP8.out.wants ho hb hg hn); have HO9 := Aside0.mk (show RB w9 w5.heap.size (.slice A7 B.length c7) B from rb_move HO8.out (fun k hk => hg.block k (rb_lt HO8.out k hk).1 (fun e => (HV8.out k hk).2 e.symm))); have HV9 := Aside0.mk (show ∀ k, (Value.slice A7 B.length c7).ownBlock = some k → v9.ownBlock ≠ some k from fun k hk he => (hn.elim (fun h => (HV8.out k hk).2 (h ▸ he)) (fun ⟨b, h, hbb⟩ => absurd (rb_lt HO8.out k hk).1 (by rw [h] at he; injection he with he; omega)))); clear ho hb hg hn; obtain ⟨A9, c9, rfl⟩ := Kd.R_slice HP9.out.want))
              have HPL := Aside0.mk (show PT W p (L ++ B) v8 (.slice A9 (L.length + B.length) c9) (L ++ B) w9 from by have h := HP9.out; rw [List.length_append] at h; exact h)
              have HVV := Aside0.mk (show ∀ k, (Value.slice A7 B.length c7).ownBlock = some k → W.heap.size ≤ k ∧ v8.ownBlock ≠ some k ∧ (Value.slice A9 (L.length + B.length) c9).ownBlock ≠ some k from fun k hk => ⟨Nat.le_trans HP5.out.size (rb_lt HO7.out k hk).2, (HV8.out k hk).1, by have h := HV9.out k hk; rw [List.length_append] at h; exact h⟩)
              have hBl : B.length ≤ 3000 := by have := HN.out; omega
              clear hx
              go_loopw [61] (fun q wx => ∃ (j2 : Nat) (cur : List Int), j2 ≤ B.length ∧ q = .int .i64 j2 ∧ Aside0 (cur.length = B.length) ∧ Aside0 (PT W p (L ++ B) v8 (.slice A9 (L.length + B.length) c9) (L ++ B) wx) ∧ Aside0 ((Kd.int .u8).Q 5 wx w5.heap.size (fun _ => True) (.slice A7 B.length c7) cur)) (fun q _ => B.length - (intOf q).toNat)
              case atStart => exact ⟨0, B, Nat.zero_le _, rfl, ⟨rfl⟩, HPL, ⟨Kd.Q_of_R HO9.out⟩⟩
              case round =>
                obtain ⟨j2, cur, hj2, rfl, HLL, HPx, HQx⟩ := hrel
                by_cases hlt2 : j2 < B.length
                · obtain ⟨b, o, c2, hform, _, _, _⟩ := Kd.Q_form HQx.out (by have := HLL.out; omega)
                  simp only [Value.slice.injEq] at hform
                  obtain ⟨rfl, _, rfl⟩ := hform
                  obtain ⟨hcell, hfro⟩ := Kd.Q_cell (d := (0 : Int)) HQx.out j2 (by omega) (by have := HLL.out; omega)
                  (try simp only [Int.toNat_natCast] at hcell hfro)
                  obtain ⟨y0, hy0⟩ : ∃ y0, rdOf (0 : Int) cur (j2 : Int) = y0 := ⟨_, rfl⟩
                  rw [hy0] at hcell
                  clear hy0
                  have hi2 : (j2 : Int) < (B.length : Int) := by omega
                  go_wp2_with fail
                  exact ⟨⟨j2 + 1, _, by omega, by go_num, ⟨by rw [List.length_set]; exact HLL.out⟩, ⟨(own_put HPx.out HQx.out (HVV.out b rfl) j2 (by have := HLL.out; omega) _).1⟩, ⟨(own_put HPx.out HQx.out (HVV.out b rfl) j2 (by have := HLL.out; omega) _).2⟩⟩, by simp [intOf]; omega⟩
                · obtain rfl : j2 = B.length := by omega
                  go_wp2_with fail
                  go_meet
                  refine ⟨A9, c9, L ++ B, by rw [List.length_append], ⟨⟨v8, by rw [List.length_append]; exact HPx.out⟩, ?_⟩⟩
                  rw [List.length_append]
                  have := HLl.out; have := HN.out; omega
            · have hk0' : ¬ k = 0 := hk0
              go_wp2_with fail
              refine (pt_pad HP5.out (by have := HLl.out; have := HN.out; omega)).mono ?_
              rintro e w6 ⟨⟨u6, rfl⟩, ⟨v6, hp6⟩, hk6⟩
              have HP6 := Aside0.mk hp6
              have HW6 := Aside0.mk (Kd.R_reads' hp6.want)
              clear hp6 hk6 hx
              go_wp2_with fail
              refine (weftlineref06_Pad.calls 8 A c L (padL L) w6 HW6.out.2.2 HW6.out.2.1 (pad_f L (by have := HLl.out; have := HN.out; omega))).mono ?_
              rintro e w7 ⟨v7, rfl, hR7, hb7⟩
              obtain ⟨A7, c7, rfl⟩ := Kd.R_slice hR7
              have HP7 := Aside0.mk (HP6.out.renew hb7 hR7)
              clear hR7 hb7
              go_wp2_with fail
              go_meet
              refine ⟨A7, c7, padL L, rfl, ⟨⟨v6, HP7.out⟩, ?_⟩⟩
              rw [padL_len]
              have := HLl.out; have := HN.out
              unfold padn
              omega
        case rest =>
          obtain ⟨A9, c9, L9, rfl, HJ9⟩ := hcut
          obtain ⟨⟨v9, hp9⟩, hl9⟩ := HJ9.out
          have HPd := Aside0.mk (hp9.below (pw_below_drewN (Below.refl wc.heap.size wc) 1))
          have HLb := Aside0.mk (show L9.length ≤ 1048576 from by have := HN.out; omega)
          have hsd : (convert 26 9 (.slice A9 L9.length c9)).run Try.prog wc.drew = .ok (.string (strOfNums L9)) wc.drew := str_at rfl (Kd.R_reads' HPd.out.want).2.2
          clear hp9 hl9 hx
          go_wp2_with fail
          go_region_with (first | (go_at_call 18; refine (pt_bytes HPd.out HLb.out).mono ?_; rintro e w7 ⟨A7, c7, rfl, hR7, hp7, hb7⟩; have hs7 := str_at (c := c7) rfl (Kd.R_reads' hR7).2.2; have hs8 := str_at (c := c9) rfl (Kd.R_reads' hp7.want).2.2; have HP7 := Aside0.mk hp7; clear hR7 hp7 hb7))
          all_goals go_wp2_with fail
          all_goals exact ⟨⟨j + 1, A9, c9, L9, by omega, by go_num, rfl, ⟨⟨_, HP7.out⟩, HJ9.out.2⟩⟩, by simp [intOf]; omega⟩
      · obtain rfl : j = l0.length := by omega
        have hbl : L.length ≤ 3820 := by have := HTS.out l0.length (Nat.le_refl _); omega
        have HP5 := Aside0.mk hpt
        clear hpt hLl HJ
        go_wp2_with fail
        refine (pt_bytes HP5.out (by omega)).mono ?_
        rintro e w6 ⟨A6, c6, rfl, hR6, hp6, hb6⟩
        have HP6 := Aside0.mk hp6
        have HQ6 := Aside0.mk (Kd.Q_of_R hR6)
        have HVV := Aside0.mk (show ∀ k, (Value.slice A6 L.length c6).ownBlock = some k → W.heap.size ≤ k ∧ v.ownBlock ≠ some k ∧ (Value.slice A L.length c).ownBlock ≠ some k from fun k hk => ⟨Nat.le_trans HP5.out.size (rb_lt hR6 k hk).2, fun he => by have := (rb_lt hR6 k hk).2; have := (rb_lt HP5.out.out.2.2 k he).1; omega, fun he => by have := (rb_lt hR6 k hk).2; have := (rb_lt HP5.out.want k he).1; omega⟩)
        clear hR6 hp6 hb6
        go_wp2_with fail
        go_loopw [82] (fun q wx => ∃ (j2 : Nat) (cur : List Int), j2 ≤ L.length ∧ q = .int .i64 j2 ∧ Aside0 (cur.length = L.length) ∧ Aside0 (PT W p L v (.slice A L.length c) L wx) ∧ Aside0 ((Kd.int .u8).Q 5 wx wr.heap.size (fun _ => True) (.slice A6 L.length c6) cur)) (fun q _ => L.length - (intOf q).toNat)
        case atStart => exact ⟨0, L, Nat.zero_le _, rfl, ⟨rfl⟩, HP6, HQ6⟩
        case round =>
          rename World => wx
          obtain ⟨j2, cur, hj2, rfl, HLL, HPx, HQx⟩ := hrel
          by_cases hlt2 : j2 < L.length
          · obtain ⟨b, o, c2, hform, _, _, _⟩ := Kd.Q_form HQx.out (by have := HLL.out; omega)
            simp only [Value.slice.injEq] at hform
            obtain ⟨rfl, _, rfl⟩ := hform
            obtain ⟨hcell, hfro⟩ := Kd.Q_cell (d := (0 : Int)) HQx.out j2 (by omega) (by have := HLL.out; omega)
            (try simp only [Int.toNat_natCast] at hcell hfro)
            obtain ⟨y0, hy0⟩ : ∃ y0, rdOf (0 : Int) cur (j2 : Int) = y0 := ⟨_, rfl⟩
            rw [hy0] at hcell
            clear hy0
            have hi2 : (j2 : Int) < (L.length : Int) := by omega
            go_wp2_with fail
            exact ⟨⟨j2 + 1, _, by omega, by go_num, ⟨by rw [List.length_set]; exact HLL.out⟩, ⟨(own_put HPx.out HQx.out (HVV.out b rfl) j2 (by have := HLL.out; omega) _).1⟩, ⟨(own_put HPx.out HQx.out (HVV.out b rfl) j2 (by have := HLL.out; omega) _).2⟩⟩, by simp [intOf]; omega⟩
          · obtain rfl : j2 = L.length := by omega
            go_wp2_with (first | (go_at_call 13; refine (num_nil _ 1 1).mono ?_; rintro e w7 ⟨⟨u7, rfl⟩, rfl⟩) | (go_at_call 15; refine (put_nil _ _).mono ?_; rintro e w7 ⟨⟨u8, rfl⟩, rfl⟩) | (go_at_call 16; refine (pad_nil _).mono ?_; rintro e w7 ⟨⟨u9, rfl⟩, rfl⟩))
            have HPe := Aside0.mk ((HPx.out.below ((Below.refl wx.heap.size wx).alloc (Nat.le_refl _) (.cells #[.int .u8 1] 5))).below (pw_below_drewN (Below.refl _ _) 1))
            have hsd : (convert 26 9 (.slice A L.length c)).run Try.prog (wx.alloc (.cells #[.int .u8 1] 5)).drew = .ok (.string (strOfNums L)) (wx.alloc (.cells #[.int .u8 1] 5)).drew := str_at rfl (Kd.R_reads' HPe.out.want).2.2
            have HLb := Aside0.mk (show L.length ≤ 1048576 by omega)
            go_region_with (first | (go_at_call_of 18 (Value.pointer none); refine (bytes_nil _).mono ?_; rintro e w8 ⟨rfl, rfl⟩) | (go_at_call 18; refine (pt_bytes HPe.out HLb.out).mono ?_; rintro e w7 ⟨A7, c7, rfl, hR7, hp7, hb7⟩; have hs7 := str_at (c := c7) rfl (Kd.R_reads' hR7).2.2; have hs8 := str_at (c := c) rfl (Kd.R_reads' hp7.want).2.2; have HP7 := Aside0.mk hp7; clear hR7 hp7 hb7))
            all_goals go_wp2_with fail
            all_goals go_ret
            all_goals exact ⟨rfl, HP7.out.bel⟩
end Go.Proofs.Ytjhciagjofhhiaa.Tl
