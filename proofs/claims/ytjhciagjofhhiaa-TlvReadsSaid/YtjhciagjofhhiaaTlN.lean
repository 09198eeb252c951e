import Derived.Test.YtjhciagjofhhiaaTlK
/- The reference's reader. -/
namespace Go.Proofs.Ytjhciagjofhhiaa.Tl
open Go.RowKit Go.Proofs.YtjhciagjofhhiaaW.PrintWords Go.Proofs.YtjhciagjofhhiaaW.PrintLast Go.Proofs.YtjhciagjofhhiaaW.PrintMore Go.Proofs.Ytjhciagjofhhiaa.Sh Go.Proofs.Ytjhciagjofhhiaa.POne
set_option linter.unusedVariables false
set_option linter.unusedSimpArgs false
/-- The reference's reader as a value. -/
abbrev rin (A : Option Addr) (c : Nat) (b : List Int) (s : Rd) : Value := .agg #[.slice A b.length c, .int .i64 (s.a : Nat), .bool s.bad]
abbrev rinO (A : Option Addr) (c : Nat) (b : List Int) (s : Rd) : Obj := .cells #[.slice A b.length c, .int .i64 (s.a : Nat), .bool s.bad] 40 (0, 0)
theorem rleft_calls (w : World) (A : Option Addr) (c : Nat) (b : List Int) (s : Rd) (ha : s.a ≤ b.length) (hl : b.length ≤ 1048576) : Calls Try.prog 27 #[rin A c b s] w fun e w' => e = .returned (.int .i64 (left b s : Nat)) ∧ Below w.heap.size w w' := by
  obtain ⟨a, bad⟩ := s
  have HB := Aside0.mk ((Below.refl w.heap.size w).alloc (Nat.le_refl _) (rinO A c b ⟨a, bad⟩))
  have hw : wrap64 ((b.length : Int) - (a : Int)) = ((b.length - a : Nat) : Int) := by simp only at ha; unfold wrap64; omega
  cases bad with
  | true =>
    go_enter Try.func27, Try.ntmps27
    go_wp2_with fail
    go_ret
    exact ⟨by unfold left; rfl, HB.out⟩
  | false =>
    have HV := Aside0.mk (show (left b ⟨a, false⟩ : Int) = (b.length : Int) - (a : Int) from by unfold left; simp; simp only at ha; omega)
    go_enter Try.func27, Try.ntmps27
    go_wp2_with fail
    go_ret
    refine ⟨?_, HB.out⟩
    rw [HV.out]
    first | rfl | (simp; omega)
theorem rend_calls (w : World) (A : Option Addr) (c : Nat) (b : List Int) (s : Rd) (ha : s.a ≤ b.length) (hl : b.length ≤ 1048576) : Calls Try.prog 29 #[rin A c b s] w fun e w' => e = .returned (.bool (decide (s.bad = false ∧ left b s = 0))) ∧ Below w.heap.size w w' := by
  obtain ⟨a, bad⟩ := s
  have HB := Aside0.mk ((Below.refl w.heap.size w).alloc (Nat.le_refl _) (rinO A c b ⟨a, bad⟩))
  cases bad with
  | true =>
    go_enter Try.func29, Try.ntmps29
    go_wp2_with fail
    go_ret
    exact ⟨by simp, HB.out⟩
  | false =>
    obtain ⟨L, hL⟩ : ∃ L, L = left b ⟨a, false⟩ := ⟨_, rfl⟩
    have HLf := Aside0.mk (fun W => rleft_calls W A c b ⟨a, false⟩ ha hl)
    rw [← hL] at HLf ⊢
    clear hL ha
    by_cases h0 : L = 0
    · subst h0
      go_enter Try.func29, Try.ntmps29
      go_wp2_with (first | (go_at_call 27; refine (HLf.out _).mono ?_; rintro e w2 ⟨rfl, hb2⟩; have HB2 := Aside0.mk (below_step HB.out hb2); clear hb2))
      go_ret
      exact ⟨by simp, HB2.out⟩
    · have h0i : ((L : Int) == 0) = false := by rw [beq_eq_false_iff_ne]; omega
      go_enter Try.func29, Try.ntmps29
      go_wp2_with (first | (go_at_call 27; refine (HLf.out _).mono ?_; rintro e w2 ⟨rfl, hb2⟩; have HB2 := Aside0.mk (below_step HB.out hb2); clear hb2))
      go_ret
      exact ⟨by simp [h0], HB2.out⟩
theorem al_bound (a k L : Nat) (h : a + k ≤ L) (hl : L ≤ 1048576) : (([] : List Int).length + k) * 1 ≤ 140737488355328 := by simp; omega
def RTakes (w : World) (A : Option Addr) (c : Nat) (b : List Int) (s : Rd) (n : Int) (e : Ending) (w' : World) : Prop :=
  ∃ A' c', e = .returned (.tuple #[rin A c b (tkS b s n), .slice A' (tkL b s n).length c']) ∧ Kd.C (Kd.int .u8) w' A' (tkL b s n).length (tkL b s n) ∧ (tkL b s n).length ≤ c' ∧ Below w.heap.size w w' ∧ ∀ ad, A' = some ad → w.heap.size ≤ ad.block
theorem hblk3 {w : World} {g : Nat} {x y z : Value} (h : w.heap[g]? = some (.cells #[.slice none 0 0, .int .i64 0, .bool false] 40 (0, 0))) : (((w.setCell ⟨g, 0, none⟩ x).setCell ⟨g, 1, none⟩ y).setCell ⟨g, 2, none⟩ z).heap[g]? = some (.cells #[x, y, z] 40 (0, 0)) := by
  refine blk_put (cs := #[x, y, .bool false]) ?_ 2 _ rfl
  refine blk_put (cs := #[x, .int .i64 0, .bool false]) ?_ 1 _ rfl
  exact blk_put h 0 _ rfl
theorem below3 {w w' : World} {n g : Nat} {x y z : Value} (h : Below n w w') (hg : n ≤ g) : Below n w (((w'.setCell ⟨g, 0, none⟩ x).setCell ⟨g, 1, none⟩ y).setCell ⟨g, 2, none⟩ z) :=
  ((h.setCell (p := ⟨g, 0, none⟩) hg x).setCell (p := ⟨g, 1, none⟩) hg y).setCell (p := ⟨g, 2, none⟩) hg z
set_option maxRecDepth 100000 in
set_option maxHeartbeats 4000000 in
theorem rtake_calls (w : World) (A : Option Addr) (c : Nat) (b : List Int) (s : Rd) (n : Int) (ha : s.a ≤ b.length) (hl : b.length ≤ 1048576) (hc : b.length ≤ c) (hC : Kd.C (Kd.int .u8) w A b.length b) : Calls Try.prog 22 #[rin A c b s, .int .i64 n] w (RTakes w A c b s n) := by
  obtain ⟨a, bad⟩ := s
  have HC := Aside0.mk hC
  have HB := Aside0.mk (((Below.refl w.heap.size w).alloc (Nat.le_refl _) (rinO A c b ⟨a, bad⟩)).alloc (by simp) (.cells #[.slice none 0 0, .int .i64 0, .bool false] 40))
  have HX := Aside0.mk (blk_alloc (blk_new w (rinO A c b ⟨a, bad⟩)) (.cells #[.slice none 0 0, .int .i64 0, .bool false] 40))
  have HY := Aside0.mk (blk_new (w.alloc (rinO A c b ⟨a, bad⟩)) (.cells #[.slice none 0 0, .int .i64 0, .bool false] 40))
  simp only [World.size_alloc] at HY
  have HLf := Aside0.mk (fun W => rleft_calls W A c b ⟨a, bad⟩ ha hl)
  clear hC
  obtain ⟨L, hL⟩ : ∃ L, L = left b ⟨a, bad⟩ := ⟨_, rfl⟩
  rw [← hL] at HLf
  simp only at ha
  by_cases hbad : bad = true
  · subst hbad
    have HT := Aside0.mk (tk_bad (b := b) (s := ⟨a, true⟩) (n := n) (.inl rfl))
    clear hL
    go_enter Try.func22, Try.ntmps22
    go_wp2_with fail
    refine bodyPost_ret (results_ct rfl _ _ (w.heap.size + 1) 40 #[.slice A b.length c, .int .i64 (a : Nat), .bool true] (0, 0) _ rfl (blk_new_at _ _ _ (by simp)) Try.underlying40 rfl (by kernel_rfl)) rfl ?_
    refine ⟨none, 0, ?_, ?_, ?_, ((Below.refl w.heap.size w).alloc (Nat.le_refl _) _).alloc (by simp) _, fun ad h => by cases h⟩
    · rw [HT.out.1, HT.out.2]; rfl
    · rw [HT.out.2]; exact c_nil _
    · rw [HT.out.2]; exact Nat.le_refl _
  · have hbf : bad = false := by simpa using hbad
    subst hbf
    clear hbad
    by_cases hn0 : n < 0
    · have HT := Aside0.mk (tk_bad (b := b) (s := ⟨a, false⟩) (n := n) (.inr (.inl hn0)))
      clear hL
      go_enter Try.func22, Try.ntmps22
      go_wp2_with fail
      refine bodyPost_ret (results_ct rfl _ _ (w.heap.size + 1) 40 #[.slice A b.length c, .int .i64 (a : Nat), .bool true] (0, 0) _ rfl (blk_new_at _ _ _ (by simp)) Try.underlying40 rfl (by kernel_rfl)) rfl ?_
      refine ⟨none, 0, ?_, ?_, ?_, ((Below.refl w.heap.size w).alloc (Nat.le_refl _) _).alloc (by simp) _, fun ad h => by cases h⟩
      · rw [HT.out.1, HT.out.2]; rfl
      · rw [HT.out.2]; exact c_nil _
      · rw [HT.out.2]; exact Nat.le_refl _
    · obtain ⟨k, rfl⟩ := Int.eq_ofNat_of_zero_le (show 0 ≤ n by omega)
      have hLL : L = b.length - a := by rw [hL]; unfold left; simp
      have hn : ¬ (k : Int) < 0 := by omega
      by_cases hgt : L < k
      · have HT := Aside0.mk (tk_bad (b := b) (s := ⟨a, false⟩) (n := (k : Int)) (.inr (.inr (by rw [← hL]; omega))))
        have hgti : (L : Int) < (k : Int) := by omega
        clear hL hLL hn0
        go_enter Try.func22, Try.ntmps22
        go_wp2_with (first | (go_at_call 27; refine (HLf.out _).mono ?_; rintro e w2 ⟨rfl, hb2⟩; have HX2 := Aside0.mk (blk_below HX.out hb2); have HY2 := Aside0.mk (blk_below HY.out hb2); have HB2 := Aside0.mk (below_step HB.out hb2); have hx := cc3 HX2.out; have hy := cc3 HY2.out; clear hb2))
        have hne : w.heap.size + 1 ≠ w.heap.size := by omega
        refine bodyPost_ret (results_ct rfl _ _ (w.heap.size + 1) 40 #[.slice A b.length c, .int .i64 (a : Nat), .bool true] (0, 0) _ rfl (hblk3 ((Below.heap_setCell w2 ⟨w.heap.size, 2, none⟩ (.bool true) (w.heap.size + 1) hne).trans HY2.out)) Try.underlying40 rfl (by kernel_rfl)) rfl ?_
        refine ⟨none, 0, ?_, ?_, ?_, below3 (HB2.out.setCell (p := ⟨w.heap.size, 2, none⟩) (Nat.le_refl _) _) (Nat.le_succ _), fun ad h => by cases h⟩
        · rw [HT.out.1, HT.out.2]; rfl
        · rw [HT.out.2]; exact c_nil _
        · rw [HT.out.2]; exact Nat.le_refl _
      · have hng : ¬ tkBad b ⟨a, false⟩ (k : Int) := by
          unfold tkBad
          rw [← hL]
          simp
          omega
        have HT := Aside0.mk (tk_good hng)
        have hle : a + k ≤ b.length := by omega
        have hgti : ¬ (L : Int) < (k : Int) := by omega
        obtain ⟨i0, hi0, _, hsz, _⟩ := info_parts info5
        obtain ⟨A', hrun, hrd, hcap⟩ := print_mid_int (P := Try.prog) (k := .u8) 26 5 Try.underlying26 hi0 hsz A c b (a : Int) ((a + k : Nat) : Int) (Int.natCast_nonneg _) (Int.ofNat_le.2 (Nat.le_add_right _ _)) (Int.ofNat_le.2 hle) hc
        simp only [Int.toNat_natCast] at hrun hrd hcap
        have hlen : ((b.take (a + k)).drop a).length = k := by rw [List.length_drop, List.length_take]; omega
        have HTK := Aside0.mk (show tkL b ⟨a, false⟩ (k : Int) = (b.take (a + k)).drop a from by
          rw [HT.out.2, List.drop_take, Int.toNat_natCast]
          congr 1
          omega)
        have HCV := Aside0.mk (fun W (hB : Below w.heap.size w W) => (Kd.C_below (Kd.C_of_reads (hrd w (Kd.reads_of_C HC.out)) : Kd.C (Kd.int .u8) w A' _ _) hB))
        rw [hlen] at hrun hcap
        have HLEN := Aside0.mk hlen
        obtain ⟨V, hV⟩ : ∃ V, V = (b.take (a + k)).drop a := ⟨_, rfl⟩
        rw [← hV] at HTK HCV HLEN
        have hw1 := (w64b a k (Nat.le_trans hle hl)).1
        have HAL := Aside0.mk (al_bound a k b.length hle hl)
        have HLE := Aside0.mk (And.intro hle hl)
        obtain ⟨q, hq⟩ : ∃ q, q = a + k := ⟨_, rfl⟩
        rw [← hq] at hw1 hrun
        have HQ := Aside0.mk hq
        clear hL hLL hn0 hng hle hrd hcap hi0 hsz hlen hV hq ha
        go_enter Try.func22, Try.ntmps22
        go_wp2_with (first | (go_at_call 27; refine (HLf.out _).mono ?_; rintro e w2 ⟨rfl, hb2⟩; have HX2 := Aside0.mk (blk_below HX.out hb2); have HY2 := Aside0.mk (blk_below HY.out hb2); have HB2 := Aside0.mk (below_step HB.out hb2); have hx := cc3 HX2.out; have hy := cc3 HY2.out; clear hb2) | ((with_reducible refine gate_dst (N := 21) rfl ?_); refine Kd.R_lit (Kd.int .u8) (w0 := w2) w2.heap.size 5 ?hg (N := 21) ?hd (xs := ([] : List Int)) (inner := []) (ok := fun _ => True) (okp := fun _ => True) ?hr ?hp (fun _ hk => hk) trivial (Below.refl _ _) (Nat.le_refl _) (by simp) ?_; (case hd => rfl); (case hg => rfl); (case hr => first | (go_simp; done) | (go_simp; rfl)); (case hp => exact (Reps.none _ _)); intro v3 w3 ho hb hg hn9; have HO3 := Aside0.mk ho; have HB3 := Aside0.mk hb; have HX3 := Aside0.mk (blk_below HX2.out hb); clear hx hy; have hx := cc3 HX3.out; clear ho hb hg hn9; obtain ⟨A3, c3, rfl⟩ := Kd.R_slice HO3.out) | (at_builtin; refine Kd.R_append_rows (Kd.int .u8) (w0 := w2) w2.heap.size rfl (.tmp 21) (.tmp 30) 26 5 (.int .u8 0) 1 rfl Try.underlying26 info5 rfl (by decide) (by omega) (.slice A3 ([] : List Int).length c3) [] V A' k (c - a) (fun _ => True) (fun _ => False) rfl rfl ?aO ?aR (fun _ _ h => h) (fun _ h => h.elim) (fun _ _ => trivial) ?aB ?aS ?aL ?_; (case aO => exact HO3.out); (case aR => have h := HCV.out _ (below_step HB2.out HB3.out); rw [HLEN.out] at h; exact h); (case aB => exact HB3.out); (case aS => exact HB3.out.size); (case aL => exact HAL.out); intro v4 w4 ho hb hg hn9; rw [List.nil_append] at ho; have HO4 := Aside0.mk ho; have HB4 := Aside0.mk hb; have HX4 := Aside0.mk (blk_below HX2.out hb); have HY4 := Aside0.mk (blk_below HY2.out hb); clear hx; have hx := cc3 HX4.out; have hy := cc3 HY4.out; clear ho hb hg hn9; obtain ⟨A4, c4, rfl⟩ := Kd.R_slice HO4.out))
        have hne : w.heap.size + 1 ≠ w.heap.size := by omega
        refine bodyPost_ret (results_ct rfl _ _ (w.heap.size + 1) 40 #[.slice A b.length c, .int .i64 (q : Nat), .bool false] (0, 0) _ rfl (hblk3 ((Below.heap_setCell w4 ⟨w.heap.size, 1, none⟩ (.int .i64 (q : Nat)) (w.heap.size + 1) hne).trans HY4.out)) Try.underlying40 rfl (by kernel_rfl)) rfl ?_
        have hB4 := below_step HB2.out HB4.out
        have hfin := fun (k2 : Nat) (h1 : k2 ≠ w.heap.size) (h2 : k2 ≠ w.heap.size + 1) => ((Below.heap_setCell _ ⟨w.heap.size + 1, 2, none⟩ (.bool false) k2 h2).trans ((Below.heap_setCell _ ⟨w.heap.size + 1, 1, none⟩ (.int .i64 (q : Nat)) k2 h2).trans ((Below.heap_setCell _ ⟨w.heap.size + 1, 0, none⟩ (.slice A b.length c) k2 h2).trans (Below.heap_setCell w4 ⟨w.heap.size, 1, none⟩ (.int .i64 (q : Nat)) k2 h1))))
        obtain ⟨_, hc4, hC4⟩ := Kd.R_reads' HO4.out
        have hs2 := HB2.out.size
        have hy2 := blk_lt HY2.out
        have hR := Kd.R_reads' (Kd.R_mono (Kd.R_move (⟨fun _ hk => hk, HO4.out.2⟩ : Kd.R (Kd.int .u8) 5 w4 w2.heap.size (fun k => (Value.slice A4 V.length c4).ownBlock = some k) (.slice A4 V.length c4) V) (fun k2 hk2 => hfin k2 (by
          obtain ⟨inner, ho⟩ := Kd.R_own HO4.out
          have := own_base ho k2 hk2
          omega) (by
          obtain ⟨inner, ho⟩ := Kd.R_own HO4.out
          have := own_base ho k2 hk2
          omega))) (fun _ _ => trivial) : RB _ w2.heap.size (.slice A4 V.length c4) V)
        refine ⟨A4, c4, ?_, ?_, ?_, below3 (hB4.setCell (p := ⟨w.heap.size, 1, none⟩) (Nat.le_refl _) _) (Nat.le_succ _), fun ad h => Nat.le_trans HB2.out.size (rb_fresh HO4.out ad h)⟩
        · rw [HT.out.1, HTK.out, HQ.out]; rfl
        · rw [HTK.out]; exact hR.2.2
        · rw [HTK.out]; exact hR.2.1
end Go.Proofs.Ytjhciagjofhhiaa.Tl
