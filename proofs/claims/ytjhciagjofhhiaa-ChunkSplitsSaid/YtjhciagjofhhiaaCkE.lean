import Derived.Test.YtjhciagjofhhiaaCkA
import Derived.Test.YtjhciagjofhhiaaTlI
import Derived.Test.YtjhciagjofhhiaaTlG
/- chunk: Split. -/
namespace Go.Proofs.Ytjhciagjofhhiaa.Ck
open Go.RowKit Go.Proofs.YtjhciagjofhhiaaW.PrintWords Go.Proofs.YtjhciagjofhhiaaW.PrintLast Go.Proofs.YtjhciagjofhhiaaW.PrintMore Go.Proofs.Ytjhciagjofhhiaa.Sh Go.Proofs.Ytjhciagjofhhiaa.Tl
set_option linter.unusedVariables false
set_option linter.unusedSimpArgs false
theorem results_tmp4 {fn : Func} {t u v x : Tmp} (h : fn.results = #[.tmp t, .tmp u, .tmp v, .tmp x]) (tmps : Array Value) (P : Program) (w : World) :
    (results fn tmps).run P w = .ok (.tuple #[tmps.getD t undef, tmps.getD u undef, tmps.getD v undef, tmps.getD x undef]) w := by
  simp [results, h]
theorem nz_calls (c : Int) (w : World) : Calls Try.prog 82 #[.int .u8 c] w fun e w' => e = .returned (.bool (c != 0)) ∧ w = w' := by
  go_enter Try.func82, Try.ntmps82
  go_wp2
  go_ret
  exact ⟨rfl, rfl⟩
/-- Are there none but noughts? -/
def zeros (l : List Int) : Prop := ∀ x ∈ l, x = 0
theorem find_calls (w : World) (A : Option Addr) (n c : Nat) (l : List Int) (hn : n = l.length) (hC : Kd.C (Kd.int .u8) w A n l) : Calls Try.prog 107 #[.slice A n c, .func (.func 82) #[] #[]] w fun e w' => (∃ r : Int, e = .returned (.int .i64 r) ∧ (zeros l ∧ r = -1 ∨ ¬ zeros l ∧ 0 ≤ r)) ∧ w = w' := by
  subst hn
  have HC := Aside0.mk hC
  have hlb : l.length ≤ 9223372036854775807 := hC.2.1
  clear hC
  go_enter Try.func107, Try.ntmps107
  go_wp2_with fail
  go_loopw [8] (fun i wr => ∃ j : Nat, j ≤ l.length ∧ i = .int .i64 (j : Nat) ∧ wr = w ∧ Aside0 (∀ k, k < j → l.getD k 0 = 0)) (fun i _ => l.length - (intOf i).toNat)
  case atStart => exact ⟨0, Nat.zero_le _, rfl, rfl, ⟨fun k hk => absurd hk (by omega)⟩⟩
  case round =>
    obtain ⟨j, hj, rfl, rfl, HZ⟩ := hrel
    by_cases hlt : j < l.length
    · obtain ⟨ad, rfl, hcell⟩ := Kd.at_int HC.out (j : Int) (by omega) (by omega)
      rw [Int.toNat_natCast] at hcell
      obtain ⟨y, hy⟩ : ∃ y, y = rd l (j : Int) := ⟨_, rfl⟩
      rw [← hy] at hcell
      have HY := Aside0.mk (show l.getD j 0 = y from by rw [hy]; unfold rd; rw [Int.toNat_natCast])
      clear hy
      have hji : (j : Int) < (l.length : Int) := by omega
      by_cases h0 : y = 0
      · subst h0
        go_wp2_with (first | (go_at_call 82; refine (nz_calls _ _).mono ?_; rintro e w7 ⟨rfl, rfl⟩))
        exact ⟨⟨j + 1, by omega, by go_num, trivial, ⟨fun k hk => by
          by_cases hkj : k = j
          · rw [hkj]; exact HY.out
          · exact HZ.out k (by omega)⟩⟩, by simp [intOf]; omega⟩
      · have h0b : (y != 0) = true := by rw [bne_iff_ne]; exact h0
        have HN := Aside0.mk (show ¬ zeros l from fun h => h0 (by
          rw [← HY.out, List.getD_eq_getElem?_getD, List.getElem?_eq_getElem hlt]
          exact h _ (List.getElem_mem hlt)))
        go_wp2_with (first | (go_at_call 82; refine (nz_calls _ _).mono ?_; rintro e w7 ⟨rfl, rfl⟩))
        go_ret
        exact ⟨⟨j, rfl, .inr ⟨HN.out, by omega⟩⟩, rfl⟩
    · obtain rfl : j = l.length := by omega
      go_wp2_with fail
      go_ret
      refine ⟨⟨-1, rfl, .inl ⟨fun x hx => ?_, rfl⟩⟩, rfl⟩
      obtain ⟨k, hk, rfl⟩ := List.getElem_of_mem hx
      have := HZ.out k hk
      rw [List.getD_eq_getElem?_getD, List.getElem?_eq_getElem hk] at this
      exact this
set_option maxRecDepth 100000 in
theorem contains_no (w : World) (A : Option Addr) (n c : Nat) (l : List Int) (hn : n = l.length) (hC : Kd.C (Kd.int .u8) w A n l) (hz : zeros l) : Calls Try.prog 81 #[.slice A n c, .func (.func 82) #[] #[]] w fun e w' => e = .returned (.bool false) ∧ w = w' := by
  subst hn
  have HF := Aside0.mk ((find_calls w A l.length c l rfl hC).mono (fun e w' hx => (show e = .returned (.int .i64 (-1)) ∧ w = w' from by
    obtain ⟨⟨r, he, h⟩, hw⟩ := hx
    rcases h with ⟨_, rfl⟩ | ⟨h, _⟩
    · exact ⟨he, hw⟩
    · exact absurd hz h)))
  clear hC hz
  go_enter Try.func81, Try.ntmps81
  go_wp2_with fail
  refine HF.out.mono ?_
  rintro e w7 ⟨rfl, rfl⟩
  go_wp2_with fail
  go_ret
  exact ⟨rfl, rfl⟩
set_option maxRecDepth 100000 in
theorem contains_yes (w : World) (A : Option Addr) (n c : Nat) (l : List Int) (hn : n = l.length) (hC : Kd.C (Kd.int .u8) w A n l) (hz : ¬ zeros l) : Calls Try.prog 81 #[.slice A n c, .func (.func 82) #[] #[]] w fun e w' => e = .returned (.bool true) ∧ w = w' := by
  subst hn
  have HF := Aside0.mk ((find_calls w A l.length c l rfl hC).mono (fun e w' hx => (show ∃ r : Nat, e = .returned (.int .i64 (r : Nat)) ∧ w = w' from by
    obtain ⟨⟨r, he, h⟩, hw⟩ := hx
    rcases h with ⟨h, _⟩ | ⟨_, h⟩
    · exact absurd h hz
    · obtain ⟨q, rfl⟩ := Int.eq_ofNat_of_zero_le h
      exact ⟨q, he, hw⟩)))
  clear hC hz
  go_enter Try.func81, Try.ntmps81
  go_wp2_with fail
  refine HF.out.mono ?_
  rintro e w7 ⟨q, rfl, rfl⟩
  have hq : (0 : Int) ≤ (q : Int) := by omega
  go_wp2_with fail
  go_ret
  exact ⟨rfl, rfl⟩
/-- The first chunk of bytes is one. -/
def okS (b : List Int) : Prop := 4 ≤ b.length ∧ 4 ≤ nOf b ∧ nOf b + padn (nOf b) ≤ b.length ∧ zeros ((b.drop (nOf b)).take (padn (nOf b)))
def allOf (b : List Int) : Nat := nOf b + padn (nOf b)
/-- What Split answers. -/
def Splits (w : World) (b : List Int) (e : Ending) (w' : World) : Prop :=
  Below w.heap.size w w' ∧ ((b = [] ∧ e = .returned (.tuple #[.int .i64 0, nilS, nilS, .iface 55 (.int .i64 4)])) ∨ (b ≠ [] ∧ ¬ okS b ∧ e = .returned (.tuple #[.int .i64 0, nilS, nilS, .iface 55 (.int .i64 2)])) ∨
    (okS b ∧ ∃ A c A2 c2, e = .returned (.tuple #[.int .i64 (b.getD 0 0), .slice A (b.take (allOf b)).length c, .slice A2 (b.drop (allOf b)).length c2, .nilIface]) ∧ RB w' w.heap.size (.slice A (b.take (allOf b)).length c) (b.take (allOf b)) ∧ RB w' w.heap.size (.slice A2 (b.drop (allOf b)).length c2) (b.drop (allOf b)) ∧
      ∀ k, (Value.slice A (b.take (allOf b)).length c).ownBlock = some k → (Value.slice A2 (b.drop (allOf b)).length c2).ownBlock ≠ some k))
theorem mid_eq (b : List Int) (n T : Nat) : (b.take T).drop n = (b.drop n).take (T - n) := List.drop_take ..
theorem getD0_byte {b : List Int} (hb : Bytes b) (h : b ≠ []) : ((b.getD 0 0).toNat : Int) = b.getD 0 0 ∧ (b.getD 0 0).toNat < 256 := by
  cases b with
  | nil => exact absurd rfl h
  | cons x r =>
    have := hb x List.mem_cons_self
    simp
    omega
/-- What the three numbers are. -/
theorem three_nums {b : List Int} (hb : Bytes b) (h : b ≠ []) : ((nmV b ⟨0, false⟩ 1 : Nat) : Int) = b.getD 0 0 ∧ nmV b ⟨0, false⟩ 1 < 256 ∧ nmV b (nmS b (nmS b ⟨0, false⟩ 1) 1) 2 < 65536 ∧ (4 ≤ b.length → nmV b (nmS b (nmS b ⟨0, false⟩ 1) 1) 2 = nOf b) := by
  have h0 : 0 < b.length := List.length_pos_iff.2 h
  have h1 := nm_one_yes (a := 0) h0
  have h2 := getD0_byte hb h
  refine ⟨by rw [h1.2]; exact h2.1, by rw [h1.2]; exact h2.2, rK_lt hb _, fun h4 => ?_⟩
  have h3 := nm_one_yes (b := b) (a := 1) (by omega)
  rw [h1.1, h3.1]
  exact (nm_two_yes (b := b) (a := 2) (by omega)).2
set_option maxRecDepth 100000 in
set_option maxHeartbeats 4000000 in
theorem split_calls (w : World) (A : Option Addr) (c : Nat) (b : List Int) (hc : b.length ≤ c) (hC : Kd.C (Kd.int .u8) w A b.length b) (hl : b.length ≤ 1048576) (hb : Bytes b) : Calls Try.prog 50 #[.slice A b.length c] w (Splits w b) := by
  by_cases hnil : b = []
  · subst hnil
    have HB0 := Aside0.mk (Below.refl w.heap.size w)
    clear hC hb
    go_enter Try.func50, Try.ntmps50
    go_wp2_with fail
    refine bodyPost_ret (results_tmp4 rfl _ _ _) rfl ?_
    exact ⟨HB0.out, .inl ⟨rfl, rfl⟩⟩
  · have HRd := Aside0.mk (read_calls w A c b hc hC hl hb)
    obtain ⟨k, hk⟩ : ∃ k, k = nmV b ⟨0, false⟩ 1 := ⟨_, rfl⟩
    obtain ⟨n, hn⟩ : ∃ n, n = nmV b (nmS b (nmS b ⟨0, false⟩ 1) 1) 2 := ⟨_, rfl⟩
    have h3 := three_nums hb hnil
    rw [← hk, ← hn] at h3
    obtain ⟨hkb, hk2, hn2, hnO⟩ := h3
    have HK := Aside0.mk hkb
    have HO := Aside0.mk hnO
    have HNL := Aside0.mk hnil
    have HC := Aside0.mk (And.intro hc hC)
    have HN1 := Aside0.mk (fun wx v p (h : InAt wx w.heap.size p v b ⟨0, false⟩) => ((inum_calls h 1).mono (fun e w' hx => (show e = .returned (.int .u64 (k : Nat)) ∧ IS wx w.heap.size p v b (nmS b ⟨0, false⟩ 1) w' from by rw [hk]; exact hx))))
    have HN3 := Aside0.mk (fun wx v p (h : InAt wx w.heap.size p v b (nmS b (nmS b ⟨0, false⟩ 1) 1)) => ((inum_calls h 2).mono (fun e w' hx => (show e = .returned (.int .u64 (n : Nat)) ∧ IS wx w.heap.size p v b (nmS b (nmS b (nmS b ⟨0, false⟩ 1) 1) 2) w' from by rw [hn]; exact hx))))
    have hlen : ¬ (b.length : Int) = 0 := by
      have := List.length_pos_iff.2 hnil
      omega
    have HBY := Aside0.mk hb
    clear hC hb hk hn hkb hnO hnil
    go_enter Try.func50, Try.ntmps50
    go_wp2_with fail
    refine HRd.out.mono ?_
    rintro e w1 ⟨p, v, rfl, hI1, hb1⟩
    have HI1 := Aside0.mk hI1
    have HB1 := Aside0.mk hb1
    clear hI1 hb1 HRd
    go_wp2_with fail
    refine (HN1.out _ _ _ HI1.out).mono ?_
    rintro e w2 ⟨rfl, hI2⟩
    have HI2 := Aside0.mk hI2.1
    have HB2 := Aside0.mk (HB1.out.trans (hI2.2.below HI1.out.1 HB1.out.size))
    clear hI2 HN1
    go_wp2_with fail
    refine (inum_calls HI2.out 1).mono ?_
    rintro e w3 ⟨rfl, hI3⟩
    have HI3 := Aside0.mk hI3.1
    have HB3 := Aside0.mk (HB2.out.trans (hI3.2.below HI2.out.1 HB2.out.size))
    clear hI3
    go_wp2_with fail
    refine (HN3.out _ _ _ HI3.out).mono ?_
    rintro e w4 ⟨rfl, hI4⟩
    have HB4 := Aside0.mk (HB3.out.trans (hI4.2.below HI3.out.1 HB3.out.size))
    clear hI4 HN3 HI1 HI2 HI3
    obtain ⟨T, hT⟩ : ∃ T, T = n + padn n := ⟨_, rfl⟩
    have hTe : ((n : Int) + 4 - 1) / 4 * 4 = (T : Int) := by rw [hT]; unfold padn; omega
    have hTl : T < 65540 ∧ n ≤ T := by rw [hT]; unfold padn; omega
    have HT := Aside0.mk hT
    clear hT
    have hbad : ∀ e w', e = .returned (.tuple #[.int .i64 0, nilS, nilS, .iface 55 (.int .i64 2)]) → Below w.heap.size w w' → ¬ okS b → Splits w b e w' := fun e w' he hB hn => ⟨hB, .inr (.inl ⟨HNL.out, hn, he⟩)⟩
    have HBAD := Aside0.mk hbad
    clear hbad
    by_cases h4 : b.length < 4
    · have h4i : (b.length : Int) < 4 := by omega
      have HNO := Aside0.mk (show ¬ okS b from fun h => by have := h.1; omega)
      go_wp2_with fail
      refine bodyPost_ret (results_tmp4 rfl _ _ _) rfl ?_
      exact HBAD.out _ _ rfl HB4.out HNO.out
    · have h4i : ¬ (b.length : Int) < 4 := by omega
      have hnO : n = nOf b := HO.out (by omega)
      have HE := Aside0.mk hnO
      clear hnO
      by_cases hn4 : n < 4
      · have hn4i : (n : Int) < 4 := by omega
        have HNO := Aside0.mk (show ¬ okS b from fun h => by have h2 := h.2.1; rw [← HE.out] at h2; omega)
        go_wp2_with fail
        refine bodyPost_ret (results_tmp4 rfl _ _ _) rfl ?_
        exact HBAD.out _ _ rfl HB4.out HNO.out
      · have hn4i : ¬ (n : Int) < 4 := by omega
        by_cases hTb : b.length < T
        · have hTi : (b.length : Int) < (T : Int) := by omega
          have HNO := Aside0.mk (show ¬ okS b from fun h => by have h2 := h.2.2.1; rw [← HE.out, ← HT.out] at h2; omega)
          go_wp2_with fail
          refine bodyPost_ret (results_tmp4 rfl _ _ _) rfl ?_
          exact HBAD.out _ _ rfl HB4.out HNO.out
        · have hTi : ¬ (b.length : Int) < (T : Int) := by omega
          have hC4 := Kd.C_below HC.out.2 HB4.out
          obtain ⟨i0, hi0, _, hsz, _⟩ := info_parts info5
          obtain ⟨A6, hrun, hrd, hcap⟩ := print_mid_int (P := Try.prog) (k := .u8) 26 5 Try.underlying26 hi0 hsz A c b (n : Int) (T : Int) (by omega) (by omega) (by omega) HC.out.1
          simp only [Int.toNat_natCast] at hrun hrd hcap
          obtain ⟨hrunT, hrdT, hcapT⟩ := print_take_int (P := Try.prog) (k := .u8) 26 5 Try.underlying26 hi0 hsz A c b (T : Int) (by omega) (by omega) HC.out.1
          obtain ⟨A7, hrunD, hrdD, hcapD⟩ := print_cut_int (P := Try.prog) (k := .u8) 26 5 Try.underlying26 hi0 hsz A c b (T : Int) (by omega) (by omega) HC.out.1
          simp only [Int.toNat_natCast] at hrunT hrdT hcapT hrunD hrdD hcapD
          have HCM : Aside0 (Kd.C (Kd.int .u8) w4 A6 ((b.take T).drop n).length ((b.take T).drop n)) := ⟨Kd.C_of_reads (hrd w4 (Kd.reads_of_C hC4))⟩
          have HCT : Aside0 ((b.take T).length ≤ c ∧ Kd.C (Kd.int .u8) w4 A (b.take T).length (b.take T)) := ⟨⟨hcapT, Kd.C_of_reads (hrdT w4 (Kd.reads_of_C hC4))⟩⟩
          have HCD : Aside0 ((b.drop T).length ≤ c - T ∧ Kd.C (Kd.int .u8) w4 A7 (b.drop T).length (b.drop T)) := ⟨⟨hcapD, Kd.C_of_reads (hrdD w4 (Kd.reads_of_C hC4))⟩⟩
          obtain ⟨V, hV⟩ : ∃ V, V = (b.take T).drop n := ⟨_, rfl⟩
          obtain ⟨X, hX⟩ : ∃ X, X = b.take T := ⟨_, rfl⟩
          obtain ⟨Y, hY⟩ : ∃ Y, Y = b.drop T := ⟨_, rfl⟩
          rw [← hV] at hrun HCM
          rw [← hX] at hrunT HCT
          rw [← hY] at hrunD HCD
          have HVV := Aside0.mk (show V = (b.drop (nOf b)).take (padn (nOf b)) from by
            rw [hV, mid_eq, ← HE.out]
            congr 1
            have := HT.out
            omega)
          have HAX := Aside0.mk (show allOf b = T ∧ b.take (allOf b) = X ∧ b.drop (allOf b) = Y from by
            have h1 : allOf b = T := by unfold allOf; rw [← HE.out, HT.out]
            rw [h1]
            exact ⟨rfl, hX.symm, hY.symm⟩)
          have HXL := Aside0.mk (show X.length ≤ 1048576 ∧ Y.length ≤ 1048576 from by
            rw [hX, hY, List.length_take, List.length_drop]
            omega)
          clear hV hX hY hrd hrdT hrdD hcap hcapT hcapD hC4 hi0 hsz
          by_cases hz : zeros V
          · have HOK := Aside0.mk (show okS b from ⟨by omega, by rw [← HE.out]; omega, by rw [← HE.out, ← HT.out]; omega, by rw [← HVV.out]; exact hz⟩)
            have HCC := Aside0.mk (contains_no w4 A6 V.length (c - n) V rfl HCM.out hz)
            clear hz HBAD
            go_wp2_with (first | (go_at_call 81; refine HCC.out.mono ?_; rintro e w5 ⟨rfl, rfl⟩))
            refine start_ (n := 13) (S := fun w' => True) (ds := []) #[false, false, false, false, false, false, false, false, false, false, false, false, false] (by kernel_rfl) rfl rfl trivial (fun hHeld => ?_)
            refine pure_ (i := 0) (N := some 49) (v := ?_) (a' := ?_) #[true, false, false, false, false, false, false, false, false, false, false, false, false] rfl rfl (by kernel_rfl) (fun _ _ _ h => h) (Or.inl ⟨by rfl, ?_⟩) ?_ ?_
            rotate_left
            · intro w'
              go_simp
              with_reducible rfl
            rotate_left
            · simp only [Act.put, List.setIfInBounds_toArray, List.set_cons_zero, List.set_cons_succ, i64_w, i32_w]
              rfl
            refine pure_ (i := 1) (N := some 50) (v := ?_) (a' := ?_) #[true, true, false, false, false, false, false, false, false, false, false, false, false] rfl rfl (by kernel_rfl) (fun _ _ _ h => h) (Or.inl ⟨by rfl, ?_⟩) ?_ ?_
            rotate_left
            · intro w'
              go_simp
              with_reducible rfl
            rotate_left
            · simp only [Act.put, List.setIfInBounds_toArray, List.set_cons_zero, List.set_cons_succ, i64_w, i32_w]
              rfl
            refine pure_ (i := 2) (N := some 51) (v := ?_) (a' := ?_) #[true, true, true, false, false, false, false, false, false, false, false, false, false] rfl rfl (by kernel_rfl) (fun _ _ _ h => h) (Or.inl ⟨by rfl, ?_⟩) ?_ ?_
            rotate_left
            · intro w'
              go_simp
              with_reducible rfl
            rotate_left
            · simp only [Act.put, List.setIfInBounds_toArray, List.set_cons_zero, List.set_cons_succ, i64_w, i32_w]
              rfl
            refine pure_ (i := 3) (N := some 52) (v := ?_) (a' := ?_) #[true, true, true, true, false, false, false, false, false, false, false, false, false] rfl rfl (by kernel_rfl) (fun _ _ _ h => h) (Or.inl ⟨by rfl, ?_⟩) ?_ ?_
            rotate_left
            · intro w'
              go_simp
              with_reducible rfl
            rotate_left
            · simp only [Act.put, List.setIfInBounds_toArray, List.set_cons_zero, List.set_cons_succ, i64_w, i32_w]
              rfl
            refine pure_ (i := 5) (N := some 54) (v := ?_) (a' := ?_) #[true, true, true, true, false, true, false, false, false, false, false, false, false] rfl rfl (by kernel_rfl) (fun _ _ _ h => h) (Or.inl ⟨by rfl, ?_⟩) ?_ ?_
            rotate_left
            · intro w'
              go_simp
              with_reducible rfl
            rotate_left
            · simp only [Act.put, List.setIfInBounds_toArray, List.set_cons_zero, List.set_cons_succ, i64_w, i32_w]
              rfl
            refine pure_ (i := 6) (N := some 55) (v := ?_) (a' := ?_) #[true, true, true, true, false, true, true, false, false, false, false, false, false] rfl rfl (by kernel_rfl) (fun _ _ _ h => h) (Or.inl ⟨by rfl, ?_⟩) ?_ ?_
            rotate_left
            · intro w'
              go_simp
              with_reducible rfl
            rotate_left
            · simp only [Act.put, List.setIfInBounds_toArray, List.set_cons_zero, List.set_cons_succ, i64_w, i32_w]
              rfl
            refine pure_ (i := 7) (N := some 56) (v := ?_) (a' := ?_) #[true, true, true, true, false, true, true, true, false, false, false, false, false] rfl rfl (by kernel_rfl) (fun _ _ _ h => h) (Or.inl ⟨by rfl, ?_⟩) ?_ ?_
            rotate_left
            · intro w'
              go_simp
              with_reducible rfl
            rotate_left
            · simp only [Act.put, List.setIfInBounds_toArray, List.set_cons_zero, List.set_cons_succ, i64_w, i32_w]
              rfl
            refine one_ (i := 4) (N := some 53) #[true, true, true, true, true, true, true, true, false, false, false, false, false] rfl rfl (by kernel_rfl) (by decide) (fun K hK => ?_)
            refine goes_ Try.func58 (by kernel_rfl) rfl #[.slice A X.length c] (by rfl) rfl rfl (by first | rfl | (simp only [List.map_toArray, List.map_cons, List.map_nil]; rfl)) ?_
            with_reducible refine ((clone_rb w4.drew A c X HCT.out.1 (Kd.C_below (show Kd.C (Kd.int .u8) w4 A X.length X from HCT.out.2) (pw_below_drewN (Below.refl _ _) 1)) HXL.out.1)).mono ?_
            rintro e w6 ⟨A8, c8, rfl, hR8, hb8⟩
            have HR8 := Aside0.mk hR8
            have HB8 := Aside0.mk hb8
            clear hR8 hb8
            refine ⟨_, rfl, ?_⟩
            refine hK.out _ _ trivial (fun hHeld => ?_)
            clear hK K
            refine norm_ (a' := ?_) ?_ ?_
            rotate_left
            · show Act.put _ (some 53) _ = _
              simp only [Act.put, List.setIfInBounds_toArray, List.set_cons_zero, List.set_cons_succ, i64_w, i32_w]
              rfl
            refine one_ (i := 8) (N := some 57) #[true, true, true, true, true, true, true, true, true, false, false, false, false] rfl rfl (by kernel_rfl) (by decide) (fun K hK => ?_)
            refine goes_ Try.func58 (by kernel_rfl) rfl #[.slice A7 Y.length (c - T)] (by rfl) rfl rfl (by first | rfl | (simp only [List.map_toArray, List.map_cons, List.map_nil]; rfl)) ?_
            with_reducible refine ((clone_rb w6 A7 (c - T) Y HCD.out.1 (Kd.C_below (show Kd.C (Kd.int .u8) w4.drew A7 Y.length Y from Kd.C_below (show Kd.C (Kd.int .u8) w4 A7 Y.length Y from HCD.out.2) (pw_below_drewN (Below.refl _ _) 1)) HB8.out) HXL.out.2)).mono ?_
            rintro e w7 ⟨A9, c9, rfl, hR9, hb9⟩
            have HR9 := Aside0.mk hR9
            have HB9 := Aside0.mk hb9
            clear hR9 hb9
            refine ⟨_, rfl, ?_⟩
            refine hK.out _ _ trivial (fun hHeld => ?_)
            clear hK K
            refine norm_ (a' := ?_) ?_ ?_
            rotate_left
            · show Act.put _ (some 57) _ = _
              simp only [Act.put, List.setIfInBounds_toArray, List.set_cons_zero, List.set_cons_succ, i64_w, i32_w]
              rfl
            refine pure_ (i := 9) (N := some 2) (v := ?_) (a' := ?_) #[true, true, true, true, true, true, true, true, true, true, false, false, false] rfl rfl (by kernel_rfl) (fun _ _ _ h => h) (Or.inl ⟨by rfl, ?_⟩) ?_ ?_
            rotate_left
            · intro w'
              go_simp
              with_reducible rfl
            rotate_left
            · simp only [Act.put, List.setIfInBounds_toArray, List.set_cons_zero, List.set_cons_succ, i64_w, i32_w]
              rfl
            refine pure_ (i := 10) (N := some 3) (v := ?_) (a' := ?_) #[true, true, true, true, true, true, true, true, true, true, true, false, false] rfl rfl (by kernel_rfl) (fun _ _ _ h => h) (Or.inl ⟨by rfl, ?_⟩) ?_ ?_
            rotate_left
            · intro w'
              go_simp
              with_reducible rfl
            rotate_left
            · simp only [Act.put, List.setIfInBounds_toArray, List.set_cons_zero, List.set_cons_succ, i64_w, i32_w]
              rfl
            refine pure_ (i := 11) (N := some 4) (v := ?_) (a' := ?_) #[true, true, true, true, true, true, true, true, true, true, true, true, false] rfl rfl (by kernel_rfl) (fun _ _ _ h => h) (Or.inl ⟨by rfl, ?_⟩) ?_ ?_
            rotate_left
            · intro w'
              go_simp
              with_reducible rfl
            rotate_left
            · simp only [Act.put, List.setIfInBounds_toArray, List.set_cons_zero, List.set_cons_succ, i64_w, i32_w]
              rfl
            refine pure_ (i := 12) (N := some 5) (v := ?_) (a' := ?_) #[true, true, true, true, true, true, true, true, true, true, true, true, true] rfl rfl (by kernel_rfl) (fun _ _ _ h => h) (Or.inl ⟨by rfl, ?_⟩) ?_ ?_
            rotate_left
            · intro w'
              go_simp
              with_reducible rfl
            rotate_left
            · simp only [Act.put, List.setIfInBounds_toArray, List.set_cons_zero, List.set_cons_succ, i64_w, i32_w]
              rfl
            refine done_ (by kernel_rfl) ?_
            go_wp2_with fail
            (try simp only [Exit.inBlock, Exit.then])
            refine bodyPost_ret (results_tmp4 rfl _ _ _) rfl ?_
            have hB6 := (below_drew1 HB4.out)
            have hB68 := below_step hB6 HB8.out
            have hlt8 : ∀ q, (Value.slice A8 X.length c8).ownBlock = some q → q < w6.heap.size := fun q hq => by obtain ⟨inner, ho⟩ := Kd.R_own HR8.out; exact own_lt ho q hq
            have hge9 : ∀ q, (Value.slice A9 Y.length c9).ownBlock = some q → w6.heap.size ≤ q := fun q hq => by obtain ⟨inner, ho⟩ := Kd.R_own HR9.out; exact own_base ho q hq
            refine ⟨below_step hB68 HB9.out, .inr (.inr ⟨HOK.out, A8, c8, A9, c9, ?_, ?_, ?_, ?_⟩)⟩
            · rw [HAX.out.2.1, HAX.out.2.2, ← HK.out]; rfl
            · rw [HAX.out.2.1]; exact Kd.R_lower (Kd.R_below HR8.out HB9.out) hB6.size
            · rw [HAX.out.2.2]; exact Kd.R_lower HR9.out hB68.size
            · rw [HAX.out.2.1, HAX.out.2.2]
              intro q hq he
              have h1 := hlt8 q hq
              have h2 := hge9 q he
              omega
          · have HNO := Aside0.mk (show ¬ okS b from fun h => hz (by rw [HVV.out]; exact h.2.2.2))
            have HCC := Aside0.mk (contains_yes w4 A6 V.length (c - n) V rfl HCM.out hz)
            clear hz
            go_wp2_with (first | (go_at_call 81; refine HCC.out.mono ?_; rintro e w5 ⟨rfl, rfl⟩))
            refine bodyPost_ret (results_tmp4 rfl _ _ _) rfl ?_
            exact HBAD.out _ _ rfl HB4.out HNO.out
end Go.Proofs.Ytjhciagjofhhiaa.Ck
