import Derived.Test.YtjhciagjofhhiaaTlD
/- The methods of In, II: Take, Num, Pad, End; Read. -/
namespace Go.Proofs.Ytjhciagjofhhiaa.Tl
open Go.RowKit Go.Proofs.YtjhciagjofhhiaaW.PrintWords Go.Proofs.YtjhciagjofhhiaaW.PrintLast Go.Proofs.YtjhciagjofhhiaaW.PrintMore Go.Proofs.Ytjhciagjofhhiaa.Sh
set_option linter.unusedVariables false
set_option linter.unusedSimpArgs false
def Takes (w : World) (B p : Nat) (v : Value) (b : List Int) (s : Rd) (n : Int) (e : Ending) (w' : World) : Prop :=
  ∃ A c, e = .returned (.slice A (tkL b s n).length c) ∧ RB w' w.heap.size (.slice A (tkL b s n).length c) (tkL b s n) ∧ IS w B p v b (tkS b s n) w'
theorem tkL_le (b : List Int) (s : Rd) (n : Int) : (tkL b s n).length ≤ b.length := by
  unfold tkL
  split
  · simp
  · rw [List.length_take, List.length_drop]; omega
theorem tkL_bytes {b : List Int} (hb : Bytes b) (s : Rd) (n : Int) : Bytes (tkL b s n) := by
  unfold tkL
  split
  · intro x hx; simp at hx
  · intro x hx; exact hb x (List.mem_of_mem_drop (List.mem_of_mem_take hx))
theorem take_calls {w : World} {B p : Nat} {v : Value} {b : List Int} {s : Rd} (h : InAt w B p v b s) (n : Int) : Calls Try.prog 23 #[.pointer (some ⟨p, 0, none⟩), .int .i64 n] w (Takes w B p v b s n) := by
  have HN := Aside0.mk (next_calls h n)
  have HL := Aside0.mk (Nat.le_trans (tkL_le b s n) h.2.2.2.2.1)
  clear h
  go_enter Try.func23, Try.ntmps23
  go_wp2_with (first | (go_at_call 60; refine HN.out.mono ?_; rintro e w1 ⟨A1, c1, rfl, hc1, hC1, hI1⟩; have H1 := Aside0.mk hI1; have HC1 := Aside0.mk (And.intro hc1 hC1); clear hI1 hc1 hC1) | (go_at_call 58; refine (clone_rb w1 A1 c1 (tkL b s n) HC1.out.1 HC1.out.2 HL.out).mono ?_; rintro e w2 ⟨A2, c2, rfl, hR2, hB2⟩; have H2 := Aside0.mk (And.intro hR2 hB2); clear hR2 hB2))
  go_ret
  exact ⟨A2, c2, rfl, Kd.R_lower H2.out.1 H1.out.2.size, H1.out.1.below H2.out.2, H1.out.2.trans (Only.of H2.out.2)⟩
theorem or64 (a b : Nat) (ha : a < 18446744073709551616) (hb : b < 18446744073709551616) : bits .or .u64 (a : Int) (b : Int) = ((a ||| b : Nat) : Int) := by
  have e : bits .or .u64 (a : Int) (b : Int) = IntKind.u64.wrap (((BitVec.ofInt 64 (a : Int) ||| BitVec.ofInt 64 (b : Int)).toNat : Nat) : Int) := rfl
  have e2 : (BitVec.ofInt 64 (a : Int) ||| BitVec.ofInt 64 (b : Int)).toNat = a ||| b := by
    rw [BitVec.toNat_or]
    simp [BitVec.toNat_ofInt]
    rw [Nat.mod_eq_of_lt ha, Nat.mod_eq_of_lt hb]
  have h : a ||| b < 18446744073709551616 := Nat.or_lt_two_pow (n := 64) ha hb
  rw [e, e2]
  show ((a ||| b : Nat) : Int) % 18446744073709551616 = _
  generalize a ||| b = y at h
  omega
theorem or_byte (x y : Nat) (hy : y < 256) : (x * 256) ||| y = x * 256 + y := by
  have h := Nat.shiftLeft_add_eq_or_of_lt (i := 8) (b := y) (by omega) x
  rw [Nat.shiftLeft_eq] at h
  exact h.symm
theorem val_step (x y : Nat) (hx : x < 72057594037927936) (hy : y < 256) : bits .or .u64 ((x : Int) * 256) (y : Int) = ((x * 256 + y : Nat) : Int) := by
  have h := or64 (x * 256) y (by omega) (by omega)
  rw [or_byte x y hy] at h
  rw [← h]
  simp
theorem val_lt {l : List Int} (hb : Bytes l) : ∀ k, k ≤ l.length → val (l.take k) < 256 ^ k
  | 0, _ => by simp [val]
  | k + 1, hk => by
    have ih := val_lt hb k (by omega)
    have e1 : l.take (k + 1) = l.take k ++ [l.getD k 0] := by
      rw [List.take_add_one, List.getD_eq_getElem?_getD, List.getElem?_eq_getElem (by omega)]
      simp
    have hx := hb (l.getD k 0) (by rw [List.getD_eq_getElem?_getD, List.getElem?_eq_getElem (by omega)]; exact List.getElem_mem (by omega))
    rw [e1, val_snoc, Nat.pow_succ]
    omega
def Nums (w : World) (B p : Nat) (v : Value) (b : List Int) (s : Rd) (z : Int) (e : Ending) (w' : World) : Prop := e = .returned (.int .u64 (nmV b s z : Nat)) ∧ IS w B p v b (nmS b s z) w'
set_option maxRecDepth 100000 in
set_option maxHeartbeats 2000000 in
theorem inum_calls {w : World} {B p : Nat} {v : Value} {b : List Int} {s : Rd} (h : InAt w B p v b s) (z : Int) : Calls Try.prog 21 #[.pointer (some ⟨p, 0, none⟩), .int .i64 z] w (Nums w B p v b s z) := by
  by_cases hs : isSz z
  · have hd : decide (isSz z) = true := decide_eq_true hs
    have H57 := Aside0.mk (sized_calls z)
    rw [hd] at H57
    have HN := Aside0.mk (next_calls h z)
    have HV := Aside0.mk (show nmV b s z = val (tkL b s z) ∧ nmS b s z = tkS b s z from by unfold nmV nmS; rw [if_pos hs, if_pos hs]; exact ⟨rfl, rfl⟩)
    obtain ⟨l, hl⟩ : ∃ l, l = tkL b s z := ⟨_, rfl⟩
    have HBy := Aside0.mk (show Bytes l from by rw [hl]; exact tkL_bytes h.2.2.2.2.2 s z)
    have hl8 : l.length ≤ 8 := by
      rw [hl]
      unfold tkL
      split
      · simp
      · rw [List.length_take]
        unfold isSz at hs
        omega
    have HNX := Aside0.mk (fun e w' (hx : Nexts w B p v b s z e w') => (show ∃ A c, e = .returned (.slice A l.length c) ∧ l.length ≤ c ∧ Kd.C (Kd.int .u8) w' A l.length l ∧ IS w B p v b (tkS b s z) w' from by rw [hl]; exact hx))
    rw [← hl] at HV
    clear h hs hd hl
    go_enter Try.func21, Try.ntmps21
    go_wp2_with (first | (go_at_call 57; refine (H57.out _).mono ?_; rintro e w7 ⟨rfl, rfl⟩) | (go_at_call 60; refine HN.out.mono ?_; intro e w1 hx; obtain ⟨A1, c1, rfl, hc1, hC1, hI1⟩ := HNX.out e w1 hx; have H1 := Aside0.mk hI1; have HC1 := Aside0.mk (And.intro hc1 hC1); clear hI1 hc1 hC1 hx))
    go_loopw [5, 17] (fun o i wr => ∃ k : Nat, k ≤ l.length ∧ i = .int .i64 k ∧ o = .int .u64 (val (l.take k) : Nat) ∧ wr = w1) (fun _ i _ => l.length - (intOf i).toNat)
    case atStart => exact ⟨0, Nat.zero_le _, rfl, by simp [val], rfl⟩
    case round =>
      obtain ⟨k, hk, rfl, rfl, rfl⟩ := hrel
      by_cases hlt : k < l.length
      · obtain ⟨ad, rfl, hcell⟩ := Kd.at_int HC1.out.2 (k : Int) (by omega) (by omega)
        rw [Int.toNat_natCast] at hcell
        obtain ⟨y, hy⟩ : ∃ y : Nat, rd l (k : Int) = (y : Int) ∧ y < 256 := by
          have hm : rd l (k : Int) ∈ l := by
            unfold rd
            rw [Int.toNat_natCast, List.getD_eq_getElem?_getD, List.getElem?_eq_getElem hlt]
            exact List.getElem_mem hlt
          have := HBy.out _ hm
          exact ⟨(rd l (k : Int)).toNat, by omega, by omega⟩
        obtain ⟨hy1, hy2⟩ := hy
        rw [hy1] at hcell
        obtain ⟨x, hx⟩ : ∃ x, x = val (l.take k) := ⟨_, rfl⟩
        have hxl : x < 72057594037927936 := by
          have h1 := val_lt HBy.out k hk
          rw [← hx] at h1
          have h2 : 256 ^ k ≤ 256 ^ 7 := Nat.pow_le_pow_right (by decide) (by omega)
          have h3 : (256 : Nat) ^ 7 = 72057594037927936 := by decide
          omega
        have HX := Aside0.mk (show val (l.take (k + 1)) = x * 256 + y from by
          have e1 : l.take (k + 1) = l.take k ++ [l.getD k 0] := by
            rw [List.take_add_one, List.getD_eq_getElem?_getD, List.getElem?_eq_getElem hlt]
            simp
          have e2 : l.getD k 0 = (y : Int) := by rw [← hy1]; unfold rd; rw [Int.toNat_natCast]
          rw [e1, val_snoc, ← hx, e2, Int.toNat_natCast])
        have hor := val_step x y hxl hy2
        rw [← hx]
        have hlti : (k : Int) < (l.length : Int) := by omega
        have HXL := Aside0.mk hxl
        clear hx hy1
        go_wp2_with fail
        exact ⟨⟨k + 1, by omega, by go_num, by rw [HX.out]; simp, trivial⟩, by simp [intOf]; omega⟩
      · obtain rfl : k = l.length := by omega
        go_wp2_with fail
        go_ret
        rw [List.take_length]
        exact ⟨by rw [HV.out.1]; rfl, by rw [HV.out.2]; exact H1.out⟩
  · have hd : decide (isSz z) = false := decide_eq_false hs
    have H57 := Aside0.mk (sized_calls z)
    rw [hd] at H57
    have HF := Aside0.mk (fail_calls h)
    have HV := Aside0.mk (show nmV b s z = 0 ∧ nmS b s z = ⟨s.a, true⟩ from by unfold nmV nmS; rw [if_neg hs, if_neg hs]; exact ⟨rfl, rfl⟩)
    clear h hs hd
    go_enter Try.func21, Try.ntmps21
    go_wp2_with (first | (go_at_call 57; refine (H57.out _).mono ?_; rintro e w7 ⟨rfl, rfl⟩) | (go_at_call 59; refine HF.out.mono ?_; rintro e w7 ⟨⟨u, rfl⟩, hI⟩; have HI := Aside0.mk hI; clear hI))
    go_ret
    exact ⟨by rw [HV.out.1]; rfl, by rw [HV.out.2]; exact HI.out⟩
/-- The end's error. -/
def endV (b : List Int) (s : Rd) : Value := if s.bad = true ∨ 0 < left b s then .iface 55 (.int .i64 2) else .nilIface
theorem end_nil (w : World) : Calls Try.prog 28 #[.pointer none] w fun e w' => e = .returned (.iface 55 (.int .i64 2)) ∧ w = w' := by
  go_enter Try.func28, Try.ntmps28
  go_wp2
  go_ret
  exact ⟨rfl, rfl⟩
theorem end_calls {w : World} {B p : Nat} {v : Value} {b : List Int} {s : Rd} (h : InAt w B p v b s) : Calls Try.prog 28 #[.pointer (some ⟨p, 0, none⟩)] w fun e w' => e = .returned (endV b s) ∧ ∃ m, w' = w.drewN m := by
  obtain ⟨A, c, rfl⟩ := h.form
  obtain ⟨a, bad⟩ := s
  have hx := cc3 h.2.1
  have HL := Aside0.mk (left_calls h)
  clear h
  cases bad with
  | true =>
    go_enter Try.func28, Try.ntmps28
    go_wp2_with fail
    go_ret
    exact ⟨by unfold endV; simp, 0, rfl⟩
  | false =>
    obtain ⟨L, hL⟩ : ∃ L, L = left b ⟨a, false⟩ := ⟨_, rfl⟩
    rw [← hL] at HL
    have HV := Aside0.mk (show endV b ⟨a, false⟩ = if 0 < L then .iface 55 (.int .i64 2) else .nilIface from by unfold endV; rw [← hL]; simp)
    clear hL
    by_cases h0 : 0 < L
    · have h0i : (0 : Int) < (L : Int) := by omega
      go_enter Try.func28, Try.ntmps28
      go_wp2_with (first | (go_at_call 26; refine HL.out.mono ?_; rintro e w7 ⟨rfl, m, rfl⟩))
      go_ret
      exact ⟨by rw [HV.out, if_pos h0]; rfl, m, rfl⟩
    · obtain rfl : L = 0 := by omega
      go_enter Try.func28, Try.ntmps28
      go_wp2_with (first | (go_at_call 26; refine HL.out.mono ?_; rintro e w7 ⟨rfl, m, rfl⟩))
      go_ret
      exact ⟨by rw [HV.out]; rfl, m, rfl⟩
theorem ipad_nil (w : World) : Calls Try.prog 24 #[.pointer none] w fun e w' => (∃ u, e = .returned u) ∧ w = w' := by
  go_enter Try.func24, Try.ntmps24
  go_wp2
  go_loopw [] (fun wr => wr = w) (fun _ => 0)
  case atStart => rfl
  case round =>
    subst hrel
    go_wp2
    go_end0
    first | exact ⟨⟨_, rfl⟩, rfl⟩ | exact ⟨⟨_, rfl⟩, trivial⟩ | exact ⟨_, rfl⟩
theorem next_nil (w : World) (n : Int) : Calls Try.prog 60 #[.pointer none, .int .i64 n] w fun e w' => e = .returned (.slice none 0 0) ∧ w = w' := by
  go_enter Try.func60, Try.ntmps60
  go_wp2_with (first | (go_at_call 59; refine (fail_nil _).mono ?_; rintro e w7 ⟨⟨u, rfl⟩, rfl⟩))
  go_ret
  exact ⟨rfl, rfl⟩
theorem take_nil (w : World) (n : Int) : Calls Try.prog 23 #[.pointer none, .int .i64 n] w fun e w' => ∃ A c, e = .returned (.slice A 0 c) ∧ Below w.heap.size w w' := by
  have HC := Aside0.mk (clone_rb w none 0 [] (Nat.le_refl _) (c_nil w) (by decide))
  go_enter Try.func23, Try.ntmps23
  go_wp2_with (first | (go_at_call 60; refine (next_nil _ _).mono ?_; rintro e w7 ⟨rfl, rfl⟩) | (go_at_call 58; refine HC.out.mono ?_; rintro e w2 ⟨A2, c2, rfl, hR2, hB2⟩; have H2 := Aside0.mk hB2; clear hR2 hB2))
  go_ret
  exact ⟨_, _, rfl, H2.out⟩
theorem inum_nil (w : World) : Calls Try.prog 21 #[.pointer none, .int .i64 1] w fun e w' => e = .returned (.int .u64 0) ∧ w = w' := by
  have H57 := Aside0.mk (sized_calls 1)
  rw [show decide (isSz 1) = true from rfl] at H57
  go_enter Try.func21, Try.ntmps21
  go_wp2_with (first | (go_at_call 57; refine (H57.out _).mono ?_; rintro e w7 ⟨rfl, rfl⟩) | (go_at_call 60; refine (next_nil _ _).mono ?_; rintro e w7 ⟨rfl, rfl⟩))
  go_loopw [5, 17] (fun o i wr => i = .int .i64 0 ∧ o = .int .u64 0 ∧ wr = w) (fun _ _ _ => 0)
  case atStart => exact ⟨rfl, rfl, rfl⟩
  case round =>
    obtain ⟨rfl, rfl, rfl⟩ := hrel
    go_wp2_with fail
    go_ret
    exact ⟨rfl, rfl⟩
theorem pd_next (b : List Int) (f : Nat) (s : Rd) (h1 : s.bad = false) (h2 : s.a % 4 ≠ 0) : pdS b (f + 1) s = pdS b f (if nmV b s 1 ≠ 0 then ⟨(nmS b s 1).a, true⟩ else nmS b s 1) := by
  rw [pdS, if_neg (by rw [h1]; simp; exact h2)]
  split <;> rfl
theorem nm1_pad (b : List Int) (s : Rd) (h1 : s.bad = false) : (nmS b s 1).bad = true ∨ (nmS b s 1).a = s.a + 1 := by
  obtain ⟨a, bad⟩ := s
  simp only at h1
  subst h1
  by_cases h : a < b.length
  · right; rw [(nm_one_yes h).1]
  · left; rw [(nm_one_no h).1]
set_option maxRecDepth 100000 in
set_option maxHeartbeats 2000000 in
theorem ipad_calls {w : World} {B p : Nat} {v : Value} {b : List Int} {s : Rd} (h : InAt w B p v b s) : Calls Try.prog 24 #[.pointer (some ⟨p, 0, none⟩)] w fun e w' => (∃ u, e = .returned u) ∧ IS w B p v b (pdS b 4 s) w' := by
  have HS := Aside0.mk (show IS w B p v b s w from ⟨h, Only.refl _ _⟩)
  clear h
  go_enter Try.func24, Try.ntmps24
  go_wp2_with fail
  go_loopg [] 5 (fun kq wr => ∃ (s' : Rd) (f : Nat), kq = f + 1 ∧ Aside0 (pdS b f s' = pdS b 4 s ∧ (s'.bad = true ∨ padn s'.a ≤ f)) ∧ Aside0 (IS w B p v b s' wr))
  case atStart => exact ⟨s, 4, rfl, ⟨rfl, .inr (by unfold padn; omega)⟩, HS⟩
  case round =>
    obtain ⟨s', f, rfl, HP, HO⟩ := hrel
    have h1 := HO.out.1
    obtain ⟨A, c, rfl⟩ := h1.form
    obtain ⟨a, bad⟩ := s'
    have hx := cc3 h1.2.1
    have HN := Aside0.mk (inum_calls h1 1)
    clear h1
    cases bad with
    | true =>
      go_wp2_with fail
      go_end0
      refine ⟨⟨_, rfl⟩, ?_⟩
      rw [← HP.out.1, pdS_bad _ _ _ rfl]
      exact HO.out
    | false =>
      by_cases h4 : (a : Int) % 4 = 0
      · have H4 := Aside0.mk (show a % 4 = 0 by omega)
        go_wp2_with fail
        go_end0
        refine ⟨⟨_, rfl⟩, ?_⟩
        rw [← HP.out.1, pdS_four _ _ _ H4.out]
        exact HO.out
      · have H4 := Aside0.mk (show a % 4 ≠ 0 by omega)
        cases f with
        | zero =>
          exfalso
          rcases HP.out.2 with h | h
          · cases h
          · unfold padn at h
            have := H4.out
            simp only at h
            omega
        | succ f =>
          have HE := Aside0.mk ((pd_next b f ⟨a, false⟩ rfl H4.out).symm.trans HP.out.1)
          have HPD := Aside0.mk (show (nmS b ⟨a, false⟩ 1).bad = true ∨ padn (nmS b ⟨a, false⟩ 1).a ≤ f from by
            rcases nm1_pad b ⟨a, false⟩ rfl with h | h
            · exact .inl h
            · right
              rw [h]
              rcases HP.out.2 with h' | h'
              · cases h'
              · have := H4.out
                simp only at h' ⊢
                unfold padn at h' ⊢
                omega)
          obtain ⟨s2, hs2⟩ : ∃ s2, s2 = nmS b ⟨a, false⟩ 1 := ⟨_, rfl⟩
          obtain ⟨y, hy⟩ : ∃ y, y = nmV b ⟨a, false⟩ 1 := ⟨_, rfl⟩
          rw [← hs2, ← hy] at HE
          rw [← hs2] at HPD
          have HN2 := Aside0.mk (HN.out.mono (fun e w' (hx : Nums _ B p _ b ⟨a, false⟩ 1 e w') => (show e = .returned (.int .u64 (y : Nat)) ∧ IS wr B p (.slice A b.length c) b s2 w' from by rw [hs2, hy]; exact hx)))
          clear hs2 hy HN
          by_cases h0 : y = 0
          · subst h0
            go_wp2_with (first | (go_at_call 21; refine HN2.out.mono ?_; rintro e w2 ⟨rfl, hI⟩; have HI := Aside0.mk hI; clear hI))
            go_roundg (f + 1)
            case measure => omega
            case rel => exact ⟨s2, f, rfl, ⟨by have h := HE.out; simpa using h, HPD.out⟩, ⟨HI.out.1, HO.out.2.trans HI.out.2⟩⟩
          · have h0i : ¬ (y : Int) = 0 := by omega
            go_wp2_with (first | (go_at_call 21; refine HN2.out.mono ?_; rintro e w2 ⟨rfl, hI⟩; have HI := Aside0.mk hI; clear hI) | (go_at_call 59; refine (fail_calls HI.out.1).mono ?_; rintro e w3 ⟨⟨u, rfl⟩, hI3⟩; have HI3 := Aside0.mk hI3; clear hI3))
            go_roundg (f + 1)
            case measure => omega
            case rel => exact ⟨⟨s2.a, true⟩, f, rfl, ⟨by have h := HE.out; rw [if_pos h0] at h; exact h, .inl rfl⟩, ⟨HI3.out.1, (HO.out.2.trans HI.out.2).trans HI3.out.2⟩⟩
def Reads (w : World) (b : List Int) (e : Ending) (w' : World) : Prop := ∃ p v, e = .returned (.pointer (some ⟨p, 0, none⟩)) ∧ InAt w' w.heap.size p v b ⟨0, false⟩ ∧ Below w.heap.size w w'
theorem read_calls (w : World) (A : Option Addr) (c : Nat) (b : List Int) (hc : b.length ≤ c) (hC : Kd.C (Kd.int .u8) w A b.length b) (hl : b.length ≤ 1048576) (hb : Bytes b) : Calls Try.prog 19 #[.slice A b.length c] w (Reads w b) := by
  have HC := Aside0.mk (clone_rb w A c b hc hC hl)
  have HB := Aside0.mk (And.intro hl hb)
  clear hC hc hl hb
  go_enter Try.func19, Try.ntmps19
  go_wp2_with (first | (go_at_call 58; refine HC.out.mono ?_; rintro e w2 ⟨A2, c2, rfl, hR2, hB2⟩; have H2 := Aside0.mk (And.intro hR2 hB2); clear hR2 hB2))
  go_ret
  exact ⟨_, _, rfl, ⟨H2.out.2.size, blk_new _ _, Kd.R_alloc H2.out.1 _, Nat.zero_le _, HB.out.1, HB.out.2⟩, H2.out.2.alloc H2.out.2.size _⟩
end Go.Proofs.Ytjhciagjofhhiaa.Tl
