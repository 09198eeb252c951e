import Derived.Test.YtjhciagjofhhiaaTlC
/- The methods of In. -/
namespace Go.Proofs.Ytjhciagjofhhiaa.Tl
open Go.RowKit Go.Proofs.YtjhciagjofhhiaaW.PrintWords Go.Proofs.YtjhciagjofhhiaaW.PrintLast Go.Proofs.YtjhciagjofhhiaaW.PrintMore Go.Proofs.Ytjhciagjofhhiaa.Sh
set_option linter.unusedVariables false
set_option linter.unusedSimpArgs false
theorem w64 (x y : Int) (h : x = y) (h0 : 0 ≤ y) (h1 : y < 4611686018427387904) : wrap64 x = y := by subst h; unfold wrap64; omega
theorem w64b (a k : Nat) (h : a + k ≤ 1048576) : wrap64 ((a : Int) + (k : Int)) = ((a + k : Nat) : Int) ∧ wrap64 (((a + k : Nat) : Int) - (k : Int)) = (a : Int) :=
  ⟨w64 _ _ (by omega) (by omega) (by omega), w64 _ _ (by omega) (by omega) (by omega)⟩
/-- A reader at block p. -/
def InAt (w : World) (B p : Nat) (v : Value) (b : List Int) (s : Rd) : Prop :=
  B ≤ p ∧ w.heap[p]? = some (.cells #[v, .int .i64 (s.a : Nat), .bool s.bad] 118 (0, 0)) ∧ RB w B v b ∧ s.a ≤ b.length ∧ b.length ≤ 1048576 ∧ Bytes b
/-- One block alone may have turned. -/
structure Only (w w' : World) (p : Nat) : Prop where
  os : w'.os = w.os
  tape : w'.tape = w.tape
  output : w'.output = w.output
  size : w.heap.size ≤ w'.heap.size
  block : ∀ k, k < w.heap.size → k ≠ p → w'.heap[k]? = w.heap[k]?
theorem Only.refl (w : World) (p : Nat) : Only w w p := ⟨rfl, rfl, rfl, Nat.le_refl _, fun _ _ _ => rfl⟩
theorem Only.drewN (w : World) (p m : Nat) : Only w (w.drewN m) p := ⟨rfl, rfl, rfl, Nat.le_refl _, fun _ _ _ => rfl⟩
theorem Only.of {w w' : World} {p : Nat} (h : Below w.heap.size w w') : Only w w' p := ⟨h.os, h.tape, h.output, h.size, fun k hk _ => h.block k hk⟩
theorem Only.trans {w w1 w2 : World} {p : Nat} (h1 : Only w w1 p) (h2 : Only w1 w2 p) : Only w w2 p :=
  ⟨h2.os.trans h1.os, h2.tape.trans h1.tape, h2.output.trans h1.output, Nat.le_trans h1.size h2.size, fun k hk hp => (h2.block k (Nat.lt_of_lt_of_le hk h1.size) hp).trans (h1.block k hk hp)⟩
theorem Only.set (w : World) (p j : Nat) (u : Value) : Only w (w.setCell ⟨p, j, none⟩ u) p := ⟨rfl, rfl, rfl, by simp, fun k hk hp => Below.heap_setCell w ⟨p, j, none⟩ u k hp⟩
theorem Only.below {w w' : World} {p B : Nat} (h : Only w w' p) (hp : B ≤ p) (hB : B ≤ w.heap.size) : Below B w w' := ⟨h.os, h.tape, h.output, h.size, fun k hk => h.block k (Nat.lt_of_lt_of_le hk hB) (by omega)⟩
section
variable {w w' : World} {B p : Nat} {v : Value} {b : List Int} {s : Rd}
theorem InAt.lt (h : InAt w B p v b s) : p < w.heap.size := blk_lt h.2.1
theorem InAt.form (h : InAt w B p v b s) : ∃ A c, v = .slice A b.length c := Kd.R_slice h.2.2.1
theorem InAt.below (h : InAt w B p v b s) (hb : Below w.heap.size w w') : InAt w' B p v b s := ⟨h.1, blk_below h.2.1 hb, Kd.R_below h.2.2.1 hb, h.2.2.2⟩
theorem InAt.drewN (h : InAt w B p v b s) (m : Nat) : InAt (w.drewN m) B p v b s := h.below (pw_below_drewN (Below.refl _ _) m)
theorem InAt.fail (h : InAt w B p v b s) : InAt (w.setCell ⟨p, 2, none⟩ (.bool true)) B p v b ⟨s.a, true⟩ := ⟨h.1, blk_put h.2.1 2 _ rfl, Kd.R_set h.2.2.1 h.2.1 (by decide) 2 _, h.2.2.2⟩
theorem InAt.move (h : InAt w B p v b s) (a' : Nat) (ha : a' ≤ b.length) : InAt (w.setCell ⟨p, 1, none⟩ (.int .i64 (a' : Nat))) B p v b ⟨a', s.bad⟩ := ⟨h.1, blk_put h.2.1 1 _ rfl, Kd.R_set h.2.2.1 h.2.1 (by decide) 1 _, ha, h.2.2.2.2⟩
end
/-- What a method of In leaves. -/
def IS (w : World) (B p : Nat) (v : Value) (b : List Int) (s : Rd) (w' : World) : Prop := InAt w' B p v b s ∧ Only w w' p
theorem fail_nil (w : World) : Calls Try.prog 59 #[.pointer none] w fun e w' => (∃ u, e = .returned u) ∧ w = w' := by
  go_enter Try.func59, Try.ntmps59
  go_wp2
  go_end0
  first | exact ⟨⟨_, rfl⟩, rfl⟩ | exact ⟨⟨_, rfl⟩, trivial⟩
theorem fail_calls {w : World} {B p : Nat} {v : Value} {b : List Int} {s : Rd} (h : InAt w B p v b s) : Calls Try.prog 59 #[.pointer (some ⟨p, 0, none⟩)] w fun e w' => (∃ u, e = .returned u) ∧ IS w B p v b ⟨s.a, true⟩ w' := by
  obtain ⟨A, c, rfl⟩ := h.form
  have H := Aside0.mk h
  have hx := cc3 h.2.1
  clear h
  go_enter Try.func59, Try.ntmps59
  go_wp2_with fail
  go_end0
  exact ⟨⟨_, rfl⟩, H.out.fail, Only.set _ _ _ _⟩
theorem left_nil (w : World) : Calls Try.prog 26 #[.pointer none] w fun e w' => e = .returned (.int .i64 0) ∧ w = w' := by
  go_enter Try.func26, Try.ntmps26
  go_wp2
  go_ret
  exact ⟨rfl, rfl⟩
theorem left_calls {w : World} {B p : Nat} {v : Value} {b : List Int} {s : Rd} (h : InAt w B p v b s) : Calls Try.prog 26 #[.pointer (some ⟨p, 0, none⟩)] w fun e w' => e = .returned (.int .i64 (left b s : Nat)) ∧ ∃ m, w' = w.drewN m := by
  obtain ⟨A, c, rfl⟩ := h.form
  obtain ⟨a, bad⟩ := s
  have hx := cc3 h.2.1
  have ha : a ≤ b.length := h.2.2.2.1
  have hl := h.2.2.2.2.1
  have hw : wrap64 ((b.length : Int) - (a : Int)) = ((b.length - a : Nat) : Int) := by unfold wrap64; omega
  clear h
  cases bad with
  | true =>
    go_enter Try.func26, Try.ntmps26
    go_wp2_with fail
    go_ret
    exact ⟨rfl, 0, rfl⟩
  | false =>
    go_enter Try.func26, Try.ntmps26
    go_wp2_with fail
    go_quiet (fail)
    go_wp2_with fail
    go_ret
    exact ⟨by unfold left; simp; omega, _, rfl⟩
def Nexts (w : World) (B p : Nat) (v : Value) (b : List Int) (s : Rd) (n : Int) (e : Ending) (w' : World) : Prop :=
  ∃ A c, e = .returned (.slice A (tkL b s n).length c) ∧ (tkL b s n).length ≤ c ∧ Kd.C (Kd.int .u8) w' A (tkL b s n).length (tkL b s n) ∧ IS w B p v b (tkS b s n) w'
theorem c_nil (w : World) : Kd.C (Kd.int .u8) w none 0 [] := ⟨rfl, by decide, fun h => absurd h (by decide)⟩
theorem nexts_bad {w w' : World} {B p : Nat} {v : Value} {b : List Int} {s : Rd} {n : Int} (hb : tkBad b s n) (h : IS w B p v b ⟨s.a, true⟩ w') : Nexts w B p v b s n (.returned (.slice none 0 0)) w' := by
  obtain ⟨e1, e2⟩ := tk_bad hb
  unfold Nexts
  rw [e1, e2]
  exact ⟨none, 0, rfl, Nat.le_refl _, c_nil w', h⟩
set_option maxRecDepth 100000 in
theorem next_calls {w : World} {B p : Nat} {v : Value} {b : List Int} {s : Rd} (h : InAt w B p v b s) (n : Int) : Calls Try.prog 60 #[.pointer (some ⟨p, 0, none⟩), .int .i64 n] w (Nexts w B p v b s n) := by
  obtain ⟨A, c, rfl⟩ := h.form
  obtain ⟨a, bad⟩ := s
  have H := Aside0.mk h
  have hx := cc3 h.2.1
  have HF := Aside0.mk (fun m => fail_calls (h.drewN m))
  have HLf := Aside0.mk (fun m => left_calls (h.drewN m))
  clear h
  cases bad with
  | true =>
    go_enter Try.func60, Try.ntmps60
    go_wp2_with (first | (go_at_call 59; refine (HF.out 0).mono ?_; rintro e w7 ⟨⟨u, rfl⟩, hI⟩; have HI := Aside0.mk hI; clear hI))
    go_ret
    exact nexts_bad (.inl rfl) HI.out
  | false =>
    by_cases hn0 : n < 0
    · go_enter Try.func60, Try.ntmps60
      go_wp2_with (first | (go_at_call 59; refine (HF.out 0).mono ?_; rintro e w7 ⟨⟨u, rfl⟩, hI⟩; have HI := Aside0.mk hI; clear hI))
      go_ret
      exact nexts_bad (.inr (.inl (by assumption))) HI.out
    · obtain ⟨k, rfl⟩ := Int.eq_ofNat_of_zero_le (show 0 ≤ n by omega)
      obtain ⟨L, hL⟩ : ∃ L, L = left b ⟨a, false⟩ := ⟨_, rfl⟩
      rw [← hL] at HLf
      have hLL : L = b.length - a := by rw [hL]; unfold left; simp
      have hal := H.out.2.2.2.1
      have hbl := H.out.2.2.2.2.1
      simp only at hal
      have hn : ¬ (k : Int) < 0 := by omega
      by_cases hgt : L < k
      · have hbad := Aside0.mk (show tkBad b ⟨a, false⟩ (k : Int) from .inr (.inr (by rw [← hL]; omega)))
        have hgti : (L : Int) < (k : Int) := by omega
        clear hL hLL hal hbl hn0
        go_enter Try.func60, Try.ntmps60
        go_wp2_with (first | (go_at_call 26; refine (HLf.out 0).mono ?_; rintro e w7 ⟨rfl, m, rfl⟩) | (go_at_call 59; refine (HF.out _).mono ?_; rintro e w7 ⟨⟨u, rfl⟩, hI⟩; have HI := Aside0.mk hI; clear hI))
        go_ret
        exact nexts_bad hbad.out ⟨HI.out.1, (Only.drewN _ _ _).trans HI.out.2⟩
      · have hng : ¬ tkBad b ⟨a, false⟩ (k : Int) := by
          unfold tkBad
          rw [← hL]
          simp
          omega
        have HG := Aside0.mk hng
        have hle : a + k ≤ b.length := by omega
        obtain ⟨i0, hi0, _, hsz, _⟩ := info_parts info5
        obtain ⟨_, hc0, hC0⟩ := Kd.R_reads' H.out.2.2.1
        obtain ⟨A', hrun, hrd, hcap⟩ := print_mid_int (P := Try.prog) (k := .u8) 26 5 Try.underlying26 hi0 hsz A c b (a : Int) ((a + k : Nat) : Int) (by omega) (by omega) (by omega) hc0
        simp only [Int.toNat_natCast] at hrun hrd hcap
        have hlen : ((b.take (a + k)).drop a).length = k := by rw [List.length_drop, List.length_take]; omega
        have htk : tkL b ⟨a, false⟩ (k : Int) = (b.take (a + k)).drop a := by
          rw [(tk_good hng).2]
          rw [List.drop_take, Int.toNat_natCast]
          congr 1
          omega
        have hts : tkS b ⟨a, false⟩ (k : Int) = ⟨a + k, false⟩ := (tk_good hng).1
        have HR := Aside0.mk (fun W (hB : Only w W p) (hR : RB W B (.slice A b.length c) b) => (Kd.C_of_reads (hrd W (Kd.reads_of_C (Kd.R_reads' hR).2.2)) : Kd.C (Kd.int .u8) W A' _ _))
        rw [hlen] at hrun hcap
        have HCAP := Aside0.mk hcap
        have HTK := Aside0.mk (And.intro htk hts)
        have HLEN := Aside0.mk hlen
        have hgti : ¬ (L : Int) < (k : Int) := by omega
        obtain ⟨hw1, hw2⟩ := w64b a k (Nat.le_trans hle hbl)
        have HLE := Aside0.mk hle
        clear hL hLL hal hbl hng hle htk hts hlen hrd hcap hC0 hc0 hi0 hsz
        obtain ⟨q, hq⟩ : ∃ q, q = a + k := ⟨_, rfl⟩
        rw [← hq] at hw1 hw2 hrun
        have HQ := Aside0.mk hq
        clear hq
        go_enter Try.func60, Try.ntmps60
        go_wp2_with (first | (go_at_call 26; refine (HLf.out 0).mono ?_; rintro e w7 ⟨rfl, m, rfl⟩))
        have hy := cc3 (blk_put (H.out.drewN m).2.1 1 (.int .i64 (q : Nat)) rfl)
        go_quiet (fail)
        go_wp2_with fail
        go_ret
        have hI := (((H.out.drewN m).move q (by rw [HQ.out]; exact HLE.out)).drewN nq)
        have hO : Only w (((w.drewN m).setCell ⟨p, 1, none⟩ (.int .i64 (q : Nat))).drewN nq) p := ((Only.drewN w p m).trans (Only.set _ _ _ _)).trans (Only.drewN _ _ _)
        unfold Nexts
        rw [HTK.out.1, HTK.out.2, HLEN.out]
        have hC := HR.out _ hO hI.2.2.1
        rw [HLEN.out] at hC
        rw [HQ.out] at hI hC ⊢
        exact ⟨A', _, rfl, HCAP.out, hC, hI, by rw [← HQ.out]; exact hO⟩
end Go.Proofs.Ytjhciagjofhhiaa.Tl
