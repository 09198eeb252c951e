import Derived.Test.YtjhciagjofhhiaaTlF
/- Params. -/
namespace Go.Proofs.Ytjhciagjofhhiaa.Tl
open Go.RowKit Go.Proofs.YtjhciagjofhhiaaW.PrintWords Go.Proofs.YtjhciagjofhhiaaW.PrintLast Go.Proofs.YtjhciagjofhhiaaW.PrintMore Go.Proofs.Ytjhciagjofhhiaa.Sh
set_option linter.unusedVariables false
set_option linter.unusedSimpArgs false
theorem info115 : (Try.prog.info? 115).map (fun i => (i.zero, i.size, i.bytes)) = some (some (.agg #[.int .i64 0, .slice none 0 0]), 2, 32) := by kernel_rfl
/-- The list of parameters, in the call's own memory. -/
abbrev PR (w : World) (base : Nat) (v : Value) (ps : List Par) : Prop := Kd.R PAR 115 w base (fun _ => True) v ps
theorem pr_only {w w' : World} {base p : Nat} {v : Value} {ps : List Par} {cs : Array Value} (h : PR w base v ps) (hb : w.heap[p]? = some (.cells cs 118 (0, 0))) (hO : Only w w' p) : PR w' base v ps :=
  Kd.R_mono (Kd.R_step (Kd.R_types h hb (by decide)) (fun k hk hlt => hO.block k hlt hk.2)) (fun _ _ => trivial)
theorem prs_step (f : Nat) {c : List Int} (h : c ≠ []) : (4 ≤ c.length ∧ ¬ bad1 c (nOf c) → prs (f + 1) c = (prs f (c.drop (nOf c + padn (nOf c)))).map (fun l => (((val (c.take 2) : Nat) : Int), (c.drop 4).take (nOf c - 4)) :: l)) ∧ (¬ (4 ≤ c.length ∧ ¬ bad1 c (nOf c)) → prs (f + 1) c = none) := by
  constructor
  · intro ⟨h4, hb⟩
    rw [prs, if_neg h, if_neg (by omega), if_neg hb]
  · intro hn
    rw [prs, if_neg h]
    by_cases h4 : c.length < 4
    · rw [if_pos h4]
    · rw [if_neg h4]
      by_cases hb : bad1 c (nOf c)
      · rw [if_pos hb]
      · exact absurd ⟨by omega, hb⟩ hn
/-- How far the program's loop has come. -/
def Come (b : List Int) (s : Rd) (ps : List Par) : Prop :=
  s.a ≤ b.length ∧ ((s.bad = true ∧ prs (b.length + 1) b = none) ∨ (s.bad = false ∧ s.a % 4 = 0 ∧ ∃ f, b.length - s.a < f ∧ prs (b.length + 1) b = (prs f (b.drop s.a)).map (fun l => ps ++ l)))
theorem come_start (b : List Int) : Come b ⟨0, false⟩ [] := ⟨Nat.zero_le _, .inr ⟨rfl, rfl, b.length + 1, by simp, by simp⟩⟩
theorem left_pos {b : List Int} {s : Rd} (h : 0 < left b s) : s.bad = false ∧ s.a < b.length := by
  unfold left at h
  split at h
  · omega
  · rename_i h'
    exact ⟨by simpa using h', by omega⟩
theorem come_end {b : List Int} {s : Rd} {ps : List Par} (h : Come b s ps) (h0 : left b s = 0) : (s.bad = true ∧ prs (b.length + 1) b = none) ∨ (s.bad = false ∧ prs (b.length + 1) b = some ps) := by
  rcases h.2 with h' | ⟨h1, _, f, hf, h2⟩
  · exact .inl h'
  · right
    refine ⟨h1, ?_⟩
    unfold left at h0
    rw [h1] at h0
    simp at h0
    rw [h2, List.drop_eq_nil_of_le (by omega)]
    obtain ⟨f', rfl⟩ : ∃ f', f = f' + 1 := ⟨f - 1, by omega⟩
    rw [prs_nil]
    simp
theorem come_step {b : List Int} (hb : ∀ x ∈ b, 0 ≤ x ∧ x < 256) {s : Rd} {ps : List Par} (h : Come b s ps) (h0 : 0 < left b s) :
    (4000 < (rV b s).length → prs (b.length + 1) b = none) ∧ ((rV b s).length ≤ 4000 → Come b (r4 b s) (ps ++ [((rK b s : Int), rV b s)]) ∧ ((r4 b s).bad = true ∨ s.a + 4 ≤ (r4 b s).a)) := by
  obtain ⟨hbad, hlt⟩ := left_pos h0
  rcases h.2 with h' | ⟨_, h4, f, hf, h2⟩
  · rw [h'.1] at hbad; cases hbad
  · obtain ⟨a, bad⟩ := s
    simp only at hbad hlt h4 hf h2
    subst hbad
    obtain ⟨f, rfl⟩ : ∃ f', f = f' + 1 := ⟨f - 1, by omega⟩
    have hne : b.drop a ≠ [] := by
      intro h
      have := congrArg List.length h
      simp at this
      omega
    have hr4 : (r4 b ⟨a, false⟩).a ≤ b.length := by
      unfold r4 r3 r2
      exact pdS_le b 4 _ (tkS_le (nmS_le (nmS_le (show (⟨a, false⟩ : Rd).a ≤ b.length from by show a ≤ b.length; omega) 2) 2) _)
    obtain ⟨c1, c2⟩ := round_cases hb a h4 hlt
    obtain ⟨p1, p2⟩ := prs_step f hne
    by_cases hc : 4 ≤ (b.drop a).length ∧ ¬ bad1 (b.drop a) (nOf (b.drop a))
    · obtain ⟨q1, q2, q3, q4, q5, q6⟩ := c1 hc
      refine ⟨fun h => absurd q4 (by omega), fun _ => ⟨⟨hr4, .inr ?_⟩, .inr (by rw [q1]; show a + 4 ≤ a + (nOf (b.drop a) + padn (nOf (b.drop a))); omega)⟩⟩
      rw [q1]
      refine ⟨rfl, ?_, f, ?_, ?_⟩
      · show (a + (nOf (b.drop a) + padn (nOf (b.drop a)))) % 4 = 0
        have := padn_mod (nOf (b.drop a))
        omega
      · show b.length - (a + (nOf (b.drop a) + padn (nOf (b.drop a)))) < f
        omega
      · rw [h2, p1 hc, q2, q3]
        simp only [List.drop_drop]
        cases prs f (b.drop (a + (nOf (b.drop a) + padn (nOf (b.drop a))))) with
        | none => rfl
        | some l => simp
    · have hnone : prs (b.length + 1) b = none := by rw [h2, p2 hc]; rfl
      refine ⟨fun _ => hnone, fun hle => ?_⟩
      have hbad : (r4 b ⟨a, false⟩).bad = true := by
        rcases c2 hc with h | h
        · exact h
        · omega
      exact ⟨⟨hr4, .inl ⟨hbad, hnone⟩⟩, .inl hbad⟩
theorem left_less {b : List Int} {s s' : Rd} (h0 : 0 < left b s) (h : s'.bad = true ∨ s.a + 4 ≤ s'.a) : left b s' < left b s := by
  obtain ⟨hbad, hlt⟩ := left_pos h0
  unfold left at h0 ⊢
  rcases h with h | h
  · rw [if_pos h]; exact h0
  · rw [hbad]
    split
    · simp; omega
    · simp; omega
theorem rK_lt {b : List Int} (hb : Bytes b) (s : Rd) : nmV b s 2 < 65536 := by
  unfold nmV
  rw [if_pos (.inr (.inl rfl))]
  have h1 : (tkL b s 2).length ≤ 2 := by
    unfold tkL
    split
    · simp
    · rw [List.length_take]; exact Nat.min_le_left _ _
  have h2 := val_lt (tkL_bytes hb s 2) (tkL b s 2).length (Nat.le_refl _)
  rw [List.take_length] at h2
  have h3 : 256 ^ (tkL b s 2).length ≤ 256 ^ 2 := Nat.pow_le_pow_right (by decide) h1
  have h4 : (256 : Nat) ^ 2 = 65536 := by decide
  omega
def Parsed (w : World) (b : List Int) (e : Ending) (w' : World) : Prop :=
  Below w.heap.size w w' ∧ ((∃ ps v, prs (b.length + 1) b = some ps ∧ e = .returned (.tuple #[v, .nilIface]) ∧ PR w' w.heap.size v ps) ∨ (prs (b.length + 1) b = none ∧ e = .returned (.tuple #[.slice none 0 0, .iface 55 (.int .i64 2)])))
theorem par_m {W : World} {base : Nat} {A5 A6 : Option Addr} {n5 c5 n6 c6 : Nat} {ps : List Par} {k : Int} {val : List Int} (h : PR W base (.slice A5 n5 c5) ps) (hv : RB W base (.slice A6 n6 c6) val) :
    PAR.M W base (fun q => some q ≠ (Value.slice A5 n5 c5).ownBlock) (k, val) [.int .i64 k, .slice A6 n6 c6] := by
  refine ⟨[.int .i64 k], [.slice A6 n6 c6], rfl, rfl, _, rfl, Kd.R_mono (Kd.R_bound hv) (fun q hq he => ?_)⟩
  obtain ⟨_, _, _, t, ht, cells, hc⟩ := hq
  obtain ⟨cur, hcur⟩ := Kd.R_typed h q he.symm
  rw [hc] at hcur
  injection hcur with hcur
  injection hcur with _ hcur
  have h5 : t = 5 := by simpa [Kd.int, Kd.scalar] using ht
  rw [h5] at hcur
  cases hcur
theorem rb_only {w w' : World} {B q : Nat} {v : Value} {l : List Int} {cs : Array Value} {t : Nat} (h : RB w B v l) (hb : w.heap[q]? = some (.cells cs t (0, 0))) (h5 : (5 : Nat) ≠ t) (hO : Only w w' q) : RB w' B v l :=
  Kd.R_mono (Kd.R_step (Kd.R_types h hb (fun x hx => by
    have h' : x = 5 := by simpa [Kd.int, Kd.scalar] using hx
    rw [h']
    exact h5)) (fun k hk hlt => hO.block k hlt hk.2)) (fun _ _ => trivial)
theorem InAt.only {w w' : World} {B p q : Nat} {v : Value} {b : List Int} {s : Rd} {cs : Array Value} {t : Nat} (h : InAt w B p v b s) (hb : w.heap[q]? = some (.cells cs t (0, 0))) (h5 : (5 : Nat) ≠ t) (hp : q ≠ p) (hO : Only w w' q) : InAt w' B p v b s :=
  ⟨h.1, (hO.block p h.lt (fun e => hp e.symm)).trans h.2.1, rb_only h.2.2.1 hb h5 hO, h.2.2.2⟩
/-- The list of parameters, its blocks below G. -/
abbrev PRL (w : World) (base G : Nat) (v : Value) (ps : List Par) : Prop := Kd.R PAR 115 w base (fun k => k < G) v ps
theorem prl_only {w w' : World} {base G p : Nat} {v : Value} {ps : List Par} {cs : Array Value} (h : PRL w base G v ps) (hb : w.heap[p]? = some (.cells cs 118 (0, 0))) (hO : Only w w' p) : PRL w' base G v ps :=
  Kd.R_mono (Kd.R_step (Kd.R_types h hb (by decide)) (fun k hk hlt => hO.block k hlt hk.2)) (fun _ hk => hk.1)
theorem prl_set {w : World} {base G : Nat} {v : Value} {ps : List Par} (h : PRL w base G v ps) (j : Nat) (u : Value) : PRL (w.setCell ⟨G, j, none⟩ u) base G v ps :=
  Kd.R_step h (fun k hk hlt => Below.heap_setCell w ⟨G, j, none⟩ u k (fun e => absurd hk (by rw [e]; exact Nat.lt_irrefl _)))
theorem in_grown {w w' : World} {B p : Nat} {v : Value} {b : List Int} {s : Rd} {row : Option Nat} (h : InAt w B p v b s) (hg : w.grownBy w' row) (hr : ∀ k, some k = row → ∃ cur, w.heap[k]? = some (.cells cur 115 (0, 0))) : InAt w' B p v b s := by
  refine ⟨h.1, (hg.block p h.lt (fun e => ?_)).trans h.2.1, Kd.R_mono (Kd.R_grown (Kd.R_bound h.2.2.1) hg (fun k hk e => ?_)) (fun _ _ => trivial), h.2.2.2⟩
  · obtain ⟨cur, hc⟩ := hr p e
    have h2 := h.2.1
    rw [hc] at h2
    injection h2 with h2
    injection h2 with _ h2
    cases h2
  · obtain ⟨_, _, _, t, ht, cells, hc⟩ := hk
    obtain ⟨cur, hcur⟩ := hr k e
    rw [hc] at hcur
    injection hcur with hcur
    injection hcur with _ hcur
    have h5 : t = 5 := by simpa [Kd.int, Kd.scalar] using ht
    rw [h5] at hcur
    cases hcur
/-- The loop's state. -/
def PLS (w : World) (p : Nat) (v : Value) (b : List Int) (vo : Value) (kq : Nat) (wr : World) : Prop :=
  ∃ s ps, left b s < kq ∧ InAt wr w.heap.size p v b s ∧ Below w.heap.size w wr ∧ Come b s ps ∧ PR wr w.heap.size vo ps ∧ (s.bad = true ∨ 4 * ps.length ≤ s.a)
set_option maxRecDepth 100000 in
set_option maxHeartbeats 4000000 in
theorem params_calls (w : World) (A : Option Addr) (c : Nat) (b : List Int) (hc : b.length ≤ c) (hC : Kd.C (Kd.int .u8) w A b.length b) (hl : b.length ≤ 1048576) (hb : Bytes b) : Calls Try.prog 31 #[.slice A b.length c] w (Parsed w b) := by
  have HR := Aside0.mk (read_calls w A c b hc hC hl hb)
  have HBY := Aside0.mk hb
  have HLB := Aside0.mk hl
  clear hc hC hl hb
  go_enter Try.func31, Try.ntmps31
  go_wp2_with fail
  refine HR.out.mono ?_
  rintro e w1 ⟨p, v, rfl, hI, hB⟩
  have HS0 := Aside0.mk (show PLS w p v b (.slice none 0 0) (b.length + 1) w1 from ⟨⟨0, false⟩, [], by unfold left; simp, hI, hB, come_start b, Kd.R_nil _ _ _ _ _, .inr (by simp)⟩)
  clear hI hB HR
  go_wp2_with fail
  go_loopg [5] (b.length + 1) (fun kq vo wr => Aside0 (PLS w p v b vo kq wr))
  case atStart => exact HS0
  case round =>
    obtain ⟨s, ps, hlk, hI, hB, hcome, hpr, hps⟩ := hrel.out
    obtain ⟨A5, c5, rfl⟩ := Kd.R_slice hpr
    have HL := Aside0.mk (left_calls hI)
    have HI := Aside0.mk hI
    have HB := Aside0.mk hB
    have HCM := Aside0.mk hcome
    have HPR := Aside0.mk hpr
    have HPS := Aside0.mk hps
    have HLK := Aside0.mk hlk
    clear hI hB hcome hpr hps hlk hrel
    obtain ⟨L, hL⟩ : ∃ L, L = left b s := ⟨_, rfl⟩
    rw [← hL] at HL
    by_cases hL0 : L = 0
    · subst hL0
      have HCE := Aside0.mk (come_end HCM.out hL.symm)
      have HE := Aside0.mk (fun m => end_calls (HI.out.drewN m))
      rcases HCE.out with ⟨h1, h2⟩ | ⟨h1, h2⟩
      · have hv : endV b s = .iface 55 (.int .i64 2) := by unfold endV; rw [if_pos (.inl h1)]
        rw [hv] at HE
        have HN := Aside0.mk h2
        clear h1 h2 hv HCE hL
        go_wp2_with (first | (go_at_call 26; refine HL.out.mono ?_; rintro e w7 ⟨rfl, m, rfl⟩) | (go_at_call 28; refine (HE.out _).mono ?_; rintro e w7 ⟨rfl, m2, rfl⟩))
        go_ret2
        exact ⟨HB.out.trans (pw_below_drewN (Below.refl _ _) _), .inr ⟨HN.out, rfl⟩⟩
      · have hv : endV b s = .nilIface := by unfold endV; rw [if_neg (by rw [h1, ← hL]; simp)]
        rw [hv] at HE
        have HN := Aside0.mk h2
        clear h1 h2 hv HCE hL
        go_wp2_with (first | (go_at_call 26; refine HL.out.mono ?_; rintro e w7 ⟨rfl, m, rfl⟩) | (go_at_call 28; refine (HE.out _).mono ?_; rintro e w7 ⟨rfl, m2, rfl⟩))
        go_ret2
        exact ⟨HB.out.trans (pw_below_drewN (Below.refl _ _) _), .inl ⟨_, _, HN.out, rfl, Kd.R_below HPR.out (pw_below_drewN (Below.refl _ _) _)⟩⟩
    · cases gk with
      | zero => exact absurd HLK.out (by omega)
      | succ k1 =>
      have hLi : (0 : Int) < (L : Int) := by omega
      have HL0 := Aside0.mk (show 0 < left b s by rw [← hL]; omega)
      have HST := Aside0.mk (come_step HBY.out HCM.out HL0.out)
      clear hL hL0
      go_wp2_with (first | (go_at_call 26; refine HL.out.mono ?_; rintro e w7 ⟨rfl, m, rfl⟩))
      have HI0 := Aside0.mk (HI.out.drewN m)
      have HB0 := Aside0.mk (HB.out.trans (pw_below_drewN (Below.refl _ _) m))
      have HPR0 := Aside0.mk (Kd.R_below HPR.out (pw_below_drewN (Below.refl wr.heap.size wr) m))
      generalize wr.drewN m = w0 at HI0 HB0 HPR0 ⊢
      refine (inum_calls HI0.out 2).mono ?_
      rintro e w2 ⟨rfl, hi2⟩
      have HPR2 := Aside0.mk (show PRL w2 w.heap.size w2.heap.size (.slice A5 ps.length c5) ps from Kd.R_mono (Kd.R_bound (pr_only HPR0.out HI0.out.2.1 hi2.2)) (fun k hk => hk.2.2.1))
      have HB2 := Aside0.mk (HB0.out.trans (hi2.2.below HI0.out.1 HB0.out.size))
      have HI2 := Aside0.mk hi2.1
      clear hi2
      have hKl := rK_lt HBY.out s
      obtain ⟨K, hK⟩ : ∃ K, K = nmV b s 2 := ⟨_, rfl⟩
      obtain ⟨s1, hs1⟩ : ∃ s1, s1 = nmS b s 2 := ⟨_, rfl⟩
      rw [← hK] at hKl
      rw [← hs1] at HI2
      rw [← hK]
      have hKw : (K : Int) < 65536 := by omega
      have HK := Aside0.mk (And.intro hK hs1)
      clear hK hs1
      have HX3 := Aside0.mk (blk_new w2 (.cells #[.int .i64 (K : Nat), .slice none 0 0] 115 (0, 0)))
      have HI3 := Aside0.mk (HI2.out.below ((Below.refl w2.heap.size w2).alloc (Nat.le_refl _) (.cells #[.int .i64 (K : Nat), .slice none 0 0] 115 (0, 0))))
      have HPR3 := Aside0.mk (Kd.R_below HPR2.out ((Below.refl w2.heap.size w2).alloc (Nat.le_refl _) (.cells #[.int .i64 (K : Nat), .slice none 0 0] 115 (0, 0))))
      have HB3 := Aside0.mk (HB2.out.alloc HB2.out.size (.cells #[.int .i64 (K : Nat), .slice none 0 0] 115 (0, 0)))
      have HG := Aside0.mk (show w2.heap.size ≠ p ∧ w.heap.size ≤ w2.heap.size from ⟨by have := HI2.out.lt; omega, HB2.out.size⟩)
      go_wp2_with fail
      generalize w2.alloc (Obj.cells #[Value.int IntKind.i64 (K : Nat), Value.slice none 0 0] 115) = w3 at HX3 HI3 HPR3 HB3 ⊢
      obtain ⟨g6, hg6⟩ : ∃ g, g = w2.heap.size := ⟨_, rfl⟩
      rw [← hg6] at HX3 HG HPR3 ⊢
      clear hg6
      refine (inum_calls HI3.out 2).mono ?_
      rintro e w4 ⟨rfl, hi4⟩
      have HPR4 := Aside0.mk (prl_only HPR3.out HI3.out.2.1 hi4.2)
      have HX4 := Aside0.mk ((hi4.2.block g6 (blk_lt HX3.out) HG.out.1).trans HX3.out)
      have HB4 := Aside0.mk (HB3.out.trans (hi4.2.below HI3.out.1 HB3.out.size))
      have HI4 := Aside0.mk hi4.1
      clear hi4
      have hNl := rK_lt HBY.out s1
      obtain ⟨N, hN⟩ : ∃ N, N = nmV b s1 2 := ⟨_, rfl⟩
      obtain ⟨s2, hs2⟩ : ∃ s2, s2 = nmS b s1 2 := ⟨_, rfl⟩
      rw [← hN] at hNl
      rw [← hs2] at HI4
      rw [← hN]
      have hNw : (N : Int) < 65536 := by omega
      have HN := Aside0.mk (And.intro hN hs2)
      clear hN hs2
      have hN4 : wrap64 ((N : Int) - 4) = (N : Int) - 4 := by unfold wrap64; omega
      go_wp2_with fail
      refine (take_calls HI4.out ((N : Int) - 4)).mono ?_
      rintro e w5 ⟨A6, c6, rfl, hR5, hi5⟩
      have HPR5 := Aside0.mk (prl_only HPR4.out HI4.out.2.1 hi5.2)
      have HX5 := Aside0.mk ((hi5.2.block g6 (blk_lt HX4.out) HG.out.1).trans HX4.out)
      have HB5 := Aside0.mk (HB4.out.trans (hi5.2.below HI4.out.1 HB4.out.size))
      have HR5 := Aside0.mk (Kd.R_lower hR5 HB4.out.size)
      have HI5 := Aside0.mk hi5.1
      clear hi5 hR5
      obtain ⟨V, hV⟩ : ∃ V, V = tkL b s2 ((N : Int) - 4) := ⟨_, rfl⟩
      obtain ⟨s3, hs3⟩ : ∃ s3, s3 = tkS b s2 ((N : Int) - 4) := ⟨_, rfl⟩
      rw [← hV] at HR5 ⊢
      rw [← hs3] at HI5
      have HV := Aside0.mk (And.intro hV hs3)
      clear hV hs3
      have hx := cc2 HX5.out
      go_wp2_with fail
      have HX6 := Aside0.mk (blk_put HX5.out 1 (.slice A6 V.length c6) rfl)
      have HI6 := Aside0.mk (InAt.only HI5.out HX5.out (by decide) HG.out.1 (Only.set w5 g6 1 (.slice A6 V.length c6)))
      have HPR6 := Aside0.mk (prl_set HPR5.out 1 (.slice A6 V.length c6))
      have HR6 := Aside0.mk (rb_only HR5.out HX5.out (by decide) (Only.set w5 g6 1 (.slice A6 V.length c6)))
      have HB6 := Aside0.mk (HB5.out.setCell (p := ⟨g6, 1, none⟩) HG.out.2 (.slice A6 V.length c6))
      generalize w5.setCell ⟨g6, 1, none⟩ (Value.slice A6 V.length c6) = w6 at HX6 HI6 HPR6 HR6 HB6 ⊢
      refine (ipad_calls HI6.out).mono ?_
      rintro e w7 ⟨⟨u7, rfl⟩, hi7⟩
      have HPR7 := Aside0.mk (prl_only HPR6.out HI6.out.2.1 hi7.2)
      have HX7 := Aside0.mk ((hi7.2.block g6 (blk_lt HX6.out) HG.out.1).trans HX6.out)
      have HB7 := Aside0.mk (HB6.out.trans (hi7.2.below HI6.out.1 HB6.out.size))
      have HR7 := Aside0.mk (rb_only HR6.out HI6.out.2.1 (by decide) hi7.2)
      have HI7 := Aside0.mk hi7.1
      clear hi7 hx
      have hx := cc2 HX7.out
      have HGC := Aside0.mk (fun W => good_calls W K A6 V.length c6 V rfl)
      have HRD := Aside0.mk (show rK b s = K ∧ rV b s = V ∧ r4 b s = pdS b 4 s3 from by
        have e1 := HK.out; have e2 := HN.out; have e3 := HV.out
        unfold rK r4 r3 rV rN r2
        rw [← e1.2, ← e2.1, ← e2.2, ← e3.1, ← e3.2]
        exact ⟨e1.1.symm, rfl, rfl⟩)
      clear HK HN HV
      by_cases hg : V.length ≤ 4000
      · have hd := decide_eq_true (show gd ((K : Int), V) from ⟨by omega, by omega, hg⟩)
        rw [hd] at HGC
        clear hd
        have HST2 := Aside0.mk (HST.out.2 (by rw [HRD.out.2.1]; exact hg))
        have HNL := Aside0.mk (show (ps.length + 1) * 32 ≤ 140737488355328 from by
          obtain ⟨hbd, hal⟩ := left_pos HL0.out
          have := HLB.out
          rcases HPS.out with h | h
          · rw [h] at hbd; cases hbd
          · omega)
        go_wp2_with (first | (go_at_call 61; refine (HGC.out _).mono ?_; rintro e w8 ⟨rfl, hb8⟩; have HPR8 := Aside0.mk (Kd.R_mono (Kd.R_below HPR7.out hb8) (fun _ _ => trivial) : PR w8 w.heap.size (.slice A5 ps.length c5) ps); have HR8 := Aside0.mk (Kd.R_below HR7.out hb8 : RB w8 w.heap.size (.slice A6 V.length c6) V); have HB8 := Aside0.mk (below_step HB7.out hb8); have HI8 := Aside0.mk (HI7.out.below hb8); have hx8 := cc2 (blk_below HX7.out hb8); clear hb8 hx) | ((with_reducible refine gate_builtin (b := .append) (xs := #[.tmp 32, .tmp 34]) rfl ?_); at_builtin; refine Kd.R_append PAR (w0 := w) w.heap.size rfl (.tmp 32) (.tmp 34) 57 115 (.agg #[.int .i64 0, .slice none 0 0]) 32 rfl Try.underlying57 info115 rfl (by decide) (by omega) (.slice A5 ps.length c5) ps ((K : Int), V) [.int .i64 (K : Nat), .slice A6 V.length c6] (fun _ => True) (fun q => some q ≠ (Value.slice A5 ps.length c5).ownBlock) ?aA ?aC ?aD (fun _ h => ⟨trivial, h⟩) (fun _ _ => trivial) ?aO ?aB ?aS ?aL ?_; (case aA => rfl); (case aC => rfl); (case aD => exact par_m HPR8.out HR8.out); (case aO => exact HPR8.out); (case aB => exact HB8.out); (case aS => exact HB8.out.size); (case aL => exact HNL.out); intro v9 w9 ho9 hb9 hg9 hn9; have HO9 := Aside0.mk ho9; have HB9 := Aside0.mk hb9; have HG9 := Aside0.mk hg9; clear ho9 hb9 hg9 hn9; obtain ⟨A9, c9, rfl⟩ := Kd.R_slice HO9.out))
        go_roundg k1
        case measure => omega
        case rel =>
          have hI9 := in_grown HI8.out HG9.out (fun k hk => Kd.R_typed HPR8.out k hk.symm)
          have hO9 := HO9.out
          rw [List.length_append, List.length_singleton] at hO9
          have h1 := HST2.out
          rw [HRD.out.1, HRD.out.2.1, HRD.out.2.2] at h1
          refine ⟨⟨pdS b 4 s3, ps ++ [((K : Int), V)], ?_, hI9, HB9.out, h1.1, hO9, ?_⟩⟩
          · have h2 := left_less HL0.out h1.2
            have := HLK.out
            omega
          · rcases h1.2 with h2 | h2
            · exact .inl h2
            · right
              rw [List.length_append, List.length_singleton]
              obtain ⟨hbd, hal⟩ := left_pos HL0.out
              rcases HPS.out with h | h
              · rw [h] at hbd; cases hbd
              · omega
      · have hd := decide_eq_false (show ¬ gd ((K : Int), V) from fun h => hg h.2.2)
        rw [hd] at HGC
        clear hd
        have HNO := Aside0.mk (HST.out.1 (by rw [HRD.out.2.1]; omega))
        go_wp2_with (first | (go_at_call 61; refine (HGC.out _).mono ?_; rintro e w8 ⟨rfl, hb8⟩; have HB8 := Aside0.mk hb8; clear hb8))
        go_ret2
        exact ⟨below_step HB7.out HB8.out, .inr ⟨HNO.out, rfl⟩⟩
end Go.Proofs.Ytjhciagjofhhiaa.Tl
