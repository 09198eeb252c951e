import Derived.Test.YtkginabioolmiaaGpJ
/- The walk of GapsDups. -/
namespace Go.Proofs.Ytkginabioolmiaa.Gp
open Go.RowKit Go.Shelf Go.Proofs.YtkginabioolmiaaW.PrintWords Go.Proofs.YtkginabioolmiaaW.PrintLast Go.Proofs.YtkginabioolmiaaW.PrintMore Go.Proofs.Ytkginabioolmiaa.Sh
set_option linter.unusedVariables false
set_option linter.unusedSimpArgs false
set_option maxRecDepth 100000 in
theorem words_eq {w : World} {A A2 : Option Addr} {c c2 : Nat} {l : List Int} (hC : Kd.C (Kd.int .u32) w A l.length l) (hC2 : Kd.C (Kd.int .u32) w A2 l.length l) (hl : l.length ≤ 1000) :
    Calls Try.prog 13 #[.slice A l.length c, .slice A2 l.length c2] w fun e w' => e = .returned (.bool true) ∧ ∃ n, w' = w.drewN n := by
  have HC := Aside0.mk (And.intro hC hC2)
  clear hC hC2
  go_enter Try.func13, Try.ntmps13
  go_wp2
  go_loopw [13] (fun i wr => ∃ (k q : Nat), k ≤ l.length ∧ i = .int .i64 (k : Nat) ∧ wr = w.drewN q) (fun i _ => l.length - (intOf i).toNat)
  case atStart => exact ⟨0, 0, Nat.zero_le _, rfl, rfl⟩
  case round =>
    obtain ⟨k, q, hk, rfl, rfl⟩ := hrel
    by_cases hlt : k < l.length
    · have hlt2 : (k : Int) < (l.length : Int) := by omega
      obtain ⟨ad, rfl, h1⟩ := Kd.at_int HC.out.1 (k : Int) (by omega) (by omega)
      obtain ⟨ad2, rfl, h2⟩ := Kd.at_int HC.out.2 (k : Int) (by omega) (by omega)
      rw [Int.toNat_natCast] at h1 h2
      go_wp2
      go_quiet (fail)
      go_wp2
      go_roundw
      case rel => exact ⟨k + 1, q + nq, by omega, by go_num, by first | rfl | simp⟩
      case measure => simp [intOf]; omega
    · obtain rfl : k = l.length := by omega
      go_wp2
      go_ret
      exact ⟨rfl, ⟨_, rfl⟩⟩
theorem own_has {W wr : World} {p : Nat} {c : Int} {xs ds : List Int} {S : Nat → Prop} (h : Own W p c xs ds S wr) (hg : Gd c xs) (hl : xs.length ≤ 900) (x : Int) (hx : U32 x) :
    Calls Try.prog 12 #[.pointer (some ⟨p, 0, none⟩), .int .u32 x] wr fun e w' => e = .returned (.bool (hasB c xs x)) ∧ Below wr.heap.size wr w' := by
  obtain ⟨v, u, hT, _⟩ := h.tr
  exact has_calls hT hg.srt (by omega) hg.c32 hg.u32 x hx
theorem u32_of_wf {x : Int} (h : (Lit.int .u32 x).wf = true) : U32 x := by
  simp [Lit.wf, IntKind.min, IntKind.max, IntKind.signed, IntKind.bits] at h
  exact ⟨h.1, by omega⟩
/-- Between two rounds: the tracker, and a row apart from it that has what came again. -/
structure DI (W : World) (p : Nat) (c : Int) (xs ds : List Int) (S : Nat → Prop) (vw : Value) (wr : World) : Prop where
  own : Own W p c xs ds S wr
  want : UQ wr W.heap.size vw ds
  apart : ∀ j, vw.ownBlock = some j → ¬ S j
  gd : Gd c xs
  dl : ds.length ≤ 16
theorem DI.take {W wr w' : World} {p : Nat} {c c2 : Int} {xs ds xs2 ds2 : List Int} {S S2 : Nat → Prop} {vw : Value} (h : DI W p c xs ds S vw wr) (ho : Own W p c2 xs2 ds2 S2 w') (hc : ChgS wr w' S S2) :
    UQ w' W.heap.size vw ds ∧ ∀ j, vw.ownBlock = some j → ¬ S2 j := by
  have hlt := fun j hj => Kd.Q_lt h.want j hj
  refine ⟨uq_move h.want (fun k hk => hc.block k (hlt k hk) (h.apart k hk)), fun j hj hS => ?_⟩
  rcases hc.new j hS with h1 | h1
  · exact h.apart j hj h1
  · have := hlt j hj
    omega
theorem DI.below {W wr w' : World} {p : Nat} {c : Int} {xs ds : List Int} {S : Nat → Prop} {vw : Value} (h : DI W p c xs ds S vw wr) (hb : Below wr.heap.size wr w') : DI W p c xs ds S vw w' :=
  ⟨h.own.below hb, Kd.Q_below h.want hb, h.apart, h.gd, h.dl⟩
theorem Tr.keep {w w' : World} {B p : Nat} {c : Int} {xs ds : List Int} {S : Nat → Prop} (h : Tr w B p c xs ds S) (hk : ∀ k, S k → w'.heap[k]? = w.heap[k]?) : Tr w' B p c xs ds S := by
  obtain ⟨v, u, hT, h1, h2, h3⟩ := h
  exact ⟨v, u, hT.keep (hk p h1) (fun k hk' => hk k (h2 k hk')) (fun k hk' => hk k (h3 k hk')), h1, h2, h3⟩
/-- One more that came again. -/
theorem DI.grow {W wr w' : World} {p : Nat} {c : Int} {xs ds ds2 : List Int} {S : Nat → Prop} {vw v1 : Value} (ho : Own W p c xs ds2 S wr) (hw : UQ wr W.heap.size vw ds) (ha : ∀ j, vw.ownBlock = some j → ¬ S j) (hgd : Gd c xs) (hd : ds2.length ≤ 16)
    (h1 : UQ w' W.heap.size v1 ds2) (hg : wr.grownBy w' vw.ownBlock) (hn : v1.ownBlock = vw.ownBlock ∨ ∃ b, v1.ownBlock = some b ∧ wr.heap.size ≤ b) : DI W p c xs ds2 S v1 w' := by
  refine ⟨⟨ho.tr.keep (fun k hk => hg.block k (ho.lt k hk) (fun e => ha k e.symm hk)), ho.bel.grown hg ho.bel.size (fun k hk => Kd.Q_base hw k hk), ho.base, fun k hk => Nat.lt_of_lt_of_le (ho.lt k hk) hg.size⟩, h1, fun j hj hS => ?_, hgd, hd⟩
  rcases hn with h2 | ⟨b, h2, h3⟩
  · exact ha j (h2 ▸ hj) hS
  · rw [h2] at hj
    injection hj with hj
    have := ho.lt j hS
    omega
set_option maxRecDepth 100000 in
set_option maxHeartbeats 4000000 in
theorem gapsDups_main (W : World) (a0 : Int) (A1 : Option Addr) (c1 : Nat) (l1 : List Int) (w0 : U32 a0) (hr1 : Kd.C (Kd.int .u32) W A1 l1.length l1) (w1 : ∀ z ∈ l1, U32 z) (hl : l1.length ≤ 60) :
    Calls Try.prog 4 #[.int .u32 a0, .slice A1 l1.length c1] W (Yes W) := by
  have HA := Aside0.mk (alive_calls W)
  have HC := Aside0.mk (And.intro hr1 w1)
  have H0 := Aside0.mk w0
  have hn0 : ¬ ((60 : Int) < (l1.length : Int)) := by omega
  clear hr1 w1 w0
  go_enter Try.func4, Try.ntmps4
  go_wp2_with (first | (go_at_call 8; refine HA.out.mono ?_; rintro e w2 ⟨rfl, hb⟩; have HB2 := Aside0.mk hb; clear hb) | (go_at_call 9; refine (new_calls _ W.heap.size a0 HB2.out.size).mono ?_; rintro e w3 ⟨rfl, hT, hb⟩; have HT3 := Aside0.mk hT; have HB3 := Aside0.mk hb; clear hT hb))
  have hO : Own W w2.heap.size a0 [] [] (fun k => k = w2.heap.size) w3 := ⟨HT3.out, HB2.out.trans (HB3.out.mono HB2.out.size), fun k hk => by have hk' : k = w2.heap.size := hk; rw [hk']; exact HB2.out.size, fun k hk => by have hk' : k = w2.heap.size := hk; rw [hk']; obtain ⟨v, u, hT', _⟩ := HT3.out; exact hT'.lt⟩
  have hD : DI W w2.heap.size a0 [] [] (fun k => k = w2.heap.size) (.slice (some ⟨w3.heap.size, 0, none⟩) 0 0) (w3.alloc (.cells #[] 22)) := by
    refine ⟨hO.below (below_alloc (Below.refl _ _) _), ⟨fun _ _ => trivial, [], ⟨rfl, .inl ⟨rfl, some ⟨w3.heap.size, 0, none⟩, rfl, fun a ha => ?_⟩⟩, Reps.none _ _⟩, fun j hj hS => ?_, gd_new H0.out, Nat.zero_le _⟩
    · cases ha
      exact ⟨hO.bel.size, _, blk_new w3 _⟩
    · have h1 : w3.heap.size = j := by simpa [Value.ownBlock] using hj
      have h2 := hO.lt j hS
      omega
  obtain ⟨p, hp⟩ : ∃ p, p = w2.heap.size := ⟨_, rfl⟩
  obtain ⟨b, hb⟩ : ∃ b, b = w3.heap.size := ⟨_, rfl⟩
  obtain ⟨w4, hw4⟩ : ∃ w4, w4 = w3.alloc (.cells #[] 22) := ⟨_, rfl⟩
  rw [← hp, ← hb, ← hw4] at hD
  rw [← hp, ← hb, ← hw4]
  have HD := Aside0.mk hD
  clear hD hO hp hb hw4 HT3 HB3 HB2 HA H0
  go_loopw [6, 21] (fun t6 i wr => ∃ (k : Nat) (c : Int) (xs ds : List Int) (S : Nat → Prop), k ≤ l1.length ∧ i = .int .i64 (k : Nat) ∧ Aside0 (DI W p c xs ds S t6 wr ∧ xs.length ≤ k)) (fun _ i _ => l1.length - (intOf i).toNat)
  case atStart => exact ⟨0, a0, [], [], _, Nat.zero_le _, rfl, ⟨HD.out, Nat.zero_le _⟩⟩
  case round =>
    obtain ⟨k, c, xs, ds, S, hk, rfl, HI⟩ := hrel
    obtain ⟨A6, c6, rfl, hc6, hC6⟩ := uq_slice HI.out.1.want
    have hxl : xs.length ≤ 900 := by have := HI.out.2; omega
    by_cases hlt : k < l1.length
    · have hlt2 : (k : Int) < (l1.length : Int) := by omega
      obtain ⟨ad, rfl, hcell⟩ := Kd.at_int (Kd.C_below HC.out.1 HI.out.1.own.bel) (k : Int) (by omega) (by omega)
      rw [Int.toNat_natCast] at hcell
      obtain ⟨x, hx⟩ : ∃ x, x = rd l1 (k : Int) := ⟨_, rfl⟩
      rw [← hx] at hcell
      have hx32 : U32 x := by rw [hx]; unfold rd; rw [Int.toNat_natCast, List.getD_eq_getElem?_getD, List.getElem?_eq_getElem hlt]; exact HC.out.2 _ (List.getElem_mem hlt)
      have HX := Aside0.mk hx32
      have HT := Aside0.mk (own_take HI.out.1.own HI.out.1.gd.srt hxl HI.out.1.gd.c32 HI.out.1.gd.u32 x hx32)
      have HGD := Aside0.mk (take_gd (ds := ds) HI.out.1.gd hx32)
      have HTL := Aside0.mk (take_len c x xs ds)
      have HNOW := Aside0.mk (take_now (c := c) (x := x) (xs := xs) (ds := ds) (by omega))
      have HBAD := Aside0.mk (take_bad (c := c) (x := x) (xs := xs) (ds := ds))
      clear hx hx32 hC6 hc6
      by_cases hh : hasB c xs x = true
      · have HHB := Aside0.mk hh
        rw [take_has hh] at HT HGD HTL
        by_cases hd : ds.length < 16
        · rw [if_pos hd] at HT HGD HTL
          dsimp only at HT HGD HTL
          have hd2 : (ds.length : Int) < 16 := by omega
          have HDL := Aside0.mk (show (ds.length + 1) * 4 ≤ 140737488355328 by omega)
          have HD17 := Aside0.mk (show (ds ++ [x]).length ≤ 16 by simp; omega)
          clear hh hd
          go_wp2_with (first | (go_at_call 10; refine HT.out.mono ?_; rintro e w5 ⟨rfl, S5, ho5, hc5⟩; have HO5 := Aside0.mk ho5; have HW5 := Aside0.mk (HI.out.1.take ho5 hc5); clear ho5 hc5) | ((with_reducible refine gate_builtin (b := .append) (xs := #[.tmp 42, .tmp 44]) rfl ?_); at_builtin; (refine Kd.Q_append (Kd.int .u32) (w0 := W) W.heap.size rfl (.tmp 42) (.tmp 44) 35 22 (.int .u32 0) 4 rfl Try.underlying35 info22 rfl (by decide) (by decide) (.slice A6 ds.length c6) ds x [.int .u32 x] (fun _ => True) (fun _ => False) rfl rfl ?aD (fun _ h => h.elim) (fun _ _ => trivial) ?aO ?aB ?aS ?aL ?_; (case aD => rfl); (case aO => exact HW5.out.1); (case aB => exact HO5.out.bel); (case aS => exact HO5.out.bel.size); (case aL => exact HDL.out); intro v6 w6 ho hb hg hn; have HD6 := Aside0.mk (DI.grow HO5.out HW5.out.1 HW5.out.2 HGD.out HD17.out ho hg hn); have HH6 := Aside0.mk (own_has HD6.out.own HGD.out (by omega) x HX.out); rw [HHB.out] at HH6; obtain ⟨A7, c7, rfl, _⟩ := Kd.Q_slice ho; clear ho hb hg hn)) | (go_at_call 12; refine HH6.out.mono ?_; rintro e w7 ⟨rfl, hb7⟩; have HD7 := Aside0.mk (HD6.out.below hb7); clear hb7))
          have h := HD7.out
          rw [List.length_append, List.length_singleton] at h
          exact ⟨⟨k + 1, c, xs, ds ++ [x], S5, by omega, by go_num, ⟨h, by have := HI.out.2; omega⟩⟩, by simp [intOf]; omega⟩
        · rw [if_neg hd] at HT HGD HTL
          dsimp only at HT HGD HTL
          have hd2 : ¬ ((ds.length : Int) < 16) := by omega
          clear hh hd
          go_wp2_with (first | (go_at_call 10; refine HT.out.mono ?_; rintro e w5 ⟨rfl, S5, ho5, hc5⟩; have hw5 := HI.out.1.take ho5 hc5; have HD6 := Aside0.mk (DI.mk ho5 hw5.1 hw5.2 HGD.out HI.out.1.dl); have HH6 := Aside0.mk (own_has ho5 HGD.out (by omega) x HX.out); rw [HHB.out] at HH6; clear ho5 hc5 hw5) | (go_at_call 12; refine HH6.out.mono ?_; rintro e w7 ⟨rfl, hb7⟩; have HD7 := Aside0.mk (HD6.out.below hb7); clear hb7))
          exact ⟨⟨k + 1, c, xs, ds, S5, by omega, by go_num, ⟨HD7.out, by have := HI.out.2; omega⟩⟩, by simp [intOf]; omega⟩
      · have hhf : hasB c xs x = false := by simpa using hh
        by_cases hf : 512 < far c x
        · rw [take_far hh hf] at HT HGD HTL
          dsimp only at HT HGD HTL
          have HHB := Aside0.mk hhf
          clear hh hhf hf
          go_wp2_with (first | (go_at_call 10; refine HT.out.mono ?_; rintro e w5 ⟨rfl, S5, ho5, hc5⟩; have hw5 := HI.out.1.take ho5 hc5; have HD6 := Aside0.mk (DI.mk ho5 hw5.1 hw5.2 HGD.out HI.out.1.dl); have HH6 := Aside0.mk (own_has ho5 HGD.out (by omega) x HX.out); rw [HHB.out] at HH6; clear ho5 hc5 hw5) | (go_at_call 12; refine HH6.out.mono ?_; rintro e w7 ⟨rfl, hb7⟩; have HD7 := Aside0.mk (HD6.out.below hb7); clear hb7))
          exact ⟨⟨k + 1, c, xs, ds, S5, by omega, by go_num, ⟨HD7.out, by have := HI.out.2; omega⟩⟩, by simp [intOf]; omega⟩
        · rw [take_new hh hf] at HT HGD HTL HNOW
          dsimp only at HT HGD HTL
          have HHB := Aside0.mk (HNOW.out rfl)
          dsimp only at HHB
          obtain ⟨c2, hc2⟩ : ∃ c2, c2 = (adv c (ins c x xs)).1 := ⟨_, rfl⟩
          obtain ⟨x2, hx2⟩ : ∃ x2, x2 = (adv c (ins c x xs)).2 := ⟨_, rfl⟩
          rw [← hc2, ← hx2] at HT HGD HHB
          rw [← hx2] at HTL
          clear hh hhf hf hc2 hx2
          go_wp2_with (first | (go_at_call 10; refine HT.out.mono ?_; rintro e w5 ⟨rfl, S5, ho5, hc5⟩; have hw5 := HI.out.1.take ho5 hc5; have HD6 := Aside0.mk (DI.mk ho5 hw5.1 hw5.2 HGD.out HI.out.1.dl); have HH6 := Aside0.mk (own_has ho5 HGD.out (by have := HTL.out; have := HI.out.2; omega) x HX.out); rw [HHB.out] at HH6; clear ho5 hc5 hw5) | (go_at_call 12; refine HH6.out.mono ?_; rintro e w7 ⟨rfl, hb7⟩; have HD7 := Aside0.mk (HD6.out.below hb7); clear hb7))
          exact ⟨⟨k + 1, c2, x2, ds, S5, by omega, by go_num, ⟨HD7.out, by have := HI.out.2; have := HTL.out; omega⟩⟩, by simp [intOf]; omega⟩
    · obtain rfl : k = l1.length := by omega
      have hdl := HI.out.1.dl
      have HDU := Aside0.mk (dups_calls HI.out.1.own.tr (by omega))
      clear hC6 hc6
      go_wp2_with (first | (go_at_call 14; refine HDU.out.mono ?_; rintro e w5 ⟨A5, c5, rfl, hq5, hb5⟩; have HQ5 := Aside0.mk hq5; have HD5 := Aside0.mk (HI.out.1.below hb5); have HW5 := Aside0.mk (words_eq (Kd.Q_reads' hq5).2.2 (Kd.Q_reads' HD5.out.want).2.2 (c := c5) (c2 := c6) (by omega)); clear hq5 hb5) | (go_at_call 13; refine HW5.out.mono ?_; rintro e w6 ⟨rfl, n6, rfl⟩; have HD6 := Aside0.mk (HD5.out.below (pw_below_drewN (Below.refl _ _) n6)); have HCL := Aside0.mk (clear_calls HD6.out.own.tr)) | (go_at_call 15; refine HCL.out.mono ?_; rintro e w7 ⟨⟨r7, rfl⟩, hT7, hC7⟩; have HB7 := Aside0.mk (HD6.out.own.bel.trans (hC7.below HD6.out.own.base HD6.out.own.bel.size)); have HDV := Aside0.mk (dups_calls hT7 (by decide)); clear hT7 hC7) | (go_at_call 14; refine HDV.out.mono ?_; rintro e w8 ⟨A8, c8, rfl, hq8, hb8⟩; have HB8 := Aside0.mk (HB7.out.trans (hb8.mono HB7.out.size)); clear hq8 hb8))
      go_ret
      exact ⟨rfl, HB8.out⟩
set_option maxRecDepth 100000 in
theorem gapsDups_long (W : World) (a0 : Int) (A1 : Option Addr) (c1 : Nat) (l1 : List Int) (hl : 60 < l1.length) :
    Calls Try.prog 4 #[.int .u32 a0, .slice A1 l1.length c1] W (Yes W) := by
  have HA := Aside0.mk (alive_calls W)
  have hn0 : (60 : Int) < (l1.length : Int) := by omega
  go_enter Try.func4, Try.ntmps4
  go_wp2_with (first | (go_at_call 8; refine HA.out.mono ?_; rintro e w2 ⟨rfl, hb⟩; have HB2 := Aside0.mk hb; clear hb))
  go_ret
  exact ⟨rfl, HB2.out⟩
theorem gapsDups_walk (W : World) (a0 : Int) (A1 : Option Addr) (c1 : Nat) (l1 : (List Int)) (w0 : (Lit.int .u32 a0).wf = true) (hc1 : l1.length ≤ c1) (hr1 : Kd.C (Kd.int .u32) W A1 l1.length l1) (w1 : (∀ zl1 ∈ l1, (Lit.int .u32 zl1).wf = true)) :
    Calls Try.prog 4 #[.int .u32 a0, .slice A1 l1.length c1] W fun e w' => e = .returned (.bool true) ∧ Below W.heap.size W w' := by
  by_cases h : 60 < l1.length
  · exact gapsDups_long W a0 A1 c1 l1 h
  · exact gapsDups_main W a0 A1 c1 l1 (u32_of_wf w0) hr1 (fun z hz => u32_of_wf (w1 z hz)) (by omega)
end Go.Proofs.Ytkginabioolmiaa.Gp
