import Derived.Test.YtkginabioolmiaaGpC
/- A tracker: Take. -/
namespace Go.Proofs.Ytkginabioolmiaa.Gp
open Go.RowKit Go.Shelf Go.Proofs.YtkginabioolmiaaW.PrintWords Go.Proofs.YtkginabioolmiaaW.PrintLast Go.Proofs.YtkginabioolmiaaW.PrintMore Go.Proofs.Ytkginabioolmiaa.Sh
set_option linter.unusedVariables false
set_option linter.unusedSimpArgs false
theorem ChgS.refl (w : World) (S : Nat → Prop) : ChgS w w S S := ⟨rfl, rfl, rfl, Nat.le_refl _, fun _ _ _ => rfl, fun _ h => .inl h⟩
theorem ChgS.trans {w w1 w2 : World} {S S1 S2 : Nat → Prop} (h : ChgS w w1 S S1) (h2 : ChgS w1 w2 S1 S2) : ChgS w w2 S S2 :=
  ⟨h2.os.trans h.os, h2.tape.trans h.tape, h2.output.trans h.output, Nat.le_trans h.size h2.size, fun k hk hn => (h2.block k (Nat.lt_of_lt_of_le hk h.size) (fun h1 => (h.new k h1).elim hn (fun h3 => by omega))).trans (h.block k hk hn), fun k hk => (h2.new k hk).elim (h.new k) (fun h3 => .inr (Nat.le_trans h.size h3))⟩
theorem ChgS.of_below {w w' : World} (S : Nat → Prop) (h : Below w.heap.size w w') : ChgS w w' S S := ⟨h.os, h.tape, h.output, h.size, fun k hk _ => h.block k hk, fun _ h => .inl h⟩
theorem ChgS.of_grown {w w' : World} {S : Nat → Prop} {r : Option Nat} (h : w.grownBy w' r) (hr : ∀ k, r = some k → S k) : ChgS w w' S S := ⟨h.os, h.tape, h.output, h.size, fun k hk hn => h.block k hk (fun e => hn (hr k e.symm)), fun _ h => .inl h⟩
theorem ChgS.below {w w' : World} {B : Nat} {S S' : Nat → Prop} (h : ChgS w w' S S') (hS : ∀ k, S k → B ≤ k) (hB : B ≤ w.heap.size) : Below B w w' := ⟨h.os, h.tape, h.output, h.size, fun k hk => h.block k (by omega) (fun hs => by have := hS k hs; omega)⟩
/-- The row of those beyond is another one now. -/
theorem TrAt.setv {w w1 : World} {B p : Nat} {c : Int} {v v1 u : Value} {xs ys ds : List Int} (h : TrAt w B p c v xs u ds) (hg : w.grownBy w1 v.ownBlock) (hv : UQ w1 B v1 ys) (hn : v1.ownBlock = v.ownBlock ∨ ∃ b, v1.ownBlock = some b ∧ w.heap.size ≤ b) :
    TrAt (w1.setCell ⟨p, 1, none⟩ v1) B p c v1 ys u ds := by
  have hp := (hg.block p h.lt (fun e => h.ne.1 p e.symm rfl)).trans h.2.1
  have hne : ∀ k, v1.ownBlock = some k → k ≠ p := fun k hk e => by
    rcases hn with h1 | ⟨b, h1, h2⟩
    · exact h.ne.1 k (h1 ▸ hk) e
    · have hb : b = k := by rw [h1] at hk; injection hk
      have := h.lt
      omega
  refine ⟨h.1, blk_put hp 1 v1 (cs' := #[.int .u32 c, v1, u]) rfl, uq_move hv (fun k hk => Below.heap_setCell w1 ⟨p, 1, none⟩ v1 k (hne k hk)), uq_move h.2.2.2.1 (fun k hk => (Below.heap_setCell w1 ⟨p, 1, none⟩ v1 k (h.ne.2 k hk)).trans (hg.block k (Kd.Q_lt h.2.2.2.1 k hk) (fun e => h.2.2.2.2 k e.symm hk))), fun k hk he => ?_⟩
  rcases hn with h1 | ⟨b, h1, h2⟩
  · exact h.2.2.2.2 k (h1 ▸ hk) he
  · have hb : b = k := by rw [h1] at hk; injection hk
    have := Kd.Q_lt h.2.2.2.1 k he
    omega
theorem TrAt.setu {w w1 : World} {B p : Nat} {c : Int} {v u1 u : Value} {xs es ds : List Int} (h : TrAt w B p c v xs u ds) (hg : w.grownBy w1 u.ownBlock) (hv : UQ w1 B u1 es) (hn : u1.ownBlock = u.ownBlock ∨ ∃ b, u1.ownBlock = some b ∧ w.heap.size ≤ b) :
    TrAt (w1.setCell ⟨p, 2, none⟩ u1) B p c v xs u1 es := by
  have hp := (hg.block p h.lt (fun e => h.ne.2 p e.symm rfl)).trans h.2.1
  have hne : ∀ k, u1.ownBlock = some k → k ≠ p := fun k hk e => by
    rcases hn with h1 | ⟨b, h1, h2⟩
    · exact h.ne.2 k (h1 ▸ hk) e
    · have hb : b = k := by rw [h1] at hk; injection hk
      have := h.lt
      omega
  refine ⟨h.1, blk_put hp 2 u1 (cs' := #[.int .u32 c, v, u1]) rfl, uq_move h.2.2.1 (fun k hk => (Below.heap_setCell w1 ⟨p, 2, none⟩ u1 k (h.ne.1 k hk)).trans (hg.block k (Kd.Q_lt h.2.2.1 k hk) (fun e => h.2.2.2.2 k hk e.symm))), uq_move hv (fun k hk => Below.heap_setCell w1 ⟨p, 2, none⟩ u1 k (hne k hk)), fun k hk he => ?_⟩
  rcases hn with h1 | ⟨b, h1, h2⟩
  · exact h.2.2.2.2 k hk (h1 ▸ he)
  · have hb : b = k := by rw [h1] at he; injection he
    have := Kd.Q_lt h.2.2.1 k hk
    omega
theorem take_has {c x : Int} {xs ds : List Int} (h : hasB c xs x = true) : take c xs ds x = ⟨c, xs, if ds.length < 16 then ds ++ [x] else ds, false, .nilIface⟩ := if_pos h
theorem take_far {c x : Int} {xs ds : List Int} (h : ¬ hasB c xs x = true) (h2 : 512 < far c x) : take c xs ds x = ⟨c, xs, ds, false, .iface 56 (.int .i64 14)⟩ := by
  unfold take
  rw [if_neg h, if_pos h2]
theorem take_new {c x : Int} {xs ds : List Int} (h : ¬ hasB c xs x = true) (h2 : ¬ 512 < far c x) : take c xs ds x = ⟨(adv c (ins c x xs)).1, (adv c (ins c x xs)).2, ds, true, .nilIface⟩ := by
  unfold take
  rw [if_neg h, if_neg h2]
set_option maxRecDepth 100000 in
set_option maxHeartbeats 2000000 in
theorem take_calls {w : World} {p B : Nat} {c : Int} {xs ds : List Int} {S : Nat → Prop} (h : Tr w B p c xs ds S) (hs : Srt c xs) (hl : xs.length ≤ 900) (hc : U32 c) (hu : ∀ y ∈ xs, U32 y) (x : Int) (hx : U32 x) (hB : B ≤ w.heap.size) :
    Calls Try.prog 10 #[.pointer (some ⟨p, 0, none⟩), .int .u32 x] w (Taken w B p (take c xs ds x) S) := by
  obtain ⟨v, u, hT, hS, hSv, hSu⟩ := h
  have HH := Aside0.mk (has_calls hT hs (by omega) hc hu x hx)
  have HT := Aside0.mk hT
  have HSS := Aside0.mk (And.intro hS (And.intro hSv hSu))
  have HX := Aside0.mk (And.intro (And.intro hs hc) (And.intro hu hx))
  have HB := Aside0.mk hB
  clear hS hSv hSu hs hc hu hx hB
  obtain ⟨A2, c2, rfl, hc2, _⟩ := uq_slice hT.2.2.1
  by_cases hh : hasB c xs x = true
  · rw [hh] at HH
    rw [take_has hh]
    clear hh
    obtain ⟨A, cc, rfl, hcc, _⟩ := uq_slice hT.2.2.2.1
    by_cases hd : ds.length < 16
    · rw [if_pos hd]
      have hd2 : (ds.length : Int) < 16 := by omega
      have HD := Aside0.mk (show (ds.length + 1) * 4 ≤ 140737488355328 by omega)
      clear hT hd
      go_enter Try.func10, Try.ntmps10
      go_wp2_with (first | (go_at_call 12; refine HH.out.mono ?_; rintro e w1 ⟨rfl, hb⟩; have HB1 := Aside0.mk hb; have HT1 := Aside0.mk (HT.out.below hb); have h2 : w1.cell? ⟨p, 2, none⟩ = some (.slice A ds.length cc) := (blk_cell HT1.out.2.1 2).trans rfl; clear hb) | ((with_reducible refine gate_builtin (b := .append) (xs := #[.tmp 26, .tmp 28]) rfl ?_); at_builtin; refine Kd.Q_append (Kd.int .u32) (w0 := w1) B rfl (.tmp 26) (.tmp 28) 35 22 (.int .u32 0) 4 rfl Try.underlying35 info22 rfl (by decide) (by decide) (.slice A ds.length cc) ds x [.int .u32 x] (fun _ => True) (fun _ => False) rfl rfl ?aD (fun _ h => h.elim) (fun _ _ => trivial) ?aO ?aB ?aS ?aL ?_; (case aD => rfl); (case aO => exact HT1.out.2.2.2.1); (case aB => exact Below.refl _ _); (case aS => exact Nat.le_trans HB.out HB1.out.size); (case aL => exact HD.out); intro u1 w2 ho hb hg hn; obtain ⟨A1, c1, rfl, _⟩ := Kd.Q_slice ho; rw [List.length_append, List.length_singleton] at ho hn; have HO := Aside0.mk ho; have HG := Aside0.mk hg; have HN := Aside0.mk hn; have HT2 := Aside0.mk (HT1.out.setu hg ho hn); have hf2 : w2.frozen? ⟨p, 2, none⟩ = false := blk_frozen ((hg.block p HT1.out.lt (fun e => HT1.out.ne.2 p e.symm rfl)).trans HT1.out.2.1) 2; have hc2 : w2.cell? ⟨p, 2, none⟩ = some (.slice A ds.length cc) := (blk_cell ((hg.block p HT1.out.lt (fun e => HT1.out.ne.2 p e.symm rfl)).trans HT1.out.2.1) 2).trans rfl; clear ho hb hg hn))
      go_ret2
      refine ⟨rfl, (fun k => k = p ∨ (Value.slice A1 (ds.length + 1) c1).ownBlock = some k ∨ (Value.slice A2 xs.length c2).ownBlock = some k), ⟨_, _, HT2.out, .inl rfl, fun k hk => .inr (.inr hk), fun k hk => .inr (.inl hk)⟩, (ChgS.of_below S HB1.out).trans ⟨HG.out.os, HG.out.tape, HG.out.output, by have := HG.out.size; simpa using this, fun k hk hn => (Below.heap_setCell w2 ⟨p, 2, none⟩ _ k (fun e => hn (e ▸ HSS.out.1))).trans (HG.out.block k hk (fun e => hn (HSS.out.2.2 k e.symm))), fun k hk => ?_⟩⟩
      rcases hk with rfl | hk | hk
      · exact .inl HSS.out.1
      · rcases HN.out with h1 | ⟨b, h1, h2⟩
        · exact .inl (HSS.out.2.2 k (h1 ▸ hk))
        · right
          rw [h1] at hk
          injection hk with hk
          omega
      · exact .inl (HSS.out.2.1 k hk)
    · rw [if_neg hd]
      have hd2 : ¬ ((ds.length : Int) < 16) := by omega
      clear hT hd
      go_enter Try.func10, Try.ntmps10
      go_wp2_with (first | (go_at_call 12; refine HH.out.mono ?_; rintro e w1 ⟨rfl, hb⟩; have HB1 := Aside0.mk hb; have HT1 := Aside0.mk (HT.out.below hb); have h2 : w1.cell? ⟨p, 2, none⟩ = some (.slice A ds.length cc) := (blk_cell HT1.out.2.1 2).trans rfl; clear hb))
      go_ret2
      exact ⟨rfl, S, ⟨_, _, HT1.out, HSS.out⟩, ChgS.of_below S HB1.out⟩
  · have hf : hasB c xs x = false := by simpa using hh
    rw [hf] at HH
    by_cases hfar : 512 < far c x
    · rw [take_far hh hfar]
      clear hh hf hT
      go_enter Try.func10, Try.ntmps10
      go_wp2_with (first | (go_at_call 12; refine HH.out.mono ?_; rintro e w1 ⟨rfl, hb⟩; have HB1 := Aside0.mk hb; have HT1 := Aside0.mk (HT.out.below hb); have h0 : w1.cell? ⟨p, 0, none⟩ = some (.int .u32 c) := (blk_cell HT1.out.2.1 0).trans rfl; clear hb) | (go_at_call 44; refine (far_calls _ _ _).mono ?_; rintro e w2 ⟨rfl, rfl⟩))
      go_ret2
      exact ⟨rfl, S, ⟨_, _, HT1.out, HSS.out⟩, ChgS.of_below S HB1.out⟩
    · rw [take_new hh hfar]
      clear hh hf hT
      go_enter Try.func10, Try.ntmps10
      go_wp2_with (first | (go_at_call 12; refine HH.out.mono ?_; rintro e w1 ⟨rfl, hb⟩; have HB1 := Aside0.mk hb; have HT1 := Aside0.mk (HT.out.below hb); have h0 : w1.cell? ⟨p, 0, none⟩ = some (.int .u32 c) := (blk_cell HT1.out.2.1 0).trans rfl; have HP1 := Aside0.mk (place_calls HT1.out HX.out.1.1 (by omega) HX.out.2.1 x HX.out.2.2); clear hb) | (go_at_call 44; refine (far_calls _ _ _).mono ?_; rintro e w2 ⟨rfl, rfl⟩) | (go_at_call 45; refine HP1.out.mono ?_; rintro e w3 ⟨i, hP, rfl, hb⟩; have HB3 := Aside0.mk hb; have HPos := Aside0.mk hP; have HT3 := Aside0.mk (HT1.out.below hb); have HI3 := Aside0.mk (insert_calls HT3.out.2.2.1 i hP.1 x (Nat.le_trans HB.out (Nat.le_trans HB1.out.size HB3.out.size)) (by omega)); have h1 : w3.cell? ⟨p, 1, none⟩ = some (.slice A2 xs.length c2) := (blk_cell HT3.out.2.1 1).trans rfl; clear hb hP) | (go_at_call 46; refine HI3.out.mono ?_; rintro e w4 ⟨v1, rfl, hv, hg, hn⟩; obtain ⟨A4, c4, rfl, _⟩ := Kd.Q_slice hv; obtain ⟨n4, hn4⟩ : ∃ n4, n4 = (xs.take i ++ [x] ++ xs.drop i).length := ⟨_, rfl⟩; rw [← hn4] at hv hn ⊢; clear hn4; have hx4 := (hg.block p HT3.out.lt (fun e => HT3.out.ne.1 p e.symm rfl)).trans HT3.out.2.1; have hf4 : w4.frozen? ⟨p, 1, none⟩ = false := blk_frozen hx4 1; have hc4 : w4.cell? ⟨p, 1, none⟩ = some (.slice A2 xs.length c2) := (blk_cell hx4 1).trans rfl; have HT4 := Aside0.mk (HT3.out.setv hg hv hn); have HG4 := Aside0.mk hg; have HN4 := Aside0.mk hn; have HA4 := Aside0.mk (advance_calls HT4.out (by simp; omega)); clear hg hv hn hx4) | (go_at_call 47; refine HA4.out.mono ?_; rintro e w5 ⟨⟨r5, rfl⟩, v5, hT5, hk5, hg5⟩; have HT5 := Aside0.mk hT5; have HK5 := Aside0.mk hk5; have HG5 := Aside0.mk hg5; clear hT5 hk5 hg5))
      go_ret2
      have hi := ins_at xs i HPos.out
      have hT5 := HT5.out
      rw [hi] at hT5
      refine ⟨rfl, (fun k => k = p ∨ v5.ownBlock = some k ∨ u.ownBlock = some k), ⟨_, _, hT5, .inl rfl, fun k hk => .inr (.inl hk), fun k hk => .inr (.inr hk)⟩, ?_⟩
      have h13 := (ChgS.of_below S HB1.out).trans (ChgS.of_below S HB3.out)
      refine h13.trans ⟨HG5.out.os.trans HG4.out.os, HG5.out.tape.trans HG4.out.tape, HG5.out.output.trans HG4.out.output, Nat.le_trans HG4.out.size (by have := HG5.out.size; simpa using this), fun k hk hn => ?_, fun k hk => ?_⟩
      · have hkp : k ≠ p := fun e => hn (e ▸ HSS.out.1)
        exact (HG5.out.block k (by simp; have := HG4.out.size; omega) (fun e => hkp (by injection e))).trans ((Below.heap_setCell w4 ⟨p, 1, none⟩ _ k hkp).trans (HG4.out.block k hk (fun e => hn (HSS.out.2.1 k e.symm))))
      · rcases hk with rfl | hk | hk
        · exact .inl HSS.out.1
        · have h4 := HK5.out k hk
          rcases HN4.out with h1 | ⟨b, h1, h2⟩
          · exact .inl (HSS.out.2.1 k (h1 ▸ h4))
          · right
            rw [h1] at h4
            injection h4 with h4
            omega
        · exact .inl (HSS.out.2.2 k hk)
end Go.Proofs.Ytkginabioolmiaa.Gp
