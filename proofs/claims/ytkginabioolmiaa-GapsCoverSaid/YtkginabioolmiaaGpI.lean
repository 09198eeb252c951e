import Derived.Test.YtkginabioolmiaaGpH
/- The chapter's example of gaps. -/
namespace Go.Proofs.Ytkginabioolmiaa.Gp
open Go.RowKit Go.Shelf Go.Proofs.YtkginabioolmiaaW.PrintWords Go.Proofs.YtkginabioolmiaaW.PrintLast Go.Proofs.YtkginabioolmiaaW.PrintMore Go.Proofs.Ytkginabioolmiaa.Sh
set_option linter.unusedVariables false
set_option linter.unusedSimpArgs false
/-- A tracker of the call's own. -/
structure Own (W : World) (p : Nat) (c : Int) (xs ds : List Int) (S : Nat → Prop) (wr : World) : Prop where
  tr : Tr wr W.heap.size p c xs ds S
  bel : Below W.heap.size W wr
  base : ∀ k, S k → W.heap.size ≤ k
  lt : ∀ k, S k → k < wr.heap.size
theorem Tr.small {w : World} {B p : Nat} {c : Int} {xs ds : List Int} {S : Nat → Prop} (h : Tr w B p c xs ds S) : ∃ S2, Tr w B p c xs ds S2 ∧ (∀ k, S2 k → S k) ∧ ∀ k, S2 k → k < w.heap.size := by
  obtain ⟨v, u, hT, h1, h2, h3⟩ := h
  refine ⟨fun k => k = p ∨ v.ownBlock = some k ∨ u.ownBlock = some k, ⟨v, u, hT, .inl rfl, fun k hk => .inr (.inl hk), fun k hk => .inr (.inr hk)⟩, fun k hk => ?_, fun k hk => ?_⟩
  · rcases hk with rfl | hk | hk
    · exact h1
    · exact h2 k hk
    · exact h3 k hk
  · rcases hk with rfl | hk | hk
    · exact hT.lt
    · exact Kd.Q_lt hT.2.2.1 k hk
    · exact Kd.Q_lt hT.2.2.2.1 k hk
theorem Own.below {W wr w2 : World} {p : Nat} {c : Int} {xs ds : List Int} {S : Nat → Prop} (h : Own W p c xs ds S wr) (hb : Below wr.heap.size wr w2) : Own W p c xs ds S w2 :=
  ⟨h.tr.below hb, h.bel.trans (hb.mono h.bel.size), h.base, fun k hk => Nat.lt_of_lt_of_le (h.lt k hk) hb.size⟩
theorem Own.chg {W wr w2 : World} {p : Nat} {c c2 : Int} {xs ds xs2 ds2 : List Int} {S S2 : Nat → Prop} (h : Own W p c xs ds S wr) (ht : Tr w2 W.heap.size p c2 xs2 ds2 S2) (hc : ChgS wr w2 S S2) : ∃ S3, Own W p c2 xs2 ds2 S3 w2 ∧ ChgS wr w2 S S3 := by
  obtain ⟨S3, h1, h2, h3⟩ := ht.small
  exact ⟨S3, ⟨h1, h.bel.trans (hc.below h.base h.bel.size), fun k hk => (hc.new k (h2 k hk)).elim (h.base k) (fun h1 => Nat.le_trans h.bel.size h1), h3⟩, ⟨hc.os, hc.tape, hc.output, hc.size, hc.block, fun k hk => hc.new k (h2 k hk)⟩⟩
theorem own_take {W wr : World} {p : Nat} {c : Int} {xs ds : List Int} {S : Nat → Prop} (h : Own W p c xs ds S wr) (hs : Srt c xs) (hl : xs.length ≤ 900) (hc : U32 c) (hu : ∀ y ∈ xs, U32 y) (x : Int) (hx : U32 x) :
    Calls Try.prog 10 #[.pointer (some ⟨p, 0, none⟩), .int .u32 x] wr fun e w' => e = .returned (.tuple #[.bool (take c xs ds x).fresh, (take c xs ds x).err]) ∧ ∃ S', Own W p (take c xs ds x).c (take c xs ds x).xs (take c xs ds x).ds S' w' ∧ ChgS wr w' S S' :=
  (take_calls h.tr hs hl hc hu x hx h.bel.size).mono fun e w' ⟨he, S', ht, hch⟩ => ⟨he, h.chg ht hch⟩
def alX (k : Nat) : List Int := [7, 8, 10].take k
theorem al0 : take 5 [] [] 7 = ⟨5, [7], [], true, .nilIface⟩ := rfl
theorem al1 : take 5 [7] [] 8 = ⟨5, [7, 8], [], true, .nilIface⟩ := rfl
theorem al2 : take 5 [7, 8] [] 10 = ⟨5, [7, 8, 10], [], true, .nilIface⟩ := rfl
theorem al3 : take 5 [7, 8, 10] [] 6 = ⟨8, [10], [], true, .nilIface⟩ := rfl
theorem alG : gapsL 5 [7, 8, 10] = [(2, 3), (5, 5)] := by kernel_rfl
instance (x : Int) : Decidable (U32 x) := by unfold U32; infer_instance
theorem srt_lit {c : Int} {l : List Int} (h : (l.map (far c)).Pairwise (· < ·)) : Srt c l := by
  rwa [List.pairwise_map] at h
def Yes (w : World) (e : Ending) (w' : World) : Prop := e = .returned (.bool true) ∧ Below w.heap.size w w'
theorem al_take {W wr : World} {p : Nat} {S : Nat → Prop} (k : Nat) (hk : k < 3) (h : Own W p 5 (alX k) [] S wr) :
    Calls Try.prog 10 #[.pointer (some ⟨p, 0, none⟩), .int .u32 ([7, 8, 10].getD k 0)] wr fun e w' => e = .returned (.tuple #[.bool true, .nilIface]) ∧ ∃ S', Own W p 5 (alX (k + 1)) [] S' w' ∧ ChgS wr w' S S' := by
  have : k = 0 ∨ k = 1 ∨ k = 2 := by omega
  rcases this with rfl | rfl | rfl
  · exact (own_take h (srt_lit (by decide)) (by decide) (by decide) (by decide) 7 (by decide)).mono fun e w' ⟨he, S', ho, hc⟩ => ⟨he, S', ho, hc⟩
  · exact (own_take h (srt_lit (by decide)) (by decide) (by decide) (by decide) 8 (by decide)).mono fun e w' ⟨he, S', ho, hc⟩ => ⟨he, S', ho, hc⟩
  · exact (own_take h (srt_lit (by decide)) (by decide) (by decide) (by decide) 10 (by decide)).mono fun e w' ⟨he, S', ho, hc⟩ => ⟨he, S', ho, hc⟩
theorem al_six {W wr : World} {p : Nat} {S : Nat → Prop} (h : Own W p 5 (alX 3) [] S wr) :
    Calls Try.prog 10 #[.pointer (some ⟨p, 0, none⟩), .int .u32 6] wr fun e w' => e = .returned (.tuple #[.bool true, .nilIface]) ∧ ∃ S', Own W p 8 [10] [] S' w' ∧ ChgS wr w' S S' :=
  (own_take h (srt_lit (by decide)) (by decide) (by decide) (by decide) 6 (by decide)).mono fun e w' ⟨he, S', ho, hc⟩ => ⟨he, S', ho, hc⟩
theorem pq_cells {w : World} {B : Nat} {v : Value} {x0 x1 y0 y1 : Int} (h : PQ w B v [(x0, x1), (y0, y1)]) : ∃ g o cap, v = .slice (some ⟨g, o, none⟩) 2 cap ∧ w.cell? ⟨g, o, none⟩ = some (.int .i64 x0) ∧ w.cell? ⟨g, o + 1, none⟩ = some (.int .i64 x1) ∧ w.cell? ⟨g, o + 2, none⟩ = some (.int .i64 y0) ∧ w.cell? ⟨g, o + 3, none⟩ = some (.int .i64 y1) := by
  obtain ⟨g, o, cap, rfl, _⟩ := Kd.Q_form h (by simp)
  obtain ⟨c0, _, hM0, hc0, _⟩ := Kd.Q_elem h (0, 0) 0 (by decide) (by simp)
  obtain ⟨c1, _, hM1, hc1, _⟩ := Kd.Q_elem h (0, 0) 1 (by decide) (by simp)
  obtain ⟨a0, b0, rfl, rfl, rfl⟩ := hM0
  obtain ⟨a1, b1, rfl, rfl, rfl⟩ := hM1
  refine ⟨g, _, cap, rfl, ?_, ?_, ?_, ?_⟩
  · exact hc0 0 _ rfl
  · exact hc0 1 _ rfl
  · exact hc1 0 _ rfl
  · exact hc1 1 _ rfl
set_option maxRecDepth 100000 in
set_option maxHeartbeats 2000000 in
theorem alive_calls (w : World) : Calls Try.prog 8 #[] w (Yes w) := by
  have HN := Aside0.mk (new_calls w w.heap.size 5 (Nat.le_refl _))
  go_enter Try.func8, Try.ntmps8
  go_wp2_with (first | (go_at_call 9; refine HN.out.mono ?_; rintro e w1 ⟨rfl, hT, hb⟩; have HO := Aside0.mk (Own.mk hT hb (fun k hk => Nat.le_of_eq hk.symm) (fun k hk => by have hk' : k = w.heap.size := hk; subst hk'; obtain ⟨v, u, hT', _⟩ := hT; exact hT'.lt)); clear hT hb))
  obtain ⟨p, hp⟩ : ∃ p, p = w.heap.size := ⟨_, rfl⟩
  have HPE := Aside0.mk hp
  have hpw := Below.size HO.out.bel
  have hpl : w.heap.size < w1.heap.size := by obtain ⟨v, u, hT, _⟩ := HO.out.tr; exact hT.lt
  have hrow := blk_new w1 (.cells #[.int .u32 7, .int .u32 8, .int .u32 10] 22)
  have HO1 := Aside0.mk (HO.out.below (below_alloc (Below.refl _ _) (.cells #[.int .u32 7, .int .u32 8, .int .u32 10] 22)))
  obtain ⟨b, hb⟩ : ∃ b, b = w1.heap.size := ⟨_, rfl⟩
  rw [← hb] at hrow hpl ⊢
  obtain ⟨w2, hw2⟩ : ∃ w2, w2 = w1.alloc (.cells #[.int .u32 7, .int .u32 8, .int .u32 10] 22) := ⟨_, rfl⟩
  rw [← hw2] at hrow HO1 ⊢
  rw [← hp] at hpl HO1 ⊢
  have HRW := Aside0.mk hrow
  have HPL := Aside0.mk hpl
  clear hp hb hw2 hrow hpw hpl HO HN
  go_loopw [12] (fun i wr => ∃ (k : Nat) (S : Nat → Prop), k ≤ 3 ∧ i = .int .i64 (k : Nat) ∧ Aside0 (Own w p 5 (alX k) [] S wr ∧ wr.heap[b]? = some (.cells #[.int .u32 7, .int .u32 8, .int .u32 10] 22 (0, 0)) ∧ ∀ j, S j → j ≠ b)) (fun i _ => 3 - (intOf i).toNat)
  case atStart => exact ⟨0, _, by decide, rfl, ⟨HO1.out, HRW.out, fun j hj => by have := HPL.out; omega⟩⟩
  case round =>
    obtain ⟨k, S, hk, rfl, HI⟩ := hrel
    by_cases hlt : k < 3
    · have hlt2 : (k : Int) < 3 := by omega
      have hcell : wr.cell? ⟨b, k, none⟩ = some (.int .u32 ([7, 8, 10].getD k 0)) := by
        have : k = 0 ∨ k = 1 ∨ k = 2 := by omega
        rcases this with rfl | rfl | rfl <;> exact (blk_cell HI.out.2.1 _).trans rfl
      have HT := Aside0.mk (al_take k hlt HI.out.1)
      obtain ⟨x, hx⟩ : ∃ x, x = ([7, 8, 10] : List Int).getD k 0 := ⟨_, rfl⟩
      rw [← hx] at hcell HT
      clear hx
      go_wp2_with (first | (go_at_call 10; refine HT.out.mono ?_; rintro e w3 ⟨rfl, S3, ho3, hc3⟩; have HO3 := Aside0.mk ho3; have HC3 := Aside0.mk hc3; clear ho3 hc3))
      go_roundw
      case rel => exact ⟨k + 1, S3, by omega, by go_num, ⟨HO3.out, (HC3.out.block b (blk_lt HI.out.2.1) (fun h => HI.out.2.2 b h rfl)).trans HI.out.2.1, fun j hj => (HC3.out.new j hj).elim (HI.out.2.2 j) (fun h => by have := blk_lt HI.out.2.1; omega)⟩⟩
      case measure => simp [intOf]; omega
    · obtain rfl : k = 3 := by omega
      have HG := Aside0.mk (gaps_calls HI.out.1.tr (by decide))
      rw [show gapsL 5 (alX 3) = [(2, 3), (5, 5)] from alG] at HG
      have HO9 := Aside0.mk HI.out.1
      clear HI
      go_wp2_with (first | (go_at_call 16; refine HG.out.mono ?_; rintro e w3 ⟨v3, rfl, hq3, hb3⟩; obtain ⟨g3, o3, c3, rfl, k0, k1, k2, k3⟩ := pq_cells hq3; have HK3 := Aside0.mk (And.intro k0 (And.intro k1 (And.intro k2 k3))); have HGB := Aside0.mk (And.intro (Kd.Q_base hq3 g3 rfl) (Kd.Q_lt hq3 g3 rfl)); have HO3 := Aside0.mk (HO9.out.below hb3); have HS3 := Aside0.mk (al_six HO3.out); clear hq3 hb3 k0 k1 k2 k3) | (go_at_call 10; refine HS3.out.mono ?_; rintro e w4 ⟨rfl, S4, ho4, hc4⟩; have HO4 := Aside0.mk ho4; have hk4 : w4.heap[g3]? = w3.heap[g3]? := hc4.block g3 HGB.out.2 (fun hs => by have := HO9.out.lt _ hs; have := HGB.out.1; omega); have k0 := (cell_heap hk4 o3).trans HK3.out.1; have k1 := (cell_heap hk4 (o3 + 1)).trans HK3.out.2.1; have k2 := (cell_heap hk4 (o3 + 2)).trans HK3.out.2.2.1; have k3 := (cell_heap hk4 (o3 + 3)).trans HK3.out.2.2.2; have HCU := Aside0.mk (cum_calls ho4.tr); clear ho4 hc4 hk4) | (go_at_call 11; refine HCU.out.mono ?_; rintro e w5 ⟨rfl, rfl⟩))
      go_ret
      exact ⟨rfl, HO4.out.bel⟩
end Go.Proofs.Ytkginabioolmiaa.Gp
