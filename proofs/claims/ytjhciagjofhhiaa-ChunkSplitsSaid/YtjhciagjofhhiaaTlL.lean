import Derived.Test.YtjhciagjofhhiaaTlK
/- For TlvPuts: the state. -/
namespace Go.Proofs.Ytjhciagjofhhiaa.Tl
open Go.RowKit Go.Proofs.YtjhciagjofhhiaaW.PrintWords Go.Proofs.YtjhciagjofhhiaaW.PrintLast Go.Proofs.YtjhciagjofhhiaaW.PrintMore Go.Proofs.Ytjhciagjofhhiaa.Sh
set_option linter.unusedVariables false
set_option linter.unusedSimpArgs false
theorem rb_ok {w : World} {B : Nat} {v : Value} {l : List Int} (h : RB w B v l) : Kd.R (Kd.int .u8) 5 w B (fun k => v.ownBlock = some k) v l := ⟨fun _ hk => hk, h.2⟩
theorem rb_move {w w2 : World} {B : Nat} {v : Value} {l : List Int} (h : RB w B v l) (hm : ∀ k, v.ownBlock = some k → w2.heap[k]? = w.heap[k]?) : RB w2 B v l := Kd.R_mono (Kd.R_move (rb_ok h) hm) (fun _ _ => trivial)
theorem rb_lt {w : World} {B : Nat} {v : Value} {l : List Int} (h : RB w B v l) (k : Nat) (hk : v.ownBlock = some k) : k < w.heap.size ∧ B ≤ k := by
  obtain ⟨inner, ho⟩ := Kd.R_own h
  exact ⟨own_lt ho k hk, own_base ho k hk⟩
/-- Out holds L1, the law's own list L2; they are apart. -/
structure PT (W : World) (p : Nat) (L1 : List Int) (v vw : Value) (L2 : List Int) (wr : World) : Prop where
  out : OutAt wr W.heap.size p v L1
  want : RB wr W.heap.size vw L2
  apart : ∀ k, vw.ownBlock = some k → v.ownBlock ≠ some k
  bel : Below W.heap.size W wr
section
variable {W wr w2 : World} {p : Nat} {L1 L1' L2 L2' : List Int} {v v' vw vw' : Value}
theorem PT.size (h : PT W p L1 v vw L2 wr) : W.heap.size ≤ wr.heap.size := h.bel.size
theorem PT.below (h : PT W p L1 v vw L2 wr) (hb : Below wr.heap.size wr w2) : PT W p L1 v vw L2 w2 :=
  ⟨⟨h.out.1, blk_below h.out.2.1 hb, Kd.R_below h.out.2.2 hb⟩, Kd.R_below h.want hb, h.apart, below_step h.bel hb⟩
theorem PT.outs (h : PT W p L1 v vw L2 wr) (ho : OutAt w2 W.heap.size p v' L1') (hc : Chg wr w2 p v) (hf : Fresh wr v v') : PT W p L1' v' vw L2 w2 := by
  have hp : ∀ k, vw.ownBlock = some k → k ≠ p := fun k hk e => Kd.R_ne h.want h.out.2.1 (by decide) (by rw [hk, e])
  refine ⟨ho, rb_move h.want (fun k hk => hc.block k (rb_lt h.want k hk).1 (hp k hk) (h.apart k hk)), fun k hk he => ?_, h.bel.trans ⟨hc.os, hc.tape, hc.output, hc.size, fun k hk => hc.block k (Nat.lt_of_lt_of_le hk h.size) (by have := h.out.1; omega) (fun he => by have := (rb_lt h.out.2.2 k he).2; omega)⟩⟩
  rcases hf with hf | ⟨b, hf, hb⟩
  · exact h.apart k hk (hf ▸ he)
  · rw [hf] at he
    injection he with he
    have := (rb_lt h.want k hk).1
    omega
theorem PT.wants (h : PT W p L1 v vw L2 wr) (hw : RB w2 W.heap.size vw' L2') (hB : Below W.heap.size W w2) (hg : wr.grownBy w2 vw.ownBlock) (hn : vw'.ownBlock = vw.ownBlock ∨ ∃ b, vw'.ownBlock = some b ∧ wr.heap.size ≤ b) : PT W p L1 v vw' L2' w2 := by
  refine ⟨⟨h.out.1, (hg.block p h.out.lt (fun e => Kd.R_ne h.want h.out.2.1 (by decide) e)).trans h.out.2.1, rb_move h.out.2.2 (fun k hk => hg.block k (rb_lt h.out.2.2 k hk).1 (fun e => h.apart k e.symm hk))⟩, hw, fun k hk he => ?_, hB⟩
  rcases hn with hn | ⟨b, hn, hb⟩
  · exact h.apart k (hn ▸ hk) he
  · rw [hn] at hk
    injection hk with hk
    have := (rb_lt h.out.2.2 k he).1
    omega
/-- The law's own list is another one. -/
theorem PT.renew (h : PT W p L1 v vw L2 wr) (hb : Below wr.heap.size wr w2) (hw : RB w2 wr.heap.size vw' L2') : PT W p L1 v vw' L2' w2 := by
  have h2 := h.below hb
  refine ⟨h2.out, Kd.R_lower hw h.size, fun k hk he => ?_, h2.bel⟩
  have := (rb_lt hw k hk).2
  have := (rb_lt h.out.2.2 k he).1
  omega
theorem PT.far (h : PT W p L1 v vw L2 wr) (g j : Nat) (u : Value) (hg : W.heap.size ≤ g) (hp : g ≠ p) (hv : v.ownBlock ≠ some g) (hvw : vw.ownBlock ≠ some g) : PT W p L1 v vw L2 (wr.setCell ⟨g, j, none⟩ u) := by
  have key : ∀ k, k ≠ g → (wr.setCell ⟨g, j, none⟩ u).heap[k]? = wr.heap[k]? := fun k hk => Below.heap_setCell wr ⟨g, j, none⟩ u k hk
  exact ⟨⟨h.out.1, (key p (fun e => hp e.symm)).trans h.out.2.1, rb_move h.out.2.2 (fun k hk => key k (fun e => hv (e ▸ hk)))⟩, rb_move h.want (fun k hk => key k (fun e => hvw (e ▸ hk))), h.apart, h.bel.setCell (p := ⟨g, j, none⟩) hg u⟩
theorem Grown.kp {t : Nat} (h5 : t ≠ 5) {B : Nat} {L : List Int} (hw : RB wr B vw L) (hg : wr.grownBy w2 vw.ownBlock) : Kp t wr w2 := fun g cs hx =>
  (hg.block g (blk_lt hx) (fun e => Kd.R_ne hw hx (fun e => h5 e.symm) e)).trans hx
theorem pt_num (h : PT W p L1 v vw L2 wr) (n : Nat) (s : Int) (hl : L1.length + 8 ≤ 1048576) : Calls Try.prog 13 #[.pointer (some ⟨p, 0, none⟩), .int .u64 (n : Nat), .int .i64 s] wr fun e w' => (∃ u, e = .returned u) ∧ (∃ v', PT W p (L1 ++ nbz n s) v' vw L2 w') ∧ Kp 31 wr w' :=
  (num_calls h.out n s hl).mono fun e w' ⟨he, v', ho, hc, hf⟩ => ⟨he, ⟨v', h.outs ho hc hf⟩, Chg.kp (by decide) (by decide) h.out hc⟩
theorem pt_pad (h : PT W p L1 v vw L2 wr) (hl : L1.length + 8 ≤ 1048576) : Calls Try.prog 16 #[.pointer (some ⟨p, 0, none⟩)] wr fun e w' => (∃ u, e = .returned u) ∧ (∃ v', PT W p (padL L1) v' vw L2 w') ∧ Kp 31 wr w' :=
  (pad_calls h.out hl).mono fun e w' ⟨he, v', ho, hc, hf⟩ => ⟨he, ⟨v', h.outs ho hc hf⟩, Chg.kp (by decide) (by decide) h.out hc⟩
/-- Put, of a text of its own that is apart: vo. -/
theorem pt_put (h : PT W p L1 v vw L2 wr) (A : Option Addr) (c : Nat) (l : List Int) (hc : l.length ≤ c) (hC : Kd.C (Kd.int .u8) wr A l.length l) (hl : L1.length + l.length ≤ 1048576) : Calls Try.prog 15 #[.pointer (some ⟨p, 0, none⟩), .slice A l.length c] wr fun e w' => (∃ u, e = .returned u) ∧ ∃ v', PT W p (L1 ++ l) v' vw L2 w' ∧ Kp 31 wr w' ∧ Chg wr w' p v ∧ Fresh wr v v' :=
  (put_calls h.out A c l hc hC hl).mono fun e w' ⟨he, v', ho, hc, hf⟩ => ⟨he, v', h.outs ho hc hf, Chg.kp (by decide) (by decide) h.out hc, hc, hf⟩
theorem pt_bytes (h : PT W p L1 v vw L2 wr) (hl : L1.length ≤ 1048576) : Calls Try.prog 18 #[.pointer (some ⟨p, 0, none⟩)] wr fun e w' => ∃ A c, e = .returned (.slice A L1.length c) ∧ RB w' wr.heap.size (.slice A L1.length c) L1 ∧ PT W p L1 v vw L2 w' ∧ Below wr.heap.size wr w' :=
  (bytes_calls h.out hl).mono fun e w' ⟨A, c, he, hR, hB⟩ => ⟨A, c, he, hR, h.below hB, hB⟩
end
end Go.Proofs.Ytjhciagjofhhiaa.Tl
