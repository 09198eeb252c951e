import Derived.Test.YthflkloghbhhgaaRowK
import Derived.Test.YthflkloghbhhgaaPAllx26
namespace Go.Proofs.Ythflkloghbhhgaa.Rw
open Go.RowKit Go.Proofs.YthflkloghbhhgaaW.PrintWords Go.Proofs.YthflkloghbhhgaaW.PrintMore Go.Proofs.Ythflkloghbhhgaa.Sh Go.Proofs.Ythflkloghbhhgaa.PAll
open Go.Proofs.Ythflkloghbhhgaa.Rs (chg_below alive_row Yes)
set_option linter.unusedVariables false
set_option linter.unusedSimpArgs false
/-- The state with a second list, of the law's own making. -/
def OInv (W : World) (A1 : Option Addr) (l1 : List Int) (p : Nat) (f0 fr mo : Int) (xs : List Int) (v9 : Value) (ts : List Int) (wr : World) : Prop :=
  ∃ v, RowAt wr W.heap.size p fr mo v xs ∧ W.heap.size < p ∧ wr.heap[W.heap.size]? = some (.cells #[.int .u32 f0, .int .i64 mo] 24 (0, 0)) ∧ Kd.C (Kd.int .i64) wr A1 l1.length l1 ∧ Below W.heap.size W wr ∧
    (Kd.int .i64).Q 3 wr W.heap.size (fun _ => True) v9 ts ∧ ∀ k, v.ownBlock = some k → v9.ownBlock ≠ some k
theorem q_keep {w w' : World} {B : Nat} {v : Value} {xs : List Int} (h : (Kd.int .i64).Q 3 w B (fun _ => True) v xs) (hv : ∀ k, v.ownBlock = some k → w'.heap[k]? = w.heap[k]?) : (Kd.int .i64).Q 3 w' B (fun _ => True) v xs := by
  obtain ⟨a, inner, hq, hr⟩ := h
  exact ⟨a, inner, q_move hq hv, hr.1, fun m x hm => hr.2 m x hm⟩
theorem row_lit0 {w : World} {B : Nat} (hB : B ≤ w.heap.size) : (Kd.int .i64).Q 3 (w.alloc (.cells #[] 3)) B (fun _ => True) (.slice (some ⟨w.heap.size, 0, none⟩) 0 0) [] :=
  Kd.Q_of_R ⟨fun _ _ => trivial, [], World.ownsRow_lit (base := B) (e := 3) (size := 1) w #[] 0 hB (by decide) rfl, Reps.none _ _⟩
section
variable {W wr w' : World} {A1 : Option Addr} {l1 : List Int} {p : Nat} {f0 fr fr' mo : Int} {xs ys ts : List Int} {v v' v9 v1 : Value}
theorem OInv.inv (h : OInv W A1 l1 p f0 fr mo xs v9 ts wr) : Inv W A1 l1 p f0 fr mo xs wr := by
  obtain ⟨v, h1, h2, h3, h4, h5, _⟩ := h
  exact ⟨v, h1, h2, h3, h4, h5⟩
theorem OInv.drewN (h : OInv W A1 l1 p f0 fr mo xs v9 ts wr) (m : Nat) : OInv W A1 l1 p f0 fr mo xs v9 ts (wr.drewN m) := by
  obtain ⟨v, h1, h2, h3, h4, h5, h6, h7⟩ := h
  exact ⟨v, h1.drewN m, h2, h3, Kd.C_drewN h4 m, pw_below_drewN h5 m, Kd.Q_drewN h6 m, h7⟩
theorem OInv.begin (h : Inv W A1 l1 p f0 fr mo xs wr) (hC0 : Kd.C (Kd.int .i64) W A1 l1.length l1) : OInv W A1 l1 p f0 fr mo xs (.slice (some ⟨wr.heap.size, 0, none⟩) 0 0) [] (wr.alloc (.cells #[] 3)) := by
  obtain ⟨v, h1, h2, h3, h4, h5⟩ := h
  have hB : Below W.heap.size W (wr.alloc (.cells #[] 3)) := h5.alloc h5.size _
  refine ⟨v, h1.keep (Below.heap_alloc wr _ p h1.lt) (fun k hk => Below.heap_alloc wr _ k (Kd.Q_lt h1.2.2 k hk)), h2, blk_alloc h3 _, Kd.C_below hC0 hB, hB, row_lit0 h5.size, fun k hk he => ?_⟩
  have := Kd.Q_lt h1.2.2 k hk
  simp [Value.ownBlock] at he
  omega
theorem OInv.step (h1 : RowAt wr W.heap.size p fr mo v xs) (h2 : W.heap.size < p) (h3 : wr.heap[W.heap.size]? = some (.cells #[.int .u32 f0, .int .i64 mo] 24 (0, 0))) (hC0 : Kd.C (Kd.int .i64) W A1 l1.length l1) (h5 : Below W.heap.size W wr)
    (h6 : (Kd.int .i64).Q 3 wr W.heap.size (fun _ => True) v9 ts) (h7 : ∀ k, v.ownBlock = some k → v9.ownBlock ≠ some k)
    (hr : RowAt w' W.heap.size p fr' mo v' ys) (hc : Chg wr w' p v) (ho : v'.ownBlock = v.ownBlock ∨ v'.ownBlock = none ∨ ∃ b, v'.ownBlock = some b ∧ wr.heap.size ≤ b) : OInv W A1 l1 p f0 fr' mo ys v9 ts w' := by
  have hb := chg_below hc h1.1 (fun k hk => Kd.Q_base h1.2.2 k hk) h5.size
  have hB := h5.trans hb
  refine ⟨v', hr, h2, ?_, Kd.C_below hC0 hB, hB, q_keep h6 (fun k hk => ?_), fun k hk he => ?_⟩
  · exact (hc.block _ (blk_lt h3) (by omega) (fun he => Kd.Q_ne h1.2.2 h3 (by decide) he.symm)).trans h3
  · exact hc.block k (Kd.Q_lt h6 k hk) (fun he => Kd.Q_ne h6 h1.2.1 (by decide) (by rw [← he]; exact hk.symm)) (fun he => h7 k he hk)
  · rcases ho with ho | ho | ⟨b, ho, hb⟩
    · exact h7 k (ho ▸ hk) he
    · rw [ho] at hk; cases hk
    · rw [ho] at hk
      injection hk with hk
      have := Kd.Q_lt h6 k he
      omega
theorem o_push (h : OInv W A1 l1 p f0 fr mo xs v9 ts wr) (hC0 : Kd.C (Kd.int .i64) W A1 l1.length l1) (x : Int) (hm : mo ≤ 1024) (hl : (xs.length : Int) < mo) :
    Calls Try.prog 10 #[.pointer (some ⟨p, 0, none⟩), .int .i64 x] wr fun e w' => e = .returned (.tuple #[.int .u32 ((fr + (xs.length : Int)) % 4294967296), .nilIface]) ∧ OInv W A1 l1 p f0 fr mo (xs ++ [x]) v9 ts w' := by
  obtain ⟨v, h1, h2, h3, h4, h5, h6, h7⟩ := h
  refine (push_row h1 x hl hm).mono fun e w' ⟨he, v', hr, hc, ho⟩ => ⟨he, OInv.step h1 h2 h3 hC0 h5 h6 h7 hr hc ?_⟩
  rcases ho with ho | ho
  · exact .inl ho
  · exact .inr (.inr ho)
theorem o_full (h : OInv W A1 l1 p f0 fr mo xs v9 ts wr) (x : Int) (hl : (xs.length : Int) = mo) :
    Calls Try.prog 10 #[.pointer (some ⟨p, 0, none⟩), .int .i64 x] wr fun e w' => e = .returned (.tuple #[.int .u32 0, .iface 38 (.int .i64 3)]) ∧ ∃ m, w' = wr.drewN m := push_full h.choose_spec.1 x hl
theorem o_pop (h : OInv W A1 l1 p f0 fr mo xs v9 ts wr) (hC0 : Kd.C (Kd.int .i64) W A1 l1.length l1) (hl : 0 < xs.length) (y : Int) (hy : xs.getD 0 0 = y) :
    Calls Try.prog 15 #[.pointer (some ⟨p, 0, none⟩)] wr fun e w' => e = .returned (.tuple #[.int .i64 y, .nilIface]) ∧ OInv W A1 l1 p f0 ((fr + 1) % 4294967296) mo (xs.drop 1) v9 ts w' := by
  obtain ⟨v, h1, h2, h3, h4, h5, h6, h7⟩ := h
  refine (pop_row h1 hl y hy).mono fun e w' ⟨he, v', hr, hc, ho⟩ => ⟨he, OInv.step h1 h2 h3 hC0 h5 h6 h7 hr hc ?_⟩
  rcases ho with ho | ho
  · exact .inl ho
  · exact .inr (.inl ho)
def OCut (W : World) (A1 : Option Addr) (l1 : List Int) (p : Nat) (f0 mo : Int) (xs : List Int) (v9 : Value) (ts : List Int) (k : Nat) (n : Int) (e : Ending) (w' : World) : Prop :=
  ∃ A c, e = .returned (.tuple #[.slice A k c, .nilIface]) ∧ k ≤ c ∧ Kd.C (Kd.int .i64) w' A k (xs.take k) ∧ OInv W A1 l1 p f0 n mo (xs.drop k) v9 ts w'
theorem o_cut (h : OInv W A1 l1 p f0 fr mo xs v9 ts wr) (hC0 : Kd.C (Kd.int .i64) W A1 l1.length l1) (n : Int) (k : Nat) (hi : (n - fr) % 4294967296 = k) (hl : k ≤ xs.length) (hm : xs.length ≤ 1024) :
    Calls Try.prog 17 #[.pointer (some ⟨p, 0, none⟩), .int .u32 n] wr (OCut W A1 l1 p f0 mo xs v9 ts k n) := by
  obtain ⟨v, h1, h2, h3, h4, h5, h6, h7⟩ := h
  refine (cut_yes h1 n k hi hl hm).mono fun e w' ⟨A, c, v', he, hR, hr, hc, ho⟩ => ?_
  obtain ⟨_, hc', hC⟩ := Kd.R_reads' hR
  have hlen : (xs.take k).length = k := by simp; omega
  rw [hlen] at hC
  refine ⟨A, c, he, hc', hC, OInv.step h1 h2 h3 hC0 h5 h6 h7 hr hc ?_⟩
  rcases ho with ho | ho
  · exact .inl ho
  · exact .inr (.inl ho)
/-- The second list has grown. -/
theorem OInv.grow (h : OInv W A1 l1 p f0 fr mo xs v9 ts wr) (hC0 : Kd.C (Kd.int .i64) W A1 l1.length l1) (hQ : (Kd.int .i64).Q 3 w' W.heap.size (fun _ => True) v1 ys) (hB : Below W.heap.size W w') (hg : wr.grownBy w' v9.ownBlock) (ho : v1.ownBlock = v9.ownBlock ∨ ∃ b, v1.ownBlock = some b ∧ wr.heap.size ≤ b) :
    OInv W A1 l1 p f0 fr mo xs v1 ys w' := by
  obtain ⟨v, h1, h2, h3, h4, h5, h6, h7⟩ := h
  refine ⟨v, h1.keep (hg.block p h1.lt (fun he => Kd.Q_ne h6 h1.2.1 (by decide) he)) (fun k hk => hg.block k (Kd.Q_lt h1.2.2 k hk) (fun he => h7 k hk he.symm)), h2, (hg.block _ (blk_lt h3) (fun he => Kd.Q_ne h6 h3 (by decide) he)).trans h3, Kd.C_below hC0 hB, hB, hQ, fun k hk he => ?_⟩
  rcases ho with ho | ⟨b, ho, hb⟩
  · exact h7 k hk (ho ▸ he)
  · rw [ho] at he
    injection he with he
    have := Kd.Q_lt h1.2.2 k hk
    omega
theorem OInv.own (h : OInv W A1 l1 p f0 fr mo xs v9 ts wr) : ∃ A c, v9 = .slice A ts.length c ∧ ts.length ≤ c ∧ (Kd.int .i64).C wr A ts.length ts := Kd.Q_reads h.choose_spec.2.2.2.2.2.1
theorem OInv.q (h : OInv W A1 l1 p f0 fr mo xs v9 ts wr) : (Kd.int .i64).Q 3 wr W.heap.size (fun _ => True) v9 ts := h.choose_spec.2.2.2.2.2.1
theorem OInv.box (h : OInv W A1 l1 p f0 fr mo xs v9 ts wr) : wr.heap[W.heap.size]? = some (.cells #[.int .u32 f0, .int .i64 mo] 24 (0, 0)) := h.choose_spec.2.2.1
theorem OInv.below (h : OInv W A1 l1 p f0 fr mo xs v9 ts wr) : Below W.heap.size W wr := h.choose_spec.2.2.2.2.1
end
theorem ints_same (l : List Int) (hl : l.length ≤ 1000) : ∃ k, weftlinenum_Ints.f k l l = some true := by
  have key : ∀ n i : Nat, i + n = l.length → weftlinenum_Ints.l0 (n + 1) l l (l.length : Int) (i : Int) = some true := by
    intro n
    induction n with
    | zero =>
      intro i hi
      unfold weftlinenum_Ints.l0
      rw [if_neg (by omega)]
    | succ n ih =>
      intro i hi
      unfold weftlinenum_Ints.l0
      rw [if_pos (by omega), if_pos (by omega), if_pos (by omega), if_pos (by omega), if_pos rfl, show wrap64 ((i : Int) + 1) = ((i + 1 : Nat) : Int) by unfold wrap64; omega]
      exact ih (i + 1) (by omega)
  refine ⟨l.length + 1, ?_⟩
  unfold weftlinenum_Ints.f
  rw [if_pos rfl]
  exact key l.length 0 (by omega)
end Go.Proofs.Ythflkloghbhhgaa.Rw
