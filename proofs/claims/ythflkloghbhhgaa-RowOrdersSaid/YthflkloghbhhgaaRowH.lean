import Derived.Test.YthflkloghbhhgaaRowG
import Derived.Test.YthflkloghbhhgaaRowAl
import Derived.LoopTactic
namespace Go.Proofs.Ythflkloghbhhgaa.Rw
open Go.RowKit Go.Proofs.YthflkloghbhhgaaW.PrintWords Go.Proofs.YthflkloghbhhgaaW.PrintMore Go.Proofs.Ythflkloghbhhgaa.Sh Go.Proofs.Ythflkloghbhhgaa.PAll
open Go.Proofs.Ythflkloghbhhgaa.Rs (chg_below alive_row Yes)
set_option linter.unusedVariables false
set_option linter.unusedSimpArgs false
/-- The laws' state: the box of the scene, the list that came in, the row. -/
def Inv (W : World) (A1 : Option Addr) (l1 : List Int) (p : Nat) (f0 fr mo : Int) (xs : List Int) (wr : World) : Prop :=
  ∃ v, RowAt wr W.heap.size p fr mo v xs ∧ W.heap.size < p ∧ wr.heap[W.heap.size]? = some (.cells #[.int .u32 f0, .int .i64 mo] 24 (0, 0)) ∧ Kd.C (Kd.int .i64) wr A1 l1.length l1 ∧ Below W.heap.size W wr
section
variable {W wr w' : World} {A1 : Option Addr} {l1 : List Int} {p : Nat} {f0 fr fr' mo : Int} {xs ys : List Int} {v v' : Value}
theorem Inv.drewN (h : Inv W A1 l1 p f0 fr mo xs wr) (m : Nat) : Inv W A1 l1 p f0 fr mo xs (wr.drewN m) := by
  obtain ⟨v, h1, h2, h3, h4, h5⟩ := h
  exact ⟨v, h1.drewN m, h2, h3, Kd.C_drewN h4 m, pw_below_drewN h5 m⟩
/-- A method of the row has been called; its beginning may have turned (fr'). -/
theorem Inv.step (h1 : RowAt wr W.heap.size p fr mo v xs) (h2 : W.heap.size < p) (h3 : wr.heap[W.heap.size]? = some (.cells #[.int .u32 f0, .int .i64 mo] 24 (0, 0))) (hC0 : Kd.C (Kd.int .i64) W A1 l1.length l1) (h5 : Below W.heap.size W wr)
    (hr : RowAt w' W.heap.size p fr' mo v' ys) (hc : Chg wr w' p v) : Inv W A1 l1 p f0 fr' mo ys w' := by
  have hb := chg_below hc h1.1 (fun k hk => Kd.Q_base h1.2.2 k hk) h5.size
  have hB := h5.trans hb
  refine ⟨v', hr, h2, ?_, Kd.C_below hC0 hB, hB⟩
  exact (hc.block _ (blk_lt h3) (by omega) (fun he => Kd.Q_ne h1.2.2 h3 (by decide) he.symm)).trans h3
/-- A thing is pushed, or there is no room. -/
def Pushes (W : World) (A1 : Option Addr) (l1 : List Int) (p : Nat) (f0 fr mo : Int) (xs : List Int) (x : Int) (e : Ending) (w' : World) : Prop :=
  ∃ n er, e = .returned (.tuple #[.int .u32 n, er]) ∧ Inv W A1 l1 p f0 fr mo (if (xs.length : Int) < mo then xs ++ [x] else xs) w'
theorem inv_push (h : Inv W A1 l1 p f0 fr mo xs wr) (hC0 : Kd.C (Kd.int .i64) W A1 l1.length l1) (x : Int) (hm : mo ≤ 1024) (hl : (xs.length : Int) ≤ mo) :
    Calls Try.prog 10 #[.pointer (some ⟨p, 0, none⟩), .int .i64 x] wr (Pushes W A1 l1 p f0 fr mo xs x) := by
  have h' := h
  obtain ⟨v, h1, h2, h3, h4, h5⟩ := h
  by_cases hlt : (xs.length : Int) < mo
  · refine (push_row h1 x hlt hm).mono fun e w' ⟨he, v', hr, hc, _⟩ => ⟨_, _, he, ?_⟩
    rw [if_pos hlt]
    exact Inv.step h1 h2 h3 hC0 h5 hr hc
  · refine (push_full h1 x (by omega)).mono fun e w' ⟨he, m, hw⟩ => ⟨_, _, he, ?_⟩
    rw [if_neg hlt, hw]
    exact h'.drewN m
/-- A new row. -/
def NewRow (W : World) (A1 : Option Addr) (l1 : List Int) (f0 mo : Int) (e : Ending) (w' : World) : Prop :=
  ∃ p, e = .returned (.tuple #[.pointer (some ⟨p, 0, none⟩), .nilIface]) ∧ Inv W A1 l1 p f0 f0 mo [] w'
theorem inv_new (h1 : 1 ≤ mo) (h2 : mo ≤ 1024) (h3 : wr.heap[W.heap.size]? = some (.cells #[.int .u32 f0, .int .i64 mo] 24 (0, 0))) (hC0 : Kd.C (Kd.int .i64) W A1 l1.length l1) (h5 : Below W.heap.size W wr) :
    Calls Try.prog 9 #[.int .u32 f0, .int .i64 mo] wr (NewRow W A1 l1 f0 mo) := by
  refine (new_row h1 h2).mono fun e w' ⟨he, hw⟩ => ⟨wr.heap.size, he, ?_⟩
  have hs := h5.size
  have hB : Below W.heap.size W w' := by rw [hw]; exact h5.alloc hs _
  refine ⟨_, by rw [hw]; exact row_new hs, blk_lt h3, ?_, Kd.C_below hC0 hB, hB⟩
  rw [hw]
  exact blk_alloc h3 _
end
end Go.Proofs.Ythflkloghbhhgaa.Rw
