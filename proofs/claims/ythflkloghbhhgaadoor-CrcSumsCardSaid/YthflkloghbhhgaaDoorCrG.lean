import Derived.Test.YthflkloghbhhgaaDoorCrP
import Derived.Lib.SmallJoins
/- Texts in blocks; the walk of alive. -/
namespace Go.Proofs.YthflkloghbhhgaaDoor.Cr
open Go.RowKit Go.Proofs.YthflkloghbhhgaaDoorW.PrintWords Go.Proofs.YthflkloghbhhgaaDoorW.PrintMore Go.Proofs.YthflkloghbhhgaaDoor.Sh
set_option linter.unusedVariables false
set_option linter.unusedSimpArgs false
theorem add_row (b k : Nat) : (⟨b, 0, none⟩ : Addr).add k = ⟨b, k, none⟩ := by
  unfold Addr.add
  split
  · subst_vars; rfl
  · simp
/-- A text that is known whole, in a block. -/
theorem C_blk {w : World} {b t : Nat} {fr : Nat × Nat} {l : List Int} (h : w.heap[b]? = some (.cells (l.map (Value.int .u8)).toArray t fr)) (hl : l.length ≤ 1048576) : Kd.C (Kd.int .u8) w (some ⟨b, 0, none⟩) l.length l := by
  refine ⟨rfl, by omega, fun _ => ⟨_, rfl, fun j p hj => ⟨[.int .u8 p], rfl, rfl, fun i u hu => ?_⟩⟩⟩
  have hi : i = 0 := by
    cases i with
    | zero => rfl
    | succ n => simp at hu
  subst hi
  have hu' : Value.int .u8 p = u := by simpa using hu
  subst hu'
  rw [add_row, show j * (Kd.int .u8).sz + 0 = j from Nat.mul_one j, Joins.cell_of_block h j]
  simp [hj]
/-- A text that is read: its slice. -/
def Txt (w : World) (v : Value) (l : List Int) : Prop := ∃ A c, v = .slice A l.length c ∧ l.length ≤ c ∧ Kd.C (Kd.int .u8) w A l.length l ∧ Bytes l ∧ l.length ≤ 1048576
theorem Txt.below {w W : World} {v : Value} {l : List Int} (h : Txt w v l) (hb : Below w.heap.size w W) : Txt W v l := by
  obtain ⟨A, c, h1, h2, h3, h4⟩ := h
  exact ⟨A, c, h1, h2, Kd.C_below h3 hb, h4⟩
theorem txt_blk {w : World} {b t : Nat} {fr : Nat × Nat} {l : List Int} (h : w.heap[b]? = some (.cells (l.map (Value.int .u8)).toArray t fr)) (hl : l.length ≤ 1048576) (hb : Bytes l) : Txt w (.slice (some ⟨b, 0, none⟩) l.length l.length) l :=
  ⟨_, _, rfl, Nat.le_refl _, C_blk h hl, hb, hl⟩
theorem txt_nil (w : World) : Txt w (.slice none 0 0) [] := ⟨none, 0, rfl, Nat.le_refl _, ⟨rfl, by decide, fun h => absurd h (by decide)⟩, fun x hx => by simp at hx, by decide⟩
/-- Texts in a block of slices. -/
theorem parts_blk {W : World} {b t : Nat} {vs : List Value} {ps : List (List Int)} (hl : vs.length = ps.length) (h : W.heap[b]? = some (.cells vs.toArray t (0, 0))) (ht : ∀ k, k < ps.length → Txt W (vs.getD k .nilIface) (prt ps k)) : PartsAt W ⟨b, 0, none⟩ ps := by
  intro k hk
  obtain ⟨A, c, h1, h2, h3, h4, h5⟩ := ht k hk
  refine ⟨⟨A, c, ?_, h2, h3⟩, h4, h5⟩
  have := blk_cell h k
  rw [add_row, this, ← h1]
  have hk2 : k < vs.length := by omega
  simp [List.getElem?_eq_getElem hk2]
theorem tab_below {w W : World} (h : Tab w) (hb : Below w.heap.size w W) : Tab W := fun k hk => pw_cell_below hb (h k hk)
/-- One text, two, three. -/
theorem sum1 {W : World} {b t : Nat} {v1 : Value} {l1 : List Int} (hg : Tab W) (h : W.heap[b]? = some (.cells #[v1] t (0, 0))) (h1 : Txt W v1 l1) :
    Calls Tryd.prog 7 #[.slice (some ⟨b, 0, none⟩) 1 1] W fun e w' => e = .returned (.int .u32 (sum [l1] : Nat)) ∧ w' = W :=
  sum_calls W hg _ [l1] 1 1 rfl (parts_blk (vs := [v1]) rfl h (fun k hk => by
    have : k = 0 := by simpa using hk
    subst this; exact h1)) (by decide)
theorem sum2 {W : World} {b t : Nat} {v1 v2 : Value} {l1 l2 : List Int} (hg : Tab W) (h : W.heap[b]? = some (.cells #[v1, v2] t (0, 0))) (h1 : Txt W v1 l1) (h2 : Txt W v2 l2) :
    Calls Tryd.prog 7 #[.slice (some ⟨b, 0, none⟩) 2 2] W fun e w' => e = .returned (.int .u32 (sum [l1, l2] : Nat)) ∧ w' = W :=
  sum_calls W hg _ [l1, l2] 2 2 rfl (parts_blk (vs := [v1, v2]) rfl h (fun k hk => by
    have : k = 0 ∨ k = 1 := by simp at hk; omega
    rcases this with rfl | rfl; exact h1; exact h2)) (by decide)
theorem sum3 {W : World} {b t : Nat} {v1 v2 v3 : Value} {l1 l2 l3 : List Int} (hg : Tab W) (h : W.heap[b]? = some (.cells #[v1, v2, v3] t (0, 0))) (h1 : Txt W v1 l1) (h2 : Txt W v2 l2) (h3 : Txt W v3 l3) :
    Calls Tryd.prog 7 #[.slice (some ⟨b, 0, none⟩) 3 3] W fun e w' => e = .returned (.int .u32 (sum [l1, l2, l3] : Nat)) ∧ w' = W :=
  sum_calls W hg _ [l1, l2, l3] 3 3 rfl (parts_blk (vs := [v1, v2, v3]) rfl h (fun k hk => by
    have : k = 0 ∨ k = 1 ∨ k = 2 := by simp at hk; omega
    rcases this with rfl | rfl | rfl; exact h1; exact h2; exact h3)) (by decide)
/-- What is true behind a law's call. -/
def Yes (w : World) (e : Ending) (w' : World) : Prop := e = .returned (.bool true) ∧ Below w.heap.size w w'
set_option maxRecDepth 100000 in
theorem alive_calls (w : World) (hg : Tab w) : Calls Tryd.prog 6 #[] w (Yes w) := by
  have HG := Aside0.mk hg
  clear hg
  have n1 := Aside0.mk (show sum [[49, 50, 51, 52], [53, 54, 55, 56, 57]] = 3808858755 by decide)
  have hc1 : (convert 22 22 (.slice (some ⟨w.heap.size, 0, none⟩) 4 4)).run Tryd.prog (w.alloc (.cells #[.int .u8 49, .int .u8 50, .int .u8 51, .int .u8 52] 5)) = .ok (.slice (some ⟨w.heap.size, 0, none⟩) 4 4) (w.alloc (.cells #[.int .u8 49, .int .u8 50, .int .u8 51, .int .u8 52] 5 (4, 5))) :=
    Joins.run_convert_bytes_const_at w 22 5 _ 4 4 _ rfl Tryd.underlying22 Tryd.underlying5
  have hc2 : (convert 22 22 (.slice (some ⟨w.heap.size + 1, 0, none⟩) 5 5)).run Tryd.prog ((w.alloc (.cells #[.int .u8 49, .int .u8 50, .int .u8 51, .int .u8 52] 5 (4, 5))).alloc (.cells #[.int .u8 53, .int .u8 54, .int .u8 55, .int .u8 56, .int .u8 57] 5)) = .ok (.slice (some ⟨w.heap.size + 1, 0, none⟩) 5 5) ((w.alloc (.cells #[.int .u8 49, .int .u8 50, .int .u8 51, .int .u8 52] 5 (4, 5))).alloc (.cells #[.int .u8 53, .int .u8 54, .int .u8 55, .int .u8 56, .int .u8 57] 5 (5, 6))) :=
    Joins.run_convert_bytes_const_at _ 22 5 _ 5 5 _ (by simp) Tryd.underlying22 Tryd.underlying5
  go_enter Tryd.func6, Tryd.ntmps6
  go_wp2_with fail
  clear hc1 hc2
  have hb : Below w.heap.size w (((w.alloc (.cells #[.int .u8 49, .int .u8 50, .int .u8 51, .int .u8 52] 5 (4, 5))).alloc (.cells #[.int .u8 53, .int .u8 54, .int .u8 55, .int .u8 56, .int .u8 57] 5 (5, 6))).alloc (.cells #[.slice (some ⟨w.heap.size, 0, none⟩) 4 4, .slice (some ⟨w.heap.size + 1, 0, none⟩) 5 5] 22)) := below_alloc (below_alloc (below_alloc (Below.refl _ _) _) _) _
  have k1 := blk_alloc (blk_alloc (blk_new w (.cells #[.int .u8 49, .int .u8 50, .int .u8 51, .int .u8 52] 5 (4, 5))) (.cells #[.int .u8 53, .int .u8 54, .int .u8 55, .int .u8 56, .int .u8 57] 5 (5, 6))) (.cells #[.slice (some ⟨w.heap.size, 0, none⟩) 4 4, .slice (some ⟨w.heap.size + 1, 0, none⟩) 5 5] 22)
  have k2 := blk_alloc (blk_new (w.alloc (.cells #[.int .u8 49, .int .u8 50, .int .u8 51, .int .u8 52] 5 (4, 5))) (.cells #[.int .u8 53, .int .u8 54, .int .u8 55, .int .u8 56, .int .u8 57] 5 (5, 6))) (.cells #[.slice (some ⟨w.heap.size, 0, none⟩) 4 4, .slice (some ⟨w.heap.size + 1, 0, none⟩) 5 5] 22)
  have k3 := blk_new ((w.alloc (.cells #[.int .u8 49, .int .u8 50, .int .u8 51, .int .u8 52] 5 (4, 5))).alloc (.cells #[.int .u8 53, .int .u8 54, .int .u8 55, .int .u8 56, .int .u8 57] 5 (5, 6))) (.cells #[.slice (some ⟨w.heap.size, 0, none⟩) 4 4, .slice (some ⟨w.heap.size + 1, 0, none⟩) 5 5] 22)
  rw [World.size_alloc] at k2
  rw [World.size_alloc, World.size_alloc] at k3
  have t1 := txt_blk (l := [49, 50, 51, 52]) k1 (by decide) (by unfold Bytes; decide)
  have t2 := txt_blk (l := [53, 54, 55, 56, 57]) k2 (by decide) (by unfold Bytes; decide)
  refine (sum2 (tab_below HG.out hb) k3 t1 t2).mono ?_
  rintro e w' ⟨rfl, rfl⟩
  rw [n1.out]
  go_wp2_with fail
  go_ret
  exact ⟨rfl, hb⟩
end Go.Proofs.YthflkloghbhhgaaDoor.Cr
