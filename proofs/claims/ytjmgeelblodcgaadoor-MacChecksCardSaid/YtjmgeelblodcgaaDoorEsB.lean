import Derived.Test.YtjmgeelblodcgaaDoorEsA
import Derived.Deep.RegionWith
import Derived.RegionTactic
/- A message's words in memory; the walk of at (its third region printed by genEsB.py). -/
namespace Go.Proofs.YtjmgeelblodcgaaDoor.Sx
open Go.RowKit Go.Proofs.YtjmgeelblodcgaaDoorW.PrintWords Go.Proofs.YtjmgeelblodcgaaDoorW.PrintLast Go.Proofs.YtjmgeelblodcgaaDoorW.PrintMore Go.Proofs.YtjmgeelblodcgaaDoor.Sh
set_option linter.unusedVariables false
set_option linter.unusedSimpArgs false
theorem blk_new_at (w : World) (o : Obj) (b : Nat) (h : b = w.heap.size) : (w.alloc o).heap[b]? = some o := by subst h; exact blk_new w o
def vals (m : List Nat) : Array Value := (m.map (fun n => Value.int .u32 (n : Nat))).toArray
def Good (m : List Nat) : Prop := ∀ k, mr m k < 4294967296
/-- Words in a block. -/
def WB (w : World) (b t : Nat) (m : List Nat) : Prop := w.heap[b]? = some (.cells (vals m) t (0, 0))
theorem WB.at {w : World} {b t : Nat} {m : List Nat} (h : WB w b t m) (k : Nat) (hk : k < m.length) : w.cell? ⟨b, k, none⟩ = some (.int .u32 (mr m k : Nat)) ∧ w.frozen? ⟨b, k, none⟩ = false := by
  refine ⟨(blk_cell h k).trans ?_, blk_frozen h k⟩
  simp [vals, mr, List.getElem?_eq_getElem hk]
theorem WB.put {w : World} {b t : Nat} {m : List Nat} (h : WB w b t m) (k : Nat) (v : Nat) : WB (w.setCell ⟨b, k, none⟩ (.int .u32 (v : Nat))) b t (m.set k v) := by
  refine blk_put h k _ ?_
  simp [vals, List.map_set]
theorem WB.below {w W : World} {b t : Nat} {m : List Nat} (h : WB w b t m) (hb : Below w.heap.size w W) : WB W b t m := (hb.block b (blk_lt h)).trans h
theorem good_set {m : List Nat} (h : Good m) (k v : Nat) (hv : v < 4294967296) : Good (m.set k v) := by
  intro j
  unfold mr
  rw [List.getD_eq_getElem?_getD, List.getElem?_set]
  split
  · split
    · exact hv
    · exact (by decide : 0 < 4294967296)
  · have := h j
    unfold mr at this
    rwa [List.getD_eq_getElem?_getD] at this
theorem turned_blk (w : World) (b t : Nat) (ns : List Nat) (n : Nat) (x : Nat) (hx : x < 4294967296) (hn : n = ns.length) (hs : ns.length ≤ 100) (h1 : ∀ k, k < ns.length → 1 ≤ mr ns k ∧ mr ns k ≤ 31) (hb : w.heap[b]? = some (.cells (ns.map (fun k => Value.int .i64 (k : Nat))).toArray t (0, 0))) :
    Calls Tryd.prog 43 #[.int .u32 x, .slice (some ⟨b, 0, none⟩) n n] w fun e w' => e = .returned (.int .u32 (trn x ns n : Nat)) ∧ w' = w := by
  subst hn
  exact turned_calls w b t ns _ x hx rfl hs (fun k hk => by rw [blk_cell hb k]; simp [mr, List.getElem?_eq_getElem hk]) h1
/-- The two sums of a message, and its new word. -/
def sg0 (x : Nat) : Nat := trn x [7, 18] 2 ^^^ (x / 8)
def sg1 (x : Nat) : Nat := trn x [17, 19] 2 ^^^ (x / 1024)
def newW (ms : List Nat) (i : Nat) : Nat := (mr ms (i % 16) + ((sg0 (mr ms ((i - 15) % 16)) + mr ms ((i - 7) % 16)) % 4294967296 + sg1 (mr ms ((i - 2) % 16))) % 4294967296) % 4294967296
theorem sg_lt (x : Nat) (hx : x < 4294967296) : sg0 x < 4294967296 ∧ sg1 x < 4294967296 := ⟨xor_lt32 (trn_lt hx _ _) (by omega), xor_lt32 (trn_lt hx _ _) (by omega)⟩
theorem sg_facts (x : Nat) (hx : x < 4294967296) : bits .xor .u32 (trn x [7, 18] 2 : Nat) ((x : Int) / 8) = (sg0 x : Nat) ∧ bits .xor .u32 (trn x [17, 19] 2 : Nat) ((x : Int) / 1024) = (sg1 x : Nat) := by
  refine ⟨?_, ?_⟩
  · rw [show ((x : Int) / 8) = ((x / 8 : Nat) : Int) by omega, xor32 _ _ (trn_lt hx _ _) (by omega)]; rfl
  · rw [show ((x : Int) / 1024) = ((x / 1024 : Nat) : Int) by omega, xor32 _ _ (trn_lt hx _ _) (by omega)]; rfl
theorem wadd (a b : Nat) : IntKind.u32.wrap ((a : Int) + (b : Int)) = (((a + b) % 4294967296 : Nat) : Int) := by
  show ((a : Int) + (b : Int)) % 4294967296 = _
  omega
theorem lit2 (a b : Nat) (h : 1 ≤ a ∧ a ≤ 31 ∧ 1 ≤ b ∧ b ≤ 31) : ∀ k, k < [a, b].length → 1 ≤ mr [a, b] k ∧ mr [a, b] k ≤ 31 := by
  intro k hk
  have : k = 0 ∨ k = 1 := by simp at hk; omega
  rcases this with rfl | rfl
  · exact ⟨h.1, h.2.1⟩
  · exact ⟨h.2.2.1, h.2.2.2⟩
set_option maxRecDepth 100000 in
theorem at_small (w : World) (b : Nat) (ms : List Nat) (hl : ms.length = 16) (hm : WB w b 71 ms) (i : Nat) (hi : i < 16) :
    Calls Tryd.prog 44 #[.pointer (some ⟨b, 0, none⟩), .int .i64 i] w fun e w' => e = .returned (.int .u32 (mr ms i : Nat)) ∧ w' = w := by
  have hc := (hm.at i (by omega)).1
  have ht : Int.tmod (i : Int) 16 = i := by rw [Int.tmod_eq_emod_of_nonneg (by omega)]; omega
  have hi2 : (i : Int) < 16 := by omega
  clear hm
  go_enter Tryd.func44, Tryd.ntmps44
  go_wp2_with fail
  go_ret
  exact ⟨rfl, rfl⟩
theorem froz_below {w W : World} {p : Addr} {v : Value} (hb : Below w.heap.size w W) (h : w.cell? p = some v ∧ w.frozen? p = false) : W.frozen? p = false := by
  have hlt : p.block < w.heap.size := by
    rcases Nat.lt_or_ge p.block w.heap.size with h' | h'
    · exact h'
    · have h1 := h.1
      unfold World.cell? at h1
      rw [Array.getElem?_eq_none h'] at h1
      cases h1
  have := hb.block p.block hlt
  unfold World.frozen?
  rw [this]
  exact h.2
set_option maxRecDepth 100000 in
set_option maxHeartbeats 1000000 in
theorem at_big (w : World) (b : Nat) (ms : List Nat) (hl : ms.length = 16) (hm : WB w b 71 ms) (hg : Good ms) (i : Nat) (h0 : 16 ≤ i) (hi : i < 64) :
    Calls Tryd.prog 44 #[.pointer (some ⟨b, 0, none⟩), .int .i64 i] w fun e w' => e = .returned (.int .u32 (newW ms i : Nat)) ∧ ∃ w1, Below w.heap.size w w1 ∧ w' = w1.setCell ⟨b, i % 16, none⟩ (.int .u32 (newW ms i : Nat)) := by
  obtain ⟨r, hr⟩ : ∃ r, r = i % 16 := ⟨_, rfl⟩
  obtain ⟨r2, hr2⟩ : ∃ r, r = (i - 2) % 16 := ⟨_, rfl⟩
  obtain ⟨r7, hr7⟩ : ∃ r, r = (i - 7) % 16 := ⟨_, rfl⟩
  obtain ⟨r15, hr15⟩ : ∃ r, r = (i - 15) % 16 := ⟨_, rfl⟩
  have l0 : r < 16 := by omega
  have l2 : r2 < 16 := by omega
  have l7 : r7 < 16 := by omega
  have l15 : r15 < 16 := by omega
  have HN := Aside0.mk (show newW ms i = (mr ms r + ((sg0 (mr ms r15) + mr ms r7) % 4294967296 + sg1 (mr ms r2)) % 4294967296) % 4294967296 by rw [hr, hr2, hr7, hr15]; rfl)
  have m0 : Int.tmod (i : Int) 16 = r := by rw [Int.tmod_eq_emod_of_nonneg (by omega)]; omega
  have m2 : Int.tmod ((i : Int) - 2) 16 = r2 := by rw [Int.tmod_eq_emod_of_nonneg (by omega)]; omega
  have m7 : Int.tmod ((i : Int) - 7) 16 = r7 := by rw [Int.tmod_eq_emod_of_nonneg (by omega)]; omega
  have m15 : Int.tmod ((i : Int) - 15) 16 = r15 := by rw [Int.tmod_eq_emod_of_nonneg (by omega)]; omega
  rw [← hr]
  have c0 := hm.at r (by omega)
  have c2 := (hm.at r2 (by omega)).1
  have c7 := (hm.at r7 (by omega)).1
  have c15 := (hm.at r15 (by omega)).1
  have g2 := hg r2
  have g15 := hg r15
  obtain ⟨x0, hx0⟩ : ∃ x, x = mr ms r := ⟨_, rfl⟩
  obtain ⟨x2, hx2⟩ : ∃ x, x = mr ms r2 := ⟨_, rfl⟩
  obtain ⟨x7, hx7⟩ : ∃ x, x = mr ms r7 := ⟨_, rfl⟩
  obtain ⟨x15, hx15⟩ : ∃ x, x = mr ms r15 := ⟨_, rfl⟩
  rw [← hx0] at c0
  rw [← hx2] at c2 g2
  rw [← hx7] at c7
  rw [← hx15] at c15 g15
  rw [← hx0, ← hx2, ← hx7, ← hx15] at HN
  obtain ⟨nw, hnw⟩ : ∃ x, x = newW ms i := ⟨_, rfl⟩
  rw [← hnw] at HN ⊢
  have f15 := (sg_facts x15 g15).1
  have f2 := (sg_facts x2 g2).2
  have i0 : (0 : Int) ≤ (r : Int) := by omega
  obtain ⟨y1, hy1⟩ : ∃ y, y = (sg0 x15 + x7) % 4294967296 := ⟨_, rfl⟩
  obtain ⟨y2, hy2⟩ : ∃ y, y = (y1 + sg1 x2) % 4294967296 := ⟨_, rfl⟩
  rw [← hy1, ← hy2] at HN
  have a1 := wadd (sg0 x15) x7
  have a2 := wadd y1 (sg1 x2)
  have a3 := wadd x0 y2
  rw [← hy1] at a1
  rw [← hy2] at a2
  rw [← HN.out] at a3
  clear hy1 hy2
  have hi16 : (16 : Int) ≤ (i : Int) := by omega
  have k0 : (r : Int) < 16 := by omega
  have k2 : (r2 : Int) < 16 := by omega
  have k7 : (r7 : Int) < 16 := by omega
  have k15 : (r15 : Int) < 16 := by omega
  have W2 : wrap64 ((i : Int) - 2) = (i : Int) - 2 := by unfold wrap64; omega
  have W7 : wrap64 ((i : Int) - 7) = (i : Int) - 7 := by unfold wrap64; omega
  have W15 : wrap64 ((i : Int) - 15) = (i : Int) - 15 := by unfold wrap64; omega
  have HA := Aside0.mk (fun (W' : World) (b' : Nat) (hb : W'.heap[b']? = some (.cells #[.int .i64 7, .int .i64 18] 3 (0, 0))) => turned_blk W' b' 3 [7, 18] 2 x15 g15 rfl (by decide) (lit2 7 18 (by decide)) hb)
  have HB := Aside0.mk (fun (W' : World) (b' : Nat) (hb : W'.heap[b']? = some (.cells #[.int .i64 17, .int .i64 19] 3 (0, 0))) => turned_blk W' b' 3 [17, 19] 2 x2 g2 rfl (by decide) (lit2 17 19 (by decide)) hb)
  clear hx0 hx2 hx7 hx15 hnw hr hr2 hr7 hr15 hm hg g2 g15
  go_enter Tryd.func44, Tryd.ntmps44
  go_wp2_with fail
  go_quiet (fail)
  go_wp2_with fail
  have HW := Aside0.mk (pw_below_drewN (Below.refl w.heap.size w) nq)
  have C0 := Aside0.mk c0
  have C7 := Aside0.mk c7
  clear c0 c7 c2 c15
  obtain ⟨Wr, hWr⟩ : ∃ Wr, Wr = w.drewN nq := ⟨_, rfl⟩
  rw [← hWr] at HW ⊢
  clear hWr
  refine start_ (n := 31) (S := fun w' => w'.cell? ⟨b, r, none⟩ = some (.int .u32 x0) ∧ w'.cell? ⟨b, r7, none⟩ = some (.int .u32 x7) ∧ w'.frozen? ⟨b, r, none⟩ = false ∧ Below w.heap.size w w') (ds := [30]) #[false, false, false, false, false, false, false, false, false, false, false, false, false, false, false, false, false, false, false, false, false, false, false, false, false, false, false, false, false, false, false] (by kernel_rfl) rfl rfl ⟨pw_cell_below (below_drew1 HW.out) C0.out.1, pw_cell_below (below_drew1 HW.out) C7.out, froz_below (below_drew1 HW.out) C0.out, below_drew1 HW.out⟩ (fun hHeld => ?_)
  refine pure_ (i := 0) (N := some 23) (v := ?_) (a' := ?_) #[true, false, false, false, false, false, false, false, false, false, false, false, false, false, false, false, false, false, false, false, false, false, false, false, false, false, false, false, false, false, false] rfl rfl (by kernel_rfl) (fun _ _ _ h => h) (Or.inl ⟨by rfl, ?_⟩) ?_ ?_
  rotate_left
  · intro w'
    go_simp
    with_reducible rfl
  rotate_left
  · simp only [Act.put, List.setIfInBounds_toArray, List.set_cons_zero, List.set_cons_succ, i64_w, i32_w]
    rfl
  refine pure_ (i := 1) (N := some 24) (v := ?_) (a' := ?_) #[true, true, false, false, false, false, false, false, false, false, false, false, false, false, false, false, false, false, false, false, false, false, false, false, false, false, false, false, false, false, false] rfl rfl (by kernel_rfl) (fun _ _ _ h => h) (Or.inl ⟨by rfl, ?_⟩) ?_ ?_
  rotate_left
  · intro w'
    go_simp
    with_reducible rfl
  rotate_left
  · simp only [Act.put, List.setIfInBounds_toArray, List.set_cons_zero, List.set_cons_succ, i64_w, i32_w]
    rfl
  refine pure_ (i := 2) (N := some 25) (v := ?_) (a' := ?_) #[true, true, true, false, false, false, false, false, false, false, false, false, false, false, false, false, false, false, false, false, false, false, false, false, false, false, false, false, false, false, false] rfl rfl (by kernel_rfl) (fun _ _ _ h => h) (Or.inl ⟨by rfl, ?_⟩) ?_ ?_
  rotate_left
  · intro w'
    go_simp
    with_reducible rfl
  rotate_left
  · simp only [Act.put, List.setIfInBounds_toArray, List.set_cons_zero, List.set_cons_succ, i64_w, i32_w]
    rfl
  refine pure_ (i := 3) (N := some 26) (v := ?_) (a' := ?_) #[true, true, true, true, false, false, false, false, false, false, false, false, false, false, false, false, false, false, false, false, false, false, false, false, false, false, false, false, false, false, false] rfl rfl (by kernel_rfl) (fun _ _ _ h => h) (Or.inl ⟨by rfl, ?_⟩) ?_ ?_
  rotate_left
  · intro w'
    go_simp
    with_reducible rfl
  rotate_left
  · simp only [Act.put, List.setIfInBounds_toArray, List.set_cons_zero, List.set_cons_succ, i64_w, i32_w]
    rfl
  refine pure_ (i := 4) (N := some 27) (v := ?_) (a' := ?_) #[true, true, true, true, true, false, false, false, false, false, false, false, false, false, false, false, false, false, false, false, false, false, false, false, false, false, false, false, false, false, false] rfl rfl (by kernel_rfl) (fun _ _ _ h => h) (Or.inl ⟨by rfl, ?_⟩) ?_ ?_
  rotate_left
  · intro w'
    go_simp
    with_reducible rfl
  rotate_left
  · simp only [Act.put, List.setIfInBounds_toArray, List.set_cons_zero, List.set_cons_succ, i64_w, i32_w]
    rfl
  refine pure_ (i := 6) (N := some 29) (v := ?_) (a' := ?_) #[true, true, true, true, true, false, true, false, false, false, false, false, false, false, false, false, false, false, false, false, false, false, false, false, false, false, false, false, false, false, false] rfl rfl (by kernel_rfl) (fun _ _ _ h => h) (Or.inl ⟨by rfl, ?_⟩) ?_ ?_
  rotate_left
  · intro w'
    go_simp
    with_reducible rfl
  rotate_left
  · simp only [Act.put, List.setIfInBounds_toArray, List.set_cons_zero, List.set_cons_succ, i64_w, i32_w]
    rfl
  refine pure_ (i := 9) (N := some 32) (v := ?_) (a' := ?_) #[true, true, true, true, true, false, true, false, false, true, false, false, false, false, false, false, false, false, false, false, false, false, false, false, false, false, false, false, false, false, false] rfl rfl (by kernel_rfl) (fun _ _ _ h => h) (Or.inl ⟨by rfl, ?_⟩) ?_ ?_
  rotate_left
  · intro w'
    go_simp
    with_reducible rfl
  rotate_left
  · simp only [Act.put, List.setIfInBounds_toArray, List.set_cons_zero, List.set_cons_succ, i64_w, i32_w]
    rfl
  refine pure_ (i := 10) (N := some 33) (v := ?_) (a' := ?_) #[true, true, true, true, true, false, true, false, false, true, true, false, false, false, false, false, false, false, false, false, false, false, false, false, false, false, false, false, false, false, false] rfl rfl (by kernel_rfl) (fun _ _ _ h => h) (Or.inl ⟨by rfl, ?_⟩) ?_ ?_
  rotate_left
  · intro w'
    go_simp
    with_reducible rfl
  rotate_left
  · simp only [Act.put, List.setIfInBounds_toArray, List.set_cons_zero, List.set_cons_succ, i64_w, i32_w]
    rfl
  refine pure_ (i := 12) (N := some 35) (v := ?_) (a' := ?_) #[true, true, true, true, true, false, true, false, false, true, true, false, true, false, false, false, false, false, false, false, false, false, false, false, false, false, false, false, false, false, false] rfl rfl (by kernel_rfl) (fun _ _ _ h => h) (Or.inl ⟨by rfl, ?_⟩) ?_ ?_
  rotate_left
  · intro w'
    go_simp
    with_reducible rfl
  rotate_left
  · simp only [Act.put, List.setIfInBounds_toArray, List.set_cons_zero, List.set_cons_succ, i64_w, i32_w]
    rfl
  refine pure_ (i := 13) (N := some 36) (v := ?_) (a' := ?_) #[true, true, true, true, true, false, true, false, false, true, true, false, true, true, false, false, false, false, false, false, false, false, false, false, false, false, false, false, false, false, false] rfl rfl (by kernel_rfl) (fun _ _ _ h => h) (Or.inl ⟨by rfl, ?_⟩) ?_ ?_
  rotate_left
  · intro w'
    go_simp
    with_reducible rfl
  rotate_left
  · simp only [Act.put, List.setIfInBounds_toArray, List.set_cons_zero, List.set_cons_succ, i64_w, i32_w]
    rfl
  refine pure_ (i := 14) (N := some 37) (v := ?_) (a' := ?_) #[true, true, true, true, true, false, true, false, false, true, true, false, true, true, true, false, false, false, false, false, false, false, false, false, false, false, false, false, false, false, false] rfl rfl (by kernel_rfl) (fun _ _ _ h => h) (Or.inl ⟨by rfl, ?_⟩) ?_ ?_
  rotate_left
  · intro w'
    go_simp
    with_reducible rfl
  rotate_left
  · simp only [Act.put, List.setIfInBounds_toArray, List.set_cons_zero, List.set_cons_succ, i64_w, i32_w]
    rfl
  refine pure_ (i := 15) (N := some 38) (v := ?_) (a' := ?_) #[true, true, true, true, true, false, true, false, false, true, true, false, true, true, true, true, false, false, false, false, false, false, false, false, false, false, false, false, false, false, false] rfl rfl (by kernel_rfl) (fun _ _ _ h => h) (Or.inl ⟨by rfl, ?_⟩) ?_ ?_
  rotate_left
  · intro w'
    go_simp
    with_reducible rfl
  rotate_left
  · simp only [Act.put, List.setIfInBounds_toArray, List.set_cons_zero, List.set_cons_succ, i64_w, i32_w]
    rfl
  refine pure_ (i := 16) (N := some 39) (v := ?_) (a' := ?_) #[true, true, true, true, true, false, true, false, false, true, true, false, true, true, true, true, true, false, false, false, false, false, false, false, false, false, false, false, false, false, false] rfl rfl (by kernel_rfl) (fun _ _ _ h => h) (Or.inl ⟨by rfl, ?_⟩) ?_ ?_
  rotate_left
  · intro w'
    go_simp
    with_reducible rfl
  rotate_left
  · simp only [Act.put, List.setIfInBounds_toArray, List.set_cons_zero, List.set_cons_succ, i64_w, i32_w]
    rfl
  refine pure_ (i := 17) (N := some 40) (v := ?_) (a' := ?_) #[true, true, true, true, true, false, true, false, false, true, true, false, true, true, true, true, true, true, false, false, false, false, false, false, false, false, false, false, false, false, false] rfl rfl (by kernel_rfl) (fun _ _ _ h => h) (Or.inl ⟨by rfl, ?_⟩) ?_ ?_
  rotate_left
  · intro w'
    go_simp
    with_reducible rfl
  rotate_left
  · simp only [Act.put, List.setIfInBounds_toArray, List.set_cons_zero, List.set_cons_succ, i64_w, i32_w]
    rfl
  refine pure_ (i := 20) (N := some 43) (v := ?_) (a' := ?_) #[true, true, true, true, true, false, true, false, false, true, true, false, true, true, true, true, true, true, false, false, true, false, false, false, false, false, false, false, false, false, false] rfl rfl (by kernel_rfl) (fun _ _ _ h => h) (Or.inl ⟨by rfl, ?_⟩) ?_ ?_
  rotate_left
  · intro w'
    go_simp
    with_reducible rfl
  rotate_left
  · simp only [Act.put, List.setIfInBounds_toArray, List.set_cons_zero, List.set_cons_succ, i64_w, i32_w]
    rfl
  refine pure_ (i := 23) (N := some 46) (v := ?_) (a' := ?_) #[true, true, true, true, true, false, true, false, false, true, true, false, true, true, true, true, true, true, false, false, true, false, false, true, false, false, false, false, false, false, false] rfl rfl (by kernel_rfl) (fun _ _ _ h => h) (Or.inl ⟨by rfl, ?_⟩) ?_ ?_
  rotate_left
  · intro w'
    go_simp
    with_reducible rfl
  rotate_left
  · simp only [Act.put, List.setIfInBounds_toArray, List.set_cons_zero, List.set_cons_succ, i64_w, i32_w]
    rfl
  refine pure_ (i := 24) (N := some 47) (v := ?_) (a' := ?_) #[true, true, true, true, true, false, true, false, false, true, true, false, true, true, true, true, true, true, false, false, true, false, false, true, true, false, false, false, false, false, false] rfl rfl (by kernel_rfl) (fun _ _ _ h => h) (Or.inl ⟨by rfl, ?_⟩) ?_ ?_
  rotate_left
  · intro w'
    go_simp
    with_reducible rfl
  rotate_left
  · simp only [Act.put, List.setIfInBounds_toArray, List.set_cons_zero, List.set_cons_succ, i64_w, i32_w]
    rfl
  refine pure_ (i := 28) (N := some 51) (v := ?_) (a' := ?_) #[true, true, true, true, true, false, true, false, false, true, true, false, true, true, true, true, true, true, false, false, true, false, false, true, true, false, false, false, true, false, false] rfl rfl (by kernel_rfl) (fun _ _ _ h => h) (Or.inl ⟨by rfl, ?_⟩) ?_ ?_
  rotate_left
  · intro w'
    go_simp
    with_reducible rfl
  rotate_left
  · simp only [Act.put, List.setIfInBounds_toArray, List.set_cons_zero, List.set_cons_succ, i64_w, i32_w]
    rfl
  refine take_ (i := 5) (N := some 28) (v := ?_) (a' := ?_) #[true, true, true, true, true, true, true, false, false, true, true, false, true, true, true, true, true, true, false, false, true, false, false, true, true, false, false, false, true, false, false] rfl rfl (by kernel_rfl) (fun _ _ _ h => h) (Or.inl ⟨by rfl, ?_⟩) hHeld ?_ ?_
  rotate_left
  · rintro w' ⟨s0, s1, s2, s3⟩
    go_simp
    with_reducible rfl
  rotate_left
  · simp only [Act.put, List.setIfInBounds_toArray, List.set_cons_zero, List.set_cons_succ, i64_w, i32_w]
    rfl
  refine take_ (i := 18) (N := some 41) (v := ?_) (a' := ?_) #[true, true, true, true, true, true, true, false, false, true, true, false, true, true, true, true, true, true, true, false, true, false, false, true, true, false, false, false, true, false, false] rfl rfl (by kernel_rfl) (fun _ _ _ h => h) (Or.inl ⟨by rfl, ?_⟩) hHeld ?_ ?_
  rotate_left
  · rintro w' ⟨s0, s1, s2, s3⟩
    go_simp
    with_reducible rfl
  rotate_left
  · simp only [Act.put, List.setIfInBounds_toArray, List.set_cons_zero, List.set_cons_succ, i64_w, i32_w]
    rfl
  refine join_ (σ := Nat × Nat) 6 #[true, true, true, true, true, true, true, true, true, true, true, true, true, true, true, true, true, true, true, true, true, true, false, true, true, false, false, false, true, false, false] (fun s => [(30, .slice (some ⟨s.1, 0, none⟩) 2 2), (31, .int .u32 (trn x15 [7, 18] 2 : Nat)), (34, .int .u32 (sg0 x15 : Nat)), (42, .int .u32 (y1 : Nat)), (44, .slice (some ⟨s.2, 0, none⟩) 2 2)]) (fun s w' => (w'.cell? ⟨b, r, none⟩ = some (.int .u32 x0) ∧ w'.cell? ⟨b, r7, none⟩ = some (.int .u32 x7) ∧ w'.frozen? ⟨b, r, none⟩ = false ∧ Below w.heap.size w w') ∧ w'.heap[s.2]? = some (.cells #[.int .i64 17, .int .i64 19] 3 (0, 0))) ?_ ?_
  rotate_left
  · intro hCont
    refine two_ (i := 7) (j := 21) (Ni := some 30) (Nj := some 44) #[true, true, true, true, true, true, true, true, false, true, true, false, true, true, true, true, true, true, true, false, true, false, false, true, true, false, false, false, true, false, false] #[true, true, true, true, true, true, true, false, false, true, true, false, true, true, true, true, true, true, true, false, true, true, false, true, true, false, false, false, true, false, false] rfl rfl rfl rfl (by kernel_rfl) (by decide) (by decide) (fun K hK => ?_) (fun K hK => ?_)
    · skip
      refine value_ (w1 := ?_) (v := ?_) (by rfl) rfl ?_ ?_
      rotate_left 2
      · go_simp
        constructor
        · rfl
        · rfl
      refine hK.out _ _ ⟨pw_cell_below (below_alloc hHeld.2.2.2 _) C0.out.1, pw_cell_below (below_alloc hHeld.2.2.2 _) C7.out, froz_below (below_alloc hHeld.2.2.2 _) C0.out, below_alloc hHeld.2.2.2 _⟩ (fun hHeld => ?_)
      clear hK K
      refine norm_ (a' := ?_) ?_ ?_
      rotate_left
      · show Act.put _ (some 30) _ = _
        simp only [Act.put, List.setIfInBounds_toArray, List.set_cons_zero, List.set_cons_succ, i64_w, i32_w]
        rfl
      refine two_ (i := 8) (j := 21) (Ni := some 31) (Nj := some 44) #[true, true, true, true, true, true, true, true, true, true, true, false, true, true, true, true, true, true, true, false, true, false, false, true, true, false, false, false, true, false, false] #[true, true, true, true, true, true, true, true, false, true, true, false, true, true, true, true, true, true, true, false, true, true, false, true, true, false, false, false, true, false, false] rfl rfl rfl rfl (by kernel_rfl) (by decide) (by decide) (fun K hK => ?_) (fun K hK => ?_)
      · skip
        refine goes_ Tryd.func43 (by kernel_rfl) rfl #[.int .u32 x15, .slice (some ⟨Wr.heap.size, 0, none⟩) 2 2] (by rfl) rfl rfl (by first | rfl | (simp only [List.map_toArray, List.map_cons, List.map_nil]; rfl)) ?_
        with_reducible refine (HA.out _ _ (by first | exact blk_drew (blk_new_at _ _ _ (by first | rfl | simp only [World.size_alloc] | (simp only [World.size_alloc]; rfl))) | exact blk_drew (blk_alloc (blk_new_at _ _ _ (by first | rfl | simp only [World.size_alloc] | (simp only [World.size_alloc]; rfl))) _) | exact blk_new_at _ _ _ (by first | rfl | simp only [World.size_alloc] | (simp only [World.size_alloc]; rfl)) | exact blk_alloc (blk_new_at _ _ _ (by first | rfl | simp only [World.size_alloc] | (simp only [World.size_alloc]; rfl))) _)).mono ?_
        rintro e w7 ⟨rfl, rfl⟩
        refine ⟨_, rfl, ?_⟩
        refine hK.out _ _ ⟨hHeld.1, hHeld.2.1, hHeld.2.2.1, hHeld.2.2.2⟩ (fun hHeld => ?_)
        clear hK K
        refine norm_ (a' := ?_) ?_ ?_
        rotate_left
        · show Act.put _ (some 31) _ = _
          simp only [Act.put, List.setIfInBounds_toArray, List.set_cons_zero, List.set_cons_succ, i64_w, i32_w]
          rfl
        refine pure_ (i := 11) (N := some 34) (v := ?_) (a' := ?_) #[true, true, true, true, true, true, true, true, true, true, true, true, true, true, true, true, true, true, true, false, true, false, false, true, true, false, false, false, true, false, false] rfl rfl (by kernel_rfl) (fun _ _ _ h => h) (Or.inl ⟨by rfl, ?_⟩) ?_ ?_
        rotate_left
        · intro w'
          go_simp
          with_reducible rfl
        rotate_left
        · simp only [Act.put, List.setIfInBounds_toArray, List.set_cons_zero, List.set_cons_succ, i64_w, i32_w]
          rfl
        refine pure_ (i := 19) (N := some 42) (v := ?_) (a' := ?_) #[true, true, true, true, true, true, true, true, true, true, true, true, true, true, true, true, true, true, true, true, true, false, false, true, true, false, false, false, true, false, false] rfl rfl (by kernel_rfl) (fun _ _ _ h => h) (Or.inl ⟨by rfl, ?_⟩) ?_ ?_
        rotate_left
        · intro w'
          go_simp
          with_reducible rfl
        rotate_left
        · simp only [Act.put, List.setIfInBounds_toArray, List.set_cons_zero, List.set_cons_succ, i64_w, i32_w]
          rfl
        refine one_ (i := 21) (N := some 44) #[true, true, true, true, true, true, true, true, true, true, true, true, true, true, true, true, true, true, true, true, true, true, false, true, true, false, false, false, true, false, false] rfl rfl (by kernel_rfl) (by decide) (fun K hK => ?_)
        refine value_ (w1 := ?_) (v := ?_) (by rfl) rfl ?_ ?_
        rotate_left 2
        · go_simp
          constructor
          · rfl
          · rfl
        refine hK.out _ _ ⟨pw_cell_below (below_alloc hHeld.2.2.2 _) C0.out.1, pw_cell_below (below_alloc hHeld.2.2.2 _) C7.out, froz_below (below_alloc hHeld.2.2.2 _) C0.out, below_alloc hHeld.2.2.2 _⟩ (fun hHeld => ?_)
        clear hK K
        refine norm_ (a' := ?_) ?_ ?_
        rotate_left
        · show Act.put _ (some 44) _ = _
          simp only [Act.put, List.setIfInBounds_toArray, List.set_cons_zero, List.set_cons_succ, i64_w, i32_w]
          rfl
        exact norm_ (by simp only [putAll, Act.put, List.setIfInBounds_toArray, List.set_cons_zero, List.set_cons_succ]) (hCont (Wr.heap.size, Wr.heap.size + 1) _ ⟨hHeld, (by first | exact blk_drew (blk_new_at _ _ _ (by first | rfl | simp only [World.size_alloc] | (simp only [World.size_alloc]; rfl))) | exact blk_drew (blk_alloc (blk_new_at _ _ _ (by first | rfl | simp only [World.size_alloc] | (simp only [World.size_alloc]; rfl))) _) | exact blk_new_at _ _ _ (by first | rfl | simp only [World.size_alloc] | (simp only [World.size_alloc]; rfl)) | exact blk_alloc (blk_new_at _ _ _ (by first | rfl | simp only [World.size_alloc] | (simp only [World.size_alloc]; rfl))) _)⟩)
      · skip
        refine value_ (w1 := ?_) (v := ?_) (by rfl) rfl ?_ ?_
        rotate_left 2
        · go_simp
          constructor
          · rfl
          · rfl
        refine hK.out _ _ ⟨pw_cell_below (below_alloc hHeld.2.2.2 _) C0.out.1, pw_cell_below (below_alloc hHeld.2.2.2 _) C7.out, froz_below (below_alloc hHeld.2.2.2 _) C0.out, below_alloc hHeld.2.2.2 _⟩ (fun hHeld => ?_)
        clear hK K
        refine norm_ (a' := ?_) ?_ ?_
        rotate_left
        · show Act.put _ (some 44) _ = _
          simp only [Act.put, List.setIfInBounds_toArray, List.set_cons_zero, List.set_cons_succ, i64_w, i32_w]
          rfl
        refine one_ (i := 8) (N := some 31) #[true, true, true, true, true, true, true, true, true, true, true, false, true, true, true, true, true, true, true, false, true, true, false, true, true, false, false, false, true, false, false] rfl rfl (by kernel_rfl) (by decide) (fun K hK => ?_)
        refine goes_ Tryd.func43 (by kernel_rfl) rfl #[.int .u32 x15, .slice (some ⟨Wr.heap.size, 0, none⟩) 2 2] (by rfl) rfl rfl (by first | rfl | (simp only [List.map_toArray, List.map_cons, List.map_nil]; rfl)) ?_
        with_reducible refine (HA.out _ _ (by first | exact blk_drew (blk_new_at _ _ _ (by first | rfl | simp only [World.size_alloc] | (simp only [World.size_alloc]; rfl))) | exact blk_drew (blk_alloc (blk_new_at _ _ _ (by first | rfl | simp only [World.size_alloc] | (simp only [World.size_alloc]; rfl))) _) | exact blk_new_at _ _ _ (by first | rfl | simp only [World.size_alloc] | (simp only [World.size_alloc]; rfl)) | exact blk_alloc (blk_new_at _ _ _ (by first | rfl | simp only [World.size_alloc] | (simp only [World.size_alloc]; rfl))) _)).mono ?_
        rintro e w7 ⟨rfl, rfl⟩
        refine ⟨_, rfl, ?_⟩
        refine hK.out _ _ ⟨hHeld.1, hHeld.2.1, hHeld.2.2.1, hHeld.2.2.2⟩ (fun hHeld => ?_)
        clear hK K
        refine norm_ (a' := ?_) ?_ ?_
        rotate_left
        · show Act.put _ (some 31) _ = _
          simp only [Act.put, List.setIfInBounds_toArray, List.set_cons_zero, List.set_cons_succ, i64_w, i32_w]
          rfl
        refine pure_ (i := 11) (N := some 34) (v := ?_) (a' := ?_) #[true, true, true, true, true, true, true, true, true, true, true, true, true, true, true, true, true, true, true, false, true, true, false, true, true, false, false, false, true, false, false] rfl rfl (by kernel_rfl) (fun _ _ _ h => h) (Or.inl ⟨by rfl, ?_⟩) ?_ ?_
        rotate_left
        · intro w'
          go_simp
          with_reducible rfl
        rotate_left
        · simp only [Act.put, List.setIfInBounds_toArray, List.set_cons_zero, List.set_cons_succ, i64_w, i32_w]
          rfl
        refine pure_ (i := 19) (N := some 42) (v := ?_) (a' := ?_) #[true, true, true, true, true, true, true, true, true, true, true, true, true, true, true, true, true, true, true, true, true, true, false, true, true, false, false, false, true, false, false] rfl rfl (by kernel_rfl) (fun _ _ _ h => h) (Or.inl ⟨by rfl, ?_⟩) ?_ ?_
        rotate_left
        · intro w'
          go_simp
          with_reducible rfl
        rotate_left
        · simp only [Act.put, List.setIfInBounds_toArray, List.set_cons_zero, List.set_cons_succ, i64_w, i32_w]
          rfl
        exact norm_ (by simp only [putAll, Act.put, List.setIfInBounds_toArray, List.set_cons_zero, List.set_cons_succ]) (hCont (Wr.heap.size, Wr.heap.size + 1) _ ⟨hHeld, (by first | exact blk_drew (blk_new_at _ _ _ (by first | rfl | simp only [World.size_alloc] | (simp only [World.size_alloc]; rfl))) | exact blk_drew (blk_alloc (blk_new_at _ _ _ (by first | rfl | simp only [World.size_alloc] | (simp only [World.size_alloc]; rfl))) _) | exact blk_new_at _ _ _ (by first | rfl | simp only [World.size_alloc] | (simp only [World.size_alloc]; rfl)) | exact blk_alloc (blk_new_at _ _ _ (by first | rfl | simp only [World.size_alloc] | (simp only [World.size_alloc]; rfl))) _)⟩)
    · skip
      refine value_ (w1 := ?_) (v := ?_) (by rfl) rfl ?_ ?_
      rotate_left 2
      · go_simp
        constructor
        · rfl
        · rfl
      refine hK.out _ _ ⟨pw_cell_below (below_alloc hHeld.2.2.2 _) C0.out.1, pw_cell_below (below_alloc hHeld.2.2.2 _) C7.out, froz_below (below_alloc hHeld.2.2.2 _) C0.out, below_alloc hHeld.2.2.2 _⟩ (fun hHeld => ?_)
      clear hK K
      refine norm_ (a' := ?_) ?_ ?_
      rotate_left
      · show Act.put _ (some 44) _ = _
        simp only [Act.put, List.setIfInBounds_toArray, List.set_cons_zero, List.set_cons_succ, i64_w, i32_w]
        rfl
      refine one_ (i := 7) (N := some 30) #[true, true, true, true, true, true, true, true, false, true, true, false, true, true, true, true, true, true, true, false, true, true, false, true, true, false, false, false, true, false, false] rfl rfl (by kernel_rfl) (by decide) (fun K hK => ?_)
      refine value_ (w1 := ?_) (v := ?_) (by rfl) rfl ?_ ?_
      rotate_left 2
      · go_simp
        constructor
        · rfl
        · rfl
      refine hK.out _ _ ⟨pw_cell_below (below_alloc hHeld.2.2.2 _) C0.out.1, pw_cell_below (below_alloc hHeld.2.2.2 _) C7.out, froz_below (below_alloc hHeld.2.2.2 _) C0.out, below_alloc hHeld.2.2.2 _⟩ (fun hHeld => ?_)
      clear hK K
      refine norm_ (a' := ?_) ?_ ?_
      rotate_left
      · show Act.put _ (some 30) _ = _
        simp only [Act.put, List.setIfInBounds_toArray, List.set_cons_zero, List.set_cons_succ, i64_w, i32_w]
        rfl
      refine one_ (i := 8) (N := some 31) #[true, true, true, true, true, true, true, true, true, true, true, false, true, true, true, true, true, true, true, false, true, true, false, true, true, false, false, false, true, false, false] rfl rfl (by kernel_rfl) (by decide) (fun K hK => ?_)
      refine goes_ Tryd.func43 (by kernel_rfl) rfl #[.int .u32 x15, .slice (some ⟨Wr.heap.size + 1, 0, none⟩) 2 2] (by rfl) rfl rfl (by first | rfl | (simp only [List.map_toArray, List.map_cons, List.map_nil]; rfl)) ?_
      with_reducible refine (HA.out _ _ (by first | exact blk_drew (blk_new_at _ _ _ (by first | rfl | simp only [World.size_alloc] | (simp only [World.size_alloc]; rfl))) | exact blk_drew (blk_alloc (blk_new_at _ _ _ (by first | rfl | simp only [World.size_alloc] | (simp only [World.size_alloc]; rfl))) _) | exact blk_new_at _ _ _ (by first | rfl | simp only [World.size_alloc] | (simp only [World.size_alloc]; rfl)) | exact blk_alloc (blk_new_at _ _ _ (by first | rfl | simp only [World.size_alloc] | (simp only [World.size_alloc]; rfl))) _)).mono ?_
      rintro e w7 ⟨rfl, rfl⟩
      refine ⟨_, rfl, ?_⟩
      refine hK.out _ _ ⟨hHeld.1, hHeld.2.1, hHeld.2.2.1, hHeld.2.2.2⟩ (fun hHeld => ?_)
      clear hK K
      refine norm_ (a' := ?_) ?_ ?_
      rotate_left
      · show Act.put _ (some 31) _ = _
        simp only [Act.put, List.setIfInBounds_toArray, List.set_cons_zero, List.set_cons_succ, i64_w, i32_w]
        rfl
      refine pure_ (i := 11) (N := some 34) (v := ?_) (a' := ?_) #[true, true, true, true, true, true, true, true, true, true, true, true, true, true, true, true, true, true, true, false, true, true, false, true, true, false, false, false, true, false, false] rfl rfl (by kernel_rfl) (fun _ _ _ h => h) (Or.inl ⟨by rfl, ?_⟩) ?_ ?_
      rotate_left
      · intro w'
        go_simp
        with_reducible rfl
      rotate_left
      · simp only [Act.put, List.setIfInBounds_toArray, List.set_cons_zero, List.set_cons_succ, i64_w, i32_w]
        rfl
      refine pure_ (i := 19) (N := some 42) (v := ?_) (a' := ?_) #[true, true, true, true, true, true, true, true, true, true, true, true, true, true, true, true, true, true, true, true, true, true, false, true, true, false, false, false, true, false, false] rfl rfl (by kernel_rfl) (fun _ _ _ h => h) (Or.inl ⟨by rfl, ?_⟩) ?_ ?_
      rotate_left
      · intro w'
        go_simp
        with_reducible rfl
      rotate_left
      · simp only [Act.put, List.setIfInBounds_toArray, List.set_cons_zero, List.set_cons_succ, i64_w, i32_w]
        rfl
      exact norm_ (by simp only [putAll, Act.put, List.setIfInBounds_toArray, List.set_cons_zero, List.set_cons_succ]) (hCont (Wr.heap.size + 1, Wr.heap.size) _ ⟨hHeld, (by first | exact blk_drew (blk_new_at _ _ _ (by first | rfl | simp only [World.size_alloc] | (simp only [World.size_alloc]; rfl))) | exact blk_drew (blk_alloc (blk_new_at _ _ _ (by first | rfl | simp only [World.size_alloc] | (simp only [World.size_alloc]; rfl))) _) | exact blk_new_at _ _ _ (by first | rfl | simp only [World.size_alloc] | (simp only [World.size_alloc]; rfl)) | exact blk_alloc (blk_new_at _ _ _ (by first | rfl | simp only [World.size_alloc] | (simp only [World.size_alloc]; rfl))) _)⟩)
  rintro ⟨b1, b2⟩ w7 ⟨hHeld, hb2⟩
  refine norm_ (a' := ?_) ?_ ?_
  rotate_left
  · simp only [putAll, Act.put, List.setIfInBounds_toArray, List.set_cons_zero, List.set_cons_succ]
    rfl
  refine one_ (i := 22) (N := some 45) #[true, true, true, true, true, true, true, true, true, true, true, true, true, true, true, true, true, true, true, true, true, true, true, true, true, false, false, false, true, false, false] rfl rfl (by kernel_rfl) (by decide) (fun K hK => ?_)
  refine goes_ Tryd.func43 (by kernel_rfl) rfl #[.int .u32 x2, .slice (some ⟨b2, 0, none⟩) 2 2] (by rfl) rfl rfl (by first | rfl | (simp only [List.map_toArray, List.map_cons, List.map_nil]; rfl)) ?_
  with_reducible refine (HB.out _ _ hb2).mono ?_
  rintro e w7 ⟨rfl, rfl⟩
  refine ⟨_, rfl, ?_⟩
  refine hK.out _ _ ⟨hHeld.1, hHeld.2.1, hHeld.2.2.1, hHeld.2.2.2⟩ (fun hHeld => ?_)
  clear hK K
  refine norm_ (a' := ?_) ?_ ?_
  rotate_left
  · show Act.put _ (some 45) _ = _
    simp only [Act.put, List.setIfInBounds_toArray, List.set_cons_zero, List.set_cons_succ, i64_w, i32_w]
    rfl
  refine pure_ (i := 25) (N := some 48) (v := ?_) (a' := ?_) #[true, true, true, true, true, true, true, true, true, true, true, true, true, true, true, true, true, true, true, true, true, true, true, true, true, true, false, false, true, false, false] rfl rfl (by kernel_rfl) (fun _ _ _ h => h) (Or.inl ⟨by rfl, ?_⟩) ?_ ?_
  rotate_left
  · intro w'
    go_simp
    with_reducible rfl
  rotate_left
  · simp only [Act.put, List.setIfInBounds_toArray, List.set_cons_zero, List.set_cons_succ, i64_w, i32_w]
    rfl
  refine pure_ (i := 26) (N := some 49) (v := ?_) (a' := ?_) #[true, true, true, true, true, true, true, true, true, true, true, true, true, true, true, true, true, true, true, true, true, true, true, true, true, true, true, false, true, false, false] rfl rfl (by kernel_rfl) (fun _ _ _ h => h) (Or.inl ⟨by rfl, ?_⟩) ?_ ?_
  rotate_left
  · intro w'
    go_simp
    with_reducible rfl
  rotate_left
  · simp only [Act.put, List.setIfInBounds_toArray, List.set_cons_zero, List.set_cons_succ, i64_w, i32_w]
    rfl
  refine pure_ (i := 27) (N := some 50) (v := ?_) (a' := ?_) #[true, true, true, true, true, true, true, true, true, true, true, true, true, true, true, true, true, true, true, true, true, true, true, true, true, true, true, true, true, false, false] rfl rfl (by kernel_rfl) (fun _ _ _ h => h) (Or.inl ⟨by rfl, ?_⟩) ?_ ?_
  rotate_left
  · intro w'
    go_simp
    with_reducible rfl
  rotate_left
  · simp only [Act.put, List.setIfInBounds_toArray, List.set_cons_zero, List.set_cons_succ, i64_w, i32_w]
    rfl
  refine pure_ (i := 29) (N := some 52) (v := ?_) (a' := ?_) #[true, true, true, true, true, true, true, true, true, true, true, true, true, true, true, true, true, true, true, true, true, true, true, true, true, true, true, true, true, true, false] rfl rfl (by kernel_rfl) (fun _ _ _ h => h) (Or.inl ⟨by rfl, ?_⟩) ?_ ?_
  rotate_left
  · intro w'
    go_simp
    with_reducible rfl
  rotate_left
  · simp only [Act.put, List.setIfInBounds_toArray, List.set_cons_zero, List.set_cons_succ, i64_w, i32_w]
    rfl
  refine last_ (i := 30) (N := none) #[true, true, true, true, true, true, true, true, true, true, true, true, true, true, true, true, true, true, true, true, true, true, true, true, true, true, true, true, true, true, true] rfl rfl (by kernel_rfl) (by decide) (fun K hK => ?_)
  refine skip_ (w1 := ?_) (by rfl) rfl ?_ ?_
  rotate_left
  · go_simp
    rfl
  refine hK.out _ _ ?_
  clear hK K
  refine done_ (by kernel_rfl) ?_
  have hcell := World.cell?_setCell_same' w7 ⟨b, r, none⟩ (.int .u32 (nw : Nat)) (by rw [hHeld.1]; rfl)
  have HH := Aside0.mk hHeld.2.2.2
  clear hHeld hb2
  go_wp2_with fail
  go_ret
  exact ⟨rfl, w7, HH.out, rfl⟩
end Go.Proofs.YtjmgeelblodcgaaDoor.Sx
