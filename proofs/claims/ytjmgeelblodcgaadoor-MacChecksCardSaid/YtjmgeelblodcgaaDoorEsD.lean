import Derived.Test.YtjmgeelblodcgaaDoorEsS
/- A block worked in: the walk of work. -/
namespace Go.Proofs.YtjmgeelblodcgaaDoor.Sx
open Go.RowKit Go.Shelf Go.Proofs.YtjmgeelblodcgaaDoorW.PrintWords Go.Proofs.YtjmgeelblodcgaaDoorW.PrintLast Go.Proofs.YtjmgeelblodcgaaDoorW.PrintMore Go.Proofs.YtjmgeelblodcgaaDoor.Sh
set_option linter.unusedVariables false
set_option linter.unusedSimpArgs false
attribute [local go_sem] Oper.semAt_some
theorem gb_below {w W : World} (h : Below w.heap.size w W) (r : Option Nat) : w.grownBy W r := ⟨h.os, h.tape, h.output, h.size, fun k hk _ => h.block k hk⟩
theorem gb_trans {a b c : World} {r r' : Option Nat} (h : a.grownBy b r) (h' : b.grownBy c r') (hr : ∀ k, some k = r' → some k = r ∨ a.heap.size ≤ k) : a.grownBy c r :=
  ⟨h'.os.trans h.os, h'.tape.trans h.tape, h'.output.trans h.output, Nat.le_trans h.size h'.size, fun k hk hn => (h'.block k (Nat.lt_of_lt_of_le hk h.size) (fun e => by
    rcases hr k e with e2 | e2
    · exact hn e2
    · omega)).trans (h.block k hk hn)⟩
theorem gb_to {B : Nat} {a b : World} {r : Option Nat} (h : a.grownBy b r) (hB : B ≤ a.heap.size) (hr : ∀ k, some k = r → B ≤ k) : Below B a b :=
  ⟨h.os, h.tape, h.output, h.size, fun k hk => h.block k (Nat.lt_of_lt_of_le hk hB) (fun e => by have := hr k e; omega)⟩
theorem gb_set (w : World) (b k : Nat) (v : Value) : w.grownBy (w.setCell ⟨b, k, none⟩ v) (some b) :=
  ⟨rfl, rfl, rfl, by simp [World.setCell], fun i _ hn => Below.heap_setCell w ⟨b, k, none⟩ v i (fun e => hn (by rw [e]))⟩
theorem gb_blk {a b : World} {r : Option Nat} (h : a.grownBy b r) {k : Nat} {o : Obj} (hk : a.heap[k]? = some o) (hn : some k ≠ r) : b.heap[k]? = some o := (h.block k (blk_lt hk) hn).trans hk
/-- The word of a step, and the message behind it. -/
def atV (ms : List Nat) (i : Nat) : Nat := if i < 16 then mr ms i else newW ms i
def atM (ms : List Nat) (i : Nat) : List Nat := if i < 16 then ms else ms.set (i % 16) (newW ms i)
theorem newW_lt (ms : List Nat) (i : Nat) : newW ms i < 4294967296 := Nat.mod_lt _ (by decide)
theorem atM_good {ms : List Nat} (h : Good ms) (i : Nat) : Good (atM ms i) := by
  unfold atM; split
  · exact h
  · exact good_set h _ _ (newW_lt ms i)
theorem atM_len (ms : List Nat) (i : Nat) : (atM ms i).length = ms.length := by unfold atM; split <;> simp
theorem atV_lt {ms : List Nat} (h : Good ms) (i : Nat) : atV ms i < 4294967296 := by
  unfold atV; split
  · exact h i
  · exact newW_lt ms i
theorem at_any (w : World) (b : Nat) (ms : List Nat) (hl : ms.length = 16) (hm : WB w b 71 ms) (hg : Good ms) (i : Nat) (hi : i < 64) :
    Calls Tryd.prog 44 #[.pointer (some ⟨b, 0, none⟩), .int .i64 i] w fun e w' => e = .returned (.int .u32 (atV ms i : Nat)) ∧ w.grownBy w' (some b) ∧ WB w' b 71 (atM ms i) := by
  by_cases h : i < 16
  · refine (at_small w b ms hl hm i h).mono ?_
    rintro e w' ⟨rfl, rfl⟩
    unfold atV atM
    rw [if_pos h, if_pos h]
    exact ⟨rfl, gb_below (Below.refl _ _) _, hm⟩
  · refine (at_big w b ms hl hm hg i (by omega) hi).mono ?_
    rintro e w' ⟨rfl, w1, hB, rfl⟩
    unfold atV atM
    rw [if_neg h, if_neg h]
    exact ⟨rfl, gb_trans (gb_below hB _) (gb_set w1 b _ _) (fun k e => .inl e), (hm.below hB).put _ _⟩
/-- The words that have come, laid in their places. -/
def laid16 (pre : List NW) : List Nat := pre.foldl (fun ms x => ms.set x.1.1 x.1.2) (List.replicate 16 0)
theorem laid_snoc (pre : List NW) (x : NW) : laid16 (pre ++ [x]) = (laid16 pre).set x.1.1 x.1.2 := by simp [laid16, List.foldl_append]
theorem laid_len (pre : List NW) : (laid16 pre).length = 16 := by
  have : ∀ (l : List NW) (ms : List Nat), (l.foldl (fun ms x => ms.set x.1.1 x.1.2) ms).length = ms.length := by
    intro l
    induction l with
    | nil => exact fun _ => rfl
    | cons x r ih => intro ms; rw [List.foldl_cons, ih, List.length_set]
  exact (this pre _).trans rfl
theorem laid_good (pre : List NW) : Good (laid16 pre) := by
  have : ∀ (l : List NW) (ms : List Nat), Good ms → Good (l.foldl (fun ms x => ms.set x.1.1 x.1.2) ms) := by
    intro l
    induction l with
    | nil => exact fun _ h => h
    | cons x r ih => intro ms h; exact ih _ (good_set h _ _ x.2.2)
  refine this pre _ (fun k => ?_)
  unfold mr
  rw [List.getD_eq_getElem?_getD, List.getElem?_replicate]
  split <;> decide
/-- A block's message. -/
def msg (bs : List Int) : List Nat := laid16 (upto (nth bs) 16)
theorem gb_cell {a b : World} {r : Option Nat} (h : a.grownBy b r) {p : Addr} {v : Value} (hc : a.cell? p = some v) (hn : some p.block ≠ r) : b.cell? p = some v := by
  have hlt : p.block < a.heap.size := by
    rcases Nat.lt_or_ge p.block a.heap.size with h' | h'
    · exact h'
    · unfold World.cell? at hc
      rw [Array.getElem?_eq_none h'] at hc
      cases hc
  rw [World.cell?_of_block (h.block p.block hlt hn)]
  exact hc
theorem blk_new_at2 (w : World) (o : Obj) (b : Nat) (h : b = w.heap.size) : (w.alloc o).heap[b]? = some o := by subst h; exact blk_new w o
theorem lit3 (a b c : Nat) (h : 1 ≤ a ∧ a ≤ 31 ∧ 1 ≤ b ∧ b ≤ 31 ∧ 1 ≤ c ∧ c ≤ 31) : ∀ k, k < [a, b, c].length → 1 ≤ mr [a, b, c] k ∧ mr [a, b, c] k ≤ 31 := by
  intro k hk
  have : k = 0 ∨ k = 1 ∨ k = 2 := by simp at hk; omega
  rcases this with rfl | rfl | rfl
  · exact ⟨h.1, h.2.1⟩
  · exact ⟨h.2.2.1, h.2.2.2.1⟩
  · exact ⟨h.2.2.2.2.1, h.2.2.2.2.2⟩
/-- The registers and the message behind k steps. -/
def sts (v ms : List Nat) : Nat → List Nat × List Nat
  | 0 => (v, ms)
  | k + 1 => (stepV (sts v ms k).1 (sts v ms k).2 k, atM (sts v ms k).2 k)
theorem sts_len (v ms : List Nat) (k : Nat) : (sts v ms k).1.length = v.length ∧ (sts v ms k).2.length = ms.length := by
  induction k with
  | zero => exact ⟨rfl, rfl⟩
  | succ k ih =>
    refine ⟨?_, ?_⟩
    · show (stepV _ _ _).length = _
      unfold stepV
      rw [List.length_set, List.length_set]; exact ih.1
    · show (atM _ _).length = _
      rw [atM_len]; exact ih.2
theorem sts_good (v ms : List Nat) (hv : Good v) (hm : Good ms) (k : Nat) : Good (sts v ms k).1 ∧ Good (sts v ms k).2 := by
  induction k with
  | zero => exact ⟨hv, hm⟩
  | succ k ih => exact ⟨good_set (good_set ih.1 _ _ (Nat.mod_lt _ (by decide))) _ _ (Nat.mod_lt _ (by decide)), atM_good ih.2 k⟩
theorem vals_put {w : World} {b t : Nat} {m : List Nat} {r : Array Value} {k v : Nat} (h : w.heap[b]? = some (.cells (vals m ++ r) t (0, 0))) (hk : k < m.length) : (w.setCell ⟨b, k, none⟩ (.int .u32 (v : Nat))).heap[b]? = some (.cells (vals (m.set k v) ++ r) t (0, 0)) := by
  refine blk_put h k _ ?_
  have h1 : k < (vals m).size := by simpa [vals] using hk
  rw [Array.setIfInBounds_append_left h1]
  congr 1
  simp [vals, List.map_set]
theorem vals_at (m : List Nat) (k : Nat) (hk : k < m.length) : (vals m)[k]? = some (.int .u32 (mr m k : Nat)) := by
  simp [vals, mr, List.getElem?_eq_getElem hk]
/-- What is added to the registers: the first j of them. -/
def addN (now v : List Nat) : Nat → List Nat
  | 0 => now
  | j + 1 => (addN now v j).set j ((mr (addN now v j) j + mr v j) % 4294967296)
theorem addN_len (now v : List Nat) (j : Nat) : (addN now v j).length = now.length := by
  induction j with
  | zero => rfl
  | succ j ih => unfold addN; rw [List.length_set]; exact ih
section
variable {P : Program} {ops : Array Oper} {Q : Exit → Act → World → Prop}
/-- A call of a closure in a region that draws. -/
theorem goesc_ {oi : Oper} {N : Option Tmp} {a : Act} {w : World} {K : Act → World → Prop} {f : FuncId} {fn : Func} {ops0 : Array Operand} {ts : Array TypeId} {g : Operand} {caps : Array Value} (hf : P.funcs[f]? = some fn) (hname : (fn.name == "runtime.NumGoroutine") = false) (hb : fn.body.isSome = true) (args : Array Value)
    (hw : Region.wanted oi (yielded ops a.tmps) = true) (hN : oi.dst = N) (hop : oi.op = .call { callee := .value g, args := ops0, argTypes := ts }) (hg : a.eval g = .func (.func f) #[] caps) (hargs : ops0.map a.eval ++ caps = args)
    (h : Calls P f args w fun e w' => ∃ v, e = .returned v ∧ K (a.put N v) w') : if Region.wanted oi (yielded ops a.tmps) = true then Oper.wp P oi a w K Q else K (a.put N undef) w := by
  refine call_ f args hw hN ?_ h
  have he := enters_ hf hname hb args w
  unfold execOp
  simp [hop, resolve, Deferred.ofValue, invoke, hg, hargs, he]
end
theorem vals8 (now : List Nat) (h : now.length = 8) : (#[.int .u32 (mr now 0 : Nat), .int .u32 (mr now 1 : Nat), .int .u32 (mr now 2 : Nat), .int .u32 (mr now 3 : Nat), .int .u32 (mr now 4 : Nat), .int .u32 (mr now 5 : Nat), .int .u32 (mr now 6 : Nat), .int .u32 (mr now 7 : Nat)] : Array Value) = vals now := by
  match now, h with
  | [a, b, c, d, e, f, g, i], _ => rfl
theorem cell_lt {w : World} {p : Addr} {v : Value} (h : w.cell? p = some v) : p.block < w.heap.size := by
  rcases Nat.lt_or_ge p.block w.heap.size with h' | h'
  · exact h'
  · unfold World.cell? at h
    rw [Array.getElem?_eq_none h'] at h
    cases h
theorem pw_cell_below2 {w W : World} {n : Nat} {p : Addr} {v : Value} (hb : Below n w W) (hc : w.cell? p = some v) (h : p.block < n) : W.cell? p = some v := (hb.cell h).trans hc
def OnlyN (Q : Exit → Act → World → Prop) : Exit → Act → World → Prop
  | .normal, a, w => Q .normal a w
  | _, _, _ => False
theorem onlyN {Q : Exit → Act → World → Prop} {a : Act} {w : World} (h : Q .normal a w) : OnlyN Q .normal a w := h
theorem wp_only {P : Program} {c : Code} {Q : Exit → Act → World → Prop} {a : Act} {w : World} (h : c.wp P (OnlyN Q) a w) : c.wp P Q a w :=
  wp_mono h (fun e a w h => by cases e <;> first | exact h | exact h.elim)
theorem quiet_reg {P : Program} {f : Nat} {args : Array Value} {w : World} {v : Value} (h : Calls P f args w fun e w' => e = .returned v ∧ w' = w) : Calls P f args w fun e w' => e = .returned v ∧ ∃ n, w' = w.drewN n :=
  h.mono fun e w' h => ⟨h.1, 0, by rw [h.2]; rfl⟩
theorem vals_app (m : List Nat) (r : Array Value) (k : Nat) (hk : k < m.length) : (vals m ++ r)[k]? = some (.int .u32 (mr m k : Nat)) := by
  have h1 : k < (vals m).size := by simpa [vals] using hk
  rw [Array.getElem?_append_left h1]
  simp [vals, mr, List.getElem?_eq_getElem hk]
/-- What a block makes of the registers. -/
def workF (now : List Nat) (bs : List Int) : List Nat := addN now (sts now (msg bs) 64).1 8
set_option maxRecDepth 100000 in
set_option maxHeartbeats 2000000 in
theorem work_calls (w : World) (b : Nat) (now : List Nat) (op by_ : Value) (hS : w.heap[b]? = some (.cells (vals now ++ #[op, by_]) 59 (0, 0))) (hn : now.length = 8) (hgn : Good now)
    (ad : Addr) (c : Nat) (bs : List Int) (hl : bs.length = 64) (hbs : ∀ j, j < 64 → bt8 bs j < 256) (hb : ad.block < w.heap.size) (hcu : Cubes w) (hc : ∀ j, j < 64 → w.cell? (ad.add j) = some (.int .u8 (bt8 bs j : Nat))) :
    Calls Tryd.prog 30 #[.pointer (some ⟨b, 0, none⟩), .slice (some ad) 64 c] w fun e w' => (∃ v, e = .returned v) ∧ w.grownBy w' (some b) ∧ w'.heap[b]? = some (.cells (vals (workF now bs) ++ #[op, by_]) 59 (0, 0)) := by
  have HS := Aside0.mk hS
  have HC := Aside0.mk hc
  have HCU := Aside0.mk hcu
  clear hcu
  have HBS := Aside0.mk hbs
  have HGN := Aside0.mk hgn
  clear hS hc hbs hgn
  refine (callsIn_wide (n := 10)).1 ?_
  refine callsIn_of_wp_marks Tryd.func30 rfl (by trivial) ?_ rfl
  refine wpIn_wide.2 ?_
  simp only [Tryd.ntmps30, List.size_toArray, List.length_cons, List.length_nil, Nat.reduceAdd, Nat.reduceSub, Array.replicate_succ, Array.replicate_zero, List.push_toArray, List.append_toArray, List.nil_append, List.cons_append]
  go_wp2_with (first | (go_at_call 41; refine (words_calls _ _ _ _).mono ?_; rintro e w' ⟨rfl, rfl⟩))
  have hW1 := blk_alloc (blk_new w (.cells #[.int .u32 0, .int .u32 0, .int .u32 0, .int .u32 0, .int .u32 0, .int .u32 0, .int .u32 0, .int .u32 0, .int .u32 0, .int .u32 0, .int .u32 0, .int .u32 0, .int .u32 0, .int .u32 0, .int .u32 0, .int .u32 0] 71)) (.cells #[.slice (some ad) 64 c] 22)
  have hW2 := blk_new (w.alloc (.cells #[.int .u32 0, .int .u32 0, .int .u32 0, .int .u32 0, .int .u32 0, .int .u32 0, .int .u32 0, .int .u32 0, .int .u32 0, .int .u32 0, .int .u32 0, .int .u32 0, .int .u32 0, .int .u32 0, .int .u32 0, .int .u32 0] 71)) (.cells #[.slice (some ad) 64 c] 22)
  have hW3 : Below w.heap.size w ((w.alloc (.cells #[.int .u32 0, .int .u32 0, .int .u32 0, .int .u32 0, .int .u32 0, .int .u32 0, .int .u32 0, .int .u32 0, .int .u32 0, .int .u32 0, .int .u32 0, .int .u32 0, .int .u32 0, .int .u32 0, .int .u32 0, .int .u32 0] 71)).alloc (.cells #[.slice (some ad) 64 c] 22)) := below_alloc (below_alloc (Below.refl _ _) _) _
  rw [World.size_alloc] at hW2
  have hsz : ((w.alloc (.cells #[.int .u32 0, .int .u32 0, .int .u32 0, .int .u32 0, .int .u32 0, .int .u32 0, .int .u32 0, .int .u32 0, .int .u32 0, .int .u32 0, .int .u32 0, .int .u32 0, .int .u32 0, .int .u32 0, .int .u32 0, .int .u32 0] 71)).alloc (.cells #[.slice (some ad) 64 c] 22)).heap.size = w.heap.size + 2 := by simp
  obtain ⟨W1, hW⟩ : ∃ W1, W1 = (w.alloc (.cells #[.int .u32 0, .int .u32 0, .int .u32 0, .int .u32 0, .int .u32 0, .int .u32 0, .int .u32 0, .int .u32 0, .int .u32 0, .int .u32 0, .int .u32 0, .int .u32 0, .int .u32 0, .int .u32 0, .int .u32 0, .int .u32 0] 71)).alloc (.cells #[.slice (some ad) 64 c] 22) := ⟨_, rfl⟩
  rw [← hW] at hW1 hW2 hW3 hsz ⊢
  clear hW
  refine (wpIn_wide (n := 10)).1 ?_
  refine wpIn_rangeFunc_ownF (n := 10) rfl (by decide) (gf := 47) (lb := #[.pointer (some ⟨w.heap.size + 1, 0, none⟩)]) rfl (by trivial) (enters_of Tryd.func47 (by kernel_rfl) rfl)
    (words_stops 9 (by decide) (w.heap.size + 1) w.heap.size c ad bs hl HBS.out W1 (by omega) (by omega) hb ((blk_cell hW2 0).trans rfl) (fun j hj => pw_cell_below hW3 (HC.out j hj)))
    (fun h h' => Kp.trans h h') (fun W l o o' hle ho hc hw => ⟨belowK_b (w := W1) (by omega) W l o o' hle ho hc hw, World.putObj_heap_other (by omega)⟩) (Below.refl _ _) (fun _ => rfl)
    (fun pre W => WB W w.heap.size 71 (laid16 pre) ∧ Below w.heap.size w W)
    (fun _ _ _ => False)
    (OwnFrom.and (fun s A B row hs hg hr => gb_blk hg hs (fun e => by have := (hr _ e.symm).1; omega)) (ownFrom_below (Nat.le_refl _) (by omega)))
    (fun _ _ _ _ _ hs _ _ => hs)
    ⟨hW1, hW3⟩
    (fun x => { tmps := #[.pointer (some ⟨b, 0, none⟩), .slice (some ad) 64 c, undef, undef, .pointer (some ⟨w.heap.size, 0, none⟩), .int .i64 (x.1.1 : Int), .int .u32 (x.1.2 : Int), undef, undef, undef, undef, undef, undef, undef, undef, undef, undef, undef, undef, .slice (some ad) 64 c, .func (.func 47) #[] #[.pointer (some ⟨w.heap.size + 1, 0, none⟩)], .int .i64 (x.1.1 : Int), .int .u32 (x.1.2 : Int), undef, undef, undef, undef, undef, undef, undef, undef, undef, undef, undef, undef, undef, undef, undef, undef, undef, undef, undef, undef, undef, undef, undef, undef, undef, undef, undef, undef, undef, undef, undef, undef, undef, undef, undef, undef, undef, undef, undef, undef, undef, undef, undef, undef, undef, undef, undef, undef, undef, undef, undef, undef, undef, undef, undef, undef, undef, undef, undef, undef, undef, undef, undef, undef, undef, undef, undef, undef, undef, undef, undef, undef, undef, undef, undef, undef, undef, undef, undef, undef, undef, undef, undef, undef, undef, undef, undef, undef, undef, undef, undef, undef, undef, undef, undef, undef, undef, undef, undef, undef, undef, undef, undef, undef, undef, undef, undef, undef, undef, undef, undef, undef, undef], defers := [] }) ?assign ?body ?done ?stop
  case assign =>
    intro l x W K hK
    gi_wp2
    exact hK
  case body =>
    rintro l pre x W ⟨hM, hB⟩ _
    have hx := hM.at x.1.1 (by rw [laid_len]; exact x.2.1)
    have hx2 : ((x.1.1 : Nat) : Int) < 16 := by have := x.2.1; omega
    gi_wp2
    refine ⟨KeepsOthers.setCell _ _ _, ⟨(Below.refl w.heap.size W).setCell (p := ⟨w.heap.size, _, none⟩) (Nat.le_refl _) _, Below.heap_setCell W ⟨w.heap.size, _, none⟩ _ _ (by simp)⟩, ?_, hB.setCell (p := ⟨w.heap.size, _, none⟩) (Nat.le_refl _) _⟩
    rw [laid_snoc]
    exact hM.put _ _
  case stop =>
    rintro D c pre W _ _ h _
    exact h.elim
  case done =>
    rintro D ys W hD rfl ⟨hM, hB⟩ hK
    have hSW := (hB.block b (blk_lt HS.out)).trans HS.out
    have q0 := (blk_cell hSW 0).trans (vals_app now _ 0 (by omega))
    have q1 := (blk_cell hSW 1).trans (vals_app now _ 1 (by omega))
    have q2 := (blk_cell hSW 2).trans (vals_app now _ 2 (by omega))
    have q3 := (blk_cell hSW 3).trans (vals_app now _ 3 (by omega))
    have q4 := (blk_cell hSW 4).trans (vals_app now _ 4 (by omega))
    have q5 := (blk_cell hSW 5).trans (vals_app now _ 5 (by omega))
    have q6 := (blk_cell hSW 6).trans (vals_app now _ 6 (by omega))
    have q7 := (blk_cell hSW 7).trans (vals_app now _ 7 (by omega))
    have HM := Aside0.mk hM
    have HB := Aside0.mk hB
    have HK := Aside0.mk hK
    clear hM hB hK hSW hW1 hW2 hW3
    go_wp2_with fail
    have hV := blk_new W (.cells #[.int .u32 (mr now 0 : Nat), .int .u32 (mr now 1 : Nat), .int .u32 (mr now 2 : Nat), .int .u32 (mr now 3 : Nat), .int .u32 (mr now 4 : Nat), .int .u32 (mr now 5 : Nat), .int .u32 (mr now 6 : Nat), .int .u32 (mr now 7 : Nat)] 57)
    rw [vals8 now hn] at hV ⊢
    have hDM : D ≠ w.heap.size := by omega
    have hDM2 : w.heap.size ≤ D := by omega
    have hDV : D < W.heap.size := blk_lt HK.out
    have hMV : w.heap.size < W.heap.size := blk_lt HM.out
    obtain ⟨V, hVe⟩ : ∃ V, V = W.heap.size := ⟨_, rfl⟩
    rw [← hVe] at hV hDV hMV ⊢
    obtain ⟨M, hMe⟩ : ∃ M, M = w.heap.size := ⟨_, rfl⟩
    have HB0 := Aside0.mk (HB.out.alloc (by omega) (.cells (vals now) 57) : Below w.heap.size w (W.alloc (.cells (vals now) 57)))
    rw [← hMe] at HM hDM hDM2 hMV ⊢
    have HV0 := Aside0.mk hV
    have HM0 := Aside0.mk (blk_alloc HM.out (.cells (vals now) 57))
    have HK0 := Aside0.mk (blk_alloc HK.out (.cells (vals now) 57))
    have HME := Aside0.mk hMe
    have hb2 : b < M := by rw [hMe]; exact blk_lt HS.out
    have h2M : 2 < M := by rw [hMe]; exact cell_lt (HCU.out 0 (by decide))
    clear hV hVe hMe q0 q1 q2 q3 q4 q5 q6 q7 HM HK HB
    go_loopw [31] (fun i wr => ∃ k : Nat, k ≤ 64 ∧ i = .int .i64 k ∧ Aside0 (WB wr V 57 (sts now (msg bs) k).1) ∧ Aside0 (WB wr M 71 (sts now (msg bs) k).2) ∧ Aside0 (Below M w wr) ∧ Aside0 (wr.heap[D]? = some (.deferred (some [])))) (fun i _ => 64 - (intOf i).toNat)
    case atStart => exact ⟨0, by decide, rfl, HV0, HM0, ⟨HME.out ▸ HB0.out⟩, HK0⟩
    case round =>
      obtain ⟨k, hk, rfl, HV, HM, HB, HK⟩ := hrel
      by_cases hlt : k < 64
      · obtain ⟨vs, hvs⟩ : ∃ v, v = (sts now (msg bs) k).1 := ⟨_, rfl⟩
        obtain ⟨ms, hms⟩ : ∃ v, v = (sts now (msg bs) k).2 := ⟨_, rfl⟩
        have hvl : vs.length = 8 := by rw [hvs, (sts_len _ _ _).1, hn]
        have hml : ms.length = 16 := by rw [hms, (sts_len _ _ _).2]; exact laid_len _
        have hG := sts_good now (msg bs) HGN.out (laid_good _) k
        rw [← hvs, ← hms] at hG
        have HG := Aside0.mk hG
        have HN := Aside0.mk (show sts now (msg bs) (k + 1) = (stepV vs ms k, atM ms k) by rw [hvs, hms]; rfl)
        rw [← hvs] at HV
        rw [← hms] at HM
        clear hvs hms hG
        have hkk : (k : Int) < 64 := by omega
        have RG := fun (j : Nat) (hj : j < 8) (W' : World) => reg_calls W' V k j hlt hj
        have R0 := Aside0.mk (RG 0 (by decide))
        have R1 := Aside0.mk (RG 1 (by decide))
        have R2 := Aside0.mk (RG 2 (by decide))
        have R3 := Aside0.mk (RG 3 (by decide))
        have R4 := Aside0.mk (RG 4 (by decide))
        have R5 := Aside0.mk (RG 5 (by decide))
        have R6 := Aside0.mk (RG 6 (by decide))
        have R7 := Aside0.mk (RG 7 (by decide))
        clear RG
        have p0 := (HV.out.at (ix k 0) (by rw [hvl]; exact ix_lt k 0)).1
        have p1 := (HV.out.at (ix k 1) (by rw [hvl]; exact ix_lt k 1)).1
        have p2 := (HV.out.at (ix k 2) (by rw [hvl]; exact ix_lt k 2)).1
        have P3 := Aside0.mk (HV.out.at (ix k 3) (by rw [hvl]; exact ix_lt k 3))
        have p4 := (HV.out.at (ix k 4) (by rw [hvl]; exact ix_lt k 4)).1
        have p5 := (HV.out.at (ix k 5) (by rw [hvl]; exact ix_lt k 5)).1
        have p6 := (HV.out.at (ix k 6) (by rw [hvl]; exact ix_lt k 6)).1
        have P7 := Aside0.mk (HV.out.at (ix k 7) (by rw [hvl]; exact ix_lt k 7))
        obtain ⟨r0, hr0⟩ : ∃ r, r = ix k 0 := ⟨_, rfl⟩
        obtain ⟨r1, hr1⟩ : ∃ r, r = ix k 1 := ⟨_, rfl⟩
        obtain ⟨r2, hr2⟩ : ∃ r, r = ix k 2 := ⟨_, rfl⟩
        obtain ⟨r3, hr3⟩ : ∃ r, r = ix k 3 := ⟨_, rfl⟩
        obtain ⟨r4, hr4⟩ : ∃ r, r = ix k 4 := ⟨_, rfl⟩
        obtain ⟨r5, hr5⟩ : ∃ r, r = ix k 5 := ⟨_, rfl⟩
        obtain ⟨r6, hr6⟩ : ∃ r, r = ix k 6 := ⟨_, rfl⟩
        obtain ⟨r7, hr7⟩ : ∃ r, r = ix k 7 := ⟨_, rfl⟩
        have hr3l : r3 < 8 := by rw [hr3]; exact ix_lt k 3
        have hr7l : r7 < 8 := by rw [hr7]; exact ix_lt k 7
        have hr37 : r3 ≠ r7 := by rw [hr3, hr7]; unfold ix; omega
        change Aside0 (∀ W' : World, Calls Tryd.prog 42 #[.int .i64 (k : Nat), .int .i64 0, .pointer (some ⟨V, 0, none⟩)] W' fun e w' => e = .returned (.pointer (some ⟨V, ix k 0, none⟩)) ∧ w' = W') at R0
        change Aside0 (∀ W' : World, Calls Tryd.prog 42 #[.int .i64 (k : Nat), .int .i64 1, .pointer (some ⟨V, 0, none⟩)] W' fun e w' => e = .returned (.pointer (some ⟨V, ix k 1, none⟩)) ∧ w' = W') at R1
        change Aside0 (∀ W' : World, Calls Tryd.prog 42 #[.int .i64 (k : Nat), .int .i64 2, .pointer (some ⟨V, 0, none⟩)] W' fun e w' => e = .returned (.pointer (some ⟨V, ix k 2, none⟩)) ∧ w' = W') at R2
        change Aside0 (∀ W' : World, Calls Tryd.prog 42 #[.int .i64 (k : Nat), .int .i64 3, .pointer (some ⟨V, 0, none⟩)] W' fun e w' => e = .returned (.pointer (some ⟨V, ix k 3, none⟩)) ∧ w' = W') at R3
        change Aside0 (∀ W' : World, Calls Tryd.prog 42 #[.int .i64 (k : Nat), .int .i64 4, .pointer (some ⟨V, 0, none⟩)] W' fun e w' => e = .returned (.pointer (some ⟨V, ix k 4, none⟩)) ∧ w' = W') at R4
        change Aside0 (∀ W' : World, Calls Tryd.prog 42 #[.int .i64 (k : Nat), .int .i64 5, .pointer (some ⟨V, 0, none⟩)] W' fun e w' => e = .returned (.pointer (some ⟨V, ix k 5, none⟩)) ∧ w' = W') at R5
        change Aside0 (∀ W' : World, Calls Tryd.prog 42 #[.int .i64 (k : Nat), .int .i64 6, .pointer (some ⟨V, 0, none⟩)] W' fun e w' => e = .returned (.pointer (some ⟨V, ix k 6, none⟩)) ∧ w' = W') at R6
        change Aside0 (∀ W' : World, Calls Tryd.prog 42 #[.int .i64 (k : Nat), .int .i64 7, .pointer (some ⟨V, 0, none⟩)] W' fun e w' => e = .returned (.pointer (some ⟨V, ix k 7, none⟩)) ∧ w' = W') at R7
        have HX := Aside0.mk (show stepV vs ms k = (vs.set r3 ((mr vs r3 + stX (mr vs r4) (mr vs r5) (mr vs r6) (mr vs r7) (kub k) (atV ms k)) % 4294967296)).set r7 (stH (mr vs r0) (mr vs r1) (mr vs r2) (stX (mr vs r4) (mr vs r5) (mr vs r6) (mr vs r7) (kub k) (atV ms k))) by rw [hr0, hr1, hr2, hr3, hr4, hr5, hr6, hr7]; rfl)
        rw [← hr0] at R0 p0
        rw [← hr1] at R1 p1
        rw [← hr2] at R2 p2
        rw [← hr3] at R3 P3
        rw [← hr4] at R4 p4
        rw [← hr5] at R5 p5
        rw [← hr6] at R6 p6
        rw [← hr7] at R7 P7
        clear hr0 hr1 hr2 hr3 hr4 hr5 hr6 hr7
        have g0 := HG.out.1 r0
        have g1 := HG.out.1 r1
        have g2 := HG.out.1 r2
        have g4 := HG.out.1 r4
        have g5 := HG.out.1 r5
        have g6 := HG.out.1 r6
        obtain ⟨x0, e0⟩ : ∃ x, x = mr vs r0 := ⟨_, rfl⟩
        obtain ⟨x1, e1⟩ : ∃ x, x = mr vs r1 := ⟨_, rfl⟩
        obtain ⟨x2, e2⟩ : ∃ x, x = mr vs r2 := ⟨_, rfl⟩
        obtain ⟨x3, e3⟩ : ∃ x, x = mr vs r3 := ⟨_, rfl⟩
        obtain ⟨x4, e4⟩ : ∃ x, x = mr vs r4 := ⟨_, rfl⟩
        obtain ⟨x5, e5⟩ : ∃ x, x = mr vs r5 := ⟨_, rfl⟩
        obtain ⟨x6, e6⟩ : ∃ x, x = mr vs r6 := ⟨_, rfl⟩
        obtain ⟨x7, e7⟩ : ∃ x, x = mr vs r7 := ⟨_, rfl⟩
        rw [← e0] at p0 g0
        rw [← e1] at p1 g1
        rw [← e2] at p2 g2
        rw [← e3] at P3
        rw [← e4] at p4 g4
        rw [← e5] at p5 g5
        rw [← e6] at p6 g6
        rw [← e7] at P7
        rw [← e0, ← e1, ← e2, ← e3, ← e4, ← e5, ← e6, ← e7] at HX
        have E3 := Aside0.mk e3
        clear e0 e1 e2 e3 e4 e5 e6 e7
        obtain ⟨kc, ekc⟩ : ∃ x, x = kub k := ⟨_, rfl⟩
        have PC := Aside0.mk (pw_cell_below2 HB.out (HCU.out k hlt) h2M)
        rw [← ekc] at PC HX
        obtain ⟨av, eav⟩ : ∃ x, x = atV ms k := ⟨_, rfl⟩
        rw [← eav] at HX
        obtain ⟨xx, exx⟩ : ∃ x, x = stX x4 x5 x6 x7 kc av := ⟨_, rfl⟩
        rw [← exx] at HX
        obtain ⟨hh, ehh⟩ : ∃ x, x = stH x0 x1 x2 xx := ⟨_, rfl⟩
        rw [← ehh] at HX
        obtain ⟨ss, ess⟩ : ∃ x, x = (x3 + xx) % 4294967296 := ⟨_, rfl⟩
        rw [← ess] at HX
        have HA3 := wadd x3 xx
        rw [← ess] at HA3
        have HF := x_facts x4 x5 x6 x7 kc av g4 g5 g6
        have HF2 := h_facts x0 x1 x2 xx g0 g1 g2
        rw [← exx] at HF
        rw [← ehh] at HF2
        have HAT := Aside0.mk (fun (W' : World) (h : WB W' M 71 ms) => at_any W' M ms hml h HG.out.2 k hlt)
        rw [← eav] at HAT
        have T1 := Aside0.mk (fun (W' : World) (b' : Nat) (hb : W'.heap[b']? = some (.cells #[.int .i64 6, .int .i64 11, .int .i64 25] 3 (0, 0))) => turned_blk W' b' 3 [6, 11, 25] 3 x4 g4 rfl (by decide) (lit3 6 11 25 (by decide)) hb)
        have T2 := Aside0.mk (fun (W' : World) (b' : Nat) (hb : W'.heap[b']? = some (.cells #[.int .i64 2, .int .i64 13, .int .i64 22] 3 (0, 0))) => turned_blk W' b' 3 [2, 13, 22] 3 x0 g0 rfl (by decide) (lit3 2 13 22 (by decide)) hb)
        obtain ⟨y1, c1, nt, c2, ch, y2, y3, F⟩ := HF
        obtain ⟨z1, m1, m2, m3, m4, m5, F2⟩ := HF2
        have HF := Aside0.mk F
        have HF2 := Aside0.mk F2
        clear g0 g1 g2 g4 g5 g6 exx ehh ess eav ekc F F2
        go_wp2_with fail
        refine wp_only ?_
        refine start_ (n := 18) (S := fun w' => w'.cell? ⟨V, r0, none⟩ = some (.int .u32 (x0 : Nat)) ∧ w'.cell? ⟨V, r1, none⟩ = some (.int .u32 (x1 : Nat)) ∧ w'.cell? ⟨V, r2, none⟩ = some (.int .u32 (x2 : Nat))) (ds := []) #[false, false, false, false, false, false, false, false, false, false, false, false, false, false, false, false, false, false] (by kernel_rfl) rfl rfl ⟨p0, p1, p2⟩ (fun hHeld => ?_)
        refine pure_ (i := 0) (N := some 34) (v := ?_) (a' := ?_) #[true, false, false, false, false, false, false, false, false, false, false, false, false, false, false, false, false, false] rfl rfl (by kernel_rfl) (fun _ _ _ h => h) (Or.inl ⟨by rfl, ?_⟩) ?_ ?_
        rotate_left
        · intro w'
          go_simp
          with_reducible rfl
        rotate_left
        · simp only [Act.put, List.setIfInBounds_toArray, List.set_cons_zero, List.set_cons_succ, i64_w, i32_w]
          rfl
        refine pure_ (i := 1) (N := some 35) (v := ?_) (a' := ?_) #[true, true, false, false, false, false, false, false, false, false, false, false, false, false, false, false, false, false] rfl rfl (by kernel_rfl) (fun _ _ _ h => h) (Or.inl ⟨by rfl, ?_⟩) ?_ ?_
        rotate_left
        · intro w'
          go_simp
          with_reducible rfl
        rotate_left
        · simp only [Act.put, List.setIfInBounds_toArray, List.set_cons_zero, List.set_cons_succ, i64_w, i32_w]
          rfl
        refine pure_ (i := 5) (N := some 39) (v := ?_) (a' := ?_) #[true, true, false, false, false, true, false, false, false, false, false, false, false, false, false, false, false, false] rfl rfl (by kernel_rfl) (fun _ _ _ h => h) (Or.inl ⟨by rfl, ?_⟩) ?_ ?_
        rotate_left
        · intro w'
          go_simp
          with_reducible rfl
        rotate_left
        · simp only [Act.put, List.setIfInBounds_toArray, List.set_cons_zero, List.set_cons_succ, i64_w, i32_w]
          rfl
        refine pure_ (i := 6) (N := some 40) (v := ?_) (a' := ?_) #[true, true, false, false, false, true, true, false, false, false, false, false, false, false, false, false, false, false] rfl rfl (by kernel_rfl) (fun _ _ _ h => h) (Or.inl ⟨by rfl, ?_⟩) ?_ ?_
        rotate_left
        · intro w'
          go_simp
          with_reducible rfl
        rotate_left
        · simp only [Act.put, List.setIfInBounds_toArray, List.set_cons_zero, List.set_cons_succ, i64_w, i32_w]
          rfl
        refine pure_ (i := 10) (N := some 44) (v := ?_) (a' := ?_) #[true, true, false, false, false, true, true, false, false, false, true, false, false, false, false, false, false, false] rfl rfl (by kernel_rfl) (fun _ _ _ h => h) (Or.inl ⟨by rfl, ?_⟩) ?_ ?_
        rotate_left
        · intro w'
          go_simp
          with_reducible rfl
        rotate_left
        · simp only [Act.put, List.setIfInBounds_toArray, List.set_cons_zero, List.set_cons_succ, i64_w, i32_w]
          rfl
        refine pure_ (i := 11) (N := some 45) (v := ?_) (a' := ?_) #[true, true, false, false, false, true, true, false, false, false, true, true, false, false, false, false, false, false] rfl rfl (by kernel_rfl) (fun _ _ _ h => h) (Or.inl ⟨by rfl, ?_⟩) ?_ ?_
        rotate_left
        · intro w'
          go_simp
          with_reducible rfl
        rotate_left
        · simp only [Act.put, List.setIfInBounds_toArray, List.set_cons_zero, List.set_cons_succ, i64_w, i32_w]
          rfl
        refine one_ (i := 2) (N := some 36) #[true, true, true, false, false, true, true, false, false, false, true, true, false, false, false, false, false, false] rfl rfl (by kernel_rfl) (by decide) (fun K hK => ?_)
        refine goesc_ Tryd.func42 (by kernel_rfl) rfl #[.int .i64 (k : Nat), .int .i64 0, .pointer (some ⟨V, 0, none⟩)] (by rfl) rfl rfl rfl (by first | rfl | (simp only [List.map_toArray, List.map_cons, List.map_nil]; rfl)) ?_
        with_reducible refine (R0.out _).mono ?_
        rintro e w7 ⟨rfl, rfl⟩
        refine ⟨_, rfl, ?_⟩
        refine hK.out _ _ ⟨hHeld.1, hHeld.2.1, hHeld.2.2⟩ (fun hHeld => ?_)
        clear hK K
        refine norm_ (a' := ?_) ?_ ?_
        rotate_left
        · show Act.put _ (some 36) _ = _
          simp only [Act.put, List.setIfInBounds_toArray, List.set_cons_zero, List.set_cons_succ, i64_w, i32_w]
          rfl
        refine pure_ (i := 3) (N := some 37) (v := ?_) (a' := ?_) #[true, true, true, true, false, true, true, false, false, false, true, true, false, false, false, false, false, false] rfl rfl (by kernel_rfl) (fun _ _ _ h => h) (Or.inl ⟨by rfl, ?_⟩) ?_ ?_
        rotate_left
        · intro w'
          go_simp
          with_reducible rfl
        rotate_left
        · simp only [Act.put, List.setIfInBounds_toArray, List.set_cons_zero, List.set_cons_succ, i64_w, i32_w]
          rfl
        refine take_ (i := 4) (N := some 38) (v := ?_) (a' := ?_) #[true, true, true, true, true, true, true, false, false, false, true, true, false, false, false, false, false, false] rfl rfl (by kernel_rfl) (fun _ _ _ h => h) (Or.inl ⟨by rfl, ?_⟩) hHeld ?_ ?_
        rotate_left
        · rintro w' ⟨s0, s1, s2⟩
          go_simp
          with_reducible rfl
        rotate_left
        · simp only [Act.put, List.setIfInBounds_toArray, List.set_cons_zero, List.set_cons_succ, i64_w, i32_w]
          rfl
        refine one_ (i := 7) (N := some 41) #[true, true, true, true, true, true, true, true, false, false, true, true, false, false, false, false, false, false] rfl rfl (by kernel_rfl) (by decide) (fun K hK => ?_)
        refine goesc_ Tryd.func42 (by kernel_rfl) rfl #[.int .i64 (k : Nat), .int .i64 1, .pointer (some ⟨V, 0, none⟩)] (by rfl) rfl rfl rfl (by first | rfl | (simp only [List.map_toArray, List.map_cons, List.map_nil]; rfl)) ?_
        with_reducible refine (R1.out _).mono ?_
        rintro e w7 ⟨rfl, rfl⟩
        refine ⟨_, rfl, ?_⟩
        refine hK.out _ _ ⟨hHeld.1, hHeld.2.1, hHeld.2.2⟩ (fun hHeld => ?_)
        clear hK K
        refine norm_ (a' := ?_) ?_ ?_
        rotate_left
        · show Act.put _ (some 41) _ = _
          simp only [Act.put, List.setIfInBounds_toArray, List.set_cons_zero, List.set_cons_succ, i64_w, i32_w]
          rfl
        refine pure_ (i := 8) (N := some 42) (v := ?_) (a' := ?_) #[true, true, true, true, true, true, true, true, true, false, true, true, false, false, false, false, false, false] rfl rfl (by kernel_rfl) (fun _ _ _ h => h) (Or.inl ⟨by rfl, ?_⟩) ?_ ?_
        rotate_left
        · intro w'
          go_simp
          with_reducible rfl
        rotate_left
        · simp only [Act.put, List.setIfInBounds_toArray, List.set_cons_zero, List.set_cons_succ, i64_w, i32_w]
          rfl
        refine take_ (i := 9) (N := some 43) (v := ?_) (a' := ?_) #[true, true, true, true, true, true, true, true, true, true, true, true, false, false, false, false, false, false] rfl rfl (by kernel_rfl) (fun _ _ _ h => h) (Or.inl ⟨by rfl, ?_⟩) hHeld ?_ ?_
        rotate_left
        · rintro w' ⟨s0, s1, s2⟩
          go_simp
          with_reducible rfl
        rotate_left
        · simp only [Act.put, List.setIfInBounds_toArray, List.set_cons_zero, List.set_cons_succ, i64_w, i32_w]
          rfl
        refine one_ (i := 12) (N := some 46) #[true, true, true, true, true, true, true, true, true, true, true, true, true, false, false, false, false, false] rfl rfl (by kernel_rfl) (by decide) (fun K hK => ?_)
        refine goesc_ Tryd.func42 (by kernel_rfl) rfl #[.int .i64 (k : Nat), .int .i64 2, .pointer (some ⟨V, 0, none⟩)] (by rfl) rfl rfl rfl (by first | rfl | (simp only [List.map_toArray, List.map_cons, List.map_nil]; rfl)) ?_
        with_reducible refine (R2.out _).mono ?_
        rintro e w7 ⟨rfl, rfl⟩
        refine ⟨_, rfl, ?_⟩
        refine hK.out _ _ ⟨hHeld.1, hHeld.2.1, hHeld.2.2⟩ (fun hHeld => ?_)
        clear hK K
        refine norm_ (a' := ?_) ?_ ?_
        rotate_left
        · show Act.put _ (some 46) _ = _
          simp only [Act.put, List.setIfInBounds_toArray, List.set_cons_zero, List.set_cons_succ, i64_w, i32_w]
          rfl
        refine pure_ (i := 13) (N := some 47) (v := ?_) (a' := ?_) #[true, true, true, true, true, true, true, true, true, true, true, true, true, true, false, false, false, false] rfl rfl (by kernel_rfl) (fun _ _ _ h => h) (Or.inl ⟨by rfl, ?_⟩) ?_ ?_
        rotate_left
        · intro w'
          go_simp
          with_reducible rfl
        rotate_left
        · simp only [Act.put, List.setIfInBounds_toArray, List.set_cons_zero, List.set_cons_succ, i64_w, i32_w]
          rfl
        refine pure_ (i := 15) (N := some 10) (v := ?_) (a' := ?_) #[true, true, true, true, true, true, true, true, true, true, true, true, true, true, false, true, false, false] rfl rfl (by kernel_rfl) (fun _ _ _ h => h) (Or.inl ⟨by rfl, ?_⟩) ?_ ?_
        rotate_left
        · intro w'
          go_simp
          with_reducible rfl
        rotate_left
        · simp only [Act.put, List.setIfInBounds_toArray, List.set_cons_zero, List.set_cons_succ, i64_w, i32_w]
          rfl
        refine pure_ (i := 16) (N := some 11) (v := ?_) (a' := ?_) #[true, true, true, true, true, true, true, true, true, true, true, true, true, true, false, true, true, false] rfl rfl (by kernel_rfl) (fun _ _ _ h => h) (Or.inl ⟨by rfl, ?_⟩) ?_ ?_
        rotate_left
        · intro w'
          go_simp
          with_reducible rfl
        rotate_left
        · simp only [Act.put, List.setIfInBounds_toArray, List.set_cons_zero, List.set_cons_succ, i64_w, i32_w]
          rfl
        refine take_ (i := 14) (N := some 48) (v := ?_) (a' := ?_) #[true, true, true, true, true, true, true, true, true, true, true, true, true, true, true, true, true, false] rfl rfl (by kernel_rfl) (fun _ _ _ h => h) (Or.inl ⟨by rfl, ?_⟩) hHeld ?_ ?_
        rotate_left
        · rintro w' ⟨s0, s1, s2⟩
          go_simp
          with_reducible rfl
        rotate_left
        · simp only [Act.put, List.setIfInBounds_toArray, List.set_cons_zero, List.set_cons_succ, i64_w, i32_w]
          rfl
        refine pure_ (i := 17) (N := some 12) (v := ?_) (a' := ?_) #[true, true, true, true, true, true, true, true, true, true, true, true, true, true, true, true, true, true] rfl rfl (by kernel_rfl) (fun _ _ _ h => h) (Or.inl ⟨by rfl, ?_⟩) ?_ ?_
        rotate_left
        · intro w'
          go_simp
          with_reducible rfl
        rotate_left
        · simp only [Act.put, List.setIfInBounds_toArray, List.set_cons_zero, List.set_cons_succ, i64_w, i32_w]
          rfl
        refine done_ (by kernel_rfl) ?_
        refine onlyN ?_
        go_wp2_with fail
        refine wp_only ?_
        refine start_ (n := 18) (S := fun w' => w'.cell? ⟨V, r4, none⟩ = some (.int .u32 (x4 : Nat)) ∧ w'.cell? ⟨V, r5, none⟩ = some (.int .u32 (x5 : Nat)) ∧ w'.cell? ⟨V, r6, none⟩ = some (.int .u32 (x6 : Nat))) (ds := []) #[false, false, false, false, false, false, false, false, false, false, false, false, false, false, false, false, false, false] (by kernel_rfl) rfl rfl ⟨p4, p5, p6⟩ (fun hHeld => ?_)
        refine pure_ (i := 0) (N := some 49) (v := ?_) (a' := ?_) #[true, false, false, false, false, false, false, false, false, false, false, false, false, false, false, false, false, false] rfl rfl (by kernel_rfl) (fun _ _ _ h => h) (Or.inl ⟨by rfl, ?_⟩) ?_ ?_
        rotate_left
        · intro w'
          go_simp
          with_reducible rfl
        rotate_left
        · simp only [Act.put, List.setIfInBounds_toArray, List.set_cons_zero, List.set_cons_succ, i64_w, i32_w]
          rfl
        refine pure_ (i := 1) (N := some 50) (v := ?_) (a' := ?_) #[true, true, false, false, false, false, false, false, false, false, false, false, false, false, false, false, false, false] rfl rfl (by kernel_rfl) (fun _ _ _ h => h) (Or.inl ⟨by rfl, ?_⟩) ?_ ?_
        rotate_left
        · intro w'
          go_simp
          with_reducible rfl
        rotate_left
        · simp only [Act.put, List.setIfInBounds_toArray, List.set_cons_zero, List.set_cons_succ, i64_w, i32_w]
          rfl
        refine pure_ (i := 5) (N := some 54) (v := ?_) (a' := ?_) #[true, true, false, false, false, true, false, false, false, false, false, false, false, false, false, false, false, false] rfl rfl (by kernel_rfl) (fun _ _ _ h => h) (Or.inl ⟨by rfl, ?_⟩) ?_ ?_
        rotate_left
        · intro w'
          go_simp
          with_reducible rfl
        rotate_left
        · simp only [Act.put, List.setIfInBounds_toArray, List.set_cons_zero, List.set_cons_succ, i64_w, i32_w]
          rfl
        refine pure_ (i := 6) (N := some 55) (v := ?_) (a' := ?_) #[true, true, false, false, false, true, true, false, false, false, false, false, false, false, false, false, false, false] rfl rfl (by kernel_rfl) (fun _ _ _ h => h) (Or.inl ⟨by rfl, ?_⟩) ?_ ?_
        rotate_left
        · intro w'
          go_simp
          with_reducible rfl
        rotate_left
        · simp only [Act.put, List.setIfInBounds_toArray, List.set_cons_zero, List.set_cons_succ, i64_w, i32_w]
          rfl
        refine pure_ (i := 10) (N := some 59) (v := ?_) (a' := ?_) #[true, true, false, false, false, true, true, false, false, false, true, false, false, false, false, false, false, false] rfl rfl (by kernel_rfl) (fun _ _ _ h => h) (Or.inl ⟨by rfl, ?_⟩) ?_ ?_
        rotate_left
        · intro w'
          go_simp
          with_reducible rfl
        rotate_left
        · simp only [Act.put, List.setIfInBounds_toArray, List.set_cons_zero, List.set_cons_succ, i64_w, i32_w]
          rfl
        refine pure_ (i := 11) (N := some 60) (v := ?_) (a' := ?_) #[true, true, false, false, false, true, true, false, false, false, true, true, false, false, false, false, false, false] rfl rfl (by kernel_rfl) (fun _ _ _ h => h) (Or.inl ⟨by rfl, ?_⟩) ?_ ?_
        rotate_left
        · intro w'
          go_simp
          with_reducible rfl
        rotate_left
        · simp only [Act.put, List.setIfInBounds_toArray, List.set_cons_zero, List.set_cons_succ, i64_w, i32_w]
          rfl
        refine one_ (i := 2) (N := some 51) #[true, true, true, false, false, true, true, false, false, false, true, true, false, false, false, false, false, false] rfl rfl (by kernel_rfl) (by decide) (fun K hK => ?_)
        refine goesc_ Tryd.func42 (by kernel_rfl) rfl #[.int .i64 (k : Nat), .int .i64 4, .pointer (some ⟨V, 0, none⟩)] (by rfl) rfl rfl rfl (by first | rfl | (simp only [List.map_toArray, List.map_cons, List.map_nil]; rfl)) ?_
        with_reducible refine (R4.out _).mono ?_
        rintro e w7 ⟨rfl, rfl⟩
        refine ⟨_, rfl, ?_⟩
        refine hK.out _ _ ⟨hHeld.1, hHeld.2.1, hHeld.2.2⟩ (fun hHeld => ?_)
        clear hK K
        refine norm_ (a' := ?_) ?_ ?_
        rotate_left
        · show Act.put _ (some 51) _ = _
          simp only [Act.put, List.setIfInBounds_toArray, List.set_cons_zero, List.set_cons_succ, i64_w, i32_w]
          rfl
        refine pure_ (i := 3) (N := some 52) (v := ?_) (a' := ?_) #[true, true, true, true, false, true, true, false, false, false, true, true, false, false, false, false, false, false] rfl rfl (by kernel_rfl) (fun _ _ _ h => h) (Or.inl ⟨by rfl, ?_⟩) ?_ ?_
        rotate_left
        · intro w'
          go_simp
          with_reducible rfl
        rotate_left
        · simp only [Act.put, List.setIfInBounds_toArray, List.set_cons_zero, List.set_cons_succ, i64_w, i32_w]
          rfl
        refine take_ (i := 4) (N := some 53) (v := ?_) (a' := ?_) #[true, true, true, true, true, true, true, false, false, false, true, true, false, false, false, false, false, false] rfl rfl (by kernel_rfl) (fun _ _ _ h => h) (Or.inl ⟨by rfl, ?_⟩) hHeld ?_ ?_
        rotate_left
        · rintro w' ⟨s0, s1, s2⟩
          go_simp
          with_reducible rfl
        rotate_left
        · simp only [Act.put, List.setIfInBounds_toArray, List.set_cons_zero, List.set_cons_succ, i64_w, i32_w]
          rfl
        refine one_ (i := 7) (N := some 56) #[true, true, true, true, true, true, true, true, false, false, true, true, false, false, false, false, false, false] rfl rfl (by kernel_rfl) (by decide) (fun K hK => ?_)
        refine goesc_ Tryd.func42 (by kernel_rfl) rfl #[.int .i64 (k : Nat), .int .i64 5, .pointer (some ⟨V, 0, none⟩)] (by rfl) rfl rfl rfl (by first | rfl | (simp only [List.map_toArray, List.map_cons, List.map_nil]; rfl)) ?_
        with_reducible refine (R5.out _).mono ?_
        rintro e w7 ⟨rfl, rfl⟩
        refine ⟨_, rfl, ?_⟩
        refine hK.out _ _ ⟨hHeld.1, hHeld.2.1, hHeld.2.2⟩ (fun hHeld => ?_)
        clear hK K
        refine norm_ (a' := ?_) ?_ ?_
        rotate_left
        · show Act.put _ (some 56) _ = _
          simp only [Act.put, List.setIfInBounds_toArray, List.set_cons_zero, List.set_cons_succ, i64_w, i32_w]
          rfl
        refine pure_ (i := 8) (N := some 57) (v := ?_) (a' := ?_) #[true, true, true, true, true, true, true, true, true, false, true, true, false, false, false, false, false, false] rfl rfl (by kernel_rfl) (fun _ _ _ h => h) (Or.inl ⟨by rfl, ?_⟩) ?_ ?_
        rotate_left
        · intro w'
          go_simp
          with_reducible rfl
        rotate_left
        · simp only [Act.put, List.setIfInBounds_toArray, List.set_cons_zero, List.set_cons_succ, i64_w, i32_w]
          rfl
        refine take_ (i := 9) (N := some 58) (v := ?_) (a' := ?_) #[true, true, true, true, true, true, true, true, true, true, true, true, false, false, false, false, false, false] rfl rfl (by kernel_rfl) (fun _ _ _ h => h) (Or.inl ⟨by rfl, ?_⟩) hHeld ?_ ?_
        rotate_left
        · rintro w' ⟨s0, s1, s2⟩
          go_simp
          with_reducible rfl
        rotate_left
        · simp only [Act.put, List.setIfInBounds_toArray, List.set_cons_zero, List.set_cons_succ, i64_w, i32_w]
          rfl
        refine one_ (i := 12) (N := some 61) #[true, true, true, true, true, true, true, true, true, true, true, true, true, false, false, false, false, false] rfl rfl (by kernel_rfl) (by decide) (fun K hK => ?_)
        refine goesc_ Tryd.func42 (by kernel_rfl) rfl #[.int .i64 (k : Nat), .int .i64 6, .pointer (some ⟨V, 0, none⟩)] (by rfl) rfl rfl rfl (by first | rfl | (simp only [List.map_toArray, List.map_cons, List.map_nil]; rfl)) ?_
        with_reducible refine (R6.out _).mono ?_
        rintro e w7 ⟨rfl, rfl⟩
        refine ⟨_, rfl, ?_⟩
        refine hK.out _ _ ⟨hHeld.1, hHeld.2.1, hHeld.2.2⟩ (fun hHeld => ?_)
        clear hK K
        refine norm_ (a' := ?_) ?_ ?_
        rotate_left
        · show Act.put _ (some 61) _ = _
          simp only [Act.put, List.setIfInBounds_toArray, List.set_cons_zero, List.set_cons_succ, i64_w, i32_w]
          rfl
        refine pure_ (i := 13) (N := some 62) (v := ?_) (a' := ?_) #[true, true, true, true, true, true, true, true, true, true, true, true, true, true, false, false, false, false] rfl rfl (by kernel_rfl) (fun _ _ _ h => h) (Or.inl ⟨by rfl, ?_⟩) ?_ ?_
        rotate_left
        · intro w'
          go_simp
          with_reducible rfl
        rotate_left
        · simp only [Act.put, List.setIfInBounds_toArray, List.set_cons_zero, List.set_cons_succ, i64_w, i32_w]
          rfl
        refine pure_ (i := 15) (N := some 13) (v := ?_) (a' := ?_) #[true, true, true, true, true, true, true, true, true, true, true, true, true, true, false, true, false, false] rfl rfl (by kernel_rfl) (fun _ _ _ h => h) (Or.inl ⟨by rfl, ?_⟩) ?_ ?_
        rotate_left
        · intro w'
          go_simp
          with_reducible rfl
        rotate_left
        · simp only [Act.put, List.setIfInBounds_toArray, List.set_cons_zero, List.set_cons_succ, i64_w, i32_w]
          rfl
        refine pure_ (i := 16) (N := some 14) (v := ?_) (a' := ?_) #[true, true, true, true, true, true, true, true, true, true, true, true, true, true, false, true, true, false] rfl rfl (by kernel_rfl) (fun _ _ _ h => h) (Or.inl ⟨by rfl, ?_⟩) ?_ ?_
        rotate_left
        · intro w'
          go_simp
          with_reducible rfl
        rotate_left
        · simp only [Act.put, List.setIfInBounds_toArray, List.set_cons_zero, List.set_cons_succ, i64_w, i32_w]
          rfl
        refine take_ (i := 14) (N := some 63) (v := ?_) (a' := ?_) #[true, true, true, true, true, true, true, true, true, true, true, true, true, true, true, true, true, false] rfl rfl (by kernel_rfl) (fun _ _ _ h => h) (Or.inl ⟨by rfl, ?_⟩) hHeld ?_ ?_
        rotate_left
        · rintro w' ⟨s0, s1, s2⟩
          go_simp
          with_reducible rfl
        rotate_left
        · simp only [Act.put, List.setIfInBounds_toArray, List.set_cons_zero, List.set_cons_succ, i64_w, i32_w]
          rfl
        refine pure_ (i := 17) (N := some 15) (v := ?_) (a' := ?_) #[true, true, true, true, true, true, true, true, true, true, true, true, true, true, true, true, true, true] rfl rfl (by kernel_rfl) (fun _ _ _ h => h) (Or.inl ⟨by rfl, ?_⟩) ?_ ?_
        rotate_left
        · intro w'
          go_simp
          with_reducible rfl
        rotate_left
        · simp only [Act.put, List.setIfInBounds_toArray, List.set_cons_zero, List.set_cons_succ, i64_w, i32_w]
          rfl
        refine done_ (by kernel_rfl) ?_
        refine onlyN ?_
        go_wp2_with fail
        have HMr := Aside0.mk (show WB wr.drew.drew M 71 ms from HM.out)
        have HVr := Aside0.mk (show WB wr.drew.drew V 57 vs from HV.out)
        have HBr := Aside0.mk (show Below M w wr.drew.drew from below_drew1 (below_drew1 HB.out))
        have HKr := Aside0.mk (show wr.drew.drew.heap[D]? = some (.deferred (some [])) from HK.out)
        have p7 : wr.drew.drew.cell? ⟨V, r7, none⟩ = some (.int .u32 (x7 : Nat)) := P7.out.1
        have pc : wr.drew.drew.cell? ⟨2, k, none⟩ = some (.int .u32 (kc : Nat)) := PC.out
        obtain ⟨Wr, hWr⟩ : ∃ W', W' = wr.drew.drew := ⟨_, rfl⟩
        rw [← hWr] at HMr HVr HBr HKr p7 pc ⊢
        clear hWr p0 p1 p2 p4 p5 p6 HV HM HB HK
        have hVM : some V ≠ some M := by intro e; cases e; exact absurd hMV (Nat.lt_irrefl _)
        have hM2 : some 2 ≠ some M := by intro e; cases e; exact absurd h2M (Nat.lt_irrefl _)
        obtain ⟨f1, f2, f3, f4, f5, f6, f7, f8⟩ := HF.out
        refine wp_only ?_
        refine start_ (n := 26) (S := fun w' => w'.cell? ⟨V, r7, none⟩ = some (.int .u32 (x7 : Nat)) ∧ w'.cell? ⟨2, k, none⟩ = some (.int .u32 (kc : Nat)) ∧ Wr.grownBy w' (some M)) (ds := []) #[false, false, false, false, false, false, false, false, false, false, false, false, false, false, false, false, false, false, false, false, false, false, false, false, false, false] (by kernel_rfl) rfl rfl ⟨p7, pc, gb_below (below_drew1 (Below.refl _ _)) _⟩ (fun hHeld => ?_)
        refine pure_ (i := 0) (N := some 64) (v := ?_) (a' := ?_) #[true, false, false, false, false, false, false, false, false, false, false, false, false, false, false, false, false, false, false, false, false, false, false, false, false, false] rfl rfl (by kernel_rfl) (fun _ _ _ h => h) (Or.inl ⟨by rfl, ?_⟩) ?_ ?_
        rotate_left
        · intro w'
          go_simp
          with_reducible rfl
        rotate_left
        · simp only [Act.put, List.setIfInBounds_toArray, List.set_cons_zero, List.set_cons_succ, i64_w, i32_w]
          rfl
        refine pure_ (i := 1) (N := some 65) (v := ?_) (a' := ?_) #[true, true, false, false, false, false, false, false, false, false, false, false, false, false, false, false, false, false, false, false, false, false, false, false, false, false] rfl rfl (by kernel_rfl) (fun _ _ _ h => h) (Or.inl ⟨by rfl, ?_⟩) ?_ ?_
        rotate_left
        · intro w'
          go_simp
          with_reducible rfl
        rotate_left
        · simp only [Act.put, List.setIfInBounds_toArray, List.set_cons_zero, List.set_cons_succ, i64_w, i32_w]
          rfl
        refine pure_ (i := 5) (N := some 69) (v := ?_) (a' := ?_) #[true, true, false, false, false, true, false, false, false, false, false, false, false, false, false, false, false, false, false, false, false, false, false, false, false, false] rfl rfl (by kernel_rfl) (fun _ _ _ h => h) (Or.inl ⟨by rfl, ?_⟩) ?_ ?_
        rotate_left
        · intro w'
          go_simp
          with_reducible rfl
        rotate_left
        · simp only [Act.put, List.setIfInBounds_toArray, List.set_cons_zero, List.set_cons_succ, i64_w, i32_w]
          rfl
        refine pure_ (i := 9) (N := some 73) (v := ?_) (a' := ?_) #[true, true, false, false, false, true, false, false, false, true, false, false, false, false, false, false, false, false, false, false, false, false, false, false, false, false] rfl rfl (by kernel_rfl) (fun _ _ _ h => h) (Or.inl ⟨by rfl, ?_⟩) ?_ ?_
        rotate_left
        · intro w'
          go_simp
          with_reducible rfl
        rotate_left
        · simp only [Act.put, List.setIfInBounds_toArray, List.set_cons_zero, List.set_cons_succ, i64_w, i32_w]
          rfl
        refine pure_ (i := 10) (N := some 74) (v := ?_) (a' := ?_) #[true, true, false, false, false, true, false, false, false, true, true, false, false, false, false, false, false, false, false, false, false, false, false, false, false, false] rfl rfl (by kernel_rfl) (fun _ _ _ h => h) (Or.inl ⟨by rfl, ?_⟩) ?_ ?_
        rotate_left
        · intro w'
          go_simp
          with_reducible rfl
        rotate_left
        · simp only [Act.put, List.setIfInBounds_toArray, List.set_cons_zero, List.set_cons_succ, i64_w, i32_w]
          rfl
        refine pure_ (i := 11) (N := some 75) (v := ?_) (a' := ?_) #[true, true, false, false, false, true, false, false, false, true, true, true, false, false, false, false, false, false, false, false, false, false, false, false, false, false] rfl rfl (by kernel_rfl) (fun _ _ _ h => h) (Or.inl ⟨by rfl, ?_⟩) ?_ ?_
        rotate_left
        · intro w'
          go_simp
          with_reducible rfl
        rotate_left
        · simp only [Act.put, List.setIfInBounds_toArray, List.set_cons_zero, List.set_cons_succ, i64_w, i32_w]
          rfl
        refine pure_ (i := 12) (N := some 76) (v := ?_) (a' := ?_) #[true, true, false, false, false, true, false, false, false, true, true, true, true, false, false, false, false, false, false, false, false, false, false, false, false, false] rfl rfl (by kernel_rfl) (fun _ _ _ h => h) (Or.inl ⟨by rfl, ?_⟩) ?_ ?_
        rotate_left
        · intro w'
          go_simp
          with_reducible rfl
        rotate_left
        · simp only [Act.put, List.setIfInBounds_toArray, List.set_cons_zero, List.set_cons_succ, i64_w, i32_w]
          rfl
        refine pure_ (i := 13) (N := some 77) (v := ?_) (a' := ?_) #[true, true, false, false, false, true, false, false, false, true, true, true, true, true, false, false, false, false, false, false, false, false, false, false, false, false] rfl rfl (by kernel_rfl) (fun _ _ _ h => h) (Or.inl ⟨by rfl, ?_⟩) ?_ ?_
        rotate_left
        · intro w'
          go_simp
          with_reducible rfl
        rotate_left
        · simp only [Act.put, List.setIfInBounds_toArray, List.set_cons_zero, List.set_cons_succ, i64_w, i32_w]
          rfl
        refine pure_ (i := 14) (N := some 78) (v := ?_) (a' := ?_) #[true, true, false, false, false, true, false, false, false, true, true, true, true, true, true, false, false, false, false, false, false, false, false, false, false, false] rfl rfl (by kernel_rfl) (fun _ _ _ h => h) (Or.inl ⟨by rfl, ?_⟩) ?_ ?_
        rotate_left
        · intro w'
          go_simp
          with_reducible rfl
        rotate_left
        · simp only [Act.put, List.setIfInBounds_toArray, List.set_cons_zero, List.set_cons_succ, i64_w, i32_w]
          rfl
        refine pure_ (i := 15) (N := some 79) (v := ?_) (a' := ?_) #[true, true, false, false, false, true, false, false, false, true, true, true, true, true, true, true, false, false, false, false, false, false, false, false, false, false] rfl rfl (by kernel_rfl) (fun _ _ _ h => h) (Or.inl ⟨by rfl, ?_⟩) ?_ ?_
        rotate_left
        · intro w'
          go_simp
          with_reducible rfl
        rotate_left
        · simp only [Act.put, List.setIfInBounds_toArray, List.set_cons_zero, List.set_cons_succ, i64_w, i32_w]
          rfl
        refine pure_ (i := 16) (N := some 80) (v := ?_) (a' := ?_) #[true, true, false, false, false, true, false, false, false, true, true, true, true, true, true, true, true, false, false, false, false, false, false, false, false, false] rfl rfl (by kernel_rfl) (fun _ _ _ h => h) (Or.inl ⟨by rfl, ?_⟩) ?_ ?_
        rotate_left
        · intro w'
          go_simp
          with_reducible rfl
        rotate_left
        · simp only [Act.put, List.setIfInBounds_toArray, List.set_cons_zero, List.set_cons_succ, i64_w, i32_w]
          rfl
        refine pure_ (i := 18) (N := some 82) (v := ?_) (a' := ?_) #[true, true, false, false, false, true, false, false, false, true, true, true, true, true, true, true, true, false, true, false, false, false, false, false, false, false] rfl rfl (by kernel_rfl) (fun _ _ _ h => h) (Or.inl ⟨by rfl, ?_⟩) ?_ ?_
        rotate_left
        · intro w'
          go_simp
          with_reducible rfl
        rotate_left
        · simp only [Act.put, List.setIfInBounds_toArray, List.set_cons_zero, List.set_cons_succ, i64_w, i32_w]
          rfl
        refine pure_ (i := 19) (N := some 83) (v := ?_) (a' := ?_) #[true, true, false, false, false, true, false, false, false, true, true, true, true, true, true, true, true, false, true, true, false, false, false, false, false, false] rfl rfl (by kernel_rfl) (fun _ _ _ h => h) (Or.inl ⟨by rfl, ?_⟩) ?_ ?_
        rotate_left
        · intro w'
          go_simp
          with_reducible rfl
        rotate_left
        · simp only [Act.put, List.setIfInBounds_toArray, List.set_cons_zero, List.set_cons_succ, i64_w, i32_w]
          rfl
        refine pure_ (i := 22) (N := some 86) (v := ?_) (a' := ?_) #[true, true, false, false, false, true, false, false, false, true, true, true, true, true, true, true, true, false, true, true, false, false, true, false, false, false] rfl rfl (by kernel_rfl) (fun _ _ _ h => h) (Or.inl ⟨by rfl, ?_⟩) ?_ ?_
        rotate_left
        · intro w'
          go_simp
          with_reducible rfl
        rotate_left
        · simp only [Act.put, List.setIfInBounds_toArray, List.set_cons_zero, List.set_cons_succ, i64_w, i32_w]
          rfl
        refine take_ (i := 20) (N := some 84) (v := ?_) (a' := ?_) #[true, true, false, false, false, true, false, false, false, true, true, true, true, true, true, true, true, false, true, true, true, false, true, false, false, false] rfl rfl (by kernel_rfl) (fun _ _ _ h => h) (Or.inl ⟨by rfl, ?_⟩) hHeld ?_ ?_
        rotate_left
        · rintro w' ⟨s0, s1, s2⟩
          go_simp
          with_reducible rfl
        rotate_left
        · simp only [Act.put, List.setIfInBounds_toArray, List.set_cons_zero, List.set_cons_succ, i64_w, i32_w]
          rfl
        refine join_ (σ := Nat) 7 #[true, true, true, true, true, true, true, false, false, true, true, true, true, true, true, true, true, false, true, true, true, false, true, false, false, false] (fun s => [(66, .pointer (some ⟨V, r7, none⟩)), (67, .pointer (some ⟨V, r7, none⟩)), (68, .int .u32 (x7 : Nat)), (70, .slice (some ⟨s, 0, none⟩) 3 3)]) (fun s w' => (w'.cell? ⟨V, r7, none⟩ = some (.int .u32 (x7 : Nat)) ∧ w'.cell? ⟨2, k, none⟩ = some (.int .u32 (kc : Nat)) ∧ Wr.grownBy w' (some M)) ∧ w'.heap[s]? = some (.cells #[.int .i64 6, .int .i64 11, .int .i64 25] 3 (0, 0)) ∧ WB w' M 71 ms) ?_ ?_
        rotate_left
        · intro hCont
          refine two_ (i := 2) (j := 6) (Ni := some 66) (Nj := some 70) #[true, true, true, false, false, true, false, false, false, true, true, true, true, true, true, true, true, false, true, true, true, false, true, false, false, false] #[true, true, false, false, false, true, true, false, false, true, true, true, true, true, true, true, true, false, true, true, true, false, true, false, false, false] rfl rfl rfl rfl (by kernel_rfl) (by decide) (by decide) (fun K hK => ?_) (fun K hK => ?_)
          · skip
            refine goesc_ Tryd.func42 (by kernel_rfl) rfl #[.int .i64 (k : Nat), .int .i64 7, .pointer (some ⟨V, 0, none⟩)] (by rfl) rfl rfl rfl (by first | rfl | (simp only [List.map_toArray, List.map_cons, List.map_nil]; rfl)) ?_
            with_reducible refine (R7.out _).mono ?_
            rintro e w7 ⟨rfl, rfl⟩
            refine ⟨_, rfl, ?_⟩
            refine hK.out _ _ ⟨hHeld.1, hHeld.2.1, hHeld.2.2⟩ (fun hHeld => ?_)
            clear hK K
            refine norm_ (a' := ?_) ?_ ?_
            rotate_left
            · show Act.put _ (some 66) _ = _
              simp only [Act.put, List.setIfInBounds_toArray, List.set_cons_zero, List.set_cons_succ, i64_w, i32_w]
              rfl
            refine pure_ (i := 3) (N := some 67) (v := ?_) (a' := ?_) #[true, true, true, true, false, true, false, false, false, true, true, true, true, true, true, true, true, false, true, true, true, false, true, false, false, false] rfl rfl (by kernel_rfl) (fun _ _ _ h => h) (Or.inl ⟨by rfl, ?_⟩) ?_ ?_
            rotate_left
            · intro w'
              go_simp
              with_reducible rfl
            rotate_left
            · simp only [Act.put, List.setIfInBounds_toArray, List.set_cons_zero, List.set_cons_succ, i64_w, i32_w]
              rfl
            refine take_ (i := 4) (N := some 68) (v := ?_) (a' := ?_) #[true, true, true, true, true, true, false, false, false, true, true, true, true, true, true, true, true, false, true, true, true, false, true, false, false, false] rfl rfl (by kernel_rfl) (fun _ _ _ h => h) (Or.inl ⟨by rfl, ?_⟩) hHeld ?_ ?_
            rotate_left
            · rintro w' ⟨s0, s1, s2⟩
              go_simp
              with_reducible rfl
            rotate_left
            · simp only [Act.put, List.setIfInBounds_toArray, List.set_cons_zero, List.set_cons_succ, i64_w, i32_w]
              rfl
            refine one_ (i := 6) (N := some 70) #[true, true, true, true, true, true, true, false, false, true, true, true, true, true, true, true, true, false, true, true, true, false, true, false, false, false] rfl rfl (by kernel_rfl) (by decide) (fun K hK => ?_)
            refine value_ (w1 := ?_) (v := ?_) (by rfl) rfl ?_ ?_
            rotate_left 2
            · go_simp
              constructor
              · rfl
              · rfl
            refine hK.out _ _ ⟨pw_cell_below (below_alloc (Below.refl _ _) _) hHeld.1, pw_cell_below (below_alloc (Below.refl _ _) _) hHeld.2.1, gb_trans hHeld.2.2 (gb_below (below_alloc (Below.refl _ _) _) none) (fun k e => by cases e)⟩ (fun hHeld => ?_)
            clear hK K
            refine norm_ (a' := ?_) ?_ ?_
            rotate_left
            · show Act.put _ (some 70) _ = _
              simp only [Act.put, List.setIfInBounds_toArray, List.set_cons_zero, List.set_cons_succ, i64_w, i32_w]
              rfl
            exact norm_ (by simp only [putAll, Act.put, List.setIfInBounds_toArray, List.set_cons_zero, List.set_cons_succ]) (hCont Wr.heap.size _ ⟨hHeld, (by first | exact blk_drew (blk_new_at _ _ _ (by first | rfl | simp only [World.size_alloc] | (simp only [World.size_alloc]; rfl))) | exact blk_drew (blk_alloc (blk_new_at _ _ _ (by first | rfl | simp only [World.size_alloc] | (simp only [World.size_alloc]; rfl))) _) | exact blk_new_at _ _ _ (by first | rfl | simp only [World.size_alloc] | (simp only [World.size_alloc]; rfl)) | exact blk_alloc (blk_new_at _ _ _ (by first | rfl | simp only [World.size_alloc] | (simp only [World.size_alloc]; rfl))) _), (by first | exact blk_drew (blk_alloc HMr.out _) | exact blk_alloc HMr.out _)⟩)
          · skip
            refine value_ (w1 := ?_) (v := ?_) (by rfl) rfl ?_ ?_
            rotate_left 2
            · go_simp
              constructor
              · rfl
              · rfl
            refine hK.out _ _ ⟨pw_cell_below (below_alloc (Below.refl _ _) _) hHeld.1, pw_cell_below (below_alloc (Below.refl _ _) _) hHeld.2.1, gb_trans hHeld.2.2 (gb_below (below_alloc (Below.refl _ _) _) none) (fun k e => by cases e)⟩ (fun hHeld => ?_)
            clear hK K
            refine norm_ (a' := ?_) ?_ ?_
            rotate_left
            · show Act.put _ (some 70) _ = _
              simp only [Act.put, List.setIfInBounds_toArray, List.set_cons_zero, List.set_cons_succ, i64_w, i32_w]
              rfl
            refine one_ (i := 2) (N := some 66) #[true, true, true, false, false, true, true, false, false, true, true, true, true, true, true, true, true, false, true, true, true, false, true, false, false, false] rfl rfl (by kernel_rfl) (by decide) (fun K hK => ?_)
            refine goesc_ Tryd.func42 (by kernel_rfl) rfl #[.int .i64 (k : Nat), .int .i64 7, .pointer (some ⟨V, 0, none⟩)] (by rfl) rfl rfl rfl (by first | rfl | (simp only [List.map_toArray, List.map_cons, List.map_nil]; rfl)) ?_
            with_reducible refine (R7.out _).mono ?_
            rintro e w7 ⟨rfl, rfl⟩
            refine ⟨_, rfl, ?_⟩
            refine hK.out _ _ ⟨hHeld.1, hHeld.2.1, hHeld.2.2⟩ (fun hHeld => ?_)
            clear hK K
            refine norm_ (a' := ?_) ?_ ?_
            rotate_left
            · show Act.put _ (some 66) _ = _
              simp only [Act.put, List.setIfInBounds_toArray, List.set_cons_zero, List.set_cons_succ, i64_w, i32_w]
              rfl
            refine pure_ (i := 3) (N := some 67) (v := ?_) (a' := ?_) #[true, true, true, true, false, true, true, false, false, true, true, true, true, true, true, true, true, false, true, true, true, false, true, false, false, false] rfl rfl (by kernel_rfl) (fun _ _ _ h => h) (Or.inl ⟨by rfl, ?_⟩) ?_ ?_
            rotate_left
            · intro w'
              go_simp
              with_reducible rfl
            rotate_left
            · simp only [Act.put, List.setIfInBounds_toArray, List.set_cons_zero, List.set_cons_succ, i64_w, i32_w]
              rfl
            refine take_ (i := 4) (N := some 68) (v := ?_) (a' := ?_) #[true, true, true, true, true, true, true, false, false, true, true, true, true, true, true, true, true, false, true, true, true, false, true, false, false, false] rfl rfl (by kernel_rfl) (fun _ _ _ h => h) (Or.inl ⟨by rfl, ?_⟩) hHeld ?_ ?_
            rotate_left
            · rintro w' ⟨s0, s1, s2⟩
              go_simp
              with_reducible rfl
            rotate_left
            · simp only [Act.put, List.setIfInBounds_toArray, List.set_cons_zero, List.set_cons_succ, i64_w, i32_w]
              rfl
            exact norm_ (by simp only [putAll, Act.put, List.setIfInBounds_toArray, List.set_cons_zero, List.set_cons_succ]) (hCont Wr.heap.size _ ⟨hHeld, (by first | exact blk_drew (blk_new_at _ _ _ (by first | rfl | simp only [World.size_alloc] | (simp only [World.size_alloc]; rfl))) | exact blk_drew (blk_alloc (blk_new_at _ _ _ (by first | rfl | simp only [World.size_alloc] | (simp only [World.size_alloc]; rfl))) _) | exact blk_new_at _ _ _ (by first | rfl | simp only [World.size_alloc] | (simp only [World.size_alloc]; rfl)) | exact blk_alloc (blk_new_at _ _ _ (by first | rfl | simp only [World.size_alloc] | (simp only [World.size_alloc]; rfl))) _), (by first | exact blk_drew (blk_alloc HMr.out _) | exact blk_alloc HMr.out _)⟩)
        rintro s7 w7 ⟨hHeld, hb7, hm7⟩
        refine norm_ (a' := ?_) ?_ ?_
        rotate_left
        · simp only [putAll, Act.put, List.setIfInBounds_toArray, List.set_cons_zero, List.set_cons_succ]
          rfl
        refine one_ (i := 7) (N := some 71) #[true, true, true, true, true, true, true, true, false, true, true, true, true, true, true, true, true, false, true, true, true, false, true, false, false, false] rfl rfl (by kernel_rfl) (by decide) (fun K hK => ?_)
        refine goes_ Tryd.func43 (by kernel_rfl) rfl #[.int .u32 (x4 : Nat), .slice (some ⟨s7, 0, none⟩) 3 3] (by rfl) rfl rfl (by first | rfl | (simp only [List.map_toArray, List.map_cons, List.map_nil]; rfl)) ?_
        with_reducible refine (T1.out _ _ hb7).mono ?_
        rintro e w7 ⟨rfl, rfl⟩
        refine ⟨_, rfl, ?_⟩
        refine hK.out _ _ ⟨hHeld.1, hHeld.2.1, hHeld.2.2⟩ (fun hHeld => ?_)
        clear hK K
        refine norm_ (a' := ?_) ?_ ?_
        rotate_left
        · show Act.put _ (some 71) _ = _
          simp only [Act.put, List.setIfInBounds_toArray, List.set_cons_zero, List.set_cons_succ, i64_w, i32_w]
          rfl
        refine pure_ (i := 8) (N := some 72) (v := ?_) (a' := ?_) #[true, true, true, true, true, true, true, true, true, true, true, true, true, true, true, true, true, false, true, true, true, false, true, false, false, false] rfl rfl (by kernel_rfl) (fun _ _ _ h => h) (Or.inl ⟨by rfl, ?_⟩) ?_ ?_
        rotate_left
        · intro w'
          go_simp
          with_reducible rfl
        rotate_left
        · simp only [Act.put, List.setIfInBounds_toArray, List.set_cons_zero, List.set_cons_succ, i64_w, i32_w]
          rfl
        refine pure_ (i := 17) (N := some 81) (v := ?_) (a' := ?_) #[true, true, true, true, true, true, true, true, true, true, true, true, true, true, true, true, true, true, true, true, true, false, true, false, false, false] rfl rfl (by kernel_rfl) (fun _ _ _ h => h) (Or.inl ⟨by rfl, ?_⟩) ?_ ?_
        rotate_left
        · intro w'
          go_simp
          with_reducible rfl
        rotate_left
        · simp only [Act.put, List.setIfInBounds_toArray, List.set_cons_zero, List.set_cons_succ, i64_w, i32_w]
          rfl
        refine pure_ (i := 21) (N := some 85) (v := ?_) (a' := ?_) #[true, true, true, true, true, true, true, true, true, true, true, true, true, true, true, true, true, true, true, true, true, true, true, false, false, false] rfl rfl (by kernel_rfl) (fun _ _ _ h => h) (Or.inl ⟨by rfl, ?_⟩) ?_ ?_
        rotate_left
        · intro w'
          go_simp
          with_reducible rfl
        rotate_left
        · simp only [Act.put, List.setIfInBounds_toArray, List.set_cons_zero, List.set_cons_succ, i64_w, i32_w]
          rfl
        refine one_ (i := 23) (N := some 87) #[true, true, true, true, true, true, true, true, true, true, true, true, true, true, true, true, true, true, true, true, true, true, true, true, false, false] rfl rfl (by kernel_rfl) (by decide) (fun K hK => ?_)
        refine goes_ Tryd.func44 (by kernel_rfl) rfl #[.pointer (some ⟨M, 0, none⟩), .int .i64 (k : Nat)] (by rfl) rfl rfl (by first | rfl | (simp only [List.map_toArray, List.map_cons, List.map_nil]; rfl)) ?_
        with_reducible refine (HAT.out _ hm7).mono ?_
        rintro e w8 ⟨rfl, hg8, hm8⟩
        refine ⟨_, rfl, ?_⟩
        refine hK.out _ _ ⟨gb_cell hg8 hHeld.1 hVM, gb_cell hg8 hHeld.2.1 hM2, gb_trans hHeld.2.2 hg8 (fun j e => .inl e)⟩ (fun hHeld => ?_)
        clear hK K
        refine norm_ (a' := ?_) ?_ ?_
        rotate_left
        · show Act.put _ (some 87) _ = _
          simp only [Act.put, List.setIfInBounds_toArray, List.set_cons_zero, List.set_cons_succ, i64_w, i32_w]
          rfl
        refine pure_ (i := 24) (N := some 88) (v := ?_) (a' := ?_) #[true, true, true, true, true, true, true, true, true, true, true, true, true, true, true, true, true, true, true, true, true, true, true, true, true, false] rfl rfl (by kernel_rfl) (fun _ _ _ h => h) (Or.inl ⟨by rfl, ?_⟩) ?_ ?_
        rotate_left
        · intro w'
          go_simp
          with_reducible rfl
        rotate_left
        · simp only [Act.put, List.setIfInBounds_toArray, List.set_cons_zero, List.set_cons_succ, i64_w, i32_w]
          rfl
        refine pure_ (i := 25) (N := some 16) (v := ?_) (a' := ?_) #[true, true, true, true, true, true, true, true, true, true, true, true, true, true, true, true, true, true, true, true, true, true, true, true, true, true] rfl rfl (by kernel_rfl) (fun _ _ _ h => h) (Or.inl ⟨by rfl, ?_⟩) ?_ ?_
        rotate_left
        · intro w'
          go_simp
          with_reducible rfl
        rotate_left
        · simp only [Act.put, List.setIfInBounds_toArray, List.set_cons_zero, List.set_cons_succ, i64_w, i32_w]
          rfl
        refine done_ (by kernel_rfl) ?_
        refine onlyN ?_
        have hE : IntKind.u32.wrap (IntKind.u32.wrap (IntKind.u32.wrap ((y1 : Int) + bits .xor .u32 (c1 : Int) (bits .and .u32 (bits .xor .u32 (if IntKind.u32.signed = true then -1 else IntKind.u32.max) (x4 : Int)) (x6 : Int))) + (kc : Int)) + (av : Int)) = (xx : Int) := by rw [show (if IntKind.u32.signed = true then (-1 : Int) else IntKind.u32.max) = IntKind.u32.max from rfl, f3, f4, f5, f6, f7, f8]
        rw [hE]
        clear hE
        have HG8 := Aside0.mk hHeld.2.2
        have HM8 := Aside0.mk hm8
        have HV8 := Aside0.mk (show WB w8 V 57 vs from gb_blk HG8.out HVr.out hVM)
        have hkk2 := (HV8.out.at r7 (by rw [hvl]; exact hr7l))
        clear f1 f2 f3 f4 f5 f6 f7 f8 hHeld hb7 hm7 hm8 hg8 p7 pc
        have p3 := HV8.out.at r3 (by rw [hvl]; exact hr3l)
        rw [← E3.out] at p3
        go_wp2_with (first | (go_at_call 42; with_reducible refine (R3.out _).mono ?_; rintro e w9 ⟨rfl, rfl⟩))
        have HV9 := Aside0.mk (HV8.out.put r3 ss)
        have HG9 := Aside0.mk (gb_set w9 V r3 (.int .u32 (ss : Nat)))
        obtain ⟨wA, hwA⟩ : ∃ x, x = w9.setCell ⟨V, r3, none⟩ (.int .u32 (ss : Nat)) := ⟨_, rfl⟩
        rw [← hwA] at HV9 HG9 ⊢
        clear hwA
        have HVx := Aside0.mk (show WB (wA.alloc (.cells #[.int .i64 2, .int .i64 13, .int .i64 22] 3)) V 57 (vs.set r3 ss) from blk_alloc HV9.out _)
        have hx7 := HVx.out.at r7 (by rw [List.length_set, hvl]; exact hr7l)
        obtain ⟨f1, f2, f3, f4, f5, f6, f7⟩ := HF2.out
        clear p3 hkk2
        refine (R7.out _).mono ?_
        rintro e w10 ⟨rfl, rfl⟩
        go_wp2_with (first | (go_at_call 43; with_reducible refine (T2.out _ _ (blk_new_at2 _ _ _ (by simp))).mono ?_; rintro e w11 ⟨rfl, rfl⟩))
        go_roundw
        case rel =>
          have hMV2 : M ≠ V := Nat.ne_of_lt hMV
          have hM9 := HM8.out
          have s1 := Nat.le_of_lt (blk_lt HMr.out)
          have s2 := Nat.le_of_lt (blk_lt hM9)
          have B1 := HBr.out.trans (gb_to HG8.out s1 (fun j e => by cases e; exact Nat.le_refl _))
          have B2 := B1.trans (gb_to HG9.out s2 (fun j e => by cases e; exact Nat.le_of_lt hMV))
          have s3 := Nat.le_trans s2 HG9.out.size
          refine ⟨k + 1, by omega, by go_num, ⟨?_⟩, ⟨?_⟩, ⟨?_⟩, ⟨?_⟩⟩
          · rw [HN.out]
            show WB _ _ _ (stepV vs ms k)
            rw [HX.out]
            exact HVx.out.put r7 hh
          · rw [HN.out]
            exact blk_far (blk_alloc (gb_blk HG9.out hM9 (by intro e; cases e; exact hMV2 rfl)) _) hMV2 _
          · exact (B2.alloc s3 _).setCell (p := ⟨V, r7, none⟩) (Nat.le_of_lt hMV) _
          · exact (Below.heap_setCell _ ⟨V, r7, none⟩ _ D (Nat.ne_of_lt hDV)).trans (blk_alloc (gb_blk HG9.out (gb_blk HG8.out HKr.out (by intro e; cases e; exact hDM (by omega))) (by intro e; cases e; omega)) _)
        case measure => simp [intOf]; omega
      · obtain rfl : k = 64 := by omega
        obtain ⟨vv, hvv⟩ : ∃ v, v = (sts now (msg bs) 64).1 := ⟨_, rfl⟩
        have hvl : vv.length = 8 := by rw [hvv, (sts_len _ _ _).1, hn]
        rw [← hvv] at HV
        have HVV := Aside0.mk hvv
        have hSb := Aside0.mk ((HB.out.block b hb2).trans HS.out)
        clear hvv
        have q0 := (blk_cell HV.out 0).trans (vals_at vv 0 (by omega))
        have q1 := (blk_cell HV.out 1).trans (vals_at vv 1 (by omega))
        have q2 := (blk_cell HV.out 2).trans (vals_at vv 2 (by omega))
        have q3 := (blk_cell HV.out 3).trans (vals_at vv 3 (by omega))
        have q4 := (blk_cell HV.out 4).trans (vals_at vv 4 (by omega))
        have q5 := (blk_cell HV.out 5).trans (vals_at vv 5 (by omega))
        have q6 := (blk_cell HV.out 6).trans (vals_at vv 6 (by omega))
        have q7 := (blk_cell HV.out 7).trans (vals_at vv 7 (by omega))
        simp only [show ((64 : Nat) : Int) = 64 from rfl]
        go_wp2_with fail
        rw [vals8 vv hvl]
        clear q0 q1 q2 q3 q4 q5 q6 q7
        go_loopw [120] (fun i wz => ∃ j : Nat, j ≤ 8 ∧ i = .int .i64 j ∧ Aside0 (wz.heap[b]? = some (.cells (vals (addN now vv j) ++ #[op, by_]) 59 (0, 0))) ∧ Aside0 (wr.grownBy wz (some b))) (fun i _ => 8 - (intOf i).toNat)
        case atStart => exact ⟨0, by decide, rfl, hSb, ⟨gb_below (Below.refl _ _) _⟩⟩
        case round =>
          obtain ⟨j, hj, rfl, HSj, HGj⟩ := hrel
          by_cases hlj : j < 8
          · have hjj : (j : Int) < 8 := by omega
            have hvj := vals_at vv j (by omega)
            have hix := index8 vv hvl j hlj
            have C1 := (blk_cell HSj.out j).trans (vals_app _ #[op, by_] j (by rw [addN_len, hn]; exact hlj))
            have C2 := blk_frozen HSj.out j
            obtain ⟨xa, hxa⟩ : ∃ x, x = mr (addN now vv j) j := ⟨_, rfl⟩
            obtain ⟨xb, hxb⟩ : ∃ x, x = mr vv j := ⟨_, rfl⟩
            rw [← hxb] at hvj hix
            rw [← hxa] at C1
            have HA := wadd xa xb
            have HAN := Aside0.mk (show addN now vv (j + 1) = (addN now vv j).set j ((xa + xb) % 4294967296) by rw [hxa, hxb]; rfl)
            clear hxa hxb
            go_wp2_with fail
            refine wp_only ?_
            refine start_ (n := 12) (S := fun w' => w'.cell? ⟨b, j, none⟩ = some (.int .u32 (xa : Nat)) ∧ w'.frozen? ⟨b, j, none⟩ = false) (ds := [11]) #[false, false, false, false, false, false, false, false, false, false, false, false] (by kernel_rfl) rfl rfl ⟨C1, C2⟩ (fun hHeld => ?_)
            refine pure_ (i := 0) (N := some 124) (v := ?_) (a' := ?_) #[true, false, false, false, false, false, false, false, false, false, false, false] rfl rfl (by kernel_rfl) (fun _ _ _ h => h) (Or.inl ⟨by rfl, ?_⟩) ?_ ?_
            rotate_left
            · intro w'
              go_simp
              with_reducible rfl
            rotate_left
            · simp only [Act.put, List.setIfInBounds_toArray, List.set_cons_zero, List.set_cons_succ, i64_w, i32_w]
              rfl
            refine pure_ (i := 1) (N := some 125) (v := ?_) (a' := ?_) #[true, true, false, false, false, false, false, false, false, false, false, false] rfl rfl (by kernel_rfl) (fun _ _ _ h => h) (Or.inl ⟨by rfl, ?_⟩) ?_ ?_
            rotate_left
            · intro w'
              go_simp
              with_reducible rfl
            rotate_left
            · simp only [Act.put, List.setIfInBounds_toArray, List.set_cons_zero, List.set_cons_succ, i64_w, i32_w]
              rfl
            refine pure_ (i := 2) (N := some 126) (v := ?_) (a' := ?_) #[true, true, true, false, false, false, false, false, false, false, false, false] rfl rfl (by kernel_rfl) (fun _ _ _ h => h) (Or.inl ⟨by rfl, ?_⟩) ?_ ?_
            rotate_left
            · intro w'
              go_simp
              with_reducible rfl
            rotate_left
            · simp only [Act.put, List.setIfInBounds_toArray, List.set_cons_zero, List.set_cons_succ, i64_w, i32_w]
              rfl
            refine pure_ (i := 3) (N := some 127) (v := ?_) (a' := ?_) #[true, true, true, true, false, false, false, false, false, false, false, false] rfl rfl (by kernel_rfl) (fun _ _ _ h => h) (Or.inl ⟨by rfl, ?_⟩) ?_ ?_
            rotate_left
            · intro w'
              go_simp
              with_reducible rfl
            rotate_left
            · simp only [Act.put, List.setIfInBounds_toArray, List.set_cons_zero, List.set_cons_succ, i64_w, i32_w]
              rfl
            refine pure_ (i := 4) (N := some 128) (v := ?_) (a' := ?_) #[true, true, true, true, true, false, false, false, false, false, false, false] rfl rfl (by kernel_rfl) (fun _ _ _ h => h) (Or.inl ⟨by rfl, ?_⟩) ?_ ?_
            rotate_left
            · intro w'
              go_simp
              with_reducible rfl
            rotate_left
            · simp only [Act.put, List.setIfInBounds_toArray, List.set_cons_zero, List.set_cons_succ, i64_w, i32_w]
              rfl
            refine pure_ (i := 6) (N := some 130) (v := ?_) (a' := ?_) #[true, true, true, true, true, false, true, false, false, false, false, false] rfl rfl (by kernel_rfl) (fun _ _ _ h => h) (Or.inl ⟨by rfl, ?_⟩) ?_ ?_
            rotate_left
            · intro w'
              go_simp
              with_reducible rfl
            rotate_left
            · simp only [Act.put, List.setIfInBounds_toArray, List.set_cons_zero, List.set_cons_succ, i64_w, i32_w]
              rfl
            refine pure_ (i := 8) (N := some 132) (v := ?_) (a' := ?_) #[true, true, true, true, true, false, true, false, true, false, false, false] rfl rfl (by kernel_rfl) (fun _ _ _ h => h) (Or.inl ⟨by rfl, ?_⟩) ?_ ?_
            rotate_left
            · intro w'
              go_simp
              with_reducible rfl
            rotate_left
            · simp only [Act.put, List.setIfInBounds_toArray, List.set_cons_zero, List.set_cons_succ, i64_w, i32_w]
              rfl
            refine pure_ (i := 9) (N := some 133) (v := ?_) (a' := ?_) #[true, true, true, true, true, false, true, false, true, true, false, false] rfl rfl (by kernel_rfl) (fun _ _ _ h => h) (Or.inl ⟨by rfl, ?_⟩) ?_ ?_
            rotate_left
            · intro w'
              go_simp
              with_reducible rfl
            rotate_left
            · simp only [Act.put, List.setIfInBounds_toArray, List.set_cons_zero, List.set_cons_succ, i64_w, i32_w]
              rfl
            refine take_ (i := 5) (N := some 129) (v := ?_) (a' := ?_) #[true, true, true, true, true, true, true, false, true, true, false, false] rfl rfl (by kernel_rfl) (fun _ _ _ h => h) (Or.inl ⟨by rfl, ?_⟩) hHeld ?_ ?_
            rotate_left
            · rintro w' ⟨s0, s1⟩
              go_simp
              with_reducible rfl
            rotate_left
            · simp only [Act.put, List.setIfInBounds_toArray, List.set_cons_zero, List.set_cons_succ, i64_w, i32_w]
              rfl
            refine pure_ (i := 7) (N := some 131) (v := ?_) (a' := ?_) #[true, true, true, true, true, true, true, true, true, true, false, false] rfl rfl (by kernel_rfl) (fun _ _ _ h => h) (Or.inl ⟨by rfl, ?_⟩) ?_ ?_
            rotate_left
            · intro w'
              go_simp
              with_reducible rfl
            rotate_left
            · simp only [Act.put, List.setIfInBounds_toArray, List.set_cons_zero, List.set_cons_succ, i64_w, i32_w]
              rfl
            refine pure_ (i := 10) (N := some 134) (v := ?_) (a' := ?_) #[true, true, true, true, true, true, true, true, true, true, true, false] rfl rfl (by kernel_rfl) (fun _ _ _ h => h) (Or.inl ⟨by rfl, ?_⟩) ?_ ?_
            rotate_left
            · intro w'
              go_simp
              with_reducible rfl
            rotate_left
            · simp only [Act.put, List.setIfInBounds_toArray, List.set_cons_zero, List.set_cons_succ, i64_w, i32_w]
              rfl
            refine last_ (i := 11) (N := none) #[true, true, true, true, true, true, true, true, true, true, true, true] rfl rfl (by kernel_rfl) (by decide) (fun K hK => ?_)
            refine skip_ (w1 := ?_) (by rfl) rfl ?_ ?_
            rotate_left
            · go_simp
              rfl
            refine hK.out _ _ ?_
            clear hK K
            refine done_ (by kernel_rfl) ?_
            refine onlyN ?_
            go_wp2_with fail
            go_roundw
            case rel =>
              refine ⟨j + 1, by omega, by go_num, ⟨?_⟩, ⟨?_⟩⟩
              · rw [HAN.out]
                exact vals_put HSj.out (by rw [addN_len, hn]; exact hlj)
              · exact gb_trans HGj.out (gb_trans (gb_below (below_drew1 (Below.refl _ _)) _) (gb_set _ b j _) (fun i e => .inl e)) (fun i e => .inl e)
            case measure => simp [intOf]; omega
          · obtain rfl : j = 8 := by omega
            have hKz := gb_blk HGj.out HK.out (by intro e; cases e; omega)
            have hSz := HSj.out
            have hG1 := gb_trans (gb_below (HME.out ▸ HB.out) (some b)) HGj.out (fun i e => .inl e)
            have HW1 := Aside0.mk hKz
            have HW2 := Aside0.mk hSz
            have HW3 := Aside0.mk hG1
            clear hKz hSz hG1
            go_wp2_with fail
            refine ⟨by simp, .inl ⟨_, _, rfl, run_takeDeferred HW1.out, ?_⟩⟩
            refine ⟨_, results_none rfl _ _ _, ⟨_, rfl⟩, gb_trans HW3.out (grownBy_putObj' _ D _) (fun i e => by cases e; exact .inr (HME.out ▸ hDM2)), ?_⟩
            rw [HVV.out] at HW2
            exact (World.putObj_heap_other (by omega)).trans HW2.out
end Go.Proofs.YtjmgeelblodcgaaDoor.Sx
