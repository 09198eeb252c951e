import Derived.Test.YtkginabioolmiaaGpB
/- A tracker: Has, advance, Take. -/
namespace Go.Proofs.Ytkginabioolmiaa.Gp
open Go.RowKit Go.Shelf Go.Proofs.YtkginabioolmiaaW.PrintWords Go.Proofs.YtkginabioolmiaaW.PrintLast Go.Proofs.YtkginabioolmiaaW.PrintMore Go.Proofs.Ytkginabioolmiaa.Sh
set_option linter.unusedVariables false
set_option linter.unusedSimpArgs false
/-- Has it come? -/
def hasB (c : Int) (xs : List Int) (x : Int) : Bool := decide (x ∈ xs) || !(ahead c x)
set_option maxRecDepth 100000 in
set_option maxHeartbeats 1000000 in
theorem has_calls {w : World} {p B : Nat} {c : Int} {v u : Value} {xs ds : List Int} (h : TrAt w B p c v xs u ds) (hs : Srt c xs) (hl : xs.length ≤ 1000) (hc : U32 c) (hu : ∀ y ∈ xs, U32 y) (x : Int) (hx : U32 x) :
    Calls Try.prog 12 #[.pointer (some ⟨p, 0, none⟩), .int .u32 x] w (fun e w' => e = .returned (.bool (hasB c xs x)) ∧ Below w.heap.size w w') := by
  have HP := Aside0.mk (place_calls h hs hl hu x hx)
  have HT := Aside0.mk h
  have HX := Aside0.mk (And.intro hc hx)
  by_cases hm : x ∈ xs
  · have hd : decide (x ∈ xs) = true := decide_eq_true hm
    have HB := Aside0.mk (show hasB c xs x = true by unfold hasB; rw [hd]; rfl)
    rw [hd] at HP
    clear h hs hu hx hm hd hc
    go_enter Try.func12, Try.ntmps12
    go_wp2_with (first | (go_at_call 45; refine HP.out.mono ?_; rintro e w1 ⟨i, hP, rfl, hb⟩; have HB1 := Aside0.mk hb; clear hb hP))
    go_ret
    exact ⟨by rw [HB.out]; rfl, HB1.out⟩
  · have hd : decide (x ∈ xs) = false := decide_eq_false hm
    have HB := Aside0.mk (show hasB c xs x = !(ahead c x) by unfold hasB; rw [hd]; rfl)
    rw [hd] at HP
    clear h hs hu hx hm hd hc
    go_enter Try.func12, Try.ntmps12
    go_wp2_with (first | (go_at_call 45; refine HP.out.mono ?_; rintro e w1 ⟨i, hP, rfl, hb⟩; have HB1 := Aside0.mk hb; have hc1 : w1.cell? ⟨p, 0, none⟩ = some (.int .u32 c) := (blk_cell (HT.out.below hb).2.1 0).trans rfl; clear hb hP) | (go_at_call 48; refine (ahead_calls _ HX.out.1 HX.out.2).mono ?_; rintro e w2 ⟨rfl, n, rfl⟩))
    go_ret
    exact ⟨by rw [HB.out]; rfl, b2 HB1.out n⟩
/-! ### advance -/
def adv : Int → List Int → Int × List Int
  | c, [] => (c, [])
  | c, x :: r => if x = (c + 1) % 4294967296 then adv x r else (c, x :: r)
theorem adv_pos {c y : Int} {r : List Int} (h : y = (c + 1) % 4294967296) : adv c (y :: r) = adv y r := by
  rw [adv, if_pos h]
theorem adv_neg {c y : Int} {r : List Int} (h : ¬ y = (c + 1) % 4294967296) : adv c (y :: r) = (c, y :: r) := by
  rw [adv, if_neg h]
theorem step_calls (a : Int) (n : Nat) (hn : n < 4294967296) (W : World) : Calls Try.prog 107 #[.int .u32 a, .int .i64 n] W fun e w' => e = .returned (.int .u32 ((a + n) % 4294967296)) ∧ w' = W := by
  have hf : ∀ x, IntKind.u32.wrap x = x % 4294967296 := fun x => rfl
  have hm : (n : Int) % 4294967296 = (n : Int) := by omega
  go_enter Try.func107, Try.ntmps107
  go_wp2
  go_ret
  exact ⟨rfl, rfl⟩
theorem gb_drewN (w : World) (n : Nat) (r : Option Nat) : w.grownBy (w.drewN n) r := ⟨rfl, rfl, rfl, Nat.le_refl _, fun _ _ _ => rfl⟩
theorem gb_trans_drew {w w1 : World} {r : Option Nat} (h : w.grownBy w1 r) : w.grownBy w1.drew r := h.trans (gb_drew w1 r)
theorem uq_drop1 {w : World} {B : Nat} {A : Option Addr} {n c : Nat} {x : Int} {xs : List Int} (h : UQ w B (.slice A n c) (x :: xs)) : UQ w B (.slice (if c = 1 then A else A.map (·.add 1)) (n - 1) (c - 1)) xs := by
  have := Kd.Q_drop h (k := 1) (by simp)
  rw [show (Kd.int .u32).sz = 1 from rfl, Nat.mul_one] at this
  exact this
theorem TrAt.ne {w : World} {B p : Nat} {c : Int} {v u : Value} {xs ds : List Int} (h : TrAt w B p c v xs u ds) : (∀ k, v.ownBlock = some k → k ≠ p) ∧ (∀ k, u.ownBlock = some k → k ≠ p) :=
  ⟨fun k hk e => Kd.Q_ne h.2.2.1 h.2.1 (by decide) (by rw [← e]; exact hk.symm), fun k hk e => Kd.Q_ne h.2.2.2.1 h.2.1 (by decide) (by rw [← e]; exact hk.symm)⟩
theorem gb_setCell (w : World) (p : Nat) (k : Nat) (x : Value) : w.grownBy (w.setCell ⟨p, k, none⟩ x) (some p) :=
  ⟨rfl, rfl, rfl, by simp, fun i _ hi => Below.heap_setCell w ⟨p, k, none⟩ x i (fun e => hi (by rw [e]))⟩
/-- One step on. -/
theorem TrAt.adv1 {w : World} {B p : Nat} {c : Int} {v u : Value} {y : Int} {r ds : List Int} (h : TrAt w B p c v (y :: r) u ds) (v1 : Value) (hv1 : UQ w B v1 r) (hk : ∀ k, v1.ownBlock = some k → v.ownBlock = some k) :
    TrAt ((w.setCell ⟨p, 0, none⟩ (.int .u32 y)).setCell ⟨p, 1, none⟩ v1) B p y v1 r u ds ∧ w.grownBy ((w.setCell ⟨p, 0, none⟩ (.int .u32 y)).setCell ⟨p, 1, none⟩ v1) (some p) := by
  have hg := (gb_setCell w p 0 (.int .u32 y)).trans (gb_setCell (w.setCell ⟨p, 0, none⟩ (.int .u32 y)) p 1 v1)
  have hb1 := blk_put h.2.1 0 (.int .u32 y) (cs' := #[.int .u32 y, v, u]) rfl
  have hb2 := blk_put hb1 1 v1 (cs' := #[.int .u32 y, v1, u]) rfl
  refine ⟨⟨h.1, hb2, uq_move hv1 (fun k hk' => hg.block k (Kd.Q_lt hv1 k hk') (fun e => h.ne.1 k (hk k hk') (by injection e))), uq_move h.2.2.2.1 (fun k hk' => hg.block k (Kd.Q_lt h.2.2.2.1 k hk') (fun e => h.ne.2 k hk' (by injection e))), fun k hk' => h.2.2.2.2 k (hk k hk')⟩, hg⟩
set_option maxRecDepth 100000 in
set_option maxHeartbeats 2000000 in
theorem advance_calls {w : World} {p B : Nat} {c : Int} {v u : Value} {xs ds : List Int} (h : TrAt w B p c v xs u ds) (hl : xs.length ≤ 1000) :
    Calls Try.prog 47 #[.pointer (some ⟨p, 0, none⟩)] w (fun e w' => (∃ r, e = .returned r) ∧ ∃ v', TrAt w' B p (adv c xs).1 v' (adv c xs).2 u ds ∧ (∀ k, v'.ownBlock = some k → v.ownBlock = some k) ∧ w.grownBy w' (some p)) := by
  have H := Aside0.mk h
  clear h
  go_enter Try.func47, Try.ntmps47
  go_wp2_with fail
  go_loopg [] xs.length (fun kq wr => ∃ (c1 : Int) (ys : List Int) (v1 : Value), Aside0 (kq = ys.length ∧ adv c xs = adv c1 ys ∧ TrAt wr B p c1 v1 ys u ds ∧ (∀ k, v1.ownBlock = some k → v.ownBlock = some k) ∧ w.grownBy wr (some p)))
  case atStart => exact ⟨c, xs, v, ⟨rfl, rfl, H.out, fun k hk => hk, ⟨rfl, rfl, rfl, Nat.le_refl _, fun _ _ _ => rfl⟩⟩⟩
  case round =>
    obtain ⟨c1, ys, v1, HI⟩ := hrel
    have HC := Aside0.mk (fun W => step_calls c1 1 (by decide) W)
    cases ys with
    | nil =>
      obtain ⟨A, cc, rfl, _, _⟩ := uq_slice HI.out.2.2.1.2.2.1
      have h0 : wr.cell? ⟨p, 0, none⟩ = some (.int .u32 c1) := (blk_cell HI.out.2.2.1.2.1 0).trans rfl
      have h1 : wr.cell? ⟨p, 1, none⟩ = some (.slice A 0 cc) := (blk_cell HI.out.2.2.1.2.1 1).trans rfl
      go_wp2_with fail
      go_quiet ((go_at_call 107; exact Calls.quiet_of_same (HC.out _)))
      go_wp2
      go_end0
      exact ⟨⟨_, rfl⟩, .slice A 0 cc, by rw [HI.out.2.1]; exact HI.out.2.2.1.drewN _, HI.out.2.2.2.1, HI.out.2.2.2.2.trans (gb_drewN _ _ _)⟩
    | cons y r =>
      obtain ⟨g, cc, P, S, rfl, hBg, hh, hcc, hm⟩ := uq_form HI.out.2.2.1.2.2.1 (by simp)
      obtain ⟨o, ho⟩ : ∃ o, o = P.length := ⟨_, rfl⟩
      have hce : wr.cell? ⟨g, o, none⟩ = some (.int .u32 y) := by
        refine (blk_cell hh o).trans ?_
        have := get_mid (P := P) (T := S) (a := []) (c := y :: r) (j := 0) (v := .int .u32 y) rfl
        rw [ho, List.getElem?_toArray]
        exact this
      rw [← ho] at HI
      have hcc2 : r.length + 1 ≤ cc := by simp at hcc; omega
      have hcc3 : cc ≤ maxLen := by omega
      unfold maxLen at hcc3
      clear hh hBg hm hcc ho
      have h0 : wr.cell? ⟨p, 0, none⟩ = some (.int .u32 c1) := (blk_cell HI.out.2.2.1.2.1 0).trans rfl
      have h1 : wr.cell? ⟨p, 1, none⟩ = some (.slice (some ⟨g, o, none⟩) (y :: r).length cc) := (blk_cell HI.out.2.2.1.2.1 1).trans rfl
      have f0 : wr.frozen? ⟨p, 0, none⟩ = false := blk_frozen HI.out.2.2.1.2.1 0
      have f1 : wr.frozen? ⟨p, 1, none⟩ = false := blk_frozen HI.out.2.2.1.2.1 1
      rw [List.length_cons] at h1
      by_cases hy : y = (c1 + 1) % 4294967296
      · have hq : (y == (c1 + 1) % 4294967296) = true := by simp [hy]
        have HY := Aside0.mk hy
        clear hy
        go_wp2_with fail
        go_quiet ((go_at_call 107; exact Calls.quiet_of_same (HC.out _)))
        go_wp2
        have hr1 : ¬ ((r.length : Int) + 1 < 1) := by omega
        have hr2 : (1 : Int) ≤ (r.length : Int) + 1 := by omega
        have hr3 : 1 ≤ r.length + 1 := by omega
        have HL := Aside0.mk (show gk = r.length + 1 by have := HI.out.1; simpa using this)
        by_cases hc1 : cc = 1
        · subst hc1
          have HV := Aside0.mk (uq_drop1 HI.out.2.2.1.2.2.1)
          refine start_ (n := 19) (S := fun w' => w'.cell? ⟨p, 0, none⟩ = some (.int .u32 c1) ∧ w'.cell? ⟨p, 1, none⟩ = some (.slice (some ⟨g, o, none⟩) (r.length + 1) 1) ∧ w'.cell? ⟨g, o, none⟩ = some (.int .u32 y)) (ds := [15, 18]) #[false, false, false, false, false, false, false, false, false, false, false, false, false, false, false, false, false, false, false] (by kernel_rfl) rfl rfl ⟨h0, h1, hce⟩ (fun hHeld => ?_)
          refine pure_ (i := 0) (N := some 22) (v := ?_) (a' := ?_) #[true, false, false, false, false, false, false, false, false, false, false, false, false, false, false, false, false, false, false] rfl rfl (by kernel_rfl) (fun _ _ _ h => h) (Or.inl ⟨by rfl, ?_⟩) ?_ ?_
          rotate_left
          · intro w'
            go_simp
            with_reducible rfl
          rotate_left
          · simp only [Act.put, List.setIfInBounds_toArray, List.set_cons_zero, List.set_cons_succ, i64_w, i32_w]
            rfl
          refine pure_ (i := 1) (N := some 23) (v := ?_) (a' := ?_) #[true, true, false, false, false, false, false, false, false, false, false, false, false, false, false, false, false, false, false] rfl rfl (by kernel_rfl) (fun _ _ _ h => h) (Or.inl ⟨by rfl, ?_⟩) ?_ ?_
          rotate_left
          · intro w'
            go_simp
            with_reducible rfl
          rotate_left
          · simp only [Act.put, List.setIfInBounds_toArray, List.set_cons_zero, List.set_cons_succ, i64_w, i32_w]
            rfl
          refine pure_ (i := 2) (N := some 24) (v := ?_) (a' := ?_) #[true, true, true, false, false, false, false, false, false, false, false, false, false, false, false, false, false, false, false] rfl rfl (by kernel_rfl) (fun _ _ _ h => h) (Or.inl ⟨by rfl, ?_⟩) ?_ ?_
          rotate_left
          · intro w'
            go_simp
            with_reducible rfl
          rotate_left
          · simp only [Act.put, List.setIfInBounds_toArray, List.set_cons_zero, List.set_cons_succ, i64_w, i32_w]
            rfl
          refine pure_ (i := 3) (N := some 25) (v := ?_) (a' := ?_) #[true, true, true, true, false, false, false, false, false, false, false, false, false, false, false, false, false, false, false] rfl rfl (by kernel_rfl) (fun _ _ _ h => h) (Or.inl ⟨by rfl, ?_⟩) ?_ ?_
          rotate_left
          · intro w'
            go_simp
            with_reducible rfl
          rotate_left
          · simp only [Act.put, List.setIfInBounds_toArray, List.set_cons_zero, List.set_cons_succ, i64_w, i32_w]
            rfl
          refine pure_ (i := 4) (N := some 26) (v := ?_) (a' := ?_) #[true, true, true, true, true, false, false, false, false, false, false, false, false, false, false, false, false, false, false] rfl rfl (by kernel_rfl) (fun _ _ _ h => h) (Or.inl ⟨by rfl, ?_⟩) ?_ ?_
          rotate_left
          · intro w'
            go_simp
            with_reducible rfl
          rotate_left
          · simp only [Act.put, List.setIfInBounds_toArray, List.set_cons_zero, List.set_cons_succ, i64_w, i32_w]
            rfl
          refine pure_ (i := 8) (N := some 30) (v := ?_) (a' := ?_) #[true, true, true, true, true, false, false, false, true, false, false, false, false, false, false, false, false, false, false] rfl rfl (by kernel_rfl) (fun _ _ _ h => h) (Or.inl ⟨by rfl, ?_⟩) ?_ ?_
          rotate_left
          · intro w'
            go_simp
            with_reducible rfl
          rotate_left
          · simp only [Act.put, List.setIfInBounds_toArray, List.set_cons_zero, List.set_cons_succ, i64_w, i32_w]
            rfl
          refine pure_ (i := 9) (N := some 31) (v := ?_) (a' := ?_) #[true, true, true, true, true, false, false, false, true, true, false, false, false, false, false, false, false, false, false] rfl rfl (by kernel_rfl) (fun _ _ _ h => h) (Or.inl ⟨by rfl, ?_⟩) ?_ ?_
          rotate_left
          · intro w'
            go_simp
            with_reducible rfl
          rotate_left
          · simp only [Act.put, List.setIfInBounds_toArray, List.set_cons_zero, List.set_cons_succ, i64_w, i32_w]
            rfl
          refine pure_ (i := 10) (N := some 32) (v := ?_) (a' := ?_) #[true, true, true, true, true, false, false, false, true, true, true, false, false, false, false, false, false, false, false] rfl rfl (by kernel_rfl) (fun _ _ _ h => h) (Or.inl ⟨by rfl, ?_⟩) ?_ ?_
          rotate_left
          · intro w'
            go_simp
            with_reducible rfl
          rotate_left
          · simp only [Act.put, List.setIfInBounds_toArray, List.set_cons_zero, List.set_cons_succ, i64_w, i32_w]
            rfl
          refine take_ (i := 5) (N := some 27) (v := ?_) (a' := ?_) #[true, true, true, true, true, true, false, false, true, true, true, false, false, false, false, false, false, false, false] rfl rfl (by kernel_rfl) (fun _ _ _ h => h) (Or.inl ⟨by rfl, ?_⟩) hHeld ?_ ?_
          rotate_left
          · rintro w' ⟨s0, s1, s2⟩
            go_simp
            with_reducible rfl
          rotate_left
          · simp only [Act.put, List.setIfInBounds_toArray, List.set_cons_zero, List.set_cons_succ, i64_w, i32_w]
            rfl
          refine pure_ (i := 6) (N := some 28) (v := ?_) (a' := ?_) #[true, true, true, true, true, true, true, false, true, true, true, false, false, false, false, false, false, false, false] rfl rfl (by kernel_rfl) (fun _ _ _ h => h) (Or.inl ⟨by rfl, ?_⟩) ?_ ?_
          rotate_left
          · intro w'
            go_simp
            with_reducible rfl
          rotate_left
          · simp only [Act.put, List.setIfInBounds_toArray, List.set_cons_zero, List.set_cons_succ, i64_w, i32_w]
            rfl
          refine take_ (i := 7) (N := some 29) (v := ?_) (a' := ?_) #[true, true, true, true, true, true, true, true, true, true, true, false, false, false, false, false, false, false, false] rfl rfl (by kernel_rfl) (fun _ _ _ h => h) (Or.inl ⟨by rfl, ?_⟩) hHeld ?_ ?_
          rotate_left
          · rintro w' ⟨s0, s1, s2⟩
            go_simp
            with_reducible rfl
          rotate_left
          · simp only [Act.put, List.setIfInBounds_toArray, List.set_cons_zero, List.set_cons_succ, i64_w, i32_w]
            rfl
          refine take_ (i := 11) (N := some 33) (v := ?_) (a' := ?_) #[true, true, true, true, true, true, true, true, true, true, true, true, false, false, false, false, false, false, false] rfl rfl (by kernel_rfl) (fun _ _ _ h => h) (Or.inl ⟨by rfl, ?_⟩) hHeld ?_ ?_
          rotate_left
          · rintro w' ⟨s0, s1, s2⟩
            go_simp
            with_reducible rfl
          rotate_left
          · simp only [Act.put, List.setIfInBounds_toArray, List.set_cons_zero, List.set_cons_succ, i64_w, i32_w]
            rfl
          refine pure_ (i := 12) (N := some 34) (v := ?_) (a' := ?_) #[true, true, true, true, true, true, true, true, true, true, true, true, true, false, false, false, false, false, false] rfl rfl (by kernel_rfl) (fun _ _ _ h => h) (Or.inl ⟨by rfl, ?_⟩) ?_ ?_
          rotate_left
          · intro w'
            go_simp
            with_reducible rfl
          rotate_left
          · simp only [Act.put, List.setIfInBounds_toArray, List.set_cons_zero, List.set_cons_succ, i64_w, i32_w]
            rfl
          refine pure_ (i := 13) (N := some 35) (v := ?_) (a' := ?_) #[true, true, true, true, true, true, true, true, true, true, true, true, true, true, false, false, false, false, false] rfl rfl (by kernel_rfl) (fun _ _ _ h => h) (Or.inl ⟨by rfl, ?_⟩) ?_ ?_
          rotate_left
          · intro w'
            go_simp
            with_reducible rfl
          rotate_left
          · simp only [Act.put, List.setIfInBounds_toArray, List.set_cons_zero, List.set_cons_succ, i64_w, i32_w]
            rfl
          refine pure_ (i := 14) (N := some 36) (v := ?_) (a' := ?_) #[true, true, true, true, true, true, true, true, true, true, true, true, true, true, true, false, false, false, false] rfl rfl (by kernel_rfl) (fun _ _ _ h => h) (Or.inl ⟨by rfl, ?_⟩) ?_ ?_
          rotate_left
          · intro w'
            go_simp
            with_reducible rfl
          rotate_left
          · simp only [Act.put, List.setIfInBounds_toArray, List.set_cons_zero, List.set_cons_succ, i64_w, i32_w]
            rfl
          refine last_ (i := 15) (N := none) #[true, true, true, true, true, true, true, true, true, true, true, true, true, true, true, true, false, false, false] rfl rfl (by kernel_rfl) (by decide) (fun K hK => ?_)
          refine skip_ (w1 := ?_) (by rfl) rfl ?_ ?_
          rotate_left
          · go_simp
            rfl
          refine hK.out _ _ ?_
          clear hK K
          refine pure_ (i := 16) (N := some 37) (v := ?_) (a' := ?_) #[true, true, true, true, true, true, true, true, true, true, true, true, true, true, true, true, true, false, false] rfl rfl (by kernel_rfl) (fun _ _ _ h => h) (Or.inl ⟨by rfl, ?_⟩) ?_ ?_
          rotate_left
          · intro w'
            go_simp
            with_reducible rfl
          rotate_left
          · simp only [Act.put, List.setIfInBounds_toArray, List.set_cons_zero, List.set_cons_succ, i64_w, i32_w]
            rfl
          refine pure_ (i := 17) (N := some 38) (v := ?_) (a' := ?_) #[true, true, true, true, true, true, true, true, true, true, true, true, true, true, true, true, true, true, false] rfl rfl (by kernel_rfl) (fun _ _ _ h => h) (Or.inl ⟨by rfl, ?_⟩) ?_ ?_
          rotate_left
          · intro w'
            go_simp
            with_reducible rfl
          rotate_left
          · simp only [Act.put, List.setIfInBounds_toArray, List.set_cons_zero, List.set_cons_succ, i64_w, i32_w]
            rfl
          refine last_ (i := 18) (N := none) #[true, true, true, true, true, true, true, true, true, true, true, true, true, true, true, true, true, true, true] rfl rfl (by kernel_rfl) (by decide) (fun K hK => ?_)
          refine skip_ (w1 := ?_) (by rfl) rfl ?_ ?_
          rotate_left
          · go_simp
            rfl
          refine hK.out _ _ ?_
          clear hK K
          refine done_ (by kernel_rfl) ?_
          go_wp2_with fail
          go_roundg r.length
          case measure => rw [HL.out]; omega
          case rel =>
            have hv := HV.out
            rw [if_pos trivial] at hv
            obtain rfl : r = [] := List.eq_nil_of_length_eq_zero (by omega)
            have h2 := TrAt.adv1 (HI.out.2.2.1.drewN (nq + 1)) (.slice (some ⟨g, o, none⟩) 0 0) (Kd.Q_drewN hv (nq + 1)) (fun k hk => hk)
            exact ⟨y, [], .slice (some ⟨g, o, none⟩) 0 0, ⟨rfl, HI.out.2.1.trans (adv_pos HY.out), h2.1, HI.out.2.2.2.1, HI.out.2.2.2.2.trans ((gb_drewN _ _ _).trans h2.2)⟩⟩
        · have HV := Aside0.mk (uq_drop1 HI.out.2.2.1.2.2.1)
          have HC1 := Aside0.mk hc1
          refine start_ (n := 19) (S := fun w' => w'.cell? ⟨p, 0, none⟩ = some (.int .u32 c1) ∧ w'.cell? ⟨p, 1, none⟩ = some (.slice (some ⟨g, o, none⟩) (r.length + 1) cc) ∧ w'.cell? ⟨g, o, none⟩ = some (.int .u32 y)) (ds := [15, 18]) #[false, false, false, false, false, false, false, false, false, false, false, false, false, false, false, false, false, false, false] (by kernel_rfl) rfl rfl ⟨h0, h1, hce⟩ (fun hHeld => ?_)
          refine pure_ (i := 0) (N := some 22) (v := ?_) (a' := ?_) #[true, false, false, false, false, false, false, false, false, false, false, false, false, false, false, false, false, false, false] rfl rfl (by kernel_rfl) (fun _ _ _ h => h) (Or.inl ⟨by rfl, ?_⟩) ?_ ?_
          rotate_left
          · intro w'
            go_simp
            with_reducible rfl
          rotate_left
          · simp only [Act.put, List.setIfInBounds_toArray, List.set_cons_zero, List.set_cons_succ, i64_w, i32_w]
            rfl
          refine pure_ (i := 1) (N := some 23) (v := ?_) (a' := ?_) #[true, true, false, false, false, false, false, false, false, false, false, false, false, false, false, false, false, false, false] rfl rfl (by kernel_rfl) (fun _ _ _ h => h) (Or.inl ⟨by rfl, ?_⟩) ?_ ?_
          rotate_left
          · intro w'
            go_simp
            with_reducible rfl
          rotate_left
          · simp only [Act.put, List.setIfInBounds_toArray, List.set_cons_zero, List.set_cons_succ, i64_w, i32_w]
            rfl
          refine pure_ (i := 2) (N := some 24) (v := ?_) (a' := ?_) #[true, true, true, false, false, false, false, false, false, false, false, false, false, false, false, false, false, false, false] rfl rfl (by kernel_rfl) (fun _ _ _ h => h) (Or.inl ⟨by rfl, ?_⟩) ?_ ?_
          rotate_left
          · intro w'
            go_simp
            with_reducible rfl
          rotate_left
          · simp only [Act.put, List.setIfInBounds_toArray, List.set_cons_zero, List.set_cons_succ, i64_w, i32_w]
            rfl
          refine pure_ (i := 3) (N := some 25) (v := ?_) (a' := ?_) #[true, true, true, true, false, false, false, false, false, false, false, false, false, false, false, false, false, false, false] rfl rfl (by kernel_rfl) (fun _ _ _ h => h) (Or.inl ⟨by rfl, ?_⟩) ?_ ?_
          rotate_left
          · intro w'
            go_simp
            with_reducible rfl
          rotate_left
          · simp only [Act.put, List.setIfInBounds_toArray, List.set_cons_zero, List.set_cons_succ, i64_w, i32_w]
            rfl
          refine pure_ (i := 4) (N := some 26) (v := ?_) (a' := ?_) #[true, true, true, true, true, false, false, false, false, false, false, false, false, false, false, false, false, false, false] rfl rfl (by kernel_rfl) (fun _ _ _ h => h) (Or.inl ⟨by rfl, ?_⟩) ?_ ?_
          rotate_left
          · intro w'
            go_simp
            with_reducible rfl
          rotate_left
          · simp only [Act.put, List.setIfInBounds_toArray, List.set_cons_zero, List.set_cons_succ, i64_w, i32_w]
            rfl
          refine pure_ (i := 8) (N := some 30) (v := ?_) (a' := ?_) #[true, true, true, true, true, false, false, false, true, false, false, false, false, false, false, false, false, false, false] rfl rfl (by kernel_rfl) (fun _ _ _ h => h) (Or.inl ⟨by rfl, ?_⟩) ?_ ?_
          rotate_left
          · intro w'
            go_simp
            with_reducible rfl
          rotate_left
          · simp only [Act.put, List.setIfInBounds_toArray, List.set_cons_zero, List.set_cons_succ, i64_w, i32_w]
            rfl
          refine pure_ (i := 9) (N := some 31) (v := ?_) (a' := ?_) #[true, true, true, true, true, false, false, false, true, true, false, false, false, false, false, false, false, false, false] rfl rfl (by kernel_rfl) (fun _ _ _ h => h) (Or.inl ⟨by rfl, ?_⟩) ?_ ?_
          rotate_left
          · intro w'
            go_simp
            with_reducible rfl
          rotate_left
          · simp only [Act.put, List.setIfInBounds_toArray, List.set_cons_zero, List.set_cons_succ, i64_w, i32_w]
            rfl
          refine pure_ (i := 10) (N := some 32) (v := ?_) (a' := ?_) #[true, true, true, true, true, false, false, false, true, true, true, false, false, false, false, false, false, false, false] rfl rfl (by kernel_rfl) (fun _ _ _ h => h) (Or.inl ⟨by rfl, ?_⟩) ?_ ?_
          rotate_left
          · intro w'
            go_simp
            with_reducible rfl
          rotate_left
          · simp only [Act.put, List.setIfInBounds_toArray, List.set_cons_zero, List.set_cons_succ, i64_w, i32_w]
            rfl
          refine take_ (i := 5) (N := some 27) (v := ?_) (a' := ?_) #[true, true, true, true, true, true, false, false, true, true, true, false, false, false, false, false, false, false, false] rfl rfl (by kernel_rfl) (fun _ _ _ h => h) (Or.inl ⟨by rfl, ?_⟩) hHeld ?_ ?_
          rotate_left
          · rintro w' ⟨s0, s1, s2⟩
            go_simp
            with_reducible rfl
          rotate_left
          · simp only [Act.put, List.setIfInBounds_toArray, List.set_cons_zero, List.set_cons_succ, i64_w, i32_w]
            rfl
          refine pure_ (i := 6) (N := some 28) (v := ?_) (a' := ?_) #[true, true, true, true, true, true, true, false, true, true, true, false, false, false, false, false, false, false, false] rfl rfl (by kernel_rfl) (fun _ _ _ h => h) (Or.inl ⟨by rfl, ?_⟩) ?_ ?_
          rotate_left
          · intro w'
            go_simp
            with_reducible rfl
          rotate_left
          · simp only [Act.put, List.setIfInBounds_toArray, List.set_cons_zero, List.set_cons_succ, i64_w, i32_w]
            rfl
          refine take_ (i := 7) (N := some 29) (v := ?_) (a' := ?_) #[true, true, true, true, true, true, true, true, true, true, true, false, false, false, false, false, false, false, false] rfl rfl (by kernel_rfl) (fun _ _ _ h => h) (Or.inl ⟨by rfl, ?_⟩) hHeld ?_ ?_
          rotate_left
          · rintro w' ⟨s0, s1, s2⟩
            go_simp
            with_reducible rfl
          rotate_left
          · simp only [Act.put, List.setIfInBounds_toArray, List.set_cons_zero, List.set_cons_succ, i64_w, i32_w]
            rfl
          refine take_ (i := 11) (N := some 33) (v := ?_) (a' := ?_) #[true, true, true, true, true, true, true, true, true, true, true, true, false, false, false, false, false, false, false] rfl rfl (by kernel_rfl) (fun _ _ _ h => h) (Or.inl ⟨by rfl, ?_⟩) hHeld ?_ ?_
          rotate_left
          · rintro w' ⟨s0, s1, s2⟩
            go_simp
            with_reducible rfl
          rotate_left
          · simp only [Act.put, List.setIfInBounds_toArray, List.set_cons_zero, List.set_cons_succ, i64_w, i32_w]
            rfl
          refine pure_ (i := 12) (N := some 34) (v := ?_) (a' := ?_) #[true, true, true, true, true, true, true, true, true, true, true, true, true, false, false, false, false, false, false] rfl rfl (by kernel_rfl) (fun _ _ _ h => h) (Or.inl ⟨by rfl, ?_⟩) ?_ ?_
          rotate_left
          · intro w'
            go_simp
            with_reducible rfl
          rotate_left
          · simp only [Act.put, List.setIfInBounds_toArray, List.set_cons_zero, List.set_cons_succ, i64_w, i32_w]
            rfl
          refine pure_ (i := 13) (N := some 35) (v := ?_) (a' := ?_) #[true, true, true, true, true, true, true, true, true, true, true, true, true, true, false, false, false, false, false] rfl rfl (by kernel_rfl) (fun _ _ _ h => h) (Or.inl ⟨by rfl, ?_⟩) ?_ ?_
          rotate_left
          · intro w'
            go_simp
            with_reducible rfl
          rotate_left
          · simp only [Act.put, List.setIfInBounds_toArray, List.set_cons_zero, List.set_cons_succ, i64_w, i32_w]
            rfl
          refine pure_ (i := 14) (N := some 36) (v := ?_) (a' := ?_) #[true, true, true, true, true, true, true, true, true, true, true, true, true, true, true, false, false, false, false] rfl rfl (by kernel_rfl) (fun _ _ _ h => h) (Or.inl ⟨by rfl, ?_⟩) ?_ ?_
          rotate_left
          · intro w'
            go_simp
            with_reducible rfl
          rotate_left
          · simp only [Act.put, List.setIfInBounds_toArray, List.set_cons_zero, List.set_cons_succ, i64_w, i32_w]
            rfl
          refine last_ (i := 15) (N := none) #[true, true, true, true, true, true, true, true, true, true, true, true, true, true, true, true, false, false, false] rfl rfl (by kernel_rfl) (by decide) (fun K hK => ?_)
          refine skip_ (w1 := ?_) (by rfl) rfl ?_ ?_
          rotate_left
          · go_simp
            rfl
          refine hK.out _ _ ?_
          clear hK K
          refine pure_ (i := 16) (N := some 37) (v := ?_) (a' := ?_) #[true, true, true, true, true, true, true, true, true, true, true, true, true, true, true, true, true, false, false] rfl rfl (by kernel_rfl) (fun _ _ _ h => h) (Or.inl ⟨by rfl, ?_⟩) ?_ ?_
          rotate_left
          · intro w'
            go_simp
            with_reducible rfl
          rotate_left
          · simp only [Act.put, List.setIfInBounds_toArray, List.set_cons_zero, List.set_cons_succ, i64_w, i32_w]
            rfl
          refine pure_ (i := 17) (N := some 38) (v := ?_) (a' := ?_) #[true, true, true, true, true, true, true, true, true, true, true, true, true, true, true, true, true, true, false] rfl rfl (by kernel_rfl) (fun _ _ _ h => h) (Or.inl ⟨by rfl, ?_⟩) ?_ ?_
          rotate_left
          · intro w'
            go_simp
            with_reducible rfl
          rotate_left
          · simp only [Act.put, List.setIfInBounds_toArray, List.set_cons_zero, List.set_cons_succ, i64_w, i32_w]
            rfl
          refine last_ (i := 18) (N := none) #[true, true, true, true, true, true, true, true, true, true, true, true, true, true, true, true, true, true, true] rfl rfl (by kernel_rfl) (by decide) (fun K hK => ?_)
          refine skip_ (w1 := ?_) (by rfl) rfl ?_ ?_
          rotate_left
          · go_simp
            rfl
          refine hK.out _ _ ?_
          clear hK K
          refine done_ (by kernel_rfl) ?_
          go_wp2_with fail
          go_roundg r.length
          case measure => rw [HL.out]; omega
          case rel =>
            have hv := HV.out
            rw [if_neg HC1.out] at hv
            have h2 := TrAt.adv1 (HI.out.2.2.1.drewN (nq + 1)) (.slice (some ⟨g, o + 1, none⟩) r.length (cc - 1)) (Kd.Q_drewN hv (nq + 1)) (fun k hk => hk)
            exact ⟨y, r, .slice (some ⟨g, o + 1, none⟩) r.length (cc - 1), ⟨rfl, HI.out.2.1.trans (adv_pos HY.out), h2.1, HI.out.2.2.2.1, HI.out.2.2.2.2.trans ((gb_drewN _ _ _).trans h2.2)⟩⟩
      · have hq : (y == (c1 + 1) % 4294967296) = false := by simp [hy]
        have HY := Aside0.mk hy
        clear hy
        go_wp2_with fail
        go_quiet ((go_at_call 107; exact Calls.quiet_of_same (HC.out _)))
        go_wp2
        go_end0
        refine ⟨⟨_, rfl⟩, .slice (some ⟨g, o, none⟩) (r.length + 1) cc, ?_, HI.out.2.2.2.1, HI.out.2.2.2.2.trans (gb_drewN _ _ _)⟩
        rw [HI.out.2.1, adv_neg HY.out]
        exact HI.out.2.2.1.drewN _
/-! ### Take -/
def ins (c x : Int) : List Int → List Int
  | [] => [x]
  | y :: r => if far c y < far c x then y :: ins c x r else x :: y :: r
theorem ins_at {c x : Int} : ∀ (xs : List Int) (i : Nat), Pos c xs x i → xs.take i ++ [x] ++ xs.drop i = ins c x xs
  | [], i, h => by
    obtain rfl : i = 0 := by have := h.1; simpa using this
    rfl
  | y :: r, 0, h => by
    have h0 := h.2.2 0 (Nat.le_refl _) (by simp)
    unfold ins
    rw [if_neg (by simp at h0; omega)]
    rfl
  | y :: r, i + 1, h => by
    have h0 := h.2.1 0 (by omega)
    unfold ins
    rw [if_pos (by simpa using h0), ← ins_at r i ⟨by have := h.1; simp at this; omega, fun q hq => by have := h.2.1 (q + 1) (by omega); simpa using this, fun q hq hql => by have := h.2.2 (q + 1) (by omega) (by simp; omega); simpa using this⟩]
    rfl
/-- What a taken TSN leaves: the number, those beyond, those that came again; fresh; an error. -/
structure Tk where
  c : Int
  xs : List Int
  ds : List Int
  fresh : Bool
  err : Value
def take (c : Int) (xs ds : List Int) (x : Int) : Tk :=
  if hasB c xs x = true then ⟨c, xs, if ds.length < 16 then ds ++ [x] else ds, false, .nilIface⟩
  else if 512 < far c x then ⟨c, xs, ds, false, .iface 56 (.int .i64 14)⟩
  else ⟨(adv c (ins c x xs)).1, (adv c (ins c x xs)).2, ds, true, .nilIface⟩
/-- A tracker, and which blocks are its own. -/
def Tr (w : World) (B p : Nat) (c : Int) (xs ds : List Int) (S : Nat → Prop) : Prop :=
  ∃ v u, TrAt w B p c v xs u ds ∧ S p ∧ (∀ k, v.ownBlock = some k → S k) ∧ (∀ k, u.ownBlock = some k → S k)
structure ChgS (w w' : World) (S S' : Nat → Prop) : Prop where
  os : w'.os = w.os
  tape : w'.tape = w.tape
  output : w'.output = w.output
  size : w.heap.size ≤ w'.heap.size
  block : ∀ k, k < w.heap.size → ¬ S k → w'.heap[k]? = w.heap[k]?
  new : ∀ k, S' k → S k ∨ w.heap.size ≤ k
/-- What Take does. -/
def Taken (w : World) (B p : Nat) (T : Tk) (S : Nat → Prop) (e : Ending) (w' : World) : Prop :=
  e = .returned (.tuple #[.bool T.fresh, T.err]) ∧ ∃ S', Tr w' B p T.c T.xs T.ds S' ∧ ChgS w w' S S'
end Go.Proofs.Ytkginabioolmiaa.Gp
