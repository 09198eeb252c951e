import Derived.Test.YthflkloghbhhgaaRowB
import Derived.StillTailTactics
namespace Go.Proofs.Ythflkloghbhhgaa.Rw
open Go.RowKit Go.Proofs.YthflkloghbhhgaaW.PrintWords Go.Proofs.Ythflkloghbhhgaa.Sh Go.Proofs.Ythflkloghbhhgaa.PAll
set_option linter.unusedVariables false
set_option linter.unusedSimpArgs false
variable {p : Nat} {fr mo : Int} {v : Value} {xs : List Int} {w : World} {B : Nat}
theorem info3 : (Try.prog.info? 3).map (fun i => (i.zero, i.size, i.bytes)) = some (some (.int .i64 0), 1, 8) := by kernel_rfl

theorem at_yes (h : RowAt w B p fr mo v xs) (n : Int) (i : Nat) (hi : (n - fr) % 4294967296 = i) (hl : i < xs.length) (y : Int) (hy : xs.getD i 0 = y) :
    Calls Try.prog 14 #[.pointer (some ⟨p, 0, none⟩), .int .u32 n] w fun e w' => e = .returned (.tuple #[.int .i64 y, .bool true]) ∧ ∃ m, w' = w.drewN m := by
  obtain ⟨A, c, rfl, hc, hC⟩ := h.slice
  have H := Aside0.mk h
  have hb := cc3 h.2.1
  obtain ⟨ad, rfl, hcell⟩ := Kd.at_int hC i (by omega) (by omega)
  have e1 : rd xs (i : Int) = y := by unfold rd; rw [Int.toNat_natCast, hy]
  rw [e1, Int.toNat_natCast] at hcell
  clear h hC e1 hy
  have H1 := Aside0.mk (show Calls Try.prog 29 #[.pointer (some ⟨p, 0, none⟩), .int .u32 n] w fun e w' => e = .returned (.int .i64 i) ∧ ∃ m, w' = w.drewN m by
    have := place_yes H.out n (by omega)
    rwa [hi] at this)
  have hn : ((i : Int) < 0) = False := by simp
  have hl' : (i : Int) < (xs.length : Int) := by omega
  clear hi
  go_enter Try.func14, Try.ntmps14
  go_wp2_with (first | (go_at_call 29; refine H1.out.mono ?_; rintro e w' ⟨rfl, nd, rfl⟩))
  go_ret2
  exact ⟨rfl, _, rfl⟩
theorem at_no (h : RowAt w B p fr mo v xs) (n : Int) (hi : ¬ (n - fr) % 4294967296 < xs.length) :
    Calls Try.prog 14 #[.pointer (some ⟨p, 0, none⟩), .int .u32 n] w fun e w' => e = .returned (.tuple #[.int .i64 0, .bool false]) ∧ ∃ m, w' = w.drewN m := by
  have H1 := Aside0.mk (place_no h n hi)
  clear h hi
  go_enter Try.func14, Try.ntmps14
  go_wp2_with (first | (go_at_call 29; refine H1.out.mono ?_; rintro e w' ⟨rfl, nd, rfl⟩))
  go_ret2
  exact ⟨rfl, _, rfl⟩
theorem push_full (h : RowAt w B p fr mo v xs) (x : Int) (hl : (xs.length : Int) = mo) :
    Calls Try.prog 10 #[.pointer (some ⟨p, 0, none⟩), .int .i64 x] w fun e w' => e = .returned (.tuple #[.int .u32 0, .iface 38 (.int .i64 3)]) ∧ ∃ m, w' = w.drewN m := by
  have H1 := Aside0.mk (show Calls Try.prog 25 #[.pointer (some ⟨p, 0, none⟩)] w fun e w' => e = .returned (.int .i64 0) ∧ ∃ m, w' = w.drewN m by
    have := free_row h
    rwa [show wrap64 (mo - xs.length) = 0 by rw [← hl]; unfold wrap64; omega] at this)
  clear h hl
  go_enter Try.func10, Try.ntmps10
  go_wp2_with (first | (go_at_call 25; refine H1.out.mono ?_; rintro e w' ⟨rfl, nd, rfl⟩))
  go_ret2
  exact ⟨rfl, _, rfl⟩
/-- What a store of the slice's new value leaves. -/
theorem row_put {w1 : World} {v1 : Value} {ys : List Int} {fr' : Int} (hb1 : w1.heap[p]? = some (.cells #[.int .u32 fr', .int .i64 mo, v] 65 (0, 0))) (hB : B ≤ p) (hQ : (Kd.int .i64).Q 3 w1 B (fun _ => True) v1 ys) :
    RowAt (w1.setCell ⟨p, 2, none⟩ v1) B p fr' mo v1 ys :=
  ⟨hB, blk_put hb1 2 v1 rfl, Kd.Q_set hQ hb1 (by decide) 2 v1⟩
theorem chg_put {w1 : World} {u : Value} {j : Nat} (hg : w.grownBy w1 v.ownBlock) : Chg w (w1.setCell ⟨p, j, none⟩ u) p v :=
  ⟨hg.os, hg.tape, hg.output, by simpa using hg.size, fun k hk hp hv => (Below.heap_setCell w1 _ u k hp).trans (hg.block k hk (fun he => hv he.symm))⟩

theorem q_form {w1 : World} {v1 : Value} {ys : List Int} {ok : Nat → Prop} (h : (Kd.int .i64).Q 3 w1 B ok v1 ys) : ∃ A n c, v1 = .slice A n c := by
  obtain ⟨A, c, hv, _⟩ := Kd.Q_slice h
  exact ⟨A, _, c, hv⟩
theorem grown_drewN {w1 : World} {m : Nat} {r : Option Nat} (h : (w.drewN m).grownBy w1 r) : w.grownBy w1 r := ⟨h.os, h.tape, h.output, h.size, h.block⟩
set_option maxRecDepth 100000 in
theorem push_row (h : RowAt w B p fr mo v xs) (x : Int) (hl : (xs.length : Int) < mo) (hm : mo ≤ 1024) :
    Calls Try.prog 10 #[.pointer (some ⟨p, 0, none⟩), .int .i64 x] w fun e w' => e = .returned (.tuple #[.int .u32 ((fr + (xs.length : Int)) % 4294967296), .nilIface]) ∧
      ∃ v', RowAt w' B p fr mo v' (xs ++ [x]) ∧ Chg w w' p v ∧ (v'.ownBlock = v.ownBlock ∨ ∃ b, v'.ownBlock = some b ∧ w.heap.size ≤ b) := by
  obtain ⟨f, hf⟩ : ∃ f, f = wrap64 (mo - xs.length) := ⟨_, rfl⟩
  have hf0 : (f == 0) = false := by rw [beq_eq_false_iff_ne, hf]; unfold wrap64; omega
  have H1 := Aside0.mk (show Calls Try.prog 25 #[.pointer (some ⟨p, 0, none⟩)] w fun e w' => e = .returned (.int .i64 f) ∧ ∃ m, w' = w.drewN m by
    have := free_row h
    rwa [← hf] at this)
  clear hf
  have H := Aside0.mk h
  have hb := cc3 h.2.1
  have HL := Aside0.mk (show (xs.length + 1) * 8 ≤ 140737488355328 by omega)
  clear h hl hm
  go_enter Try.func10, Try.ntmps10
  go_wp2_with (first | (go_at_call 25; refine H1.out.mono ?_; rintro e w' ⟨rfl, nd, rfl⟩) | (go_at_call 18; refine (next_row (B := B) (by first | exact H.out | exact H.out.drewN _)).mono ?_; rintro e w' ⟨rfl, nd2, rfl⟩) | (at_builtin; refine Kd.Q_append (Kd.int .i64) B rfl (.tmp 17) (.tmp 19) 25 3 (.int .i64 0) 8 rfl Try.underlying25 info3 rfl (by decide) (by decide) v xs x [.int .i64 x] (fun _ => True) (fun _ => False) rfl rfl rfl (fun _ h => h.elim) (fun _ _ => trivial) (Kd.Q_drewN H.out.2.2 _) (Below.refl _ _) (Nat.le_of_lt (Nat.lt_of_le_of_lt H.out.1 H.out.lt)) HL.out ?_; intro v1 w1 hQ0 hBel hgrow0 hat0; have HQ := Aside0.mk hQ0; have HG := Aside0.mk hgrow0; have HA := Aside0.mk hat0; clear hQ0 hBel hgrow0 hat0; obtain ⟨A1, n1, c1, rfl⟩ := q_form HQ.out; have HB1 := Aside0.mk ((HG.out.block p H.out.lt (fun he => H.out.ne he.symm)).trans H.out.2.1); have hb1 := cc3 HB1.out))
  go_ret2
  exact ⟨rfl, _, row_put HB1.out H.out.1 HQ.out, chg_put (grown_drewN HG.out), HA.out⟩
end Go.Proofs.Ythflkloghbhhgaa.Rw
