import Derived.Test.YtjhciagjofhhiaaTlB
import Derived.Deep.RegionLaw
import Derived.Deep.LoopGhost
/- The methods of Out. -/
namespace Go.Proofs.Ytjhciagjofhhiaa.Tl
open Go.RowKit Go.Proofs.YtjhciagjofhhiaaW.PrintWords Go.Proofs.YtjhciagjofhhiaaW.PrintLast Go.Proofs.YtjhciagjofhhiaaW.PrintMore Go.Proofs.Ytjhciagjofhhiaa.Sh
set_option linter.unusedVariables false
set_option linter.unusedSimpArgs false
theorem sized_calls (s : Int) (w : World) : Calls Try.prog 57 #[.int .i64 s] w fun e w' => e = .returned (.bool (decide (isSz s))) ∧ w = w' := by
  have h : decide (isSz s) = (decide (s = 1) || decide (s = 2) || decide (s = 4) || decide (s = 8)) := by unfold isSz; by_cases h1 : s = 1 <;> by_cases h2 : s = 2 <;> by_cases h3 : s = 4 <;> by_cases h4 : s = 8 <;> simp [*]
  rw [h]
  clear h
  by_cases h1 : s = 1
  · subst h1
    go_enter Try.func57, Try.ntmps57
    go_wp2
    go_ret
    exact ⟨rfl, rfl⟩
  · by_cases h2 : s = 2
    · subst h2
      go_enter Try.func57, Try.ntmps57
      go_wp2
      go_ret
      exact ⟨rfl, rfl⟩
    · by_cases h3 : s = 4
      · subst h3
        go_enter Try.func57, Try.ntmps57
        go_wp2
        go_ret
        exact ⟨rfl, rfl⟩
      · have e1 : decide (s = 1) = false := decide_eq_false h1
        have e2 : decide (s = 2) = false := decide_eq_false h2
        have e3 : decide (s = 4) = false := decide_eq_false h3
        rw [e1, e2, e3]
        have b1 : (s == 1) = false := by simp [h1]
        have b2 : (s == 2) = false := by simp [h2]
        have b3 : (s == 4) = false := by simp [h3]
        clear e1 e2 e3
        go_enter Try.func57, Try.ntmps57
        go_wp2
        go_ret
        refine ⟨?_, rfl⟩
        by_cases h4 : s = 8 <;> simp [h4]
theorem grown_chg {w w1 : World} {p j : Nat} {v u : Value} (hg : w.grownBy w1 v.ownBlock) : Chg w (w1.setCell ⟨p, j, none⟩ u) p v :=
  ⟨hg.os, hg.tape, hg.output, by simpa using hg.size, fun k hk hp hv => (Below.heap_setCell w1 _ u k hp).trans (hg.block k hk (fun he => hv he.symm))⟩
theorem out_put {w1 : World} {B p : Nat} {v v1 : Value} {l : List Int} (hb : w1.heap[p]? = some (.cells #[v] 28 (0, 0))) (hB : B ≤ p) (hR : RB w1 B v1 l) : OutAt (w1.setCell ⟨p, 0, none⟩ v1) B p v1 l :=
  ⟨hB, blk_put hb 0 v1 rfl, Kd.R_set hR hb (by decide) 0 v1⟩
/-- Nothing was put: the pointer is nil. -/
theorem put_nil (w : World) (v : Value) : Calls Try.prog 15 #[.pointer none, v] w fun e w' => (∃ u, e = .returned u) ∧ w = w' := by
  go_enter Try.func15, Try.ntmps15
  go_wp2
  go_end0
  exact ⟨⟨_, rfl⟩, rfl⟩
set_option maxRecDepth 100000 in
theorem put_calls {w : World} {B p : Nat} {v : Value} {l : List Int} (h : OutAt w B p v l) (A : Option Addr) (c : Nat) (l2 : List Int) (hc : l2.length ≤ c) (hC : Kd.C (Kd.int .u8) w A l2.length l2) (hl : l.length + l2.length ≤ 1048576) :
    Calls Try.prog 15 #[.pointer (some ⟨p, 0, none⟩), .slice A l2.length c] w (Puts w B p v (l ++ l2)) := by
  obtain ⟨A0, c0, rfl⟩ := h.form
  have H := Aside0.mk h
  have HC := Aside0.mk hC
  have hx : w.cell? ⟨p, 0, none⟩ = some (.slice A0 l.length c0) := (blk_cell h.2.1 0).trans rfl
  have hf : w.frozen? ⟨p, 0, none⟩ = false := blk_frozen h.2.1 0
  have HL := Aside0.mk (show (l.length + l2.length) * 1 ≤ 140737488355328 by omega)
  clear h hC
  go_enter Try.func15, Try.ntmps15
  go_wp2_with (first | (at_builtin; refine Kd.R_append_rows (Kd.int .u8) (w0 := w) B rfl (.tmp 10) (.tmp 11) 26 5 (.int .u8 0) 1 rfl Try.underlying26 info5 rfl (by decide) (by omega) (.slice A0 l.length c0) l l2 A l2.length c (fun _ => True) (fun _ => False) rfl rfl ?aO ?aR (fun _ _ h => h) (fun _ h => h.elim) (fun _ _ => trivial) ?aB ?aS ?aL ?_; (case aO => exact H.out.2.2); (case aR => exact HC.out); (case aB => exact Below.refl _ _); (case aS => exact Nat.le_of_lt (Nat.lt_of_le_of_lt H.out.1 H.out.lt)); (case aL => exact HL.out); intro v1 w1 ho hb hg hn; have HO := Aside0.mk ho; have HG := Aside0.mk hg; have HN := Aside0.mk hn; clear ho hb hg hn; obtain ⟨A1, c1, rfl⟩ := Kd.R_slice HO.out; have HB1 := Aside0.mk ((HG.out.block p H.out.lt (fun he => H.out.ne he.symm)).trans H.out.2.1); have hx1 : w1.cell? ⟨p, 0, none⟩ = some (.slice A0 l.length c0) := (blk_cell HB1.out 0).trans rfl; have hf1 : w1.frozen? ⟨p, 0, none⟩ = false := blk_frozen HB1.out 0))
  go_end0
  have h1 := HO.out
  have h2 := HN.out
  rw [List.length_append] at h1 h2
  exact ⟨⟨_, rfl⟩, _, out_put HB1.out H.out.1 h1, grown_chg HG.out, h2⟩
theorem bytes_nil (w : World) : Calls Try.prog 18 #[.pointer none] w fun e w' => e = .returned (.slice none 0 0) ∧ w = w' := by
  go_enter Try.func18, Try.ntmps18
  go_wp2
  go_ret
  exact ⟨rfl, rfl⟩
theorem bytes_calls {w : World} {B p : Nat} {v : Value} {l : List Int} (h : OutAt w B p v l) (hl : l.length ≤ 1048576) : Calls Try.prog 18 #[.pointer (some ⟨p, 0, none⟩)] w (Cloned w l) := by
  obtain ⟨A0, c0, rfl⟩ := h.form
  obtain ⟨_, hc, hC⟩ := Kd.R_reads' h.2.2
  have HC := Aside0.mk hC
  have hcc : l.length ≤ c0 := hc
  have hx : w.cell? ⟨p, 0, none⟩ = some (.slice A0 l.length c0) := (blk_cell h.2.1 0).trans rfl
  clear h hC hc
  go_enter Try.func18, Try.ntmps18
  go_wp2_with (first | (go_at_call 58; refine (clone_rb w A0 c0 l hcc HC.out hl).mono ?_; rintro e w' ⟨A, c, rfl, hR, hB⟩; have HR := Aside0.mk hR; have HB := Aside0.mk hB; clear hR hB))
  go_ret
  exact ⟨_, _, rfl, HR.out, HB.out⟩
theorem num_nil (w : World) (n s : Int) : Calls Try.prog 13 #[.pointer none, .int .u64 n, .int .i64 s] w fun e w' => (∃ u, e = .returned u) ∧ w = w' := by
  go_enter Try.func13, Try.ntmps13
  go_wp2
  refine bodyPost_ret (results_none rfl _ _ _) rfl ?_
  exact ⟨⟨_, rfl⟩, rfl⟩
theorem fresh_trans {w w1 : World} {v v1 v2 : Value} (h1 : Fresh w v v1) (h2 : Fresh w1 v1 v2) (hs : w.heap.size ≤ w1.heap.size) : Fresh w v v2 := by
  rcases h2 with h | ⟨b, h, hb⟩
  · rcases h1 with h' | ⟨b, h', hb⟩
    · exact .inl (h.trans h')
    · exact .inr ⟨b, h.trans h', hb⟩
  · exact .inr ⟨b, h, Nat.le_trans hs hb⟩
theorem chg_trans {w w1 w2 : World} {p : Nat} {v v1 : Value} (h1 : Chg w w1 p v) (h2 : Chg w1 w2 p v1) (hf : Fresh w v v1) : Chg w w2 p v :=
  ⟨h2.os.trans h1.os, h2.tape.trans h1.tape, h2.output.trans h1.output, Nat.le_trans h1.size h2.size, fun k hk hp hv => (h2.block k (Nat.lt_of_lt_of_le hk h1.size) hp (fun he => by
    rcases hf with h | ⟨b, h, hb⟩
    · exact hv (h ▸ he)
    · rw [h] at he; injection he with he; omega)).trans (h1.block k hk hp hv)⟩
theorem byte_eq (n k : Nat) : (n : Int) / 2 ^ (8 * k) % 256 = ((n / 256 ^ k % 256 : Nat) : Int) := by
  have h : (2 : Nat) ^ (8 * k) = 256 ^ k := by rw [Nat.pow_mul]
  have h2 : (2 : Int) ^ (8 * k) = ((256 ^ k : Nat) : Int) := by rw [← h]; simp
  rw [h2]
  simp
/-- Out, so far. -/
def OS (w : World) (B p : Nat) (v : Value) (l : List Int) (wr : World) : Prop := ∃ v', OutAt wr B p v' l ∧ Chg w wr p v ∧ Fresh w v v'
theorem num_leaf0 {w wr w2 : World} {B p : Nat} {v v1 v2 : Value} {l pre L : List Int} {y : Int} (h1 : OutAt wr B p v1 L) (hL : L = l ++ pre) (h23 : Chg w wr p v ∧ Fresh w v v1) (hO : RB w2 B v2 (L ++ [y])) (hG : wr.grownBy w2 v1.ownBlock) (hN : v2.ownBlock = v1.ownBlock ∨ ∃ b, v2.ownBlock = some b ∧ wr.heap.size ≤ b) :
    OS w B p v (l ++ (pre ++ [y])) (w2.setCell ⟨p, 0, none⟩ v2) := by
  have hb := (hG.block p h1.lt (fun he => h1.ne he.symm)).trans h1.2.1
  refine ⟨v2, ?_, chg_trans h23.1 (grown_chg hG) h23.2, fresh_trans h23.2 hN h23.1.size⟩
  rw [← List.append_assoc, ← hL]
  exact out_put hb h1.1 hO
theorem num_leaf {w wr w2 : World} {B p : Nat} {v v1 v2 : Value} {l pre L : List Int} {y : Int} (h1 : OutAt wr B p v1 L) (hL : L = l ++ pre) (h23 : Chg w wr p v ∧ Fresh w v v1) (hO : RB w2 B v2 (L ++ [y])) (hG : wr.drew.grownBy w2 v1.ownBlock) (hN : v2.ownBlock = v1.ownBlock ∨ ∃ b, v2.ownBlock = some b ∧ wr.drew.heap.size ≤ b) :
    OS w B p v (l ++ (pre ++ [y])) (w2.setCell ⟨p, 0, none⟩ v2) := by
  have hG' : wr.grownBy w2 v1.ownBlock := ⟨hG.os, hG.tape, hG.output, hG.size, hG.block⟩
  have hb := (hG'.block p h1.lt (fun he => h1.ne he.symm)).trans h1.2.1
  have hN' : Fresh wr v1 v2 := hN
  refine ⟨v2, ?_, chg_trans h23.1 (grown_chg hG') h23.2, fresh_trans h23.2 hN' h23.1.size⟩
  rw [← List.append_assoc, ← hL]
  exact out_put hb h1.1 hO
set_option maxRecDepth 100000 in
set_option maxHeartbeats 2000000 in
theorem num_calls {w : World} {B p : Nat} {v : Value} {l : List Int} (h : OutAt w B p v l) (n : Nat) (s : Int) (hl : l.length + 8 ≤ 1048576) :
    Calls Try.prog 13 #[.pointer (some ⟨p, 0, none⟩), .int .u64 (n : Nat), .int .i64 s] w (Puts w B p v (l ++ nbz n s)) := by
  by_cases hs : isSz s
  · have hd : decide (isSz s) = true := decide_eq_true hs
    have HS := Aside0.mk (show OS w B p v (l ++ []) w from ⟨v, by rw [List.append_nil]; exact h, Chg.refl _ _ _, .inl rfl⟩)
    have H57 := Aside0.mk (sized_calls s)
    rw [hd] at H57
    obtain ⟨z, hz⟩ : ∃ z : Nat, s = (z : Int) := ⟨s.toNat, by unfold isSz at hs; omega⟩
    have hz8 : z ≤ 8 := by unfold isSz at hs; omega
    subst hz
    have HNB := Aside0.mk (show nbz n (z : Int) = nb n z from by unfold nbz; rw [if_pos hs, Int.toNat_natCast])
    have HL := Aside0.mk hl
    have HB := Aside0.mk (Nat.le_of_lt (Nat.lt_of_le_of_lt h.1 h.lt))
    clear h hs hd hl
    go_enter Try.func13, Try.ntmps13
    go_wp2_with (first | (go_at_call 57; refine (H57.out _).mono ?_; rintro e w7 ⟨rfl, rfl⟩))
    go_loopw [6] (fun i wr => ∃ (k : Nat) (pre : List Int), k ≤ z ∧ i = .int .i64 ((k : Int) - 1) ∧ Aside0 (pre ++ nb n k = nb n z) ∧ Aside0 (OS w B p v (l ++ pre) wr)) (fun i _ => (intOf i + 1).toNat)
    case atStart => exact ⟨z, [], Nat.le_refl _, by go_num, ⟨rfl⟩, HS⟩
    case round =>
      obtain ⟨k, pre, hk, rfl, HP, HO⟩ := hrel
      cases k with
      | zero =>
        go_wp2_with fail
        go_end0
        obtain ⟨v', h1, h2, h3⟩ := HO.out
        refine ⟨⟨_, rfl⟩, v', ?_, h2, h3⟩
        rw [HNB.out, ← HP.out]
        simpa [nb] using h1
      | succ k =>
        have e1 : ((k + 1 : Nat) : Int) - 1 = (k : Int) := by omega
        rw [e1]
        have hk8 : k ≤ 7 := by omega
        obtain ⟨v1, h1, h2, h3⟩ := HO.out
        obtain ⟨L, hL⟩ : ∃ L, L = l ++ pre := ⟨_, rfl⟩
        rw [← hL] at h1
        have HLE := Aside0.mk hL
        clear hL
        obtain ⟨A0, c0, rfl⟩ := h1.form
        have H1 := Aside0.mk h1
        have H23 := Aside0.mk (And.intro h2 h3)
        have hx : wr.cell? ⟨p, 0, none⟩ = some (.slice A0 L.length c0) := (blk_cell h1.2.1 0).trans rfl
        have hf : wr.frozen? ⟨p, 0, none⟩ = false := blk_frozen h1.2.1 0
        have hxa : ∀ o : Obj, (wr.alloc o).cell? ⟨p, 0, none⟩ = some (.slice A0 L.length c0) := fun o => (blk_cell (blk_alloc h1.2.1 o) 0).trans rfl
        clear h1 h2 h3
        have HY := Aside0.mk (show IntKind.u8.wrap ((n : Int) / 2 ^ (8 * (k : Int)).toNat) = ((n / 256 ^ k % 256 : Nat) : Int) from by
          rw [show ((8 * (k : Int)).toNat) = 8 * k by omega]
          exact byte_eq n k)
        have HLL := Aside0.mk (show (L.length + 1) * 1 ≤ 140737488355328 from by
          have h1 := congrArg List.length HP.out
          rw [List.length_append, nb_len, nb_len] at h1
          rw [HLE.out, List.length_append]
          have := HL.out
          omega)
        have HR := Aside0.mk (H1.out.drewN 1).2.2
        have HSW := Aside0.mk (show B ≤ wr.heap.size from Nat.le_of_lt (Nat.lt_of_le_of_lt H1.out.1 H1.out.lt))
        go_wp2_with fail
        have hw8 : IntKind.i64.wrap (8 * (k : Int)) = 8 * (k : Int) := (i64_w _).trans (by unfold wrap64; omega)
        have hsh : ∀ W : World, (Op.shift BinOp.shr IntKind.u64 (n : Int) IntKind.i64 (8 * (k : Int))).run Try.prog W = .ok (.int .u64 ((n : Int) / 2 ^ (8 * (k : Int)).toNat)) W := by
          intro W
          go_simp
        go_region_law (refine Kd.R_append_step (Kd.int .u8) (w0 := wr) (W := wr.drew) B ?hw (.tmp 24) (.tmp 30) 26 5 (.int .u8 0) 1 ?ho Try.underlying26 info5 rfl (by decide) (by decide) (.slice A0 L.length c0) L (IntKind.u8.wrap ((n : Int) / 2 ^ (8 * (k : Int)).toNat)) [.int .u8 (IntKind.u8.wrap ((n : Int) / 2 ^ (8 * (k : Int)).toNat))] (fun _ => True) (fun _ => False) ?aA ?aC ?aD (fun _ h => h.elim) (fun _ _ => trivial) ?aO ?aB ?aS ?aL ?_; (case hw => rfl); (case ho => rfl); (case aA => rfl); (case aC => rfl); (case aD => rfl); (case aO => exact HR.out); (case aB => exact below_drew1 (Below.refl _ _)); (case aS => exact HSW.out); (case aL => exact HLL.out); intro v2 w2 ho hb hg hn; have HO2 := Aside0.mk ho; have HG := Aside0.mk hg; have HN := Aside0.mk hn; clear ho hb hg hn; obtain ⟨A1, c1, rfl⟩ := Kd.R_slice HO2.out; have HB1 := Aside0.mk ((HG.out.block p H1.out.lt (fun he => H1.out.ne he.symm)).trans H1.out.2.1); have hx1 : w2.cell? ⟨p, 0, none⟩ = some (.slice A0 L.length c0) := (blk_cell HB1.out 0).trans rfl; have hf1 : w2.frozen? ⟨p, 0, none⟩ = false := blk_frozen HB1.out 0)
        all_goals go_wp2_with fail
        all_goals refine ⟨⟨k, pre ++ [((n / 256 ^ k % 256 : Nat) : Int)], by omega, by go_num, ⟨?_⟩, ⟨?_⟩⟩, ?_⟩
        all_goals first
          | (rw [← HP.out, List.append_assoc]; rfl)
          | (have hO := HO2.out; rw [HY.out] at hO; exact num_leaf H1.out HLE.out H23.out (by rw [List.length_append, List.length_singleton] at hO; exact hO) HG.out (by have h := HN.out; rw [List.length_append, List.length_singleton] at h; exact h))
          | (simp [intOf]; done)
          | (simp [intOf]; omega)
  · have hd : decide (isSz s) = false := decide_eq_false hs
    have H57 := Aside0.mk (sized_calls s)
    rw [hd] at H57
    have HNB := Aside0.mk (show nbz n s = [] from by unfold nbz; rw [if_neg hs])
    have H := Aside0.mk h
    clear h hs hd hl
    go_enter Try.func13, Try.ntmps13
    go_wp2_with (first | (go_at_call 57; refine (H57.out _).mono ?_; rintro e w7 ⟨rfl, rfl⟩))
    refine bodyPost_ret (results_none rfl _ _ _) rfl ?_
    exact ⟨⟨_, rfl⟩, v, by rw [HNB.out, List.append_nil]; exact H.out, Chg.refl _ _ _, .inl rfl⟩
theorem pad_nil (w : World) : Calls Try.prog 16 #[.pointer none] w fun e w' => (∃ u, e = .returned u) ∧ w = w' := by
  go_enter Try.func16, Try.ntmps16
  go_wp2
  go_loopw [] (fun wr => wr = w) (fun _ => 0)
  case atStart => rfl
  case round =>
    subst hrel
    go_wp2
    go_end0
    first | exact ⟨⟨_, rfl⟩, rfl⟩ | exact ⟨⟨_, rfl⟩, trivial⟩ | exact ⟨_, rfl⟩
set_option maxRecDepth 100000 in
set_option maxHeartbeats 2000000 in
theorem pad_calls {w : World} {B p : Nat} {v : Value} {l : List Int} (h : OutAt w B p v l) (hl : l.length + 8 ≤ 1048576) :
    Calls Try.prog 16 #[.pointer (some ⟨p, 0, none⟩)] w (Puts w B p v (padL l)) := by
  have HS := Aside0.mk (show OS w B p v (l ++ []) w from ⟨v, by rw [List.append_nil]; exact h, Chg.refl _ _ _, .inl rfl⟩)
  have HL := Aside0.mk hl
  clear h hl
  go_enter Try.func16, Try.ntmps16
  go_wp2_with fail
  go_loopg [] (padn l.length + 1) (fun kq wr => ∃ (j : Nat), Aside0 (j + kq = padn l.length + 1 ∧ j ≤ padn l.length) ∧ Aside0 (OS w B p v (l ++ List.replicate j 0) wr))
  case atStart => exact ⟨0, ⟨by omega, by omega⟩, HS⟩
  case round =>
    obtain ⟨j, HJ, HO⟩ := hrel
    cases gk with
    | zero => exact absurd HJ.out.1 (by have := HJ.out.2; omega)
    | succ k1 =>
      obtain ⟨v1, h1, h2, h3⟩ := HO.out
      obtain ⟨L, hL⟩ : ∃ L, L = l ++ List.replicate j 0 := ⟨_, rfl⟩
      rw [← hL] at h1
      have HLE := Aside0.mk hL
      have hLl : L.length = l.length + j := by rw [hL]; simp
      have HLL := Aside0.mk hLl
      clear hL hLl
      obtain ⟨A0, c0, rfl⟩ := h1.form
      have H1 := Aside0.mk h1
      have H23 := Aside0.mk (And.intro h2 h3)
      have hx : wr.cell? ⟨p, 0, none⟩ = some (.slice A0 L.length c0) := (blk_cell h1.2.1 0).trans rfl
      have hf : wr.frozen? ⟨p, 0, none⟩ = false := blk_frozen h1.2.1 0
      have HSW := Aside0.mk (show B ≤ wr.heap.size from Nat.le_of_lt (Nat.lt_of_le_of_lt H1.out.1 H1.out.lt))
      have HLB := Aside0.mk (show (L.length + 1) * 1 ≤ 140737488355328 from by have := HL.out; have := HLL.out; have := HJ.out.2; unfold padn at this; omega)
      clear h1 h2 h3
      by_cases h4 : (L.length : Int) % 4 = 0
      · have hjp : j = padn l.length := by
          have h5 : L.length % 4 = 0 := by omega
          have := HLL.out
          have := HJ.out.2
          unfold padn at this ⊢
          omega
        have HJP := Aside0.mk hjp
        clear hjp
        go_wp2_with fail
        go_end0
        obtain ⟨v', h1, h2, h3⟩ := HO.out
        refine ⟨⟨_, rfl⟩, v', ?_, h2, h3⟩
        rw [HJP.out] at h1
        exact h1
      · have hjp : j < padn l.length := by
          rcases Nat.lt_or_ge j (padn l.length) with h | h
          · exact h
          · exfalso
            apply h4
            have h5 : L.length % 4 = 0 := by
              have := HLL.out
              have := HJ.out.2
              unfold padn at this h
              omega
            omega
        have HJP := Aside0.mk hjp
        clear hjp
        go_wp2_with (first | ((with_reducible refine gate_builtin (b := .append) (xs := #[.tmp 17, .tmp 18]) rfl ?_); at_builtin; refine Kd.R_append (Kd.int .u8) (w0 := wr) B rfl (.tmp 17) (.tmp 18) 26 5 (.int .u8 0) 1 rfl Try.underlying26 info5 rfl (by decide) (by omega) (.slice A0 L.length c0) L 0 [.int .u8 0] (fun _ => True) (fun _ => False) ?aA ?aC ?aD (fun _ h => h.elim) (fun _ _ => trivial) ?aO ?aB ?aS ?aL ?_; (case aA => rfl); (case aC => rfl); (case aD => rfl); (case aO => exact H1.out.2.2); (case aB => exact Below.refl _ _); (case aS => exact HSW.out); (case aL => exact HLB.out); intro v2 w2 ho hb hg hn; have HO2 := Aside0.mk ho; have HG := Aside0.mk hg; have HN := Aside0.mk hn; clear ho hb hg hn; obtain ⟨A1, c1, rfl⟩ := Kd.R_slice HO2.out; have HB1 := Aside0.mk ((HG.out.block p H1.out.lt (fun he => H1.out.ne he.symm)).trans H1.out.2.1); have hx1 : w2.cell? ⟨p, 0, none⟩ = some (.slice A0 L.length c0) := (blk_cell HB1.out 0).trans rfl; have hf1 : w2.frozen? ⟨p, 0, none⟩ = false := blk_frozen HB1.out 0))
        go_roundg k1
        case measure => omega
        case rel =>
          refine ⟨j + 1, ⟨by have := HJ.out.1; omega, HJP.out⟩, ⟨?_⟩⟩
          have hO := HO2.out
          have hN := HN.out
          rw [List.length_append, List.length_singleton] at hO hN
          rw [List.replicate_succ']
          exact num_leaf0 H1.out HLE.out H23.out hO HG.out hN
end Go.Proofs.Ytjhciagjofhhiaa.Tl
