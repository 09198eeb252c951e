import Derived.Test.YtkginabioolmiaaGpE
import Derived.RangeFuncNested
import Derived.RangeFuncBound
import Derived.RangeFuncCalls
import Derived.RangeFuncLeaves
import Derived.RangeFuncBox
import Derived.Shelf.Abstract
import Derived.OwnWalkIn
import Derived.TacticsInMore
import Derived.LoopNIn
import Derived.LoopIn
import Derived.Sort.QuietIn
/- serial.Runs: the iterator's contract. -/
namespace Go.Proofs.Ytkginabioolmiaa.Gp
open Go.RowKit Go.Shelf Go.Proofs.YtkginabioolmiaaW.PrintWords Go.Proofs.YtkginabioolmiaaW.PrintLast Go.Proofs.YtkginabioolmiaaW.PrintMore Go.Proofs.Ytkginabioolmiaa.Sh
set_option linter.unusedVariables false
set_option linter.unusedSimpArgs false
theorem wide_fn (f : FuncId) : Fence.wide.fn f = True := rfl
attribute [local go_sem] Oper.semAt_some wide_fn
/-! ### runs -/
def runN (x : Int) : Nat → List Int → Nat
  | n, [] => n
  | n, y :: r => if y = (x + (n : Int)) % 4294967296 then runN x (n + 1) r else n
theorem runN_ge (x : Int) : ∀ n l, n ≤ runN x n l
  | n, [] => Nat.le_refl _
  | n, y :: r => by
    unfold runN
    split
    · exact Nat.le_trans (Nat.le_succ _) (runN_ge x (n + 1) r)
    · exact Nat.le_refl _
theorem runN_le (x : Int) : ∀ n l, runN x n l ≤ n + l.length
  | n, [] => Nat.le_refl _
  | n, y :: r => by
    unfold runN
    split
    · have := runN_le x (n + 1) r
      simp
      omega
    · simp
def runsF : Nat → List Int → List (Int × Nat)
  | 0, _ => []
  | _, [] => []
  | f + 1, x :: r => (x, runN x 1 r) :: runsF f (r.drop (runN x 1 r - 1))
theorem runsF_nil (f : Nat) : runsF f [] = [] := by cases f <;> rfl
theorem runsF_any : ∀ (f g : Nat) (l : List Int), l.length ≤ f → l.length ≤ g → runsF f l = runsF g l
  | f, g, [], _, _ => by rw [runsF_nil, runsF_nil]
  | 0, _, x :: r, h, _ => absurd h (by simp)
  | _, 0, x :: r, _, h => absurd h (by simp)
  | f + 1, g + 1, x :: r, h1, h2 => by
    unfold runsF
    rw [runsF_any f g (r.drop (runN x 1 r - 1)) (by simp at h1 ⊢; omega) (by simp at h2 ⊢; omega)]
def runs (l : List Int) : List (Int × Nat) := runsF l.length l
theorem runs_cons (x : Int) (r : List Int) : runs (x :: r) = (x, runN x 1 r) :: runs (r.drop (runN x 1 r - 1)) := by
  unfold runs
  rw [List.length_cons]
  conv => lhs; unfold runsF
  rw [runsF_any r.length (r.drop (runN x 1 r - 1)).length _ (by simp) (Nat.le_refl _)]
theorem runs_len : ∀ (f : Nat) (l : List Int), (runsF f l).length ≤ l.length
  | 0, l => Nat.zero_le _
  | f + 1, [] => Nat.le_refl _
  | f + 1, x :: r => by
    unfold runsF
    have := runs_len f (r.drop (runN x 1 r - 1))
    simp at this ⊢
    omega
/-- What the iterator leaves be. -/
def Kp2 (n₀ a b : Nat) (W W' : World) : Prop := Below n₀ W W' ∧ W'.heap[a]? = W.heap[a]? ∧ W'.heap[b]? = W.heap[b]?
theorem Kp2.trans {n₀ a b : Nat} {A B C : World} (h : Kp2 n₀ a b A B) (h' : Kp2 n₀ a b B C) : Kp2 n₀ a b A C := ⟨h.1.trans h'.1, h'.2.1.trans h.2.1, h'.2.2.trans h.2.2⟩
theorem Kp2.refl (n₀ a b : Nat) (W : World) : Kp2 n₀ a b W W := ⟨Below.refl _ _, rfl, rfl⟩
theorem Kp2.drewN {n₀ a b : Nat} (W : World) (m : Nat) : Kp2 n₀ a b W (W.drewN m) := ⟨pw_below_drewN (Below.refl _ _) m, rfl, rfl⟩
theorem cell_heap {W W' : World} {b : Nat} (h : W'.heap[b]? = W.heap[b]?) (k : Nat) : W'.cell? ⟨b, k, none⟩ = W.cell? ⟨b, k, none⟩ := by unfold World.cell?; rw [h]
/-- A row in a block (or none of it). -/
def Held (W : World) (b : Nat) (A : Option Addr) (xs : List Int) : Prop := xs = [] ∨ ∃ P S : List Value, A = some ⟨b, P.length, none⟩ ∧ W.heap[b]? = some (.cells (P ++ enc xs ++ S).toArray 22 (0, 0))
theorem Held.cell {W : World} {b : Nat} {A : Option Addr} {xs : List Int} (h : Held W b A xs) (hp : 0 < xs.length) : ∃ o, A = some ⟨b, o, none⟩ ∧ ∀ j, j < xs.length → W.cell? ⟨b, o + j, none⟩ = some (.int .u32 (xs.getD j 0)) := by
  rcases h with rfl | ⟨P, S, rfl, hh⟩
  · simp at hp
  · refine ⟨P.length, rfl, fun j hj => ?_⟩
    refine (blk_cell hh _).trans ?_
    rw [List.getElem?_toArray]
    have := get_mid (P := P) (T := S) (a := []) (c := xs) (j := j) (v := .int .u32 (xs.getD j 0)) (by simp [enc, List.getD_eq_getElem?_getD, List.getElem?_eq_getElem hj])
    exact this
theorem Held.kept {W W' : World} {b : Nat} {A : Option Addr} {xs : List Int} (h : Held W b A xs) (hb : W'.heap[b]? = W.heap[b]?) : Held W' b A xs := by
  rcases h with h | ⟨P, S, h1, h2⟩
  · exact .inl h
  · exact .inr ⟨P, S, h1, hb.trans h2⟩
set_option maxRecDepth 100000 in
set_option maxHeartbeats 4000000 in
theorem runs_in (n : Nat) (hn : 1 ≤ n) (l Bs gb n₀ : Nat) (A : Option Addr) (c : Nat) (xs : List Int) (hl : xs.length ≤ 1000) (J Jx : List (Int × Nat) → World → Prop)
    (hY : ∀ pre x W, J pre W → pre.length < (runs xs).length → YieldAt Fence.wide (n - 1) Try.prog l #[.int .u32 x.1, .int .i64 (x.2 : Nat)] W fun e W' =>
      (e = .returned (.bool true) ∧ J (pre ++ [x]) W' ∧ Kp2 n₀ Bs gb W W') ∨ (e = .returned (.bool false) ∧ Jx (pre ++ [x]) W'))
    (W : World) (hBs : W.heap[Bs]? = some (.cells #[.slice A xs.length c] 35 (0, 0))) (hH : Held W gb A xs) (h0 : J [] W)
    (hJd : ∀ pre W m, J pre W → J pre (W.drewN m)) :
    CallsIn Fence.wide n Try.prog 109 #[.func (.yield l) #[] #[], .pointer (some ⟨Bs, 0, none⟩)] W fun e W' => (∃ v, e = .returned v) ∧
      ((∃ ys, ys = runs xs ∧ J ys W') ∨ (∃ pre, (∃ k, k ≤ (runs xs).length ∧ pre = (runs xs).take k) ∧ Jx pre W')) := by
  have HY := Aside0.mk hY
  have HJD := Aside0.mk hJd
  have HBS := Aside0.mk hBs
  have HH := Aside0.mk hH
  have H0 := Aside0.mk h0
  have hb0 : W.cell? ⟨Bs, 0, none⟩ = some (.slice A xs.length c) := (blk_cell hBs 0).trans rfl
  clear hY hJd hBs hH h0
  refine callsIn_of_wp Try.func109 rfl (by trivial) ?_ rfl
  simp only [Try.ntmps109, List.size_toArray, List.length_cons, List.length_nil, Nat.reduceAdd, Nat.reduceSub, Array.replicate_succ, Array.replicate_zero, List.push_toArray, List.append_toArray, List.nil_append, List.cons_append]
  gi_wp2
  gi_loopw [3] (fun i wr => ∃ (k : Nat) (pre : List (Int × Nat)), k ≤ xs.length ∧ i = .int .i64 (k : Nat) ∧ Aside0 (runs xs = pre ++ runs (xs.drop k)) ∧ Aside0 (J pre wr) ∧ Aside0 (Kp2 n₀ Bs gb W wr))
    (fun i _ => xs.length - (intOf i).toNat)
  case atStart => exact ⟨0, [], Nat.zero_le _, rfl, ⟨rfl⟩, H0, ⟨Kp2.refl _ _ _ _⟩⟩
  case round =>
    obtain ⟨k, pre, hk, rfl, HR, HJ, HN⟩ := hrel
    have hcb := (cell_heap HN.out.2.1 0).trans hb0
    by_cases hlt : k < xs.length
    · have hlt2 : (k : Int) < (xs.length : Int) := by omega
      obtain ⟨o, rfl, hcells⟩ := (HH.out.kept HN.out.2.2).cell (by omega)
      have HCL := Aside0.mk hcells
      have hck := hcells k hlt
      obtain ⟨x, hx⟩ : ∃ x, x = xs.getD k 0 := ⟨_, rfl⟩
      rw [← hx] at hck
      obtain ⟨r, hr⟩ : ∃ r, r = xs.drop (k + 1) := ⟨_, rfl⟩
      have hrl : r.length = xs.length - (k + 1) := by rw [hr, List.length_drop]
      have HRE := Aside0.mk (show xs.drop k = x :: r by
        rw [hx, hr, List.drop_eq_getElem_cons hlt]
        simp [List.getD_eq_getElem?_getD, List.getElem?_eq_getElem hlt])
      have HRR := Aside0.mk hr
      have HRL := Aside0.mk hrl
      clear hcells hx hr hrl
      obtain ⟨wo, rfl⟩ : ∃ wo : World, wo = wr := ⟨_, rfl⟩
      gi_wp2
      gi_loopw [4] (fun i wq => ∃ (m q : Nat), 1 ≤ m ∧ m ≤ r.length + 1 ∧ i = .int .i64 (m : Nat) ∧ wq = wo.drewN q ∧ Aside0 (runN x 1 r = runN x m (r.drop (m - 1)))) (fun i _ => xs.length - (intOf i).toNat)
      case atStart => exact ⟨1, 0, Nat.le_refl _, by omega, rfl, rfl, ⟨rfl⟩⟩
      case round =>
        obtain ⟨m, q, hm1, hm2, rfl, rfl, HM⟩ := hrel
        by_cases hkm : k + m < xs.length
        · have hcm := HCL.out (k + m) hkm
          have hkm2 : (k : Int) + (m : Int) < (xs.length : Int) := by omega
          have hkmw : IntKind.i64.wrap ((k : Int) + (m : Int)) = (k : Int) + (m : Int) := by rw [IntKind.wrap_i64]; omega
          have hkm3 : (0 : Int) ≤ (k : Int) + (m : Int) := by omega
          have hkm4 : ((k : Int) + (m : Int)).toNat = k + m := by omega
          obtain ⟨y, hy⟩ : ∃ y, y = xs.getD (k + m) 0 := ⟨_, rfl⟩
          rw [← hy] at hcm
          have HD := Aside0.mk (show r.drop (m - 1) = y :: r.drop m by
            rw [HRR.out, List.drop_drop, List.drop_drop, show k + 1 + (m - 1) = k + m by omega, List.drop_eq_getElem_cons hkm, show k + m + 1 = k + 1 + m by omega, hy]
            simp [List.getD_eq_getElem?_getD, List.getElem?_eq_getElem hkm])
          clear hy
          have HST := Aside0.mk (fun W => step_calls x m (by omega) W)
          by_cases hq : y = (x + (m : Int)) % 4294967296
          · have hqb : (y == (x + (m : Int)) % 4294967296) = true := by simp [hq]
            have HQ := Aside0.mk hq
            clear hq
            gi_wp2
            gi_quiet ((gi_at_call 107; exact (callsIn_wide.2 (HST.out _)).mono fun e w' ⟨h1, h2⟩ => ⟨h1, ⟨_, h2⟩⟩))
            gi_wp2
            exact ⟨⟨m + 1, q + nq, by omega, by have := HRL.out; omega, by go_num, by first | rfl | simp, ⟨by rw [HM.out, HD.out, runN, if_pos HQ.out, Nat.add_sub_cancel]⟩⟩, by simp [intOf]; omega⟩
          · have hqb : (y == (x + (m : Int)) % 4294967296) = false := by simp [hq]
            have HQ := Aside0.mk hq
            clear hq
            gi_wp2
            gi_quiet ((gi_at_call 107; exact (callsIn_wide.2 (HST.out _)).mono fun e w' ⟨h1, h2⟩ => ⟨h1, ⟨_, h2⟩⟩))
            have HM2 := Aside0.mk (show runN x 1 r = m by rw [HM.out, HD.out, runN, if_neg HQ.out])
            have HYK := Aside0.mk (HY.out pre (x, m) (wo.drewN (q + nq)) (HJD.out _ _ _ HJ.out) (by have h := congrArg List.length HR.out; rw [HRE.out, runs_cons] at h; simp at h; omega))
            obtain ⟨fn, tmps, assign, body, hy, hR⟩ := HYK.out
            dsimp only at hy
            have hR2 := Aside0.mk (hR.mono (fun e W' h => (show ∃ b : Bool, e = .returned (.bool b) ∧ Aside0 ((b = true ∧ J (pre ++ [(x, m)]) W' ∧ Kp2 n₀ Bs gb (wo.drewN (q + nq)) W') ∨ (b = false ∧ Jx (pre ++ [(x, m)]) W')) from by
              rcases h with ⟨rfl, h1, h2⟩ | ⟨rfl, h⟩
              · exact ⟨true, rfl, ⟨.inl ⟨rfl, h1, h2⟩⟩⟩
              · exact ⟨false, rfl, ⟨.inr ⟨rfl, h⟩⟩⟩)))
            clear hR HYK
            have HRN := Aside0.mk (show runs xs = (pre ++ [(x, m)]) ++ runs (xs.drop (k + m)) by
              rw [HR.out, HRE.out, runs_cons, HM2.out, HRR.out, List.drop_drop, show k + 1 + (m - 1) = k + m by omega]
              simp)
            have HTK := Aside0.mk (show (pre ++ [(x, m)]).length ≤ (runs xs).length ∧ pre ++ [(x, m)] = (runs xs).take (pre ++ [(x, m)]).length by
              have h := HRN.out
              generalize runs (xs.drop (k + m)) = t at h
              rw [h]
              exact ⟨by simp, by rw [List.take_left]⟩)
            have HKM := Aside0.mk (show k + m ≤ xs.length by have := HRL.out; omega)
            gi_wp2_with (first | (refine hR2.out.mono ?_; rintro e W3 ⟨b, rfl, HB3⟩))
            all_goals (rcases HB3.out with ⟨hb, hJ3, hk3⟩ | ⟨hb, hJx3⟩)
            all_goals first
              | (rename_i hbn; rw [hb] at hbn; exact absurd hbn (by decide))
              | (refine bodyPost_ret (results_none rfl _ _ _) rfl ?_; exact ⟨⟨_, rfl⟩, .inr ⟨pre ++ [(x, m)], ⟨_, HTK.out.1, HTK.out.2⟩, hJx3⟩⟩)
              | exact ⟨⟨k + m, pre ++ [(x, m)], HKM.out, by go_num, HRN, ⟨hJ3⟩, ⟨(HN.out.trans (Kp2.drewN _ _)).trans hk3⟩⟩, by have := HKM.out; simp [intOf]; omega⟩
        · have hkm2 : ¬ ((k : Int) + (m : Int) < (xs.length : Int)) := by omega
          have hkmw : IntKind.i64.wrap ((k : Int) + (m : Int)) = (k : Int) + (m : Int) := by have := HRL.out; rw [IntKind.wrap_i64]; omega
          have hkd : decide ((k : Int) + (m : Int) < (xs.length : Int)) = false := decide_eq_false hkm2
          gi_wp2
          gi_quiet (fail)
          have HM2 := Aside0.mk (show runN x 1 r = m by have := HRL.out; rw [HM.out, List.drop_eq_nil_of_le (by omega)]; rfl)
          have HYK := Aside0.mk (HY.out pre (x, m) (wo.drewN (q + nq)) (HJD.out _ _ _ HJ.out) (by have h := congrArg List.length HR.out; rw [HRE.out, runs_cons] at h; simp at h; omega))
          obtain ⟨fn, tmps, assign, body, hy, hR⟩ := HYK.out
          dsimp only at hy
          have hR2 := Aside0.mk (hR.mono (fun e W' h => (show ∃ b : Bool, e = .returned (.bool b) ∧ Aside0 ((b = true ∧ J (pre ++ [(x, m)]) W' ∧ Kp2 n₀ Bs gb (wo.drewN (q + nq)) W') ∨ (b = false ∧ Jx (pre ++ [(x, m)]) W')) from by
            rcases h with ⟨rfl, h1, h2⟩ | ⟨rfl, h⟩
            · exact ⟨true, rfl, ⟨.inl ⟨rfl, h1, h2⟩⟩⟩
            · exact ⟨false, rfl, ⟨.inr ⟨rfl, h⟩⟩⟩)))
          clear hR HYK
          have HRN := Aside0.mk (show runs xs = (pre ++ [(x, m)]) ++ runs (xs.drop (k + m)) by
            rw [HR.out, HRE.out, runs_cons, HM2.out, HRR.out, List.drop_drop, show k + 1 + (m - 1) = k + m by omega]
            simp)
          have HTK := Aside0.mk (show (pre ++ [(x, m)]).length ≤ (runs xs).length ∧ pre ++ [(x, m)] = (runs xs).take (pre ++ [(x, m)]).length by
            have h := HRN.out
            generalize runs (xs.drop (k + m)) = t at h
            rw [h]
            exact ⟨by simp, by rw [List.take_left]⟩)
          have HKM := Aside0.mk (show k + m ≤ xs.length by have := HRL.out; omega)
          gi_wp2_with (first | (refine hR2.out.mono ?_; rintro e W3 ⟨b, rfl, HB3⟩))
          all_goals (rcases HB3.out with ⟨hb, hJ3, hk3⟩ | ⟨hb, hJx3⟩)
          all_goals first
            | (rename_i hbn; rw [hb] at hbn; exact absurd hbn (by decide))
            | (refine bodyPost_ret (results_none rfl _ _ _) rfl ?_; exact ⟨⟨_, rfl⟩, .inr ⟨pre ++ [(x, m)], ⟨_, HTK.out.1, HTK.out.2⟩, hJx3⟩⟩)
            | exact ⟨⟨k + m, pre ++ [(x, m)], HKM.out, by go_num, HRN, ⟨hJ3⟩, ⟨(HN.out.trans (Kp2.drewN _ _)).trans hk3⟩⟩, by have := HKM.out; simp [intOf]; omega⟩
    · obtain rfl : k = xs.length := by omega
      have hlt2 : ¬ ((xs.length : Int) < (xs.length : Int)) := Int.lt_irrefl _
      have hsl : ∃ o, True := ⟨0, trivial⟩
      gi_wp2
      go_end0
      refine ⟨⟨_, rfl⟩, .inl ?_⟩
      have h := HR.out
      rw [List.drop_length] at h
      rw [show runs [] = [] from rfl, List.append_nil] at h
      rw [h]
      exact HJ.out
end Go.Proofs.Ytkginabioolmiaa.Gp
