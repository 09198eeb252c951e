import Derived.Test.YtkginabioolmiaaGpA
import Derived.WalkSpells
import Derived.WalkLawsBesides
import Derived.Outline
import Derived.Deep.QuietTactic
import Derived.BigQuiet
import Derived.Deep.RegionWith
import Derived.RegionTactic
import Derived.StillTailTactics
import Derived.Lib.Hide
/- A tracker in memory; where a TSN stands among those beyond: place. -/
namespace Go.Proofs.Ytkginabioolmiaa.Gp
open Go.RowKit Go.Shelf Go.Proofs.YtkginabioolmiaaW.PrintWords Go.Proofs.YtkginabioolmiaaW.PrintLast Go.Proofs.YtkginabioolmiaaW.PrintMore Go.Proofs.Ytkginabioolmiaa.Sh
set_option linter.unusedVariables false
set_option linter.unusedSimpArgs false
/-- How far a TSN is behind another one. -/
def far (c x : Int) : Int := (x - c) % 4294967296
theorem far_nn (c x : Int) : 0 ≤ far c x := Int.emod_nonneg _ (by decide)
theorem far_lt (c x : Int) : far c x < 4294967296 := Int.emod_lt_of_pos _ (by decide)
def U32 (x : Int) : Prop := 0 ≤ x ∧ x < 4294967296
theorem far_inj {c x y : Int} (hx : U32 x) (hy : U32 y) (h : far c x = far c y) : x = y := by
  unfold far at h
  unfold U32 at hx hy
  omega
/-- In order, none too far. -/
def Srt (c : Int) (xs : List Int) : Prop := xs.Pairwise (fun a b => far c a < far c b)
/-- A tracker. -/
def TrAt (w : World) (B p : Nat) (c : Int) (v : Value) (xs : List Int) (u : Value) (ds : List Int) : Prop :=
  B ≤ p ∧ w.heap[p]? = some (.cells #[.int .u32 c, v, u] 101 (0, 0)) ∧ UQ w B v xs ∧ UQ w B u ds ∧ ∀ k, v.ownBlock = some k → u.ownBlock ≠ some k
theorem TrAt.lt {w : World} {B p : Nat} {c : Int} {v u : Value} {xs ds : List Int} (h : TrAt w B p c v xs u ds) : p < w.heap.size := blk_lt h.2.1
theorem TrAt.keep {w w' : World} {B p : Nat} {c : Int} {v u : Value} {xs ds : List Int} (h : TrAt w B p c v xs u ds) (hp : w'.heap[p]? = w.heap[p]?) (hv : ∀ k, v.ownBlock = some k → w'.heap[k]? = w.heap[k]?) (hu : ∀ k, u.ownBlock = some k → w'.heap[k]? = w.heap[k]?) : TrAt w' B p c v xs u ds :=
  ⟨h.1, hp.trans h.2.1, uq_move h.2.2.1 hv, uq_move h.2.2.2.1 hu, h.2.2.2.2⟩
theorem TrAt.below {w w' : World} {B p : Nat} {c : Int} {v u : Value} {xs ds : List Int} (h : TrAt w B p c v xs u ds) (hb : Below w.heap.size w w') : TrAt w' B p c v xs u ds :=
  h.keep (hb.block p h.lt) (fun k hk => hb.block k (Kd.Q_lt h.2.2.1 k hk)) (fun k hk => hb.block k (Kd.Q_lt h.2.2.2.1 k hk))
theorem TrAt.drewN {w : World} {B p : Nat} {c : Int} {v u : Value} {xs ds : List Int} (h : TrAt w B p c v xs u ds) (m : Nat) : TrAt (w.drewN m) B p c v xs u ds := h.below (pw_below_drewN (Below.refl _ _) m)
theorem far_calls (a b : Int) (w : World) : Calls Try.prog 44 #[.int .u32 a, .int .u32 b] w fun e w' => e = .returned (.int .i64 (far a b)) ∧ w = w' := by
  have hf : ∀ x, IntKind.u32.wrap x = x % 4294967296 := fun x => rfl
  go_enter Try.func44, Try.ntmps44
  go_wp2
  go_ret
  exact ⟨rfl, rfl⟩
theorem u32_q (a b : Int) (W : World) : Calls Try.prog 44 #[.int .u32 a, .int .u32 b] W fun e w' => e = .returned (.int .i64 (far a b)) ∧ w' = W := (far_calls a b W).mono fun _ _ ⟨h1, h2⟩ => ⟨h1, h2.symm⟩
theorem cmp_calls {W : World} {X p : Nat} {c : Int} {v u : Value} (hb : W.heap[X]? = some (.cells #[.pointer (some ⟨p, 0, none⟩)] 26 (0, 0))) (hp : W.heap[p]? = some (.cells #[.int .u32 c, v, u] 101 (0, 0))) (a b : Int) :
    Calls Try.prog 104 #[.int .u32 a, .int .u32 b, .pointer (some ⟨X, 0, none⟩)] W fun e w' => e = .returned (.int .i64 (far c a - far c b)) ∧ ∃ n, w' = W.drewN n := by
  have h1 := (blk_cell hb 0).trans rfl
  have h2 := (blk_cell hp 0).trans rfl
  have ha := far_nn c a
  have ha2 := far_lt c a
  have hb1 := far_nn c b
  have hb2 := far_lt c b
  have hw : IntKind.i64.wrap (far c a - far c b) = far c a - far c b := by rw [IntKind.wrap_i64]; omega
  have hw2 : wrap64 (far c a - far c b) = far c a - far c b := by unfold wrap64; omega
  clear hb hp
  go_enter Try.func104, Try.ntmps104
  go_wp2
  go_quiet ((go_at_call 44; exact Calls.quiet_of_same (u32_q _ _ _)))
  go_wp2
  go_ret
  exact ⟨rfl, ⟨_, rfl⟩⟩
theorem drewN_heap (w : World) (n : Nat) : (w.drewN n).heap = w.heap := rfl
theorem drewN_add (w : World) (n m : Nat) : (w.drewN n).drewN m = w.drewN (n + m) := by
  unfold World.drewN
  simp [Nat.add_assoc]
def Pos (c : Int) (xs : List Int) (x : Int) (i : Nat) : Prop := i ≤ xs.length ∧ (∀ q, q < i → far c (xs.getD q 0) < far c x) ∧ (∀ q, i ≤ q → q < xs.length → far c x ≤ far c (xs.getD q 0))
theorem srt_lt {c : Int} {xs : List Int} (h : Srt c xs) {i j : Nat} (hij : i < j) (hj : j < xs.length) : far c (xs.getD i 0) < far c (xs.getD j 0) := by
  have := List.pairwise_iff_getElem.1 h i j (by omega) hj hij
  rw [List.getD_eq_getElem?_getD, List.getD_eq_getElem?_getD, List.getElem?_eq_getElem hj, List.getElem?_eq_getElem (by omega : i < xs.length)]
  exact this
/-- Where it stands, and whether it is there. -/
def Placed (W : World) (c : Int) (xs : List Int) (x : Int) (e : Ending) (w' : World) : Prop :=
  ∃ i : Nat, Pos c xs x i ∧ e = .returned (.tuple #[.int .i64 i, .bool (decide (x ∈ xs))]) ∧ ∃ n, w' = W.drewN n
theorem pos_mem {c : Int} {xs : List Int} {x : Int} {i : Nat} (hp : Pos c xs x i) (hs : Srt c xs) (hx : U32 x) (hu : ∀ y ∈ xs, U32 y) : x ∈ xs ↔ i < xs.length ∧ far c (xs.getD i 0) - far c x = 0 := by
  constructor
  · intro h
    obtain ⟨q, hq, rfl⟩ := List.getElem_of_mem h
    have e : xs.getD q 0 = xs[q] := by rw [List.getD_eq_getElem?_getD, List.getElem?_eq_getElem hq]; rfl
    rcases Nat.lt_or_ge q i with h1 | h1
    · have := hp.2.1 q h1
      rw [e] at this
      omega
    · have hil : i < xs.length := by omega
      have h2 := hp.2.2 i (Nat.le_refl _) hil
      refine ⟨hil, ?_⟩
      rcases Nat.lt_or_eq_of_le h1 with h3 | h3
      · have h4 := srt_lt hs h3 hq
        rw [e] at h4
        omega
      · subst h3
        rw [e]
        omega
  · rintro ⟨h1, h2⟩
    have : xs.getD i 0 = xs[i] := by rw [List.getD_eq_getElem?_getD, List.getElem?_eq_getElem h1]; rfl
    rw [this] at h2
    have h3 := far_inj (hu _ (List.getElem_mem h1)) hx (by omega : far c xs[i] = far c x)
    rw [← h3]
    exact List.getElem_mem h1
set_option maxRecDepth 100000 in
set_option maxHeartbeats 1000000 in
theorem search_calls {W : World} {X p : Nat} {c : Int} {v u : Value} (hb : W.heap[X]? = some (.cells #[.pointer (some ⟨p, 0, none⟩)] 26 (0, 0))) (hp : W.heap[p]? = some (.cells #[.int .u32 c, v, u] 101 (0, 0))) {A : Option Addr} {cc : Nat} {xs : List Int} (hC : Kd.C (Kd.int .u32) W A xs.length xs) (hs : Srt c xs) (hl : xs.length ≤ 1000) (hu : ∀ y ∈ xs, U32 y) (x : Int) (hx : U32 x) :
    Calls Try.prog 103 #[.slice A xs.length cc, .int .u32 x, .func (.func 104) #[] #[.pointer (some ⟨X, 0, none⟩)]] W (Placed W c xs x) := by
  have HC := Aside0.mk hC
  have HS := Aside0.mk hs
  have HU := Aside0.mk hu
  have HX := Aside0.mk hx
  have HM := Aside0.mk (fun m a b => cmp_calls (W := W.drewN m) (by rw [drewN_heap]; exact hb) (by rw [drewN_heap]; exact hp) a b)
  clear hb hp hC hs hu hx
  go_enter Try.func103, Try.ntmps103
  go_wp2_with fail
  go_loopw [9, 10] (fun i j wr => ∃ a b m : Nat, a ≤ b ∧ b ≤ xs.length ∧ i = .int .i64 a ∧ j = .int .i64 b ∧ wr = W.drewN m ∧ Aside0 ((∀ q, q < a → far c (xs.getD q 0) < far c x) ∧ (∀ q, b ≤ q → q < xs.length → far c x ≤ far c (xs.getD q 0)))) (fun i j _ => ((intOf j).toNat - (intOf i).toNat))
  case atStart => exact ⟨0, xs.length, 0, Nat.zero_le _, Nat.le_refl _, rfl, rfl, rfl, ⟨fun q h => absurd h (by omega), fun q h1 h2 => absurd h1 (by omega)⟩⟩
  case round =>
    obtain ⟨a, b, m, hab, hbl, rfl, rfl, rfl, HI⟩ := hrel
    by_cases hlt : a < b
    · have hlt2 : (a : Int) < (b : Int) := by omega
      obtain ⟨h, hh⟩ : ∃ h : Nat, h = (a + b) / 2 := ⟨_, rfl⟩
      have hh2 : ((a : Int) + (b : Int)) / 2 = (h : Int) := by omega
      have hah : a ≤ h := by omega
      have hhb : h < b := by omega
      obtain ⟨ad, rfl, hcell⟩ := Kd.at_int HC.out (h : Int) (by omega) (by omega)
      rw [Int.toNat_natCast] at hcell
      obtain ⟨y, hy⟩ : ∃ y, y = rd xs (h : Int) := ⟨_, rfl⟩
      rw [← hy] at hcell
      have HY := Aside0.mk (show xs.getD h 0 = y from by rw [hy]; unfold rd; rw [Int.toNat_natCast])
      have hhl : (h : Int) < (xs.length : Int) := by omega
      clear hy hh
      have hy1 := far_nn c y
      have hy2 := far_lt c y
      have hx1 := far_nn c x
      have hx2 := far_lt c x
      by_cases hng : far c y - far c x < 0
      · have HN := Aside0.mk hng
        go_wp2_with (first | (go_at_call 104; refine (HM.out m _ _).mono ?_; rintro e w' ⟨rfl, n, rfl⟩))
        go_roundw
        case rel =>
          refine ⟨h + 1, b, m + n, by omega, hbl, by go_num, rfl, rfl, ⟨fun q hq => ?_, HI.out.2⟩⟩
          rcases Nat.lt_or_eq_of_le (Nat.le_of_lt_succ hq) with h1 | h1
          · have h2 := srt_lt HS.out h1 (by omega)
            rw [HY.out] at h2
            have := HN.out
            omega
          · subst h1
            rw [HY.out]
            have := HN.out
            omega
        case measure => simp [intOf]; omega
      · have HN := Aside0.mk hng
        go_wp2_with (first | (go_at_call 104; refine (HM.out m _ _).mono ?_; rintro e w' ⟨rfl, n, rfl⟩))
        go_roundw
        case rel =>
          refine ⟨a, h, m + n, hah, by omega, rfl, rfl, rfl, ⟨HI.out.1, fun q hq hql => ?_⟩⟩
          rcases Nat.lt_or_eq_of_le hq with h1 | h1
          · have h2 := srt_lt HS.out h1 hql
            rw [HY.out] at h2
            have := HN.out
            omega
          · subst h1
            rw [HY.out]
            have := HN.out
            omega
        case measure => simp [intOf]; omega
    · obtain rfl : a = b := by omega
      have hP : Pos c xs x a := ⟨hbl, HI.out⟩
      have HP := Aside0.mk hP
      have hm := pos_mem hP HS.out HX.out HU.out
      by_cases hal : a < xs.length
      · have hal2 : (a : Int) < (xs.length : Int) := by omega
        obtain ⟨ad, rfl, hcell⟩ := Kd.at_int HC.out (a : Int) (by omega) (by omega)
        rw [Int.toNat_natCast] at hcell
        obtain ⟨y, hy⟩ : ∃ y, y = rd xs (a : Int) := ⟨_, rfl⟩
        rw [← hy] at hcell
        have hya : xs.getD a 0 = y := by rw [hy]; unfold rd; rw [Int.toNat_natCast]
        rw [hya] at hm
        have HD := Aside0.mk (show decide (x ∈ xs) = (far c y - far c x == 0) from by
          rw [Bool.eq_iff_iff, decide_eq_true_iff, hm]
          simp [hal])
        clear hm hya hy hP
        go_wp2_with (first | (go_at_call 104; refine (HM.out m _ _).mono ?_; rintro e w' ⟨rfl, n, rfl⟩))
        go_ret2
        rw [← HD.out]
        exact ⟨a, HP.out, rfl, _, rfl⟩
      · have HD := Aside0.mk (show decide (x ∈ xs) = false from decide_eq_false (fun h => hal (hm.1 h).1))
        have hal2 : ¬ ((a : Int) < (xs.length : Int)) := by omega
        clear hm hP
        go_wp2_with fail
        go_ret2
        rw [← HD.out]
        exact ⟨a, HP.out, rfl, m, rfl⟩
set_option maxRecDepth 100000 in
set_option maxHeartbeats 1000000 in
theorem place_calls {w : World} {p B : Nat} {c : Int} {v u : Value} {xs ds : List Int} (h : TrAt w B p c v xs u ds) (hs : Srt c xs) (hl : xs.length ≤ 1000) (hu : ∀ y ∈ xs, U32 y) (x : Int) (hx : U32 x) :
    Calls Try.prog 45 #[.pointer (some ⟨p, 0, none⟩), .int .u32 x] w (fun e w' => ∃ i : Nat, Pos c xs x i ∧ e = .returned (.tuple #[.int .i64 i, .bool (decide (x ∈ xs))]) ∧ Below w.heap.size w w') := by
  obtain ⟨A, cc, rfl, hc, hC⟩ := uq_slice h.2.2.1
  have hw1 := blk_alloc h.2.1 (.cells #[.pointer (some ⟨p, 0, none⟩)] 26)
  have hX := blk_new w (.cells #[.pointer (some ⟨p, 0, none⟩)] 26)
  have HB := Aside0.mk (below_alloc (Below.refl w.heap.size w) (.cells #[.pointer (some ⟨p, 0, none⟩)] 26))
  have HS := Aside0.mk (search_calls hX hw1 (cc := cc) (Kd.C_alloc hC _) hs hl hu x hx)
  have h1 : (w.alloc (.cells #[.pointer (some ⟨p, 0, none⟩)] 26)).cell? ⟨p, 1, none⟩ = some (.slice A xs.length cc) := (blk_cell hw1 1).trans rfl
  have h2 : w.cell? ⟨p, 1, none⟩ = some (.slice A xs.length cc) := (blk_cell h.2.1 1).trans rfl
  clear h hs hu hx hw1 hX hC
  go_enter Try.func45, Try.ntmps45
  go_wp2_with (first | (go_at_call 103; refine HS.out.mono ?_; rintro e w' ⟨i, hP, rfl, n, rfl⟩; have HP := Aside0.mk hP; clear hP))
  go_ret2
  exact ⟨i, HP.out, rfl, b2 HB.out n⟩
theorem half_calls (w : World) : Calls Try.prog 108 #[] w fun e w' => e = .returned (.int .i64 2147483648) ∧ w' = w := by
  have hb : bits BinOp.xor IntKind.u32 IntKind.u32.max 0 = 4294967295 := by decide
  go_enter Try.func108, Try.ntmps108
  go_wp2
  go_ret
  refine ⟨?_, rfl⟩
  show Ending.returned (.int .i64 ((bits BinOp.xor IntKind.u32 IntKind.u32.max 0).tdiv 2 % 4294967296 + 1)) = _
  rw [hb]
  rfl
/-- Ahead of a TSN: by less than half of all numbers. -/
def ahead (c x : Int) : Bool := decide (far c x ≠ 0) && decide (far c x < 2147483648)
theorem far_zero {c x : Int} (hc : U32 c) (hx : U32 x) : far c x = 0 ↔ c = x := by
  unfold far U32 at *
  omega
theorem ahead_calls (w : World) {c x : Int} (hc : U32 c) (hx : U32 x) : Calls Try.prog 48 #[.int .u32 c, .int .u32 x] w fun e w' => e = .returned (.bool (ahead c x)) ∧ ∃ n, w' = w.drewN n := by
  by_cases he : c = x
  · have hd : (c != x) = false := by simp [he]
    have hA : ahead c x = false := by unfold ahead; rw [(far_zero hc hx).2 he]; rfl
    have HA := Aside0.mk hA
    clear hA he hc hx
    go_enter Try.func48, Try.ntmps48
    go_wp2
    go_ret
    exact ⟨by rw [HA.out]; rfl, 0, rfl⟩
  · have hd : (c != x) = true := by simp [he]
    have hA : ahead c x = decide (far c x < 2147483648) := by
      have h0 : far c x ≠ 0 := fun h => he ((far_zero hc hx).1 h)
      unfold ahead
      simp [h0]
    have HA := Aside0.mk hA
    clear hA he hc hx
    go_enter Try.func48, Try.ntmps48
    go_wp2_with (first | (go_at_call 44; refine (u32_q _ _ _).mono ?_; rintro e w' ⟨rfl, rfl⟩) | (go_at_call 108; refine (half_calls _).mono ?_; rintro e w' ⟨rfl, rfl⟩))
    go_ret
    exact ⟨by rw [HA.out]; rfl, 0, rfl⟩
end Go.Proofs.Ytkginabioolmiaa.Gp
