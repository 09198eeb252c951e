import Derived.Test.YtjmgeelblodcgaaDoorEsB
import Derived.RangeFuncNested
import Derived.RangeFuncBound
import Derived.RangeFuncCalls
import Derived.RangeFuncLeaves
import Derived.RangeFuncBox
import Derived.Shelf.Abstract
import Derived.OwnWalkIn
import Derived.TacticsInMore
import Derived.LoopNIn
import Derived.LoopIn
import Derived.Sort.QuietIn
/- The words of a block of 64 bytes: the iterator's contract. -/
namespace Go.Proofs.YtjmgeelblodcgaaDoor.Sx
open Go.RowKit Go.Shelf Go.Proofs.YtjmgeelblodcgaaDoorW.PrintWords Go.Proofs.YtjmgeelblodcgaaDoorW.PrintLast Go.Proofs.YtjmgeelblodcgaaDoorW.PrintMore Go.Proofs.YtjmgeelblodcgaaDoor.Sh
set_option linter.unusedVariables false
set_option linter.unusedSimpArgs false
attribute [local go_sem] Oper.semAt_some
def w4 (z0 z1 z2 z3 : Nat) : Nat := (((z0 * 16777216 % 4294967296) ||| (z1 * 65536 % 4294967296)) ||| (z2 * 256 % 4294967296)) ||| z3
/-- The byte at a place, as a number. -/
def bt8 (l : List Int) (k : Nat) : Nat := (l.getD k 0).toNat
/-- The k-th word of bytes. -/
def wrd (l : List Int) (k : Nat) : Nat := w4 (bt8 l (4 * k)) (bt8 l (4 * k + 1)) (bt8 l (4 * k + 2)) (bt8 l (4 * k + 3))
theorem wrd_eq (l : List Int) (k z0 z1 z2 z3 : Nat) (h0 : z0 = bt8 l (4 * k)) (h1 : z1 = bt8 l (4 * k + 1)) (h2 : z2 = bt8 l (4 * k + 2)) (h3 : z3 = bt8 l (4 * k + 3)) : wrd l k = w4 z0 z1 z2 z3 := by subst h0 h1 h2 h3; rfl
def upto {α : Type} (f : Nat → α) (k : Nat) : List α := (List.range k).map f
theorem upto_succ {α : Type} (f : Nat → α) (k : Nat) : upto f (k + 1) = upto f k ++ [f k] := by simp [upto, List.range_succ]
theorem upto_length {α : Type} (f : Nat → α) (k : Nat) : (upto f k).length = k := by simp [upto]
/-- What comes: a number below 16, a word. -/
abbrev NW := { x : Nat × Nat // x.1 < 16 ∧ x.2 < 4294967296 }
def nth (l : List Int) (k : Nat) : NW := ⟨(k % 16, wrd l k % 4294967296), Nat.mod_lt _ (by decide), Nat.mod_lt _ (by decide)⟩
theorem nth_eq (l : List Int) (k v : Nat) (hk : k < 16) (hv : v < 4294967296) (h : wrd l k = v) : nth l k = ⟨(k, v), hk, hv⟩ := by
  apply Subtype.ext
  show (k % 16, wrd l k % 4294967296) = (k, v)
  rw [h, Nat.mod_eq_of_lt hk, Nat.mod_eq_of_lt hv]
/-- What a round keeps: all below n₀, and one block more. -/
def Kp (n₀ Bs : Nat) (W W' : World) : Prop := Below n₀ W W' ∧ W'.heap[Bs]? = W.heap[Bs]?
theorem cell_heap {W W' : World} {b : Nat} (h : W'.heap[b]? = W.heap[b]?) (k : Nat) : W'.cell? ⟨b, k, none⟩ = W.cell? ⟨b, k, none⟩ := by unfold World.cell?; rw [h]
theorem Kp.trans {n₀ Bs : Nat} {A B C : World} (h : Kp n₀ Bs A B) (h' : Kp n₀ Bs B C) : Kp n₀ Bs A C := ⟨h.1.trans h'.1, h'.2.trans h.2⟩
theorem add_succ (ad : Addr) (q k : Nat) : ad.add (q + (k + 1)) = ⟨ad.block, ad.off + (q + (k + 1)), none⟩ := by unfold Addr.add; rw [if_neg (by omega)]
theorem wmul (a b y : Nat) (hy : y = a * b % 4294967296) : IntKind.u32.wrap ((a : Int) * ((b : Nat) : Int)) = (y : Int) := by
  subst hy
  show ((a : Int) * (b : Int)) % 4294967296 = _
  rw [Int.natCast_emod, Int.natCast_mul]; rfl
theorem w4_lt {z0 z1 z2 z3 : Nat} (b0 : z0 < 256) (b1 : z1 < 256) (b2 : z2 < 256) (b3 : z3 < 256) : w4 z0 z1 z2 z3 < 4294967296 :=
  or_lt32 (or_lt32 (or_lt32 (Nat.mod_lt _ (by decide)) (Nat.mod_lt _ (by decide))) (Nat.mod_lt _ (by decide))) (by omega)
theorem wfacts (z0 z1 z2 z3 : Nat) (b0 : z0 < 256) (b1 : z1 < 256) (b2 : z2 < 256) (b3 : z3 < 256) : ∃ y0 y1 y2 o1 o2 : Nat,
    IntKind.u32.wrap ((z0 : Int) * 16777216) = (y0 : Int) ∧ IntKind.u32.wrap ((z1 : Int) * 65536) = (y1 : Int) ∧ IntKind.u32.wrap ((z2 : Int) * 256) = (y2 : Int) ∧
    bits .or .u32 (y0 : Int) (y1 : Int) = (o1 : Int) ∧ bits .or .u32 (o1 : Int) (y2 : Int) = (o2 : Int) ∧ bits .or .u32 (o2 : Int) (z3 : Int) = ((w4 z0 z1 z2 z3 : Nat) : Int) := by
  have h0 : z0 * 16777216 % 4294967296 < 4294967296 := Nat.mod_lt _ (by decide)
  have h1 : z1 * 65536 % 4294967296 < 4294967296 := Nat.mod_lt _ (by decide)
  have h2 : z2 * 256 % 4294967296 < 4294967296 := Nat.mod_lt _ (by decide)
  refine ⟨z0 * 16777216 % 4294967296, z1 * 65536 % 4294967296, z2 * 256 % 4294967296, _, _, wmul z0 16777216 _ rfl, wmul z1 65536 _ rfl, wmul z2 256 _ rfl, or32 _ _ h0 h1, or32 _ _ (or_lt32 h0 h1) h2, ?_⟩
  rw [or32 _ _ (or_lt32 (or_lt32 h0 h1) h2) (by omega)]
  rfl
set_option maxRecDepth 100000 in
set_option maxHeartbeats 2000000 in
theorem words1_in (n : Nat) (hn : 1 ≤ n) (l Bs n₀ c : Nat) (ad : Addr) (bs : List Int) (hl : bs.length = 64) (hb : ad.block < n₀) (hbs : ∀ j, j < 64 → bt8 bs j < 256) (J Jx : List NW → World → Prop)
    (hY : ∀ pre x W, J pre W → pre.length < 16 → YieldAt Fence.wide (n - 1) Tryd.prog l #[.int .i64 (x.1.1 : Int), .int .u32 (x.1.2 : Int)] W fun e W' =>
      (e = .returned (.bool true) ∧ J (pre ++ [x]) W' ∧ Kp n₀ Bs W W') ∨ (e = .returned (.bool false) ∧ Jx (pre ++ [x]) W'))
    (W : World) (hBs : W.cell? ⟨Bs, 0, none⟩ = some (.slice (some ad) 64 c)) (hc : ∀ j, j < 64 → W.cell? (ad.add j) = some (.int .u8 (bt8 bs j : Nat))) (h0 : J [] W)
    (hJd : ∀ pre W m, J pre W → J pre (W.drewN m)) :
    CallsIn Fence.wide n Tryd.prog 47 #[.func (.yield l) #[] #[], .pointer (some ⟨Bs, 0, none⟩)] W fun e W' => (∃ v, e = .returned v) ∧
      ((∃ ys, ys = upto (nth bs) 16 ∧ J ys W') ∨ (∃ pre, (∃ k, k ≤ 16 ∧ pre = upto (nth bs) k) ∧ Jx pre W')) := by
  have HY := Aside0.mk hY
  have HBS := Aside0.mk hbs
  have HC := Aside0.mk hc
  have HJD := Aside0.mk hJd
  clear hY hbs hc hJd
  refine callsIn_of_wp Tryd.func47 rfl (by trivial) ?_ rfl
  simp only [Tryd.ntmps47, List.size_toArray, List.length_cons, List.length_nil, Nat.reduceAdd, Nat.reduceSub, Array.replicate_succ, Array.replicate_zero, List.push_toArray, List.append_toArray, List.nil_append, List.cons_append]
  gi_wp2
  gi_loopw [3] (fun i wr => ∃ k : Nat, k ≤ 16 ∧ i = .int .i64 (4 * k : Nat) ∧ J (upto (nth bs) k) wr ∧ Kp n₀ Bs W wr)
    (fun i _ => 64 - (intOf i).toNat)
  case atStart => exact ⟨0, Nat.zero_le _, rfl, h0, Below.refl _ _, rfl⟩
  case round =>
    obtain ⟨k, hk, rfl, hJs, hnx⟩ := hrel
    have hcb := (cell_heap hnx.2 0).trans hBs
    by_cases hlt : k < 16
    · have hcx : ∀ j, j < 64 → wr.cell? (ad.add j) = some (.int .u8 (bt8 bs j : Nat)) := fun j h => (hnx.1.cell (p := ad.add j) (by rw [add_block]; exact hb)).trans (HC.out j h)
      have hx0 := hcx (4 * k) (by omega)
      have hx1 := hcx (4 * k + 1) (by omega)
      have hx2 := hcx (4 * k + 2) (by omega)
      have hx3 := hcx (4 * k + 3) (by omega)
      clear hcx
      obtain ⟨z0, hz0⟩ : ∃ z, z = bt8 bs (4 * k) := ⟨_, rfl⟩
      obtain ⟨z1, hz1⟩ : ∃ z, z = bt8 bs (4 * k + 1) := ⟨_, rfl⟩
      obtain ⟨z2, hz2⟩ : ∃ z, z = bt8 bs (4 * k + 2) := ⟨_, rfl⟩
      obtain ⟨z3, hz3⟩ : ∃ z, z = bt8 bs (4 * k + 3) := ⟨_, rfl⟩
      have HZ := Aside0.mk (wrd_eq bs k z0 z1 z2 z3 hz0 hz1 hz2 hz3)
      have b0 : z0 < 256 := by rw [hz0]; exact HBS.out _ (by omega)
      have b1 : z1 < 256 := by rw [hz1]; exact HBS.out _ (by omega)
      have b2 : z2 < 256 := by rw [hz2]; exact HBS.out _ (by omega)
      have b3 : z3 < 256 := by rw [hz3]; exact HBS.out _ (by omega)
      rw [← hz0] at hx0
      rw [← hz1] at hx1
      rw [← hz2] at hx2
      rw [← hz3] at hx3
      clear hz0 hz1 hz2 hz3
      obtain ⟨q, hq⟩ : ∃ q, q = 4 * k := ⟨_, rfl⟩
      rw [← hq] at hx0 hx1 hx2 hx3 ⊢
      have hq4 : Int.tdiv (q : Int) 4 = k := by rw [Int.tdiv_eq_ediv_of_nonneg (by omega)]; omega
      have q1 : (q : Int) + 3 < 64 := by omega
      have q4 : (q : Int) < 64 := by omega
      have q2 : (q : Int) + 2 < 64 := by omega
      have q3 : (q : Int) + 1 < 64 := by omega
      have v0 := wrap32 z0 (by omega)
      have v1 := wrap32 z1 (by omega)
      have v2 := wrap32 z2 (by omega)
      have v3 := wrap32 z3 (by omega)
      have n1 : (0 : Int) ≤ (q : Int) + 1 := by omega
      have n2 : (0 : Int) ≤ (q : Int) + 2 := by omega
      have n3 : (0 : Int) ≤ (q : Int) + 3 := by omega
      have t1 : ((q : Int) + 1).toNat = q + 1 := by omega
      have t2 : ((q : Int) + 2).toNat = q + 2 := by omega
      have t3 : ((q : Int) + 3).toNat = q + 3 := by omega
      have u1 : wrap64 ((q : Int) + 1) = (q : Int) + 1 := by unfold wrap64; omega
      have u2 : wrap64 ((q : Int) + 2) = (q : Int) + 2 := by unfold wrap64; omega
      have u3 : wrap64 ((q : Int) + 3) = (q : Int) + 3 := by unfold wrap64; omega
      have HQ := Aside0.mk hq
      clear hq
      rw [add_succ ad q 0] at hx1
      rw [add_succ ad q 1] at hx2
      rw [add_succ ad q 2] at hx3
      obtain ⟨y0, y1, y2, o1, o2, hws⟩ := wfacts z0 z1 z2 z3 b0 b1 b2 b3
      obtain ⟨wv, hwv⟩ : ∃ y, y = w4 z0 z1 z2 z3 := ⟨_, rfl⟩
      have hwl : wv < 4294967296 := by rw [hwv]; exact w4_lt b0 b1 b2 b3
      rw [← hwv] at hws HZ
      have HWS := Aside0.mk hws
      clear hwv hws
      have HT := Aside0.mk (⟨⟨t1, t2, t3⟩, ⟨u1, u2, u3⟩, ⟨n1, n2, n3⟩, ⟨v0, v1, v2, v3⟩, ⟨q2, q3, q4, hq4⟩⟩ : (_ ∧ _ ∧ _) ∧ (_ ∧ _ ∧ _) ∧ (_ ∧ _ ∧ _) ∧ (_ ∧ _ ∧ _ ∧ _) ∧ (_ ∧ _ ∧ _ ∧ _))
      clear t1 t2 t3 u1 u2 u3 n1 n2 n3 v0 v1 v2 v3 q2 q3 q4 hq4
      have HJ := Aside0.mk hJs
      have HNX := Aside0.mk hnx
      clear hJs hnx
      gi_wp2
      obtain ⟨s0, s1, s2, e1, e2, e3⟩ := HWS.out
      obtain ⟨⟨t1, t2, t3⟩, ⟨u1, u2, u3⟩, ⟨n1, n2, n3⟩, ⟨v0, v1, v2, v3⟩, ⟨q2, q3, q4, hq4⟩⟩ := HT.out
      refine wpIn_wide.2 ?_
      refine start_ (n := 30) (S := fun w' => w'.cell? ⟨Bs, 0, none⟩ = some (.slice (some ad) 64 c) ∧ w'.cell? (ad.add q) = some (.int .u8 (z0 : Nat)) ∧ w'.cell? ⟨ad.block, ad.off + (q + 1), none⟩ = some (.int .u8 (z1 : Nat)) ∧ w'.cell? ⟨ad.block, ad.off + (q + 2), none⟩ = some (.int .u8 (z2 : Nat)) ∧ w'.cell? ⟨ad.block, ad.off + (q + 3), none⟩ = some (.int .u8 (z3 : Nat))) (ds := []) #[false, false, false, false, false, false, false, false, false, false, false, false, false, false, false, false, false, false, false, false, false, false, false, false, false, false, false, false, false, false] (by kernel_rfl) rfl rfl ⟨hcb, hx0, hx1, hx2, hx3⟩ (fun hHeld => ?_)
      refine pure_ (i := 1) (N := some 13) (v := ?_) (a' := ?_) #[false, true, false, false, false, false, false, false, false, false, false, false, false, false, false, false, false, false, false, false, false, false, false, false, false, false, false, false, false, false] rfl rfl (by kernel_rfl) (fun _ _ _ h => h) (Or.inl ⟨by rfl, ?_⟩) ?_ ?_
      rotate_left
      · intro w'
        go_simp
        with_reducible rfl
      rotate_left
      · simp only [Act.put, List.setIfInBounds_toArray, List.set_cons_zero, List.set_cons_succ, i64_w, i32_w]
        rfl
      refine pure_ (i := 7) (N := some 19) (v := ?_) (a' := ?_) #[false, true, false, false, false, false, false, true, false, false, false, false, false, false, false, false, false, false, false, false, false, false, false, false, false, false, false, false, false, false] rfl rfl (by kernel_rfl) (fun _ _ _ h => h) (Or.inl ⟨by rfl, ?_⟩) ?_ ?_
      rotate_left
      · intro w'
        go_simp
        with_reducible rfl
      rotate_left
      · simp only [Act.put, List.setIfInBounds_toArray, List.set_cons_zero, List.set_cons_succ, i64_w, i32_w]
        rfl
      refine pure_ (i := 8) (N := some 20) (v := ?_) (a' := ?_) #[false, true, false, false, false, false, false, true, true, false, false, false, false, false, false, false, false, false, false, false, false, false, false, false, false, false, false, false, false, false] rfl rfl (by kernel_rfl) (fun _ _ _ h => h) (Or.inl ⟨by rfl, ?_⟩) ?_ ?_
      rotate_left
      · intro w'
        go_simp
        with_reducible rfl
      rotate_left
      · simp only [Act.put, List.setIfInBounds_toArray, List.set_cons_zero, List.set_cons_succ, i64_w, i32_w]
        rfl
      refine pure_ (i := 15) (N := some 27) (v := ?_) (a' := ?_) #[false, true, false, false, false, false, false, true, true, false, false, false, false, false, false, true, false, false, false, false, false, false, false, false, false, false, false, false, false, false] rfl rfl (by kernel_rfl) (fun _ _ _ h => h) (Or.inl ⟨by rfl, ?_⟩) ?_ ?_
      rotate_left
      · intro w'
        go_simp
        with_reducible rfl
      rotate_left
      · simp only [Act.put, List.setIfInBounds_toArray, List.set_cons_zero, List.set_cons_succ, i64_w, i32_w]
        rfl
      refine pure_ (i := 16) (N := some 28) (v := ?_) (a' := ?_) #[false, true, false, false, false, false, false, true, true, false, false, false, false, false, false, true, true, false, false, false, false, false, false, false, false, false, false, false, false, false] rfl rfl (by kernel_rfl) (fun _ _ _ h => h) (Or.inl ⟨by rfl, ?_⟩) ?_ ?_
      rotate_left
      · intro w'
        go_simp
        with_reducible rfl
      rotate_left
      · simp only [Act.put, List.setIfInBounds_toArray, List.set_cons_zero, List.set_cons_succ, i64_w, i32_w]
        rfl
      refine pure_ (i := 23) (N := some 35) (v := ?_) (a' := ?_) #[false, true, false, false, false, false, false, true, true, false, false, false, false, false, false, true, true, false, false, false, false, false, false, true, false, false, false, false, false, false] rfl rfl (by kernel_rfl) (fun _ _ _ h => h) (Or.inl ⟨by rfl, ?_⟩) ?_ ?_
      rotate_left
      · intro w'
        go_simp
        with_reducible rfl
      rotate_left
      · simp only [Act.put, List.setIfInBounds_toArray, List.set_cons_zero, List.set_cons_succ, i64_w, i32_w]
        rfl
      refine pure_ (i := 24) (N := some 36) (v := ?_) (a' := ?_) #[false, true, false, false, false, false, false, true, true, false, false, false, false, false, false, true, true, false, false, false, false, false, false, true, true, false, false, false, false, false] rfl rfl (by kernel_rfl) (fun _ _ _ h => h) (Or.inl ⟨by rfl, ?_⟩) ?_ ?_
      rotate_left
      · intro w'
        go_simp
        with_reducible rfl
      rotate_left
      · simp only [Act.put, List.setIfInBounds_toArray, List.set_cons_zero, List.set_cons_succ, i64_w, i32_w]
        rfl
      refine take_ (i := 0) (N := some 12) (v := ?_) (a' := ?_) #[true, true, false, false, false, false, false, true, true, false, false, false, false, false, false, true, true, false, false, false, false, false, false, true, true, false, false, false, false, false] rfl rfl (by kernel_rfl) (fun _ _ _ h => h) (Or.inl ⟨by rfl, ?_⟩) hHeld ?_ ?_
      rotate_left
      · rintro w' ⟨s0, s1, s2, s3, s4⟩
        go_simp
        with_reducible rfl
      rotate_left
      · simp only [Act.put, List.setIfInBounds_toArray, List.set_cons_zero, List.set_cons_succ, i64_w, i32_w]
        rfl
      refine pure_ (i := 2) (N := some 14) (v := ?_) (a' := ?_) #[true, true, true, false, false, false, false, true, true, false, false, false, false, false, false, true, true, false, false, false, false, false, false, true, true, false, false, false, false, false] rfl rfl (by kernel_rfl) (fun _ _ _ h => h) (Or.inl ⟨by rfl, ?_⟩) ?_ ?_
      rotate_left
      · intro w'
        go_simp
        with_reducible rfl
      rotate_left
      · simp only [Act.put, List.setIfInBounds_toArray, List.set_cons_zero, List.set_cons_succ, i64_w, i32_w]
        rfl
      refine take_ (i := 3) (N := some 15) (v := ?_) (a' := ?_) #[true, true, true, true, false, false, false, true, true, false, false, false, false, false, false, true, true, false, false, false, false, false, false, true, true, false, false, false, false, false] rfl rfl (by kernel_rfl) (fun _ _ _ h => h) (Or.inl ⟨by rfl, ?_⟩) hHeld ?_ ?_
      rotate_left
      · rintro w' ⟨s0, s1, s2, s3, s4⟩
        go_simp
        with_reducible rfl
      rotate_left
      · simp only [Act.put, List.setIfInBounds_toArray, List.set_cons_zero, List.set_cons_succ, i64_w, i32_w]
        rfl
      refine pure_ (i := 4) (N := some 16) (v := ?_) (a' := ?_) #[true, true, true, true, true, false, false, true, true, false, false, false, false, false, false, true, true, false, false, false, false, false, false, true, true, false, false, false, false, false] rfl rfl (by kernel_rfl) (fun _ _ _ h => h) (Or.inl ⟨by rfl, ?_⟩) ?_ ?_
      rotate_left
      · intro w'
        go_simp
        with_reducible rfl
      rotate_left
      · simp only [Act.put, List.setIfInBounds_toArray, List.set_cons_zero, List.set_cons_succ, i64_w, i32_w]
        rfl
      refine pure_ (i := 5) (N := some 17) (v := ?_) (a' := ?_) #[true, true, true, true, true, true, false, true, true, false, false, false, false, false, false, true, true, false, false, false, false, false, false, true, true, false, false, false, false, false] rfl rfl (by kernel_rfl) (fun _ _ _ h => h) (Or.inl ⟨by rfl, ?_⟩) ?_ ?_
      rotate_left
      · intro w'
        go_simp
        with_reducible rfl
      rotate_left
      · simp only [Act.put, List.setIfInBounds_toArray, List.set_cons_zero, List.set_cons_succ, i64_w, i32_w]
        rfl
      refine take_ (i := 6) (N := some 18) (v := ?_) (a' := ?_) #[true, true, true, true, true, true, true, true, true, false, false, false, false, false, false, true, true, false, false, false, false, false, false, true, true, false, false, false, false, false] rfl rfl (by kernel_rfl) (fun _ _ _ h => h) (Or.inl ⟨by rfl, ?_⟩) hHeld ?_ ?_
      rotate_left
      · rintro w' ⟨s0, s1, s2, s3, s4⟩
        go_simp
        with_reducible rfl
      rotate_left
      · simp only [Act.put, List.setIfInBounds_toArray, List.set_cons_zero, List.set_cons_succ, i64_w, i32_w]
        rfl
      refine pure_ (i := 9) (N := some 21) (v := ?_) (a' := ?_) #[true, true, true, true, true, true, true, true, true, true, false, false, false, false, false, true, true, false, false, false, false, false, false, true, true, false, false, false, false, false] rfl rfl (by kernel_rfl) (fun _ _ _ h => h) (Or.inl ⟨by rfl, ?_⟩) ?_ ?_
      rotate_left
      · intro w'
        go_simp
        with_reducible rfl
      rotate_left
      · simp only [Act.put, List.setIfInBounds_toArray, List.set_cons_zero, List.set_cons_succ, i64_w, i32_w]
        rfl
      refine take_ (i := 10) (N := some 22) (v := ?_) (a' := ?_) #[true, true, true, true, true, true, true, true, true, true, true, false, false, false, false, true, true, false, false, false, false, false, false, true, true, false, false, false, false, false] rfl rfl (by kernel_rfl) (fun _ _ _ h => h) (Or.inl ⟨by rfl, ?_⟩) hHeld ?_ ?_
      rotate_left
      · rintro w' ⟨s0, s1, s2, s3, s4⟩
        go_simp
        with_reducible rfl
      rotate_left
      · simp only [Act.put, List.setIfInBounds_toArray, List.set_cons_zero, List.set_cons_succ, i64_w, i32_w]
        rfl
      refine pure_ (i := 11) (N := some 23) (v := ?_) (a' := ?_) #[true, true, true, true, true, true, true, true, true, true, true, true, false, false, false, true, true, false, false, false, false, false, false, true, true, false, false, false, false, false] rfl rfl (by kernel_rfl) (fun _ _ _ h => h) (Or.inl ⟨by rfl, ?_⟩) ?_ ?_
      rotate_left
      · intro w'
        go_simp
        with_reducible rfl
      rotate_left
      · simp only [Act.put, List.setIfInBounds_toArray, List.set_cons_zero, List.set_cons_succ, i64_w, i32_w]
        rfl
      refine pure_ (i := 12) (N := some 24) (v := ?_) (a' := ?_) #[true, true, true, true, true, true, true, true, true, true, true, true, true, false, false, true, true, false, false, false, false, false, false, true, true, false, false, false, false, false] rfl rfl (by kernel_rfl) (fun _ _ _ h => h) (Or.inl ⟨by rfl, ?_⟩) ?_ ?_
      rotate_left
      · intro w'
        go_simp
        with_reducible rfl
      rotate_left
      · simp only [Act.put, List.setIfInBounds_toArray, List.set_cons_zero, List.set_cons_succ, i64_w, i32_w]
        rfl
      refine pure_ (i := 13) (N := some 25) (v := ?_) (a' := ?_) #[true, true, true, true, true, true, true, true, true, true, true, true, true, true, false, true, true, false, false, false, false, false, false, true, true, false, false, false, false, false] rfl rfl (by kernel_rfl) (fun _ _ _ h => h) (Or.inl ⟨by rfl, ?_⟩) ?_ ?_
      rotate_left
      · intro w'
        go_simp
        with_reducible rfl
      rotate_left
      · simp only [Act.put, List.setIfInBounds_toArray, List.set_cons_zero, List.set_cons_succ, i64_w, i32_w]
        rfl
      refine take_ (i := 14) (N := some 26) (v := ?_) (a' := ?_) #[true, true, true, true, true, true, true, true, true, true, true, true, true, true, true, true, true, false, false, false, false, false, false, true, true, false, false, false, false, false] rfl rfl (by kernel_rfl) (fun _ _ _ h => h) (Or.inl ⟨by rfl, ?_⟩) hHeld ?_ ?_
      rotate_left
      · rintro w' ⟨s0, s1, s2, s3, s4⟩
        go_simp
        with_reducible rfl
      rotate_left
      · simp only [Act.put, List.setIfInBounds_toArray, List.set_cons_zero, List.set_cons_succ, i64_w, i32_w]
        rfl
      refine pure_ (i := 17) (N := some 29) (v := ?_) (a' := ?_) #[true, true, true, true, true, true, true, true, true, true, true, true, true, true, true, true, true, true, false, false, false, false, false, true, true, false, false, false, false, false] rfl rfl (by kernel_rfl) (fun _ _ _ h => h) (Or.inl ⟨by rfl, ?_⟩) ?_ ?_
      rotate_left
      · intro w'
        go_simp
        with_reducible rfl
      rotate_left
      · simp only [Act.put, List.setIfInBounds_toArray, List.set_cons_zero, List.set_cons_succ, i64_w, i32_w]
        rfl
      refine take_ (i := 18) (N := some 30) (v := ?_) (a' := ?_) #[true, true, true, true, true, true, true, true, true, true, true, true, true, true, true, true, true, true, true, false, false, false, false, true, true, false, false, false, false, false] rfl rfl (by kernel_rfl) (fun _ _ _ h => h) (Or.inl ⟨by rfl, ?_⟩) hHeld ?_ ?_
      rotate_left
      · rintro w' ⟨s0, s1, s2, s3, s4⟩
        go_simp
        with_reducible rfl
      rotate_left
      · simp only [Act.put, List.setIfInBounds_toArray, List.set_cons_zero, List.set_cons_succ, i64_w, i32_w]
        rfl
      refine pure_ (i := 19) (N := some 31) (v := ?_) (a' := ?_) #[true, true, true, true, true, true, true, true, true, true, true, true, true, true, true, true, true, true, true, true, false, false, false, true, true, false, false, false, false, false] rfl rfl (by kernel_rfl) (fun _ _ _ h => h) (Or.inl ⟨by rfl, ?_⟩) ?_ ?_
      rotate_left
      · intro w'
        go_simp
        with_reducible rfl
      rotate_left
      · simp only [Act.put, List.setIfInBounds_toArray, List.set_cons_zero, List.set_cons_succ, i64_w, i32_w]
        rfl
      refine pure_ (i := 20) (N := some 32) (v := ?_) (a' := ?_) #[true, true, true, true, true, true, true, true, true, true, true, true, true, true, true, true, true, true, true, true, true, false, false, true, true, false, false, false, false, false] rfl rfl (by kernel_rfl) (fun _ _ _ h => h) (Or.inl ⟨by rfl, ?_⟩) ?_ ?_
      rotate_left
      · intro w'
        go_simp
        with_reducible rfl
      rotate_left
      · simp only [Act.put, List.setIfInBounds_toArray, List.set_cons_zero, List.set_cons_succ, i64_w, i32_w]
        rfl
      refine pure_ (i := 21) (N := some 33) (v := ?_) (a' := ?_) #[true, true, true, true, true, true, true, true, true, true, true, true, true, true, true, true, true, true, true, true, true, true, false, true, true, false, false, false, false, false] rfl rfl (by kernel_rfl) (fun _ _ _ h => h) (Or.inl ⟨by rfl, ?_⟩) ?_ ?_
      rotate_left
      · intro w'
        go_simp
        with_reducible rfl
      rotate_left
      · simp only [Act.put, List.setIfInBounds_toArray, List.set_cons_zero, List.set_cons_succ, i64_w, i32_w]
        rfl
      refine take_ (i := 22) (N := some 34) (v := ?_) (a' := ?_) #[true, true, true, true, true, true, true, true, true, true, true, true, true, true, true, true, true, true, true, true, true, true, true, true, true, false, false, false, false, false] rfl rfl (by kernel_rfl) (fun _ _ _ h => h) (Or.inl ⟨by rfl, ?_⟩) hHeld ?_ ?_
      rotate_left
      · rintro w' ⟨s0, s1, s2, s3, s4⟩
        go_simp
        with_reducible rfl
      rotate_left
      · simp only [Act.put, List.setIfInBounds_toArray, List.set_cons_zero, List.set_cons_succ, i64_w, i32_w]
        rfl
      refine pure_ (i := 25) (N := some 37) (v := ?_) (a' := ?_) #[true, true, true, true, true, true, true, true, true, true, true, true, true, true, true, true, true, true, true, true, true, true, true, true, true, true, false, false, false, false] rfl rfl (by kernel_rfl) (fun _ _ _ h => h) (Or.inl ⟨by rfl, ?_⟩) ?_ ?_
      rotate_left
      · intro w'
        go_simp
        with_reducible rfl
      rotate_left
      · simp only [Act.put, List.setIfInBounds_toArray, List.set_cons_zero, List.set_cons_succ, i64_w, i32_w]
        rfl
      refine take_ (i := 26) (N := some 38) (v := ?_) (a' := ?_) #[true, true, true, true, true, true, true, true, true, true, true, true, true, true, true, true, true, true, true, true, true, true, true, true, true, true, true, false, false, false] rfl rfl (by kernel_rfl) (fun _ _ _ h => h) (Or.inl ⟨by rfl, ?_⟩) hHeld ?_ ?_
      rotate_left
      · rintro w' ⟨s0, s1, s2, s3, s4⟩
        go_simp
        with_reducible rfl
      rotate_left
      · simp only [Act.put, List.setIfInBounds_toArray, List.set_cons_zero, List.set_cons_succ, i64_w, i32_w]
        rfl
      refine pure_ (i := 27) (N := some 39) (v := ?_) (a' := ?_) #[true, true, true, true, true, true, true, true, true, true, true, true, true, true, true, true, true, true, true, true, true, true, true, true, true, true, true, true, false, false] rfl rfl (by kernel_rfl) (fun _ _ _ h => h) (Or.inl ⟨by rfl, ?_⟩) ?_ ?_
      rotate_left
      · intro w'
        go_simp
        with_reducible rfl
      rotate_left
      · simp only [Act.put, List.setIfInBounds_toArray, List.set_cons_zero, List.set_cons_succ, i64_w, i32_w]
        rfl
      refine pure_ (i := 28) (N := some 40) (v := ?_) (a' := ?_) #[true, true, true, true, true, true, true, true, true, true, true, true, true, true, true, true, true, true, true, true, true, true, true, true, true, true, true, true, true, false] rfl rfl (by kernel_rfl) (fun _ _ _ h => h) (Or.inl ⟨by rfl, ?_⟩) ?_ ?_
      rotate_left
      · intro w'
        go_simp
        with_reducible rfl
      rotate_left
      · simp only [Act.put, List.setIfInBounds_toArray, List.set_cons_zero, List.set_cons_succ, i64_w, i32_w]
        rfl
      refine pure_ (i := 29) (N := some 4) (v := ?_) (a' := ?_) #[true, true, true, true, true, true, true, true, true, true, true, true, true, true, true, true, true, true, true, true, true, true, true, true, true, true, true, true, true, true] rfl rfl (by kernel_rfl) (fun _ _ _ h => h) (Or.inl ⟨by rfl, ?_⟩) ?_ ?_
      rotate_left
      · intro w'
        go_simp
        with_reducible rfl
      rotate_left
      · simp only [Act.put, List.setIfInBounds_toArray, List.set_cons_zero, List.set_cons_succ, i64_w, i32_w]
        rfl
      refine done_ (by kernel_rfl) ?_
      clear t1 t2 t3 u1 u2 u3 n1 n2 n3 v0 v1 v2 v3 q2 q3 q4 s0 s1 s2 e1 e2 e3 hcb hx0 hx1 hx2 hx3 hHeld
      obtain ⟨fn, tmps, assign, body, hy, hR⟩ := HY.out _ ⟨(k, wv), hlt, hwl⟩ wr.drew (HJD.out _ wr 1 HJ.out) (by rw [upto_length]; exact hlt)
      dsimp only at hy
      gi_wp2
      refine hR.mono ?_
      rintro e W3 (⟨rfl, hJ3, hk3⟩ | ⟨rfl, hJx3⟩)
      · gi_wp2
        go_roundw
        case rel => exact ⟨k + 1, by omega, by rw [HQ.out]; go_num, by rw [upto_succ, nth_eq bs k wv hlt hwl HZ.out]; exact hJ3, Kp.trans ⟨below_drew1 HNX.out.1, HNX.out.2⟩ hk3⟩
        case measure => simp [intOf]; omega
      · gi_wp2
        refine bodyPost_ret (results_none rfl _ _ _) rfl ?_
        exact ⟨⟨_, rfl⟩, .inr ⟨_, ⟨k + 1, by omega, (by rw [upto_succ, nth_eq bs k wv hlt hwl HZ.out])⟩, hJx3⟩⟩
    · obtain rfl : k = 16 := by omega
      gi_wp2
      go_end0
      exact ⟨⟨_, rfl⟩, .inl ⟨_, rfl, hJs⟩⟩
theorem gb_drewN (W : World) (m : Nat) : W.grownBy (W.drewN m) none := ⟨rfl, rfl, rfl, Nat.le_refl _, fun _ _ _ => rfl⟩
theorem words_stops (n : Nat) (hn : 1 ≤ n) (Bs n₀ c : Nat) (ad : Addr) (bs : List Int) (hl : bs.length = 64) (hbs : ∀ j, j < 64 → bt8 bs j < 256) (w : World) (hB : Bs < w.heap.size) (hn₀ : n₀ ≤ w.heap.size) (hb : ad.block < n₀)
    (hcell : w.cell? ⟨Bs, 0, none⟩ = some (.slice (some ad) 64 c)) (hc : ∀ j, j < 64 → w.cell? (ad.add j) = some (.int .u8 (bt8 bs j : Nat))) :
    SeqStopsK Fence.wide n Tryd.prog 47 #[.pointer (some ⟨Bs, 0, none⟩)] (fun x : NW => #[Value.int .i64 (x.1.1 : Int), Value.int .u32 (x.1.2 : Int)]) (Kp n₀ Bs) (fun ys => ys = upto (nth bs) 16) (fun pre => ∃ k, k ≤ 16 ∧ pre = upto (nth bs) k) 16 w :=
  fun l J Jx W hW hJ _ hY h0 => words1_in n hn l Bs n₀ c ad bs hl hb hbs J Jx hY W ((hW.cell (p := ⟨Bs, 0, none⟩) hB).trans hcell) (fun j hj => (hW.cell (p := ad.add j) (by rw [add_block]; omega)).trans (hc j hj)) h0
    (fun pre W m h => hJ pre W _ none h (gb_drewN W m) (fun r e => by cases e))
set_option maxRecDepth 100000 in
theorem words_calls (w : World) (ad : Option Addr) (n c : Nat) : Calls Tryd.prog 41 #[.slice ad n c] w fun e w' => e = .returned (.func (.func 47) #[] #[.pointer (some ⟨w.heap.size, 0, none⟩)]) ∧ w' = w.alloc (.cells #[.slice ad n c] 22) := by
  go_enter Tryd.func41, Tryd.ntmps41
  go_wp2_with fail
  go_ret
  exact ⟨rfl, rfl⟩
set_option maxRecDepth 100000 in
theorem reg_calls (w : World) (b : Nat) (i k : Nat) (hi : i < 64) (hk : k < 8) : Calls Tryd.prog 42 #[.int .i64 i, .int .i64 k, .pointer (some ⟨b, 0, none⟩)] w fun e w' => e = .returned (.pointer (some ⟨b, (k + 64 - i) % 8, none⟩)) ∧ w' = w := by
  have w1 : wrap64 ((k : Int) - (i : Int)) = (k : Int) - (i : Int) := by unfold wrap64; omega
  have w2 : wrap64 ((k : Int) - (i : Int) + 64) = (k : Int) - (i : Int) + 64 := by unfold wrap64; omega
  obtain ⟨r, hr⟩ : ∃ r, r = (k + 64 - i) % 8 := ⟨_, rfl⟩
  have w3 : Int.tmod ((k : Int) - (i : Int) + 64) 8 = r := by rw [Int.tmod_eq_emod_of_nonneg (by omega)]; omega
  have r8 : (r : Int) < 8 := by omega
  rw [← hr]
  clear hr
  go_enter Tryd.func42, Tryd.ntmps42
  go_wp2_with fail
  go_ret
  exact ⟨rfl, rfl⟩
end Go.Proofs.YtjmgeelblodcgaaDoor.Sx
