import Derived.Test.YtjhciagjofhhiaaTlH
import Derived.Test.YtjhciagjofhhiaaPOnex1
import Derived.Test.YtjhciagjofhhiaaPOnex2
/- For TlvPuts: the reference's Num and Pad; long; things. -/
namespace Go.Proofs.Ytjhciagjofhhiaa.Tl
open Go.RowKit Go.Proofs.YtjhciagjofhhiaaW.PrintWords Go.Proofs.YtjhciagjofhhiaaW.PrintLast Go.Proofs.YtjhciagjofhhiaaW.PrintMore Go.Proofs.Ytjhciagjofhhiaa.Sh Go.Proofs.Ytjhciagjofhhiaa.POne
set_option linter.unusedVariables false
set_option linter.unusedSimpArgs false
theorem num_l0 (n : Nat) : ∀ (j k : Nat) (x : List Int), j ≤ 8 → j < k → x.length + j < 1000 → weftlineref06_Num.l0 k (n : Int) x ((j : Int) - 1) = some (x ++ nb n j)
  | 0, 0, _, _, h, _ => absurd h (by omega)
  | 0, k + 1, x, _, _, _ => by
    rw [weftlineref06_Num.l0, if_neg (by omega)]
    simp [nb]
  | j + 1, 0, _, _, h, _ => absurd h (by omega)
  | j + 1, k + 1, x, h8, hk, hx => by
    have e1 : ((j + 1 : Nat) : Int) - 1 = (j : Int) := by omega
    have e2 : wrap64 (8 * (j : Int)) = 8 * (j : Int) := w64 _ _ rfl (by omega) (by omega)
    have e3 : IntKind.u64.wrap (8 * (j : Int)) = 8 * (j : Int) := by show (8 * (j : Int)) % 18446744073709551616 = _; omega
    have e4 : wrap64 ((j : Int) - 1) = (j : Int) - 1 := by unfold wrap64; omega
    have e5 : shr .u64 (n : Int) (8 * (j : Int)) % 256 = ((n / 256 ^ j % 256 : Nat) : Int) := by
      unfold shr
      rw [show (8 * (j : Int)).toNat = 8 * j by omega, show IntKind.u64.bits = 64 from rfl, Nat.min_eq_left (by omega)]
      exact byte_eq n j
    rw [weftlineref06_Num.l0, e1, if_pos (by omega), e2, e3, if_pos (by omega), if_pos (by omega), e4, e5, num_l0 n j k _ (by omega) (by omega) (by simp; omega)]
    simp [nb]
theorem num_f (n : Nat) (s : Int) : weftlineref06_Num.f 20 (n : Int) s = some (nbz n s) := by
  have key : ∀ z : Nat, 1 ≤ z → z ≤ 8 → weftlineref06_Num.l0 19 (n : Int) [] (wrap64 ((z : Int) - 1)) = some (nb n z) := fun z h1 h2 => by
    rw [w64 _ ((z : Int) - 1) rfl (by omega) (by omega), num_l0 n z 19 [] h2 (by omega) (by simp; omega)]
    simp
  unfold weftlineref06_Num.f nbz
  by_cases h1 : s = 1
  · subst h1
    rw [if_pos rfl, if_pos (.inl rfl), weftlineref06_Num.j0, if_neg (by simp)]
    exact key 1 (by omega) (by omega)
  · by_cases h2 : s = 2
    · subst h2
      rw [if_neg (by omega), if_pos rfl, if_pos (.inr (.inl rfl)), weftlineref06_Num.j0, if_neg (by simp)]
      exact key 2 (by omega) (by omega)
    · by_cases h4 : s = 4
      · subst h4
        rw [if_neg (by omega), if_neg (by omega), if_pos rfl, if_pos (.inr (.inr (.inl rfl))), weftlineref06_Num.j0, if_neg (by simp)]
        exact key 4 (by omega) (by omega)
      · by_cases h8 : s = 8
        · subst h8
          rw [if_neg (by omega), if_neg (by omega), if_neg (by omega), if_pos (.inr (.inr (.inr rfl))), weftlineref06_Num.j0, if_neg (by simp)]
          exact key 8 (by omega) (by omega)
        · rw [if_neg h1, if_neg h2, if_neg h4, if_neg (by unfold isSz; omega), weftlineref06_Num.j0, if_pos (by simp [h8])]
theorem pad_l0 : ∀ (m k : Nat) (x : List Int), padn x.length = m → m < k → x.length ≤ 2000000 → weftlineref06_Pad.l0 k x = some (x ++ List.replicate m 0)
  | 0, 0, _, _, h, _ => absurd h (by omega)
  | 0, k + 1, x, hm, _, _ => by
    rw [weftlineref06_Pad.l0, if_pos (by unfold padn at hm; omega)]
    simp
  | m + 1, 0, _, _, h, _ => absurd h (by omega)
  | m + 1, k + 1, x, hm, hk, hx => by
    have h4 : ¬ ((x.length : Int) % 4) = 0 := by unfold padn at hm; omega
    rw [weftlineref06_Pad.l0, if_neg h4, if_pos (by omega), pad_l0 m k _ (by rw [List.length_append, List.length_singleton]; unfold padn at hm ⊢; omega) (by omega) (by rw [List.length_append, List.length_singleton]; unfold padn at hm; omega)]
    rw [List.append_assoc, List.replicate_succ]
    rfl
theorem pad_f (l : List Int) (hl : l.length ≤ 1000000) : weftlineref06_Pad.f 8 l = some (padL l) := by
  unfold weftlineref06_Pad.f
  simp only [Option.bind_some]
  rw [if_pos (by simp; omega), List.nil_append, pad_l0 _ 8 l rfl (by unfold padn; omega) (by omega)]
  rfl
abbrev Thing := Int × Int × Int × List Int
abbrev THG : Kd Thing := Kd.pair (Kd.int .i64) (Kd.pair (Kd.int .i64) (Kd.pair (Kd.int .u64) (Kd.slice 5 (Kd.int .u8))))
def T0 : Thing := (0, 0, 0, [])
theorem thing_cells {W : World} {A : Option Addr} {n : Nat} {l : List Thing} (h : Kd.C THG W A n l) (k : Nat) (hk : k < n) :
    ∃ ad A1 c1, A = some ad ∧ W.cell? (ad.add (k * 4)) = some (.int .i64 (l.getD k T0).1) ∧ W.cell? ⟨(ad.add (k * 4)).block, (ad.add (k * 4)).off + 1, none⟩ = some (.int .i64 (l.getD k T0).2.1) ∧
      W.cell? ⟨(ad.add (k * 4)).block, (ad.add (k * 4)).off + 2, none⟩ = some (.int .u64 (l.getD k T0).2.2.1) ∧ W.cell? ⟨(ad.add (k * 4)).block, (ad.add (k * 4)).off + 3, none⟩ = some (.slice A1 (l.getD k T0).2.2.2.length c1) ∧
      (l.getD k T0).2.2.2.length ≤ c1 ∧ Kd.C (Kd.int .u8) W A1 (l.getD k T0).2.2.2.length (l.getD k T0).2.2.2 := by
  obtain ⟨ad, cs, hA, hl, hK, hc⟩ := Kd.C_get h T0 k (by omega) (by omega)
  rw [Int.toNat_natCast] at hK hc
  obtain ⟨c0, d0, rfl, h0, c2, d2, rfl, h2, c3, d3, rfl, h3, A1, c1, rfl, h4, h5⟩ := hK
  have e0 : c0 = [.int .i64 (l.getD k T0).1] := h0
  have e2 : c2 = [.int .i64 (l.getD k T0).2.1] := h2
  have e3 : c3 = [.int .u64 (l.getD k T0).2.2.1] := h3
  subst e0 e2 e3
  refine ⟨ad, A1, c1, hA, hc 0 _ rfl, ?_, ?_, ?_, h4, h5⟩
  · have h := hc 1 _ rfl
    rw [show k * THG.sz + 1 = k * 4 + (0 + 1) from rfl, add_off] at h
    exact h
  · have h := hc 2 _ rfl
    rw [show k * THG.sz + 2 = k * 4 + (1 + 1) from rfl, add_off] at h
    exact h
  · have h := hc 3 _ rfl
    rw [show k * THG.sz + 3 = k * 4 + (2 + 1) from rfl, add_off] at h
    exact h
/-- How many bytes the first j things bring. -/
def tsum (l : List Thing) : Nat → Nat
  | 0 => 0
  | j + 1 => tsum l j + (l.getD j T0).2.2.2.length
def Long (w : World) (l : List Thing) (e : Ending) (w' : World) : Prop :=
  Below w.heap.size w w' ∧ (e = .returned (.bool true) ∨ (e = .returned (.bool false) ∧ l.length ≤ 41 ∧ ∀ j, j ≤ l.length → tsum l j ≤ 3000))
set_option maxRecDepth 100000 in
set_option maxHeartbeats 2000000 in
theorem long_calls (w : World) (A : Option Addr) (c : Nat) (l : List Thing) (hC : Kd.C THG w A l.length l) : Calls Try.prog 12 #[.slice A l.length c] w (Long w l) := by
  have HC := Aside0.mk hC
  have hlb : l.length ≤ 9223372036854775807 := hC.2.1
  have HB0 := Aside0.mk (Below.refl w.heap.size w)
  clear hC
  go_enter Try.func12, Try.ntmps12
  go_wp2_with fail
  go_loopw [3, 8] (fun n i wr => ∃ j : Nat, j ≤ l.length ∧ i = .int .i64 j ∧ n = .int .i64 (tsum l j : Nat) ∧ j ≤ 41 ∧ Aside0 ((∀ m, m ≤ j → tsum l m ≤ 3000) ∧ Below w.heap.size w wr)) (fun _ i _ => l.length - (intOf i).toNat)
  case atStart => exact ⟨0, Nat.zero_le _, rfl, rfl, by omega, ⟨fun m hm => by rw [show m = 0 by omega]; exact Nat.zero_le _, HB0.out⟩⟩
  case round =>
    obtain ⟨j, hj, rfl, rfl, hj41, HB⟩ := hrel
    by_cases hlt : j < l.length
    · obtain ⟨ad, A1, c1, rfl, h0, h1, h2, h3, _, _⟩ := thing_cells (Kd.C_below HC.out HB.out.2) j hlt
      obtain ⟨t, ht⟩ : ∃ t, t = tsum l j := ⟨_, rfl⟩
      have HT := Aside0.mk (show tsum l (j + 1) = t + (l.getD j T0).2.2.2.length from by rw [ht]; rfl)
      have ht3 : t ≤ 3000 := by rw [ht]; exact HB.out.1 j (Nat.le_refl _)
      rw [← ht]
      obtain ⟨z, hz⟩ : ∃ z, z = l.getD j T0 := ⟨_, rfl⟩
      rw [← hz] at h0 h1 h2 h3 HT
      clear hz ht
      obtain ⟨k, s, n, B⟩ := z
      simp only at h0 h1 h2 h3 HT
      have HBA := Aside0.mk (HB.out.2.alloc HB.out.2.size (.cells #[.int .i64 k, .int .i64 s, .int .u64 n, .slice A1 B.length c1] 31))
      have hji : (j : Int) < (l.length : Int) := by omega
      by_cases hj40 : 40 < j
      · have hj40i : (40 : Int) < (j : Int) := by omega
        go_wp2_with fail
        all_goals go_ret
        all_goals exact ⟨HBA.out, .inl rfl⟩
      · have hj40i : ¬ (40 : Int) < (j : Int) := by omega
        by_cases hBl : 10000 < B.length
        · have hBi : (10000 : Int) < (B.length : Int) := by omega
          go_wp2_with fail
          all_goals go_ret
          all_goals exact ⟨HBA.out, .inl rfl⟩
        · have hBi : ¬ (10000 : Int) < (B.length : Int) := by omega
          by_cases h3k : 3000 < t + B.length
          · have h3i : (3000 : Int) < (t : Int) + (B.length : Int) := by omega
            go_wp2_with fail
            all_goals go_ret
            all_goals exact ⟨HBA.out, .inl rfl⟩
          · have h3i : ¬ (3000 : Int) < (t : Int) + (B.length : Int) := by omega
            go_wp2_with fail
            exact ⟨⟨j + 1, by omega, by go_num, by rw [HT.out]; simp, by omega, ⟨fun m hm => by
              by_cases hmj : m = j + 1
              · rw [hmj, HT.out]; exact Nat.le_of_not_lt h3k
              · exact HB.out.1 m (by omega), HBA.out⟩⟩, by simp [intOf]; omega⟩
    · obtain rfl : j = l.length := by omega
      go_wp2_with fail
      go_ret
      exact ⟨HB.out.2, .inr ⟨rfl, hj41, HB.out.1⟩⟩
end Go.Proofs.Ytjhciagjofhhiaa.Tl
