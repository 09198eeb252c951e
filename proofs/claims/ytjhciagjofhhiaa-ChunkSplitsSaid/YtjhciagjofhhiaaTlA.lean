import Derived.Test.YtjhciagjofhhiaaSh
/- Parameters as bytes: the plain laws. -/
namespace Go.Proofs.Ytjhciagjofhhiaa.Tl
set_option linter.unusedVariables false
set_option linter.unusedSimpArgs false
/-- A number's bytes, the greatest first. -/
def nb (n : Nat) : Nat → List Int
  | 0 => []
  | k + 1 => ((n / 256 ^ k % 256 : Nat) : Int) :: nb n k
theorem nb_len (n : Nat) : ∀ k, (nb n k).length = k
  | 0 => rfl
  | k + 1 => by simp [nb, nb_len n k]
/-- How many noughts pad so many bytes. -/
def padn (m : Nat) : Nat := (4 - m % 4) % 4
def padL (l : List Int) : List Int := l ++ List.replicate (padn l.length) 0
theorem padn_mod (m : Nat) : (m + padn m) % 4 = 0 := by unfold padn; omega
theorem padL_len (l : List Int) : (padL l).length = l.length + padn l.length := by simp [padL]
theorem padL_mod (l : List Int) : (padL l).length % 4 = 0 := by rw [padL_len]; exact padn_mod _
theorem padL_self {l : List Int} (h : l.length % 4 = 0) : padL l = l := by
  unfold padL padn
  rw [h]
  simp
theorem padn_add (a b : Nat) (h : a % 4 = 0) : padn (a + b) = padn b := by unfold padn; omega
theorem padL_app {a b : List Int} (h : a.length % 4 = 0) : padL (a ++ b) = a ++ padL b := by
  unfold padL
  rw [List.length_append, padn_add _ _ h, List.append_assoc]
def isSz (s : Int) : Prop := s = 1 ∨ s = 2 ∨ s = 4 ∨ s = 8
instance (s : Int) : Decidable (isSz s) := by unfold isSz; infer_instance
def nbz (n : Nat) (s : Int) : List Int := if isSz s then nb n s.toNat else []
/-- The number of bytes. -/
def val (l : List Int) : Nat := l.foldl (fun o c => o * 256 + c.toNat) 0
theorem val_snoc (l : List Int) (c : Int) : val (l ++ [c]) = val l * 256 + c.toNat := by simp [val, List.foldl_append]
/-- A reader: how many were read; is it wrong? -/
structure Rd where
  a : Nat
  bad : Bool
def left (b : List Int) (s : Rd) : Nat := if s.bad then 0 else b.length - s.a
def tkBad (b : List Int) (s : Rd) (n : Int) : Prop := s.bad = true ∨ n < 0 ∨ (left b s : Int) < n
instance (b : List Int) (s : Rd) (n : Int) : Decidable (tkBad b s n) := by unfold tkBad; infer_instance
def tkS (b : List Int) (s : Rd) (n : Int) : Rd := if tkBad b s n then ⟨s.a, true⟩ else ⟨s.a + n.toNat, false⟩
def tkL (b : List Int) (s : Rd) (n : Int) : List Int := if tkBad b s n then [] else (b.drop s.a).take n.toNat
def nmS (b : List Int) (s : Rd) (z : Int) : Rd := if isSz z then tkS b s z else ⟨s.a, true⟩
def nmV (b : List Int) (s : Rd) (z : Int) : Nat := if isSz z then val (tkL b s z) else 0
def pdS (b : List Int) : Nat → Rd → Rd
  | 0, s => s
  | f + 1, s => if s.bad = true ∨ s.a % 4 = 0 then s else if nmV b s 1 ≠ 0 then pdS b f ⟨(nmS b s 1).a, true⟩ else pdS b f (nmS b s 1)
theorem tkS_le {b : List Int} {s : Rd} (h : s.a ≤ b.length) (n : Int) : (tkS b s n).a ≤ b.length := by
  unfold tkS
  split
  · exact h
  · rename_i hn
    unfold tkBad left at hn
    simp only [not_or] at hn
    show s.a + n.toNat ≤ _
    split at hn
    · exact absurd ‹_› hn.1
    · omega
theorem nmS_le {b : List Int} {s : Rd} (h : s.a ≤ b.length) (z : Int) : (nmS b s z).a ≤ b.length := by
  unfold nmS
  split
  · exact tkS_le h z
  · exact h
theorem pdS_le (b : List Int) : ∀ f s, s.a ≤ b.length → (pdS b f s).a ≤ b.length
  | 0, s, h => h
  | f + 1, s, h => by
    unfold pdS
    split
    · exact h
    · split
      · exact pdS_le b f _ (nmS_le h 1)
      · exact pdS_le b f _ (nmS_le h 1)
theorem tkL_len {b : List Int} {s : Rd} {n : Int} (h : ¬ tkBad b s n) : (tkL b s n).length = n.toNat := by
  unfold tkL
  rw [if_neg h]
  unfold tkBad left at h
  simp only [not_or] at h
  have := h.1
  rw [if_neg this] at h
  simp
  omega
theorem pdS_bad (b : List Int) (f : Nat) (s : Rd) (h : s.bad = true) : pdS b f s = s := by
  cases f with
  | zero => rfl
  | succ f => unfold pdS; rw [if_pos (.inl h)]
theorem pdS_four (b : List Int) (f : Nat) (s : Rd) (h : s.a % 4 = 0) : pdS b f s = s := by
  cases f with
  | zero => rfl
  | succ f => unfold pdS; rw [if_pos (.inr h)]
/-! ### parameters -/
abbrev Par := Int × List Int
def gd (p : Par) : Prop := 0 ≤ p.1 ∧ p.1 ≤ 65535 ∧ p.2.length ≤ 4000
def rec1 (p : Par) : List Int := padL (nb p.1.toNat 2 ++ nb (p.2.length + 4) 2 ++ p.2)
def wr (l : List Par) : List Int := (l.map rec1).flatten
theorem wr_snoc (l : List Par) (p : Par) : wr (l ++ [p]) = wr l ++ rec1 p := by simp [wr]
theorem rec1_mod (p : Par) : (rec1 p).length % 4 = 0 := padL_mod _
theorem wr_mod : ∀ l : List Par, (wr l).length % 4 = 0
  | [] => rfl
  | p :: l => by
    have h := wr_mod l
    have h2 := rec1_mod p
    have : wr (p :: l) = rec1 p ++ wr l := by simp [wr]
    rw [this, List.length_append]
    omega
theorem val_two (x y : Int) : val [x, y] = x.toNat * 256 + y.toNat := by simp [val]
theorem nb_two (n : Nat) : nb n 2 = [((n / 256 % 256 : Nat) : Int), ((n % 256 : Nat) : Int)] := by simp [nb]
theorem val_nb (n : Nat) (h : n < 65536) : val (nb n 2) = n := by
  rw [nb_two, val_two]
  simp only [Int.toNat_natCast]
  omega
theorem nb_val (x y : Int) (hx : 0 ≤ x ∧ x < 256) (hy : 0 ≤ y ∧ y < 256) : nb (val [x, y]) 2 = [x, y] := by
  rw [nb_two, val_two]
  have h1 : (((x.toNat * 256 + y.toNat) / 256 % 256 : Nat) : Int) = x := by omega
  have h2 : (((x.toNat * 256 + y.toNat) % 256 : Nat) : Int) = y := by omega
  rw [h1, h2]
def bad1 (b : List Int) (n : Nat) : Prop := n < 4 ∨ 4004 < n ∨ b.length < n + padn n ∨ ¬ ∀ x ∈ (b.drop n).take (padn n), x = 0
instance (b : List Int) (n : Nat) : Decidable (bad1 b n) := by unfold bad1; infer_instance
def nOf (b : List Int) : Nat := val ((b.drop 2).take 2)
def prs : Nat → List Int → Option (List Par)
  | 0, _ => none
  | f + 1, b => if b = [] then some [] else if b.length < 4 then none else if bad1 b (nOf b) then none else
      (prs f (b.drop (nOf b + padn (nOf b)))).map (fun l => (((val (b.take 2) : Nat) : Int), (b.drop 4).take (nOf b - 4)) :: l)
theorem prs_nil (f : Nat) : prs (f + 1) [] = some [] := by unfold prs; rw [if_pos rfl]
theorem prs_wr : ∀ (l : List Par) (f : Nat), (∀ p ∈ l, gd p) → l.length < f → prs f (wr l) = some l
  | l, 0, _, h => absurd h (Nat.not_lt_zero _)
  | [], f + 1, _, _ => prs_nil f
  | p :: l, f + 1, hg, hf => by
    have ih := prs_wr l f (fun q hq => hg q (List.mem_cons_of_mem _ hq)) (by simp at hf; omega)
    obtain ⟨g1, g2, g3⟩ := hg p List.mem_cons_self
    obtain ⟨k, v⟩ := p
    obtain ⟨n, rfl⟩ := Int.eq_ofNat_of_zero_le g1
    simp only at g1 g2 g3
    have e1 : wr (((n : Int), v) :: l) = rec1 ((n : Int), v) ++ wr l := by simp [wr]
    have hm : v.length + 4 < 65536 := by omega
    have e2 : rec1 ((n : Int), v) = nb n 2 ++ nb (v.length + 4) 2 ++ v ++ List.replicate (padn (v.length + 4)) 0 := by
      unfold rec1 padL
      simp only [Int.toNat_natCast, List.length_append, nb_len]
      rw [show 2 + 2 + v.length = v.length + 4 by omega]
    have hl : (nb n 2 ++ nb (v.length + 4) 2 ++ v ++ List.replicate (padn (v.length + 4)) 0).length = v.length + 4 + padn (v.length + 4) := by simp [nb_len]; omega
    rw [e1, e2]
    obtain ⟨t, ht⟩ : ∃ t, t = wr l := ⟨_, rfl⟩
    rw [← ht] at ih ⊢
    have hn : nOf (nb n 2 ++ nb (v.length + 4) 2 ++ v ++ List.replicate (padn (v.length + 4)) 0 ++ t) = v.length + 4 := by
      have h9 : ((nb n 2 ++ nb (v.length + 4) 2 ++ v ++ List.replicate (padn (v.length + 4)) 0 ++ t).drop 2).take 2 = nb (v.length + 4) 2 := by rw [nb_two n, nb_two]; simp
      unfold nOf
      rw [h9, val_nb _ hm]
    unfold prs
    rw [if_neg (by intro h; have := congrArg List.length h; rw [List.length_append, hl] at this; simp at this), if_neg (by rw [List.length_append, hl]; omega), hn, if_neg]
    · rw [show List.drop (v.length + 4 + padn (v.length + 4)) (nb n 2 ++ nb (v.length + 4) 2 ++ v ++ List.replicate (padn (v.length + 4)) 0 ++ t) = t by
        rw [← hl, List.drop_left], ih]
      simp only [Option.map_some]
      have h4 : val (List.take 2 (nb n 2 ++ nb (v.length + 4) 2 ++ v ++ List.replicate (padn (v.length + 4)) 0 ++ t)) = n := by
        rw [show List.take 2 (nb n 2 ++ nb (v.length + 4) 2 ++ v ++ List.replicate (padn (v.length + 4)) 0 ++ t) = nb n 2 by rw [nb_two]; simp]
        exact val_nb n (by omega)
      have h5 : List.take (v.length + 4 - 4) (List.drop 4 (nb n 2 ++ nb (v.length + 4) 2 ++ v ++ List.replicate (padn (v.length + 4)) 0 ++ t)) = v := by
        rw [nb_two, nb_two]; simp
      rw [h4, h5]
    · unfold bad1
      simp only [not_or]
      refine ⟨by omega, by omega, by rw [List.length_append, hl]; omega, ?_⟩
      rw [Classical.not_not]
      have : List.drop (v.length + 4) (nb n 2 ++ nb (v.length + 4) 2 ++ v ++ List.replicate (padn (v.length + 4)) 0 ++ t) = List.replicate (padn (v.length + 4)) 0 ++ t := by
        have : (nb n 2 ++ nb (v.length + 4) 2 ++ v).length = v.length + 4 := by simp [nb_len]; omega
        rw [List.append_assoc (nb n 2 ++ nb (v.length + 4) 2 ++ v)]
        exact List.drop_left' this
      rw [this]
      intro x hx
      rw [List.take_append_of_le_length (by simp), List.take_of_length_le (by simp)] at hx
      exact List.eq_of_mem_replicate hx
theorem repl_of_zeros {l : List Int} (h : ∀ x ∈ l, x = 0) : l = List.replicate l.length 0 := List.eq_replicate_of_mem h
theorem wr_prs : ∀ (f : Nat) (b : List Int) (l : List Par), (∀ x ∈ b, 0 ≤ x ∧ x < 256) → prs f b = some l → wr l = b ∧ ∀ p ∈ l, gd p
  | 0, b, l, _, h => by simp [prs] at h
  | f + 1, b, l, hb, h => by
    unfold prs at h
    by_cases h1 : b = []
    · rw [if_pos h1] at h
      injection h with h
      subst h h1
      exact ⟨rfl, fun p hp => absurd hp (by simp)⟩
    · rw [if_neg h1] at h
      by_cases h2 : b.length < 4
      · rw [if_pos h2] at h; cases h
      · rw [if_neg h2] at h
        by_cases h3 : bad1 b (nOf b)
        · rw [if_pos h3] at h; cases h
        · rw [if_neg h3] at h
          match b, h2 with
          | x :: y :: z :: u :: r, _ =>
            obtain ⟨n, hn⟩ : ∃ n, n = nOf (x :: y :: z :: u :: r) := ⟨_, rfl⟩
            rw [← hn] at h h3
            obtain ⟨l', hl', rfl⟩ := Option.map_eq_some_iff.1 h
            have ih := wr_prs f _ l' (fun q hq => hb q (List.mem_of_mem_drop hq)) hl'
            unfold bad1 at h3
            simp only [not_or, Classical.not_not] at h3
            obtain ⟨q1, q2, q3, q4⟩ := h3
            have hx := hb x (by simp)
            have hy := hb y (by simp)
            have hz := hb z (by simp)
            have hu := hb u (by simp)
            have hnv : n = val [z, u] := by rw [hn]; unfold nOf; simp
            have hlen : ((x :: y :: z :: u :: r).drop 4).take (n - 4) = r.take (n - 4) := by simp
            have hkv : val ((x :: y :: z :: u :: r).take 2) = val [x, y] := by simp
            have hrl : r.length + 4 ≥ n + padn n := by simp at q3; omega
            have htl : (r.take (n - 4)).length = n - 4 := by rw [List.length_take]; omega
            have hv2 : val [x, y] ≤ 65535 := by rw [val_two]; omega
            rw [hlen, hkv]
            refine ⟨?_, ?_⟩
            · have e1 : wr ((((val [x, y] : Nat) : Int), r.take (n - 4)) :: l') = rec1 (((val [x, y] : Nat) : Int), r.take (n - 4)) ++ wr l' := by simp [wr]
              rw [e1, ih.1]
              unfold rec1 padL
              simp only [Int.toNat_natCast]
              rw [htl, show n - 4 + 4 = n by omega, nb_val x y hx hy, hnv, nb_val z u hz hu, ← hnv]
              rw [show ([x, y] ++ [z, u] ++ r.take (n - 4)).length = n by simp only [List.length_append, htl, List.length_cons, List.length_nil]; omega]
              have h0 := repl_of_zeros q4
              have e4 : ∀ k, List.drop (k + 4) (x :: y :: z :: u :: r) = List.drop k r := fun k => by simp
              have e5 : List.drop n (x :: y :: z :: u :: r) = List.drop (n - 4) r := by rw [show n = (n - 4) + 4 by omega, e4, Nat.add_sub_cancel]
              have e6 : List.drop (n + padn n) (x :: y :: z :: u :: r) = List.drop (padn n) (List.drop (n - 4) r) := by
                rw [List.drop_drop, show n + padn n = (n - 4 + padn n) + 4 by omega, e4]
              rw [e5] at h0
              rw [e6]
              have e7 : (List.take (padn n) (List.drop (n - 4) r)).length = padn n := by rw [List.length_take, List.length_drop]; omega
              rw [e7] at h0
              rw [← h0]
              simp only [List.cons_append, List.nil_append, List.append_assoc]
              rw [List.take_append_drop, List.take_append_drop]
            · intro p hp
              rcases List.mem_cons.1 hp with rfl | hp
              · refine ⟨Int.natCast_nonneg _, by omega, ?_⟩
                show (r.take (n - 4)).length ≤ 4000
                omega
              · exact ih.2 p hp
          | [], h2 => exact absurd h2 (by simp)
          | [_], h2 => exact absurd h2 (by simp)
          | [_, _], h2 => exact absurd h2 (by simp)
          | [_, _, _], h2 => exact absurd h2 (by simp)
/-! ### the program's reader goes through parameters -/
theorem nm_one_yes {b : List Int} {a : Nat} (h : a < b.length) : nmS b ⟨a, false⟩ 1 = ⟨a + 1, false⟩ ∧ nmV b ⟨a, false⟩ 1 = (b.getD a 0).toNat := by
  have hnb : ¬ tkBad b ⟨a, false⟩ 1 := by unfold tkBad left; simp; omega
  have hs : isSz 1 := .inl rfl
  unfold nmS nmV
  rw [if_pos hs, if_pos hs]
  unfold tkS tkL
  rw [if_neg hnb, if_neg hnb]
  refine ⟨rfl, ?_⟩
  rw [show (1 : Int).toNat = 1 from rfl]
  have : (b.drop a).take 1 = [b.getD a 0] := by
    rw [List.drop_eq_getElem_cons h, List.take_succ_cons, List.take_zero]
    simp [List.getD_eq_getElem?_getD, List.getElem?_eq_getElem h]
  show val ((b.drop a).take 1) = _
  rw [this]
  simp [val]
theorem nm_one_no {b : List Int} {a : Nat} (h : ¬ a < b.length) : nmS b ⟨a, false⟩ 1 = ⟨a, true⟩ ∧ nmV b ⟨a, false⟩ 1 = 0 := by
  have hnb : tkBad b ⟨a, false⟩ 1 := by unfold tkBad left; simp; omega
  have hs : isSz 1 := .inl rfl
  unfold nmS nmV
  rw [if_pos hs, if_pos hs]
  unfold tkS tkL
  rw [if_pos hnb, if_pos hnb]
  exact ⟨rfl, rfl⟩
def zs (b : List Int) (a m : Nat) : Prop := a + m ≤ b.length ∧ ∀ x ∈ (b.drop a).take m, x = 0
theorem pdS_cases {b : List Int} (hb : ∀ x ∈ b, 0 ≤ x ∧ x < 256) : ∀ m f a, padn a = m → m ≤ f → a ≤ b.length → (zs b a m → pdS b f ⟨a, false⟩ = ⟨a + m, false⟩) ∧ (¬ zs b a m → (pdS b f ⟨a, false⟩).bad = true)
  | 0, f, a, hm, _, hl => by
    have h4 : a % 4 = 0 := by unfold padn at hm; omega
    refine ⟨fun _ => pdS_four b f _ h4, fun h => absurd ⟨hl, fun x hx => by simp at hx⟩ h⟩
  | m + 1, 0, a, _, hf, _ => absurd hf (by omega)
  | m + 1, f + 1, a, hm, hf, hl => by
    have h4 : ¬ a % 4 = 0 := by unfold padn at hm; omega
    have hm2 : padn (a + 1) = m := by unfold padn at hm ⊢; omega
    unfold pdS
    rw [if_neg (by simp; exact h4)]
    by_cases hlt : a < b.length
    · obtain ⟨e1, e2⟩ := nm_one_yes hlt
      rw [e1, e2]
      have hx := hb (b.getD a 0) (by rw [List.getD_eq_getElem?_getD, List.getElem?_eq_getElem hlt]; exact List.getElem_mem hlt)
      have ih := pdS_cases hb m f (a + 1) hm2 (by omega) (by omega)
      have hsp : (b.drop a).take (m + 1) = b.getD a 0 :: (b.drop (a + 1)).take m := by
        rw [List.drop_eq_getElem_cons hlt, List.take_succ_cons]
        simp [List.getD_eq_getElem?_getD, List.getElem?_eq_getElem hlt]
      have hz : zs b a (m + 1) ↔ b.getD a 0 = 0 ∧ zs b (a + 1) m := by
        unfold zs
        rw [hsp]
        simp only [List.mem_cons, forall_eq_or_imp]
        constructor
        · rintro ⟨h1, h2, h3⟩; exact ⟨h2, by omega, h3⟩
        · rintro ⟨h2, h1, h3⟩; exact ⟨by omega, h2, h3⟩
      by_cases h0 : b.getD a 0 = 0
      · rw [if_neg (by rw [h0]; decide)]
        refine ⟨fun h => ?_, fun h => ?_⟩
        · rw [ih.1 (hz.1 h).2]; congr 1; omega
        · exact ih.2 (fun h' => h (hz.2 ⟨h0, h'⟩))
      · rw [if_pos (by omega)]
        refine ⟨fun h => absurd (hz.1 h).1 h0, fun _ => ?_⟩
        rw [pdS_bad _ _ _ rfl]
    · obtain ⟨e1, e2⟩ := nm_one_no hlt
      rw [e1, e2, if_neg (by decide), pdS_bad _ _ _ rfl]
      refine ⟨fun h => absurd h.1 (by omega), fun _ => rfl⟩
theorem nm_two_yes {b : List Int} {a : Nat} (h : a + 2 ≤ b.length) : nmS b ⟨a, false⟩ 2 = ⟨a + 2, false⟩ ∧ nmV b ⟨a, false⟩ 2 = val ((b.drop a).take 2) := by
  have hnb : ¬ tkBad b ⟨a, false⟩ 2 := by unfold tkBad left; simp; omega
  have hs : isSz 2 := .inr (.inl rfl)
  unfold nmS nmV
  rw [if_pos hs, if_pos hs]
  unfold tkS tkL
  rw [if_neg hnb, if_neg hnb]
  exact ⟨rfl, rfl⟩
theorem nm_two_no {b : List Int} {s : Rd} (h : s.bad = true ∨ ¬ s.a + 2 ≤ b.length) : nmS b s 2 = ⟨s.a, true⟩ ∧ nmV b s 2 = 0 := by
  have hnb : tkBad b s 2 := by
    unfold tkBad left
    rcases h with h | h
    · exact .inl h
    · by_cases h' : s.bad = true
      · exact .inl h'
      · right; right; rw [if_neg h']; omega
  have hs : isSz 2 := .inr (.inl rfl)
  unfold nmS nmV
  rw [if_pos hs, if_pos hs]
  unfold tkS tkL
  rw [if_pos hnb, if_pos hnb]
  exact ⟨rfl, rfl⟩
theorem tk_bad {b : List Int} {s : Rd} {n : Int} (h : tkBad b s n) : tkS b s n = ⟨s.a, true⟩ ∧ tkL b s n = [] := by
  unfold tkS tkL; rw [if_pos h, if_pos h]; exact ⟨rfl, rfl⟩
theorem tk_good {b : List Int} {s : Rd} {n : Int} (h : ¬ tkBad b s n) : tkS b s n = ⟨s.a + n.toNat, false⟩ ∧ tkL b s n = (b.drop s.a).take n.toNat := by
  unfold tkS tkL; rw [if_neg h, if_neg h]; exact ⟨rfl, rfl⟩
/-- One round of the program's loop. -/
def r1 (b : List Int) (s : Rd) : Rd := nmS b s 2
def rK (b : List Int) (s : Rd) : Nat := nmV b s 2
def rN (b : List Int) (s : Rd) : Nat := nmV b (nmS b s 2) 2
def r2 (b : List Int) (s : Rd) : Rd := nmS b (nmS b s 2) 2
def r3 (b : List Int) (s : Rd) : Rd := tkS b (r2 b s) ((rN b s : Int) - 4)
def rV (b : List Int) (s : Rd) : List Int := tkL b (r2 b s) ((rN b s : Int) - 4)
def r4 (b : List Int) (s : Rd) : Rd := pdS b 4 (r3 b s)
theorem round_cases {b : List Int} (hb : ∀ x ∈ b, 0 ≤ x ∧ x < 256) (a : Nat) (h4 : a % 4 = 0) (hl : a < b.length) :
    ((4 ≤ (b.drop a).length ∧ ¬ bad1 (b.drop a) (nOf (b.drop a))) → r4 b ⟨a, false⟩ = ⟨a + (nOf (b.drop a) + padn (nOf (b.drop a))), false⟩ ∧ rK b ⟨a, false⟩ = val ((b.drop a).take 2) ∧ rV b ⟨a, false⟩ = ((b.drop a).drop 4).take (nOf (b.drop a) - 4) ∧ (rV b ⟨a, false⟩).length ≤ 4000 ∧ a + (nOf (b.drop a) + padn (nOf (b.drop a))) ≤ b.length ∧ 4 ≤ nOf (b.drop a)) ∧
    (¬ (4 ≤ (b.drop a).length ∧ ¬ bad1 (b.drop a) (nOf (b.drop a))) → (r4 b ⟨a, false⟩).bad = true ∨ 4000 < (rV b ⟨a, false⟩).length) := by
  by_cases h2 : a + 2 ≤ b.length
  · obtain ⟨e1, e2⟩ := nm_two_yes h2
    by_cases h3 : a + 2 + 2 ≤ b.length
    · obtain ⟨e3, e4⟩ := nm_two_yes (a := a + 2) h3
      have hn : rN b ⟨a, false⟩ = nOf (b.drop a) := by unfold rN nOf; rw [e1, e4, List.drop_drop]
      have hr2 : r2 b ⟨a, false⟩ = ⟨a + 4, false⟩ := by unfold r2; rw [e1, e3]
      obtain ⟨n, hnn⟩ : ∃ n, n = nOf (b.drop a) := ⟨_, rfl⟩
      have hlen4 : 4 ≤ (b.drop a).length := by simp; omega
      unfold r4 r3 rV
      rw [hr2, hn, ← hnn]
      by_cases hlow : n < 4
      · obtain ⟨t1, t2⟩ := tk_bad (b := b) (s := ⟨a + 4, false⟩) (n := (n : Int) - 4) (.inr (.inl (by omega)))
        rw [t1, t2, pdS_bad _ _ _ rfl]
        exact ⟨fun h => absurd (show bad1 _ _ from .inl hlow) h.2, fun _ => .inl rfl⟩
      · by_cases hfit : a + n ≤ b.length
        · have hng : ¬ tkBad b ⟨a + 4, false⟩ ((n : Int) - 4) := by unfold tkBad left; simp; omega
          obtain ⟨t1, t2⟩ := tk_good hng
          rw [t1, t2]
          have ht : ((n : Int) - 4).toNat = n - 4 := by omega
          rw [ht]
          have hvl : ((b.drop (a + 4)).take (n - 4)).length = n - 4 := by rw [List.length_take, List.length_drop]; omega
          have ha4 : a + 4 + (n - 4) = a + n := by omega
          have hpn : padn (a + n) = padn n := padn_add a n h4
          obtain ⟨p1, p2⟩ := pdS_cases hb (padn n) 4 (a + n) hpn (by unfold padn; omega) hfit
          have hz : bad1 (b.drop a) n ↔ 4004 < n ∨ ¬ zs b (a + n) (padn n) := by
            unfold bad1 zs
            rw [List.drop_drop, List.length_drop]
            constructor
            · rintro (h | h | h | h)
              · exact absurd h hlow
              · exact .inl h
              · right; intro h'; have := h'.1; omega
              · right; intro h'; exact h h'.2
            · rintro (h | h)
              · exact .inr (.inl h)
              · by_cases h' : a + n + padn n ≤ b.length
                · right; right; right; exact fun h'' => h ⟨h', h''⟩
                · right; right; left; omega
          show ((4 ≤ (b.drop a).length ∧ ¬ bad1 (b.drop a) n) → pdS b 4 ⟨a + 4 + (n - 4), false⟩ = _ ∧ _ ∧ _ ∧ _) ∧ _
          rw [ha4, hvl]
          refine ⟨fun ⟨_, h⟩ => ?_, fun h => ?_⟩
          · rw [hz, not_or, Classical.not_not] at h
            refine ⟨by rw [p1 h.2, Nat.add_assoc], by unfold rK; rw [e2], by rw [List.drop_drop], by omega, by have := h.2.1; omega, by omega⟩
          · have hbad : bad1 (b.drop a) n := by
              rcases Classical.em (bad1 (b.drop a) n) with h' | h'
              · exact h'
              · exact absurd ⟨hlen4, h'⟩ h
            rcases hz.1 hbad with h' | h'
            · right; omega
            · left; exact p2 h'
        · obtain ⟨t1, t2⟩ := tk_bad (b := b) (s := ⟨a + 4, false⟩) (n := (n : Int) - 4) (.inr (.inr (by unfold left; simp; omega)))
          rw [t1, t2, pdS_bad _ _ _ rfl]
          refine ⟨fun h => absurd (show bad1 _ _ from .inr (.inr (.inl ?_))) h.2, fun _ => .inl rfl⟩
          rw [List.length_drop]
          omega
    · obtain ⟨e3, e4⟩ := nm_two_no (b := b) (s := ⟨a + 2, false⟩) (.inr h3)
      have hr2 : r2 b ⟨a, false⟩ = ⟨a + 2, true⟩ := by unfold r2; rw [e1, e3]
      unfold r4 r3 rV
      rw [hr2]
      obtain ⟨t1, t2⟩ := tk_bad (b := b) (s := ⟨a + 2, true⟩) (n := (rN b ⟨a, false⟩ : Int) - 4) (.inl rfl)
      rw [t1, t2, pdS_bad _ _ _ rfl]
      refine ⟨fun h => absurd h.1 (by rw [List.length_drop]; omega), fun _ => .inl rfl⟩
  · obtain ⟨e1, e2⟩ := nm_two_no (b := b) (s := ⟨a, false⟩) (.inr h2)
    obtain ⟨e3, e4⟩ := nm_two_no (b := b) (s := ⟨a, true⟩) (.inl rfl)
    have hr2 : r2 b ⟨a, false⟩ = ⟨a, true⟩ := by unfold r2; rw [e1, e3]
    unfold r4 r3 rV
    rw [hr2]
    obtain ⟨t1, t2⟩ := tk_bad (b := b) (s := ⟨a, true⟩) (n := (rN b ⟨a, false⟩ : Int) - 4) (.inl rfl)
    rw [t1, t2, pdS_bad _ _ _ rfl]
    refine ⟨fun h => absurd h.1 (by rw [List.length_drop]; omega), fun _ => .inl rfl⟩
end Go.Proofs.Ytjhciagjofhhiaa.Tl
