import Derived.Test.YtjmgeelblodcgaaDoorEsU
/- MacKeys: the plain laws. -/
namespace Go.Proofs.YtjmgeelblodcgaaDoor.Sx
open Go.RowKit Go.Proofs.YtjmgeelblodcgaaDoorW.PrintWords Go.Proofs.YtjmgeelblodcgaaDoorW.PrintMore Go.Proofs.YtjmgeelblodcgaaDoor.Sh
set_option linter.unusedVariables false
set_option linter.unusedSimpArgs false
theorem u64_rem (a : Int) (n : Nat) (h0 : 0 < n) (h1 : n ≤ 1048576) : ∃ k : Nat, wrap64 ((IntKind.u64.wrap a).tmod n) = k ∧ k < n := by
  have h : IntKind.u64.wrap a = a % 18446744073709551616 := by rfl
  rw [h, Int.tmod_eq_emod_of_nonneg (by omega)]
  have hb : 0 ≤ a % 18446744073709551616 % (n : Int) := Int.emod_nonneg _ (by omega)
  have hb2 : a % 18446744073709551616 % (n : Int) < n := Int.emod_lt_of_pos _ (by omega)
  refine ⟨(a % 18446744073709551616 % (n : Int)).toNat, ?_, by omega⟩
  unfold wrap64
  omega
/-- A long key is its digest. -/
theorem mac_hash (key t : List Int) (h : 64 < key.length) : mac (hash key) t = mac key t := by
  have hk : keyB (hash key) = keyB key := by
    unfold keyB
    rw [if_pos (by rw [hash_len]; decide), if_neg (by omega)]
  unfold mac padT
  rw [hk]
theorem xor_zero (y : Int) (hy : 0 ≤ y ∧ y < 256) : bits .xor .u8 y 0 = y := by
  rw [u8_xor y 0 hy.1 hy.2 (by decide) (by decide)]
  have : y.toNat ^^^ (0 : Int).toNat = y.toNat := Nat.xor_zero _
  rw [this]
  omega
theorem padT_zeros (key : List Int) (n : Nat) (h : key.length + n ≤ 64) (y : Int) (hy : 0 ≤ y ∧ y < 256) : padT (key ++ List.replicate n 0) y = padT key y := by
  have hk1 : keyB (key ++ List.replicate n 0) = key ++ List.replicate n 0 := by
    unfold keyB
    rw [if_pos (by rw [List.length_append, List.length_replicate]; exact h)]
  have hk2 : keyB key = key := by
    unfold keyB
    rw [if_pos (by omega)]
  unfold padT
  rw [hk1, hk2]
  refine List.map_congr_left (fun j hj => ?_)
  unfold xo rd
  rw [List.length_append, List.length_replicate, Int.toNat_natCast]
  by_cases h1 : j < key.length
  · rw [if_pos h1, if_pos (by omega), List.getD_eq_getElem?_getD, List.getD_eq_getElem?_getD, List.getElem?_append_left h1]
  · rw [if_neg h1]
    split
    · rw [List.getD_eq_getElem?_getD, List.getElem?_append_right (by omega), List.getElem?_replicate, if_pos (by omega)]
      exact xor_zero y hy
    · rfl
/-- Noughts behind a short key change nothing. -/
theorem mac_zeros (key t : List Int) (n : Nat) (h : key.length + n ≤ 64) : mac (key ++ List.replicate n 0) t = mac key t := by
  unfold mac
  rw [padT_zeros key n h 92 (by decide), padT_zeros key n h 54 (by decide)]
theorem zeros_bytes {key : List Int} (h : Bytes key) (n : Nat) : Bytes (key ++ List.replicate n 0) := fun x hx =>
  (List.mem_append.1 hx).elim (h x) (fun hz => by
    obtain rfl := List.eq_of_mem_replicate hz
    decide)
theorem mac1b {W : World} {A : Option Addr} {c : Nat} {key : List Int} {v1 : Value} {l1 : List Int} (hr : Roots W) (hcu : Cubes W) (hT : Txt W (.slice A key.length c) key) (hkl : key.length ≤ 900000) (h1 : Txt W v1 l1) (hl : l1.length ≤ 800000) {b : Nat} (hb : W.heap[b]? = some (.cells #[v1] 22 (0, 0))) :
    Calls Tryd.prog 19 #[.slice A key.length c, .slice (some ⟨b, 0, none⟩) 1 1] W fun e w' => e = .returned (.agg (cellsB (mac key l1))) ∧ Below W.heap.size W w' := by
  have hp := PartsOf.blk (vs := [v1]) (ps := [l1]) rfl hb (fun k hk => by
    have : k = 0 := by simp at hk; omega
    subst this
    exact h1)
  have hf : flat [l1] [l1].length = l1 := rfl
  refine (mac_calls W hr hcu A c key hT hkl _ [l1] 1 1 rfl (by simp) hp (by rw [hf]; exact hl)).mono ?_
  rintro e w' ⟨rfl, h⟩
  exact ⟨by rw [hf], h⟩
end Go.Proofs.YtjmgeelblodcgaaDoor.Sx
