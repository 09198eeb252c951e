import Derived.Test.YtjmgeelblodcgaaDoorEsF
import Derived.Test.YtjmgeelblodcgaaDoorPAllx1
/- Begin, Clone, filling. -/
namespace Go.Proofs.YtjmgeelblodcgaaDoor.Sx
open Go.RowKit Go.Proofs.YtjmgeelblodcgaaDoorW.PrintWords Go.Proofs.YtjmgeelblodcgaaDoorW.PrintMore Go.Proofs.YtjmgeelblodcgaaDoor.Sh
open Go.Proofs.YtjmgeelblodcgaaDoor.PAll (sha_filling.f sha_filling.l0 sha_filling.calls)
set_option linter.unusedVariables false
set_option linter.unusedSimpArgs false
/-- The registers at first, and where they lie. -/
def rts : List Nat := [0x6a09e667, 0xbb67ae85, 0x3c6ef372, 0xa54ff53a, 0x510e527f, 0x9b05688c, 0x1f83d9ab, 0x5be0cd19]
def Roots (w : World) : Prop := ∀ k, k < 8 → w.cell? ⟨1, k, none⟩ = some (.int .u32 (mr rts k : Nat))
theorem good_rts : Good rts := by
  intro k
  unfold mr
  by_cases h : k < 8
  · have : ∀ j : Fin 8, rts.getD j.1 0 < 4294967296 := by decide
    exact this ⟨k, h⟩
  · rw [List.getD_eq_getElem?_getD, List.getElem?_eq_none (by simp [rts]; omega)]; decide
set_option maxRecDepth 100000 in
theorem begin_calls (w : World) (hr : Roots w) : Calls Tryd.prog 14 #[] w fun e w' => e = .returned (.pointer (some ⟨w.heap.size, 0, none⟩)) ∧ StA w' w.heap.size rts [] (0 : Nat) ∧ Below w.heap.size w w' := by
  have h0 := hr 0 (by decide)
  have h1 := hr 1 (by decide)
  have h2 := hr 2 (by decide)
  have h3 := hr 3 (by decide)
  have h4 := hr 4 (by decide)
  have h5 := hr 5 (by decide)
  have h6 := hr 6 (by decide)
  have h7 := hr 7 (by decide)
  clear hr
  go_enter Tryd.func14, Tryd.ntmps14
  go_wp2_with fail
  go_ret
  exact ⟨rfl, ⟨.slice none 0 0, blk_new w _, rfl, good_rts, txt_nil _⟩, below_alloc (Below.refl _ _) _⟩
set_option maxRecDepth 100000 in
theorem clone_calls (w : World) (A : Option Addr) (c : Nat) (l : List Int) (ht : Txt w (.slice A l.length c) l) :
    Calls Tryd.prog 32 #[.slice A l.length c] w fun e w' => ∃ v, e = .returned v ∧ Txt w' v l ∧ Below w.heap.size w w' := by
  obtain ⟨A', c', he, h1, h2, h3, h4⟩ := ht
  simp only [Value.slice.injEq, true_and] at he
  obtain ⟨rfl, rfl⟩ := he
  cases A with
  | none =>
    have hl : l = [] := by
      rcases Nat.eq_zero_or_pos l.length with h | h
      · exact List.length_eq_zero_iff.1 h
      · obtain ⟨ad, he, _⟩ := h2.2.2 h
        cases he
    subst hl
    have hnil := fun W : World => Lib.run_eql_slice_nil (P := Tryd.prog) W 22 5 none ([] : List Int).length c 0 0 Tryd.underlying22
    simp only [Option.isNone_none, List.length_nil] at hnil
    clear h2
    go_enter Tryd.func32, Tryd.ntmps32
    go_wp2_with fail
    go_ret
    exact ⟨_, rfl, txt_nil _, Below.refl _ _⟩
  | some ad =>
    have HC := Aside0.mk h2
    have HB0 := Aside0.mk (Below.refl w.heap.size w)
    have HL := Aside0.mk (show (([] : List Int).length + l.length) * 1 ≤ 140737488355328 by simp; omega)
    have hnil := fun W : World => Lib.run_eql_slice_nil (P := Tryd.prog) W 22 5 (some ad) l.length c 0 0 Tryd.underlying22
    simp only [Option.isNone_some] at hnil
    clear h2
    go_enter Tryd.func32, Tryd.ntmps32
    go_wp2_with (first | ((with_reducible refine gate_dst (N := 5) rfl ?_); refine Kd.R_lit (Kd.int .u8) (w0 := w) w.heap.size 5 ?hg (N := 5) ?hd (xs := ([] : List Int)) (inner := []) (ok := fun _ => True) (okp := fun _ => True) ?hr ?hp (fun _ hk => hk) trivial HB0.out HB0.out.size (by simp) ?_; (case hd => rfl); (case hg => rfl); (case hr => first | (go_simp; done) | (go_simp; rfl)); (case hp => exact (Reps.none _ _)); intro v1 w2 ho hb hg hn; have HO2 := Aside0.mk ho; have HB2 := Aside0.mk hb; clear ho hb hg hn; obtain ⟨A2, c2, rfl⟩ := Kd.R_slice HO2.out) | (at_builtin; refine Kd.R_append_rows (Kd.int .u8) (w0 := w) w.heap.size rfl (.tmp 5) (.tmp 6) 22 5 (.int .u8 0) 1 rfl Tryd.underlying22 info5 rfl (by decide) (by omega) (.slice A2 ([] : List Int).length c2) [] l _ _ _ (fun _ => True) (fun _ => False) rfl rfl ?aO ?aR (fun _ _ h => h) (fun _ h => h.elim) (fun _ _ => trivial) ?aB ?aS ?aL ?_; (case aO => exact HO2.out); (case aR => exact Kd.C_below HC.out HB2.out); (case aB => exact HB2.out); (case aS => exact HB2.out.size); (case aL => exact HL.out); intro v2 w3 ho hb hg hn; rw [List.nil_append] at ho; have HO3 := Aside0.mk ho; have HB3 := Aside0.mk hb; clear ho hb hg hn; obtain ⟨A3, c3, rfl⟩ := Kd.R_slice HO3.out))
    go_ret
    exact ⟨_, rfl, Txt.of_RB HO3.out h3 h4, HB3.out⟩
/-- What stands behind a text of n bytes. -/
def fillB (n : Nat) : List Int := (sha_filling.f 8 n).getD []
theorem fill_l0 : ∀ (m : Nat) (x4 : List Int) (x5 x6 : Int), 0 ≤ x6 → x6 < 256 ^ m → (m : Int) ≤ x5 + 1 → x5 < x4.length → x4.length ≤ 1000 → Bytes x4 → ∃ r, sha_filling.l0 (m + 1) x4 x5 x6 = some r ∧ r.length = x4.length ∧ Bytes r
  | 0, x4, x5, x6, h0, h1, _, _, _, hb => by
    refine ⟨x4, ?_, rfl, hb⟩
    unfold sha_filling.l0
    rw [if_neg (by simp at h1; omega)]
  | m + 1, x4, x5, x6, h0, h1, h2, h3, h4, hb => by
    by_cases hz : x6 > 0
    · obtain ⟨r, hr, hl, hbr⟩ := fill_l0 m (x4.set x5.toNat (x6 % 256)) (x5 - 1) (x6 / 256) (by omega) (by rw [Int.pow_succ] at h1; generalize (256 : Int) ^ m = q at h1 ⊢; omega) (by omega) (by rw [List.length_set]; omega) (by rw [List.length_set]; exact h4) (by
        intro x hx
        rcases List.mem_or_eq_of_mem_set hx with h | h
        · exact hb x h
        · subst h; omega)
      refine ⟨r, ?_, by rw [hl, List.length_set], hbr⟩
      rw [show sha_filling.l0 (m + 1 + 1) x4 x5 x6 = (if x6 > 0 then (if 0 ≤ x5 then (if x5 < (x4.length : Int) then (sha_filling.l0 (m + 1) (x4.set (x5 : Int).toNat ((x6) % 256)) (wrap64 (x5 - 1)) (x6 / 256)) else (none)) else (none)) else (some x4)) from rfl]
      rw [if_pos hz, if_pos (by omega), if_pos h3, show wrap64 (x5 - 1) = x5 - 1 by unfold wrap64; omega]
      exact hr
    · refine ⟨x4, ?_, rfl, hb⟩
      unfold sha_filling.l0
      rw [if_neg hz]
theorem pow7 (n : Nat) (hn : n ≤ 1000000000) : ((n * 8 : Nat) : Int) < 256 ^ 7 := by
  have : (256 : Int) ^ 7 = 72057594037927936 := by decide
  omega
theorem fill_f (n : Nat) (hn : n ≤ 1000000000) : sha_filling.f 8 n = some (fillB n) ∧ Bytes (fillB n) ∧ (fillB n).length ≤ 200 := by
  have hm : Int.tmod (n : Int) 64 = ((n % 64 : Nat) : Int) := by rw [Int.tmod_eq_emod_of_nonneg (by omega)]; omega
  have hw : wrap64 (119 - ((n % 64 : Nat) : Int)) = ((119 - n % 64 : Nat) : Int) := by unfold wrap64; omega
  have hm2 : Int.tmod ((119 - n % 64 : Nat) : Int) 64 = (((119 - n % 64) % 64 : Nat) : Int) := by rw [Int.tmod_eq_emod_of_nonneg (by omega)]; rfl
  obtain ⟨z, hz⟩ : ∃ z, z = (119 - n % 64) % 64 := ⟨_, rfl⟩
  have hz2 : z < 64 := by omega
  have hw2 : wrap64 (((z : Nat) : Int) + 8) = ((z + 8 : Nat) : Int) := by unfold wrap64; omega
  have hlen : (([128] : List Int) ++ List.replicate (z + 8) 0).length = z + 9 := by simp
  have hw3 : wrap64 (((z + 9 : Nat) : Int) - 1) = ((z + 8 : Nat) : Int) := by unfold wrap64; omega
  have hu : IntKind.u64.wrap (IntKind.u64.wrap (n : Int) * 8) = ((n * 8 : Nat) : Int) := by
    show ((n : Int) % 18446744073709551616 * 8) % 18446744073709551616 = _
    omega
  have hbz : Bytes (([128] : List Int) ++ List.replicate (z + 8) 0) := by
    intro x hx
    rcases List.mem_append.1 hx with h | h
    · have : x = 128 := by simpa using h
      omega
    · have := List.eq_of_mem_replicate h
      omega
  obtain ⟨r, hr, hl, hb⟩ := fill_l0 7 (([128] : List Int) ++ List.replicate (z + 8) 0) ((z + 8 : Nat) : Int) ((n * 8 : Nat) : Int) (by omega) (pow7 n hn) (by omega) (by rw [hlen]; omega) (by rw [hlen]; omega) hbz
  have hf : sha_filling.f 8 n = some r := by
    unfold sha_filling.f
    rw [hm, hw, hm2, ← hz, hw2]
    simp only [Option.bind_some]
    rw [if_pos (by omega), Int.toNat_natCast, if_pos (by simp; omega), hlen, hw3, hu]
    exact hr
  have hd : fillB n = r := by unfold fillB; rw [hf]; rfl
  rw [hd]
  exact ⟨hf, hb, by rw [hl, hlen]; omega⟩
theorem filling_calls (w : World) (n : Nat) (hn : n ≤ 1000000000) : Calls Tryd.prog 31 #[.int .i64 n] w fun e w' => ∃ v, e = .returned v ∧ Txt w' v (fillB n) ∧ Below w.heap.size w w' := by
  obtain ⟨h1, h2, h3⟩ := fill_f n hn
  refine (sha_filling.calls 8 n (fillB n) w h1).mono ?_
  rintro e w' ⟨v, rfl, hr, hb⟩
  obtain ⟨A, c, rfl⟩ := Kd.R_slice hr
  exact ⟨_, rfl, Txt.of_RB hr h2 (by omega), hb⟩
end Go.Proofs.YtjmgeelblodcgaaDoor.Sx
