import Derived.Test.YtjmgeelblodcgaaDoorEsM
import Derived.Test.YtjmgeelblodcgaaDoorRows
import Derived.Lib.LaidTab
import Derived.LaidMore
import Derived.Stop.LaidErr
/- What stays as it was; the walk of ShaCopies. -/
namespace Go.Proofs.YtjmgeelblodcgaaDoor.Sx
open Go.RowKit Go.Proofs.YtjmgeelblodcgaaDoorW.PrintWords Go.Proofs.YtjmgeelblodcgaaDoorW.PrintMore Go.Proofs.YtjmgeelblodcgaaDoor.Sh
set_option linter.unusedVariables false
set_option linter.unusedSimpArgs false
/-- What a law's walk leaves as it was: texts, the tables, all that lay. -/
structure Env (w W : World) (ts : List (Value × List Int)) : Prop where
  txt : ∀ t ∈ ts, Txt W t.1 t.2
  roots : Roots W
  cubes : Cubes W
  bel : Below w.heap.size w W
theorem Env.below {w W W' : World} {ts : List (Value × List Int)} (h : Env w W ts) (hb : Below W.heap.size W W') : Env w W' ts :=
  ⟨fun t ht => (h.txt t ht).below hb, h.roots.below hb, h.cubes.below hb, h.bel.trans (hb.mono h.bel.size)⟩
theorem Roots.gb {w W : World} {b : Nat} (h : Roots w) (hg : w.grownBy W (some b)) (hb : 1 ≠ b) : Roots W := fun k hk => gb_cell hg (h k hk) (by intro e; cases e; exact hb rfl)
theorem Env.gb {w W W' : World} {ts : List (Value × List Int)} {g : Nat} {l : List Int} (h : Env w W ts) (hf : Fed W g l) (hg : W.grownBy W' (some g)) (hge : w.heap.size ≤ g) (h2 : 2 < w.heap.size) : Env w W' ts :=
  ⟨fun t ht => (h.txt t ht).fed hf hg, h.roots.gb hg (by omega), h.cubes.gb hg (by omega), h.bel.trans (gb_to hg h.bel.size (fun k e => by cases e; exact hge))⟩
theorem psum2 {W : World} {v1 v2 : Value} {l1 l2 : List Int} (hr : Roots W) (hcu : Cubes W) (h1 : Txt W v1 l1) (h2 : Txt W v2 l2) (hl : l1.length + l2.length ≤ 900000) (b : Nat) (hb : b = W.heap.size) :
    Calls Tryd.prog 12 #[.slice (some ⟨b, 0, none⟩) 2 2] (W.alloc (.cells #[v1, v2] 22)) fun e w' => e = .returned (.agg (cellsB (hash (l1 ++ l2)))) ∧ Below W.heap.size W w' := by
  subst hb
  have hB := below_alloc (Below.refl W.heap.size W) (.cells #[v1, v2] 22)
  have hp := PartsOf.blk (vs := [v1, v2]) (ps := [l1, l2]) rfl (blk_new W (.cells #[v1, v2] 22)) (fun k hk => by
    have : k = 0 ∨ k = 1 := by simp at hk; omega
    rcases this with rfl | rfl
    · exact h1.below hB
    · exact h2.below hB)
  have hf : flat [l1, l2] [l1, l2].length = l1 ++ l2 := rfl
  refine (psum_calls _ (hr.below hB) (hcu.below hB) _ [l1, l2] 2 2 rfl (by simp) hp (by rw [hf, List.length_append]; exact hl)).mono ?_
  rintro e w' ⟨rfl, h⟩
  exact ⟨by rw [hf], hB.trans (h.mono hB.size)⟩
theorem psum1 {W : World} {v1 : Value} {l1 : List Int} (hr : Roots W) (hcu : Cubes W) (h1 : Txt W v1 l1) (hl : l1.length ≤ 900000) (b : Nat) (hb : b = W.heap.size) :
    Calls Tryd.prog 12 #[.slice (some ⟨b, 0, none⟩) 1 1] (W.alloc (.cells #[v1] 22)) fun e w' => e = .returned (.agg (cellsB (hash l1))) ∧ Below W.heap.size W w' := by
  subst hb
  have hB := below_alloc (Below.refl W.heap.size W) (.cells #[v1] 22)
  have hp := PartsOf.blk (vs := [v1]) (ps := [l1]) rfl (blk_new W (.cells #[v1] 22)) (fun k hk => by
    have : k = 0 := by simp at hk; omega
    subst this
    exact h1.below hB)
  have hf : flat [l1] [l1].length = l1 := rfl
  refine (psum_calls _ (hr.below hB) (hcu.below hB) _ [l1] 1 1 rfl (by simp) hp (by rw [hf]; exact hl)).mono ?_
  rintro e w' ⟨rfl, h⟩
  exact ⟨by rw [hf], hB.trans (h.mono hB.size)⟩
theorem psum0 (W : World) (hr : Roots W) (hcu : Cubes W) : Calls Tryd.prog 12 #[.slice none 0 0] W fun e w' => e = .returned (.agg (cellsB (hash []))) ∧ Below W.heap.size W w' :=
  psum_calls W hr hcu none [] 0 0 rfl (by decide) (fun k hk => absurd hk (by simp)) (by decide)
set_option maxRecDepth 100000 in
set_option maxHeartbeats 2000000 in
theorem shaCopies_main (w : World) (hr : Roots w) (hcu : Cubes w) (A0 : Option Addr) (c0 : Nat) (l0 : List Int) (A1 : Option Addr) (c1 : Nat) (l1 : List Int) (A2 : Option Addr) (c2 : Nat) (l2 : List Int)
    (t0 : Txt w (.slice A0 l0.length c0) l0) (t1 : Txt w (.slice A1 l1.length c1) l1) (t2 : Txt w (.slice A2 l2.length c2) l2) (h0 : l0.length ≤ 300) (h1 : l1.length ≤ 300) (h2 : l2.length ≤ 300) :
    Calls Tryd.prog 5 #[.slice A0 l0.length c0, .slice A1 l1.length c1, .slice A2 l2.length c2] w (Yes w) := by
  have E := Aside0.mk (⟨fun t ht => by
    simp only [List.mem_cons, List.not_mem_nil, or_false] at ht
    rcases ht with rfl | rfl | rfl
    · exact t0
    · exact t1
    · exact t2, hr, hcu, Below.refl _ _⟩ : Env w w [(.slice A0 l0.length c0, l0), (.slice A1 l1.length c1, l1), (.slice A2 l2.length c2, l2)])
  have h2w : 2 < w.heap.size := cell_lt (hcu 0 (by decide))
  have n0 : decide ((300 : Int) < (l0.length : Int)) = false := by simp; omega
  have n1 : decide ((300 : Int) < (l1.length : Int)) = false := by simp; omega
  have n2 : decide ((300 : Int) < (l2.length : Int)) = false := by simp; omega
  clear hr hcu t0 t1 t2
  go_enter Tryd.func5, Tryd.ntmps5
  go_wp2_with fail
  refine (alive_calls w E.out.roots E.out.cubes).mono ?_
  rintro e w1 ⟨rfl, hb⟩
  have E1 := Aside0.mk (E.out.below hb)
  clear hb E
  go_wp2_with fail
  refine (fed_begin w1 E1.out.roots).mono ?_
  rintro e w2 ⟨rfl, hf, hb⟩
  obtain ⟨g, hge⟩ : ∃ g, g = w1.heap.size := ⟨_, rfl⟩
  rw [← hge] at hf ⊢
  have hgw : w.heap.size ≤ g := by rw [hge]; exact E1.out.bel.size
  have E2 := Aside0.mk (E1.out.below hb)
  have F2 := Aside0.mk hf
  clear hb hf hge E1
  go_wp2_with fail
  have H2 := Aside0.mk (fed_add w2 g [] F2.out E2.out.cubes (by omega) A0 c0 l0 (E2.out.txt (.slice A0 l0.length c0, l0) (by simp)) (by simp; omega))
  refine H2.out.mono ?_
  rintro e w3 ⟨⟨u3, rfl⟩, hg, hf, _⟩
  have E3 := Aside0.mk (E2.out.gb F2.out hg hgw h2w)
  have F3 := Aside0.mk (show Fed w3 g l0 from hf)
  clear hg hf H2 E2 F2
  go_wp2_with fail
  refine (fed_copy w3 g l0 F3.out).mono ?_
  rintro e w4 ⟨d, rfl, hd, hf, hb⟩
  have hdw : w.heap.size ≤ d := Nat.le_trans E3.out.bel.size hd
  have hgd : g ≠ d := by have := F3.out.lt; omega
  have E4 := Aside0.mk (E3.out.below hb)
  have F4 := Aside0.mk (F3.out.below hb)
  have D4 := Aside0.mk hf
  clear hf hb E3 F3 hd
  go_wp2_with fail
  have H4 := Aside0.mk (fed_add w4 d l0 D4.out E4.out.cubes (by omega) A1 c1 l1 (E4.out.txt (.slice A1 l1.length c1, l1) (by simp)) (by omega))
  refine H4.out.mono ?_
  rintro e w5 ⟨⟨u5, rfl⟩, hg, hf, _⟩
  have E5 := Aside0.mk (E4.out.gb D4.out hg hdw h2w)
  have F5 := Aside0.mk (F4.out.keep D4.out hgd hg)
  have D5 := Aside0.mk hf
  clear hg hf H4 E4 F4 D4
  go_wp2_with fail
  have H5 := Aside0.mk (fed_add w5 g l0 F5.out E5.out.cubes (by omega) A2 c2 l2 (E5.out.txt (.slice A2 l2.length c2, l2) (by simp)) (by omega))
  refine H5.out.mono ?_
  rintro e w6 ⟨⟨u6, rfl⟩, hg, hf, _⟩
  have E6 := Aside0.mk (E5.out.gb F5.out hg hgw h2w)
  have D6 := Aside0.mk (D5.out.keep F5.out (Ne.symm hgd) hg)
  have F6 := Aside0.mk hf
  clear hg hf H5 E5 F5 D5
  go_wp2_with fail
  refine (nil_add w6 _).mono ?_
  rintro e w7 ⟨⟨u7, rfl⟩, rfl⟩
  go_wp2_with fail
  refine (fed_sum w7 d _ D6.out E6.out.cubes (by rw [List.length_append]; omega)).mono ?_
  rintro e w8 ⟨rfl, hb⟩
  have E8 := Aside0.mk (E6.out.below hb)
  have F8 := Aside0.mk (F6.out.below hb)
  clear hb E6 F6 D6
  go_wp2_with fail
  refine (psum2 E8.out.roots E8.out.cubes (E8.out.txt (.slice A0 l0.length c0, l0) (by simp)) (E8.out.txt (.slice A1 l1.length c1, l1) (by simp)) (show l0.length + l1.length ≤ 900000 by omega) _ rfl).mono ?_
  rintro e w9 ⟨rfl, hb⟩
  have E9 := Aside0.mk (E8.out.below hb)
  have F9 := Aside0.mk (F8.out.below hb)
  clear hb E8 F8
  have q1 := eqHash (l0 ++ l1)
  obtain ⟨d1, hd1⟩ : ∃ x, x = cellsB (hash (l0 ++ l1)) := ⟨_, rfl⟩
  rw [← hd1] at q1 ⊢
  clear hd1
  go_wp2_with fail
  refine (fed_sum w9 g _ F9.out E9.out.cubes (by rw [List.length_append]; omega)).mono ?_
  rintro e w10 ⟨rfl, hb⟩
  have E10 := Aside0.mk (E9.out.below hb)
  clear hb E9 F9
  go_wp2_with fail
  refine (psum2 E10.out.roots E10.out.cubes (E10.out.txt (.slice A0 l0.length c0, l0) (by simp)) (E10.out.txt (.slice A2 l2.length c2, l2) (by simp)) (show l0.length + l2.length ≤ 900000 by omega) _ rfl).mono ?_
  rintro e w11 ⟨rfl, hb⟩
  have E11 := Aside0.mk (E10.out.below hb)
  clear hb E10
  have q2 := eqHash (l0 ++ l2)
  obtain ⟨d2, hd2⟩ : ∃ x, x = cellsB (hash (l0 ++ l2)) := ⟨_, rfl⟩
  rw [← hd2] at q2 ⊢
  clear hd2
  go_wp2_with fail
  refine (nil_sum w11 E11.out.roots E11.out.cubes).mono ?_
  rintro e w12 ⟨rfl, hb⟩
  have E12 := Aside0.mk (E11.out.below hb)
  clear hb E11
  go_wp2_with fail
  refine (psum0 w12 E12.out.roots E12.out.cubes).mono ?_
  rintro e w13 ⟨rfl, hb⟩
  have E13 := Aside0.mk (E12.out.below hb)
  clear hb E12
  have q3 := eqHash []
  obtain ⟨d3, hd3⟩ : ∃ x, x = cellsB (hash []) := ⟨_, rfl⟩
  rw [← hd3] at q3 ⊢
  clear hd3
  go_wp2_with fail
  refine (copy_nil w13).mono ?_
  rintro e w14 ⟨rfl, rfl⟩
  go_wp2_with fail
  go_ret
  exact ⟨rfl, E13.out.bel⟩
set_option maxRecDepth 100000 in
theorem shaCopies_long (w : World) (hr : Roots w) (hcu : Cubes w) (A0 : Option Addr) (c0 : Nat) (l0 : List Int) (A1 : Option Addr) (c1 : Nat) (l1 : List Int) (A2 : Option Addr) (c2 : Nat) (l2 : List Int) (h : 300 < l0.length ∨ 300 < l1.length ∨ 300 < l2.length) :
    Calls Tryd.prog 5 #[.slice A0 l0.length c0, .slice A1 l1.length c1, .slice A2 l2.length c2] w (Yes w) := by
  have HA := Aside0.mk (alive_calls w hr hcu)
  clear hr hcu
  by_cases h0 : 300 < l0.length
  · have n0 : decide ((300 : Int) < (l0.length : Int)) = true := by simp; omega
    clear h
    go_enter Tryd.func5, Tryd.ntmps5
    go_wp2_with fail
    refine HA.out.mono ?_
    rintro e w1 ⟨rfl, hb⟩
    have HB := Aside0.mk hb
    clear hb
    go_wp2_with fail
    go_ret
    exact ⟨rfl, HB.out⟩
  · have n0 : decide ((300 : Int) < (l0.length : Int)) = false := by simp; omega
    by_cases h1 : 300 < l1.length
    · have n1 : decide ((300 : Int) < (l1.length : Int)) = true := by simp; omega
      clear h
      go_enter Tryd.func5, Tryd.ntmps5
      go_wp2_with fail
      refine HA.out.mono ?_
      rintro e w1 ⟨rfl, hb⟩
      have HB := Aside0.mk hb
      clear hb
      go_wp2_with fail
      go_ret
      exact ⟨rfl, HB.out⟩
    · have n1 : decide ((300 : Int) < (l1.length : Int)) = false := by simp; omega
      have n2 : decide ((300 : Int) < (l2.length : Int)) = true := by simp; omega
      clear h
      go_enter Tryd.func5, Tryd.ntmps5
      go_wp2_with fail
      refine HA.out.mono ?_
      rintro e w1 ⟨rfl, hb⟩
      have HB := Aside0.mk hb
      clear hb
      go_wp2_with fail
      go_ret
      exact ⟨rfl, HB.out⟩
theorem glob_roots : Tryd.prog.globalNamed "weftline/sha.roots" = some 1 := by kernel_rfl
theorem glob_cubes : Tryd.prog.globalNamed "weftline/sha.cubes" = some 2 := by kernel_rfl
theorem roots_of {W : World} {rest : List (String × DataW Unit)} (h : laidMet Tryd.prog (("weftline/sha.roots", Rows.laid_weftline_sha_roots) :: rest) W) : Roots W := by
  have ht : Lib.TabIs Tryd.prog W "weftline/sha.roots" .u32 (rts.map Int.ofNat) :=
    Lib.tabIs_of_head (P := Tryd.prog) (t := 57) (e := 45) (n := 8) (rest := rest) glob_roots (by kernel_rfl) Tryd.underlying57 Tryd.underlying45 (by kernel_rfl) (by kernel_rfl) h
  intro k hk
  rw [ht.cell glob_roots k (by rw [List.length_map]; exact hk)]
  have : ∀ j : Fin 8, (rts.map Int.ofNat).getD j.1 0 = (mr rts j.1 : Int) := by decide
  rw [this ⟨k, hk⟩]
theorem cubes_of {W : World} {rest : List (String × DataW Unit)} (h : laidMet Tryd.prog (("weftline/sha.cubes", Rows.laid_weftline_sha_cubes) :: rest) W) : Cubes W := by
  have ht : Lib.TabIs Tryd.prog W "weftline/sha.cubes" .u32 (cub.map Int.ofNat) :=
    Lib.tabIs_of_head (P := Tryd.prog) (t := 56) (e := 45) (n := 64) (rest := rest) glob_cubes (by kernel_rfl) Tryd.underlying56 Tryd.underlying45 (by kernel_rfl) (by kernel_rfl) h
  intro k hk
  rw [ht.cell glob_cubes k (by rw [List.length_map]; exact hk)]
  have : ∀ j : Fin 64, (cub.map Int.ofNat).getD j.1 0 = (kub j.1 : Int) := by decide
  rw [this ⟨k, hk⟩]
theorem tabs_of {W : World} (h : laidMetH Tryd.prog [("weftline/sha.roots", Rows.laid_weftline_sha_roots), ("weftline/sha.cubes", Rows.laid_weftline_sha_cubes)] W) : Roots W ∧ Cubes W := by
  rw [MakeChecks.laidMetH_plain _ _ _ (by kernel_rfl)] at h
  exact ⟨roots_of h, cubes_of h.tail⟩
theorem bytes_of_wf {l : List Int} (h : ∀ z ∈ l, (Lit.int .u8 z).wf = true) : Bytes l := fun z hz => by
  have := h z hz
  simp [Lit.wf, IntKind.min, IntKind.max] at this
  simp [IntKind.signed, IntKind.bits] at this
  omega
theorem shaCopies_walk (W : World) (A0 : Option Addr) (c0 : Nat) (l0 : (List Int)) (A1 : Option Addr) (c1 : Nat) (l1 : (List Int)) (A2 : Option Addr) (c2 : Nat) (l2 : (List Int)) (hc0 : l0.length ≤ c0) (hr0 : Kd.C (Kd.int .u8) W A0 l0.length l0) (w0 : (∀ zl0 ∈ l0, (Lit.int .u8 zl0).wf = true)) (hc1 : l1.length ≤ c1) (hr1 : Kd.C (Kd.int .u8) W A1 l1.length l1) (w1 : (∀ zl1 ∈ l1, (Lit.int .u8 zl1).wf = true)) (hc2 : l2.length ≤ c2) (hr2 : Kd.C (Kd.int .u8) W A2 l2.length l2) (w2 : (∀ zl2 ∈ l2, (Lit.int .u8 zl2).wf = true)) (hL : laidMetH Tryd.prog [("weftline/sha.roots", Rows.laid_weftline_sha_roots), ("weftline/sha.cubes", Rows.laid_weftline_sha_cubes)] W) :
    Calls Tryd.prog 5 #[.slice A0 l0.length c0, .slice A1 l1.length c1, .slice A2 l2.length c2] W fun e w' => e = .returned (.bool true) ∧ Below W.heap.size W w' := by
  obtain ⟨hr, hcu⟩ := tabs_of hL
  by_cases h : 300 < l0.length ∨ 300 < l1.length ∨ 300 < l2.length
  · exact shaCopies_long W hr hcu A0 c0 l0 A1 c1 l1 A2 c2 l2 h
  · exact shaCopies_main W hr hcu A0 c0 l0 A1 c1 l1 A2 c2 l2 ⟨A0, c0, rfl, hc0, hr0, bytes_of_wf w0, by omega⟩ ⟨A1, c1, rfl, hc1, hr1, bytes_of_wf w1, by omega⟩ ⟨A2, c2, rfl, hc2, hr2, bytes_of_wf w2, by omega⟩ (by omega) (by omega) (by omega)
end Go.Proofs.YtjmgeelblodcgaaDoor.Sx
